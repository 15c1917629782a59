import Derived.Test.YtccidiflnmchiaaT4
namespace Go.Proofs.Ytccidiflnmchiaa
open Go.RowKit

def evenAt (top bottom : List Int) (n : Int) (i c : Nat) : Int := nth top c + (i : Int) * (nth bottom c - nth top c) / (n - 1)
def evenRow (top bottom : List Int) (n : Int) (i k : Nat) : List Int := (List.range k).map (evenAt top bottom n i)
def evenRows (top bottom : List Int) (n : Int) (m : Nat) : List (List Int) := (List.range m).map fun i => evenRow top bottom n i top.length
def betweenErr (s : Sheet) (top bottom : List Int) (n : Int) : Int :=
  if curvesErr s top bottom = 0 then (if withinB n 2 12 then (if fitTo s top bottom bottom.length < n then 71 else 0) else 2) else curvesErr s top bottom
def betweenF (s : Sheet) (top bottom : List Int) (n : Int) : List (List Int) := if betweenErr s top bottom n = 0 then evenRows top bottom n n.toNat else []

/-- What is known of the rows that are being made: 'i' of them are done, the rest is nil. -/
def EvenRel (top bottom : List Int) (n : Int) (m i : Nat) (cs : Array Value) (b0 : Nat) (w : World) : Prop :=
  cs.size = m ∧ (∀ j, j < i → ∃ v, cs[j]? = some v ∧ w.ownsRow (b0 + 1) 3 1 v top.length ((evenRow top bottom n j top.length).map (Value.int .i64))) ∧
  (∀ j, i ≤ j → j < m → cs[j]? = some (.slice none 0 0))

set_option maxRecDepth 100000 in
set_option maxHeartbeats 1600000 in
theorem between_c (s : Sheet) (A A' : Option Addr) (c c' : Nat) (top bottom : List Int) (n : Int) (w : World) (h : Arr w w.heap.size A c top) (h' : Arr w w.heap.size A' c' bottom) :
    Calls Try.prog 17 #[.agg #[.int .i64 s.cols, .int .i64 s.rows, .int .i64 s.weight, .int .i64 s.clear, .int .i64 s.lean], .slice A top.length c, .slice A' bottom.length c', .int .i64 n] w fun e w' => Ext w w' ∧ ∃ B d, e = .returned (.tuple #[.slice B (betweenF s top bottom n).length d, .int .i64 (betweenErr s top bottom n)]) ∧ Arr w' w'.heap.size B d (betweenF s top bottom n) := by
  have hle := h.le
  have hle' := h'.le
  by_cases he : curvesErr s top bottom = 0
  · obtain ⟨hs, h1, h2, h3⟩ := curves_ok he
    have hm : betweenErr s top bottom n = if withinB n 2 12 then (if fitTo s top bottom bottom.length < n then 71 else 0) else 2 := by unfold betweenErr; rw [if_pos he]
    have Hm : Hid _ := hm
    clear hm
    have H1 : Hid _ := h1
    have H2 : Hid _ := h2
    have H3 : Hid _ := h3
    have He : Hid _ := he
    clear h1 h2 h3 he
    cases hw : withinB n 2 12
    · have e1 : betweenErr s top bottom n = 2 := by rw [Hm.out, if_neg (by rw [hw]; decide)]
      have e0 : betweenF s top bottom n = [] := by unfold betweenF; rw [if_neg (by rw [e1]; decide)]
      rw [e0, e1]
      have he := He.out
      clear e0 e1
      go_enter Try.func17, Try.ntmps17
      go_wp2_with fail
      refine (curves_c s A A' c c' top bottom _ (h.up (by repeat (first | exact Ext.refl _ | refine Ext.plus ?_ _ | refine Ext.alloc ?_ _ | refine Ext.drew ?_ | refine Ext.drewN ?_ _))) (h'.up (by repeat (first | exact Ext.refl _ | refine Ext.plus ?_ _ | refine Ext.alloc ?_ _ | refine Ext.drew ?_ | refine Ext.drewN ?_ _)))).mono ?_
      rintro e w1 ⟨rfl, g1, rfl⟩
      go_wp2_with fail
      refine (within_c _ _ _ _).mono ?_
      rintro e w1 ⟨rfl, rfl⟩
      go_wp2
      go_ret2
      exact ⟨(by repeat (first | exact Ext.refl _ | refine Ext.plus ?_ _ | refine Ext.alloc ?_ _ | refine Ext.drew ?_ | refine Ext.drewN ?_ _)), none, 0, rfl, Arr.nil _ _⟩
    · have hn := hw
      simp only [withinB, Bool.and_eq_true, decide_eq_true_eq] at hn
      obtain ⟨hn1, hn2⟩ := hn
      by_cases hf : fitTo s top bottom bottom.length < n
      · have e1 : betweenErr s top bottom n = 71 := by rw [Hm.out, if_pos hw, if_pos hf]
        have e0 : betweenF s top bottom n = [] := by unfold betweenF; rw [if_neg (by rw [e1]; decide)]
        rw [e0, e1]
        have he := He.out
        clear e0 e1
        go_enter Try.func17, Try.ntmps17
        go_wp2_with fail
        refine (curves_c s A A' c c' top bottom _ (h.up (by repeat (first | exact Ext.refl _ | refine Ext.plus ?_ _ | refine Ext.alloc ?_ _ | refine Ext.drew ?_ | refine Ext.drewN ?_ _))) (h'.up (by repeat (first | exact Ext.refl _ | refine Ext.plus ?_ _ | refine Ext.alloc ?_ _ | refine Ext.drew ?_ | refine Ext.drewN ?_ _)))).mono ?_
        rintro e w1 ⟨rfl, g1, rfl⟩
        go_wp2_with fail
        refine (within_c _ _ _ _).mono ?_
        rintro e w1 ⟨rfl, rfl⟩
        go_wp2_with fail
        clear he
        refine (fit_c s hs A A' c c' top bottom _ (h.up (by repeat (first | exact Ext.refl _ | refine Ext.plus ?_ _ | refine Ext.alloc ?_ _ | refine Ext.drew ?_ | refine Ext.drewN ?_ _))) (h'.up (by repeat (first | exact Ext.refl _ | refine Ext.plus ?_ _ | refine Ext.alloc ?_ _ | refine Ext.drew ?_ | refine Ext.drewN ?_ _))) H1.out H2.out H3.out).mono ?_
        rintro e w1 ⟨rfl, g2, rfl⟩
        go_wp2
        go_ret2
        exact ⟨(by repeat (first | exact Ext.refl _ | refine Ext.plus ?_ _ | refine Ext.alloc ?_ _ | refine Ext.drew ?_ | refine Ext.drewN ?_ _)), none, 0, rfl, Arr.nil _ _⟩
      · have e1 : betweenErr s top bottom n = 0 := by rw [Hm.out, if_pos hw, if_neg hf]
        have e0 : betweenF s top bottom n = evenRows top bottom n n.toNat := by unfold betweenF; rw [if_pos e1]
        rw [e0, e1]
        have he := He.out
        clear e0 e1 Hm
        obtain ⟨m, rfl⟩ := Int.eq_ofNat_of_zero_le (show 0 ≤ n by omega)
        obtain ⟨i0, hi0, hz0, hz1, hz2⟩ := info_parts info_int
        obtain ⟨i1, hi1, hy0, hy1, hy2⟩ := info_parts info_ints
        have hmk := make_at (P := Try.prog) 26 24 i1 (.slice none 0 0) 24 (by kernel_rfl) hi1 hy0 rfl hy1 hy2 (by omega) m (by omega)
        go_enter Try.func17, Try.ntmps17
        go_wp2_with fail
        refine (curves_c s A A' c c' top bottom _ (h.up (by repeat (first | exact Ext.refl _ | refine Ext.plus ?_ _ | refine Ext.alloc ?_ _ | refine Ext.drew ?_ | refine Ext.drewN ?_ _))) (h'.up (by repeat (first | exact Ext.refl _ | refine Ext.plus ?_ _ | refine Ext.alloc ?_ _ | refine Ext.drew ?_ | refine Ext.drewN ?_ _)))).mono ?_
        rintro e w1 ⟨rfl, g1, rfl⟩
        go_wp2_with fail
        refine (within_c _ _ _ _).mono ?_
        rintro e w1 ⟨rfl, rfl⟩
        go_wp2_with fail
        clear he
        refine (fit_c s hs A A' c c' top bottom _ (h.up (by repeat (first | exact Ext.refl _ | refine Ext.plus ?_ _ | refine Ext.alloc ?_ _ | refine Ext.drew ?_ | refine Ext.drewN ?_ _))) (h'.up (by repeat (first | exact Ext.refl _ | refine Ext.plus ?_ _ | refine Ext.alloc ?_ _ | refine Ext.drew ?_ | refine Ext.drewN ?_ _))) H1.out H2.out H3.out).mono ?_
        rintro e w1 ⟨rfl, hx⟩
        obtain ⟨g, rfl⟩ : Ext (w.alloc (.cells #[.int .i64 s.cols, .int .i64 s.rows, .int .i64 s.weight, .int .i64 s.clear, .int .i64 s.lean] 23)) w1 := Ext.trans (by repeat (first | exact Ext.refl _ | refine Ext.plus ?_ _ | refine Ext.alloc ?_ _ | refine Ext.drew ?_ | refine Ext.drewN ?_ _)) hx
        clear hx hw
        have hf' : fitTo s top bottom bottom.length ≥ (m : Int) := by omega
        have HT := isLine_at H1.out
        have HB := isLine_at H2.out
        have HG := geB_at H3.out
        have HL : Hid (top.length = bottom.length) := by show _ = _; have := isLine_len H1.out; have := isLine_len H2.out; omega
        have HT : Hid _ := HT
        have HB : Hid _ := HB
        have HG : Hid _ := HG
        have HC : Hid (top.length ≤ 40) := by show _ ≤ _; have := isLine_len H1.out; have := Sheet.bounds hs; omega
        go_wp2
        go_loopw [35] (fun t wr => ∃ (i : Nat) (cs : Array Value), i ≤ m ∧ t = .int .i64 i ∧ Ext ((more (w.alloc (.cells #[.int .i64 s.cols, .int .i64 s.rows, .int .i64 s.weight, .int .i64 s.clear, .int .i64 s.lean] 23)) g).alloc (.cells cs 24)) wr ∧ Hid (EvenRel top bottom m m i cs (w.heap.size + 1 + g.count) wr)) (fun t _ => m - (intOf t).toNat)
        case atStart => exact ⟨0, _, by omega, rfl, (by repeat (first | exact Ext.refl _ | refine Ext.plus ?_ _ | refine Ext.alloc ?_ _ | refine Ext.drew ?_ | refine Ext.drewN ?_ _)), by simp [fills_size], fun j hj => by omega, fun j _ hj => fills_at _ _ _ hj⟩
        case round =>
          obtain ⟨i, cs, hi, rfl, ⟨gi, rfl⟩, H⟩ := hrel
          by_cases hlt : i < m
          · have hq : cs.size = m := H.out.1
            have hci := H.out.2.2 i (Nat.le_refl _) hlt
            have HCI : Hid _ := hci
            have HQ : Hid _ := hq
            clear hci hq
            go_wp2
            go_loopw [40] (fun t wr => ∃ (k : Nat) (v : Value) (cs' : Array Value), k ≤ top.length ∧ t = .int .i64 k ∧ Ext (more ((more (w.alloc (.cells #[.int .i64 s.cols, .int .i64 s.rows, .int .i64 s.weight, .int .i64 s.clear, .int .i64 s.lean] 23)) g).alloc (.cells cs' 24)) gi) wr ∧
              Hid (cs'.size = m ∧ cs'[i]? = some v ∧ (∀ j, j ≠ i → cs'[j]? = cs[j]?) ∧ wr.ownsRow (w.heap.size + 1 + g.count + 1 + gi.count) 3 1 v k ((evenRow top bottom m i k).map (Value.int .i64)))) (fun t _ => top.length - (intOf t).toNat)
            case atStart => exact ⟨0, _, cs, by omega, rfl, (by repeat (first | exact Ext.refl _ | refine Ext.plus ?_ _ | refine Ext.alloc ?_ _ | refine Ext.drew ?_ | refine Ext.drewN ?_ _)), HQ.out, HCI.out, fun _ _ => rfl, World.ownsRow_nil _ _ _ _⟩
            case round =>
              obtain ⟨k, v, cs', hk, rfl, ⟨gk, rfl⟩, HK⟩ := hrel
              by_cases hlk : k < top.length
              · have hlk' : k < bottom.length := by rw [← HL.out]; exact hlk
                obtain ⟨b', off', rfl, hb', hc'⟩ := h'.int (by omega)
                obtain ⟨b, off, rfl, hb, hc⟩ := h.int (by omega)
                have hck := hc k hlk
                have hck' := hc' k hlk'
                clear hc hc'
                have := HT.out k hlk
                have := HB.out k hlk'
                have := HG.out k hlk'
                obtain ⟨_, _, _, _, _, _, _, _, _, _⟩ := Sheet.bounds hs
                have hm1 : 0 ≤ (i : Int) * (nth bottom k - nth top k) := Int.mul_nonneg (by omega) (by omega)
                have hm2 : (i : Int) * (nth bottom k - nth top k) ≤ 12 * 60 := Int.mul_le_mul (by omega) (by omega) (by omega) (by omega)
                have hd1 : 0 ≤ (i : Int) * (nth bottom k - nth top k) / ((m : Int) - 1) := Int.ediv_nonneg hm1 (by omega)
                have hd2 : (i : Int) * (nth bottom k - nth top k) / ((m : Int) - 1) ≤ 12 * 60 := Int.le_trans (Int.ediv_le_self _ hm1) hm2
                have hcs := HK.out.2.1
                go_wp2
                (refine region_mix1 false [([0, 1, 2, 3, 4, 5, 6, 7, 8, 9, 10, 11, 12, 13, 14, 15, 16, 17, 18], 19), ([], 20), ([21], 22)] (by kernel_rfl) (by kernel_rfl) ?_; simp only [segs, opAt, List.map_cons, List.map_nil, wpMix]; (repeat (first | go_big_quiet_skip | (go_big_quiet_want; go_big_quiet_op; go_big_quiet_on))); refine wpQuiet_nil ?_)
                go_wp2_with fail
                (refine ⟨.inr (show Ext _ _ from (by repeat (first | exact Ext.refl _ | refine Ext.plus ?_ _ | refine Ext.alloc ?_ _ | refine Ext.drew ?_ | refine Ext.drewN ?_ _))), ?_⟩; (repeat (first | go_big_quiet_skip | (go_big_quiet_want; go_big_quiet_op; go_big_quiet_on))); refine wpQuiet_nil ?_)
                (refine app1 rfl (.tmp 50) (.tmp 64) _ rfl 3 i0 _ 8 (by kernel_rfl) hi0 hz0 hz1 hz2 rfl _ _ _ rfl (.int .i64 _) ?_ (w.heap.size + 1 + g.count + 1 + gi.count) (HK.out.2.2.2) ?_ ?_ rfl (by unfold maxLen; have := HC.out; omega) (by have := HC.out; omega) ?_; (focus exact congrArg (fun b => Value.slice (some ⟨b, 0, none⟩) 1 1) (by simp [go_sem])); (focus (simp [go_sem]; done)); (focus (simp [go_sem]; done)); intro gb cap' g' hown' hkeep')
                simp only [Act.put, List.setIfInBounds_toArray, List.set_cons_succ, List.set_cons_zero]
                (refine ⟨.inr (show Ext _ _ from (by repeat (first | exact Ext.refl _ | refine Ext.plus ?_ _ | refine Ext.alloc ?_ _ | refine Ext.drew ?_ | refine Ext.drewN ?_ _))), ?_⟩; (repeat (first | go_big_quiet_skip | (go_big_quiet_want; go_big_quiet_op; go_big_quiet_on))); refine wpQuiet_nil ?_)
                go_wp2_with fail
                refine ⟨(by first | exact .inl trivial | exact .inl ⟨rfl, rfl⟩ | exact .inl ⟨trivial, trivial⟩ | exact .inr (show Ext _ _ from (by repeat (first | exact Ext.refl _ | refine Ext.plus ?_ _ | refine Ext.alloc ?_ _ | refine Ext.drew ?_ | refine Ext.drewN ?_ _)))), NoPanic.normal ?_⟩
                go_wp2
                go_roundw
                case rel =>
                  obtain ⟨q1, q2, q3, q4⟩ := HK.out
                  refine ⟨k + 1, .slice (some ⟨gb, 0, none⟩) (k + 1) cap', cs'.setIfInBounds i (.slice (some ⟨gb, 0, none⟩) (k + 1) cap'), by omega, by go_num, (by repeat (first | exact Ext.refl _ | refine Ext.plus ?_ _ | refine Ext.alloc ?_ _ | refine Ext.drew ?_ | refine Ext.drewN ?_ _)), ?_, ?_, ?_, own_swap2 (o := .cells cs' 24) ?_ (by simp [go_sem])⟩
                  · simp [q1]
                  · exact Array.getElem?_setIfInBounds_self_of_lt (by omega)
                  · intro j hj; rw [Array.getElem?_setIfInBounds_ne (Ne.symm hj)]; exact q3 j hj
                  · have e : evenRow top bottom m i (k + 1) = evenRow top bottom m i k ++ [evenAt top bottom m i k] := by simp [evenRow, List.range_succ]
                    rw [e, List.map_append]
                    exact hown'
                case measure => simp [intOf]; omega
              · obtain rfl : k = top.length := by omega
                go_wp2
                go_roundw
                case rel =>
                  obtain ⟨q1, q2, q3, q4⟩ := HK.out
                  obtain ⟨r1, r2, r3⟩ := H.out
                  refine ⟨i + 1, cs', by omega, by go_num, (by repeat (first | exact Ext.refl _ | refine Ext.plus ?_ _ | refine Ext.alloc ?_ _ | refine Ext.drew ?_ | refine Ext.drewN ?_ _)), q1, fun j hj => ?_, fun j hj hj' => ?_⟩
                  · by_cases hji : j = i
                    · subst hji; exact ⟨v, q2, own_base q4 (by omega)⟩
                    · obtain ⟨u, u1, u2⟩ := r2 j (by omega)
                      exact ⟨u, by rw [q3 j hji]; exact u1, own_ext (own_swap u2 (by simp [go_sem])) (by repeat (first | exact Ext.refl _ | refine Ext.plus ?_ _ | refine Ext.alloc ?_ _ | refine Ext.drew ?_ | refine Ext.drewN ?_ _))⟩
                  · rw [q3 j (by omega)]; exact r3 j (by omega) hj'
                case measure => simp [intOf]; omega
          · obtain rfl : i = m := by omega
            go_wp2
            go_ret2
            have hlen : (evenRows top bottom i i).length = i := by simp [evenRows]
            refine ⟨(by repeat (first | exact Ext.refl _ | refine Ext.plus ?_ _ | refine Ext.alloc ?_ _ | refine Ext.drew ?_ | refine Ext.drewN ?_ _)), some ⟨w.heap.size + 1 + g.count, 0, none⟩, i, by rw [Int.toNat_natCast, hlen]; rfl, ?_⟩
            obtain ⟨r1, r2, r3⟩ := H.out
            rw [Int.toNat_natCast]
            refine arr_rows (cs := cs) (t := 24) ?_ hlen (by unfold maxLen; omega) fun j x hx => ?_
            · rw [show w.heap.size + 1 + g.count = (more (w.alloc (.cells #[.int .i64 s.cols, .int .i64 s.rows, .int .i64 s.weight, .int .i64 s.clear, .int .i64 s.lean] 23)) g).heap.size from by simp [go_sem]]
              exact heap_last
            · have hj : j < i := by
                rcases Nat.lt_or_ge j (evenRows top bottom i i).length with h | h
                · omega
                · rw [List.getElem?_eq_none h] at hx; cases hx
              obtain ⟨v, v1, v2⟩ := r2 j hj
              have hx' : x = evenRow top bottom i j top.length := by
                simp [evenRows, hj] at hx; exact hx.symm
              have hxl : x.length = top.length := by rw [hx']; simp [evenRow]
              rw [← hx', ← hxl] at v2
              obtain ⟨B, d, rfl, hB⟩ := own_ints v2
              exact ⟨B, d, v1, hB⟩
  · have e1 : betweenErr s top bottom n = curvesErr s top bottom := by unfold betweenErr; rw [if_neg he]
    have e0 : betweenF s top bottom n = [] := by unfold betweenF; rw [if_neg (by rw [e1]; exact he)]
    rw [e0, e1]
    clear e0 e1
    go_enter Try.func17, Try.ntmps17
    go_wp2_with fail
    refine (curves_c s A A' c c' top bottom _ (h.up (by repeat (first | exact Ext.refl _ | refine Ext.plus ?_ _ | refine Ext.alloc ?_ _ | refine Ext.drew ?_ | refine Ext.drewN ?_ _))) (h'.up (by repeat (first | exact Ext.refl _ | refine Ext.plus ?_ _ | refine Ext.alloc ?_ _ | refine Ext.drew ?_ | refine Ext.drewN ?_ _)))).mono ?_
    rintro e w1 ⟨rfl, g1, rfl⟩
    go_wp2
    go_ret2
    exact ⟨(by repeat (first | exact Ext.refl _ | refine Ext.plus ?_ _ | refine Ext.alloc ?_ _ | refine Ext.drew ?_ | refine Ext.drewN ?_ _)), none, 0, rfl, Arr.nil _ _⟩
end Go.Proofs.Ytccidiflnmchiaa
