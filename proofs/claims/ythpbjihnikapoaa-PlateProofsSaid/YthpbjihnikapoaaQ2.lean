/- Proofs, gaps, how long a band lasts: the plain law. No condition. -/
import Derived.Test.YthpbjihnikapoaaL10
import Derived.Test.YthpbjihnikapoaaAm21
namespace Go.Proofs.Ythpbjihnikapoaa
open Go.RowKit
def pCol (s : Sheet) (m : Bool) (c : Nat) : Nat := if m = true then s.cols.toNat - 1 - c else c
theorem pCol_lt {s : Sheet} {m : Bool} {c : Nat} (h : c < s.cols.toNat) : pCol s m c < s.cols.toNat := by unfold pCol; split <;> omega
theorem pCol_pCol {s : Sheet} {m : Bool} {c : Nat} (h : c < s.cols.toNat) : pCol s m (pCol s m c) = c := by unfold pCol; split <;> omega
/-- A line's ink, grown. -/
def hitB (s : Sheet) (g : Int) (l : List Int) (r c : Nat) : Bool := decide (el l c - g ≤ (r : Int)) && decide ((r : Int) ≤ el l c + s.weight - 1 + g)
theorem hitB_iff {s : Sheet} {g : Int} {l : List Int} {r c : Nat} : hitB s g l r c = true ↔ el l c - g ≤ (r : Int) ∧ (r : Int) ≤ el l c + s.weight - 1 + g := by simp [hitB]
def proofB (s : Sheet) (b : List (List Int)) (g : Int) (m : Bool) (r c : Nat) : Bool := b.any fun l => hitB s g l r (pCol s m c)
def proofAt (s : Sheet) (b : List (List Int)) (g : Int) (m : Bool) (j : Nat) : Bool := proofB s b g m (j / s.cols.toNat) (j % s.cols.toNat)
def proofTo (s : Sheet) (b : List (List Int)) (g : Int) (m : Bool) (n : Nat) : List Bool := (List.range n).map (proofAt s b g m)
def proofErr (s : Sheet) (b : List (List Int)) (g : Int) : Int := if checkErr s b = 0 then (if withinB g 0 20 = true then 0 else 2) else checkErr s b
def proofF (s : Sheet) (b : List (List Int)) (g : Int) (m : Bool) : List Bool := if proofErr s b g = 0 then proofTo s b g m (s.rows.toNat * s.cols.toNat) else []
theorem proofTo_succ (s : Sheet) (b : List (List Int)) (g : Int) (m : Bool) (n : Nat) : proofTo s b g m (n + 1) = proofTo s b g m n ++ [proofAt s b g m n] := by simp [proofTo, List.range_succ]
theorem proofTo_len (s : Sheet) (b : List (List Int)) (g : Int) (m : Bool) (n : Nat) : (proofTo s b g m n).length = n := by simp [proofTo]
theorem proofTo_el {s : Sheet} {b : List (List Int)} {g : Int} {m : Bool} {n j : Nat} (h : j < n) : el (proofTo s b g m n) j = proofAt s b g m j := by unfold proofTo; rw [el_map_range h]
theorem proof_idx {s : Sheet} {b : List (List Int)} {g : Int} {m : Bool} {r c : Nat} (h : c < s.cols.toNat) : proofAt s b g m (r * s.cols.toNat + c) = proofB s b g m r c := by
  unfold proofAt
  rw [Nat.add_comm, Nat.add_mul_div_right _ _ (by omega), Nat.div_eq_of_lt h, Nat.zero_add, Nat.add_mul_mod_self_right, Nat.mod_eq_of_lt h]
/-! #### Stage by stage -/
def stLine (s : Sheet) (b : List (List Int)) (g : Int) (m : Bool) (i j : Nat) : Bool := (b.take i).any fun l => hitB s g l (j / s.cols.toNat) (pCol s m (j % s.cols.toNat))
def stCol (s : Sheet) (b : List (List Int)) (g : Int) (m : Bool) (i c j : Nat) : Bool := stLine s b g m i j || (decide (pCol s m (j % s.cols.toNat) < c) && hitB s g (el b i) (j / s.cols.toNat) (pCol s m (j % s.cols.toNat)))
def stRow (s : Sheet) (b : List (List Int)) (g : Int) (m : Bool) (i c r j : Nat) : Bool := stCol s b g m i c j || (decide (pCol s m (j % s.cols.toNat) = c) && (decide (j / s.cols.toNat < r) && hitB s g (el b i) (j / s.cols.toNat) c))
theorem stLine_zero (s : Sheet) (b : List (List Int)) (g : Int) (m : Bool) (j : Nat) : stLine s b g m 0 j = false := rfl
theorem stCol_zero (s : Sheet) (b : List (List Int)) (g : Int) (m : Bool) (i j : Nat) : stCol s b g m i 0 j = stLine s b g m i j := by simp [stCol]
theorem stRow_zero {s : Sheet} {b : List (List Int)} {g : Int} {m : Bool} {i c r j : Nat} (h : (r : Int) ≤ max (el (el b i) c - g) 0) : stRow s b g m i c r j = stCol s b g m i c j := by
  unfold stRow
  generalize j / s.cols.toNat = q
  cases hx : hitB s g (el b i) q c
  · simp
  · rw [hitB_iff] at hx
    rw [show decide (q < r) = false by simp; omega]
    simp
theorem stRow_succ {s : Sheet} {b : List (List Int)} {g : Int} {m : Bool} {i c r j : Nat} (hc : c < s.cols.toNat) (h1 : el (el b i) c - g ≤ (r : Int)) (h2 : (r : Int) ≤ el (el b i) c + s.weight - 1 + g) :
    (bif Nat.beq j (r * s.cols.toNat + pCol s m c) then true else stRow s b g m i c r j) = stRow s b g m i c (r + 1) j := by
  have hp := pCol_lt (m := m) hc
  by_cases e : j = r * s.cols.toNat + pCol s m c
  · have ed : j / s.cols.toNat = r := by rw [e, Nat.add_comm, Nat.add_mul_div_right _ _ (by omega), Nat.div_eq_of_lt hp, Nat.zero_add]
    have em : j % s.cols.toNat = pCol s m c := by rw [e, Nat.add_comm, Nat.add_mul_mod_self_right, Nat.mod_eq_of_lt hp]
    rw [show Nat.beq j (r * s.cols.toNat + pCol s m c) = true by rw [e]; simp]
    unfold stRow
    rw [ed, em, pCol_pCol hc, hitB_iff.2 ⟨h1, h2⟩]
    simp
  · have eb : Nat.beq j (r * s.cols.toNat + pCol s m c) = false := by cases q : Nat.beq j (r * s.cols.toNat + pCol s m c) with | false => rfl | true => exact (e (Nat.eq_of_beq_eq_true q)).elim
    rw [eb]
    show stRow s b g m i c r j = stRow s b g m i c (r + 1) j
    unfold stRow
    by_cases hq : pCol s m (j % s.cols.toNat) = c
    · have hne : j / s.cols.toNat ≠ r := fun hd => e (by
        have h3 := Nat.div_add_mod' j s.cols.toNat
        rw [hd] at h3
        have h4 : j % s.cols.toNat = pCol s m c := by rw [← hq, pCol_pCol (Nat.mod_lt _ (by omega))]
        rw [h4] at h3
        exact h3.symm)
      rw [show decide (j / s.cols.toNat < r + 1) = decide (j / s.cols.toNat < r) by simp; omega]
    · simp [hq]
theorem stRow_end {s : Sheet} {b : List (List Int)} {g : Int} {m : Bool} {i c r j : Nat} (hj : (j / s.cols.toNat : Nat) < s.rows) (h : min (el (el b i) c + s.weight - 1 + g) (s.rows - 1) < (r : Int)) : stRow s b g m i c r j = stCol s b g m i (c + 1) j := by
  unfold stRow stCol
  generalize j / s.cols.toNat = q at hj ⊢
  by_cases hq : pCol s m (j % s.cols.toNat) = c
  · cases hx : hitB s g (el b i) q c
    · rw [hq, hx]; simp
    · have hx' := hitB_iff.1 hx
      rw [hq, hx, show decide (q < r) = true by simp; omega]
      simp
  · rw [show decide (pCol s m (j % s.cols.toNat) < c + 1) = decide (pCol s m (j % s.cols.toNat) < c) by simp; omega]
    simp [hq]
theorem stCol_end {s : Sheet} {b : List (List Int)} {g : Int} {m : Bool} {i c j : Nat} (hc : s.cols.toNat ≤ c) (h0 : 0 < s.cols.toNat) (hi : i < b.length) : stCol s b g m i c j = stLine s b g m (i + 1) j := by
  unfold stCol stLine
  have := pCol_lt (s := s) (m := m) (Nat.mod_lt j h0)
  rw [show decide (pCol s m (j % s.cols.toNat) < c) = true by simp; omega, List.take_succ_eq_append_getElem hi, List.any_append, el_eq hi]
  simp
theorem stLine_end {s : Sheet} {b : List (List Int)} {g : Int} {m : Bool} {i j : Nat} (hi : b.length ≤ i) : stLine s b g m i j = proofAt s b g m j := by
  unfold stLine proofAt proofB
  rw [List.take_of_length_le hi]
/-! #### The reference's windows -/
theorem inkTo_el {s : Sheet} {b : List (List Int)} {c : Nat} (hc : c < s.cols.toNat) : ∀ {n r : Nat}, r < n → el (inkTo s b n) (r * s.cols.toNat + c) = dotB s b r c
  | 0, _, h => by omega
  | n + 1, r, h => by
    rw [inkTo_succ]
    have hl := inkTo_len s b n
    by_cases e : r < n
    · rw [el_app_lt, inkTo_el hc e]
      rw [hl]
      have : (r + 1) * s.cols.toNat ≤ n * s.cols.toNat := Nat.mul_le_mul_right _ e
      rw [Nat.add_mul, Nat.one_mul] at this
      omega
    · obtain rfl : r = n := by omega
      rw [el_app_ge (by omega), hl, Nat.add_sub_cancel_left]
      unfold inkRow
      rw [el_map_range hc]
def winB (s : Sheet) (b : List (List Int)) (c r0 n : Nat) : Bool := (List.range n).any fun k => dotB s b (r0 + k) c
theorem winB_zero (s : Sheet) (b : List (List Int)) (c r0 : Nat) : winB s b c r0 0 = false := rfl
theorem winB_succ (s : Sheet) (b : List (List Int)) (c r0 n : Nat) : winB s b c r0 (n + 1) = (winB s b c r0 n || dotB s b (r0 + n) c) := by
  unfold winB
  rw [List.range_succ, List.any_append]
  simp
theorem winB_all {s : Sheet} {b : List (List Int)} {g : Int} {c row r0 n : Nat} (hs : s.ok = true) (hl : b.all (isLineB s) = true) (hc : c < s.cols.toNat) (hrow : (row : Int) < s.rows) (hg : 0 ≤ g) (h0 : (r0 : Int) = max 0 ((row : Int) - g)) (hn : ((r0 + n : Nat) : Int) = min (s.rows - 1) ((row : Int) + g) + 1) :
    winB s b c r0 n = b.any fun l => hitB s g l row c := by
  have hb := Sheet.bounds hs
  rw [Bool.eq_iff_iff]
  unfold winB
  simp only [List.any_eq_true, List.mem_range]
  constructor
  · rintro ⟨k, hk, hd⟩
    unfold dotB at hd
    rw [List.any_eq_true] at hd
    obtain ⟨l, hm, hd⟩ := hd
    have := withinB_iff.1 hd
    exact ⟨l, hm, hitB_iff.2 (by push_cast at this hn; omega)⟩
  · rintro ⟨l, hm, hh⟩
    have hh := hitB_iff.1 hh
    have h1 := List.all_eq_true.1 hl l hm
    have h2 := isLine_len h1
    have h3 := isLine_at h1 (j := c) (by omega)
    refine ⟨(max (r0 : Int) (el l c)).toNat - r0, by omega, ?_⟩
    unfold dotB
    rw [List.any_eq_true]
    exact ⟨l, hm, withinB_iff.2 (by omega)⟩
/-! #### Gaps -/
def gapAt (s : Sheet) (b : List (List Int)) (i c : Nat) : Int := el (el b (i + 1)) c - el (el b i) c - s.weight
def gapRow (s : Sheet) (b : List (List Int)) (i : Nat) (x : Int) (n : Nat) : Int := (List.range n).foldl (fun a c => min a (gapAt s b i c)) x
def gapTo (s : Sheet) (b : List (List Int)) (k : Nat) : Int := (List.range k).foldl (fun a i => gapRow s b i a s.cols.toNat) s.rows
theorem gapRow_succ (s : Sheet) (b : List (List Int)) (i : Nat) (x : Int) (n : Nat) : gapRow s b i x (n + 1) = min (gapRow s b i x n) (gapAt s b i n) := by simp [gapRow, List.range_succ]
theorem gapTo_succ (s : Sheet) (b : List (List Int)) (k : Nat) : gapTo s b (k + 1) = gapRow s b k (gapTo s b k) s.cols.toNat := by simp [gapTo, List.range_succ]
theorem gapRow_bnd {s : Sheet} {b : List (List Int)} {i : Nat} {x : Int} (hx : 0 ≤ x ∧ x ≤ s.rows) : ∀ n, (∀ c, c < n → 0 ≤ gapAt s b i c) → 0 ≤ gapRow s b i x n ∧ gapRow s b i x n ≤ s.rows
  | 0, _ => hx
  | n + 1, h => by
    have ih := gapRow_bnd (i := i) hx n (fun c hc => h c (by omega))
    have := h n (by omega)
    rw [gapRow_succ]
    omega
theorem gapTo_bnd {s : Sheet} {b : List (List Int)} (h0 : 0 ≤ s.rows) : ∀ k, (∀ i c, i < k → c < s.cols.toNat → 0 ≤ gapAt s b i c) → 0 ≤ gapTo s b k ∧ gapTo s b k ≤ s.rows
  | 0, _ => ⟨h0, Int.le_refl _⟩
  | k + 1, h => by
    rw [gapTo_succ]
    exact gapRow_bnd (gapTo_bnd h0 k fun i c hi hc => h i c (by omega) hc) _ fun c hc => h k c (by omega) hc
theorem near_no {s : Sheet} {x y : List Int} (h : clashF s x y < 0) {j : Nat} (hj : (j : Int) < s.cols) : nearAt s x y j = false := by
  unfold clashF at h
  split at h
  · omega
  · rename_i hf
    rw [List.find?_eq_none] at hf
    have := hf j (by simp; omega)
    simpa using this
theorem gap_pos {s : Sheet} {b : List (List Int)} (h : checkErr s b = 0) {i c : Nat} (hi : i < b.length - 1) (hc : c < s.cols.toNat) : 0 ≤ gapAt s b i c := by
  have hb := Sheet.bounds (band_of_check h).1
  have hbd : bandB s b = true := by
    unfold checkErr at h
    rw [if_pos (band_of_check h).1] at h
    split at h
    · assumption
    · omega
  unfold bandB at hbd
  simp only [Bool.and_eq_true, List.all_eq_true, List.mem_range, decide_eq_true_eq] at hbd
  have := near_no (hbd.2 i hi) (j := c) (by omega)
  simp only [nearAt, decide_eq_false_iff_not] at this
  unfold gapAt
  omega
def gapErr (s : Sheet) (b : List (List Int)) : Int := if checkErr s b = 0 then (if b.length < 2 then 6 else 0) else checkErr s b
def gapF (s : Sheet) (b : List (List Int)) : Int := if gapErr s b = 0 then gapTo s b (b.length - 1) else 0
theorem gap_ok {s : Sheet} {b : List (List Int)} (h : gapErr s b = 0) : checkErr s b = 0 ∧ 2 ≤ b.length ∧ 0 ≤ gapF s b ∧ gapF s b ≤ 60 := by
  have h0 := h
  unfold gapErr at h
  split at h
  · rename_i hc
    split at h
    · omega
    · have hb := Sheet.bounds (band_of_check hc).1
      have := gapTo_bnd (s := s) (b := b) (by omega) (b.length - 1) fun i c hi hcc => gap_pos hc hi hcc
      unfold gapF
      rw [if_pos h0]
      exact ⟨hc, by omega, this.1, by omega⟩
  · omega
def lastErr (s : Sheet) (b : List (List Int)) (per : Int) : Int := if gapErr s b = 0 then (if withinB per 1 1000 = true then (if gapF s b = 0 then 6 else 0) else 2) else gapErr s b
def lastF (s : Sheet) (b : List (List Int)) (per : Int) : Int := if lastErr s b per = 0 then (gapF s b + 1) / 2 * per - 1 else 0
theorem last_step {g p n : Int} (hg : 1 ≤ g) (hp : 1 ≤ p) (hn : 0 ≤ n) (h : n < (g + 1) / 2 * p - 1) : 0 < g - 2 * ((n + 1) / p) := by
  have h1 : (n + 1) / p < (g + 1) / 2 := Int.ediv_lt_of_lt_mul (by omega) (by omega)
  omega
theorem last_end {g p : Int} (hp : 1 ≤ p) : ¬ (0 < g - 2 * (((g + 1) / 2 * p - 1 + 1) / p)) := by
  have : ((g + 1) / 2 * p - 1 + 1) / p = (g + 1) / 2 := by rw [Int.sub_add_cancel]; exact Int.mul_ediv_cancel _ (by omega)
  rw [this]
  omega
end Go.Proofs.Ythpbjihnikapoaa
