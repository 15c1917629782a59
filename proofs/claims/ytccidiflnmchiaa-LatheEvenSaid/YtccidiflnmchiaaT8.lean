import Derived.Test.YtccidiflnmchiaaT7
namespace Go.Proofs.Ytccidiflnmchiaa
open Go.RowKit

/-! ### The plain law of even lines -/
theorem nth_map_range (f : Nat → Int) (k j : Nat) (h : j < k) : nth ((List.range k).map f) j = f j := by simp [nth, h]
theorem nth_evenRow (top bottom : List Int) (n : Int) (i k j : Nat) (h : j < k) : nth (evenRow top bottom n i k) j = evenAt top bottom n i j := nth_map_range _ _ _ h
theorem row_evenRows (top bottom : List Int) (n : Int) (m i : Nat) (h : i < m) : row (evenRows top bottom n m) i = evenRow top bottom n i top.length := by simp [row, evenRows, h]
theorem evenAt_frac (top bottom : List Int) (q : Int) (i c : Nat) (hq : 0 < q) : evenAt top bottom (q + 1) i c = (nth top c * q + (i : Int) * (nth bottom c - nth top c)) / q := by
  unfold evenAt
  rw [Int.add_ediv_of_dvd_left (Int.dvd_mul_left _ _), Int.mul_ediv_cancel _ (by omega)]
  congr 2
  omega
theorem frac_le {x y q L : Int} (hq : 0 < q) (h : x - y ≤ q * L) : x / q - y / q ≤ L := by
  have h1 : x / q ≤ (y + q * L) / q := Int.ediv_le_ediv hq (by omega)
  rw [Int.add_mul_ediv_left _ _ (by omega)] at h1
  omega
theorem mid_le {q i a b L : Int} (h0 : 0 ≤ i) (h1 : i ≤ q) (ha : a ≤ L) (hb : b ≤ L) : (q - i) * a + i * b ≤ q * L := by
  have e1 : (q - i) * a ≤ (q - i) * L := Int.mul_le_mul_of_nonneg_left ha (by omega)
  have e2 : i * b ≤ i * L := Int.mul_le_mul_of_nonneg_left hb h0
  have e3 : (q - i) * L + i * L = q * L := by rw [← Int.add_mul]; congr 1; omega
  omega
theorem even_lean {top bottom : List Int} {q L : Int} {i c c' : Nat} (hq : 0 < q) (hi : (i : Int) ≤ q) (ha : nth top c - nth top c' ≤ L) (hb : nth bottom c - nth bottom c' ≤ L) :
    evenAt top bottom (q + 1) i c - evenAt top bottom (q + 1) i c' ≤ L := by
  rw [evenAt_frac _ _ _ _ _ hq, evenAt_frac _ _ _ _ _ hq]
  apply frac_le hq
  have := mid_le (q := q) (i := (i : Int)) (by omega) hi ha hb
  have e : nth top c * q + (i : Int) * (nth bottom c - nth top c) - (nth top c' * q + (i : Int) * (nth bottom c' - nth top c')) = (q - i) * (nth top c - nth top c') + i * (nth bottom c - nth bottom c') := by grind
  omega
theorem even_lo {top bottom : List Int} {q : Int} {i c : Nat} (hq : 0 < q) (h : nth top c ≤ nth bottom c) : nth top c ≤ evenAt top bottom (q + 1) i c := by
  unfold evenAt
  have : 0 ≤ (i : Int) * (nth bottom c - nth top c) / (q + 1 - 1) := Int.ediv_nonneg (Int.mul_nonneg (by omega) (by omega)) (by omega)
  omega
theorem even_hi {top bottom : List Int} {q : Int} {i c : Nat} (hq : 0 < q) (hi : (i : Int) ≤ q) (h : nth top c ≤ nth bottom c) : evenAt top bottom (q + 1) i c ≤ nth bottom c := by
  unfold evenAt
  have h1 : (i : Int) * (nth bottom c - nth top c) ≤ q * (nth bottom c - nth top c) := Int.mul_le_mul_of_nonneg_right hi (by omega)
  have h2 : (i : Int) * (nth bottom c - nth top c) / q ≤ q * (nth bottom c - nth top c) / q := Int.ediv_le_ediv hq h1
  rw [Int.mul_ediv_cancel_left _ (by omega)] at h2
  rw [show q + 1 - 1 = q by omega]
  omega
theorem even_step {top bottom : List Int} {q : Int} {i c : Nat} (hq : 0 < q) : (nth bottom c - nth top c) / q ≤ evenAt top bottom (q + 1) (i + 1) c - evenAt top bottom (q + 1) i c := by
  unfold evenAt
  rw [show q + 1 - 1 = q by omega]
  generalize nth bottom c - nth top c = d
  have e : ((i + 1 : Nat) : Int) * d = (i : Int) * d + d := by rw [Int.natCast_add, Int.add_mul]; simp
  rw [e]
  have h1 : (i : Int) * d / q + d / q ≤ ((i : Int) * d + d) / q := by
    rw [Int.le_ediv_iff_mul_le hq, Int.add_mul]
    have := Int.ediv_mul_le ((i : Int) * d) (show q ≠ 0 by omega)
    have := Int.ediv_mul_le d (show q ≠ 0 by omega)
    omega
  omega
theorem even_first {top bottom : List Int} {q : Int} {c : Nat} (hq : 0 < q) : evenAt top bottom (q + 1) 1 c - evenAt top bottom (q + 1) 0 c = (nth bottom c - nth top c) / q := by
  unfold evenAt
  rw [show q + 1 - 1 = q by omega]
  simp
  omega

theorem isLineB_iff {s : Sheet} {l : List Int} : isLineB s l = true ↔ (∀ j, j < l.length → lineAt s l j = true) ∧ (l.length : Int) = s.cols := by
  simp [isLineB]
theorem lineAt_iff {s : Sheet} {l : List Int} {k : Nat} : lineAt s l k = true ↔ (0 ≤ nth l k ∧ nth l k ≤ s.rows - s.weight) ∧ (k = 0 ∨ (-s.lean ≤ nth l k - nth l (k - 1) ∧ nth l k - nth l (k - 1) ≤ s.lean)) := by
  simp [lineAt, withinB]

theorem even_lines {s : Sheet} {top bottom : List Int} (h1 : isLineB s top = true) (h2 : isLineB s bottom = true) (h3 : geB top bottom = true) {m : Nat} (hm : 2 ≤ m) : linesB s (evenRows top bottom m m) = true := by
  apply linesB_yes
  rw [evenRows_len]
  intro i hi
  rw [row_evenRows _ _ _ _ _ hi, isLineB_iff]
  obtain ⟨a1, a2⟩ := isLineB_iff.1 h1
  obtain ⟨b1, b2⟩ := isLineB_iff.1 h2
  have hl : top.length = bottom.length := by omega
  rw [evenRow_len]
  refine ⟨fun j hj => ?_, a2⟩
  obtain ⟨q, rfl⟩ : ∃ q : Nat, m = q + 1 := ⟨m - 1, by omega⟩
  have hg := geB_at h3
  rw [lineAt_iff, nth_evenRow _ _ _ _ _ _ hj]
  have e1 := lineAt_iff.1 (a1 j hj)
  have e2 := lineAt_iff.1 (b1 j (by omega))
  have hgj := hg j (by omega)
  have lo := even_lo (top := top) (bottom := bottom) (q := q) (i := i) (by omega) hgj
  have hi' := even_hi (top := top) (bottom := bottom) (q := q) (i := i) (by omega) (by omega) hgj
  rw [Int.natCast_add, Int.natCast_one]
  refine ⟨by omega, ?_⟩
  by_cases h0 : j = 0
  · exact .inl h0
  · right
    rw [nth_evenRow _ _ _ _ _ _ (show j - 1 < top.length by omega)]
    have c1 := even_lean (top := top) (bottom := bottom) (q := q) (L := s.lean) (i := i) (c := j) (c' := j - 1) (by omega) (by omega) (by omega) (by omega)
    have c2 := even_lean (top := top) (bottom := bottom) (q := q) (L := s.lean) (i := i) (c := j - 1) (c' := j) (by omega) (by omega) (by omega) (by omega)
    omega

def bandB (s : Sheet) (b : List (List Int)) : Bool := decide (b.length ≤ 12) && linesB s b && (List.range (b.length - 1)).all fun i => decide (clashF s (row b i) (row b (i + 1)) < 0)
theorem clashF_neg {s : Sheet} {a b : List Int} : clashF s a b < 0 ↔ ∀ j : Nat, (j : Int) < s.cols → s.weight + s.clear ≤ nth b j - nth a j := by
  constructor
  · intro h j hj
    unfold clashF at h
    split at h
    · omega
    · rename_i h0
      rw [List.find?_eq_none] at h0
      have := h0 j (by simp; omega)
      simp only [nearAt, decide_eq_true_eq] at this
      omega
  · intro h
    rw [clashF_none fun j hj => by have := h j hj; simp [nearAt]; omega]
    omega
theorem bandB_iff {s : Sheet} {b : List (List Int)} : bandB s b = true ↔ b.length ≤ 12 ∧ linesB s b = true ∧ ∀ i, i + 1 < b.length → ∀ j : Nat, (j : Int) < s.cols → s.weight + s.clear ≤ nth (row b (i + 1)) j - nth (row b i) j := by
  simp only [bandB, Bool.and_eq_true, decide_eq_true_eq, List.all_eq_true, List.mem_range, clashF_neg]
  constructor
  · rintro ⟨⟨h1, h2⟩, h3⟩
    exact ⟨h1, h2, fun i hi => h3 i (by omega)⟩
  · rintro ⟨h1, h2, h3⟩
    exact ⟨⟨h1, h2⟩, fun i hi => h3 i (by omega)⟩
theorem fitTo_ge {s : Sheet} {top bottom : List Int} {m : Int} : ∀ k, m ≤ fitTo s top bottom k ↔ m ≤ 12 ∧ ∀ j, j < k → m ≤ fitAt s top bottom j
  | 0 => by simp [fitTo]
  | k + 1 => by
    have ih := fitTo_ge (s := s) (top := top) (bottom := bottom) (m := m) k
    unfold fitTo
    constructor
    · intro h
      have h2 : m ≤ fitTo s top bottom k ∧ m ≤ fitAt s top bottom k := by split at h <;> omega
      obtain ⟨h3, h4⟩ := ih.1 h2.1
      exact ⟨h3, all_step h4 h2.2⟩
    · rintro ⟨h1, h2⟩
      have h3 := ih.2 ⟨h1, fun j hj => h2 j (by omega)⟩
      have h4 := h2 k (by omega)
      split <;> omega
/-- **Even lines are a band just if the gap of each column fits them.** -/
theorem band_even {s : Sheet} (hs : s.ok = true) {top bottom : List Int} (h1 : isLineB s top = true) (h2 : isLineB s bottom = true) (h3 : geB top bottom = true) {m : Nat} (hm : 2 ≤ m) (hm2 : m ≤ 12) :
    bandB s (evenRows top bottom m m) = decide ((m : Int) ≤ fitTo s top bottom bottom.length) := by
  have hb := Sheet.bounds hs
  have hl1 := isLine_len h1
  have hl2 := isLine_len h2
  rw [Bool.eq_iff_iff, bandB_iff, decide_eq_true_eq, fitTo_ge, evenRows_len]
  obtain ⟨q, rfl⟩ : ∃ q : Nat, m = q + 1 := ⟨m - 1, by omega⟩
  have key : ∀ j : Nat, ((q + 1 : Nat) : Int) ≤ fitAt s top bottom j ↔ s.weight + s.clear ≤ (nth bottom j - nth top j) / (q : Int) := by
    intro j
    unfold fitAt
    rw [Int.le_ediv_iff_mul_le (show (0 : Int) < q by omega)]
    have : ((q + 1 : Nat) : Int) ≤ (nth bottom j - nth top j) / (s.weight + s.clear) + 1 ↔ (q : Int) ≤ (nth bottom j - nth top j) / (s.weight + s.clear) := by omega
    rw [this, Int.le_ediv_iff_mul_le (by omega), Int.mul_comm]
  have hrow : ∀ i, i < q + 1 → ∀ j : Nat, (j : Int) < s.cols → nth (row (evenRows top bottom ((q + 1 : Nat) : Int) (q + 1)) i) j = evenAt top bottom ((q : Int) + 1) i j := by
    intro i hi j hj
    rw [row_evenRows _ _ _ _ _ hi, nth_evenRow _ _ _ _ _ _ (by omega)]
    simp
  constructor
  · rintro ⟨_, _, h⟩
    refine ⟨by omega, fun j hj => (key j).2 ?_⟩
    have := h 0 (by omega) j (by omega)
    rw [hrow 1 (by omega) j (by omega), hrow 0 (by omega) j (by omega), even_first (by omega)] at this
    exact this
  · rintro ⟨_, h⟩
    refine ⟨by omega, even_lines h1 h2 h3 (by omega), fun i hi j hj => ?_⟩
    have h4 := (key j).1 (h j (by omega))
    have h5 := even_step (top := top) (bottom := bottom) (q := q) (i := i) (c := j) (by omega)
    rw [hrow (i + 1) (by omega) j hj, hrow i (by omega) j hj]
    omega
end Go.Proofs.Ytccidiflnmchiaa
