import Derived.Test.YtccidiflnmchiaaL21
namespace Go.Proofs.Ytccidiflnmchiaa
open Go.RowKit
/-! ### lean: the plain law -/
def fF (a : Int) (w : Nat → Int) : Nat → Int
  | 0 => w 0
  | j + 1 => min (w (j + 1)) (fF a w j + a)
def bD (a : Int) (w : Nat → Int) (n : Nat) : Nat → Int
  | 0 => fF a w (n - 1)
  | d + 1 => min (fF a w (n - 1 - (d + 1))) (bD a w n d + a)
def leanAt (a : Int) (w : Nat → Int) (n j : Nat) : Int := bD a w n (n - 1 - j)
def carryF (a : Int) (g : Nat → Int) (i j k : Nat) : Int := if k = j then min (g j) (g i + a) else g k
def gOne (a : Int) (w : Nat → Int) (c k : Nat) : Int := if k ≤ c then fF a w k else w k
def gTwo (a : Int) (w : Nat → Int) (n d k : Nat) : Int := if n ≤ k + 1 + d then leanAt a w n k else fF a w k
theorem gOne_zero (a : Int) (w : Nat → Int) (k : Nat) : gOne a w 0 k = w k := by
  unfold gOne
  split
  · obtain rfl : k = 0 := by omega
    rfl
  · rfl
theorem gOne_step (a : Int) (w : Nat → Int) (c k : Nat) : carryF a (gOne a w c) c (c + 1) k = gOne a w (c + 1) k := by
  unfold carryF gOne
  by_cases h : k = c + 1
  · subst h
    rw [if_pos rfl, if_neg (by omega), if_pos (Nat.le_refl c), if_pos (Nat.le_refl _)]
    rfl
  · rw [if_neg h]
    by_cases h2 : k ≤ c
    · rw [if_pos h2, if_pos (by omega)]
    · rw [if_neg h2, if_neg (by omega)]
theorem gTwo_zero {a : Int} {w : Nat → Int} {n c k : Nat} (hk : k < n) (hc : n ≤ c + 1) : gOne a w c k = gTwo a w n 0 k := by
  unfold gOne gTwo
  rw [if_pos (by omega)]
  split
  · obtain rfl : k = n - 1 := by omega
    simp [leanAt, bD]
  · rfl
theorem gTwo_step {a : Int} {w : Nat → Int} {n d i j : Nat} (hd : d + 1 < n) (hi : i = n - 1 - d) (hj : j = n - 1 - d - 1) (k : Nat) : carryF a (gTwo a w n d) i j k = gTwo a w n (d + 1) k := by
  subst hi hj
  unfold carryF gTwo
  by_cases h : k = n - 1 - d - 1
  · rw [if_pos h, if_neg (by omega), if_pos (by omega), if_pos (by omega)]
    unfold leanAt
    rw [show n - 1 - (n - 1 - d) = d by omega, show n - 1 - k = d + 1 by omega]
    simp only [bD]
    rw [show n - 1 - (d + 1) = n - 1 - d - 1 by omega]
  · rw [if_neg h]
    by_cases h2 : n ≤ k + 1 + d
    · rw [if_pos h2, if_pos (by omega)]
    · rw [if_neg h2, if_neg (by omega)]
theorem gTwo_end {a : Int} {w : Nat → Int} {n d k : Nat} (hd : n ≤ d + 1) : gTwo a w n d k = leanAt a w n k := by unfold gTwo; rw [if_pos (by omega)]
theorem fF_le (a : Int) (w : Nat → Int) : ∀ j, fF a w j ≤ w j
  | 0 => Int.le_refl _
  | j + 1 => by simp only [fF]; omega
theorem fF_bnd {a : Int} {w : Nat → Int} (ha : 0 ≤ a) : ∀ j, (∀ k, k ≤ j → 0 ≤ w k) → 0 ≤ fF a w j
  | 0, h => h 0 (Nat.le_refl _)
  | j + 1, h => by
    have := fF_bnd ha j fun k hk => h k (by omega)
    have := h (j + 1) (Nat.le_refl _)
    simp only [fF]; omega
theorem bD_bnd {a : Int} {w : Nat → Int} {n : Nat} (ha : 0 ≤ a) (hw : ∀ k, k < n → 0 ≤ w k) (hn : 0 < n) : ∀ d, 0 ≤ bD a w n d
  | 0 => fF_bnd ha _ fun k hk => hw k (by omega)
  | d + 1 => by
    have := bD_bnd ha hw hn d
    have := fF_bnd (w := w) ha (n - 1 - (d + 1)) fun k hk => hw k (by omega)
    simp only [bD]; omega
theorem bD_le (a : Int) (w : Nat → Int) (n : Nat) : ∀ d, bD a w n d ≤ fF a w (n - 1 - d)
  | 0 => Int.le_refl _
  | d + 1 => by simp only [bD]; omega
theorem lean_bnd {a : Int} {w : Nat → Int} {n k : Nat} (ha : 0 ≤ a) (hw : ∀ k, k < n → 0 ≤ w k ∧ w k ≤ 100) (hk : k < n) : 0 ≤ leanAt a w n k ∧ leanAt a w n k ≤ 100 := by
  refine ⟨bD_bnd ha (fun k hk => (hw k hk).1) (by omega) _, ?_⟩
  have h1 := bD_le a w n (n - 1 - k)
  rw [show n - 1 - (n - 1 - k) = k by omega] at h1
  have h2 := fF_le a w k
  have h3 := hw k hk
  unfold leanAt
  omega
/-- What the document says: the least over all columns. -/
def farI (j k : Nat) : Int := max ((j : Int) - k) ((k : Int) - j)
def leastTo (a : Int) (w : Nat → Int) (j : Nat) : Nat → Int
  | 0 => w j
  | k + 1 => min (leastTo a w j k) (w k + a * farI j k)
theorem least_le {a : Int} {w : Nat → Int} {j : Nat} : ∀ {n k : Nat}, k < n → leastTo a w j n ≤ w k + a * farI j k
  | 0, _, h => by omega
  | n + 1, k, h => by
    simp only [leastTo]
    by_cases e : k = n
    · subst e; omega
    · have := least_le (a := a) (w := w) (j := j) (n := n) (k := k) (by omega)
      omega
theorem least_at {a : Int} {w : Nat → Int} {j : Nat} : ∀ (n : Nat), leastTo a w j n = w j ∨ ∃ k, k < n ∧ leastTo a w j n = w k + a * farI j k
  | 0 => .inl rfl
  | n + 1 => by
    simp only [leastTo]
    rcases Int.le_total (leastTo a w j n) (w n + a * farI j n) with h | h
    · rw [Int.min_eq_left h]
      rcases least_at n with h1 | ⟨k, hk, h1⟩
      · exact .inl h1
      · exact .inr ⟨k, by omega, h1⟩
    · rw [Int.min_eq_right h]
      exact .inr ⟨n, by omega, rfl⟩
theorem fF_all {a : Int} {w : Nat → Int} : ∀ (d k : Nat), fF a w (k + d) ≤ w k + a * d
  | 0, k => by have := fF_le a w k; simp; exact this
  | d + 1, k => by
    have := fF_all (a := a) (w := w) d k
    have e : a * ((d + 1 : Nat) : Int) = a * d + a := by rw [Int.natCast_succ, Int.mul_add, Int.mul_one]
    rw [e, show k + (d + 1) = (k + d) + 1 by omega]
    simp only [fF]; omega
theorem fF_some {a : Int} {w : Nat → Int} : ∀ j, ∃ i, i ≤ j ∧ fF a w j = w i + a * ((j : Int) - i)
  | 0 => ⟨0, Nat.le_refl _, by simp [fF]⟩
  | j + 1 => by
    obtain ⟨i, hi, h⟩ := fF_some (a := a) (w := w) j
    simp only [fF]
    rcases Int.le_total (w (j + 1)) (fF a w j + a) with h1 | h1
    · exact ⟨j + 1, Nat.le_refl _, by rw [Int.min_eq_left h1]; simp⟩
    · refine ⟨i, by omega, ?_⟩
      rw [Int.min_eq_right h1, h, Int.natCast_succ, show (j : Int) + 1 - i = ((j : Int) - i) + 1 by omega, Int.mul_add, Int.mul_one]
      omega
theorem bD_all {a : Int} {w : Nat → Int} {n : Nat} : ∀ (d e : Nat), bD a w n (e + d) ≤ fF a w (n - 1 - e) + a * d
  | 0, e => by have := bD_le a w n e; simp; exact this
  | d + 1, e => by
    have := bD_all (a := a) (w := w) (n := n) d e
    have e1 : a * ((d + 1 : Nat) : Int) = a * d + a := by rw [Int.natCast_succ, Int.mul_add, Int.mul_one]
    rw [e1, show e + (d + 1) = (e + d) + 1 by omega]
    simp only [bD]; omega
theorem bD_some {a : Int} {w : Nat → Int} {n : Nat} : ∀ d, ∃ e, e ≤ d ∧ bD a w n d = fF a w (n - 1 - e) + a * ((d : Int) - e)
  | 0 => ⟨0, Nat.le_refl _, by simp [bD]⟩
  | d + 1 => by
    obtain ⟨e, he, h⟩ := bD_some (a := a) (w := w) (n := n) d
    simp only [bD]
    rcases Int.le_total (fF a w (n - 1 - (d + 1))) (bD a w n d + a) with h1 | h1
    · exact ⟨d + 1, Nat.le_refl _, by rw [Int.min_eq_left h1]; simp⟩
    · refine ⟨e, by omega, ?_⟩
      rw [Int.min_eq_right h1, h, Int.natCast_succ, show (d : Int) + 1 - e = ((d : Int) - e) + 1 by omega, Int.mul_add, Int.mul_one]
      omega
theorem lean_all {a : Int} {w : Nat → Int} {n j k : Nat} (hj : j < n) (hk : k < n) : leanAt a w n j ≤ w k + a * farI j k := by
  unfold leanAt
  by_cases h : k ≤ j
  · have h1 := bD_le a w n (n - 1 - j)
    rw [show n - 1 - (n - 1 - j) = j by omega] at h1
    have h2 := fF_all (a := a) (w := w) (j - k) k
    rw [show k + (j - k) = j by omega] at h2
    rw [show farI j k = ((j - k : Nat) : Int) by unfold farI; omega]
    omega
  · have h1 := bD_all (a := a) (w := w) (n := n) (k - j) (n - 1 - k)
    rw [show n - 1 - k + (k - j) = n - 1 - j by omega, show n - 1 - (n - 1 - k) = k by omega] at h1
    have h2 := fF_le a w k
    rw [show farI j k = ((k - j : Nat) : Int) by unfold farI; omega]
    omega
theorem lean_some {a : Int} {w : Nat → Int} {n j : Nat} (ha : 0 ≤ a) (hj : j < n) : ∃ k, k < n ∧ w k + a * farI j k ≤ leanAt a w n j := by
  obtain ⟨e, he, h1⟩ := bD_some (a := a) (w := w) (n := n) (n - 1 - j)
  obtain ⟨i, hi, h2⟩ := fF_some (a := a) (w := w) (n - 1 - e)
  refine ⟨i, by omega, ?_⟩
  unfold leanAt
  rw [h1, h2, Int.add_assoc, ← Int.mul_add]
  have : a * farI j i ≤ a * (((n - 1 - e : Nat) : Int) - i + (((n - 1 - j : Nat) : Int) - e)) := Int.mul_le_mul_of_nonneg_left (by unfold farI; omega) ha
  omega
theorem lean_least {a : Int} {w : Nat → Int} {n j : Nat} (ha : 0 ≤ a) (hj : j < n) : leanAt a w n j = leastTo a w j n := by
  refine Int.le_antisymm ?_ ?_
  · rcases least_at (a := a) (w := w) (j := j) n with h | ⟨k, hk, h⟩
    · rw [h]
      have := lean_all (a := a) (w := w) hj hj
      rw [show farI j j = 0 by unfold farI; omega, Int.mul_zero] at this
      omega
    · rw [h]; exact lean_all hj hk
  · obtain ⟨k, hk, h⟩ := lean_some (w := w) ha hj
    exact Int.le_trans (least_le hk) h
end Go.Proofs.Ytccidiflnmchiaa
