import Derived.Test.YtccidiflnmchiaaAmT
namespace Go.Proofs.Ytccidiflnmchiaa
open Go.RowKit
/-! ### How data read -/
abbrev encInts (l : List Int) : V := LV 1 vi l
abbrev encBools (l : List Bool) : V := LV 1 vb l
abbrev encRows (b : List (List Int)) : V := LV 1 encInts b
abbrev encMask (b : List (List Bool)) : V := LV 1 encBools b
structure Sheet where
  cols : Int
  rows : Int
  weight : Int
  clear : Int
  lean : Int
def Sheet.enc (s : Sheet) : V := .agg [vi s.cols, vi s.rows, vi s.weight, vi s.clear, vi s.lean]
def withinB (n lo hi : Int) : Bool := decide (lo ≤ n) && decide (n ≤ hi)
theorem withinB_iff {n lo hi : Int} : withinB n lo hi = true ↔ lo ≤ n ∧ n ≤ hi := by simp [withinB]
theorem withinB_no {n lo hi : Int} : withinB n lo hi = false ↔ ¬ (lo ≤ n ∧ n ≤ hi) := by rw [← withinB_iff]; simp
def Sheet.ok (s : Sheet) : Bool := withinB s.cols 1 40 && withinB s.rows 1 60 && withinB s.weight 1 8 && withinB s.clear 0 20 && withinB s.lean 0 8
def Sheet.err (s : Sheet) : Int := if s.ok then 0 else 70
theorem Sheet.bounds {s : Sheet} (h : s.ok = true) : 1 ≤ s.cols ∧ s.cols ≤ 40 ∧ 1 ≤ s.rows ∧ s.rows ≤ 60 ∧ 1 ≤ s.weight ∧ s.weight ≤ 8 ∧ 0 ≤ s.clear ∧ s.clear ≤ 20 ∧ 0 ≤ s.lean ∧ s.lean ≤ 8 := by
  simp only [Sheet.ok, Bool.and_eq_true, withinB_iff] at h
  omega
def lineAt (s : Sheet) (l : List Int) (k : Nat) : Bool := withinB (el l k) 0 (s.rows - s.weight) && (decide (k = 0) || withinB (el l k - el l (k - 1)) (-s.lean) s.lean)
def isLineB (s : Sheet) (l : List Int) : Bool := decide ((l.length : Int) = s.cols) && (List.range l.length).all (lineAt s l)

set_option maxHeartbeats 400000 in
theorem within_p (n lo hi : Int) : PCalls Try.prog 57 [vi n, vi lo, vi hi] (· = vb (withinB n lo hi)) := by
  refine pcalls_of_aw Try.func57 rfl (Nat.le_of_ble_eq_true rfl) ?_
  (repeat' (first | (refine ar_isq ?_; first | refine ar_q (qs_move rfl) (dc rfl) ?_ | refine ar_q (qs_assign rfl) (dc rfl) ?_ | (refine is_binOp ?_; first | refine ar_q (qs_leq rfl rfl) (dc rfl) ?_ | refine ar_q (qs_geq rfl rfl) (dc rfl) ?_) | (refine is_pick ?_; first | refine ar_q (qs_pick_t rfl rfl) (dc rfl) ?_ | refine ar_q (qs_pick_f rfl rfl) (dc rfl) ?_)) | (refine ar_guard rfl rfl rfl rfl (dc rfl) ?_ ?_ <;> intro hg <;> first | exact absurd hg (by decide) | ((first | replace hg := hgT hg | replace hg := hgF hg | replace hg := hgNT hg | replace hg := hgNF hg | replace hg := hgBT hg | replace hg := hgBF hg | replace hg := hgV hg | replace hg := hgW hg | skip); (try dsimp only at hg); (try (have _h : True := hg; clear _h hg)); first | (exfalso; omega) | skip)) | (refine ar_guard_u rfl rfl rfl rfl (dc rfl) ?_) | (refine ar_nil ?_) | (refine aw_seq ?_) | (refine aw_skip ?_) | (refine aw_block ?_) | (refine aw_exit ?_) | (refine aw_region ?_) | (refine aw_cond rfl ?_ ?_ <;> intro hg <;> first | exact absurd hg (by decide) | ((first | replace hg := hgT hg | replace hg := hgF hg | replace hg := hgNT hg | replace hg := hgNF hg | replace hg := hgBT hg | replace hg := hgBF hg | replace hg := hgV hg | replace hg := hgW hg | skip); (try dsimp only at hg); (try (have _h : True := hg; clear _h hg)); first | (exfalso; omega) | skip))))
  all_goals (refine aw_ret ?_; (repeat (first | refine ret_then ?_ | refine ret_block ?_)); refine bq1 rfl ⟨?_, rfl⟩)
  all_goals (simp only [vb, constV, withinB]; congr 2; simp; try omega)
set_option maxHeartbeats 400000 in
theorem checkSheet_p (s : Sheet) : PCalls Try.prog 28 [s.enc] (· = vi s.err) := by
  refine pcalls_of_aw Try.func28 rfl (Nat.le_of_ble_eq_true rfl) ?_
  (repeat' (first | (refine ar_isq ?_; first | refine ar_q (qs_move rfl) (dc rfl) ?_ | refine ar_q (qs_assign rfl) (dc rfl) ?_ | (refine is_load ?_; first | refine ar_q (qs_load_ptr (ty rfl) rfl rfl (by first | exact Nat.one_pos | assumption | omega) rfl) (dc rfl) ?_ | refine ar_q (qs_load_ref (ty rfl) rfl rfl) (dc rfl) ?_) | (refine is_fieldAddr ?_; first | refine ar_q (qs_faddr_ptr (ty rfl) rfl rfl (ty rfl) (Nat.succ_ne_zero _) rfl) (dc rfl) ?_ | refine ar_q (qs_faddr_ref (ty rfl) rfl rfl (ty rfl) (Nat.succ_ne_zero _) rfl) (dc rfl) ?_) | (refine is_pick ?_; first | refine ar_q (qs_pick_t rfl rfl) (dc rfl) ?_ | refine ar_q (qs_pick_f rfl rfl) (dc rfl) ?_) | refine ar_q (qs_not rfl) (dc rfl) ?_) | (refine ar_pcall (own := false) fn57 rfl rfl (.cons (.closed rfl) (.cons (.closed rfl) (.cons (.closed rfl) .nil))) (within_p _ _ _) (by simp) (dc rfl) ?_; intro _ hv; subst hv) | (refine ar_boxf rfl rfl (dc rfl) ?_) | (refine ar_guard rfl rfl rfl rfl (dc rfl) ?_ ?_ <;> intro hg <;> first | exact absurd hg (by decide) | ((first | replace hg := hgT hg | replace hg := hgF hg | replace hg := hgNT hg | replace hg := hgNF hg | replace hg := hgBT hg | replace hg := hgBF hg | replace hg := hgV hg | replace hg := hgW hg | skip); (try dsimp only at hg); (try (have _h : True := hg; clear _h hg)); first | (exfalso; omega) | skip)) | (refine ar_guard_u rfl rfl rfl rfl (dc rfl) ?_) | (refine ar_nil ?_) | (refine aw_seq ?_) | (refine aw_skip ?_) | (refine aw_block ?_) | (refine aw_exit ?_) | (refine aw_region ?_) | (refine aw_cond rfl ?_ ?_ <;> intro hg <;> first | exact absurd hg (by decide) | ((first | replace hg := hgT hg | replace hg := hgF hg | replace hg := hgNT hg | replace hg := hgNF hg | replace hg := hgBT hg | replace hg := hgBF hg | replace hg := hgV hg | replace hg := hgW hg | skip); (try dsimp only at hg); (try (have _h : True := hg; clear _h hg)); first | (exfalso; omega) | skip))))
  all_goals (refine aw_ret ?_; (repeat (first | refine ret_then ?_ | refine ret_block ?_)); refine bq1 rfl ⟨?_, rfl⟩)
  all_goals (simp only [vi, constV, Sheet.err, Sheet.ok]; simp_all)
end Go.Proofs.Ytccidiflnmchiaa
