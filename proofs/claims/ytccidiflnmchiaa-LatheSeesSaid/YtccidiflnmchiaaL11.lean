import Derived.Test.YtccidiflnmchiaaL1
import Derived.Test.YtccidiflnmchiaaAm17
namespace Go.Proofs.Ytccidiflnmchiaa
open Go.RowKit

def vu (n : Int) : V := .s (.int .u64 n)
set_option maxHeartbeats 1000000 in
theorem mul64_p (x y : Int) (hx : 0 ≤ x ∧ x ≤ 4294967295) (hy : 0 ≤ y ∧ y ≤ 4294967295) (hxy : 0 ≤ x * y ∧ x * y ≤ 4294967295) : PCalls Try.prog 100 [vu x, vu y] (· = .tup [vu 0, vu (x * y)]) := by
  refine pcalls_of_aw Try.func100 rfl (Nat.le_of_ble_eq_true rfl) ?_
  (repeat' (first | (refine ar_isq ?_; first | refine ar_q (qs_move rfl) (dc rfl) ?_ | refine ar_q (qs_assign rfl) (dc rfl) ?_ | (refine is_binOp ?_; first | refine ar_q (qs_add rfl rfl (wrapU (by omega))) (dc rfl) ?_ | refine ar_q (qs_mul rfl rfl (wrapU (by omega))) (dc rfl) ?_ | refine ar_q (qs_and rfl rfl (andMask (by omega))) (dc rfl) ?_ | refine ar_q (qs_shr rfl rfl (by omega) (shr0 (by omega))) (dc rfl) ?_)) | (refine ar_nil ?_) | (refine aw_seq ?_) | (refine aw_skip ?_) | (refine aw_block ?_) | (refine aw_exit ?_) | (refine aw_region ?_) | (refine aw_cond rfl ?_ ?_ <;> intro hg <;> first | exact absurd hg (by decide) | ((first | replace hg := hgT hg | replace hg := hgF hg | replace hg := hgNT hg | replace hg := hgNF hg | replace hg := hgBT hg | replace hg := hgBF hg | replace hg := hgV hg | replace hg := hgW hg | skip); (try dsimp only at hg); (try (have _h : True := hg; clear _h hg)); first | (exfalso; omega) | skip))))
  (refine aw_ret ?_; (repeat (first | refine ret_then ?_ | refine ret_block ?_)); refine bq2 rfl rfl ⟨?_, rfl⟩)
  simp [vu]
theorem mul_p (x y : Int) (hx : 0 ≤ x ∧ x ≤ 4294967295) (hy : 0 ≤ y ∧ y ≤ 4294967295) (hxy : 0 ≤ x * y ∧ x * y ≤ 4294967295) : PCalls Try.prog 93 [vu x, vu y] (· = .tup [vu 0, vu (x * y)]) := by
  refine pcalls_of_aw Try.func93 rfl (Nat.le_of_ble_eq_true rfl) ?_
  (repeat' (first | (refine ar_isq ?_; first | refine ar_q (qs_move rfl) (dc rfl) ?_ | refine ar_q (qs_assign rfl) (dc rfl) ?_ | refine ar_q (qs_extract rfl rfl) (dc rfl) ?_ | refine ar_q (qs_conv (ty rfl) rfl (ty rfl) rfl rfl (wrapU (by omega))) (dc rfl) ?_ | refine ar_q (qs_conv (ty rfl) rfl (ty rfl) rfl rfl (wrapU32 (by omega))) (dc rfl) ?_) | (refine ar_pcall (own := false) fn100 rfl rfl (.cons (.closed rfl) (.cons (.closed rfl) .nil)) (mul64_p x y hx hy hxy) (by simp) (dc rfl) ?_; intro _ hv; subst hv) | (refine ar_nil ?_) | (refine aw_seq ?_) | (refine aw_skip ?_) | (refine aw_block ?_) | (refine aw_exit ?_) | (refine aw_region ?_) | (refine aw_cond rfl ?_ ?_ <;> intro hg <;> first | exact absurd hg (by decide) | ((first | replace hg := hgT hg | replace hg := hgF hg | replace hg := hgNT hg | replace hg := hgNF hg | replace hg := hgBT hg | replace hg := hgBF hg | replace hg := hgV hg | replace hg := hgW hg | skip); (try dsimp only at hg); (try (have _h : True := hg; clear _h hg)); first | (exfalso; omega) | skip))))
  all_goals ((refine aw_ret ?_; (repeat (first | refine ret_then ?_ | refine ret_block ?_)); refine bq2 rfl rfl ⟨?_, rfl⟩); simp [vu])
end Go.Proofs.Ytccidiflnmchiaa
