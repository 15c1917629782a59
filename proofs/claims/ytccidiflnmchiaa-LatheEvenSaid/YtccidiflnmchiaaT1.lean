import Derived.Test.YtccidiflnmchiaaRows
import Derived.Test.YtccidiflnmchiaaBase
namespace Go.Proofs.Ytccidiflnmchiaa
open Go.RowKit

def withinB (n lo hi : Int) : Bool := decide (lo ≤ n) && decide (n ≤ hi)
structure Sheet where
  cols : Int
  rows : Int
  weight : Int
  clear : Int
  lean : Int
def Sheet.err (s : Sheet) : Int := if withinB s.cols 1 40 && withinB s.rows 1 60 && withinB s.weight 1 8 && withinB s.clear 0 20 && withinB s.lean 0 8 then 0 else 70
def Sheet.ok (s : Sheet) : Bool := withinB s.cols 1 40 && withinB s.rows 1 60 && withinB s.weight 1 8 && withinB s.clear 0 20 && withinB s.lean 0 8

set_option maxHeartbeats 400000 in
theorem within_c (n lo hi : Int) (w : World) : Calls Try.prog 57 #[.int .i64 n, .int .i64 lo, .int .i64 hi] w fun e w' => e = .returned (.bool (withinB n lo hi)) ∧ w = w' := by
  go_enter Try.func57, Try.ntmps57
  go_wp2
  all_goals (go_ret; refine ⟨ret_bool ?_, rfl⟩; go_light; grind [withinB])

theorem within_x (n lo hi : Int) (w : World) : Calls Try.prog 57 #[.int .i64 n, .int .i64 lo, .int .i64 hi] w fun e w' => e = .returned (.bool (withinB n lo hi)) ∧ Ext w w' :=
  (within_c n lo hi w).mono fun _ _ ⟨a, b⟩ => ⟨a, b ▸ Ext.refl _⟩
set_option maxHeartbeats 400000 in
theorem checkSheet_c (s : Sheet) (w : World) : Calls Try.prog 28 #[.agg #[.int .i64 s.cols, .int .i64 s.rows, .int .i64 s.weight, .int .i64 s.clear, .int .i64 s.lean]] w fun e w' => e = .returned (.int .i64 s.err) ∧ Ext w w' := by
  go_enter Try.func28, Try.ntmps28
  go_wp2_with (go_at_call 57; refine (within_c _ _ _ _).mono ?_; rintro e w' ⟨rfl, rfl⟩)
  all_goals (go_ret; refine ⟨ret_int ?_, (Ext.refl _).alloc _⟩; go_light; grind [Sheet.err])
end Go.Proofs.Ytccidiflnmchiaa
