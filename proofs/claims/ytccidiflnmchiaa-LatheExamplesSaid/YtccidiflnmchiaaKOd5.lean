/- Parts of the proof: a layer of values over the model, and contracts of functions. No condition. -/
import Derived.Test.YtccidiflnmchiaaKOd4
-- old go
namespace Go.Proofs.Ytccidiflnmchiaa
open Go.RowKit
def Screen.ok (c : Screen) : Bool := withinB c.period 2 16 && withinB c.phase 0 (c.period - 1)
theorem Screen.bounds {c : Screen} (h : c.ok = true) : 2 ≤ c.period ∧ c.period ≤ 16 ∧ 0 ≤ c.phase ∧ c.phase ≤ c.period - 1 := by
  simp only [Screen.ok, Bool.and_eq_true, withinB_iff] at h
  omega
def fitB (s : Sheet) (c : Screen) (i : Nat) : Bool := decide (c.phase + (i : Int) * c.period + c.period ≤ s.rows)
/-- The number of lines of a screen. -/
def cntF (s : Sheet) (c : Screen) : Nat := match (List.range 12).find? (fun i => !fitB s c i) with | some i => i | none => 12
theorem cntF_le (s : Sheet) (c : Screen) : cntF s c ≤ 12 := by
  unfold cntF
  split
  · rename_i i h
    have := List.mem_of_find?_eq_some h
    simp at this
    omega
  · omega
theorem cntF_in {s : Sheet} {c : Screen} {j : Nat} (h : j < cntF s c) : c.phase + (j : Int) * c.period + c.period ≤ s.rows := by
  have h12 := cntF_le s c
  unfold cntF at h
  split at h
  · rename_i i hf
    rw [List.find?_range_eq_some] at hf
    have := hf.2.2 j h
    simpa [fitB] using this
  · rename_i hf
    rw [List.find?_eq_none] at hf
    have := hf j (by simp; omega)
    simpa [fitB] using this
theorem cntF_out {s : Sheet} {c : Screen} (h : cntF s c < 12) : ¬ (c.phase + (cntF s c : Int) * c.period + c.period ≤ s.rows) := by
  unfold cntF at h ⊢
  split at h
  · rename_i i hf
    have := List.find?_some hf
    simpa [fitB] using this
  · omega
theorem mulP {c : Screen} (hc : c.ok = true) {k : Nat} (hk : k ≤ 12) : 0 ≤ (k : Int) * c.period ∧ (k : Int) * c.period ≤ 192 := by
  have hb := Screen.bounds hc
  refine ⟨Int.mul_nonneg (by omega) (by omega), ?_⟩
  have h1 : (k : Int) * c.period ≤ 12 * 16 := Int.mul_le_mul (by omega) (by omega) (by omega) (by omega)
  omega
set_option maxHeartbeats 400000 in
theorem isScreen_p (c : Screen) : PCalls Try.prog 79 [c.enc] (· = vb c.ok) := by
  refine pcalls_of_aw Try.func79 rfl (Nat.le_of_ble_eq_true rfl) ?_
  (repeat' (first | (refine ar_isq ?_; first | refine ar_q (qs_move rfl) (dc rfl) ?_ | refine ar_q (qs_assign rfl) (dc rfl) ?_ | (refine is_load ?_; first | refine ar_q (qs_load_ptr (ty rfl) rfl rfl (by first | exact Nat.one_pos | assumption | omega) rfl) (dc rfl) ?_ | refine ar_q (qs_load_ref (ty rfl) rfl rfl) (dc rfl) ?_) | refine ar_q (qs_sub rfl rfl (wrap64 (by omega))) (dc rfl) ?_ | (refine is_fieldAddr ?_; first | refine ar_q (qs_faddr_ptr (ty rfl) rfl rfl (ty rfl) (Nat.succ_ne_zero _) rfl) (dc rfl) ?_ | refine ar_q (qs_faddr_ref (ty rfl) rfl rfl (ty rfl) (Nat.succ_ne_zero _) rfl) (dc rfl) ?_) | (refine is_pick ?_; first | refine ar_q (qs_pick_t rfl rfl) (dc rfl) ?_ | refine ar_q (qs_pick_f rfl rfl) (dc rfl) ?_)) | (refine ar_pcall (own := false) fn57 rfl rfl (.cons (.closed rfl) (.cons (.closed rfl) (.cons (.closed rfl) .nil))) (within_p _ _ _) (by simp) (dc rfl) ?_; intro _ hv; subst hv) | (refine ar_boxf rfl rfl (dc rfl) ?_) | (refine ar_guard rfl rfl rfl rfl (dc rfl) ?_ ?_ <;> intro hg <;> first | exact absurd hg (by decide) | ((try simp only [Bool.not_eq_true', Bool.not_eq_false', Bool.not_true, Bool.not_false, decide_eq_true_eq, decide_eq_false_iff_not, not_true_eq_false, Int.not_lt, Int.not_le, withinB_iff, withinB_no] at hg); (try (have _h : True := hg; clear _h hg)); first | (exfalso; omega) | skip)) | (refine ar_guard_u rfl rfl rfl rfl (dc rfl) ?_) | (refine ar_nil ?_) | (refine aw_seq ?_) | (refine aw_skip ?_) | (refine aw_block ?_) | (refine aw_exit ?_) | (refine aw_region ?_) | (refine aw_cond rfl ?_ ?_ <;> intro hg <;> first | exact absurd hg (by decide) | ((try simp only [Bool.not_eq_true', Bool.not_eq_false', Bool.not_true, Bool.not_false, decide_eq_true_eq, decide_eq_false_iff_not, not_true_eq_false, Int.not_lt, Int.not_le, withinB_iff, withinB_no] at hg); (try (have _h : True := hg; clear _h hg)); first | (exfalso; omega) | skip))))
  all_goals (refine aw_ret ?_; (repeat (first | refine ret_then ?_ | refine ret_block ?_)); refine bq1 rfl ⟨?_, rfl⟩)
  all_goals (simp only [vb, constV, Screen.ok, withinB]; congr 2; simp; try omega)
end Go.Proofs.Ytccidiflnmchiaa
namespace Go.Proofs.Ytccidiflnmchiaa.It
open Go.RowKit
def rowEl (c : Screen) (k : Nat) : List Value := [.int .i64 k, .int .i64 (c.phase + (k : Int) * c.period)]
set_option maxHeartbeats 1000000 in
theorem rows_iter (s : Sheet) (hs : s.ok = true) (c : Screen) (hc : c.ok = true) : Iter Try.prog 94 [.ref c.enc 0, .ref s.enc 0] (cntF s c) (rowEl c) := by
  have hb := Sheet.bounds hs
  have hcb := Screen.bounds hc
  have h12 := cntF_le s c
  refine iter_of_aw Try.func94 rfl (dc rfl) rfl fun C hN hel => ?_
  (repeat' (first | (refine ar_isq ?_; first | refine ar_q (qs_move rfl) (dc rfl) ?_ | refine ar_q (qs_assign rfl) (dc rfl) ?_ | (refine is_load ?_; first | refine ar_q (qs_load_ptr (ty rfl) rfl rfl (by first | exact Nat.one_pos | assumption | omega) rfl) (dc rfl) ?_ | refine ar_q (qs_load_ref (ty rfl) rfl rfl) (dc rfl) ?_) | (refine is_binOp ?_; first | refine ar_q (qs_lss rfl rfl) (dc rfl) ?_ | refine ar_q (qs_gtr rfl rfl) (dc rfl) ?_ | refine ar_q (qs_add rfl rfl (wrap64 (by omega))) (dc rfl) ?_ | refine ar_q (qs_mul rfl rfl (wrap64 (by omega))) (dc rfl) ?_) | (refine is_fieldAddr ?_; first | refine ar_q (qs_faddr_ptr (ty rfl) rfl rfl (ty rfl) (Nat.succ_ne_zero _) rfl) (dc rfl) ?_ | refine ar_q (qs_faddr_ref (ty rfl) rfl rfl (ty rfl) (Nat.succ_ne_zero _) rfl) (dc rfl) ?_) | (refine is_pick ?_; first | refine ar_q (qs_pick_t rfl rfl) (dc rfl) ?_ | refine ar_q (qs_pick_f rfl rfl) (dc rfl) ?_) | refine ar_q (qs_not rfl) (dc rfl) ?_) | (refine ar_guard rfl rfl rfl rfl (dc rfl) ?_ ?_ <;> intro hg <;> first | exact absurd hg (by decide) | ((first | replace hg := hgT hg | replace hg := hgF hg | replace hg := hgNT hg | replace hg := hgNF hg | replace hg := hgBT hg | replace hg := hgBF hg | replace hg := hgV hg | replace hg := hgW hg | skip); (try dsimp only at hg); (try (have _h : True := hg; clear _h hg)); first | (exfalso; omega) | skip)) | (refine ar_guard_u rfl rfl rfl rfl (dc rfl) ?_) | (refine ar_nil ?_) | (refine aw_seq ?_) | (refine aw_skip ?_) | (refine aw_block ?_) | (refine aw_exit ?_) | (refine aw_region ?_) | (refine aw_cond rfl ?_ ?_ <;> intro hg <;> first | exact absurd hg (by decide) | ((first | replace hg := hgT hg | replace hg := hgF hg | replace hg := hgNT hg | replace hg := hgNF hg | replace hg := hgBT hg | replace hg := hgBF hg | replace hg := hgV hg | replace hg := hgW hg | skip); (try dsimp only at hg); (try (have _h : True := hg; clear _h hg)); first | (exfalso; omega) | skip))))
  refine aw_for (cntF s c) (fun k => [(0, .s (.func (.yield C.l) #[] #[])), (1, .ref c.enc 0), (2, .ref s.enc 0), (6, vi k)]) (Nat.zero_le _) ⟨rfl, rfl, rfl, rfl, trivial⟩ ?_
  intro k hk
  have hm := mulP hc (k := k) (by omega)
  by_cases hlt : k < cntF s c
  · have hin := cntF_in hlt
    (repeat' (first | (refine ar_isq ?_; first | refine ar_q (qs_move rfl) (dc rfl) ?_ | refine ar_q (qs_assign rfl) (dc rfl) ?_ | (refine is_load ?_; first | refine ar_q (qs_load_ptr (ty rfl) rfl rfl (by first | exact Nat.one_pos | assumption | omega) rfl) (dc rfl) ?_ | refine ar_q (qs_load_ref (ty rfl) rfl rfl) (dc rfl) ?_) | (refine is_binOp ?_; first | refine ar_q (qs_lss rfl rfl) (dc rfl) ?_ | refine ar_q (qs_gtr rfl rfl) (dc rfl) ?_ | refine ar_q (qs_add rfl rfl (wrap64 (by omega))) (dc rfl) ?_ | refine ar_q (qs_mul rfl rfl (wrap64 (by omega))) (dc rfl) ?_) | (refine is_fieldAddr ?_; first | refine ar_q (qs_faddr_ptr (ty rfl) rfl rfl (ty rfl) (Nat.succ_ne_zero _) rfl) (dc rfl) ?_ | refine ar_q (qs_faddr_ref (ty rfl) rfl rfl (ty rfl) (Nat.succ_ne_zero _) rfl) (dc rfl) ?_) | (refine is_pick ?_; first | refine ar_q (qs_pick_t rfl rfl) (dc rfl) ?_ | refine ar_q (qs_pick_f rfl rfl) (dc rfl) ?_) | refine ar_q (qs_not rfl) (dc rfl) ?_) | (refine ar_yield (us := rowEl c k) rfl rfl (by rw [hN]; exact hlt) (by rw [hel]) (dc rfl) ?_) | (refine ar_guard rfl rfl rfl rfl (dc rfl) ?_ ?_ <;> intro hg <;> first | exact absurd hg (by decide) | ((first | replace hg := hgT hg | replace hg := hgF hg | replace hg := hgNT hg | replace hg := hgNF hg | replace hg := hgBT hg | replace hg := hgBF hg | replace hg := hgV hg | replace hg := hgW hg | skip); (try dsimp only at hg); (try (have _h : True := hg; clear _h hg)); first | (exfalso; omega) | skip)) | (refine ar_guard_u rfl rfl rfl rfl (dc rfl) ?_) | (refine ar_nil ?_) | (refine aw_seq ?_) | (refine aw_skip ?_) | (refine aw_block ?_) | (refine aw_exit ?_) | (refine aw_region ?_) | (refine aw_cond rfl ?_ ?_ <;> intro hg <;> first | exact absurd hg (by decide) | ((first | replace hg := hgT hg | replace hg := hgF hg | replace hg := hgNT hg | replace hg := hgNF hg | replace hg := hgBT hg | replace hg := hgBF hg | replace hg := hgV hg | replace hg := hgW hg | skip); (try dsimp only at hg); (try (have _h : True := hg; clear _h hg)); first | (exfalso; omega) | skip))))
    all_goals first
      | (exfalso; omega)
      | exact loop_next hlt rfl ⟨rfl, rfl, rfl, rfl, trivial⟩
  · obtain rfl : k = cntF s c := by omega
    have hout := fun h => cntF_out (s := s) (c := c) h
    (repeat' (first | (refine ar_isq ?_; first | refine ar_q (qs_move rfl) (dc rfl) ?_ | refine ar_q (qs_assign rfl) (dc rfl) ?_ | (refine is_load ?_; first | refine ar_q (qs_load_ptr (ty rfl) rfl rfl (by first | exact Nat.one_pos | assumption | omega) rfl) (dc rfl) ?_ | refine ar_q (qs_load_ref (ty rfl) rfl rfl) (dc rfl) ?_) | (refine is_binOp ?_; first | refine ar_q (qs_lss rfl rfl) (dc rfl) ?_ | refine ar_q (qs_gtr rfl rfl) (dc rfl) ?_ | refine ar_q (qs_add rfl rfl (wrap64 (by omega))) (dc rfl) ?_ | refine ar_q (qs_mul rfl rfl (wrap64 (by omega))) (dc rfl) ?_) | (refine is_fieldAddr ?_; first | refine ar_q (qs_faddr_ptr (ty rfl) rfl rfl (ty rfl) (Nat.succ_ne_zero _) rfl) (dc rfl) ?_ | refine ar_q (qs_faddr_ref (ty rfl) rfl rfl (ty rfl) (Nat.succ_ne_zero _) rfl) (dc rfl) ?_) | (refine is_pick ?_; first | refine ar_q (qs_pick_t rfl rfl) (dc rfl) ?_ | refine ar_q (qs_pick_f rfl rfl) (dc rfl) ?_) | refine ar_q (qs_not rfl) (dc rfl) ?_) | (refine ar_guard rfl rfl rfl rfl (dc rfl) ?_ ?_ <;> intro hg <;> first | exact absurd hg (by decide) | ((first | replace hg := hgT hg | replace hg := hgF hg | replace hg := hgNT hg | replace hg := hgNF hg | replace hg := hgBT hg | replace hg := hgBF hg | replace hg := hgV hg | replace hg := hgW hg | skip); (try dsimp only at hg); (try (have _h : True := hg; clear _h hg)); first | (exfalso; omega) | skip)) | (refine ar_guard_u rfl rfl rfl rfl (dc rfl) ?_) | (refine ar_nil ?_) | (refine aw_seq ?_) | (refine aw_skip ?_) | (refine aw_block ?_) | (refine aw_exit ?_) | (refine aw_region ?_) | (refine aw_cond rfl ?_ ?_ <;> intro hg <;> first | exact absurd hg (by decide) | ((first | replace hg := hgT hg | replace hg := hgF hg | replace hg := hgNT hg | replace hg := hgNF hg | replace hg := hgBT hg | replace hg := hgBF hg | replace hg := hgV hg | replace hg := hgW hg | skip); (try dsimp only at hg); (try (have _h : True := hg; clear _h hg)); first | (exfalso; omega) | skip))))
    all_goals first
      | (exfalso; omega)
      | exact aw_ret (show cntF s c = cntF s c from rfl)
      | exact (rfl : cntF s c = cntF s c)
end Go.Proofs.Ytccidiflnmchiaa.It
namespace Go.Proofs.Ytccidiflnmchiaa
open Go.RowKit
set_option maxHeartbeats 1000000 in
theorem rows_p (s : Sheet) (c : Screen) : PCalls Try.prog 80 [s.enc, c.enc] (· = .fn (.func 94) [] [.ref c.enc 0, .ref s.enc 0]) := by
  refine pcalls_of_aw Try.func80 rfl (Nat.le_of_ble_eq_true rfl) ?_
  (repeat' (first | (refine ar_isq ?_; first | refine ar_q (qs_assign rfl) (dc rfl) ?_ | refine ar_q (qs_makeFunc rfl rfl) (dc rfl) ?_) | (refine ar_boxf rfl rfl (dc rfl) ?_) | (refine ar_nil ?_) | (refine aw_seq ?_) | (refine aw_skip ?_) | (refine aw_block ?_) | (refine aw_exit ?_) | (refine aw_region ?_) | (refine aw_cond rfl ?_ ?_ <;> intro hg <;> first | exact absurd hg (by decide) | ((first | replace hg := hgT hg | replace hg := hgF hg | replace hg := hgNT hg | replace hg := hgNF hg | replace hg := hgBT hg | replace hg := hgBF hg | replace hg := hgV hg | replace hg := hgW hg | skip); (try dsimp only at hg); (try (have _h : True := hg; clear _h hg)); first | (exfalso; omega) | skip))))
  (refine aw_mono_r (env' := [(4, .fn (.func 94) [] [.ref c.enc 0, .ref s.enc 0])]) (H' := []) ?_ ?_; (focus ((refine sub_to [] [0, 1] rfl ?_ ?_ <;> (repeat' (first | exact trivial | refine ⟨⟨_, rfl, ?_⟩, ?_⟩ | refine ⟨bsub_snoc rfl rfl (fun _ => rfl) ?_, ?_⟩ | refine ⟨bsub_one rfl rfl ?_, ?_⟩ | refine ⟨bsub_all rfl rfl (fun _ _ => rfl) (fun _ => rfl), ?_⟩ | refine ⟨bsub_updL rfl rfl ?_ (fun _ _ _ => rfl) (fun _ => rfl), ?_⟩ | refine ⟨.inl ⟨_, _, rfl, rfl, ?_⟩, ?_⟩ | exact ⟨.inr ⟨rfl, rfl⟩, trivial⟩ | refine ⟨.inr ⟨rfl, rfl⟩, ?_⟩ | (intro _ _) | exact .closed rfl | exact .sl rfl | exact .ptr rfl | exact .map rfl | exact .nil rfl | exact .emp rfl | exact .nilList | exact .empList | exact frzPtr' (by simp; done) rfl (by omega) rfl rfl | exact frzLB (by simp; done) rfl (fun _ => rfl) rfl | exact frz_all (by simp; done) rfl (fun _ _ => rfl) (fun _ => rfl) rfl | exact .frz (by simp; done) rfl (by omega) (fun _ _ => rfl) (fun _ _ => rfl) | exact slEq rfl (by first | (simp; done) | (simp; omega)) | exact siEq (by omega) | (exact fn2_sub (frzPtr' (by simp) rfl (by omega) rfl rfl) (frzPtr' (by simp) rfl (by omega) rfl rfl)) | exact .of_eq (by refine (show V.agg _ = V.agg _ from ?_); (try dsimp only); congr <;> first | rfl | omega) rfl | exact .closed (by simp [V.closed, V.closed.all, *]; done) | fail))); done)))
  (refine aw_ret ?_; (repeat (first | refine ret_then ?_ | refine ret_block ?_)); refine bq1 rfl ⟨?_, rfl⟩)
  rfl
end Go.Proofs.Ytccidiflnmchiaa
namespace Go.Proofs.Ytccidiflnmchiaa
open Go.RowKit
def roomErr (s : Sheet) (c : Screen) : Int := if s.ok then (if c.ok then (if c.period - s.weight - s.clear < 0 then 71 else 0) else 2) else 70
def roomN (s : Sheet) (c : Screen) : Int := if roomErr s c = 0 then (cntF s c : Int) else 0
def roomW (s : Sheet) (c : Screen) : Int := if roomErr s c = 0 then c.period - s.weight - s.clear else 0
theorem room_ok {s : Sheet} {c : Screen} (h : roomErr s c = 0) : s.ok = true ∧ c.ok = true ∧ 0 ≤ c.period - s.weight - s.clear ∧ roomN s c = cntF s c ∧ roomW s c = c.period - s.weight - s.clear := by
  have h0 := h
  unfold roomErr at h
  split at h
  · split at h
    · split at h
      · omega
      · exact ⟨by assumption, by assumption, by omega, by simp [roomN, h0], by simp [roomW, h0]⟩
    · omega
  · omega
theorem room_bad {s : Sheet} {c : Screen} {e : Int} (h : roomErr s c = e) (he : e ≠ 0) : roomN s c = 0 ∧ roomW s c = 0 := by
  subst h
  exact ⟨by simp [roomN, he], by simp [roomW, he]⟩
def encRoom (s : Sheet) (c : Screen) : V := .tup [vi (roomN s c), vi (roomW s c), vi (roomErr s c)]
set_option maxHeartbeats 1000000 in
theorem lRoom_p (s : Sheet) (c : Screen) : PCalls Try.prog 43 [s.enc, c.enc] (· = encRoom s c) := by
  cases hs : s.ok
  · have he : roomErr s c = 70 := by simp [roomErr, hs]
    have h1 := err_bad hs
    obtain ⟨e1, e2⟩ := room_bad he (by decide)
    rw [encRoom, e1, e2, he]
    refine pcalls_of_aw Try.func43 rfl (Nat.le_of_ble_eq_true rfl) ?_
    (repeat' (first | (refine ar_isq ?_; first | refine zmv ?_ | refine zas ?_ | (refine is_load ?_; first | refine zlp ?_ | refine zlr ?_) | (refine is_binOp ?_; first | refine zlss ?_ | refine zneq ?_ | refine zadd ?_ | refine zsub ?_) | (refine is_fieldAddr ?_; first | refine zfp ?_ | refine zfr ?_) | refine znt ?_) | (refine ar_pcall (own := false) fn28 rfl rfl (.cons (.closed rfl) .nil) (checkSheet_p _) (by simp) (dc rfl) ?_; intro _ hv; subst hv) | (refine zbx ?_) | (refine zal ?_) | (refine zsvs ?_) | (refine zsva ?_) | (refine zses ?_) | (refine zsea ?_) | (refine ar_nil ?_) | (refine aw_seq ?_) | (refine aw_skip ?_) | (refine aw_block ?_) | (refine aw_exit ?_) | (refine aw_region ?_) | (refine zco ?_ ?_ <;> intro hg <;> first | exact absurd hg (by decide) | ((try replace hg := HG.out hg); (try dsimp only at hg); (try (have _h : True := hg; clear _h hg)); first | (exfalso; omega) | skip))))
    all_goals first
      | (exfalso; omega)
      | ((refine aw_ret ?_; (repeat (first | refine ret_then ?_ | refine ret_block ?_)); refine bq3c (ty rfl) rfl rfl Nat.one_pos rfl rfl rfl ⟨?_, rfl⟩); simp only [h1]; rfl)
  · cases hc : c.ok
    · have he : roomErr s c = 2 := by simp [roomErr, hs, hc]
      have h1 := err_ok hs
      obtain ⟨e1, e2⟩ := room_bad he (by decide)
      rw [encRoom, e1, e2, he]
      refine pcalls_of_aw Try.func43 rfl (Nat.le_of_ble_eq_true rfl) ?_
      (repeat' (first | (refine ar_isq ?_; first | refine zmv ?_ | refine zas ?_ | (refine is_load ?_; first | refine zlp ?_ | refine zlr ?_) | (refine is_binOp ?_; first | refine zlss ?_ | refine zneq ?_ | refine zadd ?_ | refine zsub ?_) | (refine is_fieldAddr ?_; first | refine zfp ?_ | refine zfr ?_) | refine znt ?_) | (refine ar_pcall (own := false) fn28 rfl rfl (.cons (.closed rfl) .nil) (checkSheet_p _) (by simp) (dc rfl) ?_; intro _ hv; subst hv) | (refine ar_pcall (own := false) fn79 rfl rfl (.cons (.closed rfl) .nil) (isScreen_p c) (by simp) (dc rfl) ?_; intro _ hv; subst hv) | (refine zbx ?_) | (refine zal ?_) | (refine zsvs ?_) | (refine zsva ?_) | (refine zses ?_) | (refine zsea ?_) | (refine ar_nil ?_) | (refine aw_seq ?_) | (refine aw_skip ?_) | (refine aw_block ?_) | (refine aw_exit ?_) | (refine aw_region ?_) | (refine zco ?_ ?_ <;> intro hg <;> first | exact absurd hg (by decide) | ((try replace hg := HG.out hg); (try dsimp only at hg); (try (have _h : True := hg; clear _h hg)); first | (exfalso; omega) | skip))))
      all_goals first
        | (exfalso; omega)
        | (exfalso; simp_all; done)
        | ((refine aw_ret ?_; (repeat (first | refine ret_then ?_ | refine ret_block ?_)); refine bq3c (ty rfl) rfl rfl Nat.one_pos rfl rfl rfl ⟨?_, rfl⟩); rfl)
    · have hbd := Sheet.bounds hs
      have hcb := Screen.bounds hc
      have h1 := err_ok hs
      have hc12 := cntF_le s c
      refine pcalls_of_aw Try.func43 rfl (Nat.le_of_ble_eq_true rfl) ?_
      (repeat' (first | (refine ar_isq ?_; first | refine zmv ?_ | refine zas ?_ | (refine is_load ?_; first | refine zlp ?_ | refine zlr ?_) | (refine is_binOp ?_; first | refine zlss ?_ | refine zneq ?_ | refine zadd ?_ | refine zsub ?_) | (refine is_fieldAddr ?_; first | refine zfp ?_ | refine zfr ?_) | refine znt ?_) | (refine ar_pcall (own := false) fn28 rfl rfl (.cons (.closed rfl) .nil) (checkSheet_p _) (by simp) (dc rfl) ?_; intro _ hv; subst hv) | (refine ar_pcall (own := false) fn79 rfl rfl (.cons (.closed rfl) .nil) (isScreen_p c) (by simp) (dc rfl) ?_; intro _ hv; subst hv) | (refine ar_pcall (own := false) fn80 rfl rfl (.cons (.closed rfl) (.cons (.closed rfl) .nil)) (rows_p s c) (by simp) (dc rfl) ?_; intro _ hv; subst hv) | (refine zbx ?_) | (refine zal ?_) | (refine zsvs ?_) | (refine zsva ?_) | (refine zses ?_) | (refine zsea ?_) | (refine ar_nil ?_) | (refine aw_seq ?_) | (refine aw_skip ?_) | (refine aw_block ?_) | (refine aw_exit ?_) | (refine aw_region ?_) | (refine zco ?_ ?_ <;> intro hg <;> first | exact absurd hg (by decide) | ((try replace hg := HG.out hg); (try dsimp only at hg); (try (have _h : True := hg; clear _h hg)); first | (exfalso; omega) | skip))))
      all_goals (try (exfalso; simp_all; done))
      · have he : roomErr s c = 71 := by simp [roomErr, hs, hc]; omega
        obtain ⟨e1, e2⟩ := room_bad he (by decide)
        rw [encRoom, e1, e2, he]
        (refine aw_ret ?_; (repeat (first | refine ret_then ?_ | refine ret_block ?_)); refine bq3c (ty rfl) rfl rfl Nat.one_pos rfl rfl rfl ⟨?_, rfl⟩)
        rfl
      have he : roomErr s c = 0 := by simp [roomErr, hs, hc]; omega
      obtain ⟨_, _, _, e1, e2⟩ := room_ok he
      rw [encRoom, e1, e2, he]
      (refine aw_mono_r (env' := [(4, .ptr 1 2 0 0), (5, vi (c.period - s.weight - s.clear)), (28, .fn (.func 94) [] [.ref c.enc 0, .ref s.enc 0])]) (H' := [.arr 5 1 (fun _ => s.enc), .arr 2 1 (fun _ => c.enc), .arr 1 1 (fun _ => vi 0)]) ?_ ?_; (focus ((refine sub_to [some 0, some 1, some 2] [] rfl ?_ ?_ <;> (repeat' (first | exact trivial | refine ⟨⟨_, rfl, ?_⟩, ?_⟩ | refine ⟨bsub_snoc rfl rfl (fun _ => rfl) ?_, ?_⟩ | refine ⟨bsub_one rfl rfl ?_, ?_⟩ | refine ⟨bsub_all rfl rfl (fun _ _ => rfl) (fun _ => rfl), ?_⟩ | refine ⟨bsub_updL rfl rfl ?_ (fun _ _ _ => rfl) (fun _ => rfl), ?_⟩ | refine ⟨.inl ⟨_, _, rfl, rfl, ?_⟩, ?_⟩ | exact ⟨.inr ⟨rfl, rfl⟩, trivial⟩ | refine ⟨.inr ⟨rfl, rfl⟩, ?_⟩ | (intro _ _) | exact .closed rfl | exact .sl rfl | exact .ptr rfl | exact .map rfl | exact .nil rfl | exact .emp rfl | exact .nilList | exact .empList | exact frzPtr' (by simp; done) rfl (by omega) rfl rfl | exact frzLB (by simp; done) rfl (fun _ => rfl) rfl | exact frz_all (by simp; done) rfl (fun _ _ => rfl) (fun _ => rfl) rfl | exact .frz (by simp; done) rfl (by omega) (fun _ _ => rfl) (fun _ _ => rfl) | exact slEq rfl (by first | (simp; done) | (simp; omega)) | exact siEq (by omega) | exact .of_eq (by refine (show V.agg _ = V.agg _ from ?_); (try dsimp only); congr <;> first | rfl | omega) rfl | exact .closed (by simp [V.closed, V.closed.all, *]; done) | fail))); done)))
      refine aw_range (fun k => [.arr 5 1 (fun _ => s.enc), .arr 2 1 (fun _ => c.enc), .arr 1 1 (fun _ => vi k)]) _ rfl rfl fn94 (It.rows_iter s hs c hc) (fun _ _ => rfl) (by decide) (fun k _ => rfl) ?maps ?start ?round ?done
      case maps => intro k j ms; match j with | 0 | 1 | 2 => simp | j + 3 => simp
      case start => (refine sub_to [some 0, some 1, some 2] [] rfl ?_ ?_ <;> (repeat' (first | exact trivial | refine ⟨⟨_, rfl, ?_⟩, ?_⟩ | refine ⟨bsub_snoc rfl rfl (fun _ => rfl) ?_, ?_⟩ | refine ⟨bsub_one rfl rfl ?_, ?_⟩ | refine ⟨bsub_all rfl rfl (fun _ _ => rfl) (fun _ => rfl), ?_⟩ | refine ⟨bsub_updL rfl rfl ?_ (fun _ _ _ => rfl) (fun _ => rfl), ?_⟩ | refine ⟨.inl ⟨_, _, rfl, rfl, ?_⟩, ?_⟩ | exact ⟨.inr ⟨rfl, rfl⟩, trivial⟩ | refine ⟨.inr ⟨rfl, rfl⟩, ?_⟩ | (intro _ _) | exact .closed rfl | exact .sl rfl | exact .ptr rfl | exact .map rfl | exact .nil rfl | exact .emp rfl | exact .nilList | exact .empList | exact frzPtr' (by simp; done) rfl (by omega) rfl rfl | exact frzLB (by simp; done) rfl (fun _ => rfl) rfl | exact frz_all (by simp; done) rfl (fun _ _ => rfl) (fun _ => rfl) rfl | exact .frz (by simp; done) rfl (by omega) (fun _ _ => rfl) (fun _ _ => rfl) | exact slEq rfl (by first | (simp; done) | (simp; omega)) | exact siEq (by omega) | exact .of_eq (by refine (show V.agg _ = V.agg _ from ?_); (try dsimp only); congr <;> first | rfl | omega) rfl | exact .closed (by simp [V.closed, V.closed.all, *]; done) | fail)))
      case round =>
        intro k lp hk
        (repeat' (first | (refine ar_isq ?_; first | refine zmv ?_ | refine zas ?_ | (refine is_load ?_; first | refine zlp ?_ | refine zlr ?_) | (refine is_binOp ?_; first | refine zlss ?_ | refine zneq ?_ | refine zadd ?_ | refine zsub ?_) | (refine is_fieldAddr ?_; first | refine zfp ?_ | refine zfr ?_) | refine znt ?_) | (refine zbx ?_) | (refine zal ?_) | (refine zsvs ?_) | (refine zsva ?_) | (refine zses ?_) | (refine zsea ?_) | (refine ar_nil ?_) | (refine aw_seq ?_) | (refine aw_skip ?_) | (refine aw_block ?_) | (refine aw_exit ?_) | (refine aw_region ?_) | (refine zco ?_ ?_ <;> intro hg <;> first | exact absurd hg (by decide) | ((try replace hg := HG.out hg); (try dsimp only at hg); (try (have _h : True := hg; clear _h hg)); first | (exfalso; omega) | skip))))
        refine (show SubOf _ _ _ _ _ _ from ?_)
        (refine sub_to [some 0, some 1, some 2] [] rfl ?_ ?_ <;> (repeat' (first | exact trivial | refine ⟨⟨_, rfl, ?_⟩, ?_⟩ | refine ⟨bsub_snoc rfl rfl (fun _ => rfl) ?_, ?_⟩ | refine ⟨bsub_one rfl rfl ?_, ?_⟩ | refine ⟨bsub_all rfl rfl (fun _ _ => rfl) (fun _ => rfl), ?_⟩ | refine ⟨bsub_updL rfl rfl ?_ (fun _ _ _ => rfl) (fun _ => rfl), ?_⟩ | refine ⟨.inl ⟨_, _, rfl, rfl, ?_⟩, ?_⟩ | exact ⟨.inr ⟨rfl, rfl⟩, trivial⟩ | refine ⟨.inr ⟨rfl, rfl⟩, ?_⟩ | (intro _ _) | exact .closed rfl | exact .sl rfl | exact .ptr rfl | exact .map rfl | exact .nil rfl | exact .emp rfl | exact .nilList | exact .empList | exact frzPtr' (by simp; done) rfl (by omega) rfl rfl | exact frzLB (by simp; done) rfl (fun _ => rfl) rfl | exact frz_all (by simp; done) rfl (fun _ _ => rfl) (fun _ => rfl) rfl | exact .frz (by simp; done) rfl (by omega) (fun _ _ => rfl) (fun _ _ => rfl) | exact slEq rfl (by first | (simp; done) | (simp; omega)) | exact siEq (by omega) | exact .of_eq (by refine (show V.agg _ = V.agg _ from ?_); (try dsimp only); congr <;> first | rfl | omega) rfl | exact .closed (by simp [V.closed, V.closed.all, *]; done) | fail)))
      case done =>
        (repeat' (first | (refine ar_isq ?_; first | refine zmv ?_ | refine zas ?_ | (refine is_load ?_; first | refine zlp ?_ | refine zlr ?_) | (refine is_binOp ?_; first | refine zlss ?_ | refine zneq ?_ | refine zadd ?_ | refine zsub ?_) | (refine is_fieldAddr ?_; first | refine zfp ?_ | refine zfr ?_) | refine znt ?_) | (refine zbx ?_) | (refine zal ?_) | (refine zsvs ?_) | (refine zsva ?_) | (refine zses ?_) | (refine zsea ?_) | (refine ar_nil ?_) | (refine aw_seq ?_) | (refine aw_skip ?_) | (refine aw_block ?_) | (refine aw_exit ?_) | (refine aw_region ?_) | (refine zco ?_ ?_ <;> intro hg <;> first | exact absurd hg (by decide) | ((try replace hg := HG.out hg); (try dsimp only at hg); (try (have _h : True := hg; clear _h hg)); first | (exfalso; omega) | skip))))
        (refine aw_ret ?_; (repeat (first | refine ret_then ?_ | refine ret_block ?_)); refine bq3c (ty rfl) rfl rfl Nat.one_pos rfl rfl rfl ⟨?_, rfl⟩)
        rfl
end Go.Proofs.Ytccidiflnmchiaa
namespace Go.Proofs.Ytccidiflnmchiaa
open Go.RowKit
def fF (a : Int) (w : Nat → Int) : Nat → Int
  | 0 => w 0
  | j + 1 => min (w (j + 1)) (fF a w j + a)
def bD (a : Int) (w : Nat → Int) (n : Nat) : Nat → Int
  | 0 => fF a w (n - 1)
  | d + 1 => min (fF a w (n - 1 - (d + 1))) (bD a w n d + a)
def leanAt (a : Int) (w : Nat → Int) (n j : Nat) : Int := bD a w n (n - 1 - j)
def carryF (a : Int) (g : Nat → Int) (i j k : Nat) : Int := if k = j then min (g j) (g i + a) else g k
def gOne (a : Int) (w : Nat → Int) (c k : Nat) : Int := if k ≤ c then fF a w k else w k
def gTwo (a : Int) (w : Nat → Int) (n d k : Nat) : Int := if n ≤ k + 1 + d then leanAt a w n k else fF a w k
theorem gOne_zero (a : Int) (w : Nat → Int) (k : Nat) : gOne a w 0 k = w k := by
  unfold gOne
  split
  · obtain rfl : k = 0 := by omega
    rfl
  · rfl
theorem gOne_step (a : Int) (w : Nat → Int) (c k : Nat) : carryF a (gOne a w c) c (c + 1) k = gOne a w (c + 1) k := by
  unfold carryF gOne
  by_cases h : k = c + 1
  · subst h
    rw [if_pos rfl, if_neg (by omega), if_pos (Nat.le_refl c), if_pos (Nat.le_refl _)]
    rfl
  · rw [if_neg h]
    by_cases h2 : k ≤ c
    · rw [if_pos h2, if_pos (by omega)]
    · rw [if_neg h2, if_neg (by omega)]
theorem gTwo_zero {a : Int} {w : Nat → Int} {n c k : Nat} (hk : k < n) (hc : n ≤ c + 1) : gOne a w c k = gTwo a w n 0 k := by
  unfold gOne gTwo
  rw [if_pos (by omega)]
  split
  · obtain rfl : k = n - 1 := by omega
    simp [leanAt, bD]
  · rfl
theorem gTwo_step {a : Int} {w : Nat → Int} {n d i j : Nat} (hd : d + 1 < n) (hi : i = n - 1 - d) (hj : j = n - 1 - d - 1) (k : Nat) : carryF a (gTwo a w n d) i j k = gTwo a w n (d + 1) k := by
  subst hi hj
  unfold carryF gTwo
  by_cases h : k = n - 1 - d - 1
  · rw [if_pos h, if_neg (by omega), if_pos (by omega), if_pos (by omega)]
    unfold leanAt
    rw [show n - 1 - (n - 1 - d) = d by omega, show n - 1 - k = d + 1 by omega]
    simp only [bD]
    rw [show n - 1 - (d + 1) = n - 1 - d - 1 by omega]
  · rw [if_neg h]
    by_cases h2 : n ≤ k + 1 + d
    · rw [if_pos h2, if_pos (by omega)]
    · rw [if_neg h2, if_neg (by omega)]
theorem gTwo_end {a : Int} {w : Nat → Int} {n d k : Nat} (hd : n ≤ d + 1) : gTwo a w n d k = leanAt a w n k := by unfold gTwo; rw [if_pos (by omega)]
theorem fF_le (a : Int) (w : Nat → Int) : ∀ j, fF a w j ≤ w j
  | 0 => Int.le_refl _
  | j + 1 => by simp only [fF]; omega
theorem fF_bnd {a : Int} {w : Nat → Int} (ha : 0 ≤ a) : ∀ j, (∀ k, k ≤ j → 0 ≤ w k) → 0 ≤ fF a w j
  | 0, h => h 0 (Nat.le_refl _)
  | j + 1, h => by
    have := fF_bnd ha j fun k hk => h k (by omega)
    have := h (j + 1) (Nat.le_refl _)
    simp only [fF]; omega
theorem bD_bnd {a : Int} {w : Nat → Int} {n : Nat} (ha : 0 ≤ a) (hw : ∀ k, k < n → 0 ≤ w k) (hn : 0 < n) : ∀ d, 0 ≤ bD a w n d
  | 0 => fF_bnd ha _ fun k hk => hw k (by omega)
  | d + 1 => by
    have := bD_bnd ha hw hn d
    have := fF_bnd (w := w) ha (n - 1 - (d + 1)) fun k hk => hw k (by omega)
    simp only [bD]; omega
theorem bD_le (a : Int) (w : Nat → Int) (n : Nat) : ∀ d, bD a w n d ≤ fF a w (n - 1 - d)
  | 0 => Int.le_refl _
  | d + 1 => by simp only [bD]; omega
theorem lean_bnd {a : Int} {w : Nat → Int} {n k : Nat} (ha : 0 ≤ a) (hw : ∀ k, k < n → 0 ≤ w k ∧ w k ≤ 100) (hk : k < n) : 0 ≤ leanAt a w n k ∧ leanAt a w n k ≤ 100 := by
  refine ⟨bD_bnd ha (fun k hk => (hw k hk).1) (by omega) _, ?_⟩
  have h1 := bD_le a w n (n - 1 - k)
  rw [show n - 1 - (n - 1 - k) = k by omega] at h1
  have h2 := fF_le a w k
  have h3 := hw k hk
  unfold leanAt
  omega
end Go.Proofs.Ytccidiflnmchiaa
namespace Go.Proofs.Ytccidiflnmchiaa
open Go.RowKit
set_option maxHeartbeats 1000000 in
theorem clone_p (l : List Int) (hl : l.length ≤ 1000) : FCalls Try.prog 101 [encInts l] 1 (fun n f => n = l.length ∧ ∀ i, i < n → f i = vi (el l i)) := by
  refine fcalls_of_aw Try.func101 rfl (dc rfl) ?_
  (repeat' (first | (refine ar_isq ?_; first | refine zmv ?_ | refine zas ?_ | refine zeql ?_) | (refine ar_eqnil (ty rfl) rfl rfl rfl (dc rfl) ?_; intro bq hbq) | (refine zb1 ?_) | (refine zb0 ?_) | (refine zapoo ?_) | (refine zapol ?_) | (refine zapno ?_) | (refine zapnl ?_) | (refine zapeo ?_) | (refine zapel ?_) | (refine ar_nil ?_) | (refine aw_seq ?_) | (refine aw_skip ?_) | (refine aw_block ?_) | (refine aw_exit ?_) | (refine aw_region ?_) | (refine zco ?_ ?_ <;> intro hg <;> first | exact absurd hg (by decide) | ((try replace hg := HG.out hg); (try dsimp only at hg); (try (have _h : True := hg; clear _h hg)); first | (exfalso; omega) | skip))))
  · have h0 := hbq (by assumption)
    (refine aw_mono_r (env' := [(2, .sl 1 0 0 0)]) (H' := [.arr 1 0 (fun _ => vi 0)]) ?_ ?_; (focus ((refine sub_to [none] [] rfl ?_ ?_ <;> (repeat' (first | exact trivial | refine ⟨⟨_, rfl, ?_⟩, ?_⟩ | refine ⟨bsub_snoc rfl rfl (fun _ => rfl) ?_, ?_⟩ | refine ⟨bsub_one rfl rfl ?_, ?_⟩ | refine ⟨bsub_all rfl rfl (fun _ _ => rfl) (fun _ => rfl), ?_⟩ | refine ⟨bsub_updL rfl rfl ?_ (fun _ _ _ => rfl) (fun _ => rfl), ?_⟩ | refine ⟨.inl ⟨_, _, rfl, rfl, ?_⟩, ?_⟩ | exact ⟨.inr ⟨rfl, rfl⟩, trivial⟩ | refine ⟨.inr ⟨rfl, rfl⟩, ?_⟩ | (intro _ _) | exact .closed rfl | exact .sl rfl | exact .ptr rfl | exact .map rfl | exact .nil rfl | exact .emp rfl | exact .nilList | exact .empList | exact frzPtr' (by simp; done) rfl (by omega) rfl rfl | exact frzLB (by simp; done) rfl (fun _ => rfl) rfl | exact frz_all (by simp; done) rfl (fun _ _ => rfl) (fun _ => rfl) rfl | exact .frz (by simp; done) rfl (by omega) (fun _ _ => rfl) (fun _ _ => rfl) | exact slEq rfl (by first | (simp; done) | (simp; omega)) | exact siEq (by omega) | exact .of_eq (by refine (show V.agg _ = V.agg _ from ?_); (try dsimp only); congr <;> first | rfl | omega) rfl | exact .closed (by simp [V.closed, V.closed.all, *]; done) | fail))); done)))
    refine aw_ret (ret_then (bq1 rfl ⟨0, _, rfl, rfl, ⟨by omega, fun i hi => by omega⟩, fun i hi => by omega⟩))
  · refine aw_ret (bq1 rfl ⟨0 + l.length, _, rfl, rfl, ⟨Nat.zero_add _, fun i hi => by rw [appF_ge (Nat.zero_le _), Nat.sub_zero]⟩, fun i hi => by rw [appF_ge (Nat.zero_le _)]; rfl⟩)
set_option maxHeartbeats 1000000 in
theorem carry_a (s : Sheet) (hs : s.ok = true) (n : Nat) (g : Nat → Int) (i j : Nat) (hi : i < n) (hj : j < n) (hg : ∀ k, k < n → 0 ≤ g k ∧ g k ≤ 100) :
    ACalls Try.prog 102 [vi i, vi j, .ptr 1 2 0 0, .ptr 5 0 0 0] [.arr 5 1 (fun _ => s.enc), .arr 1 n (fun k => vi (g k)), .arr 1 1 (fun _ => .sl 1 1 0 n)]
      (fun v H' => v = .tup [] ∧ H' = [.arr 5 1 (fun _ => s.enc), .arr 1 n (fun k => vi (carryF s.lean g i j k)), .arr 1 1 (fun _ => .sl 1 1 0 n)]) NoP := by
  have hb := Sheet.bounds hs
  have h1 := hg i hi
  have h2 := hg j hj
  refine acalls_of_aw Try.func102 rfl (Nat.le_of_ble_eq_true rfl) ?_
  (repeat' (first | (refine ar_isq ?_; first | refine zmv ?_ | (refine is_load ?_; first | refine zlp ?_ | refine zlr ?_) | refine zadd ?_ | (refine is_fieldAddr ?_; first | refine zfp ?_ | refine zfr ?_) | (refine is_indexAddr ?_; first | refine zil ?_ | refine zis ?_ | refine zit ?_ | refine zia ?_ | refine zir ?_ | refine zil (j := j) ?_ | refine zis (j := j) ?_ | refine zit (j := j) ?_ | refine zil (j := i) ?_ | refine zis (j := i) ?_ | refine zit (j := i) ?_ | (refine zxl ?_; intro _ _ _) | (refine zxs ?_; intro _ _ _)) | refine zmin ?_) | (refine ar_store_as (fun k => vi (carryF s.lean g i j k)) (ty rfl) rfl rfl rfl rfl rfl rfl (by assumption) (by dsimp only; omega) (fun _ h => by cases h) rfl rfl (fun _ h => by cases h) (by simp [carryF, vi]) (fun k _ hk => by simp [carryF, hk]) ?_) | (refine zsvs ?_) | (refine zsva ?_) | (refine zses ?_) | (refine zsea ?_) | (refine ar_nil ?_) | (refine aw_seq ?_) | (refine aw_skip ?_) | (refine aw_block ?_) | (refine aw_exit ?_) | (refine aw_region ?_) | (refine aw_drawn (id := 0) [(0, 0), (1, 0), (2, 0), (3, 0), (4, 0), (5, 0), (6, 0), (7, 0), (8, 0), (9, 0), (10, 0), (11, 0), (12, 0), (13, 0), (14, 0), (15, 2)] mixed (by kernel_rfl) ?_) | (refine zco ?_ ?_ <;> intro hg <;> first | exact absurd hg (by decide) | ((try replace hg := HG.out hg); (try dsimp only at hg); (try (have _h : True := hg; clear _h hg)); first | (exfalso; omega) | skip))))
  exact bq0n ⟨rfl, rfl⟩
set_option maxHeartbeats 1000000 in
theorem lean_p (s : Sheet) (hs : s.ok = true) (l : List Int) (hl : l.length ≤ 1000) (hw : ∀ k, k < l.length → 0 ≤ el l k ∧ el l k ≤ 100) : FCalls Try.prog 97 [s.enc, encInts l] 1 (fun n f => n = l.length ∧ ∀ i, i < n → f i = vi (leanAt s.lean (el l) l.length i)) := by
  have hb := Sheet.bounds hs
  have hone : ∀ c k, k < l.length → 0 ≤ gOne s.lean (el l) c k ∧ gOne s.lean (el l) c k ≤ 100 := fun c k hk => by
    have h1 := fF_le s.lean (el l) k
    have h2 := fF_bnd (a := s.lean) (w := el l) (by omega) k fun q hq => (hw q (by omega)).1
    have h3 := hw k hk
    unfold gOne
    split <;> omega
  have htwo : ∀ d k, k < l.length → 0 ≤ gTwo s.lean (el l) l.length d k ∧ gTwo s.lean (el l) l.length d k ≤ 100 := fun d k hk => by
    have h1 := fF_le s.lean (el l) k
    have h2 := fF_bnd (a := s.lean) (w := el l) (by omega) k fun q hq => (hw q (by omega)).1
    have h3 := hw k hk
    have h4 := lean_bnd (a := s.lean) (w := el l) (n := l.length) (k := k) (by omega) hw hk
    unfold gTwo
    split <;> omega
  refine fcalls_of_aw Try.func97 rfl (dc rfl) ?_
  (repeat' (first | (refine ar_isq ?_; first | refine zmv ?_ | refine zas ?_ | (refine is_load ?_; first | refine zlp ?_ | refine zlr ?_) | (refine is_binOp ?_; first | refine zlss ?_ | refine zgtr ?_ | refine zadd ?_ | refine zsub ?_) | (refine is_call ?_; first | refine zll ?_ | refine zls ?_ | refine zln ?_ | refine zle ?_) | refine zmf ?_) | (refine ar_fcall fn101 rfl rfl (.cons (.closed rfl) .nil) (clone_p l hl) (dc rfl) ?_; rintro n0 g0 ⟨rfl, hg0⟩) | (refine zbx ?_) | (refine zal ?_) | (refine zsvs ?_) | (refine zsva ?_) | (refine zses ?_) | (refine zsea ?_) | (refine ar_nil ?_) | (refine aw_seq ?_) | (refine aw_skip ?_) | (refine aw_block ?_) | (refine aw_exit ?_) | (refine aw_region ?_) | (refine zco ?_ ?_ <;> intro hg <;> first | exact absurd hg (by decide) | ((try replace hg := HG.out hg); (try dsimp only at hg); (try (have _h : True := hg; clear _h hg)); first | (exfalso; omega) | skip))))
  refine aw_for (l.length - 1) (fun _ => True) (fun c => [(5, .ptr 1 2 0 0), (6, .fn (.func 102) [] [.ptr 1 2 0 0, .ptr 5 0 0 0]), (7, vi (c + 1))]) (fun c => [.arr 5 1 (fun _ => s.enc), .arr 1 l.length (fun k => vi (gOne s.lean (el l) c k)), .arr 1 1 (fun _ => .sl 1 1 0 l.length)]) trivial ?_ ?_
  · (refine sub_to [some 0, some 1, some 2] [] rfl ?_ ?_ <;> (repeat' (first | exact trivial | refine ⟨⟨_, rfl, ?_⟩, ?_⟩ | refine ⟨bsub_snoc rfl rfl (fun _ => rfl) ?_, ?_⟩ | refine ⟨bsub_one rfl rfl ?_, ?_⟩ | refine ⟨bsub_all rfl rfl (fun _ _ => rfl) (fun _ => rfl), ?_⟩ | refine ⟨bsub_updL rfl rfl ?_ (fun _ _ _ => rfl) (fun _ => rfl), ?_⟩ | refine ⟨.inl ⟨_, _, rfl, rfl, ?_⟩, ?_⟩ | exact ⟨.inr ⟨rfl, rfl⟩, trivial⟩ | refine ⟨.inr ⟨rfl, rfl⟩, ?_⟩ | (intro _ _) | exact .closed rfl | exact .sl rfl | exact .ptr rfl | exact .map rfl | exact .nil rfl | exact .emp rfl | exact .nilList | exact .empList | exact frzPtr' (by simp; done) rfl (by omega) rfl rfl | exact frzLB (by simp; done) rfl (fun _ => rfl) rfl | exact frz_all (by simp; done) rfl (fun _ _ => rfl) (fun _ => rfl) rfl | exact .frz (by simp; done) rfl (by omega) (fun _ _ => rfl) (fun _ _ => rfl) | exact slEq rfl (by first | (simp; done) | (simp; omega)) | exact siEq (by omega) | (first | exact fn2_sub (.ptr rfl) (.ptr rfl) | exact VSub.of_eq ((hg0 _ (by assumption)).trans (congrArg vi (gOne_zero _ _ _).symm)) rfl) | exact .of_eq (by refine (show V.agg _ = V.agg _ from ?_); (try dsimp only); congr <;> first | rfl | omega) rfl | exact .closed (by simp [V.closed, V.closed.all, *]; done) | fail)))
  intro c hc _
  by_cases hlt : c + 1 < l.length
  · (repeat' (first | (refine ar_isq ?_; first | refine zmv ?_ | refine zas ?_ | (refine is_load ?_; first | refine zlp ?_ | refine zlr ?_) | (refine is_binOp ?_; first | refine zlss ?_ | refine zgtr ?_ | refine zadd ?_ | refine zsub ?_) | (refine is_call ?_; first | refine zll ?_ | refine zls ?_ | refine zln ?_ | refine zle ?_) | refine zmf ?_) | ((refine ar_re (t := 20) (v' := vi (c : Int)) rfl (congrArg vi (by omega)) ?_; refine ar_re (t := 21) (v' := vi ((c + 1 : Nat) : Int)) rfl (congrArg vi (by omega)) ?_; refine ar_acall fn102 rfl rfl (carry_a s hs l.length (gOne s.lean (el l) c) c (c + 1) (by omega) hlt (fun k hk => hone c k hk)) (dc rfl) ?_ (fun _ _ h => h.elim); rintro _ _ ⟨rfl, rfl⟩)) | (refine zbx ?_) | (refine zal ?_) | (refine zsvs ?_) | (refine zsva ?_) | (refine zses ?_) | (refine zsea ?_) | (refine ar_nil ?_) | (refine aw_seq ?_) | (refine aw_skip ?_) | (refine aw_block ?_) | (refine aw_exit ?_) | (refine aw_region ?_) | (refine zco ?_ ?_ <;> intro hg <;> first | exact absurd hg (by decide) | ((try replace hg := HG.out hg); (try dsimp only at hg); (try (have _h : True := hg; clear _h hg)); first | (exfalso; omega) | skip))))
    all_goals first
      | (exfalso; omega)
      | ((first | refine loop_next (by omega) ?_ ?_ | refine (show _ ∧ _ ∧ SubOf _ _ _ _ _ _ from And.intro (by omega) (And.intro ?_ ?_))); (focus ((trivial); done)); (focus ((refine sub_to [some 0, some 1, some 2] [] rfl ?_ ?_ <;> (repeat' (first | exact trivial | refine ⟨⟨_, rfl, ?_⟩, ?_⟩ | refine ⟨bsub_snoc rfl rfl (fun _ => rfl) ?_, ?_⟩ | refine ⟨bsub_one rfl rfl ?_, ?_⟩ | refine ⟨bsub_all rfl rfl (fun _ _ => rfl) (fun _ => rfl), ?_⟩ | refine ⟨bsub_updL rfl rfl ?_ (fun _ _ _ => rfl) (fun _ => rfl), ?_⟩ | refine ⟨.inl ⟨_, _, rfl, rfl, ?_⟩, ?_⟩ | exact ⟨.inr ⟨rfl, rfl⟩, trivial⟩ | refine ⟨.inr ⟨rfl, rfl⟩, ?_⟩ | (intro _ _) | exact .closed rfl | exact .sl rfl | exact .ptr rfl | exact .map rfl | exact .nil rfl | exact .emp rfl | exact .nilList | exact .empList | exact frzPtr' (by simp; done) rfl (by omega) rfl rfl | exact frzLB (by simp; done) rfl (fun _ => rfl) rfl | exact frz_all (by simp; done) rfl (fun _ _ => rfl) (fun _ => rfl) rfl | exact .frz (by simp; done) rfl (by omega) (fun _ _ => rfl) (fun _ _ => rfl) | exact slEq rfl (by first | (simp; done) | (simp; omega)) | exact siEq (by omega) | (first | exact fn2_sub (.ptr rfl) (.ptr rfl) | exact siEq (by omega) | exact VSub.of_eq (congrArg vi (gOne_step _ _ _ _)) rfl) | exact .of_eq (by refine (show V.agg _ = V.agg _ from ?_); (try dsimp only); congr <;> first | rfl | omega) rfl | exact .closed (by simp [V.closed, V.closed.all, *]; done) | fail))); done)))
  · (repeat' (first | (refine ar_isq ?_; first | refine zmv ?_ | refine zas ?_ | (refine is_load ?_; first | refine zlp ?_ | refine zlr ?_) | (refine is_binOp ?_; first | refine zlss ?_ | refine zgtr ?_ | refine zadd ?_ | refine zsub ?_) | (refine is_call ?_; first | refine zll ?_ | refine zls ?_ | refine zln ?_ | refine zle ?_) | refine zmf ?_) | (refine zbx ?_) | (refine zal ?_) | (refine zsvs ?_) | (refine zsva ?_) | (refine zses ?_) | (refine zsea ?_) | (refine ar_nil ?_) | (refine aw_seq ?_) | (refine aw_skip ?_) | (refine aw_block ?_) | (refine aw_exit ?_) | (refine aw_region ?_) | (refine zco ?_ ?_ <;> intro hg <;> first | exact absurd hg (by decide) | ((try replace hg := HG.out hg); (try dsimp only at hg); (try (have _h : True := hg; clear _h hg)); first | (exfalso; omega) | skip))))
    all_goals (try (exfalso; omega))
    refine aw_for (l.length - 1) (fun _ => True) (fun d => [(5, .ptr 1 2 0 0), (6, .fn (.func 102) [] [.ptr 1 2 0 0, .ptr 5 0 0 0]), (8, vi ((l.length : Int) - 1 - d))]) (fun d => [.arr 5 1 (fun _ => s.enc), .arr 1 l.length (fun k => vi (gTwo s.lean (el l) l.length d k)), .arr 1 1 (fun _ => .sl 1 1 0 l.length)]) trivial ?_ ?_
    · (refine sub_to [some 0, some 1, some 2] [] rfl ?_ ?_ <;> (repeat' (first | exact trivial | refine ⟨⟨_, rfl, ?_⟩, ?_⟩ | refine ⟨bsub_snoc rfl rfl (fun _ => rfl) ?_, ?_⟩ | refine ⟨bsub_one rfl rfl ?_, ?_⟩ | refine ⟨bsub_all rfl rfl (fun _ _ => rfl) (fun _ => rfl), ?_⟩ | refine ⟨bsub_updL rfl rfl ?_ (fun _ _ _ => rfl) (fun _ => rfl), ?_⟩ | refine ⟨.inl ⟨_, _, rfl, rfl, ?_⟩, ?_⟩ | exact ⟨.inr ⟨rfl, rfl⟩, trivial⟩ | refine ⟨.inr ⟨rfl, rfl⟩, ?_⟩ | (intro _ _) | exact .closed rfl | exact .sl rfl | exact .ptr rfl | exact .map rfl | exact .nil rfl | exact .emp rfl | exact .nilList | exact .empList | exact frzPtr' (by simp; done) rfl (by omega) rfl rfl | exact frzLB (by simp; done) rfl (fun _ => rfl) rfl | exact frz_all (by simp; done) rfl (fun _ _ => rfl) (fun _ => rfl) rfl | exact .frz (by simp; done) rfl (by omega) (fun _ _ => rfl) (fun _ _ => rfl) | exact slEq rfl (by first | (simp; done) | (simp; omega)) | exact siEq (by omega) | (first | exact fn2_sub (.ptr rfl) (.ptr rfl) | exact siEq (by omega) | exact VSub.of_eq (congrArg vi (gTwo_zero (by assumption) (by omega))) rfl) | exact .of_eq (by refine (show V.agg _ = V.agg _ from ?_); (try dsimp only); congr <;> first | rfl | omega) rfl | exact .closed (by simp [V.closed, V.closed.all, *]; done) | fail)))
    intro d hd _
    by_cases hld : d + 1 < l.length
    · (repeat' (first | (refine ar_isq ?_; first | refine zmv ?_ | refine zas ?_ | (refine is_load ?_; first | refine zlp ?_ | refine zlr ?_) | (refine is_binOp ?_; first | refine zlss ?_ | refine zgtr ?_ | refine zadd ?_ | refine zsub ?_) | (refine is_call ?_; first | refine zll ?_ | refine zls ?_ | refine zln ?_ | refine zle ?_) | refine zmf ?_) | ((refine ar_re (t := 31) (v' := vi ((l.length - 1 - d : Nat) : Int)) rfl (congrArg vi (by omega)) ?_; refine ar_re (t := 33) (v' := vi ((l.length - 1 - d - 1 : Nat) : Int)) rfl (congrArg vi (by omega)) ?_; refine ar_acall fn102 rfl rfl (carry_a s hs l.length (gTwo s.lean (el l) l.length d) (l.length - 1 - d) (l.length - 1 - d - 1) (by omega) (by omega) (fun k hk => htwo d k hk)) (dc rfl) ?_ (fun _ _ h => h.elim); rintro _ _ ⟨rfl, rfl⟩)) | (refine zbx ?_) | (refine zal ?_) | (refine zsvs ?_) | (refine zsva ?_) | (refine zses ?_) | (refine zsea ?_) | (refine ar_nil ?_) | (refine aw_seq ?_) | (refine aw_skip ?_) | (refine aw_block ?_) | (refine aw_exit ?_) | (refine aw_region ?_) | (refine zco ?_ ?_ <;> intro hg <;> first | exact absurd hg (by decide) | ((try replace hg := HG.out hg); (try dsimp only at hg); (try (have _h : True := hg; clear _h hg)); first | (exfalso; omega) | skip))))
      all_goals first
        | (exfalso; omega)
        | ((first | refine loop_next (by omega) ?_ ?_ | refine (show _ ∧ _ ∧ SubOf _ _ _ _ _ _ from And.intro (by omega) (And.intro ?_ ?_))); (focus ((trivial); done)); (focus ((refine sub_to [some 0, some 1, some 2] [] rfl ?_ ?_ <;> (repeat' (first | exact trivial | refine ⟨⟨_, rfl, ?_⟩, ?_⟩ | refine ⟨bsub_snoc rfl rfl (fun _ => rfl) ?_, ?_⟩ | refine ⟨bsub_one rfl rfl ?_, ?_⟩ | refine ⟨bsub_all rfl rfl (fun _ _ => rfl) (fun _ => rfl), ?_⟩ | refine ⟨bsub_updL rfl rfl ?_ (fun _ _ _ => rfl) (fun _ => rfl), ?_⟩ | refine ⟨.inl ⟨_, _, rfl, rfl, ?_⟩, ?_⟩ | exact ⟨.inr ⟨rfl, rfl⟩, trivial⟩ | refine ⟨.inr ⟨rfl, rfl⟩, ?_⟩ | (intro _ _) | exact .closed rfl | exact .sl rfl | exact .ptr rfl | exact .map rfl | exact .nil rfl | exact .emp rfl | exact .nilList | exact .empList | exact frzPtr' (by simp; done) rfl (by omega) rfl rfl | exact frzLB (by simp; done) rfl (fun _ => rfl) rfl | exact frz_all (by simp; done) rfl (fun _ _ => rfl) (fun _ => rfl) rfl | exact .frz (by simp; done) rfl (by omega) (fun _ _ => rfl) (fun _ _ => rfl) | exact slEq rfl (by first | (simp; done) | (simp; omega)) | exact siEq (by omega) | (first | exact fn2_sub (.ptr rfl) (.ptr rfl) | exact siEq (by omega) | exact VSub.of_eq (congrArg vi (gTwo_step hld rfl rfl _)) rfl) | exact .of_eq (by refine (show V.agg _ = V.agg _ from ?_); (try dsimp only); congr <;> first | rfl | omega) rfl | exact .closed (by simp [V.closed, V.closed.all, *]; done) | fail))); done)))
    · (repeat' (first | (refine ar_isq ?_; first | refine zmv ?_ | refine zas ?_ | (refine is_load ?_; first | refine zlp ?_ | refine zlr ?_) | (refine is_binOp ?_; first | refine zlss ?_ | refine zgtr ?_ | refine zadd ?_ | refine zsub ?_) | (refine is_call ?_; first | refine zll ?_ | refine zls ?_ | refine zln ?_ | refine zle ?_) | refine zmf ?_) | (refine zbx ?_) | (refine zal ?_) | (refine zsvs ?_) | (refine zsva ?_) | (refine zses ?_) | (refine zsea ?_) | (refine ar_nil ?_) | (refine aw_seq ?_) | (refine aw_skip ?_) | (refine aw_block ?_) | (refine aw_exit ?_) | (refine aw_region ?_) | (refine zco ?_ ?_ <;> intro hg <;> first | exact absurd hg (by decide) | ((try replace hg := HG.out hg); (try dsimp only at hg); (try (have _h : True := hg; clear _h hg)); first | (exfalso; omega) | skip))))
      all_goals first
        | (exfalso; omega)
        | ((refine aw_mono_r (env' := [(4, .sl 1 0 0 l.length)]) (H' := [.arr 1 l.length (fun k => vi (leanAt s.lean (el l) l.length k))]) ?_ ?_; (focus ((refine sub_to [some 1] [] rfl ?_ ?_ <;> (repeat' (first | exact trivial | refine ⟨⟨_, rfl, ?_⟩, ?_⟩ | refine ⟨bsub_snoc rfl rfl (fun _ => rfl) ?_, ?_⟩ | refine ⟨bsub_one rfl rfl ?_, ?_⟩ | refine ⟨bsub_all rfl rfl (fun _ _ => rfl) (fun _ => rfl), ?_⟩ | refine ⟨bsub_updL rfl rfl ?_ (fun _ _ _ => rfl) (fun _ => rfl), ?_⟩ | refine ⟨.inl ⟨_, _, rfl, rfl, ?_⟩, ?_⟩ | exact ⟨.inr ⟨rfl, rfl⟩, trivial⟩ | refine ⟨.inr ⟨rfl, rfl⟩, ?_⟩ | (intro _ _) | exact .closed rfl | exact .sl rfl | exact .ptr rfl | exact .map rfl | exact .nil rfl | exact .emp rfl | exact .nilList | exact .empList | exact frzPtr' (by simp; done) rfl (by omega) rfl rfl | exact frzLB (by simp; done) rfl (fun _ => rfl) rfl | exact frz_all (by simp; done) rfl (fun _ _ => rfl) (fun _ => rfl) rfl | exact .frz (by simp; done) rfl (by omega) (fun _ _ => rfl) (fun _ _ => rfl) | exact slEq rfl (by first | (simp; done) | (simp; omega)) | exact siEq (by omega) | (exact VSub.of_eq (congrArg vi (gTwo_end (by omega))) rfl) | exact .of_eq (by refine (show V.agg _ = V.agg _ from ?_); (try dsimp only); congr <;> first | rfl | omega) rfl | exact .closed (by simp [V.closed, V.closed.all, *]; done) | fail))); done))); refine aw_ret (bq1 rfl ⟨_, _, rfl, rfl, ⟨rfl, fun i hi => rfl⟩, fun i hi => rfl⟩))
end Go.Proofs.Ytccidiflnmchiaa
namespace Go.Proofs.Ytccidiflnmchiaa
open Go.RowKit
def rowI (c : Screen) (i : Nat) : Int := c.phase + (i : Int) * c.period
def drawRow (s : Sheet) (c : Screen) (w : List (List Int)) (i : Nat) : List Int := (List.range s.cols.toNat).map fun j => leanAt s.lean (el (el w i)) s.cols.toNat j + rowI c i
def drawTo (s : Sheet) (c : Screen) (w : List (List Int)) (k : Nat) : List (List Int) := (List.range k).map (drawRow s c w)
theorem drawRow_len (s : Sheet) (c : Screen) (w : List (List Int)) (i : Nat) : (drawRow s c w i).length = s.cols.toNat := by simp [drawRow]
theorem drawRow_el {s : Sheet} {c : Screen} {w : List (List Int)} {i j : Nat} (h : j < s.cols.toNat) : el (drawRow s c w i) j = leanAt s.lean (el (el w i)) s.cols.toNat j + rowI c i := by unfold drawRow; rw [el_map_range h]
theorem drawTo_len (s : Sheet) (c : Screen) (w : List (List Int)) (k : Nat) : (drawTo s c w k).length = k := by simp [drawTo]
theorem drawTo_succ (s : Sheet) (c : Screen) (w : List (List Int)) (k : Nat) : drawTo s c w (k + 1) = drawTo s c w k ++ [drawRow s c w k] := by simp [drawTo, List.range_succ]
def stAt (g : Nat → Int) (x : Int) (j q : Nat) : Int := if q < j then g q + x else g q
theorem stAt_zero (g : Nat → Int) (x : Int) (q : Nat) : stAt g x 0 q = g q := by simp [stAt]
theorem stAt_at (g : Nat → Int) (x : Int) (j : Nat) : stAt g x j j = g j := by simp [stAt]
theorem stAt_succ (g : Nat → Int) (x : Int) (j : Nat) : stAt g x (j + 1) j = stAt g x j j + x := by simp [stAt]
theorem stAt_ne {g : Nat → Int} {x : Int} {j q : Nat} (h : q ≠ j) : stAt g x (j + 1) q = stAt g x j q := by
  unfold stAt
  by_cases h1 : q < j
  · rw [if_pos h1, if_pos (by omega)]
  · rw [if_neg h1, if_neg (by omega)]
theorem stAt_end {g : Nat → Int} {x : Int} {j q : Nat} (h : q < j) : stAt g x j q = g q + x := by simp [stAt, h]
set_option maxHeartbeats 2000000 in
theorem draw_p (s : Sheet) (hs : s.ok = true) (c : Screen) (hc : c.ok = true) (w : List (List Int)) (hn : w.length = cntF s c) (hw : ∀ l, l ∈ w → l.length = s.cols.toNat ∧ ∀ k, k < l.length → 0 ≤ el l k ∧ el l k ≤ 100) : PCalls Try.prog 86 [s.enc, c.enc, encRows w] (· = encRows (drawTo s c w (cntF s c))) := by
  have hbd := Sheet.bounds hs
  have hcb := Screen.bounds hc
  have hc12 := cntF_le s c
  refine pcalls_of_aw Try.func86 rfl (Nat.le_of_ble_eq_true rfl) ?_
  (repeat' (first | (refine ar_isq ?_; first | refine zmv ?_ | refine zas ?_ | (refine is_load ?_; first | refine zlp ?_ | refine zlr ?_) | (refine is_binOp ?_; first | refine zlss ?_ | refine zadd ?_) | (refine is_indexAddr ?_; first | refine zil ?_ | refine zis ?_ | refine zit ?_ | refine zia ?_ | refine zir ?_ | (refine zxl ?_; intro _ _ _) | (refine zxs ?_; intro _ _ _)) | (refine is_call ?_; first | refine zll ?_ | refine zls ?_ | refine zln ?_ | refine zle ?_)) | (refine ar_pcall (own := false) fn80 rfl rfl (.cons (.closed rfl) (.cons (.closed rfl) .nil)) (rows_p s c) (by simp) (dc rfl) ?_; intro _ hv; subst hv) | (refine zbx ?_) | (refine zal ?_) | (refine zb1 ?_) | (refine zb0 ?_) | (refine zapoo ?_) | (refine zapol ?_) | (refine zapno ?_) | (refine zapnl ?_) | (refine zapeo ?_) | (refine zapel ?_) | (refine zsvs ?_) | (refine zsva ?_) | (refine zses ?_) | (refine zsea ?_) | (refine ar_nil ?_) | (refine aw_seq ?_) | (refine aw_skip ?_) | (refine aw_block ?_) | (refine aw_exit ?_) | (refine aw_region ?_) | (refine aw_drawn (id := 5) [(0, 0), (1, 0), (2, 0), (3, 0), (4, 0), (5, 1), (6, 0)] mixed (by kernel_rfl) ?_) | (refine aw_drawn (id := 5) [(0, 0), (1, 0), (2, 0), (3, 0), (4, 0), (5, 2), (6, 0)] mixed (by kernel_rfl) ?_) | (refine zco ?_ ?_ <;> intro hg <;> first | exact absurd hg (by decide) | ((try replace hg := HG.out hg); (try dsimp only at hg); (try (have _h : True := hg; clear _h hg)); first | (exfalso; omega) | skip))))
  (refine aw_mono_r (env' := [(3, .ptr 5 0 0 0), (5, .ptr 1 2 0 0), (7, .ptr 1 3 0 0), (14, .fn (.func 94) [] [.ref c.enc 0, .ref s.enc 0])]) (H' := [.arr 5 1 (fun _ => s.enc), .arr 2 1 (fun _ => c.enc), .arr 1 1 (fun _ => encRows w), .arr 1 1 (fun _ => vnil)]) ?_ ?_; (focus ((refine sub_to [some 0, some 1, some 2, some 3] [] rfl ?_ ?_ <;> (repeat' (first | exact trivial | refine ⟨⟨_, rfl, ?_⟩, ?_⟩ | refine ⟨bsub_snoc rfl rfl (fun _ => rfl) ?_, ?_⟩ | refine ⟨bsub_one rfl rfl ?_, ?_⟩ | refine ⟨bsub_all rfl rfl (fun _ _ => rfl) (fun _ => rfl), ?_⟩ | refine ⟨bsub_updL rfl rfl ?_ (fun _ _ _ => rfl) (fun _ => rfl), ?_⟩ | refine ⟨.inl ⟨_, _, rfl, rfl, ?_⟩, ?_⟩ | exact ⟨.inr ⟨rfl, rfl⟩, trivial⟩ | refine ⟨.inr ⟨rfl, rfl⟩, ?_⟩ | (intro _ _) | exact .closed rfl | exact .sl rfl | exact .ptr rfl | exact .map rfl | exact .nil rfl | exact .emp rfl | exact .nilList | exact .empList | exact frzPtr' (by simp; done) rfl (by omega) rfl rfl | exact frzLB (by simp; done) rfl (fun _ => rfl) rfl | exact frz_all (by simp; done) rfl (fun _ _ => rfl) (fun _ => rfl) rfl | exact .frz (by simp; done) rfl (by omega) (fun _ _ => rfl) (fun _ _ => rfl) | exact slEq rfl (by first | (simp; done) | (simp; omega)) | exact siEq (by omega) | exact .of_eq (by refine (show V.agg _ = V.agg _ from ?_); (try dsimp only); congr <;> first | rfl | omega) rfl | exact .closed (by simp [V.closed, V.closed.all, *]; done) | fail))); done)))
  refine aw_range (fun k => [.arr 5 1 (fun _ => s.enc), .arr 2 1 (fun _ => c.enc), .arr 1 1 (fun _ => encRows w), .arr 1 1 (fun _ => .sl 1 4 0 (drawTo s c w k).length), LB 1 encInts (drawTo s c w k)]) _ rfl rfl fn94 (It.rows_iter s hs c hc) (fun _ _ => rfl) (by decide) (fun k _ => rfl) ?maps ?start ?round ?done
  case maps => intro k j ms; match j with | 0 | 1 | 2 | 3 | 4 => simp [LB] | j + 5 => simp
  case start => (refine sub_to [some 0, some 1, some 2, some 3, none] [] rfl ?_ ?_ <;> (repeat' (first | exact trivial | refine ⟨⟨_, rfl, ?_⟩, ?_⟩ | refine ⟨bsub_snoc rfl rfl (fun _ => rfl) ?_, ?_⟩ | refine ⟨bsub_one rfl rfl ?_, ?_⟩ | refine ⟨bsub_all rfl rfl (fun _ _ => rfl) (fun _ => rfl), ?_⟩ | refine ⟨bsub_updL rfl rfl ?_ (fun _ _ _ => rfl) (fun _ => rfl), ?_⟩ | refine ⟨.inl ⟨_, _, rfl, rfl, ?_⟩, ?_⟩ | exact ⟨.inr ⟨rfl, rfl⟩, trivial⟩ | refine ⟨.inr ⟨rfl, rfl⟩, ?_⟩ | (intro _ _) | exact .closed rfl | exact .sl rfl | exact .ptr rfl | exact .map rfl | exact .nil rfl | exact .emp rfl | exact .nilList | exact .empList | exact frzPtr' (by simp; done) rfl (by omega) rfl rfl | exact frzLB (by simp; done) rfl (fun _ => rfl) rfl | exact frz_all (by simp; done) rfl (fun _ _ => rfl) (fun _ => rfl) rfl | exact .frz (by simp; done) rfl (by omega) (fun _ _ => rfl) (fun _ _ => rfl) | exact slEq rfl (by first | (simp; done) | (simp; omega)) | exact siEq (by omega) | exact .of_eq (by refine (show V.agg _ = V.agg _ from ?_); (try dsimp only); congr <;> first | rfl | omega) rfl | exact .closed (by simp [V.closed, V.closed.all, *]; done) | fail)))
  case round =>
    intro k lp hk
    have hm := mulP hc (k := k) (by omega)
    have hin := cntF_in hk
    have hkw : k < w.length := by omega
    obtain ⟨hl, hv⟩ := hw _ (el_mem hkw)
    have hlb := fun q (hq : q < s.cols.toNat) => lean_bnd (a := s.lean) (w := el (el w k)) (n := s.cols.toNat) (k := q) (by omega) (fun k' hk' => hv k' (by omega)) hq
    (repeat' (first | (refine ar_isq ?_; first | refine zmv ?_ | refine zas ?_ | (refine is_load ?_; first | refine zlp ?_ | refine zlr ?_) | (refine is_binOp ?_; first | refine zlss ?_ | refine zadd ?_) | (refine is_indexAddr ?_; first | refine zil ?_ | refine zis ?_ | refine zit ?_ | refine zia ?_ | refine zir ?_ | refine zil (j := k) ?_ | refine zis (j := k) ?_ | refine zit (j := k) ?_ | (refine zxl ?_; intro _ _ _) | (refine zxs ?_; intro _ _ _)) | (refine is_call ?_; first | refine zll ?_ | refine zls ?_ | refine zln ?_ | refine zle ?_)) | (refine ar_fcall fn97 rfl rfl (.cons (.closed rfl) (.cons (.closed rfl) .nil)) (lean_p s hs (el w k) (by omega) hv) (dc rfl) ?_; rintro n0 g0 ⟨rfl, hg0⟩) | (refine zbx ?_) | (refine zal ?_) | (refine zb1 ?_) | (refine zb0 ?_) | (refine zapoo ?_) | (refine zapol ?_) | (refine zapno ?_) | (refine zapnl ?_) | (refine zapeo ?_) | (refine zapel ?_) | (refine zsvs ?_) | (refine zsva ?_) | (refine zses ?_) | (refine zsea ?_) | (refine ar_nil ?_) | (refine aw_seq ?_) | (refine aw_skip ?_) | (refine aw_block ?_) | (refine aw_exit ?_) | (refine aw_region ?_) | (refine aw_drawn (id := 5) [(0, 0), (1, 0), (2, 0), (3, 0), (4, 0), (5, 1), (6, 0)] mixed (by kernel_rfl) ?_) | (refine aw_drawn (id := 5) [(0, 0), (1, 0), (2, 0), (3, 0), (4, 0), (5, 2), (6, 0)] mixed (by kernel_rfl) ?_) | (refine zco ?_ ?_ <;> intro hg <;> first | exact absurd hg (by decide) | ((try replace hg := HG.out hg); (try dsimp only at hg); (try (have _h : True := hg; clear _h hg)); first | (exfalso; omega) | skip))))
    refine aw_for (el w k).length (fun _ => True) (fun j => [(7, .ptr 1 3 0 0), (9, vi (rowI c k)), (10, .sl 1 5 0 (el w k).length), (23, .sl 1 5 0 (el w k).length), (24, vi (el w k).length), (25, vi j)]) (fun j => [.arr 5 1 (fun _ => s.enc), .arr 2 1 (fun _ => c.enc), .arr 1 1 (fun _ => encRows w), .arr 1 1 (fun _ => .sl 1 4 0 (drawTo s c w k).length), LB 1 encInts (drawTo s c w k), .arr 1 (el w k).length (fun q => vi (stAt (leanAt s.lean (el (el w k)) (el w k).length) (rowI c k) j q))]) trivial ?_ ?_
    · (refine sub_to [some 0, some 1, some 2, some 3, some 4, some 5] [] rfl ?_ ?_ <;> (repeat' (first | exact trivial | refine ⟨⟨_, rfl, ?_⟩, ?_⟩ | refine ⟨bsub_snoc rfl rfl (fun _ => rfl) ?_, ?_⟩ | refine ⟨bsub_one rfl rfl ?_, ?_⟩ | refine ⟨bsub_all rfl rfl (fun _ _ => rfl) (fun _ => rfl), ?_⟩ | refine ⟨bsub_updL rfl rfl ?_ (fun _ _ _ => rfl) (fun _ => rfl), ?_⟩ | refine ⟨.inl ⟨_, _, rfl, rfl, ?_⟩, ?_⟩ | exact ⟨.inr ⟨rfl, rfl⟩, trivial⟩ | refine ⟨.inr ⟨rfl, rfl⟩, ?_⟩ | (intro _ _) | exact .closed rfl | exact .sl rfl | exact .ptr rfl | exact .map rfl | exact .nil rfl | exact .emp rfl | exact .nilList | exact .empList | exact frzPtr' (by simp; done) rfl (by omega) rfl rfl | exact frzLB (by simp; done) rfl (fun _ => rfl) rfl | exact frz_all (by simp; done) rfl (fun _ _ => rfl) (fun _ => rfl) rfl | exact .frz (by simp; done) rfl (by omega) (fun _ _ => rfl) (fun _ _ => rfl) | exact slEq rfl (by first | (simp; done) | (simp; omega)) | exact siEq (by omega) | (exact VSub.of_eq ((hg0 _ (by assumption)).trans (congrArg vi (stAt_zero _ _ _).symm)) rfl) | exact .of_eq (by refine (show V.agg _ = V.agg _ from ?_); (try dsimp only); congr <;> first | rfl | omega) rfl | exact .closed (by simp [V.closed, V.closed.all, *]; done) | fail)))
    intro j hj _
    rw [hl] at hj ⊢
    have hdl := drawTo_len s c w k
    have hrI : rowI c k = c.phase + (k : Int) * c.period := rfl
    by_cases hlt : j < s.cols.toNat
    · have hjb := hlb j hlt
      have hsj := stAt_at (leanAt s.lean (el (el w k)) s.cols.toNat) (rowI c k) j
      (repeat' (first | (refine ar_isq ?_; first | refine zmv ?_ | refine zas ?_ | (refine is_load ?_; first | refine zlp ?_ | refine zlr ?_) | (refine is_binOp ?_; first | refine zlss ?_ | refine zadd ?_) | (refine is_indexAddr ?_; first | refine zil ?_ | refine zis ?_ | refine zit ?_ | refine zia ?_ | refine zir ?_ | (refine zxl ?_; intro _ _ _) | (refine zxs ?_; intro _ _ _)) | (refine is_call ?_; first | refine zll ?_ | refine zls ?_ | refine zln ?_ | refine zle ?_)) | (refine ar_store_as (fun q => vi (stAt (leanAt s.lean (el (el w k)) s.cols.toNat) (rowI c k) (j + 1) q)) (ty rfl) rfl rfl rfl rfl rfl rfl (by assumption) (by dsimp only; omega) (fun _ h => by cases h) rfl rfl (fun _ h => by cases h) (congrArg vi (stAt_succ _ _ _)) (fun q _ hq => congrArg vi (stAt_ne hq)) ?_) | (refine zbx ?_) | (refine zal ?_) | (refine zb1 ?_) | (refine zb0 ?_) | (refine zapoo ?_) | (refine zapol ?_) | (refine zapno ?_) | (refine zapnl ?_) | (refine zapeo ?_) | (refine zapel ?_) | (refine zsvs ?_) | (refine zsva ?_) | (refine zses ?_) | (refine zsea ?_) | (refine ar_nil ?_) | (refine aw_seq ?_) | (refine aw_skip ?_) | (refine aw_block ?_) | (refine aw_exit ?_) | (refine aw_region ?_) | (refine aw_drawn (id := 5) [(0, 0), (1, 0), (2, 0), (3, 0), (4, 0), (5, 1), (6, 0)] mixed (by kernel_rfl) ?_) | (refine aw_drawn (id := 5) [(0, 0), (1, 0), (2, 0), (3, 0), (4, 0), (5, 2), (6, 0)] mixed (by kernel_rfl) ?_) | (refine zco ?_ ?_ <;> intro hg <;> first | exact absurd hg (by decide) | ((try replace hg := HG.out hg); (try dsimp only at hg); (try (have _h : True := hg; clear _h hg)); first | (exfalso; omega) | skip))))
      all_goals first
        | (exfalso; omega)
        | ((first | refine loop_next (by omega) ?_ ?_ | refine (show _ ∧ _ ∧ SubOf _ _ _ _ _ _ from And.intro (by omega) (And.intro ?_ ?_))); (focus ((trivial); done)); (focus ((refine sub_to [some 0, some 1, some 2, some 3, some 4, some 5] [] rfl ?_ ?_ <;> (repeat' (first | exact trivial | refine ⟨⟨_, rfl, ?_⟩, ?_⟩ | refine ⟨bsub_snoc rfl rfl (fun _ => rfl) ?_, ?_⟩ | refine ⟨bsub_one rfl rfl ?_, ?_⟩ | refine ⟨bsub_all rfl rfl (fun _ _ => rfl) (fun _ => rfl), ?_⟩ | refine ⟨bsub_updL rfl rfl ?_ (fun _ _ _ => rfl) (fun _ => rfl), ?_⟩ | refine ⟨.inl ⟨_, _, rfl, rfl, ?_⟩, ?_⟩ | exact ⟨.inr ⟨rfl, rfl⟩, trivial⟩ | refine ⟨.inr ⟨rfl, rfl⟩, ?_⟩ | (intro _ _) | exact .closed rfl | exact .sl rfl | exact .ptr rfl | exact .map rfl | exact .nil rfl | exact .emp rfl | exact .nilList | exact .empList | exact frzPtr' (by simp; done) rfl (by omega) rfl rfl | exact frzLB (by simp; done) rfl (fun _ => rfl) rfl | exact frz_all (by simp; done) rfl (fun _ _ => rfl) (fun _ => rfl) rfl | exact .frz (by simp; done) rfl (by omega) (fun _ _ => rfl) (fun _ _ => rfl) | exact slEq rfl (by first | (simp; done) | (simp; omega)) | exact siEq (by omega) | exact .of_eq (by refine (show V.agg _ = V.agg _ from ?_); (try dsimp only); congr <;> first | rfl | omega) rfl | exact .closed (by simp [V.closed, V.closed.all, *]; done) | fail))); done)))
    · (repeat' (first | (refine ar_isq ?_; first | refine zmv ?_ | refine zas ?_ | (refine is_load ?_; first | refine zlp ?_ | refine zlr ?_) | (refine is_binOp ?_; first | refine zlss ?_ | refine zadd ?_) | (refine is_indexAddr ?_; first | refine zil ?_ | refine zis ?_ | refine zit ?_ | refine zia ?_ | refine zir ?_ | (refine zxl ?_; intro _ _ _) | (refine zxs ?_; intro _ _ _)) | (refine is_call ?_; first | refine zll ?_ | refine zls ?_ | refine zln ?_ | refine zle ?_)) | (refine zbx ?_) | (refine zal ?_) | (refine zb1 ?_) | (refine zb0 ?_) | (refine zapoo ?_) | (refine zapol ?_) | (refine zapno ?_) | (refine zapnl ?_) | (refine zapeo ?_) | (refine zapel ?_) | (refine zsvs ?_) | (refine zsva ?_) | (refine zses ?_) | (refine zsea ?_) | (refine ar_nil ?_) | (refine aw_seq ?_) | (refine aw_skip ?_) | (refine aw_block ?_) | (refine aw_exit ?_) | (refine aw_region ?_) | (refine aw_drawn (id := 5) [(0, 0), (1, 0), (2, 0), (3, 0), (4, 0), (5, 1), (6, 0)] mixed (by kernel_rfl) ?_) | (refine aw_drawn (id := 5) [(0, 0), (1, 0), (2, 0), (3, 0), (4, 0), (5, 2), (6, 0)] mixed (by kernel_rfl) ?_) | (refine zco ?_ ?_ <;> intro hg <;> first | exact absurd hg (by decide) | ((try replace hg := HG.out hg); (try dsimp only at hg); (try (have _h : True := hg; clear _h hg)); first | (exfalso; omega) | skip))))
      all_goals first
        | (exfalso; omega)
        | (refine (show SubOf _ _ _ _ _ _ from ?_); rw [drawTo_succ]; (refine sub_to [some 0, some 1, some 2, some 3, some 7] [5] rfl ?_ ?_ <;> (repeat' (first | exact trivial | refine ⟨⟨_, rfl, ?_⟩, ?_⟩ | refine ⟨bsub_snoc rfl rfl (fun _ => rfl) ?_, ?_⟩ | refine ⟨bsub_one rfl rfl ?_, ?_⟩ | refine ⟨bsub_all rfl rfl (fun _ _ => rfl) (fun _ => rfl), ?_⟩ | refine ⟨bsub_updL rfl rfl ?_ (fun _ _ _ => rfl) (fun _ => rfl), ?_⟩ | refine ⟨.inl ⟨_, _, rfl, rfl, ?_⟩, ?_⟩ | exact ⟨.inr ⟨rfl, rfl⟩, trivial⟩ | refine ⟨.inr ⟨rfl, rfl⟩, ?_⟩ | (intro _ _) | exact .closed rfl | exact .sl rfl | exact .ptr rfl | exact .map rfl | exact .nil rfl | exact .emp rfl | exact .nilList | exact .empList | exact frzPtr' (by simp; done) rfl (by omega) rfl rfl | exact frzLB (by simp; done) rfl (fun _ => rfl) rfl | exact frz_all (by simp; done) rfl (fun _ _ => rfl) (fun _ => rfl) rfl | exact .frz (by simp; done) rfl (by omega) (fun _ _ => rfl) (fun _ _ => rfl) | exact slEq rfl (by first | (simp; done) | (simp; omega)) | exact siEq (by omega) | (exact frz_as (by simp) rfl rfl (drawRow_len _ _ _ _) (fun q hq => by rw [drawRow_el hq, stAt_end (by omega)]) (fun _ => rfl)) | exact .of_eq (by refine (show V.agg _ = V.agg _ from ?_); (try dsimp only); congr <;> first | rfl | omega) rfl | exact .closed (by simp [V.closed, V.closed.all, *]; done) | fail))))
  case done =>
    (repeat' (first | (refine ar_isq ?_; first | refine zmv ?_ | refine zas ?_ | (refine is_load ?_; first | refine zlp ?_ | refine zlr ?_) | (refine is_binOp ?_; first | refine zlss ?_ | refine zadd ?_) | (refine is_indexAddr ?_; first | refine zil ?_ | refine zis ?_ | refine zit ?_ | refine zia ?_ | refine zir ?_ | (refine zxl ?_; intro _ _ _) | (refine zxs ?_; intro _ _ _)) | (refine is_call ?_; first | refine zll ?_ | refine zls ?_ | refine zln ?_ | refine zle ?_)) | (refine zbx ?_) | (refine zal ?_) | (refine zb1 ?_) | (refine zb0 ?_) | (refine zapoo ?_) | (refine zapol ?_) | (refine zapno ?_) | (refine zapnl ?_) | (refine zapeo ?_) | (refine zapel ?_) | (refine zsvs ?_) | (refine zsva ?_) | (refine zses ?_) | (refine zsea ?_) | (refine ar_nil ?_) | (refine aw_seq ?_) | (refine aw_skip ?_) | (refine aw_block ?_) | (refine aw_exit ?_) | (refine aw_region ?_) | (refine aw_drawn (id := 5) [(0, 0), (1, 0), (2, 0), (3, 0), (4, 0), (5, 1), (6, 0)] mixed (by kernel_rfl) ?_) | (refine aw_drawn (id := 5) [(0, 0), (1, 0), (2, 0), (3, 0), (4, 0), (5, 2), (6, 0)] mixed (by kernel_rfl) ?_) | (refine zco ?_ ?_ <;> intro hg <;> first | exact absurd hg (by decide) | ((try replace hg := HG.out hg); (try dsimp only at hg); (try (have _h : True := hg; clear _h hg)); first | (exfalso; omega) | skip))))
    (refine aw_mono_r (env' := [(6, encRows (drawTo s c w (cntF s c)))]) (H' := []) ?_ ?_; (focus ((refine sub_to [] [4] rfl ?_ ?_ <;> (repeat' (first | exact trivial | refine ⟨⟨_, rfl, ?_⟩, ?_⟩ | refine ⟨bsub_snoc rfl rfl (fun _ => rfl) ?_, ?_⟩ | refine ⟨bsub_one rfl rfl ?_, ?_⟩ | refine ⟨bsub_all rfl rfl (fun _ _ => rfl) (fun _ => rfl), ?_⟩ | refine ⟨bsub_updL rfl rfl ?_ (fun _ _ _ => rfl) (fun _ => rfl), ?_⟩ | refine ⟨.inl ⟨_, _, rfl, rfl, ?_⟩, ?_⟩ | exact ⟨.inr ⟨rfl, rfl⟩, trivial⟩ | refine ⟨.inr ⟨rfl, rfl⟩, ?_⟩ | (intro _ _) | exact .closed rfl | exact .sl rfl | exact .ptr rfl | exact .map rfl | exact .nil rfl | exact .emp rfl | exact .nilList | exact .empList | exact frzPtr' (by simp; done) rfl (by omega) rfl rfl | exact frzLB (by simp; done) rfl (fun _ => rfl) rfl | exact frz_all (by simp; done) rfl (fun _ _ => rfl) (fun _ => rfl) rfl | exact .frz (by simp; done) rfl (by omega) (fun _ _ => rfl) (fun _ _ => rfl) | exact slEq rfl (by first | (simp; done) | (simp; omega)) | exact siEq (by omega) | exact .of_eq (by refine (show V.agg _ = V.agg _ from ?_); (try dsimp only); congr <;> first | rfl | omega) rfl | exact .closed (by simp [V.closed, V.closed.all, *]; done) | fail))); done)))
    (refine aw_ret ?_; (repeat (first | refine ret_then ?_ | refine ret_block ?_)); refine bq1 rfl ⟨?_, rfl⟩)
    rfl
end Go.Proofs.Ytccidiflnmchiaa
namespace Go.Proofs.Ytccidiflnmchiaa
open Go.RowKit
set_option maxHeartbeats 1000000 in
theorem everyInts_p (b : List Int) {g : FuncId} {cap : List V} (hfn : FnOk Try.prog g) (hcap : V.closed.all cap = true) (p : Int → Bool) (hc : ∀ l, l ∈ b → PCalls Try.prog g (vi l :: cap) (· = vb (p l))) :
    PCalls Try.prog 70 [encInts b, .fn (.func g) [] cap] (· = vb (b.all p)) := by
  (refine pcalls_know (fun I us h => rel_len (rel_arg h (j := 0) rfl)) fun hlen0 => ?_)
  refine pcalls_of_aw Try.func70 rfl (Nat.le_of_ble_eq_true rfl) ?_
  (repeat' (first | (refine ar_isq ?_; first | refine zmv ?_ | refine zas ?_ | (refine is_load ?_; first | refine zlp ?_ | refine zlr ?_) | (refine is_binOp ?_; first | refine zlss ?_ | refine zadd ?_) | (refine is_indexAddr ?_; first | refine zil ?_ | refine zis ?_ | refine zit ?_ | refine zia ?_ | refine zir ?_ | (refine zxl ?_; intro _ _ _) | (refine zxs ?_; intro _ _ _)) | (refine is_call ?_; first | refine zll ?_ | refine zls ?_ | refine zln ?_ | refine zle ?_) | refine znt ?_) | (refine ar_nil ?_) | (refine aw_seq ?_) | (refine aw_skip ?_) | (refine aw_block ?_) | (refine aw_exit ?_) | (refine aw_region ?_) | (refine zco ?_ ?_ <;> intro hg <;> first | exact absurd hg (by decide) | ((try replace hg := HG.out hg); (try dsimp only at hg); (try (have _h : True := hg; clear _h hg)); first | (exfalso; omega) | skip))))
  refine aw_for b.length (fun k => ∀ j, j < k → p (el b j) = true) (fun k => [(1, .fn (.func g) [] cap), (7, encInts b), (8, vi b.length), (9, vi k)]) (fun _ => []) (fun j hj => by omega) ?_ ?_
  · (refine sub_to [] [] rfl ?_ ?_ <;> (repeat' (first | exact trivial | refine ⟨⟨_, rfl, ?_⟩, ?_⟩ | refine ⟨bsub_snoc rfl rfl (fun _ => rfl) ?_, ?_⟩ | refine ⟨bsub_one rfl rfl ?_, ?_⟩ | refine ⟨bsub_all rfl rfl (fun _ _ => rfl) (fun _ => rfl), ?_⟩ | refine ⟨bsub_updL rfl rfl ?_ (fun _ _ _ => rfl) (fun _ => rfl), ?_⟩ | refine ⟨.inl ⟨_, _, rfl, rfl, ?_⟩, ?_⟩ | exact ⟨.inr ⟨rfl, rfl⟩, trivial⟩ | refine ⟨.inr ⟨rfl, rfl⟩, ?_⟩ | (intro _ _) | exact .closed rfl | exact .sl rfl | exact .ptr rfl | exact .map rfl | exact .nil rfl | exact .emp rfl | exact .nilList | exact .empList | exact frzPtr' (by simp; done) rfl (by omega) rfl rfl | exact frzLB (by simp; done) rfl (fun _ => rfl) rfl | exact frz_all (by simp; done) rfl (fun _ _ => rfl) (fun _ => rfl) rfl | exact .frz (by simp; done) rfl (by omega) (fun _ _ => rfl) (fun _ _ => rfl) | exact slEq rfl (by first | (simp; done) | (simp; omega)) | exact siEq (by omega) | exact .of_eq (by refine (show V.agg _ = V.agg _ from ?_); (try dsimp only); congr <;> first | rfl | omega) rfl | exact .closed (by simp [V.closed, V.closed.all, *]; done) | fail)))
  intro k hk hJ
  by_cases hkn : k < b.length
  · (repeat' (first | (refine ar_isq ?_; first | refine zmv ?_ | refine zas ?_ | (refine is_load ?_; first | refine zlp ?_ | refine zlr ?_) | (refine is_binOp ?_; first | refine zlss ?_ | refine zadd ?_) | (refine is_indexAddr ?_; first | refine zil ?_ | refine zis ?_ | refine zit ?_ | refine zia ?_ | refine zir ?_ | (refine zxl ?_; intro _ _ _) | (refine zxs ?_; intro _ _ _)) | (refine is_call ?_; first | refine zll ?_ | refine zls ?_ | refine zln ?_ | refine zle ?_) | refine znt ?_) | (refine ar_pcall (own := false) hfn rfl rfl (args_closed hcap) (hc _ (el_mem hkn)) (by simp) (dc rfl) ?_; intro _ hv; subst hv) | (refine ar_nil ?_) | (refine aw_seq ?_) | (refine aw_skip ?_) | (refine aw_block ?_) | (refine aw_exit ?_) | (refine aw_region ?_) | (refine zco ?_ ?_ <;> intro hg <;> first | exact absurd hg (by decide) | ((try replace hg := HG.out hg); (try dsimp only at hg); (try (have _h : True := hg; clear _h hg)); first | (exfalso; omega) | skip))))
    all_goals first
      | (exfalso; omega)
      | ((first | refine loop_next (by omega) ?_ ?_ | refine (show _ ∧ _ ∧ SubOf _ _ _ _ _ _ from And.intro (by omega) (And.intro ?_ ?_))); (focus ((exact all_step hJ (by assumption)); done)); (focus ((refine sub_to [] [] rfl ?_ ?_ <;> (repeat' (first | exact trivial | refine ⟨⟨_, rfl, ?_⟩, ?_⟩ | refine ⟨bsub_snoc rfl rfl (fun _ => rfl) ?_, ?_⟩ | refine ⟨bsub_one rfl rfl ?_, ?_⟩ | refine ⟨bsub_all rfl rfl (fun _ _ => rfl) (fun _ => rfl), ?_⟩ | refine ⟨bsub_updL rfl rfl ?_ (fun _ _ _ => rfl) (fun _ => rfl), ?_⟩ | refine ⟨.inl ⟨_, _, rfl, rfl, ?_⟩, ?_⟩ | exact ⟨.inr ⟨rfl, rfl⟩, trivial⟩ | refine ⟨.inr ⟨rfl, rfl⟩, ?_⟩ | (intro _ _) | exact .closed rfl | exact .sl rfl | exact .ptr rfl | exact .map rfl | exact .nil rfl | exact .emp rfl | exact .nilList | exact .empList | exact frzPtr' (by simp; done) rfl (by omega) rfl rfl | exact frzLB (by simp; done) rfl (fun _ => rfl) rfl | exact frz_all (by simp; done) rfl (fun _ _ => rfl) (fun _ => rfl) rfl | exact .frz (by simp; done) rfl (by omega) (fun _ _ => rfl) (fun _ _ => rfl) | exact slEq rfl (by first | (simp; done) | (simp; omega)) | exact siEq (by omega) | exact .of_eq (by refine (show V.agg _ = V.agg _ from ?_); (try dsimp only); congr <;> first | rfl | omega) rfl | exact .closed (by simp [V.closed, V.closed.all, *]; done) | fail))); done)))
      | ((refine aw_ret ?_; (repeat (first | refine ret_then ?_ | refine ret_block ?_)); refine bq1 rfl ⟨?_, rfl⟩); rw [not_all_el hkn (by simp_all)]; rfl)
  · (repeat' (first | (refine ar_isq ?_; first | refine zmv ?_ | refine zas ?_ | (refine is_load ?_; first | refine zlp ?_ | refine zlr ?_) | (refine is_binOp ?_; first | refine zlss ?_ | refine zadd ?_) | (refine is_indexAddr ?_; first | refine zil ?_ | refine zis ?_ | refine zit ?_ | refine zia ?_ | refine zir ?_ | (refine zxl ?_; intro _ _ _) | (refine zxs ?_; intro _ _ _)) | (refine is_call ?_; first | refine zll ?_ | refine zls ?_ | refine zln ?_ | refine zle ?_) | refine znt ?_) | (refine ar_nil ?_) | (refine aw_seq ?_) | (refine aw_skip ?_) | (refine aw_block ?_) | (refine aw_exit ?_) | (refine aw_region ?_) | (refine zco ?_ ?_ <;> intro hg <;> first | exact absurd hg (by decide) | ((try replace hg := HG.out hg); (try dsimp only at hg); (try (have _h : True := hg; clear _h hg)); first | (exfalso; omega) | skip))))
    all_goals first | omega | ((refine aw_ret ?_; (repeat (first | refine ret_then ?_ | refine ret_block ?_)); refine bq1 rfl ⟨?_, rfl⟩); rw [all_el (fun j hj => hJ j (by omega))]; rfl)
set_option maxHeartbeats 1000000 in
theorem everyBools_p (b : List (List Bool)) {g : FuncId} {cap : List V} (hfn : FnOk Try.prog g) (hcap : V.closed.all cap = true) (p : List Bool → Bool) (hc : ∀ l, l ∈ b → PCalls Try.prog g (encBools l :: cap) (· = vb (p l))) :
    PCalls Try.prog 76 [encMask b, .fn (.func g) [] cap] (· = vb (b.all p)) := by
  (refine pcalls_know (fun I us h => rel_len (rel_arg h (j := 0) rfl)) fun hlen0 => ?_)
  refine pcalls_of_aw Try.func76 rfl (Nat.le_of_ble_eq_true rfl) ?_
  (repeat' (first | (refine ar_isq ?_; first | refine zmv ?_ | refine zas ?_ | (refine is_load ?_; first | refine zlp ?_ | refine zlr ?_) | (refine is_binOp ?_; first | refine zlss ?_ | refine zadd ?_) | (refine is_indexAddr ?_; first | refine zil ?_ | refine zis ?_ | refine zit ?_ | refine zia ?_ | refine zir ?_ | (refine zxl ?_; intro _ _ _) | (refine zxs ?_; intro _ _ _)) | (refine is_call ?_; first | refine zll ?_ | refine zls ?_ | refine zln ?_ | refine zle ?_) | refine znt ?_) | (refine ar_nil ?_) | (refine aw_seq ?_) | (refine aw_skip ?_) | (refine aw_block ?_) | (refine aw_exit ?_) | (refine aw_region ?_) | (refine zco ?_ ?_ <;> intro hg <;> first | exact absurd hg (by decide) | ((try replace hg := HG.out hg); (try dsimp only at hg); (try (have _h : True := hg; clear _h hg)); first | (exfalso; omega) | skip))))
  refine aw_for b.length (fun k => ∀ j, j < k → p (el b j) = true) (fun k => [(1, .fn (.func g) [] cap), (7, encMask b), (8, vi b.length), (9, vi k)]) (fun _ => []) (fun j hj => by omega) ?_ ?_
  · (refine sub_to [] [] rfl ?_ ?_ <;> (repeat' (first | exact trivial | refine ⟨⟨_, rfl, ?_⟩, ?_⟩ | refine ⟨bsub_snoc rfl rfl (fun _ => rfl) ?_, ?_⟩ | refine ⟨bsub_one rfl rfl ?_, ?_⟩ | refine ⟨bsub_all rfl rfl (fun _ _ => rfl) (fun _ => rfl), ?_⟩ | refine ⟨bsub_updL rfl rfl ?_ (fun _ _ _ => rfl) (fun _ => rfl), ?_⟩ | refine ⟨.inl ⟨_, _, rfl, rfl, ?_⟩, ?_⟩ | exact ⟨.inr ⟨rfl, rfl⟩, trivial⟩ | refine ⟨.inr ⟨rfl, rfl⟩, ?_⟩ | (intro _ _) | exact .closed rfl | exact .sl rfl | exact .ptr rfl | exact .map rfl | exact .nil rfl | exact .emp rfl | exact .nilList | exact .empList | exact frzPtr' (by simp; done) rfl (by omega) rfl rfl | exact frzLB (by simp; done) rfl (fun _ => rfl) rfl | exact frz_all (by simp; done) rfl (fun _ _ => rfl) (fun _ => rfl) rfl | exact .frz (by simp; done) rfl (by omega) (fun _ _ => rfl) (fun _ _ => rfl) | exact slEq rfl (by first | (simp; done) | (simp; omega)) | exact siEq (by omega) | exact .of_eq (by refine (show V.agg _ = V.agg _ from ?_); (try dsimp only); congr <;> first | rfl | omega) rfl | exact .closed (by simp [V.closed, V.closed.all, *]; done) | fail)))
  intro k hk hJ
  by_cases hkn : k < b.length
  · (repeat' (first | (refine ar_isq ?_; first | refine zmv ?_ | refine zas ?_ | (refine is_load ?_; first | refine zlp ?_ | refine zlr ?_) | (refine is_binOp ?_; first | refine zlss ?_ | refine zadd ?_) | (refine is_indexAddr ?_; first | refine zil ?_ | refine zis ?_ | refine zit ?_ | refine zia ?_ | refine zir ?_ | (refine zxl ?_; intro _ _ _) | (refine zxs ?_; intro _ _ _)) | (refine is_call ?_; first | refine zll ?_ | refine zls ?_ | refine zln ?_ | refine zle ?_) | refine znt ?_) | (refine ar_pcall (own := false) hfn rfl rfl (args_closed hcap) (hc _ (el_mem hkn)) (by simp) (dc rfl) ?_; intro _ hv; subst hv) | (refine ar_nil ?_) | (refine aw_seq ?_) | (refine aw_skip ?_) | (refine aw_block ?_) | (refine aw_exit ?_) | (refine aw_region ?_) | (refine zco ?_ ?_ <;> intro hg <;> first | exact absurd hg (by decide) | ((try replace hg := HG.out hg); (try dsimp only at hg); (try (have _h : True := hg; clear _h hg)); first | (exfalso; omega) | skip))))
    all_goals first
      | (exfalso; omega)
      | ((first | refine loop_next (by omega) ?_ ?_ | refine (show _ ∧ _ ∧ SubOf _ _ _ _ _ _ from And.intro (by omega) (And.intro ?_ ?_))); (focus ((exact all_step hJ (by assumption)); done)); (focus ((refine sub_to [] [] rfl ?_ ?_ <;> (repeat' (first | exact trivial | refine ⟨⟨_, rfl, ?_⟩, ?_⟩ | refine ⟨bsub_snoc rfl rfl (fun _ => rfl) ?_, ?_⟩ | refine ⟨bsub_one rfl rfl ?_, ?_⟩ | refine ⟨bsub_all rfl rfl (fun _ _ => rfl) (fun _ => rfl), ?_⟩ | refine ⟨bsub_updL rfl rfl ?_ (fun _ _ _ => rfl) (fun _ => rfl), ?_⟩ | refine ⟨.inl ⟨_, _, rfl, rfl, ?_⟩, ?_⟩ | exact ⟨.inr ⟨rfl, rfl⟩, trivial⟩ | refine ⟨.inr ⟨rfl, rfl⟩, ?_⟩ | (intro _ _) | exact .closed rfl | exact .sl rfl | exact .ptr rfl | exact .map rfl | exact .nil rfl | exact .emp rfl | exact .nilList | exact .empList | exact frzPtr' (by simp; done) rfl (by omega) rfl rfl | exact frzLB (by simp; done) rfl (fun _ => rfl) rfl | exact frz_all (by simp; done) rfl (fun _ _ => rfl) (fun _ => rfl) rfl | exact .frz (by simp; done) rfl (by omega) (fun _ _ => rfl) (fun _ _ => rfl) | exact slEq rfl (by first | (simp; done) | (simp; omega)) | exact siEq (by omega) | exact .of_eq (by refine (show V.agg _ = V.agg _ from ?_); (try dsimp only); congr <;> first | rfl | omega) rfl | exact .closed (by simp [V.closed, V.closed.all, *]; done) | fail))); done)))
      | ((refine aw_ret ?_; (repeat (first | refine ret_then ?_ | refine ret_block ?_)); refine bq1 rfl ⟨?_, rfl⟩); rw [not_all_el hkn (by simp_all)]; rfl)
  · (repeat' (first | (refine ar_isq ?_; first | refine zmv ?_ | refine zas ?_ | (refine is_load ?_; first | refine zlp ?_ | refine zlr ?_) | (refine is_binOp ?_; first | refine zlss ?_ | refine zadd ?_) | (refine is_indexAddr ?_; first | refine zil ?_ | refine zis ?_ | refine zit ?_ | refine zia ?_ | refine zir ?_ | (refine zxl ?_; intro _ _ _) | (refine zxs ?_; intro _ _ _)) | (refine is_call ?_; first | refine zll ?_ | refine zls ?_ | refine zln ?_ | refine zle ?_) | refine znt ?_) | (refine ar_nil ?_) | (refine aw_seq ?_) | (refine aw_skip ?_) | (refine aw_block ?_) | (refine aw_exit ?_) | (refine aw_region ?_) | (refine zco ?_ ?_ <;> intro hg <;> first | exact absurd hg (by decide) | ((try replace hg := HG.out hg); (try dsimp only at hg); (try (have _h : True := hg; clear _h hg)); first | (exfalso; omega) | skip))))
    all_goals first | omega | ((refine aw_ret ?_; (repeat (first | refine ret_then ?_ | refine ret_block ?_)); refine bq1 rfl ⟨?_, rfl⟩); rw [all_el (fun j hj => hJ j (by omega))]; rfl)
def lenB (e n : Int) : Bool := decide (n = e)
theorem shapedB_p (b : List (List Bool)) (n e : Int) : PCalls Try.prog 88 [encMask b, vi n, vi e] (· = vb (decide ((b.length : Int) = n) && b.all fun x => lenB e x.length)) := by
  have h1 : ∀ l, l ∈ b → PCalls Try.prog 98 (encBools l :: [.ref (vi e) 0]) (· = vb (lenB e l.length)) := fun l _ => by
    refine pcalls_of_aw Try.func98 rfl (Nat.le_of_ble_eq_true rfl) ?_
    (repeat' (first | (refine ar_isq ?_; first | refine zmv ?_ | refine zas ?_ | (refine is_load ?_; first | refine zlp ?_ | refine zlr ?_) | refine zeql ?_ | (refine is_call ?_; first | refine zll ?_ | refine zls ?_ | refine zln ?_ | refine zle ?_)) | (refine ar_nil ?_) | (refine aw_seq ?_) | (refine aw_skip ?_) | (refine aw_block ?_) | (refine aw_exit ?_) | (refine aw_region ?_) | (refine zco ?_ ?_ <;> intro hg <;> first | exact absurd hg (by decide) | ((try replace hg := HG.out hg); (try dsimp only at hg); (try (have _h : True := hg; clear _h hg)); first | (exfalso; omega) | skip))))
    (refine aw_ret ?_; (repeat (first | refine ret_then ?_ | refine ret_block ?_)); refine bq1 rfl ⟨?_, rfl⟩)
    rfl
  refine pcalls_of_aw Try.func88 rfl (Nat.le_of_ble_eq_true rfl) ?_
  ((repeat refine aw_seq ?_); (first | (refine aw_region ?_)); (repeat' (first | (refine ar_isq ?_; first | refine zmv ?_ | refine zas ?_ | refine zeql ?_ | (refine is_call ?_; first | refine zll ?_ | refine zls ?_ | refine zln ?_ | refine zle ?_) | (refine is_pick ?_; first | refine zpt ?_ | refine zpf ?_) | refine zmf ?_) | (refine zbx ?_) | (refine zg ?_ ?_ <;> intro hg <;> first | exact absurd hg (by decide) | ((try replace hg := HG.out hg); (try dsimp only at hg); (try (have _h : True := hg; clear _h hg)); first | (exfalso; omega) | skip)) | (refine zgu ?_) | (refine ar_nil ?_))))
  (refine aw_mono_r (env' := [(0, encMask b), (1, vi n), (2, vi e), (5, .ref (vi e) 0)]) (H' := []) ?_ ?_; (focus ((refine sub_to [] [0] rfl ?_ ?_ <;> (repeat' (first | exact trivial | refine ⟨⟨_, rfl, ?_⟩, ?_⟩ | refine ⟨bsub_snoc rfl rfl (fun _ => rfl) ?_, ?_⟩ | refine ⟨bsub_one rfl rfl ?_, ?_⟩ | refine ⟨bsub_all rfl rfl (fun _ _ => rfl) (fun _ => rfl), ?_⟩ | refine ⟨bsub_updL rfl rfl ?_ (fun _ _ _ => rfl) (fun _ => rfl), ?_⟩ | refine ⟨.inl ⟨_, _, rfl, rfl, ?_⟩, ?_⟩ | exact ⟨.inr ⟨rfl, rfl⟩, trivial⟩ | refine ⟨.inr ⟨rfl, rfl⟩, ?_⟩ | (intro _ _) | exact .closed rfl | exact .sl rfl | exact .ptr rfl | exact .map rfl | exact .nil rfl | exact .emp rfl | exact .nilList | exact .empList | exact frzPtr' (by simp; done) rfl (by omega) rfl rfl | exact frzLB (by simp; done) rfl (fun _ => rfl) rfl | exact frz_all (by simp; done) rfl (fun _ _ => rfl) (fun _ => rfl) rfl | exact .frz (by simp; done) rfl (by omega) (fun _ _ => rfl) (fun _ _ => rfl) | exact slEq rfl (by first | (simp; done) | (simp; omega)) | exact siEq (by omega) | exact .of_eq (by refine (show V.agg _ = V.agg _ from ?_); (try dsimp only); congr <;> first | rfl | omega) rfl | exact .closed (by simp [V.closed, V.closed.all, *]; done) | fail))); done)))
  (repeat' (first | (refine ar_isq ?_; first | refine zmv ?_ | refine zas ?_ | refine zeql ?_ | (refine is_call ?_; first | refine zll ?_ | refine zls ?_ | refine zln ?_ | refine zle ?_) | (refine is_pick ?_; first | refine zpt ?_ | refine zpf ?_) | refine zmf ?_) | (refine ar_pcall (own := false) fn76 rfl rfl (.cons (.closed rfl) (.cons (.closed rfl) .nil)) (everyBools_p b fn98 rfl _ h1) (by simp) (dc rfl) ?_; intro _ hv; subst hv) | (refine zbx ?_) | (refine zg ?_ ?_ <;> intro hg <;> first | exact absurd hg (by decide) | ((try replace hg := HG.out hg); (try dsimp only at hg); (try (have _h : True := hg; clear _h hg)); first | (exfalso; omega) | skip)) | (refine zgu ?_) | (refine ar_nil ?_) | (refine aw_seq ?_) | (refine aw_skip ?_) | (refine aw_block ?_) | (refine aw_exit ?_) | (refine aw_region ?_) | (refine zco ?_ ?_ <;> intro hg <;> first | exact absurd hg (by decide) | ((try replace hg := HG.out hg); (try dsimp only at hg); (try (have _h : True := hg; clear _h hg)); first | (exfalso; omega) | skip))))
  all_goals (refine aw_ret ?_; (repeat (first | refine ret_then ?_ | refine ret_block ?_)); refine bq1 rfl ⟨?_, rfl⟩)
  all_goals (simp_all [vb, constV])
end Go.Proofs.Ytccidiflnmchiaa
namespace Go.Proofs.Ytccidiflnmchiaa
open Go.RowKit
def pow2 : Nat → Nat
  | 0 => 1
  | k + 1 => 2 * pow2 k
theorem pow2_le : ∀ {k}, k ≤ 15 → pow2 k ≤ 32768 := by
  intro k hk
  have : ∀ k : Fin 16, pow2 k.val ≤ 32768 := by decide
  exact this ⟨k, by omega⟩
/-- Bit number j from the left of 15. -/
def bitB (n j : Nat) : Bool := decide (n / pow2 (14 - j) % 2 = 1)
def gF (n d j : Nat) : Bool := decide (15 ≤ j + d) && bitB n j
def gAgg (f : Nat → Bool) : V := .agg ((List.range 15).map fun j => vb (f j))
theorem gAgg_ext {f g : Nat → Bool} (h : ∀ j, j < 15 → f j = g j) : gAgg f = gAgg g := by
  unfold gAgg
  congr 1
  exact List.map_congr_left fun j hj => by rw [h j (List.mem_range.1 hj)]
theorem gAgg_put (f : Nat → Bool) (b : Bool) {o : Nat} (h : o < 15) : putPart (gAgg f) o (vb b) = gAgg (fun j => if j = o then b else f j) := by
  have key : ∀ o : Fin 15, putPart (gAgg f) o.val (vb b) = gAgg (fun j => if j = o.val then b else f j) := by
    intro o
    unfold gAgg putPart
    simp only [cells_vb, List.length_cons, List.length_nil]
    congr 1
    refine List.ext_getElem? fun i => ?_
    have ho := o.isLt
    by_cases h1 : i < o.val
    · rw [List.append_assoc, List.getElem?_append_left (by simp; omega), List.getElem?_take, if_pos h1]
      simp [show i < 15 by omega, show i ≠ o.val by omega]
    · by_cases h2 : i = o.val
      · rw [List.append_assoc, List.getElem?_append_right (by simp; omega), List.getElem?_append_left (by simp; omega)]
        simp [h2]
      · rw [List.getElem?_append_right (by simp; omega), List.getElem?_drop]
        by_cases h3 : i < 15
        · have : (o.val + (0 + 1) + (i - (List.take o.val ((List.range 15).map fun j => vb (f j)) ++ [vb b]).length)) = i := by simp; omega
          rw [this]
          simp [h3, h2]
        · rw [List.getElem?_eq_none (by simp; omega), List.getElem?_eq_none (by simp; omega)]
  exact key ⟨o, h⟩
def shN (n d : Nat) : Nat := n / pow2 d
theorem half_pow (n d : Nat) : shN n (d + 1) = shN n d / 2 := by simp only [shN, pow2]; rw [Nat.mul_comm, Nat.div_div_eq_div_mul]
theorem bit_at {n d : Nat} (h : d < 15) : decide (((shN n d : Nat) : Int) % 2 = 1) = bitB n (14 - d) := by
  unfold bitB
  change _ = decide (shN n _ % 2 = 1)
  rw [show 14 - (14 - d) = d by omega, decide_eq_decide]
  omega
theorem gF_step {n d o : Nat} {b : Bool} (h : d < 15) (ho : o = 14 - d) (hb : b = bitB n (14 - d)) : putPart (gAgg (gF n d)) o (vb b) = gAgg (gF n (d + 1)) := by
  rw [gAgg_put _ _ (by omega)]
  refine gAgg_ext fun j hj => ?_
  by_cases e : j = o
  · rw [if_pos e, hb, e, ho]
    unfold gF
    rw [show decide (15 ≤ 14 - d + (d + 1)) = true by simp; omega, Bool.true_and]
  · rw [if_neg e]
    unfold gF
    rw [show decide (15 ≤ j + (d + 1)) = decide (15 ≤ j + d) by rw [decide_eq_decide]; omega]
theorem gF_end {n d : Nat} (h : 15 ≤ d) : gAgg (gF n d) = gAgg (bitB n) := gAgg_ext fun j hj => by
  unfold gF
  rw [show decide (15 ≤ j + d) = true by simp; omega, Bool.true_and]
def rowV (f : Nat → Bool) (i : Nat) : V := .agg [vb (f (3 * i)), vb (f (3 * i + 1)), vb (f (3 * i + 2))]
theorem rowV_part (f : Nat → Bool) {i : Nat} (h : i < 5) : partV true (gAgg f).cells (i * 3) 3 = some (rowV f i) := by
  match i, h with
  | 0, _ => rfl
  | 1, _ => rfl
  | 2, _ => rfl
  | 3, _ => rfl
  | 4, _ => rfl
theorem cellV_part (f : Nat → Bool) (i : Nat) {k : Nat} (h : k < 3) : partV false (rowV f i).cells (k * 1) 1 = some (vb (f (3 * i + k))) := by
  match k, h with
  | 0, _ => rfl
  | 1, _ => rfl
  | 2, _ => rfl
def numTo (f : Nat → Bool) : Nat → Nat
  | 0 => 0
  | j + 1 => 2 * numTo f j + (if f j = true then 1 else 0)
theorem numTo_lt (f : Nat → Bool) : ∀ j, numTo f j < pow2 j
  | 0 => Nat.zero_lt_one
  | j + 1 => by
    have := numTo_lt f j
    simp only [numTo, pow2]
    split <;> omega
theorem wide_p (size glyphs : Int) (_hs : -1000 ≤ size ∧ size ≤ 1000) (hg : 0 ≤ glyphs ∧ glyphs ≤ 1000) (hm : -10000000 ≤ size * (4 * glyphs - 1) ∧ size * (4 * glyphs - 1) ≤ 10000000) : PCalls Try.prog 72 [vi size, vi glyphs] (· = vi (size * (4 * glyphs - 1))) := by
  refine pcalls_of_aw Try.func72 rfl (Nat.le_of_ble_eq_true rfl) ?_
  (repeat' (first | (refine ar_isq ?_; first | refine zmv ?_ | refine zas ?_ | (refine is_binOp ?_; first | refine zsub ?_ | refine zmul ?_)) | (refine ar_nil ?_) | (refine aw_seq ?_) | (refine aw_skip ?_) | (refine aw_block ?_) | (refine aw_exit ?_) | (refine aw_region ?_) | (refine zco ?_ ?_ <;> intro hg <;> first | exact absurd hg (by decide) | ((try replace hg := HG.out hg); (try dsimp only at hg); (try (have _h : True := hg; clear _h hg)); first | (exfalso; omega) | skip))))
  (refine aw_ret ?_; (repeat (first | refine ret_then ?_ | refine ret_block ?_)); refine bq1 rfl ⟨?_, rfl⟩)
  rfl
set_option maxHeartbeats 2000000 in
theorem glyphOf_p (n : Nat) (hn : n ≤ 32767) : PCalls Try.prog 73 [vi n] (· = gAgg (bitB n)) := by
  have hdb : ∀ d, shN n d ≤ n := fun d => Nat.div_le_self _ _
  refine pcalls_of_aw Try.func73 rfl (Nat.le_of_ble_eq_true rfl) ?_
  (repeat' (first | (refine ar_isq ?_; first | refine zmv ?_ | refine zas ?_ | (refine is_load ?_; first | refine zlp ?_ | refine zlr ?_) | (refine is_binOp ?_; first | refine zgeq ?_ | refine zeql ?_ | refine zsub ?_ | refine ar_q (qs_and rfl rfl (andMask (by omega))) (dc rfl) ?_ | refine ar_q (qs_shr rfl rfl (by omega) (shr0 (by omega))) (dc rfl) ?_) | (refine is_indexAddr ?_; first | refine zil ?_ | refine zis ?_ | refine zit ?_ | refine zia ?_ | refine zir ?_ | (refine zxl ?_; intro _ _ _) | (refine zxs ?_; intro _ _ _))) | (refine zal ?_) | (refine zsvs ?_) | (refine zsva ?_) | (refine zses ?_) | (refine zsea ?_) | (refine ar_nil ?_) | (refine aw_seq ?_) | (refine aw_skip ?_) | (refine aw_block ?_) | (refine aw_exit ?_) | (refine aw_region ?_) | (refine zco ?_ ?_ <;> intro hg <;> first | exact absurd hg (by decide) | ((try replace hg := HG.out hg); (try dsimp only at hg); (try (have _h : True := hg; clear _h hg)); first | (exfalso; omega) | skip))))
  refine aw_for 5 (fun _ => True) (fun R => [(0, vi ((shN n (3 * R) : Nat) : Int)), (2, .ptr 15 0 0 0), (3, .ptr 15 1 0 0), (4, vi (4 - (R : Int)))]) (fun R => [.arr 15 1 (fun _ => gAgg fun _ => false), .arr 15 1 (fun _ => gAgg (gF n (3 * R)))]) trivial ?_ ?_
  · (refine sub_to [some 0, some 1] [] rfl ?_ ?_ <;> (repeat' (first | exact trivial | refine ⟨⟨_, rfl, ?_⟩, ?_⟩ | refine ⟨bsub_snoc rfl rfl (fun _ => rfl) ?_, ?_⟩ | refine ⟨bsub_one rfl rfl ?_, ?_⟩ | refine ⟨bsub_all rfl rfl (fun _ _ => rfl) (fun _ => rfl), ?_⟩ | refine ⟨bsub_updL rfl rfl ?_ (fun _ _ _ => rfl) (fun _ => rfl), ?_⟩ | refine ⟨.inl ⟨_, _, rfl, rfl, ?_⟩, ?_⟩ | exact ⟨.inr ⟨rfl, rfl⟩, trivial⟩ | refine ⟨.inr ⟨rfl, rfl⟩, ?_⟩ | (intro _ _) | exact .closed rfl | exact .sl rfl | exact .ptr rfl | exact .map rfl | exact .nil rfl | exact .emp rfl | exact .nilList | exact .empList | exact frzPtr' (by simp; done) rfl (by omega) rfl rfl | exact frzLB (by simp; done) rfl (fun _ => rfl) rfl | exact frz_all (by simp; done) rfl (fun _ _ => rfl) (fun _ => rfl) rfl | exact .frz (by simp; done) rfl (by omega) (fun _ _ => rfl) (fun _ _ => rfl) | exact slEq rfl (by first | (simp; done) | (simp; omega)) | exact siEq (by omega) | (first | exact siEq (by simp [shN, pow2]) | exact VSub.of_eq (gAgg_ext fun j hj => by simp [gF]; omega) rfl | exact VSub.of_eq rfl rfl) | exact .of_eq (by refine (show V.agg _ = V.agg _ from ?_); (try dsimp only); congr <;> first | rfl | omega) rfl | exact .closed (by simp [V.closed, V.closed.all, *]; done) | fail)))
  intro R hR _
  by_cases hlt : R < 5
  · (repeat' (first | (refine ar_isq ?_; first | refine zmv ?_ | refine zas ?_ | (refine is_load ?_; first | refine zlp ?_ | refine zlr ?_) | (refine is_binOp ?_; first | refine zgeq ?_ | refine zeql ?_ | refine zsub ?_ | refine ar_q (qs_and rfl rfl (andMask (by omega))) (dc rfl) ?_ | refine ar_q (qs_shr rfl rfl (by omega) (shr0 (by omega))) (dc rfl) ?_) | (refine is_indexAddr ?_; first | refine zil ?_ | refine zis ?_ | refine zit ?_ | refine zia ?_ | refine zir ?_ | (refine zxl ?_; intro _ _ _) | (refine zxs ?_; intro _ _ _))) | (refine zal ?_) | (refine zsvs ?_) | (refine zsva ?_) | (refine zses ?_) | (refine zsea ?_) | (refine ar_nil ?_) | (refine aw_seq ?_) | (refine aw_skip ?_) | (refine aw_block ?_) | (refine aw_exit ?_) | (refine aw_region ?_) | (refine zco ?_ ?_ <;> intro hg <;> first | exact absurd hg (by decide) | ((try replace hg := HG.out hg); (try dsimp only at hg); (try (have _h : True := hg; clear _h hg)); first | (exfalso; omega) | skip))))
    all_goals (try (exfalso; omega))
    refine aw_for 3 (fun _ => True) (fun K => [(0, vi ((shN n (3 * R + K) : Nat) : Int)), (2, .ptr 15 0 0 0), (3, .ptr 15 1 0 0), (4, vi (4 - (R : Int))), (5, vi (2 - (K : Int)))]) (fun K => [.arr 15 1 (fun _ => gAgg fun _ => false), .arr 15 1 (fun _ => gAgg (gF n (3 * R + K)))]) trivial ?_ ?_
    · (refine sub_to [some 0, some 1] [] rfl ?_ ?_ <;> (repeat' (first | exact trivial | refine ⟨⟨_, rfl, ?_⟩, ?_⟩ | refine ⟨bsub_snoc rfl rfl (fun _ => rfl) ?_, ?_⟩ | refine ⟨bsub_one rfl rfl ?_, ?_⟩ | refine ⟨bsub_all rfl rfl (fun _ _ => rfl) (fun _ => rfl), ?_⟩ | refine ⟨bsub_updL rfl rfl ?_ (fun _ _ _ => rfl) (fun _ => rfl), ?_⟩ | refine ⟨.inl ⟨_, _, rfl, rfl, ?_⟩, ?_⟩ | exact ⟨.inr ⟨rfl, rfl⟩, trivial⟩ | refine ⟨.inr ⟨rfl, rfl⟩, ?_⟩ | (intro _ _) | exact .closed rfl | exact .sl rfl | exact .ptr rfl | exact .map rfl | exact .nil rfl | exact .emp rfl | exact .nilList | exact .empList | exact frzPtr' (by simp; done) rfl (by omega) rfl rfl | exact frzLB (by simp; done) rfl (fun _ => rfl) rfl | exact frz_all (by simp; done) rfl (fun _ _ => rfl) (fun _ => rfl) rfl | exact .frz (by simp; done) rfl (by omega) (fun _ _ => rfl) (fun _ _ => rfl) | exact slEq rfl (by first | (simp; done) | (simp; omega)) | exact siEq (by omega) | exact .of_eq (by refine (show V.agg _ = V.agg _ from ?_); (try dsimp only); congr <;> first | rfl | omega) rfl | exact .closed (by simp [V.closed, V.closed.all, *]; done) | fail)))
    intro K hK _
    have hd := hdb (3 * R + K)
    have hhp := half_pow n (3 * R + K)
    by_cases hltk : K < 3
    · (repeat' (first | (refine ar_isq ?_; first | refine zmv ?_ | refine zas ?_ | (refine is_load ?_; first | refine zlp ?_ | refine zlr ?_) | (refine is_binOp ?_; first | refine zgeq ?_ | refine zeql ?_ | refine zsub ?_ | refine ar_q (qs_and rfl rfl (andMask (by omega))) (dc rfl) ?_ | refine ar_q (qs_shr rfl rfl (by omega) (shr0 (by omega))) (dc rfl) ?_) | (refine is_indexAddr ?_; first | refine zil ?_ | refine zis ?_ | refine zit ?_ | refine zia ?_ | refine zir ?_ | (refine zxl ?_; intro _ _ _) | (refine zxs ?_; intro _ _ _))) | (refine ar_q (qs_and rfl rfl (andOne (by omega))) (dc rfl) ?_) | (refine ar_q (qs_shr rfl rfl (by omega) (shrOne (by omega))) (dc rfl) ?_) | (refine ar_q (qs_iaddr_aptr (j := 4 - R) (ty rfl) rfl (ty rfl) rfl rfl (by omega) (by omega)) (dc rfl) ?_) | (refine ar_q (qs_iaddr_aptr (j := 2 - K) (ty rfl) rfl (ty rfl) rfl rfl (by omega) (by omega)) (dc rfl) ?_) | (refine zal ?_) | (refine zsvs ?_) | (refine zsva ?_) | (refine zses ?_) | (refine zsea ?_) | (refine ar_nil ?_) | (refine aw_seq ?_) | (refine aw_skip ?_) | (refine aw_block ?_) | (refine aw_exit ?_) | (refine aw_region ?_) | (refine zco ?_ ?_ <;> intro hg <;> first | exact absurd hg (by decide) | ((try replace hg := HG.out hg); (try dsimp only at hg); (try (have _h : True := hg; clear _h hg)); first | (exfalso; omega) | skip))))
      all_goals first
        | (exfalso; omega)
        | ((first | refine loop_next (by omega) ?_ ?_ | refine (show _ ∧ _ ∧ SubOf _ _ _ _ _ _ from And.intro (by omega) (And.intro ?_ ?_))); (focus ((trivial); done)); (focus ((refine sub_to [some 0, some 1] [] rfl ?_ ?_ <;> (repeat' (first | exact trivial | refine ⟨⟨_, rfl, ?_⟩, ?_⟩ | refine ⟨bsub_snoc rfl rfl (fun _ => rfl) ?_, ?_⟩ | refine ⟨bsub_one rfl rfl ?_, ?_⟩ | refine ⟨bsub_all rfl rfl (fun _ _ => rfl) (fun _ => rfl), ?_⟩ | refine ⟨bsub_updL rfl rfl ?_ (fun _ _ _ => rfl) (fun _ => rfl), ?_⟩ | refine ⟨.inl ⟨_, _, rfl, rfl, ?_⟩, ?_⟩ | exact ⟨.inr ⟨rfl, rfl⟩, trivial⟩ | refine ⟨.inr ⟨rfl, rfl⟩, ?_⟩ | (intro _ _) | exact .closed rfl | exact .sl rfl | exact .ptr rfl | exact .map rfl | exact .nil rfl | exact .emp rfl | exact .nilList | exact .empList | exact frzPtr' (by simp; done) rfl (by omega) rfl rfl | exact frzLB (by simp; done) rfl (fun _ => rfl) rfl | exact frz_all (by simp; done) rfl (fun _ _ => rfl) (fun _ => rfl) rfl | exact .frz (by simp; done) rfl (by omega) (fun _ _ => rfl) (fun _ _ => rfl) | exact slEq rfl (by first | (simp; done) | (simp; omega)) | exact siEq (by omega) | (first | exact siEq (by omega) | exact siEq (by rw [← Nat.add_assoc, hhp]; omega) | exact VSub.of_eq (gF_step (by omega) (by dsimp only; omega) (bit_at (by omega))) rfl) | exact .of_eq (by refine (show V.agg _ = V.agg _ from ?_); (try dsimp only); congr <;> first | rfl | omega) rfl | exact .closed (by simp [V.closed, V.closed.all, *]; done) | fail))); done)))
        | trace_state
    · obtain rfl : K = 3 := by omega
      (repeat' (first | (refine ar_isq ?_; first | refine zmv ?_ | refine zas ?_ | (refine is_load ?_; first | refine zlp ?_ | refine zlr ?_) | (refine is_binOp ?_; first | refine zgeq ?_ | refine zeql ?_ | refine zsub ?_ | refine ar_q (qs_and rfl rfl (andMask (by omega))) (dc rfl) ?_ | refine ar_q (qs_shr rfl rfl (by omega) (shr0 (by omega))) (dc rfl) ?_) | (refine is_indexAddr ?_; first | refine zil ?_ | refine zis ?_ | refine zit ?_ | refine zia ?_ | refine zir ?_ | (refine zxl ?_; intro _ _ _) | (refine zxs ?_; intro _ _ _))) | (refine zal ?_) | (refine zsvs ?_) | (refine zsva ?_) | (refine zses ?_) | (refine zsea ?_) | (refine ar_nil ?_) | (refine aw_seq ?_) | (refine aw_skip ?_) | (refine aw_block ?_) | (refine aw_exit ?_) | (refine aw_region ?_) | (refine zco ?_ ?_ <;> intro hg <;> first | exact absurd hg (by decide) | ((try replace hg := HG.out hg); (try dsimp only at hg); (try (have _h : True := hg; clear _h hg)); first | (exfalso; omega) | skip))))
      all_goals first
        | (exfalso; omega)
        | ((first | refine loop_next (by omega) ?_ ?_ | refine (show _ ∧ _ ∧ SubOf _ _ _ _ _ _ from And.intro (by omega) (And.intro ?_ ?_))); (focus ((trivial); done)); (focus ((refine sub_to [some 0, some 1] [] rfl ?_ ?_ <;> (repeat' (first | exact trivial | refine ⟨⟨_, rfl, ?_⟩, ?_⟩ | refine ⟨bsub_snoc rfl rfl (fun _ => rfl) ?_, ?_⟩ | refine ⟨bsub_one rfl rfl ?_, ?_⟩ | refine ⟨bsub_all rfl rfl (fun _ _ => rfl) (fun _ => rfl), ?_⟩ | refine ⟨bsub_updL rfl rfl ?_ (fun _ _ _ => rfl) (fun _ => rfl), ?_⟩ | refine ⟨.inl ⟨_, _, rfl, rfl, ?_⟩, ?_⟩ | exact ⟨.inr ⟨rfl, rfl⟩, trivial⟩ | refine ⟨.inr ⟨rfl, rfl⟩, ?_⟩ | (intro _ _) | exact .closed rfl | exact .sl rfl | exact .ptr rfl | exact .map rfl | exact .nil rfl | exact .emp rfl | exact .nilList | exact .empList | exact frzPtr' (by simp; done) rfl (by omega) rfl rfl | exact frzLB (by simp; done) rfl (fun _ => rfl) rfl | exact frz_all (by simp; done) rfl (fun _ _ => rfl) (fun _ => rfl) rfl | exact .frz (by simp; done) rfl (by omega) (fun _ _ => rfl) (fun _ _ => rfl) | exact slEq rfl (by first | (simp; done) | (simp; omega)) | exact siEq (by omega) | (first | exact siEq (by omega) | exact VSub.closed rfl) | exact .of_eq (by refine (show V.agg _ = V.agg _ from ?_); (try dsimp only); congr <;> first | rfl | omega) rfl | exact .closed (by simp [V.closed, V.closed.all, *]; done) | fail))); done)))
        | trace_state
  · obtain rfl : R = 5 := by omega
    (repeat' (first | (refine ar_isq ?_; first | refine zmv ?_ | refine zas ?_ | (refine is_load ?_; first | refine zlp ?_ | refine zlr ?_) | (refine is_binOp ?_; first | refine zgeq ?_ | refine zeql ?_ | refine zsub ?_ | refine ar_q (qs_and rfl rfl (andMask (by omega))) (dc rfl) ?_ | refine ar_q (qs_shr rfl rfl (by omega) (shr0 (by omega))) (dc rfl) ?_) | (refine is_indexAddr ?_; first | refine zil ?_ | refine zis ?_ | refine zit ?_ | refine zia ?_ | refine zir ?_ | (refine zxl ?_; intro _ _ _) | (refine zxs ?_; intro _ _ _))) | (refine zal ?_) | (refine zsvs ?_) | (refine zsva ?_) | (refine zses ?_) | (refine zsea ?_) | (refine ar_nil ?_) | (refine aw_seq ?_) | (refine aw_skip ?_) | (refine aw_block ?_) | (refine aw_exit ?_) | (refine aw_region ?_) | (refine zco ?_ ?_ <;> intro hg <;> first | exact absurd hg (by decide) | ((try replace hg := HG.out hg); (try dsimp only at hg); (try (have _h : True := hg; clear _h hg)); first | (exfalso; omega) | skip))))
    all_goals first
      | (exfalso; omega)
      | (refine aw_ret ?_; (repeat (first | refine ret_then ?_ | refine ret_block ?_)); refine bq1c (ty rfl) rfl rfl Nat.one_pos rfl ⟨?_, rfl⟩; exact (gF_end (n := n) (d := 3 * 5) (by omega)))
      | trace_state
set_option maxHeartbeats 2000000 in
theorem number_p (f : Nat → Bool) : PCalls Try.prog 78 [gAgg f] (· = vi ((numTo f 15 : Nat) : Int)) := by
  have hb : ∀ j, j ≤ 15 → numTo f j < 32769 := fun j hj => Nat.lt_of_lt_of_le (numTo_lt f j) (Nat.le_trans (pow2_le hj) (by decide))
  refine pcalls_of_aw Try.func78 rfl (Nat.le_of_ble_eq_true rfl) ?_
  (repeat' (first | (refine ar_isq ?_; first | refine zmv ?_ | refine zas ?_ | (refine is_load ?_; first | refine zlp ?_ | refine zlr ?_) | (refine is_binOp ?_; first | refine zlss ?_ | refine zadd ?_) | refine zix ?_) | (refine zbx ?_) | (refine zal ?_) | (refine zsvs ?_) | (refine zsva ?_) | (refine zses ?_) | (refine zsea ?_) | (refine ar_nil ?_) | (refine aw_seq ?_) | (refine aw_skip ?_) | (refine aw_block ?_) | (refine aw_exit ?_) | (refine aw_region ?_) | (refine zco ?_ ?_ <;> intro hg <;> first | exact absurd hg (by decide) | ((try replace hg := HG.out hg); (try dsimp only at hg); (try (have _h : True := hg; clear _h hg)); first | (exfalso; omega) | skip))))
  refine aw_for 5 (fun _ => True) (fun i => [(3, vi ((numTo f (3 * i) : Nat) : Int)), (8, gAgg f), (9, vi i)]) (fun _ => []) trivial ?_ ?_
  · (refine sub_to [] [] rfl ?_ ?_ <;> (repeat' (first | exact trivial | refine ⟨⟨_, rfl, ?_⟩, ?_⟩ | refine ⟨bsub_snoc rfl rfl (fun _ => rfl) ?_, ?_⟩ | refine ⟨bsub_one rfl rfl ?_, ?_⟩ | refine ⟨bsub_all rfl rfl (fun _ _ => rfl) (fun _ => rfl), ?_⟩ | refine ⟨bsub_updL rfl rfl ?_ (fun _ _ _ => rfl) (fun _ => rfl), ?_⟩ | refine ⟨.inl ⟨_, _, rfl, rfl, ?_⟩, ?_⟩ | exact ⟨.inr ⟨rfl, rfl⟩, trivial⟩ | refine ⟨.inr ⟨rfl, rfl⟩, ?_⟩ | (intro _ _) | exact .closed rfl | exact .sl rfl | exact .ptr rfl | exact .map rfl | exact .nil rfl | exact .emp rfl | exact .nilList | exact .empList | exact frzPtr' (by simp; done) rfl (by omega) rfl rfl | exact frzLB (by simp; done) rfl (fun _ => rfl) rfl | exact frz_all (by simp; done) rfl (fun _ _ => rfl) (fun _ => rfl) rfl | exact .frz (by simp; done) rfl (by omega) (fun _ _ => rfl) (fun _ _ => rfl) | exact slEq rfl (by first | (simp; done) | (simp; omega)) | exact siEq (by omega) | exact .of_eq (by refine (show V.agg _ = V.agg _ from ?_); (try dsimp only); congr <;> first | rfl | omega) rfl | exact .closed (by simp [V.closed, V.closed.all, *]; done) | fail)))
  intro i hi _
  by_cases hlt : i < 5
  · (repeat' (first | (refine ar_isq ?_; first | refine zmv ?_ | refine zas ?_ | (refine is_load ?_; first | refine zlp ?_ | refine zlr ?_) | (refine is_binOp ?_; first | refine zlss ?_ | refine zadd ?_) | refine zix ?_) | (refine ar_q (qs_index (v := rowV f i) (j := i) (ty rfl) rfl (ty rfl) rfl rfl rfl (by omega) (rowV_part f hlt)) (dc rfl) ?_) | (refine zbx ?_) | (refine zal ?_) | (refine zsvs ?_) | (refine zsva ?_) | (refine zses ?_) | (refine zsea ?_) | (refine ar_nil ?_) | (refine aw_seq ?_) | (refine aw_skip ?_) | (refine aw_block ?_) | (refine aw_exit ?_) | (refine aw_region ?_) | (refine zco ?_ ?_ <;> intro hg <;> first | exact absurd hg (by decide) | ((try replace hg := HG.out hg); (try dsimp only at hg); (try (have _h : True := hg; clear _h hg)); first | (exfalso; omega) | skip))))
    all_goals (try (exfalso; omega))
    refine aw_for 3 (fun _ => True) (fun k => [(3, vi ((numTo f (3 * i + k) : Nat) : Int)), (8, gAgg f), (9, vi i), (12, rowV f i), (13, vi k)]) (fun _ => []) trivial ?_ ?_
    · (refine sub_to [] [] rfl ?_ ?_ <;> (repeat' (first | exact trivial | refine ⟨⟨_, rfl, ?_⟩, ?_⟩ | refine ⟨bsub_snoc rfl rfl (fun _ => rfl) ?_, ?_⟩ | refine ⟨bsub_one rfl rfl ?_, ?_⟩ | refine ⟨bsub_all rfl rfl (fun _ _ => rfl) (fun _ => rfl), ?_⟩ | refine ⟨bsub_updL rfl rfl ?_ (fun _ _ _ => rfl) (fun _ => rfl), ?_⟩ | refine ⟨.inl ⟨_, _, rfl, rfl, ?_⟩, ?_⟩ | exact ⟨.inr ⟨rfl, rfl⟩, trivial⟩ | refine ⟨.inr ⟨rfl, rfl⟩, ?_⟩ | (intro _ _) | exact .closed rfl | exact .sl rfl | exact .ptr rfl | exact .map rfl | exact .nil rfl | exact .emp rfl | exact .nilList | exact .empList | exact frzPtr' (by simp; done) rfl (by omega) rfl rfl | exact frzLB (by simp; done) rfl (fun _ => rfl) rfl | exact frz_all (by simp; done) rfl (fun _ _ => rfl) (fun _ => rfl) rfl | exact .frz (by simp; done) rfl (by omega) (fun _ _ => rfl) (fun _ _ => rfl) | exact slEq rfl (by first | (simp; done) | (simp; omega)) | exact siEq (by omega) | exact .of_eq (by refine (show V.agg _ = V.agg _ from ?_); (try dsimp only); congr <;> first | rfl | omega) rfl | exact .closed (by simp [V.closed, V.closed.all, *]; done) | fail)))
    intro k hk _
    have hnb := hb (3 * i + k) (by omega)
    by_cases hltk : k < 3
    · (repeat' (first | (refine ar_isq ?_; first | refine zmv ?_ | refine zas ?_ | (refine is_load ?_; first | refine zlp ?_ | refine zlr ?_) | (refine is_binOp ?_; first | refine zlss ?_ | refine zadd ?_) | refine zix ?_) | (refine ar_q (qs_index (v := vb (f (3 * i + k))) (j := k) (ty rfl) rfl (ty rfl) rfl rfl rfl (by omega) (cellV_part f i hltk)) (dc rfl) ?_) | (refine ar_q (qs_shl rfl rfl (by omega) (shlOne (by omega))) (dc rfl) ?_) | (refine ar_q (qs_or rfl rfl (orOne (by omega) (by omega))) (dc rfl) ?_) | (refine zbx ?_) | (refine zal ?_) | (refine zsvs ?_) | (refine zsva ?_) | (refine zses ?_) | (refine zsea ?_) | (refine ar_nil ?_) | (refine aw_seq ?_) | (refine aw_skip ?_) | (refine aw_block ?_) | (refine aw_exit ?_) | (refine aw_region ?_) | (refine zco ?_ ?_ <;> intro hg <;> first | exact absurd hg (by decide) | ((try replace hg := HG.out hg); (try dsimp only at hg); (try (have _h : True := hg; clear _h hg)); first | (exfalso; omega) | skip))))
      all_goals first
        | (exfalso; omega)
        | ((first | refine loop_next (by omega) ?_ ?_ | refine (show _ ∧ _ ∧ SubOf _ _ _ _ _ _ from And.intro (by omega) (And.intro ?_ ?_))); (focus ((trivial); done)); (focus ((refine sub_to [] [] rfl ?_ ?_ <;> (repeat' (first | exact trivial | refine ⟨⟨_, rfl, ?_⟩, ?_⟩ | refine ⟨bsub_snoc rfl rfl (fun _ => rfl) ?_, ?_⟩ | refine ⟨bsub_one rfl rfl ?_, ?_⟩ | refine ⟨bsub_all rfl rfl (fun _ _ => rfl) (fun _ => rfl), ?_⟩ | refine ⟨bsub_updL rfl rfl ?_ (fun _ _ _ => rfl) (fun _ => rfl), ?_⟩ | refine ⟨.inl ⟨_, _, rfl, rfl, ?_⟩, ?_⟩ | exact ⟨.inr ⟨rfl, rfl⟩, trivial⟩ | refine ⟨.inr ⟨rfl, rfl⟩, ?_⟩ | (intro _ _) | exact .closed rfl | exact .sl rfl | exact .ptr rfl | exact .map rfl | exact .nil rfl | exact .emp rfl | exact .nilList | exact .empList | exact frzPtr' (by simp; done) rfl (by omega) rfl rfl | exact frzLB (by simp; done) rfl (fun _ => rfl) rfl | exact frz_all (by simp; done) rfl (fun _ _ => rfl) (fun _ => rfl) rfl | exact .frz (by simp; done) rfl (by omega) (fun _ _ => rfl) (fun _ _ => rfl) | exact slEq rfl (by first | (simp; done) | (simp; omega)) | exact siEq (by omega) | (first | exact siEq (by omega) | exact siEq (by rw [← Nat.add_assoc]; simp only [numTo]; rw [if_pos (by assumption)]; omega) | exact siEq (by rw [← Nat.add_assoc]; simp only [numTo]; rw [if_neg (by simp_all)]; omega)) | exact .of_eq (by refine (show V.agg _ = V.agg _ from ?_); (try dsimp only); congr <;> first | rfl | omega) rfl | exact .closed (by simp [V.closed, V.closed.all, *]; done) | fail))); done)))
        | trace_state
    · obtain rfl : k = 3 := by omega
      (repeat' (first | (refine ar_isq ?_; first | refine zmv ?_ | refine zas ?_ | (refine is_load ?_; first | refine zlp ?_ | refine zlr ?_) | (refine is_binOp ?_; first | refine zlss ?_ | refine zadd ?_) | refine zix ?_) | (refine zbx ?_) | (refine zal ?_) | (refine zsvs ?_) | (refine zsva ?_) | (refine zses ?_) | (refine zsea ?_) | (refine ar_nil ?_) | (refine aw_seq ?_) | (refine aw_skip ?_) | (refine aw_block ?_) | (refine aw_exit ?_) | (refine aw_region ?_) | (refine zco ?_ ?_ <;> intro hg <;> first | exact absurd hg (by decide) | ((try replace hg := HG.out hg); (try dsimp only at hg); (try (have _h : True := hg; clear _h hg)); first | (exfalso; omega) | skip))))
      all_goals first
        | (exfalso; omega)
        | ((first | refine loop_next (by omega) ?_ ?_ | refine (show _ ∧ _ ∧ SubOf _ _ _ _ _ _ from And.intro (by omega) (And.intro ?_ ?_))); (focus ((trivial); done)); (focus ((refine sub_to [] [] rfl ?_ ?_ <;> (repeat' (first | exact trivial | refine ⟨⟨_, rfl, ?_⟩, ?_⟩ | refine ⟨bsub_snoc rfl rfl (fun _ => rfl) ?_, ?_⟩ | refine ⟨bsub_one rfl rfl ?_, ?_⟩ | refine ⟨bsub_all rfl rfl (fun _ _ => rfl) (fun _ => rfl), ?_⟩ | refine ⟨bsub_updL rfl rfl ?_ (fun _ _ _ => rfl) (fun _ => rfl), ?_⟩ | refine ⟨.inl ⟨_, _, rfl, rfl, ?_⟩, ?_⟩ | exact ⟨.inr ⟨rfl, rfl⟩, trivial⟩ | refine ⟨.inr ⟨rfl, rfl⟩, ?_⟩ | (intro _ _) | exact .closed rfl | exact .sl rfl | exact .ptr rfl | exact .map rfl | exact .nil rfl | exact .emp rfl | exact .nilList | exact .empList | exact frzPtr' (by simp; done) rfl (by omega) rfl rfl | exact frzLB (by simp; done) rfl (fun _ => rfl) rfl | exact frz_all (by simp; done) rfl (fun _ _ => rfl) (fun _ => rfl) rfl | exact .frz (by simp; done) rfl (by omega) (fun _ _ => rfl) (fun _ _ => rfl) | exact slEq rfl (by first | (simp; done) | (simp; omega)) | exact siEq (by omega) | exact .of_eq (by refine (show V.agg _ = V.agg _ from ?_); (try dsimp only); congr <;> first | rfl | omega) rfl | exact .closed (by simp [V.closed, V.closed.all, *]; done) | fail))); done)))
        | trace_state
  · obtain rfl : i = 5 := by omega
    (repeat' (first | (refine ar_isq ?_; first | refine zmv ?_ | refine zas ?_ | (refine is_load ?_; first | refine zlp ?_ | refine zlr ?_) | (refine is_binOp ?_; first | refine zlss ?_ | refine zadd ?_) | refine zix ?_) | (refine zbx ?_) | (refine zal ?_) | (refine zsvs ?_) | (refine zsva ?_) | (refine zses ?_) | (refine zsea ?_) | (refine ar_nil ?_) | (refine aw_seq ?_) | (refine aw_skip ?_) | (refine aw_block ?_) | (refine aw_exit ?_) | (refine aw_region ?_) | (refine zco ?_ ?_ <;> intro hg <;> first | exact absurd hg (by decide) | ((try replace hg := HG.out hg); (try dsimp only at hg); (try (have _h : True := hg; clear _h hg)); first | (exfalso; omega) | skip))))
    all_goals first
      | (exfalso; omega)
      | ((refine aw_ret ?_; (repeat (first | refine ret_then ?_ | refine ret_block ?_)); refine bq1 rfl ⟨?_, rfl⟩); rfl)
      | trace_state
end Go.Proofs.Ytccidiflnmchiaa
namespace Go.Proofs.Ytccidiflnmchiaa
open Go.RowKit
def cntTo (l : List Bool) (a : Nat) : Nat → Nat
  | 0 => 0
  | n + 1 => cntTo l a n + (if el l (a + n) = true then 1 else 0)
theorem cntTo_le (l : List Bool) (a : Nat) : ∀ n, cntTo l a n ≤ n
  | 0 => Nat.le_refl _
  | n + 1 => by have := cntTo_le l a n; simp only [cntTo]; split <;> omega
def cellB (m : List (List Bool)) (z g r k : Nat) : Bool := decide (z < 2 * cntTo (el m r) (z * (4 * g + k)) z)
def glyphB (m : List (List Bool)) (z g j : Nat) : Bool := cellB m z g (j / 3) (j % 3)
def spellTo (m : List (List Bool)) (z n : Nat) : List Int := (List.range n).map fun g => ((numTo (glyphB m z g) 15 : Nat) : Int)
theorem spellTo_succ (m : List (List Bool)) (z n : Nat) : spellTo m z (n + 1) = spellTo m z n ++ [((numTo (glyphB m z n) 15 : Nat) : Int)] := by simp [spellTo, List.range_succ]
theorem spellTo_len (m : List (List Bool)) (z n : Nat) : (spellTo m z n).length = n := by simp [spellTo]
theorem glyph_at {m : List (List Bool)} {z g r k : Nat} (h : k < 3) : glyphB m z g (3 * r + k) = cellB m z g r k := by
  unfold glyphB
  rw [show (3 * r + k) / 3 = r by omega, show (3 * r + k) % 3 = k by omega]
def wideI (size n : Int) : Int := size * (4 * n - 1)
def rowsLong (m : List (List Bool)) (size n : Int) : Bool := (m.take 5).all fun l => decide (wideI size n ≤ (l.length : Int))
def spellErr (m : List (List Bool)) (size n : Int) : Int := if withinB size 1 40 = true ∧ withinB n 0 8 = true then (if m.length < 5 then 6 else (if rowsLong m size n = true then 0 else 6)) else 2
def spellF (m : List (List Bool)) (size n : Int) : List Int := if spellErr m size n = 0 then spellTo m size.toNat n.toNat else []
theorem spellErr_arg {m : List (List Bool)} {size n : Int} (h : ¬ (withinB size 1 40 = true ∧ withinB n 0 8 = true)) : spellErr m size n = 2 := by simp [spellErr, h]
theorem spellErr_few {m : List (List Bool)} {size n : Int} (h : withinB size 1 40 = true ∧ withinB n 0 8 = true) (h2 : m.length < 5) : spellErr m size n = 6 := by simp [spellErr, h, h2]
theorem spellErr_short {m : List (List Bool)} {size n : Int} (h : withinB size 1 40 = true ∧ withinB n 0 8 = true) (h2 : ¬ m.length < 5) (h3 : rowsLong m size n = false) : spellErr m size n = 6 := by simp [spellErr, h, h2, h3]
theorem spellErr_ok {m : List (List Bool)} {size n : Int} (h : withinB size 1 40 = true ∧ withinB n 0 8 = true) (h2 : ¬ m.length < 5) (h3 : rowsLong m size n = true) : spellErr m size n = 0 := by simp [spellErr, h, h2, h3]
theorem spellF_bad {m : List (List Bool)} {size n : Int} (h : spellErr m size n ≠ 0) : spellF m size n = [] := by simp [spellF, h]
theorem spellF_ok {m : List (List Bool)} {size n : Int} (h : spellErr m size n = 0) : spellF m size n = spellTo m size.toNat n.toNat := by simp [spellF, h]
theorem long_at {m : List (List Bool)} {size n : Int} (h : rowsLong m size n = true) (h5 : ¬ m.length < 5) {r : Nat} (hr : r < 5) : wideI size n ≤ ((el m r).length : Int) := by
  unfold rowsLong at h
  have := of_all_el h (k := r) (by simp; omega)
  rw [el_take hr] at this
  simpa using this
/-- The last cell of a glyph lies in the row. -/
theorem cell_in {z g k N : Nat} (hg : g < N) (hk : k < 3) : z * (4 * g + k) + z ≤ z * (4 * N - 1) := by
  rw [← Nat.mul_succ]
  exact Nat.mul_le_mul_left _ (by omega)
theorem cell_small {z g k : Nat} (hz : z ≤ 40) (hg : g < 8) (hk : k < 3) : z * (4 * g + k) ≤ 40 * 31 := Nat.mul_le_mul hz (by omega)
theorem wide_bnd {z N : Nat} (hz : z ≤ 40) (hN : N ≤ 8) : -40 ≤ (z : Int) * (4 * (N : Int) - 1) ∧ (z : Int) * (4 * (N : Int) - 1) ≤ 1240 := by
  rcases Nat.eq_zero_or_pos N with h | h
  · subst h
    rw [show 4 * ((0 : Nat) : Int) - 1 = -1 by rfl, Int.mul_neg_one]
    omega
  · have h1 : 0 ≤ (z : Int) * (4 * (N : Int) - 1) := Int.mul_nonneg (by omega) (by omega)
    have h2 := Int.mul_le_mul (a := (z : Int)) (b := 4 * (N : Int) - 1) (c := 40) (d := 31) (by omega) (by omega) (by omega) (by omega)
    omega
set_option maxHeartbeats 1000000 in
theorem sameInts_p (l : List Int) : PCalls Try.prog 40 [encInts l, encInts l] (· = vb true) := by
  (refine pcalls_know (fun I us h => rel_len (rel_arg h (j := 0) rfl)) fun hlen0 => ?_)
  refine pcalls_of_aw Try.func40 rfl (Nat.le_of_ble_eq_true rfl) ?_
  (repeat' (first | (refine ar_isq ?_; first | refine zmv ?_ | refine zas ?_ | (refine is_load ?_; first | refine zlp ?_ | refine zlr ?_) | (refine is_binOp ?_; first | refine zlss ?_ | refine zneq ?_ | refine zadd ?_) | (refine is_indexAddr ?_; first | refine zil ?_ | refine zis ?_ | refine zit ?_ | refine zia ?_ | refine zir ?_ | (refine zxl ?_; intro _ _ _) | (refine zxs ?_; intro _ _ _)) | (refine is_call ?_; first | refine zll ?_ | refine zls ?_ | refine zln ?_ | refine zle ?_)) | (refine ar_nil ?_) | (refine aw_seq ?_) | (refine aw_skip ?_) | (refine aw_block ?_) | (refine aw_exit ?_) | (refine aw_region ?_) | (refine aw_drawn (id := 6) [(0, 0), (1, 0), (2, 0), (3, 0), (4, 0), (5, 0), (6, 0), (7, 0), (8, 0)] mixed (by kernel_rfl) ?_) | (refine zco ?_ ?_ <;> intro hg <;> first | exact absurd hg (by decide) | ((try replace hg := HG.out hg); (try dsimp only at hg); (try (have _h : True := hg; clear _h hg)); first | (exfalso; omega) | skip))))
  refine aw_for l.length (fun _ => True) (fun k => [(0, encInts l), (1, encInts l), (5, vi k)]) (fun _ => []) trivial ?_ ?_
  · (refine sub_to [] [] rfl ?_ ?_ <;> (repeat' (first | exact trivial | refine ⟨⟨_, rfl, ?_⟩, ?_⟩ | refine ⟨bsub_snoc rfl rfl (fun _ => rfl) ?_, ?_⟩ | refine ⟨bsub_one rfl rfl ?_, ?_⟩ | refine ⟨bsub_all rfl rfl (fun _ _ => rfl) (fun _ => rfl), ?_⟩ | refine ⟨bsub_updL rfl rfl ?_ (fun _ _ _ => rfl) (fun _ => rfl), ?_⟩ | refine ⟨.inl ⟨_, _, rfl, rfl, ?_⟩, ?_⟩ | exact ⟨.inr ⟨rfl, rfl⟩, trivial⟩ | refine ⟨.inr ⟨rfl, rfl⟩, ?_⟩ | (intro _ _) | exact .closed rfl | exact .sl rfl | exact .ptr rfl | exact .map rfl | exact .nil rfl | exact .emp rfl | exact .nilList | exact .empList | exact frzPtr' (by simp; done) rfl (by omega) rfl rfl | exact frzLB (by simp; done) rfl (fun _ => rfl) rfl | exact frz_all (by simp; done) rfl (fun _ _ => rfl) (fun _ => rfl) rfl | exact .frz (by simp; done) rfl (by omega) (fun _ _ => rfl) (fun _ _ => rfl) | exact slEq rfl (by first | (simp; done) | (simp; omega)) | exact siEq (by omega) | exact .of_eq (by refine (show V.agg _ = V.agg _ from ?_); (try dsimp only); congr <;> first | rfl | omega) rfl | exact .closed (by simp [V.closed, V.closed.all, *]; done) | fail)))
  intro k hk _
  by_cases hlt : k < l.length
  · (repeat' (first | (refine ar_isq ?_; first | refine zmv ?_ | refine zas ?_ | (refine is_load ?_; first | refine zlp ?_ | refine zlr ?_) | (refine is_binOp ?_; first | refine zlss ?_ | refine zneq ?_ | refine zadd ?_) | (refine is_indexAddr ?_; first | refine zil ?_ | refine zis ?_ | refine zit ?_ | refine zia ?_ | refine zir ?_ | (refine zxl ?_; intro _ _ _) | (refine zxs ?_; intro _ _ _)) | (refine is_call ?_; first | refine zll ?_ | refine zls ?_ | refine zln ?_ | refine zle ?_)) | (refine ar_nil ?_) | (refine aw_seq ?_) | (refine aw_skip ?_) | (refine aw_block ?_) | (refine aw_exit ?_) | (refine aw_region ?_) | (refine aw_drawn (id := 6) [(0, 0), (1, 0), (2, 0), (3, 0), (4, 0), (5, 0), (6, 0), (7, 0), (8, 0)] mixed (by kernel_rfl) ?_) | (refine zco ?_ ?_ <;> intro hg <;> first | exact absurd hg (by decide) | ((try replace hg := HG.out hg); (try dsimp only at hg); (try (have _h : True := hg; clear _h hg)); first | (exfalso; omega) | skip))))
    all_goals first
      | (exfalso; omega)
      | ((first | refine loop_next (by omega) ?_ ?_ | refine (show _ ∧ _ ∧ SubOf _ _ _ _ _ _ from And.intro (by omega) (And.intro ?_ ?_))); (focus ((trivial); done)); (focus ((refine sub_to [] [] rfl ?_ ?_ <;> (repeat' (first | exact trivial | refine ⟨⟨_, rfl, ?_⟩, ?_⟩ | refine ⟨bsub_snoc rfl rfl (fun _ => rfl) ?_, ?_⟩ | refine ⟨bsub_one rfl rfl ?_, ?_⟩ | refine ⟨bsub_all rfl rfl (fun _ _ => rfl) (fun _ => rfl), ?_⟩ | refine ⟨bsub_updL rfl rfl ?_ (fun _ _ _ => rfl) (fun _ => rfl), ?_⟩ | refine ⟨.inl ⟨_, _, rfl, rfl, ?_⟩, ?_⟩ | exact ⟨.inr ⟨rfl, rfl⟩, trivial⟩ | refine ⟨.inr ⟨rfl, rfl⟩, ?_⟩ | (intro _ _) | exact .closed rfl | exact .sl rfl | exact .ptr rfl | exact .map rfl | exact .nil rfl | exact .emp rfl | exact .nilList | exact .empList | exact frzPtr' (by simp; done) rfl (by omega) rfl rfl | exact frzLB (by simp; done) rfl (fun _ => rfl) rfl | exact frz_all (by simp; done) rfl (fun _ _ => rfl) (fun _ => rfl) rfl | exact .frz (by simp; done) rfl (by omega) (fun _ _ => rfl) (fun _ _ => rfl) | exact slEq rfl (by first | (simp; done) | (simp; omega)) | exact siEq (by omega) | exact .of_eq (by refine (show V.agg _ = V.agg _ from ?_); (try dsimp only); congr <;> first | rfl | omega) rfl | exact .closed (by simp [V.closed, V.closed.all, *]; done) | fail))); done)))
      | ((refine aw_ret ?_; (repeat (first | refine ret_then ?_ | refine ret_block ?_)); refine bq1 rfl ⟨?_, rfl⟩); rfl)
  · (repeat' (first | (refine ar_isq ?_; first | refine zmv ?_ | refine zas ?_ | (refine is_load ?_; first | refine zlp ?_ | refine zlr ?_) | (refine is_binOp ?_; first | refine zlss ?_ | refine zneq ?_ | refine zadd ?_) | (refine is_indexAddr ?_; first | refine zil ?_ | refine zis ?_ | refine zit ?_ | refine zia ?_ | refine zir ?_ | (refine zxl ?_; intro _ _ _) | (refine zxs ?_; intro _ _ _)) | (refine is_call ?_; first | refine zll ?_ | refine zls ?_ | refine zln ?_ | refine zle ?_)) | (refine ar_nil ?_) | (refine aw_seq ?_) | (refine aw_skip ?_) | (refine aw_block ?_) | (refine aw_exit ?_) | (refine aw_region ?_) | (refine aw_drawn (id := 6) [(0, 0), (1, 0), (2, 0), (3, 0), (4, 0), (5, 0), (6, 0), (7, 0), (8, 0)] mixed (by kernel_rfl) ?_) | (refine zco ?_ ?_ <;> intro hg <;> first | exact absurd hg (by decide) | ((try replace hg := HG.out hg); (try dsimp only at hg); (try (have _h : True := hg; clear _h hg)); first | (exfalso; omega) | skip))))
    all_goals first
      | (exfalso; omega)
      | ((refine aw_ret ?_; (repeat (first | refine ret_then ?_ | refine ret_block ?_)); refine bq1 rfl ⟨?_, rfl⟩); rfl)
end Go.Proofs.Ytccidiflnmchiaa
