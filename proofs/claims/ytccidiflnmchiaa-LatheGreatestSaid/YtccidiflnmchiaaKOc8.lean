/- Parts of the proof: a layer of values over the model, and contracts of functions. No condition. -/
import Derived.Test.YtccidiflnmchiaaKOc7
namespace Go.Proofs.Ytccidiflnmchiaa
open Go.RowKit
def exSheet : Sheet := ⟨6, 20, 2, 1, 2⟩
def exScreen : Screen := ⟨8, 1⟩
def exHidden : List (List Bool) := [[false, false, true, true, true, false], [false, false, false, false, false, false]]
theorem sheet_p : PCalls Try.prog 51 [] (· = exSheet.enc) := by
  refine pcalls_of_aw Try.func51 rfl (Nat.le_of_ble_eq_true rfl) ?_
  (repeat' (first | (refine ar_isq ?_; first | (refine ar_buildS (ds := ?ds) (by exact ty rfl) (by exact rfl) (by exact sizes rfl) (by exact rfl) (by exact rfl) (by exact build rfl) (by exact dc rfl) ?hn ?h; (case hn => (dsimp only [cells_s, cells_emp, cells_agg, cells_list, cells_sl, cells_ptr, cells_ref, cells_fn, cells_vi, cells_vb, cells_vnil, constV, List.map_cons, List.map_nil, List.take_succ_cons, List.take_zero, List.drop_succ_cons, List.drop_zero, List.cons_append, List.nil_append, List.append_nil, LV_cells]; exact rfl)))) | (refine zal ?_) | (refine zsvs ?_) | (refine zsva ?_) | (refine zses ?_) | (refine zsea ?_) | (refine ar_nil ?_) | (refine aw_seq ?_) | (refine aw_skip ?_) | (refine aw_block ?_) | (refine aw_exit ?_) | (refine aw_region ?_) | (refine zco ?_ ?_ <;> intro hg <;> first | exact absurd hg (by decide) | ((try replace hg := HG.out hg); (try dsimp only at hg); (try (have _h : True := hg; clear _h hg)); first | (exfalso; omega) | skip))))
  refine aw_ret ?_
  (repeat (first | refine ret_then ?_ | refine ret_block ?_))
  exact bq1c (ty rfl) rfl rfl Nat.one_pos rfl ⟨rfl, rfl⟩
theorem screen_p : PCalls Try.prog 53 [] (· = exScreen.enc) := by
  refine pcalls_of_aw Try.func53 rfl (Nat.le_of_ble_eq_true rfl) ?_
  (repeat' (first | (refine ar_isq ?_; first | (refine ar_buildS (ds := ?ds) (by exact ty rfl) (by exact rfl) (by exact sizes rfl) (by exact rfl) (by exact rfl) (by exact build rfl) (by exact dc rfl) ?hn ?h; (case hn => (dsimp only [cells_s, cells_emp, cells_agg, cells_list, cells_sl, cells_ptr, cells_ref, cells_fn, cells_vi, cells_vb, cells_vnil, constV, List.map_cons, List.map_nil, List.take_succ_cons, List.take_zero, List.drop_succ_cons, List.drop_zero, List.cons_append, List.nil_append, List.append_nil, LV_cells]; exact rfl)))) | (refine zal ?_) | (refine zsvs ?_) | (refine zsva ?_) | (refine zses ?_) | (refine zsea ?_) | (refine ar_nil ?_) | (refine aw_seq ?_) | (refine aw_skip ?_) | (refine aw_block ?_) | (refine aw_exit ?_) | (refine aw_region ?_) | (refine zco ?_ ?_ <;> intro hg <;> first | exact absurd hg (by decide) | ((try replace hg := HG.out hg); (try dsimp only at hg); (try (have _h : True := hg; clear _h hg)); first | (exfalso; omega) | skip))))
  refine aw_ret ?_
  (repeat (first | refine ret_then ?_ | refine ret_block ?_))
  exact bq1c (ty rfl) rfl rfl Nat.one_pos rfl ⟨rfl, rfl⟩
set_option maxHeartbeats 1000000 in
theorem hidden_p : PCalls Try.prog 54 [] (· = encMask exHidden) := by
  refine pcalls_of_aw Try.func54 rfl (Nat.le_of_ble_eq_true rfl) ?_
  (repeat' (first | (refine ar_isq ?_; first | refine zas ?_) | (refine ar_buildLE vb ([false, false, true, true, true, false]) (by exact ty rfl) (by exact rfl) (by exact ty rfl) (by exact rfl) (by exact rfl) (by exact Nat.succ_pos _) (by exact rfl) (by exact dc rfl) (by exact rfl) (by exact fun _ => ⟨rfl, rfl⟩) (by exact dc rfl) ?_) | (refine ar_make_v (n := 6) (ty rfl) rfl (ty rfl) rfl rfl (by omega) (by omega) (dc rfl) rfl rfl (by dsimp only; omega) (maxLen_ok (by omega)) ?_) | (((refine ar_subk_l (sub_frzL (t := 1) vb ([false, false, true, true, true, false]) rfl rfl rfl rfl (fun _ _ => rfl) (fun _ => rfl)) ?_); (refine ar_subk_l (sub_frzL (t := 2) vb (List.replicate (6) (false)) rfl rfl (by simp) rfl (fun _ hk => congrArg vb (el_replicate hk)) (fun _ => rfl)) ?_); refine ar_buildLE encBools (exHidden) (by exact ty rfl) (by exact rfl) (by exact ty rfl) (by exact rfl) (by exact rfl) (by exact Nat.succ_pos _) (by exact rfl) (by exact dc rfl) (by exact rfl) (by exact fun _ => ⟨rfl, rfl⟩) (by exact dc rfl) ?_)) | (refine zb1 ?_) | (refine zb0 ?_) | (refine ar_nil ?_) | (refine aw_seq ?_) | (refine aw_skip ?_) | (refine aw_block ?_) | (refine aw_exit ?_) | (refine aw_region ?_) | (refine zco ?_ ?_ <;> intro hg <;> first | exact absurd hg (by decide) | ((try replace hg := HG.out hg); (try dsimp only at hg); (try (have _h : True := hg; clear _h hg)); first | (exfalso; omega) | skip))))
  (refine aw_mono_r (env' := [(0, encMask exHidden)]) (H' := []) ?_ ?_; (focus ((refine sub_to [] [2] rfl ?_ ?_ <;> (repeat' (first | exact trivial | refine ⟨⟨_, rfl, ?_⟩, ?_⟩ | refine ⟨bsub_snoc rfl rfl (fun _ => rfl) ?_, ?_⟩ | refine ⟨bsub_one rfl rfl ?_, ?_⟩ | refine ⟨bsub_all rfl rfl (fun _ _ => rfl) (fun _ => rfl), ?_⟩ | refine ⟨bsub_updL rfl rfl ?_ (fun _ _ _ => rfl) (fun _ => rfl), ?_⟩ | refine ⟨.inl ⟨_, _, rfl, rfl, ?_⟩, ?_⟩ | exact ⟨.inr ⟨rfl, rfl⟩, trivial⟩ | refine ⟨.inr ⟨rfl, rfl⟩, ?_⟩ | (intro _ _) | exact .closed rfl | exact .sl rfl | exact .ptr rfl | exact .map rfl | exact .nil rfl | exact .emp rfl | exact .nilList | exact .empList | exact frzPtr' (by simp; done) rfl (by omega) rfl rfl | exact frzLB (by simp; done) rfl (fun _ => rfl) rfl | exact frz_all (by simp; done) rfl (fun _ _ => rfl) (fun _ => rfl) rfl | exact .frz (by simp; done) rfl (by omega) (fun _ _ => rfl) (fun _ _ => rfl) | exact slEq rfl (by first | (simp; done) | (simp; omega)) | exact siEq (by omega) | exact .of_eq (by refine (show V.agg _ = V.agg _ from ?_); (try dsimp only); congr <;> first | rfl | omega) rfl | exact .closed (by simp [V.closed, V.closed.all, *]; done) | fail))); done)))
  (refine aw_ret ?_; (repeat (first | refine ret_then ?_ | refine ret_block ?_)); refine bq1 rfl ⟨?_, rfl⟩)
  rfl
def stF (row : Int) (k j : Nat) : V := if j < k then vi row else vi 0
theorem stF_closed (row : Int) (k j : Nat) : (stF row k j).closed = true := by unfold stF; split <;> rfl
theorem stF_one (row : Int) (k j : Nat) : (stF row k j).cells.length = 1 := by unfold stF; split <;> rfl
theorem stF_na (row : Int) (k j : Nat) (cs : List V) : stF row k j ≠ .agg cs := by unfold stF; split <;> intro h <;> cases h
theorem stF_lt {row : Int} {k j : Nat} (h : j < k) : stF row k j = vi row := by simp [stF, h]
theorem stF_ne {row : Int} {k j : Nat} (h : j ≠ k) : stF row (k + 1) j = stF row k j := by
  unfold stF
  by_cases h1 : j < k
  · rw [if_pos h1, if_pos (by omega)]
  · rw [if_neg h1, if_neg (by omega)]
set_option maxHeartbeats 1000000 in
theorem straight_p (row : Int) (n : Nat) (hn : n ≤ 1000) : PCalls Try.prog 52 [vi row, vi n] (· = encInts (List.replicate n row)) := by
  refine pcalls_of_aw Try.func52 rfl (Nat.le_of_ble_eq_true rfl) ?_
  (repeat' (first | (refine ar_isq ?_; first | refine zmv ?_ | refine zas ?_ | (refine is_binOp ?_; first | refine zlss ?_ | refine zadd ?_) | (refine is_indexAddr ?_; first | refine zil ?_ | refine zis ?_ | refine zit ?_ | refine zia ?_ | refine zir ?_ | (refine zxl ?_; intro _ _ _) | (refine zxs ?_; intro _ _ _)) | (refine is_call ?_; first | refine zll ?_ | refine zls ?_ | refine zln ?_ | refine zle ?_)) | (refine ar_make_v (n := n) (ty rfl) rfl (ty rfl) rfl rfl (by omega) (by omega) (dc rfl) rfl rfl (by dsimp only; omega) (maxLen_ok (by omega)) ?_) | (refine zsvs ?_) | (refine zsva ?_) | (refine zses ?_) | (refine zsea ?_) | (refine ar_nil ?_) | (refine aw_seq ?_) | (refine aw_skip ?_) | (refine aw_block ?_) | (refine aw_exit ?_) | (refine aw_region ?_) | (refine zco ?_ ?_ <;> intro hg <;> first | exact absurd hg (by decide) | ((try replace hg := HG.out hg); (try dsimp only at hg); (try (have _h : True := hg; clear _h hg)); first | (exfalso; omega) | skip))))
  refine aw_for n (fun _ => True) (fun k => [(0, vi row), (5, .sl 1 0 0 n), (10, vi n), (11, vi k)]) (fun k => [.arr 1 n (stF row k)]) trivial ?_ ?_
  · (refine sub_to [some 0] [] rfl ?_ ?_ <;> (repeat' (first | exact trivial | refine ⟨⟨_, rfl, ?_⟩, ?_⟩ | refine ⟨bsub_snoc rfl rfl (fun _ => rfl) ?_, ?_⟩ | refine ⟨bsub_one rfl rfl ?_, ?_⟩ | refine ⟨bsub_all rfl rfl (fun _ _ => rfl) (fun _ => rfl), ?_⟩ | refine ⟨bsub_updL rfl rfl ?_ (fun _ _ _ => rfl) (fun _ => rfl), ?_⟩ | refine ⟨.inl ⟨_, _, rfl, rfl, ?_⟩, ?_⟩ | exact ⟨.inr ⟨rfl, rfl⟩, trivial⟩ | refine ⟨.inr ⟨rfl, rfl⟩, ?_⟩ | (intro _ _) | exact .closed rfl | exact .sl rfl | exact .ptr rfl | exact .map rfl | exact .nil rfl | exact .emp rfl | exact .nilList | exact .empList | exact frzPtr' (by simp; done) rfl (by omega) rfl rfl | exact frzLB (by simp; done) rfl (fun _ => rfl) rfl | exact frz_all (by simp; done) rfl (fun _ _ => rfl) (fun _ => rfl) rfl | exact .frz (by simp; done) rfl (by omega) (fun _ _ => rfl) (fun _ _ => rfl) | exact slEq rfl (by first | (simp; done) | (simp; omega)) | exact siEq (by omega) | exact .of_eq (by refine (show V.agg _ = V.agg _ from ?_); (try dsimp only); congr <;> first | rfl | omega) rfl | exact .closed (by simp [V.closed, V.closed.all, *]; done) | fail)))
  intro k hk _
  by_cases hlt : k < n
  · (repeat' (first | (refine ar_isq ?_; first | refine zmv ?_ | refine zas ?_ | (refine is_binOp ?_; first | refine zlss ?_ | refine zadd ?_) | (refine is_indexAddr ?_; first | refine zil ?_ | refine zis ?_ | refine zit ?_ | refine zia ?_ | refine zir ?_ | (refine zxl ?_; intro _ _ _) | (refine zxs ?_; intro _ _ _)) | (refine is_call ?_; first | refine zll ?_ | refine zls ?_ | refine zln ?_ | refine zle ?_)) | (refine ar_store_as (stF row (k + 1)) (ty rfl) rfl rfl rfl rfl rfl rfl (by assumption) (by dsimp only; omega) (fun _ h => by cases h) rfl (stF_one _ _ _) (stF_na _ _ _) (stF_lt (Nat.lt_succ_self _)) (fun i _ h => stF_ne h) ?_) | (refine zsvs ?_) | (refine zsva ?_) | (refine zses ?_) | (refine zsea ?_) | (refine ar_nil ?_) | (refine aw_seq ?_) | (refine aw_skip ?_) | (refine aw_block ?_) | (refine aw_exit ?_) | (refine aw_region ?_) | (refine zco ?_ ?_ <;> intro hg <;> first | exact absurd hg (by decide) | ((try replace hg := HG.out hg); (try dsimp only at hg); (try (have _h : True := hg; clear _h hg)); first | (exfalso; omega) | skip))))
    all_goals first
      | (exfalso; omega)
      | ((first | refine loop_next (by omega) ?_ ?_ | refine (show _ ∧ _ ∧ SubOf _ _ _ _ _ _ from And.intro (by omega) (And.intro ?_ ?_))); (focus ((trivial); done)); (focus ((refine sub_to [some 0] [] rfl ?_ ?_ <;> (repeat' (first | exact trivial | refine ⟨⟨_, rfl, ?_⟩, ?_⟩ | refine ⟨bsub_snoc rfl rfl (fun _ => rfl) ?_, ?_⟩ | refine ⟨bsub_one rfl rfl ?_, ?_⟩ | refine ⟨bsub_all rfl rfl (fun _ _ => rfl) (fun _ => rfl), ?_⟩ | refine ⟨bsub_updL rfl rfl ?_ (fun _ _ _ => rfl) (fun _ => rfl), ?_⟩ | refine ⟨.inl ⟨_, _, rfl, rfl, ?_⟩, ?_⟩ | exact ⟨.inr ⟨rfl, rfl⟩, trivial⟩ | refine ⟨.inr ⟨rfl, rfl⟩, ?_⟩ | (intro _ _) | exact .closed rfl | exact .sl rfl | exact .ptr rfl | exact .map rfl | exact .nil rfl | exact .emp rfl | exact .nilList | exact .empList | exact frzPtr' (by simp; done) rfl (by omega) rfl rfl | exact frzLB (by simp; done) rfl (fun _ => rfl) rfl | exact frz_all (by simp; done) rfl (fun _ _ => rfl) (fun _ => rfl) rfl | exact .frz (by simp; done) rfl (by omega) (fun _ _ => rfl) (fun _ _ => rfl) | exact slEq rfl (by first | (simp; done) | (simp; omega)) | exact siEq (by omega) | (exact VSub.closed (stF_closed _ _ _)) | exact .of_eq (by refine (show V.agg _ = V.agg _ from ?_); (try dsimp only); congr <;> first | rfl | omega) rfl | exact .closed (by simp [V.closed, V.closed.all, *]; done) | fail))); done)))
      | trace_state
  · obtain rfl : k = n := by omega
    (repeat' (first | (refine ar_isq ?_; first | refine zmv ?_ | refine zas ?_ | (refine is_binOp ?_; first | refine zlss ?_ | refine zadd ?_) | (refine is_indexAddr ?_; first | refine zil ?_ | refine zis ?_ | refine zit ?_ | refine zia ?_ | refine zir ?_ | (refine zxl ?_; intro _ _ _) | (refine zxs ?_; intro _ _ _)) | (refine is_call ?_; first | refine zll ?_ | refine zls ?_ | refine zln ?_ | refine zle ?_)) | (refine zsvs ?_) | (refine zsva ?_) | (refine zses ?_) | (refine zsea ?_) | (refine ar_nil ?_) | (refine aw_seq ?_) | (refine aw_skip ?_) | (refine aw_block ?_) | (refine aw_exit ?_) | (refine aw_region ?_) | (refine zco ?_ ?_ <;> intro hg <;> first | exact absurd hg (by decide) | ((try replace hg := HG.out hg); (try dsimp only at hg); (try (have _h : True := hg; clear _h hg)); first | (exfalso; omega) | skip))))
    all_goals first
      | (exfalso; omega)
      | ((refine aw_mono_r (env' := [(4, encInts (List.replicate k row))]) (H' := []) ?_ ?_; (focus ((refine sub_to [] [0] rfl ?_ ?_ <;> (repeat' (first | exact trivial | refine ⟨⟨_, rfl, ?_⟩, ?_⟩ | refine ⟨bsub_snoc rfl rfl (fun _ => rfl) ?_, ?_⟩ | refine ⟨bsub_one rfl rfl ?_, ?_⟩ | refine ⟨bsub_all rfl rfl (fun _ _ => rfl) (fun _ => rfl), ?_⟩ | refine ⟨bsub_updL rfl rfl ?_ (fun _ _ _ => rfl) (fun _ => rfl), ?_⟩ | refine ⟨.inl ⟨_, _, rfl, rfl, ?_⟩, ?_⟩ | exact ⟨.inr ⟨rfl, rfl⟩, trivial⟩ | refine ⟨.inr ⟨rfl, rfl⟩, ?_⟩ | (intro _ _) | exact .closed rfl | exact .sl rfl | exact .ptr rfl | exact .map rfl | exact .nil rfl | exact .emp rfl | exact .nilList | exact .empList | exact frzPtr' (by simp; done) rfl (by omega) rfl rfl | exact frzLB (by simp; done) rfl (fun _ => rfl) rfl | exact frz_all (by simp; done) rfl (fun _ _ => rfl) (fun _ => rfl) rfl | exact .frz (by simp; done) rfl (by omega) (fun _ _ => rfl) (fun _ _ => rfl) | exact slEq rfl (by first | (simp; done) | (simp; omega)) | exact siEq (by omega) | (exact frz_as (by simp) rfl rfl (by simp) (fun j hj => by rw [stF_lt hj, el_replicate hj]) (fun _ => rfl)) | exact .of_eq (by refine (show V.agg _ = V.agg _ from ?_); (try dsimp only); congr <;> first | rfl | omega) rfl | exact .closed (by simp [V.closed, V.closed.all, *]; done) | fail))); done))); (refine aw_ret ?_; (repeat (first | refine ret_then ?_ | refine ret_block ?_)); refine bq1 rfl ⟨?_, rfl⟩); rfl)
      | trace_state
theorem exRoom_p : PCalls Try.prog 43 [exSheet.enc, exScreen.enc] (· = .tup [vi 2, vi 5, vi 0]) := (lRoom_p exSheet exScreen).mono fun v h => h.trans (by kernel_rfl)
def exBand : List (List Int) := [[1, 1, 3, 5, 3, 1], [9, 9, 9, 9, 9, 9]]
theorem exHide_p : PCalls Try.prog 47 [exSheet.enc, exScreen.enc, encMask exHidden] (· = .tup [encRows exBand, vi 0]) := (lHide_p exSheet exScreen exHidden).mono fun v h => by
  rw [h, show hideF exSheet exScreen exHidden = exBand by decide +kernel, show hideErr exSheet exScreen exHidden = 0 by decide +kernel]
def exSeen : List (List Bool) := [[false, false, false, true, false, false], [false, false, false, false, false, false]]
theorem exSeen_p : PCalls Try.prog 41 [exSheet.enc, encRows exBand, exScreen.enc, vi 4] (· = .tup [encMask exSeen, vi 0]) := (lSeen_p exSheet exBand exScreen 4).mono fun v h => by
  rw [h, show seenF exSheet exBand exScreen 4 = exSeen by decide +kernel, show seenErr exSheet exBand exScreen 4 = 0 by decide +kernel]
theorem exMost_p : PCalls Try.prog 19 [exSheet.enc, encInts (List.replicate 6 0), encInts (List.replicate 6 12)] (· = .tup [vi 5, vi 0]) := (lMost_p exSheet _ _).mono fun v h => by
  rw [h, show mostVal exSheet (List.replicate 6 0) (List.replicate 6 12) = 5 by decide +kernel, show mostErr exSheet (List.replicate 6 0) (List.replicate 6 12) = 0 by decide +kernel]
def exMask : List (List Bool) := [[true, true, true, false], [true, false, true, false], [true, false, true, false], [true, false, true, false], [true, true, true, false]]
theorem exMask_p : PCalls Try.prog 35 [encInts [31599], vi 1, vi 4, vi 5] (· = .tup [encMask exMask, vi 0]) := (lMask_p [31599] 1 4 5).mono fun v h => by
  rw [h, show maskF [31599] 1 4 5 = exMask by decide +kernel, show maskErr [31599] 1 4 5 = 0 by decide +kernel]
theorem exSpell_p : PCalls Try.prog 37 [encMask exMask, vi 1, vi 1] (· = .tup [encInts [31599], vi 0]) := (lSpell_p exMask 1 1).mono fun v h => by
  rw [h, show spellF exMask 1 1 = [31599] by decide +kernel, show spellErr exMask 1 1 = 0 by decide +kernel]
set_option maxHeartbeats 4000000 in
theorem alive_p : PCalls Try.prog 49 [] (· = vb true) := by
  refine pcalls_of_aw Try.func49 rfl (Nat.le_of_ble_eq_true rfl) ?_
  (repeat' (first | (refine ar_isq ?_; first | refine zmv ?_ | refine zas ?_ | refine zeql ?_ | (refine is_call ?_; first | refine zll ?_ | refine zls ?_ | refine zln ?_ | refine zle ?_) | (refine is_pick ?_; first | refine zpt ?_ | refine zpf ?_) | refine zex ?_) | (refine ar_pcall (own := false) fn51 rfl rfl .nil (sheet_p) (by simp) (dc rfl) ?_; intro _ hv; subst hv) | (refine ar_pcall (own := false) fn53 rfl rfl .nil (screen_p) (by simp) (dc rfl) ?_; intro _ hv; subst hv) | (refine ar_pcall (own := false) fn54 rfl rfl .nil (hidden_p) (by simp) (dc rfl) ?_; intro _ hv; subst hv) | (refine ar_pcall (own := false) fn43 rfl rfl (.cons (.closed rfl) (.cons (.closed rfl) .nil)) (exRoom_p) (by simp) (dc rfl) ?_; intro _ hv; subst hv) | (refine ar_pcall (own := false) fn47 rfl rfl (.cons (.closed rfl) (.cons (.closed rfl) (.cons (.closed rfl) .nil))) (exHide_p) (by simp) (dc rfl) ?_; intro _ hv; subst hv) | (refine ar_pcall (own := false) fn41 rfl rfl (.cons (.closed rfl) (.cons (.closed rfl) (.cons (.closed rfl) (.cons (.closed rfl) .nil)))) (exSeen_p) (by simp) (dc rfl) ?_; intro _ hv; subst hv) | (refine ar_pcall (own := false) fn52 rfl rfl (.cons (.closed rfl) (.cons (.closed rfl) .nil)) (straight_p _ 6 (by omega)) (by simp) (dc rfl) ?_; intro _ hv; subst hv) | (refine ar_pcall (own := false) fn19 rfl rfl (.cons (.closed rfl) (.cons (.closed rfl) (.cons (.closed rfl) .nil))) (exMost_p) (by simp) (dc rfl) ?_; intro _ hv; subst hv) | (((refine ar_subk_l (sub_frzL (t := 43) vi ([31599]) rfl rfl rfl rfl (fun _ _ => rfl) (fun _ => rfl)) ?_); refine ar_pcall (own := false) fn35 rfl rfl (.cons (.closed rfl) (.cons (.closed rfl) (.cons (.closed rfl) (.cons (.closed rfl) .nil)))) (exMask_p) (by simp) (dc rfl) ?_; intro _ hv; subst hv)) | (refine ar_pcall (own := false) fn37 rfl rfl (.cons (.closed rfl) (.cons (.closed rfl) (.cons (.closed rfl) .nil))) (exSpell_p) (by simp) (dc rfl) ?_; intro _ hv; subst hv) | (refine ar_buildLE vi ([31599]) (by exact ty rfl) (by exact rfl) (by exact ty rfl) (by exact rfl) (by exact rfl) (by exact Nat.succ_pos _) (by exact rfl) (by exact dc rfl) (by exact rfl) (by exact fun _ => ⟨rfl, rfl⟩) (by exact dc rfl) ?_) | (refine ar_buildLE vi ([1, 1, 3, 5, 3, 1]) (by exact ty rfl) (by exact rfl) (by exact ty rfl) (by exact rfl) (by exact rfl) (by exact Nat.succ_pos _) (by exact rfl) (by exact dc rfl) (by exact rfl) (by exact fun _ => ⟨rfl, rfl⟩) (by exact dc rfl) ?_) | (((refine ar_subk_l (sub_frzL (t := 68) vi ([1, 1, 3, 5, 3, 1]) rfl rfl rfl rfl (fun _ _ => rfl) (fun _ => rfl)) ?_); refine ar_buildLE encInts (exBand) (by exact ty rfl) (by exact rfl) (by exact ty rfl) (by exact rfl) (by exact rfl) (by exact Nat.succ_pos _) (by exact rfl) (by exact dc rfl) (by exact rfl) (by exact fun _ => ⟨rfl, rfl⟩) (by exact dc rfl) ?_)) | (((refine ar_subk_l (sub_frzL (t := 70) encInts (exBand) rfl rfl rfl rfl (fun _ _ => rfl) (fun _ => rfl)) ?_); refine ar_pcall (own := false) fn21 rfl rfl (.cons (.closed rfl) (.cons (.closed rfl) .nil)) (sameBand_p exBand) (by simp) (dc rfl) ?_; intro _ hv; subst hv)) | (refine ar_buildLE vb ([false, false, false, true, false, false]) (by exact ty rfl) (by exact rfl) (by exact ty rfl) (by exact rfl) (by exact rfl) (by exact Nat.succ_pos _) (by exact rfl) (by exact dc rfl) (by exact rfl) (by exact fun _ => ⟨rfl, rfl⟩) (by exact dc rfl) ?_) | (refine ar_make_v (n := 6) (ty rfl) rfl (ty rfl) rfl rfl (by omega) (by omega) (dc rfl) rfl rfl (by dsimp only; omega) (maxLen_ok (by omega)) ?_) | (((refine ar_subk_l (sub_frzL (t := 79) vb ([false, false, false, true, false, false]) rfl rfl rfl rfl (fun _ _ => rfl) (fun _ => rfl)) ?_); (refine ar_subk_l (sub_frzL (t := 80) vb (List.replicate (6) (false)) rfl rfl (by simp) rfl (fun _ hk => congrArg vb (el_replicate hk)) (fun _ => rfl)) ?_); refine ar_buildLE encBools (exSeen) (by exact ty rfl) (by exact rfl) (by exact ty rfl) (by exact rfl) (by exact rfl) (by exact Nat.succ_pos _) (by exact rfl) (by exact dc rfl) (by exact rfl) (by exact fun _ => ⟨rfl, rfl⟩) (by exact dc rfl) ?_)) | (((refine ar_subk_l (sub_frzL (t := 81) encBools (exSeen) rfl rfl rfl rfl (fun _ _ => rfl) (fun _ => rfl)) ?_); refine ar_pcall (own := false) fn39 rfl rfl (.cons (.closed rfl) (.cons (.closed rfl) .nil)) (sameMask_p exSeen) (by simp) (dc rfl) ?_; intro _ hv; subst hv)) | (((refine ar_subk_l (sub_frzL (t := 107) vi ([31599]) rfl rfl rfl rfl (fun _ _ => rfl) (fun _ => rfl)) ?_); refine ar_pcall (own := false) fn40 rfl rfl (.cons (.closed rfl) (.cons (.closed rfl) .nil)) (sameInts_p [31599]) (by simp) (dc rfl) ?_; intro _ hv; subst hv)) | (refine zb1 ?_) | (refine zb0 ?_) | (refine zg ?_ ?_ <;> intro hg <;> first | exact absurd hg (by decide) | ((try replace hg := HG.out hg); (try dsimp only at hg); (try (have _h : True := hg; clear _h hg)); first | (exfalso; omega) | skip)) | (refine zgu ?_) | (refine ar_nil ?_) | (refine aw_seq ?_) | (refine aw_skip ?_) | (refine aw_block ?_) | (refine aw_exit ?_) | (refine aw_region ?_) | (refine zco ?_ ?_ <;> intro hg <;> first | exact absurd hg (by decide) | ((try replace hg := HG.out hg); (try dsimp only at hg); (try (have _h : True := hg; clear _h hg)); first | (exfalso; omega) | skip))))
  all_goals first
    | ((refine aw_ret ?_; (repeat (first | refine ret_then ?_ | refine ret_block ?_)); refine bq1 rfl ⟨?_, rfl⟩); rfl)
    | trace_state
end Go.Proofs.Ytccidiflnmchiaa
namespace Go.Proofs.Ytccidiflnmchiaa
open Go.RowKit
section
variable {a : Int} {w v : Nat → Int} {n j k : Nat}
theorem lean_le (hj : j < n) : leanAt a w n j ≤ w j := by
  have := lean_all (a := a) (w := w) hj hj
  rw [show farI j j = 0 by unfold farI; omega, Int.mul_zero] at this
  omega
theorem lean_step (ha : 0 ≤ a) (hj : j < n) (hk : k < n) (h : k ≤ j + 1) (h' : j ≤ k + 1) : leanAt a w n j - leanAt a w n k ≤ a := by
  obtain ⟨i, hi, h1⟩ := lean_some (w := w) ha hk
  have h2 := lean_all (a := a) (w := w) hj hi
  have h3 : a * farI j i ≤ a * (farI k i + 1) := Int.mul_le_mul_of_nonneg_left (by unfold farI; omega) ha
  rw [Int.mul_add, Int.mul_one] at h3
  omega
theorem far_near (ha : 0 ≤ a) (hv : ∀ i, i + 1 < n → v (i + 1) - v i ≤ a ∧ v i - v (i + 1) ≤ a) : ∀ (d i : Nat), i + d < n → v (i + d) - v i ≤ a * d ∧ v i - v (i + d) ≤ a * d
  | 0, i, _ => by simp
  | d + 1, i, h => by
    have h1 := far_near ha hv d i (by omega)
    have h2 := hv (i + d) (by omega)
    have e : a * ((d + 1 : Nat) : Int) = a * d + a := by rw [Int.natCast_succ, Int.mul_add, Int.mul_one]
    rw [e, show i + (d + 1) = i + d + 1 by omega]
    omega
/-- No line that leans no more, and is nowhere above what is wished, is greater. -/
theorem lean_greatest (ha : 0 ≤ a) (hv : ∀ i, i + 1 < n → v (i + 1) - v i ≤ a ∧ v i - v (i + 1) ≤ a) (hle : ∀ i, i < n → v i ≤ w i) (hj : j < n) : v j ≤ leanAt a w n j := by
  obtain ⟨k, hk, h1⟩ := lean_some (w := w) ha hj
  have h2 := hle k hk
  have h3 : v j - v k ≤ a * farI j k := by
    by_cases h : k ≤ j
    · have := (far_near ha hv (j - k) k (by omega)).1
      rw [show k + (j - k) = j by omega] at this
      rw [show farI j k = ((j - k : Nat) : Int) by unfold farI; omega]
      exact this
    · have := (far_near ha hv (k - j) j (by omega)).2
      rw [show j + (k - j) = k by omega] at this
      rw [show farI j k = ((k - j : Nat) : Int) by unfold farI; omega]
      exact this
  omega
theorem lean_same (ha : 0 ≤ a) (hw : ∀ i, i + 1 < n → w (i + 1) - w i ≤ a ∧ w i - w (i + 1) ≤ a) (hj : j < n) : leanAt a w n j = w j :=
  Int.le_antisymm (lean_le hj) (lean_greatest ha hw (fun _ _ => Int.le_refl _) hj)
theorem lean_mono (ha : 0 ≤ a) (hw : ∀ i, i < n → w i ≤ v i) (hj : j < n) : leanAt a w n j ≤ leanAt a v n j :=
  lean_greatest ha (fun i hi => ⟨lean_step ha (by omega) (by omega) (by omega) (by omega), lean_step ha (by omega) (by omega) (by omega) (by omega)⟩) (fun i hi => Int.le_trans (lean_le hi) (hw i hi)) hj
end
end Go.Proofs.Ytccidiflnmchiaa
namespace Go.Proofs.Ytccidiflnmchiaa
open Go.RowKit
/-- What the law 'printed' knows behind r rows: paper, run, lines. -/
def pPaper (w cl : Int) (d : Nat → Bool) : Nat → Int × Int × Int
  | 0 => (cl, 0, 0)
  | r + 1 => if d r = true then (if (pPaper w cl d r).2.1 % w = 0 then (0, (pPaper w cl d r).2.1 + 1, (pPaper w cl d r).2.2 + 1) else ((pPaper w cl d r).1, (pPaper w cl d r).2.1 + 1, (pPaper w cl d r).2.2)) else ((pPaper w cl d r).1 + 1, 0, (pPaper w cl d r).2.2)
def cntD (d : Nat → Bool) : Nat → Nat
  | 0 => 0
  | r + 1 => cntD d r + (if d r = true then 1 else 0)
/-- The lines' rows in one column: l i, i < n; each w dots of ink, cl of paper at least between two. -/
structure Col (w cl R : Int) (n : Nat) (l : Nat → Int) (d : Nat → Bool) : Prop where
  hw : 1 ≤ w
  hc : 0 ≤ cl
  low : ∀ i, i < n → 0 ≤ l i ∧ l i + w ≤ R
  gap : ∀ i, i + 1 < n → l i + w + cl ≤ l (i + 1)
  dot : ∀ r : Nat, d r = true ↔ ∃ i, i < n ∧ l i ≤ r ∧ (r : Int) < l i + w
theorem Col.far {w cl R : Int} {n : Nat} {l : Nat → Int} {d : Nat → Bool} (h : Col w cl R n l d) : ∀ (e i : Nat), i + (e + 1) < n → l i + w + cl ≤ l (i + (e + 1))
  | 0, i, hi => h.gap i hi
  | e + 1, i, hi => by
    have h1 := h.far e i (by omega)
    have h2 := h.gap (i + (e + 1)) (by omega)
    have := h.hw
    have := h.hc
    rw [show i + (e + 1 + 1) = i + (e + 1) + 1 by omega]
    omega
theorem Col.apart {w cl R : Int} {n : Nat} {l : Nat → Int} {d : Nat → Bool} (h : Col w cl R n l d) {i j : Nat} (hij : i < j) (hj : j < n) : l i + w + cl ≤ l j := by
  have := h.far (j - i - 1) i (by omega)
  rw [show i + (j - i - 1 + 1) = j by omega] at this
  exact this
/-- Behind r rows L lines have begun. -/
structure At (w cl : Int) (n : Nat) (l : Nat → Int) (d : Nat → Bool) (r L : Nat) : Prop where
  le : L ≤ n
  old : ∀ i, i < L → l i < r
  new : ∀ i, L ≤ i → i < n → (r : Int) ≤ l i
  zero : L = 0 → (pPaper w cl d r).2.1 = 0 ∧ (pPaper w cl d r).2.2 = 0 ∧ cntD d r = 0
  lines : (pPaper w cl d r).2.2 = L
  ink : 0 < L → (r : Int) < l (L - 1) + w → (pPaper w cl d r).2.1 % w = r - l (L - 1) ∧ (pPaper w cl d r).1 = 0 ∧ (cntD d r : Int) = (L : Int) * w - w + (r - l (L - 1))
  edge : 0 < L → l (L - 1) + w ≤ r → (pPaper w cl d r).2.1 % w = 0 ∧ (pPaper w cl d r).1 = r - l (L - 1) - w ∧ (cntD d r : Int) = (L : Int) * w
theorem Col.at_ {w cl R : Int} {n : Nat} {l : Nat → Int} {d : Nat → Bool} (h : Col w cl R n l d) : ∀ r, ∃ L, At w cl n l d r L ∧ (d r = false → (pPaper w cl d r).2.1 % w = 0) ∧ (d r = true → (pPaper w cl d r).2.1 % w = 0 → (pPaper w cl d r).2.2 = 0 ∨ cl ≤ (pPaper w cl d r).1) := by
  have hw := h.hw
  have hc := h.hc
  have key : ∀ {r L : Nat}, At w cl n l d r L → (d r = true ↔ (0 < L ∧ (r : Int) < l (L - 1) + w) ∨ (L < n ∧ l L = r)) := fun {r L} a => by
    rw [h.dot]
    constructor
    · rintro ⟨i, hi, h1, h2⟩
      rcases Nat.lt_or_ge i L with h3 | h3
      · rcases Nat.lt_or_ge (i + 1) L with h4 | h4
        · have := h.apart (i := i) (j := L - 1) (by omega) (by have := a.le; omega)
          have := a.old (L - 1) (by omega)
          omega
        · obtain rfl : i = L - 1 := by omega
          exact .inl ⟨by omega, h2⟩
      · have h4 := a.new i h3 hi
        rcases Nat.lt_or_ge L i with h5 | h5
        · have := h.apart h5 hi
          have := a.new L (Nat.le_refl _) (by omega)
          omega
        · obtain rfl : i = L := by omega
          exact .inr ⟨hi, by omega⟩
    · rintro (⟨h1, h2⟩ | ⟨h1, h2⟩)
      · exact ⟨L - 1, by have := a.le; omega, by have := a.old (L - 1) (by omega); omega, h2⟩
      · exact ⟨L, h1, by omega, by omega⟩
  -- what the law asks, from the state
  have asks : ∀ {r L : Nat}, At w cl n l d r L → (d r = false → (pPaper w cl d r).2.1 % w = 0) ∧ (d r = true → (pPaper w cl d r).2.1 % w = 0 → (pPaper w cl d r).2.2 = 0 ∨ cl ≤ (pPaper w cl d r).1) := fun {r L} a => by
    have k := key a
    refine ⟨fun hf => ?_, fun ht h0 => ?_⟩
    · rw [hf] at k
      have k' : ¬ ((0 < L ∧ (r : Int) < l (L - 1) + w) ∨ (L < n ∧ l L = r)) := fun x => by have := k.2 x; cases this
      rcases Nat.eq_zero_or_pos L with h1 | h1
      · rw [(a.zero h1).1]; exact Int.zero_emod _
      · by_cases h2 : (r : Int) < l (L - 1) + w
        · exact (k' (.inl ⟨h1, h2⟩)).elim
        · exact (a.edge h1 (by omega)).1
    · rcases Nat.eq_zero_or_pos L with h1 | h1
      · exact .inl (a.zero h1).2.1
      · by_cases h2 : (r : Int) < l (L - 1) + w
        · have := (a.ink h1 h2).1
          have := a.old (L - 1) (by omega)
          omega
        · rcases k.1 ht with ⟨_, h3⟩ | ⟨h3, h4⟩
          · omega
          · have := (a.edge h1 (by omega)).2.1
            have := h.apart (i := L - 1) (j := L) (by omega) h3
            right
            omega
  intro r
  induction r with
  | zero =>
    refine ⟨0, ?_⟩
    have a : At w cl n l d 0 0 := ⟨Nat.zero_le _, fun i hi => by omega, fun i _ hi => (h.low i hi).1, fun _ => ⟨rfl, rfl, rfl⟩, rfl, fun h => by omega, fun h => by omega⟩
    exact ⟨a, asks a⟩
  | succ r ih =>
    obtain ⟨L, a, _⟩ := ih
    have k := key a
    have ak := asks a
    have hle := a.le
    have hlines := a.lines
    -- behind the first two kinds of rows: ink
    have inkStep : ∀ (L' : Nat), L' ≤ n → 0 < L' → (∀ i, i < L' → l i < (r : Int) + 1) → (∀ i, L' ≤ i → i < n → (r : Int) + 1 ≤ l i) → (pPaper w cl d (r + 1)).2.2 = L' → (pPaper w cl d (r + 1)).1 = 0 → (r : Int) < l (L' - 1) + w →
        (pPaper w cl d (r + 1)).2.1 % w = (if (r : Int) + 1 - l (L' - 1) = w then 0 else (r : Int) + 1 - l (L' - 1)) → (cntD d (r + 1) : Int) = (L' : Int) * w - w + ((r : Int) + 1 - l (L' - 1)) → At w cl n l d (r + 1) L' := fun L' h1 h2 h3 h4 h5 h6 h7 h8 h9 => {
      le := h1, old := fun i hi => by have := h3 i hi; omega, new := fun i hi hn => by have := h4 i hi hn; omega, zero := fun h => by omega, lines := h5
      ink := fun _ hb => by
        rw [if_neg (by omega)] at h8
        refine ⟨by omega, h6, by omega⟩
      edge := fun _ hb => by
        rw [if_pos (by omega)] at h8
        refine ⟨h8, by omega, by omega⟩ }
    by_cases hA : 0 < L ∧ (r : Int) < l (L - 1) + w
    · have hd : d r = true := k.2 (.inl hA)
      obtain ⟨i1, i2, i3⟩ := a.ink hA.1 hA.2
      have hold := a.old (L - 1) (by omega)
      have hne : ¬ (pPaper w cl d r).2.1 % w = 0 := by omega
      have e : (pPaper w cl d (r + 1)).2.1 = (pPaper w cl d r).2.1 + 1 ∧ (pPaper w cl d (r + 1)).2.2 = (pPaper w cl d r).2.2 ∧ (pPaper w cl d (r + 1)).1 = (pPaper w cl d r).1 := by simp only [pPaper, hd, if_true]; rw [if_neg hne]; exact ⟨rfl, rfl, rfl⟩
      obtain ⟨e1, e2, e3⟩ := e
      have e4 : cntD d (r + 1) = cntD d r + 1 := by simp [cntD, hd]
      have b : At w cl n l d (r + 1) L := by
        refine inkStep L hle hA.1 (fun i hi => by have := a.old i hi; omega) (fun i hi hn => ?_) (by omega) (by omega) hA.2 ?_ (by rw [e4]; omega)
        · have := h.apart (i := L - 1) (j := i) (by omega) hn
          omega
        · rw [e1, Int.add_emod, i1]
          by_cases hw1 : w = 1
          · omega
          · rw [Int.emod_eq_of_lt (show (0 : Int) ≤ 1 by omega) (by omega)]
            split
            · rw [show (r : Int) - l (L - 1) + 1 = w by omega]; exact Int.emod_self
            · rw [Int.emod_eq_of_lt (by omega) (by omega)]; omega
      exact ⟨L, b, (asks b).1, (asks b).2⟩
    · have h0 : (pPaper w cl d r).2.1 % w = 0 ∧ (cntD d r : Int) = (L : Int) * w := by
        rcases Nat.eq_zero_or_pos L with h1 | h1
        · obtain ⟨z1, z2, z3⟩ := a.zero h1
          rw [z1, z3, h1]
          exact ⟨Int.zero_emod _, by simp⟩
        · obtain ⟨z1, z2, z3⟩ := a.edge h1 (by omega)
          exact ⟨z1, z3⟩
      by_cases hB : L < n ∧ l L = r
      · have hd : d r = true := k.2 (.inr hB)
        have e : (pPaper w cl d (r + 1)).2.1 = (pPaper w cl d r).2.1 + 1 ∧ (pPaper w cl d (r + 1)).2.2 = (pPaper w cl d r).2.2 + 1 ∧ (pPaper w cl d (r + 1)).1 = 0 := by simp only [pPaper, hd, if_true]; rw [if_pos h0.1]; exact ⟨rfl, rfl, rfl⟩
        obtain ⟨e1, e2, e3⟩ := e
        have e4 : cntD d (r + 1) = cntD d r + 1 := by simp [cntD, hd]
        have hm : ((L + 1 : Nat) : Int) * w = (L : Int) * w + w := by rw [Int.natCast_succ, Int.add_mul, Int.one_mul]
        have b : At w cl n l d (r + 1) (L + 1) := by
          refine inkStep (L + 1) hB.1 (by omega) (fun i hi => ?_) (fun i hi hn => ?_) (by omega) e3 (by rw [show L + 1 - 1 = L by omega]; omega) ?_ ?_
          · rcases Nat.lt_or_ge i L with h1 | h1
            · have := a.old i h1; omega
            · obtain rfl : i = L := by omega
              omega
          · have := h.apart (i := L) (j := i) (by omega) hn
            omega
          · rw [show L + 1 - 1 = L by omega, e1, Int.add_emod, h0.1, Int.zero_add, Int.emod_emod]
            split
            · rw [show w = 1 by omega]; rfl
            · rw [Int.emod_eq_of_lt (by omega) (by omega)]; omega
          · rw [e4, hm, show L + 1 - 1 = L by omega]
            omega
        exact ⟨L + 1, b, (asks b).1, (asks b).2⟩
      · have hd : d r = false := by
          cases hd : d r
          · rfl
          · rcases k.1 hd with h1 | h1
            · exact (hA h1).elim
            · exact (hB h1).elim
        have e : (pPaper w cl d (r + 1)).2.1 = 0 ∧ (pPaper w cl d (r + 1)).2.2 = (pPaper w cl d r).2.2 ∧ (pPaper w cl d (r + 1)).1 = (pPaper w cl d r).1 + 1 := by simp only [pPaper, hd]; exact ⟨rfl, rfl, rfl⟩
        obtain ⟨e1, e2, e3⟩ := e
        have e4 : cntD d (r + 1) = cntD d r := by simp [cntD, hd]
        have b : At w cl n l d (r + 1) L := {
          le := hle, old := fun i hi => by have := a.old i hi; omega
          new := fun i hi hn => by
            have h1 := a.new i hi hn
            rcases Nat.lt_or_ge L i with h2 | h2
            · have := h.apart h2 hn
              have := a.new L (Nat.le_refl _) (by omega)
              omega
            · obtain rfl : i = L := by omega
              have : ¬ l i = r := fun e => hB ⟨hn, e⟩
              omega
          zero := fun h1 => by
            obtain ⟨z1, z2, z3⟩ := a.zero h1
            exact ⟨e1, by omega, by omega⟩
          lines := by omega
          ink := fun h1 h2 => (hA ⟨h1, by omega⟩).elim
          edge := fun h1 h2 => by
            obtain ⟨z1, z2, z3⟩ := a.edge h1 (by omega)
            exact ⟨by rw [e1]; exact Int.zero_emod _, by omega, by rw [e4]; exact z3⟩ }
        exact ⟨L, b, (asks b).1, (asks b).2⟩
/-- In the end each line has its ink. -/
theorem Col.all {w cl : Int} {R n : Nat} {l : Nat → Int} {d : Nat → Bool} (h : Col w cl R n l d) : (pPaper w cl d R).2.2 = n ∧ (cntD d R : Int) = (n : Int) * w := by
  have hw := h.hw
  obtain ⟨L, a, _, _⟩ := h.at_ R
  have hn : L = n := by
    rcases Nat.lt_or_ge L n with h1 | h1
    · have := a.new L (Nat.le_refl _) h1
      have := h.low L h1
      omega
    · have := a.le; omega
  subst hn
  refine ⟨a.lines, ?_⟩
  rcases Nat.eq_zero_or_pos L with h1 | h1
  · rw [(a.zero h1).2.2, h1]; simp
  · have := h.low (L - 1) (by omega)
    exact (a.edge h1 (by omega)).2.2
end Go.Proofs.Ytccidiflnmchiaa
namespace Go.Proofs.Ytccidiflnmchiaa
open Go.RowKit
theorem draw_ok {s : Sheet} {c : Screen} {w : List (List Int)} (h : drawErr s c w = 0) : roomErr s c = 0 ∧ w.length = cntF s c ∧ ∀ i, i < w.length → ((el w i).length : Int) = s.cols ∧ ∀ j, j < (el w i).length → 0 ≤ el (el w i) j ∧ el (el w i) j ≤ roomW s c := by
  unfold drawErr at h
  split at h
  · rename_i h1
    split at h
    · rename_i h2
      obtain ⟨_, _, _, hn, _⟩ := room_ok h1
      simp only [wishOk, Bool.and_eq_true, decide_eq_true_eq] at h2
      obtain ⟨⟨h3, h4⟩, h5⟩ := h2
      refine ⟨h1, by omega, fun i hi => ⟨?_, fun j hj => ?_⟩⟩
      · have := of_all_el h4 hi
        simpa [lenB] using this
      · have := List.all_eq_true.1 h5 (el (el w i) j) (List.mem_flatten.2 ⟨_, el_mem hi, el_mem hj⟩)
        exact withinB_iff.1 this
    · cases h
  · rename_i h1; exact (h1 h).elim
end Go.Proofs.Ytccidiflnmchiaa
namespace Go.Proofs.Ytccidiflnmchiaa
open Go.RowKit
theorem numTo_bits {n : Nat} (hn : n < 32768) : ∀ j, j ≤ 15 → numTo (bitB n) j = shN n (15 - j)
  | 0, _ => by
    show 0 = n / pow2 15
    rw [show pow2 15 = 32768 from rfl, Nat.div_eq_of_lt hn]
  | j + 1, hj => by
    simp only [numTo]
    rw [numTo_bits hn j (by omega)]
    have h1 := half_pow n (14 - j)
    rw [show 14 - j + 1 = 15 - j by omega] at h1
    have h2 : bitB n j = decide (shN n (14 - j) % 2 = 1) := rfl
    rw [show 15 - (j + 1) = 14 - j by omega, h1, h2]
    by_cases e : shN n (14 - j) % 2 = 1
    · rw [if_pos (by simpa using e)]; omega
    · rw [if_neg (by simpa using e)]; omega
theorem numTo_word {n : Nat} (hn : n < 32768) : numTo (bitB n) 15 = n := by
  rw [numTo_bits hn 15 (Nat.le_refl _)]
  show n / 1 = n
  exact Nat.div_one n
theorem cnt_none {l : List Bool} {a : Nat} : ∀ {n : Nat}, (∀ q, q < n → el l (a + q) = false) → cntTo l a n = 0
  | 0, _ => rfl
  | n + 1, h => by simp only [cntTo]; rw [cnt_none fun q hq => h q (by omega), h n (by omega)]; rfl
theorem cnt_ge {l : List Bool} {a lo hi : Nat} (h : ∀ q, lo ≤ q → q < hi → el l (a + q) = true) : ∀ n : Nat, (min n hi : Nat) ≤ lo + cntTo l a n
  | 0 => by simp
  | n + 1 => by
    have ih := cnt_ge h n
    simp only [cntTo]
    by_cases h1 : lo ≤ n ∧ n < hi
    · rw [if_pos (h n h1.1 h1.2)]; omega
    · split <;> omega
theorem cell_yes {m : List (List Bool)} {z g r k d : Nat} (hz : 4 * d < z) (h : ∀ q, d ≤ q → q < z - d → el (el m r) (z * (4 * g + k) + q) = true) : cellB m z g r k = true := by
  have := cnt_ge h z
  unfold cellB
  rw [decide_eq_true_eq]
  omega
theorem cell_no {m : List (List Bool)} {z g r k : Nat} (h : ∀ q, q < z → el (el m r) (z * (4 * g + k) + q) = false) : cellB m z g r k = false := by
  unfold cellB
  rw [cnt_none h]
  simp
theorem cell_place {z g k q : Nat} (hk : k < 4) (hq : q < z) : (z * (4 * g + k) + q) / (4 * z) = g ∧ (z * (4 * g + k) + q) % (4 * z) / z = k := by
  have h1 : (z * (4 * g + k) + q) / z = 4 * g + k := by rw [Nat.mul_add_div (by omega), Nat.div_eq_of_lt hq]; omega
  constructor
  · rw [Nat.mul_comm 4 z, ← Nat.div_div_eq_div_mul, h1]; omega
  · rw [Nat.mul_comm 4 z, Nat.mod_mul_right_div_self, h1]; omega
/-- Where a mask's cell is, in the mask of a word. -/
theorem mask_cell {w : List Int} {z C L g r k q : Nat} (hr : r < L) (hk : k < 3) (hq : q < z) (hC : z * (4 * g + k) + q < C) : el (el (maskTo w z C L) r) (z * (4 * g + k) + q) = maskAt w r g k := by
  obtain ⟨h1, h2⟩ := cell_place (g := g) (show k < 4 by omega) hq
  unfold maskTo
  rw [el_map_range hr]
  unfold maskRow
  rw [el_map_range hC, h1, h2]
/-- A mask whose cells are a word's bits says the word. -/
theorem spell_word {w : List Int} {m : List (List Bool)} {z : Nat} (hw : wordB w = true) (h : ∀ g, g < w.length → ∀ r, r < 5 → ∀ k, k < 3 → cellB m z g r k = bitB (el w g).toNat (r * 3 + k)) : spellTo m z w.length = w := by
  refine ext_el (spellTo_len _ _ _) fun g hg => ?_
  rw [spellTo_len] at hg
  unfold spellTo
  rw [el_map_range hg]
  have hwg := withinB_iff.1 (of_all_el hw hg)
  have e : numTo (glyphB m z g) 15 = numTo (bitB (el w g).toNat) 15 := numTo_congr fun j hj => by
    have h1 := h g hg (j / 3) (by omega) (j % 3) (by omega)
    unfold glyphB
    rw [h1]
    congr 1
    omega
  rw [e, numTo_word (by omega)]
  omega
theorem mask_parts {w : List Int} {size cols lines : Int} (h : maskErr w size cols lines = 0) : w.length ≤ 8 ∧ wordB w = true ∧ (1 ≤ size ∧ size ≤ 40) ∧ (1 ≤ cols ∧ cols ≤ 40) ∧ (1 ≤ lines ∧ lines ≤ 12) ∧ 5 ≤ lines ∧ wideI size w.length ≤ cols := by
  unfold maskErr at h
  split at h
  · cases h
  · rename_i h1
    split at h
    · rename_i h2
      split at h
      · cases h
      · rename_i h3
        exact ⟨by omega, h2.1, withinB_iff.1 h2.2.1, withinB_iff.1 h2.2.2.1, withinB_iff.1 h2.2.2.2, by omega, by omega⟩
    · cases h
  done
theorem wide_cell {z g k : Nat} {w : List Int} {C : Nat} (hz : 1 ≤ z) (hC : wideI (z : Int) w.length ≤ (C : Int)) (hg : g < w.length) (hk : k < 3) : z * (4 * g + k) + z ≤ C := by
  have h1 := cell_in (z := z) hg hk
  have h2 : wideI (z : Int) w.length = ((z * (4 * w.length - 1) : Nat) : Int) := by
    unfold wideI
    rw [Int.natCast_mul]
    congr 1
    omega
  omega
theorem spell_good {m : List (List Bool)} {z N C : Nat} (hz : 1 ≤ z ∧ z ≤ 40) (hN : N ≤ 8) (hm : 5 ≤ m.length) (hl : ∀ r, r < 5 → (el m r).length = C) (hC : wideI (z : Int) N ≤ (C : Int)) : spellErr m z N = 0 :=
  spellErr_ok ⟨withinB_iff.2 (by omega), withinB_iff.2 (by omega)⟩ (by omega) (long_yes (by omega) fun r hr => by rw [hl r hr]; exact hC)
/-- A word is spelled from its mask. -/
theorem spell_mask {w : List Int} {z C L : Nat} (h : maskErr w z C L = 0) : spellErr (maskTo w z C L) z w.length = 0 ∧ spellF (maskTo w z C L) z w.length = w := by
  obtain ⟨h8, hw, hz, hC, hL, h5, hwd⟩ := mask_parts h
  have he : spellErr (maskTo w z C L) z w.length = 0 := by
    refine spell_good (C := C) (by omega) h8 (by rw [maskTo_len]; omega) (fun r hr => ?_) hwd
    unfold maskTo
    rw [el_map_range (by omega), maskRow_len]
  refine ⟨he, ?_⟩
  rw [spellF_ok he, Int.toNat_natCast, Int.toNat_natCast]
  refine spell_word hw fun g hg r hr k hk => ?_
  have hin := wide_cell (z := z) (w := w) (C := C) (by omega) hwd hg hk
  have hat : ∀ q, q < z → el (el (maskTo w z C L) r) (z * (4 * g + k) + q) = bitB (el w g).toNat (r * 3 + k) := fun q hq => by
    rw [mask_cell (by omega) hk hq (by omega), maskAt_t hr hg hk]
  cases hb : bitB (el w g).toNat (r * 3 + k)
  · exact cell_no fun q hq => by rw [hat q hq, hb]
  · exact cell_yes (d := 0) (by omega) fun q _ hq => by rw [hat q (by omega), hb]
end Go.Proofs.Ytccidiflnmchiaa
namespace Go.Proofs.Ytccidiflnmchiaa
open Go.RowKit
def wideRow (wd : Nat) (l : List Bool) : List Bool := l.take wd ++ [true, true]
theorem wideRow_len (wd : Nat) (l : List Bool) : (wideRow wd l).length = min wd l.length + 2 := by simp [wideRow]
theorem wideRow_el {wd j : Nat} {l : List Bool} (h : j < min wd l.length) : el (wideRow wd l) j = el l j := by
  unfold wideRow
  rw [el_app_lt (by rw [List.length_take]; omega), el_take (by omega)]
theorem wideRow_end {wd j : Nat} {l : List Bool} (h : min wd l.length ≤ j) (h2 : j < min wd l.length + 2) : el (wideRow wd l) j = true := by
  unfold wideRow
  rw [el_app_ge (by rw [List.length_take]; omega), List.length_take]
  have : j - min wd l.length = 0 ∨ j - min wd l.length = 1 := by omega
  rcases this with e | e <;> rw [e] <;> rfl
def wideAt (m : List (List Bool)) (wd i r : Nat) : List Bool := if r < i then wideRow wd (el m r) else el m r
theorem wide_sub {H : Heap} {σ : List (Option Nat)} {fr : Nat → Prop} {m : List (List Bool)} {wd i j : Nat} {v : V} (hv : VSub H σ fr v (encBools (wideRow wd (el m i)))) : VSub H σ fr (upd (fun r => encBools (wideAt m wd i r)) i v j) (encBools (wideAt m wd (i + 1) j)) := by
  by_cases e : j = i
  · subst e
    rw [upd_same]
    unfold wideAt
    rw [if_pos (by omega)]
    exact hv
  · rw [upd_other e]
    refine .of_eq ?_ rfl
    unfold wideAt
    by_cases h : j < i
    · rw [if_pos h, if_pos (by omega)]
    · rw [if_neg h, if_neg (by omega)]
theorem wide_el {l : List Bool} {wd a j : Nat} {f : Nat → V} (ha : a = min wd l.length) (hj : j < 0 + (a - 0) + 2) : appF (0 + (a - 0)) (appF 0 f (fun k => vb (el l (0 + k)))) (fun k => vb (el [true, true] (0 + k))) j = vb (el (wideRow wd l) j) := by
  by_cases h : j < a
  · rw [appF_lt (by omega), appF_ge (by omega), wideRow_el (by omega), Nat.zero_add, Nat.sub_zero]
  · rw [appF_ge (by omega), wideRow_end (by omega) (by omega)]
    have : j - (0 + (a - 0)) = 0 ∨ j - (0 + (a - 0)) = 1 := by omega
    rcases this with e | e <;> rw [e] <;> rfl
theorem wide_sub' {H : Heap} {σ : List (Option Nat)} {fr : Nat → Prop} {m : List (List Bool)} {wd i j : Nat} {v : V} (hv : VSub H σ fr v (encBools (wideRow wd (wideAt m wd i i)))) : VSub H σ fr (upd (fun r => encBools (wideAt m wd i r)) i v j) (encBools (wideAt m wd (i + 1) j)) :=
  wide_sub (by
    have e : wideAt m wd i i = el m i := by unfold wideAt; rw [if_neg (by omega)]
    rw [← e]
    exact hv)
def wideM (m : List (List Bool)) (wd : Nat) : List (List Bool) := m.map (wideRow wd)
theorem wideM_el {m : List (List Bool)} {wd r : Nat} (h : r < m.length) : el (wideM m wd) r = wideRow wd (el m r) := by unfold wideM; rw [el_map h]
theorem cnt_congr {l l' : List Bool} {a : Nat} : ∀ {n : Nat}, (∀ q, q < n → el l (a + q) = el l' (a + q)) → cntTo l a n = cntTo l' a n
  | 0, _ => rfl
  | n + 1, h => by simp only [cntTo]; rw [cnt_congr fun q hq => h q (by omega), h n (by omega)]
/-- What stands behind the word does not matter. -/
theorem spell_wide {m : List (List Bool)} {z N wd : Nat} (hz : 1 ≤ z ∧ z ≤ 40) (hN : N ≤ 8) (h5 : ¬ m.length < 5) (hl : rowsLong m z N = true) (hwd : (wd : Int) = max (wideI z N) 0) : spellErr (wideM m wd) z N = 0 ∧ spellF (wideM m wd) z N = spellTo m z N := by
  have hlen : (wideM m wd).length = m.length := by simp [wideM]
  have he : spellErr (wideM m wd) z N = 0 := spellErr_ok ⟨withinB_iff.2 (by omega), withinB_iff.2 (by omega)⟩ (by omega) (long_yes (by omega) fun r hr => by
    have := long_at hl h5 hr
    rw [wideM_el (by omega), wideRow_len]
    omega)
  refine ⟨he, ?_⟩
  rw [spellF_ok he, Int.toNat_natCast, Int.toNat_natCast]
  unfold spellTo
  refine List.map_congr_left fun g hg => ?_
  have hg' : g < N := by simpa using hg
  congr 1
  refine numTo_congr fun j hj => ?_
  unfold glyphB cellB
  have hr : j / 3 < 5 := by omega
  have hlr := long_at hl h5 hr
  have hin := cell_in (z := z) hg' (show j % 3 < 3 by omega)
  have h2 : wideI (z : Int) N = ((z * (4 * N - 1) : Nat) : Int) := by
    unfold wideI
    rw [Int.natCast_mul]
    congr 1
    omega
  have e := cnt_congr (l := wideRow wd (el m (j / 3))) (l' := el m (j / 3)) (a := z * (4 * g + j % 3)) (n := z) fun q hq => wideRow_el (by omega)
  rw [wideM_el (by omega), e]
theorem spell_parts {m : List (List Bool)} {size n : Int} (h : spellErr m size n = 0) : (1 ≤ size ∧ size ≤ 40) ∧ (0 ≤ n ∧ n ≤ 8) ∧ ¬ m.length < 5 ∧ rowsLong m size n = true := by
  unfold spellErr at h
  split at h
  · rename_i h1
    split at h
    · cases h
    · rename_i h2
      split at h
      · rename_i h3; exact ⟨withinB_iff.1 h1.1, withinB_iff.1 h1.2, h2, h3⟩
      · cases h
  · cases h
theorem word_ok (m : List (List Bool)) (z N : Nat) : wordB (spellTo m z N) = true := by
  refine all_el fun j hj => ?_
  rw [spellTo_len] at hj
  unfold spellTo
  rw [el_map_range hj]
  have h1 := numTo_lt (glyphB m z j) 15
  have h2 : pow2 15 = 32768 := rfl
  exact withinB_iff.2 (by omega)
theorem said_mask {m : List (List Bool)} {z N : Nat} (hz : 1 ≤ z ∧ z ≤ 40) (hN : N ≤ 8) : (maskErr (spellTo m z N) z 40 5 = 0) ∨ (maskErr (spellTo m z N) z 40 5 = 6 ∧ 40 < wideI z N) := by
  unfold maskErr
  rw [spellTo_len, if_neg (by omega), if_pos ⟨word_ok m z N, withinB_iff.2 (by omega), withinB_iff.2 (by omega), withinB_iff.2 (by omega)⟩]
  split
  · right; omega
  · exact .inl rfl
set_option maxHeartbeats 4000000 in
theorem latheSaid_p (m : List (List Bool)) (_o0 : ∀ l, l ∈ m → ∀ y, y ∈ l → True) (size : Int) (_o1 : i64ok size) (n : Int) (_o2 : i64ok n) :
    PCalls Try.prog 10 [encMask m, vi size, vi n] (· = vb true) := by
  by_cases h : spellErr m size n = 0
  case neg =>
    have hbad := spellF_bad h
    refine pcalls_of_aw Try.func10 rfl (Nat.le_of_ble_eq_true rfl) ?_
    (repeat' (first | (refine ar_isq ?_; first | refine zmv ?_ | refine zas ?_ | (refine is_load ?_; first | refine zlp ?_ | refine zlr ?_) | (refine is_binOp ?_; first | refine zlss ?_ | refine zgtr ?_ | refine zeql ?_ | refine zneq ?_ | refine zadd ?_ | refine zsub ?_ | refine zmul ?_) | (refine is_indexAddr ?_; first | refine zil ?_ | refine zis ?_ | refine zit ?_ | refine zia ?_ | refine zir ?_ | (refine zxl ?_; intro _ _ _) | (refine zxs ?_; intro _ _ _)) | (refine is_call ?_; first | refine zll ?_ | refine zls ?_ | refine zln ?_ | refine zle ?_ | refine zmin ?_ | refine zmax ?_) | (refine is_pick ?_; first | refine zpt ?_ | refine zpf ?_) | refine zex ?_ | refine znt ?_) | (refine ar_pcall (own := false) fn49 rfl rfl .nil (alive_p) (by simp) (dc rfl) ?_; intro _ hv; subst hv) | (refine ar_pcall (own := false) fn34 rfl rfl (.cons (.closed rfl) .nil) (greatMask_p m) (by simp) (dc rfl) ?_; rintro _ (rfl | ⟨rfl, g20, g60⟩)) | ((refine ar_pcall (own := false) fn37 rfl rfl (.cons (.closed rfl) (.cons (.closed rfl) (.cons (.closed rfl) .nil))) (lSpell_p m size n) (by simp) (dc rfl) ?_; intro _ hv; subst hv; rw [hbad])) | (refine zcl ?_) | (refine zcs ?_) | (refine zb1 ?_) | (refine zb0 ?_) | (refine zapoo ?_) | (refine zapol ?_) | (refine zapno ?_) | (refine zapnl ?_) | (refine zapeo ?_) | (refine zapel ?_) | (refine zsvs ?_) | (refine zsva ?_) | (refine zses ?_) | (refine zsea ?_) | (refine zg ?_ ?_ <;> intro hg <;> first | exact absurd hg (by decide) | ((try replace hg := HG.out hg); (try dsimp only at hg); (try (have _h : True := hg; clear _h hg)); first | (exfalso; omega) | skip)) | (refine zgu ?_) | (refine ar_nil ?_) | (refine ar_forkL ?_ ?_) | (refine ar_lq rfl ?_) | (refine aw_seq ?_) | (refine aw_skip ?_) | (refine aw_block ?_) | (refine aw_exit ?_) | (refine aw_region ?_) | (refine aw_fork (id := 17) [[(21, 1), (2, 1), (20, 1), (22, 1), (23, 0), (24, 2)], [(21, 1), (20, 1), (22, 1), (23, 0), (24, 2)]] [(0, 0), (1, 0), (3, 0), (4, 0), (5, 0), (6, 0), (7, 0), (8, 0), (9, 0), (10, 0), (11, 0), (12, 0), (13, 0), (14, 0), (15, 0), (16, 0), (17, 0), (18, 0), (19, 0), (0, 3), (2, 1), (1, 3), (20, 1), (21, 1), (22, 1), (23, 0), (24, 2)] mixed (by kernel_rfl) ?_) | (refine zco ?_ ?_ <;> intro hg <;> first | exact absurd hg (by decide) | ((try replace hg := HG.out hg); (try dsimp only at hg); (try (have _h : True := hg; clear _h hg)); first | (exfalso; omega) | skip))))
    all_goals first
      | (exfalso; omega)
      | ((refine aw_ret ?_; (repeat (first | refine ret_then ?_ | refine ret_block ?_)); refine bq1 rfl ⟨?_, rfl⟩); rfl)
      | trace_state
  obtain ⟨hz, hn, h5, hlong⟩ := spell_parts h
  obtain ⟨z, rfl⟩ : ∃ z : Nat, size = (z : Int) := ⟨size.toNat, by omega⟩
  obtain ⟨N, rfl⟩ : ∃ N : Nat, n = (N : Int) := ⟨n.toNat, by omega⟩
  have hwb := wide_bnd (z := z) (N := N) (by omega) (by omega)
  have hsl := spellTo_len m z N
  have hsm := said_mask (m := m) (z := z) (N := N) (by omega) (by omega)
  have p1 := lSpell_p m z N
  rw [h, spellF_ok h, Int.toNat_natCast, Int.toNat_natCast] at p1
  obtain ⟨wd, hwd⟩ : ∃ wd : Nat, (wd : Int) = max (wideI z N) 0 := ⟨(max (wideI z N) 0).toNat, by omega⟩
  obtain ⟨w1, w2⟩ := spell_wide (m := m) (by omega) (by omega) h5 hlong hwd
  have p4 := lSpell_p (wideM m wd) z N
  rw [w1, w2] at p4
  have hwi : wideI (z : Int) N = (z : Int) * (4 * (N : Int) - 1) := rfl
  generalize hS : spellTo m z N = S at *
  have p2 := lMask_p S z 40 5
  rcases hsm with hsm | ⟨hsm, hgt⟩
  case inr =>
    rw [hsm] at p2
    refine pcalls_of_aw Try.func10 rfl (Nat.le_of_ble_eq_true rfl) ?_
    (repeat' (first | (refine ar_isq ?_; first | refine zmv ?_ | refine zas ?_ | (refine is_load ?_; first | refine zlp ?_ | refine zlr ?_) | (refine is_binOp ?_; first | refine zlss ?_ | refine zgtr ?_ | refine zeql ?_ | refine zneq ?_ | refine zadd ?_ | refine zsub ?_ | refine zmul ?_) | (refine is_indexAddr ?_; first | refine zil ?_ | refine zis ?_ | refine zit ?_ | refine zia ?_ | refine zir ?_ | (refine zxl ?_; intro _ _ _) | (refine zxs ?_; intro _ _ _)) | (refine is_call ?_; first | refine zll ?_ | refine zls ?_ | refine zln ?_ | refine zle ?_ | refine zmin ?_ | refine zmax ?_) | (refine is_pick ?_; first | refine zpt ?_ | refine zpf ?_) | refine zex ?_ | refine znt ?_) | (refine ar_pcall (own := false) fn49 rfl rfl .nil (alive_p) (by simp) (dc rfl) ?_; intro _ hv; subst hv) | (refine ar_pcall (own := false) fn34 rfl rfl (.cons (.closed rfl) .nil) (greatMask_p m) (by simp) (dc rfl) ?_; rintro _ (rfl | ⟨rfl, g20, g60⟩)) | (refine ar_pcall (own := false) fn37 rfl rfl (.cons (.closed rfl) (.cons (.closed rfl) (.cons (.closed rfl) .nil))) (p1) (by simp) (dc rfl) ?_; intro _ hv; subst hv) | (refine ar_pcall (own := false) fn35 rfl rfl (.cons (.closed rfl) (.cons (.closed rfl) (.cons (.closed rfl) (.cons (.closed rfl) .nil)))) (p2) (by simp) (dc rfl) ?_; intro _ hv; subst hv) | (refine zcl ?_) | (refine zcs ?_) | (refine zb1 ?_) | (refine zb0 ?_) | (refine zapoo ?_) | (refine zapol ?_) | (refine zapno ?_) | (refine zapnl ?_) | (refine zapeo ?_) | (refine zapel ?_) | (refine zsvs ?_) | (refine zsva ?_) | (refine zses ?_) | (refine zsea ?_) | (refine zg ?_ ?_ <;> intro hg <;> first | exact absurd hg (by decide) | ((try replace hg := HG.out hg); (try dsimp only at hg); (try (have _h : True := hg; clear _h hg)); first | (exfalso; omega) | skip)) | (refine zgu ?_) | (refine ar_nil ?_) | (refine ar_forkL ?_ ?_) | (refine ar_lq rfl ?_) | (refine aw_seq ?_) | (refine aw_skip ?_) | (refine aw_block ?_) | (refine aw_exit ?_) | (refine aw_region ?_) | (refine aw_fork (id := 17) [[(21, 1), (2, 1), (20, 1), (22, 1), (23, 0), (24, 2)], [(21, 1), (20, 1), (22, 1), (23, 0), (24, 2)]] [(0, 0), (1, 0), (3, 0), (4, 0), (5, 0), (6, 0), (7, 0), (8, 0), (9, 0), (10, 0), (11, 0), (12, 0), (13, 0), (14, 0), (15, 0), (16, 0), (17, 0), (18, 0), (19, 0), (0, 3), (2, 1), (1, 3), (20, 1), (21, 1), (22, 1), (23, 0), (24, 2)] mixed (by kernel_rfl) ?_) | (refine zco ?_ ?_ <;> intro hg <;> first | exact absurd hg (by decide) | ((try replace hg := HG.out hg); (try dsimp only at hg); (try (have _h : True := hg; clear _h hg)); first | (exfalso; omega) | skip))))
    all_goals first
      | (exfalso; omega)
      | ((refine aw_ret ?_; (repeat (first | refine ret_then ?_ | refine ret_block ?_)); refine bq1 rfl ⟨?_, rfl⟩); rfl)
      | ((refine aw_ret ?_; (repeat (first | refine ret_then ?_ | refine ret_block ?_)); refine bq1 rfl ⟨?_, rfl⟩); exact congrArg vb (decide_eq_true (by omega)))
      | trace_state
  have hsp := spell_mask (w := S) (z := z) (C := 40) (L := 5) hsm
  rw [hsm] at p2
  have p3 := lSpell_p (maskF S z 40 5) z N
  rw [maskF_ok hsm, Int.toNat_natCast] at p2 p3
  rw [hsl] at hsp
  rw [show (40 : Int).toNat = 40 from rfl, show (5 : Int).toNat = 5 from rfl, hsp.1, hsp.2] at p3
  rw [show (40 : Int).toNat = 40 from rfl, show (5 : Int).toNat = 5 from rfl] at p2
  generalize maskTo S z 40 5 = M at *
  refine pcalls_of_aw Try.func10 rfl (Nat.le_of_ble_eq_true rfl) ?_
  (repeat' (first | (refine ar_isq ?_; first | refine zmv ?_ | refine zas ?_ | (refine is_load ?_; first | refine zlp ?_ | refine zlr ?_) | (refine is_binOp ?_; first | refine zlss ?_ | refine zgtr ?_ | refine zeql ?_ | refine zneq ?_ | refine zadd ?_ | refine zsub ?_ | refine zmul ?_) | (refine is_indexAddr ?_; first | refine zil ?_ | refine zis ?_ | refine zit ?_ | refine zia ?_ | refine zir ?_ | (refine zxl ?_; intro _ _ _) | (refine zxs ?_; intro _ _ _)) | (refine is_call ?_; first | refine zll ?_ | refine zls ?_ | refine zln ?_ | refine zle ?_ | refine zmin ?_ | refine zmax ?_) | (refine is_pick ?_; first | refine zpt ?_ | refine zpf ?_) | refine zex ?_ | refine znt ?_) | (refine ar_pcall (own := false) fn49 rfl rfl .nil (alive_p) (by simp) (dc rfl) ?_; intro _ hv; subst hv) | (refine ar_pcall (own := false) fn34 rfl rfl (.cons (.closed rfl) .nil) (greatMask_p m) (by simp) (dc rfl) ?_; rintro _ (rfl | ⟨rfl, g20, g60⟩)) | (refine ar_pcall (own := false) fn37 rfl rfl (.cons (.closed rfl) (.cons (.closed rfl) (.cons (.closed rfl) .nil))) (p1) (by simp) (dc rfl) ?_; intro _ hv; subst hv) | (refine ar_pcall (own := false) fn35 rfl rfl (.cons (.closed rfl) (.cons (.closed rfl) (.cons (.closed rfl) (.cons (.closed rfl) .nil)))) (p2) (by simp) (dc rfl) ?_; intro _ hv; subst hv) | (refine ar_pcall (own := false) fn37 rfl rfl (.cons (.closed rfl) (.cons (.closed rfl) (.cons (.closed rfl) .nil))) (p3) (by simp) (dc rfl) ?_; intro _ hv; subst hv) | (refine zcl ?_) | (refine zcs ?_) | (refine zb1 ?_) | (refine zb0 ?_) | (refine zapoo ?_) | (refine zapol ?_) | (refine zapno ?_) | (refine zapnl ?_) | (refine zapeo ?_) | (refine zapel ?_) | (refine zsvs ?_) | (refine zsva ?_) | (refine zses ?_) | (refine zsea ?_) | (refine zg ?_ ?_ <;> intro hg <;> first | exact absurd hg (by decide) | ((try replace hg := HG.out hg); (try dsimp only at hg); (try (have _h : True := hg; clear _h hg)); first | (exfalso; omega) | skip)) | (refine zgu ?_) | (refine ar_nil ?_) | (refine ar_forkL ?_ ?_) | (refine ar_lq rfl ?_) | (refine aw_seq ?_) | (refine aw_skip ?_) | (refine aw_block ?_) | (refine aw_exit ?_) | (refine aw_region ?_) | (refine aw_fork (id := 17) [[(21, 1), (2, 1), (20, 1), (22, 1), (23, 0), (24, 2)], [(21, 1), (20, 1), (22, 1), (23, 0), (24, 2)]] [(0, 0), (1, 0), (3, 0), (4, 0), (5, 0), (6, 0), (7, 0), (8, 0), (9, 0), (10, 0), (11, 0), (12, 0), (13, 0), (14, 0), (15, 0), (16, 0), (17, 0), (18, 0), (19, 0), (0, 3), (2, 1), (1, 3), (20, 1), (21, 1), (22, 1), (23, 0), (24, 2)] mixed (by kernel_rfl) ?_) | (refine zco ?_ ?_ <;> intro hg <;> first | exact absurd hg (by decide) | ((try replace hg := HG.out hg); (try dsimp only at hg); (try (have _h : True := hg; clear _h hg)); first | (exfalso; omega) | skip))))
  all_goals (try (exfalso; omega))
  all_goals (try ((refine aw_ret ?_; (repeat (first | refine ret_then ?_ | refine ret_block ?_)); refine bq1 rfl ⟨?_, rfl⟩); rfl; done))
  refine aw_for m.length (fun _ => True) (fun i => [(1, vi z), (2, vi N), (7, vb true), (8, encInts S), (12, encInts S), (13, vi 0), (14, .sl 1 0 0 m.length), (77, vi m.length), (78, vi i)]) (fun i => [.arr 1 m.length (fun r => encBools (wideAt m wd i r))]) trivial ?_ ?_
  · (refine sub_to [some 0] [] rfl ?_ ?_ <;> (repeat' (first | exact trivial | refine ⟨⟨_, rfl, ?_⟩, ?_⟩ | refine ⟨bsub_snoc rfl rfl (fun _ => rfl) ?_, ?_⟩ | refine ⟨bsub_one rfl rfl ?_, ?_⟩ | refine ⟨bsub_all rfl rfl (fun _ _ => rfl) (fun _ => rfl), ?_⟩ | refine ⟨bsub_updL rfl rfl ?_ (fun _ _ _ => rfl) (fun _ => rfl), ?_⟩ | refine ⟨.inl ⟨_, _, rfl, rfl, ?_⟩, ?_⟩ | exact ⟨.inr ⟨rfl, rfl⟩, trivial⟩ | refine ⟨.inr ⟨rfl, rfl⟩, ?_⟩ | (intro _ _) | exact .closed rfl | exact .sl rfl | exact .ptr rfl | exact .map rfl | exact .nil rfl | exact .emp rfl | exact .nilList | exact .empList | exact frzPtr' (by simp; done) rfl (by omega) rfl rfl | exact frzLB (by simp; done) rfl (fun _ => rfl) rfl | exact frz_all (by simp; done) rfl (fun _ _ => rfl) (fun _ => rfl) rfl | exact .frz (by simp; done) rfl (by omega) (fun _ _ => rfl) (fun _ _ => rfl) | exact slEq rfl (by first | (simp; done) | (simp; omega)) | exact siEq (by omega) | exact .of_eq (by refine (show V.agg _ = V.agg _ from ?_); (try dsimp only); congr <;> first | rfl | omega) rfl | exact .closed (by simp [V.closed, V.closed.all, *]; done) | fail)))
  intro i hi _
  by_cases hlt : i < m.length
  · have hil := g60 _ (el_mem hlt)
    have h2t : [true, true].length = 2 := rfl
    have hcur : wideAt m wd i i = el m i := by unfold wideAt; rw [if_neg (by omega)]
    (repeat' (first | (refine ar_isq ?_; first | refine zmv ?_ | refine zas ?_ | (refine is_load ?_; first | refine zlp ?_ | refine zlr ?_) | (refine is_binOp ?_; first | refine zlss ?_ | refine zgtr ?_ | refine zeql ?_ | refine zneq ?_ | refine zadd ?_ | refine zsub ?_ | refine zmul ?_) | (refine is_indexAddr ?_; first | refine zil ?_ | refine zis ?_ | refine zit ?_ | refine zia ?_ | refine zir ?_ | refine zil (j := i) ?_ | refine zis (j := i) ?_ | refine zit (j := i) ?_ | (refine zxl ?_; intro _ _ _) | (refine zxs ?_; intro _ _ _)) | (refine is_call ?_; first | refine zll ?_ | refine zls ?_ | refine zln ?_ | refine zle ?_ | refine zmin ?_ | refine zmax ?_) | (refine is_pick ?_; first | refine zpt ?_ | refine zpf ?_) | refine zex ?_ | refine znt ?_) | (refine ar_buildLE vb ([true, true]) (by exact ty rfl) (by exact rfl) (by exact ty rfl) (by exact rfl) (by exact rfl) (by exact Nat.succ_pos _) (by exact rfl) (by exact dc rfl) (by exact rfl) (by exact fun _ => ⟨rfl, rfl⟩) (by exact dc rfl) ?_) | (refine zcl (a := 0) (b := min wd (wideAt m wd i i).length) ?_) | (refine zcs (a := 0) (b := min wd (wideAt m wd i i).length) ?_) | (refine zb1 ?_) | (refine zb0 ?_) | (refine zapoo ?_) | (refine zapol ?_) | (refine zapno ?_) | (refine zapnl ?_) | (refine zapeo ?_) | (refine zapel ?_) | (refine zsvs ?_) | (refine zsva ?_) | (refine zses ?_) | (refine zsea ?_) | (refine zg ?_ ?_ <;> intro hg <;> first | exact absurd hg (by decide) | ((try replace hg := HG.out hg); (try dsimp only at hg); (try (have _h : True := hg; clear _h hg)); first | (exfalso; omega) | skip)) | (refine zgu ?_) | (refine ar_nil ?_) | (refine ar_forkL ?_ ?_) | (refine ar_lq rfl ?_) | (refine aw_seq ?_) | (refine aw_skip ?_) | (refine aw_block ?_) | (refine aw_exit ?_) | (refine aw_region ?_) | (refine aw_fork (id := 17) [[(21, 1), (2, 1), (20, 1), (22, 1), (23, 0), (24, 2)], [(21, 1), (20, 1), (22, 1), (23, 0), (24, 2)]] [(0, 0), (1, 0), (3, 0), (4, 0), (5, 0), (6, 0), (7, 0), (8, 0), (9, 0), (10, 0), (11, 0), (12, 0), (13, 0), (14, 0), (15, 0), (16, 0), (17, 0), (18, 0), (19, 0), (0, 3), (2, 1), (1, 3), (20, 1), (21, 1), (22, 1), (23, 0), (24, 2)] mixed (by kernel_rfl) ?_) | (refine zco ?_ ?_ <;> intro hg <;> first | exact absurd hg (by decide) | ((try replace hg := HG.out hg); (try dsimp only at hg); (try (have _h : True := hg; clear _h hg)); first | (exfalso; omega) | skip))))
    all_goals first
      | (exfalso; omega)
      | ((first | refine loop_next (by omega) ?_ ?_ | refine (show _ ∧ _ ∧ SubOf _ _ _ _ _ _ from And.intro (by omega) (And.intro ?_ ?_))); (focus ((trivial); done)); (focus ((refine sub_to [some 0] [3] rfl ?_ ?_ <;> (repeat' (first | exact trivial | refine ⟨⟨_, rfl, ?_⟩, ?_⟩ | refine ⟨bsub_snoc rfl rfl (fun _ => rfl) ?_, ?_⟩ | refine ⟨bsub_one rfl rfl ?_, ?_⟩ | refine ⟨bsub_all rfl rfl (fun _ _ => rfl) (fun _ => rfl), ?_⟩ | refine ⟨bsub_updL rfl rfl ?_ (fun _ _ _ => rfl) (fun _ => rfl), ?_⟩ | refine ⟨.inl ⟨_, _, rfl, rfl, ?_⟩, ?_⟩ | exact ⟨.inr ⟨rfl, rfl⟩, trivial⟩ | refine ⟨.inr ⟨rfl, rfl⟩, ?_⟩ | (intro _ _) | exact .closed rfl | exact .sl rfl | exact .ptr rfl | exact .map rfl | exact .nil rfl | exact .emp rfl | exact .nilList | exact .empList | exact frzPtr' (by simp; done) rfl (by omega) rfl rfl | exact frzLB (by simp; done) rfl (fun _ => rfl) rfl | exact frz_all (by simp; done) rfl (fun _ _ => rfl) (fun _ => rfl) rfl | exact .frz (by simp; done) rfl (by omega) (fun _ _ => rfl) (fun _ _ => rfl) | exact slEq rfl (by first | (simp; done) | (simp; omega)) | exact siEq (by omega) | (exact wide_sub' (frz_as (by simp) rfl (by simp) (by rw [wideRow_len]; omega) (fun j hj => wide_el rfl (by omega)) (fun _ => rfl))) | exact .of_eq (by refine (show V.agg _ = V.agg _ from ?_); (try dsimp only); congr <;> first | rfl | omega) rfl | exact .closed (by simp [V.closed, V.closed.all, *]; done) | fail))); done)))
      | trace_state
  · obtain rfl : i = m.length := by omega
    (repeat' (first | (refine ar_isq ?_; first | refine zmv ?_ | refine zas ?_ | (refine is_load ?_; first | refine zlp ?_ | refine zlr ?_) | (refine is_binOp ?_; first | refine zlss ?_ | refine zgtr ?_ | refine zeql ?_ | refine zneq ?_ | refine zadd ?_ | refine zsub ?_ | refine zmul ?_) | (refine is_indexAddr ?_; first | refine zil ?_ | refine zis ?_ | refine zit ?_ | refine zia ?_ | refine zir ?_ | (refine zxl ?_; intro _ _ _) | (refine zxs ?_; intro _ _ _)) | (refine is_call ?_; first | refine zll ?_ | refine zls ?_ | refine zln ?_ | refine zle ?_ | refine zmin ?_ | refine zmax ?_) | (refine is_pick ?_; first | refine zpt ?_ | refine zpf ?_) | refine zex ?_ | refine znt ?_) | (((refine ar_sub_l (env' := [(107, encMask (wideM m wd)), (108, vi z), (109, vi N), (7, vb true), (8, encInts S), (12, encInts S), (13, vi 0)]) (H' := []) ?_ ?_; (focus ((refine sub_to [] [0] rfl ?_ ?_ <;> (repeat' (first | exact trivial | refine ⟨⟨_, rfl, ?_⟩, ?_⟩ | refine ⟨bsub_snoc rfl rfl (fun _ => rfl) ?_, ?_⟩ | refine ⟨bsub_one rfl rfl ?_, ?_⟩ | refine ⟨bsub_all rfl rfl (fun _ _ => rfl) (fun _ => rfl), ?_⟩ | refine ⟨bsub_updL rfl rfl ?_ (fun _ _ _ => rfl) (fun _ => rfl), ?_⟩ | refine ⟨.inl ⟨_, _, rfl, rfl, ?_⟩, ?_⟩ | exact ⟨.inr ⟨rfl, rfl⟩, trivial⟩ | refine ⟨.inr ⟨rfl, rfl⟩, ?_⟩ | (intro _ _) | exact .closed rfl | exact .sl rfl | exact .ptr rfl | exact .map rfl | exact .nil rfl | exact .emp rfl | exact .nilList | exact .empList | exact frzPtr' (by simp; done) rfl (by omega) rfl rfl | exact frzLB (by simp; done) rfl (fun _ => rfl) rfl | exact frz_all (by simp; done) rfl (fun _ _ => rfl) (fun _ => rfl) rfl | exact .frz (by simp; done) rfl (by omega) (fun _ _ => rfl) (fun _ _ => rfl) | exact slEq rfl (by first | (simp; done) | (simp; omega)) | exact siEq (by omega) | (exact frz_as (by simp) rfl rfl (by simp [wideM]) (fun j hj => by rw [wideM_el hj]; unfold wideAt; rw [if_pos hj]) (fun _ => rfl)) | exact .of_eq (by refine (show V.agg _ = V.agg _ from ?_); (try dsimp only); congr <;> first | rfl | omega) rfl | exact .closed (by simp [V.closed, V.closed.all, *]; done) | fail))); done))); refine ar_pcall (own := false) fn37 rfl rfl (.cons (.closed rfl) (.cons (.closed rfl) (.cons (.closed rfl) .nil))) (p4) (by simp) (dc rfl) ?_; intro _ hv; subst hv)) | (refine ar_pcall (own := false) fn40 rfl rfl (.cons (.closed rfl) (.cons (.closed rfl) .nil)) (sameInts_p S) (by simp) (dc rfl) ?_; intro _ hv; subst hv) | (refine zcl ?_) | (refine zcs ?_) | (refine zb1 ?_) | (refine zb0 ?_) | (refine zapoo ?_) | (refine zapol ?_) | (refine zapno ?_) | (refine zapnl ?_) | (refine zapeo ?_) | (refine zapel ?_) | (refine zsvs ?_) | (refine zsva ?_) | (refine zses ?_) | (refine zsea ?_) | (refine zg ?_ ?_ <;> intro hg <;> first | exact absurd hg (by decide) | ((try replace hg := HG.out hg); (try dsimp only at hg); (try (have _h : True := hg; clear _h hg)); first | (exfalso; omega) | skip)) | (refine zgu ?_) | (refine ar_nil ?_) | (refine ar_forkL ?_ ?_) | (refine ar_lq rfl ?_) | (refine aw_seq ?_) | (refine aw_skip ?_) | (refine aw_block ?_) | (refine aw_exit ?_) | (refine aw_region ?_) | (refine aw_fork (id := 17) [[(21, 1), (2, 1), (20, 1), (22, 1), (23, 0), (24, 2)], [(21, 1), (20, 1), (22, 1), (23, 0), (24, 2)]] [(0, 0), (1, 0), (3, 0), (4, 0), (5, 0), (6, 0), (7, 0), (8, 0), (9, 0), (10, 0), (11, 0), (12, 0), (13, 0), (14, 0), (15, 0), (16, 0), (17, 0), (18, 0), (19, 0), (0, 3), (2, 1), (1, 3), (20, 1), (21, 1), (22, 1), (23, 0), (24, 2)] mixed (by kernel_rfl) ?_) | (refine zco ?_ ?_ <;> intro hg <;> first | exact absurd hg (by decide) | ((try replace hg := HG.out hg); (try dsimp only at hg); (try (have _h : True := hg; clear _h hg)); first | (exfalso; omega) | skip))))
    all_goals first
      | (exfalso; omega)
      | ((refine aw_ret ?_; (repeat (first | refine ret_then ?_ | refine ret_block ?_)); refine bq1 rfl ⟨?_, rfl⟩); rfl)
      | trace_state
end Go.Proofs.Ytccidiflnmchiaa
namespace Go.Proofs.Ytccidiflnmchiaa
open Go.RowKit
def allTo (C : Nat) (p : Nat → Nat → Prop) (i k : Nat) : Prop := (∀ i', i' < i → ∀ k', k' < C → p i' k') ∧ ∀ k', k' < k → p i k'
noncomputable def flag (C : Nat) (q : Prop) (p : Nat → Nat → Prop) (i k : Nat) : Bool := @decide (q ∧ allTo C p i k) (Classical.propDecidable _)
section
variable {C : Nat} {q : Prop} {p : Nat → Nat → Prop} {i k : Nat}
theorem flag_true : flag C q p i k = true ↔ q ∧ allTo C p i k := by unfold flag; exact @decide_eq_true_iff _ (Classical.propDecidable _)
theorem flag_same {i' k' : Nat} (h : (q ∧ allTo C p i k) ↔ (q ∧ allTo C p i' k')) : flag C q p i k = flag C q p i' k' := by
  rw [Bool.eq_iff_iff, flag_true, flag_true]
  exact h
theorem flag_row : flag C q p i C = flag C q p (i + 1) 0 := flag_same <| by
  refine and_congr_right fun _ => ⟨fun h => ⟨fun i' hi' k' hk' => ?_, fun k' hk' => by omega⟩, fun h => ⟨fun i' hi' => h.1 i' (by omega), fun k' hk' => h.1 i (by omega) k' hk'⟩⟩
  by_cases e : i' = i
  · subst e; exact h.2 k' hk'
  · exact h.1 i' (by omega) k' hk'
theorem flag_yes (h : p i k) : flag C q p i k = flag C q p i (k + 1) := flag_same <| by
  refine and_congr_right fun _ => ⟨fun a => ⟨a.1, fun k' hk' => ?_⟩, fun a => ⟨a.1, fun k' hk' => a.2 k' (by omega)⟩⟩
  by_cases e : k' = k
  · subst e; exact h
  · exact a.2 k' (by omega)
theorem flag_no (h : ¬ p i k) : flag C q p i (k + 1) = false := by
  rw [← Bool.not_eq_true, flag_true]
  exact fun a => h (a.2.2 k (by omega))
theorem flag_stay (h : flag C q p i k = false) : flag C q p i (k + 1) = false := by
  rw [← Bool.not_eq_true, flag_true] at h ⊢
  exact fun a => h ⟨a.1, a.2.1, fun k' hk' => a.2.2 k' (by omega)⟩
theorem flag_start (h : q) : flag C q p 0 0 = true := flag_true.2 ⟨h, fun i' hi' => by omega, fun k' hk' => by omega⟩
theorem flag_never (h : ¬ q) : flag C q p i k = false := by
  rw [← Bool.not_eq_true, flag_true]
  exact fun a => h a.1
theorem flag_first {b : Prop} [Decidable b] (h : q ↔ b) : decide b = flag C q p 0 0 := by
  by_cases e : b
  · rw [decide_eq_true e, flag_start (h.2 e)]
  · rw [decide_eq_false e, flag_never fun x => e (h.1 x)]
theorem flag_dec {b : Prop} [Decidable b] (h : flag C q p i k = true) (hb : p i k ↔ b) : decide b = flag C q p i (k + 1) := by
  by_cases e : b
  · rw [decide_eq_true e, ← flag_yes (hb.2 e), h]
  · rw [decide_eq_false e, flag_no fun x => e (hb.1 x)]
end
def nearP (a : Int) (w : List (List Int)) (i k : Nat) : Prop := k = 0 ∨ (el (el w i) k - el (el w i) (k - 1) ≤ a ∧ el (el w i) (k - 1) - el (el w i) k ≤ a)
theorem near_all {a : Int} {w : List (List Int)} {C n i : Nat} (h : allTo C (nearP a w) n 0) (hi : i < n) : ∀ k, k + 1 < C → el (el w i) (k + 1) - el (el w i) k ≤ a ∧ el (el w i) k - el (el w i) (k + 1) ≤ a := fun k hk => by
  rcases h.1 i hi (k + 1) hk with h1 | h1
  · omega
  · exact h1
theorem draw_el {s : Sheet} {c : Screen} {w : List (List Int)} (h : drawErr s c w = 0) : (drawF s c w).length = w.length ∧ ∀ i, i < w.length → (el (drawF s c w) i).length = s.cols.toNat ∧ ∀ k, k < s.cols.toNat → el (el (drawF s c w) i) k = leanAt s.lean (el (el w i)) s.cols.toNat k + (c.phase + (i : Int) * c.period) := by
  obtain ⟨hr, hn, hl⟩ := draw_ok h
  rw [drawF_ok h, drawTo_len, hn]
  refine ⟨rfl, fun i hi => ?_⟩
  unfold drawTo
  rw [el_map_range hi, drawRow_len]
  exact ⟨rfl, fun k hk => drawRow_el hk⟩
theorem band_near {s : Sheet} {o : List (List Int)} (h : checkErr s o = 0) {i : Nat} (hi : i < o.length) : (el o i).length = s.cols.toNat ∧ ∀ k, k + 1 < s.cols.toNat → el (el o i) (k + 1) - el (el o i) k ≤ s.lean ∧ el (el o i) k - el (el o i) (k + 1) ≤ s.lean := by
  obtain ⟨hs, _, hl⟩ := band_of_check h
  have hb := Sheet.bounds hs
  have h1 := of_all_el hl hi
  have h2 := isLine_len h1
  refine ⟨by omega, fun k hk => ?_⟩
  rcases (lineAt_iff.1 ((isLineB_iff.1 h1).2 (k + 1) (by omega))).2 with h3 | h3
  · omega
  · rw [show k + 1 - 1 = k by omega] at h3
    omega
set_option maxHeartbeats 8000000 in
theorem latheGreatest_p (s : Sheet) (_o0 : i64ok s.cols ∧ i64ok s.rows ∧ i64ok s.weight ∧ i64ok s.clear ∧ i64ok s.lean) (c : Screen) (_o1 : i64ok c.period ∧ i64ok c.phase) (w : List (List Int)) (_o2 : ∀ l, l ∈ w → ∀ y, y ∈ l → i64ok y) (v : List (List Int)) (_o3 : ∀ l, l ∈ v → ∀ y, y ∈ l → i64ok y) (o : List (List Int)) (_o4 : ∀ l, l ∈ o → ∀ y, y ∈ l → i64ok y) :
    PCalls Try.prog 14 [s.enc, c.enc, encRows w, encRows v, encRows o] (· = vb true) := by
  by_cases he : drawErr s c w = 0
  case neg =>
    refine pcalls_of_aw Try.func14 rfl (Nat.le_of_ble_eq_true rfl) ?_
    (repeat' (first | (refine ar_isq ?_; first | refine zmv ?_ | refine zas ?_ | (refine is_load ?_; first | refine zlp ?_ | refine zlr ?_) | (refine is_binOp ?_; first | refine zlss ?_ | refine zleq ?_ | refine zgtr ?_ | refine zgeq ?_ | refine zeql ?_ | refine zneq ?_ | refine zadd ?_ | refine zsub ?_ | refine zmul ?_) | (refine is_fieldAddr ?_; first | refine zfp ?_ | refine zfr ?_) | (refine is_indexAddr ?_; first | refine zil ?_ | refine zis ?_ | refine zit ?_ | refine zia ?_ | refine zir ?_ | (refine zxl ?_; intro _ _ _) | (refine zxs ?_; intro _ _ _)) | (refine is_call ?_; first | refine zll ?_ | refine zls ?_ | refine zln ?_ | refine zle ?_ | refine zmax ?_) | (refine is_pick ?_; first | refine zpt ?_ | refine zpf ?_) | refine zex ?_ | refine znt ?_) | (refine ar_pcall (own := false) fn49 rfl rfl .nil (alive_p) (by simp) (dc rfl) ?_; intro _ hv; subst hv) | (refine ar_pcall (own := false) fn22 rfl rfl (.cons (.closed rfl) .nil) (great_p _) (by simp) (dc rfl) ?_; rintro _ (rfl | ⟨rfl, g20, g60⟩)) | (refine ar_pcall (own := false) fn45 rfl rfl (.cons (.closed rfl) (.cons (.closed rfl) (.cons (.closed rfl) .nil))) (lDraw_p s c w (by assumption) (by assumption)) (by simp) (dc rfl) ?_; intro _ hv; subst hv) | (refine zbx ?_) | (refine zg ?_ ?_ <;> intro hg <;> first | exact absurd hg (by decide) | ((try replace hg := HG.out hg); (try dsimp only at hg); (try (have _h : True := hg; clear _h hg)); first | (exfalso; omega) | skip)) | (refine zgu ?_) | (refine ar_nil ?_) | (refine aw_seq ?_) | (refine aw_skip ?_) | (refine aw_block ?_) | (refine aw_exit ?_) | (refine aw_region ?_) | (refine aw_drawn (id := 18) [(0, 0), (1, 0), (2, 0), (3, 0), (4, 0), (5, 0), (6, 0), (7, 0), (8, 0), (9, 0), (10, 0), (11, 0), (12, 0), (13, 0), (14, 0), (15, 0), (16, 0)] mixed (by kernel_rfl) ?_) | (refine aw_drawn (id := 20) [(0, 0), (1, 0), (2, 0), (3, 0), (4, 0), (5, 0), (6, 0), (7, 0), (8, 0), (9, 0), (10, 0), (11, 0), (12, 0), (13, 0), (14, 0), (15, 0), (16, 0), (17, 0), (18, 0), (19, 0), (20, 0), (21, 0), (22, 0), (23, 0), (24, 0), (25, 0), (26, 0), (27, 0), (28, 0), (29, 0), (30, 0), (31, 0), (32, 0), (33, 0), (34, 0), (35, 0), (36, 0), (37, 0), (38, 0), (39, 0)] mixed (by kernel_rfl) ?_) | (refine aw_drawn (id := 33) [(0, 0), (1, 0), (2, 0), (3, 0), (4, 0), (5, 0), (6, 0), (7, 0), (8, 0), (9, 0), (10, 0), (11, 0), (12, 0), (13, 0), (14, 0), (15, 0)] mixed (by kernel_rfl) ?_) | (refine aw_drawn (id := 37) [(0, 0), (1, 0), (2, 0), (3, 0), (4, 0), (5, 0), (6, 0), (7, 0), (8, 0), (9, 0), (10, 0), (11, 0), (12, 0), (13, 0), (14, 0), (15, 0), (16, 0), (17, 0), (18, 0)] mixed (by kernel_rfl) ?_) | (refine zco ?_ ?_ <;> intro hg <;> first | exact absurd hg (by decide) | ((try replace hg := HG.out hg); (try dsimp only at hg); (try (have _h : True := hg; clear _h hg)); first | (exfalso; omega) | skip))))
    all_goals first
      | (exfalso; omega)
      | ((refine aw_ret ?_; (repeat (first | refine ret_then ?_ | refine ret_block ?_)); refine bq1 rfl ⟨?_, rfl⟩); rfl)
      | trace_state
  obtain ⟨hr, hn, hl⟩ := draw_ok he
  obtain ⟨hs, hc, h0, hrn, hrw⟩ := room_ok hr
  have hb := Sheet.bounds hs
  have hcb := Screen.bounds hc
  have hc12 := cntF_le s c
  obtain ⟨hBl, hBr⟩ := draw_el he
  have ld := fun h20 h60 => lDraw_p s c w h20 h60
  generalize hB : drawF s c w = B at *
  rw [he] at ld
  have ld2 := fun h20 h60 => lDraw_p s c v h20 h60
  have hD := fun (h : drawErr s c v = 0) => draw_el h
  generalize hDe : drawErr s c v = ev at *
  generalize drawF s c v = D at *
  have ho := fun (h : checkErr s o = 0) (i : Nat) (hi : i < o.length) => band_near h hi
  obtain ⟨C, hC⟩ : ∃ C : Nat, s.cols = (C : Int) := ⟨s.cols.toNat, by omega⟩
  have eC : s.cols.toNat = C := by omega
  simp only [eC] at hBr hD ho
  refine pcalls_of_aw Try.func14 rfl (Nat.le_of_ble_eq_true rfl) ?_
  (repeat' (first | (refine ar_isq ?_; first | refine zmv ?_ | refine zas ?_ | (refine is_load ?_; first | refine zlp ?_ | refine zlr ?_) | (refine is_binOp ?_; first | refine zlss ?_ | refine zleq ?_ | refine zgtr ?_ | refine zgeq ?_ | refine zeql ?_ | refine zneq ?_ | refine zadd ?_ | refine zsub ?_ | refine zmul ?_) | (refine is_fieldAddr ?_; first | refine zfp ?_ | refine zfr ?_) | (refine is_indexAddr ?_; first | refine zil ?_ | refine zis ?_ | refine zit ?_ | refine zia ?_ | refine zir ?_ | (refine zxl ?_; intro _ _ _) | (refine zxs ?_; intro _ _ _)) | (refine is_call ?_; first | refine zll ?_ | refine zls ?_ | refine zln ?_ | refine zle ?_ | refine zmax ?_) | (refine is_pick ?_; first | refine zpt ?_ | refine zpf ?_) | refine zex ?_ | refine znt ?_) | (refine ar_pcall (own := false) fn49 rfl rfl .nil (alive_p) (by simp) (dc rfl) ?_; intro _ hv; subst hv) | (refine ar_pcall (own := false) fn22 rfl rfl (.cons (.closed rfl) .nil) (great_p w) (by simp) (dc rfl) ?_; rintro _ (rfl | ⟨rfl, g20, g60⟩)) | (refine ar_pcall (own := false) fn22 rfl rfl (.cons (.closed rfl) .nil) (great_p v) (by simp) (dc rfl) ?_; rintro _ (rfl | ⟨rfl, k20, k60⟩)) | (refine ar_pcall (own := false) fn22 rfl rfl (.cons (.closed rfl) .nil) (great_p o) (by simp) (dc rfl) ?_; rintro _ (rfl | ⟨rfl, m20, m60⟩)) | (refine ar_pcall (own := false) fn45 rfl rfl (.cons (.closed rfl) (.cons (.closed rfl) (.cons (.closed rfl) .nil))) (ld g20 g60) (by simp) (dc rfl) ?_; intro _ hv; subst hv) | (refine zbx ?_) | (refine zg ?_ ?_ <;> intro hg <;> first | exact absurd hg (by decide) | ((try replace hg := HG.out hg); (try dsimp only at hg); (try (have _h : True := hg; clear _h hg)); first | (exfalso; omega) | skip)) | (refine zgu ?_) | (refine ar_nil ?_) | (refine aw_seq ?_) | (refine aw_skip ?_) | (refine aw_block ?_) | (refine aw_exit ?_) | (refine aw_region ?_) | (refine aw_drawn (id := 18) [(0, 0), (1, 0), (2, 0), (3, 0), (4, 0), (5, 0), (6, 0), (7, 0), (8, 0), (9, 0), (10, 0), (11, 0), (12, 0), (13, 0), (14, 0), (15, 0), (16, 0)] mixed (by kernel_rfl) ?_) | (refine aw_drawn (id := 20) [(0, 0), (1, 0), (2, 0), (3, 0), (4, 0), (5, 0), (6, 0), (7, 0), (8, 0), (9, 0), (10, 0), (11, 0), (12, 0), (13, 0), (14, 0), (15, 0), (16, 0), (17, 0), (18, 0), (19, 0), (20, 0), (21, 0), (22, 0), (23, 0), (24, 0), (25, 0), (26, 0), (27, 0), (28, 0), (29, 0), (30, 0), (31, 0), (32, 0), (33, 0), (34, 0), (35, 0), (36, 0), (37, 0), (38, 0), (39, 0)] mixed (by kernel_rfl) ?_) | (refine aw_drawn (id := 33) [(0, 0), (1, 0), (2, 0), (3, 0), (4, 0), (5, 0), (6, 0), (7, 0), (8, 0), (9, 0), (10, 0), (11, 0), (12, 0), (13, 0), (14, 0), (15, 0)] mixed (by kernel_rfl) ?_) | (refine aw_drawn (id := 37) [(0, 0), (1, 0), (2, 0), (3, 0), (4, 0), (5, 0), (6, 0), (7, 0), (8, 0), (9, 0), (10, 0), (11, 0), (12, 0), (13, 0), (14, 0), (15, 0), (16, 0), (17, 0), (18, 0)] mixed (by kernel_rfl) ?_) | (refine zco ?_ ?_ <;> intro hg <;> first | exact absurd hg (by decide) | ((try replace hg := HG.out hg); (try dsimp only at hg); (try (have _h : True := hg; clear _h hg)); first | (exfalso; omega) | skip))))
  all_goals (try (exfalso; omega))
  all_goals (try ((refine aw_ret ?_; (repeat (first | refine ret_then ?_ | refine ret_block ?_)); refine bq1 rfl ⟨?_, rfl⟩); rfl; done))
  refine aw_for B.length (fun _ => True) (fun i => [(2, encRows w), (3, encRows v), (4, encRows o), (5, .ptr 5 0 0 0), (6, .ptr 2 1 0 0), (11, vb true), (12, encRows B), (14, vb (flag C True (nearP s.lean w) i 0)), (63, encRows B), (64, vi B.length), (65, vi i)]) (fun _ => [.arr 5 1 (fun _ => s.enc), .arr 2 1 (fun _ => c.enc)]) trivial ?_ ?_
  · (refine sub_to [some 0, some 1] [] rfl ?_ ?_ <;> (repeat' (first | exact trivial | refine ⟨⟨_, rfl, ?_⟩, ?_⟩ | refine ⟨bsub_snoc rfl rfl (fun _ => rfl) ?_, ?_⟩ | refine ⟨bsub_one rfl rfl ?_, ?_⟩ | refine ⟨bsub_all rfl rfl (fun _ _ => rfl) (fun _ => rfl), ?_⟩ | refine ⟨bsub_updL rfl rfl ?_ (fun _ _ _ => rfl) (fun _ => rfl), ?_⟩ | refine ⟨.inl ⟨_, _, rfl, rfl, ?_⟩, ?_⟩ | exact ⟨.inr ⟨rfl, rfl⟩, trivial⟩ | refine ⟨.inr ⟨rfl, rfl⟩, ?_⟩ | (intro _ _) | exact .closed rfl | exact .sl rfl | exact .ptr rfl | exact .map rfl | exact .nil rfl | exact .emp rfl | exact .nilList | exact .empList | exact frzPtr' (by simp; done) rfl (by omega) rfl rfl | exact frzLB (by simp; done) rfl (fun _ => rfl) rfl | exact frz_all (by simp; done) rfl (fun _ _ => rfl) (fun _ => rfl) rfl | exact .frz (by simp; done) rfl (by omega) (fun _ _ => rfl) (fun _ _ => rfl) | exact slEq rfl (by first | (simp; done) | (simp; omega)) | exact siEq (by omega) | (exact VSub.of_eq (congrArg vb (flag_start trivial).symm) rfl) | exact .of_eq (by refine (show V.agg _ = V.agg _ from ?_); (try dsimp only); congr <;> first | rfl | omega) rfl | exact .closed (by simp [V.closed, V.closed.all, *]; done) | fail)))
  intro i hi _
  by_cases hlti : i < B.length
  · obtain ⟨hli, hle⟩ := hl i (by omega)
    obtain ⟨hbi, hbe⟩ := hBr i (by omega)
    have hmp := mulP hc (k := i) (by omega)
    (repeat' (first | (refine ar_isq ?_; first | refine zmv ?_ | refine zas ?_ | (refine is_load ?_; first | refine zlp ?_ | refine zlr ?_) | (refine is_binOp ?_; first | refine zlss ?_ | refine zleq ?_ | refine zgtr ?_ | refine zgeq ?_ | refine zeql ?_ | refine zneq ?_ | refine zadd ?_ | refine zsub ?_ | refine zmul ?_) | (refine is_fieldAddr ?_; first | refine zfp ?_ | refine zfr ?_) | (refine is_indexAddr ?_; first | refine zil ?_ | refine zis ?_ | refine zit ?_ | refine zia ?_ | refine zir ?_ | (refine zxl ?_; intro _ _ _) | (refine zxs ?_; intro _ _ _)) | (refine is_call ?_; first | refine zll ?_ | refine zls ?_ | refine zln ?_ | refine zle ?_ | refine zmax ?_) | (refine is_pick ?_; first | refine zpt ?_ | refine zpf ?_) | refine zex ?_ | refine znt ?_) | (refine zbx ?_) | (refine zg ?_ ?_ <;> intro hg <;> first | exact absurd hg (by decide) | ((try replace hg := HG.out hg); (try dsimp only at hg); (try (have _h : True := hg; clear _h hg)); first | (exfalso; omega) | skip)) | (refine zgu ?_) | (refine ar_nil ?_) | (refine aw_seq ?_) | (refine aw_skip ?_) | (refine aw_block ?_) | (refine aw_exit ?_) | (refine aw_region ?_) | (refine aw_drawn (id := 18) [(0, 0), (1, 0), (2, 0), (3, 0), (4, 0), (5, 0), (6, 0), (7, 0), (8, 0), (9, 0), (10, 0), (11, 0), (12, 0), (13, 0), (14, 0), (15, 0), (16, 0)] mixed (by kernel_rfl) ?_) | (refine aw_drawn (id := 20) [(0, 0), (1, 0), (2, 0), (3, 0), (4, 0), (5, 0), (6, 0), (7, 0), (8, 0), (9, 0), (10, 0), (11, 0), (12, 0), (13, 0), (14, 0), (15, 0), (16, 0), (17, 0), (18, 0), (19, 0), (20, 0), (21, 0), (22, 0), (23, 0), (24, 0), (25, 0), (26, 0), (27, 0), (28, 0), (29, 0), (30, 0), (31, 0), (32, 0), (33, 0), (34, 0), (35, 0), (36, 0), (37, 0), (38, 0), (39, 0)] mixed (by kernel_rfl) ?_) | (refine aw_drawn (id := 33) [(0, 0), (1, 0), (2, 0), (3, 0), (4, 0), (5, 0), (6, 0), (7, 0), (8, 0), (9, 0), (10, 0), (11, 0), (12, 0), (13, 0), (14, 0), (15, 0)] mixed (by kernel_rfl) ?_) | (refine aw_drawn (id := 37) [(0, 0), (1, 0), (2, 0), (3, 0), (4, 0), (5, 0), (6, 0), (7, 0), (8, 0), (9, 0), (10, 0), (11, 0), (12, 0), (13, 0), (14, 0), (15, 0), (16, 0), (17, 0), (18, 0)] mixed (by kernel_rfl) ?_) | (refine zco ?_ ?_ <;> intro hg <;> first | exact absurd hg (by decide) | ((try replace hg := HG.out hg); (try dsimp only at hg); (try (have _h : True := hg; clear _h hg)); first | (exfalso; omega) | skip))))
    all_goals (try (exfalso; omega))
    refine aw_for C (fun _ => True) (fun k => [(2, encRows w), (3, encRows v), (4, encRows o), (5, .ptr 5 0 0 0), (6, .ptr 2 1 0 0), (11, vb true), (12, encRows B), (14, vb (flag C True (nearP s.lean w) i k)), (63, encRows B), (64, vi B.length), (65, vi i), (15, vi i), (16, encInts (el B i)), (75, encInts (el B i)), (76, vi (el B i).length), (77, vi k)]) (fun _ => [.arr 5 1 (fun _ => s.enc), .arr 2 1 (fun _ => c.enc)]) trivial ?_ ?_
    · (refine sub_to [some 0, some 1] [] rfl ?_ ?_ <;> (repeat' (first | exact trivial | refine ⟨⟨_, rfl, ?_⟩, ?_⟩ | refine ⟨bsub_snoc rfl rfl (fun _ => rfl) ?_, ?_⟩ | refine ⟨bsub_one rfl rfl ?_, ?_⟩ | refine ⟨bsub_all rfl rfl (fun _ _ => rfl) (fun _ => rfl), ?_⟩ | refine ⟨bsub_updL rfl rfl ?_ (fun _ _ _ => rfl) (fun _ => rfl), ?_⟩ | refine ⟨.inl ⟨_, _, rfl, rfl, ?_⟩, ?_⟩ | exact ⟨.inr ⟨rfl, rfl⟩, trivial⟩ | refine ⟨.inr ⟨rfl, rfl⟩, ?_⟩ | (intro _ _) | exact .closed rfl | exact .sl rfl | exact .ptr rfl | exact .map rfl | exact .nil rfl | exact .emp rfl | exact .nilList | exact .empList | exact frzPtr' (by simp; done) rfl (by omega) rfl rfl | exact frzLB (by simp; done) rfl (fun _ => rfl) rfl | exact frz_all (by simp; done) rfl (fun _ _ => rfl) (fun _ => rfl) rfl | exact .frz (by simp; done) rfl (by omega) (fun _ _ => rfl) (fun _ _ => rfl) | exact slEq rfl (by first | (simp; done) | (simp; omega)) | exact siEq (by omega) | exact .of_eq (by refine (show V.agg _ = V.agg _ from ?_); (try dsimp only); congr <;> first | rfl | omega) rfl | exact .closed (by simp [V.closed, V.closed.all, *]; done) | fail)))
    intro k hk _
    by_cases hltk : k < C
    · have h1 := hbe k hltk
      have h2 := lean_le (a := s.lean) (w := el (el w i)) hltk
      have h3 := hle k (by omega)
      have h4 := hle (k - 1) (by omega)
      by_cases hnr : nearP s.lean w i k
      · have hnr' := hnr
        unfold nearP at hnr'
        (repeat' (first | (refine ar_isq ?_; first | refine zmv ?_ | refine zas ?_ | (refine is_load ?_; first | refine zlp ?_ | refine zlr ?_) | (refine is_binOp ?_; first | refine zlss ?_ | refine zleq ?_ | refine zgtr ?_ | refine zgeq ?_ | refine zeql ?_ | refine zneq ?_ | refine zadd ?_ | refine zsub ?_ | refine zmul ?_) | (refine is_fieldAddr ?_; first | refine zfp ?_ | refine zfr ?_) | (refine is_indexAddr ?_; first | refine zil ?_ | refine zis ?_ | refine zit ?_ | refine zia ?_ | refine zir ?_ | refine zil (j := i) ?_ | refine zis (j := i) ?_ | refine zit (j := i) ?_ | refine zil (j := k) ?_ | refine zis (j := k) ?_ | refine zit (j := k) ?_ | refine zil (j := k - 1) ?_ | refine zis (j := k - 1) ?_ | refine zit (j := k - 1) ?_ | (refine zxl ?_; intro _ _ _) | (refine zxs ?_; intro _ _ _)) | (refine is_call ?_; first | refine zll ?_ | refine zls ?_ | refine zln ?_ | refine zle ?_ | refine zmax ?_) | (refine is_pick ?_; first | refine zpt ?_ | refine zpf ?_) | refine zex ?_ | refine znt ?_) | (refine zbx ?_) | (refine zg ?_ ?_ <;> intro hg <;> first | exact absurd hg (by decide) | ((try replace hg := HG.out hg); (try dsimp only at hg); (try (have _h : True := hg; clear _h hg)); first | (exfalso; omega) | skip)) | (refine zgu ?_) | (refine ar_nil ?_) | (refine aw_seq ?_) | (refine aw_skip ?_) | (refine aw_block ?_) | (refine aw_exit ?_) | (refine aw_region ?_) | (refine aw_drawn (id := 18) [(0, 0), (1, 0), (2, 0), (3, 0), (4, 0), (5, 0), (6, 0), (7, 0), (8, 0), (9, 0), (10, 0), (11, 0), (12, 0), (13, 0), (14, 0), (15, 0), (16, 0)] mixed (by kernel_rfl) ?_) | (refine aw_drawn (id := 20) [(0, 0), (1, 0), (2, 0), (3, 0), (4, 0), (5, 0), (6, 0), (7, 0), (8, 0), (9, 0), (10, 0), (11, 0), (12, 0), (13, 0), (14, 0), (15, 0), (16, 0), (17, 0), (18, 0), (19, 0), (20, 0), (21, 0), (22, 0), (23, 0), (24, 0), (25, 0), (26, 0), (27, 0), (28, 0), (29, 0), (30, 0), (31, 0), (32, 0), (33, 0), (34, 0), (35, 0), (36, 0), (37, 0), (38, 0), (39, 0)] mixed (by kernel_rfl) ?_) | (refine aw_drawn (id := 33) [(0, 0), (1, 0), (2, 0), (3, 0), (4, 0), (5, 0), (6, 0), (7, 0), (8, 0), (9, 0), (10, 0), (11, 0), (12, 0), (13, 0), (14, 0), (15, 0)] mixed (by kernel_rfl) ?_) | (refine aw_drawn (id := 37) [(0, 0), (1, 0), (2, 0), (3, 0), (4, 0), (5, 0), (6, 0), (7, 0), (8, 0), (9, 0), (10, 0), (11, 0), (12, 0), (13, 0), (14, 0), (15, 0), (16, 0), (17, 0), (18, 0)] mixed (by kernel_rfl) ?_) | (refine zco ?_ ?_ <;> intro hg <;> first | exact absurd hg (by decide) | ((try replace hg := HG.out hg); (try dsimp only at hg); (try (have _h : True := hg; clear _h hg)); first | (exfalso; omega) | skip))))
        all_goals first
          | (exfalso; omega)
          | ((first | refine loop_next (by omega) ?_ ?_ | refine (show _ ∧ _ ∧ SubOf _ _ _ _ _ _ from And.intro (by omega) (And.intro ?_ ?_))); (focus ((trivial); done)); (focus ((refine sub_to [some 0, some 1] [] rfl ?_ ?_ <;> (repeat' (first | exact trivial | refine ⟨⟨_, rfl, ?_⟩, ?_⟩ | refine ⟨bsub_snoc rfl rfl (fun _ => rfl) ?_, ?_⟩ | refine ⟨bsub_one rfl rfl ?_, ?_⟩ | refine ⟨bsub_all rfl rfl (fun _ _ => rfl) (fun _ => rfl), ?_⟩ | refine ⟨bsub_updL rfl rfl ?_ (fun _ _ _ => rfl) (fun _ => rfl), ?_⟩ | refine ⟨.inl ⟨_, _, rfl, rfl, ?_⟩, ?_⟩ | exact ⟨.inr ⟨rfl, rfl⟩, trivial⟩ | refine ⟨.inr ⟨rfl, rfl⟩, ?_⟩ | (intro _ _) | exact .closed rfl | exact .sl rfl | exact .ptr rfl | exact .map rfl | exact .nil rfl | exact .emp rfl | exact .nilList | exact .empList | exact frzPtr' (by simp; done) rfl (by omega) rfl rfl | exact frzLB (by simp; done) rfl (fun _ => rfl) rfl | exact frz_all (by simp; done) rfl (fun _ _ => rfl) (fun _ => rfl) rfl | exact .frz (by simp; done) rfl (by omega) (fun _ _ => rfl) (fun _ _ => rfl) | exact slEq rfl (by first | (simp; done) | (simp; omega)) | exact siEq (by omega) | (exact VSub.of_eq (congrArg vb (flag_yes hnr)) rfl) | exact .of_eq (by refine (show V.agg _ = V.agg _ from ?_); (try dsimp only); congr <;> first | rfl | omega) rfl | exact .closed (by simp [V.closed, V.closed.all, *]; done) | fail))); done)))
          | trace_state
      · have hnr' := hnr
        unfold nearP at hnr'
        (repeat' (first | (refine ar_isq ?_; first | refine zmv ?_ | refine zas ?_ | (refine is_load ?_; first | refine zlp ?_ | refine zlr ?_) | (refine is_binOp ?_; first | refine zlss ?_ | refine zleq ?_ | refine zgtr ?_ | refine zgeq ?_ | refine zeql ?_ | refine zneq ?_ | refine zadd ?_ | refine zsub ?_ | refine zmul ?_) | (refine is_fieldAddr ?_; first | refine zfp ?_ | refine zfr ?_) | (refine is_indexAddr ?_; first | refine zil ?_ | refine zis ?_ | refine zit ?_ | refine zia ?_ | refine zir ?_ | refine zil (j := i) ?_ | refine zis (j := i) ?_ | refine zit (j := i) ?_ | refine zil (j := k) ?_ | refine zis (j := k) ?_ | refine zit (j := k) ?_ | refine zil (j := k - 1) ?_ | refine zis (j := k - 1) ?_ | refine zit (j := k - 1) ?_ | (refine zxl ?_; intro _ _ _) | (refine zxs ?_; intro _ _ _)) | (refine is_call ?_; first | refine zll ?_ | refine zls ?_ | refine zln ?_ | refine zle ?_ | refine zmax ?_) | (refine is_pick ?_; first | refine zpt ?_ | refine zpf ?_) | refine zex ?_ | refine znt ?_) | (refine zbx ?_) | (refine zg ?_ ?_ <;> intro hg <;> first | exact absurd hg (by decide) | ((try replace hg := HG.out hg); (try dsimp only at hg); (try (have _h : True := hg; clear _h hg)); first | (exfalso; omega) | skip)) | (refine zgu ?_) | (refine ar_nil ?_) | (refine aw_seq ?_) | (refine aw_skip ?_) | (refine aw_block ?_) | (refine aw_exit ?_) | (refine aw_region ?_) | (refine aw_drawn (id := 18) [(0, 0), (1, 0), (2, 0), (3, 0), (4, 0), (5, 0), (6, 0), (7, 0), (8, 0), (9, 0), (10, 0), (11, 0), (12, 0), (13, 0), (14, 0), (15, 0), (16, 0)] mixed (by kernel_rfl) ?_) | (refine aw_drawn (id := 20) [(0, 0), (1, 0), (2, 0), (3, 0), (4, 0), (5, 0), (6, 0), (7, 0), (8, 0), (9, 0), (10, 0), (11, 0), (12, 0), (13, 0), (14, 0), (15, 0), (16, 0), (17, 0), (18, 0), (19, 0), (20, 0), (21, 0), (22, 0), (23, 0), (24, 0), (25, 0), (26, 0), (27, 0), (28, 0), (29, 0), (30, 0), (31, 0), (32, 0), (33, 0), (34, 0), (35, 0), (36, 0), (37, 0), (38, 0), (39, 0)] mixed (by kernel_rfl) ?_) | (refine aw_drawn (id := 33) [(0, 0), (1, 0), (2, 0), (3, 0), (4, 0), (5, 0), (6, 0), (7, 0), (8, 0), (9, 0), (10, 0), (11, 0), (12, 0), (13, 0), (14, 0), (15, 0)] mixed (by kernel_rfl) ?_) | (refine aw_drawn (id := 37) [(0, 0), (1, 0), (2, 0), (3, 0), (4, 0), (5, 0), (6, 0), (7, 0), (8, 0), (9, 0), (10, 0), (11, 0), (12, 0), (13, 0), (14, 0), (15, 0), (16, 0), (17, 0), (18, 0)] mixed (by kernel_rfl) ?_) | (refine zco ?_ ?_ <;> intro hg <;> first | exact absurd hg (by decide) | ((try replace hg := HG.out hg); (try dsimp only at hg); (try (have _h : True := hg; clear _h hg)); first | (exfalso; omega) | skip))))
        all_goals first
          | (exfalso; omega)
          | ((first | refine loop_next (by omega) ?_ ?_ | refine (show _ ∧ _ ∧ SubOf _ _ _ _ _ _ from And.intro (by omega) (And.intro ?_ ?_))); (focus ((trivial); done)); (focus ((refine sub_to [some 0, some 1] [] rfl ?_ ?_ <;> (repeat' (first | exact trivial | refine ⟨⟨_, rfl, ?_⟩, ?_⟩ | refine ⟨bsub_snoc rfl rfl (fun _ => rfl) ?_, ?_⟩ | refine ⟨bsub_one rfl rfl ?_, ?_⟩ | refine ⟨bsub_all rfl rfl (fun _ _ => rfl) (fun _ => rfl), ?_⟩ | refine ⟨bsub_updL rfl rfl ?_ (fun _ _ _ => rfl) (fun _ => rfl), ?_⟩ | refine ⟨.inl ⟨_, _, rfl, rfl, ?_⟩, ?_⟩ | exact ⟨.inr ⟨rfl, rfl⟩, trivial⟩ | refine ⟨.inr ⟨rfl, rfl⟩, ?_⟩ | (intro _ _) | exact .closed rfl | exact .sl rfl | exact .ptr rfl | exact .map rfl | exact .nil rfl | exact .emp rfl | exact .nilList | exact .empList | exact frzPtr' (by simp; done) rfl (by omega) rfl rfl | exact frzLB (by simp; done) rfl (fun _ => rfl) rfl | exact frz_all (by simp; done) rfl (fun _ _ => rfl) (fun _ => rfl) rfl | exact .frz (by simp; done) rfl (by omega) (fun _ _ => rfl) (fun _ _ => rfl) | exact slEq rfl (by first | (simp; done) | (simp; omega)) | exact siEq (by omega) | (exact VSub.of_eq (congrArg vb (flag_no hnr).symm) rfl) | exact .of_eq (by refine (show V.agg _ = V.agg _ from ?_); (try dsimp only); congr <;> first | rfl | omega) rfl | exact .closed (by simp [V.closed, V.closed.all, *]; done) | fail))); done)))
          | trace_state
    · obtain rfl : k = C := by omega
      (repeat' (first | (refine ar_isq ?_; first | refine zmv ?_ | refine zas ?_ | (refine is_load ?_; first | refine zlp ?_ | refine zlr ?_) | (refine is_binOp ?_; first | refine zlss ?_ | refine zleq ?_ | refine zgtr ?_ | refine zgeq ?_ | refine zeql ?_ | refine zneq ?_ | refine zadd ?_ | refine zsub ?_ | refine zmul ?_) | (refine is_fieldAddr ?_; first | refine zfp ?_ | refine zfr ?_) | (refine is_indexAddr ?_; first | refine zil ?_ | refine zis ?_ | refine zit ?_ | refine zia ?_ | refine zir ?_ | (refine zxl ?_; intro _ _ _) | (refine zxs ?_; intro _ _ _)) | (refine is_call ?_; first | refine zll ?_ | refine zls ?_ | refine zln ?_ | refine zle ?_ | refine zmax ?_) | (refine is_pick ?_; first | refine zpt ?_ | refine zpf ?_) | refine zex ?_ | refine znt ?_) | (refine zbx ?_) | (refine zg ?_ ?_ <;> intro hg <;> first | exact absurd hg (by decide) | ((try replace hg := HG.out hg); (try dsimp only at hg); (try (have _h : True := hg; clear _h hg)); first | (exfalso; omega) | skip)) | (refine zgu ?_) | (refine ar_nil ?_) | (refine aw_seq ?_) | (refine aw_skip ?_) | (refine aw_block ?_) | (refine aw_exit ?_) | (refine aw_region ?_) | (refine aw_drawn (id := 18) [(0, 0), (1, 0), (2, 0), (3, 0), (4, 0), (5, 0), (6, 0), (7, 0), (8, 0), (9, 0), (10, 0), (11, 0), (12, 0), (13, 0), (14, 0), (15, 0), (16, 0)] mixed (by kernel_rfl) ?_) | (refine aw_drawn (id := 20) [(0, 0), (1, 0), (2, 0), (3, 0), (4, 0), (5, 0), (6, 0), (7, 0), (8, 0), (9, 0), (10, 0), (11, 0), (12, 0), (13, 0), (14, 0), (15, 0), (16, 0), (17, 0), (18, 0), (19, 0), (20, 0), (21, 0), (22, 0), (23, 0), (24, 0), (25, 0), (26, 0), (27, 0), (28, 0), (29, 0), (30, 0), (31, 0), (32, 0), (33, 0), (34, 0), (35, 0), (36, 0), (37, 0), (38, 0), (39, 0)] mixed (by kernel_rfl) ?_) | (refine aw_drawn (id := 33) [(0, 0), (1, 0), (2, 0), (3, 0), (4, 0), (5, 0), (6, 0), (7, 0), (8, 0), (9, 0), (10, 0), (11, 0), (12, 0), (13, 0), (14, 0), (15, 0)] mixed (by kernel_rfl) ?_) | (refine aw_drawn (id := 37) [(0, 0), (1, 0), (2, 0), (3, 0), (4, 0), (5, 0), (6, 0), (7, 0), (8, 0), (9, 0), (10, 0), (11, 0), (12, 0), (13, 0), (14, 0), (15, 0), (16, 0), (17, 0), (18, 0)] mixed (by kernel_rfl) ?_) | (refine zco ?_ ?_ <;> intro hg <;> first | exact absurd hg (by decide) | ((try replace hg := HG.out hg); (try dsimp only at hg); (try (have _h : True := hg; clear _h hg)); first | (exfalso; omega) | skip))))
      all_goals first
        | (exfalso; omega)
        | ((first | refine loop_next (by omega) ?_ ?_ | refine (show _ ∧ _ ∧ SubOf _ _ _ _ _ _ from And.intro (by omega) (And.intro ?_ ?_))); (focus ((trivial); done)); (focus ((refine sub_to [some 0, some 1] [] rfl ?_ ?_ <;> (repeat' (first | exact trivial | refine ⟨⟨_, rfl, ?_⟩, ?_⟩ | refine ⟨bsub_snoc rfl rfl (fun _ => rfl) ?_, ?_⟩ | refine ⟨bsub_one rfl rfl ?_, ?_⟩ | refine ⟨bsub_all rfl rfl (fun _ _ => rfl) (fun _ => rfl), ?_⟩ | refine ⟨bsub_updL rfl rfl ?_ (fun _ _ _ => rfl) (fun _ => rfl), ?_⟩ | refine ⟨.inl ⟨_, _, rfl, rfl, ?_⟩, ?_⟩ | exact ⟨.inr ⟨rfl, rfl⟩, trivial⟩ | refine ⟨.inr ⟨rfl, rfl⟩, ?_⟩ | (intro _ _) | exact .closed rfl | exact .sl rfl | exact .ptr rfl | exact .map rfl | exact .nil rfl | exact .emp rfl | exact .nilList | exact .empList | exact frzPtr' (by simp; done) rfl (by omega) rfl rfl | exact frzLB (by simp; done) rfl (fun _ => rfl) rfl | exact frz_all (by simp; done) rfl (fun _ _ => rfl) (fun _ => rfl) rfl | exact .frz (by simp; done) rfl (by omega) (fun _ _ => rfl) (fun _ _ => rfl) | exact slEq rfl (by first | (simp; done) | (simp; omega)) | exact siEq (by omega) | (exact VSub.of_eq (congrArg vb flag_row) rfl) | exact .of_eq (by refine (show V.agg _ = V.agg _ from ?_); (try dsimp only); congr <;> first | rfl | omega) rfl | exact .closed (by simp [V.closed, V.closed.all, *]; done) | fail))); done)))
        | trace_state
  obtain rfl : i = B.length := by omega
  obtain ⟨pF, hpF⟩ : ∃ pF : Nat → Nat → Prop, pF = fun i k => el (el o i) k ≤ c.phase + (i : Int) * c.period + el (el w i) k := ⟨_, rfl⟩
  obtain ⟨pA, hpA⟩ : ∃ pA : Nat → Nat → Prop, pA = fun i k => el (el w i) k ≤ el (el v i) k := ⟨_, rfl⟩
  generalize hLN : flag C True (nearP s.lean w) B.length 0 = LN
  have hsame : LN = true → ∀ i, i < B.length → ∀ k, k < C → el (el B i) k = el (el w i) k + (c.phase + (i : Int) * c.period) := fun e i hi k hk => by
    rw [← hLN, flag_true] at e
    rw [(hBr i (by omega)).2 k hk, lean_same (by omega) (near_all e.2 hi) hk]
  (repeat' (first | (refine ar_isq ?_; first | refine zmv ?_ | refine zas ?_ | (refine is_load ?_; first | refine zlp ?_ | refine zlr ?_) | (refine is_binOp ?_; first | refine zlss ?_ | refine zleq ?_ | refine zgtr ?_ | refine zgeq ?_ | refine zeql ?_ | refine zneq ?_ | refine zadd ?_ | refine zsub ?_ | refine zmul ?_) | (refine is_fieldAddr ?_; first | refine zfp ?_ | refine zfr ?_) | (refine is_indexAddr ?_; first | refine zil ?_ | refine zis ?_ | refine zit ?_ | refine zia ?_ | refine zir ?_ | (refine zxl ?_; intro _ _ _) | (refine zxs ?_; intro _ _ _)) | (refine is_call ?_; first | refine zll ?_ | refine zls ?_ | refine zln ?_ | refine zle ?_ | refine zmax ?_) | (refine is_pick ?_; first | refine zpt ?_ | refine zpf ?_) | refine zex ?_ | refine znt ?_) | (refine ar_pcall (own := false) fn45 rfl rfl (.cons (.closed rfl) (.cons (.closed rfl) (.cons (.closed rfl) .nil))) (ld2 k20 k60) (by simp) (dc rfl) ?_; intro _ hv; subst hv) | (refine ar_pcall (own := false) fn30 rfl rfl (.cons (.closed rfl) (.cons (.closed rfl) .nil)) (check_p s o) (by simp) (dc rfl) ?_; intro _ hv; subst hv) | (refine zbx ?_) | (refine zg ?_ ?_ <;> intro hg <;> first | exact absurd hg (by decide) | ((try replace hg := HG.out hg); (try dsimp only at hg); (try (have _h : True := hg; clear _h hg)); first | (exfalso; omega) | skip)) | (refine zgu ?_) | (refine ar_nil ?_) | (refine aw_seq ?_) | (refine aw_skip ?_) | (refine aw_block ?_) | (refine aw_exit ?_) | (refine aw_region ?_) | (refine aw_drawn (id := 18) [(0, 0), (1, 0), (2, 0), (3, 0), (4, 0), (5, 0), (6, 0), (7, 0), (8, 0), (9, 0), (10, 0), (11, 0), (12, 0), (13, 0), (14, 0), (15, 0), (16, 0)] mixed (by kernel_rfl) ?_) | (refine aw_drawn (id := 20) [(0, 0), (1, 0), (2, 0), (3, 0), (4, 0), (5, 0), (6, 0), (7, 0), (8, 0), (9, 0), (10, 0), (11, 0), (12, 0), (13, 0), (14, 0), (15, 0), (16, 0), (17, 0), (18, 0), (19, 0), (20, 0), (21, 0), (22, 0), (23, 0), (24, 0), (25, 0), (26, 0), (27, 0), (28, 0), (29, 0), (30, 0), (31, 0), (32, 0), (33, 0), (34, 0), (35, 0), (36, 0), (37, 0), (38, 0), (39, 0)] mixed (by kernel_rfl) ?_) | (refine aw_drawn (id := 33) [(0, 0), (1, 0), (2, 0), (3, 0), (4, 0), (5, 0), (6, 0), (7, 0), (8, 0), (9, 0), (10, 0), (11, 0), (12, 0), (13, 0), (14, 0), (15, 0)] mixed (by kernel_rfl) ?_) | (refine aw_drawn (id := 37) [(0, 0), (1, 0), (2, 0), (3, 0), (4, 0), (5, 0), (6, 0), (7, 0), (8, 0), (9, 0), (10, 0), (11, 0), (12, 0), (13, 0), (14, 0), (15, 0), (16, 0), (17, 0), (18, 0)] mixed (by kernel_rfl) ?_) | (refine zco ?_ ?_ <;> intro hg <;> first | exact absurd hg (by decide) | ((try replace hg := HG.out hg); (try dsimp only at hg); (try (have _h : True := hg; clear _h hg)); first | (exfalso; omega) | skip))))
  all_goals (try (exfalso; omega))
  all_goals
    refine aw_for B.length (fun _ => True) (fun i => [(3, encRows v), (2, encRows w), (4, encRows o), (5, .ptr 5 0 0 0), (6, .ptr 2 1 0 0), (11, vb true), (12, encRows B), (14, vb LN), (19, encRows D), (21, vb (flag C (checkErr s o = 0 ∧ o.length = B.length) pF i 0)), (22, vb (flag C (ev = 0) pA i 0)), (161, encRows B), (162, vi B.length), (163, vi i)]) (fun _ => [.arr 5 1 (fun _ => s.enc), .arr 2 1 (fun _ => c.enc)]) trivial ?_ ?_
    · ((refine sub_to [some 0, some 1] [] rfl ?_ ?_ <;> (repeat' (first | exact trivial | refine ⟨⟨_, rfl, ?_⟩, ?_⟩ | refine ⟨bsub_snoc rfl rfl (fun _ => rfl) ?_, ?_⟩ | refine ⟨bsub_one rfl rfl ?_, ?_⟩ | refine ⟨bsub_all rfl rfl (fun _ _ => rfl) (fun _ => rfl), ?_⟩ | refine ⟨bsub_updL rfl rfl ?_ (fun _ _ _ => rfl) (fun _ => rfl), ?_⟩ | refine ⟨.inl ⟨_, _, rfl, rfl, ?_⟩, ?_⟩ | exact ⟨.inr ⟨rfl, rfl⟩, trivial⟩ | refine ⟨.inr ⟨rfl, rfl⟩, ?_⟩ | (intro _ _) | exact .closed rfl | exact .sl rfl | exact .ptr rfl | exact .map rfl | exact .nil rfl | exact .emp rfl | exact .nilList | exact .empList | exact frzPtr' (by simp; done) rfl (by omega) rfl rfl | exact frzLB (by simp; done) rfl (fun _ => rfl) rfl | exact frz_all (by simp; done) rfl (fun _ _ => rfl) (fun _ => rfl) rfl | exact .frz (by simp; done) rfl (by omega) (fun _ _ => rfl) (fun _ _ => rfl) | exact slEq rfl (by first | (simp; done) | (simp; omega)) | exact siEq (by omega) | (first | exact VSub.of_eq (congrArg vb (flag_first Iff.rfl)) rfl | exact VSub.of_eq (congrArg vb (flag_first (by omega))) rfl | exact VSub.of_eq (congrArg vb (flag_never (by omega)).symm) rfl) | exact .of_eq (by refine (show V.agg _ = V.agg _ from ?_); (try dsimp only); congr <;> first | rfl | omega) rfl | exact .closed (by simp [V.closed, V.closed.all, *]; done) | fail))))
    intro i hi _
    by_cases hlti : i < B.length
    · skip
      obtain ⟨hli, hle⟩ := hl i (by omega)
      obtain ⟨hbi, hbe⟩ := hBr i (by omega)
      have hmp := mulP hc (k := i) (by omega)
      (repeat' (first | (refine ar_isq ?_; first | refine zmv ?_ | refine zas ?_ | (refine is_load ?_; first | refine zlp ?_ | refine zlr ?_) | (refine is_binOp ?_; first | refine zlss ?_ | refine zleq ?_ | refine zgtr ?_ | refine zgeq ?_ | refine zeql ?_ | refine zneq ?_ | refine zadd ?_ | refine zsub ?_ | refine zmul ?_) | (refine is_fieldAddr ?_; first | refine zfp ?_ | refine zfr ?_) | (refine is_indexAddr ?_; first | refine zil ?_ | refine zis ?_ | refine zit ?_ | refine zia ?_ | refine zir ?_ | (refine zxl ?_; intro _ _ _) | (refine zxs ?_; intro _ _ _)) | (refine is_call ?_; first | refine zll ?_ | refine zls ?_ | refine zln ?_ | refine zle ?_ | refine zmax ?_) | (refine is_pick ?_; first | refine zpt ?_ | refine zpf ?_) | refine zex ?_ | refine znt ?_) | (refine zbx ?_) | (refine zg ?_ ?_ <;> intro hg <;> first | exact absurd hg (by decide) | ((try replace hg := HG.out hg); (try dsimp only at hg); (try (have _h : True := hg; clear _h hg)); first | (exfalso; omega) | skip)) | (refine zgu ?_) | (refine ar_nil ?_) | (refine aw_seq ?_) | (refine aw_skip ?_) | (refine aw_block ?_) | (refine aw_exit ?_) | (refine aw_region ?_) | (refine aw_drawn (id := 18) [(0, 0), (1, 0), (2, 0), (3, 0), (4, 0), (5, 0), (6, 0), (7, 0), (8, 0), (9, 0), (10, 0), (11, 0), (12, 0), (13, 0), (14, 0), (15, 0), (16, 0)] mixed (by kernel_rfl) ?_) | (refine aw_drawn (id := 20) [(0, 0), (1, 0), (2, 0), (3, 0), (4, 0), (5, 0), (6, 0), (7, 0), (8, 0), (9, 0), (10, 0), (11, 0), (12, 0), (13, 0), (14, 0), (15, 0), (16, 0), (17, 0), (18, 0), (19, 0), (20, 0), (21, 0), (22, 0), (23, 0), (24, 0), (25, 0), (26, 0), (27, 0), (28, 0), (29, 0), (30, 0), (31, 0), (32, 0), (33, 0), (34, 0), (35, 0), (36, 0), (37, 0), (38, 0), (39, 0)] mixed (by kernel_rfl) ?_) | (refine aw_drawn (id := 33) [(0, 0), (1, 0), (2, 0), (3, 0), (4, 0), (5, 0), (6, 0), (7, 0), (8, 0), (9, 0), (10, 0), (11, 0), (12, 0), (13, 0), (14, 0), (15, 0)] mixed (by kernel_rfl) ?_) | (refine aw_drawn (id := 37) [(0, 0), (1, 0), (2, 0), (3, 0), (4, 0), (5, 0), (6, 0), (7, 0), (8, 0), (9, 0), (10, 0), (11, 0), (12, 0), (13, 0), (14, 0), (15, 0), (16, 0), (17, 0), (18, 0)] mixed (by kernel_rfl) ?_) | (refine zco ?_ ?_ <;> intro hg <;> first | exact absurd hg (by decide) | ((try replace hg := HG.out hg); (try dsimp only at hg); (try (have _h : True := hg; clear _h hg)); first | (exfalso; omega) | skip))))
      all_goals (try (exfalso; omega))
      refine aw_for C (fun _ => True) (fun k => [(3, encRows v), (2, encRows w), (4, encRows o), (5, .ptr 5 0 0 0), (6, .ptr 2 1 0 0), (11, vb true), (12, encRows B), (14, vb LN), (19, encRows D), (21, vb (flag C (checkErr s o = 0 ∧ o.length = B.length) pF i k)), (22, vb (flag C (ev = 0) pA i k)), (161, encRows B), (162, vi B.length), (163, vi i), (23, vi i), (24, encInts (el B i)), (168, encInts (el B i)), (169, vi (el B i).length), (170, vi k)]) (fun _ => [.arr 5 1 (fun _ => s.enc), .arr 2 1 (fun _ => c.enc)]) trivial ?_ ?_
      · (refine sub_to [some 0, some 1] [] rfl ?_ ?_ <;> (repeat' (first | exact trivial | refine ⟨⟨_, rfl, ?_⟩, ?_⟩ | refine ⟨bsub_snoc rfl rfl (fun _ => rfl) ?_, ?_⟩ | refine ⟨bsub_one rfl rfl ?_, ?_⟩ | refine ⟨bsub_all rfl rfl (fun _ _ => rfl) (fun _ => rfl), ?_⟩ | refine ⟨bsub_updL rfl rfl ?_ (fun _ _ _ => rfl) (fun _ => rfl), ?_⟩ | refine ⟨.inl ⟨_, _, rfl, rfl, ?_⟩, ?_⟩ | exact ⟨.inr ⟨rfl, rfl⟩, trivial⟩ | refine ⟨.inr ⟨rfl, rfl⟩, ?_⟩ | (intro _ _) | exact .closed rfl | exact .sl rfl | exact .ptr rfl | exact .map rfl | exact .nil rfl | exact .emp rfl | exact .nilList | exact .empList | exact frzPtr' (by simp; done) rfl (by omega) rfl rfl | exact frzLB (by simp; done) rfl (fun _ => rfl) rfl | exact frz_all (by simp; done) rfl (fun _ _ => rfl) (fun _ => rfl) rfl | exact .frz (by simp; done) rfl (by omega) (fun _ _ => rfl) (fun _ _ => rfl) | exact slEq rfl (by first | (simp; done) | (simp; omega)) | exact siEq (by omega) | exact .of_eq (by refine (show V.agg _ = V.agg _ from ?_); (try dsimp only); congr <;> first | rfl | omega) rfl | exact .closed (by simp [V.closed, V.closed.all, *]; done) | fail)))
      intro k hk _
      by_cases hltk : k < C
      · have h3 := hle k (by omega)
        have hsm := fun e => hsame e i hlti k hltk
        have fe : pF i k ↔ el (el o i) k ≤ c.phase + (i : Int) * c.period + el (el w i) k := by rw [hpF]
        have ae : pA i k ↔ el (el w i) k ≤ el (el v i) k := by rw [hpA]
        have hF := flag_true (C := C) (q := checkErr s o = 0 ∧ o.length = B.length) (p := pF) (i := i) (k := k)
        have hA := flag_true (C := C) (q := ev = 0) (p := pA) (i := i) (k := k)
        have hLc : LN = false ∨ (LN = true ∧ el (el B i) k = el (el w i) k + (c.phase + (i : Int) * c.period)) := by
          cases e : LN
          · exact .inl rfl
          · exact .inr ⟨rfl, hsm e⟩
        have hFc : flag C (checkErr s o = 0 ∧ o.length = B.length) pF i k = false ∨ (flag C (checkErr s o = 0 ∧ o.length = B.length) pF i k = true ∧ i < o.length ∧ (el o i).length = C) := by
          cases e : flag C (checkErr s o = 0 ∧ o.length = B.length) pF i k
          · exact .inl rfl
          · obtain ⟨⟨g1, g2⟩, _⟩ := hF.1 e
            exact .inr ⟨rfl, by omega, (ho g1 i (by omega)).1⟩
        have hAc : flag C (ev = 0) pA i k = false ∨ (flag C (ev = 0) pA i k = true ∧ i < v.length ∧ (el v i).length = C) := by
          cases e : flag C (ev = 0) pA i k
          · exact .inl rfl
          · obtain ⟨g1, _⟩ := hA.1 e
            obtain ⟨g2, g3, g4⟩ := draw_ok (hDe.trans g1)
            have g5 := (g4 i (by omega)).1
            exact .inr ⟨rfl, by omega, by omega⟩
        clear hsm hF hA hsame
        rcases hLc with eL | ⟨eL, hLk⟩ <;> rcases hFc with eF | ⟨eF, hFk, hFl⟩ <;> rcases hAc with eA | ⟨eA, hAk, hAl⟩ <;> rw [eL, eF, eA]
        all_goals ((repeat' (first | (refine ar_isq ?_; first | refine zmv ?_ | refine zas ?_ | (refine is_load ?_; first | refine zlp ?_ | refine zlr ?_) | (refine is_binOp ?_; first | refine zlss ?_ | refine zleq ?_ | refine zgtr ?_ | refine zgeq ?_ | refine zeql ?_ | refine zneq ?_ | refine zadd ?_ | refine zsub ?_ | refine zmul ?_) | (refine is_fieldAddr ?_; first | refine zfp ?_ | refine zfr ?_) | (refine is_indexAddr ?_; first | refine zil ?_ | refine zis ?_ | refine zit ?_ | refine zia ?_ | refine zir ?_ | refine zil (j := i) ?_ | refine zis (j := i) ?_ | refine zit (j := i) ?_ | refine zil (j := k) ?_ | refine zis (j := k) ?_ | refine zit (j := k) ?_ | (refine zxl ?_; intro _ _ _) | (refine zxs ?_; intro _ _ _)) | (refine is_call ?_; first | refine zll ?_ | refine zls ?_ | refine zln ?_ | refine zle ?_ | refine zmax ?_) | (refine is_pick ?_; first | refine zpt ?_ | refine zpf ?_) | refine zex ?_ | refine znt ?_) | (refine zbx ?_) | (refine zg ?_ ?_ <;> intro hg <;> first | exact absurd hg (by decide) | ((try replace hg := HG.out hg); (try dsimp only at hg); (try (have _h : True := hg; clear _h hg)); first | (exfalso; omega) | skip)) | (refine zgu ?_) | (refine ar_nil ?_) | (refine aw_seq ?_) | (refine aw_skip ?_) | (refine aw_block ?_) | (refine aw_exit ?_) | (refine aw_region ?_) | (refine aw_drawn (id := 18) [(0, 0), (1, 0), (2, 0), (3, 0), (4, 0), (5, 0), (6, 0), (7, 0), (8, 0), (9, 0), (10, 0), (11, 0), (12, 0), (13, 0), (14, 0), (15, 0), (16, 0)] mixed (by kernel_rfl) ?_) | (refine aw_drawn (id := 20) [(0, 0), (1, 0), (2, 0), (3, 0), (4, 0), (5, 0), (6, 0), (7, 0), (8, 0), (9, 0), (10, 0), (11, 0), (12, 0), (13, 0), (14, 0), (15, 0), (16, 0), (17, 0), (18, 0), (19, 0), (20, 0), (21, 0), (22, 0), (23, 0), (24, 0), (25, 0), (26, 0), (27, 0), (28, 0), (29, 0), (30, 0), (31, 0), (32, 0), (33, 0), (34, 0), (35, 0), (36, 0), (37, 0), (38, 0), (39, 0)] mixed (by kernel_rfl) ?_) | (refine aw_drawn (id := 33) [(0, 0), (1, 0), (2, 0), (3, 0), (4, 0), (5, 0), (6, 0), (7, 0), (8, 0), (9, 0), (10, 0), (11, 0), (12, 0), (13, 0), (14, 0), (15, 0)] mixed (by kernel_rfl) ?_) | (refine aw_drawn (id := 37) [(0, 0), (1, 0), (2, 0), (3, 0), (4, 0), (5, 0), (6, 0), (7, 0), (8, 0), (9, 0), (10, 0), (11, 0), (12, 0), (13, 0), (14, 0), (15, 0), (16, 0), (17, 0), (18, 0)] mixed (by kernel_rfl) ?_) | (refine zco ?_ ?_ <;> intro hg <;> first | exact absurd hg (by decide) | ((try replace hg := HG.out hg); (try dsimp only at hg); (try (have _h : True := hg; clear _h hg)); first | (exfalso; omega) | skip)))))
        all_goals first
          | (exfalso; omega)
          | ((first | refine loop_next (by omega) ?_ ?_ | refine (show _ ∧ _ ∧ SubOf _ _ _ _ _ _ from And.intro (by omega) (And.intro ?_ ?_))); (focus ((trivial); done)); (focus ((refine sub_to [some 0, some 1] [] rfl ?_ ?_ <;> (repeat' (first | exact trivial | refine ⟨⟨_, rfl, ?_⟩, ?_⟩ | refine ⟨bsub_snoc rfl rfl (fun _ => rfl) ?_, ?_⟩ | refine ⟨bsub_one rfl rfl ?_, ?_⟩ | refine ⟨bsub_all rfl rfl (fun _ _ => rfl) (fun _ => rfl), ?_⟩ | refine ⟨bsub_updL rfl rfl ?_ (fun _ _ _ => rfl) (fun _ => rfl), ?_⟩ | refine ⟨.inl ⟨_, _, rfl, rfl, ?_⟩, ?_⟩ | exact ⟨.inr ⟨rfl, rfl⟩, trivial⟩ | refine ⟨.inr ⟨rfl, rfl⟩, ?_⟩ | (intro _ _) | exact .closed rfl | exact .sl rfl | exact .ptr rfl | exact .map rfl | exact .nil rfl | exact .emp rfl | exact .nilList | exact .empList | exact frzPtr' (by simp; done) rfl (by omega) rfl rfl | exact frzLB (by simp; done) rfl (fun _ => rfl) rfl | exact frz_all (by simp; done) rfl (fun _ _ => rfl) (fun _ => rfl) rfl | exact .frz (by simp; done) rfl (by omega) (fun _ _ => rfl) (fun _ _ => rfl) | exact slEq rfl (by first | (simp; done) | (simp; omega)) | exact siEq (by omega) | (first | exact VSub.of_eq (congrArg vb (flag_stay (by assumption)).symm) rfl | exact VSub.of_eq (congrArg vb (flag_dec (by assumption) fe)) rfl | exact VSub.of_eq (congrArg vb (flag_dec (by assumption) ae)) rfl) | exact .of_eq (by refine (show V.agg _ = V.agg _ from ?_); (try dsimp only); congr <;> first | rfl | omega) rfl | exact .closed (by simp [V.closed, V.closed.all, *]; done) | fail))); done)))
          | trace_state
      · obtain rfl : k = C := by omega
        (repeat' (first | (refine ar_isq ?_; first | refine zmv ?_ | refine zas ?_ | (refine is_load ?_; first | refine zlp ?_ | refine zlr ?_) | (refine is_binOp ?_; first | refine zlss ?_ | refine zleq ?_ | refine zgtr ?_ | refine zgeq ?_ | refine zeql ?_ | refine zneq ?_ | refine zadd ?_ | refine zsub ?_ | refine zmul ?_) | (refine is_fieldAddr ?_; first | refine zfp ?_ | refine zfr ?_) | (refine is_indexAddr ?_; first | refine zil ?_ | refine zis ?_ | refine zit ?_ | refine zia ?_ | refine zir ?_ | (refine zxl ?_; intro _ _ _) | (refine zxs ?_; intro _ _ _)) | (refine is_call ?_; first | refine zll ?_ | refine zls ?_ | refine zln ?_ | refine zle ?_ | refine zmax ?_) | (refine is_pick ?_; first | refine zpt ?_ | refine zpf ?_) | refine zex ?_ | refine znt ?_) | (refine zbx ?_) | (refine zg ?_ ?_ <;> intro hg <;> first | exact absurd hg (by decide) | ((try replace hg := HG.out hg); (try dsimp only at hg); (try (have _h : True := hg; clear _h hg)); first | (exfalso; omega) | skip)) | (refine zgu ?_) | (refine ar_nil ?_) | (refine aw_seq ?_) | (refine aw_skip ?_) | (refine aw_block ?_) | (refine aw_exit ?_) | (refine aw_region ?_) | (refine aw_drawn (id := 18) [(0, 0), (1, 0), (2, 0), (3, 0), (4, 0), (5, 0), (6, 0), (7, 0), (8, 0), (9, 0), (10, 0), (11, 0), (12, 0), (13, 0), (14, 0), (15, 0), (16, 0)] mixed (by kernel_rfl) ?_) | (refine aw_drawn (id := 20) [(0, 0), (1, 0), (2, 0), (3, 0), (4, 0), (5, 0), (6, 0), (7, 0), (8, 0), (9, 0), (10, 0), (11, 0), (12, 0), (13, 0), (14, 0), (15, 0), (16, 0), (17, 0), (18, 0), (19, 0), (20, 0), (21, 0), (22, 0), (23, 0), (24, 0), (25, 0), (26, 0), (27, 0), (28, 0), (29, 0), (30, 0), (31, 0), (32, 0), (33, 0), (34, 0), (35, 0), (36, 0), (37, 0), (38, 0), (39, 0)] mixed (by kernel_rfl) ?_) | (refine aw_drawn (id := 33) [(0, 0), (1, 0), (2, 0), (3, 0), (4, 0), (5, 0), (6, 0), (7, 0), (8, 0), (9, 0), (10, 0), (11, 0), (12, 0), (13, 0), (14, 0), (15, 0)] mixed (by kernel_rfl) ?_) | (refine aw_drawn (id := 37) [(0, 0), (1, 0), (2, 0), (3, 0), (4, 0), (5, 0), (6, 0), (7, 0), (8, 0), (9, 0), (10, 0), (11, 0), (12, 0), (13, 0), (14, 0), (15, 0), (16, 0), (17, 0), (18, 0)] mixed (by kernel_rfl) ?_) | (refine zco ?_ ?_ <;> intro hg <;> first | exact absurd hg (by decide) | ((try replace hg := HG.out hg); (try dsimp only at hg); (try (have _h : True := hg; clear _h hg)); first | (exfalso; omega) | skip))))
        all_goals first
          | (exfalso; omega)
          | ((first | refine loop_next (by omega) ?_ ?_ | refine (show _ ∧ _ ∧ SubOf _ _ _ _ _ _ from And.intro (by omega) (And.intro ?_ ?_))); (focus ((trivial); done)); (focus ((refine sub_to [some 0, some 1] [] rfl ?_ ?_ <;> (repeat' (first | exact trivial | refine ⟨⟨_, rfl, ?_⟩, ?_⟩ | refine ⟨bsub_snoc rfl rfl (fun _ => rfl) ?_, ?_⟩ | refine ⟨bsub_one rfl rfl ?_, ?_⟩ | refine ⟨bsub_all rfl rfl (fun _ _ => rfl) (fun _ => rfl), ?_⟩ | refine ⟨bsub_updL rfl rfl ?_ (fun _ _ _ => rfl) (fun _ => rfl), ?_⟩ | refine ⟨.inl ⟨_, _, rfl, rfl, ?_⟩, ?_⟩ | exact ⟨.inr ⟨rfl, rfl⟩, trivial⟩ | refine ⟨.inr ⟨rfl, rfl⟩, ?_⟩ | (intro _ _) | exact .closed rfl | exact .sl rfl | exact .ptr rfl | exact .map rfl | exact .nil rfl | exact .emp rfl | exact .nilList | exact .empList | exact frzPtr' (by simp; done) rfl (by omega) rfl rfl | exact frzLB (by simp; done) rfl (fun _ => rfl) rfl | exact frz_all (by simp; done) rfl (fun _ _ => rfl) (fun _ => rfl) rfl | exact .frz (by simp; done) rfl (by omega) (fun _ _ => rfl) (fun _ _ => rfl) | exact slEq rfl (by first | (simp; done) | (simp; omega)) | exact siEq (by omega) | (exact VSub.of_eq (congrArg vb flag_row) rfl) | exact .of_eq (by refine (show V.agg _ = V.agg _ from ?_); (try dsimp only); congr <;> first | rfl | omega) rfl | exact .closed (by simp [V.closed, V.closed.all, *]; done) | fail))); done)))
          | trace_state
    obtain rfl : i = B.length := by omega
    have hFa : flag C (checkErr s o = 0 ∧ o.length = B.length) pF B.length 0 = true → (checkErr s o = 0 ∧ o.length = B.length) ∧ ∀ i, i < B.length → ∀ k, k < C → el (el o i) k ≤ el (el B i) k := fun e => by
      obtain ⟨⟨g1, g2⟩, g3⟩ := flag_true.1 e
      refine ⟨⟨g1, g2⟩, fun i hi k hk => ?_⟩
      obtain ⟨_, g4⟩ := ho g1 i (by omega)
      have g5 := lean_greatest (a := s.lean) (w := el (el w i)) (v := fun j => el (el o i) j - (c.phase + (i : Int) * c.period)) (n := C) (by omega) (fun j hj => by have := g4 j hj; omega) (fun j hj => by
        have := g3.1 i hi j hj
        rw [hpF] at this
        omega) hk
      rw [(hBr i (by omega)).2 k hk]
      omega
    have hAa : flag C (ev = 0) pA B.length 0 = true → ev = 0 ∧ D.length = v.length ∧ v.length = B.length ∧ ∀ i, i < B.length → (el D i).length = C ∧ ∀ k, k < C → el (el B i) k ≤ el (el D i) k := fun e => by
      obtain ⟨g1, g3⟩ := flag_true.1 e
      obtain ⟨g2, g4⟩ := hD g1
      obtain ⟨_, g5, _⟩ := draw_ok (hDe.trans g1)
      refine ⟨g1, g2, by omega, fun i hi => ?_⟩
      obtain ⟨g6, g7⟩ := g4 i (by omega)
      refine ⟨g6, fun k hk => ?_⟩
      rw [(hBr i (by omega)).2 k hk, g7 k hk]
      have := lean_mono (a := s.lean) (w := el (el w i)) (v := el (el v i)) (n := C) (by omega) (fun j hj => by have := g3.1 i hi j hj; rw [hpA] at this; exact this) hk
      omega
    generalize flag C (checkErr s o = 0 ∧ o.length = B.length) pF B.length 0 = FF at *
    generalize flag C (ev = 0) pA B.length 0 = AA at *
    (repeat' (first | (refine ar_isq ?_; first | refine zmv ?_ | refine zas ?_ | (refine is_load ?_; first | refine zlp ?_ | refine zlr ?_) | (refine is_binOp ?_; first | refine zlss ?_ | refine zleq ?_ | refine zgtr ?_ | refine zgeq ?_ | refine zeql ?_ | refine zneq ?_ | refine zadd ?_ | refine zsub ?_ | refine zmul ?_) | (refine is_fieldAddr ?_; first | refine zfp ?_ | refine zfr ?_) | (refine is_indexAddr ?_; first | refine zil ?_ | refine zis ?_ | refine zit ?_ | refine zia ?_ | refine zir ?_ | (refine zxl ?_; intro _ _ _) | (refine zxs ?_; intro _ _ _)) | (refine is_call ?_; first | refine zll ?_ | refine zls ?_ | refine zln ?_ | refine zle ?_ | refine zmax ?_) | (refine is_pick ?_; first | refine zpt ?_ | refine zpf ?_) | refine zex ?_ | refine znt ?_) | (refine zbx ?_) | (refine zg ?_ ?_ <;> intro hg <;> first | exact absurd hg (by decide) | ((try replace hg := HG.out hg); (try dsimp only at hg); (try (have _h : True := hg; clear _h hg)); first | (exfalso; omega) | skip)) | (refine zgu ?_) | (refine ar_nil ?_) | (refine aw_seq ?_) | (refine aw_skip ?_) | (refine aw_block ?_) | (refine aw_exit ?_) | (refine aw_region ?_) | (refine aw_drawn (id := 18) [(0, 0), (1, 0), (2, 0), (3, 0), (4, 0), (5, 0), (6, 0), (7, 0), (8, 0), (9, 0), (10, 0), (11, 0), (12, 0), (13, 0), (14, 0), (15, 0), (16, 0)] mixed (by kernel_rfl) ?_) | (refine aw_drawn (id := 20) [(0, 0), (1, 0), (2, 0), (3, 0), (4, 0), (5, 0), (6, 0), (7, 0), (8, 0), (9, 0), (10, 0), (11, 0), (12, 0), (13, 0), (14, 0), (15, 0), (16, 0), (17, 0), (18, 0), (19, 0), (20, 0), (21, 0), (22, 0), (23, 0), (24, 0), (25, 0), (26, 0), (27, 0), (28, 0), (29, 0), (30, 0), (31, 0), (32, 0), (33, 0), (34, 0), (35, 0), (36, 0), (37, 0), (38, 0), (39, 0)] mixed (by kernel_rfl) ?_) | (refine aw_drawn (id := 33) [(0, 0), (1, 0), (2, 0), (3, 0), (4, 0), (5, 0), (6, 0), (7, 0), (8, 0), (9, 0), (10, 0), (11, 0), (12, 0), (13, 0), (14, 0), (15, 0)] mixed (by kernel_rfl) ?_) | (refine aw_drawn (id := 37) [(0, 0), (1, 0), (2, 0), (3, 0), (4, 0), (5, 0), (6, 0), (7, 0), (8, 0), (9, 0), (10, 0), (11, 0), (12, 0), (13, 0), (14, 0), (15, 0), (16, 0), (17, 0), (18, 0)] mixed (by kernel_rfl) ?_) | (refine zco ?_ ?_ <;> intro hg <;> first | exact absurd hg (by decide) | ((try replace hg := HG.out hg); (try dsimp only at hg); (try (have _h : True := hg; clear _h hg)); first | (exfalso; omega) | skip))))
    all_goals (try (exfalso; omega))
    refine aw_for B.length (fun _ => True) (fun i => [(4, encRows o), (5, .ptr 5 0 0 0), (6, .ptr 2 1 0 0), (11, vb true), (12, encRows B), (19, encRows D), (21, vb FF), (22, vb AA), (237, encRows B), (238, vi B.length), (239, vi i)]) (fun _ => [.arr 5 1 (fun _ => s.enc), .arr 2 1 (fun _ => c.enc)]) trivial ?_ ?_
    · (refine sub_to [some 0, some 1] [] rfl ?_ ?_ <;> (repeat' (first | exact trivial | refine ⟨⟨_, rfl, ?_⟩, ?_⟩ | refine ⟨bsub_snoc rfl rfl (fun _ => rfl) ?_, ?_⟩ | refine ⟨bsub_one rfl rfl ?_, ?_⟩ | refine ⟨bsub_all rfl rfl (fun _ _ => rfl) (fun _ => rfl), ?_⟩ | refine ⟨bsub_updL rfl rfl ?_ (fun _ _ _ => rfl) (fun _ => rfl), ?_⟩ | refine ⟨.inl ⟨_, _, rfl, rfl, ?_⟩, ?_⟩ | exact ⟨.inr ⟨rfl, rfl⟩, trivial⟩ | refine ⟨.inr ⟨rfl, rfl⟩, ?_⟩ | (intro _ _) | exact .closed rfl | exact .sl rfl | exact .ptr rfl | exact .map rfl | exact .nil rfl | exact .emp rfl | exact .nilList | exact .empList | exact frzPtr' (by simp; done) rfl (by omega) rfl rfl | exact frzLB (by simp; done) rfl (fun _ => rfl) rfl | exact frz_all (by simp; done) rfl (fun _ _ => rfl) (fun _ => rfl) rfl | exact .frz (by simp; done) rfl (by omega) (fun _ _ => rfl) (fun _ _ => rfl) | exact slEq rfl (by first | (simp; done) | (simp; omega)) | exact siEq (by omega) | exact .of_eq (by refine (show V.agg _ = V.agg _ from ?_); (try dsimp only); congr <;> first | rfl | omega) rfl | exact .closed (by simp [V.closed, V.closed.all, *]; done) | fail)))
    intro i hi _
    by_cases hlti : i < B.length
    · obtain ⟨hbi, hbe⟩ := hBr i (by omega)
      (repeat' (first | (refine ar_isq ?_; first | refine zmv ?_ | refine zas ?_ | (refine is_load ?_; first | refine zlp ?_ | refine zlr ?_) | (refine is_binOp ?_; first | refine zlss ?_ | refine zleq ?_ | refine zgtr ?_ | refine zgeq ?_ | refine zeql ?_ | refine zneq ?_ | refine zadd ?_ | refine zsub ?_ | refine zmul ?_) | (refine is_fieldAddr ?_; first | refine zfp ?_ | refine zfr ?_) | (refine is_indexAddr ?_; first | refine zil ?_ | refine zis ?_ | refine zit ?_ | refine zia ?_ | refine zir ?_ | (refine zxl ?_; intro _ _ _) | (refine zxs ?_; intro _ _ _)) | (refine is_call ?_; first | refine zll ?_ | refine zls ?_ | refine zln ?_ | refine zle ?_ | refine zmax ?_) | (refine is_pick ?_; first | refine zpt ?_ | refine zpf ?_) | refine zex ?_ | refine znt ?_) | (refine zbx ?_) | (refine zg ?_ ?_ <;> intro hg <;> first | exact absurd hg (by decide) | ((try replace hg := HG.out hg); (try dsimp only at hg); (try (have _h : True := hg; clear _h hg)); first | (exfalso; omega) | skip)) | (refine zgu ?_) | (refine ar_nil ?_) | (refine aw_seq ?_) | (refine aw_skip ?_) | (refine aw_block ?_) | (refine aw_exit ?_) | (refine aw_region ?_) | (refine aw_drawn (id := 18) [(0, 0), (1, 0), (2, 0), (3, 0), (4, 0), (5, 0), (6, 0), (7, 0), (8, 0), (9, 0), (10, 0), (11, 0), (12, 0), (13, 0), (14, 0), (15, 0), (16, 0)] mixed (by kernel_rfl) ?_) | (refine aw_drawn (id := 20) [(0, 0), (1, 0), (2, 0), (3, 0), (4, 0), (5, 0), (6, 0), (7, 0), (8, 0), (9, 0), (10, 0), (11, 0), (12, 0), (13, 0), (14, 0), (15, 0), (16, 0), (17, 0), (18, 0), (19, 0), (20, 0), (21, 0), (22, 0), (23, 0), (24, 0), (25, 0), (26, 0), (27, 0), (28, 0), (29, 0), (30, 0), (31, 0), (32, 0), (33, 0), (34, 0), (35, 0), (36, 0), (37, 0), (38, 0), (39, 0)] mixed (by kernel_rfl) ?_) | (refine aw_drawn (id := 33) [(0, 0), (1, 0), (2, 0), (3, 0), (4, 0), (5, 0), (6, 0), (7, 0), (8, 0), (9, 0), (10, 0), (11, 0), (12, 0), (13, 0), (14, 0), (15, 0)] mixed (by kernel_rfl) ?_) | (refine aw_drawn (id := 37) [(0, 0), (1, 0), (2, 0), (3, 0), (4, 0), (5, 0), (6, 0), (7, 0), (8, 0), (9, 0), (10, 0), (11, 0), (12, 0), (13, 0), (14, 0), (15, 0), (16, 0), (17, 0), (18, 0)] mixed (by kernel_rfl) ?_) | (refine zco ?_ ?_ <;> intro hg <;> first | exact absurd hg (by decide) | ((try replace hg := HG.out hg); (try dsimp only at hg); (try (have _h : True := hg; clear _h hg)); first | (exfalso; omega) | skip))))
      all_goals (try (exfalso; omega))
      refine aw_for C (fun _ => True) (fun k => [(4, encRows o), (5, .ptr 5 0 0 0), (6, .ptr 2 1 0 0), (11, vb true), (12, encRows B), (19, encRows D), (21, vb FF), (22, vb AA), (237, encRows B), (238, vi B.length), (239, vi i), (28, vi i), (29, encInts (el B i)), (244, encInts (el B i)), (245, vi (el B i).length), (246, vi k)]) (fun _ => [.arr 5 1 (fun _ => s.enc), .arr 2 1 (fun _ => c.enc)]) trivial ?_ ?_
      · (refine sub_to [some 0, some 1] [] rfl ?_ ?_ <;> (repeat' (first | exact trivial | refine ⟨⟨_, rfl, ?_⟩, ?_⟩ | refine ⟨bsub_snoc rfl rfl (fun _ => rfl) ?_, ?_⟩ | refine ⟨bsub_one rfl rfl ?_, ?_⟩ | refine ⟨bsub_all rfl rfl (fun _ _ => rfl) (fun _ => rfl), ?_⟩ | refine ⟨bsub_updL rfl rfl ?_ (fun _ _ _ => rfl) (fun _ => rfl), ?_⟩ | refine ⟨.inl ⟨_, _, rfl, rfl, ?_⟩, ?_⟩ | exact ⟨.inr ⟨rfl, rfl⟩, trivial⟩ | refine ⟨.inr ⟨rfl, rfl⟩, ?_⟩ | (intro _ _) | exact .closed rfl | exact .sl rfl | exact .ptr rfl | exact .map rfl | exact .nil rfl | exact .emp rfl | exact .nilList | exact .empList | exact frzPtr' (by simp; done) rfl (by omega) rfl rfl | exact frzLB (by simp; done) rfl (fun _ => rfl) rfl | exact frz_all (by simp; done) rfl (fun _ _ => rfl) (fun _ => rfl) rfl | exact .frz (by simp; done) rfl (by omega) (fun _ _ => rfl) (fun _ _ => rfl) | exact slEq rfl (by first | (simp; done) | (simp; omega)) | exact siEq (by omega) | exact .of_eq (by refine (show V.agg _ = V.agg _ from ?_); (try dsimp only); congr <;> first | rfl | omega) rfl | exact .closed (by simp [V.closed, V.closed.all, *]; done) | fail)))
      intro k hk _
      by_cases hltk : k < C
      · have hFc : FF = false ∨ (FF = true ∧ i < o.length ∧ k < (el o i).length ∧ el (el o i) k ≤ el (el B i) k) := by
          cases e : FF
          · exact .inl rfl
          · obtain ⟨⟨g1, g2⟩, g3⟩ := hFa e
            have := (ho g1 i (by omega)).1
            exact .inr ⟨rfl, by omega, by omega, g3 i hlti k hltk⟩
        have hAc : AA = false ∨ (AA = true ∧ i < D.length ∧ k < (el D i).length ∧ el (el B i) k ≤ el (el D i) k) := by
          cases e : AA
          · exact .inl rfl
          · obtain ⟨g1, g2, g3, g4⟩ := hAa e
            obtain ⟨g5, g6⟩ := g4 i hlti
            exact .inr ⟨rfl, by omega, by omega, g6 k hltk⟩
        rcases hFc with eF | ⟨eF, hF1, hF2, hF3⟩ <;> rcases hAc with eA | ⟨eA, hA1, hA2, hA3⟩ <;> rw [eF, eA]
        all_goals ((repeat' (first | (refine ar_isq ?_; first | refine zmv ?_ | refine zas ?_ | (refine is_load ?_; first | refine zlp ?_ | refine zlr ?_) | (refine is_binOp ?_; first | refine zlss ?_ | refine zleq ?_ | refine zgtr ?_ | refine zgeq ?_ | refine zeql ?_ | refine zneq ?_ | refine zadd ?_ | refine zsub ?_ | refine zmul ?_) | (refine is_fieldAddr ?_; first | refine zfp ?_ | refine zfr ?_) | (refine is_indexAddr ?_; first | refine zil ?_ | refine zis ?_ | refine zit ?_ | refine zia ?_ | refine zir ?_ | refine zil (j := i) ?_ | refine zis (j := i) ?_ | refine zit (j := i) ?_ | refine zil (j := k) ?_ | refine zis (j := k) ?_ | refine zit (j := k) ?_ | (refine zxl ?_; intro _ _ _) | (refine zxs ?_; intro _ _ _)) | (refine is_call ?_; first | refine zll ?_ | refine zls ?_ | refine zln ?_ | refine zle ?_ | refine zmax ?_) | (refine is_pick ?_; first | refine zpt ?_ | refine zpf ?_) | refine zex ?_ | refine znt ?_) | (refine zbx ?_) | (refine zg ?_ ?_ <;> intro hg <;> first | exact absurd hg (by decide) | ((try replace hg := HG.out hg); (try dsimp only at hg); (try (have _h : True := hg; clear _h hg)); first | (exfalso; omega) | skip)) | (refine zgu ?_) | (refine ar_nil ?_) | (refine aw_seq ?_) | (refine aw_skip ?_) | (refine aw_block ?_) | (refine aw_exit ?_) | (refine aw_region ?_) | (refine aw_drawn (id := 18) [(0, 0), (1, 0), (2, 0), (3, 0), (4, 0), (5, 0), (6, 0), (7, 0), (8, 0), (9, 0), (10, 0), (11, 0), (12, 0), (13, 0), (14, 0), (15, 0), (16, 0)] mixed (by kernel_rfl) ?_) | (refine aw_drawn (id := 20) [(0, 0), (1, 0), (2, 0), (3, 0), (4, 0), (5, 0), (6, 0), (7, 0), (8, 0), (9, 0), (10, 0), (11, 0), (12, 0), (13, 0), (14, 0), (15, 0), (16, 0), (17, 0), (18, 0), (19, 0), (20, 0), (21, 0), (22, 0), (23, 0), (24, 0), (25, 0), (26, 0), (27, 0), (28, 0), (29, 0), (30, 0), (31, 0), (32, 0), (33, 0), (34, 0), (35, 0), (36, 0), (37, 0), (38, 0), (39, 0)] mixed (by kernel_rfl) ?_) | (refine aw_drawn (id := 33) [(0, 0), (1, 0), (2, 0), (3, 0), (4, 0), (5, 0), (6, 0), (7, 0), (8, 0), (9, 0), (10, 0), (11, 0), (12, 0), (13, 0), (14, 0), (15, 0)] mixed (by kernel_rfl) ?_) | (refine aw_drawn (id := 37) [(0, 0), (1, 0), (2, 0), (3, 0), (4, 0), (5, 0), (6, 0), (7, 0), (8, 0), (9, 0), (10, 0), (11, 0), (12, 0), (13, 0), (14, 0), (15, 0), (16, 0), (17, 0), (18, 0)] mixed (by kernel_rfl) ?_) | (refine zco ?_ ?_ <;> intro hg <;> first | exact absurd hg (by decide) | ((try replace hg := HG.out hg); (try dsimp only at hg); (try (have _h : True := hg; clear _h hg)); first | (exfalso; omega) | skip)))))
        all_goals first
          | (exfalso; omega)
          | ((first | refine loop_next (by omega) ?_ ?_ | refine (show _ ∧ _ ∧ SubOf _ _ _ _ _ _ from And.intro (by omega) (And.intro ?_ ?_))); (focus ((trivial); done)); (focus ((refine sub_to [some 0, some 1] [] rfl ?_ ?_ <;> (repeat' (first | exact trivial | refine ⟨⟨_, rfl, ?_⟩, ?_⟩ | refine ⟨bsub_snoc rfl rfl (fun _ => rfl) ?_, ?_⟩ | refine ⟨bsub_one rfl rfl ?_, ?_⟩ | refine ⟨bsub_all rfl rfl (fun _ _ => rfl) (fun _ => rfl), ?_⟩ | refine ⟨bsub_updL rfl rfl ?_ (fun _ _ _ => rfl) (fun _ => rfl), ?_⟩ | refine ⟨.inl ⟨_, _, rfl, rfl, ?_⟩, ?_⟩ | exact ⟨.inr ⟨rfl, rfl⟩, trivial⟩ | refine ⟨.inr ⟨rfl, rfl⟩, ?_⟩ | (intro _ _) | exact .closed rfl | exact .sl rfl | exact .ptr rfl | exact .map rfl | exact .nil rfl | exact .emp rfl | exact .nilList | exact .empList | exact frzPtr' (by simp; done) rfl (by omega) rfl rfl | exact frzLB (by simp; done) rfl (fun _ => rfl) rfl | exact frz_all (by simp; done) rfl (fun _ _ => rfl) (fun _ => rfl) rfl | exact .frz (by simp; done) rfl (by omega) (fun _ _ => rfl) (fun _ _ => rfl) | exact slEq rfl (by first | (simp; done) | (simp; omega)) | exact siEq (by omega) | exact .of_eq (by refine (show V.agg _ = V.agg _ from ?_); (try dsimp only); congr <;> first | rfl | omega) rfl | exact .closed (by simp [V.closed, V.closed.all, *]; done) | fail))); done)))
          | trace_state
      · (repeat' (first | (refine ar_isq ?_; first | refine zmv ?_ | refine zas ?_ | (refine is_load ?_; first | refine zlp ?_ | refine zlr ?_) | (refine is_binOp ?_; first | refine zlss ?_ | refine zleq ?_ | refine zgtr ?_ | refine zgeq ?_ | refine zeql ?_ | refine zneq ?_ | refine zadd ?_ | refine zsub ?_ | refine zmul ?_) | (refine is_fieldAddr ?_; first | refine zfp ?_ | refine zfr ?_) | (refine is_indexAddr ?_; first | refine zil ?_ | refine zis ?_ | refine zit ?_ | refine zia ?_ | refine zir ?_ | (refine zxl ?_; intro _ _ _) | (refine zxs ?_; intro _ _ _)) | (refine is_call ?_; first | refine zll ?_ | refine zls ?_ | refine zln ?_ | refine zle ?_ | refine zmax ?_) | (refine is_pick ?_; first | refine zpt ?_ | refine zpf ?_) | refine zex ?_ | refine znt ?_) | (refine zbx ?_) | (refine zg ?_ ?_ <;> intro hg <;> first | exact absurd hg (by decide) | ((try replace hg := HG.out hg); (try dsimp only at hg); (try (have _h : True := hg; clear _h hg)); first | (exfalso; omega) | skip)) | (refine zgu ?_) | (refine ar_nil ?_) | (refine aw_seq ?_) | (refine aw_skip ?_) | (refine aw_block ?_) | (refine aw_exit ?_) | (refine aw_region ?_) | (refine aw_drawn (id := 18) [(0, 0), (1, 0), (2, 0), (3, 0), (4, 0), (5, 0), (6, 0), (7, 0), (8, 0), (9, 0), (10, 0), (11, 0), (12, 0), (13, 0), (14, 0), (15, 0), (16, 0)] mixed (by kernel_rfl) ?_) | (refine aw_drawn (id := 20) [(0, 0), (1, 0), (2, 0), (3, 0), (4, 0), (5, 0), (6, 0), (7, 0), (8, 0), (9, 0), (10, 0), (11, 0), (12, 0), (13, 0), (14, 0), (15, 0), (16, 0), (17, 0), (18, 0), (19, 0), (20, 0), (21, 0), (22, 0), (23, 0), (24, 0), (25, 0), (26, 0), (27, 0), (28, 0), (29, 0), (30, 0), (31, 0), (32, 0), (33, 0), (34, 0), (35, 0), (36, 0), (37, 0), (38, 0), (39, 0)] mixed (by kernel_rfl) ?_) | (refine aw_drawn (id := 33) [(0, 0), (1, 0), (2, 0), (3, 0), (4, 0), (5, 0), (6, 0), (7, 0), (8, 0), (9, 0), (10, 0), (11, 0), (12, 0), (13, 0), (14, 0), (15, 0)] mixed (by kernel_rfl) ?_) | (refine aw_drawn (id := 37) [(0, 0), (1, 0), (2, 0), (3, 0), (4, 0), (5, 0), (6, 0), (7, 0), (8, 0), (9, 0), (10, 0), (11, 0), (12, 0), (13, 0), (14, 0), (15, 0), (16, 0), (17, 0), (18, 0)] mixed (by kernel_rfl) ?_) | (refine zco ?_ ?_ <;> intro hg <;> first | exact absurd hg (by decide) | ((try replace hg := HG.out hg); (try dsimp only at hg); (try (have _h : True := hg; clear _h hg)); first | (exfalso; omega) | skip))))
        all_goals first
          | (exfalso; omega)
          | ((first | refine loop_next (by omega) ?_ ?_ | refine (show _ ∧ _ ∧ SubOf _ _ _ _ _ _ from And.intro (by omega) (And.intro ?_ ?_))); (focus ((trivial); done)); (focus ((refine sub_to [some 0, some 1] [] rfl ?_ ?_ <;> (repeat' (first | exact trivial | refine ⟨⟨_, rfl, ?_⟩, ?_⟩ | refine ⟨bsub_snoc rfl rfl (fun _ => rfl) ?_, ?_⟩ | refine ⟨bsub_one rfl rfl ?_, ?_⟩ | refine ⟨bsub_all rfl rfl (fun _ _ => rfl) (fun _ => rfl), ?_⟩ | refine ⟨bsub_updL rfl rfl ?_ (fun _ _ _ => rfl) (fun _ => rfl), ?_⟩ | refine ⟨.inl ⟨_, _, rfl, rfl, ?_⟩, ?_⟩ | exact ⟨.inr ⟨rfl, rfl⟩, trivial⟩ | refine ⟨.inr ⟨rfl, rfl⟩, ?_⟩ | (intro _ _) | exact .closed rfl | exact .sl rfl | exact .ptr rfl | exact .map rfl | exact .nil rfl | exact .emp rfl | exact .nilList | exact .empList | exact frzPtr' (by simp; done) rfl (by omega) rfl rfl | exact frzLB (by simp; done) rfl (fun _ => rfl) rfl | exact frz_all (by simp; done) rfl (fun _ _ => rfl) (fun _ => rfl) rfl | exact .frz (by simp; done) rfl (by omega) (fun _ _ => rfl) (fun _ _ => rfl) | exact slEq rfl (by first | (simp; done) | (simp; omega)) | exact siEq (by omega) | exact .of_eq (by refine (show V.agg _ = V.agg _ from ?_); (try dsimp only); congr <;> first | rfl | omega) rfl | exact .closed (by simp [V.closed, V.closed.all, *]; done) | fail))); done)))
          | trace_state
    · (repeat' (first | (refine ar_isq ?_; first | refine zmv ?_ | refine zas ?_ | (refine is_load ?_; first | refine zlp ?_ | refine zlr ?_) | (refine is_binOp ?_; first | refine zlss ?_ | refine zleq ?_ | refine zgtr ?_ | refine zgeq ?_ | refine zeql ?_ | refine zneq ?_ | refine zadd ?_ | refine zsub ?_ | refine zmul ?_) | (refine is_fieldAddr ?_; first | refine zfp ?_ | refine zfr ?_) | (refine is_indexAddr ?_; first | refine zil ?_ | refine zis ?_ | refine zit ?_ | refine zia ?_ | refine zir ?_ | (refine zxl ?_; intro _ _ _) | (refine zxs ?_; intro _ _ _)) | (refine is_call ?_; first | refine zll ?_ | refine zls ?_ | refine zln ?_ | refine zle ?_ | refine zmax ?_) | (refine is_pick ?_; first | refine zpt ?_ | refine zpf ?_) | refine zex ?_ | refine znt ?_) | (refine zbx ?_) | (refine zg ?_ ?_ <;> intro hg <;> first | exact absurd hg (by decide) | ((try replace hg := HG.out hg); (try dsimp only at hg); (try (have _h : True := hg; clear _h hg)); first | (exfalso; omega) | skip)) | (refine zgu ?_) | (refine ar_nil ?_) | (refine aw_seq ?_) | (refine aw_skip ?_) | (refine aw_block ?_) | (refine aw_exit ?_) | (refine aw_region ?_) | (refine aw_drawn (id := 18) [(0, 0), (1, 0), (2, 0), (3, 0), (4, 0), (5, 0), (6, 0), (7, 0), (8, 0), (9, 0), (10, 0), (11, 0), (12, 0), (13, 0), (14, 0), (15, 0), (16, 0)] mixed (by kernel_rfl) ?_) | (refine aw_drawn (id := 20) [(0, 0), (1, 0), (2, 0), (3, 0), (4, 0), (5, 0), (6, 0), (7, 0), (8, 0), (9, 0), (10, 0), (11, 0), (12, 0), (13, 0), (14, 0), (15, 0), (16, 0), (17, 0), (18, 0), (19, 0), (20, 0), (21, 0), (22, 0), (23, 0), (24, 0), (25, 0), (26, 0), (27, 0), (28, 0), (29, 0), (30, 0), (31, 0), (32, 0), (33, 0), (34, 0), (35, 0), (36, 0), (37, 0), (38, 0), (39, 0)] mixed (by kernel_rfl) ?_) | (refine aw_drawn (id := 33) [(0, 0), (1, 0), (2, 0), (3, 0), (4, 0), (5, 0), (6, 0), (7, 0), (8, 0), (9, 0), (10, 0), (11, 0), (12, 0), (13, 0), (14, 0), (15, 0)] mixed (by kernel_rfl) ?_) | (refine aw_drawn (id := 37) [(0, 0), (1, 0), (2, 0), (3, 0), (4, 0), (5, 0), (6, 0), (7, 0), (8, 0), (9, 0), (10, 0), (11, 0), (12, 0), (13, 0), (14, 0), (15, 0), (16, 0), (17, 0), (18, 0)] mixed (by kernel_rfl) ?_) | (refine zco ?_ ?_ <;> intro hg <;> first | exact absurd hg (by decide) | ((try replace hg := HG.out hg); (try dsimp only at hg); (try (have _h : True := hg; clear _h hg)); first | (exfalso; omega) | skip))))
      all_goals first
        | (exfalso; omega)
        | ((refine aw_ret ?_; (repeat (first | refine ret_then ?_ | refine ret_block ?_)); refine bq1 rfl ⟨?_, rfl⟩); rfl)
        | trace_state
end Go.Proofs.Ytccidiflnmchiaa
