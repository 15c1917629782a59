/- Parts of the proof: a layer of values over the model, and contracts of functions. No condition. -/
import Derived.Test.YtccidiflnmchiaaKOd7
namespace Go.Proofs.Ytccidiflnmchiaa
open Go.RowKit
def exSheet : Sheet := ⟨6, 20, 2, 1, 2⟩
def exScreen : Screen := ⟨8, 1⟩
def exHidden : List (List Bool) := [[false, false, true, true, true, false], [false, false, false, false, false, false]]
theorem sheet_p : PCalls Try.prog 51 [] (· = exSheet.enc) := by
  refine pcalls_of_aw Try.func51 rfl (Nat.le_of_ble_eq_true rfl) ?_
  (repeat' (first | (refine ar_isq ?_; first | (refine ar_buildS (ds := ?ds) (by exact ty rfl) (by exact rfl) (by exact sizes rfl) (by exact rfl) (by exact rfl) (by exact build rfl) (by exact dc rfl) ?hn ?h; (case hn => (dsimp only [cells_s, cells_emp, cells_agg, cells_list, cells_sl, cells_ptr, cells_ref, cells_fn, cells_vi, cells_vb, cells_vnil, constV, List.map_cons, List.map_nil, List.take_succ_cons, List.take_zero, List.drop_succ_cons, List.drop_zero, List.cons_append, List.nil_append, List.append_nil, LV_cells]; exact rfl)))) | (refine zal ?_) | (refine zsvs ?_) | (refine zsva ?_) | (refine zses ?_) | (refine zsea ?_) | (refine ar_nil ?_) | (refine aw_seq ?_) | (refine aw_skip ?_) | (refine aw_block ?_) | (refine aw_exit ?_) | (refine aw_region ?_) | (refine zco ?_ ?_ <;> intro hg <;> first | exact absurd hg (by decide) | ((try replace hg := HG.out hg); (try dsimp only at hg); (try (have _h : True := hg; clear _h hg)); first | (exfalso; omega) | skip))))
  refine aw_ret ?_
  (repeat (first | refine ret_then ?_ | refine ret_block ?_))
  exact bq1c (ty rfl) rfl rfl Nat.one_pos rfl ⟨rfl, rfl⟩
theorem screen_p : PCalls Try.prog 53 [] (· = exScreen.enc) := by
  refine pcalls_of_aw Try.func53 rfl (Nat.le_of_ble_eq_true rfl) ?_
  (repeat' (first | (refine ar_isq ?_; first | (refine ar_buildS (ds := ?ds) (by exact ty rfl) (by exact rfl) (by exact sizes rfl) (by exact rfl) (by exact rfl) (by exact build rfl) (by exact dc rfl) ?hn ?h; (case hn => (dsimp only [cells_s, cells_emp, cells_agg, cells_list, cells_sl, cells_ptr, cells_ref, cells_fn, cells_vi, cells_vb, cells_vnil, constV, List.map_cons, List.map_nil, List.take_succ_cons, List.take_zero, List.drop_succ_cons, List.drop_zero, List.cons_append, List.nil_append, List.append_nil, LV_cells]; exact rfl)))) | (refine zal ?_) | (refine zsvs ?_) | (refine zsva ?_) | (refine zses ?_) | (refine zsea ?_) | (refine ar_nil ?_) | (refine aw_seq ?_) | (refine aw_skip ?_) | (refine aw_block ?_) | (refine aw_exit ?_) | (refine aw_region ?_) | (refine zco ?_ ?_ <;> intro hg <;> first | exact absurd hg (by decide) | ((try replace hg := HG.out hg); (try dsimp only at hg); (try (have _h : True := hg; clear _h hg)); first | (exfalso; omega) | skip))))
  refine aw_ret ?_
  (repeat (first | refine ret_then ?_ | refine ret_block ?_))
  exact bq1c (ty rfl) rfl rfl Nat.one_pos rfl ⟨rfl, rfl⟩
set_option maxHeartbeats 1000000 in
theorem hidden_p : PCalls Try.prog 54 [] (· = encMask exHidden) := by
  refine pcalls_of_aw Try.func54 rfl (Nat.le_of_ble_eq_true rfl) ?_
  (repeat' (first | (refine ar_isq ?_; first | refine zas ?_) | (refine ar_buildLE vb ([false, false, true, true, true, false]) (by exact ty rfl) (by exact rfl) (by exact ty rfl) (by exact rfl) (by exact rfl) (by exact Nat.succ_pos _) (by exact rfl) (by exact dc rfl) (by exact rfl) (by exact fun _ => ⟨rfl, rfl⟩) (by exact dc rfl) ?_) | (refine ar_make_v (n := 6) (ty rfl) rfl (ty rfl) rfl rfl (by omega) (by omega) (dc rfl) rfl rfl (by dsimp only; omega) (maxLen_ok (by omega)) ?_) | (((refine ar_subk_l (sub_frzL (t := 1) vb ([false, false, true, true, true, false]) rfl rfl rfl rfl (fun _ _ => rfl) (fun _ => rfl)) ?_); (refine ar_subk_l (sub_frzL (t := 2) vb (List.replicate (6) (false)) rfl rfl (by simp) rfl (fun _ hk => congrArg vb (el_replicate hk)) (fun _ => rfl)) ?_); refine ar_buildLE encBools (exHidden) (by exact ty rfl) (by exact rfl) (by exact ty rfl) (by exact rfl) (by exact rfl) (by exact Nat.succ_pos _) (by exact rfl) (by exact dc rfl) (by exact rfl) (by exact fun _ => ⟨rfl, rfl⟩) (by exact dc rfl) ?_)) | (refine zb1 ?_) | (refine zb0 ?_) | (refine ar_nil ?_) | (refine aw_seq ?_) | (refine aw_skip ?_) | (refine aw_block ?_) | (refine aw_exit ?_) | (refine aw_region ?_) | (refine zco ?_ ?_ <;> intro hg <;> first | exact absurd hg (by decide) | ((try replace hg := HG.out hg); (try dsimp only at hg); (try (have _h : True := hg; clear _h hg)); first | (exfalso; omega) | skip))))
  (refine aw_mono_r (env' := [(0, encMask exHidden)]) (H' := []) ?_ ?_; (focus ((refine sub_to [] [2] rfl ?_ ?_ <;> (repeat' (first | exact trivial | refine ⟨⟨_, rfl, ?_⟩, ?_⟩ | refine ⟨bsub_snoc rfl rfl (fun _ => rfl) ?_, ?_⟩ | refine ⟨bsub_one rfl rfl ?_, ?_⟩ | refine ⟨bsub_all rfl rfl (fun _ _ => rfl) (fun _ => rfl), ?_⟩ | refine ⟨bsub_updL rfl rfl ?_ (fun _ _ _ => rfl) (fun _ => rfl), ?_⟩ | refine ⟨.inl ⟨_, _, rfl, rfl, ?_⟩, ?_⟩ | exact ⟨.inr ⟨rfl, rfl⟩, trivial⟩ | refine ⟨.inr ⟨rfl, rfl⟩, ?_⟩ | (intro _ _) | exact .closed rfl | exact .sl rfl | exact .ptr rfl | exact .map rfl | exact .nil rfl | exact .emp rfl | exact .nilList | exact .empList | exact frzPtr' (by simp; done) rfl (by omega) rfl rfl | exact frzLB (by simp; done) rfl (fun _ => rfl) rfl | exact frz_all (by simp; done) rfl (fun _ _ => rfl) (fun _ => rfl) rfl | exact .frz (by simp; done) rfl (by omega) (fun _ _ => rfl) (fun _ _ => rfl) | exact slEq rfl (by first | (simp; done) | (simp; omega)) | exact siEq (by omega) | exact .of_eq (by refine (show V.agg _ = V.agg _ from ?_); (try dsimp only); congr <;> first | rfl | omega) rfl | exact .closed (by simp [V.closed, V.closed.all, *]; done) | fail))); done)))
  (refine aw_ret ?_; (repeat (first | refine ret_then ?_ | refine ret_block ?_)); refine bq1 rfl ⟨?_, rfl⟩)
  rfl
def stF (row : Int) (k j : Nat) : V := if j < k then vi row else vi 0
theorem stF_closed (row : Int) (k j : Nat) : (stF row k j).closed = true := by unfold stF; split <;> rfl
theorem stF_one (row : Int) (k j : Nat) : (stF row k j).cells.length = 1 := by unfold stF; split <;> rfl
theorem stF_na (row : Int) (k j : Nat) (cs : List V) : stF row k j ≠ .agg cs := by unfold stF; split <;> intro h <;> cases h
theorem stF_lt {row : Int} {k j : Nat} (h : j < k) : stF row k j = vi row := by simp [stF, h]
theorem stF_ne {row : Int} {k j : Nat} (h : j ≠ k) : stF row (k + 1) j = stF row k j := by
  unfold stF
  by_cases h1 : j < k
  · rw [if_pos h1, if_pos (by omega)]
  · rw [if_neg h1, if_neg (by omega)]
set_option maxHeartbeats 1000000 in
theorem straight_p (row : Int) (n : Nat) (hn : n ≤ 1000) : PCalls Try.prog 52 [vi row, vi n] (· = encInts (List.replicate n row)) := by
  refine pcalls_of_aw Try.func52 rfl (Nat.le_of_ble_eq_true rfl) ?_
  (repeat' (first | (refine ar_isq ?_; first | refine zmv ?_ | refine zas ?_ | (refine is_binOp ?_; first | refine zlss ?_ | refine zadd ?_) | (refine is_indexAddr ?_; first | refine zil ?_ | refine zis ?_ | refine zit ?_ | refine zia ?_ | refine zir ?_ | (refine zxl ?_; intro _ _ _) | (refine zxs ?_; intro _ _ _)) | (refine is_call ?_; first | refine zll ?_ | refine zls ?_ | refine zln ?_ | refine zle ?_)) | (refine ar_make_v (n := n) (ty rfl) rfl (ty rfl) rfl rfl (by omega) (by omega) (dc rfl) rfl rfl (by dsimp only; omega) (maxLen_ok (by omega)) ?_) | (refine zsvs ?_) | (refine zsva ?_) | (refine zses ?_) | (refine zsea ?_) | (refine ar_nil ?_) | (refine aw_seq ?_) | (refine aw_skip ?_) | (refine aw_block ?_) | (refine aw_exit ?_) | (refine aw_region ?_) | (refine zco ?_ ?_ <;> intro hg <;> first | exact absurd hg (by decide) | ((try replace hg := HG.out hg); (try dsimp only at hg); (try (have _h : True := hg; clear _h hg)); first | (exfalso; omega) | skip))))
  refine aw_for n (fun _ => True) (fun k => [(0, vi row), (5, .sl 1 0 0 n), (10, vi n), (11, vi k)]) (fun k => [.arr 1 n (stF row k)]) trivial ?_ ?_
  · (refine sub_to [some 0] [] rfl ?_ ?_ <;> (repeat' (first | exact trivial | refine ⟨⟨_, rfl, ?_⟩, ?_⟩ | refine ⟨bsub_snoc rfl rfl (fun _ => rfl) ?_, ?_⟩ | refine ⟨bsub_one rfl rfl ?_, ?_⟩ | refine ⟨bsub_all rfl rfl (fun _ _ => rfl) (fun _ => rfl), ?_⟩ | refine ⟨bsub_updL rfl rfl ?_ (fun _ _ _ => rfl) (fun _ => rfl), ?_⟩ | refine ⟨.inl ⟨_, _, rfl, rfl, ?_⟩, ?_⟩ | exact ⟨.inr ⟨rfl, rfl⟩, trivial⟩ | refine ⟨.inr ⟨rfl, rfl⟩, ?_⟩ | (intro _ _) | exact .closed rfl | exact .sl rfl | exact .ptr rfl | exact .map rfl | exact .nil rfl | exact .emp rfl | exact .nilList | exact .empList | exact frzPtr' (by simp; done) rfl (by omega) rfl rfl | exact frzLB (by simp; done) rfl (fun _ => rfl) rfl | exact frz_all (by simp; done) rfl (fun _ _ => rfl) (fun _ => rfl) rfl | exact .frz (by simp; done) rfl (by omega) (fun _ _ => rfl) (fun _ _ => rfl) | exact slEq rfl (by first | (simp; done) | (simp; omega)) | exact siEq (by omega) | exact .of_eq (by refine (show V.agg _ = V.agg _ from ?_); (try dsimp only); congr <;> first | rfl | omega) rfl | exact .closed (by simp [V.closed, V.closed.all, *]; done) | fail)))
  intro k hk _
  by_cases hlt : k < n
  · (repeat' (first | (refine ar_isq ?_; first | refine zmv ?_ | refine zas ?_ | (refine is_binOp ?_; first | refine zlss ?_ | refine zadd ?_) | (refine is_indexAddr ?_; first | refine zil ?_ | refine zis ?_ | refine zit ?_ | refine zia ?_ | refine zir ?_ | (refine zxl ?_; intro _ _ _) | (refine zxs ?_; intro _ _ _)) | (refine is_call ?_; first | refine zll ?_ | refine zls ?_ | refine zln ?_ | refine zle ?_)) | (refine ar_store_as (stF row (k + 1)) (ty rfl) rfl rfl rfl rfl rfl rfl (by assumption) (by dsimp only; omega) (fun _ h => by cases h) rfl (stF_one _ _ _) (stF_na _ _ _) (stF_lt (Nat.lt_succ_self _)) (fun i _ h => stF_ne h) ?_) | (refine zsvs ?_) | (refine zsva ?_) | (refine zses ?_) | (refine zsea ?_) | (refine ar_nil ?_) | (refine aw_seq ?_) | (refine aw_skip ?_) | (refine aw_block ?_) | (refine aw_exit ?_) | (refine aw_region ?_) | (refine zco ?_ ?_ <;> intro hg <;> first | exact absurd hg (by decide) | ((try replace hg := HG.out hg); (try dsimp only at hg); (try (have _h : True := hg; clear _h hg)); first | (exfalso; omega) | skip))))
    all_goals first
      | (exfalso; omega)
      | ((first | refine loop_next (by omega) ?_ ?_ | refine (show _ ∧ _ ∧ SubOf _ _ _ _ _ _ from And.intro (by omega) (And.intro ?_ ?_))); (focus ((trivial); done)); (focus ((refine sub_to [some 0] [] rfl ?_ ?_ <;> (repeat' (first | exact trivial | refine ⟨⟨_, rfl, ?_⟩, ?_⟩ | refine ⟨bsub_snoc rfl rfl (fun _ => rfl) ?_, ?_⟩ | refine ⟨bsub_one rfl rfl ?_, ?_⟩ | refine ⟨bsub_all rfl rfl (fun _ _ => rfl) (fun _ => rfl), ?_⟩ | refine ⟨bsub_updL rfl rfl ?_ (fun _ _ _ => rfl) (fun _ => rfl), ?_⟩ | refine ⟨.inl ⟨_, _, rfl, rfl, ?_⟩, ?_⟩ | exact ⟨.inr ⟨rfl, rfl⟩, trivial⟩ | refine ⟨.inr ⟨rfl, rfl⟩, ?_⟩ | (intro _ _) | exact .closed rfl | exact .sl rfl | exact .ptr rfl | exact .map rfl | exact .nil rfl | exact .emp rfl | exact .nilList | exact .empList | exact frzPtr' (by simp; done) rfl (by omega) rfl rfl | exact frzLB (by simp; done) rfl (fun _ => rfl) rfl | exact frz_all (by simp; done) rfl (fun _ _ => rfl) (fun _ => rfl) rfl | exact .frz (by simp; done) rfl (by omega) (fun _ _ => rfl) (fun _ _ => rfl) | exact slEq rfl (by first | (simp; done) | (simp; omega)) | exact siEq (by omega) | (exact VSub.closed (stF_closed _ _ _)) | exact .of_eq (by refine (show V.agg _ = V.agg _ from ?_); (try dsimp only); congr <;> first | rfl | omega) rfl | exact .closed (by simp [V.closed, V.closed.all, *]; done) | fail))); done)))
      | trace_state
  · obtain rfl : k = n := by omega
    (repeat' (first | (refine ar_isq ?_; first | refine zmv ?_ | refine zas ?_ | (refine is_binOp ?_; first | refine zlss ?_ | refine zadd ?_) | (refine is_indexAddr ?_; first | refine zil ?_ | refine zis ?_ | refine zit ?_ | refine zia ?_ | refine zir ?_ | (refine zxl ?_; intro _ _ _) | (refine zxs ?_; intro _ _ _)) | (refine is_call ?_; first | refine zll ?_ | refine zls ?_ | refine zln ?_ | refine zle ?_)) | (refine zsvs ?_) | (refine zsva ?_) | (refine zses ?_) | (refine zsea ?_) | (refine ar_nil ?_) | (refine aw_seq ?_) | (refine aw_skip ?_) | (refine aw_block ?_) | (refine aw_exit ?_) | (refine aw_region ?_) | (refine zco ?_ ?_ <;> intro hg <;> first | exact absurd hg (by decide) | ((try replace hg := HG.out hg); (try dsimp only at hg); (try (have _h : True := hg; clear _h hg)); first | (exfalso; omega) | skip))))
    all_goals first
      | (exfalso; omega)
      | ((refine aw_mono_r (env' := [(4, encInts (List.replicate k row))]) (H' := []) ?_ ?_; (focus ((refine sub_to [] [0] rfl ?_ ?_ <;> (repeat' (first | exact trivial | refine ⟨⟨_, rfl, ?_⟩, ?_⟩ | refine ⟨bsub_snoc rfl rfl (fun _ => rfl) ?_, ?_⟩ | refine ⟨bsub_one rfl rfl ?_, ?_⟩ | refine ⟨bsub_all rfl rfl (fun _ _ => rfl) (fun _ => rfl), ?_⟩ | refine ⟨bsub_updL rfl rfl ?_ (fun _ _ _ => rfl) (fun _ => rfl), ?_⟩ | refine ⟨.inl ⟨_, _, rfl, rfl, ?_⟩, ?_⟩ | exact ⟨.inr ⟨rfl, rfl⟩, trivial⟩ | refine ⟨.inr ⟨rfl, rfl⟩, ?_⟩ | (intro _ _) | exact .closed rfl | exact .sl rfl | exact .ptr rfl | exact .map rfl | exact .nil rfl | exact .emp rfl | exact .nilList | exact .empList | exact frzPtr' (by simp; done) rfl (by omega) rfl rfl | exact frzLB (by simp; done) rfl (fun _ => rfl) rfl | exact frz_all (by simp; done) rfl (fun _ _ => rfl) (fun _ => rfl) rfl | exact .frz (by simp; done) rfl (by omega) (fun _ _ => rfl) (fun _ _ => rfl) | exact slEq rfl (by first | (simp; done) | (simp; omega)) | exact siEq (by omega) | (exact frz_as (by simp) rfl rfl (by simp) (fun j hj => by rw [stF_lt hj, el_replicate hj]) (fun _ => rfl)) | exact .of_eq (by refine (show V.agg _ = V.agg _ from ?_); (try dsimp only); congr <;> first | rfl | omega) rfl | exact .closed (by simp [V.closed, V.closed.all, *]; done) | fail))); done))); (refine aw_ret ?_; (repeat (first | refine ret_then ?_ | refine ret_block ?_)); refine bq1 rfl ⟨?_, rfl⟩); rfl)
      | trace_state
theorem exRoom_p : PCalls Try.prog 43 [exSheet.enc, exScreen.enc] (· = .tup [vi 2, vi 5, vi 0]) := (lRoom_p exSheet exScreen).mono fun v h => h.trans (by kernel_rfl)
def exBand : List (List Int) := [[1, 1, 3, 5, 3, 1], [9, 9, 9, 9, 9, 9]]
theorem exHide_p : PCalls Try.prog 47 [exSheet.enc, exScreen.enc, encMask exHidden] (· = .tup [encRows exBand, vi 0]) := (lHide_p exSheet exScreen exHidden).mono fun v h => by
  rw [h, show hideF exSheet exScreen exHidden = exBand by decide +kernel, show hideErr exSheet exScreen exHidden = 0 by decide +kernel]
def exSeen : List (List Bool) := [[false, false, false, true, false, false], [false, false, false, false, false, false]]
theorem exSeen_p : PCalls Try.prog 41 [exSheet.enc, encRows exBand, exScreen.enc, vi 4] (· = .tup [encMask exSeen, vi 0]) := (lSeen_p exSheet exBand exScreen 4).mono fun v h => by
  rw [h, show seenF exSheet exBand exScreen 4 = exSeen by decide +kernel, show seenErr exSheet exBand exScreen 4 = 0 by decide +kernel]
theorem exMost_p : PCalls Try.prog 19 [exSheet.enc, encInts (List.replicate 6 0), encInts (List.replicate 6 12)] (· = .tup [vi 5, vi 0]) := (lMost_p exSheet _ _).mono fun v h => by
  rw [h, show mostVal exSheet (List.replicate 6 0) (List.replicate 6 12) = 5 by decide +kernel, show mostErr exSheet (List.replicate 6 0) (List.replicate 6 12) = 0 by decide +kernel]
def exMask : List (List Bool) := [[true, true, true, false], [true, false, true, false], [true, false, true, false], [true, false, true, false], [true, true, true, false]]
theorem exMask_p : PCalls Try.prog 35 [encInts [31599], vi 1, vi 4, vi 5] (· = .tup [encMask exMask, vi 0]) := (lMask_p [31599] 1 4 5).mono fun v h => by
  rw [h, show maskF [31599] 1 4 5 = exMask by decide +kernel, show maskErr [31599] 1 4 5 = 0 by decide +kernel]
theorem exSpell_p : PCalls Try.prog 37 [encMask exMask, vi 1, vi 1] (· = .tup [encInts [31599], vi 0]) := (lSpell_p exMask 1 1).mono fun v h => by
  rw [h, show spellF exMask 1 1 = [31599] by decide +kernel, show spellErr exMask 1 1 = 0 by decide +kernel]
set_option maxHeartbeats 4000000 in
theorem alive_p : PCalls Try.prog 49 [] (· = vb true) := by
  refine pcalls_of_aw Try.func49 rfl (Nat.le_of_ble_eq_true rfl) ?_
  (repeat' (first | (refine ar_isq ?_; first | refine zmv ?_ | refine zas ?_ | refine zeql ?_ | (refine is_call ?_; first | refine zll ?_ | refine zls ?_ | refine zln ?_ | refine zle ?_) | (refine is_pick ?_; first | refine zpt ?_ | refine zpf ?_) | refine zex ?_) | (refine ar_pcall (own := false) fn51 rfl rfl .nil (sheet_p) (by simp) (dc rfl) ?_; intro _ hv; subst hv) | (refine ar_pcall (own := false) fn53 rfl rfl .nil (screen_p) (by simp) (dc rfl) ?_; intro _ hv; subst hv) | (refine ar_pcall (own := false) fn54 rfl rfl .nil (hidden_p) (by simp) (dc rfl) ?_; intro _ hv; subst hv) | (refine ar_pcall (own := false) fn43 rfl rfl (.cons (.closed rfl) (.cons (.closed rfl) .nil)) (exRoom_p) (by simp) (dc rfl) ?_; intro _ hv; subst hv) | (refine ar_pcall (own := false) fn47 rfl rfl (.cons (.closed rfl) (.cons (.closed rfl) (.cons (.closed rfl) .nil))) (exHide_p) (by simp) (dc rfl) ?_; intro _ hv; subst hv) | (refine ar_pcall (own := false) fn41 rfl rfl (.cons (.closed rfl) (.cons (.closed rfl) (.cons (.closed rfl) (.cons (.closed rfl) .nil)))) (exSeen_p) (by simp) (dc rfl) ?_; intro _ hv; subst hv) | (refine ar_pcall (own := false) fn52 rfl rfl (.cons (.closed rfl) (.cons (.closed rfl) .nil)) (straight_p _ 6 (by omega)) (by simp) (dc rfl) ?_; intro _ hv; subst hv) | (refine ar_pcall (own := false) fn19 rfl rfl (.cons (.closed rfl) (.cons (.closed rfl) (.cons (.closed rfl) .nil))) (exMost_p) (by simp) (dc rfl) ?_; intro _ hv; subst hv) | (((refine ar_subk_l (sub_frzL (t := 43) vi ([31599]) rfl rfl rfl rfl (fun _ _ => rfl) (fun _ => rfl)) ?_); refine ar_pcall (own := false) fn35 rfl rfl (.cons (.closed rfl) (.cons (.closed rfl) (.cons (.closed rfl) (.cons (.closed rfl) .nil)))) (exMask_p) (by simp) (dc rfl) ?_; intro _ hv; subst hv)) | (refine ar_pcall (own := false) fn37 rfl rfl (.cons (.closed rfl) (.cons (.closed rfl) (.cons (.closed rfl) .nil))) (exSpell_p) (by simp) (dc rfl) ?_; intro _ hv; subst hv) | (refine ar_buildLE vi ([31599]) (by exact ty rfl) (by exact rfl) (by exact ty rfl) (by exact rfl) (by exact rfl) (by exact Nat.succ_pos _) (by exact rfl) (by exact dc rfl) (by exact rfl) (by exact fun _ => ⟨rfl, rfl⟩) (by exact dc rfl) ?_) | (refine ar_buildLE vi ([1, 1, 3, 5, 3, 1]) (by exact ty rfl) (by exact rfl) (by exact ty rfl) (by exact rfl) (by exact rfl) (by exact Nat.succ_pos _) (by exact rfl) (by exact dc rfl) (by exact rfl) (by exact fun _ => ⟨rfl, rfl⟩) (by exact dc rfl) ?_) | (((refine ar_subk_l (sub_frzL (t := 68) vi ([1, 1, 3, 5, 3, 1]) rfl rfl rfl rfl (fun _ _ => rfl) (fun _ => rfl)) ?_); refine ar_buildLE encInts (exBand) (by exact ty rfl) (by exact rfl) (by exact ty rfl) (by exact rfl) (by exact rfl) (by exact Nat.succ_pos _) (by exact rfl) (by exact dc rfl) (by exact rfl) (by exact fun _ => ⟨rfl, rfl⟩) (by exact dc rfl) ?_)) | (((refine ar_subk_l (sub_frzL (t := 70) encInts (exBand) rfl rfl rfl rfl (fun _ _ => rfl) (fun _ => rfl)) ?_); refine ar_pcall (own := false) fn21 rfl rfl (.cons (.closed rfl) (.cons (.closed rfl) .nil)) (sameBand_p exBand) (by simp) (dc rfl) ?_; intro _ hv; subst hv)) | (refine ar_buildLE vb ([false, false, false, true, false, false]) (by exact ty rfl) (by exact rfl) (by exact ty rfl) (by exact rfl) (by exact rfl) (by exact Nat.succ_pos _) (by exact rfl) (by exact dc rfl) (by exact rfl) (by exact fun _ => ⟨rfl, rfl⟩) (by exact dc rfl) ?_) | (refine ar_make_v (n := 6) (ty rfl) rfl (ty rfl) rfl rfl (by omega) (by omega) (dc rfl) rfl rfl (by dsimp only; omega) (maxLen_ok (by omega)) ?_) | (((refine ar_subk_l (sub_frzL (t := 79) vb ([false, false, false, true, false, false]) rfl rfl rfl rfl (fun _ _ => rfl) (fun _ => rfl)) ?_); (refine ar_subk_l (sub_frzL (t := 80) vb (List.replicate (6) (false)) rfl rfl (by simp) rfl (fun _ hk => congrArg vb (el_replicate hk)) (fun _ => rfl)) ?_); refine ar_buildLE encBools (exSeen) (by exact ty rfl) (by exact rfl) (by exact ty rfl) (by exact rfl) (by exact rfl) (by exact Nat.succ_pos _) (by exact rfl) (by exact dc rfl) (by exact rfl) (by exact fun _ => ⟨rfl, rfl⟩) (by exact dc rfl) ?_)) | (((refine ar_subk_l (sub_frzL (t := 81) encBools (exSeen) rfl rfl rfl rfl (fun _ _ => rfl) (fun _ => rfl)) ?_); refine ar_pcall (own := false) fn39 rfl rfl (.cons (.closed rfl) (.cons (.closed rfl) .nil)) (sameMask_p exSeen) (by simp) (dc rfl) ?_; intro _ hv; subst hv)) | (((refine ar_subk_l (sub_frzL (t := 107) vi ([31599]) rfl rfl rfl rfl (fun _ _ => rfl) (fun _ => rfl)) ?_); refine ar_pcall (own := false) fn40 rfl rfl (.cons (.closed rfl) (.cons (.closed rfl) .nil)) (sameInts_p [31599]) (by simp) (dc rfl) ?_; intro _ hv; subst hv)) | (refine zb1 ?_) | (refine zb0 ?_) | (refine zg ?_ ?_ <;> intro hg <;> first | exact absurd hg (by decide) | ((try replace hg := HG.out hg); (try dsimp only at hg); (try (have _h : True := hg; clear _h hg)); first | (exfalso; omega) | skip)) | (refine zgu ?_) | (refine ar_nil ?_) | (refine aw_seq ?_) | (refine aw_skip ?_) | (refine aw_block ?_) | (refine aw_exit ?_) | (refine aw_region ?_) | (refine zco ?_ ?_ <;> intro hg <;> first | exact absurd hg (by decide) | ((try replace hg := HG.out hg); (try dsimp only at hg); (try (have _h : True := hg; clear _h hg)); first | (exfalso; omega) | skip))))
  all_goals first
    | ((refine aw_ret ?_; (repeat (first | refine ret_then ?_ | refine ret_block ?_)); refine bq1 rfl ⟨?_, rfl⟩); rfl)
    | trace_state
end Go.Proofs.Ytccidiflnmchiaa
namespace Go.Proofs.Ytccidiflnmchiaa
open Go.RowKit
theorem clF_of {s : Sheet} {b : List (List Int)} (hs : s.ok = true) (h12 : b.length ≤ 12) (hl : b.all (isLineB s) = true) : clErr s b = 0 ∧ clF s b = clashesF s b := by
  have : clErr s b = 0 := by unfold clErr; rw [if_pos hs, if_pos h12, if_pos (show linesB s b = true from hl)]
  exact ⟨this, by unfold clF; rw [if_pos this]⟩
theorem clF_bad {s : Sheet} {b : List (List Int)} (h : clErr s b ≠ 0) : clF s b = [] := by unfold clF; rw [if_neg h]
set_option maxHeartbeats 1000000 in
theorem lClashes_p (s : Sheet) (b : List (List Int)) : PCalls Try.prog 24 [s.enc, encRows b] (· = .tup [encClashes (clF s b), vi (clErr s b)]) := by
  cases hs : s.ok
  · have he := err_bad hs
    have e1 : clErr s b = 70 := by simp [clErr, hs]
    rw [clF_bad (by omega), e1]
    refine pcalls_of_aw Try.func24 rfl (Nat.le_of_ble_eq_true rfl) ?_
    (repeat' (first | (refine ar_isq ?_; first | refine zmv ?_ | refine zas ?_ | (refine is_load ?_; first | refine zlp ?_ | refine zlr ?_) | (refine is_binOp ?_; first | refine zgtr ?_ | refine zneq ?_) | (refine is_call ?_; first | refine zll ?_ | refine zls ?_ | refine zln ?_ | refine zle ?_) | refine znt ?_) | (refine ar_pcall (own := false) fn28 rfl rfl (.cons (.closed rfl) .nil) (checkSheet_p _) (by simp) (dc rfl) ?_; intro _ hv; subst hv) | (refine zbx ?_) | (refine ar_nil ?_) | (refine aw_seq ?_) | (refine aw_skip ?_) | (refine aw_block ?_) | (refine aw_exit ?_) | (refine aw_region ?_) | (refine zco ?_ ?_ <;> intro hg <;> first | exact absurd hg (by decide) | ((try replace hg := HG.out hg); (try dsimp only at hg); (try (have _h : True := hg; clear _h hg)); first | (exfalso; omega) | skip))))
    all_goals first
      | (exfalso; omega)
      | ((refine aw_mono_r (env' := [(4, encClashes []), (5, vi 70)]) (H' := []) ?_ ?_; (focus ((refine sub_to [] [] rfl ?_ ?_ <;> (repeat' (first | exact trivial | refine ⟨⟨_, rfl, ?_⟩, ?_⟩ | refine ⟨bsub_snoc rfl rfl (fun _ => rfl) ?_, ?_⟩ | refine ⟨bsub_one rfl rfl ?_, ?_⟩ | refine ⟨bsub_all rfl rfl (fun _ _ => rfl) (fun _ => rfl), ?_⟩ | refine ⟨bsub_updL rfl rfl ?_ (fun _ _ _ => rfl) (fun _ => rfl), ?_⟩ | refine ⟨.inl ⟨_, _, rfl, rfl, ?_⟩, ?_⟩ | exact ⟨.inr ⟨rfl, rfl⟩, trivial⟩ | refine ⟨.inr ⟨rfl, rfl⟩, ?_⟩ | (intro _ _) | exact .closed rfl | exact .sl rfl | exact .ptr rfl | exact .map rfl | exact .nil rfl | exact .emp rfl | exact .nilList | exact .empList | exact frzPtr' (by simp; done) rfl (by omega) rfl rfl | exact frzLB (by simp; done) rfl (fun _ => rfl) rfl | exact frz_all (by simp; done) rfl (fun _ _ => rfl) (fun _ => rfl) rfl | exact .frz (by simp; done) rfl (by omega) (fun _ _ => rfl) (fun _ _ => rfl) | exact slEq rfl (by first | (simp; done) | (simp; omega)) | exact siEq (by omega) | exact .of_eq (by refine (show V.agg _ = V.agg _ from ?_); (try dsimp only); congr <;> first | rfl | omega) rfl | exact .closed (by simp [V.closed, V.closed.all, *]; done) | fail))); done))); (refine aw_ret ?_; (repeat (first | refine ret_then ?_ | refine ret_block ?_)); refine bq2 rfl rfl ⟨?_, rfl⟩); rfl)
  · have he := err_ok hs
    refine pcalls_of_aw Try.func24 rfl (Nat.le_of_ble_eq_true rfl) ?_
    (repeat' (first | (refine ar_isq ?_; first | refine zmv ?_ | refine zas ?_ | (refine is_load ?_; first | refine zlp ?_ | refine zlr ?_) | (refine is_binOp ?_; first | refine zgtr ?_ | refine zneq ?_) | (refine is_call ?_; first | refine zll ?_ | refine zls ?_ | refine zln ?_ | refine zle ?_) | refine znt ?_) | (refine ar_pcall (own := false) fn28 rfl rfl (.cons (.closed rfl) .nil) (checkSheet_p _) (by simp) (dc rfl) ?_; intro _ hv; subst hv) | (refine ar_pcall (own := false) fn64 rfl rfl (.cons (.closed rfl) (.cons (.closed rfl) .nil)) (lines_p s hs b) (by simp) (dc rfl) ?_; intro _ hv; subst hv) | (refine ar_pcall (own := false) fn65 rfl rfl (.cons (.closed rfl) (.cons (.closed rfl) .nil)) (clashes_p s hs b (by assumption) (by omega)) (by simp) (dc rfl) ?_; intro _ hv; subst hv) | (refine zbx ?_) | (refine ar_nil ?_) | (refine aw_seq ?_) | (refine aw_skip ?_) | (refine aw_block ?_) | (refine aw_exit ?_) | (refine aw_region ?_) | (refine zco ?_ ?_ <;> intro hg <;> first | exact absurd hg (by decide) | ((try replace hg := HG.out hg); (try dsimp only at hg); (try (have _h : True := hg; clear _h hg)); first | (exfalso; omega) | skip))))
    all_goals first
      | (exfalso; omega)
      | (have e1 : clErr s b = 4 := by unfold clErr; rw [if_pos hs, if_neg (by omega)]
         rw [clF_bad (by omega), e1]; (refine aw_mono_r (env' := [(4, encClashes []), (5, vi 4)]) (H' := []) ?_ ?_; (focus ((refine sub_to [] [] rfl ?_ ?_ <;> (repeat' (first | exact trivial | refine ⟨⟨_, rfl, ?_⟩, ?_⟩ | refine ⟨bsub_snoc rfl rfl (fun _ => rfl) ?_, ?_⟩ | refine ⟨bsub_one rfl rfl ?_, ?_⟩ | refine ⟨bsub_all rfl rfl (fun _ _ => rfl) (fun _ => rfl), ?_⟩ | refine ⟨bsub_updL rfl rfl ?_ (fun _ _ _ => rfl) (fun _ => rfl), ?_⟩ | refine ⟨.inl ⟨_, _, rfl, rfl, ?_⟩, ?_⟩ | exact ⟨.inr ⟨rfl, rfl⟩, trivial⟩ | refine ⟨.inr ⟨rfl, rfl⟩, ?_⟩ | (intro _ _) | exact .closed rfl | exact .sl rfl | exact .ptr rfl | exact .map rfl | exact .nil rfl | exact .emp rfl | exact .nilList | exact .empList | exact frzPtr' (by simp; done) rfl (by omega) rfl rfl | exact frzLB (by simp; done) rfl (fun _ => rfl) rfl | exact frz_all (by simp; done) rfl (fun _ _ => rfl) (fun _ => rfl) rfl | exact .frz (by simp; done) rfl (by omega) (fun _ _ => rfl) (fun _ _ => rfl) | exact slEq rfl (by first | (simp; done) | (simp; omega)) | exact siEq (by omega) | exact .of_eq (by refine (show V.agg _ = V.agg _ from ?_); (try dsimp only); congr <;> first | rfl | omega) rfl | exact .closed (by simp [V.closed, V.closed.all, *]; done) | fail))); done))); (refine aw_ret ?_; (repeat (first | refine ret_then ?_ | refine ret_block ?_)); refine bq2 rfl rfl ⟨?_, rfl⟩); rfl)
      | (have e1 : clErr s b = 2 := by unfold clErr; rw [if_pos hs, if_pos (by omega), if_neg (by unfold linesB; simp_all)]
         rw [clF_bad (by omega), e1]; (refine aw_mono_r (env' := [(4, encClashes []), (5, vi 2)]) (H' := []) ?_ ?_; (focus ((refine sub_to [] [] rfl ?_ ?_ <;> (repeat' (first | exact trivial | refine ⟨⟨_, rfl, ?_⟩, ?_⟩ | refine ⟨bsub_snoc rfl rfl (fun _ => rfl) ?_, ?_⟩ | refine ⟨bsub_one rfl rfl ?_, ?_⟩ | refine ⟨bsub_all rfl rfl (fun _ _ => rfl) (fun _ => rfl), ?_⟩ | refine ⟨bsub_updL rfl rfl ?_ (fun _ _ _ => rfl) (fun _ => rfl), ?_⟩ | refine ⟨.inl ⟨_, _, rfl, rfl, ?_⟩, ?_⟩ | exact ⟨.inr ⟨rfl, rfl⟩, trivial⟩ | refine ⟨.inr ⟨rfl, rfl⟩, ?_⟩ | (intro _ _) | exact .closed rfl | exact .sl rfl | exact .ptr rfl | exact .map rfl | exact .nil rfl | exact .emp rfl | exact .nilList | exact .empList | exact frzPtr' (by simp; done) rfl (by omega) rfl rfl | exact frzLB (by simp; done) rfl (fun _ => rfl) rfl | exact frz_all (by simp; done) rfl (fun _ _ => rfl) (fun _ => rfl) rfl | exact .frz (by simp; done) rfl (by omega) (fun _ _ => rfl) (fun _ _ => rfl) | exact slEq rfl (by first | (simp; done) | (simp; omega)) | exact siEq (by omega) | exact .of_eq (by refine (show V.agg _ = V.agg _ from ?_); (try dsimp only); congr <;> first | rfl | omega) rfl | exact .closed (by simp [V.closed, V.closed.all, *]; done) | fail))); done))); (refine aw_ret ?_; (repeat (first | refine ret_then ?_ | refine ret_block ?_)); refine bq2 rfl rfl ⟨?_, rfl⟩); rfl)
      | (obtain ⟨e1, e2⟩ := clF_of hs (b := b) (by omega) (by assumption)
         rw [e1, e2]; (refine aw_ret ?_; (repeat (first | refine ret_then ?_ | refine ret_block ?_)); refine bq2 rfl rfl ⟨?_, rfl⟩); rfl)
end Go.Proofs.Ytccidiflnmchiaa
namespace Go.Proofs.Ytccidiflnmchiaa
open Go.RowKit
/-- What the law 'printed' knows behind r rows: paper, run, lines. -/
def pPaper (w cl : Int) (d : Nat → Bool) : Nat → Int × Int × Int
  | 0 => (cl, 0, 0)
  | r + 1 => if d r = true then (if (pPaper w cl d r).2.1 % w = 0 then (0, (pPaper w cl d r).2.1 + 1, (pPaper w cl d r).2.2 + 1) else ((pPaper w cl d r).1, (pPaper w cl d r).2.1 + 1, (pPaper w cl d r).2.2)) else ((pPaper w cl d r).1 + 1, 0, (pPaper w cl d r).2.2)
def cntD (d : Nat → Bool) : Nat → Nat
  | 0 => 0
  | r + 1 => cntD d r + (if d r = true then 1 else 0)
/-- The lines' rows in one column: l i, i < n; each w dots of ink, cl of paper at least between two. -/
structure Col (w cl R : Int) (n : Nat) (l : Nat → Int) (d : Nat → Bool) : Prop where
  hw : 1 ≤ w
  hc : 0 ≤ cl
  low : ∀ i, i < n → 0 ≤ l i ∧ l i + w ≤ R
  gap : ∀ i, i + 1 < n → l i + w + cl ≤ l (i + 1)
  dot : ∀ r : Nat, d r = true ↔ ∃ i, i < n ∧ l i ≤ r ∧ (r : Int) < l i + w
theorem Col.far {w cl R : Int} {n : Nat} {l : Nat → Int} {d : Nat → Bool} (h : Col w cl R n l d) : ∀ (e i : Nat), i + (e + 1) < n → l i + w + cl ≤ l (i + (e + 1))
  | 0, i, hi => h.gap i hi
  | e + 1, i, hi => by
    have h1 := h.far e i (by omega)
    have h2 := h.gap (i + (e + 1)) (by omega)
    have := h.hw
    have := h.hc
    rw [show i + (e + 1 + 1) = i + (e + 1) + 1 by omega]
    omega
theorem Col.apart {w cl R : Int} {n : Nat} {l : Nat → Int} {d : Nat → Bool} (h : Col w cl R n l d) {i j : Nat} (hij : i < j) (hj : j < n) : l i + w + cl ≤ l j := by
  have := h.far (j - i - 1) i (by omega)
  rw [show i + (j - i - 1 + 1) = j by omega] at this
  exact this
/-- Behind r rows L lines have begun. -/
structure At (w cl : Int) (n : Nat) (l : Nat → Int) (d : Nat → Bool) (r L : Nat) : Prop where
  le : L ≤ n
  old : ∀ i, i < L → l i < r
  new : ∀ i, L ≤ i → i < n → (r : Int) ≤ l i
  zero : L = 0 → (pPaper w cl d r).2.1 = 0 ∧ (pPaper w cl d r).2.2 = 0 ∧ cntD d r = 0
  lines : (pPaper w cl d r).2.2 = L
  ink : 0 < L → (r : Int) < l (L - 1) + w → (pPaper w cl d r).2.1 % w = r - l (L - 1) ∧ (pPaper w cl d r).1 = 0 ∧ (cntD d r : Int) = (L : Int) * w - w + (r - l (L - 1))
  edge : 0 < L → l (L - 1) + w ≤ r → (pPaper w cl d r).2.1 % w = 0 ∧ (pPaper w cl d r).1 = r - l (L - 1) - w ∧ (cntD d r : Int) = (L : Int) * w
theorem Col.at_ {w cl R : Int} {n : Nat} {l : Nat → Int} {d : Nat → Bool} (h : Col w cl R n l d) : ∀ r, ∃ L, At w cl n l d r L ∧ (d r = false → (pPaper w cl d r).2.1 % w = 0) ∧ (d r = true → (pPaper w cl d r).2.1 % w = 0 → (pPaper w cl d r).2.2 = 0 ∨ cl ≤ (pPaper w cl d r).1) := by
  have hw := h.hw
  have hc := h.hc
  have key : ∀ {r L : Nat}, At w cl n l d r L → (d r = true ↔ (0 < L ∧ (r : Int) < l (L - 1) + w) ∨ (L < n ∧ l L = r)) := fun {r L} a => by
    rw [h.dot]
    constructor
    · rintro ⟨i, hi, h1, h2⟩
      rcases Nat.lt_or_ge i L with h3 | h3
      · rcases Nat.lt_or_ge (i + 1) L with h4 | h4
        · have := h.apart (i := i) (j := L - 1) (by omega) (by have := a.le; omega)
          have := a.old (L - 1) (by omega)
          omega
        · obtain rfl : i = L - 1 := by omega
          exact .inl ⟨by omega, h2⟩
      · have h4 := a.new i h3 hi
        rcases Nat.lt_or_ge L i with h5 | h5
        · have := h.apart h5 hi
          have := a.new L (Nat.le_refl _) (by omega)
          omega
        · obtain rfl : i = L := by omega
          exact .inr ⟨hi, by omega⟩
    · rintro (⟨h1, h2⟩ | ⟨h1, h2⟩)
      · exact ⟨L - 1, by have := a.le; omega, by have := a.old (L - 1) (by omega); omega, h2⟩
      · exact ⟨L, h1, by omega, by omega⟩
  -- what the law asks, from the state
  have asks : ∀ {r L : Nat}, At w cl n l d r L → (d r = false → (pPaper w cl d r).2.1 % w = 0) ∧ (d r = true → (pPaper w cl d r).2.1 % w = 0 → (pPaper w cl d r).2.2 = 0 ∨ cl ≤ (pPaper w cl d r).1) := fun {r L} a => by
    have k := key a
    refine ⟨fun hf => ?_, fun ht h0 => ?_⟩
    · rw [hf] at k
      have k' : ¬ ((0 < L ∧ (r : Int) < l (L - 1) + w) ∨ (L < n ∧ l L = r)) := fun x => by have := k.2 x; cases this
      rcases Nat.eq_zero_or_pos L with h1 | h1
      · rw [(a.zero h1).1]; exact Int.zero_emod _
      · by_cases h2 : (r : Int) < l (L - 1) + w
        · exact (k' (.inl ⟨h1, h2⟩)).elim
        · exact (a.edge h1 (by omega)).1
    · rcases Nat.eq_zero_or_pos L with h1 | h1
      · exact .inl (a.zero h1).2.1
      · by_cases h2 : (r : Int) < l (L - 1) + w
        · have := (a.ink h1 h2).1
          have := a.old (L - 1) (by omega)
          omega
        · rcases k.1 ht with ⟨_, h3⟩ | ⟨h3, h4⟩
          · omega
          · have := (a.edge h1 (by omega)).2.1
            have := h.apart (i := L - 1) (j := L) (by omega) h3
            right
            omega
  intro r
  induction r with
  | zero =>
    refine ⟨0, ?_⟩
    have a : At w cl n l d 0 0 := ⟨Nat.zero_le _, fun i hi => by omega, fun i _ hi => (h.low i hi).1, fun _ => ⟨rfl, rfl, rfl⟩, rfl, fun h => by omega, fun h => by omega⟩
    exact ⟨a, asks a⟩
  | succ r ih =>
    obtain ⟨L, a, _⟩ := ih
    have k := key a
    have ak := asks a
    have hle := a.le
    have hlines := a.lines
    -- behind the first two kinds of rows: ink
    have inkStep : ∀ (L' : Nat), L' ≤ n → 0 < L' → (∀ i, i < L' → l i < (r : Int) + 1) → (∀ i, L' ≤ i → i < n → (r : Int) + 1 ≤ l i) → (pPaper w cl d (r + 1)).2.2 = L' → (pPaper w cl d (r + 1)).1 = 0 → (r : Int) < l (L' - 1) + w →
        (pPaper w cl d (r + 1)).2.1 % w = (if (r : Int) + 1 - l (L' - 1) = w then 0 else (r : Int) + 1 - l (L' - 1)) → (cntD d (r + 1) : Int) = (L' : Int) * w - w + ((r : Int) + 1 - l (L' - 1)) → At w cl n l d (r + 1) L' := fun L' h1 h2 h3 h4 h5 h6 h7 h8 h9 => {
      le := h1, old := fun i hi => by have := h3 i hi; omega, new := fun i hi hn => by have := h4 i hi hn; omega, zero := fun h => by omega, lines := h5
      ink := fun _ hb => by
        rw [if_neg (by omega)] at h8
        refine ⟨by omega, h6, by omega⟩
      edge := fun _ hb => by
        rw [if_pos (by omega)] at h8
        refine ⟨h8, by omega, by omega⟩ }
    by_cases hA : 0 < L ∧ (r : Int) < l (L - 1) + w
    · have hd : d r = true := k.2 (.inl hA)
      obtain ⟨i1, i2, i3⟩ := a.ink hA.1 hA.2
      have hold := a.old (L - 1) (by omega)
      have hne : ¬ (pPaper w cl d r).2.1 % w = 0 := by omega
      have e : (pPaper w cl d (r + 1)).2.1 = (pPaper w cl d r).2.1 + 1 ∧ (pPaper w cl d (r + 1)).2.2 = (pPaper w cl d r).2.2 ∧ (pPaper w cl d (r + 1)).1 = (pPaper w cl d r).1 := by simp only [pPaper, hd, if_true]; rw [if_neg hne]; exact ⟨rfl, rfl, rfl⟩
      obtain ⟨e1, e2, e3⟩ := e
      have e4 : cntD d (r + 1) = cntD d r + 1 := by simp [cntD, hd]
      have b : At w cl n l d (r + 1) L := by
        refine inkStep L hle hA.1 (fun i hi => by have := a.old i hi; omega) (fun i hi hn => ?_) (by omega) (by omega) hA.2 ?_ (by rw [e4]; omega)
        · have := h.apart (i := L - 1) (j := i) (by omega) hn
          omega
        · rw [e1, Int.add_emod, i1]
          by_cases hw1 : w = 1
          · omega
          · rw [Int.emod_eq_of_lt (show (0 : Int) ≤ 1 by omega) (by omega)]
            split
            · rw [show (r : Int) - l (L - 1) + 1 = w by omega]; exact Int.emod_self
            · rw [Int.emod_eq_of_lt (by omega) (by omega)]; omega
      exact ⟨L, b, (asks b).1, (asks b).2⟩
    · have h0 : (pPaper w cl d r).2.1 % w = 0 ∧ (cntD d r : Int) = (L : Int) * w := by
        rcases Nat.eq_zero_or_pos L with h1 | h1
        · obtain ⟨z1, z2, z3⟩ := a.zero h1
          rw [z1, z3, h1]
          exact ⟨Int.zero_emod _, by simp⟩
        · obtain ⟨z1, z2, z3⟩ := a.edge h1 (by omega)
          exact ⟨z1, z3⟩
      by_cases hB : L < n ∧ l L = r
      · have hd : d r = true := k.2 (.inr hB)
        have e : (pPaper w cl d (r + 1)).2.1 = (pPaper w cl d r).2.1 + 1 ∧ (pPaper w cl d (r + 1)).2.2 = (pPaper w cl d r).2.2 + 1 ∧ (pPaper w cl d (r + 1)).1 = 0 := by simp only [pPaper, hd, if_true]; rw [if_pos h0.1]; exact ⟨rfl, rfl, rfl⟩
        obtain ⟨e1, e2, e3⟩ := e
        have e4 : cntD d (r + 1) = cntD d r + 1 := by simp [cntD, hd]
        have hm : ((L + 1 : Nat) : Int) * w = (L : Int) * w + w := by rw [Int.natCast_succ, Int.add_mul, Int.one_mul]
        have b : At w cl n l d (r + 1) (L + 1) := by
          refine inkStep (L + 1) hB.1 (by omega) (fun i hi => ?_) (fun i hi hn => ?_) (by omega) e3 (by rw [show L + 1 - 1 = L by omega]; omega) ?_ ?_
          · rcases Nat.lt_or_ge i L with h1 | h1
            · have := a.old i h1; omega
            · obtain rfl : i = L := by omega
              omega
          · have := h.apart (i := L) (j := i) (by omega) hn
            omega
          · rw [show L + 1 - 1 = L by omega, e1, Int.add_emod, h0.1, Int.zero_add, Int.emod_emod]
            split
            · rw [show w = 1 by omega]; rfl
            · rw [Int.emod_eq_of_lt (by omega) (by omega)]; omega
          · rw [e4, hm, show L + 1 - 1 = L by omega]
            omega
        exact ⟨L + 1, b, (asks b).1, (asks b).2⟩
      · have hd : d r = false := by
          cases hd : d r
          · rfl
          · rcases k.1 hd with h1 | h1
            · exact (hA h1).elim
            · exact (hB h1).elim
        have e : (pPaper w cl d (r + 1)).2.1 = 0 ∧ (pPaper w cl d (r + 1)).2.2 = (pPaper w cl d r).2.2 ∧ (pPaper w cl d (r + 1)).1 = (pPaper w cl d r).1 + 1 := by simp only [pPaper, hd]; exact ⟨rfl, rfl, rfl⟩
        obtain ⟨e1, e2, e3⟩ := e
        have e4 : cntD d (r + 1) = cntD d r := by simp [cntD, hd]
        have b : At w cl n l d (r + 1) L := {
          le := hle, old := fun i hi => by have := a.old i hi; omega
          new := fun i hi hn => by
            have h1 := a.new i hi hn
            rcases Nat.lt_or_ge L i with h2 | h2
            · have := h.apart h2 hn
              have := a.new L (Nat.le_refl _) (by omega)
              omega
            · obtain rfl : i = L := by omega
              have : ¬ l i = r := fun e => hB ⟨hn, e⟩
              omega
          zero := fun h1 => by
            obtain ⟨z1, z2, z3⟩ := a.zero h1
            exact ⟨e1, by omega, by omega⟩
          lines := by omega
          ink := fun h1 h2 => (hA ⟨h1, by omega⟩).elim
          edge := fun h1 h2 => by
            obtain ⟨z1, z2, z3⟩ := a.edge h1 (by omega)
            exact ⟨by rw [e1]; exact Int.zero_emod _, by omega, by rw [e4]; exact z3⟩ }
        exact ⟨L, b, (asks b).1, (asks b).2⟩
/-- In the end each line has its ink. -/
theorem Col.all {w cl : Int} {R n : Nat} {l : Nat → Int} {d : Nat → Bool} (h : Col w cl R n l d) : (pPaper w cl d R).2.2 = n ∧ (cntD d R : Int) = (n : Int) * w := by
  have hw := h.hw
  obtain ⟨L, a, _, _⟩ := h.at_ R
  have hn : L = n := by
    rcases Nat.lt_or_ge L n with h1 | h1
    · have := a.new L (Nat.le_refl _) h1
      have := h.low L h1
      omega
    · have := a.le; omega
  subst hn
  refine ⟨a.lines, ?_⟩
  rcases Nat.eq_zero_or_pos L with h1 | h1
  · rw [(a.zero h1).2.2, h1]; simp
  · have := h.low (L - 1) (by omega)
    exact (a.edge h1 (by omega)).2.2
end Go.Proofs.Ytccidiflnmchiaa
namespace Go.Proofs.Ytccidiflnmchiaa
open Go.RowKit
theorem ar_buildT {P : Program} {r : Option Nat} {m nt i dst : Nat} {Q : Post} {env : Env} {H : Heap} {ops : Array Oper} {l : List Stp} {ty T : TypeId} {pos : String} {after : Array Edge} {d : TyD} {parts : Array (Nat × Operand)} {fs : List (TypeId × Nat)} {ns : List Nat} {vs : List (Nat × V)} {ds0 : List V}
    (h : ∀ ds, ds0 = ds → AR P r m nt ops Q l ((dst, .agg ds) :: env) H) (ht : TyIs P T d) (hk : d.tk = .struct fs) (hs : SizesAre P fs ns) (hz : (constV d.zero).ok = true)
    (hv : parts.toList.mapM (fun p => (eo env p.2).map fun v => (p.1, v)) = some vs) (hb : BuildR (fun k => (List.zip (fs.map (·.2)) ns)[k]?) (constV d.zero).cells vs ds0) (hd : dst < nt) : AR P r m nt ops Q (.q i ⟨some dst, .build T parts, ty, pos, after, none⟩ :: l) env H :=
  ar_buildS ht hk hs hz hv hb hd rfl (h _ rfl)
end Go.Proofs.Ytccidiflnmchiaa
namespace Go.Proofs.Ytccidiflnmchiaa
open Go.RowKit
def exEven : List (List Int) := [List.replicate 6 0, List.replicate 6 3, List.replicate 6 6, List.replicate 6 9, List.replicate 6 12]
theorem exBet5_p : PCalls Try.prog 17 [exSheet.enc, encInts (List.replicate 6 0), encInts (List.replicate 6 12), vi 5] (· = .tup [encRows exEven, vi 0]) := (lBetween_p exSheet _ _ 5).mono fun v h => by
  rw [h, show betweenF exSheet (List.replicate 6 0) (List.replicate 6 12) 5 = exEven by decide +kernel, show betweenErr exSheet (List.replicate 6 0) (List.replicate 6 12) 5 = 0 by decide +kernel]
theorem exBet6_p : PCalls Try.prog 17 [exSheet.enc, encInts (List.replicate 6 0), encInts (List.replicate 6 12), vi 6] (· = .tup [encRows [], vi 71]) := (lBetween_p exSheet _ _ 6).mono fun v h => by
  rw [h, show betweenF exSheet (List.replicate 6 0) (List.replicate 6 12) 6 = [] by decide +kernel, show betweenErr exSheet (List.replicate 6 0) (List.replicate 6 12) 6 = 71 by decide +kernel]
def exTwo : List (List Int) := [List.replicate 6 0, [0, 1, 2, 3, 4, 5]]
theorem exClash_p : PCalls Try.prog 24 [exSheet.enc, encRows exTwo] (· = .tup [encClashes [⟨0, 1, 0⟩], vi 0]) := (lClashes_p exSheet exTwo).mono fun v h => by
  have e : (clF exSheet exTwo).map (fun x => (x.upper, x.lower, x.col)) = [(0, 1, 0)] := by decide +kernel
  have e2 : clF exSheet exTwo = [⟨0, 1, 0⟩] := by
    match clF exSheet exTwo, e with
    | [x], h =>
      obtain ⟨a, b, c⟩ := x
      simp only [List.map_cons, List.map_nil, List.cons.injEq, Prod.mk.injEq, and_true] at h
      obtain ⟨rfl, rfl, rfl⟩ := h
      rfl
    | [], h => simp at h
    | _ :: _ :: _, h => simp at h
  rw [h, e2, show clErr exSheet exTwo = 0 by decide +kernel]
def exSeen0 : List (List Bool) := [[true, true, false, false, false, true], List.replicate 6 true]
theorem exSeen0_p : PCalls Try.prog 41 [exSheet.enc, encRows exBand, exScreen.enc, vi 0] (· = .tup [encMask exSeen0, vi 0]) := (lSeen_p exSheet exBand exScreen 0).mono fun v h => by
  rw [h, show seenF exSheet exBand exScreen 0 = exSeen0 by decide +kernel, show seenErr exSheet exBand exScreen 0 = 0 by decide +kernel]
def exInk : List Bool := [false, true, true, false]
theorem exInk_p : PCalls Try.prog 26 [(⟨1, 4, 2, 0, 0⟩ : Sheet).enc, encRows [[1]]] (· = .tup [encBools exInk, vi 0]) := (lInk_p ⟨1, 4, 2, 0, 0⟩ [[1]]).mono fun v h => by
  rw [h, show inkF ⟨1, 4, 2, 0, 0⟩ [[1]] = exInk by decide +kernel, show checkErr ⟨1, 4, 2, 0, 0⟩ [[1]] = 0 by decide +kernel]
theorem exRoom2_p : PCalls Try.prog 43 [exSheet.enc, (⟨2, 0⟩ : Screen).enc] (· = .tup [vi 0, vi 0, vi 71]) := (lRoom_p exSheet ⟨2, 0⟩).mono fun v h => h.trans (by kernel_rfl)
theorem exHide3_p : PCalls Try.prog 47 [exSheet.enc, (⟨3, 0⟩ : Screen).enc, encMask []] (· = .tup [encRows [], vi 72]) := (lHide_p exSheet ⟨3, 0⟩ []).mono fun v h => by
  rw [h, show hideF exSheet ⟨3, 0⟩ [] = [] by decide +kernel, show hideErr exSheet ⟨3, 0⟩ [] = 72 by decide +kernel]
theorem exMask4_p : PCalls Try.prog 35 [encInts [], vi 1, vi 1, vi 4] (· = .tup [encMask [], vi 6]) := (lMask_p [] 1 1 4).mono fun v h => by
  rw [h, show maskF [] 1 1 4 = [] by decide +kernel, show maskErr [] 1 1 4 = 6 by decide +kernel]
theorem exMany_p : PCalls Try.prog 24 [exSheet.enc, encRows (List.replicate 13 [])] (· = .tup [encClashes [], vi 4]) := (lClashes_p exSheet _).mono fun v h => by
  have e : (clF exSheet (List.replicate 13 [])).length = 0 := by decide +kernel
  rw [h, List.length_eq_zero_iff.1 e, show clErr exSheet (List.replicate 13 []) = 4 by decide +kernel]
theorem exCheck_p : PCalls Try.prog 30 [exSheet.enc, encRows [[]]] (· = vi 71) := (check_p exSheet [[]]).mono fun v h => by
  rw [h, show checkErr exSheet [[]] = 71 by decide +kernel]
theorem exZero_p : PCalls Try.prog 28 [(⟨0, 0, 0, 0, 0⟩ : Sheet).enc] (· = vi 70) := (checkSheet_p ⟨0, 0, 0, 0, 0⟩).mono fun v h => by
  rw [h, show Sheet.err ⟨0, 0, 0, 0, 0⟩ = 70 by decide +kernel]
/-- Rows of nothing, however they came to be. -/
theorem sub_nils {α : Type} [Inhabited α] {m nt t sz n : Nat} {env : Env} {H : Heap} {f : Nat → V} {e : α → V} (ht : look env t = some (.list 1 n f)) (hf : ∀ i, i < n → f i = vnil ∨ f i = .emp) : SubK m nt env H ((t, LV 1 (LV sz e) (List.replicate n [])) :: env) H := .mk fun X I ρ a w _ ⟨hE, hw, hd⟩ => by
  refine ⟨I, ρ, Imm.le_refl _, ⟨⟨hE.1, fun t' v hv => ?_⟩, hw, hd⟩, fun _ h => h⟩
  rw [look_cons] at hv
  split at hv
  · rename_i e1; subst e1; cases hv
    obtain ⟨h1, h2⟩ := hE.2 t _ ht
    refine ⟨h1, ?_⟩
    obtain ⟨A, c, us, h3, hc, hm, hl, hsz, hv⟩ := h2.list_inv
    rw [h3]
    show VRel I ρ (.list 1 (List.replicate n ([] : List α)).length fun i => LV sz e (el (List.replicate n []) i)) _
    rw [List.length_replicate]
    refine .list hc hm hl (fun i _ => rfl) fun i j v hi hj => ?_
    rw [el_replicate hi] at hj
    cases j with
    | zero =>
      cases hj
      rcases hf i hi with h4 | h4
      · have := hv i 0 vnil hi (by rw [h4]; rfl)
        generalize us i 0 = u at this
        cases this
        exact .none_list _
      · have := hv i 0 .emp hi (by rw [h4]; rfl)
        generalize us i 0 = u at this
        cases this
        exact .none_list _
    | succ j => cases hj
  · exact hE.2 t' v hv
set_option maxRecDepth 100000 in
set_option maxHeartbeats 8000000 in
theorem latheExamples_p : PCalls Try.prog 15 [] (· = vb true) := by
  refine pcalls_of_aw Try.func15 rfl (Nat.le_of_ble_eq_true rfl) ?_
  (repeat' (first | (refine ar_isq ?_; first | refine zmv ?_ | refine zas ?_ | (refine is_load ?_; first | refine zlp ?_ | refine zlr ?_) | (refine is_binOp ?_; first | refine zeql ?_ | refine zneq ?_) | (refine is_indexAddr ?_; first | refine zil ?_ | refine zis ?_ | refine zit ?_ | refine zia ?_ | refine zir ?_ | refine zil (j := 0) ?_ | refine zis (j := 0) ?_ | refine zit (j := 0) ?_ | refine zil (j := 1) ?_ | refine zis (j := 1) ?_ | refine zit (j := 1) ?_ | refine zil (j := 2) ?_ | refine zis (j := 2) ?_ | refine zit (j := 2) ?_ | refine zil (j := 3) ?_ | refine zis (j := 3) ?_ | refine zit (j := 3) ?_ | (refine zxl ?_; intro _ _ _) | (refine zxs ?_; intro _ _ _)) | (refine is_call ?_; first | refine zll ?_ | refine zls ?_ | refine zln ?_ | refine zle ?_) | (refine is_pick ?_; first | refine zpt ?_ | refine zpf ?_) | refine zex ?_ | refine znt ?_ | (refine ar_buildT ?_ (by exact ty rfl) (by exact rfl) (by exact sizes rfl) (by exact rfl) (by exact rfl) (by exact build rfl) (by exact dc rfl); intro _ hds; (try dsimp only [cells_s, cells_emp, cells_agg, cells_list, cells_sl, cells_ptr, cells_ref, cells_fn, cells_vi, cells_vb, cells_vnil, constV, List.map_cons, List.map_nil, List.take_succ_cons, List.take_zero, List.drop_succ_cons, List.drop_zero, List.cons_append, List.nil_append, List.append_nil, LV_cells] at hds); (try dsimp only [cells_s, cells_emp, cells_agg, cells_list, cells_sl, cells_ptr, cells_ref, cells_fn, cells_vi, cells_vb, cells_vnil, constV, List.map_cons, List.map_nil, List.take_succ_cons, List.take_zero, List.drop_succ_cons, List.drop_zero, List.cons_append, List.nil_append, List.append_nil, LV_cells] at hds); subst hds)) | (refine ar_pcall (own := false) fn49 rfl rfl .nil (alive_p) (by simp) (dc rfl) ?_; intro _ hv; subst hv) | (refine ar_pcall (own := false) fn51 rfl rfl .nil (sheet_p) (by simp) (dc rfl) ?_; intro _ hv; subst hv) | (refine ar_pcall (own := false) fn53 rfl rfl .nil (screen_p) (by simp) (dc rfl) ?_; intro _ hv; subst hv) | (refine ar_pcall (own := false) fn54 rfl rfl .nil (hidden_p) (by simp) (dc rfl) ?_; intro _ hv; subst hv) | (refine ar_pcall (own := false) fn52 rfl rfl (.cons (.closed rfl) (.cons (.closed rfl) .nil)) (straight_p _ 6 (by omega)) (by simp) (dc rfl) ?_; intro _ hv; subst hv) | (refine ar_pcall (own := false) fn17 rfl rfl (.cons (.closed rfl) (.cons (.closed rfl) (.cons (.closed rfl) (.cons (.closed rfl) .nil)))) (exBet5_p) (by simp) (dc rfl) ?_; intro _ hv; subst hv) | (refine ar_pcall (own := false) fn17 rfl rfl (.cons (.closed rfl) (.cons (.closed rfl) (.cons (.closed rfl) (.cons (.closed rfl) .nil)))) (exBet6_p) (by simp) (dc rfl) ?_; intro _ hv; subst hv) | (refine ar_buildLE vi ([0, 1, 2, 3, 4, 5]) (by exact ty rfl) (by exact rfl) (by exact ty rfl) (by exact rfl) (by exact rfl) (by exact Nat.succ_pos _) (by exact rfl) (by exact dc rfl) (by exact rfl) (by exact fun _ => ⟨rfl, rfl⟩) (by exact dc rfl) ?_) | (((refine ar_subk_l (sub_frzL (t := 37) vi ([0, 1, 2, 3, 4, 5]) rfl rfl rfl rfl (fun _ _ => rfl) (fun _ => rfl)) ?_); refine ar_buildLE encInts (exTwo) (by exact ty rfl) (by exact rfl) (by exact ty rfl) (by exact rfl) (by exact rfl) (by exact Nat.succ_pos _) (by exact rfl) (by exact dc rfl) (by exact rfl) (by exact fun _ => ⟨rfl, rfl⟩) (by exact dc rfl) ?_)) | (((refine ar_subk_l (sub_frzL (t := 38) encInts (exTwo) rfl rfl rfl rfl (fun _ _ => rfl) (fun _ => rfl)) ?_); refine ar_pcall (own := false) fn24 rfl rfl (.cons (.closed rfl) (.cons (.closed rfl) .nil)) (exClash_p) (by simp) (dc rfl) ?_; intro _ hv; subst hv)) | (refine ar_pcall (own := false) fn47 rfl rfl (.cons (.closed rfl) (.cons (.closed rfl) (.cons (.closed rfl) .nil))) (exHide_p) (by simp) (dc rfl) ?_; intro _ hv; subst hv) | (refine ar_buildLE encInts (exEven) (by exact ty rfl) (by exact rfl) (by exact ty rfl) (by exact rfl) (by exact rfl) (by exact Nat.succ_pos _) (by exact rfl) (by exact dc rfl) (by exact rfl) (by exact fun _ => ⟨rfl, rfl⟩) (by exact dc rfl) ?_) | (((refine ar_subk_l (sub_frzL (t := 58) encInts (exEven) rfl rfl rfl rfl (fun _ _ => rfl) (fun _ => rfl)) ?_); refine ar_pcall (own := false) fn21 rfl rfl (.cons (.closed rfl) (.cons (.closed rfl) .nil)) (sameBand_p exEven) (by simp) (dc rfl) ?_; intro _ hv; subst hv)) | (refine ar_buildLE Clash.enc ([⟨0, 1, 0⟩]) (by exact ty rfl) (by exact rfl) (by exact ty rfl) (by exact rfl) (by exact rfl) (by exact Nat.succ_pos _) (by exact rfl) (by exact dc rfl) (by exact rfl) (by exact fun _ => ⟨rfl, rfl⟩) (by exact dc rfl) ?_) | (((refine ar_subk_l (sub_frzL (t := 73) Clash.enc ([⟨0, 1, 0⟩]) rfl rfl rfl rfl (fun _ _ => rfl) (fun _ => rfl)) ?_); refine ar_pcall (own := false) fn32 rfl rfl (.cons (.closed rfl) (.cons (.closed rfl) .nil)) (sameClashes_p [⟨0, 1, 0⟩]) (by simp) (dc rfl) ?_; intro _ hv; subst hv)) | (refine ar_pcall (own := false) fn41 rfl rfl (.cons (.closed rfl) (.cons (.closed rfl) (.cons (.closed rfl) (.cons (.closed rfl) .nil)))) (exSeen0_p) (by simp) (dc rfl) ?_; intro _ hv; subst hv) | (((refine ar_subk_l (sub_frzL (t := 89) vi ([31599]) rfl rfl rfl rfl (fun _ _ => rfl) (fun _ => rfl)) ?_); refine ar_pcall (own := false) fn35 rfl rfl (.cons (.closed rfl) (.cons (.closed rfl) (.cons (.closed rfl) (.cons (.closed rfl) .nil)))) (exMask_p) (by simp) (dc rfl) ?_; intro _ hv; subst hv)) | (refine ar_buildLE vi ([31599]) (by exact ty rfl) (by exact rfl) (by exact ty rfl) (by exact rfl) (by exact rfl) (by exact Nat.succ_pos _) (by exact rfl) (by exact dc rfl) (by exact rfl) (by exact fun _ => ⟨rfl, rfl⟩) (by exact dc rfl) ?_) | (refine ar_buildLE vb ([true, true, true, false]) (by exact ty rfl) (by exact rfl) (by exact ty rfl) (by exact rfl) (by exact rfl) (by exact Nat.succ_pos _) (by exact rfl) (by exact dc rfl) (by exact rfl) (by exact fun _ => ⟨rfl, rfl⟩) (by exact dc rfl) ?_) | (refine ar_buildLE vb ([true, false, true, false]) (by exact ty rfl) (by exact rfl) (by exact ty rfl) (by exact rfl) (by exact rfl) (by exact Nat.succ_pos _) (by exact rfl) (by exact dc rfl) (by exact rfl) (by exact fun _ => ⟨rfl, rfl⟩) (by exact dc rfl) ?_) | (((refine ar_subk_l (sub_frzL (t := 11) vb ([true, true, true, false]) rfl rfl rfl rfl (fun _ _ => rfl) (fun _ => rfl)) ?_); (refine ar_subk_l (sub_frzL (t := 12) vb ([true, false, true, false]) rfl rfl rfl rfl (fun _ _ => rfl) (fun _ => rfl)) ?_); refine ar_buildLE vb ([true, true, false, false, false, true]) (by exact ty rfl) (by exact rfl) (by exact ty rfl) (by exact rfl) (by exact rfl) (by exact Nat.succ_pos _) (by exact rfl) (by exact dc rfl) (by exact rfl) (by exact fun _ => ⟨rfl, rfl⟩) (by exact dc rfl) ?_)) | (((refine ar_subk_l (sub_frzL (t := 105) vb ([true, true, false, false, false, true]) rfl rfl rfl rfl (fun _ _ => rfl) (fun _ => rfl)) ?_); refine ar_buildLE encBools ([[true, true, false, false, false, true]]) (by exact ty rfl) (by exact rfl) (by exact ty rfl) (by exact rfl) (by exact rfl) (by exact Nat.succ_pos _) (by exact rfl) (by exact dc rfl) (by exact rfl) (by exact fun _ => ⟨rfl, rfl⟩) (by exact dc rfl) ?_)) | (((refine ar_subk_l (sub_frzL (t := 106) encBools ([[true, true, false, false, false, true]]) rfl rfl rfl rfl (fun _ _ => rfl) (fun _ => rfl)) ?_); refine ar_pcall (own := false) fn39 rfl rfl (.cons (.ext (fun k hk => match k, hk with | 0, _ => rfl)) (.cons (.closed rfl) .nil)) (sameMask_p [[true, true, false, false, false, true]]) (by simp) (dc rfl) ?_; intro _ hv; subst hv)) | (refine ar_buildLE encBools (exMask) (by exact ty rfl) (by exact rfl) (by exact ty rfl) (by exact rfl) (by exact rfl) (by exact Nat.succ_pos _) (by exact rfl) (by exact dc rfl) (by exact rfl) (by exact fun _ => ⟨rfl, rfl⟩) (by exact dc rfl) ?_) | (((refine ar_subk_l (sub_frzL (t := 121) encBools (exMask) rfl rfl rfl rfl (fun _ _ => rfl) (fun _ => rfl)) ?_); refine ar_pcall (own := false) fn39 rfl rfl (.cons (.closed rfl) (.cons (.closed rfl) .nil)) (sameMask_p exMask) (by simp) (dc rfl) ?_; intro _ hv; subst hv)) | (refine ar_buildLE vi ([1]) (by exact ty rfl) (by exact rfl) (by exact ty rfl) (by exact rfl) (by exact rfl) (by exact Nat.succ_pos _) (by exact rfl) (by exact dc rfl) (by exact rfl) (by exact fun _ => ⟨rfl, rfl⟩) (by exact dc rfl) ?_) | (((refine ar_subk_l (sub_frzL (t := 127) vi ([1]) rfl rfl rfl rfl (fun _ _ => rfl) (fun _ => rfl)) ?_); refine ar_buildLE encInts ([[1]]) (by exact ty rfl) (by exact rfl) (by exact ty rfl) (by exact rfl) (by exact rfl) (by exact Nat.succ_pos _) (by exact rfl) (by exact dc rfl) (by exact rfl) (by exact fun _ => ⟨rfl, rfl⟩) (by exact dc rfl) ?_)) | (((refine ar_subk_l (sub_frzL (t := 128) encInts ([[1]]) rfl rfl rfl rfl (fun _ _ => rfl) (fun _ => rfl)) ?_); refine ar_pcall (own := false) fn26 rfl rfl (.cons (.closed rfl) (.cons (.closed rfl) .nil)) (exInk_p) (by simp) (dc rfl) ?_; intro _ hv; subst hv)) | (refine ar_pcall (own := false) fn43 rfl rfl (.cons (.closed rfl) (.cons (.closed rfl) .nil)) (exRoom2_p) (by simp) (dc rfl) ?_; intro _ hv; subst hv) | (refine ar_pcall (own := false) fn47 rfl rfl (.cons (.closed rfl) (.cons (.closed rfl) (.cons (.closed rfl) .nil))) (exHide_p) (by simp) (dc rfl) ?_; intro _ hv; subst hv) | (refine ar_pcall (own := false) fn47 rfl rfl (.cons (.closed rfl) (.cons (.closed rfl) (.cons (.nil) .nil))) (exHide3_p) (by simp) (dc rfl) ?_; intro _ hv; subst hv) | (refine ar_pcall (own := false) fn35 rfl rfl (.cons (.nil) (.cons (.closed rfl) (.cons (.closed rfl) (.cons (.closed rfl) .nil)))) (exMask4_p) (by simp) (dc rfl) ?_; intro _ hv; subst hv) | (refine ar_make_v (n := 13) (ty rfl) rfl (ty rfl) rfl rfl (by omega) (by omega) (dc rfl) rfl rfl (by dsimp only; omega) (maxLen_ok (by omega)) ?_) | ((refine ar_subk_l (sub_frz (t := 151) (g := fun _ => vnil) rfl rfl (Nat.le_refl _) (fun _ _ => rfl) (fun _ _ => rfl)) ?_; refine ar_subk_l (sub_nils (t := 151) (sz := 1) (e := vi) rfl (fun _ _ => .inl rfl)) ?_; refine ar_pcall (own := false) fn24 rfl rfl (.cons (.closed rfl) (.cons (.closed rfl) .nil)) (exMany_p) (by simp) (dc rfl) ?_; intro _ hv; subst hv)) | (refine ar_pcall (own := false) fn28 rfl rfl (.cons (.closed rfl) .nil) (exZero_p) (by simp) (dc rfl) ?_; intro _ hv; subst hv) | ((refine ar_subk_l (sub_frz (t := 208) (g := fun _ => .emp) rfl rfl (Nat.le_refl _) (fun _ _ => rfl) (fun _ _ => rfl)) ?_; refine ar_subk_l (sub_nils (t := 208) (sz := 1) (e := vi) rfl (fun _ _ => .inr rfl)) ?_; refine ar_pcall (own := false) fn30 rfl rfl (.cons (.closed rfl) (.cons (.closed rfl) .nil)) (exCheck_p) (by simp) (dc rfl) ?_; intro _ hv; subst hv)) | (refine zcl (a := 0) (b := 1) ?_) | (refine zcs (a := 0) (b := 1) ?_) | (refine zb1 ?_) | (refine zb0 ?_) | (refine zg ?_ ?_ <;> intro hg <;> first | exact absurd hg (by decide) | ((try replace hg := HG.out hg); (try dsimp only at hg); (try (have _h : True := hg; clear _h hg)); first | (exfalso; omega) | skip)) | (refine zgu ?_) | (refine ar_nil ?_) | (refine ar_forkL ?_ ?_) | (refine ar_lq rfl ?_) | (refine aw_seq ?_) | (refine aw_skip ?_) | (refine aw_block ?_) | (refine aw_exit ?_) | (refine aw_region ?_) | (refine aw_fork (id := 18) [[(1, 1), (0, 1), (2, 1), (3, 0), (4, 0), (5, 0), (6, 0), (7, 0)]] [(0, 3), (0, 1), (1, 1), (2, 1), (3, 0), (4, 0), (5, 0), (6, 0), (7, 0)] mixed (by kernel_rfl) ?_) | (refine zco ?_ ?_ <;> intro hg <;> first | exact absurd hg (by decide) | ((try replace hg := HG.out hg); (try dsimp only at hg); (try (have _h : True := hg; clear _h hg)); first | (exfalso; omega) | skip))))
  all_goals first
    | ((refine aw_ret ?_; (repeat (first | refine ret_then ?_ | refine ret_block ?_)); refine bq1 rfl ⟨?_, rfl⟩); rfl)
    | trace_state
end Go.Proofs.Ytccidiflnmchiaa
