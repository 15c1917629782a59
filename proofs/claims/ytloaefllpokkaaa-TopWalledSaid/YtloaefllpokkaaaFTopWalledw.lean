/- A gap is a wall: for all inputs. No condition. -/
import Derived.Test.YtloaefllpokkaaaKTl7
set_option linter.unusedSimpArgs false
set_option linter.unusedVariables false
namespace Go.Proofs.Ytloaefllpokkaaa
open Go.RowKit
def pFl : Pat := ⟨[0, 3, 0, 0, 3, 0], [0], 100, 2, 10, [1]⟩
set_option maxHeartbeats 1000000 in
theorem flames_p : PCalls Try.prog 24 [] (· = pFl.enc) := by
  refine pcalls_of_aw Try.func24 rfl (Nat.le_of_ble_eq_true rfl) ?_
  (repeat' (first | (refine ar_isq ?_; first | (refine ar_buildS (ds := ?ds) (by exact ty rfl) (by exact rfl) (by exact sizes rfl) (by exact rfl) (by exact rfl) (by exact build rfl) (by exact dc rfl) ?hn ?h; (case hn => (dsimp only [cells_s, cells_emp, cells_agg, cells_list, cells_sl, cells_ptr, cells_ref, cells_fn, cells_vi, cells_vb, cells_vnil, constV, List.map_cons, List.map_nil, List.take_succ_cons, List.take_zero, List.drop_succ_cons, List.drop_zero, List.cons_append, List.nil_append, List.append_nil, LV_cells]; exact rfl)))) | (refine ar_buildLE vi ([0, 3, 0, 0, 3, 0]) (by exact ty rfl) (by exact rfl) (by exact ty rfl) (by exact rfl) (by exact rfl) (by exact Nat.succ_pos _) (by exact rfl) (by exact dc rfl) (by exact rfl) (by exact fun _ => ⟨rfl, rfl⟩) (by exact dc rfl) ?_) | (((refine ar_subk_l (sub_frzL (t := 1) vi ([0, 3, 0, 0, 3, 0]) rfl rfl rfl rfl (fun _ _ => rfl) (fun _ => rfl)) ?_); refine ar_buildLE vi ([0]) (by exact ty rfl) (by exact rfl) (by exact ty rfl) (by exact rfl) (by exact rfl) (by exact Nat.succ_pos _) (by exact rfl) (by exact dc rfl) (by exact rfl) (by exact fun _ => ⟨rfl, rfl⟩) (by exact dc rfl) ?_)) | (((refine ar_subk_l (sub_frzL (t := 2) vi ([0]) rfl rfl rfl rfl (fun _ _ => rfl) (fun _ => rfl)) ?_); refine ar_buildLE vi ([1]) (by exact ty rfl) (by exact rfl) (by exact ty rfl) (by exact rfl) (by exact rfl) (by exact Nat.succ_pos _) (by exact rfl) (by exact dc rfl) (by exact rfl) (by exact fun _ => ⟨rfl, rfl⟩) (by exact dc rfl) ?_)) | (refine zal ?_) | (refine zb1 ?_) | (refine zb0 ?_) | (refine zsvs ?_) | (refine zsva ?_) | (refine zses ?_) | (refine zsea ?_) | (refine ar_nil ?_) | (refine aw_seq ?_) | (refine aw_skip ?_) | (refine aw_block ?_) | (refine aw_exit ?_) | (refine aw_region ?_) | (refine zco ?_ ?_ <;> intro hg <;> first | exact absurd hg (by decide) | ((try replace hg := HG.out hg); (try dsimp only at hg); (try (have _h : True := hg; clear _h hg)); first | (exfalso; omega) | skip))))
  (refine aw_mono_r (env' := [(0, .ptr 6 0 0 0)]) (H' := [.arr 6 1 (fun _ => pFl.enc)]) ?_ ?_; (focus ((refine sub_to [some 0] [3] rfl ?_ ?_ <;> (repeat' (first | exact trivial | refine ⟨⟨_, rfl, ?_⟩, ?_⟩ | refine ⟨bsub_snoc rfl rfl (fun _ => rfl) ?_, ?_⟩ | refine ⟨bsub_one rfl rfl ?_, ?_⟩ | refine ⟨bsub_all rfl rfl (fun _ _ => rfl) (fun _ => rfl), ?_⟩ | refine ⟨bsub_updL rfl rfl ?_ (fun _ _ _ => rfl) (fun _ => rfl), ?_⟩ | refine ⟨.inl ⟨_, _, rfl, rfl, ?_⟩, ?_⟩ | exact ⟨.inr ⟨rfl, rfl⟩, trivial⟩ | refine ⟨.inr ⟨rfl, rfl⟩, ?_⟩ | (intro _ _) | exact vz1 | (exact VSub.aggL ⟨.closed rfl, .closed rfl, .closed rfl, .closed rfl, .closed rfl, frzLB (by simp; done) rfl (fun _ => rfl) rfl, trivial⟩) | exact vz2 | fail))); done)))
  refine aw_ret ?_
  (repeat (first | refine ret_then ?_ | refine ret_block ?_))
  exact bq1c (f := fun _ => pFl.enc) (v := pFl.enc) (ty rfl) rfl rfl Nat.one_pos rfl ⟨rfl, rfl⟩
theorem fl_err : pFl.err = 0 := by decide +kernel
theorem fl_cut0 : pFl.cut 0 = [100, 106, 100, 100, 106, 100] := by decide +kernel
theorem fl_cut1 : pFl.cut 1 = [110, 110, 116, 110, 110, 116] := by decide +kernel
def flA : List Int := [100, 106, 100, 100, 106, 100]
def flB : List Int := [110, 110, 116, 110, 110, 116]
theorem fl_far : dfarF (unF flA 8) (unF flB 8) = (16, 1) := by decide +kernel
theorem fl_gap : stG (unF flA 8) (unF flB 8) 6 = 4 := by decide +kernel
theorem fl_lowA : Low flA (min flA.length 12) := fun i hi => by
  have : i < 6 := hi
  match i, this with
  | 0, _ | 1, _ | 2, _ | 3, _ | 4, _ | 5, _ => exact ⟨by decide, by decide⟩
theorem fl_lowB : Low flB (min flB.length 12) := fun i hi => by
  have : i < 6 := hi
  match i, this with
  | 0, _ | 1, _ | 2, _ | 3, _ | 4, _ | 5, _ => exact ⟨by decide, by decide⟩

set_option maxRecDepth 20000 in
set_option maxHeartbeats 4000000 in
theorem alive05_p : PCalls Try.prog 6 [] (· = vb true) := by
  have hc0 := cut_p pFl 0
  have hc1 := cut_p pFl 1
  have e0 : pFl.cutE 0 = 0 := by unfold Pat.cutE; rw [if_pos fl_err]; rfl
  have e1 : pFl.cutE 1 = 0 := by unfold Pat.cutE; rw [if_pos fl_err]; rfl
  rw [e0, if_pos rfl, fl_cut0] at hc0
  rw [e1, if_pos rfl, fl_cut1] at hc1
  have u0 := unr_ok flA 8 (by omega) fl_lowA
  have u1 := unr_ok flB 8 (by omega) fl_lowB
  have hW : Walled flA flB 8 (stG (unF flA 8) (unF flB 8) 6) (stS (unF flA 8) (unF flB 8) 6) 6 := walled_of (x := flA) (y := flB) (w := 8) (by omega) rfl (by decide) fl_lowA fl_lowB (by show 0 < stG (unF flA 8) (unF flB 8) 6; rw [fl_gap]; decide)
  have hF := farOk_un hW (by omega) fl_lowA fl_lowB
  have la := un_line (c := flA) (w := 8) (by omega) fl_lowA (by decide)
  have lb := un_line (c := flB) (w := 8) (by omega) fl_lowB (by decide)
  have hd := distance_p _ _ _ _ hF (by omega) la lb (by rw [fl_far]; decide)
  have h4 := apartT_p _ _ 4 _ _ hF (by omega) la lb
  have h5 := apartT_p _ _ 5 _ _ hF (by omega) la lb
  unfold disG at hd
  rw [fl_far] at hd h4 h5
  have hd : PCalls Try.prog 12 [encSpts (unF flA 8), encSpts (unF flB 8)] (· = .tup [.agg [vi 16, vi 1], vi 0]) := hd
  have h4 : PCalls Try.prog 13 [encSpts (unF flA 8), encSpts (unF flB 8), vi 4] (· = .tup [vb true, vi 0]) := h4
  have h5 : PCalls Try.prog 13 [encSpts (unF flA 8), encSpts (unF flB 8), vi 5] (· = .tup [vb false, vi 0]) := h5
  generalize unF flA 8 = A at *
  generalize unF flB 8 = B at *
  refine pcalls_of_aw Try.func6 rfl (Nat.le_of_ble_eq_true rfl) ?_
  (repeat' (first | (refine ar_isq ?_; first | refine zmv ?_ | refine zas ?_ | (refine is_load ?_; first | refine zlp ?_ | refine zlr ?_) | (refine is_binOp ?_; first | refine zeql ?_ | refine ar_q (qs_seq (seq rfl) rfl rfl (.int (ty rfl) rfl rfl rfl rfl (.int (ty rfl) rfl rfl rfl rfl .nil))) (dc rfl) ?_ | refine ar_q (qs_seq (seq rfl) rfl rfl (.int (ty rfl) rfl rfl rfl rfl (.int (ty rfl) rfl rfl rfl rfl (.int (ty rfl) rfl rfl rfl rfl .nil)))) (dc rfl) ?_ | refine ar_q (qs_seq (seq rfl) rfl rfl (.int (ty rfl) rfl rfl rfl rfl (.int (ty rfl) rfl rfl rfl rfl (.int (ty rfl) rfl rfl rfl rfl (.int (ty rfl) rfl rfl rfl rfl .nil))))) (dc rfl) ?_ | refine ar_q (qs_seq (seq rfl) rfl rfl (.int (ty rfl) rfl rfl rfl rfl (.int (ty rfl) rfl rfl rfl rfl (.int (ty rfl) rfl rfl rfl rfl (.int (ty rfl) rfl rfl rfl rfl (.int (ty rfl) rfl rfl rfl rfl .nil)))))) (dc rfl) ?_) | (refine is_pick ?_; first | refine zpt ?_ | refine zpf ?_) | refine zex ?_ | refine znt ?_ | (refine ar_buildS (ds := ?ds) (by exact ty rfl) (by exact rfl) (by exact sizes rfl) (by exact rfl) (by exact rfl) (by exact build rfl) (by exact dc rfl) ?hn ?h; (case hn => (dsimp only [cells_s, cells_emp, cells_agg, cells_list, cells_sl, cells_ptr, cells_ref, cells_fn, cells_vi, cells_vb, cells_vnil, constV, List.map_cons, List.map_nil, List.take_succ_cons, List.take_zero, List.drop_succ_cons, List.drop_zero, List.cons_append, List.nil_append, List.append_nil, LV_cells]; exact rfl)))) | (refine ar_pcall (own := false) fn24 rfl rfl .nil (flames_p) (by simp) (dc rfl) ?_; intro _ hv; subst hv) | (refine ar_pcall (own := false) fn8 rfl rfl (.cons (.closed rfl) (.cons (.closed rfl) .nil)) (hc0) (by simp) (dc rfl) ?_; intro _ hv; subst hv) | (refine ar_pcall (own := false) fn8 rfl rfl (.cons (.closed rfl) (.cons (.closed rfl) .nil)) (hc1) (by simp) (dc rfl) ?_; intro _ hv; subst hv) | (refine ar_pcall (own := false) fn9 rfl rfl (.cons (.closed rfl) (.cons (.closed rfl) .nil)) (u0) (by simp) (dc rfl) ?_; intro _ hv; subst hv) | (refine ar_pcall (own := false) fn9 rfl rfl (.cons (.closed rfl) (.cons (.closed rfl) .nil)) (u1) (by simp) (dc rfl) ?_; intro _ hv; subst hv) | (refine ar_pcall (own := false) fn12 rfl rfl (.cons (.closed rfl) (.cons (.closed rfl) .nil)) (hd) (by simp) (dc rfl) ?_; intro _ hv; subst hv) | (refine ar_pcall (own := false) fn13 rfl rfl (.cons (.closed rfl) (.cons (.closed rfl) (.cons (.closed rfl) .nil))) (h4) (by simp) (dc rfl) ?_; intro _ hv; subst hv) | (refine ar_pcall (own := false) fn13 rfl rfl (.cons (.closed rfl) (.cons (.closed rfl) (.cons (.closed rfl) .nil))) (h5) (by simp) (dc rfl) ?_; intro _ hv; subst hv) | (refine zal ?_) | (refine zsvs ?_) | (refine zsva ?_) | (refine zses ?_) | (refine zsea ?_) | (refine zg ?_ ?_ <;> intro hg <;> first | exact absurd hg (by decide) | ((try replace hg := HG.out hg); (try dsimp only at hg); (try (have _h : True := hg; clear _h hg)); first | (exfalso; omega) | skip)) | (refine zgu ?_) | (refine ar_nil ?_) | (refine aw_seq ?_) | (refine aw_skip ?_) | (refine aw_block ?_) | (refine aw_exit ?_) | (refine aw_region ?_) | (refine zco ?_ ?_ <;> intro hg <;> first | exact absurd hg (by decide) | ((try replace hg := HG.out hg); (try dsimp only at hg); (try (have _h : True := hg; clear _h hg)); first | (exfalso; omega) | skip))))
  all_goals first
    | (exfalso; omega)
    | ((refine aw_ret ?_; (repeat (first | refine ret_then ?_ | refine ret_block ?_)); refine bq1 rfl ⟨?_, rfl⟩); rfl)
    | trace_state
end Go.Proofs.Ytloaefllpokkaaa
namespace Go.Proofs.Ytloaefllpokkaaa
open Go.RowKit
section
variable (p : Pat) (j w least : Int)
abbrev GreatC (p : Pat) : Prop := PCalls Try.prog 7 [p.enc] (fun v => ∃ bx, v = vb bx ∧ (bx = false → p.ros.length ≤ 120 ∧ p.rub.length ≤ 120 ∧ p.shifts.length ≤ 20))

set_option maxRecDepth 20000 in
set_option maxHeartbeats 4000000 in
theorem walled_w (hw : ¬ (1 ≤ w ∧ w ≤ 20)) (hgr : GreatC p) : PCalls Try.prog 3 [p.enc, vi j, vi w, vi least] (· = vb true) := by
  refine pcalls_of_aw Try.func3 rfl (Nat.le_of_ble_eq_true rfl) ?_
  (repeat' (first | (refine ar_isq ?_; first | refine zmv ?_ | refine zas ?_ | (refine is_load ?_; first | refine zlp ?_ | refine zlr ?_) | (refine is_binOp ?_; first | refine zlss ?_ | refine zleq ?_ | refine zgtr ?_ | refine zeql ?_ | refine zneq ?_ | refine zadd ?_ | refine zmul ?_) | (refine is_fieldAddr ?_; first | refine zfp ?_ | refine zfr ?_) | (refine is_call ?_; first | refine zll ?_ | refine zls ?_ | refine zln ?_ | refine zle ?_) | (refine is_pick ?_; first | refine zpt ?_ | refine zpf ?_) | refine zex ?_ | refine znt ?_) | (refine ar_pcall (own := false) fn6 rfl rfl .nil (alive05_p) (by simp) (dc rfl) ?_; intro _ hv; subst hv) | ((refine ar_pcall (own := false) fn7 rfl rfl (.cons (.closed rfl) .nil) (hgr) (by simp) (dc rfl) ?_; rintro _ ⟨bx, rfl, hbx⟩)) | (refine zbx ?_) | (refine zal ?_) | (refine zsvs ?_) | (refine zsva ?_) | (refine zses ?_) | (refine zsea ?_) | (refine zg ?_ ?_ <;> intro hg <;> first | exact absurd hg (by decide) | ((try replace hg := HG.out hg); (try dsimp only at hg); (try (have _h : True := hg; clear _h hg)); first | (exfalso; omega) | skip)) | (refine zgu ?_) | (refine ar_nil ?_) | (refine aw_seq ?_) | (refine aw_skip ?_) | (refine aw_block ?_) | (refine aw_exit ?_) | (refine aw_region ?_) | (refine zco ?_ ?_ <;> intro hg <;> first | exact absurd hg (by decide) | ((try replace hg := HG.out hg); (try dsimp only at hg); (try (have _h : True := hg; clear _h hg)); first | (exfalso; omega) | skip))))
  all_goals first
    | (exfalso; omega)
    | ((refine aw_ret ?_; (repeat (first | refine ret_then ?_ | refine ret_block ?_)); refine bq1 rfl ⟨?_, rfl⟩); rfl)
    | trace_state
set_option maxRecDepth 20000 in
set_option maxHeartbeats 4000000 in
theorem walled_e (x y : List Int) (e f j1 : Int) (hef : e ≠ 0 ∨ f ≠ 0) (hj : IntKind.i64.wrap (j + 1) = j1) (hgr : GreatC p) (hc0 : PCalls Try.prog 8 [p.enc, vi j] (· = .tup [encInts x, vi e])) (hc1 : PCalls Try.prog 8 [p.enc, vi j1] (· = .tup [encInts y, vi f])) :
    PCalls Try.prog 3 [p.enc, vi j, vi w, vi least] (· = vb true) := by
  refine pcalls_of_aw Try.func3 rfl (Nat.le_of_ble_eq_true rfl) ?_
  (repeat' (first | (refine ar_isq ?_; first | refine zmv ?_ | refine zas ?_ | (refine is_load ?_; first | refine zlp ?_ | refine zlr ?_) | (refine is_binOp ?_; first | refine zlss ?_ | refine zleq ?_ | refine zgtr ?_ | refine zeql ?_ | refine zneq ?_ | refine zadd ?_ | refine zmul ?_) | (refine is_fieldAddr ?_; first | refine zfp ?_ | refine zfr ?_) | (refine is_call ?_; first | refine zll ?_ | refine zls ?_ | refine zln ?_ | refine zle ?_) | (refine is_pick ?_; first | refine zpt ?_ | refine zpf ?_) | refine zex ?_ | refine znt ?_) | (refine ar_pcall (own := false) fn6 rfl rfl .nil (alive05_p) (by simp) (dc rfl) ?_; intro _ hv; subst hv) | ((refine ar_pcall (own := false) fn7 rfl rfl (.cons (.closed rfl) .nil) (hgr) (by simp) (dc rfl) ?_; rintro _ ⟨bx, rfl, hbx⟩)) | (refine ar_pcall (own := false) fn8 rfl rfl (.cons (.closed rfl) (.cons (.closed rfl) .nil)) (hc0) (by simp) (dc rfl) ?_; intro _ hv; subst hv) | (refine ar_pcall (own := false) fn8 rfl rfl (.cons (.closed rfl) (.cons (.closed rfl) .nil)) (hc1) (by simp) (dc rfl) ?_; intro _ hv; subst hv) | (refine ar_q (qs_add (r := j1) rfl rfl hj) (dc rfl) ?_) | (refine zbx ?_) | (refine zal ?_) | (refine zsvs ?_) | (refine zsva ?_) | (refine zses ?_) | (refine zsea ?_) | (refine zg ?_ ?_ <;> intro hg <;> first | exact absurd hg (by decide) | ((try replace hg := HG.out hg); (try dsimp only at hg); (try (have _h : True := hg; clear _h hg)); first | (exfalso; omega) | skip)) | (refine zgu ?_) | (refine ar_nil ?_) | (refine aw_seq ?_) | (refine aw_skip ?_) | (refine aw_block ?_) | (refine aw_exit ?_) | (refine aw_region ?_) | (refine zco ?_ ?_ <;> intro hg <;> first | exact absurd hg (by decide) | ((try replace hg := HG.out hg); (try dsimp only at hg); (try (have _h : True := hg; clear _h hg)); first | (exfalso; omega) | skip))))
  all_goals first
    | (exfalso; omega)
    | ((refine aw_ret ?_; (repeat (first | refine ret_then ?_ | refine ret_block ?_)); refine bq1 rfl ⟨?_, rfl⟩); rfl)
    | trace_state
set_option maxRecDepth 20000 in
set_option maxHeartbeats 4000000 in
theorem walled_u (x y : List Int) (A B : List Spt) (o1 o2 : Bool) (ho : (o1 && o2) = false) (hj : -5000 ≤ j ∧ j ≤ 5000) (hgr : GreatC p) (hc0 : PCalls Try.prog 8 [p.enc, vi j] (· = .tup [encInts x, vi 0])) (hc1 : PCalls Try.prog 8 [p.enc, vi (j + 1)] (· = .tup [encInts y, vi 0]))
    (hu0 : PCalls Try.prog 9 [encInts x, vi w] (· = .tup [encSpts A, vb o1])) (hu1 : PCalls Try.prog 9 [encInts y, vi w] (· = .tup [encSpts B, vb o2])) :
    PCalls Try.prog 3 [p.enc, vi j, vi w, vi least] (· = vb true) := by
  cases o1 <;> cases o2 <;> (try cases ho)
  all_goals
    refine pcalls_of_aw Try.func3 rfl (Nat.le_of_ble_eq_true rfl) ?_
    (repeat' (first | (refine ar_isq ?_; first | refine zmv ?_ | refine zas ?_ | (refine is_load ?_; first | refine zlp ?_ | refine zlr ?_) | (refine is_binOp ?_; first | refine zlss ?_ | refine zleq ?_ | refine zgtr ?_ | refine zeql ?_ | refine zneq ?_ | refine zadd ?_ | refine zmul ?_) | (refine is_fieldAddr ?_; first | refine zfp ?_ | refine zfr ?_) | (refine is_call ?_; first | refine zll ?_ | refine zls ?_ | refine zln ?_ | refine zle ?_) | (refine is_pick ?_; first | refine zpt ?_ | refine zpf ?_) | refine zex ?_ | refine znt ?_) | (refine ar_pcall (own := false) fn6 rfl rfl .nil (alive05_p) (by simp) (dc rfl) ?_; intro _ hv; subst hv) | ((refine ar_pcall (own := false) fn7 rfl rfl (.cons (.closed rfl) .nil) (hgr) (by simp) (dc rfl) ?_; rintro _ ⟨bx, rfl, hbx⟩)) | (refine ar_pcall (own := false) fn8 rfl rfl (.cons (.closed rfl) (.cons (.closed rfl) .nil)) (hc0) (by simp) (dc rfl) ?_; intro _ hv; subst hv) | (refine ar_pcall (own := false) fn8 rfl rfl (.cons (.closed rfl) (.cons (.closed rfl) .nil)) (hc1) (by simp) (dc rfl) ?_; intro _ hv; subst hv) | (refine ar_pcall (own := false) fn9 rfl rfl (.cons (.closed rfl) (.cons (.closed rfl) .nil)) (hu0) (by simp) (dc rfl) ?_; intro _ hv; subst hv) | (refine ar_pcall (own := false) fn9 rfl rfl (.cons (.closed rfl) (.cons (.closed rfl) .nil)) (hu1) (by simp) (dc rfl) ?_; intro _ hv; subst hv) | (refine zbx ?_) | (refine zal ?_) | (refine zsvs ?_) | (refine zsva ?_) | (refine zses ?_) | (refine zsea ?_) | (refine zg ?_ ?_ <;> intro hg <;> first | exact absurd hg (by decide) | ((try replace hg := HG.out hg); (try dsimp only at hg); (try (have _h : True := hg; clear _h hg)); first | (exfalso; omega) | skip)) | (refine zgu ?_) | (refine ar_nil ?_) | (refine aw_seq ?_) | (refine aw_skip ?_) | (refine aw_block ?_) | (refine aw_exit ?_) | (refine aw_region ?_) | (refine zco ?_ ?_ <;> intro hg <;> first | exact absurd hg (by decide) | ((try replace hg := HG.out hg); (try dsimp only at hg); (try (have _h : True := hg; clear _h hg)); first | (exfalso; omega) | skip))))
    all_goals first
      | (exfalso; omega)
      | ((refine aw_ret ?_; (repeat (first | refine ret_then ?_ | refine ret_block ?_)); refine bq1 rfl ⟨?_, rfl⟩); rfl)
      | trace_state
set_option maxRecDepth 20000 in
set_option maxHeartbeats 8000000 in
theorem walled_g (x y : List Int) (A B : List Spt) (g s G : Int) (hl : A.length = B.length) (hj : -5000 ≤ j ∧ j ≤ 5000) (hGg : G ≤ g) (hg : g ≤ 0) (hgr : GreatC p) (hc0 : PCalls Try.prog 8 [p.enc, vi j] (· = .tup [encInts x, vi 0])) (hc1 : PCalls Try.prog 8 [p.enc, vi (j + 1)] (· = .tup [encInts y, vi 0]))
    (hu0 : PCalls Try.prog 9 [encInts x, vi w] (· = .tup [encSpts A, vb true])) (hu1 : PCalls Try.prog 9 [encInts y, vi w] (· = .tup [encSpts B, vb true]))
    (hst : PCalls Try.prog 10 [encSpts A, encSpts B] (· = .tup [vi g, vi s])) (hgap : PCalls Try.prog 11 [p.enc] (· = .tup [vi G, vi 0])) :
    PCalls Try.prog 3 [p.enc, vi j, vi w, vi least] (· = vb true) := by
  refine pcalls_of_aw Try.func3 rfl (Nat.le_of_ble_eq_true rfl) ?_
  (repeat' (first | (refine ar_isq ?_; first | refine zmv ?_ | refine zas ?_ | (refine is_load ?_; first | refine zlp ?_ | refine zlr ?_) | (refine is_binOp ?_; first | refine zlss ?_ | refine zleq ?_ | refine zgtr ?_ | refine zeql ?_ | refine zneq ?_ | refine zadd ?_ | refine zmul ?_) | (refine is_fieldAddr ?_; first | refine zfp ?_ | refine zfr ?_) | (refine is_call ?_; first | refine zll ?_ | refine zls ?_ | refine zln ?_ | refine zle ?_) | (refine is_pick ?_; first | refine zpt ?_ | refine zpf ?_) | refine zex ?_ | refine znt ?_) | (refine ar_pcall (own := false) fn6 rfl rfl .nil (alive05_p) (by simp) (dc rfl) ?_; intro _ hv; subst hv) | ((refine ar_pcall (own := false) fn7 rfl rfl (.cons (.closed rfl) .nil) (hgr) (by simp) (dc rfl) ?_; rintro _ ⟨bx, rfl, hbx⟩)) | (refine ar_pcall (own := false) fn8 rfl rfl (.cons (.closed rfl) (.cons (.closed rfl) .nil)) (hc0) (by simp) (dc rfl) ?_; intro _ hv; subst hv) | (refine ar_pcall (own := false) fn8 rfl rfl (.cons (.closed rfl) (.cons (.closed rfl) .nil)) (hc1) (by simp) (dc rfl) ?_; intro _ hv; subst hv) | (refine ar_pcall (own := false) fn9 rfl rfl (.cons (.closed rfl) (.cons (.closed rfl) .nil)) (hu0) (by simp) (dc rfl) ?_; intro _ hv; subst hv) | (refine ar_pcall (own := false) fn9 rfl rfl (.cons (.closed rfl) (.cons (.closed rfl) .nil)) (hu1) (by simp) (dc rfl) ?_; intro _ hv; subst hv) | (refine ar_pcall (own := false) fn10 rfl rfl (.cons (.closed rfl) (.cons (.closed rfl) .nil)) (hst) (by simp) (dc rfl) ?_; intro _ hv; subst hv) | (refine ar_pcall (own := false) fn11 rfl rfl (.cons (.closed rfl) .nil) (hgap) (by simp) (dc rfl) ?_; intro _ hv; subst hv) | (refine zbx ?_) | (refine zal ?_) | (refine zsvs ?_) | (refine zsva ?_) | (refine zses ?_) | (refine zsea ?_) | (refine zg ?_ ?_ <;> intro hg <;> first | exact absurd hg (by decide) | ((try replace hg := HG.out hg); (try dsimp only at hg); (try (have _h : True := hg; clear _h hg)); first | (exfalso; omega) | skip)) | (refine zgu ?_) | (refine ar_nil ?_) | (refine aw_seq ?_) | (refine aw_skip ?_) | (refine aw_block ?_) | (refine aw_exit ?_) | (refine aw_region ?_) | (refine zco ?_ ?_ <;> intro hg <;> first | exact absurd hg (by decide) | ((try replace hg := HG.out hg); (try dsimp only at hg); (try (have _h : True := hg; clear _h hg)); first | (exfalso; omega) | skip))))
  all_goals first
    | (exfalso; omega)
    | ((refine aw_ret ?_; (repeat (first | refine ret_then ?_ | refine ret_block ?_)); refine bq1 rfl ⟨?_, rfl⟩); rfl)
    | trace_state
set_option maxRecDepth 20000 in
set_option maxHeartbeats 16000000 in
theorem walled_y (x y : List Int) (A B : List Spt) (g s G a b : Int) (is : Bool) (i : Int) (hl : A.length = B.length) (hj : -5000 ≤ j ∧ j ≤ 5000) (hw : 1 ≤ w ∧ w ≤ 20) (hGg : G ≤ g) (hg : 0 < g ∧ g ≤ 400) (hs : 0 ≤ s ∧ s ≤ 400) (ha : 0 ≤ a ∧ a ≤ 36864000000) (hb : 1 ≤ b ∧ b ≤ 217600) (h1 : a ≤ g * g * b) (h2 : g * g * w * w * b ≤ a * (w * w + s * s))
    (h3 : (0 ≤ least ∧ least ≤ 30000) → i = 0 ∧ (is = true → least ≤ g) ∧ (is = false → 400 < least ∨ g * g * w * w < least * least * (w * w + s * s))) (h4 : ¬ (0 ≤ least ∧ least ≤ 30000) → i = 2)
    (hgr : GreatC p) (hc0 : PCalls Try.prog 8 [p.enc, vi j] (· = .tup [encInts x, vi 0])) (hc1 : PCalls Try.prog 8 [p.enc, vi (j + 1)] (· = .tup [encInts y, vi 0]))
    (hu0 : PCalls Try.prog 9 [encInts x, vi w] (· = .tup [encSpts A, vb true])) (hu1 : PCalls Try.prog 9 [encInts y, vi w] (· = .tup [encSpts B, vb true]))
    (hst : PCalls Try.prog 10 [encSpts A, encSpts B] (· = .tup [vi g, vi s])) (hgap : PCalls Try.prog 11 [p.enc] (· = .tup [vi G, vi 0]))
    (hd : PCalls Try.prog 12 [encSpts A, encSpts B] (· = .tup [.agg [vi a, vi b], vi 0])) (hap : PCalls Try.prog 13 [encSpts A, encSpts B, vi least] (· = .tup [vb is, vi i])) :
    PCalls Try.prog 3 [p.enc, vi j, vi w, vi least] (· = vb true) := by
  have ww := mul_bnd (a := w) (b := w) (K := 20) (L := 20) (by omega) (by omega)
  have w0 := sq_pos w
  have ss := mul_bnd (a := s) (b := s) (K := 400) (L := 400) (by omega) (by omega)
  have s0 := sq_pos s
  have gg := mul_bnd (a := g) (b := g) (K := 400) (L := 400) (by omega) (by omega)
  have ggb := mul_bnd (a := g * g) (b := b) (K := 160000) (L := 217600) (by omega) (by omega)
  have ggw := mul_bnd (a := g * g) (b := w) (K := 160000) (L := 20) (by omega) (by omega)
  have gww := mul_bnd (a := g * g * w) (b := w) (K := 3200000) (L := 20) (by omega) (by omega)
  have gwb := mul_bnd (a := g * g * w * w) (b := b) (K := 64000000) (L := 217600) (by omega) (by omega)
  have asl := mul_bnd (a := a) (b := w * w + s * s) (K := 36864000000) (L := 160400) (by omega) (by omega)
  by_cases hin : 0 ≤ least ∧ least ≤ 30000
  · obtain ⟨rfl, h5, h6⟩ := h3 hin
    by_cases h400 : least ≤ 400
    · have ll := mul_bnd (a := least) (b := least) (K := 400) (L := 400) (by omega) (by omega)
      have lls := mul_bnd (a := least * least) (b := w * w + s * s) (K := 160000) (L := 160400) (by omega) (by omega)
      cases is
      · have h6 := h6 rfl
        refine pcalls_of_aw Try.func3 rfl (Nat.le_of_ble_eq_true rfl) ?_
        (repeat' (first | (refine ar_isq ?_; first | refine zmv ?_ | refine zas ?_ | (refine is_load ?_; first | refine zlp ?_ | refine zlr ?_) | (refine is_binOp ?_; first | refine zlss ?_ | refine zleq ?_ | refine zgtr ?_ | refine zeql ?_ | refine zneq ?_ | refine zadd ?_ | refine zmul ?_) | (refine is_fieldAddr ?_; first | refine zfp ?_ | refine zfr ?_) | (refine is_call ?_; first | refine zll ?_ | refine zls ?_ | refine zln ?_ | refine zle ?_) | (refine is_pick ?_; first | refine zpt ?_ | refine zpf ?_) | refine zex ?_ | refine znt ?_) | (refine ar_pcall (own := false) fn6 rfl rfl .nil (alive05_p) (by simp) (dc rfl) ?_; intro _ hv; subst hv) | ((refine ar_pcall (own := false) fn7 rfl rfl (.cons (.closed rfl) .nil) (hgr) (by simp) (dc rfl) ?_; rintro _ ⟨bx, rfl, hbx⟩)) | (refine ar_pcall (own := false) fn8 rfl rfl (.cons (.closed rfl) (.cons (.closed rfl) .nil)) (hc0) (by simp) (dc rfl) ?_; intro _ hv; subst hv) | (refine ar_pcall (own := false) fn8 rfl rfl (.cons (.closed rfl) (.cons (.closed rfl) .nil)) (hc1) (by simp) (dc rfl) ?_; intro _ hv; subst hv) | (refine ar_pcall (own := false) fn9 rfl rfl (.cons (.closed rfl) (.cons (.closed rfl) .nil)) (hu0) (by simp) (dc rfl) ?_; intro _ hv; subst hv) | (refine ar_pcall (own := false) fn9 rfl rfl (.cons (.closed rfl) (.cons (.closed rfl) .nil)) (hu1) (by simp) (dc rfl) ?_; intro _ hv; subst hv) | (refine ar_pcall (own := false) fn10 rfl rfl (.cons (.closed rfl) (.cons (.closed rfl) .nil)) (hst) (by simp) (dc rfl) ?_; intro _ hv; subst hv) | (refine ar_pcall (own := false) fn11 rfl rfl (.cons (.closed rfl) .nil) (hgap) (by simp) (dc rfl) ?_; intro _ hv; subst hv) | (refine ar_pcall (own := false) fn12 rfl rfl (.cons (.closed rfl) (.cons (.closed rfl) .nil)) (hd) (by simp) (dc rfl) ?_; intro _ hv; subst hv) | (refine ar_pcall (own := false) fn13 rfl rfl (.cons (.closed rfl) (.cons (.closed rfl) (.cons (.closed rfl) .nil))) (hap) (by simp) (dc rfl) ?_; intro _ hv; subst hv) | (refine zbx ?_) | (refine zal ?_) | (refine zsvs ?_) | (refine zsva ?_) | (refine zses ?_) | (refine zsea ?_) | (refine zg ?_ ?_ <;> intro hg <;> first | exact absurd hg (by decide) | ((try replace hg := HG.out hg); (try dsimp only at hg); (try (have _h : True := hg; clear _h hg)); first | (exfalso; omega) | skip)) | (refine zgu ?_) | (refine ar_nil ?_) | (refine aw_seq ?_) | (refine aw_skip ?_) | (refine aw_block ?_) | (refine aw_exit ?_) | (refine aw_region ?_) | (refine zco ?_ ?_ <;> intro hg <;> first | exact absurd hg (by decide) | ((try replace hg := HG.out hg); (try dsimp only at hg); (try (have _h : True := hg; clear _h hg)); first | (exfalso; omega) | skip))))
        all_goals first
          | (exfalso; omega)
          | ((refine aw_ret ?_; (repeat (first | refine ret_then ?_ | refine ret_block ?_)); refine bq1 rfl ⟨?_, rfl⟩); rfl)
          | trace_state
      · have h5 := h5 rfl
        refine pcalls_of_aw Try.func3 rfl (Nat.le_of_ble_eq_true rfl) ?_
        (repeat' (first | (refine ar_isq ?_; first | refine zmv ?_ | refine zas ?_ | (refine is_load ?_; first | refine zlp ?_ | refine zlr ?_) | (refine is_binOp ?_; first | refine zlss ?_ | refine zleq ?_ | refine zgtr ?_ | refine zeql ?_ | refine zneq ?_ | refine zadd ?_ | refine zmul ?_) | (refine is_fieldAddr ?_; first | refine zfp ?_ | refine zfr ?_) | (refine is_call ?_; first | refine zll ?_ | refine zls ?_ | refine zln ?_ | refine zle ?_) | (refine is_pick ?_; first | refine zpt ?_ | refine zpf ?_) | refine zex ?_ | refine znt ?_) | (refine ar_pcall (own := false) fn6 rfl rfl .nil (alive05_p) (by simp) (dc rfl) ?_; intro _ hv; subst hv) | ((refine ar_pcall (own := false) fn7 rfl rfl (.cons (.closed rfl) .nil) (hgr) (by simp) (dc rfl) ?_; rintro _ ⟨bx, rfl, hbx⟩)) | (refine ar_pcall (own := false) fn8 rfl rfl (.cons (.closed rfl) (.cons (.closed rfl) .nil)) (hc0) (by simp) (dc rfl) ?_; intro _ hv; subst hv) | (refine ar_pcall (own := false) fn8 rfl rfl (.cons (.closed rfl) (.cons (.closed rfl) .nil)) (hc1) (by simp) (dc rfl) ?_; intro _ hv; subst hv) | (refine ar_pcall (own := false) fn9 rfl rfl (.cons (.closed rfl) (.cons (.closed rfl) .nil)) (hu0) (by simp) (dc rfl) ?_; intro _ hv; subst hv) | (refine ar_pcall (own := false) fn9 rfl rfl (.cons (.closed rfl) (.cons (.closed rfl) .nil)) (hu1) (by simp) (dc rfl) ?_; intro _ hv; subst hv) | (refine ar_pcall (own := false) fn10 rfl rfl (.cons (.closed rfl) (.cons (.closed rfl) .nil)) (hst) (by simp) (dc rfl) ?_; intro _ hv; subst hv) | (refine ar_pcall (own := false) fn11 rfl rfl (.cons (.closed rfl) .nil) (hgap) (by simp) (dc rfl) ?_; intro _ hv; subst hv) | (refine ar_pcall (own := false) fn12 rfl rfl (.cons (.closed rfl) (.cons (.closed rfl) .nil)) (hd) (by simp) (dc rfl) ?_; intro _ hv; subst hv) | (refine ar_pcall (own := false) fn13 rfl rfl (.cons (.closed rfl) (.cons (.closed rfl) (.cons (.closed rfl) .nil))) (hap) (by simp) (dc rfl) ?_; intro _ hv; subst hv) | (refine zbx ?_) | (refine zal ?_) | (refine zsvs ?_) | (refine zsva ?_) | (refine zses ?_) | (refine zsea ?_) | (refine zg ?_ ?_ <;> intro hg <;> first | exact absurd hg (by decide) | ((try replace hg := HG.out hg); (try dsimp only at hg); (try (have _h : True := hg; clear _h hg)); first | (exfalso; omega) | skip)) | (refine zgu ?_) | (refine ar_nil ?_) | (refine aw_seq ?_) | (refine aw_skip ?_) | (refine aw_block ?_) | (refine aw_exit ?_) | (refine aw_region ?_) | (refine zco ?_ ?_ <;> intro hg <;> first | exact absurd hg (by decide) | ((try replace hg := HG.out hg); (try dsimp only at hg); (try (have _h : True := hg; clear _h hg)); first | (exfalso; omega) | skip))))
        all_goals first
          | (exfalso; omega)
          | ((refine aw_ret ?_; (repeat (first | refine ret_then ?_ | refine ret_block ?_)); refine bq1 rfl ⟨?_, rfl⟩); rfl)
          | trace_state
    · cases is
      · refine pcalls_of_aw Try.func3 rfl (Nat.le_of_ble_eq_true rfl) ?_
        (repeat' (first | (refine ar_isq ?_; first | refine zmv ?_ | refine zas ?_ | (refine is_load ?_; first | refine zlp ?_ | refine zlr ?_) | (refine is_binOp ?_; first | refine zlss ?_ | refine zleq ?_ | refine zgtr ?_ | refine zeql ?_ | refine zneq ?_ | refine zadd ?_ | refine zmul ?_) | (refine is_fieldAddr ?_; first | refine zfp ?_ | refine zfr ?_) | (refine is_call ?_; first | refine zll ?_ | refine zls ?_ | refine zln ?_ | refine zle ?_) | (refine is_pick ?_; first | refine zpt ?_ | refine zpf ?_) | refine zex ?_ | refine znt ?_) | (refine ar_pcall (own := false) fn6 rfl rfl .nil (alive05_p) (by simp) (dc rfl) ?_; intro _ hv; subst hv) | ((refine ar_pcall (own := false) fn7 rfl rfl (.cons (.closed rfl) .nil) (hgr) (by simp) (dc rfl) ?_; rintro _ ⟨bx, rfl, hbx⟩)) | (refine ar_pcall (own := false) fn8 rfl rfl (.cons (.closed rfl) (.cons (.closed rfl) .nil)) (hc0) (by simp) (dc rfl) ?_; intro _ hv; subst hv) | (refine ar_pcall (own := false) fn8 rfl rfl (.cons (.closed rfl) (.cons (.closed rfl) .nil)) (hc1) (by simp) (dc rfl) ?_; intro _ hv; subst hv) | (refine ar_pcall (own := false) fn9 rfl rfl (.cons (.closed rfl) (.cons (.closed rfl) .nil)) (hu0) (by simp) (dc rfl) ?_; intro _ hv; subst hv) | (refine ar_pcall (own := false) fn9 rfl rfl (.cons (.closed rfl) (.cons (.closed rfl) .nil)) (hu1) (by simp) (dc rfl) ?_; intro _ hv; subst hv) | (refine ar_pcall (own := false) fn10 rfl rfl (.cons (.closed rfl) (.cons (.closed rfl) .nil)) (hst) (by simp) (dc rfl) ?_; intro _ hv; subst hv) | (refine ar_pcall (own := false) fn11 rfl rfl (.cons (.closed rfl) .nil) (hgap) (by simp) (dc rfl) ?_; intro _ hv; subst hv) | (refine ar_pcall (own := false) fn12 rfl rfl (.cons (.closed rfl) (.cons (.closed rfl) .nil)) (hd) (by simp) (dc rfl) ?_; intro _ hv; subst hv) | (refine ar_pcall (own := false) fn13 rfl rfl (.cons (.closed rfl) (.cons (.closed rfl) (.cons (.closed rfl) .nil))) (hap) (by simp) (dc rfl) ?_; intro _ hv; subst hv) | (refine zbx ?_) | (refine zal ?_) | (refine zsvs ?_) | (refine zsva ?_) | (refine zses ?_) | (refine zsea ?_) | (refine zg ?_ ?_ <;> intro hg <;> first | exact absurd hg (by decide) | ((try replace hg := HG.out hg); (try dsimp only at hg); (try (have _h : True := hg; clear _h hg)); first | (exfalso; omega) | skip)) | (refine zgu ?_) | (refine ar_nil ?_) | (refine aw_seq ?_) | (refine aw_skip ?_) | (refine aw_block ?_) | (refine aw_exit ?_) | (refine aw_region ?_) | (refine zco ?_ ?_ <;> intro hg <;> first | exact absurd hg (by decide) | ((try replace hg := HG.out hg); (try dsimp only at hg); (try (have _h : True := hg; clear _h hg)); first | (exfalso; omega) | skip))))
        all_goals first
          | (exfalso; omega)
          | ((refine aw_ret ?_; (repeat (first | refine ret_then ?_ | refine ret_block ?_)); refine bq1 rfl ⟨?_, rfl⟩); rfl)
          | trace_state
      · have h5 := h5 rfl
        omega
  · obtain rfl := h4 hin
    refine pcalls_of_aw Try.func3 rfl (Nat.le_of_ble_eq_true rfl) ?_
    (repeat' (first | (refine ar_isq ?_; first | refine zmv ?_ | refine zas ?_ | (refine is_load ?_; first | refine zlp ?_ | refine zlr ?_) | (refine is_binOp ?_; first | refine zlss ?_ | refine zleq ?_ | refine zgtr ?_ | refine zeql ?_ | refine zneq ?_ | refine zadd ?_ | refine zmul ?_) | (refine is_fieldAddr ?_; first | refine zfp ?_ | refine zfr ?_) | (refine is_call ?_; first | refine zll ?_ | refine zls ?_ | refine zln ?_ | refine zle ?_) | (refine is_pick ?_; first | refine zpt ?_ | refine zpf ?_) | refine zex ?_ | refine znt ?_) | (refine ar_pcall (own := false) fn6 rfl rfl .nil (alive05_p) (by simp) (dc rfl) ?_; intro _ hv; subst hv) | ((refine ar_pcall (own := false) fn7 rfl rfl (.cons (.closed rfl) .nil) (hgr) (by simp) (dc rfl) ?_; rintro _ ⟨bx, rfl, hbx⟩)) | (refine ar_pcall (own := false) fn8 rfl rfl (.cons (.closed rfl) (.cons (.closed rfl) .nil)) (hc0) (by simp) (dc rfl) ?_; intro _ hv; subst hv) | (refine ar_pcall (own := false) fn8 rfl rfl (.cons (.closed rfl) (.cons (.closed rfl) .nil)) (hc1) (by simp) (dc rfl) ?_; intro _ hv; subst hv) | (refine ar_pcall (own := false) fn9 rfl rfl (.cons (.closed rfl) (.cons (.closed rfl) .nil)) (hu0) (by simp) (dc rfl) ?_; intro _ hv; subst hv) | (refine ar_pcall (own := false) fn9 rfl rfl (.cons (.closed rfl) (.cons (.closed rfl) .nil)) (hu1) (by simp) (dc rfl) ?_; intro _ hv; subst hv) | (refine ar_pcall (own := false) fn10 rfl rfl (.cons (.closed rfl) (.cons (.closed rfl) .nil)) (hst) (by simp) (dc rfl) ?_; intro _ hv; subst hv) | (refine ar_pcall (own := false) fn11 rfl rfl (.cons (.closed rfl) .nil) (hgap) (by simp) (dc rfl) ?_; intro _ hv; subst hv) | (refine ar_pcall (own := false) fn12 rfl rfl (.cons (.closed rfl) (.cons (.closed rfl) .nil)) (hd) (by simp) (dc rfl) ?_; intro _ hv; subst hv) | (refine ar_pcall (own := false) fn13 rfl rfl (.cons (.closed rfl) (.cons (.closed rfl) (.cons (.closed rfl) .nil))) (hap) (by simp) (dc rfl) ?_; intro _ hv; subst hv) | (refine zbx ?_) | (refine zal ?_) | (refine zsvs ?_) | (refine zsva ?_) | (refine zses ?_) | (refine zsea ?_) | (refine zg ?_ ?_ <;> intro hg <;> first | exact absurd hg (by decide) | ((try replace hg := HG.out hg); (try dsimp only at hg); (try (have _h : True := hg; clear _h hg)); first | (exfalso; omega) | skip)) | (refine zgu ?_) | (refine ar_nil ?_) | (refine aw_seq ?_) | (refine aw_skip ?_) | (refine aw_block ?_) | (refine aw_exit ?_) | (refine aw_region ?_) | (refine zco ?_ ?_ <;> intro hg <;> first | exact absurd hg (by decide) | ((try replace hg := HG.out hg); (try dsimp only at hg); (try (have _h : True := hg; clear _h hg)); first | (exfalso; omega) | skip))))
    all_goals first
      | (exfalso; omega)
      | ((refine aw_ret ?_; (repeat (first | refine ret_then ?_ | refine ret_block ?_)); refine bq1 rfl ⟨?_, rfl⟩); rfl)
      | trace_state
end
end Go.Proofs.Ytloaefllpokkaaa
namespace Go.Proofs.Ytloaefllpokkaaa
open Go.RowKit
theorem unr_any (c : List Int) (w : Int) (hw : 1 ≤ w ∧ w ≤ 20) : (Low c (min c.length 12) ∧ PCalls Try.prog 9 [encInts c, vi w] (· = .tup [encSpts (unF c w), vb true])) ∨ PCalls Try.prog 9 [encInts c, vi w] (· = .tup [encSpts [], vb false]) := by
  by_cases h : ∃ k, k < min c.length 12 ∧ ¬ (-200 ≤ el c k ∧ el c k ≤ 200)
  · obtain ⟨k, hk, hb⟩ := h
    obtain ⟨M, h1, h2, h3⟩ := least_nat (P := fun k => ¬ (-200 ≤ el c k ∧ el c k ≤ 200)) k hb
    exact .inr (unr_bad c w hw M (by omega) (fun i hi => by have := h3 i hi; omega) (by omega))
  · have hL : Low c (min c.length 12) := fun i hi => by
      by_cases hc : -200 ≤ el c i ∧ el c i ≤ 200
      · exact hc
      · exact (h ⟨i, hi, hc⟩).elim
    exact .inl ⟨hL, unr_ok c w hw hL⟩
theorem low_terms {n d G a b X Y : Int} (hG : 0 < G) (hn : n = a * G) (hd : d = b * G) (h : X * d ≤ n * Y) : X * b ≤ a * Y := by
  subst hn hd
  refine Int.le_of_mul_le_mul_right ?_ hG
  have e1 : X * b * G = X * (b * G) := Int.mul_assoc _ _ _
  have e2 : a * Y * G = a * G * Y := by rw [Int.mul_assoc, Int.mul_comm Y G, ← Int.mul_assoc]
  rw [e1, e2]
  exact h
theorem sq_lt {a b : Int} (h0 : 0 ≤ a) (h : a < b) : a * a < b * b := by
  have h1 := Int.mul_le_mul_of_nonneg_left (show a ≤ b by omega) h0
  have h2 := Int.mul_lt_mul_of_pos_right h (show 0 < b by omega)
  omega
theorem topWalled_p (p : Pat) (_o0 : p.wf) (j : Int) (_o1 : i64ok j) (w : Int) (_o2 : i64ok w) (least : Int) (_o3 : i64ok least) : PCalls Try.prog 3 [p.enc, vi j, vi w, vi least] (· = vb true) := by
  have hgr := great04_p p
  by_cases hw : 1 ≤ w ∧ w ≤ 20
  case neg => exact walled_w p j w least hw hgr
  have hc0 := cut_p p j
  by_cases e0 : p.cutE j = 0
  case neg => exact walled_e p j w least _ _ _ _ _ (.inl e0) rfl hgr hc0 (cut_p p _)
  have hE : p.err = 0 ∧ -5000 ≤ j ∧ j ≤ 5000 := by
    unfold Pat.cutE at e0
    split at e0
    · rename_i h
      split at e0
      · rename_i h2; exact ⟨h, withinB_iff.1 h2⟩
      · cases e0
    · rename_i h; exact (h e0).elim
  obtain ⟨h0, hj⟩ := hE
  have hc1 := cut_p p (j + 1)
  by_cases e1 : p.cutE (j + 1) = 0
  case neg => exact walled_e p j w least _ _ _ _ (j + 1) (.inr e1) (wrap64 (by omega)) hgr hc0 hc1
  rw [e0, if_pos rfl] at hc0
  rw [e1, if_pos rfl] at hc1
  have hk := pat_ok h0
  have hst := hk.steps
  have hcu := hk.cuts
  have lx := cut_len (p := p) j
  have ly := cut_len (p := p) (j + 1)
  rcases unr_any (p.cut j) w hw with ⟨lox, hu0⟩ | hu0
  case inr =>
    rcases unr_any (p.cut (j + 1)) w hw with ⟨_, hu1⟩ | hu1
    · exact walled_u p j w least _ _ _ _ false true rfl hj hgr hc0 hc1 hu0 hu1
    · exact walled_u p j w least _ _ _ _ false false rfl hj hgr hc0 hc1 hu0 hu1
  rcases unr_any (p.cut (j + 1)) w hw with ⟨loy, hu1⟩ | hu1
  case inr => exact walled_u p j w least _ _ _ _ true false rfl hj hgr hc0 hc1 hu0 hu1
  have la := un_len (p.cut j) w
  have lb := un_len (p.cut (j + 1)) w
  have tx := un_tame (w := w) lox
  have ty := un_tame (w := w) loy
  have hsp := steps_p (unF (p.cut j) w) (unF (p.cut (j + 1)) w) (by omega) tx ty (by omega)
  rw [la] at hsp
  have hgap := gap_p p
  rw [if_pos h0, h0] at hgap
  obtain ⟨k, hkm, hke⟩ := stG_at tx ty (min (p.cut j).length 12) (by omega) (by omega) (by omega)
  rw [un_el (by omega), un_el (by omega)] at hke
  have hke : el (p.cut (j + 1)) k - el (p.cut j) k = stG (unF (p.cut j) w) (unF (p.cut (j + 1)) w) (min (p.cut j).length 12) := hke
  have hGg := gap_le (p := p) (j := j) (i := k) (by omega) (by omega)
  rw [hke] at hGg
  have hgb := stG_bnd tx ty (min (p.cut j).length 12) (by omega) (by omega)
  have hsb := stS_bnd tx ty (min (p.cut j).length 12) (by omega) (by omega)
  by_cases hg : 0 < stG (unF (p.cut j) w) (unF (p.cut (j + 1)) w) (min (p.cut j).length 12)
  case neg => exact walled_g p j w least _ _ _ _ _ _ _ (by omega) hj hGg (by omega) hgr hc0 hc1 hu0 hu1 hsp hgap
  have hW := walled_of hw (by omega) (by omega) lox loy hg
  have hl1 := lox k hkm
  have hl2 := loy k (by omega)
  generalize stG (unF (p.cut j) w) (unF (p.cut (j + 1)) w) (min (p.cut j).length 12) = g at *
  generalize stS (unF (p.cut j) w) (unF (p.cut (j + 1)) w) (min (p.cut j).length 12) = s at *
  have hF := farOk_un hW hw lox (by rw [show min (p.cut j).length 12 = min (p.cut (j + 1)).length 12 by omega]; exact loy)
  have l1 := un_line hw lox (by omega)
  have l2 := un_line hw loy (by omega)
  have hlo := wall_low hW
  have hhi := wall_high hW hkm hke
  have hfg := far_good (p := unF (p.cut j) w) (q := unF (p.cut (j + 1)) w) (by rw [(seg_un hW _ rfl).1]; omega) (by rw [(seg_un hW _ (by omega)).1]; omega)
  have hmid : Mid 36864000000 217600 (dfarF (unF (p.cut j) w) (unF (p.cut (j + 1)) w)) := mid_farI (show Mid _ _ (1, 0) by unfold Mid; omega) _ fun a b ha hb => hF.low a b ha hb
  unfold Mid at hmid
  have hd := distance_p _ _ _ _ hF (by omega) l1 l2 ⟨hfg.2, hfg.1⟩
  have hap := apartT_p _ _ least _ _ hF (by omega) l1 l2
  unfold disG at hd
  generalize dfarF (unF (p.cut j) w) (unF (p.cut (j + 1)) w) = F at *
  obtain ⟨n, hn⟩ : ∃ n : Nat, F.1 = n := Int.eq_ofNat_of_zero_le hfg.2
  obtain ⟨d, hdd⟩ : ∃ d : Nat, F.2 = d := Int.eq_ofNat_of_zero_le (by omega)
  rw [hn, hdd] at hd hap hlo hhi hmid hfg
  rw [Int.toNat_natCast, Int.toNat_natCast] at hd
  have hd0 : 0 < d := by omega
  have hG : 0 < Nat.gcd n d := Nat.gcd_pos_of_pos_right _ hd0
  have n1 : (n : Int) = (n / Nat.gcd n d : Nat) * (Nat.gcd n d : Nat) := by rw [← Int.natCast_mul, Nat.div_mul_cancel (Nat.gcd_dvd_left n d)]
  have d1 : (d : Int) = (d / Nat.gcd n d : Nat) * (Nat.gcd n d : Nat) := by rw [← Int.natCast_mul, Nat.div_mul_cancel (Nat.gcd_dvd_right n d)]
  have hb1 : 1 ≤ d / Nat.gcd n d := Nat.div_pos (Nat.le_of_dvd hd0 (Nat.gcd_dvd_right n d)) hG
  have hb2 : d / Nat.gcd n d ≤ d := Nat.div_le_self _ _
  have ha2 : n / Nat.gcd n d ≤ n := Nat.div_le_self _ _
  have ha0 : (0 : Int) ≤ ((n / Nat.gcd n d : Nat) : Int) := Int.natCast_nonneg _
  have ha3 : ((n / Nat.gcd n d : Nat) : Int) ≤ n := Int.ofNat_le.2 ha2
  have hb3 : ((d / Nat.gcd n d : Nat) : Int) ≤ d := Int.ofNat_le.2 hb2
  have hb4 : (1 : Int) ≤ ((d / Nat.gcd n d : Nat) : Int) := Int.ofNat_le.2 hb1
  have hGi : (0 : Int) < (Nat.gcd n d : Nat) := by omega
  have q1 := low_terms (X := g * g * (w * w)) (Y := w * w + s * s) hGi n1 d1 hlo
  have q2 : ((n / Nat.gcd n d : Nat) : Int) ≤ g * g * (d / Nat.gcd n d : Nat) := by
    refine Int.le_of_mul_le_mul_right ?_ hGi
    rw [← n1, Int.mul_assoc, ← d1]
    exact hhi
  rw [← Int.mul_assoc] at q1
  have hss : 0 < w * w + s * s := by have := sq_pos s; have := Int.mul_pos (show 0 < w by omega) (show 0 < w by omega); omega
  refine walled_y p j w least _ _ _ _ g s p.gap _ _ (withinB least 0 30000 && !decide ((n : Int) < least * least * d)) _ (by omega) hj hw hGg ⟨hg, by omega⟩ hsb ⟨ha0, Int.le_trans ha3 hmid.1.2⟩ ⟨hb4, Int.le_trans hb3 hmid.2.2⟩ q2 q1 (fun hin => ?_) (fun hin => ?_) hgr hc0 hc1 hu0 hu1 hsp hgap hd hap
  · have hwi : withinB least 0 30000 = true := withinB_iff.2 hin
    refine ⟨by rw [if_pos hwi], fun h => ?_, fun h => ?_⟩
    · rw [hwi, Bool.true_and, Bool.not_eq_true', decide_eq_false_iff_not] at h
      rcases Int.lt_or_le g least with c | c
      · have h5 := sq_lt (by omega) c
        have h6 := Int.mul_lt_mul_of_pos_right h5 (show (0 : Int) < d by omega)
        omega
      · exact c
    · rw [hwi, Bool.true_and, Bool.not_eq_false', decide_eq_true_iff] at h
      refine .inr ?_
      have h5 := Int.mul_lt_mul_of_pos_right h hss
      refine Int.lt_of_mul_lt_mul_right (a := (d : Int)) ?_ (by omega)
      have e1 : least * least * (w * w + s * s) * d = least * least * d * (w * w + s * s) := by rw [Int.mul_assoc, Int.mul_comm (w * w + s * s), ← Int.mul_assoc]
      have e2 : g * g * w * w * d = g * g * (w * w) * d := by rw [Int.mul_assoc (g * g) w w]
      rw [e1, e2]
      omega
  · have hwi : ¬ withinB least 0 30000 = true := fun h => hin (withinB_iff.1 h)
    rw [if_neg hwi]
end Go.Proofs.Ytloaefllpokkaaa
