/- A pattern on a plate: the law answers true. No condition. -/
import Derived.Test.YtloaefllpokkaaaKTw6
set_option linter.unusedSimpArgs false
set_option linter.unusedVariables false
namespace Go.Proofs.Ytloaefllpokkaaa
open Go.RowKit
theorem cut_bnd {p : Pat} (hk : p.Ok) {j : Int} (hj : -5000 ≤ j ∧ j ≤ 5000) {i : Nat} (hi : i < p.ros.length) : -6000000 ≤ el (p.cut j) i ∧ el (p.cut j) i ≤ 6000000 := by
  have h1 := mul_adv hk hj
  have h2 := at_bnd hk ((i : Int) - p.phase j)
  have h3 := mul_throw hk (x := p.at ((i : Int) - p.phase j)) (by omega)
  have h4 := hk.start
  rw [cut_el hi]
  omega
theorem gap_bnd {p : Pat} (hk : p.Ok) : -300000 ≤ p.gap ∧ p.gap ≤ 300000 := by
  have hn := hk.steps
  have hc := hk.cuts
  obtain ⟨k, i, _, hi, he⟩ := mem_dif (p := p) (minF_mem (List.length_pos_of_mem (dif_mem (p := p) (k := 0) (i := 0) (by omega) (by omega))))
  have h1 := at_bnd hk ((i : Int) - el p.shifts k)
  have h2 := lift_hb hk hi
  have h3 := mul_throw hk (x := p.at ((i : Int) - el p.shifts k) - el p.lift i) (by omega)
  have h4 := hk.adv
  unfold Pat.gap
  rw [he]
  unfold Pat.dif
  omega

set_option maxRecDepth 20000 in
set_option maxHeartbeats 4000000 in
theorem topWoven_p (p : Pat) (_o0 : p.wf) (s : Sheet) (_o1 : i64ok s.cols ∧ i64ok s.rows ∧ i64ok s.weight ∧ i64ok s.clear ∧ i64ok s.lean) (n : Int) (_o2 : i64ok n) (per : Int) (_o3 : i64ok per) :
    PCalls Try.prog 4 [p.enc, s.enc, vi n, vi per] (· = vb true) := by
  have hgr := great04_p p
  by_cases hn : 1 ≤ n ∧ n ≤ 12
  case neg =>
    refine pcalls_of_aw Try.func4 rfl (Nat.le_of_ble_eq_true rfl) ?_
    (repeat' (first | (refine ar_isq ?_; first | refine zmv ?_ | refine zas ?_ | (refine is_load ?_; first | refine zlp ?_ | refine zlr ?_) | (refine is_binOp ?_; first | refine zlss ?_ | refine zleq ?_ | refine zgtr ?_ | refine zgeq ?_ | refine zeql ?_ | refine zneq ?_ | refine zadd ?_ | refine zsub ?_ | refine zmul ?_ | refine zquo ?_) | (refine is_fieldAddr ?_; first | refine zfp ?_ | refine zfr ?_) | (refine is_indexAddr ?_; first | refine zil ?_ | refine zis ?_ | refine zit ?_ | refine zia ?_ | refine zir ?_ | (refine zxl ?_; intro _ _ _) | (refine zxs ?_; intro _ _ _)) | (refine is_call ?_; first | refine zll ?_ | refine zls ?_ | refine zln ?_ | refine zle ?_) | (refine is_pick ?_; first | refine zpt ?_ | refine zpf ?_) | refine zex ?_ | (refine is_unOp ?_; first | refine znt ?_ | refine zng ?_)) | (refine ar_pcall (own := false) fn14 rfl rfl .nil (alive08_p) (by simp) (dc rfl) ?_; intro _ hv; subst hv) | ((refine ar_pcall (own := false) fn7 rfl rfl (.cons (.closed rfl) .nil) (hgr) (by simp) (dc rfl) ?_; rintro _ ⟨bx, rfl, hbx⟩)) | (refine zbx ?_) | (refine zg ?_ ?_ <;> intro hg <;> first | exact absurd hg (by decide) | ((try replace hg := HG.out hg); (try dsimp only at hg); (try (have _h : True := hg; clear _h hg)); first | (exfalso; omega) | skip)) | (refine zgu ?_) | (refine ar_nil ?_) | (refine aw_seq ?_) | (refine aw_skip ?_) | (refine aw_block ?_) | (refine aw_exit ?_) | (refine aw_region ?_) | (refine zco ?_ ?_ <;> intro hg <;> first | exact absurd hg (by decide) | ((try replace hg := HG.out hg); (try dsimp only at hg); (try (have _h : True := hg; clear _h hg)); first | (exfalso; omega) | skip))))
    all_goals first
      | (exfalso; omega)
      | ((refine aw_ret ?_; (repeat (first | refine ret_then ?_ | refine ret_block ?_)); refine bq1 rfl ⟨?_, rfl⟩); rfl)
      | trace_state
  by_cases h0 : p.err = 0
  case neg =>
    have hw := woven_bad p h0 n hn
    refine pcalls_of_aw Try.func4 rfl (Nat.le_of_ble_eq_true rfl) ?_
    (repeat' (first | (refine ar_isq ?_; first | refine zmv ?_ | refine zas ?_ | (refine is_load ?_; first | refine zlp ?_ | refine zlr ?_) | (refine is_binOp ?_; first | refine zlss ?_ | refine zleq ?_ | refine zgtr ?_ | refine zgeq ?_ | refine zeql ?_ | refine zneq ?_ | refine zadd ?_ | refine zsub ?_ | refine zmul ?_ | refine zquo ?_) | (refine is_fieldAddr ?_; first | refine zfp ?_ | refine zfr ?_) | (refine is_indexAddr ?_; first | refine zil ?_ | refine zis ?_ | refine zit ?_ | refine zia ?_ | refine zir ?_ | (refine zxl ?_; intro _ _ _) | (refine zxs ?_; intro _ _ _)) | (refine is_call ?_; first | refine zll ?_ | refine zls ?_ | refine zln ?_ | refine zle ?_) | (refine is_pick ?_; first | refine zpt ?_ | refine zpf ?_) | refine zex ?_ | (refine is_unOp ?_; first | refine znt ?_ | refine zng ?_)) | (refine ar_pcall (own := false) fn14 rfl rfl .nil (alive08_p) (by simp) (dc rfl) ?_; intro _ hv; subst hv) | ((refine ar_pcall (own := false) fn7 rfl rfl (.cons (.closed rfl) .nil) (hgr) (by simp) (dc rfl) ?_; rintro _ ⟨bx, rfl, hbx⟩)) | (refine ar_pcall (own := false) fn15 rfl rfl (.cons (.closed rfl) (.cons (.closed rfl) .nil)) (hw) (by simp) (dc rfl) ?_; intro _ hv; subst hv) | (refine zbx ?_) | (refine zg ?_ ?_ <;> intro hg <;> first | exact absurd hg (by decide) | ((try replace hg := HG.out hg); (try dsimp only at hg); (try (have _h : True := hg; clear _h hg)); first | (exfalso; omega) | skip)) | (refine zgu ?_) | (refine ar_nil ?_) | (refine aw_seq ?_) | (refine aw_skip ?_) | (refine aw_block ?_) | (refine aw_exit ?_) | (refine aw_region ?_) | (refine zco ?_ ?_ <;> intro hg <;> first | exact absurd hg (by decide) | ((try replace hg := HG.out hg); (try dsimp only at hg); (try (have _h : True := hg; clear _h hg)); first | (exfalso; omega) | skip))))
    all_goals first
      | (exfalso; omega)
      | ((refine aw_ret ?_; (repeat (first | refine ret_then ?_ | refine ret_block ?_)); refine bq1 rfl ⟨?_, rfl⟩); rfl)
      | trace_state
  have hk := pat_ok h0
  have hst := hk.steps
  obtain ⟨k, rfl⟩ : ∃ k : Nat, n = k := Int.eq_ofNat_of_zero_le (by omega)
  have hw := woven_ok p h0 k (by omega)
  have hcs := checkSheet_p s
  by_cases hs : s.ok = true ∧ (p.ros.length : Int) = s.cols
  case neg =>
    generalize wovF p k = b at *
    by_cases h1 : s.ok = true
    · rw [err_ok h1] at hcs
      have h2 : ¬ (p.ros.length : Int) = s.cols := fun h => hs ⟨h1, h⟩
      refine pcalls_of_aw Try.func4 rfl (Nat.le_of_ble_eq_true rfl) ?_
      (repeat' (first | (refine ar_isq ?_; first | refine zmv ?_ | refine zas ?_ | (refine is_load ?_; first | refine zlp ?_ | refine zlr ?_) | (refine is_binOp ?_; first | refine zlss ?_ | refine zleq ?_ | refine zgtr ?_ | refine zgeq ?_ | refine zeql ?_ | refine zneq ?_ | refine zadd ?_ | refine zsub ?_ | refine zmul ?_ | refine zquo ?_) | (refine is_fieldAddr ?_; first | refine zfp ?_ | refine zfr ?_) | (refine is_indexAddr ?_; first | refine zil ?_ | refine zis ?_ | refine zit ?_ | refine zia ?_ | refine zir ?_ | (refine zxl ?_; intro _ _ _) | (refine zxs ?_; intro _ _ _)) | (refine is_call ?_; first | refine zll ?_ | refine zls ?_ | refine zln ?_ | refine zle ?_) | (refine is_pick ?_; first | refine zpt ?_ | refine zpf ?_) | refine zex ?_ | (refine is_unOp ?_; first | refine znt ?_ | refine zng ?_)) | (refine ar_pcall (own := false) fn14 rfl rfl .nil (alive08_p) (by simp) (dc rfl) ?_; intro _ hv; subst hv) | ((refine ar_pcall (own := false) fn7 rfl rfl (.cons (.closed rfl) .nil) (hgr) (by simp) (dc rfl) ?_; rintro _ ⟨bx, rfl, hbx⟩)) | (refine ar_pcall (own := false) fn15 rfl rfl (.cons (.closed rfl) (.cons (.closed rfl) .nil)) (hw) (by simp) (dc rfl) ?_; intro _ hv; subst hv) | (refine ar_pcall (own := false) fn16 rfl rfl (.cons (.closed rfl) .nil) (hcs) (by simp) (dc rfl) ?_; intro _ hv; subst hv) | (refine zbx ?_) | (refine zg ?_ ?_ <;> intro hg <;> first | exact absurd hg (by decide) | ((try replace hg := HG.out hg); (try dsimp only at hg); (try (have _h : True := hg; clear _h hg)); first | (exfalso; omega) | skip)) | (refine zgu ?_) | (refine ar_nil ?_) | (refine aw_seq ?_) | (refine aw_skip ?_) | (refine aw_block ?_) | (refine aw_exit ?_) | (refine aw_region ?_) | (refine zco ?_ ?_ <;> intro hg <;> first | exact absurd hg (by decide) | ((try replace hg := HG.out hg); (try dsimp only at hg); (try (have _h : True := hg; clear _h hg)); first | (exfalso; omega) | skip))))
      all_goals first
        | (exfalso; omega)
        | ((refine aw_ret ?_; (repeat (first | refine ret_then ?_ | refine ret_block ?_)); refine bq1 rfl ⟨?_, rfl⟩); rfl)
        | trace_state
    · rw [err_bad (by simpa using h1)] at hcs
      refine pcalls_of_aw Try.func4 rfl (Nat.le_of_ble_eq_true rfl) ?_
      (repeat' (first | (refine ar_isq ?_; first | refine zmv ?_ | refine zas ?_ | (refine is_load ?_; first | refine zlp ?_ | refine zlr ?_) | (refine is_binOp ?_; first | refine zlss ?_ | refine zleq ?_ | refine zgtr ?_ | refine zgeq ?_ | refine zeql ?_ | refine zneq ?_ | refine zadd ?_ | refine zsub ?_ | refine zmul ?_ | refine zquo ?_) | (refine is_fieldAddr ?_; first | refine zfp ?_ | refine zfr ?_) | (refine is_indexAddr ?_; first | refine zil ?_ | refine zis ?_ | refine zit ?_ | refine zia ?_ | refine zir ?_ | (refine zxl ?_; intro _ _ _) | (refine zxs ?_; intro _ _ _)) | (refine is_call ?_; first | refine zll ?_ | refine zls ?_ | refine zln ?_ | refine zle ?_) | (refine is_pick ?_; first | refine zpt ?_ | refine zpf ?_) | refine zex ?_ | (refine is_unOp ?_; first | refine znt ?_ | refine zng ?_)) | (refine ar_pcall (own := false) fn14 rfl rfl .nil (alive08_p) (by simp) (dc rfl) ?_; intro _ hv; subst hv) | ((refine ar_pcall (own := false) fn7 rfl rfl (.cons (.closed rfl) .nil) (hgr) (by simp) (dc rfl) ?_; rintro _ ⟨bx, rfl, hbx⟩)) | (refine ar_pcall (own := false) fn15 rfl rfl (.cons (.closed rfl) (.cons (.closed rfl) .nil)) (hw) (by simp) (dc rfl) ?_; intro _ hv; subst hv) | (refine ar_pcall (own := false) fn16 rfl rfl (.cons (.closed rfl) .nil) (hcs) (by simp) (dc rfl) ?_; intro _ hv; subst hv) | (refine zbx ?_) | (refine zg ?_ ?_ <;> intro hg <;> first | exact absurd hg (by decide) | ((try replace hg := HG.out hg); (try dsimp only at hg); (try (have _h : True := hg; clear _h hg)); first | (exfalso; omega) | skip)) | (refine zgu ?_) | (refine ar_nil ?_) | (refine aw_seq ?_) | (refine aw_skip ?_) | (refine aw_block ?_) | (refine aw_exit ?_) | (refine aw_region ?_) | (refine zco ?_ ?_ <;> intro hg <;> first | exact absurd hg (by decide) | ((try replace hg := HG.out hg); (try dsimp only at hg); (try (have _h : True := hg; clear _h hg)); first | (exfalso; omega) | skip))))
      all_goals first
        | (exfalso; omega)
        | ((refine aw_ret ?_; (repeat (first | refine ret_then ?_ | refine ret_block ?_)); refine bq1 rfl ⟨?_, rfl⟩); rfl)
        | trace_state
  have hF : Fits p s k := ⟨by omega, by have := hk.cuts; omega, hs.1, hs.2, by omega, by omega⟩
  rw [err_ok hs.1] at hcs
  have hgap := gap_p p
  rw [if_pos h0, h0] at hgap
  have hcl : PCalls Try.prog 17 [p.enc] (· = .tup [vi p.closes, vi 0]) := (closes_p p).mono fun v h => by
    obtain ⟨n, rfl, hn⟩ := h
    rw [hn h0, h0]
  refine topWoven_yes p s k per (wovF p k) p.gap p.closes (checkErr s (wovF p k)) (gapF s (wovF p k)) (gapErr s (wovF p k)) (lastF s (wovF p k) per) (lastErr s (wovF p k) per) hs.1 hn hs.2 (by rw [wov_len]) (fun j hj => ?_) (fun j i hj hi => ?_) (gap_bnd hk) hgr hw hcs hgap hcl (check_p _ _) (lGap_p _ _) (lLasts_p _ _ _) (wov_ink hF) (wov_band hF) (wov_err hF) (fun h => wov_none hF (by rcases h with h | h; exact .inl h; exact .inr (by omega))) (fun h h2 => ?_) (fun h h2 hp hg => wov_last hF h (by omega) hp hg)
  · exact wov_row (el_mem hj)
  · rw [wov_len] at hj
    rw [wov_el hj]
    exact cut_bnd hk (by omega) hi
  · obtain ⟨g1, g2, g3⟩ := wov_gap hF h (by omega)
    refine ⟨g1, g2, fun hc => g3 ?_⟩
    have := mot_closes (p := p) hF.steps
    omega
end Go.Proofs.Ytloaefllpokkaaa
