/- HouseTells: the walk of the law. No condition. -/
import Derived.Test.YtbilpbabdgfblaaKXu11
set_option linter.unusedSimpArgs false
set_option linter.unusedVariables false
namespace Go.Proofs.Ytbilpbabdgfblaa
open Go.RowKit

set_option maxHeartbeats 2000000 in
theorem sameOrigin_p (o : Org) : PCalls Try.prog 15 [o.enc, o.enc] (· = vb true) := by
  refine pcalls_of_aw Try.func15 rfl (Nat.le_of_ble_eq_true rfl) ?_
  (repeat' (first | (refine ar_isq ?_; first | refine zmv ?_ | refine zas ?_ | (refine is_load ?_; first | refine zlp ?_ | refine zlr ?_) | refine zeql ?_ | (refine is_fieldAddr ?_; first | refine zfp ?_ | refine zfr ?_) | (refine is_pick ?_; first | refine zpt ?_ | refine zpf ?_)) | (refine ar_pcall (own := false) fn34 rfl rfl (.cons (.closed rfl) (.cons (.closed rfl) .nil)) (sameInts_p o.line) (by simp) (dc rfl) ?_; intro _ hv; subst hv) | (refine zbx ?_) | (refine zg ?_ ?_ <;> intro hg <;> first | exact absurd hg (by decide) | ((try replace hg := HG.out hg); (try dsimp only at hg); (try (have _h : True := hg; clear _h hg)); first | (exfalso; omega) | skip)) | (refine zgu ?_) | (refine ar_nil ?_) | (refine aw_seq ?_) | (refine aw_skip ?_) | (refine aw_block ?_) | (refine aw_exit ?_) | (refine aw_region ?_) | (refine zco ?_ ?_ <;> intro hg <;> first | exact absurd hg (by decide) | ((try replace hg := HG.out hg); (try dsimp only at hg); (try (have _h : True := hg; clear _h hg)); first | (exfalso; omega) | skip))))
  all_goals first
    | (exfalso; simp at *; done)
    | ((refine aw_ret ?_; (repeat (first | refine ret_then ?_ | refine ret_block ?_)); refine bq1 rfl ⟨?_, rfl⟩); rfl)
    | trace_state
set_option maxHeartbeats 4000000 in
theorem houseTells_p (h : Hse) (hw : h.wf) (a : Int) (_ha : i64ok a) (b : Int) (_hb : i64ok b) : PCalls Try.prog 4 [h.enc, vi a, vi b] (· = vb true) := by
  have hst : StOk h.store := stOk_wf hw.2.2.1
  refine pcalls_of_aw Try.func4 rfl (Nat.le_of_ble_eq_true rfl) ?_
  (repeat' (first | (refine ar_isq ?_; first | refine zmv ?_ | refine zas ?_ | (refine is_load ?_; first | refine zlp ?_ | refine zlr ?_) | refine zeql ?_ | (refine is_pick ?_; first | refine zpt ?_ | refine zpf ?_) | refine zex ?_) | (refine ar_pcall (own := false) fn5 rfl rfl (.cons (.closed rfl) .nil) (rgreat_p h) (by simp) (dc rfl) ?_; rintro _ (rfl | ⟨rfl, hs⟩)) | (refine ar_pcall (own := false) fn9 rfl rfl (.cons (.closed rfl) (.cons (.closed rfl) .nil)) (hTrace_p h a hs hst) (by simp) (dc rfl) ?_; intro _ hv; subst hv) | (refine ar_pcall (own := false) fn10 rfl rfl (.cons (.closed rfl) (.cons (.closed rfl) .nil)) (rTrace_p h a hs) (by simp) (dc rfl) ?_; intro _ hv; subst hv) | (refine ar_pcall (own := false) fn11 rfl rfl (.cons (.closed rfl) (.cons (.closed rfl) .nil)) (hImage_p h a hs hst) (by simp) (dc rfl) ?_; intro _ hv; subst hv) | (refine ar_pcall (own := false) fn12 rfl rfl (.cons (.closed rfl) (.cons (.closed rfl) .nil)) (rImage_p h a hs) (by simp) (dc rfl) ?_; intro _ hv; subst hv) | (refine ar_pcall (own := false) fn13 rfl rfl (.cons (.closed rfl) (.cons (.closed rfl) .nil)) (hReport_p h b hs hst) (by simp) (dc rfl) ?_; intro _ hv; subst hv) | (refine ar_pcall (own := false) fn14 rfl rfl (.cons (.closed rfl) (.cons (.closed rfl) .nil)) (rReport_p h b hs) (by simp) (dc rfl) ?_; intro _ hv; subst hv) | (refine ar_pcall (own := false) fn15 rfl rfl (.cons (.closed rfl) (.cons (.closed rfl) .nil)) (sameOrigin_p (traceF h a)) (by simp) (dc rfl) ?_; intro _ hv; subst hv) | (refine ar_pcall (own := false) fn16 rfl rfl (.cons (.closed rfl) (.cons (.closed rfl) .nil)) (sameBools_p (imageF h a)) (by simp) (dc rfl) ?_; intro _ hv; subst hv) | (refine zbx ?_) | (refine zal ?_) | (refine zsvs ?_) | (refine zsva ?_) | (refine zses ?_) | (refine zsea ?_) | (refine zg ?_ ?_ <;> intro hg <;> first | exact absurd hg (by decide) | ((try replace hg := HG.out hg); (try dsimp only at hg); (try (have _h : True := hg; clear _h hg)); first | (exfalso; omega) | skip)) | (refine zgu ?_) | (refine ar_nil ?_) | (refine aw_seq ?_) | (refine aw_skip ?_) | (refine aw_block ?_) | (refine aw_exit ?_) | (refine aw_region ?_) | (refine zco ?_ ?_ <;> intro hg <;> first | exact absurd hg (by decide) | ((try replace hg := HG.out hg); (try dsimp only at hg); (try (have _h : True := hg; clear _h hg)); first | (exfalso; omega) | skip))))
  all_goals first
    | (exfalso; simp at *; done)
    | ((refine aw_ret ?_; (repeat (first | refine ret_then ?_ | refine ret_block ?_)); refine bq1 rfl ⟨?_, rfl⟩); rfl)
    | ((refine aw_ret ?_; (repeat (first | refine ret_then ?_ | refine ret_block ?_)); refine bq1 rfl ⟨?_, rfl⟩); exact congrArg vb (decide_eq_true rfl))
    | trace_state
end Go.Proofs.Ytbilpbabdgfblaa
