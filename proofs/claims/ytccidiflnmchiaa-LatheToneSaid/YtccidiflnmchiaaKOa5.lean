/- Parts of the proof: a layer of values over the model, and contracts of functions. No condition. -/
import Derived.Test.YtccidiflnmchiaaKOa4
namespace Go.Proofs.Ytccidiflnmchiaa
open Go.RowKit
set_option maxHeartbeats 1000000 in
theorem curves_p (s : Sheet) (top bottom : List Int) : PCalls Try.prog 56 [s.enc, encInts top, encInts bottom] (· = vi (curvesErr s top bottom)) := by
  (refine pcalls_know (fun I us h => rel_len (rel_arg h (j := 1) rfl)) fun hlen1 => ?_)
  (refine pcalls_know (fun I us h => rel_len (rel_arg h (j := 2) rfl)) fun hlen2 => ?_)
  cases hs : s.ok
  · rw [curvesErr_sheet hs]
    have he := err_bad hs
    refine pcalls_of_aw Try.func56 rfl (Nat.le_of_ble_eq_true rfl) ?_
    (repeat' (first | (refine ar_isq ?_; first | refine zmv ?_ | refine zas ?_ | (refine is_load ?_; first | refine zlp ?_ | refine zlr ?_) | (refine is_binOp ?_; first | refine zlss ?_ | refine zneq ?_ | refine zadd ?_) | (refine is_indexAddr ?_; first | refine zil ?_ | refine zis ?_ | refine zit ?_ | refine zia ?_ | refine zir ?_ | (refine zxl ?_; intro _ _ _) | (refine zxs ?_; intro _ _ _)) | (refine is_call ?_; first | refine zll ?_ | refine zls ?_ | refine zln ?_ | refine zle ?_) | (refine is_pick ?_; first | refine zpt ?_ | refine zpf ?_) | refine znt ?_) | (refine ar_pcall (own := false) fn28 rfl rfl (.cons (.closed rfl) .nil) (checkSheet_p s) (by simp) (dc rfl) ?_; intro _ hv; subst hv) | (refine zbx ?_) | (refine zg ?_ ?_ <;> intro hg <;> first | exact absurd hg (by decide) | ((try replace hg := HG.out hg); (try dsimp only at hg); (try (have _h : True := hg; clear _h hg)); first | (exfalso; omega) | skip)) | (refine zgu ?_) | (refine ar_nil ?_) | (refine aw_seq ?_) | (refine aw_skip ?_) | (refine aw_block ?_) | (refine aw_exit ?_) | (refine aw_region ?_) | (refine zco ?_ ?_ <;> intro hg <;> first | exact absurd hg (by decide) | ((try replace hg := HG.out hg); (try dsimp only at hg); (try (have _h : True := hg; clear _h hg)); first | (exfalso; omega) | skip))))
    all_goals first
      | (exfalso; omega)
      | ((refine aw_ret ?_; (repeat (first | refine ret_then ?_ | refine ret_block ?_)); refine bq1 rfl ⟨?_, rfl⟩); rw [he])
  have he := err_ok hs
  cases h1 : isLineB s top
  · rw [curvesErr_no hs (by rw [h1]; rfl)]
    refine pcalls_of_aw Try.func56 rfl (Nat.le_of_ble_eq_true rfl) ?_
    (repeat' (first | (refine ar_isq ?_; first | refine zmv ?_ | refine zas ?_ | (refine is_load ?_; first | refine zlp ?_ | refine zlr ?_) | (refine is_binOp ?_; first | refine zlss ?_ | refine zneq ?_ | refine zadd ?_) | (refine is_indexAddr ?_; first | refine zil ?_ | refine zis ?_ | refine zit ?_ | refine zia ?_ | refine zir ?_ | (refine zxl ?_; intro _ _ _) | (refine zxs ?_; intro _ _ _)) | (refine is_call ?_; first | refine zll ?_ | refine zls ?_ | refine zln ?_ | refine zle ?_) | (refine is_pick ?_; first | refine zpt ?_ | refine zpf ?_) | refine znt ?_) | (refine ar_pcall (own := false) fn28 rfl rfl (.cons (.closed rfl) .nil) (checkSheet_p s) (by simp) (dc rfl) ?_; intro _ hv; subst hv) | (refine ar_pcall (own := false) fn89 rfl rfl (.cons (.closed rfl) (.cons (.closed rfl) .nil)) (isLine_p s hs _) (by simp) (dc rfl) ?_; intro _ hv; subst hv) | (refine zbx ?_) | (refine zg ?_ ?_ <;> intro hg <;> first | exact absurd hg (by decide) | ((try replace hg := HG.out hg); (try dsimp only at hg); (try (have _h : True := hg; clear _h hg)); first | (exfalso; omega) | skip)) | (refine zgu ?_) | (refine ar_nil ?_) | (refine aw_seq ?_) | (refine aw_skip ?_) | (refine aw_block ?_) | (refine aw_exit ?_) | (refine aw_region ?_) | (refine zco ?_ ?_ <;> intro hg <;> first | exact absurd hg (by decide) | ((try replace hg := HG.out hg); (try dsimp only at hg); (try (have _h : True := hg; clear _h hg)); first | (exfalso; omega) | skip))))
    all_goals first
      | (exfalso; omega)
      | ((refine aw_ret ?_; (repeat (first | refine ret_then ?_ | refine ret_block ?_)); refine bq1 rfl ⟨?_, rfl⟩); rfl)
      | (exfalso; simp_all; done)
  cases h2 : isLineB s bottom
  · rw [curvesErr_no hs (by rw [h1, h2]; rfl)]
    refine pcalls_of_aw Try.func56 rfl (Nat.le_of_ble_eq_true rfl) ?_
    (repeat' (first | (refine ar_isq ?_; first | refine zmv ?_ | refine zas ?_ | (refine is_load ?_; first | refine zlp ?_ | refine zlr ?_) | (refine is_binOp ?_; first | refine zlss ?_ | refine zneq ?_ | refine zadd ?_) | (refine is_indexAddr ?_; first | refine zil ?_ | refine zis ?_ | refine zit ?_ | refine zia ?_ | refine zir ?_ | (refine zxl ?_; intro _ _ _) | (refine zxs ?_; intro _ _ _)) | (refine is_call ?_; first | refine zll ?_ | refine zls ?_ | refine zln ?_ | refine zle ?_) | (refine is_pick ?_; first | refine zpt ?_ | refine zpf ?_) | refine znt ?_) | (refine ar_pcall (own := false) fn28 rfl rfl (.cons (.closed rfl) .nil) (checkSheet_p s) (by simp) (dc rfl) ?_; intro _ hv; subst hv) | (refine ar_pcall (own := false) fn89 rfl rfl (.cons (.closed rfl) (.cons (.closed rfl) .nil)) (isLine_p s hs _) (by simp) (dc rfl) ?_; intro _ hv; subst hv) | (refine zbx ?_) | (refine zg ?_ ?_ <;> intro hg <;> first | exact absurd hg (by decide) | ((try replace hg := HG.out hg); (try dsimp only at hg); (try (have _h : True := hg; clear _h hg)); first | (exfalso; omega) | skip)) | (refine zgu ?_) | (refine ar_nil ?_) | (refine aw_seq ?_) | (refine aw_skip ?_) | (refine aw_block ?_) | (refine aw_exit ?_) | (refine aw_region ?_) | (refine zco ?_ ?_ <;> intro hg <;> first | exact absurd hg (by decide) | ((try replace hg := HG.out hg); (try dsimp only at hg); (try (have _h : True := hg; clear _h hg)); first | (exfalso; omega) | skip))))
    all_goals first
      | (exfalso; omega)
      | ((refine aw_ret ?_; (repeat (first | refine ret_then ?_ | refine ret_block ?_)); refine bq1 rfl ⟨?_, rfl⟩); rfl)
      | (exfalso; simp_all; done)
  have l1 := isLine_len h1
  have l2 := isLine_len h2
  refine pcalls_of_aw Try.func56 rfl (Nat.le_of_ble_eq_true rfl) ?_
  (repeat' (first | (refine ar_isq ?_; first | refine zmv ?_ | refine zas ?_ | (refine is_load ?_; first | refine zlp ?_ | refine zlr ?_) | (refine is_binOp ?_; first | refine zlss ?_ | refine zneq ?_ | refine zadd ?_) | (refine is_indexAddr ?_; first | refine zil ?_ | refine zis ?_ | refine zit ?_ | refine zia ?_ | refine zir ?_ | (refine zxl ?_; intro _ _ _) | (refine zxs ?_; intro _ _ _)) | (refine is_call ?_; first | refine zll ?_ | refine zls ?_ | refine zln ?_ | refine zle ?_) | (refine is_pick ?_; first | refine zpt ?_ | refine zpf ?_) | refine znt ?_) | (refine ar_pcall (own := false) fn28 rfl rfl (.cons (.closed rfl) .nil) (checkSheet_p s) (by simp) (dc rfl) ?_; intro _ hv; subst hv) | (refine ar_pcall (own := false) fn89 rfl rfl (.cons (.closed rfl) (.cons (.closed rfl) .nil)) (isLine_p s hs _) (by simp) (dc rfl) ?_; intro _ hv; subst hv) | (refine zbx ?_) | (refine zg ?_ ?_ <;> intro hg <;> first | exact absurd hg (by decide) | ((try replace hg := HG.out hg); (try dsimp only at hg); (try (have _h : True := hg; clear _h hg)); first | (exfalso; omega) | skip)) | (refine zgu ?_) | (refine ar_nil ?_) | (refine aw_seq ?_) | (refine aw_skip ?_) | (refine aw_block ?_) | (refine aw_exit ?_) | (refine aw_region ?_) | (refine zco ?_ ?_ <;> intro hg <;> first | exact absurd hg (by decide) | ((try replace hg := HG.out hg); (try dsimp only at hg); (try (have _h : True := hg; clear _h hg)); first | (exfalso; omega) | skip))))
  all_goals (try (exfalso; omega))
  all_goals (try (exfalso; simp_all; done))
  refine aw_for bottom.length (fun k => ∀ j, j < k → el top j ≤ el bottom j) (fun k => [(1, encInts top), (25, encInts bottom), (26, vi bottom.length), (27, vi k)]) (fun _ => []) (fun j hj => by omega) ?_ ?_
  · (refine sub_to [] [] rfl ?_ ?_ <;> (repeat' (first | exact trivial | refine ⟨⟨_, rfl, ?_⟩, ?_⟩ | refine ⟨bsub_snoc rfl rfl (fun _ => rfl) ?_, ?_⟩ | refine ⟨bsub_one rfl rfl ?_, ?_⟩ | refine ⟨bsub_all rfl rfl (fun _ _ => rfl) (fun _ => rfl), ?_⟩ | refine ⟨bsub_updL rfl rfl ?_ (fun _ _ _ => rfl) (fun _ => rfl), ?_⟩ | refine ⟨.inl ⟨_, _, rfl, rfl, ?_⟩, ?_⟩ | exact ⟨.inr ⟨rfl, rfl⟩, trivial⟩ | refine ⟨.inr ⟨rfl, rfl⟩, ?_⟩ | (intro _ _) | exact .closed rfl | exact .sl rfl | exact .ptr rfl | exact .map rfl | exact .nil rfl | exact .emp rfl | exact .nilList | exact .empList | exact frzPtr' (by simp; done) rfl (by omega) rfl rfl | exact frzLB (by simp; done) rfl (fun _ => rfl) rfl | exact frz_all (by simp; done) rfl (fun _ _ => rfl) (fun _ => rfl) rfl | exact .frz (by simp; done) rfl (by omega) (fun _ _ => rfl) (fun _ _ => rfl) | exact slEq rfl (by first | (simp; done) | (simp; omega)) | exact siEq (by omega) | exact .of_eq (by refine (show V.agg _ = V.agg _ from ?_); (try dsimp only); congr <;> first | rfl | omega) rfl | exact .closed (by simp [V.closed, V.closed.all, *]; done) | fail)))
  intro k hk hJ
  by_cases hlt : k < bottom.length
  · (repeat' (first | (refine ar_isq ?_; first | refine zmv ?_ | refine zas ?_ | (refine is_load ?_; first | refine zlp ?_ | refine zlr ?_) | (refine is_binOp ?_; first | refine zlss ?_ | refine zneq ?_ | refine zadd ?_) | (refine is_indexAddr ?_; first | refine zil ?_ | refine zis ?_ | refine zit ?_ | refine zia ?_ | refine zir ?_ | (refine zxl ?_; intro _ _ _) | (refine zxs ?_; intro _ _ _)) | (refine is_call ?_; first | refine zll ?_ | refine zls ?_ | refine zln ?_ | refine zle ?_) | (refine is_pick ?_; first | refine zpt ?_ | refine zpf ?_) | refine znt ?_) | (refine zbx ?_) | (refine zg ?_ ?_ <;> intro hg <;> first | exact absurd hg (by decide) | ((try replace hg := HG.out hg); (try dsimp only at hg); (try (have _h : True := hg; clear _h hg)); first | (exfalso; omega) | skip)) | (refine zgu ?_) | (refine ar_nil ?_) | (refine aw_seq ?_) | (refine aw_skip ?_) | (refine aw_block ?_) | (refine aw_exit ?_) | (refine aw_region ?_) | (refine zco ?_ ?_ <;> intro hg <;> first | exact absurd hg (by decide) | ((try replace hg := HG.out hg); (try dsimp only at hg); (try (have _h : True := hg; clear _h hg)); first | (exfalso; omega) | skip))))
    all_goals first
      | (exfalso; omega)
      | ((first | refine loop_next (by omega) ?_ ?_ | refine (show _ ∧ _ ∧ SubOf _ _ _ _ _ _ from And.intro (by omega) (And.intro ?_ ?_))); (focus ((exact all_step hJ (by omega)); done)); (focus ((refine sub_to [] [] rfl ?_ ?_ <;> (repeat' (first | exact trivial | refine ⟨⟨_, rfl, ?_⟩, ?_⟩ | refine ⟨bsub_snoc rfl rfl (fun _ => rfl) ?_, ?_⟩ | refine ⟨bsub_one rfl rfl ?_, ?_⟩ | refine ⟨bsub_all rfl rfl (fun _ _ => rfl) (fun _ => rfl), ?_⟩ | refine ⟨bsub_updL rfl rfl ?_ (fun _ _ _ => rfl) (fun _ => rfl), ?_⟩ | refine ⟨.inl ⟨_, _, rfl, rfl, ?_⟩, ?_⟩ | exact ⟨.inr ⟨rfl, rfl⟩, trivial⟩ | refine ⟨.inr ⟨rfl, rfl⟩, ?_⟩ | (intro _ _) | exact .closed rfl | exact .sl rfl | exact .ptr rfl | exact .map rfl | exact .nil rfl | exact .emp rfl | exact .nilList | exact .empList | exact frzPtr' (by simp; done) rfl (by omega) rfl rfl | exact frzLB (by simp; done) rfl (fun _ => rfl) rfl | exact frz_all (by simp; done) rfl (fun _ _ => rfl) (fun _ => rfl) rfl | exact .frz (by simp; done) rfl (by omega) (fun _ _ => rfl) (fun _ _ => rfl) | exact slEq rfl (by first | (simp; done) | (simp; omega)) | exact siEq (by omega) | exact .of_eq (by refine (show V.agg _ = V.agg _ from ?_); (try dsimp only); congr <;> first | rfl | omega) rfl | exact .closed (by simp [V.closed, V.closed.all, *]; done) | fail))); done)))
      | ((refine aw_ret ?_; (repeat (first | refine ret_then ?_ | refine ret_block ?_)); refine bq1 rfl ⟨?_, rfl⟩); rw [curvesErr_no hs (by rw [h1, h2, geB_no hlt (by omega)]; rfl)]; rfl)
  · (repeat' (first | (refine ar_isq ?_; first | refine zmv ?_ | refine zas ?_ | (refine is_load ?_; first | refine zlp ?_ | refine zlr ?_) | (refine is_binOp ?_; first | refine zlss ?_ | refine zneq ?_ | refine zadd ?_) | (refine is_indexAddr ?_; first | refine zil ?_ | refine zis ?_ | refine zit ?_ | refine zia ?_ | refine zir ?_ | (refine zxl ?_; intro _ _ _) | (refine zxs ?_; intro _ _ _)) | (refine is_call ?_; first | refine zll ?_ | refine zls ?_ | refine zln ?_ | refine zle ?_) | (refine is_pick ?_; first | refine zpt ?_ | refine zpf ?_) | refine znt ?_) | (refine zbx ?_) | (refine zg ?_ ?_ <;> intro hg <;> first | exact absurd hg (by decide) | ((try replace hg := HG.out hg); (try dsimp only at hg); (try (have _h : True := hg; clear _h hg)); first | (exfalso; omega) | skip)) | (refine zgu ?_) | (refine ar_nil ?_) | (refine aw_seq ?_) | (refine aw_skip ?_) | (refine aw_block ?_) | (refine aw_exit ?_) | (refine aw_region ?_) | (refine zco ?_ ?_ <;> intro hg <;> first | exact absurd hg (by decide) | ((try replace hg := HG.out hg); (try dsimp only at hg); (try (have _h : True := hg; clear _h hg)); first | (exfalso; omega) | skip))))
    all_goals first
      | (exfalso; omega)
      | ((refine aw_ret ?_; (repeat (first | refine ret_then ?_ | refine ret_block ?_)); refine bq1 rfl ⟨?_, rfl⟩); rw [curvesErr_yes hs (by rw [h1, h2, geB_yes fun j hj => hJ j (by omega)]; rfl)]; rfl)
set_option maxHeartbeats 1000000 in
theorem fit_p (s : Sheet) (hs : s.ok = true) (top bottom : List Int) (h1 : isLineB s top = true) (h2 : isLineB s bottom = true) (h3 : geB top bottom = true) : PCalls Try.prog 58 [s.enc, encInts top, encInts bottom] (· = vi (fitF s top bottom)) := by
  have hb := Sheet.bounds hs
  have l1 := isLine_len h1
  have l2 := isLine_len h2
  refine pcalls_of_aw Try.func58 rfl (Nat.le_of_ble_eq_true rfl) ?_
  (repeat' (first | (refine ar_isq ?_; first | refine zmv ?_ | refine zas ?_ | (refine is_load ?_; first | refine zlp ?_ | refine zlr ?_) | (refine is_binOp ?_; first | refine zlss ?_ | refine zadd ?_ | refine zsub ?_ | refine zquo ?_) | (refine is_fieldAddr ?_; first | refine zfp ?_ | refine zfr ?_) | (refine is_indexAddr ?_; first | refine zil ?_ | refine zis ?_ | refine zit ?_ | refine zia ?_ | refine zir ?_ | (refine zxl ?_; intro _ _ _) | (refine zxs ?_; intro _ _ _)) | (refine is_call ?_; first | refine zll ?_ | refine zls ?_ | refine zln ?_ | refine zle ?_ | refine zmin ?_)) | (refine zbx ?_) | (refine ar_nil ?_) | (refine aw_seq ?_) | (refine aw_skip ?_) | (refine aw_block ?_) | (refine aw_exit ?_) | (refine aw_region ?_) | (refine aw_drawn (id := 5) [(0, 0), (1, 0), (2, 0), (3, 0), (4, 0), (5, 0), (6, 0), (7, 0), (8, 0), (9, 0), (10, 0), (11, 0), (12, 0), (13, 0), (14, 0), (15, 0)] mixed (by kernel_rfl) ?_) | (refine zco ?_ ?_ <;> intro hg <;> first | exact absurd hg (by decide) | ((try replace hg := HG.out hg); (try dsimp only at hg); (try (have _h : True := hg; clear _h hg)); first | (exfalso; omega) | skip))))
  refine aw_for bottom.length (fun _ => True) (fun k => [(1, encInts top), (3, .ptr 5 0 0 0), (7, vi (fitTo s top bottom k)), (10, encInts bottom), (11, vi bottom.length), (12, vi k)]) (fun _ => [.arr 5 1 (fun _ => s.enc)]) trivial ?_ ?_
  · (refine sub_to [some 0] [] rfl ?_ ?_ <;> (repeat' (first | exact trivial | refine ⟨⟨_, rfl, ?_⟩, ?_⟩ | refine ⟨bsub_snoc rfl rfl (fun _ => rfl) ?_, ?_⟩ | refine ⟨bsub_one rfl rfl ?_, ?_⟩ | refine ⟨bsub_all rfl rfl (fun _ _ => rfl) (fun _ => rfl), ?_⟩ | refine ⟨bsub_updL rfl rfl ?_ (fun _ _ _ => rfl) (fun _ => rfl), ?_⟩ | refine ⟨.inl ⟨_, _, rfl, rfl, ?_⟩, ?_⟩ | exact ⟨.inr ⟨rfl, rfl⟩, trivial⟩ | refine ⟨.inr ⟨rfl, rfl⟩, ?_⟩ | (intro _ _) | exact .closed rfl | exact .sl rfl | exact .ptr rfl | exact .map rfl | exact .nil rfl | exact .emp rfl | exact .nilList | exact .empList | exact frzPtr' (by simp; done) rfl (by omega) rfl rfl | exact frzLB (by simp; done) rfl (fun _ => rfl) rfl | exact frz_all (by simp; done) rfl (fun _ _ => rfl) (fun _ => rfl) rfl | exact .frz (by simp; done) rfl (by omega) (fun _ _ => rfl) (fun _ _ => rfl) | exact slEq rfl (by first | (simp; done) | (simp; omega)) | exact siEq (by omega) | exact .of_eq (by refine (show V.agg _ = V.agg _ from ?_); (try dsimp only); congr <;> first | rfl | omega) rfl | exact .closed (by simp [V.closed, V.closed.all, *]; done) | fail)))
  intro k hk _
  by_cases hlt : k < bottom.length
  · have h4 := geB_at h3 k hlt
    have h5 := isLine_at h1 (j := k) (by omega)
    have h6 := isLine_at h2 (j := k) hlt
    have h7 := fitTo_le s top bottom k
    have h8 : 0 ≤ (el bottom k - el top k) / (s.weight + s.clear) := Int.ediv_nonneg (by omega) (by omega)
    have h9 : (el bottom k - el top k) / (s.weight + s.clear) ≤ el bottom k - el top k := Int.ediv_le_self _ (by omega)
    (repeat' (first | (refine ar_isq ?_; first | refine zmv ?_ | refine zas ?_ | (refine is_load ?_; first | refine zlp ?_ | refine zlr ?_) | (refine is_binOp ?_; first | refine zlss ?_ | refine zadd ?_ | refine zsub ?_ | refine zquo ?_) | (refine is_fieldAddr ?_; first | refine zfp ?_ | refine zfr ?_) | (refine is_indexAddr ?_; first | refine zil ?_ | refine zis ?_ | refine zit ?_ | refine zia ?_ | refine zir ?_ | (refine zxl ?_; intro _ _ _) | (refine zxs ?_; intro _ _ _)) | (refine is_call ?_; first | refine zll ?_ | refine zls ?_ | refine zln ?_ | refine zle ?_ | refine zmin ?_)) | (refine zbx ?_) | (refine ar_nil ?_) | (refine aw_seq ?_) | (refine aw_skip ?_) | (refine aw_block ?_) | (refine aw_exit ?_) | (refine aw_region ?_) | (refine aw_drawn (id := 5) [(0, 0), (1, 0), (2, 0), (3, 0), (4, 0), (5, 0), (6, 0), (7, 0), (8, 0), (9, 0), (10, 0), (11, 0), (12, 0), (13, 0), (14, 0), (15, 0)] mixed (by kernel_rfl) ?_) | (refine zco ?_ ?_ <;> intro hg <;> first | exact absurd hg (by decide) | ((try replace hg := HG.out hg); (try dsimp only at hg); (try (have _h : True := hg; clear _h hg)); first | (exfalso; omega) | skip))))
    all_goals first
      | (exfalso; omega)
      | ((first | refine loop_next (by omega) ?_ ?_ | refine (show _ ∧ _ ∧ SubOf _ _ _ _ _ _ from And.intro (by omega) (And.intro ?_ ?_))); (focus ((trivial); done)); (focus ((refine sub_to [some 0] [] rfl ?_ ?_ <;> (repeat' (first | exact trivial | refine ⟨⟨_, rfl, ?_⟩, ?_⟩ | refine ⟨bsub_snoc rfl rfl (fun _ => rfl) ?_, ?_⟩ | refine ⟨bsub_one rfl rfl ?_, ?_⟩ | refine ⟨bsub_all rfl rfl (fun _ _ => rfl) (fun _ => rfl), ?_⟩ | refine ⟨bsub_updL rfl rfl ?_ (fun _ _ _ => rfl) (fun _ => rfl), ?_⟩ | refine ⟨.inl ⟨_, _, rfl, rfl, ?_⟩, ?_⟩ | exact ⟨.inr ⟨rfl, rfl⟩, trivial⟩ | refine ⟨.inr ⟨rfl, rfl⟩, ?_⟩ | (intro _ _) | exact .closed rfl | exact .sl rfl | exact .ptr rfl | exact .map rfl | exact .nil rfl | exact .emp rfl | exact .nilList | exact .empList | exact frzPtr' (by simp; done) rfl (by omega) rfl rfl | exact frzLB (by simp; done) rfl (fun _ => rfl) rfl | exact frz_all (by simp; done) rfl (fun _ _ => rfl) (fun _ => rfl) rfl | exact .frz (by simp; done) rfl (by omega) (fun _ _ => rfl) (fun _ _ => rfl) | exact slEq rfl (by first | (simp; done) | (simp; omega)) | exact siEq (by omega) | (exact siEq rfl) | exact .of_eq (by refine (show V.agg _ = V.agg _ from ?_); (try dsimp only); congr <;> first | rfl | omega) rfl | exact .closed (by simp [V.closed, V.closed.all, *]; done) | fail))); done)))
      | trace_state
  · (repeat' (first | (refine ar_isq ?_; first | refine zmv ?_ | refine zas ?_ | (refine is_load ?_; first | refine zlp ?_ | refine zlr ?_) | (refine is_binOp ?_; first | refine zlss ?_ | refine zadd ?_ | refine zsub ?_ | refine zquo ?_) | (refine is_fieldAddr ?_; first | refine zfp ?_ | refine zfr ?_) | (refine is_indexAddr ?_; first | refine zil ?_ | refine zis ?_ | refine zit ?_ | refine zia ?_ | refine zir ?_ | (refine zxl ?_; intro _ _ _) | (refine zxs ?_; intro _ _ _)) | (refine is_call ?_; first | refine zll ?_ | refine zls ?_ | refine zln ?_ | refine zle ?_ | refine zmin ?_)) | (refine zbx ?_) | (refine ar_nil ?_) | (refine aw_seq ?_) | (refine aw_skip ?_) | (refine aw_block ?_) | (refine aw_exit ?_) | (refine aw_region ?_) | (refine aw_drawn (id := 5) [(0, 0), (1, 0), (2, 0), (3, 0), (4, 0), (5, 0), (6, 0), (7, 0), (8, 0), (9, 0), (10, 0), (11, 0), (12, 0), (13, 0), (14, 0), (15, 0)] mixed (by kernel_rfl) ?_) | (refine zco ?_ ?_ <;> intro hg <;> first | exact absurd hg (by decide) | ((try replace hg := HG.out hg); (try dsimp only at hg); (try (have _h : True := hg; clear _h hg)); first | (exfalso; omega) | skip))))
    all_goals first
      | (exfalso; omega)
      | (obtain rfl : k = bottom.length := by omega
         (refine aw_ret ?_; (repeat (first | refine ret_then ?_ | refine ret_block ?_)); refine bq1 rfl ⟨?_, rfl⟩)
         rfl)
def doneE (top bottom : List Int) (n : Int) (i j : Nat) : V := if j < i then encInts (evenRow top bottom n j top.length) else vnil
def evenE (top bottom : List Int) (n : Int) (b i k j : Nat) : V := if j = i then .sl 1 b 0 k else doneE top bottom n i j
section
variable {top bottom : List Int} {n : Int} {b i k j : Nat}
theorem doneE_closed : (doneE top bottom n i j).closed = true := by unfold doneE; split <;> rfl
theorem doneE_one : (doneE top bottom n i j).cells.length = 1 := by unfold doneE; split <;> rfl
theorem evenE_one : (evenE top bottom n b i k j).cells.length = 1 := by unfold evenE; split; rfl; exact doneE_one
theorem evenE_na (cs : List V) : evenE top bottom n b i k j ≠ .agg cs := by
  unfold evenE doneE
  split
  · intro h; cases h
  · split <;> intro h <;> cases h
theorem doneE_lt (h : j < i) : doneE top bottom n i j = encInts (evenRow top bottom n j top.length) := by simp [doneE, h]
theorem evenE_same : evenE top bottom n b i k i = .sl 1 b 0 k := by simp [evenE]
theorem evenE_ne (h : j ≠ i) : evenE top bottom n b i k j = doneE top bottom n i j := by simp [evenE, h]
variable {H : Heap} {σ : List (Option Nat)} {fr : Nat → Prop}
theorem even_start (h : σ[1]? = some none) : VSub H σ fr (doneE top bottom n i j) (evenE top bottom n 1 i 0 j) := by
  by_cases e : j = i
  · subst e
    rw [evenE_same]
    unfold doneE
    rw [if_neg (by omega)]
    exact .nil h
  · rw [evenE_ne e]
    exact .closed doneE_closed
theorem even_sub {k' : Nat} (h : σ[1]? = some (some b)) (hk : k = k') : VSub H σ fr (evenE top bottom n b i k j) (evenE top bottom n 1 i k' j) := by
  subst hk
  by_cases e : j = i
  · subst e
    rw [evenE_same, evenE_same]
    exact .sl h
  · rw [evenE_ne e, evenE_ne e]
    exact .closed doneE_closed
theorem even_done (hf : fr 1) (hb : H[1]? = some (LB 1 vi (evenRow top bottom n i top.length))) : VSub H σ fr (evenE top bottom n 1 i (evenRow top bottom n i top.length).length j) (doneE top bottom n (i + 1) j) := by
  by_cases e : j = i
  · subst e
    rw [evenE_same, doneE_lt (Nat.lt_succ_self _)]
    exact frzLB hf hb (fun _ => rfl) rfl
  · rw [evenE_ne e]
    refine .of_eq ?_ doneE_closed
    unfold doneE
    by_cases h : j < i
    · rw [if_pos h, if_pos (by omega)]
    · rw [if_neg h, if_neg (by omega)]
end
set_option maxHeartbeats 2000000 in
theorem lBetween_p (s : Sheet) (top bottom : List Int) (n : Int) : PCalls Try.prog 17 [s.enc, encInts top, encInts bottom, vi n] (· = .tup [encRows (betweenF s top bottom n), vi (betweenErr s top bottom n)]) := by
  (refine pcalls_know (fun I us h => rel_len (rel_arg h (j := 1) rfl)) fun hlen1 => ?_)
  by_cases hc : curvesErr s top bottom = 0
  case neg =>
    have he := between_1 (n := n) hc
    rw [betweenF_bad (by omega), he]
    refine pcalls_of_aw Try.func17 rfl (Nat.le_of_ble_eq_true rfl) ?_
    (repeat' (first | (refine ar_isq ?_; first | refine zmv ?_ | refine zas ?_ | (refine is_load ?_; first | refine zlp ?_ | refine zlr ?_) | (refine is_binOp ?_; first | refine zlss ?_ | refine zgtr ?_ | refine zneq ?_ | refine zadd ?_ | refine zsub ?_ | refine zmul ?_ | refine zquo ?_) | (refine is_indexAddr ?_; first | refine zil ?_ | refine zis ?_ | refine zit ?_ | refine zia ?_ | refine zir ?_ | (refine zxl ?_; intro _ _ _) | (refine zxs ?_; intro _ _ _)) | (refine is_call ?_; first | refine zll ?_ | refine zls ?_ | refine zln ?_ | refine zle ?_) | refine znt ?_) | (refine ar_pcall (own := false) fn56 rfl rfl (.cons (.closed rfl) (.cons (.closed rfl) (.cons (.closed rfl) .nil))) (curves_p s top bottom) (by simp) (dc rfl) ?_; intro _ hv; subst hv) | (refine zbx ?_) | (refine zb1 ?_) | (refine zb0 ?_) | (refine zapoo ?_) | (refine zapol ?_) | (refine zapno ?_) | (refine zapnl ?_) | (refine zapeo ?_) | (refine zapel ?_) | (refine zsvs ?_) | (refine zsva ?_) | (refine zses ?_) | (refine zsea ?_) | (refine ar_nil ?_) | (refine aw_seq ?_) | (refine aw_skip ?_) | (refine aw_block ?_) | (refine aw_exit ?_) | (refine aw_region ?_) | (refine aw_drawn (id := 15) [(0, 0), (1, 0), (2, 0), (3, 0), (4, 0), (5, 0), (6, 0), (7, 0), (8, 0), (9, 0), (10, 0), (11, 0), (12, 0), (13, 0), (14, 0), (15, 0), (16, 0), (17, 0), (18, 0), (19, 1), (20, 1), (21, 0), (22, 2)] mixed (by kernel_rfl) ?_) | (refine zco ?_ ?_ <;> intro hg <;> first | exact absurd hg (by decide) | ((try replace hg := HG.out hg); (try dsimp only at hg); (try (have _h : True := hg; clear _h hg)); first | (exfalso; omega) | skip))))
    all_goals first
      | (exfalso; omega)
      | ((refine aw_mono_r (env' := [(8, encRows []), (9, vi (curvesErr s top bottom))]) (H' := []) ?_ ?_; (focus ((refine sub_to [] [] rfl ?_ ?_ <;> (repeat' (first | exact trivial | refine ⟨⟨_, rfl, ?_⟩, ?_⟩ | refine ⟨bsub_snoc rfl rfl (fun _ => rfl) ?_, ?_⟩ | refine ⟨bsub_one rfl rfl ?_, ?_⟩ | refine ⟨bsub_all rfl rfl (fun _ _ => rfl) (fun _ => rfl), ?_⟩ | refine ⟨bsub_updL rfl rfl ?_ (fun _ _ _ => rfl) (fun _ => rfl), ?_⟩ | refine ⟨.inl ⟨_, _, rfl, rfl, ?_⟩, ?_⟩ | exact ⟨.inr ⟨rfl, rfl⟩, trivial⟩ | refine ⟨.inr ⟨rfl, rfl⟩, ?_⟩ | (intro _ _) | exact .closed rfl | exact .sl rfl | exact .ptr rfl | exact .map rfl | exact .nil rfl | exact .emp rfl | exact .nilList | exact .empList | exact frzPtr' (by simp; done) rfl (by omega) rfl rfl | exact frzLB (by simp; done) rfl (fun _ => rfl) rfl | exact frz_all (by simp; done) rfl (fun _ _ => rfl) (fun _ => rfl) rfl | exact .frz (by simp; done) rfl (by omega) (fun _ _ => rfl) (fun _ _ => rfl) | exact slEq rfl (by first | (simp; done) | (simp; omega)) | exact siEq (by omega) | exact .of_eq (by refine (show V.agg _ = V.agg _ from ?_); (try dsimp only); congr <;> first | rfl | omega) rfl | exact .closed (by simp [V.closed, V.closed.all, *]; done) | fail))); done))); (refine aw_ret ?_; (repeat (first | refine ret_then ?_ | refine ret_block ?_)); refine bq2 rfl rfl ⟨?_, rfl⟩); rfl)
  obtain ⟨hs, h1, h2, h3⟩ := curves_ok hc
  have hb := Sheet.bounds hs
  have l1 := isLine_len h1
  have l2 := isLine_len h2
  cases hw : withinB n 2 12
  · have he := between_2 hc hw
    rw [betweenF_bad (by omega), he]
    refine pcalls_of_aw Try.func17 rfl (Nat.le_of_ble_eq_true rfl) ?_
    (repeat' (first | (refine ar_isq ?_; first | refine zmv ?_ | refine zas ?_ | (refine is_load ?_; first | refine zlp ?_ | refine zlr ?_) | (refine is_binOp ?_; first | refine zlss ?_ | refine zgtr ?_ | refine zneq ?_ | refine zadd ?_ | refine zsub ?_ | refine zmul ?_ | refine zquo ?_) | (refine is_indexAddr ?_; first | refine zil ?_ | refine zis ?_ | refine zit ?_ | refine zia ?_ | refine zir ?_ | (refine zxl ?_; intro _ _ _) | (refine zxs ?_; intro _ _ _)) | (refine is_call ?_; first | refine zll ?_ | refine zls ?_ | refine zln ?_ | refine zle ?_) | refine znt ?_) | (refine ar_pcall (own := false) fn56 rfl rfl (.cons (.closed rfl) (.cons (.closed rfl) (.cons (.closed rfl) .nil))) (curves_p s top bottom) (by simp) (dc rfl) ?_; intro _ hv; subst hv) | (refine ar_pcall (own := false) fn57 rfl rfl (.cons (.closed rfl) (.cons (.closed rfl) (.cons (.closed rfl) .nil))) (within_p _ _ _) (by simp) (dc rfl) ?_; intro _ hv; subst hv) | (refine zbx ?_) | (refine zb1 ?_) | (refine zb0 ?_) | (refine zapoo ?_) | (refine zapol ?_) | (refine zapno ?_) | (refine zapnl ?_) | (refine zapeo ?_) | (refine zapel ?_) | (refine zsvs ?_) | (refine zsva ?_) | (refine zses ?_) | (refine zsea ?_) | (refine ar_nil ?_) | (refine aw_seq ?_) | (refine aw_skip ?_) | (refine aw_block ?_) | (refine aw_exit ?_) | (refine aw_region ?_) | (refine aw_drawn (id := 15) [(0, 0), (1, 0), (2, 0), (3, 0), (4, 0), (5, 0), (6, 0), (7, 0), (8, 0), (9, 0), (10, 0), (11, 0), (12, 0), (13, 0), (14, 0), (15, 0), (16, 0), (17, 0), (18, 0), (19, 1), (20, 1), (21, 0), (22, 2)] mixed (by kernel_rfl) ?_) | (refine zco ?_ ?_ <;> intro hg <;> first | exact absurd hg (by decide) | ((try replace hg := HG.out hg); (try dsimp only at hg); (try (have _h : True := hg; clear _h hg)); first | (exfalso; omega) | skip))))
    all_goals first
      | (exfalso; omega)
      | ((refine aw_mono_r (env' := [(8, encRows []), (9, vi 2)]) (H' := []) ?_ ?_; (focus ((refine sub_to [] [] rfl ?_ ?_ <;> (repeat' (first | exact trivial | refine ⟨⟨_, rfl, ?_⟩, ?_⟩ | refine ⟨bsub_snoc rfl rfl (fun _ => rfl) ?_, ?_⟩ | refine ⟨bsub_one rfl rfl ?_, ?_⟩ | refine ⟨bsub_all rfl rfl (fun _ _ => rfl) (fun _ => rfl), ?_⟩ | refine ⟨bsub_updL rfl rfl ?_ (fun _ _ _ => rfl) (fun _ => rfl), ?_⟩ | refine ⟨.inl ⟨_, _, rfl, rfl, ?_⟩, ?_⟩ | exact ⟨.inr ⟨rfl, rfl⟩, trivial⟩ | refine ⟨.inr ⟨rfl, rfl⟩, ?_⟩ | (intro _ _) | exact .closed rfl | exact .sl rfl | exact .ptr rfl | exact .map rfl | exact .nil rfl | exact .emp rfl | exact .nilList | exact .empList | exact frzPtr' (by simp; done) rfl (by omega) rfl rfl | exact frzLB (by simp; done) rfl (fun _ => rfl) rfl | exact frz_all (by simp; done) rfl (fun _ _ => rfl) (fun _ => rfl) rfl | exact .frz (by simp; done) rfl (by omega) (fun _ _ => rfl) (fun _ _ => rfl) | exact slEq rfl (by first | (simp; done) | (simp; omega)) | exact siEq (by omega) | exact .of_eq (by refine (show V.agg _ = V.agg _ from ?_); (try dsimp only); congr <;> first | rfl | omega) rfl | exact .closed (by simp [V.closed, V.closed.all, *]; done) | fail))); done))); (refine aw_ret ?_; (repeat (first | refine ret_then ?_ | refine ret_block ?_)); refine bq2 rfl rfl ⟨?_, rfl⟩); rfl)
      | (exfalso; simp_all; done)
  have hn := withinB_iff.1 hw
  by_cases hf : fitF s top bottom < n
  · have he := between_3 hc hw hf
    rw [betweenF_bad (by omega), he]
    refine pcalls_of_aw Try.func17 rfl (Nat.le_of_ble_eq_true rfl) ?_
    (repeat' (first | (refine ar_isq ?_; first | refine zmv ?_ | refine zas ?_ | (refine is_load ?_; first | refine zlp ?_ | refine zlr ?_) | (refine is_binOp ?_; first | refine zlss ?_ | refine zgtr ?_ | refine zneq ?_ | refine zadd ?_ | refine zsub ?_ | refine zmul ?_ | refine zquo ?_) | (refine is_indexAddr ?_; first | refine zil ?_ | refine zis ?_ | refine zit ?_ | refine zia ?_ | refine zir ?_ | (refine zxl ?_; intro _ _ _) | (refine zxs ?_; intro _ _ _)) | (refine is_call ?_; first | refine zll ?_ | refine zls ?_ | refine zln ?_ | refine zle ?_) | refine znt ?_) | (refine ar_pcall (own := false) fn56 rfl rfl (.cons (.closed rfl) (.cons (.closed rfl) (.cons (.closed rfl) .nil))) (curves_p s top bottom) (by simp) (dc rfl) ?_; intro _ hv; subst hv) | (refine ar_pcall (own := false) fn57 rfl rfl (.cons (.closed rfl) (.cons (.closed rfl) (.cons (.closed rfl) .nil))) (within_p _ _ _) (by simp) (dc rfl) ?_; intro _ hv; subst hv) | (refine ar_pcall (own := false) fn58 rfl rfl (.cons (.closed rfl) (.cons (.closed rfl) (.cons (.closed rfl) .nil))) (fit_p s hs top bottom h1 h2 h3) (by simp) (dc rfl) ?_; intro _ hv; subst hv) | (refine zbx ?_) | (refine zb1 ?_) | (refine zb0 ?_) | (refine zapoo ?_) | (refine zapol ?_) | (refine zapno ?_) | (refine zapnl ?_) | (refine zapeo ?_) | (refine zapel ?_) | (refine zsvs ?_) | (refine zsva ?_) | (refine zses ?_) | (refine zsea ?_) | (refine ar_nil ?_) | (refine aw_seq ?_) | (refine aw_skip ?_) | (refine aw_block ?_) | (refine aw_exit ?_) | (refine aw_region ?_) | (refine aw_drawn (id := 15) [(0, 0), (1, 0), (2, 0), (3, 0), (4, 0), (5, 0), (6, 0), (7, 0), (8, 0), (9, 0), (10, 0), (11, 0), (12, 0), (13, 0), (14, 0), (15, 0), (16, 0), (17, 0), (18, 0), (19, 1), (20, 1), (21, 0), (22, 2)] mixed (by kernel_rfl) ?_) | (refine zco ?_ ?_ <;> intro hg <;> first | exact absurd hg (by decide) | ((try replace hg := HG.out hg); (try dsimp only at hg); (try (have _h : True := hg; clear _h hg)); first | (exfalso; omega) | skip))))
    all_goals first
      | (exfalso; omega)
      | ((refine aw_mono_r (env' := [(8, encRows []), (9, vi 71)]) (H' := []) ?_ ?_; (focus ((refine sub_to [] [] rfl ?_ ?_ <;> (repeat' (first | exact trivial | refine ⟨⟨_, rfl, ?_⟩, ?_⟩ | refine ⟨bsub_snoc rfl rfl (fun _ => rfl) ?_, ?_⟩ | refine ⟨bsub_one rfl rfl ?_, ?_⟩ | refine ⟨bsub_all rfl rfl (fun _ _ => rfl) (fun _ => rfl), ?_⟩ | refine ⟨bsub_updL rfl rfl ?_ (fun _ _ _ => rfl) (fun _ => rfl), ?_⟩ | refine ⟨.inl ⟨_, _, rfl, rfl, ?_⟩, ?_⟩ | exact ⟨.inr ⟨rfl, rfl⟩, trivial⟩ | refine ⟨.inr ⟨rfl, rfl⟩, ?_⟩ | (intro _ _) | exact .closed rfl | exact .sl rfl | exact .ptr rfl | exact .map rfl | exact .nil rfl | exact .emp rfl | exact .nilList | exact .empList | exact frzPtr' (by simp; done) rfl (by omega) rfl rfl | exact frzLB (by simp; done) rfl (fun _ => rfl) rfl | exact frz_all (by simp; done) rfl (fun _ _ => rfl) (fun _ => rfl) rfl | exact .frz (by simp; done) rfl (by omega) (fun _ _ => rfl) (fun _ _ => rfl) | exact slEq rfl (by first | (simp; done) | (simp; omega)) | exact siEq (by omega) | exact .of_eq (by refine (show V.agg _ = V.agg _ from ?_); (try dsimp only); congr <;> first | rfl | omega) rfl | exact .closed (by simp [V.closed, V.closed.all, *]; done) | fail))); done))); (refine aw_ret ?_; (repeat (first | refine ret_then ?_ | refine ret_block ?_)); refine bq2 rfl rfl ⟨?_, rfl⟩); rfl)
      | (exfalso; simp_all; done)
  have he := between_4 hc hw hf
  rw [betweenF_ok he, he]
  obtain ⟨M, rfl⟩ : ∃ M : Nat, n = (M : Int) := ⟨n.toNat, by omega⟩
  simp only [Int.toNat_natCast]
  refine pcalls_of_aw Try.func17 rfl (Nat.le_of_ble_eq_true rfl) ?_
  (repeat' (first | (refine ar_isq ?_; first | refine zmv ?_ | refine zas ?_ | (refine is_load ?_; first | refine zlp ?_ | refine zlr ?_) | (refine is_binOp ?_; first | refine zlss ?_ | refine zgtr ?_ | refine zneq ?_ | refine zadd ?_ | refine zsub ?_ | refine zmul ?_ | refine zquo ?_) | (refine is_indexAddr ?_; first | refine zil ?_ | refine zis ?_ | refine zit ?_ | refine zia ?_ | refine zir ?_ | (refine zxl ?_; intro _ _ _) | (refine zxs ?_; intro _ _ _)) | (refine is_call ?_; first | refine zll ?_ | refine zls ?_ | refine zln ?_ | refine zle ?_) | refine znt ?_) | (refine ar_pcall (own := false) fn56 rfl rfl (.cons (.closed rfl) (.cons (.closed rfl) (.cons (.closed rfl) .nil))) (curves_p s top bottom) (by simp) (dc rfl) ?_; intro _ hv; subst hv) | (refine ar_pcall (own := false) fn57 rfl rfl (.cons (.closed rfl) (.cons (.closed rfl) (.cons (.closed rfl) .nil))) (within_p _ _ _) (by simp) (dc rfl) ?_; intro _ hv; subst hv) | (refine ar_pcall (own := false) fn58 rfl rfl (.cons (.closed rfl) (.cons (.closed rfl) (.cons (.closed rfl) .nil))) (fit_p s hs top bottom h1 h2 h3) (by simp) (dc rfl) ?_; intro _ hv; subst hv) | (refine ar_make_v (n := M) (ty rfl) rfl (ty rfl) rfl rfl (by omega) (by omega) (dc rfl) rfl rfl (by dsimp only; omega) (maxLen_ok (by omega)) ?_) | (refine zbx ?_) | (refine zb1 ?_) | (refine zb0 ?_) | (refine zapoo ?_) | (refine zapol ?_) | (refine zapno ?_) | (refine zapnl ?_) | (refine zapeo ?_) | (refine zapel ?_) | (refine zsvs ?_) | (refine zsva ?_) | (refine zses ?_) | (refine zsea ?_) | (refine ar_nil ?_) | (refine aw_seq ?_) | (refine aw_skip ?_) | (refine aw_block ?_) | (refine aw_exit ?_) | (refine aw_region ?_) | (refine aw_drawn (id := 15) [(0, 0), (1, 0), (2, 0), (3, 0), (4, 0), (5, 0), (6, 0), (7, 0), (8, 0), (9, 0), (10, 0), (11, 0), (12, 0), (13, 0), (14, 0), (15, 0), (16, 0), (17, 0), (18, 0), (19, 1), (20, 1), (21, 0), (22, 2)] mixed (by kernel_rfl) ?_) | (refine zco ?_ ?_ <;> intro hg <;> first | exact absurd hg (by decide) | ((try replace hg := HG.out hg); (try dsimp only at hg); (try (have _h : True := hg; clear _h hg)); first | (exfalso; omega) | skip))))
  all_goals (try (exfalso; omega))
  all_goals (try (exfalso; simp_all; done))
  refine aw_for M (fun _ => True) (fun i => [(1, encInts top), (2, encInts bottom), (3, vi M), (11, .sl 1 0 0 M), (34, vi M), (35, vi i)]) (fun i => [.arr 1 M (doneE top bottom M i)]) trivial ?_ ?_
  · (refine sub_to [some 1] [] rfl ?_ ?_ <;> (repeat' (first | exact trivial | refine ⟨⟨_, rfl, ?_⟩, ?_⟩ | refine ⟨bsub_snoc rfl rfl (fun _ => rfl) ?_, ?_⟩ | refine ⟨bsub_one rfl rfl ?_, ?_⟩ | refine ⟨bsub_all rfl rfl (fun _ _ => rfl) (fun _ => rfl), ?_⟩ | refine ⟨bsub_updL rfl rfl ?_ (fun _ _ _ => rfl) (fun _ => rfl), ?_⟩ | refine ⟨.inl ⟨_, _, rfl, rfl, ?_⟩, ?_⟩ | exact ⟨.inr ⟨rfl, rfl⟩, trivial⟩ | refine ⟨.inr ⟨rfl, rfl⟩, ?_⟩ | (intro _ _) | exact .closed rfl | exact .sl rfl | exact .ptr rfl | exact .map rfl | exact .nil rfl | exact .emp rfl | exact .nilList | exact .empList | exact frzPtr' (by simp; done) rfl (by omega) rfl rfl | exact frzLB (by simp; done) rfl (fun _ => rfl) rfl | exact frz_all (by simp; done) rfl (fun _ _ => rfl) (fun _ => rfl) rfl | exact .frz (by simp; done) rfl (by omega) (fun _ _ => rfl) (fun _ _ => rfl) | exact slEq rfl (by first | (simp; done) | (simp; omega)) | exact siEq (by omega) | exact .of_eq (by refine (show V.agg _ = V.agg _ from ?_); (try dsimp only); congr <;> first | rfl | omega) rfl | exact .closed (by simp [V.closed, V.closed.all, *]; done) | fail)))
  intro i hi _
  by_cases hlti : i < M
  · (repeat' (first | (refine ar_isq ?_; first | refine zmv ?_ | refine zas ?_ | (refine is_load ?_; first | refine zlp ?_ | refine zlr ?_) | (refine is_binOp ?_; first | refine zlss ?_ | refine zgtr ?_ | refine zneq ?_ | refine zadd ?_ | refine zsub ?_ | refine zmul ?_ | refine zquo ?_) | (refine is_indexAddr ?_; first | refine zil ?_ | refine zis ?_ | refine zit ?_ | refine zia ?_ | refine zir ?_ | (refine zxl ?_; intro _ _ _) | (refine zxs ?_; intro _ _ _)) | (refine is_call ?_; first | refine zll ?_ | refine zls ?_ | refine zln ?_ | refine zle ?_) | refine znt ?_) | (refine zbx ?_) | (refine zb1 ?_) | (refine zb0 ?_) | (refine zapoo ?_) | (refine zapol ?_) | (refine zapno ?_) | (refine zapnl ?_) | (refine zapeo ?_) | (refine zapel ?_) | (refine zsvs ?_) | (refine zsva ?_) | (refine zses ?_) | (refine zsea ?_) | (refine ar_nil ?_) | (refine aw_seq ?_) | (refine aw_skip ?_) | (refine aw_block ?_) | (refine aw_exit ?_) | (refine aw_region ?_) | (refine aw_drawn (id := 15) [(0, 0), (1, 0), (2, 0), (3, 0), (4, 0), (5, 0), (6, 0), (7, 0), (8, 0), (9, 0), (10, 0), (11, 0), (12, 0), (13, 0), (14, 0), (15, 0), (16, 0), (17, 0), (18, 0), (19, 1), (20, 1), (21, 0), (22, 2)] mixed (by kernel_rfl) ?_) | (refine zco ?_ ?_ <;> intro hg <;> first | exact absurd hg (by decide) | ((try replace hg := HG.out hg); (try dsimp only at hg); (try (have _h : True := hg; clear _h hg)); first | (exfalso; omega) | skip))))
    all_goals (try (exfalso; omega))
    refine aw_for top.length (fun _ => True) (fun k => [(1, encInts top), (2, encInts bottom), (3, vi M), (11, .sl 1 0 0 M), (34, vi M), (35, vi i), (12, vi i), (38, encInts top), (39, vi top.length), (40, vi k)]) (fun k => [.arr 1 M (evenE top bottom M 1 i (evenRow top bottom M i k).length), LB 1 vi (evenRow top bottom M i k)]) trivial ?_ ?_
    · (refine sub_to [some 0, none] [] rfl ?_ ?_ <;> (repeat' (first | exact trivial | refine ⟨⟨_, rfl, ?_⟩, ?_⟩ | refine ⟨bsub_snoc rfl rfl (fun _ => rfl) ?_, ?_⟩ | refine ⟨bsub_one rfl rfl ?_, ?_⟩ | refine ⟨bsub_all rfl rfl (fun _ _ => rfl) (fun _ => rfl), ?_⟩ | refine ⟨bsub_updL rfl rfl ?_ (fun _ _ _ => rfl) (fun _ => rfl), ?_⟩ | refine ⟨.inl ⟨_, _, rfl, rfl, ?_⟩, ?_⟩ | exact ⟨.inr ⟨rfl, rfl⟩, trivial⟩ | refine ⟨.inr ⟨rfl, rfl⟩, ?_⟩ | (intro _ _) | exact .closed rfl | exact .sl rfl | exact .ptr rfl | exact .map rfl | exact .nil rfl | exact .emp rfl | exact .nilList | exact .empList | exact frzPtr' (by simp; done) rfl (by omega) rfl rfl | exact frzLB (by simp; done) rfl (fun _ => rfl) rfl | exact frz_all (by simp; done) rfl (fun _ _ => rfl) (fun _ => rfl) rfl | exact .frz (by simp; done) rfl (by omega) (fun _ _ => rfl) (fun _ _ => rfl) | exact slEq rfl (by first | (simp; done) | (simp; omega)) | exact siEq (by omega) | (exact even_start rfl) | exact .of_eq (by refine (show V.agg _ = V.agg _ from ?_); (try dsimp only); congr <;> first | rfl | omega) rfl | exact .closed (by simp [V.closed, V.closed.all, *]; done) | fail)))
    intro k hk _
    have hlk := evenRow_len top bottom M i k
    by_cases hltk : k < top.length
    · have h4 := geB_at h3 k (by omega)
      have h5 := isLine_at h1 (j := k) hltk
      have h6 := isLine_at h2 (j := k) (by omega)
      have p1 : 0 ≤ (i : Int) * (el bottom k - el top k) := Int.mul_nonneg (by omega) (by omega)
      have p2 : (i : Int) * (el bottom k - el top k) ≤ 12 * 60 := Int.mul_le_mul (by omega) (by omega) (by omega) (by omega)
      have p3 : 0 ≤ (i : Int) * (el bottom k - el top k) / ((M : Int) - 1) := Int.ediv_nonneg p1 (by omega)
      have p4 : (i : Int) * (el bottom k - el top k) / ((M : Int) - 1) ≤ 12 * 60 := Int.le_trans (Int.ediv_le_self _ p1) p2
      (repeat' (first | (refine ar_isq ?_; first | refine zmv ?_ | refine zas ?_ | (refine is_load ?_; first | refine zlp ?_ | refine zlr ?_) | (refine is_binOp ?_; first | refine zlss ?_ | refine zgtr ?_ | refine zneq ?_ | refine zadd ?_ | refine zsub ?_ | refine zmul ?_ | refine zquo ?_) | (refine is_indexAddr ?_; first | refine zil ?_ | refine zis ?_ | refine zit ?_ | refine zia ?_ | refine zir ?_ | (refine zxl ?_; intro _ _ _) | (refine zxs ?_; intro _ _ _)) | (refine is_call ?_; first | refine zll ?_ | refine zls ?_ | refine zln ?_ | refine zle ?_) | refine znt ?_) | (refine ar_q (qs_load_ptr (v := .sl 1 1 0 (evenRow top bottom M i k).length) (ty rfl) rfl rfl (by assumption) (part_of_eq (v := .sl 1 1 0 (evenRow top bottom M i k).length) evenE_same rfl)) (dc rfl) ?_) | (refine ar_store_as (evenE top bottom M 3 i ((evenRow top bottom M i k).length + 1)) (ty rfl) rfl rfl rfl rfl rfl rfl (by assumption) (by dsimp only; omega) (fun _ h => by cases h) rfl evenE_one evenE_na (by rw [evenE_same]; rfl) (fun j _ h => by rw [evenE_ne h, evenE_ne h]) ?_) | (refine zbx ?_) | (refine zb1 ?_) | (refine zb0 ?_) | (refine zapoo ?_) | (refine zapol ?_) | (refine zapno ?_) | (refine zapnl ?_) | (refine zapeo ?_) | (refine zapel ?_) | (refine zsvs ?_) | (refine zsva ?_) | (refine zses ?_) | (refine zsea ?_) | (refine ar_nil ?_) | (refine aw_seq ?_) | (refine aw_skip ?_) | (refine aw_block ?_) | (refine aw_exit ?_) | (refine aw_region ?_) | (refine aw_drawn (id := 15) [(0, 0), (1, 0), (2, 0), (3, 0), (4, 0), (5, 0), (6, 0), (7, 0), (8, 0), (9, 0), (10, 0), (11, 0), (12, 0), (13, 0), (14, 0), (15, 0), (16, 0), (17, 0), (18, 0), (19, 1), (20, 1), (21, 0), (22, 2)] mixed (by kernel_rfl) ?_) | (refine zco ?_ ?_ <;> intro hg <;> first | exact absurd hg (by decide) | ((try replace hg := HG.out hg); (try dsimp only at hg); (try (have _h : True := hg; clear _h hg)); first | (exfalso; omega) | skip))))
      all_goals first
        | (exfalso; omega)
        | (rw [evenRow_succ]; ((first | refine loop_next (by omega) ?_ ?_ | refine (show _ ∧ _ ∧ SubOf _ _ _ _ _ _ from And.intro (by omega) (And.intro ?_ ?_))); (focus ((trivial); done)); (focus ((refine sub_to [some 0, some 3] [] rfl ?_ ?_ <;> (repeat' (first | exact trivial | refine ⟨⟨_, rfl, ?_⟩, ?_⟩ | refine ⟨bsub_snoc rfl rfl (fun _ => rfl) ?_, ?_⟩ | refine ⟨bsub_one rfl rfl ?_, ?_⟩ | refine ⟨bsub_all rfl rfl (fun _ _ => rfl) (fun _ => rfl), ?_⟩ | refine ⟨bsub_updL rfl rfl ?_ (fun _ _ _ => rfl) (fun _ => rfl), ?_⟩ | refine ⟨.inl ⟨_, _, rfl, rfl, ?_⟩, ?_⟩ | exact ⟨.inr ⟨rfl, rfl⟩, trivial⟩ | refine ⟨.inr ⟨rfl, rfl⟩, ?_⟩ | (intro _ _) | exact .closed rfl | exact .sl rfl | exact .ptr rfl | exact .map rfl | exact .nil rfl | exact .emp rfl | exact .nilList | exact .empList | exact frzPtr' (by simp; done) rfl (by omega) rfl rfl | exact frzLB (by simp; done) rfl (fun _ => rfl) rfl | exact frz_all (by simp; done) rfl (fun _ _ => rfl) (fun _ => rfl) rfl | exact .frz (by simp; done) rfl (by omega) (fun _ _ => rfl) (fun _ _ => rfl) | exact slEq rfl (by first | (simp; done) | (simp; omega)) | exact siEq (by omega) | (first | exact even_sub rfl (by simp) | exact siEq rfl) | exact .of_eq (by refine (show V.agg _ = V.agg _ from ?_); (try dsimp only); congr <;> first | rfl | omega) rfl | exact .closed (by simp [V.closed, V.closed.all, *]; done) | fail))); done))))
        | trace_state
    · obtain rfl : k = top.length := by omega
      (repeat' (first | (refine ar_isq ?_; first | refine zmv ?_ | refine zas ?_ | (refine is_load ?_; first | refine zlp ?_ | refine zlr ?_) | (refine is_binOp ?_; first | refine zlss ?_ | refine zgtr ?_ | refine zneq ?_ | refine zadd ?_ | refine zsub ?_ | refine zmul ?_ | refine zquo ?_) | (refine is_indexAddr ?_; first | refine zil ?_ | refine zis ?_ | refine zit ?_ | refine zia ?_ | refine zir ?_ | (refine zxl ?_; intro _ _ _) | (refine zxs ?_; intro _ _ _)) | (refine is_call ?_; first | refine zll ?_ | refine zls ?_ | refine zln ?_ | refine zle ?_) | refine znt ?_) | (refine zbx ?_) | (refine zb1 ?_) | (refine zb0 ?_) | (refine zapoo ?_) | (refine zapol ?_) | (refine zapno ?_) | (refine zapnl ?_) | (refine zapeo ?_) | (refine zapel ?_) | (refine zsvs ?_) | (refine zsva ?_) | (refine zses ?_) | (refine zsea ?_) | (refine ar_nil ?_) | (refine aw_seq ?_) | (refine aw_skip ?_) | (refine aw_block ?_) | (refine aw_exit ?_) | (refine aw_region ?_) | (refine aw_drawn (id := 15) [(0, 0), (1, 0), (2, 0), (3, 0), (4, 0), (5, 0), (6, 0), (7, 0), (8, 0), (9, 0), (10, 0), (11, 0), (12, 0), (13, 0), (14, 0), (15, 0), (16, 0), (17, 0), (18, 0), (19, 1), (20, 1), (21, 0), (22, 2)] mixed (by kernel_rfl) ?_) | (refine zco ?_ ?_ <;> intro hg <;> first | exact absurd hg (by decide) | ((try replace hg := HG.out hg); (try dsimp only at hg); (try (have _h : True := hg; clear _h hg)); first | (exfalso; omega) | skip))))
      all_goals first
        | (exfalso; omega)
        | ((first | refine loop_next (by omega) ?_ ?_ | refine (show _ ∧ _ ∧ SubOf _ _ _ _ _ _ from And.intro (by omega) (And.intro ?_ ?_))); (focus ((trivial); done)); (focus ((refine sub_to [some 0] [1] rfl ?_ ?_ <;> (repeat' (first | exact trivial | refine ⟨⟨_, rfl, ?_⟩, ?_⟩ | refine ⟨bsub_snoc rfl rfl (fun _ => rfl) ?_, ?_⟩ | refine ⟨bsub_one rfl rfl ?_, ?_⟩ | refine ⟨bsub_all rfl rfl (fun _ _ => rfl) (fun _ => rfl), ?_⟩ | refine ⟨bsub_updL rfl rfl ?_ (fun _ _ _ => rfl) (fun _ => rfl), ?_⟩ | refine ⟨.inl ⟨_, _, rfl, rfl, ?_⟩, ?_⟩ | exact ⟨.inr ⟨rfl, rfl⟩, trivial⟩ | refine ⟨.inr ⟨rfl, rfl⟩, ?_⟩ | (intro _ _) | exact .closed rfl | exact .sl rfl | exact .ptr rfl | exact .map rfl | exact .nil rfl | exact .emp rfl | exact .nilList | exact .empList | exact frzPtr' (by simp; done) rfl (by omega) rfl rfl | exact frzLB (by simp; done) rfl (fun _ => rfl) rfl | exact frz_all (by simp; done) rfl (fun _ _ => rfl) (fun _ => rfl) rfl | exact .frz (by simp; done) rfl (by omega) (fun _ _ => rfl) (fun _ _ => rfl) | exact slEq rfl (by first | (simp; done) | (simp; omega)) | exact siEq (by omega) | (exact even_done (by simp) rfl) | exact .of_eq (by refine (show V.agg _ = V.agg _ from ?_); (try dsimp only); congr <;> first | rfl | omega) rfl | exact .closed (by simp [V.closed, V.closed.all, *]; done) | fail))); done)))
        | trace_state
  · obtain rfl : i = M := by omega
    (repeat' (first | (refine ar_isq ?_; first | refine zmv ?_ | refine zas ?_ | (refine is_load ?_; first | refine zlp ?_ | refine zlr ?_) | (refine is_binOp ?_; first | refine zlss ?_ | refine zgtr ?_ | refine zneq ?_ | refine zadd ?_ | refine zsub ?_ | refine zmul ?_ | refine zquo ?_) | (refine is_indexAddr ?_; first | refine zil ?_ | refine zis ?_ | refine zit ?_ | refine zia ?_ | refine zir ?_ | (refine zxl ?_; intro _ _ _) | (refine zxs ?_; intro _ _ _)) | (refine is_call ?_; first | refine zll ?_ | refine zls ?_ | refine zln ?_ | refine zle ?_) | refine znt ?_) | (refine zbx ?_) | (refine zb1 ?_) | (refine zb0 ?_) | (refine zapoo ?_) | (refine zapol ?_) | (refine zapno ?_) | (refine zapnl ?_) | (refine zapeo ?_) | (refine zapel ?_) | (refine zsvs ?_) | (refine zsva ?_) | (refine zses ?_) | (refine zsea ?_) | (refine ar_nil ?_) | (refine aw_seq ?_) | (refine aw_skip ?_) | (refine aw_block ?_) | (refine aw_exit ?_) | (refine aw_region ?_) | (refine aw_drawn (id := 15) [(0, 0), (1, 0), (2, 0), (3, 0), (4, 0), (5, 0), (6, 0), (7, 0), (8, 0), (9, 0), (10, 0), (11, 0), (12, 0), (13, 0), (14, 0), (15, 0), (16, 0), (17, 0), (18, 0), (19, 1), (20, 1), (21, 0), (22, 2)] mixed (by kernel_rfl) ?_) | (refine zco ?_ ?_ <;> intro hg <;> first | exact absurd hg (by decide) | ((try replace hg := HG.out hg); (try dsimp only at hg); (try (have _h : True := hg; clear _h hg)); first | (exfalso; omega) | skip))))
    all_goals first
      | (exfalso; omega)
      | ((refine aw_mono_r (env' := [(8, encRows (evenRows top bottom i i)), (9, vi 0)]) (H' := []) ?_ ?_; (focus ((refine sub_to [] [0] rfl ?_ ?_ <;> (repeat' (first | exact trivial | refine ⟨⟨_, rfl, ?_⟩, ?_⟩ | refine ⟨bsub_snoc rfl rfl (fun _ => rfl) ?_, ?_⟩ | refine ⟨bsub_one rfl rfl ?_, ?_⟩ | refine ⟨bsub_all rfl rfl (fun _ _ => rfl) (fun _ => rfl), ?_⟩ | refine ⟨bsub_updL rfl rfl ?_ (fun _ _ _ => rfl) (fun _ => rfl), ?_⟩ | refine ⟨.inl ⟨_, _, rfl, rfl, ?_⟩, ?_⟩ | exact ⟨.inr ⟨rfl, rfl⟩, trivial⟩ | refine ⟨.inr ⟨rfl, rfl⟩, ?_⟩ | (intro _ _) | exact .closed rfl | exact .sl rfl | exact .ptr rfl | exact .map rfl | exact .nil rfl | exact .emp rfl | exact .nilList | exact .empList | exact frzPtr' (by simp; done) rfl (by omega) rfl rfl | exact frzLB (by simp; done) rfl (fun _ => rfl) rfl | exact frz_all (by simp; done) rfl (fun _ _ => rfl) (fun _ => rfl) rfl | exact .frz (by simp; done) rfl (by omega) (fun _ _ => rfl) (fun _ _ => rfl) | exact slEq rfl (by first | (simp; done) | (simp; omega)) | exact siEq (by omega) | (exact frz_as (by simp) rfl rfl (evenRows_len _ _ _ _) (fun j hj => by rw [doneE_lt hj, el_evenRows _ _ _ _ _ hj]) (fun _ => rfl)) | exact .of_eq (by refine (show V.agg _ = V.agg _ from ?_); (try dsimp only); congr <;> first | rfl | omega) rfl | exact .closed (by simp [V.closed, V.closed.all, *]; done) | fail))); done))); (refine aw_ret ?_; (repeat (first | refine ret_then ?_ | refine ret_block ?_)); refine bq2 rfl rfl ⟨?_, rfl⟩); rfl)
      | trace_state
set_option maxHeartbeats 1000000 in
theorem lMost_p (s : Sheet) (top bottom : List Int) : PCalls Try.prog 19 [s.enc, encInts top, encInts bottom] (· = .tup [vi (mostVal s top bottom), vi (mostErr s top bottom)]) := by
  by_cases hc : curvesErr s top bottom = 0
  case neg =>
    obtain ⟨he, hv⟩ := most_1 hc
    rw [hv, he]
    refine pcalls_of_aw Try.func19 rfl (Nat.le_of_ble_eq_true rfl) ?_
    (repeat' (first | (refine ar_isq ?_; first | refine zmv ?_ | refine zas ?_ | (refine is_load ?_; first | refine zlp ?_ | refine zlr ?_) | (refine is_binOp ?_; first | refine zlss ?_ | refine zneq ?_)) | (refine ar_pcall (own := false) fn56 rfl rfl (.cons (.closed rfl) (.cons (.closed rfl) (.cons (.closed rfl) .nil))) (curves_p s top bottom) (by simp) (dc rfl) ?_; intro _ hv; subst hv) | (refine zbx ?_) | (refine ar_nil ?_) | (refine aw_seq ?_) | (refine aw_skip ?_) | (refine aw_block ?_) | (refine aw_exit ?_) | (refine aw_region ?_) | (refine zco ?_ ?_ <;> intro hg <;> first | exact absurd hg (by decide) | ((try replace hg := HG.out hg); (try dsimp only at hg); (try (have _h : True := hg; clear _h hg)); first | (exfalso; omega) | skip))))
    all_goals first
      | (exfalso; omega)
      | ((refine aw_ret ?_; (repeat (first | refine ret_then ?_ | refine ret_block ?_)); refine bq2 rfl rfl ⟨?_, rfl⟩); rfl)
  obtain ⟨hs, h1, h2, h3⟩ := curves_ok hc
  by_cases hf : fitF s top bottom < 2
  · obtain ⟨he, hv⟩ := most_2 hc hf
    rw [hv, he]
    refine pcalls_of_aw Try.func19 rfl (Nat.le_of_ble_eq_true rfl) ?_
    (repeat' (first | (refine ar_isq ?_; first | refine zmv ?_ | refine zas ?_ | (refine is_load ?_; first | refine zlp ?_ | refine zlr ?_) | (refine is_binOp ?_; first | refine zlss ?_ | refine zneq ?_)) | (refine ar_pcall (own := false) fn56 rfl rfl (.cons (.closed rfl) (.cons (.closed rfl) (.cons (.closed rfl) .nil))) (curves_p s top bottom) (by simp) (dc rfl) ?_; intro _ hv; subst hv) | (refine ar_pcall (own := false) fn58 rfl rfl (.cons (.closed rfl) (.cons (.closed rfl) (.cons (.closed rfl) .nil))) (fit_p s hs top bottom h1 h2 h3) (by simp) (dc rfl) ?_; intro _ hv; subst hv) | (refine zbx ?_) | (refine ar_nil ?_) | (refine aw_seq ?_) | (refine aw_skip ?_) | (refine aw_block ?_) | (refine aw_exit ?_) | (refine aw_region ?_) | (refine zco ?_ ?_ <;> intro hg <;> first | exact absurd hg (by decide) | ((try replace hg := HG.out hg); (try dsimp only at hg); (try (have _h : True := hg; clear _h hg)); first | (exfalso; omega) | skip))))
    all_goals first
      | (exfalso; omega)
      | ((refine aw_ret ?_; (repeat (first | refine ret_then ?_ | refine ret_block ?_)); refine bq2 rfl rfl ⟨?_, rfl⟩); rfl)
  · obtain ⟨he, hv⟩ := most_3 hc hf
    rw [hv, he]
    refine pcalls_of_aw Try.func19 rfl (Nat.le_of_ble_eq_true rfl) ?_
    (repeat' (first | (refine ar_isq ?_; first | refine zmv ?_ | refine zas ?_ | (refine is_load ?_; first | refine zlp ?_ | refine zlr ?_) | (refine is_binOp ?_; first | refine zlss ?_ | refine zneq ?_)) | (refine ar_pcall (own := false) fn56 rfl rfl (.cons (.closed rfl) (.cons (.closed rfl) (.cons (.closed rfl) .nil))) (curves_p s top bottom) (by simp) (dc rfl) ?_; intro _ hv; subst hv) | (refine ar_pcall (own := false) fn58 rfl rfl (.cons (.closed rfl) (.cons (.closed rfl) (.cons (.closed rfl) .nil))) (fit_p s hs top bottom h1 h2 h3) (by simp) (dc rfl) ?_; intro _ hv; subst hv) | (refine zbx ?_) | (refine ar_nil ?_) | (refine aw_seq ?_) | (refine aw_skip ?_) | (refine aw_block ?_) | (refine aw_exit ?_) | (refine aw_region ?_) | (refine zco ?_ ?_ <;> intro hg <;> first | exact absurd hg (by decide) | ((try replace hg := HG.out hg); (try dsimp only at hg); (try (have _h : True := hg; clear _h hg)); first | (exfalso; omega) | skip))))
    all_goals first
      | (exfalso; omega)
      | ((refine aw_ret ?_; (repeat (first | refine ret_then ?_ | refine ret_block ?_)); refine bq2 rfl rfl ⟨?_, rfl⟩); rfl)
end Go.Proofs.Ytccidiflnmchiaa
namespace Go.Proofs.Ytccidiflnmchiaa
open Go.ChangeShapes Go.WideShapes Go.ChangeAt Go.RowKit Go.Deep
theorem own_knob : ownKnob Try.prog.godebug = none := by kernel_rfl
theorem laid_out : laidOutB Try.prog = true := by kernel_rfl
/-- All memory avs it stands. -/
def snap (w : World) : Imm := fun b => w.heap[b]?
/-- The cells of a value. -/
def CellsAre (I : Imm) (v : V) (cs : List Value) : Prop := v.cells.length = cs.length ∧ ∀ (j : Nat) x u, v.cells[j]? = some x → cs[j]? = some u → VRel I [] x u
/-- A type whose values, read avs data, are elements of 'α'. -/
structure ReadsV (P : Program) (t : TypeId) {α : Type} (e : α → V) (ok : α → Prop) (sz : Nat) : Prop where
  cells : P.cellsOf t = sz
  pos : 0 < sz
  read : ∀ {H : Type} {enc : TypeId × Value → H} {w : World} {base : Nat} {spare : Nat → Bool} {held : Bool} {fuel : Nat} {cs : List Value} {x : DataW H × List MemPlace},
    DataW.trod enc P w base spare held fuel t cs = some x → ∃ a : α, ok a ∧ cs.length = sz ∧ CellsAre (snap w) (e a) cs
def i64ok (n : Int) : Prop := -9223372036854775808 ≤ n ∧ n ≤ 9223372036854775807
theorem rv_int {P : Program} {t : TypeId} (ht : P.underlying t = some (.int .i64)) (hc : P.cellsOf t = 1) : ReadsV P t vi i64ok 1 :=
  ⟨hc, by omega, fun h => by
    obtain ⟨n, rfl, _, hw⟩ := DataW.trod_int ht h
    exact ⟨n, bounds_i64 hw, rfl, rfl, fun j x u hx hu => by
      cases j with
      | zero => simp [cells_vi] at hx hu; subst hx hu; exact .s _
      | succ j => simp at hu⟩⟩
theorem rv_bool {P : Program} {t : TypeId} (ht : P.underlying t = some .bool) (hc : P.cellsOf t = 1) : ReadsV P t vb (fun _ => True) 1 :=
  ⟨hc, by omega, fun h => by
    obtain ⟨n, rfl, _⟩ := DataW.trod_bool ht h
    exact ⟨n, trivial, rfl, rfl, fun j x u hx hu => by
      cases j with
      | zero => simp [cells_vb] at hx hu; subst hx hu; exact .s _
      | succ j => simp at hu⟩⟩
theorem cell_block {w : World} {b i : Nat} {sp : Option Nat} {v : Value} (h : w.cell? ⟨b, i, sp⟩ = some v) : ∃ cs ty fz, w.heap[b]? = some (.cells cs ty fz) ∧ cs[i]? = some v := by
  unfold World.cell? at h
  simp only at h
  split at h
  · rename_i c ty fz hb
    split at h
    · cases h
    · exact ⟨c, ty, fz, hb, h⟩
  · cases h
theorem add_none (b off n : Nat) : (⟨b, off, none⟩ : Addr).add n = ⟨b, off + n, none⟩ := by
  unfold Addr.add
  split
  · rename_i h; subst h; rfl
  · rfl
theorem read_list {α : Type} [Inhabited α] {P : Program} {t e : TypeId} {ea : α → V} {ok : α → Prop} {sz : Nat} (ht : P.underlying t = some (.slice e)) (R : ReadsV P e ea ok sz)
    {H : Type} {enc : TypeId × Value → H} {w : World} {base : Nat} {spare : Nat → Bool} {held : Bool} {fuel : Nat} {cs : List Value} {x : DataW H × List MemPlace}
    (h : DataW.trod enc P w base spare held fuel t cs = some x) : ∃ (l : List α) (u : Value), (∀ y, y ∈ l → ok y) ∧ cs = [u] ∧ VRel (snap w) [] (LV sz ea l) u := by
  rcases open_slice ht h with ⟨rfl, _⟩ | ⟨a, len, cap, m, n, D, Pl, rfl, _, hl, hc, hm, _, hi⟩
  · exact ⟨[], _, (fun y hy => by cases hy), rfl, VRel.none_list none⟩
  · have hml : len ≤ m := by rw [hm]; split <;> omega
    have hex : ∀ i : Fin len, ∃ y : α, ∃ cs', w.cells? base (a.add (i * P.cellsOf e)) (P.cellsOf e) = some cs' ∧ ok y ∧ cs'.length = sz ∧ CellsAre (snap w) (ea y) cs' := fun i => by
      obtain ⟨cs', h1, h2⟩ := hi i (by omega)
      obtain ⟨y, hy⟩ := R.read h2
      exact ⟨y, cs', h1, hy⟩
    obtain ⟨f, hf⟩ := Classical.skolem.1 hex
    obtain ⟨g, hg⟩ := Classical.skolem.1 hf
    have hel : ∀ i (hi : i < len), el (List.ofFn f) i = f ⟨i, hi⟩ := fun i hi => by rw [el_eq (by simpa using hi)]; simp
    refine ⟨List.ofFn f, _, fun y hy => ?_, rfl, ?_⟩
    · obtain ⟨k, hk, rfl⟩ := mem_el hy
      rw [hel k (by simpa using hk)]
      exact (hg _).2.1
    obtain ⟨b, off, sp⟩ := a
    have hspot : 0 < len → sp = none := fun h0 => by
      obtain ⟨h1, _, h3, _⟩ := hg ⟨0, h0⟩
      obtain ⟨_, hcl, hat⟩ := World.cells?_some h1
      have hpos := R.pos
      have h5 := hat 0 (by rw [R.cells]; exact hpos)
      rw [List.getElem?_eq_getElem (by omega)] at h5
      simpa [Addr.add] using World.cell?_spot h5
    have hcell : ∀ (i : Nat) (hi : i < len) (j : Nat), j < sz → ∃ cs' ty fz, w.heap[b]? = some (.cells cs' ty fz) ∧ sp = none ∧ cs'[off + i * sz + j]? = some ((g ⟨i, hi⟩).getD j undef) := by
      intro i hi j hj
      obtain ⟨h1, _, h3, _⟩ := hg ⟨i, hi⟩
      obtain ⟨_, hcl, hat⟩ := World.cells?_some h1
      have hu : (g ⟨i, hi⟩)[j]? = some ((g ⟨i, hi⟩).getD j undef) := by simp [show j < (g ⟨i, hi⟩).length by omega]
      have h5 := hat j (by rw [R.cells]; exact hj)
      rw [hu] at h5
      have hsp : sp = none := hspot (by omega)
      subst hsp
      rw [add_none, add_none, R.cells] at h5
      obtain ⟨cs', ty, fz, h6, h7⟩ := cell_block h5
      exact ⟨cs', ty, fz, h6, rfl, h7⟩
    have hsz : ∀ i (hi : i < len), (ea (el (List.ofFn f) i)).cells.length = sz := fun i hi => by
      rw [hel i hi]
      obtain ⟨_, _, h3, h4⟩ := hg ⟨i, hi⟩
      rw [h4.1, h3]
    have hlen : (List.ofFn f).length = len := by simp
    show VRel (snap w) [] (.list sz (List.ofFn f).length fun i => ea (el (List.ofFn f) i)) _
    rw [hlen]
    refine .list (us := fun i j => if hi : i < len then (g ⟨i, hi⟩).getD j undef else undef) hl (by first | exact hc | (have h : cap ≤ 2 ^ 63 - 1 := hc; show cap ≤ maxLen; unfold maxLen; omega)) (fun h0 => ?_) (fun i hi => hsz i hi) (fun i j v hi hj => ?_)
    · obtain ⟨cs', ty, fz, h6, rfl, _⟩ := hcell 0 h0 0 R.pos
      refine ⟨b, off, rfl, fun i hi => ⟨cs', ty, fz, h6, fun j hj => ?_⟩⟩
      obtain ⟨cs2, ty2, fz2, h8, _, h9⟩ := hcell i hi j hj
      rw [h6] at h8
      cases h8
      simpa [hi] using h9
    · obtain ⟨_, _, h3, h4⟩ := hg ⟨i, hi⟩
      have hj2 := (List.getElem?_eq_some_iff.1 hj).1
      rw [hsz i hi] at hj2
      rw [hel i hi] at hj
      have := h4.2 j v ((g ⟨i, hi⟩).getD j undef) hj (by simp [show j < (g ⟨i, hi⟩).length by omega])
      simpa [hi] using this
theorem rv_list {α : Type} [Inhabited α] {P : Program} {t e : TypeId} {ea : α → V} {ok : α → Prop} {sz : Nat} (ht : P.underlying t = some (.slice e)) (hc : P.cellsOf t = 1) (R : ReadsV P e ea ok sz) : ReadsV P t (LV sz ea) (fun l => ∀ y, y ∈ l → ok y) 1 :=
  ⟨hc, by omega, fun h => by
    obtain ⟨l, u, h1, rfl, h2⟩ := read_list ht R h
    exact ⟨l, h1, rfl, rfl, fun j x u' hx hu => by
      cases j with
      | zero => simp [LV_cells] at hx hu; subst hx hu; exact h2
      | succ j => simp at hu⟩⟩
section
variable {P : Program} {H : Type} {enc : TypeId × Value → H} {w : World} {base : Nat} {spare : Nat → Bool} {held : Bool} {r : Reach} {b0 : Nat} {v : Value} {d : DataW H} {p : List MemPlace} {t e : TypeId}
theorem arg_list {α : Type} [Inhabited α] {ea : α → V} {ok : α → Prop} {sz : Nat} (ht : P.underlying t = some (.slice e)) (R : ReadsV P e ea ok sz) (hv : Value.okWide P w r b0 t v) (h : DataW.Trod enc P w base spare held t v d p) : ∃ l : List α, (∀ y, y ∈ l → ok y) ∧ VRel (snap w) [] (LV sz ea l) v := by
  obtain ⟨a, len, cap, rfl⟩ := okWide_slice ht hv
  obtain ⟨fuel, hf⟩ := h
  obtain ⟨l, u, h1, h2, h3⟩ := read_list ht R hf
  simp only [Value.cells, List.cons.injEq, and_true] at h2
  exact ⟨l, h1, h2 ▸ h3⟩
theorem arg_int (ht : P.underlying t = some (.int .i64)) (hv : Value.okWide P w r b0 t v) (h : DataW.Trod enc P w base spare held t v d p) : ∃ n : Int, i64ok n ∧ VRel (snap w) [] (vi n) v := by
  obtain ⟨n, rfl, _, _, hw⟩ := open_int ht hv h
  exact ⟨n, bounds_i64 hw, .s _⟩
/-- A struct: its cells are those of 'e a'. -/
theorem arg_struct {α : Type} {ea : α → V} {ok : α → Prop} {sz : Nat} {fs : Array Field} (ht : P.underlying t = some (.struct fs)) (R : ReadsV P t ea ok sz) (hagg : ∀ a, ea a = .agg (ea a).cells) (hv : Value.okWide P w r b0 t v) (h : DataW.Trod enc P w base spare held t v d p) : ∃ a : α, ok a ∧ VRel (snap w) [] (ea a) v := by
  obtain ⟨cs, rfl, _⟩ := okWide_struct ht hv
  obtain ⟨fuel, hf⟩ := h
  obtain ⟨a, h1, h2, h3⟩ := R.read (by simpa [Value.cells] using hf)
  refine ⟨a, h1, ?_⟩
  rw [hagg a]
  exact .agg (by rw [h3.1]; simp) fun j x u hx hu => h3.2 j x u hx (by simpa using hu)
theorem rels_nil {I : Imm} : VRels I [] [] #[] := ⟨rfl, fun j v u h => by simp at h⟩
theorem rels_cons {I : Imm} {x : V} {u : Value} {vs : List V} {us : List Value} (h : VRel I [] x u) (k : VRels I [] vs us.toArray) : VRels I [] (x :: vs) (u :: us).toArray := by
  refine ⟨by have := k.1; simpa using this, fun j v y hj hu => ?_⟩
  cases j with
  | zero => simp at hj hu; subst hj hu; exact h
  | succ j => exact k.2 j v y (by simpa using hj) (by simpa using hu)
end
/-- A part of a struct. -/
theorem struct_part {P : Program} {t : TypeId} {fs : Array Field} (ht : P.underlying t = some (.struct fs))
    {H : Type} {enc : TypeId × Value → H} {w : World} {base : Nat} {spare : Nat → Bool} {held : Bool} {fuel : Nat} {cs : List Value} {x : DataW H × List MemPlace}
    (h : DataW.trod enc P w base spare held fuel t cs = some x) {α : Type} {ea : α → V} {ok : α → Prop} {sz : Nat} (i : Nat) {f : Field} (hfi : fs[i]? = some f) (R : ReadsV P f.type ea ok sz) :
    ∃ a : α, ok a ∧ ((cs.drop f.offset).take sz).length = sz ∧ CellsAre (snap w) (ea a) ((cs.drop f.offset).take sz) := by
  obtain ⟨xs, n, _, _, _, hxl, hg⟩ := DataW.trod_struct ht h
  have h3 := hg i f hfi
  have hi : i < fs.size := (Array.getElem?_eq_some_iff.1 hfi).1
  obtain ⟨a, h1, h2, h4⟩ := R.read (h3.trans (List.getElem?_eq_getElem (by omega)))
  rw [R.cells] at h2 h4
  exact ⟨a, h1, h2, h4⟩
theorem struct_len {P : Program} {t : TypeId} {fs : Array Field} (ht : P.underlying t = some (.struct fs))
    {H : Type} {enc : TypeId × Value → H} {w : World} {base : Nat} {spare : Nat → Bool} {held : Bool} {fuel : Nat} {cs : List Value} {x : DataW H × List MemPlace}
    (h : DataW.trod enc P w base spare held fuel t cs = some x) : cs.length = P.cellsOf t := by
  obtain ⟨_, _, _, _, hlen, _, _⟩ := DataW.trod_struct ht h
  exact hlen
theorem cells_one {I : Imm} {v : V} {cs : List Value} {o : Nat} {u : Value} (h : CellsAre I v ((cs.drop o).take 1)) (hv : v.cells = [v]) (hu : cs[o]? = some u) : VRel I [] v u :=
  h.2 0 v u (by rw [hv]; rfl) (by simp [hu])
end Go.Proofs.Ytccidiflnmchiaa
namespace Go.Proofs.Ytccidiflnmchiaa
open Go.ChangeShapes Go.WideShapes Go.ChangeAt Go.RowKit Go.Deep
structure Screen where
  period : Int
  phase : Int
def Screen.enc (s : Screen) : V := .agg [vi s.period, vi s.phase]
theorem rv_Int : ReadsV Try.prog 3 vi i64ok 1 := rv_int Try.underlying3 (by kernel_rfl)
theorem rv_Bool : ReadsV Try.prog 4 vb (fun _ => True) 1 := rv_bool Try.underlying4 (by kernel_rfl)
theorem rv_ints : ReadsV Try.prog 24 (LV 1 vi) (fun l => ∀ y, y ∈ l → i64ok y) 1 := rv_list Try.underlying24 (by kernel_rfl) rv_Int
theorem rv_bools : ReadsV Try.prog 45 (LV 1 vb) (fun l => ∀ y, y ∈ l → True) 1 := rv_list Try.underlying45 (by kernel_rfl) rv_Bool
set_option maxRecDepth 100000 in
theorem rv_sheet : ReadsV Try.prog 23 Sheet.enc (fun s => i64ok s.cols ∧ i64ok s.rows ∧ i64ok s.weight ∧ i64ok s.clear ∧ i64ok s.lean) 5 :=
  ⟨by kernel_rfl, by omega, fun {_ _ _ _ _ _ _ cs _} h => by
    have hlen := struct_len Try.underlying23 h
    rw [show Try.prog.cellsOf 23 = 5 by kernel_rfl] at hlen
    obtain ⟨k0, o0, l0, e0⟩ := struct_part Try.underlying23 h 0 rfl rv_Int
    obtain ⟨k1, o1, l1, e1⟩ := struct_part Try.underlying23 h 1 rfl rv_Int
    obtain ⟨k2, o2, l2, e2⟩ := struct_part Try.underlying23 h 2 rfl rv_Int
    obtain ⟨k3, o3, l3, e3⟩ := struct_part Try.underlying23 h 3 rfl rv_Int
    obtain ⟨k4, o4, l4, e4⟩ := struct_part Try.underlying23 h 4 rfl rv_Int
    refine ⟨⟨k0, k1, k2, k3, k4⟩, ⟨o0, o1, o2, o3, o4⟩, hlen, hlen.symm, fun j x u hx hu => ?_⟩
    match j, hx with
    | 0, hx => cases hx; exact cells_one e0 rfl hu
    | 1, hx => cases hx; exact cells_one e1 rfl hu
    | 2, hx => cases hx; exact cells_one e2 rfl hu
    | 3, hx => cases hx; exact cells_one e3 rfl hu
    | 4, hx => cases hx; exact cells_one e4 rfl hu
    | j + 5, hx => simp [Sheet.enc, cells_agg] at hx⟩
set_option maxRecDepth 100000 in
theorem rv_screen : ReadsV Try.prog 71 Screen.enc (fun s => i64ok s.period ∧ i64ok s.phase) 2 :=
  ⟨by kernel_rfl, by omega, fun {_ _ _ _ _ _ _ cs _} h => by
    have hlen := struct_len Try.underlying71 h
    rw [show Try.prog.cellsOf 71 = 2 by kernel_rfl] at hlen
    obtain ⟨k0, o0, l0, e0⟩ := struct_part Try.underlying71 h 0 rfl rv_Int
    obtain ⟨k1, o1, l1, e1⟩ := struct_part Try.underlying71 h 1 rfl rv_Int
    refine ⟨⟨k0, k1⟩, ⟨o0, o1⟩, hlen, hlen.symm, fun j x u hx hu => ?_⟩
    match j, hx with
    | 0, hx => cases hx; exact cells_one e0 rfl hu
    | 1, hx => cases hx; exact cells_one e1 rfl hu
    | j + 2, hx => simp [Screen.enc, cells_agg] at hx⟩
section
variable {H : Type} {enc : TypeId × Value → H} {w : World} {base : Nat} {spare : Nat → Bool} {held : Bool} {r : Reach} {b0 : Nat} {v : Value} {d : DataW H} {p : List MemPlace}
set_option maxRecDepth 100000 in
theorem arg_sheet (hv : Value.okWide Try.prog w r b0 23 v) (h : DataW.Trod enc Try.prog w base spare held 23 v d p) : ∃ s : Sheet, (i64ok s.cols ∧ i64ok s.rows ∧ i64ok s.weight ∧ i64ok s.clear ∧ i64ok s.lean) ∧ VRel (snap w) [] s.enc v := arg_struct Try.underlying23 rv_sheet (fun _ => rfl) hv h
set_option maxRecDepth 100000 in
theorem arg_screen (hv : Value.okWide Try.prog w r b0 71 v) (h : DataW.Trod enc Try.prog w base spare held 71 v d p) : ∃ s : Screen, (i64ok s.period ∧ i64ok s.phase) ∧ VRel (snap w) [] s.enc v := arg_struct Try.underlying71 rv_screen (fun _ => rfl) hv h
end
end Go.Proofs.Ytccidiflnmchiaa
-- old go
namespace Go.Proofs.Ytccidiflnmchiaa
open Go.RowKit
def Screen.ok (c : Screen) : Bool := withinB c.period 2 16 && withinB c.phase 0 (c.period - 1)
theorem Screen.bounds {c : Screen} (h : c.ok = true) : 2 ≤ c.period ∧ c.period ≤ 16 ∧ 0 ≤ c.phase ∧ c.phase ≤ c.period - 1 := by
  simp only [Screen.ok, Bool.and_eq_true, withinB_iff] at h
  omega
def fitB (s : Sheet) (c : Screen) (i : Nat) : Bool := decide (c.phase + (i : Int) * c.period + c.period ≤ s.rows)
/-- The number of lines of a screen. -/
def cntF (s : Sheet) (c : Screen) : Nat := match (List.range 12).find? (fun i => !fitB s c i) with | some i => i | none => 12
theorem cntF_le (s : Sheet) (c : Screen) : cntF s c ≤ 12 := by
  unfold cntF
  split
  · rename_i i h
    have := List.mem_of_find?_eq_some h
    simp at this
    omega
  · omega
theorem cntF_in {s : Sheet} {c : Screen} {j : Nat} (h : j < cntF s c) : c.phase + (j : Int) * c.period + c.period ≤ s.rows := by
  have h12 := cntF_le s c
  unfold cntF at h
  split at h
  · rename_i i hf
    rw [List.find?_range_eq_some] at hf
    have := hf.2.2 j h
    simpa [fitB] using this
  · rename_i hf
    rw [List.find?_eq_none] at hf
    have := hf j (by simp; omega)
    simpa [fitB] using this
theorem cntF_out {s : Sheet} {c : Screen} (h : cntF s c < 12) : ¬ (c.phase + (cntF s c : Int) * c.period + c.period ≤ s.rows) := by
  unfold cntF at h ⊢
  split at h
  · rename_i i hf
    have := List.find?_some hf
    simpa [fitB] using this
  · omega
theorem mulP {c : Screen} (hc : c.ok = true) {k : Nat} (hk : k ≤ 12) : 0 ≤ (k : Int) * c.period ∧ (k : Int) * c.period ≤ 192 := by
  have hb := Screen.bounds hc
  refine ⟨Int.mul_nonneg (by omega) (by omega), ?_⟩
  have h1 : (k : Int) * c.period ≤ 12 * 16 := Int.mul_le_mul (by omega) (by omega) (by omega) (by omega)
  omega
set_option maxHeartbeats 400000 in
theorem isScreen_p (c : Screen) : PCalls Try.prog 79 [c.enc] (· = vb c.ok) := by
  refine pcalls_of_aw Try.func79 rfl (Nat.le_of_ble_eq_true rfl) ?_
  (repeat' (first | (refine ar_isq ?_; first | refine ar_q (qs_move rfl) (dc rfl) ?_ | refine ar_q (qs_assign rfl) (dc rfl) ?_ | (refine is_load ?_; first | refine ar_q (qs_load_ptr (ty rfl) rfl rfl (by first | exact Nat.one_pos | assumption | omega) rfl) (dc rfl) ?_ | refine ar_q (qs_load_ref (ty rfl) rfl rfl) (dc rfl) ?_) | refine ar_q (qs_sub rfl rfl (wrap64 (by omega))) (dc rfl) ?_ | (refine is_fieldAddr ?_; first | refine ar_q (qs_faddr_ptr (ty rfl) rfl rfl (ty rfl) (Nat.succ_ne_zero _) rfl) (dc rfl) ?_ | refine ar_q (qs_faddr_ref (ty rfl) rfl rfl (ty rfl) (Nat.succ_ne_zero _) rfl) (dc rfl) ?_) | (refine is_pick ?_; first | refine ar_q (qs_pick_t rfl rfl) (dc rfl) ?_ | refine ar_q (qs_pick_f rfl rfl) (dc rfl) ?_)) | (refine ar_pcall (own := false) fn57 rfl rfl (.cons (.closed rfl) (.cons (.closed rfl) (.cons (.closed rfl) .nil))) (within_p _ _ _) (by simp) (dc rfl) ?_; intro _ hv; subst hv) | (refine ar_boxf rfl rfl (dc rfl) ?_) | (refine ar_guard rfl rfl rfl rfl (dc rfl) ?_ ?_ <;> intro hg <;> first | exact absurd hg (by decide) | ((try simp only [Bool.not_eq_true', Bool.not_eq_false', Bool.not_true, Bool.not_false, decide_eq_true_eq, decide_eq_false_iff_not, not_true_eq_false, Int.not_lt, Int.not_le, withinB_iff, withinB_no] at hg); (try (have _h : True := hg; clear _h hg)); first | (exfalso; omega) | skip)) | (refine ar_guard_u rfl rfl rfl rfl (dc rfl) ?_) | (refine ar_nil ?_) | (refine aw_seq ?_) | (refine aw_skip ?_) | (refine aw_block ?_) | (refine aw_exit ?_) | (refine aw_region ?_) | (refine aw_cond rfl ?_ ?_ <;> intro hg <;> first | exact absurd hg (by decide) | ((try simp only [Bool.not_eq_true', Bool.not_eq_false', Bool.not_true, Bool.not_false, decide_eq_true_eq, decide_eq_false_iff_not, not_true_eq_false, Int.not_lt, Int.not_le, withinB_iff, withinB_no] at hg); (try (have _h : True := hg; clear _h hg)); first | (exfalso; omega) | skip))))
  all_goals (refine aw_ret ?_; (repeat (first | refine ret_then ?_ | refine ret_block ?_)); refine bq1 rfl ⟨?_, rfl⟩)
  all_goals (simp only [vb, constV, Screen.ok, withinB]; congr 2; simp; try omega)
end Go.Proofs.Ytccidiflnmchiaa
namespace Go.Proofs.Ytccidiflnmchiaa.It
open Go.RowKit
def rowEl (c : Screen) (k : Nat) : List Value := [.int .i64 k, .int .i64 (c.phase + (k : Int) * c.period)]
set_option maxHeartbeats 1000000 in
theorem rows_iter (s : Sheet) (hs : s.ok = true) (c : Screen) (hc : c.ok = true) : Iter Try.prog 94 [.ref c.enc 0, .ref s.enc 0] (cntF s c) (rowEl c) := by
  have hb := Sheet.bounds hs
  have hcb := Screen.bounds hc
  have h12 := cntF_le s c
  refine iter_of_aw Try.func94 rfl (dc rfl) rfl fun C hN hel => ?_
  (repeat' (first | (refine ar_isq ?_; first | refine ar_q (qs_move rfl) (dc rfl) ?_ | refine ar_q (qs_assign rfl) (dc rfl) ?_ | (refine is_load ?_; first | refine ar_q (qs_load_ptr (ty rfl) rfl rfl (by first | exact Nat.one_pos | assumption | omega) rfl) (dc rfl) ?_ | refine ar_q (qs_load_ref (ty rfl) rfl rfl) (dc rfl) ?_) | (refine is_binOp ?_; first | refine ar_q (qs_lss rfl rfl) (dc rfl) ?_ | refine ar_q (qs_gtr rfl rfl) (dc rfl) ?_ | refine ar_q (qs_add rfl rfl (wrap64 (by omega))) (dc rfl) ?_ | refine ar_q (qs_mul rfl rfl (wrap64 (by omega))) (dc rfl) ?_) | (refine is_fieldAddr ?_; first | refine ar_q (qs_faddr_ptr (ty rfl) rfl rfl (ty rfl) (Nat.succ_ne_zero _) rfl) (dc rfl) ?_ | refine ar_q (qs_faddr_ref (ty rfl) rfl rfl (ty rfl) (Nat.succ_ne_zero _) rfl) (dc rfl) ?_) | (refine is_pick ?_; first | refine ar_q (qs_pick_t rfl rfl) (dc rfl) ?_ | refine ar_q (qs_pick_f rfl rfl) (dc rfl) ?_) | refine ar_q (qs_not rfl) (dc rfl) ?_) | (refine ar_guard rfl rfl rfl rfl (dc rfl) ?_ ?_ <;> intro hg <;> first | exact absurd hg (by decide) | ((first | replace hg := hgT hg | replace hg := hgF hg | replace hg := hgNT hg | replace hg := hgNF hg | replace hg := hgBT hg | replace hg := hgBF hg | replace hg := hgV hg | replace hg := hgW hg | skip); (try dsimp only at hg); (try (have _h : True := hg; clear _h hg)); first | (exfalso; omega) | skip)) | (refine ar_guard_u rfl rfl rfl rfl (dc rfl) ?_) | (refine ar_nil ?_) | (refine aw_seq ?_) | (refine aw_skip ?_) | (refine aw_block ?_) | (refine aw_exit ?_) | (refine aw_region ?_) | (refine aw_cond rfl ?_ ?_ <;> intro hg <;> first | exact absurd hg (by decide) | ((first | replace hg := hgT hg | replace hg := hgF hg | replace hg := hgNT hg | replace hg := hgNF hg | replace hg := hgBT hg | replace hg := hgBF hg | replace hg := hgV hg | replace hg := hgW hg | skip); (try dsimp only at hg); (try (have _h : True := hg; clear _h hg)); first | (exfalso; omega) | skip))))
  refine aw_for (cntF s c) (fun k => [(0, .s (.func (.yield C.l) #[] #[])), (1, .ref c.enc 0), (2, .ref s.enc 0), (6, vi k)]) (Nat.zero_le _) ⟨rfl, rfl, rfl, rfl, trivial⟩ ?_
  intro k hk
  have hm := mulP hc (k := k) (by omega)
  by_cases hlt : k < cntF s c
  · have hin := cntF_in hlt
    (repeat' (first | (refine ar_isq ?_; first | refine ar_q (qs_move rfl) (dc rfl) ?_ | refine ar_q (qs_assign rfl) (dc rfl) ?_ | (refine is_load ?_; first | refine ar_q (qs_load_ptr (ty rfl) rfl rfl (by first | exact Nat.one_pos | assumption | omega) rfl) (dc rfl) ?_ | refine ar_q (qs_load_ref (ty rfl) rfl rfl) (dc rfl) ?_) | (refine is_binOp ?_; first | refine ar_q (qs_lss rfl rfl) (dc rfl) ?_ | refine ar_q (qs_gtr rfl rfl) (dc rfl) ?_ | refine ar_q (qs_add rfl rfl (wrap64 (by omega))) (dc rfl) ?_ | refine ar_q (qs_mul rfl rfl (wrap64 (by omega))) (dc rfl) ?_) | (refine is_fieldAddr ?_; first | refine ar_q (qs_faddr_ptr (ty rfl) rfl rfl (ty rfl) (Nat.succ_ne_zero _) rfl) (dc rfl) ?_ | refine ar_q (qs_faddr_ref (ty rfl) rfl rfl (ty rfl) (Nat.succ_ne_zero _) rfl) (dc rfl) ?_) | (refine is_pick ?_; first | refine ar_q (qs_pick_t rfl rfl) (dc rfl) ?_ | refine ar_q (qs_pick_f rfl rfl) (dc rfl) ?_) | refine ar_q (qs_not rfl) (dc rfl) ?_) | (refine ar_yield (us := rowEl c k) rfl rfl (by rw [hN]; exact hlt) (by rw [hel]) (dc rfl) ?_) | (refine ar_guard rfl rfl rfl rfl (dc rfl) ?_ ?_ <;> intro hg <;> first | exact absurd hg (by decide) | ((first | replace hg := hgT hg | replace hg := hgF hg | replace hg := hgNT hg | replace hg := hgNF hg | replace hg := hgBT hg | replace hg := hgBF hg | replace hg := hgV hg | replace hg := hgW hg | skip); (try dsimp only at hg); (try (have _h : True := hg; clear _h hg)); first | (exfalso; omega) | skip)) | (refine ar_guard_u rfl rfl rfl rfl (dc rfl) ?_) | (refine ar_nil ?_) | (refine aw_seq ?_) | (refine aw_skip ?_) | (refine aw_block ?_) | (refine aw_exit ?_) | (refine aw_region ?_) | (refine aw_cond rfl ?_ ?_ <;> intro hg <;> first | exact absurd hg (by decide) | ((first | replace hg := hgT hg | replace hg := hgF hg | replace hg := hgNT hg | replace hg := hgNF hg | replace hg := hgBT hg | replace hg := hgBF hg | replace hg := hgV hg | replace hg := hgW hg | skip); (try dsimp only at hg); (try (have _h : True := hg; clear _h hg)); first | (exfalso; omega) | skip))))
    all_goals first
      | (exfalso; omega)
      | exact loop_next hlt rfl ⟨rfl, rfl, rfl, rfl, trivial⟩
  · obtain rfl : k = cntF s c := by omega
    have hout := fun h => cntF_out (s := s) (c := c) h
    (repeat' (first | (refine ar_isq ?_; first | refine ar_q (qs_move rfl) (dc rfl) ?_ | refine ar_q (qs_assign rfl) (dc rfl) ?_ | (refine is_load ?_; first | refine ar_q (qs_load_ptr (ty rfl) rfl rfl (by first | exact Nat.one_pos | assumption | omega) rfl) (dc rfl) ?_ | refine ar_q (qs_load_ref (ty rfl) rfl rfl) (dc rfl) ?_) | (refine is_binOp ?_; first | refine ar_q (qs_lss rfl rfl) (dc rfl) ?_ | refine ar_q (qs_gtr rfl rfl) (dc rfl) ?_ | refine ar_q (qs_add rfl rfl (wrap64 (by omega))) (dc rfl) ?_ | refine ar_q (qs_mul rfl rfl (wrap64 (by omega))) (dc rfl) ?_) | (refine is_fieldAddr ?_; first | refine ar_q (qs_faddr_ptr (ty rfl) rfl rfl (ty rfl) (Nat.succ_ne_zero _) rfl) (dc rfl) ?_ | refine ar_q (qs_faddr_ref (ty rfl) rfl rfl (ty rfl) (Nat.succ_ne_zero _) rfl) (dc rfl) ?_) | (refine is_pick ?_; first | refine ar_q (qs_pick_t rfl rfl) (dc rfl) ?_ | refine ar_q (qs_pick_f rfl rfl) (dc rfl) ?_) | refine ar_q (qs_not rfl) (dc rfl) ?_) | (refine ar_guard rfl rfl rfl rfl (dc rfl) ?_ ?_ <;> intro hg <;> first | exact absurd hg (by decide) | ((first | replace hg := hgT hg | replace hg := hgF hg | replace hg := hgNT hg | replace hg := hgNF hg | replace hg := hgBT hg | replace hg := hgBF hg | replace hg := hgV hg | replace hg := hgW hg | skip); (try dsimp only at hg); (try (have _h : True := hg; clear _h hg)); first | (exfalso; omega) | skip)) | (refine ar_guard_u rfl rfl rfl rfl (dc rfl) ?_) | (refine ar_nil ?_) | (refine aw_seq ?_) | (refine aw_skip ?_) | (refine aw_block ?_) | (refine aw_exit ?_) | (refine aw_region ?_) | (refine aw_cond rfl ?_ ?_ <;> intro hg <;> first | exact absurd hg (by decide) | ((first | replace hg := hgT hg | replace hg := hgF hg | replace hg := hgNT hg | replace hg := hgNF hg | replace hg := hgBT hg | replace hg := hgBF hg | replace hg := hgV hg | replace hg := hgW hg | skip); (try dsimp only at hg); (try (have _h : True := hg; clear _h hg)); first | (exfalso; omega) | skip))))
    all_goals first
      | (exfalso; omega)
      | exact aw_ret (show cntF s c = cntF s c from rfl)
      | exact (rfl : cntF s c = cntF s c)
end Go.Proofs.Ytccidiflnmchiaa.It
namespace Go.Proofs.Ytccidiflnmchiaa
open Go.RowKit
set_option maxHeartbeats 1000000 in
theorem rows_p (s : Sheet) (c : Screen) : PCalls Try.prog 80 [s.enc, c.enc] (· = .fn (.func 94) [] [.ref c.enc 0, .ref s.enc 0]) := by
  refine pcalls_of_aw Try.func80 rfl (Nat.le_of_ble_eq_true rfl) ?_
  (repeat' (first | (refine ar_isq ?_; first | refine ar_q (qs_assign rfl) (dc rfl) ?_ | refine ar_q (qs_makeFunc rfl rfl) (dc rfl) ?_) | (refine ar_boxf rfl rfl (dc rfl) ?_) | (refine ar_nil ?_) | (refine aw_seq ?_) | (refine aw_skip ?_) | (refine aw_block ?_) | (refine aw_exit ?_) | (refine aw_region ?_) | (refine aw_cond rfl ?_ ?_ <;> intro hg <;> first | exact absurd hg (by decide) | ((first | replace hg := hgT hg | replace hg := hgF hg | replace hg := hgNT hg | replace hg := hgNF hg | replace hg := hgBT hg | replace hg := hgBF hg | replace hg := hgV hg | replace hg := hgW hg | skip); (try dsimp only at hg); (try (have _h : True := hg; clear _h hg)); first | (exfalso; omega) | skip))))
  (refine aw_mono_r (env' := [(4, .fn (.func 94) [] [.ref c.enc 0, .ref s.enc 0])]) (H' := []) ?_ ?_; (focus ((refine sub_to [] [0, 1] rfl ?_ ?_ <;> (repeat' (first | exact trivial | refine ⟨⟨_, rfl, ?_⟩, ?_⟩ | refine ⟨bsub_snoc rfl rfl (fun _ => rfl) ?_, ?_⟩ | refine ⟨bsub_one rfl rfl ?_, ?_⟩ | refine ⟨bsub_all rfl rfl (fun _ _ => rfl) (fun _ => rfl), ?_⟩ | refine ⟨bsub_updL rfl rfl ?_ (fun _ _ _ => rfl) (fun _ => rfl), ?_⟩ | refine ⟨.inl ⟨_, _, rfl, rfl, ?_⟩, ?_⟩ | exact ⟨.inr ⟨rfl, rfl⟩, trivial⟩ | refine ⟨.inr ⟨rfl, rfl⟩, ?_⟩ | (intro _ _) | exact .closed rfl | exact .sl rfl | exact .ptr rfl | exact .map rfl | exact .nil rfl | exact .emp rfl | exact .nilList | exact .empList | exact frzPtr' (by simp; done) rfl (by omega) rfl rfl | exact frzLB (by simp; done) rfl (fun _ => rfl) rfl | exact frz_all (by simp; done) rfl (fun _ _ => rfl) (fun _ => rfl) rfl | exact .frz (by simp; done) rfl (by omega) (fun _ _ => rfl) (fun _ _ => rfl) | exact slEq rfl (by first | (simp; done) | (simp; omega)) | exact siEq (by omega) | (exact fn2_sub (frzPtr' (by simp) rfl (by omega) rfl rfl) (frzPtr' (by simp) rfl (by omega) rfl rfl)) | exact .of_eq (by refine (show V.agg _ = V.agg _ from ?_); (try dsimp only); congr <;> first | rfl | omega) rfl | exact .closed (by simp [V.closed, V.closed.all, *]; done) | fail))); done)))
  (refine aw_ret ?_; (repeat (first | refine ret_then ?_ | refine ret_block ?_)); refine bq1 rfl ⟨?_, rfl⟩)
  rfl
end Go.Proofs.Ytccidiflnmchiaa
namespace Go.Proofs.Ytccidiflnmchiaa
open Go.RowKit
def roomErr (s : Sheet) (c : Screen) : Int := if s.ok then (if c.ok then (if c.period - s.weight - s.clear < 0 then 71 else 0) else 2) else 70
def roomN (s : Sheet) (c : Screen) : Int := if roomErr s c = 0 then (cntF s c : Int) else 0
def roomW (s : Sheet) (c : Screen) : Int := if roomErr s c = 0 then c.period - s.weight - s.clear else 0
theorem room_ok {s : Sheet} {c : Screen} (h : roomErr s c = 0) : s.ok = true ∧ c.ok = true ∧ 0 ≤ c.period - s.weight - s.clear ∧ roomN s c = cntF s c ∧ roomW s c = c.period - s.weight - s.clear := by
  have h0 := h
  unfold roomErr at h
  split at h
  · split at h
    · split at h
      · omega
      · exact ⟨by assumption, by assumption, by omega, by simp [roomN, h0], by simp [roomW, h0]⟩
    · omega
  · omega
theorem room_bad {s : Sheet} {c : Screen} {e : Int} (h : roomErr s c = e) (he : e ≠ 0) : roomN s c = 0 ∧ roomW s c = 0 := by
  subst h
  exact ⟨by simp [roomN, he], by simp [roomW, he]⟩
def encRoom (s : Sheet) (c : Screen) : V := .tup [vi (roomN s c), vi (roomW s c), vi (roomErr s c)]
set_option maxHeartbeats 1000000 in
theorem lRoom_p (s : Sheet) (c : Screen) : PCalls Try.prog 43 [s.enc, c.enc] (· = encRoom s c) := by
  cases hs : s.ok
  · have he : roomErr s c = 70 := by simp [roomErr, hs]
    have h1 := err_bad hs
    obtain ⟨e1, e2⟩ := room_bad he (by decide)
    rw [encRoom, e1, e2, he]
    refine pcalls_of_aw Try.func43 rfl (Nat.le_of_ble_eq_true rfl) ?_
    (repeat' (first | (refine ar_isq ?_; first | refine zmv ?_ | refine zas ?_ | (refine is_load ?_; first | refine zlp ?_ | refine zlr ?_) | (refine is_binOp ?_; first | refine zlss ?_ | refine zneq ?_ | refine zadd ?_ | refine zsub ?_) | (refine is_fieldAddr ?_; first | refine zfp ?_ | refine zfr ?_) | refine znt ?_) | (refine ar_pcall (own := false) fn28 rfl rfl (.cons (.closed rfl) .nil) (checkSheet_p _) (by simp) (dc rfl) ?_; intro _ hv; subst hv) | (refine zbx ?_) | (refine zal ?_) | (refine zsvs ?_) | (refine zsva ?_) | (refine zses ?_) | (refine zsea ?_) | (refine ar_nil ?_) | (refine aw_seq ?_) | (refine aw_skip ?_) | (refine aw_block ?_) | (refine aw_exit ?_) | (refine aw_region ?_) | (refine zco ?_ ?_ <;> intro hg <;> first | exact absurd hg (by decide) | ((try replace hg := HG.out hg); (try dsimp only at hg); (try (have _h : True := hg; clear _h hg)); first | (exfalso; omega) | skip))))
    all_goals first
      | (exfalso; omega)
      | ((refine aw_ret ?_; (repeat (first | refine ret_then ?_ | refine ret_block ?_)); refine bq3c (ty rfl) rfl rfl Nat.one_pos rfl rfl rfl ⟨?_, rfl⟩); simp only [h1]; rfl)
  · cases hc : c.ok
    · have he : roomErr s c = 2 := by simp [roomErr, hs, hc]
      have h1 := err_ok hs
      obtain ⟨e1, e2⟩ := room_bad he (by decide)
      rw [encRoom, e1, e2, he]
      refine pcalls_of_aw Try.func43 rfl (Nat.le_of_ble_eq_true rfl) ?_
      (repeat' (first | (refine ar_isq ?_; first | refine zmv ?_ | refine zas ?_ | (refine is_load ?_; first | refine zlp ?_ | refine zlr ?_) | (refine is_binOp ?_; first | refine zlss ?_ | refine zneq ?_ | refine zadd ?_ | refine zsub ?_) | (refine is_fieldAddr ?_; first | refine zfp ?_ | refine zfr ?_) | refine znt ?_) | (refine ar_pcall (own := false) fn28 rfl rfl (.cons (.closed rfl) .nil) (checkSheet_p _) (by simp) (dc rfl) ?_; intro _ hv; subst hv) | (refine ar_pcall (own := false) fn79 rfl rfl (.cons (.closed rfl) .nil) (isScreen_p c) (by simp) (dc rfl) ?_; intro _ hv; subst hv) | (refine zbx ?_) | (refine zal ?_) | (refine zsvs ?_) | (refine zsva ?_) | (refine zses ?_) | (refine zsea ?_) | (refine ar_nil ?_) | (refine aw_seq ?_) | (refine aw_skip ?_) | (refine aw_block ?_) | (refine aw_exit ?_) | (refine aw_region ?_) | (refine zco ?_ ?_ <;> intro hg <;> first | exact absurd hg (by decide) | ((try replace hg := HG.out hg); (try dsimp only at hg); (try (have _h : True := hg; clear _h hg)); first | (exfalso; omega) | skip))))
      all_goals first
        | (exfalso; omega)
        | (exfalso; simp_all; done)
        | ((refine aw_ret ?_; (repeat (first | refine ret_then ?_ | refine ret_block ?_)); refine bq3c (ty rfl) rfl rfl Nat.one_pos rfl rfl rfl ⟨?_, rfl⟩); rfl)
    · have hbd := Sheet.bounds hs
      have hcb := Screen.bounds hc
      have h1 := err_ok hs
      have hc12 := cntF_le s c
      refine pcalls_of_aw Try.func43 rfl (Nat.le_of_ble_eq_true rfl) ?_
      (repeat' (first | (refine ar_isq ?_; first | refine zmv ?_ | refine zas ?_ | (refine is_load ?_; first | refine zlp ?_ | refine zlr ?_) | (refine is_binOp ?_; first | refine zlss ?_ | refine zneq ?_ | refine zadd ?_ | refine zsub ?_) | (refine is_fieldAddr ?_; first | refine zfp ?_ | refine zfr ?_) | refine znt ?_) | (refine ar_pcall (own := false) fn28 rfl rfl (.cons (.closed rfl) .nil) (checkSheet_p _) (by simp) (dc rfl) ?_; intro _ hv; subst hv) | (refine ar_pcall (own := false) fn79 rfl rfl (.cons (.closed rfl) .nil) (isScreen_p c) (by simp) (dc rfl) ?_; intro _ hv; subst hv) | (refine ar_pcall (own := false) fn80 rfl rfl (.cons (.closed rfl) (.cons (.closed rfl) .nil)) (rows_p s c) (by simp) (dc rfl) ?_; intro _ hv; subst hv) | (refine zbx ?_) | (refine zal ?_) | (refine zsvs ?_) | (refine zsva ?_) | (refine zses ?_) | (refine zsea ?_) | (refine ar_nil ?_) | (refine aw_seq ?_) | (refine aw_skip ?_) | (refine aw_block ?_) | (refine aw_exit ?_) | (refine aw_region ?_) | (refine zco ?_ ?_ <;> intro hg <;> first | exact absurd hg (by decide) | ((try replace hg := HG.out hg); (try dsimp only at hg); (try (have _h : True := hg; clear _h hg)); first | (exfalso; omega) | skip))))
      all_goals (try (exfalso; simp_all; done))
      · have he : roomErr s c = 71 := by simp [roomErr, hs, hc]; omega
        obtain ⟨e1, e2⟩ := room_bad he (by decide)
        rw [encRoom, e1, e2, he]
        (refine aw_ret ?_; (repeat (first | refine ret_then ?_ | refine ret_block ?_)); refine bq3c (ty rfl) rfl rfl Nat.one_pos rfl rfl rfl ⟨?_, rfl⟩)
        rfl
      have he : roomErr s c = 0 := by simp [roomErr, hs, hc]; omega
      obtain ⟨_, _, _, e1, e2⟩ := room_ok he
      rw [encRoom, e1, e2, he]
      (refine aw_mono_r (env' := [(4, .ptr 1 2 0 0), (5, vi (c.period - s.weight - s.clear)), (28, .fn (.func 94) [] [.ref c.enc 0, .ref s.enc 0])]) (H' := [.arr 5 1 (fun _ => s.enc), .arr 2 1 (fun _ => c.enc), .arr 1 1 (fun _ => vi 0)]) ?_ ?_; (focus ((refine sub_to [some 0, some 1, some 2] [] rfl ?_ ?_ <;> (repeat' (first | exact trivial | refine ⟨⟨_, rfl, ?_⟩, ?_⟩ | refine ⟨bsub_snoc rfl rfl (fun _ => rfl) ?_, ?_⟩ | refine ⟨bsub_one rfl rfl ?_, ?_⟩ | refine ⟨bsub_all rfl rfl (fun _ _ => rfl) (fun _ => rfl), ?_⟩ | refine ⟨bsub_updL rfl rfl ?_ (fun _ _ _ => rfl) (fun _ => rfl), ?_⟩ | refine ⟨.inl ⟨_, _, rfl, rfl, ?_⟩, ?_⟩ | exact ⟨.inr ⟨rfl, rfl⟩, trivial⟩ | refine ⟨.inr ⟨rfl, rfl⟩, ?_⟩ | (intro _ _) | exact .closed rfl | exact .sl rfl | exact .ptr rfl | exact .map rfl | exact .nil rfl | exact .emp rfl | exact .nilList | exact .empList | exact frzPtr' (by simp; done) rfl (by omega) rfl rfl | exact frzLB (by simp; done) rfl (fun _ => rfl) rfl | exact frz_all (by simp; done) rfl (fun _ _ => rfl) (fun _ => rfl) rfl | exact .frz (by simp; done) rfl (by omega) (fun _ _ => rfl) (fun _ _ => rfl) | exact slEq rfl (by first | (simp; done) | (simp; omega)) | exact siEq (by omega) | exact .of_eq (by refine (show V.agg _ = V.agg _ from ?_); (try dsimp only); congr <;> first | rfl | omega) rfl | exact .closed (by simp [V.closed, V.closed.all, *]; done) | fail))); done)))
      refine aw_range (fun k => [.arr 5 1 (fun _ => s.enc), .arr 2 1 (fun _ => c.enc), .arr 1 1 (fun _ => vi k)]) _ rfl rfl fn94 (It.rows_iter s hs c hc) (fun _ _ => rfl) (by decide) (fun k _ => rfl) ?maps ?start ?round ?done
      case maps => intro k j ms; match j with | 0 | 1 | 2 => simp | j + 3 => simp
      case start => (refine sub_to [some 0, some 1, some 2] [] rfl ?_ ?_ <;> (repeat' (first | exact trivial | refine ⟨⟨_, rfl, ?_⟩, ?_⟩ | refine ⟨bsub_snoc rfl rfl (fun _ => rfl) ?_, ?_⟩ | refine ⟨bsub_one rfl rfl ?_, ?_⟩ | refine ⟨bsub_all rfl rfl (fun _ _ => rfl) (fun _ => rfl), ?_⟩ | refine ⟨bsub_updL rfl rfl ?_ (fun _ _ _ => rfl) (fun _ => rfl), ?_⟩ | refine ⟨.inl ⟨_, _, rfl, rfl, ?_⟩, ?_⟩ | exact ⟨.inr ⟨rfl, rfl⟩, trivial⟩ | refine ⟨.inr ⟨rfl, rfl⟩, ?_⟩ | (intro _ _) | exact .closed rfl | exact .sl rfl | exact .ptr rfl | exact .map rfl | exact .nil rfl | exact .emp rfl | exact .nilList | exact .empList | exact frzPtr' (by simp; done) rfl (by omega) rfl rfl | exact frzLB (by simp; done) rfl (fun _ => rfl) rfl | exact frz_all (by simp; done) rfl (fun _ _ => rfl) (fun _ => rfl) rfl | exact .frz (by simp; done) rfl (by omega) (fun _ _ => rfl) (fun _ _ => rfl) | exact slEq rfl (by first | (simp; done) | (simp; omega)) | exact siEq (by omega) | exact .of_eq (by refine (show V.agg _ = V.agg _ from ?_); (try dsimp only); congr <;> first | rfl | omega) rfl | exact .closed (by simp [V.closed, V.closed.all, *]; done) | fail)))
      case round =>
        intro k lp hk
        (repeat' (first | (refine ar_isq ?_; first | refine zmv ?_ | refine zas ?_ | (refine is_load ?_; first | refine zlp ?_ | refine zlr ?_) | (refine is_binOp ?_; first | refine zlss ?_ | refine zneq ?_ | refine zadd ?_ | refine zsub ?_) | (refine is_fieldAddr ?_; first | refine zfp ?_ | refine zfr ?_) | refine znt ?_) | (refine zbx ?_) | (refine zal ?_) | (refine zsvs ?_) | (refine zsva ?_) | (refine zses ?_) | (refine zsea ?_) | (refine ar_nil ?_) | (refine aw_seq ?_) | (refine aw_skip ?_) | (refine aw_block ?_) | (refine aw_exit ?_) | (refine aw_region ?_) | (refine zco ?_ ?_ <;> intro hg <;> first | exact absurd hg (by decide) | ((try replace hg := HG.out hg); (try dsimp only at hg); (try (have _h : True := hg; clear _h hg)); first | (exfalso; omega) | skip))))
        refine (show SubOf _ _ _ _ _ _ from ?_)
        (refine sub_to [some 0, some 1, some 2] [] rfl ?_ ?_ <;> (repeat' (first | exact trivial | refine ⟨⟨_, rfl, ?_⟩, ?_⟩ | refine ⟨bsub_snoc rfl rfl (fun _ => rfl) ?_, ?_⟩ | refine ⟨bsub_one rfl rfl ?_, ?_⟩ | refine ⟨bsub_all rfl rfl (fun _ _ => rfl) (fun _ => rfl), ?_⟩ | refine ⟨bsub_updL rfl rfl ?_ (fun _ _ _ => rfl) (fun _ => rfl), ?_⟩ | refine ⟨.inl ⟨_, _, rfl, rfl, ?_⟩, ?_⟩ | exact ⟨.inr ⟨rfl, rfl⟩, trivial⟩ | refine ⟨.inr ⟨rfl, rfl⟩, ?_⟩ | (intro _ _) | exact .closed rfl | exact .sl rfl | exact .ptr rfl | exact .map rfl | exact .nil rfl | exact .emp rfl | exact .nilList | exact .empList | exact frzPtr' (by simp; done) rfl (by omega) rfl rfl | exact frzLB (by simp; done) rfl (fun _ => rfl) rfl | exact frz_all (by simp; done) rfl (fun _ _ => rfl) (fun _ => rfl) rfl | exact .frz (by simp; done) rfl (by omega) (fun _ _ => rfl) (fun _ _ => rfl) | exact slEq rfl (by first | (simp; done) | (simp; omega)) | exact siEq (by omega) | exact .of_eq (by refine (show V.agg _ = V.agg _ from ?_); (try dsimp only); congr <;> first | rfl | omega) rfl | exact .closed (by simp [V.closed, V.closed.all, *]; done) | fail)))
      case done =>
        (repeat' (first | (refine ar_isq ?_; first | refine zmv ?_ | refine zas ?_ | (refine is_load ?_; first | refine zlp ?_ | refine zlr ?_) | (refine is_binOp ?_; first | refine zlss ?_ | refine zneq ?_ | refine zadd ?_ | refine zsub ?_) | (refine is_fieldAddr ?_; first | refine zfp ?_ | refine zfr ?_) | refine znt ?_) | (refine zbx ?_) | (refine zal ?_) | (refine zsvs ?_) | (refine zsva ?_) | (refine zses ?_) | (refine zsea ?_) | (refine ar_nil ?_) | (refine aw_seq ?_) | (refine aw_skip ?_) | (refine aw_block ?_) | (refine aw_exit ?_) | (refine aw_region ?_) | (refine zco ?_ ?_ <;> intro hg <;> first | exact absurd hg (by decide) | ((try replace hg := HG.out hg); (try dsimp only at hg); (try (have _h : True := hg; clear _h hg)); first | (exfalso; omega) | skip))))
        (refine aw_ret ?_; (repeat (first | refine ret_then ?_ | refine ret_block ?_)); refine bq3c (ty rfl) rfl rfl Nat.one_pos rfl rfl rfl ⟨?_, rfl⟩)
        rfl
end Go.Proofs.Ytccidiflnmchiaa
namespace Go.Proofs.Ytccidiflnmchiaa
open Go.RowKit
def fF (a : Int) (w : Nat → Int) : Nat → Int
  | 0 => w 0
  | j + 1 => min (w (j + 1)) (fF a w j + a)
def bD (a : Int) (w : Nat → Int) (n : Nat) : Nat → Int
  | 0 => fF a w (n - 1)
  | d + 1 => min (fF a w (n - 1 - (d + 1))) (bD a w n d + a)
def leanAt (a : Int) (w : Nat → Int) (n j : Nat) : Int := bD a w n (n - 1 - j)
def carryF (a : Int) (g : Nat → Int) (i j k : Nat) : Int := if k = j then min (g j) (g i + a) else g k
def gOne (a : Int) (w : Nat → Int) (c k : Nat) : Int := if k ≤ c then fF a w k else w k
def gTwo (a : Int) (w : Nat → Int) (n d k : Nat) : Int := if n ≤ k + 1 + d then leanAt a w n k else fF a w k
theorem gOne_zero (a : Int) (w : Nat → Int) (k : Nat) : gOne a w 0 k = w k := by
  unfold gOne
  split
  · obtain rfl : k = 0 := by omega
    rfl
  · rfl
theorem gOne_step (a : Int) (w : Nat → Int) (c k : Nat) : carryF a (gOne a w c) c (c + 1) k = gOne a w (c + 1) k := by
  unfold carryF gOne
  by_cases h : k = c + 1
  · subst h
    rw [if_pos rfl, if_neg (by omega), if_pos (Nat.le_refl c), if_pos (Nat.le_refl _)]
    rfl
  · rw [if_neg h]
    by_cases h2 : k ≤ c
    · rw [if_pos h2, if_pos (by omega)]
    · rw [if_neg h2, if_neg (by omega)]
theorem gTwo_zero {a : Int} {w : Nat → Int} {n c k : Nat} (hk : k < n) (hc : n ≤ c + 1) : gOne a w c k = gTwo a w n 0 k := by
  unfold gOne gTwo
  rw [if_pos (by omega)]
  split
  · obtain rfl : k = n - 1 := by omega
    simp [leanAt, bD]
  · rfl
theorem gTwo_step {a : Int} {w : Nat → Int} {n d i j : Nat} (hd : d + 1 < n) (hi : i = n - 1 - d) (hj : j = n - 1 - d - 1) (k : Nat) : carryF a (gTwo a w n d) i j k = gTwo a w n (d + 1) k := by
  subst hi hj
  unfold carryF gTwo
  by_cases h : k = n - 1 - d - 1
  · rw [if_pos h, if_neg (by omega), if_pos (by omega), if_pos (by omega)]
    unfold leanAt
    rw [show n - 1 - (n - 1 - d) = d by omega, show n - 1 - k = d + 1 by omega]
    simp only [bD]
    rw [show n - 1 - (d + 1) = n - 1 - d - 1 by omega]
  · rw [if_neg h]
    by_cases h2 : n ≤ k + 1 + d
    · rw [if_pos h2, if_pos (by omega)]
    · rw [if_neg h2, if_neg (by omega)]
theorem gTwo_end {a : Int} {w : Nat → Int} {n d k : Nat} (hd : n ≤ d + 1) : gTwo a w n d k = leanAt a w n k := by unfold gTwo; rw [if_pos (by omega)]
theorem fF_le (a : Int) (w : Nat → Int) : ∀ j, fF a w j ≤ w j
  | 0 => Int.le_refl _
  | j + 1 => by simp only [fF]; omega
theorem fF_bnd {a : Int} {w : Nat → Int} (ha : 0 ≤ a) : ∀ j, (∀ k, k ≤ j → 0 ≤ w k) → 0 ≤ fF a w j
  | 0, h => h 0 (Nat.le_refl _)
  | j + 1, h => by
    have := fF_bnd ha j fun k hk => h k (by omega)
    have := h (j + 1) (Nat.le_refl _)
    simp only [fF]; omega
theorem bD_bnd {a : Int} {w : Nat → Int} {n : Nat} (ha : 0 ≤ a) (hw : ∀ k, k < n → 0 ≤ w k) (hn : 0 < n) : ∀ d, 0 ≤ bD a w n d
  | 0 => fF_bnd ha _ fun k hk => hw k (by omega)
  | d + 1 => by
    have := bD_bnd ha hw hn d
    have := fF_bnd (w := w) ha (n - 1 - (d + 1)) fun k hk => hw k (by omega)
    simp only [bD]; omega
theorem bD_le (a : Int) (w : Nat → Int) (n : Nat) : ∀ d, bD a w n d ≤ fF a w (n - 1 - d)
  | 0 => Int.le_refl _
  | d + 1 => by simp only [bD]; omega
theorem lean_bnd {a : Int} {w : Nat → Int} {n k : Nat} (ha : 0 ≤ a) (hw : ∀ k, k < n → 0 ≤ w k ∧ w k ≤ 100) (hk : k < n) : 0 ≤ leanAt a w n k ∧ leanAt a w n k ≤ 100 := by
  refine ⟨bD_bnd ha (fun k hk => (hw k hk).1) (by omega) _, ?_⟩
  have h1 := bD_le a w n (n - 1 - k)
  rw [show n - 1 - (n - 1 - k) = k by omega] at h1
  have h2 := fF_le a w k
  have h3 := hw k hk
  unfold leanAt
  omega
/-- What the document says: the least over all columns. -/
def farI (j k : Nat) : Int := max ((j : Int) - k) ((k : Int) - j)
theorem fF_all {a : Int} {w : Nat → Int} : ∀ (d k : Nat), fF a w (k + d) ≤ w k + a * d
  | 0, k => by have := fF_le a w k; simp; exact this
  | d + 1, k => by
    have := fF_all (a := a) (w := w) d k
    have e : a * ((d + 1 : Nat) : Int) = a * d + a := by rw [Int.natCast_succ, Int.mul_add, Int.mul_one]
    rw [e, show k + (d + 1) = (k + d) + 1 by omega]
    simp only [fF]; omega
theorem fF_some {a : Int} {w : Nat → Int} : ∀ j, ∃ i, i ≤ j ∧ fF a w j = w i + a * ((j : Int) - i)
  | 0 => ⟨0, Nat.le_refl _, by simp [fF]⟩
  | j + 1 => by
    obtain ⟨i, hi, h⟩ := fF_some (a := a) (w := w) j
    simp only [fF]
    rcases Int.le_total (w (j + 1)) (fF a w j + a) with h1 | h1
    · exact ⟨j + 1, Nat.le_refl _, by rw [Int.min_eq_left h1]; simp⟩
    · refine ⟨i, by omega, ?_⟩
      rw [Int.min_eq_right h1, h, Int.natCast_succ, show (j : Int) + 1 - i = ((j : Int) - i) + 1 by omega, Int.mul_add, Int.mul_one]
      omega
theorem bD_all {a : Int} {w : Nat → Int} {n : Nat} : ∀ (d e : Nat), bD a w n (e + d) ≤ fF a w (n - 1 - e) + a * d
  | 0, e => by have := bD_le a w n e; simp; exact this
  | d + 1, e => by
    have := bD_all (a := a) (w := w) (n := n) d e
    have e1 : a * ((d + 1 : Nat) : Int) = a * d + a := by rw [Int.natCast_succ, Int.mul_add, Int.mul_one]
    rw [e1, show e + (d + 1) = (e + d) + 1 by omega]
    simp only [bD]; omega
theorem bD_some {a : Int} {w : Nat → Int} {n : Nat} : ∀ d, ∃ e, e ≤ d ∧ bD a w n d = fF a w (n - 1 - e) + a * ((d : Int) - e)
  | 0 => ⟨0, Nat.le_refl _, by simp [bD]⟩
  | d + 1 => by
    obtain ⟨e, he, h⟩ := bD_some (a := a) (w := w) (n := n) d
    simp only [bD]
    rcases Int.le_total (fF a w (n - 1 - (d + 1))) (bD a w n d + a) with h1 | h1
    · exact ⟨d + 1, Nat.le_refl _, by rw [Int.min_eq_left h1]; simp⟩
    · refine ⟨e, by omega, ?_⟩
      rw [Int.min_eq_right h1, h, Int.natCast_succ, show (d : Int) + 1 - e = ((d : Int) - e) + 1 by omega, Int.mul_add, Int.mul_one]
      omega
theorem lean_all {a : Int} {w : Nat → Int} {n j k : Nat} (hj : j < n) (hk : k < n) : leanAt a w n j ≤ w k + a * farI j k := by
  unfold leanAt
  by_cases h : k ≤ j
  · have h1 := bD_le a w n (n - 1 - j)
    rw [show n - 1 - (n - 1 - j) = j by omega] at h1
    have h2 := fF_all (a := a) (w := w) (j - k) k
    rw [show k + (j - k) = j by omega] at h2
    rw [show farI j k = ((j - k : Nat) : Int) by unfold farI; omega]
    omega
  · have h1 := bD_all (a := a) (w := w) (n := n) (k - j) (n - 1 - k)
    rw [show n - 1 - k + (k - j) = n - 1 - j by omega, show n - 1 - (n - 1 - k) = k by omega] at h1
    have h2 := fF_le a w k
    rw [show farI j k = ((k - j : Nat) : Int) by unfold farI; omega]
    omega
theorem lean_some {a : Int} {w : Nat → Int} {n j : Nat} (ha : 0 ≤ a) (hj : j < n) : ∃ k, k < n ∧ w k + a * farI j k ≤ leanAt a w n j := by
  obtain ⟨e, he, h1⟩ := bD_some (a := a) (w := w) (n := n) (n - 1 - j)
  obtain ⟨i, hi, h2⟩ := fF_some (a := a) (w := w) (n - 1 - e)
  refine ⟨i, by omega, ?_⟩
  unfold leanAt
  rw [h1, h2, Int.add_assoc, ← Int.mul_add]
  have : a * farI j i ≤ a * (((n - 1 - e : Nat) : Int) - i + (((n - 1 - j : Nat) : Int) - e)) := Int.mul_le_mul_of_nonneg_left (by unfold farI; omega) ha
  omega
end Go.Proofs.Ytccidiflnmchiaa
namespace Go.Proofs.Ytccidiflnmchiaa
open Go.RowKit
set_option maxHeartbeats 1000000 in
theorem clone_p (l : List Int) (hl : l.length ≤ 1000) : FCalls Try.prog 101 [encInts l] 1 (fun n f => n = l.length ∧ ∀ i, i < n → f i = vi (el l i)) := by
  refine fcalls_of_aw Try.func101 rfl (dc rfl) ?_
  (repeat' (first | (refine ar_isq ?_; first | refine zmv ?_ | refine zas ?_ | refine zeql ?_) | (refine ar_eqnil (ty rfl) rfl rfl rfl (dc rfl) ?_; intro bq hbq) | (refine zb1 ?_) | (refine zb0 ?_) | (refine zapoo ?_) | (refine zapol ?_) | (refine zapno ?_) | (refine zapnl ?_) | (refine zapeo ?_) | (refine zapel ?_) | (refine ar_nil ?_) | (refine aw_seq ?_) | (refine aw_skip ?_) | (refine aw_block ?_) | (refine aw_exit ?_) | (refine aw_region ?_) | (refine zco ?_ ?_ <;> intro hg <;> first | exact absurd hg (by decide) | ((try replace hg := HG.out hg); (try dsimp only at hg); (try (have _h : True := hg; clear _h hg)); first | (exfalso; omega) | skip))))
  · have h0 := hbq (by assumption)
    (refine aw_mono_r (env' := [(2, .sl 1 0 0 0)]) (H' := [.arr 1 0 (fun _ => vi 0)]) ?_ ?_; (focus ((refine sub_to [none] [] rfl ?_ ?_ <;> (repeat' (first | exact trivial | refine ⟨⟨_, rfl, ?_⟩, ?_⟩ | refine ⟨bsub_snoc rfl rfl (fun _ => rfl) ?_, ?_⟩ | refine ⟨bsub_one rfl rfl ?_, ?_⟩ | refine ⟨bsub_all rfl rfl (fun _ _ => rfl) (fun _ => rfl), ?_⟩ | refine ⟨bsub_updL rfl rfl ?_ (fun _ _ _ => rfl) (fun _ => rfl), ?_⟩ | refine ⟨.inl ⟨_, _, rfl, rfl, ?_⟩, ?_⟩ | exact ⟨.inr ⟨rfl, rfl⟩, trivial⟩ | refine ⟨.inr ⟨rfl, rfl⟩, ?_⟩ | (intro _ _) | exact .closed rfl | exact .sl rfl | exact .ptr rfl | exact .map rfl | exact .nil rfl | exact .emp rfl | exact .nilList | exact .empList | exact frzPtr' (by simp; done) rfl (by omega) rfl rfl | exact frzLB (by simp; done) rfl (fun _ => rfl) rfl | exact frz_all (by simp; done) rfl (fun _ _ => rfl) (fun _ => rfl) rfl | exact .frz (by simp; done) rfl (by omega) (fun _ _ => rfl) (fun _ _ => rfl) | exact slEq rfl (by first | (simp; done) | (simp; omega)) | exact siEq (by omega) | exact .of_eq (by refine (show V.agg _ = V.agg _ from ?_); (try dsimp only); congr <;> first | rfl | omega) rfl | exact .closed (by simp [V.closed, V.closed.all, *]; done) | fail))); done)))
    refine aw_ret (ret_then (bq1 rfl ⟨0, _, rfl, rfl, ⟨by omega, fun i hi => by omega⟩, fun i hi => by omega⟩))
  · refine aw_ret (bq1 rfl ⟨0 + l.length, _, rfl, rfl, ⟨Nat.zero_add _, fun i hi => by rw [appF_ge (Nat.zero_le _), Nat.sub_zero]⟩, fun i hi => by rw [appF_ge (Nat.zero_le _)]; rfl⟩)
set_option maxHeartbeats 1000000 in
theorem carry_a (s : Sheet) (hs : s.ok = true) (n : Nat) (g : Nat → Int) (i j : Nat) (hi : i < n) (hj : j < n) (hg : ∀ k, k < n → 0 ≤ g k ∧ g k ≤ 100) :
    ACalls Try.prog 102 [vi i, vi j, .ptr 1 2 0 0, .ptr 5 0 0 0] [.arr 5 1 (fun _ => s.enc), .arr 1 n (fun k => vi (g k)), .arr 1 1 (fun _ => .sl 1 1 0 n)]
      (fun v H' => v = .tup [] ∧ H' = [.arr 5 1 (fun _ => s.enc), .arr 1 n (fun k => vi (carryF s.lean g i j k)), .arr 1 1 (fun _ => .sl 1 1 0 n)]) NoP := by
  have hb := Sheet.bounds hs
  have h1 := hg i hi
  have h2 := hg j hj
  refine acalls_of_aw Try.func102 rfl (Nat.le_of_ble_eq_true rfl) ?_
  (repeat' (first | (refine ar_isq ?_; first | refine zmv ?_ | (refine is_load ?_; first | refine zlp ?_ | refine zlr ?_) | refine zadd ?_ | (refine is_fieldAddr ?_; first | refine zfp ?_ | refine zfr ?_) | (refine is_indexAddr ?_; first | refine zil ?_ | refine zis ?_ | refine zit ?_ | refine zia ?_ | refine zir ?_ | refine zil (j := j) ?_ | refine zis (j := j) ?_ | refine zit (j := j) ?_ | refine zil (j := i) ?_ | refine zis (j := i) ?_ | refine zit (j := i) ?_ | (refine zxl ?_; intro _ _ _) | (refine zxs ?_; intro _ _ _)) | refine zmin ?_) | (refine ar_store_as (fun k => vi (carryF s.lean g i j k)) (ty rfl) rfl rfl rfl rfl rfl rfl (by assumption) (by dsimp only; omega) (fun _ h => by cases h) rfl rfl (fun _ h => by cases h) (by simp [carryF, vi]) (fun k _ hk => by simp [carryF, hk]) ?_) | (refine zsvs ?_) | (refine zsva ?_) | (refine zses ?_) | (refine zsea ?_) | (refine ar_nil ?_) | (refine aw_seq ?_) | (refine aw_skip ?_) | (refine aw_block ?_) | (refine aw_exit ?_) | (refine aw_region ?_) | (refine aw_drawn (id := 0) [(0, 0), (1, 0), (2, 0), (3, 0), (4, 0), (5, 0), (6, 0), (7, 0), (8, 0), (9, 0), (10, 0), (11, 0), (12, 0), (13, 0), (14, 0), (15, 2)] mixed (by kernel_rfl) ?_) | (refine zco ?_ ?_ <;> intro hg <;> first | exact absurd hg (by decide) | ((try replace hg := HG.out hg); (try dsimp only at hg); (try (have _h : True := hg; clear _h hg)); first | (exfalso; omega) | skip))))
  exact bq0n ⟨rfl, rfl⟩
set_option maxHeartbeats 1000000 in
theorem lean_p (s : Sheet) (hs : s.ok = true) (l : List Int) (hl : l.length ≤ 1000) (hw : ∀ k, k < l.length → 0 ≤ el l k ∧ el l k ≤ 100) : FCalls Try.prog 97 [s.enc, encInts l] 1 (fun n f => n = l.length ∧ ∀ i, i < n → f i = vi (leanAt s.lean (el l) l.length i)) := by
  have hb := Sheet.bounds hs
  have hone : ∀ c k, k < l.length → 0 ≤ gOne s.lean (el l) c k ∧ gOne s.lean (el l) c k ≤ 100 := fun c k hk => by
    have h1 := fF_le s.lean (el l) k
    have h2 := fF_bnd (a := s.lean) (w := el l) (by omega) k fun q hq => (hw q (by omega)).1
    have h3 := hw k hk
    unfold gOne
    split <;> omega
  have htwo : ∀ d k, k < l.length → 0 ≤ gTwo s.lean (el l) l.length d k ∧ gTwo s.lean (el l) l.length d k ≤ 100 := fun d k hk => by
    have h1 := fF_le s.lean (el l) k
    have h2 := fF_bnd (a := s.lean) (w := el l) (by omega) k fun q hq => (hw q (by omega)).1
    have h3 := hw k hk
    have h4 := lean_bnd (a := s.lean) (w := el l) (n := l.length) (k := k) (by omega) hw hk
    unfold gTwo
    split <;> omega
  refine fcalls_of_aw Try.func97 rfl (dc rfl) ?_
  (repeat' (first | (refine ar_isq ?_; first | refine zmv ?_ | refine zas ?_ | (refine is_load ?_; first | refine zlp ?_ | refine zlr ?_) | (refine is_binOp ?_; first | refine zlss ?_ | refine zgtr ?_ | refine zadd ?_ | refine zsub ?_) | (refine is_call ?_; first | refine zll ?_ | refine zls ?_ | refine zln ?_ | refine zle ?_) | refine zmf ?_) | (refine ar_fcall fn101 rfl rfl (.cons (.closed rfl) .nil) (clone_p l hl) (dc rfl) ?_; rintro n0 g0 ⟨rfl, hg0⟩) | (refine zbx ?_) | (refine zal ?_) | (refine zsvs ?_) | (refine zsva ?_) | (refine zses ?_) | (refine zsea ?_) | (refine ar_nil ?_) | (refine aw_seq ?_) | (refine aw_skip ?_) | (refine aw_block ?_) | (refine aw_exit ?_) | (refine aw_region ?_) | (refine zco ?_ ?_ <;> intro hg <;> first | exact absurd hg (by decide) | ((try replace hg := HG.out hg); (try dsimp only at hg); (try (have _h : True := hg; clear _h hg)); first | (exfalso; omega) | skip))))
  refine aw_for (l.length - 1) (fun _ => True) (fun c => [(5, .ptr 1 2 0 0), (6, .fn (.func 102) [] [.ptr 1 2 0 0, .ptr 5 0 0 0]), (7, vi (c + 1))]) (fun c => [.arr 5 1 (fun _ => s.enc), .arr 1 l.length (fun k => vi (gOne s.lean (el l) c k)), .arr 1 1 (fun _ => .sl 1 1 0 l.length)]) trivial ?_ ?_
  · (refine sub_to [some 0, some 1, some 2] [] rfl ?_ ?_ <;> (repeat' (first | exact trivial | refine ⟨⟨_, rfl, ?_⟩, ?_⟩ | refine ⟨bsub_snoc rfl rfl (fun _ => rfl) ?_, ?_⟩ | refine ⟨bsub_one rfl rfl ?_, ?_⟩ | refine ⟨bsub_all rfl rfl (fun _ _ => rfl) (fun _ => rfl), ?_⟩ | refine ⟨bsub_updL rfl rfl ?_ (fun _ _ _ => rfl) (fun _ => rfl), ?_⟩ | refine ⟨.inl ⟨_, _, rfl, rfl, ?_⟩, ?_⟩ | exact ⟨.inr ⟨rfl, rfl⟩, trivial⟩ | refine ⟨.inr ⟨rfl, rfl⟩, ?_⟩ | (intro _ _) | exact .closed rfl | exact .sl rfl | exact .ptr rfl | exact .map rfl | exact .nil rfl | exact .emp rfl | exact .nilList | exact .empList | exact frzPtr' (by simp; done) rfl (by omega) rfl rfl | exact frzLB (by simp; done) rfl (fun _ => rfl) rfl | exact frz_all (by simp; done) rfl (fun _ _ => rfl) (fun _ => rfl) rfl | exact .frz (by simp; done) rfl (by omega) (fun _ _ => rfl) (fun _ _ => rfl) | exact slEq rfl (by first | (simp; done) | (simp; omega)) | exact siEq (by omega) | (first | exact fn2_sub (.ptr rfl) (.ptr rfl) | exact VSub.of_eq ((hg0 _ (by assumption)).trans (congrArg vi (gOne_zero _ _ _).symm)) rfl) | exact .of_eq (by refine (show V.agg _ = V.agg _ from ?_); (try dsimp only); congr <;> first | rfl | omega) rfl | exact .closed (by simp [V.closed, V.closed.all, *]; done) | fail)))
  intro c hc _
  by_cases hlt : c + 1 < l.length
  · (repeat' (first | (refine ar_isq ?_; first | refine zmv ?_ | refine zas ?_ | (refine is_load ?_; first | refine zlp ?_ | refine zlr ?_) | (refine is_binOp ?_; first | refine zlss ?_ | refine zgtr ?_ | refine zadd ?_ | refine zsub ?_) | (refine is_call ?_; first | refine zll ?_ | refine zls ?_ | refine zln ?_ | refine zle ?_) | refine zmf ?_) | ((refine ar_re (t := 20) (v' := vi (c : Int)) rfl (congrArg vi (by omega)) ?_; refine ar_re (t := 21) (v' := vi ((c + 1 : Nat) : Int)) rfl (congrArg vi (by omega)) ?_; refine ar_acall fn102 rfl rfl (carry_a s hs l.length (gOne s.lean (el l) c) c (c + 1) (by omega) hlt (fun k hk => hone c k hk)) (dc rfl) ?_ (fun _ _ h => h.elim); rintro _ _ ⟨rfl, rfl⟩)) | (refine zbx ?_) | (refine zal ?_) | (refine zsvs ?_) | (refine zsva ?_) | (refine zses ?_) | (refine zsea ?_) | (refine ar_nil ?_) | (refine aw_seq ?_) | (refine aw_skip ?_) | (refine aw_block ?_) | (refine aw_exit ?_) | (refine aw_region ?_) | (refine zco ?_ ?_ <;> intro hg <;> first | exact absurd hg (by decide) | ((try replace hg := HG.out hg); (try dsimp only at hg); (try (have _h : True := hg; clear _h hg)); first | (exfalso; omega) | skip))))
    all_goals first
      | (exfalso; omega)
      | ((first | refine loop_next (by omega) ?_ ?_ | refine (show _ ∧ _ ∧ SubOf _ _ _ _ _ _ from And.intro (by omega) (And.intro ?_ ?_))); (focus ((trivial); done)); (focus ((refine sub_to [some 0, some 1, some 2] [] rfl ?_ ?_ <;> (repeat' (first | exact trivial | refine ⟨⟨_, rfl, ?_⟩, ?_⟩ | refine ⟨bsub_snoc rfl rfl (fun _ => rfl) ?_, ?_⟩ | refine ⟨bsub_one rfl rfl ?_, ?_⟩ | refine ⟨bsub_all rfl rfl (fun _ _ => rfl) (fun _ => rfl), ?_⟩ | refine ⟨bsub_updL rfl rfl ?_ (fun _ _ _ => rfl) (fun _ => rfl), ?_⟩ | refine ⟨.inl ⟨_, _, rfl, rfl, ?_⟩, ?_⟩ | exact ⟨.inr ⟨rfl, rfl⟩, trivial⟩ | refine ⟨.inr ⟨rfl, rfl⟩, ?_⟩ | (intro _ _) | exact .closed rfl | exact .sl rfl | exact .ptr rfl | exact .map rfl | exact .nil rfl | exact .emp rfl | exact .nilList | exact .empList | exact frzPtr' (by simp; done) rfl (by omega) rfl rfl | exact frzLB (by simp; done) rfl (fun _ => rfl) rfl | exact frz_all (by simp; done) rfl (fun _ _ => rfl) (fun _ => rfl) rfl | exact .frz (by simp; done) rfl (by omega) (fun _ _ => rfl) (fun _ _ => rfl) | exact slEq rfl (by first | (simp; done) | (simp; omega)) | exact siEq (by omega) | (first | exact fn2_sub (.ptr rfl) (.ptr rfl) | exact siEq (by omega) | exact VSub.of_eq (congrArg vi (gOne_step _ _ _ _)) rfl) | exact .of_eq (by refine (show V.agg _ = V.agg _ from ?_); (try dsimp only); congr <;> first | rfl | omega) rfl | exact .closed (by simp [V.closed, V.closed.all, *]; done) | fail))); done)))
  · (repeat' (first | (refine ar_isq ?_; first | refine zmv ?_ | refine zas ?_ | (refine is_load ?_; first | refine zlp ?_ | refine zlr ?_) | (refine is_binOp ?_; first | refine zlss ?_ | refine zgtr ?_ | refine zadd ?_ | refine zsub ?_) | (refine is_call ?_; first | refine zll ?_ | refine zls ?_ | refine zln ?_ | refine zle ?_) | refine zmf ?_) | (refine zbx ?_) | (refine zal ?_) | (refine zsvs ?_) | (refine zsva ?_) | (refine zses ?_) | (refine zsea ?_) | (refine ar_nil ?_) | (refine aw_seq ?_) | (refine aw_skip ?_) | (refine aw_block ?_) | (refine aw_exit ?_) | (refine aw_region ?_) | (refine zco ?_ ?_ <;> intro hg <;> first | exact absurd hg (by decide) | ((try replace hg := HG.out hg); (try dsimp only at hg); (try (have _h : True := hg; clear _h hg)); first | (exfalso; omega) | skip))))
    all_goals (try (exfalso; omega))
    refine aw_for (l.length - 1) (fun _ => True) (fun d => [(5, .ptr 1 2 0 0), (6, .fn (.func 102) [] [.ptr 1 2 0 0, .ptr 5 0 0 0]), (8, vi ((l.length : Int) - 1 - d))]) (fun d => [.arr 5 1 (fun _ => s.enc), .arr 1 l.length (fun k => vi (gTwo s.lean (el l) l.length d k)), .arr 1 1 (fun _ => .sl 1 1 0 l.length)]) trivial ?_ ?_
    · (refine sub_to [some 0, some 1, some 2] [] rfl ?_ ?_ <;> (repeat' (first | exact trivial | refine ⟨⟨_, rfl, ?_⟩, ?_⟩ | refine ⟨bsub_snoc rfl rfl (fun _ => rfl) ?_, ?_⟩ | refine ⟨bsub_one rfl rfl ?_, ?_⟩ | refine ⟨bsub_all rfl rfl (fun _ _ => rfl) (fun _ => rfl), ?_⟩ | refine ⟨bsub_updL rfl rfl ?_ (fun _ _ _ => rfl) (fun _ => rfl), ?_⟩ | refine ⟨.inl ⟨_, _, rfl, rfl, ?_⟩, ?_⟩ | exact ⟨.inr ⟨rfl, rfl⟩, trivial⟩ | refine ⟨.inr ⟨rfl, rfl⟩, ?_⟩ | (intro _ _) | exact .closed rfl | exact .sl rfl | exact .ptr rfl | exact .map rfl | exact .nil rfl | exact .emp rfl | exact .nilList | exact .empList | exact frzPtr' (by simp; done) rfl (by omega) rfl rfl | exact frzLB (by simp; done) rfl (fun _ => rfl) rfl | exact frz_all (by simp; done) rfl (fun _ _ => rfl) (fun _ => rfl) rfl | exact .frz (by simp; done) rfl (by omega) (fun _ _ => rfl) (fun _ _ => rfl) | exact slEq rfl (by first | (simp; done) | (simp; omega)) | exact siEq (by omega) | (first | exact fn2_sub (.ptr rfl) (.ptr rfl) | exact siEq (by omega) | exact VSub.of_eq (congrArg vi (gTwo_zero (by assumption) (by omega))) rfl) | exact .of_eq (by refine (show V.agg _ = V.agg _ from ?_); (try dsimp only); congr <;> first | rfl | omega) rfl | exact .closed (by simp [V.closed, V.closed.all, *]; done) | fail)))
    intro d hd _
    by_cases hld : d + 1 < l.length
    · (repeat' (first | (refine ar_isq ?_; first | refine zmv ?_ | refine zas ?_ | (refine is_load ?_; first | refine zlp ?_ | refine zlr ?_) | (refine is_binOp ?_; first | refine zlss ?_ | refine zgtr ?_ | refine zadd ?_ | refine zsub ?_) | (refine is_call ?_; first | refine zll ?_ | refine zls ?_ | refine zln ?_ | refine zle ?_) | refine zmf ?_) | ((refine ar_re (t := 31) (v' := vi ((l.length - 1 - d : Nat) : Int)) rfl (congrArg vi (by omega)) ?_; refine ar_re (t := 33) (v' := vi ((l.length - 1 - d - 1 : Nat) : Int)) rfl (congrArg vi (by omega)) ?_; refine ar_acall fn102 rfl rfl (carry_a s hs l.length (gTwo s.lean (el l) l.length d) (l.length - 1 - d) (l.length - 1 - d - 1) (by omega) (by omega) (fun k hk => htwo d k hk)) (dc rfl) ?_ (fun _ _ h => h.elim); rintro _ _ ⟨rfl, rfl⟩)) | (refine zbx ?_) | (refine zal ?_) | (refine zsvs ?_) | (refine zsva ?_) | (refine zses ?_) | (refine zsea ?_) | (refine ar_nil ?_) | (refine aw_seq ?_) | (refine aw_skip ?_) | (refine aw_block ?_) | (refine aw_exit ?_) | (refine aw_region ?_) | (refine zco ?_ ?_ <;> intro hg <;> first | exact absurd hg (by decide) | ((try replace hg := HG.out hg); (try dsimp only at hg); (try (have _h : True := hg; clear _h hg)); first | (exfalso; omega) | skip))))
      all_goals first
        | (exfalso; omega)
        | ((first | refine loop_next (by omega) ?_ ?_ | refine (show _ ∧ _ ∧ SubOf _ _ _ _ _ _ from And.intro (by omega) (And.intro ?_ ?_))); (focus ((trivial); done)); (focus ((refine sub_to [some 0, some 1, some 2] [] rfl ?_ ?_ <;> (repeat' (first | exact trivial | refine ⟨⟨_, rfl, ?_⟩, ?_⟩ | refine ⟨bsub_snoc rfl rfl (fun _ => rfl) ?_, ?_⟩ | refine ⟨bsub_one rfl rfl ?_, ?_⟩ | refine ⟨bsub_all rfl rfl (fun _ _ => rfl) (fun _ => rfl), ?_⟩ | refine ⟨bsub_updL rfl rfl ?_ (fun _ _ _ => rfl) (fun _ => rfl), ?_⟩ | refine ⟨.inl ⟨_, _, rfl, rfl, ?_⟩, ?_⟩ | exact ⟨.inr ⟨rfl, rfl⟩, trivial⟩ | refine ⟨.inr ⟨rfl, rfl⟩, ?_⟩ | (intro _ _) | exact .closed rfl | exact .sl rfl | exact .ptr rfl | exact .map rfl | exact .nil rfl | exact .emp rfl | exact .nilList | exact .empList | exact frzPtr' (by simp; done) rfl (by omega) rfl rfl | exact frzLB (by simp; done) rfl (fun _ => rfl) rfl | exact frz_all (by simp; done) rfl (fun _ _ => rfl) (fun _ => rfl) rfl | exact .frz (by simp; done) rfl (by omega) (fun _ _ => rfl) (fun _ _ => rfl) | exact slEq rfl (by first | (simp; done) | (simp; omega)) | exact siEq (by omega) | (first | exact fn2_sub (.ptr rfl) (.ptr rfl) | exact siEq (by omega) | exact VSub.of_eq (congrArg vi (gTwo_step hld rfl rfl _)) rfl) | exact .of_eq (by refine (show V.agg _ = V.agg _ from ?_); (try dsimp only); congr <;> first | rfl | omega) rfl | exact .closed (by simp [V.closed, V.closed.all, *]; done) | fail))); done)))
    · (repeat' (first | (refine ar_isq ?_; first | refine zmv ?_ | refine zas ?_ | (refine is_load ?_; first | refine zlp ?_ | refine zlr ?_) | (refine is_binOp ?_; first | refine zlss ?_ | refine zgtr ?_ | refine zadd ?_ | refine zsub ?_) | (refine is_call ?_; first | refine zll ?_ | refine zls ?_ | refine zln ?_ | refine zle ?_) | refine zmf ?_) | (refine zbx ?_) | (refine zal ?_) | (refine zsvs ?_) | (refine zsva ?_) | (refine zses ?_) | (refine zsea ?_) | (refine ar_nil ?_) | (refine aw_seq ?_) | (refine aw_skip ?_) | (refine aw_block ?_) | (refine aw_exit ?_) | (refine aw_region ?_) | (refine zco ?_ ?_ <;> intro hg <;> first | exact absurd hg (by decide) | ((try replace hg := HG.out hg); (try dsimp only at hg); (try (have _h : True := hg; clear _h hg)); first | (exfalso; omega) | skip))))
      all_goals first
        | (exfalso; omega)
        | ((refine aw_mono_r (env' := [(4, .sl 1 0 0 l.length)]) (H' := [.arr 1 l.length (fun k => vi (leanAt s.lean (el l) l.length k))]) ?_ ?_; (focus ((refine sub_to [some 1] [] rfl ?_ ?_ <;> (repeat' (first | exact trivial | refine ⟨⟨_, rfl, ?_⟩, ?_⟩ | refine ⟨bsub_snoc rfl rfl (fun _ => rfl) ?_, ?_⟩ | refine ⟨bsub_one rfl rfl ?_, ?_⟩ | refine ⟨bsub_all rfl rfl (fun _ _ => rfl) (fun _ => rfl), ?_⟩ | refine ⟨bsub_updL rfl rfl ?_ (fun _ _ _ => rfl) (fun _ => rfl), ?_⟩ | refine ⟨.inl ⟨_, _, rfl, rfl, ?_⟩, ?_⟩ | exact ⟨.inr ⟨rfl, rfl⟩, trivial⟩ | refine ⟨.inr ⟨rfl, rfl⟩, ?_⟩ | (intro _ _) | exact .closed rfl | exact .sl rfl | exact .ptr rfl | exact .map rfl | exact .nil rfl | exact .emp rfl | exact .nilList | exact .empList | exact frzPtr' (by simp; done) rfl (by omega) rfl rfl | exact frzLB (by simp; done) rfl (fun _ => rfl) rfl | exact frz_all (by simp; done) rfl (fun _ _ => rfl) (fun _ => rfl) rfl | exact .frz (by simp; done) rfl (by omega) (fun _ _ => rfl) (fun _ _ => rfl) | exact slEq rfl (by first | (simp; done) | (simp; omega)) | exact siEq (by omega) | (exact VSub.of_eq (congrArg vi (gTwo_end (by omega))) rfl) | exact .of_eq (by refine (show V.agg _ = V.agg _ from ?_); (try dsimp only); congr <;> first | rfl | omega) rfl | exact .closed (by simp [V.closed, V.closed.all, *]; done) | fail))); done))); refine aw_ret (bq1 rfl ⟨_, _, rfl, rfl, ⟨rfl, fun i hi => rfl⟩, fun i hi => rfl⟩))
end Go.Proofs.Ytccidiflnmchiaa
namespace Go.Proofs.Ytccidiflnmchiaa
open Go.RowKit
def rowI (c : Screen) (i : Nat) : Int := c.phase + (i : Int) * c.period
def drawRow (s : Sheet) (c : Screen) (w : List (List Int)) (i : Nat) : List Int := (List.range s.cols.toNat).map fun j => leanAt s.lean (el (el w i)) s.cols.toNat j + rowI c i
def drawTo (s : Sheet) (c : Screen) (w : List (List Int)) (k : Nat) : List (List Int) := (List.range k).map (drawRow s c w)
theorem drawRow_len (s : Sheet) (c : Screen) (w : List (List Int)) (i : Nat) : (drawRow s c w i).length = s.cols.toNat := by simp [drawRow]
theorem drawRow_el {s : Sheet} {c : Screen} {w : List (List Int)} {i j : Nat} (h : j < s.cols.toNat) : el (drawRow s c w i) j = leanAt s.lean (el (el w i)) s.cols.toNat j + rowI c i := by unfold drawRow; rw [el_map_range h]
theorem drawTo_len (s : Sheet) (c : Screen) (w : List (List Int)) (k : Nat) : (drawTo s c w k).length = k := by simp [drawTo]
theorem drawTo_succ (s : Sheet) (c : Screen) (w : List (List Int)) (k : Nat) : drawTo s c w (k + 1) = drawTo s c w k ++ [drawRow s c w k] := by simp [drawTo, List.range_succ]
def stAt (g : Nat → Int) (x : Int) (j q : Nat) : Int := if q < j then g q + x else g q
theorem stAt_zero (g : Nat → Int) (x : Int) (q : Nat) : stAt g x 0 q = g q := by simp [stAt]
theorem stAt_at (g : Nat → Int) (x : Int) (j : Nat) : stAt g x j j = g j := by simp [stAt]
theorem stAt_succ (g : Nat → Int) (x : Int) (j : Nat) : stAt g x (j + 1) j = stAt g x j j + x := by simp [stAt]
theorem stAt_ne {g : Nat → Int} {x : Int} {j q : Nat} (h : q ≠ j) : stAt g x (j + 1) q = stAt g x j q := by
  unfold stAt
  by_cases h1 : q < j
  · rw [if_pos h1, if_pos (by omega)]
  · rw [if_neg h1, if_neg (by omega)]
theorem stAt_end {g : Nat → Int} {x : Int} {j q : Nat} (h : q < j) : stAt g x j q = g q + x := by simp [stAt, h]
set_option maxHeartbeats 2000000 in
theorem draw_p (s : Sheet) (hs : s.ok = true) (c : Screen) (hc : c.ok = true) (w : List (List Int)) (hn : w.length = cntF s c) (hw : ∀ l, l ∈ w → l.length = s.cols.toNat ∧ ∀ k, k < l.length → 0 ≤ el l k ∧ el l k ≤ 100) : PCalls Try.prog 86 [s.enc, c.enc, encRows w] (· = encRows (drawTo s c w (cntF s c))) := by
  have hbd := Sheet.bounds hs
  have hcb := Screen.bounds hc
  have hc12 := cntF_le s c
  refine pcalls_of_aw Try.func86 rfl (Nat.le_of_ble_eq_true rfl) ?_
  (repeat' (first | (refine ar_isq ?_; first | refine zmv ?_ | refine zas ?_ | (refine is_load ?_; first | refine zlp ?_ | refine zlr ?_) | (refine is_binOp ?_; first | refine zlss ?_ | refine zadd ?_) | (refine is_indexAddr ?_; first | refine zil ?_ | refine zis ?_ | refine zit ?_ | refine zia ?_ | refine zir ?_ | (refine zxl ?_; intro _ _ _) | (refine zxs ?_; intro _ _ _)) | (refine is_call ?_; first | refine zll ?_ | refine zls ?_ | refine zln ?_ | refine zle ?_)) | (refine ar_pcall (own := false) fn80 rfl rfl (.cons (.closed rfl) (.cons (.closed rfl) .nil)) (rows_p s c) (by simp) (dc rfl) ?_; intro _ hv; subst hv) | (refine zbx ?_) | (refine zal ?_) | (refine zb1 ?_) | (refine zb0 ?_) | (refine zapoo ?_) | (refine zapol ?_) | (refine zapno ?_) | (refine zapnl ?_) | (refine zapeo ?_) | (refine zapel ?_) | (refine zsvs ?_) | (refine zsva ?_) | (refine zses ?_) | (refine zsea ?_) | (refine ar_nil ?_) | (refine aw_seq ?_) | (refine aw_skip ?_) | (refine aw_block ?_) | (refine aw_exit ?_) | (refine aw_region ?_) | (refine aw_drawn (id := 5) [(0, 0), (1, 0), (2, 0), (3, 0), (4, 0), (5, 1), (6, 0)] mixed (by kernel_rfl) ?_) | (refine aw_drawn (id := 5) [(0, 0), (1, 0), (2, 0), (3, 0), (4, 0), (5, 2), (6, 0)] mixed (by kernel_rfl) ?_) | (refine zco ?_ ?_ <;> intro hg <;> first | exact absurd hg (by decide) | ((try replace hg := HG.out hg); (try dsimp only at hg); (try (have _h : True := hg; clear _h hg)); first | (exfalso; omega) | skip))))
  (refine aw_mono_r (env' := [(3, .ptr 5 0 0 0), (5, .ptr 1 2 0 0), (7, .ptr 1 3 0 0), (14, .fn (.func 94) [] [.ref c.enc 0, .ref s.enc 0])]) (H' := [.arr 5 1 (fun _ => s.enc), .arr 2 1 (fun _ => c.enc), .arr 1 1 (fun _ => encRows w), .arr 1 1 (fun _ => vnil)]) ?_ ?_; (focus ((refine sub_to [some 0, some 1, some 2, some 3] [] rfl ?_ ?_ <;> (repeat' (first | exact trivial | refine ⟨⟨_, rfl, ?_⟩, ?_⟩ | refine ⟨bsub_snoc rfl rfl (fun _ => rfl) ?_, ?_⟩ | refine ⟨bsub_one rfl rfl ?_, ?_⟩ | refine ⟨bsub_all rfl rfl (fun _ _ => rfl) (fun _ => rfl), ?_⟩ | refine ⟨bsub_updL rfl rfl ?_ (fun _ _ _ => rfl) (fun _ => rfl), ?_⟩ | refine ⟨.inl ⟨_, _, rfl, rfl, ?_⟩, ?_⟩ | exact ⟨.inr ⟨rfl, rfl⟩, trivial⟩ | refine ⟨.inr ⟨rfl, rfl⟩, ?_⟩ | (intro _ _) | exact .closed rfl | exact .sl rfl | exact .ptr rfl | exact .map rfl | exact .nil rfl | exact .emp rfl | exact .nilList | exact .empList | exact frzPtr' (by simp; done) rfl (by omega) rfl rfl | exact frzLB (by simp; done) rfl (fun _ => rfl) rfl | exact frz_all (by simp; done) rfl (fun _ _ => rfl) (fun _ => rfl) rfl | exact .frz (by simp; done) rfl (by omega) (fun _ _ => rfl) (fun _ _ => rfl) | exact slEq rfl (by first | (simp; done) | (simp; omega)) | exact siEq (by omega) | exact .of_eq (by refine (show V.agg _ = V.agg _ from ?_); (try dsimp only); congr <;> first | rfl | omega) rfl | exact .closed (by simp [V.closed, V.closed.all, *]; done) | fail))); done)))
  refine aw_range (fun k => [.arr 5 1 (fun _ => s.enc), .arr 2 1 (fun _ => c.enc), .arr 1 1 (fun _ => encRows w), .arr 1 1 (fun _ => .sl 1 4 0 (drawTo s c w k).length), LB 1 encInts (drawTo s c w k)]) _ rfl rfl fn94 (It.rows_iter s hs c hc) (fun _ _ => rfl) (by decide) (fun k _ => rfl) ?maps ?start ?round ?done
  case maps => intro k j ms; match j with | 0 | 1 | 2 | 3 | 4 => simp [LB] | j + 5 => simp
  case start => (refine sub_to [some 0, some 1, some 2, some 3, none] [] rfl ?_ ?_ <;> (repeat' (first | exact trivial | refine ⟨⟨_, rfl, ?_⟩, ?_⟩ | refine ⟨bsub_snoc rfl rfl (fun _ => rfl) ?_, ?_⟩ | refine ⟨bsub_one rfl rfl ?_, ?_⟩ | refine ⟨bsub_all rfl rfl (fun _ _ => rfl) (fun _ => rfl), ?_⟩ | refine ⟨bsub_updL rfl rfl ?_ (fun _ _ _ => rfl) (fun _ => rfl), ?_⟩ | refine ⟨.inl ⟨_, _, rfl, rfl, ?_⟩, ?_⟩ | exact ⟨.inr ⟨rfl, rfl⟩, trivial⟩ | refine ⟨.inr ⟨rfl, rfl⟩, ?_⟩ | (intro _ _) | exact .closed rfl | exact .sl rfl | exact .ptr rfl | exact .map rfl | exact .nil rfl | exact .emp rfl | exact .nilList | exact .empList | exact frzPtr' (by simp; done) rfl (by omega) rfl rfl | exact frzLB (by simp; done) rfl (fun _ => rfl) rfl | exact frz_all (by simp; done) rfl (fun _ _ => rfl) (fun _ => rfl) rfl | exact .frz (by simp; done) rfl (by omega) (fun _ _ => rfl) (fun _ _ => rfl) | exact slEq rfl (by first | (simp; done) | (simp; omega)) | exact siEq (by omega) | exact .of_eq (by refine (show V.agg _ = V.agg _ from ?_); (try dsimp only); congr <;> first | rfl | omega) rfl | exact .closed (by simp [V.closed, V.closed.all, *]; done) | fail)))
  case round =>
    intro k lp hk
    have hm := mulP hc (k := k) (by omega)
    have hin := cntF_in hk
    have hkw : k < w.length := by omega
    obtain ⟨hl, hv⟩ := hw _ (el_mem hkw)
    have hlb := fun q (hq : q < s.cols.toNat) => lean_bnd (a := s.lean) (w := el (el w k)) (n := s.cols.toNat) (k := q) (by omega) (fun k' hk' => hv k' (by omega)) hq
    (repeat' (first | (refine ar_isq ?_; first | refine zmv ?_ | refine zas ?_ | (refine is_load ?_; first | refine zlp ?_ | refine zlr ?_) | (refine is_binOp ?_; first | refine zlss ?_ | refine zadd ?_) | (refine is_indexAddr ?_; first | refine zil ?_ | refine zis ?_ | refine zit ?_ | refine zia ?_ | refine zir ?_ | refine zil (j := k) ?_ | refine zis (j := k) ?_ | refine zit (j := k) ?_ | (refine zxl ?_; intro _ _ _) | (refine zxs ?_; intro _ _ _)) | (refine is_call ?_; first | refine zll ?_ | refine zls ?_ | refine zln ?_ | refine zle ?_)) | (refine ar_fcall fn97 rfl rfl (.cons (.closed rfl) (.cons (.closed rfl) .nil)) (lean_p s hs (el w k) (by omega) hv) (dc rfl) ?_; rintro n0 g0 ⟨rfl, hg0⟩) | (refine zbx ?_) | (refine zal ?_) | (refine zb1 ?_) | (refine zb0 ?_) | (refine zapoo ?_) | (refine zapol ?_) | (refine zapno ?_) | (refine zapnl ?_) | (refine zapeo ?_) | (refine zapel ?_) | (refine zsvs ?_) | (refine zsva ?_) | (refine zses ?_) | (refine zsea ?_) | (refine ar_nil ?_) | (refine aw_seq ?_) | (refine aw_skip ?_) | (refine aw_block ?_) | (refine aw_exit ?_) | (refine aw_region ?_) | (refine aw_drawn (id := 5) [(0, 0), (1, 0), (2, 0), (3, 0), (4, 0), (5, 1), (6, 0)] mixed (by kernel_rfl) ?_) | (refine aw_drawn (id := 5) [(0, 0), (1, 0), (2, 0), (3, 0), (4, 0), (5, 2), (6, 0)] mixed (by kernel_rfl) ?_) | (refine zco ?_ ?_ <;> intro hg <;> first | exact absurd hg (by decide) | ((try replace hg := HG.out hg); (try dsimp only at hg); (try (have _h : True := hg; clear _h hg)); first | (exfalso; omega) | skip))))
    refine aw_for (el w k).length (fun _ => True) (fun j => [(7, .ptr 1 3 0 0), (9, vi (rowI c k)), (10, .sl 1 5 0 (el w k).length), (23, .sl 1 5 0 (el w k).length), (24, vi (el w k).length), (25, vi j)]) (fun j => [.arr 5 1 (fun _ => s.enc), .arr 2 1 (fun _ => c.enc), .arr 1 1 (fun _ => encRows w), .arr 1 1 (fun _ => .sl 1 4 0 (drawTo s c w k).length), LB 1 encInts (drawTo s c w k), .arr 1 (el w k).length (fun q => vi (stAt (leanAt s.lean (el (el w k)) (el w k).length) (rowI c k) j q))]) trivial ?_ ?_
    · (refine sub_to [some 0, some 1, some 2, some 3, some 4, some 5] [] rfl ?_ ?_ <;> (repeat' (first | exact trivial | refine ⟨⟨_, rfl, ?_⟩, ?_⟩ | refine ⟨bsub_snoc rfl rfl (fun _ => rfl) ?_, ?_⟩ | refine ⟨bsub_one rfl rfl ?_, ?_⟩ | refine ⟨bsub_all rfl rfl (fun _ _ => rfl) (fun _ => rfl), ?_⟩ | refine ⟨bsub_updL rfl rfl ?_ (fun _ _ _ => rfl) (fun _ => rfl), ?_⟩ | refine ⟨.inl ⟨_, _, rfl, rfl, ?_⟩, ?_⟩ | exact ⟨.inr ⟨rfl, rfl⟩, trivial⟩ | refine ⟨.inr ⟨rfl, rfl⟩, ?_⟩ | (intro _ _) | exact .closed rfl | exact .sl rfl | exact .ptr rfl | exact .map rfl | exact .nil rfl | exact .emp rfl | exact .nilList | exact .empList | exact frzPtr' (by simp; done) rfl (by omega) rfl rfl | exact frzLB (by simp; done) rfl (fun _ => rfl) rfl | exact frz_all (by simp; done) rfl (fun _ _ => rfl) (fun _ => rfl) rfl | exact .frz (by simp; done) rfl (by omega) (fun _ _ => rfl) (fun _ _ => rfl) | exact slEq rfl (by first | (simp; done) | (simp; omega)) | exact siEq (by omega) | (exact VSub.of_eq ((hg0 _ (by assumption)).trans (congrArg vi (stAt_zero _ _ _).symm)) rfl) | exact .of_eq (by refine (show V.agg _ = V.agg _ from ?_); (try dsimp only); congr <;> first | rfl | omega) rfl | exact .closed (by simp [V.closed, V.closed.all, *]; done) | fail)))
    intro j hj _
    rw [hl] at hj ⊢
    have hdl := drawTo_len s c w k
    have hrI : rowI c k = c.phase + (k : Int) * c.period := rfl
    by_cases hlt : j < s.cols.toNat
    · have hjb := hlb j hlt
      have hsj := stAt_at (leanAt s.lean (el (el w k)) s.cols.toNat) (rowI c k) j
      (repeat' (first | (refine ar_isq ?_; first | refine zmv ?_ | refine zas ?_ | (refine is_load ?_; first | refine zlp ?_ | refine zlr ?_) | (refine is_binOp ?_; first | refine zlss ?_ | refine zadd ?_) | (refine is_indexAddr ?_; first | refine zil ?_ | refine zis ?_ | refine zit ?_ | refine zia ?_ | refine zir ?_ | (refine zxl ?_; intro _ _ _) | (refine zxs ?_; intro _ _ _)) | (refine is_call ?_; first | refine zll ?_ | refine zls ?_ | refine zln ?_ | refine zle ?_)) | (refine ar_store_as (fun q => vi (stAt (leanAt s.lean (el (el w k)) s.cols.toNat) (rowI c k) (j + 1) q)) (ty rfl) rfl rfl rfl rfl rfl rfl (by assumption) (by dsimp only; omega) (fun _ h => by cases h) rfl rfl (fun _ h => by cases h) (congrArg vi (stAt_succ _ _ _)) (fun q _ hq => congrArg vi (stAt_ne hq)) ?_) | (refine zbx ?_) | (refine zal ?_) | (refine zb1 ?_) | (refine zb0 ?_) | (refine zapoo ?_) | (refine zapol ?_) | (refine zapno ?_) | (refine zapnl ?_) | (refine zapeo ?_) | (refine zapel ?_) | (refine zsvs ?_) | (refine zsva ?_) | (refine zses ?_) | (refine zsea ?_) | (refine ar_nil ?_) | (refine aw_seq ?_) | (refine aw_skip ?_) | (refine aw_block ?_) | (refine aw_exit ?_) | (refine aw_region ?_) | (refine aw_drawn (id := 5) [(0, 0), (1, 0), (2, 0), (3, 0), (4, 0), (5, 1), (6, 0)] mixed (by kernel_rfl) ?_) | (refine aw_drawn (id := 5) [(0, 0), (1, 0), (2, 0), (3, 0), (4, 0), (5, 2), (6, 0)] mixed (by kernel_rfl) ?_) | (refine zco ?_ ?_ <;> intro hg <;> first | exact absurd hg (by decide) | ((try replace hg := HG.out hg); (try dsimp only at hg); (try (have _h : True := hg; clear _h hg)); first | (exfalso; omega) | skip))))
      all_goals first
        | (exfalso; omega)
        | ((first | refine loop_next (by omega) ?_ ?_ | refine (show _ ∧ _ ∧ SubOf _ _ _ _ _ _ from And.intro (by omega) (And.intro ?_ ?_))); (focus ((trivial); done)); (focus ((refine sub_to [some 0, some 1, some 2, some 3, some 4, some 5] [] rfl ?_ ?_ <;> (repeat' (first | exact trivial | refine ⟨⟨_, rfl, ?_⟩, ?_⟩ | refine ⟨bsub_snoc rfl rfl (fun _ => rfl) ?_, ?_⟩ | refine ⟨bsub_one rfl rfl ?_, ?_⟩ | refine ⟨bsub_all rfl rfl (fun _ _ => rfl) (fun _ => rfl), ?_⟩ | refine ⟨bsub_updL rfl rfl ?_ (fun _ _ _ => rfl) (fun _ => rfl), ?_⟩ | refine ⟨.inl ⟨_, _, rfl, rfl, ?_⟩, ?_⟩ | exact ⟨.inr ⟨rfl, rfl⟩, trivial⟩ | refine ⟨.inr ⟨rfl, rfl⟩, ?_⟩ | (intro _ _) | exact .closed rfl | exact .sl rfl | exact .ptr rfl | exact .map rfl | exact .nil rfl | exact .emp rfl | exact .nilList | exact .empList | exact frzPtr' (by simp; done) rfl (by omega) rfl rfl | exact frzLB (by simp; done) rfl (fun _ => rfl) rfl | exact frz_all (by simp; done) rfl (fun _ _ => rfl) (fun _ => rfl) rfl | exact .frz (by simp; done) rfl (by omega) (fun _ _ => rfl) (fun _ _ => rfl) | exact slEq rfl (by first | (simp; done) | (simp; omega)) | exact siEq (by omega) | exact .of_eq (by refine (show V.agg _ = V.agg _ from ?_); (try dsimp only); congr <;> first | rfl | omega) rfl | exact .closed (by simp [V.closed, V.closed.all, *]; done) | fail))); done)))
    · (repeat' (first | (refine ar_isq ?_; first | refine zmv ?_ | refine zas ?_ | (refine is_load ?_; first | refine zlp ?_ | refine zlr ?_) | (refine is_binOp ?_; first | refine zlss ?_ | refine zadd ?_) | (refine is_indexAddr ?_; first | refine zil ?_ | refine zis ?_ | refine zit ?_ | refine zia ?_ | refine zir ?_ | (refine zxl ?_; intro _ _ _) | (refine zxs ?_; intro _ _ _)) | (refine is_call ?_; first | refine zll ?_ | refine zls ?_ | refine zln ?_ | refine zle ?_)) | (refine zbx ?_) | (refine zal ?_) | (refine zb1 ?_) | (refine zb0 ?_) | (refine zapoo ?_) | (refine zapol ?_) | (refine zapno ?_) | (refine zapnl ?_) | (refine zapeo ?_) | (refine zapel ?_) | (refine zsvs ?_) | (refine zsva ?_) | (refine zses ?_) | (refine zsea ?_) | (refine ar_nil ?_) | (refine aw_seq ?_) | (refine aw_skip ?_) | (refine aw_block ?_) | (refine aw_exit ?_) | (refine aw_region ?_) | (refine aw_drawn (id := 5) [(0, 0), (1, 0), (2, 0), (3, 0), (4, 0), (5, 1), (6, 0)] mixed (by kernel_rfl) ?_) | (refine aw_drawn (id := 5) [(0, 0), (1, 0), (2, 0), (3, 0), (4, 0), (5, 2), (6, 0)] mixed (by kernel_rfl) ?_) | (refine zco ?_ ?_ <;> intro hg <;> first | exact absurd hg (by decide) | ((try replace hg := HG.out hg); (try dsimp only at hg); (try (have _h : True := hg; clear _h hg)); first | (exfalso; omega) | skip))))
      all_goals first
        | (exfalso; omega)
        | (refine (show SubOf _ _ _ _ _ _ from ?_); rw [drawTo_succ]; (refine sub_to [some 0, some 1, some 2, some 3, some 7] [5] rfl ?_ ?_ <;> (repeat' (first | exact trivial | refine ⟨⟨_, rfl, ?_⟩, ?_⟩ | refine ⟨bsub_snoc rfl rfl (fun _ => rfl) ?_, ?_⟩ | refine ⟨bsub_one rfl rfl ?_, ?_⟩ | refine ⟨bsub_all rfl rfl (fun _ _ => rfl) (fun _ => rfl), ?_⟩ | refine ⟨bsub_updL rfl rfl ?_ (fun _ _ _ => rfl) (fun _ => rfl), ?_⟩ | refine ⟨.inl ⟨_, _, rfl, rfl, ?_⟩, ?_⟩ | exact ⟨.inr ⟨rfl, rfl⟩, trivial⟩ | refine ⟨.inr ⟨rfl, rfl⟩, ?_⟩ | (intro _ _) | exact .closed rfl | exact .sl rfl | exact .ptr rfl | exact .map rfl | exact .nil rfl | exact .emp rfl | exact .nilList | exact .empList | exact frzPtr' (by simp; done) rfl (by omega) rfl rfl | exact frzLB (by simp; done) rfl (fun _ => rfl) rfl | exact frz_all (by simp; done) rfl (fun _ _ => rfl) (fun _ => rfl) rfl | exact .frz (by simp; done) rfl (by omega) (fun _ _ => rfl) (fun _ _ => rfl) | exact slEq rfl (by first | (simp; done) | (simp; omega)) | exact siEq (by omega) | (exact frz_as (by simp) rfl rfl (drawRow_len _ _ _ _) (fun q hq => by rw [drawRow_el hq, stAt_end (by omega)]) (fun _ => rfl)) | exact .of_eq (by refine (show V.agg _ = V.agg _ from ?_); (try dsimp only); congr <;> first | rfl | omega) rfl | exact .closed (by simp [V.closed, V.closed.all, *]; done) | fail))))
  case done =>
    (repeat' (first | (refine ar_isq ?_; first | refine zmv ?_ | refine zas ?_ | (refine is_load ?_; first | refine zlp ?_ | refine zlr ?_) | (refine is_binOp ?_; first | refine zlss ?_ | refine zadd ?_) | (refine is_indexAddr ?_; first | refine zil ?_ | refine zis ?_ | refine zit ?_ | refine zia ?_ | refine zir ?_ | (refine zxl ?_; intro _ _ _) | (refine zxs ?_; intro _ _ _)) | (refine is_call ?_; first | refine zll ?_ | refine zls ?_ | refine zln ?_ | refine zle ?_)) | (refine zbx ?_) | (refine zal ?_) | (refine zb1 ?_) | (refine zb0 ?_) | (refine zapoo ?_) | (refine zapol ?_) | (refine zapno ?_) | (refine zapnl ?_) | (refine zapeo ?_) | (refine zapel ?_) | (refine zsvs ?_) | (refine zsva ?_) | (refine zses ?_) | (refine zsea ?_) | (refine ar_nil ?_) | (refine aw_seq ?_) | (refine aw_skip ?_) | (refine aw_block ?_) | (refine aw_exit ?_) | (refine aw_region ?_) | (refine aw_drawn (id := 5) [(0, 0), (1, 0), (2, 0), (3, 0), (4, 0), (5, 1), (6, 0)] mixed (by kernel_rfl) ?_) | (refine aw_drawn (id := 5) [(0, 0), (1, 0), (2, 0), (3, 0), (4, 0), (5, 2), (6, 0)] mixed (by kernel_rfl) ?_) | (refine zco ?_ ?_ <;> intro hg <;> first | exact absurd hg (by decide) | ((try replace hg := HG.out hg); (try dsimp only at hg); (try (have _h : True := hg; clear _h hg)); first | (exfalso; omega) | skip))))
    (refine aw_mono_r (env' := [(6, encRows (drawTo s c w (cntF s c)))]) (H' := []) ?_ ?_; (focus ((refine sub_to [] [4] rfl ?_ ?_ <;> (repeat' (first | exact trivial | refine ⟨⟨_, rfl, ?_⟩, ?_⟩ | refine ⟨bsub_snoc rfl rfl (fun _ => rfl) ?_, ?_⟩ | refine ⟨bsub_one rfl rfl ?_, ?_⟩ | refine ⟨bsub_all rfl rfl (fun _ _ => rfl) (fun _ => rfl), ?_⟩ | refine ⟨bsub_updL rfl rfl ?_ (fun _ _ _ => rfl) (fun _ => rfl), ?_⟩ | refine ⟨.inl ⟨_, _, rfl, rfl, ?_⟩, ?_⟩ | exact ⟨.inr ⟨rfl, rfl⟩, trivial⟩ | refine ⟨.inr ⟨rfl, rfl⟩, ?_⟩ | (intro _ _) | exact .closed rfl | exact .sl rfl | exact .ptr rfl | exact .map rfl | exact .nil rfl | exact .emp rfl | exact .nilList | exact .empList | exact frzPtr' (by simp; done) rfl (by omega) rfl rfl | exact frzLB (by simp; done) rfl (fun _ => rfl) rfl | exact frz_all (by simp; done) rfl (fun _ _ => rfl) (fun _ => rfl) rfl | exact .frz (by simp; done) rfl (by omega) (fun _ _ => rfl) (fun _ _ => rfl) | exact slEq rfl (by first | (simp; done) | (simp; omega)) | exact siEq (by omega) | exact .of_eq (by refine (show V.agg _ = V.agg _ from ?_); (try dsimp only); congr <;> first | rfl | omega) rfl | exact .closed (by simp [V.closed, V.closed.all, *]; done) | fail))); done)))
    (refine aw_ret ?_; (repeat (first | refine ret_then ?_ | refine ret_block ?_)); refine bq1 rfl ⟨?_, rfl⟩)
    rfl
end Go.Proofs.Ytccidiflnmchiaa
