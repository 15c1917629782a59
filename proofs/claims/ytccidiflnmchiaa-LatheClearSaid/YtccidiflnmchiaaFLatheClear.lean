/- LatheClear: the law returns true for every sheet, two lists, number, screen, wishes and mask. No condition. -/
import Derived.Test.YtccidiflnmchiaaKOa9
namespace Go.Proofs.Ytccidiflnmchiaa
open Go.RowKit
/-! ### LatheClear -/
theorem between_check {s : Sheet} {top bottom : List Int} {n : Int} (h : betweenErr s top bottom n = 0) : checkErr s (betweenF s top bottom n) = 0 := by
  obtain ⟨hc, hw, hf⟩ := between_of h
  obtain ⟨hs, h1, h2, h3⟩ := curves_ok hc
  have hn := withinB_iff.1 hw
  obtain ⟨M, rfl⟩ : ∃ M : Nat, n = (M : Int) := ⟨n.toNat, by omega⟩
  rw [betweenF_ok h, Int.toNat_natCast]
  exact check_band hs (by rw [band_even hs h1 h2 h3 (by omega) (by omega)]; exact decide_eq_true hf)
theorem draw_ok {s : Sheet} {c : Screen} {w : List (List Int)} (h : drawErr s c w = 0) : roomErr s c = 0 ∧ w.length = cntF s c ∧ ∀ i, i < w.length → ((el w i).length : Int) = s.cols ∧ ∀ j, j < (el w i).length → 0 ≤ el (el w i) j ∧ el (el w i) j ≤ roomW s c := by
  unfold drawErr at h
  split at h
  · rename_i h1
    split at h
    · rename_i h2
      obtain ⟨_, _, _, hn, _⟩ := room_ok h1
      simp only [wishOk, Bool.and_eq_true, decide_eq_true_eq] at h2
      obtain ⟨⟨h3, h4⟩, h5⟩ := h2
      refine ⟨h1, by omega, fun i hi => ⟨?_, fun j hj => ?_⟩⟩
      · have := of_all_el h4 hi
        simpa [lenB] using this
      · have := List.all_eq_true.1 h5 (el (el w i) j) (List.mem_flatten.2 ⟨_, el_mem hi, el_mem hj⟩)
        exact withinB_iff.1 this
    · cases h
  · rename_i h1; exact (h1 h).elim
theorem draw_check {s : Sheet} {c : Screen} {w : List (List Int)} (h : drawErr s c w = 0) : checkErr s (drawF s c w) = 0 := by
  obtain ⟨hr, hn, hl⟩ := draw_ok h
  obtain ⟨hs, _, _, _, _⟩ := room_ok hr
  rw [drawF_ok h]
  refine check_band hs (draw_band hr hn fun i hi j hj => ?_)
  have := (hl i hi).1
  exact (hl i hi).2 j (by omega)
theorem hide_check {s : Sheet} {c : Screen} {m : List (List Bool)} (h : hideErr s c m = 0) : checkErr s (hideF s c m) = 0 := by
  obtain ⟨hr, _⟩ := hide_ok h
  exact check_band (room_ok hr).1 (hide_band h)
theorem check_clash0 {s : Sheet} {b : List (List Int)} (h : checkErr s b = 0) : clErr s b = 0 ∧ (clF s b).length = 0 := by
  obtain ⟨h1, h2, h3⟩ := band_of_check h
  have hc : clErr s b = 0 := by unfold clErr; rw [if_pos h1, if_pos h2, if_pos h3]
  refine ⟨hc, ?_⟩
  rw [(clF_ok hc).2.2.2]
  exact (clash_check hc).2 h

set_option maxHeartbeats 4000000 in
theorem latheClear_p (s : Sheet) (_o0 : i64ok s.cols ∧ i64ok s.rows ∧ i64ok s.weight ∧ i64ok s.clear ∧ i64ok s.lean) (top : List Int) (_o1 : ∀ y, y ∈ top → i64ok y) (bottom : List Int) (_o2 : ∀ y, y ∈ bottom → i64ok y) (n : Int) (_o3 : i64ok n) (c : Screen) (_o4 : i64ok c.period ∧ i64ok c.phase) (w : List (List Int)) (_o5 : ∀ l, l ∈ w → ∀ y, y ∈ l → i64ok y) (m : List (List Bool)) (_o6 : ∀ l, l ∈ m → ∀ y, y ∈ l → True) :
    PCalls Try.prog 16 [s.enc, encInts top, encInts bottom, vi n, c.enc, encRows w, encMask m] (· = vb true) := by
  (refine pcalls_know (fun I us h => rel_len (rel_arg h (j := 1) rfl)) fun hlen1 => ?_)
  (refine pcalls_know (fun I us h => rel_len (rel_arg h (j := 2) rfl)) fun hlen2 => ?_)
  have q1 : (betweenErr s top bottom n ≠ 0 → (betweenF s top bottom n).length = 0) ∧ (betweenErr s top bottom n = 0 → checkErr s (betweenF s top bottom n) = 0) := ⟨fun h => by rw [betweenF_bad h]; rfl, between_check⟩
  have q2 : (drawErr s c w ≠ 0 → (drawF s c w).length = 0) ∧ (drawErr s c w = 0 → checkErr s (drawF s c w) = 0) := ⟨fun h => by rw [drawF_bad h]; rfl, draw_check⟩
  have q3 : (hideErr s c m ≠ 0 → (hideF s c m).length = 0) ∧ (hideErr s c m = 0 → checkErr s (hideF s c m) = 0) := ⟨fun h => by rw [hideF_bad h]; rfl, hide_check⟩
  have r1 := lBetween_p s top bottom n
  have r2 := fun h20 h60 => lDraw_p s c w h20 h60
  have r3 := lHide_p s c m
  generalize betweenErr s top bottom n = e1 at q1 r1
  generalize betweenF s top bottom n = b1 at q1 r1
  generalize drawErr s c w = e2 at q2 r2
  generalize drawF s c w = b2 at q2 r2
  generalize hideErr s c m = e3 at q3 r3
  generalize hideF s c m = b3 at q3 r3
  have hall : ∀ i, i < 3 → (el [e1, e2, e3] i ≠ 0 → (el [b1, b2, b3] i).length = 0) ∧ (el [e1, e2, e3] i = 0 → checkErr s (el [b1, b2, b3] i) = 0) := fun i hi => match i, hi with
    | 0, _ => q1
    | 1, _ => q2
    | 2, _ => q3
  refine pcalls_of_aw Try.func16 rfl (Nat.le_of_ble_eq_true rfl) ?_
  (repeat' (first | (refine ar_isq ?_; first | refine zmv ?_ | refine zas ?_ | (refine is_load ?_; first | refine zlp ?_ | refine zlr ?_) | (refine is_binOp ?_; first | refine zlss ?_ | refine zgtr ?_ | refine zneq ?_ | refine zadd ?_) | (refine is_indexAddr ?_; first | refine zil ?_ | refine zis ?_ | refine zit ?_ | refine zia ?_ | refine zir ?_ | (refine zxl ?_; intro _ _ _) | (refine zxs ?_; intro _ _ _)) | (refine is_call ?_; first | refine zll ?_ | refine zls ?_ | refine zln ?_ | refine zle ?_) | (refine is_pick ?_; first | refine zpt ?_ | refine zpf ?_) | refine zex ?_ | refine znt ?_) | (refine ar_pcall (own := false) fn49 rfl rfl .nil (alive_p) (by simp) (dc rfl) ?_; intro _ hv; subst hv) | (refine ar_pcall (own := false) fn22 rfl rfl (.cons (.closed rfl) .nil) (great_p w) (by simp) (dc rfl) ?_; rintro _ (rfl | ⟨rfl, g20, g60⟩)) | (refine ar_pcall (own := false) fn34 rfl rfl (.cons (.closed rfl) .nil) (greatMask_p m) (by simp) (dc rfl) ?_; rintro _ (rfl | ⟨rfl, k20, k60⟩)) | (refine ar_pcall (own := false) fn17 rfl rfl (.cons (.closed rfl) (.cons (.closed rfl) (.cons (.closed rfl) (.cons (.closed rfl) .nil)))) (r1) (by simp) (dc rfl) ?_; intro _ hv; subst hv) | (refine ar_pcall (own := false) fn45 rfl rfl (.cons (.closed rfl) (.cons (.closed rfl) (.cons (.closed rfl) .nil))) (r2 g20 g60) (by simp) (dc rfl) ?_; intro _ hv; subst hv) | (refine ar_pcall (own := false) fn47 rfl rfl (.cons (.closed rfl) (.cons (.closed rfl) (.cons (.closed rfl) .nil))) (r3) (by simp) (dc rfl) ?_; intro _ hv; subst hv) | (refine ar_buildLE encRows ([b1, b2, b3]) (ty rfl) rfl (ty rfl) rfl rfl (Nat.succ_pos _) rfl (dc rfl) rfl (fun _ => ⟨rfl, rfl⟩) (dc rfl) ?_) | (refine zbx ?_) | (refine zb1 ?_) | (refine zb0 ?_) | (refine zg ?_ ?_ <;> intro hg <;> first | exact absurd hg (by decide) | ((try replace hg := HG.out hg); (try dsimp only at hg); (try (have _h : True := hg; clear _h hg)); first | (exfalso; omega) | skip)) | (refine zgu ?_) | (refine ar_nil ?_) | (refine aw_seq ?_) | (refine aw_skip ?_) | (refine aw_block ?_) | (refine aw_exit ?_) | (refine aw_region ?_) | (refine zco ?_ ?_ <;> intro hg <;> first | exact absurd hg (by decide) | ((try replace hg := HG.out hg); (try dsimp only at hg); (try (have _h : True := hg; clear _h hg)); first | (exfalso; omega) | skip))))
  all_goals (try (exfalso; omega))
  all_goals (try ((refine aw_ret ?_; (repeat (first | refine ret_then ?_ | refine ret_block ?_)); refine bq1 rfl ⟨?_, rfl⟩); rfl; done))
  refine aw_for 3 (fun _ => True) (fun i => [(7, .ptr 5 0 0 0), (15, vb true), (17, vi e1), (19, vi e2), (21, vi e3), (73, .sl 1 1 0 3), (74, vi 3), (75, vi i)]) (fun _ => [.arr 5 1 (fun _ => s.enc), LB 1 encRows [b1, b2, b3]]) trivial ?_ ?_
  · (refine sub_to [some 0, some 2] [] rfl ?_ ?_ <;> (repeat' (first | exact trivial | refine ⟨⟨_, rfl, ?_⟩, ?_⟩ | refine ⟨bsub_snoc rfl rfl (fun _ => rfl) ?_, ?_⟩ | refine ⟨bsub_one rfl rfl ?_, ?_⟩ | refine ⟨bsub_all rfl rfl (fun _ _ => rfl) (fun _ => rfl), ?_⟩ | refine ⟨bsub_updL rfl rfl ?_ (fun _ _ _ => rfl) (fun _ => rfl), ?_⟩ | refine ⟨.inl ⟨_, _, rfl, rfl, ?_⟩, ?_⟩ | exact ⟨.inr ⟨rfl, rfl⟩, trivial⟩ | refine ⟨.inr ⟨rfl, rfl⟩, ?_⟩ | (intro _ _) | exact .closed rfl | exact .sl rfl | exact .ptr rfl | exact .map rfl | exact .nil rfl | exact .emp rfl | exact .nilList | exact .empList | exact frzPtr' (by simp; done) rfl (by omega) rfl rfl | exact frzLB (by simp; done) rfl (fun _ => rfl) rfl | exact frz_all (by simp; done) rfl (fun _ _ => rfl) (fun _ => rfl) rfl | exact .frz (by simp; done) rfl (by omega) (fun _ _ => rfl) (fun _ _ => rfl) | exact slEq rfl (by first | (simp; done) | (simp; omega)) | exact siEq (by omega) | exact .of_eq (by refine (show V.agg _ = V.agg _ from ?_); (try dsimp only); congr <;> first | rfl | omega) rfl | exact .closed (by simp [V.closed, V.closed.all, *]; done) | fail)))
  intro i hi _
  by_cases hlt : i < 3
  · obtain ⟨h1, h2⟩ := hall i hlt
    by_cases hE : el [e1, e2, e3] i = 0
    · have hck := h2 hE
      obtain ⟨c1, c2⟩ := check_clash0 hck
      (repeat' (first | (refine ar_isq ?_; first | refine zmv ?_ | refine zas ?_ | (refine is_load ?_; first | refine zlp ?_ | refine zlr ?_) | (refine is_binOp ?_; first | refine zlss ?_ | refine zgtr ?_ | refine zneq ?_ | refine zadd ?_) | (refine is_indexAddr ?_; first | refine zil ?_ | refine zis ?_ | refine zit ?_ | refine zia ?_ | refine zir ?_ | (refine zxl ?_; intro _ _ _) | (refine zxs ?_; intro _ _ _)) | (refine is_call ?_; first | refine zll ?_ | refine zls ?_ | refine zln ?_ | refine zle ?_) | (refine is_pick ?_; first | refine zpt ?_ | refine zpf ?_) | refine zex ?_ | refine znt ?_) | (refine ar_buildLE vi ([e1, e2, e3]) (ty rfl) rfl (ty rfl) rfl rfl (Nat.succ_pos _) rfl (dc rfl) rfl (fun _ => ⟨rfl, rfl⟩) (dc rfl) ?_) | (refine ar_pcall (own := false) fn24 rfl rfl (.cons (.closed rfl) (.cons (.closed rfl) .nil)) (lClashes_p s _) (by simp) (dc rfl) ?_; intro _ hv; subst hv) | (refine ar_pcall (own := false) fn30 rfl rfl (.cons (.closed rfl) (.cons (.closed rfl) .nil)) (check_p s _) (by simp) (dc rfl) ?_; intro _ hv; subst hv) | (refine ar_pcall (own := false) fn55 rfl rfl (.cons (.closed rfl) (.cons (.closed rfl) .nil)) (printed_p s _ hck) (by simp) (dc rfl) ?_; intro _ hv; subst hv) | (refine zbx ?_) | (refine zb1 ?_) | (refine zb0 ?_) | (refine zg ?_ ?_ <;> intro hg <;> first | exact absurd hg (by decide) | ((try replace hg := HG.out hg); (try dsimp only at hg); (try (have _h : True := hg; clear _h hg)); first | (exfalso; omega) | skip)) | (refine zgu ?_) | (refine ar_nil ?_) | (refine aw_seq ?_) | (refine aw_skip ?_) | (refine aw_block ?_) | (refine aw_exit ?_) | (refine aw_region ?_) | (refine zco ?_ ?_ <;> intro hg <;> first | exact absurd hg (by decide) | ((try replace hg := HG.out hg); (try dsimp only at hg); (try (have _h : True := hg; clear _h hg)); first | (exfalso; omega) | skip))))
      all_goals first
        | (exfalso; omega)
        | ((first | refine loop_next (by omega) ?_ ?_ | refine (show _ ∧ _ ∧ SubOf _ _ _ _ _ _ from And.intro (by omega) (And.intro ?_ ?_))); (focus ((trivial); done)); (focus ((refine sub_to [some 0, some 1] [] rfl ?_ ?_ <;> (repeat' (first | exact trivial | refine ⟨⟨_, rfl, ?_⟩, ?_⟩ | refine ⟨bsub_snoc rfl rfl (fun _ => rfl) ?_, ?_⟩ | refine ⟨bsub_one rfl rfl ?_, ?_⟩ | refine ⟨bsub_all rfl rfl (fun _ _ => rfl) (fun _ => rfl), ?_⟩ | refine ⟨bsub_updL rfl rfl ?_ (fun _ _ _ => rfl) (fun _ => rfl), ?_⟩ | refine ⟨.inl ⟨_, _, rfl, rfl, ?_⟩, ?_⟩ | exact ⟨.inr ⟨rfl, rfl⟩, trivial⟩ | refine ⟨.inr ⟨rfl, rfl⟩, ?_⟩ | (intro _ _) | exact .closed rfl | exact .sl rfl | exact .ptr rfl | exact .map rfl | exact .nil rfl | exact .emp rfl | exact .nilList | exact .empList | exact frzPtr' (by simp; done) rfl (by omega) rfl rfl | exact frzLB (by simp; done) rfl (fun _ => rfl) rfl | exact frz_all (by simp; done) rfl (fun _ _ => rfl) (fun _ => rfl) rfl | exact .frz (by simp; done) rfl (by omega) (fun _ _ => rfl) (fun _ _ => rfl) | exact slEq rfl (by first | (simp; done) | (simp; omega)) | exact siEq (by omega) | exact .of_eq (by refine (show V.agg _ = V.agg _ from ?_); (try dsimp only); congr <;> first | rfl | omega) rfl | exact .closed (by simp [V.closed, V.closed.all, *]; done) | fail))); done)))
        | trace_state
    · have hlen := h1 hE
      (repeat' (first | (refine ar_isq ?_; first | refine zmv ?_ | refine zas ?_ | (refine is_load ?_; first | refine zlp ?_ | refine zlr ?_) | (refine is_binOp ?_; first | refine zlss ?_ | refine zgtr ?_ | refine zneq ?_ | refine zadd ?_) | (refine is_indexAddr ?_; first | refine zil ?_ | refine zis ?_ | refine zit ?_ | refine zia ?_ | refine zir ?_ | (refine zxl ?_; intro _ _ _) | (refine zxs ?_; intro _ _ _)) | (refine is_call ?_; first | refine zll ?_ | refine zls ?_ | refine zln ?_ | refine zle ?_) | (refine is_pick ?_; first | refine zpt ?_ | refine zpf ?_) | refine zex ?_ | refine znt ?_) | (refine ar_buildLE vi ([e1, e2, e3]) (ty rfl) rfl (ty rfl) rfl rfl (Nat.succ_pos _) rfl (dc rfl) rfl (fun _ => ⟨rfl, rfl⟩) (dc rfl) ?_) | (refine zbx ?_) | (refine zb1 ?_) | (refine zb0 ?_) | (refine zg ?_ ?_ <;> intro hg <;> first | exact absurd hg (by decide) | ((try replace hg := HG.out hg); (try dsimp only at hg); (try (have _h : True := hg; clear _h hg)); first | (exfalso; omega) | skip)) | (refine zgu ?_) | (refine ar_nil ?_) | (refine aw_seq ?_) | (refine aw_skip ?_) | (refine aw_block ?_) | (refine aw_exit ?_) | (refine aw_region ?_) | (refine zco ?_ ?_ <;> intro hg <;> first | exact absurd hg (by decide) | ((try replace hg := HG.out hg); (try dsimp only at hg); (try (have _h : True := hg; clear _h hg)); first | (exfalso; omega) | skip))))
      all_goals first
        | (exfalso; omega)
        | ((first | refine loop_next (by omega) ?_ ?_ | refine (show _ ∧ _ ∧ SubOf _ _ _ _ _ _ from And.intro (by omega) (And.intro ?_ ?_))); (focus ((trivial); done)); (focus ((refine sub_to [some 0, some 1] [] rfl ?_ ?_ <;> (repeat' (first | exact trivial | refine ⟨⟨_, rfl, ?_⟩, ?_⟩ | refine ⟨bsub_snoc rfl rfl (fun _ => rfl) ?_, ?_⟩ | refine ⟨bsub_one rfl rfl ?_, ?_⟩ | refine ⟨bsub_all rfl rfl (fun _ _ => rfl) (fun _ => rfl), ?_⟩ | refine ⟨bsub_updL rfl rfl ?_ (fun _ _ _ => rfl) (fun _ => rfl), ?_⟩ | refine ⟨.inl ⟨_, _, rfl, rfl, ?_⟩, ?_⟩ | exact ⟨.inr ⟨rfl, rfl⟩, trivial⟩ | refine ⟨.inr ⟨rfl, rfl⟩, ?_⟩ | (intro _ _) | exact .closed rfl | exact .sl rfl | exact .ptr rfl | exact .map rfl | exact .nil rfl | exact .emp rfl | exact .nilList | exact .empList | exact frzPtr' (by simp; done) rfl (by omega) rfl rfl | exact frzLB (by simp; done) rfl (fun _ => rfl) rfl | exact frz_all (by simp; done) rfl (fun _ _ => rfl) (fun _ => rfl) rfl | exact .frz (by simp; done) rfl (by omega) (fun _ _ => rfl) (fun _ _ => rfl) | exact slEq rfl (by first | (simp; done) | (simp; omega)) | exact siEq (by omega) | exact .of_eq (by refine (show V.agg _ = V.agg _ from ?_); (try dsimp only); congr <;> first | rfl | omega) rfl | exact .closed (by simp [V.closed, V.closed.all, *]; done) | fail))); done)))
        | trace_state
  · (repeat' (first | (refine ar_isq ?_; first | refine zmv ?_ | refine zas ?_ | (refine is_load ?_; first | refine zlp ?_ | refine zlr ?_) | (refine is_binOp ?_; first | refine zlss ?_ | refine zgtr ?_ | refine zneq ?_ | refine zadd ?_) | (refine is_indexAddr ?_; first | refine zil ?_ | refine zis ?_ | refine zit ?_ | refine zia ?_ | refine zir ?_ | (refine zxl ?_; intro _ _ _) | (refine zxs ?_; intro _ _ _)) | (refine is_call ?_; first | refine zll ?_ | refine zls ?_ | refine zln ?_ | refine zle ?_) | (refine is_pick ?_; first | refine zpt ?_ | refine zpf ?_) | refine zex ?_ | refine znt ?_) | (refine zbx ?_) | (refine zb1 ?_) | (refine zb0 ?_) | (refine zg ?_ ?_ <;> intro hg <;> first | exact absurd hg (by decide) | ((try replace hg := HG.out hg); (try dsimp only at hg); (try (have _h : True := hg; clear _h hg)); first | (exfalso; omega) | skip)) | (refine zgu ?_) | (refine ar_nil ?_) | (refine aw_seq ?_) | (refine aw_skip ?_) | (refine aw_block ?_) | (refine aw_exit ?_) | (refine aw_region ?_) | (refine zco ?_ ?_ <;> intro hg <;> first | exact absurd hg (by decide) | ((try replace hg := HG.out hg); (try dsimp only at hg); (try (have _h : True := hg; clear _h hg)); first | (exfalso; omega) | skip))))
    all_goals first
      | (exfalso; omega)
      | ((refine aw_ret ?_; (repeat (first | refine ret_then ?_ | refine ret_block ?_)); refine bq1 rfl ⟨?_, rfl⟩); rfl)
      | trace_state
end Go.Proofs.Ytccidiflnmchiaa
namespace Go.Proofs.Ytccidiflnmchiaa
open Go.ChangeShapes Go.WideShapes Go.ChangeAt Go.RowKit Go.Deep

set_option maxRecDepth 100000 in
theorem latheClear_lifted (os : Os) (started : os.Started) (H : Type) (enc : TypeId × Value → H) :
    ReturnsInHanded {} Try.checked os 16 .any (Rows.latheClearSpec.pre6 enc Try.prog Try.f16 Rows.latheClearRow.domain false) (Rows.latheClearSpec.post enc Try.prog Try.f16 false true false false) := by
  refine returnsInHanded_of_change (C := Try.checked) own_knob started (by kernel_rfl) Try.func16
    (ChangeSpec.witness6 (enc := enc) (C := Try.checked) false ⟨#[], #[.agg #[.int .i64 0, .int .i64 0, .int .i64 0, .int .i64 0, .int .i64 0], .slice none 0 0, .slice none 0 0, .int .i64 0, .agg #[.int .i64 0, .int .i64 0], .slice none 0 0, .slice none 0 0], []⟩ 8 (by kernel_rfl) (by kernel_rfl) (by kernel_rfl) (by kernel_rfl)) ?_
  intro W base args ds gs before hval0 hW _ _
  have hval : ∀ (j : Nat) t v, Try.f16.params[j]? = some t → args[j]? = some v → Value.okWide Try.prog W .any base t v := hval0
  have hW' := hW
  obtain ⟨p, q, hA0, hV, rfl, _, _⟩ := hW
  have hA : DataW.TrodAll enc Try.prog W 0 (fun _ => true) true Try.f16.params.toList args.toList ds p := hA0
  rw [Try.params16] at hA hval
  obtain ⟨v0, vs0, d0, ds0, p0, q0, hargs, rfl, rfl, h0, r0⟩ := trodAll_cons hA
  obtain ⟨v1, vs1, d1, ds1, p1, q1, rfl, rfl, rfl, h1, r1⟩ := trodAll_cons r0
  obtain ⟨v2, vs2, d2, ds2, p2, q2, rfl, rfl, rfl, h2, r2⟩ := trodAll_cons r1
  obtain ⟨v3, vs3, d3, ds3, p3, q3, rfl, rfl, rfl, h3, r3⟩ := trodAll_cons r2
  obtain ⟨v4, vs4, d4, ds4, p4, q4, rfl, rfl, rfl, h4, r4⟩ := trodAll_cons r3
  obtain ⟨v5, vs5, d5, ds5, p5, q5, rfl, rfl, rfl, h5, r5⟩ := trodAll_cons r4
  obtain ⟨v6, vs6, d6, ds6, p6, q6, rfl, rfl, rfl, h6, r6⟩ := trodAll_cons r5
  obtain ⟨rfl, rfl, rfl⟩ := trodAll_nil r6
  obtain rfl : args = #[v0, v1, v2, v3, v4, v5, v6] := by cases args; simp_all
  obtain ⟨rfl, rfl⟩ := trodVars_none hV
  have k0 := h0
  have lt0 : ∀ x ∈ p0, x.block < W.heap.size := by obtain ⟨m, hm⟩ := k0; exact DataW.trod_lt m _ _ _ hm
  obtain ⟨a0, o0, e0⟩ := arg_sheet (hval 0 23 v0 rfl rfl) h0
  have k1 := h1
  have lt1 : ∀ x ∈ p1, x.block < W.heap.size := by obtain ⟨m, hm⟩ := k1; exact DataW.trod_lt m _ _ _ hm
  obtain ⟨a1, o1, e1⟩ := arg_list Try.underlying24 rv_Int (hval 1 24 v1 rfl rfl) h1
  have k2 := h2
  have lt2 : ∀ x ∈ p2, x.block < W.heap.size := by obtain ⟨m, hm⟩ := k2; exact DataW.trod_lt m _ _ _ hm
  obtain ⟨a2, o2, e2⟩ := arg_list Try.underlying24 rv_Int (hval 2 24 v2 rfl rfl) h2
  have k3 := h3
  have lt3 : ∀ x ∈ p3, x.block < W.heap.size := by obtain ⟨m, hm⟩ := k3; exact DataW.trod_lt m _ _ _ hm
  obtain ⟨a3, o3, e3⟩ := arg_int Try.underlying3 (hval 3 3 v3 rfl rfl) h3
  have k4 := h4
  have lt4 : ∀ x ∈ p4, x.block < W.heap.size := by obtain ⟨m, hm⟩ := k4; exact DataW.trod_lt m _ _ _ hm
  obtain ⟨a4, o4, e4⟩ := arg_screen (hval 4 71 v4 rfl rfl) h4
  have k5 := h5
  have lt5 : ∀ x ∈ p5, x.block < W.heap.size := by obtain ⟨m, hm⟩ := k5; exact DataW.trod_lt m _ _ _ hm
  obtain ⟨a5, o5, e5⟩ := arg_list Try.underlying25 rv_ints (hval 5 25 v5 rfl rfl) h5
  have k6 := h6
  have lt6 : ∀ x ∈ p6, x.block < W.heap.size := by obtain ⟨m, hm⟩ := k6; exact DataW.trod_lt m _ _ _ hm
  obtain ⟨a6, o6, e6⟩ := arg_list Try.underlying57 rv_bools (hval 6 57 v6 rfl rfl) h6
  clear hA0 hval0
  refine ((latheClear_p a0 o0 a1 o1 a2 o2 a3 o3 a4 o4 a5 o5 a6 o6).1 (snap W) W _ (fun b o h => h) (rels_cons e0 (rels_cons e1 (rels_cons e2 (rels_cons e3 (rels_cons e4 (rels_cons e5 (rels_cons e6 rels_nil)))))))).mono fun e W' ⟨v, u, I', hR, he, hv, _, _, _, bel⟩ => ?_
  subst hR
  cases hv
  subst he
  exact ⟨_, rfl, _, _, _, [], _, [], hW', trodAll_mk1 (shut_bool Try.underlying4 _), (trodAll_cons_mk (Below.trod laid_out (by kernel_rfl) (of_decide_eq_true (by kernel_rfl)) k0 bel lt0) (trodAll_cons_mk (Below.trod laid_out (by kernel_rfl) (of_decide_eq_true (by kernel_rfl)) k1 bel lt1) (trodAll_cons_mk (Below.trod laid_out (by kernel_rfl) (of_decide_eq_true (by kernel_rfl)) k2 bel lt2) (trodAll_cons_mk (Below.trod laid_out (by kernel_rfl) (of_decide_eq_true (by kernel_rfl)) k3 bel lt3) (trodAll_cons_mk (Below.trod laid_out (by kernel_rfl) (of_decide_eq_true (by kernel_rfl)) k4 bel lt4) (trodAll_cons_mk (Below.trod laid_out (by kernel_rfl) (of_decide_eq_true (by kernel_rfl)) k5 bel lt5) (trodAll_cons_mk (Below.trod laid_out (by kernel_rfl) (of_decide_eq_true (by kernel_rfl)) k6 bel lt6) trodAll_mk0))))))), rfl, bel.frame _, fun h => by cases h⟩

/-- THE STATEMENT: for every input the law returns true, and each argument reads behind the call as it read before. -/
theorem latheClear_holds : Rows.LatheClearSaid :=
  OpenClaim.holds_of_wide 16 Try.f16 rfl rfl rfl rfl rfl rfl rfl ⟨rfl, rfl, rfl, rfl, rfl⟩ rfl rfl rfl rfl rfl (by kernel_rfl) Try.func16 (by kernel_rfl)
    (of_decide_eq_true (by kernel_rfl)) (by unfold Func.isWrapper; first | (rw [if_pos (by decide +kernel)]; kernel_rfl) | (rw [if_neg (by decide +kernel)]; exact ⟨rfl, rfl⟩))
    (fun os started H enc _ => latheClear_lifted os started H enc)

#print axioms latheClear_holds
end Go.Proofs.Ytccidiflnmchiaa
