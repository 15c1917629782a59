/- LatheSpelled: the law returns true for every sheet, screen, word and size. No condition. -/
import Derived.Test.YtccidiflnmchiaaKOb8
namespace Go.Proofs.Ytccidiflnmchiaa
open Go.RowKit
/-! ### LatheSpelled -/

set_option maxHeartbeats 4000000 in
theorem latheSpelled_p (s : Sheet) (_o0 : i64ok s.cols ∧ i64ok s.rows ∧ i64ok s.weight ∧ i64ok s.clear ∧ i64ok s.lean) (c : Screen) (_o1 : i64ok c.period ∧ i64ok c.phase) (w : List Int) (_o2 : ∀ y, y ∈ w → i64ok y) (size : Int) (_o3 : i64ok size) :
    PCalls Try.prog 9 [s.enc, c.enc, encInts w, vi size] (· = vb true) := by
  (refine pcalls_know (fun I us h => rel_len (rel_arg h (j := 2) rfl)) fun hlen2 => ?_)
  by_cases hr : roomErr s c = 0
  case neg =>
    refine pcalls_of_aw Try.func9 rfl (Nat.le_of_ble_eq_true rfl) ?_
    (repeat' (first | (refine ar_isq ?_; first | refine zmv ?_ | refine zas ?_ | (refine is_load ?_; first | refine zlp ?_ | refine zlr ?_) | (refine is_binOp ?_; first | refine zlss ?_ | refine zleq ?_ | refine zgtr ?_ | refine zeql ?_ | refine zneq ?_ | refine zsub ?_ | refine zmul ?_ | refine zquo ?_) | (refine is_fieldAddr ?_; first | refine zfp ?_ | refine zfr ?_) | (refine is_call ?_; first | refine zll ?_ | refine zls ?_ | refine zln ?_ | refine zle ?_) | (refine is_pick ?_; first | refine zpt ?_ | refine zpf ?_) | refine zex ?_ | refine znt ?_) | (refine ar_pcall (own := false) fn49 rfl rfl .nil (alive_p) (by simp) (dc rfl) ?_; intro _ hv; subst hv) | (refine ar_pcall (own := false) fn43 rfl rfl (.cons (.closed rfl) (.cons (.closed rfl) .nil)) (lRoom_p s c) (by simp) (dc rfl) ?_; intro _ hv; subst hv) | (refine zbx ?_) | (refine zg ?_ ?_ <;> intro hg <;> first | exact absurd hg (by decide) | ((try replace hg := HG.out hg); (try dsimp only at hg); (try (have _h : True := hg; clear _h hg)); first | (exfalso; omega) | skip)) | (refine zgu ?_) | (refine ar_nil ?_) | (refine aw_seq ?_) | (refine aw_skip ?_) | (refine aw_block ?_) | (refine aw_exit ?_) | (refine aw_region ?_) | (refine zco ?_ ?_ <;> intro hg <;> first | exact absurd hg (by decide) | ((try replace hg := HG.out hg); (try dsimp only at hg); (try (have _h : True := hg; clear _h hg)); first | (exfalso; omega) | skip))))
    all_goals first
      | (exfalso; omega)
      | ((refine aw_ret ?_; (repeat (first | refine ret_then ?_ | refine ret_block ?_)); refine bq1 rfl ⟨?_, rfl⟩); rfl)
      | trace_state
  by_cases hm : maskErr w size s.cols (roomN s c) = 0
  case neg =>
    have hbad := maskF_bad hm
    refine pcalls_of_aw Try.func9 rfl (Nat.le_of_ble_eq_true rfl) ?_
    (repeat' (first | (refine ar_isq ?_; first | refine zmv ?_ | refine zas ?_ | (refine is_load ?_; first | refine zlp ?_ | refine zlr ?_) | (refine is_binOp ?_; first | refine zlss ?_ | refine zleq ?_ | refine zgtr ?_ | refine zeql ?_ | refine zneq ?_ | refine zsub ?_ | refine zmul ?_ | refine zquo ?_) | (refine is_fieldAddr ?_; first | refine zfp ?_ | refine zfr ?_) | (refine is_call ?_; first | refine zll ?_ | refine zls ?_ | refine zln ?_ | refine zle ?_) | (refine is_pick ?_; first | refine zpt ?_ | refine zpf ?_) | refine zex ?_ | refine znt ?_) | (refine ar_pcall (own := false) fn49 rfl rfl .nil (alive_p) (by simp) (dc rfl) ?_; intro _ hv; subst hv) | (refine ar_pcall (own := false) fn43 rfl rfl (.cons (.closed rfl) (.cons (.closed rfl) .nil)) (lRoom_p s c) (by simp) (dc rfl) ?_; intro _ hv; subst hv) | ((refine ar_pcall (own := false) fn35 rfl rfl (.cons (.closed rfl) (.cons (.closed rfl) (.cons (.closed rfl) (.cons (.closed rfl) .nil)))) (lMask_p w size s.cols (roomN s c)) (by simp) (dc rfl) ?_; intro _ hv; subst hv; rw [hbad])) | (refine zbx ?_) | (refine zg ?_ ?_ <;> intro hg <;> first | exact absurd hg (by decide) | ((try replace hg := HG.out hg); (try dsimp only at hg); (try (have _h : True := hg; clear _h hg)); first | (exfalso; omega) | skip)) | (refine zgu ?_) | (refine ar_nil ?_) | (refine aw_seq ?_) | (refine aw_skip ?_) | (refine aw_block ?_) | (refine aw_exit ?_) | (refine aw_region ?_) | (refine zco ?_ ?_ <;> intro hg <;> first | exact absurd hg (by decide) | ((try replace hg := HG.out hg); (try dsimp only at hg); (try (have _h : True := hg; clear _h hg)); first | (exfalso; omega) | skip))))
    all_goals first
      | (exfalso; omega)
      | ((refine aw_ret ?_; (repeat (first | refine ret_then ?_ | refine ret_block ?_)); refine bq1 rfl ⟨?_, rfl⟩); rfl)
      | trace_state
  obtain ⟨h8, hw, hz, hC, hL, h5, hwd⟩ := mask_parts hm
  obtain ⟨hs, hc, h0, hrn, _⟩ := room_ok hr
  have hb := Sheet.bounds hs
  have hcb := Screen.bounds hc
  obtain ⟨z, rfl⟩ : ∃ z : Nat, size = (z : Int) := ⟨size.toNat, by omega⟩
  have hsm : spellErr (maskF w z s.cols (roomN s c)) z w.length = 0 ∧ spellF (maskF w z s.cols (roomN s c)) z w.length = w := by
    have e1 : s.cols = ((s.cols.toNat : Nat) : Int) := by omega
    have e2 : roomN s c = ((cntF s c : Nat) : Int) := hrn
    have h1 := hm
    rw [e1, e2] at h1
    rw [maskF_ok hm, Int.toNat_natCast, hrn, Int.toNat_natCast]
    exact spell_mask h1
  have hhd := mask_hide hr hm
  have hss := fun hh hlean hz => spell_seen hr hm hh hlean hz
  have hse := fun (hh : hideErr s c (maskF w z s.cols (roomN s c)) = 0) => (hide_seen hh (by' := c.period / 2) (by omega) (by omega)).1
  have hwt := fun (hh : hideErr s c (maskF w z s.cols (roomN s c)) = 0) => (hide_ok hh).2.1
  have p1 := lMask_p w z s.cols (roomN s c)
  rw [hm] at p1
  generalize maskF w z s.cols (roomN s c) = M at *
  have p2 := lSpell_p M z w.length
  rw [hsm.1, hsm.2] at p2
  by_cases hh : hideErr s c M = 0
  case neg =>
    have hh2 : hideErr s c M = 72 := by omega
    refine pcalls_of_aw Try.func9 rfl (Nat.le_of_ble_eq_true rfl) ?_
    (repeat' (first | (refine ar_isq ?_; first | refine zmv ?_ | refine zas ?_ | (refine is_load ?_; first | refine zlp ?_ | refine zlr ?_) | (refine is_binOp ?_; first | refine zlss ?_ | refine zleq ?_ | refine zgtr ?_ | refine zeql ?_ | refine zneq ?_ | refine zsub ?_ | refine zmul ?_ | refine zquo ?_) | (refine is_fieldAddr ?_; first | refine zfp ?_ | refine zfr ?_) | (refine is_call ?_; first | refine zll ?_ | refine zls ?_ | refine zln ?_ | refine zle ?_) | (refine is_pick ?_; first | refine zpt ?_ | refine zpf ?_) | refine zex ?_ | refine znt ?_) | (refine ar_pcall (own := false) fn49 rfl rfl .nil (alive_p) (by simp) (dc rfl) ?_; intro _ hv; subst hv) | (refine ar_pcall (own := false) fn43 rfl rfl (.cons (.closed rfl) (.cons (.closed rfl) .nil)) (lRoom_p s c) (by simp) (dc rfl) ?_; intro _ hv; subst hv) | (refine ar_pcall (own := false) fn35 rfl rfl (.cons (.closed rfl) (.cons (.closed rfl) (.cons (.closed rfl) (.cons (.closed rfl) .nil)))) (p1) (by simp) (dc rfl) ?_; intro _ hv; subst hv) | (refine ar_pcall (own := false) fn37 rfl rfl (.cons (.closed rfl) (.cons (.closed rfl) (.cons (.closed rfl) .nil))) (p2) (by simp) (dc rfl) ?_; intro _ hv; subst hv) | (refine ar_pcall (own := false) fn40 rfl rfl (.cons (.closed rfl) (.cons (.closed rfl) .nil)) (sameInts_p w) (by simp) (dc rfl) ?_; intro _ hv; subst hv) | (refine ar_pcall (own := false) fn47 rfl rfl (.cons (.closed rfl) (.cons (.closed rfl) (.cons (.closed rfl) .nil))) (lHide_p s c M) (by simp) (dc rfl) ?_; intro _ hv; subst hv) | (refine zbx ?_) | (refine zg ?_ ?_ <;> intro hg <;> first | exact absurd hg (by decide) | ((try replace hg := HG.out hg); (try dsimp only at hg); (try (have _h : True := hg; clear _h hg)); first | (exfalso; omega) | skip)) | (refine zgu ?_) | (refine ar_nil ?_) | (refine aw_seq ?_) | (refine aw_skip ?_) | (refine aw_block ?_) | (refine aw_exit ?_) | (refine aw_region ?_) | (refine zco ?_ ?_ <;> intro hg <;> first | exact absurd hg (by decide) | ((try replace hg := HG.out hg); (try dsimp only at hg); (try (have _h : True := hg; clear _h hg)); first | (exfalso; omega) | skip))))
    all_goals first
      | (exfalso; omega)
      | ((refine aw_ret ?_; (repeat (first | refine ret_then ?_ | refine ret_block ?_)); refine bq1 rfl ⟨?_, rfl⟩); rfl)
      | ((refine aw_ret ?_; (repeat (first | refine ret_then ?_ | refine ret_block ?_)); refine bq1 rfl ⟨?_, rfl⟩); exact congrArg vb (decide_eq_true (by omega)))
      | trace_state
  have hse1 := hse hh
  have hw1 := hwt hh
  have hd0 : 1 ≤ s.lean → 0 ≤ (c.period / 2 - s.weight) / s.lean ∧ (c.period / 2 - s.weight) / s.lean ≤ c.period / 2 - s.weight := fun h => ⟨Int.ediv_nonneg (by omega) (by omega), Int.ediv_le_self _ (by omega)⟩
  have hss1 := hss hh
  clear hse hwt hss
  generalize hB : hideF s c M = B at *
  generalize hS : seenF s B c (c.period / 2) = S at *
  have p3 := lHide_p s c M
  have p4 := lSeen_p s B c (c.period / 2)
  rw [hh, hB] at p3
  rw [hse1, hS] at p4
  by_cases hl : 1 ≤ s.lean
  · have hd := hd0 hl
    by_cases hzb : (c.period / 2 - s.weight) / s.lean * 4 < z
    · obtain ⟨s1, s2⟩ := hss1 hl hzb
      have p5 := lSpell_p S z w.length
      rw [s1, s2] at p5
      refine pcalls_of_aw Try.func9 rfl (Nat.le_of_ble_eq_true rfl) ?_
      (repeat' (first | (refine ar_isq ?_; first | refine zmv ?_ | refine zas ?_ | (refine is_load ?_; first | refine zlp ?_ | refine zlr ?_) | (refine is_binOp ?_; first | refine zlss ?_ | refine zleq ?_ | refine zgtr ?_ | refine zeql ?_ | refine zneq ?_ | refine zsub ?_ | refine zmul ?_ | refine zquo ?_) | (refine is_fieldAddr ?_; first | refine zfp ?_ | refine zfr ?_) | (refine is_call ?_; first | refine zll ?_ | refine zls ?_ | refine zln ?_ | refine zle ?_) | (refine is_pick ?_; first | refine zpt ?_ | refine zpf ?_) | refine zex ?_ | refine znt ?_) | (refine ar_pcall (own := false) fn49 rfl rfl .nil (alive_p) (by simp) (dc rfl) ?_; intro _ hv; subst hv) | (refine ar_pcall (own := false) fn43 rfl rfl (.cons (.closed rfl) (.cons (.closed rfl) .nil)) (lRoom_p s c) (by simp) (dc rfl) ?_; intro _ hv; subst hv) | (refine ar_pcall (own := false) fn35 rfl rfl (.cons (.closed rfl) (.cons (.closed rfl) (.cons (.closed rfl) (.cons (.closed rfl) .nil)))) (p1) (by simp) (dc rfl) ?_; intro _ hv; subst hv) | (refine ar_pcall (own := false) fn37 rfl rfl (.cons (.closed rfl) (.cons (.closed rfl) (.cons (.closed rfl) .nil))) (p2) (by simp) (dc rfl) ?_; intro _ hv; subst hv) | (refine ar_pcall (own := false) fn37 rfl rfl (.cons (.closed rfl) (.cons (.closed rfl) (.cons (.closed rfl) .nil))) (p5) (by simp) (dc rfl) ?_; intro _ hv; subst hv) | (refine ar_pcall (own := false) fn40 rfl rfl (.cons (.closed rfl) (.cons (.closed rfl) .nil)) (sameInts_p w) (by simp) (dc rfl) ?_; intro _ hv; subst hv) | (refine ar_pcall (own := false) fn47 rfl rfl (.cons (.closed rfl) (.cons (.closed rfl) (.cons (.closed rfl) .nil))) (p3) (by simp) (dc rfl) ?_; intro _ hv; subst hv) | (refine ar_pcall (own := false) fn41 rfl rfl (.cons (.closed rfl) (.cons (.closed rfl) (.cons (.closed rfl) (.cons (.closed rfl) .nil)))) (p4) (by simp) (dc rfl) ?_; intro _ hv; subst hv) | (refine zbx ?_) | (refine zg ?_ ?_ <;> intro hg <;> first | exact absurd hg (by decide) | ((try replace hg := HG.out hg); (try dsimp only at hg); (try (have _h : True := hg; clear _h hg)); first | (exfalso; omega) | skip)) | (refine zgu ?_) | (refine ar_nil ?_) | (refine aw_seq ?_) | (refine aw_skip ?_) | (refine aw_block ?_) | (refine aw_exit ?_) | (refine aw_region ?_) | (refine zco ?_ ?_ <;> intro hg <;> first | exact absurd hg (by decide) | ((try replace hg := HG.out hg); (try dsimp only at hg); (try (have _h : True := hg; clear _h hg)); first | (exfalso; omega) | skip))))
      all_goals first
        | (exfalso; omega)
        | ((refine aw_ret ?_; (repeat (first | refine ret_then ?_ | refine ret_block ?_)); refine bq1 rfl ⟨?_, rfl⟩); rfl)
        | trace_state
    · refine pcalls_of_aw Try.func9 rfl (Nat.le_of_ble_eq_true rfl) ?_
      (repeat' (first | (refine ar_isq ?_; first | refine zmv ?_ | refine zas ?_ | (refine is_load ?_; first | refine zlp ?_ | refine zlr ?_) | (refine is_binOp ?_; first | refine zlss ?_ | refine zleq ?_ | refine zgtr ?_ | refine zeql ?_ | refine zneq ?_ | refine zsub ?_ | refine zmul ?_ | refine zquo ?_) | (refine is_fieldAddr ?_; first | refine zfp ?_ | refine zfr ?_) | (refine is_call ?_; first | refine zll ?_ | refine zls ?_ | refine zln ?_ | refine zle ?_) | (refine is_pick ?_; first | refine zpt ?_ | refine zpf ?_) | refine zex ?_ | refine znt ?_) | (refine ar_pcall (own := false) fn49 rfl rfl .nil (alive_p) (by simp) (dc rfl) ?_; intro _ hv; subst hv) | (refine ar_pcall (own := false) fn43 rfl rfl (.cons (.closed rfl) (.cons (.closed rfl) .nil)) (lRoom_p s c) (by simp) (dc rfl) ?_; intro _ hv; subst hv) | (refine ar_pcall (own := false) fn35 rfl rfl (.cons (.closed rfl) (.cons (.closed rfl) (.cons (.closed rfl) (.cons (.closed rfl) .nil)))) (p1) (by simp) (dc rfl) ?_; intro _ hv; subst hv) | (refine ar_pcall (own := false) fn37 rfl rfl (.cons (.closed rfl) (.cons (.closed rfl) (.cons (.closed rfl) .nil))) (p2) (by simp) (dc rfl) ?_; intro _ hv; subst hv) | (refine ar_pcall (own := false) fn40 rfl rfl (.cons (.closed rfl) (.cons (.closed rfl) .nil)) (sameInts_p w) (by simp) (dc rfl) ?_; intro _ hv; subst hv) | (refine ar_pcall (own := false) fn47 rfl rfl (.cons (.closed rfl) (.cons (.closed rfl) (.cons (.closed rfl) .nil))) (p3) (by simp) (dc rfl) ?_; intro _ hv; subst hv) | (refine zbx ?_) | (refine zg ?_ ?_ <;> intro hg <;> first | exact absurd hg (by decide) | ((try replace hg := HG.out hg); (try dsimp only at hg); (try (have _h : True := hg; clear _h hg)); first | (exfalso; omega) | skip)) | (refine zgu ?_) | (refine ar_nil ?_) | (refine aw_seq ?_) | (refine aw_skip ?_) | (refine aw_block ?_) | (refine aw_exit ?_) | (refine aw_region ?_) | (refine zco ?_ ?_ <;> intro hg <;> first | exact absurd hg (by decide) | ((try replace hg := HG.out hg); (try dsimp only at hg); (try (have _h : True := hg; clear _h hg)); first | (exfalso; omega) | skip))))
      all_goals first
        | (exfalso; omega)
        | ((refine aw_ret ?_; (repeat (first | refine ret_then ?_ | refine ret_block ?_)); refine bq1 rfl ⟨?_, rfl⟩); rfl)
        | trace_state
  · refine pcalls_of_aw Try.func9 rfl (Nat.le_of_ble_eq_true rfl) ?_
    (repeat' (first | (refine ar_isq ?_; first | refine zmv ?_ | refine zas ?_ | (refine is_load ?_; first | refine zlp ?_ | refine zlr ?_) | (refine is_binOp ?_; first | refine zlss ?_ | refine zleq ?_ | refine zgtr ?_ | refine zeql ?_ | refine zneq ?_ | refine zsub ?_ | refine zmul ?_ | refine zquo ?_) | (refine is_fieldAddr ?_; first | refine zfp ?_ | refine zfr ?_) | (refine is_call ?_; first | refine zll ?_ | refine zls ?_ | refine zln ?_ | refine zle ?_) | (refine is_pick ?_; first | refine zpt ?_ | refine zpf ?_) | refine zex ?_ | refine znt ?_) | (refine ar_pcall (own := false) fn49 rfl rfl .nil (alive_p) (by simp) (dc rfl) ?_; intro _ hv; subst hv) | (refine ar_pcall (own := false) fn43 rfl rfl (.cons (.closed rfl) (.cons (.closed rfl) .nil)) (lRoom_p s c) (by simp) (dc rfl) ?_; intro _ hv; subst hv) | (refine ar_pcall (own := false) fn35 rfl rfl (.cons (.closed rfl) (.cons (.closed rfl) (.cons (.closed rfl) (.cons (.closed rfl) .nil)))) (p1) (by simp) (dc rfl) ?_; intro _ hv; subst hv) | (refine ar_pcall (own := false) fn37 rfl rfl (.cons (.closed rfl) (.cons (.closed rfl) (.cons (.closed rfl) .nil))) (p2) (by simp) (dc rfl) ?_; intro _ hv; subst hv) | (refine ar_pcall (own := false) fn40 rfl rfl (.cons (.closed rfl) (.cons (.closed rfl) .nil)) (sameInts_p w) (by simp) (dc rfl) ?_; intro _ hv; subst hv) | (refine ar_pcall (own := false) fn47 rfl rfl (.cons (.closed rfl) (.cons (.closed rfl) (.cons (.closed rfl) .nil))) (p3) (by simp) (dc rfl) ?_; intro _ hv; subst hv) | (refine zbx ?_) | (refine zg ?_ ?_ <;> intro hg <;> first | exact absurd hg (by decide) | ((try replace hg := HG.out hg); (try dsimp only at hg); (try (have _h : True := hg; clear _h hg)); first | (exfalso; omega) | skip)) | (refine zgu ?_) | (refine ar_nil ?_) | (refine aw_seq ?_) | (refine aw_skip ?_) | (refine aw_block ?_) | (refine aw_exit ?_) | (refine aw_region ?_) | (refine zco ?_ ?_ <;> intro hg <;> first | exact absurd hg (by decide) | ((try replace hg := HG.out hg); (try dsimp only at hg); (try (have _h : True := hg; clear _h hg)); first | (exfalso; omega) | skip))))
    all_goals first
      | (exfalso; omega)
      | ((refine aw_ret ?_; (repeat (first | refine ret_then ?_ | refine ret_block ?_)); refine bq1 rfl ⟨?_, rfl⟩); rfl)
      | trace_state
end Go.Proofs.Ytccidiflnmchiaa
namespace Go.Proofs.Ytccidiflnmchiaa
open Go.ChangeShapes Go.WideShapes Go.ChangeAt Go.RowKit Go.Deep

set_option maxRecDepth 100000 in
theorem latheSpelled_lifted (os : Os) (started : os.Started) (H : Type) (enc : TypeId × Value → H) :
    ReturnsInHanded {} Try.checked os 9 .any (Rows.latheSpelledSpec.pre6 enc Try.prog Try.f9 Rows.latheSpelledRow.domain false) (Rows.latheSpelledSpec.post enc Try.prog Try.f9 false true false false) := by
  refine returnsInHanded_of_change (C := Try.checked) own_knob started (by kernel_rfl) Try.func9
    (ChangeSpec.witness6 (enc := enc) (C := Try.checked) false ⟨#[], #[.agg #[.int .i64 0, .int .i64 0, .int .i64 0, .int .i64 0, .int .i64 0], .agg #[.int .i64 0, .int .i64 0], .slice none 0 0, .int .i64 0], []⟩ 8 (by kernel_rfl) (by kernel_rfl) (by kernel_rfl) (by kernel_rfl)) ?_
  intro W base args ds gs before hval0 hW _ _
  have hval : ∀ (j : Nat) t v, Try.f9.params[j]? = some t → args[j]? = some v → Value.okWide Try.prog W .any base t v := hval0
  have hW' := hW
  obtain ⟨p, q, hA0, hV, rfl, _, _⟩ := hW
  have hA : DataW.TrodAll enc Try.prog W 0 (fun _ => true) true Try.f9.params.toList args.toList ds p := hA0
  rw [Try.params9] at hA hval
  obtain ⟨v0, vs0, d0, ds0, p0, q0, hargs, rfl, rfl, h0, r0⟩ := trodAll_cons hA
  obtain ⟨v1, vs1, d1, ds1, p1, q1, rfl, rfl, rfl, h1, r1⟩ := trodAll_cons r0
  obtain ⟨v2, vs2, d2, ds2, p2, q2, rfl, rfl, rfl, h2, r2⟩ := trodAll_cons r1
  obtain ⟨v3, vs3, d3, ds3, p3, q3, rfl, rfl, rfl, h3, r3⟩ := trodAll_cons r2
  obtain ⟨rfl, rfl, rfl⟩ := trodAll_nil r3
  obtain rfl : args = #[v0, v1, v2, v3] := by cases args; simp_all
  obtain ⟨rfl, rfl⟩ := trodVars_none hV
  have k0 := h0
  have lt0 : ∀ x ∈ p0, x.block < W.heap.size := by obtain ⟨m, hm⟩ := k0; exact DataW.trod_lt m _ _ _ hm
  obtain ⟨a0, o0, e0⟩ := arg_sheet (hval 0 23 v0 rfl rfl) h0
  have k1 := h1
  have lt1 : ∀ x ∈ p1, x.block < W.heap.size := by obtain ⟨m, hm⟩ := k1; exact DataW.trod_lt m _ _ _ hm
  obtain ⟨a1, o1, e1⟩ := arg_screen (hval 1 71 v1 rfl rfl) h1
  have k2 := h2
  have lt2 : ∀ x ∈ p2, x.block < W.heap.size := by obtain ⟨m, hm⟩ := k2; exact DataW.trod_lt m _ _ _ hm
  obtain ⟨a2, o2, e2⟩ := arg_list Try.underlying24 rv_Int (hval 2 24 v2 rfl rfl) h2
  have k3 := h3
  have lt3 : ∀ x ∈ p3, x.block < W.heap.size := by obtain ⟨m, hm⟩ := k3; exact DataW.trod_lt m _ _ _ hm
  obtain ⟨a3, o3, e3⟩ := arg_int Try.underlying3 (hval 3 3 v3 rfl rfl) h3
  clear hA0 hval0
  refine ((latheSpelled_p a0 o0 a1 o1 a2 o2 a3 o3).1 (snap W) W _ (fun b o h => h) (rels_cons e0 (rels_cons e1 (rels_cons e2 (rels_cons e3 rels_nil))))).mono fun e W' ⟨v, u, I', hR, he, hv, _, _, _, bel⟩ => ?_
  subst hR
  cases hv
  subst he
  exact ⟨_, rfl, _, _, _, [], _, [], hW', trodAll_mk1 (shut_bool Try.underlying4 _), (trodAll_cons_mk (Below.trod laid_out (by kernel_rfl) (of_decide_eq_true (by kernel_rfl)) k0 bel lt0) (trodAll_cons_mk (Below.trod laid_out (by kernel_rfl) (of_decide_eq_true (by kernel_rfl)) k1 bel lt1) (trodAll_cons_mk (Below.trod laid_out (by kernel_rfl) (of_decide_eq_true (by kernel_rfl)) k2 bel lt2) (trodAll_cons_mk (Below.trod laid_out (by kernel_rfl) (of_decide_eq_true (by kernel_rfl)) k3 bel lt3) trodAll_mk0)))), rfl, bel.frame _, fun h => by cases h⟩

/-- THE STATEMENT: for every input the law returns true, and each argument reads behind the call as it read before. -/
theorem latheSpelled_holds : Rows.LatheSpelledSaid :=
  OpenClaim.holds_of_wide 9 Try.f9 rfl rfl rfl rfl rfl rfl rfl ⟨rfl, rfl, rfl, rfl, rfl⟩ rfl rfl rfl rfl rfl (by kernel_rfl) Try.func9 (by kernel_rfl)
    (of_decide_eq_true (by kernel_rfl)) (by unfold Func.isWrapper; first | (rw [if_pos (by decide +kernel)]; kernel_rfl) | (rw [if_neg (by decide +kernel)]; exact ⟨rfl, rfl⟩))
    (fun os started H enc _ => latheSpelled_lifted os started H enc)

#print axioms latheSpelled_holds
end Go.Proofs.Ytccidiflnmchiaa
