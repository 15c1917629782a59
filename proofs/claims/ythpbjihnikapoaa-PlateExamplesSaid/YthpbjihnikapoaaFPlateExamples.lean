/- THE STATEMENT PlateExamples: limits, error numbers, and examples. No condition. -/
import Derived.Test.YthpbjihnikapoaaKPh11
namespace Go.Proofs.Ythpbjihnikapoaa
open Go.RowKit
theorem appF_el {α : Type} [Inhabited α] {e : α → V} {l l' : List α} {n : Nat} (hn : n = l.length) {f g : Nat → V} (hf : ∀ i, i < n → f i = e (el l i)) (hg : ∀ i, i < l'.length → g i = e (el l' i)) {k : Nat} (hk : k < n + l'.length) : e (el (l ++ l') k) = appF n f g k := by
  subst hn
  by_cases h : k < l.length
  · rw [appF_lt h, hf k h, el_app_lt h]
  · rw [appF_ge (by omega), hg _ (by omega)]
    congr 1
    simp [el, List.getElem?_append_right (show l.length ≤ k by omega)]
def moreA : List Deed := [⟨4, 2, 0, 2⟩]
def moreB : List Deed := [⟨5, 1, 0, 1⟩, ⟨6, 1, 0, 1⟩]
def moreC : List Deed := [⟨6, 0, 0, 1⟩]
def exEnd : Sto := ⟨3, exItems, [⟨2, 2⟩, ⟨2, 0⟩]⟩
theorem moreA_u8 : ∀ j, j < (exBook ++ moreA).length → u8ok (el (exBook ++ moreA) j).kind := by
  intro j hj
  match j, hj with
  | 0, _ | 1, _ | 2, _ | 3, _ | 4, _ | 5, _ | 6, _ => exact ⟨by decide, by decide⟩
theorem moreB_u8 : ∀ j, j < (exBook ++ moreB).length → u8ok (el (exBook ++ moreB) j).kind := by
  intro j hj
  match j, hj with
  | 0, _ | 1, _ | 2, _ | 3, _ | 4, _ | 5, _ | 6, _ | 7, _ => exact ⟨by decide, by decide⟩
theorem moreC_u8 : ∀ j, j < (exBook ++ moreC).length → u8ok (el (exBook ++ moreC) j).kind := by
  intro j hj
  match j, hj with
  | 0, _ | 1, _ | 2, _ | 3, _ | 4, _ | 5, _ | 6, _ => exact ⟨by decide, by decide⟩
theorem moreA_X : playX 3 (exBook ++ moreA) = (6, 81) := (playX_bad (k := 6) (by decide) (by decide) (by decide +kernel) (by decide) (by decide +kernel)).trans (by decide +kernel)
theorem moreB_X : playX 3 (exBook ++ moreB) = (7, 83) := (playX_bad (k := 7) (by decide) (by decide) (by decide +kernel) (by decide) (by decide +kernel)).trans (by decide +kernel)
theorem moreC_X : playX 3 (exBook ++ moreC) = (0, 0) := playX_ok (by decide) (by decide) (by decide +kernel)
theorem moreC_F : playF 3 (exBook ++ moreC) = exEnd := (playF_ok (by rw [moreC_X])).trans (by kernel_rfl)
theorem end_valid : Valid exEnd := by have h := playX_sto moreC_X; rwa [← playF_ok (by rw [moreC_X]), moreC_F] at h
theorem exA_p : PCalls Try.prog 40 [vi 3, encDeeds (exBook ++ moreA)] (· = .tup [noSto.enc, vi 6, vi 81]) := (pPlay_p 3 _ moreA_u8).mono fun v h => by rw [h, playF_bad (by rw [moreA_X]; decide), moreA_X]
theorem exB_p : PCalls Try.prog 40 [vi 3, encDeeds (exBook ++ moreB)] (· = .tup [noSto.enc, vi 7, vi 83]) := (pPlay_p 3 _ moreB_u8).mono fun v h => by rw [h, playF_bad (by rw [moreB_X]; decide), moreB_X]
theorem exC_p : PCalls Try.prog 40 [vi 3, encDeeds (exBook ++ moreC)] (· = .tup [exEnd.enc, vi 0, vi 0]) := (pPlay_p 3 _ moreC_u8).mono fun v h => by rw [h, moreC_F, moreC_X]
theorem end_wf : exEnd.wf := by
  refine ⟨⟨by decide, by decide⟩, fun x hx => ?_, fun x hx => ?_⟩
  · simp [exEnd, exItems] at hx
    rcases hx with rfl | rfl | rfl <;> exact ⟨⟨by decide, by decide⟩, ⟨by decide, by decide⟩, ⟨by decide, by decide⟩, ⟨by decide, by decide⟩⟩
  · simp [exEnd] at hx
    rcases hx with rfl | rfl <;> exact ⟨⟨by decide, by decide⟩, ⟨by decide, by decide⟩⟩
theorem exCounts_p : PCalls Try.prog 27 [exEnd.enc] (· = .tup [vi 1, vi 0, vi 1, vi 0]) := (pCounts_p exEnd end_wf).mono fun v h => by
  rw [h, cntV_ok end_valid, cntV_ok end_valid, cntV_ok end_valid, show validE exEnd = 0 from if_pos end_valid]
  rfl
theorem exRight_p (i : Int) (b : Bool) (hi : 0 ≤ i ∧ i < (exEnd.items.length : Int)) (hb : decide (((lineTo exEnd.items i (lineN exEnd.items i)).length : Int) % 2 = 1) = b) : PCalls Try.prog 31 [exEnd.enc, vi i] (· = .tup [vb b, vi 0]) := (pRight_p exEnd i).mono fun v h => by
  have he := lineE_ok (i := i) end_valid hi
  rw [h, he]
  unfold rightB
  rw [lineF_ok he, hb]
theorem exLasts2_p : PCalls Try.prog 23 [exSheet.enc, encRows [[0], [1]], vi 100] (· = .tup [vi 0, vi 6]) := (lLasts_p exSheet [[0], [1]] 100).mono fun v h => by
  rw [h]; unfold encLast; rw [show lastF exSheet [[0], [1]] 100 = 0 by decide +kernel, show lastErr exSheet [[0], [1]] 100 = 6 by decide +kernel]
theorem exGap_p : PCalls Try.prog 21 [exSheet.enc, encRows [[0]]] (· = .tup [vi 0, vi 6]) := (lGap_p exSheet [[0]]).mono fun v h => by
  rw [h]; unfold encGap; rw [show gapF exSheet [[0]] = 0 by decide +kernel, show gapErr exSheet [[0]] = 6 by decide +kernel]
theorem exRegister2_p : PCalls Try.prog 16 [encMarks [], encMarks [], vi 0] (· = .tup [noBx.enc, vi 4]) := (pRegister_p [] [] 0).mono fun v h => by
  rw [h, regF_no (by rw [regE_many (by decide)]; decide), regE_many (by decide)]
def noDeed : Deed := ⟨0, 0, 0, 0⟩
theorem exDo_p : PCalls Try.prog 35 [noSto.enc, noDeed.enc] (· = .tup [noSto.enc, vi 80]) := (pDo_p noSto noDeed ⟨by decide, by decide⟩).mono fun v h => by
  have he : doE noSto noDeed = 80 := doE_bad (by decide)
  rw [h, he, doF_bad (by rw [he]; decide)]
theorem exDo2_p : PCalls Try.prog 35 [exEnd.enc, noDeed.enc] (· = .tup [noSto.enc, vi 2]) := (pDo_p exEnd noDeed ⟨by decide, by decide⟩).mono fun v h => by
  have he : doE exEnd noDeed = 2 := (doE_ok end_valid).trans (by decide +kernel)
  rw [h, he, doF_bad (by rw [he]; decide)]
theorem exCheck_p : PCalls Try.prog 37 [(sto0 1).enc] (· = vi 0) := (pCheck_p (sto0 1)).mono fun v h => by
  rw [h, if_pos (valid0.2 (by decide))]
theorem bookF_p : FCalls Try.prog 48 [] 4 (fun n f => n = 6 ∧ f = fun j => Deed.enc (el exBook j)) := by
  
  refine fcalls_of_aw Try.func48 rfl (dc rfl) ?_
  (repeat' (first | (refine ar_isq ?_; first | refine zas ?_ | (refine ar_buildT ?_ (by exact ty rfl) (by exact rfl) (by exact sizes rfl) (by exact rfl) (by exact rfl) (by exact build rfl) (by exact dc rfl); intro _ hds; (try dsimp only [List.toList_toArray, cells_s, cells_emp, cells_agg, cells_list, cells_sl, cells_ptr, cells_ref, cells_fn, cells_vi, cells_vb, cells_vnil, constV, List.map_cons, List.map_nil, List.take_succ_cons, List.take_zero, List.drop_succ_cons, List.drop_zero, List.cons_append, List.nil_append, List.append_nil, LV_cells] at hds); (try dsimp only [cells_s, cells_emp, cells_agg, cells_list, cells_sl, cells_ptr, cells_ref, cells_fn, cells_vi, cells_vb, cells_vnil, constV, List.map_cons, List.map_nil, List.take_succ_cons, List.take_zero, List.drop_succ_cons, List.drop_zero, List.cons_append, List.nil_append, List.append_nil, LV_cells] at hds); subst hds)) | (refine ar_buildLE Deed.enc (exBook) (by exact ty rfl) (by exact rfl) (by exact ty rfl) (by exact rfl) (by exact rfl) (by exact Nat.succ_pos _) (by exact rfl) (by exact dc rfl) (by exact rfl) (by exact fun _ => ⟨rfl, rfl⟩) (by exact dc rfl) ?_) | (refine zb1 ?_) | (refine zb0 ?_) | (refine ar_nil ?_) | (refine aw_seq ?_) | (refine aw_skip ?_) | (refine aw_block ?_) | (refine aw_exit ?_) | (refine aw_region ?_) | (refine zco ?_ ?_ <;> intro hg <;> first | exact absurd hg (by decide) | ((try replace hg := HG.out hg); (try dsimp only at hg); (try (have _h : True := hg; clear _h hg)); first | (exfalso; omega) | skip))))
  refine aw_ret ?_; (repeat (first | refine ret_then ?_ | refine ret_block ?_))
  exact bq1 rfl ⟨6, _, rfl, rfl, ⟨rfl, rfl⟩, fun i _ => rfl⟩
end Go.Proofs.Ythpbjihnikapoaa
namespace Go.Proofs.Ythpbjihnikapoaa
open Go.RowKit

set_option maxRecDepth 20000 in
set_option maxHeartbeats 2000000 in
theorem plateExamples_p : PCalls Try.prog 14 [] (· = vb true) := by
  have hA : moreA.length = 1 := rfl
  have hB : moreB.length = 2 := rfl
  have hC : moreC.length = 1 := rfl
  refine pcalls_of_aw Try.func14 rfl (Nat.le_of_ble_eq_true rfl) ?_
  (repeat' (first | (refine ar_isq ?_; first | refine zmv ?_ | refine zas ?_ | (refine is_load ?_; first | refine zlp ?_ | refine zlr ?_) | (refine is_binOp ?_; first | refine zlss ?_ | refine zleq ?_ | refine zgtr ?_ | refine zgeq ?_ | refine zeql ?_ | refine zneq ?_ | refine zadd ?_ | refine zaddu8 ?_ | refine zaddu64 ?_ | refine zaddu32 ?_ | refine zsub ?_ | refine zsubu8 ?_ | refine zsubu64 ?_ | refine zsubu32 ?_ | refine zmul ?_ | refine zmulu8 ?_ | refine zmulu64 ?_ | refine zmulu32 ?_ | refine zbeq ?_ | refine zbneq ?_ | refine ar_q (qs_seq (seq rfl) rfl rfl (.int (ty rfl) rfl rfl rfl rfl (.int (ty rfl) rfl rfl rfl rfl .nil))) (dc rfl) ?_ | refine ar_q (qs_seq (seq rfl) rfl rfl (.int (ty rfl) rfl rfl rfl rfl (.int (ty rfl) rfl rfl rfl rfl (.int (ty rfl) rfl rfl rfl rfl .nil)))) (dc rfl) ?_ | refine ar_q (qs_seq (seq rfl) rfl rfl (.int (ty rfl) rfl rfl rfl rfl (.int (ty rfl) rfl rfl rfl rfl (.int (ty rfl) rfl rfl rfl rfl (.int (ty rfl) rfl rfl rfl rfl .nil))))) (dc rfl) ?_ | refine ar_q (qs_seq (seq rfl) rfl rfl (.int (ty rfl) rfl rfl rfl rfl (.int (ty rfl) rfl rfl rfl rfl (.int (ty rfl) rfl rfl rfl rfl (.int (ty rfl) rfl rfl rfl rfl (.int (ty rfl) rfl rfl rfl rfl .nil)))))) (dc rfl) ?_ | refine ar_q (qs_sneq (seq rfl) rfl rfl (.int (ty rfl) rfl rfl rfl rfl (.int (ty rfl) rfl rfl rfl rfl .nil))) (dc rfl) ?_ | refine ar_q (qs_sneq (seq rfl) rfl rfl (.int (ty rfl) rfl rfl rfl rfl (.int (ty rfl) rfl rfl rfl rfl (.int (ty rfl) rfl rfl rfl rfl .nil)))) (dc rfl) ?_ | refine ar_q (qs_sneq (seq rfl) rfl rfl (.int (ty rfl) rfl rfl rfl rfl (.int (ty rfl) rfl rfl rfl rfl (.int (ty rfl) rfl rfl rfl rfl (.int (ty rfl) rfl rfl rfl rfl .nil))))) (dc rfl) ?_ | refine ar_q (qs_sneq (seq rfl) rfl rfl (.int (ty rfl) rfl rfl rfl rfl (.int (ty rfl) rfl rfl rfl rfl (.int (ty rfl) rfl rfl rfl rfl (.int (ty rfl) rfl rfl rfl rfl (.int (ty rfl) rfl rfl rfl rfl .nil)))))) (dc rfl) ?_ | refine ar_q (qs_and rfl rfl (andMask (by omega))) (dc rfl) ?_ | refine ar_q (qs_shr rfl rfl (by omega) (shr0 (by omega))) (dc rfl) ?_ | refine zquo ?_ | refine zrem ?_) | (refine is_fieldAddr ?_; first | refine zfp ?_ | refine zfr ?_) | (refine is_indexAddr ?_; first | refine zil ?_ | refine zis ?_ | refine zit ?_ | refine zia ?_ | refine zir ?_ | (refine zxl ?_; intro _ _ _) | (refine zxs ?_; intro _ _ _)) | (refine is_call ?_; first | refine zll ?_ | refine zls ?_ | refine zln ?_ | refine zle ?_ | refine zmin ?_ | refine zmax ?_) | (refine is_pick ?_; first | refine zpt ?_ | refine zpf ?_) | refine zex ?_ | (refine is_unOp ?_; first | refine znt ?_ | refine zng ?_) | refine zncp ?_ | refine zncr ?_ | (refine ar_buildT ?_ (by exact ty rfl) (by exact rfl) (by exact sizes rfl) (by exact rfl) (by exact rfl) (by exact build rfl) (by exact dc rfl); intro _ hds; (try dsimp only [List.toList_toArray, cells_s, cells_emp, cells_agg, cells_list, cells_sl, cells_ptr, cells_ref, cells_fn, cells_vi, cells_vb, cells_vnil, constV, List.map_cons, List.map_nil, List.take_succ_cons, List.take_zero, List.drop_succ_cons, List.drop_zero, List.cons_append, List.nil_append, List.append_nil, LV_cells] at hds); (try dsimp only [cells_s, cells_emp, cells_agg, cells_list, cells_sl, cells_ptr, cells_ref, cells_fn, cells_vi, cells_vb, cells_vnil, constV, List.map_cons, List.map_nil, List.take_succ_cons, List.take_zero, List.drop_succ_cons, List.drop_zero, List.cons_append, List.nil_append, List.append_nil, LV_cells] at hds); subst hds) | refine zfi ?_ | refine zmf ?_ | refine zix ?_ | refine zcv ?_ | refine zcvu8 ?_ | refine zcvu64 ?_ | refine zcvu32 ?_) | (refine ar_pcall (own := false) fn44 rfl rfl .nil (alive_p) (by simp) (dc rfl) ?_; intro _ hv; subst hv) | (((refine ar_sub_l (env' := [(2, vi 6), (3, vi 81), (5, vi 7), (6, vi 83)]) (H' := []) ?_ ?_; (focus ((refine sub_to [] [] rfl ?_ ?_ <;> (repeat' (first | exact trivial | refine ⟨⟨_, rfl, ?_⟩, ?_⟩ | refine ⟨bsub_snoc rfl rfl (fun _ => rfl) ?_, ?_⟩ | refine ⟨bsub_one rfl rfl ?_, ?_⟩ | refine ⟨bsub_all rfl rfl (fun _ _ => rfl) (fun _ => rfl), ?_⟩ | refine ⟨bsub_updL rfl rfl ?_ (fun _ _ _ => rfl) (fun _ => rfl), ?_⟩ | refine ⟨.inl ⟨_, _, rfl, rfl, ?_⟩, ?_⟩ | exact ⟨.inr ⟨rfl, rfl⟩, trivial⟩ | refine ⟨.inr ⟨rfl, rfl⟩, ?_⟩ | (intro _ _) | exact vz1 | exact vz2 | fail))); done))); refine ar_fcall fn48 rfl rfl .nil bookF_p (dc rfl) ?_; rintro _ _ ⟨rfl, rfl⟩)) | (((refine ar_sub_l (env' := [(2, vi 6), (3, vi 81)]) (H' := []) ?_ ?_; (focus ((refine sub_to [] [] rfl ?_ ?_ <;> (repeat' (first | exact trivial | refine ⟨⟨_, rfl, ?_⟩, ?_⟩ | refine ⟨bsub_snoc rfl rfl (fun _ => rfl) ?_, ?_⟩ | refine ⟨bsub_one rfl rfl ?_, ?_⟩ | refine ⟨bsub_all rfl rfl (fun _ _ => rfl) (fun _ => rfl), ?_⟩ | refine ⟨bsub_updL rfl rfl ?_ (fun _ _ _ => rfl) (fun _ => rfl), ?_⟩ | refine ⟨.inl ⟨_, _, rfl, rfl, ?_⟩, ?_⟩ | exact ⟨.inr ⟨rfl, rfl⟩, trivial⟩ | refine ⟨.inr ⟨rfl, rfl⟩, ?_⟩ | (intro _ _) | exact vz1 | exact vz2 | fail))); done))); refine ar_fcall fn48 rfl rfl .nil bookF_p (dc rfl) ?_; rintro _ _ ⟨rfl, rfl⟩)) | ((refine ar_fcall fn48 rfl rfl .nil bookF_p (dc rfl) ?_; rintro _ _ ⟨rfl, rfl⟩)) | (refine ar_buildLE Deed.enc (moreA) (by exact ty rfl) (by exact rfl) (by exact ty rfl) (by exact rfl) (by exact rfl) (by exact Nat.succ_pos _) (by exact rfl) (by exact dc rfl) (by exact rfl) (by exact fun _ => ⟨rfl, rfl⟩) (by exact dc rfl) ?_) | (refine ar_buildLE Deed.enc (moreB) (by exact ty rfl) (by exact rfl) (by exact ty rfl) (by exact rfl) (by exact rfl) (by exact Nat.succ_pos _) (by exact rfl) (by exact dc rfl) (by exact rfl) (by exact fun _ => ⟨rfl, rfl⟩) (by exact dc rfl) ?_) | (refine ar_buildLE Deed.enc (moreC) (by exact ty rfl) (by exact rfl) (by exact ty rfl) (by exact rfl) (by exact rfl) (by exact Nat.succ_pos _) (by exact rfl) (by exact dc rfl) (by exact rfl) (by exact fun _ => ⟨rfl, rfl⟩) (by exact dc rfl) ?_) | ((refine ar_subk_l (sub_frzL (t := 38) Deed.enc (exBook ++ moreA) rfl rfl rfl rfl (fun k hk => appF_el (e := Deed.enc) (l := exBook) (l' := moreA) (n := 6) rfl (fun _ _ => rfl) (fun i _ => congrArg (fun q => Deed.enc (el moreA q)) (Nat.zero_add i)) hk) (fun _ => rfl)) ?_; refine ar_pcall (own := false) fn40 rfl rfl (.cons (.closed rfl) (.cons (.ext (fun _ _ => rfl)) .nil)) (exA_p) (by simp) (dc rfl) ?_; intro _ hv; subst hv)) | ((refine ar_subk_l (sub_frzL (t := 48) Deed.enc (exBook ++ moreB) rfl rfl rfl rfl (fun k hk => appF_el (e := Deed.enc) (l := exBook) (l' := moreB) (n := 6) rfl (fun _ _ => rfl) (fun i _ => congrArg (fun q => Deed.enc (el moreB q)) (Nat.zero_add i)) hk) (fun _ => rfl)) ?_; refine ar_pcall (own := false) fn40 rfl rfl (.cons (.closed rfl) (.cons (.ext (fun _ _ => rfl)) .nil)) (exB_p) (by simp) (dc rfl) ?_; intro _ hv; subst hv)) | ((refine ar_subk_l (sub_frzL (t := 57) Deed.enc (exBook ++ moreC) rfl rfl rfl rfl (fun k hk => appF_el (e := Deed.enc) (l := exBook) (l' := moreC) (n := 6) rfl (fun _ _ => rfl) (fun i _ => congrArg (fun q => Deed.enc (el moreC q)) (Nat.zero_add i)) hk) (fun _ => rfl)) ?_; refine ar_pcall (own := false) fn40 rfl rfl (.cons (.closed rfl) (.cons (.ext (fun _ _ => rfl)) .nil)) (exC_p) (by simp) (dc rfl) ?_; intro _ hv; subst hv)) | (refine ar_pcall (own := false) fn27 rfl rfl (.cons (.closed rfl) .nil) (exCounts_p) (by simp) (dc rfl) ?_; intro _ hv; subst hv) | (refine ar_pcall (own := false) fn31 rfl rfl (.cons (.closed rfl) (.cons (.closed rfl) .nil)) (exRight_p 0 true (by decide) (by decide +kernel)) (by simp) (dc rfl) ?_; intro _ hv; subst hv) | (refine ar_pcall (own := false) fn31 rfl rfl (.cons (.closed rfl) (.cons (.closed rfl) .nil)) (exRight_p 1 false (by decide) (by decide +kernel)) (by simp) (dc rfl) ?_; intro _ hv; subst hv) | (refine ar_pcall (own := false) fn31 rfl rfl (.cons (.closed rfl) (.cons (.closed rfl) .nil)) (exRight_p 2 true (by decide) (by decide +kernel)) (by simp) (dc rfl) ?_; intro _ hv; subst hv) | (((refine ar_subk_l (sub_frzL (t := 87) vi ([1]) rfl rfl rfl rfl (fun _ _ => rfl) (fun _ => rfl)) ?_); refine ar_buildLE encInts ([[0], [1]]) (by exact ty rfl) (by exact rfl) (by exact ty rfl) (by exact rfl) (by exact rfl) (by exact Nat.succ_pos _) (by exact rfl) (by exact dc rfl) (by exact rfl) (by exact fun _ => ⟨rfl, rfl⟩) (by exact dc rfl) ?_)) | (((refine ar_subk_l (sub_frzL (t := 94) vi ([0]) rfl rfl rfl rfl (fun _ _ => rfl) (fun _ => rfl)) ?_); refine ar_buildLE encInts ([[0]]) (by exact ty rfl) (by exact rfl) (by exact ty rfl) (by exact rfl) (by exact rfl) (by exact Nat.succ_pos _) (by exact rfl) (by exact dc rfl) (by exact rfl) (by exact fun _ => ⟨rfl, rfl⟩) (by exact dc rfl) ?_)) | (((refine ar_subk_l (sub_frzL (t := 86) vi ([0]) rfl rfl rfl rfl (fun _ _ => rfl) (fun _ => rfl)) ?_); refine ar_buildLE vi ([1]) (by exact ty rfl) (by exact rfl) (by exact ty rfl) (by exact rfl) (by exact rfl) (by exact Nat.succ_pos _) (by exact rfl) (by exact dc rfl) (by exact rfl) (by exact fun _ => ⟨rfl, rfl⟩) (by exact dc rfl) ?_)) | (refine ar_buildLE vi ([0]) (by exact ty rfl) (by exact rfl) (by exact ty rfl) (by exact rfl) (by exact rfl) (by exact Nat.succ_pos _) (by exact rfl) (by exact dc rfl) (by exact rfl) (by exact fun _ => ⟨rfl, rfl⟩) (by exact dc rfl) ?_) | (((refine ar_subk_l (sub_frzL (t := 88) encInts ([[0], [1]]) rfl rfl rfl rfl (fun _ _ => rfl) (fun _ => rfl)) ?_); refine ar_pcall (own := false) fn23 rfl rfl (.cons (.closed rfl) (.cons (.closed rfl) (.cons (.closed rfl) .nil))) (exLasts2_p) (by simp) (dc rfl) ?_; intro _ hv; subst hv)) | (((refine ar_subk_l (sub_frzL (t := 95) encInts ([[0]]) rfl rfl rfl rfl (fun _ _ => rfl) (fun _ => rfl)) ?_); refine ar_pcall (own := false) fn21 rfl rfl (.cons (.closed rfl) (.cons (.closed rfl) .nil)) (exGap_p) (by simp) (dc rfl) ?_; intro _ hv; subst hv)) | (refine ar_pcall (own := false) fn16 rfl rfl (.cons (.nil) (.cons (.nil) (.cons (.closed rfl) .nil))) (exRegister2_p) (by simp) (dc rfl) ?_; intro _ hv; subst hv) | (((refine ar_sub_l (env' := [(2, vi 6), (3, vi 81), (5, vi 7), (6, vi 83), (7, .ptr 3 0 0 0), (9, vi 0), (10, vi 1), (11, vi 0), (12, vi 1), (13, vi 0), (14, vb true), (15, vi 0), (16, vb false), (17, vi 0), (18, vb true), (19, vi 0), (21, vi 6), (23, vi 6), (25, vi 4), (104, noSto.enc), (105, noDeed.enc)]) (H' := [.arr 3 1 (fun _ => exEnd.enc)]) ?_ ?_; (focus ((refine sub_to [some 3] [] rfl ?_ ?_ <;> (repeat' (first | exact trivial | refine ⟨⟨_, rfl, ?_⟩, ?_⟩ | refine ⟨bsub_snoc rfl rfl (fun _ => rfl) ?_, ?_⟩ | refine ⟨bsub_one rfl rfl ?_, ?_⟩ | refine ⟨bsub_all rfl rfl (fun _ _ => rfl) (fun _ => rfl), ?_⟩ | refine ⟨bsub_updL rfl rfl ?_ (fun _ _ _ => rfl) (fun _ => rfl), ?_⟩ | refine ⟨.inl ⟨_, _, rfl, rfl, ?_⟩, ?_⟩ | exact ⟨.inr ⟨rfl, rfl⟩, trivial⟩ | refine ⟨.inr ⟨rfl, rfl⟩, ?_⟩ | (intro _ _) | exact vz1 | (exact VSub.aggL ⟨.closed rfl, .nilList, .nilList, trivial⟩) | exact vz2 | fail))); done))); refine ar_pcall (own := false) fn35 rfl rfl (.cons (.closed rfl) (.cons (.closed rfl) .nil)) (exDo_p) (by simp) (dc rfl) ?_; intro _ hv; subst hv)) | (refine ar_pcall (own := false) fn35 rfl rfl (.cons (.closed rfl) (.cons (.closed rfl) .nil)) (exDo2_p) (by simp) (dc rfl) ?_; intro _ hv; subst hv) | (((refine ar_sub_l (env' := [(191, vb true), (192, (sto0 1).enc)]) (H' := []) ?_ ?_; (focus ((refine sub_to [] [] rfl ?_ ?_ <;> (repeat' (first | exact trivial | refine ⟨⟨_, rfl, ?_⟩, ?_⟩ | refine ⟨bsub_snoc rfl rfl (fun _ => rfl) ?_, ?_⟩ | refine ⟨bsub_one rfl rfl ?_, ?_⟩ | refine ⟨bsub_all rfl rfl (fun _ _ => rfl) (fun _ => rfl), ?_⟩ | refine ⟨bsub_updL rfl rfl ?_ (fun _ _ _ => rfl) (fun _ => rfl), ?_⟩ | refine ⟨.inl ⟨_, _, rfl, rfl, ?_⟩, ?_⟩ | exact ⟨.inr ⟨rfl, rfl⟩, trivial⟩ | refine ⟨.inr ⟨rfl, rfl⟩, ?_⟩ | (intro _ _) | exact vz1 | (exact VSub.aggL ⟨.closed rfl, .nilList, .nilList, trivial⟩) | exact vz2 | fail))); done))); refine ar_pcall (own := false) fn37 rfl rfl (.cons (.closed rfl) .nil) (exCheck_p) (by simp) (dc rfl) ?_; intro _ hv; subst hv)) | (refine zcl ?_) | (refine zcs ?_) | (refine zcpl ?_) | (refine zcpo ?_) | (refine zbx ?_) | (refine zal ?_) | (refine zb1 ?_) | (refine zb0 ?_) | (refine zapoo ?_) | (refine zapol ?_) | (refine zapno ?_) | (refine zapnl ?_) | (refine zapeo ?_) | (refine zapel ?_) | (refine zsvs ?_) | (refine zsva ?_) | (refine zses ?_) | (refine zsea ?_) | (refine zg ?_ ?_ <;> intro hg <;> first | exact absurd hg (by decide) | ((try replace hg := HG.out hg); (try dsimp only at hg); (try (have _h : True := hg; clear _h hg)); first | (exfalso; omega) | skip)) | (refine zgu ?_) | (refine ar_nil ?_) | (refine aw_seq ?_) | (refine aw_skip ?_) | (refine aw_block ?_) | (refine aw_exit ?_) | (refine aw_region ?_) | (refine zco ?_ ?_ <;> intro hg <;> first | exact absurd hg (by decide) | ((try replace hg := HG.out hg); (try dsimp only at hg); (try (have _h : True := hg; clear _h hg)); first | (exfalso; omega) | skip))))
  all_goals first
    | ((refine aw_ret ?_; (repeat (first | refine ret_then ?_ | refine ret_block ?_)); refine bq1 rfl ⟨?_, rfl⟩); rfl)
    | trace_state
end Go.Proofs.Ythpbjihnikapoaa
namespace Go.Proofs.Ythpbjihnikapoaa
open Go.ChangeShapes Go.WideShapes Go.ChangeAt Go.RowKit Go.Deep
set_option maxRecDepth 100000 in
theorem plateExamples_lifted (os : Os) (started : os.Started) (H : Type) (enc : TypeId × Value → H) :
    ReturnsInHanded {} Try.checked os 14 .any (Rows.plateExamplesSpec.pre6 enc Try.prog Try.f14 Rows.plateExamplesRow.domain false) (Rows.plateExamplesSpec.post enc Try.prog Try.f14 false true false false) := by
  refine returnsInHanded_of_change (C := Try.checked) own_knob started (by kernel_rfl) Try.func14
    (ChangeSpec.witness6 (enc := enc) (C := Try.checked) false ⟨#[], #[], []⟩ 8 (by kernel_rfl) (by kernel_rfl) (by kernel_rfl) (by kernel_rfl)) ?_
  intro W base args ds gs before hval0 hW _ _
  have hval : ∀ (j : Nat) t v, Try.f14.params[j]? = some t → args[j]? = some v → Value.okWide Try.prog W .any base t v := hval0
  have hW' := hW
  obtain ⟨p, q, hA0, hV, rfl, _, _⟩ := hW
  have hA : DataW.TrodAll enc Try.prog W 0 (fun _ => true) true Try.f14.params.toList args.toList ds p := hA0
  rw [Try.params14] at hA hval
  obtain ⟨rfl, rfl, rfl⟩ := trodAll_none hA
  obtain ⟨rfl, rfl⟩ := trodVars_none hV
  clear hA0 hval0
  refine ((plateExamples_p ).1 (snap W) W _ (fun b o h => h) rels_nil).mono fun e W' ⟨v, u, I', hR, he, hv, _, _, _, bel⟩ => ?_
  subst hR
  cases hv
  subst he
  exact ⟨_, rfl, _, _, _, [], _, [], hW', trodAll_mk1 (shut_bool Try.underlying4 _), trodAll_mk0, rfl, bel.frame _, fun h => by cases h⟩

/-- THE STATEMENT: for every input the law returns true, and each argument reads behind the call as it read before. -/
theorem plateExamples_holds : Rows.PlateExamplesSaid :=
  OpenClaim.holds_of_wide 14 Try.f14 rfl rfl rfl rfl rfl rfl rfl ⟨rfl, rfl, rfl, rfl, rfl⟩ rfl rfl rfl rfl rfl (by kernel_rfl) Try.func14 (by kernel_rfl)
    (of_decide_eq_true (by kernel_rfl)) (by unfold Func.isWrapper; first | (rw [if_pos (by decide +kernel)]; kernel_rfl) | (rw [if_neg (by decide +kernel)]; exact ⟨rfl, rfl⟩))
    (fun os started H enc _ => plateExamples_lifted os started H enc)
#print axioms plateExamples_holds
end Go.Proofs.Ythpbjihnikapoaa
