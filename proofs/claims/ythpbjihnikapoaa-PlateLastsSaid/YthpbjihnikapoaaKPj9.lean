/- Parts of the proof: a layer of values over the model, and contracts of functions. No condition. -/
import Derived.Test.YthpbjihnikapoaaKPj8
namespace Go.Proofs.Ythpbjihnikapoaa
open Go.RowKit
theorem svH_live {s : Sto} : ∀ b ∈ svH s, b ≠ .dead := by simp [svH, LB]
theorem svH_sub {H : Heap} {s : Sto} (h3 : H[3]? = some (LB 5 Itm.enc s.items)) (h4 : H[4]? = some (LB 2 Prt.enc s.prints)) : HSub H ([3, 4].map some) (· ∈ ([] : List Nat)) 0 (svH s) :=
  ⟨.inl ⟨3, _, rfl, h3, fun _ _ => .closed rfl⟩, .inl ⟨4, _, rfl, h4, fun _ _ => .closed rfl⟩, trivial⟩
section
variable {s : Sto} {a : Deed}
theorem actE_1 (h : a.kind = 1) : actE s a = engrE s := by unfold actE; rw [h]; rfl
theorem actE_2 (h : a.kind = 2) : actE s a = transE s a.item := by unfold actE; rw [h]; rfl
theorem actE_3 (h : a.kind = 3) : actE s a = moveE s a.item a.dest := by unfold actE; rw [h]; rfl
theorem actE_4 (h : a.kind = 4) : actE s a = printE s a.item a.n := by unfold actE; rw [h]; rfl
theorem actE_5 (h : a.kind = 5) : actE s a = spendE s a.item a.n := by unfold actE; rw [h]; rfl
theorem actE_6 (h : a.kind = 6) : actE s a = spendE s a.item a.n := by unfold actE; rw [h]; rfl
theorem actE_7 (h : a.kind = 7) : actE s a = destE s a.item := by unfold actE; rw [h]; rfl
theorem actE_no (h1 : ¬ a.kind = 1) (h2 : ¬ a.kind = 2) (h3 : ¬ a.kind = 3) (h4 : ¬ a.kind = 4) (h5 : ¬ a.kind = 5) (h6 : ¬ a.kind = 6) (h7 : ¬ a.kind = 7) : actE s a = 2 := by unfold actE; rw [if_neg h1, if_neg h2, if_neg h3, if_neg h4, if_neg h5, if_neg h6, if_neg h7]
theorem actF_1 (h : a.kind = 1) : actF s a = addS s newDie := by unfold actF; rw [h]; rfl
theorem actF_2 (h : a.kind = 2) : actF s a = transF s a.item := by unfold actF; rw [h]; rfl
theorem actF_3 (h : a.kind = 3) : actF s a = moveF s a.item a.dest := by unfold actF; rw [h]; rfl
theorem actF_4 (h : a.kind = 4) : actF s a = printF s a.item a.n := by unfold actF; rw [h]; rfl
theorem actF_5 (h : a.kind = 5) : actF s a = spendF s a.item a.n 1 := by unfold actF; rw [h]; rfl
theorem actF_6 (h : a.kind = 6) : actF s a = spendF s a.item a.n 2 := by unfold actF; rw [h]; rfl
theorem actF_7 (h : a.kind = 7) : actF s a = destF s a.item := by unfold actF; rw [h]; rfl
theorem do_ok {F : Sto} (hV : Valid s) (hE : actE s a = 0) (hF : actF s a = F) : V.tup [F.enc, vi 0] = .tup [(doF s a).enc, vi (doE s a)] := by rw [doF_ok ((doE_ok hV).trans hE), doE_ok hV, hE, hF]
theorem do_no {e : Int} (hV : Valid s) (hE : actE s a = e) (h0 : e ≠ 0) : V.tup [noSto.enc, vi e] = .tup [(doF s a).enc, vi (doE s a)] := by rw [doF_bad (by rw [doE_ok hV, hE]; exact h0), doE_ok hV, hE]
theorem transE_no {i : Int} (h : ¬ hereB s i) : transE s i = 6 := by unfold transE; rw [if_neg h]
theorem moveE_no {i d : Int} (h : ¬ hereB s i) : moveE s i d = 6 := by unfold moveE; rw [if_neg h]
theorem printE_no {i d : Int} (h : ¬ hereB s i) : printE s i d = 6 := by unfold printE; rw [if_neg h]
theorem destE_no {i : Int} (h : ¬ hereB s i) : destE s i = 6 := by unfold destE; rw [if_neg h]
end
set_option maxHeartbeats 8000000 in
theorem done8_p (s : Sto) (a : Deed) (hu : u8ok a.kind) (hV : Valid s) : PCalls Try.prog 62 [s.enc, a.enc] (· = .tup [(doF s a).enc, vi (doE s a)]) := by
  have hfew := hV.1
  unfold Few at hfew
  have hu2 := hu
  unfold u8ok at hu2
  refine pcalls_of_aw Try.func62 rfl (Nat.le_of_ble_eq_true rfl) ?_
  (repeat' (first | (refine ar_isq ?_; first | refine zas ?_ | (refine is_load ?_; first | refine zlp ?_ | refine zlr ?_) | (refine is_binOp ?_; first | refine zeql ?_ | refine zneq ?_) | (refine is_fieldAddr ?_; first | refine zfp ?_ | refine zfr ?_) | (refine is_indexAddr ?_; first | refine zil ?_ | refine zis ?_ | refine zit ?_ | refine zia ?_ | refine zir ?_ | refine zil (j := a.item.toNat) ?_ | refine zis (j := a.item.toNat) ?_ | refine zit (j := a.item.toNat) ?_ | (refine zxl ?_; intro _ _ _) | (refine zxs ?_; intro _ _ _)) | (refine is_call ?_; first | refine zll ?_ | refine zls ?_ | refine zln ?_ | refine zle ?_) | refine zex ?_ | refine znt ?_ | (refine ar_buildT ?_ (by exact ty rfl) (by exact rfl) (by exact sizes rfl) (by exact rfl) (by exact rfl) (by exact build rfl) (by exact dc rfl); intro _ hds; (try dsimp only [List.toList_toArray, cells_s, cells_emp, cells_agg, cells_list, cells_sl, cells_ptr, cells_ref, cells_fn, cells_vi, cells_vb, cells_vnil, constV, List.map_cons, List.map_nil, List.take_succ_cons, List.take_zero, List.drop_succ_cons, List.drop_zero, List.cons_append, List.nil_append, List.append_nil, LV_cells] at hds); (try dsimp only [cells_s, cells_emp, cells_agg, cells_list, cells_sl, cells_ptr, cells_ref, cells_fn, cells_vi, cells_vb, cells_vnil, constV, List.map_cons, List.map_nil, List.take_succ_cons, List.take_zero, List.drop_succ_cons, List.drop_zero, List.cons_append, List.nil_append, List.append_nil, LV_cells] at hds); subst hds)) | ((refine ar_gcall0 fn87 rfl rfl [s.enc] ⟨.closed rfl, trivial⟩ (copied8_p s (by omega) (by omega)) (dc rfl) ?_ (fun _ _ h => h.elim); rintro _ _ ⟨rfl, rfl⟩)) | ((refine ar_gcall (H0 := svH s) [3, 4] [] (first := []) (cap := []) fn67 rfl rfl (xs := [sv 0 1 s, vi a.item]) ⟨VSub.aggL ⟨.closed rfl, .sl rfl, .sl rfl, trivial⟩, .closed rfl, trivial⟩ rfl (by decide) (fun _ h => by cases h) (svH_sub (by exact rfl) (by exact rfl)) svH_live (here8_p s a.item (by omega)) (dc rfl) ?_ (fun _ _ h => h.elim); rintro _ _ ⟨rfl, rfl⟩)) | ((refine ar_gcall (H0 := svH s) [3, 4] [] (first := []) (cap := []) fn88 rfl rfl (xs := [sv 0 1 s, vi a.item, vi a.n, vu8 1]) ⟨VSub.aggL ⟨.closed rfl, .sl rfl, .sl rfl, trivial⟩, .closed rfl, .closed rfl, .closed rfl, trivial⟩ rfl (by decide) (fun _ h => by cases h) (svH_sub (by exact rfl) (by exact rfl)) svH_live (spend8_p s a.item a.n 1 hV) (dc rfl) ?_ (fun _ _ h => h.elim); rintro _ _ (⟨he, rfl, rfl⟩ | ⟨he, rfl, rfl⟩))) | ((refine ar_gcall (H0 := svH s) [3, 4] [] (first := []) (cap := []) fn88 rfl rfl (xs := [sv 0 1 s, vi a.item, vi a.n, vu8 2]) ⟨VSub.aggL ⟨.closed rfl, .sl rfl, .sl rfl, trivial⟩, .closed rfl, .closed rfl, .closed rfl, trivial⟩ rfl (by decide) (fun _ h => by cases h) (svH_sub (by exact rfl) (by exact rfl)) svH_live (spend8_p s a.item a.n 2 hV) (dc rfl) ?_ (fun _ _ h => h.elim); rintro _ _ (⟨he, rfl, rfl⟩ | ⟨he, rfl, rfl⟩))) | ((refine ar_gcall (H0 := svH s) [3, 4] [] (first := []) (cap := []) fn89 rfl rfl (xs := [sv 0 1 s, vi a.item]) ⟨VSub.aggL ⟨.closed rfl, .sl rfl, .sl rfl, trivial⟩, .closed rfl, trivial⟩ rfl (by decide) (fun _ h => by cases h) (svH_sub (by exact rfl) (by exact rfl)) svH_live (transfer8_p s a.item hV (by assumption)) (dc rfl) ?_ (fun _ _ h => h.elim); rintro _ _ (⟨he, rfl, rfl⟩ | ⟨he, rfl, rfl⟩))) | ((refine ar_gcall (H0 := svH s) [3, 4] [] (first := []) (cap := []) fn90 rfl rfl (xs := [sv 0 1 s, vi a.item, vi a.dest]) ⟨VSub.aggL ⟨.closed rfl, .sl rfl, .sl rfl, trivial⟩, .closed rfl, .closed rfl, trivial⟩ rfl (by decide) (fun _ h => by cases h) (svH_sub (by exact rfl) (by exact rfl)) svH_live (move8_p s a.item a.dest hV (by assumption)) (dc rfl) ?_ (fun _ _ h => h.elim); rintro _ _ (⟨he, rfl, rfl⟩ | ⟨he, rfl, rfl⟩))) | ((refine ar_gcall (H0 := svH s) [3, 4] [] (first := []) (cap := []) fn91 rfl rfl (xs := [sv 0 1 s, vi a.item, vi a.n]) ⟨VSub.aggL ⟨.closed rfl, .sl rfl, .sl rfl, trivial⟩, .closed rfl, .closed rfl, trivial⟩ rfl (by decide) (fun _ h => by cases h) (svH_sub (by exact rfl) (by exact rfl)) svH_live (print8_p s a.item a.n hV (by assumption)) (dc rfl) ?_ (fun _ _ h => h.elim); rintro _ _ (⟨he, rfl, rfl⟩ | ⟨he, rfl, rfl⟩))) | (refine zbx ?_) | (refine zal ?_) | (refine zb1 ?_) | (refine zb0 ?_) | (refine zapoo ?_) | (refine zapol ?_) | (refine zapno ?_) | (refine zapnl ?_) | (refine zapeo ?_) | (refine zapel ?_) | (refine zsvs ?_) | (refine zsva ?_) | (refine zses ?_) | (refine zsea ?_) | (refine ar_nil ?_) | (refine aw_seq ?_) | (refine aw_skip ?_) | (refine aw_block ?_) | (refine aw_exit ?_) | (refine aw_region ?_) | (refine zco ?_ ?_ <;> intro hg <;> first | exact absurd hg (by decide) | ((try replace hg := HG.out hg); (try dsimp only at hg); (try (have _h : True := hg; clear _h hg)); first | (exfalso; omega) | skip))))
  · (refine aw_mono_r (env' := [(4, .ptr 3 0 0 0), (5, vi (9))]) (H' := [.arr 3 1 (fun _ => noSto.enc)]) ?_ ?_; (focus ((refine sub_to [some 2] [] rfl ?_ ?_ <;> (repeat' (first | exact trivial | refine ⟨⟨_, rfl, ?_⟩, ?_⟩ | refine ⟨bsub_snoc rfl rfl (fun _ => rfl) ?_, ?_⟩ | refine ⟨bsub_one rfl rfl ?_, ?_⟩ | refine ⟨bsub_all rfl rfl (fun _ _ => rfl) (fun _ => rfl), ?_⟩ | refine ⟨bsub_updL rfl rfl ?_ (fun _ _ _ => rfl) (fun _ => rfl), ?_⟩ | refine ⟨.inl ⟨_, _, rfl, rfl, ?_⟩, ?_⟩ | exact ⟨.inr ⟨rfl, rfl⟩, trivial⟩ | refine ⟨.inr ⟨rfl, rfl⟩, ?_⟩ | (intro _ _) | exact vz1 | (exact VSub.aggL ⟨.closed rfl, .nilList, .nilList, trivial⟩) | exact vz2 | fail))); done)))
    refine aw_ret ?_; (repeat (first | refine ret_then ?_ | refine ret_block ?_))
    exact do_ret ⟨do_no hV ((actE_1 (by assumption)).trans (by unfold engrE; rw [if_pos (by omega)])) (by decide), rfl⟩
  · (refine aw_mono_r (env' := [(4, .ptr 3 0 0 0), (5, vi 0)]) (H' := [.arr 3 1 (fun _ => sv 1 2 (addS s newDie)), LB 5 Itm.enc (s.items ++ [newDie]), LB 2 Prt.enc s.prints]) ?_ ?_; (focus ((refine sub_to [some 2, some 7, some 4] [] rfl ?_ ?_ <;> (repeat' (first | exact trivial | refine ⟨⟨_, rfl, ?_⟩, ?_⟩ | refine ⟨bsub_snoc rfl rfl (fun _ => rfl) ?_, ?_⟩ | refine ⟨bsub_one rfl rfl ?_, ?_⟩ | refine ⟨bsub_all rfl rfl (fun _ _ => rfl) (fun _ => rfl), ?_⟩ | refine ⟨bsub_updL rfl rfl ?_ (fun _ _ _ => rfl) (fun _ => rfl), ?_⟩ | refine ⟨.inl ⟨_, _, rfl, rfl, ?_⟩, ?_⟩ | exact ⟨.inr ⟨rfl, rfl⟩, trivial⟩ | refine ⟨.inr ⟨rfl, rfl⟩, ?_⟩ | (intro _ _) | exact vz1 | (first | refine ⟨bsub_app1 rfl rfl (by exact rfl) (by exact fun _ _ => rfl) (fun _ => rfl) (by exact rfl), ?_⟩ | exact VSub.aggL ⟨.closed rfl, slEq rfl (by first | rfl | (simp [addS, destF, setS]; done)), .sl rfl, trivial⟩) | exact vz2 | fail))); done)))
    (refine aw_mono_r (env' := [(4, .ptr 3 0 0 0), (5, vi 0)]) (H' := [.arr 3 1 (fun _ => (addS s newDie).enc)]) ?_ ?_; (focus ((refine sub_to [some 0] [1, 2] rfl ?_ ?_ <;> (repeat' (first | exact trivial | refine ⟨⟨_, rfl, ?_⟩, ?_⟩ | refine ⟨bsub_snoc rfl rfl (fun _ => rfl) ?_, ?_⟩ | refine ⟨bsub_one rfl rfl ?_, ?_⟩ | refine ⟨bsub_all rfl rfl (fun _ _ => rfl) (fun _ => rfl), ?_⟩ | refine ⟨bsub_updL rfl rfl ?_ (fun _ _ _ => rfl) (fun _ => rfl), ?_⟩ | refine ⟨.inl ⟨_, _, rfl, rfl, ?_⟩, ?_⟩ | exact ⟨.inr ⟨rfl, rfl⟩, trivial⟩ | refine ⟨.inr ⟨rfl, rfl⟩, ?_⟩ | (intro _ _) | exact vz1 | (exact VSub.aggL ⟨.closed rfl, frzLB (by first | exact List.elem_iff.1 rfl | (simp; done)) rfl (fun _ => rfl) rfl, frzLB (by first | exact List.elem_iff.1 rfl | (simp; done)) rfl (fun _ => rfl) rfl, trivial⟩) | exact vz2 | fail))); done)))
    refine aw_ret ?_; (repeat (first | refine ret_then ?_ | refine ret_block ?_))
    exact do_ret ⟨do_ok hV ((actE_1 (by assumption)).trans (by unfold engrE; rw [if_neg (by omega)])) (actF_1 (by assumption)), rfl⟩
  · (refine aw_mono_r (env' := [(4, .ptr 3 0 0 0), (5, vi 0)]) (H' := [.arr 3 1 (fun _ => (spendF s a.item a.n 1).enc)]) ?_ ?_; (focus ((refine sub_to [some 2] [3, 4] rfl ?_ ?_ <;> (repeat' (first | exact trivial | refine ⟨⟨_, rfl, ?_⟩, ?_⟩ | refine ⟨bsub_snoc rfl rfl (fun _ => rfl) ?_, ?_⟩ | refine ⟨bsub_one rfl rfl ?_, ?_⟩ | refine ⟨bsub_all rfl rfl (fun _ _ => rfl) (fun _ => rfl), ?_⟩ | refine ⟨bsub_updL rfl rfl ?_ (fun _ _ _ => rfl) (fun _ => rfl), ?_⟩ | refine ⟨.inl ⟨_, _, rfl, rfl, ?_⟩, ?_⟩ | exact ⟨.inr ⟨rfl, rfl⟩, trivial⟩ | refine ⟨.inr ⟨rfl, rfl⟩, ?_⟩ | (intro _ _) | exact vz1 | (exact VSub.aggL ⟨.closed rfl, frzLB (by first | exact List.elem_iff.1 rfl | (simp; done)) rfl (fun _ => rfl) rfl, frzLB (by first | exact List.elem_iff.1 rfl | (simp; done)) rfl (fun _ => rfl) rfl, trivial⟩) | exact vz2 | fail))); done)))
    refine aw_ret ?_; (repeat (first | refine ret_then ?_ | refine ret_block ?_))
    exact do_ret ⟨do_ok hV ((actE_5 (by assumption)).trans he) (actF_5 (by assumption)), rfl⟩
  · (refine aw_mono_r (env' := [(4, .ptr 3 0 0 0), (5, vi (spendE s a.item a.n))]) (H' := [.arr 3 1 (fun _ => noSto.enc)]) ?_ ?_; (focus ((refine sub_to [some 2] [] rfl ?_ ?_ <;> (repeat' (first | exact trivial | refine ⟨⟨_, rfl, ?_⟩, ?_⟩ | refine ⟨bsub_snoc rfl rfl (fun _ => rfl) ?_, ?_⟩ | refine ⟨bsub_one rfl rfl ?_, ?_⟩ | refine ⟨bsub_all rfl rfl (fun _ _ => rfl) (fun _ => rfl), ?_⟩ | refine ⟨bsub_updL rfl rfl ?_ (fun _ _ _ => rfl) (fun _ => rfl), ?_⟩ | refine ⟨.inl ⟨_, _, rfl, rfl, ?_⟩, ?_⟩ | exact ⟨.inr ⟨rfl, rfl⟩, trivial⟩ | refine ⟨.inr ⟨rfl, rfl⟩, ?_⟩ | (intro _ _) | exact vz1 | (exact VSub.aggL ⟨.closed rfl, .nilList, .nilList, trivial⟩) | exact vz2 | fail))); done)))
    refine aw_ret ?_; (repeat (first | refine ret_then ?_ | refine ret_block ?_))
    exact do_ret ⟨do_no hV (actE_5 (by assumption)) (he), rfl⟩
  · (refine aw_mono_r (env' := [(4, .ptr 3 0 0 0), (5, vi 0)]) (H' := [.arr 3 1 (fun _ => (spendF s a.item a.n 2).enc)]) ?_ ?_; (focus ((refine sub_to [some 2] [3, 4] rfl ?_ ?_ <;> (repeat' (first | exact trivial | refine ⟨⟨_, rfl, ?_⟩, ?_⟩ | refine ⟨bsub_snoc rfl rfl (fun _ => rfl) ?_, ?_⟩ | refine ⟨bsub_one rfl rfl ?_, ?_⟩ | refine ⟨bsub_all rfl rfl (fun _ _ => rfl) (fun _ => rfl), ?_⟩ | refine ⟨bsub_updL rfl rfl ?_ (fun _ _ _ => rfl) (fun _ => rfl), ?_⟩ | refine ⟨.inl ⟨_, _, rfl, rfl, ?_⟩, ?_⟩ | exact ⟨.inr ⟨rfl, rfl⟩, trivial⟩ | refine ⟨.inr ⟨rfl, rfl⟩, ?_⟩ | (intro _ _) | exact vz1 | (exact VSub.aggL ⟨.closed rfl, frzLB (by first | exact List.elem_iff.1 rfl | (simp; done)) rfl (fun _ => rfl) rfl, frzLB (by first | exact List.elem_iff.1 rfl | (simp; done)) rfl (fun _ => rfl) rfl, trivial⟩) | exact vz2 | fail))); done)))
    refine aw_ret ?_; (repeat (first | refine ret_then ?_ | refine ret_block ?_))
    exact do_ret ⟨do_ok hV ((actE_6 (by assumption)).trans he) (actF_6 (by assumption)), rfl⟩
  · (refine aw_mono_r (env' := [(4, .ptr 3 0 0 0), (5, vi (spendE s a.item a.n))]) (H' := [.arr 3 1 (fun _ => noSto.enc)]) ?_ ?_; (focus ((refine sub_to [some 2] [] rfl ?_ ?_ <;> (repeat' (first | exact trivial | refine ⟨⟨_, rfl, ?_⟩, ?_⟩ | refine ⟨bsub_snoc rfl rfl (fun _ => rfl) ?_, ?_⟩ | refine ⟨bsub_one rfl rfl ?_, ?_⟩ | refine ⟨bsub_all rfl rfl (fun _ _ => rfl) (fun _ => rfl), ?_⟩ | refine ⟨bsub_updL rfl rfl ?_ (fun _ _ _ => rfl) (fun _ => rfl), ?_⟩ | refine ⟨.inl ⟨_, _, rfl, rfl, ?_⟩, ?_⟩ | exact ⟨.inr ⟨rfl, rfl⟩, trivial⟩ | refine ⟨.inr ⟨rfl, rfl⟩, ?_⟩ | (intro _ _) | exact vz1 | (exact VSub.aggL ⟨.closed rfl, .nilList, .nilList, trivial⟩) | exact vz2 | fail))); done)))
    refine aw_ret ?_; (repeat (first | refine ret_then ?_ | refine ret_block ?_))
    exact do_ret ⟨do_no hV (actE_6 (by assumption)) (he), rfl⟩
  · (refine aw_mono_r (env' := [(4, .ptr 3 0 0 0), (5, vi (6))]) (H' := [.arr 3 1 (fun _ => noSto.enc)]) ?_ ?_; (focus ((refine sub_to [some 2] [] rfl ?_ ?_ <;> (repeat' (first | exact trivial | refine ⟨⟨_, rfl, ?_⟩, ?_⟩ | refine ⟨bsub_snoc rfl rfl (fun _ => rfl) ?_, ?_⟩ | refine ⟨bsub_one rfl rfl ?_, ?_⟩ | refine ⟨bsub_all rfl rfl (fun _ _ => rfl) (fun _ => rfl), ?_⟩ | refine ⟨bsub_updL rfl rfl ?_ (fun _ _ _ => rfl) (fun _ => rfl), ?_⟩ | refine ⟨.inl ⟨_, _, rfl, rfl, ?_⟩, ?_⟩ | exact ⟨.inr ⟨rfl, rfl⟩, trivial⟩ | refine ⟨.inr ⟨rfl, rfl⟩, ?_⟩ | (intro _ _) | exact vz1 | (exact VSub.aggL ⟨.closed rfl, .nilList, .nilList, trivial⟩) | exact vz2 | fail))); done)))
    refine aw_ret ?_; (repeat (first | refine ret_then ?_ | refine ret_block ?_))
    exact do_ret ⟨do_no hV ((actE_2 (by assumption)).trans (transE_no (by assumption))) (by decide), rfl⟩
  · (refine aw_mono_r (env' := [(4, .ptr 3 0 0 0), (5, vi 0)]) (H' := [.arr 3 1 (fun _ => (transF s a.item).enc)]) ?_ ?_; (focus ((refine sub_to [some 2] [7, 4] rfl ?_ ?_ <;> (repeat' (first | exact trivial | refine ⟨⟨_, rfl, ?_⟩, ?_⟩ | refine ⟨bsub_snoc rfl rfl (fun _ => rfl) ?_, ?_⟩ | refine ⟨bsub_one rfl rfl ?_, ?_⟩ | refine ⟨bsub_all rfl rfl (fun _ _ => rfl) (fun _ => rfl), ?_⟩ | refine ⟨bsub_updL rfl rfl ?_ (fun _ _ _ => rfl) (fun _ => rfl), ?_⟩ | refine ⟨.inl ⟨_, _, rfl, rfl, ?_⟩, ?_⟩ | exact ⟨.inr ⟨rfl, rfl⟩, trivial⟩ | refine ⟨.inr ⟨rfl, rfl⟩, ?_⟩ | (intro _ _) | exact vz1 | (exact VSub.aggL ⟨.closed rfl, frzLB (by first | exact List.elem_iff.1 rfl | (simp; done)) rfl (fun _ => rfl) rfl, frzLB (by first | exact List.elem_iff.1 rfl | (simp; done)) rfl (fun _ => rfl) rfl, trivial⟩) | exact vz2 | fail))); done)))
    refine aw_ret ?_; (repeat (first | refine ret_then ?_ | refine ret_block ?_))
    exact do_ret ⟨do_ok hV ((actE_2 (by assumption)).trans he) (actF_2 (by assumption)), rfl⟩
  · (refine aw_mono_r (env' := [(4, .ptr 3 0 0 0), (5, vi (transE s a.item))]) (H' := [.arr 3 1 (fun _ => noSto.enc)]) ?_ ?_; (focus ((refine sub_to [some 2] [] rfl ?_ ?_ <;> (repeat' (first | exact trivial | refine ⟨⟨_, rfl, ?_⟩, ?_⟩ | refine ⟨bsub_snoc rfl rfl (fun _ => rfl) ?_, ?_⟩ | refine ⟨bsub_one rfl rfl ?_, ?_⟩ | refine ⟨bsub_all rfl rfl (fun _ _ => rfl) (fun _ => rfl), ?_⟩ | refine ⟨bsub_updL rfl rfl ?_ (fun _ _ _ => rfl) (fun _ => rfl), ?_⟩ | refine ⟨.inl ⟨_, _, rfl, rfl, ?_⟩, ?_⟩ | exact ⟨.inr ⟨rfl, rfl⟩, trivial⟩ | refine ⟨.inr ⟨rfl, rfl⟩, ?_⟩ | (intro _ _) | exact vz1 | (exact VSub.aggL ⟨.closed rfl, .nilList, .nilList, trivial⟩) | exact vz2 | fail))); done)))
    refine aw_ret ?_; (repeat (first | refine ret_then ?_ | refine ret_block ?_))
    exact do_ret ⟨do_no hV (actE_2 (by assumption)) (he), rfl⟩
  · (refine aw_mono_r (env' := [(4, .ptr 3 0 0 0), (5, vi (6))]) (H' := [.arr 3 1 (fun _ => noSto.enc)]) ?_ ?_; (focus ((refine sub_to [some 2] [] rfl ?_ ?_ <;> (repeat' (first | exact trivial | refine ⟨⟨_, rfl, ?_⟩, ?_⟩ | refine ⟨bsub_snoc rfl rfl (fun _ => rfl) ?_, ?_⟩ | refine ⟨bsub_one rfl rfl ?_, ?_⟩ | refine ⟨bsub_all rfl rfl (fun _ _ => rfl) (fun _ => rfl), ?_⟩ | refine ⟨bsub_updL rfl rfl ?_ (fun _ _ _ => rfl) (fun _ => rfl), ?_⟩ | refine ⟨.inl ⟨_, _, rfl, rfl, ?_⟩, ?_⟩ | exact ⟨.inr ⟨rfl, rfl⟩, trivial⟩ | refine ⟨.inr ⟨rfl, rfl⟩, ?_⟩ | (intro _ _) | exact vz1 | (exact VSub.aggL ⟨.closed rfl, .nilList, .nilList, trivial⟩) | exact vz2 | fail))); done)))
    refine aw_ret ?_; (repeat (first | refine ret_then ?_ | refine ret_block ?_))
    exact do_ret ⟨do_no hV ((actE_3 (by assumption)).trans (moveE_no (by assumption))) (by decide), rfl⟩
  · (refine aw_mono_r (env' := [(4, .ptr 3 0 0 0), (5, vi 0)]) (H' := [.arr 3 1 (fun _ => (moveF s a.item a.dest).enc)]) ?_ ?_; (focus ((refine sub_to [some 2] [3, 4] rfl ?_ ?_ <;> (repeat' (first | exact trivial | refine ⟨⟨_, rfl, ?_⟩, ?_⟩ | refine ⟨bsub_snoc rfl rfl (fun _ => rfl) ?_, ?_⟩ | refine ⟨bsub_one rfl rfl ?_, ?_⟩ | refine ⟨bsub_all rfl rfl (fun _ _ => rfl) (fun _ => rfl), ?_⟩ | refine ⟨bsub_updL rfl rfl ?_ (fun _ _ _ => rfl) (fun _ => rfl), ?_⟩ | refine ⟨.inl ⟨_, _, rfl, rfl, ?_⟩, ?_⟩ | exact ⟨.inr ⟨rfl, rfl⟩, trivial⟩ | refine ⟨.inr ⟨rfl, rfl⟩, ?_⟩ | (intro _ _) | exact vz1 | (exact VSub.aggL ⟨.closed rfl, frzLB (by first | exact List.elem_iff.1 rfl | (simp; done)) rfl (fun _ => rfl) rfl, frzLB (by first | exact List.elem_iff.1 rfl | (simp; done)) rfl (fun _ => rfl) rfl, trivial⟩) | exact vz2 | fail))); done)))
    refine aw_ret ?_; (repeat (first | refine ret_then ?_ | refine ret_block ?_))
    exact do_ret ⟨do_ok hV ((actE_3 (by assumption)).trans he) (actF_3 (by assumption)), rfl⟩
  · (refine aw_mono_r (env' := [(4, .ptr 3 0 0 0), (5, vi (moveE s a.item a.dest))]) (H' := [.arr 3 1 (fun _ => noSto.enc)]) ?_ ?_; (focus ((refine sub_to [some 2] [] rfl ?_ ?_ <;> (repeat' (first | exact trivial | refine ⟨⟨_, rfl, ?_⟩, ?_⟩ | refine ⟨bsub_snoc rfl rfl (fun _ => rfl) ?_, ?_⟩ | refine ⟨bsub_one rfl rfl ?_, ?_⟩ | refine ⟨bsub_all rfl rfl (fun _ _ => rfl) (fun _ => rfl), ?_⟩ | refine ⟨bsub_updL rfl rfl ?_ (fun _ _ _ => rfl) (fun _ => rfl), ?_⟩ | refine ⟨.inl ⟨_, _, rfl, rfl, ?_⟩, ?_⟩ | exact ⟨.inr ⟨rfl, rfl⟩, trivial⟩ | refine ⟨.inr ⟨rfl, rfl⟩, ?_⟩ | (intro _ _) | exact vz1 | (exact VSub.aggL ⟨.closed rfl, .nilList, .nilList, trivial⟩) | exact vz2 | fail))); done)))
    refine aw_ret ?_; (repeat (first | refine ret_then ?_ | refine ret_block ?_))
    exact do_ret ⟨do_no hV (actE_3 (by assumption)) (he), rfl⟩
  · (refine aw_mono_r (env' := [(4, .ptr 3 0 0 0), (5, vi (6))]) (H' := [.arr 3 1 (fun _ => noSto.enc)]) ?_ ?_; (focus ((refine sub_to [some 2] [] rfl ?_ ?_ <;> (repeat' (first | exact trivial | refine ⟨⟨_, rfl, ?_⟩, ?_⟩ | refine ⟨bsub_snoc rfl rfl (fun _ => rfl) ?_, ?_⟩ | refine ⟨bsub_one rfl rfl ?_, ?_⟩ | refine ⟨bsub_all rfl rfl (fun _ _ => rfl) (fun _ => rfl), ?_⟩ | refine ⟨bsub_updL rfl rfl ?_ (fun _ _ _ => rfl) (fun _ => rfl), ?_⟩ | refine ⟨.inl ⟨_, _, rfl, rfl, ?_⟩, ?_⟩ | exact ⟨.inr ⟨rfl, rfl⟩, trivial⟩ | refine ⟨.inr ⟨rfl, rfl⟩, ?_⟩ | (intro _ _) | exact vz1 | (exact VSub.aggL ⟨.closed rfl, .nilList, .nilList, trivial⟩) | exact vz2 | fail))); done)))
    refine aw_ret ?_; (repeat (first | refine ret_then ?_ | refine ret_block ?_))
    exact do_ret ⟨do_no hV ((actE_4 (by assumption)).trans (printE_no (by assumption))) (by decide), rfl⟩
  · (refine aw_mono_r (env' := [(4, .ptr 3 0 0 0), (5, vi 0)]) (H' := [.arr 3 1 (fun _ => (printF s a.item a.n).enc)]) ?_ ?_; (focus ((refine sub_to [some 2] [3, 7] rfl ?_ ?_ <;> (repeat' (first | exact trivial | refine ⟨⟨_, rfl, ?_⟩, ?_⟩ | refine ⟨bsub_snoc rfl rfl (fun _ => rfl) ?_, ?_⟩ | refine ⟨bsub_one rfl rfl ?_, ?_⟩ | refine ⟨bsub_all rfl rfl (fun _ _ => rfl) (fun _ => rfl), ?_⟩ | refine ⟨bsub_updL rfl rfl ?_ (fun _ _ _ => rfl) (fun _ => rfl), ?_⟩ | refine ⟨.inl ⟨_, _, rfl, rfl, ?_⟩, ?_⟩ | exact ⟨.inr ⟨rfl, rfl⟩, trivial⟩ | refine ⟨.inr ⟨rfl, rfl⟩, ?_⟩ | (intro _ _) | exact vz1 | (exact VSub.aggL ⟨.closed rfl, frzLB (by first | exact List.elem_iff.1 rfl | (simp; done)) rfl (fun _ => rfl) rfl, frzLB (by first | exact List.elem_iff.1 rfl | (simp; done)) rfl (fun _ => rfl) rfl, trivial⟩) | exact vz2 | fail))); done)))
    refine aw_ret ?_; (repeat (first | refine ret_then ?_ | refine ret_block ?_))
    exact do_ret ⟨do_ok hV ((actE_4 (by assumption)).trans he) (actF_4 (by assumption)), rfl⟩
  · (refine aw_mono_r (env' := [(4, .ptr 3 0 0 0), (5, vi (printE s a.item a.n))]) (H' := [.arr 3 1 (fun _ => noSto.enc)]) ?_ ?_; (focus ((refine sub_to [some 2] [] rfl ?_ ?_ <;> (repeat' (first | exact trivial | refine ⟨⟨_, rfl, ?_⟩, ?_⟩ | refine ⟨bsub_snoc rfl rfl (fun _ => rfl) ?_, ?_⟩ | refine ⟨bsub_one rfl rfl ?_, ?_⟩ | refine ⟨bsub_all rfl rfl (fun _ _ => rfl) (fun _ => rfl), ?_⟩ | refine ⟨bsub_updL rfl rfl ?_ (fun _ _ _ => rfl) (fun _ => rfl), ?_⟩ | refine ⟨.inl ⟨_, _, rfl, rfl, ?_⟩, ?_⟩ | exact ⟨.inr ⟨rfl, rfl⟩, trivial⟩ | refine ⟨.inr ⟨rfl, rfl⟩, ?_⟩ | (intro _ _) | exact vz1 | (exact VSub.aggL ⟨.closed rfl, .nilList, .nilList, trivial⟩) | exact vz2 | fail))); done)))
    refine aw_ret ?_; (repeat (first | refine ret_then ?_ | refine ret_block ?_))
    exact do_ret ⟨do_no hV (actE_4 (by assumption)) (he), rfl⟩
  · (refine aw_mono_r (env' := [(4, .ptr 3 0 0 0), (5, vi (6))]) (H' := [.arr 3 1 (fun _ => noSto.enc)]) ?_ ?_; (focus ((refine sub_to [some 2] [] rfl ?_ ?_ <;> (repeat' (first | exact trivial | refine ⟨⟨_, rfl, ?_⟩, ?_⟩ | refine ⟨bsub_snoc rfl rfl (fun _ => rfl) ?_, ?_⟩ | refine ⟨bsub_one rfl rfl ?_, ?_⟩ | refine ⟨bsub_all rfl rfl (fun _ _ => rfl) (fun _ => rfl), ?_⟩ | refine ⟨bsub_updL rfl rfl ?_ (fun _ _ _ => rfl) (fun _ => rfl), ?_⟩ | refine ⟨.inl ⟨_, _, rfl, rfl, ?_⟩, ?_⟩ | exact ⟨.inr ⟨rfl, rfl⟩, trivial⟩ | refine ⟨.inr ⟨rfl, rfl⟩, ?_⟩ | (intro _ _) | exact vz1 | (exact VSub.aggL ⟨.closed rfl, .nilList, .nilList, trivial⟩) | exact vz2 | fail))); done)))
    refine aw_ret ?_; (repeat (first | refine ret_then ?_ | refine ret_block ?_))
    exact do_ret ⟨do_no hV ((actE_7 (by assumption)).trans (destE_no (by assumption))) (by decide), rfl⟩
  · have hh : hereB s a.item := by assumption
    have hlt : a.item.toNat < s.items.length := by unfold hereB at hh; omega
    have h0 := hh.1
    (repeat' (first | (refine ar_isq ?_; first | refine zas ?_ | (refine is_load ?_; first | refine zlp ?_ | refine zlr ?_) | (refine is_binOp ?_; first | refine zeql ?_ | refine zneq ?_) | (refine is_fieldAddr ?_; first | refine zfp ?_ | refine zfr ?_) | (refine is_indexAddr ?_; first | refine zil ?_ | refine zis ?_ | refine zit ?_ | refine zia ?_ | refine zir ?_ | refine zil (j := a.item.toNat) ?_ | refine zis (j := a.item.toNat) ?_ | refine zit (j := a.item.toNat) ?_ | (refine zxl ?_; intro _ _ _) | (refine zxs ?_; intro _ _ _)) | (refine is_call ?_; first | refine zll ?_ | refine zls ?_ | refine zln ?_ | refine zle ?_) | refine zex ?_ | refine znt ?_ | (refine ar_buildT ?_ (by exact ty rfl) (by exact rfl) (by exact sizes rfl) (by exact rfl) (by exact rfl) (by exact build rfl) (by exact dc rfl); intro _ hds; (try dsimp only [List.toList_toArray, cells_s, cells_emp, cells_agg, cells_list, cells_sl, cells_ptr, cells_ref, cells_fn, cells_vi, cells_vb, cells_vnil, constV, List.map_cons, List.map_nil, List.take_succ_cons, List.take_zero, List.drop_succ_cons, List.drop_zero, List.cons_append, List.nil_append, List.append_nil, LV_cells] at hds); (try dsimp only [cells_s, cells_emp, cells_agg, cells_list, cells_sl, cells_ptr, cells_ref, cells_fn, cells_vi, cells_vb, cells_vnil, constV, List.map_cons, List.map_nil, List.take_succ_cons, List.take_zero, List.drop_succ_cons, List.drop_zero, List.cons_append, List.nil_append, List.append_nil, LV_cells] at hds); subst hds)) | (refine zbx ?_) | (refine zal ?_) | (refine zb1 ?_) | (refine zb0 ?_) | (refine zapoo ?_) | (refine zapol ?_) | (refine zapno ?_) | (refine zapnl ?_) | (refine zapeo ?_) | (refine zapel ?_) | (refine zsvs ?_) | (refine zsva ?_) | (refine zses ?_) | (refine zsea ?_) | (refine ar_nil ?_) | (refine aw_seq ?_) | (refine aw_skip ?_) | (refine aw_block ?_) | (refine aw_exit ?_) | (refine aw_region ?_) | (refine zco ?_ ?_ <;> intro hg <;> first | exact absurd hg (by decide) | ((try replace hg := HG.out hg); (try dsimp only at hg); (try (have _h : True := hg; clear _h hg)); first | (exfalso; omega) | skip))))
    · (refine aw_mono_r (env' := [(4, .ptr 3 0 0 0), (5, vi (2))]) (H' := [.arr 3 1 (fun _ => noSto.enc)]) ?_ ?_; (focus ((refine sub_to [some 2] [] rfl ?_ ?_ <;> (repeat' (first | exact trivial | refine ⟨⟨_, rfl, ?_⟩, ?_⟩ | refine ⟨bsub_snoc rfl rfl (fun _ => rfl) ?_, ?_⟩ | refine ⟨bsub_one rfl rfl ?_, ?_⟩ | refine ⟨bsub_all rfl rfl (fun _ _ => rfl) (fun _ => rfl), ?_⟩ | refine ⟨bsub_updL rfl rfl ?_ (fun _ _ _ => rfl) (fun _ => rfl), ?_⟩ | refine ⟨.inl ⟨_, _, rfl, rfl, ?_⟩, ?_⟩ | exact ⟨.inr ⟨rfl, rfl⟩, trivial⟩ | refine ⟨.inr ⟨rfl, rfl⟩, ?_⟩ | (intro _ _) | exact vz1 | (exact VSub.aggL ⟨.closed rfl, .nilList, .nilList, trivial⟩) | exact vz2 | fail))); done)))
      refine aw_ret ?_; (repeat (first | refine ret_then ?_ | refine ret_block ?_))
      exact do_ret ⟨do_no hV ((actE_7 (by assumption)).trans (by unfold destE; rw [if_pos hh, if_pos (by omega)])) (by decide), rfl⟩
    · (refine aw_mono_r (env' := [(4, .ptr 3 0 0 0), (5, vi 0)]) (H' := [.arr 3 1 (fun _ => sv 1 2 (destF s a.item)), LB 5 Itm.enc (s.items.set a.item.toNat (gone1 (el s.items a.item.toNat))), LB 2 Prt.enc s.prints]) ?_ ?_; (focus ((refine sub_to [some 2, some 3, some 4] [] rfl ?_ ?_ <;> (repeat' (first | exact trivial | refine ⟨⟨_, rfl, ?_⟩, ?_⟩ | refine ⟨bsub_snoc rfl rfl (fun _ => rfl) ?_, ?_⟩ | refine ⟨bsub_one rfl rfl ?_, ?_⟩ | refine ⟨bsub_all rfl rfl (fun _ _ => rfl) (fun _ => rfl), ?_⟩ | refine ⟨bsub_updL rfl rfl ?_ (fun _ _ _ => rfl) (fun _ => rfl), ?_⟩ | refine ⟨.inl ⟨_, _, rfl, rfl, ?_⟩, ?_⟩ | exact ⟨.inr ⟨rfl, rfl⟩, trivial⟩ | refine ⟨.inr ⟨rfl, rfl⟩, ?_⟩ | (intro _ _) | exact vz1 | (first | refine ⟨bsub_set (gone1 (el s.items a.item.toNat)) rfl hlt rfl rfl, ?_⟩ | exact VSub.aggL ⟨.closed rfl, slEq rfl (by first | rfl | (simp [addS, destF, setS]; done)), .sl rfl, trivial⟩) | exact vz2 | fail))); done)))
      (refine aw_mono_r (env' := [(4, .ptr 3 0 0 0), (5, vi 0)]) (H' := [.arr 3 1 (fun _ => (destF s a.item).enc)]) ?_ ?_; (focus ((refine sub_to [some 0] [1, 2] rfl ?_ ?_ <;> (repeat' (first | exact trivial | refine ⟨⟨_, rfl, ?_⟩, ?_⟩ | refine ⟨bsub_snoc rfl rfl (fun _ => rfl) ?_, ?_⟩ | refine ⟨bsub_one rfl rfl ?_, ?_⟩ | refine ⟨bsub_all rfl rfl (fun _ _ => rfl) (fun _ => rfl), ?_⟩ | refine ⟨bsub_updL rfl rfl ?_ (fun _ _ _ => rfl) (fun _ => rfl), ?_⟩ | refine ⟨.inl ⟨_, _, rfl, rfl, ?_⟩, ?_⟩ | exact ⟨.inr ⟨rfl, rfl⟩, trivial⟩ | refine ⟨.inr ⟨rfl, rfl⟩, ?_⟩ | (intro _ _) | exact vz1 | (exact VSub.aggL ⟨.closed rfl, frzLB (by first | exact List.elem_iff.1 rfl | (simp; done)) rfl (fun _ => rfl) rfl, frzLB (by first | exact List.elem_iff.1 rfl | (simp; done)) rfl (fun _ => rfl) rfl, trivial⟩) | exact vz2 | fail))); done)))
      refine aw_ret ?_; (repeat (first | refine ret_then ?_ | refine ret_block ?_))
      exact do_ret ⟨do_ok hV ((actE_7 (by assumption)).trans (by unfold destE; rw [if_pos hh, if_neg (by omega)])) (actF_7 (by assumption)), rfl⟩
  · (refine aw_mono_r (env' := [(4, .ptr 3 0 0 0), (5, vi (2))]) (H' := [.arr 3 1 (fun _ => noSto.enc)]) ?_ ?_; (focus ((refine sub_to [some 2] [] rfl ?_ ?_ <;> (repeat' (first | exact trivial | refine ⟨⟨_, rfl, ?_⟩, ?_⟩ | refine ⟨bsub_snoc rfl rfl (fun _ => rfl) ?_, ?_⟩ | refine ⟨bsub_one rfl rfl ?_, ?_⟩ | refine ⟨bsub_all rfl rfl (fun _ _ => rfl) (fun _ => rfl), ?_⟩ | refine ⟨bsub_updL rfl rfl ?_ (fun _ _ _ => rfl) (fun _ => rfl), ?_⟩ | refine ⟨.inl ⟨_, _, rfl, rfl, ?_⟩, ?_⟩ | exact ⟨.inr ⟨rfl, rfl⟩, trivial⟩ | refine ⟨.inr ⟨rfl, rfl⟩, ?_⟩ | (intro _ _) | exact vz1 | (exact VSub.aggL ⟨.closed rfl, .nilList, .nilList, trivial⟩) | exact vz2 | fail))); done)))
    refine aw_ret ?_; (repeat (first | refine ret_then ?_ | refine ret_block ?_))
    exact do_ret ⟨do_no hV (actE_no (by assumption) (by assumption) (by assumption) (by assumption) (by assumption) (by assumption) (by assumption)) (by decide), rfl⟩
end Go.Proofs.Ythpbjihnikapoaa
namespace Go.Proofs.Ythpbjihnikapoaa
theorem el_setI {α : Type} [Inhabited α] {l : List α} {i j : Nat} {x : α} (hi : i < l.length) : el (l.set i x) j = if j = i then x else el l j := by
  by_cases h : j = i
  · subst h
    simp [el, hi]
  · rw [if_neg h]
    simp [el, List.getElem?_set_ne (Ne.symm h)]
theorem made_of {l l' : List Itm} {i : Nat} (hi : i < l.length) (hk : ∀ j, j < l.length → (el l' j).kind = (el l j).kind ∧ (el l' j).src = (el l j).src) (h : Made l i) : Made l' i := by
  obtain ⟨k1, k2⟩ := hk i hi
  unfold Made at h ⊢
  rw [k1, k2]
  rcases h with h | ⟨h1, h2, h3⟩
  · exact .inl h
  · exact .inr ⟨h1, h2, by rw [(hk _ (by omega)).1]; exact h3⟩
theorem printed_of {l l' : List Itm} {p : Prt} (hl : l.length ≤ l'.length) (hk : ∀ j, j < l.length → (el l' j).kind = (el l j).kind) (h : Printed l p) : Printed l' p := by
  obtain ⟨h1, h2, h3⟩ := h
  exact ⟨⟨h1.1, by omega⟩, by rw [hk _ (by omega)]; exact h2, h3⟩
theorem usedI_same {l l' : List Itm} {q : Int} {k : Nat} (h : ∀ j, j < k → (el l' j).src = (el l j).src) : usedI l' q k = usedI l q k := cntB_congr fun j hj => by rw [h j hj]
theorem usedP_same {l l' : List Prt} {q : Int} {k : Nat} (h : ∀ j, j < k → (el l' j).plate = (el l j).plate) : usedP l' q k = usedP l q k := cntB_congr fun j hj => by rw [h j hj]
theorem usedI_snoc {l : List Itm} {x : Itm} {q : Int} : usedI (l ++ [x]) q (l.length + 1) = usedI l q l.length + (if x.src = q then 1 else 0) := by
  show usedI (l ++ [x]) q l.length + (if decide ((el (l ++ [x]) l.length).src = q) = true then 1 else 0) = _
  rw [usedI_same (l := l) (l' := l ++ [x]) fun j hj => by rw [el_app_lt hj], el_snoc]
  simp
theorem usedP_snoc {l : List Prt} {x : Prt} {q : Int} : usedP (l ++ [x]) q (l.length + 1) = usedP l q l.length + (if x.plate = q then 1 else 0) := by
  show usedP (l ++ [x]) q l.length + (if decide ((el (l ++ [x]) l.length).plate = q) = true then 1 else 0) = _
  rw [usedP_same (l := l) (l' := l ++ [x]) fun j hj => by rw [el_app_lt hj], el_snoc]
  simp
theorem usedP_rep {l : List Prt} {x : Prt} {q : Int} : ∀ n : Nat, usedP (l ++ List.replicate n x) q (l.length + n) = usedP l q l.length + (if x.plate = q then (n : Int) else 0)
  | 0 => by simp
  | n + 1 => by
    have h := usedP_snoc (l := l ++ List.replicate n x) (x := x) (q := q)
    rw [List.append_assoc, ← List.replicate_succ', List.length_append, List.length_replicate, usedP_rep n] at h
    rw [← Nat.add_assoc, h]
    split <;> omega
/-- All that is asked of a valid store, but how often its items were used. -/
def Core (s : Sto) : Prop := Few s ∧ (∀ i, i < s.items.length → Made s.items i) ∧ (∀ i, i < s.items.length → Placed s.items i) ∧ ∀ j, j < s.prints.length → Printed s.items (el s.prints j)
theorem core_of {s : Sto} (h : Valid s) : Core s := ⟨h.1, h.2.1, h.2.2.1, h.2.2.2.1⟩
theorem valid_of {s : Sto} (h : Core s) (hu : ∀ i, i < s.items.length → UsedOk s i) : Valid s := ⟨h.1, h.2.1, h.2.2.1, h.2.2.2, hu⟩
theorem core_set {s : Sto} {i : Nat} {x : Itm} (hC : Core s) (hi : i < s.items.length) (hk : x.kind = (el s.items i).kind) (hs : x.src = (el s.items i).src)
    (hp : (0 ≤ x.place ∧ x.place ≤ 9) ∧ (x.gone = true → x.place = 0) ∧ (2 ≤ x.place → x.kind = 3 ∧ ∀ j, j < s.items.length → j ≠ i → (el s.items j).place ≠ x.place)) : Core (setS s i x) := by
  obtain ⟨h1, h2, h3, h4⟩ := hC
  have hl : (s.items.set i x).length = s.items.length := by simp
  have ks : ∀ j, j < s.items.length → (el (s.items.set i x) j).kind = (el s.items j).kind ∧ (el (s.items.set i x) j).src = (el s.items j).src := fun j _ => by
    rw [el_setI hi]
    split
    · rename_i e; rw [e]; exact ⟨hk, hs⟩
    · exact ⟨rfl, rfl⟩
  refine ⟨⟨h1.1, by show (s.items.set i x).length ≤ 30; rw [hl]; exact h1.2.1, h1.2.2⟩, fun j hj => ?_, fun j hj => ?_, fun j hj => printed_of (by show _ ≤ (s.items.set i x).length; omega) (fun k hk => (ks k hk).1) (h4 j hj)⟩
  · have hj : j < s.items.length := by rw [← hl]; exact hj
    exact made_of hj ks (h2 j hj)
  · have hj : j < s.items.length := by rw [← hl]; exact hj
    show PlacedTo (s.items.set i x) j (s.items.set i x).length
    rw [hl]
    have hpj := h3 j hj
    unfold Placed PlacedTo at hpj
    unfold PlacedTo
    by_cases e : j = i
    · subst e
      rw [el_setI hi, if_pos rfl]
      refine ⟨hp.1, hp.2.1, fun h => ⟨(hp.2.2 h).1, fun k hk hne => ?_⟩⟩
      rw [el_setI hi, if_neg hne]
      exact (hp.2.2 h).2 k hk hne
    · rw [el_setI hi, if_neg e]
      refine ⟨hpj.1, hpj.2.1, fun h => ⟨(hpj.2.2 h).1, fun k hk hne => ?_⟩⟩
      rw [el_setI hi]
      split
      · rename_i ek
        intro hpl
        exact (hp.2.2 (by omega)).2 j hj e hpl.symm
      · exact (hpj.2.2 h).2 k hk hne
theorem usedS_set {s : Sto} {i : Nat} {x : Itm} {q : Int} (hi : i < s.items.length) (hs : x.src = (el s.items i).src) : usedS (setS s i x) q = usedS s q := by
  unfold usedS
  show usedI (s.items.set i x) q (s.items.set i x).length + _ = _
  rw [show (s.items.set i x).length = s.items.length by simp, usedI_same (l := s.items) fun k _ => by
    rw [el_setI hi]
    split
    · rename_i e; rw [e]; exact hs
    · rfl]
  rfl
theorem core_add {s : Sto} {x : Itm} (hC : Core s) (hn : s.items.length < 30) (hm : (x.kind = 1 ∧ x.src = -1) ∨ ((x.kind = 2 ∨ x.kind = 3) ∧ (0 ≤ x.src ∧ x.src < (s.items.length : Int)) ∧ (el s.items x.src.toNat).kind = x.kind - 1)) (hp : 0 ≤ x.place ∧ x.place < 2) (hg : x.gone = false) : Core (addS s x) := by
  obtain ⟨h1, h2, h3, h4⟩ := hC
  have hl : (s.items ++ [x]).length = s.items.length + 1 := by simp
  have ks : ∀ j, j < s.items.length → el (s.items ++ [x]) j = el s.items j := fun j hj => el_app_lt hj
  refine ⟨⟨h1.1, by show (s.items ++ [x]).length ≤ 30; omega, h1.2.2⟩, fun j hj => ?_, fun j hj => ?_, fun j hj => printed_of (by show _ ≤ (s.items ++ [x]).length; omega) (fun k hk => by show (el (s.items ++ [x]) k).kind = _; rw [ks k hk]) (h4 j hj)⟩
  · have hj : j < s.items.length + 1 := by rw [← hl]; exact hj
    show Made (s.items ++ [x]) j
    by_cases e : j = s.items.length
    · subst e
      unfold Made
      rw [el_snoc]
      rcases hm with h | ⟨a, b, c⟩
      · exact .inl h
      · exact .inr ⟨a, b, by rw [ks _ (by omega)]; exact c⟩
    · exact made_of (l := s.items) (by omega) (fun k hk => by rw [ks k hk]; exact ⟨rfl, rfl⟩) (h2 j (by omega))
  · have hj : j < s.items.length + 1 := by rw [← hl]; exact hj
    show PlacedTo (s.items ++ [x]) j (s.items ++ [x]).length
    rw [hl]
    by_cases e : j = s.items.length
    · subst e
      unfold PlacedTo
      rw [el_snoc]
      exact ⟨by omega, fun h => (by rw [hg] at h; cases h), fun h => (by omega)⟩
    · have hpj := h3 j (by omega)
      unfold Placed PlacedTo at hpj
      unfold PlacedTo
      rw [ks j (by omega)]
      refine ⟨hpj.1, hpj.2.1, fun h => ⟨(hpj.2.2 h).1, fun k hk hne => ?_⟩⟩
      by_cases ek : k = s.items.length
      · subst ek
        rw [el_snoc]
        omega
      · rw [ks k (by omega)]
        exact (hpj.2.2 h).2 k (by omega) hne
theorem usedS_add {s : Sto} {x : Itm} {q : Int} : usedS (addS s x) q = usedS s q + (if x.src = q then 1 else 0) := by
  unfold usedS
  show usedI (s.items ++ [x]) q (s.items ++ [x]).length + usedP s.prints q s.prints.length = _
  rw [show (s.items ++ [x]).length = s.items.length + 1 by simp, usedI_snoc]
  split <;> omega
theorem add_used {s : Sto} {x : Itm} (hC : Core s) (h0 : x.uses = 0) (hl : 1 ≤ s.life) (hs : x.src < (s.items.length : Int)) (hm : ∀ j, j < s.items.length → (el s.items j).src < (s.items.length : Int)) (hU : ∀ i, i < s.items.length → (el s.items i).uses = usedS s i + (if x.src = i then 1 else 0) ∧ (el s.items i).uses ≤ mostOf s.life (el s.items i)) :
    ∀ i, i < (addS s x).items.length → UsedOk (addS s x) i := by
  intro i hi
  have hi : i < s.items.length + 1 := by
    have : (addS s x).items.length = s.items.length + 1 := by simp [addS]
    omega
  unfold UsedOk
  rw [usedS_add]
  show (el (s.items ++ [x]) i).uses = _ ∧ (el (s.items ++ [x]) i).uses ≤ mostOf s.life (el (s.items ++ [x]) i)
  by_cases e : i = s.items.length
  · subst e
    rw [el_snoc, h0, if_neg (by omega)]
    have hz : usedS s s.items.length = 0 := by
      have h1 : usedI s.items s.items.length s.items.length = 0 := cntB_none fun j hj => by
        have := hm j hj
        exact decide_eq_false (by omega)
      have h2 : usedP s.prints s.items.length s.prints.length = 0 := cntB_none fun j hj => by
        have := (hC.2.2.2 j hj).1
        exact decide_eq_false (by omega)
      unfold usedS
      omega
    refine ⟨by omega, ?_⟩
    unfold mostOf
    split <;> omega
  · rw [el_app_lt (by omega)]
    exact hU i (by omega)
end Go.Proofs.Ythpbjihnikapoaa
namespace Go.Proofs.Ythpbjihnikapoaa
theorem el_rep {α : Type} [Inhabited α] {n k : Nat} {x : α} (h : k < n) : el (List.replicate n x) k = x := by simp [el, h]
theorem src_bnd {s : Sto} (hC : Core s) : ∀ j, j < s.items.length → -1 ≤ (el s.items j).src ∧ (el s.items j).src < (s.items.length : Int) := fun j hj => by
  have := hC.2.1 j hj
  unfold Made at this
  omega
theorem valid_engrave {s : Sto} (hV : Valid s) (h : engrE s = 0) : Valid (addS s newDie) := by
  have hf := hV.1
  unfold Few at hf
  have hn : s.items.length < 30 := by
    unfold engrE at h
    split at h
    · cases h
    · omega
  refine valid_of (core_add (core_of hV) hn (.inl ⟨rfl, rfl⟩) (by decide) rfl) (add_used (core_of hV) rfl hf.1.1 (by show (-1 : Int) < _; omega) (fun j hj => (src_bnd (core_of hV) j hj).2) fun i hi => ?_)
  obtain ⟨u1, u2⟩ := hV.2.2.2.2 i hi
  have e : ¬ newDie.src = (i : Int) := by show ¬ (-1 : Int) = i; omega
  rw [if_neg e]
  exact ⟨by omega, u2⟩
theorem valid_transfer {s : Sto} {i : Int} (hV : Valid s) (h : transE s i = 0) : Valid (transF s i) := by
  have hf := hV.1
  unfold Few at hf
  unfold transE at h
  split at h
  · rename_i hh
    split at h
    · cases h
    · rename_i h1
      split at h
      · cases h
      · rename_i h2
        split at h
        · cases h
        · rename_i h3
          have hb := hh.1
          have hlt : i.toNat < s.items.length := by omega
          have hl : (setS s i.toNat (used1 (el s.items i.toNat) 1)).items.length = s.items.length := by simp [setS]
          have hm := hV.2.1 _ hlt
          unfold Made at hm
          have hp := hV.2.2.1 _ hlt
          unfold Placed PlacedTo at hp
          have c1 : Core (setS s i.toNat (used1 (el s.items i.toNat) 1)) := core_set (core_of hV) hlt rfl rfl hp
          have hel : ∀ j, el (setS s i.toNat (used1 (el s.items i.toNat) 1)).items j = if j = i.toNat then used1 (el s.items i.toNat) 1 else el s.items j := fun j => el_setI hlt
          have c2 := core_add (x := made1 (el s.items i.toNat) i) c1 (by omega) (.inr ⟨by show (el s.items i.toNat).kind + 1 = 2 ∨ (el s.items i.toNat).kind + 1 = 3; omega, by show 0 ≤ i ∧ i < _; omega, by
            show (el (setS s i.toNat (used1 (el s.items i.toNat) 1)).items i.toNat).kind = (el s.items i.toNat).kind + 1 - 1
            rw [hel, if_pos rfl]
            show (el s.items i.toNat).kind = _
            omega⟩) (by show (0 : Int) ≤ 1 ∧ (1 : Int) < 2; omega) rfl
          refine valid_of c2 (add_used c1 rfl hf.1.1 (by show i < _; omega) (fun j hj => (src_bnd c1 j hj).2) fun k hk => ?_)
          have hk : k < s.items.length := by omega
          obtain ⟨u1, u2⟩ := hV.2.2.2.2 k hk
          rw [usedS_set (x := used1 (el s.items i.toNat) 1) hlt rfl, hel]
          show _ = usedS s k + (if i = (k : Int) then 1 else 0) ∧ _
          by_cases e : k = i.toNat
          · subst e
            rw [if_pos rfl, if_pos (by omega)]
            refine ⟨by show (el s.items i.toNat).uses + 1 = _; omega, ?_⟩
            unfold mostOf at u2 ⊢
            show (el s.items i.toNat).uses + 1 ≤ if (el s.items i.toNat).kind = 3 then _ else _
            rw [if_neg (by omega)] at u2 ⊢
            omega
          · rw [if_neg e, if_neg (by omega)]
            exact ⟨by omega, u2⟩
  · cases h
theorem usedok_set {s : Sto} {i : Nat} {x : Itm} (hV : Valid s) (hi : i < s.items.length) (hk : x.kind = (el s.items i).kind) (hs : x.src = (el s.items i).src) (hu : x.uses = (el s.items i).uses) : ∀ j, j < (setS s i x).items.length → UsedOk (setS s i x) j := fun j hj => by
  have hj : j < s.items.length := by
    have : (setS s i x).items.length = s.items.length := by simp [setS]
    omega
  obtain ⟨u1, u2⟩ := hV.2.2.2.2 j hj
  unfold UsedOk
  rw [usedS_set hi hs]
  show (el (s.items.set i x) j).uses = _ ∧ (el (s.items.set i x) j).uses ≤ mostOf s.life (el (s.items.set i x) j)
  rw [el_setI hi]
  unfold mostOf at u2 ⊢
  split
  · rename_i e
    subst e
    rw [hu, hk]
    exact ⟨u1, u2⟩
  · exact ⟨u1, u2⟩
theorem move_cases {s : Sto} {i d : Int} (h : moveE s i d = 0) : hereB s i ∧ ¬ (¬ (0 ≤ d ∧ d ≤ 9) ∨ (2 ≤ d ∧ (el s.items i.toNat).kind ≠ 3)) ∧ ¬ takenB s i d := by
  unfold moveE at h
  split at h
  · rename_i hh
    split at h
    · cases h
    · rename_i h1
      split at h
      · cases h
      · rename_i h2
        exact ⟨hh, h1, h2⟩
  · cases h
theorem not_taken {s : Sto} {i d : Int} (h : ¬ takenB s i d) (hd : 2 ≤ d) : ∀ k, k < s.items.length → k ≠ i.toNat → (el s.items k).place ≠ d := fun k hk hne e => h ⟨hd, fun hall => hall k hk hne e⟩
theorem valid_move {s : Sto} {i d : Int} (hV : Valid s) (h : moveE s i d = 0) : Valid (moveF s i d) := by
  obtain ⟨hh, h1, h2⟩ := move_cases h
  have hb := hh.1
  have hlt : i.toNat < s.items.length := by omega
  refine valid_of (core_set (core_of hV) hlt rfl rfl ⟨?_, fun hg => ?_, fun hp => ⟨?_, fun j hj hne => ?_⟩⟩) (usedok_set hV hlt rfl rfl rfl)
  · show 0 ≤ d ∧ d ≤ 9
    omega
  · have : (el s.items i.toNat).gone = true := hg
    rw [hh.2] at this
    cases this
  · show (el s.items i.toNat).kind = 3
    have : 2 ≤ d := hp
    omega
  · exact not_taken h2 hp j hj hne
theorem valid_destroy {s : Sto} {i : Int} (hV : Valid s) (h : destE s i = 0) : Valid (destF s i) := by
  unfold destE at h
  split at h
  · rename_i hh
    split at h
    · cases h
    · rename_i h1
      have hb := hh.1
      have hlt : i.toNat < s.items.length := by omega
      have h0 : (el s.items i.toNat).place = 0 := by omega
      refine valid_of (core_set (core_of hV) hlt rfl rfl ⟨?_, fun _ => h0, fun hp => ?_⟩) (usedok_set hV hlt rfl rfl rfl)
      · show 0 ≤ (el s.items i.toNat).place ∧ (el s.items i.toNat).place ≤ 9
        omega
      · have : 2 ≤ (el s.items i.toNat).place := hp
        omega
  · cases h
theorem core_prints {s : Sto} {P : List Prt} (hC : Core s) (hl : P.length ≤ 400) (hP : ∀ j, j < P.length → Printed s.items (el P j)) : Core { s with prints := P } := ⟨⟨hC.1.1, hC.1.2.1, hl⟩, hC.2.1, hC.2.2.1, hP⟩
theorem valid_spend {s : Sto} {first n st : Int} (hV : Valid s) (hst : st ≤ 2) : Valid (spendF s first n st) := by
  have hl := spendF_len s first n st
  have hf := hV.1
  unfold Few at hf
  have hel : ∀ j, j < s.prints.length → (el (spendF s first n st).prints j).plate = (el s.prints j).plate ∧ (el (spendF s first n st).prints j).state ≤ 2 := fun j hj => by
    rw [spendF_el hj]
    have := (hV.2.2.2.1 j hj).2.2
    unfold stateAt
    split
    · exact ⟨rfl, hst⟩
    · exact ⟨rfl, this⟩
  refine valid_of (core_prints (core_of hV) (by show (spendF s first n st).prints.length ≤ 400; omega) fun j hj => ?_) fun i hi => ?_
  · have hj : j < s.prints.length := by rw [← hl]; exact hj
    obtain ⟨q1, q2, q3⟩ := hV.2.2.2.1 j hj
    obtain ⟨e1, e2⟩ := hel j hj
    show Printed s.items (el (spendF s first n st).prints j)
    exact ⟨by rw [e1]; exact q1, by rw [e1]; exact q2, e2⟩
  · obtain ⟨u1, u2⟩ := hV.2.2.2.2 i hi
    refine ⟨u1.trans ?_, u2⟩
    unfold usedS
    show _ = usedI s.items i s.items.length + usedP (spendF s first n st).prints i (spendF s first n st).prints.length
    rw [hl, usedP_same fun j hj => (hel j hj).1]
theorem valid_print {s : Sto} {i n : Int} (hV : Valid s) (h : printE s i n = 0) : Valid (printF s i n) := by
  have hf := hV.1
  unfold Few at hf
  unfold printE at h
  split at h
  · rename_i hh
    split at h
    · cases h
    · rename_i h1
      split at h
      · cases h
      · rename_i h2
        split at h
        · cases h
        · rename_i h3
          have hb := hh.1
          have hlt : i.toNat < s.items.length := by omega
          have hp := hV.2.2.1 _ hlt
          unfold Placed PlacedTo at hp
          have c1 : Core (setS s i.toNat (used1 (el s.items i.toNat) n)) := core_set (core_of hV) hlt rfl rfl hp
          have hel : ∀ j, el (s.items.set i.toNat (used1 (el s.items i.toNat) n)) j = if j = i.toNat then used1 (el s.items i.toNat) n else el s.items j := fun j => el_setI hlt
          have hls : (s.items.set i.toNat (used1 (el s.items i.toNat) n)).length = s.items.length := by simp
          have hpl : (s.prints ++ List.replicate n.toNat (⟨i, 0⟩ : Prt)).length = s.prints.length + n.toNat := by simp
          have c2 : (∀ j, j < (s.prints ++ List.replicate n.toNat (⟨i, 0⟩ : Prt)).length → Printed (s.items.set i.toNat (used1 (el s.items i.toNat) n)) (el (s.prints ++ List.replicate n.toNat (⟨i, 0⟩ : Prt)) j)) → Core (printF s i n) := fun h => core_prints (s := setS s i.toNat (used1 (el s.items i.toNat) n)) c1 (by omega) h
          refine valid_of (c2 fun j hj => ?_) fun k hk => ?_
          · show Printed (s.items.set i.toNat (used1 (el s.items i.toNat) n)) _
            by_cases e : j < s.prints.length
            · rw [el_app_lt e]
              exact printed_of (by omega) (fun q _ => by rw [hel]; split <;> first | rfl | (rename_i eq; rw [eq]; rfl)) (hV.2.2.2.1 j e)
            · rw [el_app_ge (by omega), el_rep (by omega)]
              refine ⟨?_, ?_, ?_⟩
              · show 0 ≤ i ∧ i < _
                omega
              · show (el (s.items.set i.toNat (used1 (el s.items i.toNat) n)) i.toNat).kind = 3
                rw [hel, if_pos rfl]
                show (el s.items i.toNat).kind = 3
                omega
              · show (0 : Int) ≤ 2
                omega
          · have hk : k < s.items.length := by rw [← hls]; exact hk
            obtain ⟨u1, u2⟩ := hV.2.2.2.2 k hk
            have hus : usedS (printF s i n) k = usedS s k + (if i = (k : Int) then n else 0) := by
              unfold usedS
              show usedI (s.items.set i.toNat (used1 (el s.items i.toNat) n)) k (s.items.set i.toNat (used1 (el s.items i.toNat) n)).length + usedP (s.prints ++ List.replicate n.toNat ⟨i, 0⟩) k (s.prints ++ List.replicate n.toNat (⟨i, 0⟩ : Prt)).length = _
              rw [hls, hpl, usedP_rep, usedI_same (l := s.items) fun q _ => by rw [hel]; split <;> first | rfl | (rename_i eq; rw [eq]; rfl)]
              show _ + (_ + if i = (k : Int) then _ else _) = _
              split <;> omega
            refine ⟨?_, ?_⟩
            · show (el (s.items.set i.toNat (used1 (el s.items i.toNat) n)) k).uses = usedS (printF s i n) k
              rw [hus, hel]
              split
              · rename_i e
                rw [if_pos (by omega)]
                show (el s.items i.toNat).uses + n = _
                rw [← e]
                omega
              · rw [if_neg (by omega)]
                omega
            · show (el (s.items.set i.toNat (used1 (el s.items i.toNat) n)) k).uses ≤ mostOf s.life (el (s.items.set i.toNat (used1 (el s.items i.toNat) n)) k)
              rw [hel]
              split
              · unfold mostOf
                show (el s.items i.toNat).uses + n ≤ if (el s.items i.toNat).kind = 3 then _ else _
                rw [if_pos (by omega)]
                omega
              · exact u2
  · cases h
theorem act_kind {s : Sto} {a : Deed} (h : actE s a = 0) : a.kind = 1 ∨ a.kind = 2 ∨ a.kind = 3 ∨ a.kind = 4 ∨ a.kind = 5 ∨ a.kind = 6 ∨ a.kind = 7 := by
  by_cases h1 : a.kind = 1
  · exact .inl h1
  by_cases h2 : a.kind = 2
  · exact .inr (.inl h2)
  by_cases h3 : a.kind = 3
  · exact .inr (.inr (.inl h3))
  by_cases h4 : a.kind = 4
  · exact .inr (.inr (.inr (.inl h4)))
  by_cases h5 : a.kind = 5
  · exact .inr (.inr (.inr (.inr (.inl h5))))
  by_cases h6 : a.kind = 6
  · exact .inr (.inr (.inr (.inr (.inr (.inl h6)))))
  by_cases h7 : a.kind = 7
  · exact .inr (.inr (.inr (.inr (.inr (.inr h7)))))
  rw [actE_no h1 h2 h3 h4 h5 h6 h7] at h
  cases h
theorem valid_act {s : Sto} {a : Deed} (hV : Valid s) (h : actE s a = 0) : Valid (actF s a) := by
  rcases act_kind h with k | k | k | k | k | k | k
  · rw [actE_1 k] at h; rw [actF_1 k]; exact valid_engrave hV h
  · rw [actE_2 k] at h; rw [actF_2 k]; exact valid_transfer hV h
  · rw [actE_3 k] at h; rw [actF_3 k]; exact valid_move hV h
  · rw [actE_4 k] at h; rw [actF_4 k]; exact valid_print hV h
  · rw [actF_5 k]; exact valid_spend hV (by decide)
  · rw [actF_6 k]; exact valid_spend hV (by decide)
  · rw [actE_7 k] at h; rw [actF_7 k]; exact valid_destroy hV h
theorem press_same {l l' : List Itm} {m : List (Int × Int)} (hl : l'.length = l.length) (hp : ∀ j, j < l.length → (el l' j).place = (el l j).place) (h : PressOk l m) : PressOk l' m := by
  refine ⟨h.keys, fun q i => (h.iff q i).trans ?_⟩
  rw [hl]
  constructor
  · rintro ⟨a, b, c, d⟩
    exact ⟨a, b, c, by rw [hp _ (by omega)]; exact d⟩
  · rintro ⟨a, b, c, d⟩
    exact ⟨a, b, c, by rw [hp _ (by omega)] at d; exact d⟩
theorem press_add {l : List Itm} {x : Itm} {m : List (Int × Int)} (hx : x.place < 2) (h : PressOk l m) : PressOk (l ++ [x]) m := by
  refine ⟨h.keys, fun q i => (h.iff q i).trans ?_⟩
  have hl : (l ++ [x]).length = l.length + 1 := by simp
  rw [hl]
  constructor
  · rintro ⟨a, b, c, d⟩
    exact ⟨a, b, by omega, by rw [el_app_lt (by omega)]; exact d⟩
  · rintro ⟨a, b, c, d⟩
    by_cases e : i.toNat = l.length
    · rw [e, el_snoc] at d
      omega
    · rw [el_app_lt (by omega)] at d
      exact ⟨a, b, by omega, d⟩
theorem press_move {l : List Itm} {m : List (Int × Int)} {i dest : Int} (hi : 0 ≤ i ∧ i < (l.length : Int)) (h : PressOk l m) (hpl : Placed l i.toNat) (ht : 2 ≤ dest → ∀ k, k < l.length → k ≠ i.toNat → (el l k).place ≠ dest) : PressOk (l.set i.toNat (place1 (el l i.toNat) dest)) (moveP m (el l i.toNat) i dest) := by
  have hlt : i.toNat < l.length := by omega
  have hl : (l.set i.toNat (place1 (el l i.toNat) dest)).length = l.length := by simp
  have hel : ∀ j, (el (l.set i.toNat (place1 (el l i.toNat) dest)) j).place = if j = i.toNat then dest else (el l j).place := fun j => by
    rw [el_setI hlt]
    split <;> rfl
  have k1 : keysOk (delE m (el l i.toNat).place) := keysOk_del h.keys
  have g1 : ∀ q, getE (delE m (el l i.toNat).place) q = if q = (el l i.toNat).place then none else getE m q := fun q => getE_del q h.keys
  have main : ∀ q j : Int, q ≠ dest → ((if q = (el l i.toNat).place then none else getE m q) = some j ↔ 2 ≤ q ∧ 0 ≤ j ∧ j < (l.length : Int) ∧ (if j.toNat = i.toNat then dest else (el l j.toNat).place) = q) := by
    intro q j hq
    by_cases e : q = (el l i.toNat).place
    · rw [if_pos e]
      constructor
      · intro hn; cases hn
      · rintro ⟨a, b, c, d⟩
        exfalso
        split at d
        · exact hq d.symm
        · rename_i hne
          exact (hpl.2.2 (by omega)).2 j.toNat (by omega) hne (by omega)
    · rw [if_neg e, h.iff q j]
      constructor
      · rintro ⟨a, b, c, d⟩
        refine ⟨a, b, c, ?_⟩
        rw [if_neg (fun hj => e (by rw [← d, hj]))]
        exact d
      · rintro ⟨a, b, c, d⟩
        split at d
        · exact absurd d.symm hq
        · exact ⟨a, b, c, d⟩
  unfold moveP
  by_cases hd : 2 ≤ dest
  · rw [if_pos hd]
    refine ⟨keysOk_put k1, fun q j => ?_⟩
    rw [getE_put, g1, hel, hl]
    by_cases e : q = dest
    · rw [if_pos e]
      constructor
      · intro hj
        cases hj
        exact ⟨by omega, hi.1, hi.2, by rw [if_pos rfl, e]⟩
      · rintro ⟨a, b, c, d⟩
        split at d
        · rename_i hj
          rw [show j = i by omega]
        · rename_i hne
          exact absurd (d.trans e) (ht hd j.toNat (by omega) hne)
    · rw [if_neg e]
      exact main q j e
  · rw [if_neg hd]
    refine ⟨k1, fun q j => ?_⟩
    rw [g1, hel, hl]
    by_cases e : q = dest
    · constructor
      · intro hj
        split at hj
        · cases hj
        · have := (h.iff q j).1 hj
          omega
      · rintro ⟨a, _⟩
        omega
    · exact main q j e
theorem press_act {s : Sto} {p : List (Int × Int)} {a : Deed} (hV : Valid s) (hP : PressOk s.items p) (h : actE s a = 0) : PressOk (actF s a).items (actP s p a) := by
  have hset : ∀ (i : Nat) (x : Itm), i < s.items.length → x.place = (el s.items i).place → PressOk (s.items.set i x) p := fun i x hi hx => press_same (by simp) (fun j _ => by rw [el_setI hi]; split <;> first | rfl | (rename_i e; rw [e]; exact hx)) hP
  have hno : a.kind ≠ 3 → actP s p a = p := fun hk => by unfold actP; rw [if_neg hk]
  rcases act_kind h with k | k | k | k | k | k | k
  · rw [actF_1 k, hno (by omega)]; exact press_add (by decide) hP
  · rw [actE_2 k] at h
    rw [actF_2 k, hno (by omega)]
    have hh : hereB s a.item := Classical.byContradiction fun hn => by rw [transE_no hn] at h; cases h
    have hb := hh.1
    exact press_add (l := s.items.set a.item.toNat (used1 (el s.items a.item.toNat) 1)) (by show (1 : Int) < 2; omega) (hset _ _ (by omega) rfl)
  · rw [actE_3 k] at h
    obtain ⟨hh, h1, h2⟩ := move_cases h
    have hb := hh.1
    have : actP s p a = moveP p (el s.items a.item.toNat) a.item a.dest := by unfold actP; rw [if_pos k]
    rw [actF_3 k, this]
    exact press_move hh.1 hP (hV.2.2.1 _ (by omega)) (fun hd => not_taken h2 hd)
  · rw [actE_4 k] at h
    rw [actF_4 k, hno (by omega)]
    have hh : hereB s a.item := Classical.byContradiction fun hn => by rw [printE_no hn] at h; cases h
    have hb := hh.1
    exact hset _ _ (by omega) rfl
  · rw [actF_5 k, hno (by omega)]; exact hP
  · rw [actF_6 k, hno (by omega)]; exact hP
  · rw [actE_7 k] at h
    rw [actF_7 k, hno (by omega)]
    have hh : hereB s a.item := Classical.byContradiction fun hn => by rw [destE_no hn] at h; cases h
    have hb := hh.1
    exact hset _ _ (by omega) rfl
end Go.Proofs.Ythpbjihnikapoaa
namespace Go.Proofs.Ythpbjihnikapoaa
open Go.RowKit
def sto0 (life : Int) : Sto := ⟨life, [], []⟩
def stoAt (life : Int) (bk : List Deed) : Nat → Sto
  | 0 => sto0 life
  | k + 1 => actF (stoAt life bk k) (el bk k)
def preAt (life : Int) (bk : List Deed) : Nat → List (Int × Int)
  | 0 => []
  | k + 1 => actP (stoAt life bk k) (preAt life bk k) (el bk k)
def errAt (life : Int) (bk : List Deed) (k : Nat) : Int := actE (stoAt life bk k) (el bk k)
theorem valid0 {life : Int} : Valid (sto0 life) ↔ 1 ≤ life ∧ life ≤ 1000 := by
  constructor
  · intro h
    have := h.1
    unfold Few at this
    exact this.1
  · intro h
    exact ⟨⟨h, by simp [sto0], by simp [sto0]⟩, fun i hi => by simp [sto0] at hi, fun i hi => by simp [sto0] at hi, fun i hi => by simp [sto0] at hi, fun i hi => by simp [sto0] at hi⟩
theorem press0 : PressOk [] [] := ⟨by simp [keysOk], fun p i => ⟨fun h => by simp [getE] at h, fun ⟨_, a, b, _⟩ => by simp at b; omega⟩⟩
theorem stoAt_ok {life : Int} {bk : List Deed} (h0 : Valid (sto0 life)) : ∀ {k : Nat}, (∀ j, j < k → errAt life bk j = 0) → Valid (stoAt life bk k) ∧ PressOk (stoAt life bk k).items (preAt life bk k)
  | 0, _ => ⟨h0, press0⟩
  | k + 1, h => by
    obtain ⟨h1, h2⟩ := stoAt_ok h0 (k := k) fun j hj => h j (by omega)
    exact ⟨valid_act h1 (h k (by omega)), press_act h1 h2 (h k (by omega))⟩
def firstBad (life : Int) (bk : List Deed) : Nat → Option Nat
  | 0 => none
  | k + 1 => match firstBad life bk k with
    | some j => some j
    | none => if errAt life bk k = 0 then none else some k
theorem firstBad_none {life : Int} {bk : List Deed} : ∀ {k : Nat}, (∀ j, j < k → errAt life bk j = 0) → firstBad life bk k = none
  | 0, _ => rfl
  | k + 1, h => by
    unfold firstBad
    rw [firstBad_none fun j hj => h j (by omega)]
    exact if_pos (h k (by omega))
theorem firstBad_at {life : Int} {bk : List Deed} {k : Nat} (h : ∀ j, j < k → errAt life bk j = 0) (he : errAt life bk k ≠ 0) : ∀ {n : Nat}, k < n → firstBad life bk n = some k
  | 0, hk => by omega
  | n + 1, hk => by
    unfold firstBad
    by_cases e : k = n
    · subst e
      rw [firstBad_none h]
      exact if_neg he
    · rw [firstBad_at h he (n := n) (by omega)]
/-- Where a book fails, and with what. -/
def playX (life : Int) (bk : List Deed) : Int × Int :=
  if 200 < bk.length then (0, 4) else if 1 ≤ life ∧ life ≤ 1000 then (match firstBad life bk bk.length with | some j => ((j : Int), errAt life bk j) | none => (0, 0)) else (0, 2)
def playF (life : Int) (bk : List Deed) : Sto := if (playX life bk).2 = 0 then stoAt life bk bk.length else noSto
theorem playX_many {life : Int} {bk : List Deed} (h : 200 < bk.length) : playX life bk = (0, 4) := by unfold playX; rw [if_pos h]
theorem playX_life {life : Int} {bk : List Deed} (h : ¬ 200 < bk.length) (hl : ¬ (1 ≤ life ∧ life ≤ 1000)) : playX life bk = (0, 2) := by unfold playX; rw [if_neg h, if_neg hl]
theorem playX_bad {life : Int} {bk : List Deed} {k : Nat} (h : ¬ 200 < bk.length) (hl : 1 ≤ life ∧ life ≤ 1000) (hJ : ∀ j, j < k → errAt life bk j = 0) (hk : k < bk.length) (he : errAt life bk k ≠ 0) : playX life bk = ((k : Int), errAt life bk k) := by
  unfold playX
  rw [if_neg h, if_pos hl, firstBad_at hJ he hk]
theorem playX_ok {life : Int} {bk : List Deed} (h : ¬ 200 < bk.length) (hl : 1 ≤ life ∧ life ≤ 1000) (hJ : ∀ j, j < bk.length → errAt life bk j = 0) : playX life bk = (0, 0) := by
  unfold playX
  rw [if_neg h, if_pos hl, firstBad_none hJ]
theorem playF_bad {life : Int} {bk : List Deed} (h : (playX life bk).2 ≠ 0) : playF life bk = noSto := by unfold playF; rw [if_neg h]
theorem playF_ok {life : Int} {bk : List Deed} (h : (playX life bk).2 = 0) : playF life bk = stoAt life bk bk.length := by unfold playF; rw [if_pos h]
def placeOf (s : Sto) (i : Int) : Int := if hereB s i then (el s.items i.toNat).place else -1
def outTo (life : Int) (bk : List Deed) (i : Int) (k : Nat) : List Int := (List.range k).map fun j => placeOf (stoAt life bk (j + 1)) i
theorem outTo_len {life : Int} {bk : List Deed} {i : Int} {k : Nat} : (outTo life bk i k).length = k := by simp [outTo]
theorem outTo_succ {life : Int} {bk : List Deed} {i : Int} {k : Nat} : outTo life bk i (k + 1) = outTo life bk i k ++ [placeOf (stoAt life bk (k + 1)) i] := by simp [outTo, List.range_succ]
def whereE (life : Int) (bk : List Deed) (i : Int) : Int := if (playX life bk).2 ≠ 0 then (playX life bk).2 else if 0 ≤ i ∧ i < ((stoAt life bk bk.length).items.length : Int) then 0 else 6
def whereF (life : Int) (bk : List Deed) (i : Int) : List Int := if whereE life bk i = 0 then outTo life bk i bk.length else []
end Go.Proofs.Ythpbjihnikapoaa
namespace Go.Proofs.Ythpbjihnikapoaa
open Go.RowKit
section
variable {a0 a1 a2 a3 : Blk} {F : Sto} {p : List (Int × Int)}
theorem joinWI0 : joinH [0, 1, 2, 3] [] [a0, a1, a2, a3] (WI F p) = [.arr 4 1 (fun _ => stoG 4 2 F), .dead, LB 2 Prt.enc F.prints, mapE vi p, LB 5 Itm.enc F.items] := by
  unfold WI
  rw [join4 (dc rfl), mapE_ren]
  rfl
theorem joinWP0 : joinH [0, 1, 2, 3] [] [a0, a1, a2, a3] (WP F p) = [.arr 4 1 (fun _ => stoG 1 4 F), LB 5 Itm.enc F.items, .dead, mapE vi p, LB 2 Prt.enc F.prints] := by
  unfold WP
  rw [join4 (dc rfl), mapE_ren]
  rfl
theorem joinST0 : joinH [0, 1, 2, 3] [] [a0, a1, a2, a3] (stoB 0 F p) = [.arr 4 1 (fun _ => stoV 0 F), LB 5 Itm.enc F.items, LB 2 Prt.enc F.prints, mapE vi p] := by
  rw [show stoB 0 F p = [.arr 4 1 (fun _ => stoV 0 F), LB 5 Itm.enc F.items, LB 2 Prt.enc F.prints, mapE vi p] from rfl, join4 (dc rfl), mapE_ren]
  rfl
theorem joinST4 : joinH [0, 1, 2, 3] [] [a0, a1, a2, a3] (stoB 0 F p) = [.arr 4 1 (fun _ => stoV 0 F), LB 5 Itm.enc F.items, LB 2 Prt.enc F.prints, mapE vi p] := by
  rw [show stoB 0 F p = [.arr 4 1 (fun _ => stoV 0 F), LB 5 Itm.enc F.items, LB 2 Prt.enc F.prints, mapE vi p] from rfl, join4 (dc rfl), mapE_ren]
  rfl
end
def PlayR (life : Int) (bk : List Deed) (v : V) (H : Heap) : Prop := (playX life bk = (0, 0) ∧ v = .tup [.ptr 4 0 0 0, vi 0, vi 0] ∧ H = stoB 0 (stoAt life bk bk.length) (preAt life bk bk.length)) ∨ ((playX life bk).2 ≠ 0 ∧ v = .tup [.s (.pointer none), vi (playX life bk).1, vi (playX life bk).2] ∧ H = [])
theorem cb1_p (s : Sto) (p : List (Int × Int)) : ACalls Try.prog 64 [.ptr 4 0 0 0] (stoB 0 s p) (fun v H => v = .tup [] ∧ H = stoB 0 s p) NoP := by
  refine acalls_of_aw Try.func64 rfl (Nat.le_of_ble_eq_true rfl) ?_
  exact aw_skip (bq0n ⟨rfl, rfl⟩)
set_option maxHeartbeats 8000000 in
theorem play1_p (life : Int) (bk : List Deed) (hu : ∀ j, j < bk.length → u8ok (el bk j).kind) : ACalls Try.prog 63 [vi life, encDeeds bk, .fn (.func 64) [] []] [] (PlayR life bk) NoP := by
  have hlen : bk.length ≤ maxLen ∨ ¬ bk.length ≤ maxLen := by omega
  refine acalls_of_aw Try.func63 rfl (Nat.le_of_ble_eq_true rfl) ?_; refine aw_post ?_
  (repeat' (first | (refine ar_isq ?_; first | refine zmv ?_ | refine zas ?_ | (refine is_load ?_; first | refine zlp ?_ | refine zlr ?_) | (refine is_binOp ?_; first | refine zlss ?_ | refine zgtr ?_ | refine zneq ?_ | refine zadd ?_) | (refine is_indexAddr ?_; first | refine zil ?_ | refine zis ?_ | refine zit ?_ | refine zia ?_ | refine zir ?_ | (refine zxl ?_; intro _ _ _) | (refine zxs ?_; intro _ _ _)) | (refine is_call ?_; first | refine zll ?_ | refine zls ?_ | refine zln ?_ | refine zle ?_) | refine zex ?_ | refine znt ?_ | (refine ar_buildT ?_ (by exact ty rfl) (by exact rfl) (by exact sizes rfl) (by exact rfl) (by exact rfl) (by exact build rfl) (by exact dc rfl); intro _ hds; (try dsimp only [List.toList_toArray, cells_s, cells_emp, cells_agg, cells_list, cells_sl, cells_ptr, cells_ref, cells_fn, cells_vi, cells_vb, cells_vnil, constV, List.map_cons, List.map_nil, List.take_succ_cons, List.take_zero, List.drop_succ_cons, List.drop_zero, List.cons_append, List.nil_append, List.append_nil, LV_cells] at hds); (try dsimp only [cells_s, cells_emp, cells_agg, cells_list, cells_sl, cells_ptr, cells_ref, cells_fn, cells_vi, cells_vb, cells_vnil, constV, List.map_cons, List.map_nil, List.take_succ_cons, List.take_zero, List.drop_succ_cons, List.drop_zero, List.cons_append, List.nil_append, List.append_nil, LV_cells] at hds); subst hds)) | ((refine ar_gcall0 fn57 rfl rfl [(sto0 life).enc] ⟨VSub.aggL ⟨.closed rfl, .nilList, .nilList, trivial⟩, trivial⟩ (valid_p (sto0 life)) (dc rfl) ?_ (fun _ _ h => h.elim); rintro _ _ (⟨hv, rfl, rfl⟩ | ⟨hv, rfl, rfl⟩) <;> (try rw [stoB_ren]))) | (refine zal ?_) | (refine zsvs ?_) | (refine zsva ?_) | (refine zses ?_) | (refine zsea ?_) | (refine ar_nil ?_) | (refine aw_seq ?_) | (refine aw_skip ?_) | (refine aw_block ?_) | (refine aw_exit ?_) | (refine aw_region ?_) | (refine zco ?_ ?_ <;> intro hg <;> first | exact absurd hg (by decide) | ((try replace hg := HG.out hg); (try dsimp only at hg); (try (have _h : True := hg; clear _h hg)); first | (exfalso; omega) | skip))))
  · refine aw_ret ?_; (repeat (first | refine ret_then ?_ | refine ret_block ?_))
    (refine subq_r [(6, .s (.pointer none)), (7, vi 0), (8, vi 4)] [] ?_ ?_; (focus ((refine sub_to [] [] rfl ?_ ?_ <;> (repeat' (first | exact trivial | refine ⟨⟨_, rfl, ?_⟩, ?_⟩ | refine ⟨bsub_snoc rfl rfl (fun _ => rfl) ?_, ?_⟩ | refine ⟨bsub_one rfl rfl ?_, ?_⟩ | refine ⟨bsub_all rfl rfl (fun _ _ => rfl) (fun _ => rfl), ?_⟩ | refine ⟨bsub_updL rfl rfl ?_ (fun _ _ _ => rfl) (fun _ => rfl), ?_⟩ | refine ⟨.inl ⟨_, _, rfl, rfl, ?_⟩, ?_⟩ | exact ⟨.inr ⟨rfl, rfl⟩, trivial⟩ | refine ⟨.inr ⟨rfl, rfl⟩, ?_⟩ | (intro _ _) | exact vz1 | exact vz2 | fail))); done)))
    exact bq3 rfl rfl rfl (.inr ⟨by rw [playX_many (by omega)]; decide, by rw [playX_many (by omega)], rfl⟩)
  rotate_left
  · refine aw_ret ?_; (repeat (first | refine ret_then ?_ | refine ret_block ?_))
    (refine subq_r [(6, .s (.pointer none)), (7, vi 0), (8, vi 2)] [] ?_ ?_; (focus ((refine sub_to [] [] rfl ?_ ?_ <;> (repeat' (first | exact trivial | refine ⟨⟨_, rfl, ?_⟩, ?_⟩ | refine ⟨bsub_snoc rfl rfl (fun _ => rfl) ?_, ?_⟩ | refine ⟨bsub_one rfl rfl ?_, ?_⟩ | refine ⟨bsub_all rfl rfl (fun _ _ => rfl) (fun _ => rfl), ?_⟩ | refine ⟨bsub_updL rfl rfl ?_ (fun _ _ _ => rfl) (fun _ => rfl), ?_⟩ | refine ⟨.inl ⟨_, _, rfl, rfl, ?_⟩, ?_⟩ | exact ⟨.inr ⟨rfl, rfl⟩, trivial⟩ | refine ⟨.inr ⟨rfl, rfl⟩, ?_⟩ | (intro _ _) | exact vz1 | exact vz2 | fail))); done)))
    exact bq3 rfl rfl rfl (.inr ⟨by rw [playX_life (by omega) (fun h => hv (valid0.2 h))]; decide, by rw [playX_life (by omega) (fun h => hv (valid0.2 h))], rfl⟩)
  have hlife := valid0.1 hv
  refine aw_for bk.length (fun k => ∀ j, j < k → errAt life bk j = 0) (fun k => [(2, .fn (.func 64) [] []), (9, .ptr 4 0 0 0), (25, encDeeds bk), (26, vi bk.length), (27, vi k)]) (fun k => [.arr 4 1 (fun _ => stoV 0 (stoAt life bk k)), LB 5 Itm.enc (stoAt life bk k).items, LB 2 Prt.enc (stoAt life bk k).prints, mapE vi (preAt life bk k)]) (fun j hj => by omega) ?_ ?_
  · (refine sub_to [some 0, some 1, some 2, some 3] [] rfl ?_ ?_ <;> (repeat' (first | exact trivial | refine ⟨⟨_, rfl, ?_⟩, ?_⟩ | refine ⟨bsub_snoc rfl rfl (fun _ => rfl) ?_, ?_⟩ | refine ⟨bsub_one rfl rfl ?_, ?_⟩ | refine ⟨bsub_all rfl rfl (fun _ _ => rfl) (fun _ => rfl), ?_⟩ | refine ⟨bsub_updL rfl rfl ?_ (fun _ _ _ => rfl) (fun _ => rfl), ?_⟩ | refine ⟨.inl ⟨_, _, rfl, rfl, ?_⟩, ?_⟩ | exact ⟨.inr ⟨rfl, rfl⟩, trivial⟩ | refine ⟨.inr ⟨rfl, rfl⟩, ?_⟩ | (intro _ _) | exact vz1 | (first | refine ⟨bsub_mapE rfl rfl (fun _ => rfl), ?_⟩ | exact VSub.aggL ⟨.closed rfl, .sl rfl, .sl rfl, .map rfl, trivial⟩) | exact vz2 | fail)))
  intro k hk hJ
  obtain ⟨hV, hP⟩ := stoAt_ok hv hJ
  by_cases hlt : k < bk.length
  · have hdo := do_p _ _ _ (hu k hlt) hV hP
    (repeat' (first | (refine ar_isq ?_; first | refine zmv ?_ | refine zas ?_ | (refine is_load ?_; first | refine zlp ?_ | refine zlr ?_) | (refine is_binOp ?_; first | refine zlss ?_ | refine zgtr ?_ | refine zneq ?_ | refine zadd ?_) | (refine is_indexAddr ?_; first | refine zil ?_ | refine zis ?_ | refine zit ?_ | refine zia ?_ | refine zir ?_ | (refine zxl ?_; intro _ _ _) | (refine zxs ?_; intro _ _ _)) | (refine is_call ?_; first | refine zll ?_ | refine zls ?_ | refine zln ?_ | refine zle ?_) | refine zex ?_ | refine znt ?_ | (refine ar_buildT ?_ (by exact ty rfl) (by exact rfl) (by exact sizes rfl) (by exact rfl) (by exact rfl) (by exact build rfl) (by exact dc rfl); intro _ hds; (try dsimp only [List.toList_toArray, cells_s, cells_emp, cells_agg, cells_list, cells_sl, cells_ptr, cells_ref, cells_fn, cells_vi, cells_vb, cells_vnil, constV, List.map_cons, List.map_nil, List.take_succ_cons, List.take_zero, List.drop_succ_cons, List.drop_zero, List.cons_append, List.nil_append, List.append_nil, LV_cells] at hds); (try dsimp only [cells_s, cells_emp, cells_agg, cells_list, cells_sl, cells_ptr, cells_ref, cells_fn, cells_vi, cells_vb, cells_vnil, constV, List.map_cons, List.map_nil, List.take_succ_cons, List.take_zero, List.drop_succ_cons, List.drop_zero, List.cons_append, List.nil_append, List.append_nil, LV_cells] at hds); subst hds)) | (((refine ar_sub_l (env' := [(2, .fn (.func 64) [] []), (9, .ptr 4 0 0 0), (25, encDeeds bk), (26, vi bk.length), (27, vi k), (11, vi k), (32, .ptr 4 0 0 0), (33, (el bk k).enc)]) (H' := [.arr 4 1 (fun _ => stoV 0 (stoAt life bk k)), LB 5 Itm.enc (stoAt life bk k).items, LB 2 Prt.enc (stoAt life bk k).prints, mapE vi (preAt life bk k)]) ?_ ?_; (focus ((refine sub_to [some 0, some 1, some 2, some 3] [] rfl ?_ ?_ <;> (repeat' (first | exact trivial | refine ⟨⟨_, rfl, ?_⟩, ?_⟩ | refine ⟨bsub_snoc rfl rfl (fun _ => rfl) ?_, ?_⟩ | refine ⟨bsub_one rfl rfl ?_, ?_⟩ | refine ⟨bsub_all rfl rfl (fun _ _ => rfl) (fun _ => rfl), ?_⟩ | refine ⟨bsub_updL rfl rfl ?_ (fun _ _ _ => rfl) (fun _ => rfl), ?_⟩ | refine ⟨.inl ⟨_, _, rfl, rfl, ?_⟩, ?_⟩ | exact ⟨.inr ⟨rfl, rfl⟩, trivial⟩ | refine ⟨.inr ⟨rfl, rfl⟩, ?_⟩ | (intro _ _) | exact vz1 | (first | refine ⟨bsub_mapE rfl rfl (fun _ => rfl), ?_⟩ | exact VSub.aggL ⟨.closed rfl, .sl rfl, .sl rfl, .map rfl, trivial⟩) | exact vz2 | fail))); done))); refine ar_gcall (H0 := stoB 0 (stoAt life bk k) (preAt life bk k)) [0, 1, 2, 3] [] (first := []) (cap := []) fn61 rfl rfl (xs := [.ptr 4 0 0 0, (el bk k).enc]) ⟨.ptr rfl, .closed rfl, trivial⟩ rfl (by decide) (fun _ h => by cases h) (hsub4 rfl rfl rfl rfl) stoB_live hdo (dc rfl) ?_ (fun _ _ h => h.elim); rintro _ _ (⟨he, rfl, rfl⟩ | ⟨he, rfl, rfl⟩) <;> try (rcases actH_cases (s := stoAt life bk k) (p := preAt life bk k) (a := el bk k) with hH | hH | hH <;> rw [hH] <;> first | rw [joinWI0] | rw [joinWP0] | rw [joinST0]))) | (((refine ar_sub_l (env' := [(2, .fn (.func 64) [] []), (9, .ptr 4 0 0 0), (25, encDeeds bk), (26, vi bk.length), (27, vi k), (39, .fn (.func 64) [] []), (40, .ptr 4 0 0 0)]) (H' := [.arr 4 1 (fun _ => stoV 0 (actF (stoAt life bk k) (el bk k))), LB 5 Itm.enc (actF (stoAt life bk k) (el bk k)).items, LB 2 Prt.enc (actF (stoAt life bk k) (el bk k)).prints, mapE vi (actP (stoAt life bk k) (preAt life bk k) (el bk k))]) ?_ ?_; (focus ((refine sub_to [some 0, some 4, some 2, some 3] [] rfl ?_ ?_ <;> (repeat' (first | exact trivial | refine ⟨⟨_, rfl, ?_⟩, ?_⟩ | refine ⟨bsub_snoc rfl rfl (fun _ => rfl) ?_, ?_⟩ | refine ⟨bsub_one rfl rfl ?_, ?_⟩ | refine ⟨bsub_all rfl rfl (fun _ _ => rfl) (fun _ => rfl), ?_⟩ | refine ⟨bsub_updL rfl rfl ?_ (fun _ _ _ => rfl) (fun _ => rfl), ?_⟩ | refine ⟨.inl ⟨_, _, rfl, rfl, ?_⟩, ?_⟩ | exact ⟨.inr ⟨rfl, rfl⟩, trivial⟩ | refine ⟨.inr ⟨rfl, rfl⟩, ?_⟩ | (intro _ _) | exact vz1 | (first | refine ⟨bsub_mapE rfl rfl (fun _ => rfl), ?_⟩ | exact VSub.aggL ⟨.closed rfl, .sl rfl, .sl rfl, .map rfl, trivial⟩) | exact vz2 | fail))); done))); refine ar_gcall (H0 := stoB 0 (actF (stoAt life bk k) (el bk k)) (actP (stoAt life bk k) (preAt life bk k) (el bk k))) [0, 1, 2, 3] [] (first := []) (cap := []) fn64 rfl rfl (xs := [.ptr 4 0 0 0]) ⟨.ptr rfl, trivial⟩ rfl (by decide) (fun _ h => by cases h) (hsub4 rfl rfl rfl rfl) stoB_live (cb1_p _ _) (dc rfl) ?_ (fun _ _ h => h.elim); rintro _ _ ⟨rfl, rfl⟩; rw [joinST4])) | (((refine ar_sub_l (env' := [(2, .fn (.func 64) [] []), (9, .ptr 4 0 0 0), (25, encDeeds bk), (26, vi bk.length), (27, vi k), (39, .fn (.func 64) [] []), (40, .ptr 4 0 0 0)]) (H' := [.arr 4 1 (fun _ => stoV 0 (actF (stoAt life bk k) (el bk k))), LB 5 Itm.enc (actF (stoAt life bk k) (el bk k)).items, LB 2 Prt.enc (actF (stoAt life bk k) (el bk k)).prints, mapE vi (actP (stoAt life bk k) (preAt life bk k) (el bk k))]) ?_ ?_; (focus ((refine sub_to [some 0, some 1, some 4, some 3] [] rfl ?_ ?_ <;> (repeat' (first | exact trivial | refine ⟨⟨_, rfl, ?_⟩, ?_⟩ | refine ⟨bsub_snoc rfl rfl (fun _ => rfl) ?_, ?_⟩ | refine ⟨bsub_one rfl rfl ?_, ?_⟩ | refine ⟨bsub_all rfl rfl (fun _ _ => rfl) (fun _ => rfl), ?_⟩ | refine ⟨bsub_updL rfl rfl ?_ (fun _ _ _ => rfl) (fun _ => rfl), ?_⟩ | refine ⟨.inl ⟨_, _, rfl, rfl, ?_⟩, ?_⟩ | exact ⟨.inr ⟨rfl, rfl⟩, trivial⟩ | refine ⟨.inr ⟨rfl, rfl⟩, ?_⟩ | (intro _ _) | exact vz1 | (first | refine ⟨bsub_mapE rfl rfl (fun _ => rfl), ?_⟩ | exact VSub.aggL ⟨.closed rfl, .sl rfl, .sl rfl, .map rfl, trivial⟩) | exact vz2 | fail))); done))); refine ar_gcall (H0 := stoB 0 (actF (stoAt life bk k) (el bk k)) (actP (stoAt life bk k) (preAt life bk k) (el bk k))) [0, 1, 2, 3] [] (first := []) (cap := []) fn64 rfl rfl (xs := [.ptr 4 0 0 0]) ⟨.ptr rfl, trivial⟩ rfl (by decide) (fun _ h => by cases h) (hsub4 rfl rfl rfl rfl) stoB_live (cb1_p _ _) (dc rfl) ?_ (fun _ _ h => h.elim); rintro _ _ ⟨rfl, rfl⟩; rw [joinST4])) | (((refine ar_sub_l (env' := [(2, .fn (.func 64) [] []), (9, .ptr 4 0 0 0), (25, encDeeds bk), (26, vi bk.length), (27, vi k), (39, .fn (.func 64) [] []), (40, .ptr 4 0 0 0)]) (H' := [.arr 4 1 (fun _ => stoV 0 (actF (stoAt life bk k) (el bk k))), LB 5 Itm.enc (actF (stoAt life bk k) (el bk k)).items, LB 2 Prt.enc (actF (stoAt life bk k) (el bk k)).prints, mapE vi (actP (stoAt life bk k) (preAt life bk k) (el bk k))]) ?_ ?_; (focus ((refine sub_to [some 0, some 1, some 2, some 3] [] rfl ?_ ?_ <;> (repeat' (first | exact trivial | refine ⟨⟨_, rfl, ?_⟩, ?_⟩ | refine ⟨bsub_snoc rfl rfl (fun _ => rfl) ?_, ?_⟩ | refine ⟨bsub_one rfl rfl ?_, ?_⟩ | refine ⟨bsub_all rfl rfl (fun _ _ => rfl) (fun _ => rfl), ?_⟩ | refine ⟨bsub_updL rfl rfl ?_ (fun _ _ _ => rfl) (fun _ => rfl), ?_⟩ | refine ⟨.inl ⟨_, _, rfl, rfl, ?_⟩, ?_⟩ | exact ⟨.inr ⟨rfl, rfl⟩, trivial⟩ | refine ⟨.inr ⟨rfl, rfl⟩, ?_⟩ | (intro _ _) | exact vz1 | (first | refine ⟨bsub_mapE rfl rfl (fun _ => rfl), ?_⟩ | exact VSub.aggL ⟨.closed rfl, .sl rfl, .sl rfl, .map rfl, trivial⟩) | exact vz2 | fail))); done))); refine ar_gcall (H0 := stoB 0 (actF (stoAt life bk k) (el bk k)) (actP (stoAt life bk k) (preAt life bk k) (el bk k))) [0, 1, 2, 3] [] (first := []) (cap := []) fn64 rfl rfl (xs := [.ptr 4 0 0 0]) ⟨.ptr rfl, trivial⟩ rfl (by decide) (fun _ h => by cases h) (hsub4 rfl rfl rfl rfl) stoB_live (cb1_p _ _) (dc rfl) ?_ (fun _ _ h => h.elim); rintro _ _ ⟨rfl, rfl⟩; rw [joinST4])) | (refine zal ?_) | (refine zsvs ?_) | (refine zsva ?_) | (refine zses ?_) | (refine zsea ?_) | (refine ar_nil ?_) | (refine aw_seq ?_) | (refine aw_skip ?_) | (refine aw_block ?_) | (refine aw_exit ?_) | (refine aw_region ?_) | (refine zco ?_ ?_ <;> intro hg <;> first | exact absurd hg (by decide) | ((try replace hg := HG.out hg); (try dsimp only at hg); (try (have _h : True := hg; clear _h hg)); first | (exfalso; omega) | skip))))
    all_goals first
      | ((first | refine loop_next (by omega) ?_ ?_ | refine (show _ ∧ _ ∧ SubOf _ _ _ _ _ _ from And.intro (by omega) (And.intro ?_ ?_))); (focus (((exact all_step hJ he)); done)); (focus ((refine sub_to [some 0, some 1, some 2, some 3] [] rfl ?_ ?_ <;> (repeat' (first | exact trivial | refine ⟨⟨_, rfl, ?_⟩, ?_⟩ | refine ⟨bsub_snoc rfl rfl (fun _ => rfl) ?_, ?_⟩ | refine ⟨bsub_one rfl rfl ?_, ?_⟩ | refine ⟨bsub_all rfl rfl (fun _ _ => rfl) (fun _ => rfl), ?_⟩ | refine ⟨bsub_updL rfl rfl ?_ (fun _ _ _ => rfl) (fun _ => rfl), ?_⟩ | refine ⟨.inl ⟨_, _, rfl, rfl, ?_⟩, ?_⟩ | exact ⟨.inr ⟨rfl, rfl⟩, trivial⟩ | refine ⟨.inr ⟨rfl, rfl⟩, ?_⟩ | (intro _ _) | exact vz1 | (first | refine ⟨bsub_mapE rfl rfl (fun _ => rfl), ?_⟩ | exact VSub.aggL ⟨.closed rfl, .sl rfl, .sl rfl, .map rfl, trivial⟩) | exact vz2 | fail))); done)))
      | (refine aw_ret ?_; (repeat (first | refine ret_then ?_ | refine ret_block ?_))
         (refine subq_r [(6, .s (.pointer none)), (7, vi k), (8, vi (actE (stoAt life bk k) (el bk k)))] [] ?_ ?_; (focus ((refine sub_to [] [] rfl ?_ ?_ <;> (repeat' (first | exact trivial | refine ⟨⟨_, rfl, ?_⟩, ?_⟩ | refine ⟨bsub_snoc rfl rfl (fun _ => rfl) ?_, ?_⟩ | refine ⟨bsub_one rfl rfl ?_, ?_⟩ | refine ⟨bsub_all rfl rfl (fun _ _ => rfl) (fun _ => rfl), ?_⟩ | refine ⟨bsub_updL rfl rfl ?_ (fun _ _ _ => rfl) (fun _ => rfl), ?_⟩ | refine ⟨.inl ⟨_, _, rfl, rfl, ?_⟩, ?_⟩ | exact ⟨.inr ⟨rfl, rfl⟩, trivial⟩ | refine ⟨.inr ⟨rfl, rfl⟩, ?_⟩ | (intro _ _) | exact vz1 | exact vz2 | fail))); done)))
         have hx := playX_bad (by omega) hlife hJ hlt he
         exact bq3 rfl rfl rfl (.inr ⟨by rw [hx]; exact he, by rw [hx]; rfl, rfl⟩))
      | trace_state
  · obtain rfl : k = bk.length := by omega
    (repeat' (first | (refine ar_isq ?_; first | refine zmv ?_ | refine zas ?_ | (refine is_load ?_; first | refine zlp ?_ | refine zlr ?_) | (refine is_binOp ?_; first | refine zlss ?_ | refine zgtr ?_ | refine zneq ?_ | refine zadd ?_) | (refine is_indexAddr ?_; first | refine zil ?_ | refine zis ?_ | refine zit ?_ | refine zia ?_ | refine zir ?_ | (refine zxl ?_; intro _ _ _) | (refine zxs ?_; intro _ _ _)) | (refine is_call ?_; first | refine zll ?_ | refine zls ?_ | refine zln ?_ | refine zle ?_) | refine zex ?_ | refine znt ?_ | (refine ar_buildT ?_ (by exact ty rfl) (by exact rfl) (by exact sizes rfl) (by exact rfl) (by exact rfl) (by exact build rfl) (by exact dc rfl); intro _ hds; (try dsimp only [List.toList_toArray, cells_s, cells_emp, cells_agg, cells_list, cells_sl, cells_ptr, cells_ref, cells_fn, cells_vi, cells_vb, cells_vnil, constV, List.map_cons, List.map_nil, List.take_succ_cons, List.take_zero, List.drop_succ_cons, List.drop_zero, List.cons_append, List.nil_append, List.append_nil, LV_cells] at hds); (try dsimp only [cells_s, cells_emp, cells_agg, cells_list, cells_sl, cells_ptr, cells_ref, cells_fn, cells_vi, cells_vb, cells_vnil, constV, List.map_cons, List.map_nil, List.take_succ_cons, List.take_zero, List.drop_succ_cons, List.drop_zero, List.cons_append, List.nil_append, List.append_nil, LV_cells] at hds); subst hds)) | (refine zal ?_) | (refine zsvs ?_) | (refine zsva ?_) | (refine zses ?_) | (refine zsea ?_) | (refine ar_nil ?_) | (refine aw_seq ?_) | (refine aw_skip ?_) | (refine aw_block ?_) | (refine aw_exit ?_) | (refine aw_region ?_) | (refine zco ?_ ?_ <;> intro hg <;> first | exact absurd hg (by decide) | ((try replace hg := HG.out hg); (try dsimp only at hg); (try (have _h : True := hg; clear _h hg)); first | (exfalso; omega) | skip))))
    have hx := playX_ok (by omega) hlife hJ
    refine aw_ret ?_; (repeat (first | refine ret_then ?_ | refine ret_block ?_))
    (refine subq_r [(6, .ptr 4 0 0 0), (7, vi 0), (8, vi 0)] [.arr 4 1 (fun _ => stoV 0 (stoAt life bk bk.length)), LB 5 Itm.enc (stoAt life bk bk.length).items, LB 2 Prt.enc (stoAt life bk bk.length).prints, mapE vi (preAt life bk bk.length)] ?_ ?_; (focus ((refine sub_to [some 0, some 1, some 2, some 3] [] rfl ?_ ?_ <;> (repeat' (first | exact trivial | refine ⟨⟨_, rfl, ?_⟩, ?_⟩ | refine ⟨bsub_snoc rfl rfl (fun _ => rfl) ?_, ?_⟩ | refine ⟨bsub_one rfl rfl ?_, ?_⟩ | refine ⟨bsub_all rfl rfl (fun _ _ => rfl) (fun _ => rfl), ?_⟩ | refine ⟨bsub_updL rfl rfl ?_ (fun _ _ _ => rfl) (fun _ => rfl), ?_⟩ | refine ⟨.inl ⟨_, _, rfl, rfl, ?_⟩, ?_⟩ | exact ⟨.inr ⟨rfl, rfl⟩, trivial⟩ | refine ⟨.inr ⟨rfl, rfl⟩, ?_⟩ | (intro _ _) | exact vz1 | (first | refine ⟨bsub_mapE rfl rfl (fun _ => rfl), ?_⟩ | exact VSub.aggL ⟨.closed rfl, .sl rfl, .sl rfl, .map rfl, trivial⟩) | exact vz2 | fail))); done)))
    exact bq3 rfl rfl rfl (.inl ⟨hx, rfl, rfl⟩)
end Go.Proofs.Ythpbjihnikapoaa
namespace Go.Proofs.Ythpbjihnikapoaa
open Go.RowKit
section
variable {a0 a1 a2 a3 a4 a5 a6 : Blk} {F : Sto} {p : List (Int × Int)}
theorem joinWI2 : joinH [2, 3, 4, 5] [] [a0, a1, a2, a3, a4, a5, a6] (WI F p) = [a0, a1, .arr 4 1 (fun _ => .agg [vi F.life, .sl 5 7 0 F.items.length, .sl 2 4 0 F.prints.length, .map 5]), .dead, LB 2 Prt.enc F.prints, mapE vi p, a6, LB 5 Itm.enc F.items] :=
  (show _ = [a0, a1, .arr 4 1 (fun _ => .agg [vi F.life, .sl 5 7 0 F.items.length, .sl 2 4 0 F.prints.length, .map 5]), .dead, LB 2 Prt.enc F.prints, (mapE vi p).ren (rn [2, 3, 4, 5] 7), a6, LB 5 Itm.enc F.items] from rfl).trans (by rw [mapE_ren])
theorem joinWP2 : joinH [2, 3, 4, 5] [] [a0, a1, a2, a3, a4, a5, a6] (WP F p) = [a0, a1, .arr 4 1 (fun _ => .agg [vi F.life, .sl 5 3 0 F.items.length, .sl 2 7 0 F.prints.length, .map 5]), LB 5 Itm.enc F.items, .dead, mapE vi p, a6, LB 2 Prt.enc F.prints] :=
  (show _ = [a0, a1, .arr 4 1 (fun _ => .agg [vi F.life, .sl 5 3 0 F.items.length, .sl 2 7 0 F.prints.length, .map 5]), LB 5 Itm.enc F.items, .dead, (mapE vi p).ren (rn [2, 3, 4, 5] 7), a6, LB 2 Prt.enc F.prints] from rfl).trans (by rw [mapE_ren])
theorem joinST2 : joinH [2, 3, 4, 5] [] [a0, a1, a2, a3, a4, a5, a6] (stoB 0 F p) = [a0, a1, .arr 4 1 (fun _ => stoV 2 F), LB 5 Itm.enc F.items, LB 2 Prt.enc F.prints, mapE vi p, a6] :=
  (show _ = [a0, a1, .arr 4 1 (fun _ => stoV 2 F), LB 5 Itm.enc F.items, LB 2 Prt.enc F.prints, (mapE vi p).ren (rn [2, 3, 4, 5] 7), a6] from rfl).trans (by rw [mapE_ren])
end
/-- The blocks of Where's play: the item, the places, the store at work, the places' row. -/
def whB (i : Int) (s : Sto) (p : List (Int × Int)) (out : List Int) : Heap := [.arr 1 1 (fun _ => vi i), .arr 1 1 (fun _ => .sl 1 6 0 out.length), .arr 4 1 (fun _ => stoV 2 s), LB 5 Itm.enc s.items, LB 2 Prt.enc s.prints, mapE vi p, LB 1 vi out]
def wh7 (i : Int) (s : Sto) (p : List (Int × Int)) (out : List Int) : Heap := [.arr 1 1 (fun _ => vi i), .arr 1 1 (fun _ => .sl 1 7 0 out.length), .arr 4 1 (fun _ => stoV 2 s), LB 5 Itm.enc s.items, LB 2 Prt.enc s.prints, mapE vi p, .dead, LB 1 vi out]
set_option maxHeartbeats 1000000 in
theorem cb2_p (i : Int) (s : Sto) (p : List (Int × Int)) (out : List Int) (_hn : s.items.length ≤ 30) (ho : out.length ≤ 1000) : ACalls Try.prog 66 [.ptr 4 2 0 0, .ptr 1 0 0 0, .ptr 1 1 0 0] (whB i s p out) (fun v H => v = .tup [] ∧ H = wh7 i s p (out ++ [placeOf s i])) NoP := by
  have hlen : s.items.length ≤ maxLen ∨ ¬ s.items.length ≤ maxLen := by omega
  unfold whB
  refine acalls_of_aw Try.func66 rfl (Nat.le_of_ble_eq_true rfl) ?_; refine aw_post ?_
  (repeat' (first | (refine ar_isq ?_; first | refine zmv ?_ | refine zas ?_ | (refine is_load ?_; first | refine zlp ?_ | refine zlr ?_) | (refine is_binOp ?_; first | refine zlss ?_ | refine zgeq ?_) | (refine is_fieldAddr ?_; first | refine zfp ?_ | refine zfr ?_) | (refine is_indexAddr ?_; first | refine zil ?_ | refine zis ?_ | refine zit ?_ | refine zia ?_ | refine zir ?_ | refine zil (j := i.toNat) ?_ | refine zis (j := i.toNat) ?_ | refine zit (j := i.toNat) ?_ | (refine zxl ?_; intro _ _ _) | (refine zxs ?_; intro _ _ _)) | (refine is_call ?_; first | refine zll ?_ | refine zls ?_ | refine zln ?_ | refine zle ?_) | (refine is_pick ?_; first | refine zpt ?_ | refine zpf ?_) | refine znt ?_ | refine zncp ?_ | refine zncr ?_) | (refine zb1 ?_) | (refine zb0 ?_) | (refine zapoo ?_) | (refine zapol ?_) | (refine zapno ?_) | (refine zapnl ?_) | (refine zapeo ?_) | (refine zapel ?_) | (refine zsvs ?_) | (refine zsva ?_) | (refine zses ?_) | (refine zsea ?_) | (refine zg ?_ ?_ <;> intro hg <;> first | exact absurd hg (by decide) | ((try replace hg := HG.out hg); (try dsimp only at hg); (try (have _h : True := hg; clear _h hg)); first | (exfalso; omega) | skip)) | (refine zgu ?_) | (refine ar_nil ?_) | (refine aw_seq ?_) | (refine aw_skip ?_) | (refine aw_block ?_) | (refine aw_exit ?_) | (refine aw_region ?_) | (refine aw_drawn (id := 1) [(0, 0), (1, 0), (2, 0), (3, 0), (4, 0), (5, 0), (6, 0), (7, 0), (8, 0), (9, 0), (10, 0), (11, 0), (12, 0), (13, 0), (14, 0), (15, 0), (16, 0), (17, 0), (18, 0), (19, 0), (20, 0), (21, 0), (22, 0), (23, 0)] mixed (by kernel_rfl) ?_) | (refine aw_drawn (id := 2) [(0, 0), (1, 0), (2, 0), (3, 0), (4, 0), (5, 0), (6, 0), (7, 0), (8, 0), (9, 0)] mixed (by kernel_rfl) ?_) | (refine zco ?_ ?_ <;> intro hg <;> first | exact absurd hg (by decide) | ((try replace hg := HG.out hg); (try dsimp only at hg); (try (have _h : True := hg; clear _h hg)); first | (exfalso; omega) | skip))))
  all_goals first
    | (have hp : placeOf s i = (el s.items i.toNat).place := if_pos (show hereB s i from ⟨⟨by omega, by omega⟩, by assumption⟩)
       rw [hp]
       (refine subq_n [] [.arr 1 1 (fun _ => vi i), .arr 1 1 (fun _ => .sl 1 7 0 (out ++ [(el s.items i.toNat).place]).length), .arr 4 1 (fun _ => stoV 2 s), LB 5 Itm.enc s.items, LB 2 Prt.enc s.prints, mapE vi p, .dead, LB 1 vi (out ++ [(el s.items i.toNat).place])] ?_ ?_; (focus ((refine sub_to [some 0, some 1, some 2, some 3, some 4, some 5, some 6, some 8] [] rfl ?_ ?_ <;> (repeat' (first | exact trivial | refine ⟨⟨_, rfl, ?_⟩, ?_⟩ | refine ⟨bsub_snoc rfl rfl (fun _ => rfl) ?_, ?_⟩ | refine ⟨bsub_one rfl rfl ?_, ?_⟩ | refine ⟨bsub_all rfl rfl (fun _ _ => rfl) (fun _ => rfl), ?_⟩ | refine ⟨bsub_updL rfl rfl ?_ (fun _ _ _ => rfl) (fun _ => rfl), ?_⟩ | refine ⟨.inl ⟨_, _, rfl, rfl, ?_⟩, ?_⟩ | exact ⟨.inr ⟨rfl, rfl⟩, trivial⟩ | refine ⟨.inr ⟨rfl, rfl⟩, ?_⟩ | (intro _ _) | exact vz1 | (first | refine ⟨trivial, ?_⟩ | refine ⟨bsub_mapE rfl rfl (fun _ => rfl), ?_⟩ | refine ⟨bsub_app1 rfl rfl (by exact rfl) (by exact fun _ _ => rfl) (fun _ => rfl) (by exact rfl), ?_⟩ | exact VSub.aggL ⟨.closed rfl, .sl rfl, .sl rfl, .map rfl, trivial⟩ | exact slEq rfl (by simp)) | exact vz2 | fail))); done)))
       exact bq0n ⟨rfl, rfl⟩)
    | (have hp : placeOf s i = -1 := if_neg (fun h => by have h1 := h.1.1; have h2 := h.1.2; have h3 := h.2; first | omega | exact absurd (h3.symm.trans (show (el s.items i.toNat).gone = true by assumption)) (by decide))
       rw [hp]
       (refine subq_n [] [.arr 1 1 (fun _ => vi i), .arr 1 1 (fun _ => .sl 1 7 0 (out ++ [-1]).length), .arr 4 1 (fun _ => stoV 2 s), LB 5 Itm.enc s.items, LB 2 Prt.enc s.prints, mapE vi p, .dead, LB 1 vi (out ++ [-1])] ?_ ?_; (focus ((refine sub_to [some 0, some 1, some 2, some 3, some 4, some 5, some 6, some 8] [] rfl ?_ ?_ <;> (repeat' (first | exact trivial | refine ⟨⟨_, rfl, ?_⟩, ?_⟩ | refine ⟨bsub_snoc rfl rfl (fun _ => rfl) ?_, ?_⟩ | refine ⟨bsub_one rfl rfl ?_, ?_⟩ | refine ⟨bsub_all rfl rfl (fun _ _ => rfl) (fun _ => rfl), ?_⟩ | refine ⟨bsub_updL rfl rfl ?_ (fun _ _ _ => rfl) (fun _ => rfl), ?_⟩ | refine ⟨.inl ⟨_, _, rfl, rfl, ?_⟩, ?_⟩ | exact ⟨.inr ⟨rfl, rfl⟩, trivial⟩ | refine ⟨.inr ⟨rfl, rfl⟩, ?_⟩ | (intro _ _) | exact vz1 | (first | refine ⟨trivial, ?_⟩ | refine ⟨bsub_mapE rfl rfl (fun _ => rfl), ?_⟩ | refine ⟨bsub_app1 rfl rfl (by exact rfl) (by exact fun _ _ => rfl) (fun _ => rfl) (by exact rfl), ?_⟩ | exact VSub.aggL ⟨.closed rfl, .sl rfl, .sl rfl, .map rfl, trivial⟩ | exact slEq rfl (by simp)) | exact vz2 | fail))); done)))
       exact bq0n ⟨rfl, rfl⟩)
    | trace_state
section
variable {a0 a1 a2 a3 a4 a5 a6 : Blk} {i : Int} {F : Sto} {p : List (Int × Int)} {out : List Int}
theorem joinWh : joinH [0, 1, 2, 3, 4, 5, 6] [] [a0, a1, a2, a3, a4, a5, a6] (wh7 i F p out) = wh7 i F p out :=
  (show _ = [.arr 1 1 (fun _ => vi i), .arr 1 1 (fun _ => .sl 1 7 0 out.length), .arr 4 1 (fun _ => stoV 2 F), LB 5 Itm.enc F.items, LB 2 Prt.enc F.prints, (mapE vi p).ren (rn [0, 1, 2, 3, 4, 5, 6] 7), .dead, LB 1 vi out] from rfl).trans (by rw [mapE_ren]; rfl)
theorem whB_live : ∀ b ∈ whB i F p out, b ≠ .dead := by simp [whB, LB, mapE]
end
theorem act_few {s : Sto} {a : Deed} (he : actE s a = 0) (hV : Valid s) : (actF s a).items.length ≤ 30 := (valid_act hV he).1.2.1
def PlayW (life : Int) (bk : List Deed) (i : Int) (v : V) (H : Heap) : Prop := (playX life bk = (0, 0) ∧ v = .tup [.ptr 4 2 0 0, vi 0, vi 0] ∧ H = whB i (stoAt life bk bk.length) (preAt life bk bk.length) (outTo life bk i bk.length)) ∨ ((playX life bk).2 ≠ 0 ∧ v = .tup [.s (.pointer none), vi (playX life bk).1, vi (playX life bk).2] ∧ H = [.dead, .dead])
set_option maxHeartbeats 2000000 in
theorem play2_p (life : Int) (bk : List Deed) (i : Int) (hu : ∀ j, j < bk.length → u8ok (el bk j).kind) : ACalls Try.prog 63 [vi life, encDeeds bk, .fn (.func 66) [] [.ptr 1 0 0 0, .ptr 1 1 0 0]] [.arr 1 1 (fun _ => vi i), .arr 1 1 (fun _ => vnil)] (PlayW life bk i) NoP := by
  have hlen : bk.length ≤ maxLen ∨ ¬ bk.length ≤ maxLen := by omega
  refine acalls_of_aw Try.func63 rfl (Nat.le_of_ble_eq_true rfl) ?_; refine aw_post ?_
  (repeat' (first | (refine ar_isq ?_; first | refine zmv ?_ | refine zas ?_ | (refine is_load ?_; first | refine zlp ?_ | refine zlr ?_) | (refine is_binOp ?_; first | refine zlss ?_ | refine zgtr ?_ | refine zneq ?_ | refine zadd ?_) | (refine is_indexAddr ?_; first | refine zil ?_ | refine zis ?_ | refine zit ?_ | refine zia ?_ | refine zir ?_ | (refine zxl ?_; intro _ _ _) | (refine zxs ?_; intro _ _ _)) | (refine is_call ?_; first | refine zll ?_ | refine zls ?_ | refine zln ?_ | refine zle ?_) | refine zex ?_ | refine znt ?_ | (refine ar_buildT ?_ (by exact ty rfl) (by exact rfl) (by exact sizes rfl) (by exact rfl) (by exact rfl) (by exact build rfl) (by exact dc rfl); intro _ hds; (try dsimp only [List.toList_toArray, cells_s, cells_emp, cells_agg, cells_list, cells_sl, cells_ptr, cells_ref, cells_fn, cells_vi, cells_vb, cells_vnil, constV, List.map_cons, List.map_nil, List.take_succ_cons, List.take_zero, List.drop_succ_cons, List.drop_zero, List.cons_append, List.nil_append, List.append_nil, LV_cells] at hds); (try dsimp only [cells_s, cells_emp, cells_agg, cells_list, cells_sl, cells_ptr, cells_ref, cells_fn, cells_vi, cells_vb, cells_vnil, constV, List.map_cons, List.map_nil, List.take_succ_cons, List.take_zero, List.drop_succ_cons, List.drop_zero, List.cons_append, List.nil_append, List.append_nil, LV_cells] at hds); subst hds)) | ((refine ar_gcall0 fn57 rfl rfl [(sto0 life).enc] ⟨VSub.aggL ⟨.closed rfl, .nilList, .nilList, trivial⟩, trivial⟩ (valid_p (sto0 life)) (dc rfl) ?_ (fun _ _ h => h.elim); rintro _ _ (⟨hv, rfl, rfl⟩ | ⟨hv, rfl, rfl⟩) <;> (try rw [stoB_ren]))) | (refine zal ?_) | (refine zsvs ?_) | (refine zsva ?_) | (refine zses ?_) | (refine zsea ?_) | (refine ar_nil ?_) | (refine aw_seq ?_) | (refine aw_skip ?_) | (refine aw_block ?_) | (refine aw_exit ?_) | (refine aw_region ?_) | (refine zco ?_ ?_ <;> intro hg <;> first | exact absurd hg (by decide) | ((try replace hg := HG.out hg); (try dsimp only at hg); (try (have _h : True := hg; clear _h hg)); first | (exfalso; omega) | skip))))
  · refine aw_ret ?_; (repeat (first | refine ret_then ?_ | refine ret_block ?_))
    (refine subq_r [(6, .s (.pointer none)), (7, vi 0), (8, vi 4)] [.dead, .dead] ?_ ?_; (focus ((refine sub_to [some 0, some 1] [] rfl ?_ ?_ <;> (repeat' (first | exact trivial | refine ⟨⟨_, rfl, ?_⟩, ?_⟩ | refine ⟨bsub_snoc rfl rfl (fun _ => rfl) ?_, ?_⟩ | refine ⟨bsub_one rfl rfl ?_, ?_⟩ | refine ⟨bsub_all rfl rfl (fun _ _ => rfl) (fun _ => rfl), ?_⟩ | refine ⟨bsub_updL rfl rfl ?_ (fun _ _ _ => rfl) (fun _ => rfl), ?_⟩ | refine ⟨.inl ⟨_, _, rfl, rfl, ?_⟩, ?_⟩ | exact ⟨.inr ⟨rfl, rfl⟩, trivial⟩ | refine ⟨.inr ⟨rfl, rfl⟩, ?_⟩ | (intro _ _) | exact vz1 | (refine ⟨trivial, ?_⟩) | exact vz2 | fail))); done)))
    exact bq3 rfl rfl rfl (.inr ⟨by rw [playX_many (by omega)]; decide, by rw [playX_many (by omega)], rfl⟩)
  rotate_left
  · refine aw_ret ?_; (repeat (first | refine ret_then ?_ | refine ret_block ?_))
    (refine subq_r [(6, .s (.pointer none)), (7, vi 0), (8, vi 2)] [.dead, .dead] ?_ ?_; (focus ((refine sub_to [some 0, some 1] [] rfl ?_ ?_ <;> (repeat' (first | exact trivial | refine ⟨⟨_, rfl, ?_⟩, ?_⟩ | refine ⟨bsub_snoc rfl rfl (fun _ => rfl) ?_, ?_⟩ | refine ⟨bsub_one rfl rfl ?_, ?_⟩ | refine ⟨bsub_all rfl rfl (fun _ _ => rfl) (fun _ => rfl), ?_⟩ | refine ⟨bsub_updL rfl rfl ?_ (fun _ _ _ => rfl) (fun _ => rfl), ?_⟩ | refine ⟨.inl ⟨_, _, rfl, rfl, ?_⟩, ?_⟩ | exact ⟨.inr ⟨rfl, rfl⟩, trivial⟩ | refine ⟨.inr ⟨rfl, rfl⟩, ?_⟩ | (intro _ _) | exact vz1 | (refine ⟨trivial, ?_⟩) | exact vz2 | fail))); done)))
    exact bq3 rfl rfl rfl (.inr ⟨by rw [playX_life (by omega) (fun h => hv (valid0.2 h))]; decide, by rw [playX_life (by omega) (fun h => hv (valid0.2 h))], rfl⟩)
  have hlife := valid0.1 hv
  refine aw_for bk.length (fun k => ∀ j, j < k → errAt life bk j = 0) (fun k => [(2, .fn (.func 66) [] [.ptr 1 0 0 0, .ptr 1 1 0 0]), (9, .ptr 4 2 0 0), (25, encDeeds bk), (26, vi bk.length), (27, vi k)]) (fun k => [.arr 1 1 (fun _ => vi i), .arr 1 1 (fun _ => .sl 1 6 0 k), .arr 4 1 (fun _ => stoV 2 (stoAt life bk k)), LB 5 Itm.enc (stoAt life bk k).items, LB 2 Prt.enc (stoAt life bk k).prints, mapE vi (preAt life bk k), LB 1 vi (outTo life bk i k)]) (fun j hj => by omega) ?_ ?_
  · (refine sub_to [some 0, some 1, some 2, some 3, some 4, some 5, none] [] rfl ?_ ?_ <;> (repeat' (first | exact trivial | refine ⟨⟨_, rfl, ?_⟩, ?_⟩ | refine ⟨bsub_snoc rfl rfl (fun _ => rfl) ?_, ?_⟩ | refine ⟨bsub_one rfl rfl ?_, ?_⟩ | refine ⟨bsub_all rfl rfl (fun _ _ => rfl) (fun _ => rfl), ?_⟩ | refine ⟨bsub_updL rfl rfl ?_ (fun _ _ _ => rfl) (fun _ => rfl), ?_⟩ | refine ⟨.inl ⟨_, _, rfl, rfl, ?_⟩, ?_⟩ | exact ⟨.inr ⟨rfl, rfl⟩, trivial⟩ | refine ⟨.inr ⟨rfl, rfl⟩, ?_⟩ | (intro _ _) | exact vz1 | (first | refine ⟨trivial, ?_⟩ | refine ⟨bsub_mapE rfl rfl (fun _ => rfl), ?_⟩ | exact VSub.aggL ⟨.closed rfl, .sl rfl, .sl rfl, .map rfl, trivial⟩ | exact .fn rfl (fun _ _ _ h => by cases h) rfl (fun j v x h h2 => match j, h, h2 with | 0, h, h2 => by cases h; cases h2; exact .ptr rfl | 1, h, h2 => by cases h; cases h2; exact .ptr rfl | j + 2, h, _ => by cases h) | exact .nil rfl) | exact vz2 | fail)))
  intro k hk hJ
  obtain ⟨hV, hP⟩ := stoAt_ok hv hJ
  by_cases hlt : k < bk.length
  · have hdo := do_p _ _ _ (hu k hlt) hV hP
    have hout : outTo life bk i k ++ [placeOf (actF (stoAt life bk k) (el bk k)) i] = outTo life bk i (k + 1) := outTo_succ.symm
    (repeat' (first | (refine ar_isq ?_; first | refine zmv ?_ | refine zas ?_ | (refine is_load ?_; first | refine zlp ?_ | refine zlr ?_) | (refine is_binOp ?_; first | refine zlss ?_ | refine zgtr ?_ | refine zneq ?_ | refine zadd ?_) | (refine is_indexAddr ?_; first | refine zil ?_ | refine zis ?_ | refine zit ?_ | refine zia ?_ | refine zir ?_ | (refine zxl ?_; intro _ _ _) | (refine zxs ?_; intro _ _ _)) | (refine is_call ?_; first | refine zll ?_ | refine zls ?_ | refine zln ?_ | refine zle ?_) | refine zex ?_ | refine znt ?_ | (refine ar_buildT ?_ (by exact ty rfl) (by exact rfl) (by exact sizes rfl) (by exact rfl) (by exact rfl) (by exact build rfl) (by exact dc rfl); intro _ hds; (try dsimp only [List.toList_toArray, cells_s, cells_emp, cells_agg, cells_list, cells_sl, cells_ptr, cells_ref, cells_fn, cells_vi, cells_vb, cells_vnil, constV, List.map_cons, List.map_nil, List.take_succ_cons, List.take_zero, List.drop_succ_cons, List.drop_zero, List.cons_append, List.nil_append, List.append_nil, LV_cells] at hds); (try dsimp only [cells_s, cells_emp, cells_agg, cells_list, cells_sl, cells_ptr, cells_ref, cells_fn, cells_vi, cells_vb, cells_vnil, constV, List.map_cons, List.map_nil, List.take_succ_cons, List.take_zero, List.drop_succ_cons, List.drop_zero, List.cons_append, List.nil_append, List.append_nil, LV_cells] at hds); subst hds)) | (((refine ar_sub_l (env' := [(2, .fn (.func 66) [] [.ptr 1 0 0 0, .ptr 1 1 0 0]), (9, .ptr 4 2 0 0), (25, encDeeds bk), (26, vi bk.length), (27, vi k), (11, vi k), (32, .ptr 4 2 0 0), (33, (el bk k).enc)]) (H' := [.arr 1 1 (fun _ => vi i), .arr 1 1 (fun _ => .sl 1 6 0 k), .arr 4 1 (fun _ => stoV 2 (stoAt life bk k)), LB 5 Itm.enc (stoAt life bk k).items, LB 2 Prt.enc (stoAt life bk k).prints, mapE vi (preAt life bk k), LB 1 vi (outTo life bk i k)]) ?_ ?_; (focus ((refine sub_to [some 0, some 1, some 2, some 3, some 4, some 5, some 6] [] rfl ?_ ?_ <;> (repeat' (first | exact trivial | refine ⟨⟨_, rfl, ?_⟩, ?_⟩ | refine ⟨bsub_snoc rfl rfl (fun _ => rfl) ?_, ?_⟩ | refine ⟨bsub_one rfl rfl ?_, ?_⟩ | refine ⟨bsub_all rfl rfl (fun _ _ => rfl) (fun _ => rfl), ?_⟩ | refine ⟨bsub_updL rfl rfl ?_ (fun _ _ _ => rfl) (fun _ => rfl), ?_⟩ | refine ⟨.inl ⟨_, _, rfl, rfl, ?_⟩, ?_⟩ | exact ⟨.inr ⟨rfl, rfl⟩, trivial⟩ | refine ⟨.inr ⟨rfl, rfl⟩, ?_⟩ | (intro _ _) | exact vz1 | (first | refine ⟨trivial, ?_⟩ | refine ⟨bsub_mapE rfl rfl (fun _ => rfl), ?_⟩ | exact VSub.aggL ⟨.closed rfl, .sl rfl, .sl rfl, .map rfl, trivial⟩ | exact .fn rfl (fun _ _ _ h => by cases h) rfl (fun j v x h h2 => match j, h, h2 with | 0, h, h2 => by cases h; cases h2; exact .ptr rfl | 1, h, h2 => by cases h; cases h2; exact .ptr rfl | j + 2, h, _ => by cases h)) | exact vz2 | fail))); done))); refine ar_gcall (H0 := stoB 0 (stoAt life bk k) (preAt life bk k)) [2, 3, 4, 5] [] (first := []) (cap := []) fn61 rfl rfl (xs := [.ptr 4 0 0 0, (el bk k).enc]) ⟨.ptr rfl, .closed rfl, trivial⟩ rfl (by decide) (fun _ h => by cases h) ⟨.inl ⟨2, _, rfl, rfl, fun _ _ => VSub.aggL ⟨.closed rfl, .sl rfl, .sl rfl, .map rfl, trivial⟩⟩, .inl ⟨3, _, rfl, rfl, fun _ _ => .closed rfl⟩, .inl ⟨4, _, rfl, rfl, fun _ _ => .closed rfl⟩, bsub_mapE rfl rfl (fun _ => rfl), trivial⟩ stoB_live hdo (dc rfl) ?_ (fun _ _ h => h.elim); rintro _ _ (⟨he, rfl, rfl⟩ | ⟨he, rfl, rfl⟩) <;> try (rcases actH_cases (s := stoAt life bk k) (p := preAt life bk k) (a := el bk k) with hH | hH | hH <;> rw [hH] <;> first | rw [joinWI2] | rw [joinWP2] | rw [joinST2]))) | (((refine ar_sub_l (env' := [(2, .fn (.func 66) [] [.ptr 1 0 0 0, .ptr 1 1 0 0]), (9, .ptr 4 2 0 0), (25, encDeeds bk), (26, vi bk.length), (27, vi k), (39, .fn (.func 66) [] [.ptr 1 0 0 0, .ptr 1 1 0 0]), (40, .ptr 4 2 0 0)]) (H' := [.arr 1 1 (fun _ => vi i), .arr 1 1 (fun _ => .sl 1 6 0 k), .arr 4 1 (fun _ => stoV 2 (actF (stoAt life bk k) (el bk k))), LB 5 Itm.enc (actF (stoAt life bk k) (el bk k)).items, LB 2 Prt.enc (actF (stoAt life bk k) (el bk k)).prints, mapE vi (actP (stoAt life bk k) (preAt life bk k) (el bk k)), LB 1 vi (outTo life bk i k)]) ?_ ?_; (focus ((refine sub_to [some 0, some 1, some 2, some 7, some 4, some 5, some 6] [] rfl ?_ ?_ <;> (repeat' (first | exact trivial | refine ⟨⟨_, rfl, ?_⟩, ?_⟩ | refine ⟨bsub_snoc rfl rfl (fun _ => rfl) ?_, ?_⟩ | refine ⟨bsub_one rfl rfl ?_, ?_⟩ | refine ⟨bsub_all rfl rfl (fun _ _ => rfl) (fun _ => rfl), ?_⟩ | refine ⟨bsub_updL rfl rfl ?_ (fun _ _ _ => rfl) (fun _ => rfl), ?_⟩ | refine ⟨.inl ⟨_, _, rfl, rfl, ?_⟩, ?_⟩ | exact ⟨.inr ⟨rfl, rfl⟩, trivial⟩ | refine ⟨.inr ⟨rfl, rfl⟩, ?_⟩ | (intro _ _) | exact vz1 | (first | refine ⟨trivial, ?_⟩ | refine ⟨bsub_mapE rfl rfl (fun _ => rfl), ?_⟩ | exact VSub.aggL ⟨.closed rfl, .sl rfl, .sl rfl, .map rfl, trivial⟩ | exact .fn rfl (fun _ _ _ h => by cases h) rfl (fun j v x h h2 => match j, h, h2 with | 0, h, h2 => by cases h; cases h2; exact .ptr rfl | 1, h, h2 => by cases h; cases h2; exact .ptr rfl | j + 2, h, _ => by cases h)) | exact vz2 | fail))); done))); refine ar_gcall (H0 := whB i (actF (stoAt life bk k) (el bk k)) (actP (stoAt life bk k) (preAt life bk k) (el bk k)) (outTo life bk i k)) [0, 1, 2, 3, 4, 5, 6] [] (first := []) (cap := [.ptr 1 0 0 0, .ptr 1 1 0 0]) fn66 rfl rfl (xs := [.ptr 4 2 0 0, .ptr 1 0 0 0, .ptr 1 1 0 0]) ⟨.ptr rfl, .ptr rfl, .ptr rfl, trivial⟩ rfl (by decide) (fun _ h => by cases h) ⟨.inl ⟨0, _, rfl, rfl, fun _ _ => .closed rfl⟩, .inl ⟨1, _, rfl, rfl, fun _ _ => slEq rfl (by rw [outTo_len])⟩, .inl ⟨2, _, rfl, rfl, fun _ _ => VSub.aggL ⟨.closed rfl, .sl rfl, .sl rfl, .map rfl, trivial⟩⟩, .inl ⟨3, _, rfl, rfl, fun _ _ => .closed rfl⟩, .inl ⟨4, _, rfl, rfl, fun _ _ => .closed rfl⟩, bsub_mapE rfl rfl (fun _ => rfl), .inl ⟨6, _, rfl, rfl, fun _ _ => .closed rfl⟩, trivial⟩ whB_live (cb2_p i _ _ _ (act_few he hV) (by rw [outTo_len]; omega)) (dc rfl) ?_ (fun _ _ h => h.elim); rintro _ _ ⟨rfl, rfl⟩; rw [joinWh, hout]; unfold wh7)) | (((refine ar_sub_l (env' := [(2, .fn (.func 66) [] [.ptr 1 0 0 0, .ptr 1 1 0 0]), (9, .ptr 4 2 0 0), (25, encDeeds bk), (26, vi bk.length), (27, vi k), (39, .fn (.func 66) [] [.ptr 1 0 0 0, .ptr 1 1 0 0]), (40, .ptr 4 2 0 0)]) (H' := [.arr 1 1 (fun _ => vi i), .arr 1 1 (fun _ => .sl 1 6 0 k), .arr 4 1 (fun _ => stoV 2 (actF (stoAt life bk k) (el bk k))), LB 5 Itm.enc (actF (stoAt life bk k) (el bk k)).items, LB 2 Prt.enc (actF (stoAt life bk k) (el bk k)).prints, mapE vi (actP (stoAt life bk k) (preAt life bk k) (el bk k)), LB 1 vi (outTo life bk i k)]) ?_ ?_; (focus ((refine sub_to [some 0, some 1, some 2, some 3, some 7, some 5, some 6] [] rfl ?_ ?_ <;> (repeat' (first | exact trivial | refine ⟨⟨_, rfl, ?_⟩, ?_⟩ | refine ⟨bsub_snoc rfl rfl (fun _ => rfl) ?_, ?_⟩ | refine ⟨bsub_one rfl rfl ?_, ?_⟩ | refine ⟨bsub_all rfl rfl (fun _ _ => rfl) (fun _ => rfl), ?_⟩ | refine ⟨bsub_updL rfl rfl ?_ (fun _ _ _ => rfl) (fun _ => rfl), ?_⟩ | refine ⟨.inl ⟨_, _, rfl, rfl, ?_⟩, ?_⟩ | exact ⟨.inr ⟨rfl, rfl⟩, trivial⟩ | refine ⟨.inr ⟨rfl, rfl⟩, ?_⟩ | (intro _ _) | exact vz1 | (first | refine ⟨trivial, ?_⟩ | refine ⟨bsub_mapE rfl rfl (fun _ => rfl), ?_⟩ | exact VSub.aggL ⟨.closed rfl, .sl rfl, .sl rfl, .map rfl, trivial⟩ | exact .fn rfl (fun _ _ _ h => by cases h) rfl (fun j v x h h2 => match j, h, h2 with | 0, h, h2 => by cases h; cases h2; exact .ptr rfl | 1, h, h2 => by cases h; cases h2; exact .ptr rfl | j + 2, h, _ => by cases h)) | exact vz2 | fail))); done))); refine ar_gcall (H0 := whB i (actF (stoAt life bk k) (el bk k)) (actP (stoAt life bk k) (preAt life bk k) (el bk k)) (outTo life bk i k)) [0, 1, 2, 3, 4, 5, 6] [] (first := []) (cap := [.ptr 1 0 0 0, .ptr 1 1 0 0]) fn66 rfl rfl (xs := [.ptr 4 2 0 0, .ptr 1 0 0 0, .ptr 1 1 0 0]) ⟨.ptr rfl, .ptr rfl, .ptr rfl, trivial⟩ rfl (by decide) (fun _ h => by cases h) ⟨.inl ⟨0, _, rfl, rfl, fun _ _ => .closed rfl⟩, .inl ⟨1, _, rfl, rfl, fun _ _ => slEq rfl (by rw [outTo_len])⟩, .inl ⟨2, _, rfl, rfl, fun _ _ => VSub.aggL ⟨.closed rfl, .sl rfl, .sl rfl, .map rfl, trivial⟩⟩, .inl ⟨3, _, rfl, rfl, fun _ _ => .closed rfl⟩, .inl ⟨4, _, rfl, rfl, fun _ _ => .closed rfl⟩, bsub_mapE rfl rfl (fun _ => rfl), .inl ⟨6, _, rfl, rfl, fun _ _ => .closed rfl⟩, trivial⟩ whB_live (cb2_p i _ _ _ (act_few he hV) (by rw [outTo_len]; omega)) (dc rfl) ?_ (fun _ _ h => h.elim); rintro _ _ ⟨rfl, rfl⟩; rw [joinWh, hout]; unfold wh7)) | (((refine ar_sub_l (env' := [(2, .fn (.func 66) [] [.ptr 1 0 0 0, .ptr 1 1 0 0]), (9, .ptr 4 2 0 0), (25, encDeeds bk), (26, vi bk.length), (27, vi k), (39, .fn (.func 66) [] [.ptr 1 0 0 0, .ptr 1 1 0 0]), (40, .ptr 4 2 0 0)]) (H' := [.arr 1 1 (fun _ => vi i), .arr 1 1 (fun _ => .sl 1 6 0 k), .arr 4 1 (fun _ => stoV 2 (actF (stoAt life bk k) (el bk k))), LB 5 Itm.enc (actF (stoAt life bk k) (el bk k)).items, LB 2 Prt.enc (actF (stoAt life bk k) (el bk k)).prints, mapE vi (actP (stoAt life bk k) (preAt life bk k) (el bk k)), LB 1 vi (outTo life bk i k)]) ?_ ?_; (focus ((refine sub_to [some 0, some 1, some 2, some 3, some 4, some 5, some 6] [] rfl ?_ ?_ <;> (repeat' (first | exact trivial | refine ⟨⟨_, rfl, ?_⟩, ?_⟩ | refine ⟨bsub_snoc rfl rfl (fun _ => rfl) ?_, ?_⟩ | refine ⟨bsub_one rfl rfl ?_, ?_⟩ | refine ⟨bsub_all rfl rfl (fun _ _ => rfl) (fun _ => rfl), ?_⟩ | refine ⟨bsub_updL rfl rfl ?_ (fun _ _ _ => rfl) (fun _ => rfl), ?_⟩ | refine ⟨.inl ⟨_, _, rfl, rfl, ?_⟩, ?_⟩ | exact ⟨.inr ⟨rfl, rfl⟩, trivial⟩ | refine ⟨.inr ⟨rfl, rfl⟩, ?_⟩ | (intro _ _) | exact vz1 | (first | refine ⟨trivial, ?_⟩ | refine ⟨bsub_mapE rfl rfl (fun _ => rfl), ?_⟩ | exact VSub.aggL ⟨.closed rfl, .sl rfl, .sl rfl, .map rfl, trivial⟩ | exact .fn rfl (fun _ _ _ h => by cases h) rfl (fun j v x h h2 => match j, h, h2 with | 0, h, h2 => by cases h; cases h2; exact .ptr rfl | 1, h, h2 => by cases h; cases h2; exact .ptr rfl | j + 2, h, _ => by cases h)) | exact vz2 | fail))); done))); refine ar_gcall (H0 := whB i (actF (stoAt life bk k) (el bk k)) (actP (stoAt life bk k) (preAt life bk k) (el bk k)) (outTo life bk i k)) [0, 1, 2, 3, 4, 5, 6] [] (first := []) (cap := [.ptr 1 0 0 0, .ptr 1 1 0 0]) fn66 rfl rfl (xs := [.ptr 4 2 0 0, .ptr 1 0 0 0, .ptr 1 1 0 0]) ⟨.ptr rfl, .ptr rfl, .ptr rfl, trivial⟩ rfl (by decide) (fun _ h => by cases h) ⟨.inl ⟨0, _, rfl, rfl, fun _ _ => .closed rfl⟩, .inl ⟨1, _, rfl, rfl, fun _ _ => slEq rfl (by rw [outTo_len])⟩, .inl ⟨2, _, rfl, rfl, fun _ _ => VSub.aggL ⟨.closed rfl, .sl rfl, .sl rfl, .map rfl, trivial⟩⟩, .inl ⟨3, _, rfl, rfl, fun _ _ => .closed rfl⟩, .inl ⟨4, _, rfl, rfl, fun _ _ => .closed rfl⟩, bsub_mapE rfl rfl (fun _ => rfl), .inl ⟨6, _, rfl, rfl, fun _ _ => .closed rfl⟩, trivial⟩ whB_live (cb2_p i _ _ _ (act_few he hV) (by rw [outTo_len]; omega)) (dc rfl) ?_ (fun _ _ h => h.elim); rintro _ _ ⟨rfl, rfl⟩; rw [joinWh, hout]; unfold wh7)) | (refine zal ?_) | (refine zsvs ?_) | (refine zsva ?_) | (refine zses ?_) | (refine zsea ?_) | (refine ar_nil ?_) | (refine aw_seq ?_) | (refine aw_skip ?_) | (refine aw_block ?_) | (refine aw_exit ?_) | (refine aw_region ?_) | (refine zco ?_ ?_ <;> intro hg <;> first | exact absurd hg (by decide) | ((try replace hg := HG.out hg); (try dsimp only at hg); (try (have _h : True := hg; clear _h hg)); first | (exfalso; omega) | skip))))
    all_goals first
      | ((first | refine loop_next (by omega) ?_ ?_ | refine (show _ ∧ _ ∧ SubOf _ _ _ _ _ _ from And.intro (by omega) (And.intro ?_ ?_))); (focus (((exact all_step hJ he)); done)); (focus ((refine sub_to [some 0, some 1, some 2, some 3, some 4, some 5, some 7] [] rfl ?_ ?_ <;> (repeat' (first | exact trivial | refine ⟨⟨_, rfl, ?_⟩, ?_⟩ | refine ⟨bsub_snoc rfl rfl (fun _ => rfl) ?_, ?_⟩ | refine ⟨bsub_one rfl rfl ?_, ?_⟩ | refine ⟨bsub_all rfl rfl (fun _ _ => rfl) (fun _ => rfl), ?_⟩ | refine ⟨bsub_updL rfl rfl ?_ (fun _ _ _ => rfl) (fun _ => rfl), ?_⟩ | refine ⟨.inl ⟨_, _, rfl, rfl, ?_⟩, ?_⟩ | exact ⟨.inr ⟨rfl, rfl⟩, trivial⟩ | refine ⟨.inr ⟨rfl, rfl⟩, ?_⟩ | (intro _ _) | exact vz1 | (first | refine ⟨trivial, ?_⟩ | refine ⟨bsub_mapE rfl rfl (fun _ => rfl), ?_⟩ | exact VSub.aggL ⟨.closed rfl, .sl rfl, .sl rfl, .map rfl, trivial⟩ | exact .fn rfl (fun _ _ _ h => by cases h) rfl (fun j v x h h2 => match j, h, h2 with | 0, h, h2 => by cases h; cases h2; exact .ptr rfl | 1, h, h2 => by cases h; cases h2; exact .ptr rfl | j + 2, h, _ => by cases h) | exact slEq rfl (by rw [outTo_len])) | exact vz2 | fail))); done)))
      | (refine aw_ret ?_; (repeat (first | refine ret_then ?_ | refine ret_block ?_))
         (refine subq_r [(6, .s (.pointer none)), (7, vi k), (8, vi (actE (stoAt life bk k) (el bk k)))] [.dead, .dead] ?_ ?_; (focus ((refine sub_to [some 0, some 1] [] rfl ?_ ?_ <;> (repeat' (first | exact trivial | refine ⟨⟨_, rfl, ?_⟩, ?_⟩ | refine ⟨bsub_snoc rfl rfl (fun _ => rfl) ?_, ?_⟩ | refine ⟨bsub_one rfl rfl ?_, ?_⟩ | refine ⟨bsub_all rfl rfl (fun _ _ => rfl) (fun _ => rfl), ?_⟩ | refine ⟨bsub_updL rfl rfl ?_ (fun _ _ _ => rfl) (fun _ => rfl), ?_⟩ | refine ⟨.inl ⟨_, _, rfl, rfl, ?_⟩, ?_⟩ | exact ⟨.inr ⟨rfl, rfl⟩, trivial⟩ | refine ⟨.inr ⟨rfl, rfl⟩, ?_⟩ | (intro _ _) | exact vz1 | (refine ⟨trivial, ?_⟩) | exact vz2 | fail))); done)))
         have hx := playX_bad (by omega) hlife hJ hlt he
         exact bq3 rfl rfl rfl (.inr ⟨by rw [hx]; exact he, by rw [hx]; rfl, rfl⟩))
      | trace_state
  · obtain rfl : k = bk.length := by omega
    (repeat' (first | (refine ar_isq ?_; first | refine zmv ?_ | refine zas ?_ | (refine is_load ?_; first | refine zlp ?_ | refine zlr ?_) | (refine is_binOp ?_; first | refine zlss ?_ | refine zgtr ?_ | refine zneq ?_ | refine zadd ?_) | (refine is_indexAddr ?_; first | refine zil ?_ | refine zis ?_ | refine zit ?_ | refine zia ?_ | refine zir ?_ | (refine zxl ?_; intro _ _ _) | (refine zxs ?_; intro _ _ _)) | (refine is_call ?_; first | refine zll ?_ | refine zls ?_ | refine zln ?_ | refine zle ?_) | refine zex ?_ | refine znt ?_ | (refine ar_buildT ?_ (by exact ty rfl) (by exact rfl) (by exact sizes rfl) (by exact rfl) (by exact rfl) (by exact build rfl) (by exact dc rfl); intro _ hds; (try dsimp only [List.toList_toArray, cells_s, cells_emp, cells_agg, cells_list, cells_sl, cells_ptr, cells_ref, cells_fn, cells_vi, cells_vb, cells_vnil, constV, List.map_cons, List.map_nil, List.take_succ_cons, List.take_zero, List.drop_succ_cons, List.drop_zero, List.cons_append, List.nil_append, List.append_nil, LV_cells] at hds); (try dsimp only [cells_s, cells_emp, cells_agg, cells_list, cells_sl, cells_ptr, cells_ref, cells_fn, cells_vi, cells_vb, cells_vnil, constV, List.map_cons, List.map_nil, List.take_succ_cons, List.take_zero, List.drop_succ_cons, List.drop_zero, List.cons_append, List.nil_append, List.append_nil, LV_cells] at hds); subst hds)) | (refine zal ?_) | (refine zsvs ?_) | (refine zsva ?_) | (refine zses ?_) | (refine zsea ?_) | (refine ar_nil ?_) | (refine aw_seq ?_) | (refine aw_skip ?_) | (refine aw_block ?_) | (refine aw_exit ?_) | (refine aw_region ?_) | (refine zco ?_ ?_ <;> intro hg <;> first | exact absurd hg (by decide) | ((try replace hg := HG.out hg); (try dsimp only at hg); (try (have _h : True := hg; clear _h hg)); first | (exfalso; omega) | skip))))
    have hx := playX_ok (by omega) hlife hJ
    refine aw_ret ?_; (repeat (first | refine ret_then ?_ | refine ret_block ?_))
    (refine subq_r [(6, .ptr 4 2 0 0), (7, vi 0), (8, vi 0)] [.arr 1 1 (fun _ => vi i), .arr 1 1 (fun _ => .sl 1 6 0 (outTo life bk i bk.length).length), .arr 4 1 (fun _ => stoV 2 (stoAt life bk bk.length)), LB 5 Itm.enc (stoAt life bk bk.length).items, LB 2 Prt.enc (stoAt life bk bk.length).prints, mapE vi (preAt life bk bk.length), LB 1 vi (outTo life bk i bk.length)] ?_ ?_; (focus ((refine sub_to [some 0, some 1, some 2, some 3, some 4, some 5, some 6] [] rfl ?_ ?_ <;> (repeat' (first | exact trivial | refine ⟨⟨_, rfl, ?_⟩, ?_⟩ | refine ⟨bsub_snoc rfl rfl (fun _ => rfl) ?_, ?_⟩ | refine ⟨bsub_one rfl rfl ?_, ?_⟩ | refine ⟨bsub_all rfl rfl (fun _ _ => rfl) (fun _ => rfl), ?_⟩ | refine ⟨bsub_updL rfl rfl ?_ (fun _ _ _ => rfl) (fun _ => rfl), ?_⟩ | refine ⟨.inl ⟨_, _, rfl, rfl, ?_⟩, ?_⟩ | exact ⟨.inr ⟨rfl, rfl⟩, trivial⟩ | refine ⟨.inr ⟨rfl, rfl⟩, ?_⟩ | (intro _ _) | exact vz1 | (first | refine ⟨trivial, ?_⟩ | refine ⟨bsub_mapE rfl rfl (fun _ => rfl), ?_⟩ | exact VSub.aggL ⟨.closed rfl, .sl rfl, .sl rfl, .map rfl, trivial⟩ | exact .fn rfl (fun _ _ _ h => by cases h) rfl (fun j v x h h2 => match j, h, h2 with | 0, h, h2 => by cases h; cases h2; exact .ptr rfl | 1, h, h2 => by cases h; cases h2; exact .ptr rfl | j + 2, h, _ => by cases h) | exact slEq rfl (by rw [outTo_len])) | exact vz2 | fail))); done)))
    exact bq3 rfl rfl rfl (.inl ⟨hx, rfl, rfl⟩)
end Go.Proofs.Ythpbjihnikapoaa
namespace Go.Proofs.Ythpbjihnikapoaa
open Go.RowKit
theorem joinW2 {H : Heap} {i : Int} {F : Sto} {p : List (Int × Int)} {out : List Int} (h : H.length = 2) : joinH [0, 1] [] H (whB i F p out) = whB i F p out :=
  match H, h with
  | [a0, a1], _ => (show _ = [.arr 1 1 (fun _ => vi i), .arr 1 1 (fun _ => .sl 1 6 0 out.length), .arr 4 1 (fun _ => stoV 2 F), LB 5 Itm.enc F.items, LB 2 Prt.enc F.prints, (mapE vi p).ren (rn [0, 1] 2), LB 1 vi out] from rfl).trans (by rw [mapE_ren]; rfl)
theorem whereE_play {life : Int} {bk : List Deed} {i : Int} (h : (playX life bk).2 ≠ 0) : whereE life bk i = (playX life bk).2 := by unfold whereE; rw [if_pos h]
theorem whereE_ok {life : Int} {bk : List Deed} {i : Int} (h : (playX life bk).2 = 0) (h2 : 0 ≤ i ∧ i < ((stoAt life bk bk.length).items.length : Int)) : whereE life bk i = 0 := by unfold whereE; rw [if_neg (by omega), if_pos h2]
theorem whereE_none {life : Int} {bk : List Deed} {i : Int} (h : (playX life bk).2 = 0) (h2 : ¬ (0 ≤ i ∧ i < ((stoAt life bk bk.length).items.length : Int))) : whereE life bk i = 6 := by unfold whereE; rw [if_neg (by omega), if_neg h2]
theorem whereF_no {life : Int} {bk : List Deed} {i : Int} (h : whereE life bk i ≠ 0) : whereF life bk i = [] := by unfold whereF; rw [if_neg h]
theorem whereF_ok {life : Int} {bk : List Deed} {i : Int} (h : whereE life bk i = 0) : whereF life bk i = outTo life bk i bk.length := by unfold whereF; rw [if_pos h]
theorem first_bad {life : Int} {bk : List Deed} : ∀ {j : Nat}, j < bk.length → errAt life bk j ≠ 0 → ∃ m, m < bk.length ∧ (∀ q, q < m → errAt life bk q = 0) ∧ errAt life bk m ≠ 0
  | j, hj, he => by
    by_cases h : ∀ q, q < j → errAt life bk q = 0
    · exact ⟨j, hj, h, he⟩
    · have h2 : ∃ q, q < j ∧ errAt life bk q ≠ 0 := Classical.byContradiction fun hn => h fun q hq => Classical.byContradiction fun hb => hn ⟨q, hq, hb⟩
      obtain ⟨q, hq, hb⟩ := h2
      exact first_bad (j := q) (by omega) hb
theorem playX_sto {life : Int} {bk : List Deed} (h : playX life bk = (0, 0)) : Valid (stoAt life bk bk.length) := by
  by_cases hn : 200 < bk.length
  · rw [playX_many hn] at h; simp at h
  · by_cases hl : 1 ≤ life ∧ life ≤ 1000
    · refine (stoAt_ok (valid0.2 hl) fun j hj => ?_).1
      refine Classical.byContradiction fun he => ?_
      obtain ⟨m, hm, hb, hne⟩ : ∃ m, m < bk.length ∧ (∀ q, q < m → errAt life bk q = 0) ∧ errAt life bk m ≠ 0 := first_bad hj he
      rw [playX_bad hn hl hb hm hne] at h
      exact hne (congrArg Prod.snd h)
    · rw [playX_life hn hl] at h; simp at h
set_option maxHeartbeats 2000000 in
theorem pWhere_p (life : Int) (bk : List Deed) (i : Int) (hu : ∀ j, j < bk.length → u8ok (el bk j).kind) : PCalls Try.prog 42 [vi life, encDeeds bk, vi i] (· = .tup [encInts (whereF life bk i), vi (whereE life bk i)]) := by
  refine pcalls_of_aw Try.func42 rfl (Nat.le_of_ble_eq_true rfl) ?_
  (repeat' (first | (refine ar_isq ?_; first | refine zmv ?_ | refine zas ?_ | (refine is_load ?_; first | refine zlp ?_ | refine zlr ?_) | (refine is_binOp ?_; first | refine zneq ?_ | refine zsub ?_) | (refine is_fieldAddr ?_; first | refine zfp ?_ | refine zfr ?_) | (refine is_call ?_; first | refine zll ?_ | refine zls ?_ | refine zln ?_ | refine zle ?_) | refine zex ?_ | refine znt ?_ | refine zncp ?_ | refine zncr ?_ | refine zmf ?_) | ((refine ar_gcall (H0 := [.arr 1 1 (fun _ => vi i), .arr 1 1 (fun _ => vnil)]) [0, 1] [] (first := []) (cap := []) fn63 rfl rfl (xs := [vi life, encDeeds bk, .fn (.func 66) [] [.ptr 1 0 0 0, .ptr 1 1 0 0]]) ⟨.closed rfl, .closed rfl, .fn rfl (fun _ _ _ h => by cases h) rfl (fun j v x h h2 => match j, h, h2 with | 0, h, h2 => by cases h; cases h2; exact .ptr rfl | 1, h, h2 => by cases h; cases h2; exact .ptr rfl | j + 2, h, _ => by cases h), trivial⟩ rfl (by decide) (fun _ h => by cases h) ⟨.inl ⟨0, _, rfl, rfl, fun _ _ => .closed rfl⟩, .inl ⟨1, _, rfl, rfl, fun _ _ => .closed rfl⟩, trivial⟩ (by simp) (play2_p life bk i hu) (dc rfl) ?_ (fun _ _ h => h.elim); rintro _ _ (⟨h0, rfl, rfl⟩ | ⟨h0, rfl, rfl⟩) <;> (try (rw [joinW2 (by exact rfl)]; unfold whB; have hfew := (playX_sto h0).1; unfold Few at hfew)))) | (((refine ar_subk_l (sub_frzL (t := 31) vi ([i]) rfl rfl rfl rfl (fun _ _ => rfl) (fun _ => rfl)) ?_); refine ar_pcall (own := false) fn50 rfl rfl (.cons (.closed rfl) (.cons (.closed rfl) (.cons (.closed rfl) .nil))) (from_p _ _ [i]) (by simp) (dc rfl) ?_; intro _ hv; subst hv)) | (refine ar_buildLE vi ([i]) (by exact ty rfl) (by exact rfl) (by exact ty rfl) (by exact rfl) (by exact rfl) (by exact Nat.succ_pos _) (by exact rfl) (by exact dc rfl) (by exact rfl) (by exact fun _ => ⟨rfl, rfl⟩) (by exact dc rfl) ?_) | (refine zbx ?_) | (refine zal ?_) | (refine zb1 ?_) | (refine zb0 ?_) | (refine ar_nil ?_) | (refine aw_seq ?_) | (refine aw_skip ?_) | (refine aw_block ?_) | (refine aw_exit ?_) | (refine aw_region ?_) | (refine aw_drawn (id := 5) [(0, 0), (1, 0), (2, 0), (3, 0), (4, 0), (5, 0), (6, 0), (7, 0), (8, 1), (9, 1), (10, 0)] mixed (by kernel_rfl) ?_) | (refine aw_drawn (id := 5) [(0, 0), (1, 0), (2, 0), (3, 0), (4, 0), (5, 0), (6, 0), (7, 0), (8, 1), (9, 2), (10, 0)] mixed (by kernel_rfl) ?_) | (refine zco ?_ ?_ <;> intro hg <;> first | exact absurd hg (by decide) | ((try replace hg := HG.out hg); (try dsimp only at hg); (try rw [fromB_one] at hg); (try rw [withinB_iff] at hg); (try rw [withinB_no] at hg); (try (have _h : True := hg; clear _h hg)); first | (exfalso; omega) | skip))))
  all_goals first
    | (have he := whereE_play (i := i) h0
       (refine aw_mono_r (env' := [(6, encInts []), (7, vi (playX life bk).2)]) (H' := []) ?_ ?_; (focus ((refine sub_to [] [] rfl ?_ ?_ <;> (repeat' (first | exact trivial | refine ⟨⟨_, rfl, ?_⟩, ?_⟩ | refine ⟨bsub_snoc rfl rfl (fun _ => rfl) ?_, ?_⟩ | refine ⟨bsub_one rfl rfl ?_, ?_⟩ | refine ⟨bsub_all rfl rfl (fun _ _ => rfl) (fun _ => rfl), ?_⟩ | refine ⟨bsub_updL rfl rfl ?_ (fun _ _ _ => rfl) (fun _ => rfl), ?_⟩ | refine ⟨.inl ⟨_, _, rfl, rfl, ?_⟩, ?_⟩ | exact ⟨.inr ⟨rfl, rfl⟩, trivial⟩ | refine ⟨.inr ⟨rfl, rfl⟩, ?_⟩ | (intro _ _) | exact vz1 | exact vz2 | fail))); done))); (refine aw_ret ?_; (repeat (first | refine ret_then ?_ | refine ret_block ?_)); refine bq2 rfl rfl ⟨?_, rfl⟩); rw [whereF_no (by omega), he]; done)
    | (have he := whereE_none (i := i) (congrArg Prod.snd h0) (by omega)
       (refine aw_mono_r (env' := [(6, encInts []), (7, vi 6)]) (H' := []) ?_ ?_; (focus ((refine sub_to [] [] rfl ?_ ?_ <;> (repeat' (first | exact trivial | refine ⟨⟨_, rfl, ?_⟩, ?_⟩ | refine ⟨bsub_snoc rfl rfl (fun _ => rfl) ?_, ?_⟩ | refine ⟨bsub_one rfl rfl ?_, ?_⟩ | refine ⟨bsub_all rfl rfl (fun _ _ => rfl) (fun _ => rfl), ?_⟩ | refine ⟨bsub_updL rfl rfl ?_ (fun _ _ _ => rfl) (fun _ => rfl), ?_⟩ | refine ⟨.inl ⟨_, _, rfl, rfl, ?_⟩, ?_⟩ | exact ⟨.inr ⟨rfl, rfl⟩, trivial⟩ | refine ⟨.inr ⟨rfl, rfl⟩, ?_⟩ | (intro _ _) | exact vz1 | exact vz2 | fail))); done))); (refine aw_ret ?_; (repeat (first | refine ret_then ?_ | refine ret_block ?_)); refine bq2 rfl rfl ⟨?_, rfl⟩); rw [whereF_no (by omega), he]; done)
    | (have he := whereE_ok (i := i) (congrArg Prod.snd h0) (by omega)
       (refine aw_mono_r (env' := [(6, encInts (outTo life bk i bk.length)), (7, vi 0)]) (H' := []) ?_ ?_; (focus ((refine sub_to [] [6] rfl ?_ ?_ <;> (repeat' (first | exact trivial | refine ⟨⟨_, rfl, ?_⟩, ?_⟩ | refine ⟨bsub_snoc rfl rfl (fun _ => rfl) ?_, ?_⟩ | refine ⟨bsub_one rfl rfl ?_, ?_⟩ | refine ⟨bsub_all rfl rfl (fun _ _ => rfl) (fun _ => rfl), ?_⟩ | refine ⟨bsub_updL rfl rfl ?_ (fun _ _ _ => rfl) (fun _ => rfl), ?_⟩ | refine ⟨.inl ⟨_, _, rfl, rfl, ?_⟩, ?_⟩ | exact ⟨.inr ⟨rfl, rfl⟩, trivial⟩ | refine ⟨.inr ⟨rfl, rfl⟩, ?_⟩ | (intro _ _) | exact vz1 | exact vz2 | fail))); done))); (refine aw_ret ?_; (repeat (first | refine ret_then ?_ | refine ret_block ?_)); refine bq2 rfl rfl ⟨?_, rfl⟩); rw [whereF_ok he, he]; done)
    | trace_state
end Go.Proofs.Ythpbjihnikapoaa
namespace Go.Proofs.Ythpbjihnikapoaa
open Go.RowKit
set_option maxHeartbeats 4000000 in
theorem do8_p (s : Sto) (a : Deed) (hu : u8ok a.kind) : PCalls Try.prog 36 [s.enc, a.enc] (· = .tup [(doF s a).enc, vi (doE s a)]) := by
  by_cases hV : Valid s
  · refine pcalls_of_aw Try.func36 rfl (Nat.le_of_ble_eq_true rfl) ?_
    (repeat' (first | (refine ar_isq ?_; first | refine zas ?_ | (refine is_load ?_; first | refine zlp ?_ | refine zlr ?_) | refine zex ?_ | refine znt ?_ | (refine ar_buildT ?_ (by exact ty rfl) (by exact rfl) (by exact sizes rfl) (by exact rfl) (by exact rfl) (by exact build rfl) (by exact dc rfl); intro _ hds; (try dsimp only [List.toList_toArray, cells_s, cells_emp, cells_agg, cells_list, cells_sl, cells_ptr, cells_ref, cells_fn, cells_vi, cells_vb, cells_vnil, constV, List.map_cons, List.map_nil, List.take_succ_cons, List.take_zero, List.drop_succ_cons, List.drop_zero, List.cons_append, List.nil_append, List.append_nil, LV_cells] at hds); (try dsimp only [cells_s, cells_emp, cells_agg, cells_list, cells_sl, cells_ptr, cells_ref, cells_fn, cells_vi, cells_vb, cells_vnil, constV, List.map_cons, List.map_nil, List.take_succ_cons, List.take_zero, List.drop_succ_cons, List.drop_zero, List.cons_append, List.nil_append, List.append_nil, LV_cells] at hds); subst hds)) | (refine ar_pcall (own := false) fn58 rfl rfl (.cons (.closed rfl) .nil) (store8_p s) (by simp) (dc rfl) ?_; intro _ hv; subst hv) | (refine ar_pcall (own := false) fn62 rfl rfl (.cons (.closed rfl) (.cons (.closed rfl) .nil)) (done8_p s a hu hV) (by simp) (dc rfl) ?_; intro _ hv; subst hv) | (refine zbx ?_) | (refine zal ?_) | (refine zsvs ?_) | (refine zsva ?_) | (refine zses ?_) | (refine zsea ?_) | (refine ar_nil ?_) | (refine aw_seq ?_) | (refine aw_skip ?_) | (refine aw_block ?_) | (refine aw_exit ?_) | (refine aw_region ?_) | (refine zco ?_ ?_ <;> intro hg <;> first | exact absurd hg (by decide) | ((try replace hg := HG.out hg); (try dsimp only at hg); (try (have _h : True := hg; clear _h hg)); first | (exfalso; omega) | skip))))
    all_goals first
      | (exfalso; simp_all; done)
      | ((refine aw_mono_r (env' := [(4, .ptr 3 0 0 0), (5, vi (doE s a))]) (H' := [.arr 3 1 (fun _ => (doF s a).enc)]) ?_ ?_; (focus ((refine sub_to [some 2] [] rfl ?_ ?_ <;> (repeat' (first | exact trivial | refine ⟨⟨_, rfl, ?_⟩, ?_⟩ | refine ⟨bsub_snoc rfl rfl (fun _ => rfl) ?_, ?_⟩ | refine ⟨bsub_one rfl rfl ?_, ?_⟩ | refine ⟨bsub_all rfl rfl (fun _ _ => rfl) (fun _ => rfl), ?_⟩ | refine ⟨bsub_updL rfl rfl ?_ (fun _ _ _ => rfl) (fun _ => rfl), ?_⟩ | refine ⟨.inl ⟨_, _, rfl, rfl, ?_⟩, ?_⟩ | exact ⟨.inr ⟨rfl, rfl⟩, trivial⟩ | refine ⟨.inr ⟨rfl, rfl⟩, ?_⟩ | (intro _ _) | exact vz1 | exact vz2 | fail))); done)))
         refine aw_ret ?_; (repeat (first | refine ret_then ?_ | refine ret_block ?_))
         exact do_ret ⟨rfl, rfl⟩)
      | trace_state
  · refine pcalls_of_aw Try.func36 rfl (Nat.le_of_ble_eq_true rfl) ?_
    (repeat' (first | (refine ar_isq ?_; first | refine zas ?_ | (refine is_load ?_; first | refine zlp ?_ | refine zlr ?_) | refine zex ?_ | refine znt ?_ | (refine ar_buildT ?_ (by exact ty rfl) (by exact rfl) (by exact sizes rfl) (by exact rfl) (by exact rfl) (by exact build rfl) (by exact dc rfl); intro _ hds; (try dsimp only [List.toList_toArray, cells_s, cells_emp, cells_agg, cells_list, cells_sl, cells_ptr, cells_ref, cells_fn, cells_vi, cells_vb, cells_vnil, constV, List.map_cons, List.map_nil, List.take_succ_cons, List.take_zero, List.drop_succ_cons, List.drop_zero, List.cons_append, List.nil_append, List.append_nil, LV_cells] at hds); (try dsimp only [cells_s, cells_emp, cells_agg, cells_list, cells_sl, cells_ptr, cells_ref, cells_fn, cells_vi, cells_vb, cells_vnil, constV, List.map_cons, List.map_nil, List.take_succ_cons, List.take_zero, List.drop_succ_cons, List.drop_zero, List.cons_append, List.nil_append, List.append_nil, LV_cells] at hds); subst hds)) | (refine ar_pcall (own := false) fn58 rfl rfl (.cons (.closed rfl) .nil) (store8_p s) (by simp) (dc rfl) ?_; intro _ hv; subst hv) | (refine zbx ?_) | (refine zal ?_) | (refine zsvs ?_) | (refine zsva ?_) | (refine zses ?_) | (refine zsea ?_) | (refine ar_nil ?_) | (refine aw_seq ?_) | (refine aw_skip ?_) | (refine aw_block ?_) | (refine aw_exit ?_) | (refine aw_region ?_) | (refine zco ?_ ?_ <;> intro hg <;> first | exact absurd hg (by decide) | ((try replace hg := HG.out hg); (try dsimp only at hg); (try (have _h : True := hg; clear _h hg)); first | (exfalso; omega) | skip))))
    all_goals first
      | (exfalso; simp_all; done)
      | ((refine aw_mono_r (env' := [(4, .ptr 3 0 0 0), (5, vi 80)]) (H' := [.arr 3 1 (fun _ => noSto.enc)]) ?_ ?_; (focus ((refine sub_to [some 2] [] rfl ?_ ?_ <;> (repeat' (first | exact trivial | refine ⟨⟨_, rfl, ?_⟩, ?_⟩ | refine ⟨bsub_snoc rfl rfl (fun _ => rfl) ?_, ?_⟩ | refine ⟨bsub_one rfl rfl ?_, ?_⟩ | refine ⟨bsub_all rfl rfl (fun _ _ => rfl) (fun _ => rfl), ?_⟩ | refine ⟨bsub_updL rfl rfl ?_ (fun _ _ _ => rfl) (fun _ => rfl), ?_⟩ | refine ⟨.inl ⟨_, _, rfl, rfl, ?_⟩, ?_⟩ | exact ⟨.inr ⟨rfl, rfl⟩, trivial⟩ | refine ⟨.inr ⟨rfl, rfl⟩, ?_⟩ | (intro _ _) | exact vz1 | (exact VSub.aggL ⟨.closed rfl, .nilList, .nilList, trivial⟩) | exact vz2 | fail))); done)))
         refine aw_ret ?_; (repeat (first | refine ret_then ?_ | refine ret_block ?_))
         refine do_ret ⟨?_, rfl⟩
         rw [doF_bad (by rw [doE_bad hV]; decide), doE_bad hV])
      | trace_state
end Go.Proofs.Ythpbjihnikapoaa
namespace Go.Proofs.Ythpbjihnikapoaa
open Go.RowKit
theorem bq3s {F : Sto} {x e : Int} {R Rp : V → Heap → Prop} {L : Heap} (hR : R (.tup [F.enc, vi x, vi e]) (.arr 3 1 (fun _ => F.enc) :: L)) : BodyQ Try.prog #[.cell 4 54, .tmp 5, .tmp 6] R Rp .ret [(4, .ptr 3 0 0 0), (5, vi x), (6, vi e)] (.arr 3 1 (fun _ => F.enc) :: L) :=
  bq3c (f := fun _ => F.enc) (v := F.enc) (ty rfl) rfl rfl Nat.one_pos rfl rfl rfl hR
theorem playR_bad {life : Int} {bk : List Deed} {x e : Int} (h : playX life bk = (x, e)) (he : e ≠ 0) : V.tup [noSto.enc, vi x, vi e] = .tup [(playF life bk).enc, vi (playX life bk).1, vi (playX life bk).2] := by rw [playF_bad (by rw [h]; exact he), h]
theorem playR_ok {life : Int} {bk : List Deed} (h : playX life bk = (0, 0)) : V.tup [(stoAt life bk bk.length).enc, vi 0, vi 0] = .tup [(playF life bk).enc, vi (playX life bk).1, vi (playX life bk).2] := by rw [playF_ok (by rw [h]), h]
end Go.Proofs.Ythpbjihnikapoaa
namespace Go.Proofs.Ythpbjihnikapoaa
open Go.RowKit
set_option maxHeartbeats 4000000 in
theorem pPlay_p (life : Int) (bk : List Deed) (hu : ∀ j, j < bk.length → u8ok (el bk j).kind) : PCalls Try.prog 40 [vi life, encDeeds bk] (· = .tup [(playF life bk).enc, vi (playX life bk).1, vi (playX life bk).2]) := by
  refine pcalls_of_aw Try.func40 rfl (Nat.le_of_ble_eq_true rfl) ?_
  
  (repeat' (first | (refine ar_isq ?_; first | refine zmv ?_ | refine zas ?_ | (refine is_load ?_; first | refine zlp ?_ | refine zlr ?_) | refine zneq ?_ | (refine is_fieldAddr ?_; first | refine zfp ?_ | refine zfr ?_) | refine zex ?_ | refine zncp ?_ | refine zncr ?_ | (refine ar_buildT ?_ (by exact ty rfl) (by exact rfl) (by exact sizes rfl) (by exact rfl) (by exact rfl) (by exact build rfl) (by exact dc rfl); intro _ hds; (try dsimp only [List.toList_toArray, cells_s, cells_emp, cells_agg, cells_list, cells_sl, cells_ptr, cells_ref, cells_fn, cells_vi, cells_vb, cells_vnil, constV, List.map_cons, List.map_nil, List.take_succ_cons, List.take_zero, List.drop_succ_cons, List.drop_zero, List.cons_append, List.nil_append, List.append_nil, LV_cells] at hds); (try dsimp only [cells_s, cells_emp, cells_agg, cells_list, cells_sl, cells_ptr, cells_ref, cells_fn, cells_vi, cells_vb, cells_vnil, constV, List.map_cons, List.map_nil, List.take_succ_cons, List.take_zero, List.drop_succ_cons, List.drop_zero, List.cons_append, List.nil_append, List.append_nil, LV_cells] at hds); subst hds)) | ((refine ar_gcall0 fn63 rfl rfl [vi life, encDeeds bk, .fn (.func 64) [] []] ⟨.closed rfl, .closed rfl, .closed rfl, trivial⟩ (play1_p life bk hu) (dc rfl) ?_ (fun _ _ h => h.elim); rintro _ _ (⟨h0, rfl, rfl⟩ | ⟨h0, rfl, rfl⟩) <;> (try rw [stoB_ren]))) | (refine zal ?_) | (refine zsvs ?_) | (refine zsva ?_) | (refine zses ?_) | (refine zsea ?_) | (refine ar_nil ?_) | (refine aw_seq ?_) | (refine aw_skip ?_) | (refine aw_block ?_) | (refine aw_exit ?_) | (refine aw_region ?_) | (refine zco ?_ ?_ <;> intro hg <;> first | exact absurd hg (by decide) | ((try replace hg := HG.out hg); (try dsimp only at hg); (try (have _h : True := hg; clear _h hg)); first | (exfalso; omega) | skip))))
  all_goals first
    | ((refine aw_mono_r (env' := [(4, .ptr 3 0 0 0), (5, vi 0), (6, vi 0)]) (H' := [.arr 3 1 (fun _ => (stoAt life bk bk.length).enc)]) ?_ ?_; (focus ((refine sub_to [some 0] [2, 3] rfl ?_ ?_ <;> (repeat' (first | exact trivial | refine ⟨⟨_, rfl, ?_⟩, ?_⟩ | refine ⟨bsub_snoc rfl rfl (fun _ => rfl) ?_, ?_⟩ | refine ⟨bsub_one rfl rfl ?_, ?_⟩ | refine ⟨bsub_all rfl rfl (fun _ _ => rfl) (fun _ => rfl), ?_⟩ | refine ⟨bsub_updL rfl rfl ?_ (fun _ _ _ => rfl) (fun _ => rfl), ?_⟩ | refine ⟨.inl ⟨_, _, rfl, rfl, ?_⟩, ?_⟩ | exact ⟨.inr ⟨rfl, rfl⟩, trivial⟩ | refine ⟨.inr ⟨rfl, rfl⟩, ?_⟩ | (intro _ _) | exact vz1 | (exact VSub.aggL ⟨.closed rfl, frzLB (by simp; done) rfl (fun _ => rfl) rfl, frzLB (by simp; done) rfl (fun _ => rfl) rfl, trivial⟩) | exact vz2 | fail))); done)))
       refine aw_ret ?_; (repeat (first | refine ret_then ?_ | refine ret_block ?_))
       exact bq3s ⟨playR_ok h0, rfl⟩)
    | ((refine aw_mono_r (env' := [(4, .ptr 3 0 0 0), (5, vi (playX life bk).1), (6, vi (playX life bk).2)]) (H' := [.arr 3 1 (fun _ => noSto.enc)]) ?_ ?_; (focus ((refine sub_to [some 0] [] rfl ?_ ?_ <;> (repeat' (first | exact trivial | refine ⟨⟨_, rfl, ?_⟩, ?_⟩ | refine ⟨bsub_snoc rfl rfl (fun _ => rfl) ?_, ?_⟩ | refine ⟨bsub_one rfl rfl ?_, ?_⟩ | refine ⟨bsub_all rfl rfl (fun _ _ => rfl) (fun _ => rfl), ?_⟩ | refine ⟨bsub_updL rfl rfl ?_ (fun _ _ _ => rfl) (fun _ => rfl), ?_⟩ | refine ⟨.inl ⟨_, _, rfl, rfl, ?_⟩, ?_⟩ | exact ⟨.inr ⟨rfl, rfl⟩, trivial⟩ | refine ⟨.inr ⟨rfl, rfl⟩, ?_⟩ | (intro _ _) | exact vz1 | (exact VSub.aggL ⟨.closed rfl, .nilList, .nilList, trivial⟩) | exact vz2 | fail))); done)))
       refine aw_ret ?_; (repeat (first | refine ret_then ?_ | refine ret_block ?_))
       exact bq3s ⟨playR_bad rfl h0, rfl⟩)
    | trace_state
end Go.Proofs.Ythpbjihnikapoaa
