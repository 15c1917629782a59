/- Parts of the proof: a layer of values over the model, and contracts of functions. No condition. -/
import Derived.Test.YthpbjihnikapoaaKPq9
namespace Go.Proofs.Ythpbjihnikapoaa
open Go.RowKit
theorem joinW2 {H : Heap} {i : Int} {F : Sto} {p : List (Int × Int)} {out : List Int} (h : H.length = 2) : joinH [0, 1] [] H (whB i F p out) = whB i F p out :=
  match H, h with
  | [a0, a1], _ => (show _ = [.arr 1 1 (fun _ => vi i), .arr 1 1 (fun _ => .sl 1 6 0 out.length), .arr 4 1 (fun _ => stoV 2 F), LB 5 Itm.enc F.items, LB 2 Prt.enc F.prints, (mapE vi p).ren (rn [0, 1] 2), LB 1 vi out] from rfl).trans (by rw [mapE_ren]; rfl)
theorem whereE_play {life : Int} {bk : List Deed} {i : Int} (h : (playX life bk).2 ≠ 0) : whereE life bk i = (playX life bk).2 := by unfold whereE; rw [if_pos h]
theorem whereE_ok {life : Int} {bk : List Deed} {i : Int} (h : (playX life bk).2 = 0) (h2 : 0 ≤ i ∧ i < ((stoAt life bk bk.length).items.length : Int)) : whereE life bk i = 0 := by unfold whereE; rw [if_neg (by omega), if_pos h2]
theorem whereE_none {life : Int} {bk : List Deed} {i : Int} (h : (playX life bk).2 = 0) (h2 : ¬ (0 ≤ i ∧ i < ((stoAt life bk bk.length).items.length : Int))) : whereE life bk i = 6 := by unfold whereE; rw [if_neg (by omega), if_neg h2]
theorem whereF_no {life : Int} {bk : List Deed} {i : Int} (h : whereE life bk i ≠ 0) : whereF life bk i = [] := by unfold whereF; rw [if_neg h]
theorem whereF_ok {life : Int} {bk : List Deed} {i : Int} (h : whereE life bk i = 0) : whereF life bk i = outTo life bk i bk.length := by unfold whereF; rw [if_pos h]
theorem first_bad {life : Int} {bk : List Deed} : ∀ {j : Nat}, j < bk.length → errAt life bk j ≠ 0 → ∃ m, m < bk.length ∧ (∀ q, q < m → errAt life bk q = 0) ∧ errAt life bk m ≠ 0
  | j, hj, he => by
    by_cases h : ∀ q, q < j → errAt life bk q = 0
    · exact ⟨j, hj, h, he⟩
    · have h2 : ∃ q, q < j ∧ errAt life bk q ≠ 0 := Classical.byContradiction fun hn => h fun q hq => Classical.byContradiction fun hb => hn ⟨q, hq, hb⟩
      obtain ⟨q, hq, hb⟩ := h2
      exact first_bad (j := q) (by omega) hb
theorem playX_sto {life : Int} {bk : List Deed} (h : playX life bk = (0, 0)) : Valid (stoAt life bk bk.length) := by
  by_cases hn : 200 < bk.length
  · rw [playX_many hn] at h; simp at h
  · by_cases hl : 1 ≤ life ∧ life ≤ 1000
    · refine (stoAt_ok (valid0.2 hl) fun j hj => ?_).1
      refine Classical.byContradiction fun he => ?_
      obtain ⟨m, hm, hb, hne⟩ : ∃ m, m < bk.length ∧ (∀ q, q < m → errAt life bk q = 0) ∧ errAt life bk m ≠ 0 := first_bad hj he
      rw [playX_bad hn hl hb hm hne] at h
      exact hne (congrArg Prod.snd h)
    · rw [playX_life hn hl] at h; simp at h
set_option maxHeartbeats 2000000 in
theorem pWhere_p (life : Int) (bk : List Deed) (i : Int) (hu : ∀ j, j < bk.length → u8ok (el bk j).kind) : PCalls Try.prog 42 [vi life, encDeeds bk, vi i] (· = .tup [encInts (whereF life bk i), vi (whereE life bk i)]) := by
  refine pcalls_of_aw Try.func42 rfl (Nat.le_of_ble_eq_true rfl) ?_
  (repeat' (first | (refine ar_isq ?_; first | refine zmv ?_ | refine zas ?_ | (refine is_load ?_; first | refine zlp ?_ | refine zlr ?_) | (refine is_binOp ?_; first | refine zneq ?_ | refine zsub ?_) | (refine is_fieldAddr ?_; first | refine zfp ?_ | refine zfr ?_) | (refine is_call ?_; first | refine zll ?_ | refine zls ?_ | refine zln ?_ | refine zle ?_) | refine zex ?_ | refine znt ?_ | refine zncp ?_ | refine zncr ?_ | refine zmf ?_) | ((refine ar_gcall (H0 := [.arr 1 1 (fun _ => vi i), .arr 1 1 (fun _ => vnil)]) [0, 1] [] (first := []) (cap := []) fn63 rfl rfl (xs := [vi life, encDeeds bk, .fn (.func 66) [] [.ptr 1 0 0 0, .ptr 1 1 0 0]]) ⟨.closed rfl, .closed rfl, .fn rfl (fun _ _ _ h => by cases h) rfl (fun j v x h h2 => match j, h, h2 with | 0, h, h2 => by cases h; cases h2; exact .ptr rfl | 1, h, h2 => by cases h; cases h2; exact .ptr rfl | j + 2, h, _ => by cases h), trivial⟩ rfl (by decide) (fun _ h => by cases h) ⟨.inl ⟨0, _, rfl, rfl, fun _ _ => .closed rfl⟩, .inl ⟨1, _, rfl, rfl, fun _ _ => .closed rfl⟩, trivial⟩ (by simp) (play2_p life bk i hu) (dc rfl) ?_ (fun _ _ h => h.elim); rintro _ _ (⟨h0, rfl, rfl⟩ | ⟨h0, rfl, rfl⟩) <;> (try (rw [joinW2 (by exact rfl)]; unfold whB; have hfew := (playX_sto h0).1; unfold Few at hfew)))) | (((refine ar_subk_l (sub_frzL (t := 31) vi ([i]) rfl rfl rfl rfl (fun _ _ => rfl) (fun _ => rfl)) ?_); refine ar_pcall (own := false) fn50 rfl rfl (.cons (.closed rfl) (.cons (.closed rfl) (.cons (.closed rfl) .nil))) (from_p _ _ [i]) (by simp) (dc rfl) ?_; intro _ hv; subst hv)) | (refine ar_buildLE vi ([i]) (by exact ty rfl) (by exact rfl) (by exact ty rfl) (by exact rfl) (by exact rfl) (by exact Nat.succ_pos _) (by exact rfl) (by exact dc rfl) (by exact rfl) (by exact fun _ => ⟨rfl, rfl⟩) (by exact dc rfl) ?_) | (refine zbx ?_) | (refine zal ?_) | (refine zb1 ?_) | (refine zb0 ?_) | (refine ar_nil ?_) | (refine aw_seq ?_) | (refine aw_skip ?_) | (refine aw_block ?_) | (refine aw_exit ?_) | (refine aw_region ?_) | (refine aw_drawn (id := 5) [(0, 0), (1, 0), (2, 0), (3, 0), (4, 0), (5, 0), (6, 0), (7, 0), (8, 1), (9, 1), (10, 0)] mixed (by kernel_rfl) ?_) | (refine aw_drawn (id := 5) [(0, 0), (1, 0), (2, 0), (3, 0), (4, 0), (5, 0), (6, 0), (7, 0), (8, 1), (9, 2), (10, 0)] mixed (by kernel_rfl) ?_) | (refine zco ?_ ?_ <;> intro hg <;> first | exact absurd hg (by decide) | ((try replace hg := HG.out hg); (try dsimp only at hg); (try rw [fromB_one] at hg); (try rw [withinB_iff] at hg); (try rw [withinB_no] at hg); (try (have _h : True := hg; clear _h hg)); first | (exfalso; omega) | skip))))
  all_goals first
    | (have he := whereE_play (i := i) h0
       (refine aw_mono_r (env' := [(6, encInts []), (7, vi (playX life bk).2)]) (H' := []) ?_ ?_; (focus ((refine sub_to [] [] rfl ?_ ?_ <;> (repeat' (first | exact trivial | refine ⟨⟨_, rfl, ?_⟩, ?_⟩ | refine ⟨bsub_snoc rfl rfl (fun _ => rfl) ?_, ?_⟩ | refine ⟨bsub_one rfl rfl ?_, ?_⟩ | refine ⟨bsub_all rfl rfl (fun _ _ => rfl) (fun _ => rfl), ?_⟩ | refine ⟨bsub_updL rfl rfl ?_ (fun _ _ _ => rfl) (fun _ => rfl), ?_⟩ | refine ⟨.inl ⟨_, _, rfl, rfl, ?_⟩, ?_⟩ | exact ⟨.inr ⟨rfl, rfl⟩, trivial⟩ | refine ⟨.inr ⟨rfl, rfl⟩, ?_⟩ | (intro _ _) | exact vz1 | exact vz2 | fail))); done))); (refine aw_ret ?_; (repeat (first | refine ret_then ?_ | refine ret_block ?_)); refine bq2 rfl rfl ⟨?_, rfl⟩); rw [whereF_no (by omega), he]; done)
    | (have he := whereE_none (i := i) (congrArg Prod.snd h0) (by omega)
       (refine aw_mono_r (env' := [(6, encInts []), (7, vi 6)]) (H' := []) ?_ ?_; (focus ((refine sub_to [] [] rfl ?_ ?_ <;> (repeat' (first | exact trivial | refine ⟨⟨_, rfl, ?_⟩, ?_⟩ | refine ⟨bsub_snoc rfl rfl (fun _ => rfl) ?_, ?_⟩ | refine ⟨bsub_one rfl rfl ?_, ?_⟩ | refine ⟨bsub_all rfl rfl (fun _ _ => rfl) (fun _ => rfl), ?_⟩ | refine ⟨bsub_updL rfl rfl ?_ (fun _ _ _ => rfl) (fun _ => rfl), ?_⟩ | refine ⟨.inl ⟨_, _, rfl, rfl, ?_⟩, ?_⟩ | exact ⟨.inr ⟨rfl, rfl⟩, trivial⟩ | refine ⟨.inr ⟨rfl, rfl⟩, ?_⟩ | (intro _ _) | exact vz1 | exact vz2 | fail))); done))); (refine aw_ret ?_; (repeat (first | refine ret_then ?_ | refine ret_block ?_)); refine bq2 rfl rfl ⟨?_, rfl⟩); rw [whereF_no (by omega), he]; done)
    | (have he := whereE_ok (i := i) (congrArg Prod.snd h0) (by omega)
       (refine aw_mono_r (env' := [(6, encInts (outTo life bk i bk.length)), (7, vi 0)]) (H' := []) ?_ ?_; (focus ((refine sub_to [] [6] rfl ?_ ?_ <;> (repeat' (first | exact trivial | refine ⟨⟨_, rfl, ?_⟩, ?_⟩ | refine ⟨bsub_snoc rfl rfl (fun _ => rfl) ?_, ?_⟩ | refine ⟨bsub_one rfl rfl ?_, ?_⟩ | refine ⟨bsub_all rfl rfl (fun _ _ => rfl) (fun _ => rfl), ?_⟩ | refine ⟨bsub_updL rfl rfl ?_ (fun _ _ _ => rfl) (fun _ => rfl), ?_⟩ | refine ⟨.inl ⟨_, _, rfl, rfl, ?_⟩, ?_⟩ | exact ⟨.inr ⟨rfl, rfl⟩, trivial⟩ | refine ⟨.inr ⟨rfl, rfl⟩, ?_⟩ | (intro _ _) | exact vz1 | exact vz2 | fail))); done))); (refine aw_ret ?_; (repeat (first | refine ret_then ?_ | refine ret_block ?_)); refine bq2 rfl rfl ⟨?_, rfl⟩); rw [whereF_ok he, he]; done)
    | trace_state
end Go.Proofs.Ythpbjihnikapoaa
namespace Go.Proofs.Ythpbjihnikapoaa
open Go.RowKit
set_option maxHeartbeats 4000000 in
theorem do8_p (s : Sto) (a : Deed) (hu : u8ok a.kind) : PCalls Try.prog 36 [s.enc, a.enc] (· = .tup [(doF s a).enc, vi (doE s a)]) := by
  by_cases hV : Valid s
  · refine pcalls_of_aw Try.func36 rfl (Nat.le_of_ble_eq_true rfl) ?_
    (repeat' (first | (refine ar_isq ?_; first | refine zas ?_ | (refine is_load ?_; first | refine zlp ?_ | refine zlr ?_) | refine zex ?_ | refine znt ?_ | (refine ar_buildT ?_ (by exact ty rfl) (by exact rfl) (by exact sizes rfl) (by exact rfl) (by exact rfl) (by exact build rfl) (by exact dc rfl); intro _ hds; (try dsimp only [List.toList_toArray, cells_s, cells_emp, cells_agg, cells_list, cells_sl, cells_ptr, cells_ref, cells_fn, cells_vi, cells_vb, cells_vnil, constV, List.map_cons, List.map_nil, List.take_succ_cons, List.take_zero, List.drop_succ_cons, List.drop_zero, List.cons_append, List.nil_append, List.append_nil, LV_cells] at hds); (try dsimp only [cells_s, cells_emp, cells_agg, cells_list, cells_sl, cells_ptr, cells_ref, cells_fn, cells_vi, cells_vb, cells_vnil, constV, List.map_cons, List.map_nil, List.take_succ_cons, List.take_zero, List.drop_succ_cons, List.drop_zero, List.cons_append, List.nil_append, List.append_nil, LV_cells] at hds); subst hds)) | (refine ar_pcall (own := false) fn58 rfl rfl (.cons (.closed rfl) .nil) (store8_p s) (by simp) (dc rfl) ?_; intro _ hv; subst hv) | (refine ar_pcall (own := false) fn62 rfl rfl (.cons (.closed rfl) (.cons (.closed rfl) .nil)) (done8_p s a hu hV) (by simp) (dc rfl) ?_; intro _ hv; subst hv) | (refine zbx ?_) | (refine zal ?_) | (refine zsvs ?_) | (refine zsva ?_) | (refine zses ?_) | (refine zsea ?_) | (refine ar_nil ?_) | (refine aw_seq ?_) | (refine aw_skip ?_) | (refine aw_block ?_) | (refine aw_exit ?_) | (refine aw_region ?_) | (refine zco ?_ ?_ <;> intro hg <;> first | exact absurd hg (by decide) | ((try replace hg := HG.out hg); (try dsimp only at hg); (try (have _h : True := hg; clear _h hg)); first | (exfalso; omega) | skip))))
    all_goals first
      | (exfalso; simp_all; done)
      | ((refine aw_mono_r (env' := [(4, .ptr 3 0 0 0), (5, vi (doE s a))]) (H' := [.arr 3 1 (fun _ => (doF s a).enc)]) ?_ ?_; (focus ((refine sub_to [some 2] [] rfl ?_ ?_ <;> (repeat' (first | exact trivial | refine ⟨⟨_, rfl, ?_⟩, ?_⟩ | refine ⟨bsub_snoc rfl rfl (fun _ => rfl) ?_, ?_⟩ | refine ⟨bsub_one rfl rfl ?_, ?_⟩ | refine ⟨bsub_all rfl rfl (fun _ _ => rfl) (fun _ => rfl), ?_⟩ | refine ⟨bsub_updL rfl rfl ?_ (fun _ _ _ => rfl) (fun _ => rfl), ?_⟩ | refine ⟨.inl ⟨_, _, rfl, rfl, ?_⟩, ?_⟩ | exact ⟨.inr ⟨rfl, rfl⟩, trivial⟩ | refine ⟨.inr ⟨rfl, rfl⟩, ?_⟩ | (intro _ _) | exact vz1 | exact vz2 | fail))); done)))
         refine aw_ret ?_; (repeat (first | refine ret_then ?_ | refine ret_block ?_))
         exact do_ret ⟨rfl, rfl⟩)
      | trace_state
  · refine pcalls_of_aw Try.func36 rfl (Nat.le_of_ble_eq_true rfl) ?_
    (repeat' (first | (refine ar_isq ?_; first | refine zas ?_ | (refine is_load ?_; first | refine zlp ?_ | refine zlr ?_) | refine zex ?_ | refine znt ?_ | (refine ar_buildT ?_ (by exact ty rfl) (by exact rfl) (by exact sizes rfl) (by exact rfl) (by exact rfl) (by exact build rfl) (by exact dc rfl); intro _ hds; (try dsimp only [List.toList_toArray, cells_s, cells_emp, cells_agg, cells_list, cells_sl, cells_ptr, cells_ref, cells_fn, cells_vi, cells_vb, cells_vnil, constV, List.map_cons, List.map_nil, List.take_succ_cons, List.take_zero, List.drop_succ_cons, List.drop_zero, List.cons_append, List.nil_append, List.append_nil, LV_cells] at hds); (try dsimp only [cells_s, cells_emp, cells_agg, cells_list, cells_sl, cells_ptr, cells_ref, cells_fn, cells_vi, cells_vb, cells_vnil, constV, List.map_cons, List.map_nil, List.take_succ_cons, List.take_zero, List.drop_succ_cons, List.drop_zero, List.cons_append, List.nil_append, List.append_nil, LV_cells] at hds); subst hds)) | (refine ar_pcall (own := false) fn58 rfl rfl (.cons (.closed rfl) .nil) (store8_p s) (by simp) (dc rfl) ?_; intro _ hv; subst hv) | (refine zbx ?_) | (refine zal ?_) | (refine zsvs ?_) | (refine zsva ?_) | (refine zses ?_) | (refine zsea ?_) | (refine ar_nil ?_) | (refine aw_seq ?_) | (refine aw_skip ?_) | (refine aw_block ?_) | (refine aw_exit ?_) | (refine aw_region ?_) | (refine zco ?_ ?_ <;> intro hg <;> first | exact absurd hg (by decide) | ((try replace hg := HG.out hg); (try dsimp only at hg); (try (have _h : True := hg; clear _h hg)); first | (exfalso; omega) | skip))))
    all_goals first
      | (exfalso; simp_all; done)
      | ((refine aw_mono_r (env' := [(4, .ptr 3 0 0 0), (5, vi 80)]) (H' := [.arr 3 1 (fun _ => noSto.enc)]) ?_ ?_; (focus ((refine sub_to [some 2] [] rfl ?_ ?_ <;> (repeat' (first | exact trivial | refine ⟨⟨_, rfl, ?_⟩, ?_⟩ | refine ⟨bsub_snoc rfl rfl (fun _ => rfl) ?_, ?_⟩ | refine ⟨bsub_one rfl rfl ?_, ?_⟩ | refine ⟨bsub_all rfl rfl (fun _ _ => rfl) (fun _ => rfl), ?_⟩ | refine ⟨bsub_updL rfl rfl ?_ (fun _ _ _ => rfl) (fun _ => rfl), ?_⟩ | refine ⟨.inl ⟨_, _, rfl, rfl, ?_⟩, ?_⟩ | exact ⟨.inr ⟨rfl, rfl⟩, trivial⟩ | refine ⟨.inr ⟨rfl, rfl⟩, ?_⟩ | (intro _ _) | exact vz1 | (exact VSub.aggL ⟨.closed rfl, .nilList, .nilList, trivial⟩) | exact vz2 | fail))); done)))
         refine aw_ret ?_; (repeat (first | refine ret_then ?_ | refine ret_block ?_))
         refine do_ret ⟨?_, rfl⟩
         rw [doF_bad (by rw [doE_bad hV]; decide), doE_bad hV])
      | trace_state
end Go.Proofs.Ythpbjihnikapoaa
namespace Go.Proofs.Ythpbjihnikapoaa
open Go.RowKit
theorem bq3s {F : Sto} {x e : Int} {R Rp : V → Heap → Prop} {L : Heap} (hR : R (.tup [F.enc, vi x, vi e]) (.arr 3 1 (fun _ => F.enc) :: L)) : BodyQ Try.prog #[.cell 4 54, .tmp 5, .tmp 6] R Rp .ret [(4, .ptr 3 0 0 0), (5, vi x), (6, vi e)] (.arr 3 1 (fun _ => F.enc) :: L) :=
  bq3c (f := fun _ => F.enc) (v := F.enc) (ty rfl) rfl rfl Nat.one_pos rfl rfl rfl hR
theorem playR_bad {life : Int} {bk : List Deed} {x e : Int} (h : playX life bk = (x, e)) (he : e ≠ 0) : V.tup [noSto.enc, vi x, vi e] = .tup [(playF life bk).enc, vi (playX life bk).1, vi (playX life bk).2] := by rw [playF_bad (by rw [h]; exact he), h]
theorem playR_ok {life : Int} {bk : List Deed} (h : playX life bk = (0, 0)) : V.tup [(stoAt life bk bk.length).enc, vi 0, vi 0] = .tup [(playF life bk).enc, vi (playX life bk).1, vi (playX life bk).2] := by rw [playF_ok (by rw [h]), h]
end Go.Proofs.Ythpbjihnikapoaa
namespace Go.Proofs.Ythpbjihnikapoaa
open Go.RowKit
theorem playX_all {life : Int} {bk : List Deed} (h : playX life bk = (0, 0)) : ¬ 200 < bk.length ∧ (1 ≤ life ∧ life ≤ 1000) ∧ ∀ j, j < bk.length → errAt life bk j = 0 := by
  by_cases hn : 200 < bk.length
  · rw [playX_many hn] at h; simp at h
  · by_cases hl : 1 ≤ life ∧ life ≤ 1000
    · refine ⟨hn, hl, fun j hj => Classical.byContradiction fun he => ?_⟩
      obtain ⟨m, hm, hb, hne⟩ := first_bad hj he
      rw [playX_bad hn hl hb hm hne] at h
      exact hne (congrArg Prod.snd h)
    · rw [playX_life hn hl] at h; simp at h
theorem playX_zero {life : Int} {bk : List Deed} (h : (playX life bk).2 = 0) : playX life bk = (0, 0) := by
  by_cases hn : 200 < bk.length
  · rw [playX_many hn] at h; simp at h
  · by_cases hl : 1 ≤ life ∧ life ≤ 1000
    · by_cases hJ : ∀ j, j < bk.length → errAt life bk j = 0
      · exact playX_ok hn hl hJ
      · obtain ⟨j, hj, he⟩ : ∃ j, j < bk.length ∧ errAt life bk j ≠ 0 := Classical.byContradiction fun h2 => hJ fun j hj => Classical.byContradiction fun he => h2 ⟨j, hj, he⟩
        obtain ⟨m, hm, hb, hne⟩ := first_bad hj he
        rw [playX_bad hn hl hb hm hne] at h
        exact (hne h).elim
    · rw [playX_life hn hl] at h; simp at h
end Go.Proofs.Ythpbjihnikapoaa
namespace Go.Proofs.Ythpbjihnikapoaa
open Go.RowKit
set_option maxHeartbeats 4000000 in
theorem pPlay_p (life : Int) (bk : List Deed) (hu : ∀ j, j < bk.length → u8ok (el bk j).kind) : PCalls Try.prog 40 [vi life, encDeeds bk] (· = .tup [(playF life bk).enc, vi (playX life bk).1, vi (playX life bk).2]) := by
  refine pcalls_of_aw Try.func40 rfl (Nat.le_of_ble_eq_true rfl) ?_
  
  (repeat' (first | (refine ar_isq ?_; first | refine zmv ?_ | refine zas ?_ | (refine is_load ?_; first | refine zlp ?_ | refine zlr ?_) | refine zneq ?_ | (refine is_fieldAddr ?_; first | refine zfp ?_ | refine zfr ?_) | refine zex ?_ | refine zncp ?_ | refine zncr ?_ | (refine ar_buildT ?_ (by exact ty rfl) (by exact rfl) (by exact sizes rfl) (by exact rfl) (by exact rfl) (by exact build rfl) (by exact dc rfl); intro _ hds; (try dsimp only [List.toList_toArray, cells_s, cells_emp, cells_agg, cells_list, cells_sl, cells_ptr, cells_ref, cells_fn, cells_vi, cells_vb, cells_vnil, constV, List.map_cons, List.map_nil, List.take_succ_cons, List.take_zero, List.drop_succ_cons, List.drop_zero, List.cons_append, List.nil_append, List.append_nil, LV_cells] at hds); (try dsimp only [cells_s, cells_emp, cells_agg, cells_list, cells_sl, cells_ptr, cells_ref, cells_fn, cells_vi, cells_vb, cells_vnil, constV, List.map_cons, List.map_nil, List.take_succ_cons, List.take_zero, List.drop_succ_cons, List.drop_zero, List.cons_append, List.nil_append, List.append_nil, LV_cells] at hds); subst hds)) | ((refine ar_gcall0 fn63 rfl rfl [vi life, encDeeds bk, .fn (.func 64) [] []] ⟨.closed rfl, .closed rfl, .closed rfl, trivial⟩ (play1_p life bk hu) (dc rfl) ?_ (fun _ _ h => h.elim); rintro _ _ (⟨h0, rfl, rfl⟩ | ⟨h0, rfl, rfl⟩) <;> (try rw [stoB_ren]))) | (refine zal ?_) | (refine zsvs ?_) | (refine zsva ?_) | (refine zses ?_) | (refine zsea ?_) | (refine ar_nil ?_) | (refine aw_seq ?_) | (refine aw_skip ?_) | (refine aw_block ?_) | (refine aw_exit ?_) | (refine aw_region ?_) | (refine zco ?_ ?_ <;> intro hg <;> first | exact absurd hg (by decide) | ((try replace hg := HG.out hg); (try dsimp only at hg); (try (have _h : True := hg; clear _h hg)); first | (exfalso; omega) | skip))))
  all_goals first
    | ((refine aw_mono_r (env' := [(4, .ptr 3 0 0 0), (5, vi 0), (6, vi 0)]) (H' := [.arr 3 1 (fun _ => (stoAt life bk bk.length).enc)]) ?_ ?_; (focus ((refine sub_to [some 0] [2, 3] rfl ?_ ?_ <;> (repeat' (first | exact trivial | refine ⟨⟨_, rfl, ?_⟩, ?_⟩ | refine ⟨bsub_snoc rfl rfl (fun _ => rfl) ?_, ?_⟩ | refine ⟨bsub_one rfl rfl ?_, ?_⟩ | refine ⟨bsub_all rfl rfl (fun _ _ => rfl) (fun _ => rfl), ?_⟩ | refine ⟨bsub_updL rfl rfl ?_ (fun _ _ _ => rfl) (fun _ => rfl), ?_⟩ | refine ⟨.inl ⟨_, _, rfl, rfl, ?_⟩, ?_⟩ | exact ⟨.inr ⟨rfl, rfl⟩, trivial⟩ | refine ⟨.inr ⟨rfl, rfl⟩, ?_⟩ | (intro _ _) | exact vz1 | (exact VSub.aggL ⟨.closed rfl, frzLB (by simp; done) rfl (fun _ => rfl) rfl, frzLB (by simp; done) rfl (fun _ => rfl) rfl, trivial⟩) | exact vz2 | fail))); done)))
       refine aw_ret ?_; (repeat (first | refine ret_then ?_ | refine ret_block ?_))
       exact bq3s ⟨playR_ok h0, rfl⟩)
    | ((refine aw_mono_r (env' := [(4, .ptr 3 0 0 0), (5, vi (playX life bk).1), (6, vi (playX life bk).2)]) (H' := [.arr 3 1 (fun _ => noSto.enc)]) ?_ ?_; (focus ((refine sub_to [some 0] [] rfl ?_ ?_ <;> (repeat' (first | exact trivial | refine ⟨⟨_, rfl, ?_⟩, ?_⟩ | refine ⟨bsub_snoc rfl rfl (fun _ => rfl) ?_, ?_⟩ | refine ⟨bsub_one rfl rfl ?_, ?_⟩ | refine ⟨bsub_all rfl rfl (fun _ _ => rfl) (fun _ => rfl), ?_⟩ | refine ⟨bsub_updL rfl rfl ?_ (fun _ _ _ => rfl) (fun _ => rfl), ?_⟩ | refine ⟨.inl ⟨_, _, rfl, rfl, ?_⟩, ?_⟩ | exact ⟨.inr ⟨rfl, rfl⟩, trivial⟩ | refine ⟨.inr ⟨rfl, rfl⟩, ?_⟩ | (intro _ _) | exact vz1 | (exact VSub.aggL ⟨.closed rfl, .nilList, .nilList, trivial⟩) | exact vz2 | fail))); done)))
       refine aw_ret ?_; (repeat (first | refine ret_then ?_ | refine ret_block ?_))
       exact bq3s ⟨playR_bad rfl h0, rfl⟩)
    | trace_state
end Go.Proofs.Ythpbjihnikapoaa
namespace Go.Proofs.Ythpbjihnikapoaa
open Go.ChangeShapes Go.WideShapes Go.ChangeAt Go.RowKit Go.Deep
structure Mk where
  x : Int
  y : Int
instance : Inhabited Mk := ⟨⟨0, 0⟩⟩
structure Bx where
  lx : Int
  ly : Int
  hx : Int
  hy : Int
def Mk.enc (m : Mk) : V := .agg [vi m.x, vi m.y]
def Mk.wf (m : Mk) : Prop := i64ok m.x ∧ i64ok m.y
abbrev encMarks (l : List Mk) : V := LV 2 Mk.enc l
def Bx.enc (b : Bx) : V := .agg [vi b.lx, vi b.ly, vi b.hx, vi b.hy]
set_option maxRecDepth 100000 in
theorem rv_mark : ReadsV Try.prog 24 Mk.enc Mk.wf 2 :=
  ⟨by kernel_rfl, by omega, fun {_ _ _ _ _ _ _ cs _} h => by
    have hlen := struct_len Try.underlying24 h
    rw [show Try.prog.cellsOf 24 = 2 by kernel_rfl] at hlen
    obtain ⟨k0, o0, l0, e0⟩ := struct_part Try.underlying24 h 0 rfl rv_Int
    obtain ⟨k1, o1, l1, e1⟩ := struct_part Try.underlying24 h 1 rfl rv_Int
    refine ⟨⟨k0, k1⟩, ⟨o0, o1⟩, hlen, hlen.symm, fun j x u hx hu => ?_⟩
    match j, hx with
    | 0, hx => cases hx; exact cells_one e0 rfl hu
    | 1, hx => cases hx; exact cells_one e1 rfl hu
    | j + 2, hx => simp [Mk.enc, cells_agg] at hx⟩
def oneB (want seen : List Mk) (tol : Int) (j : Nat) : Bx :=
  ⟨(el want j).x - (el seen j).x - tol, (el want j).y - (el seen j).y - tol, (el want j).x - (el seen j).x + tol, (el want j).y - (el seen j).y + tol⟩
def meetB (a b : Bx) : Bx := ⟨max a.lx b.lx, max a.ly b.ly, min a.hx b.hx, min a.hy b.hy⟩
def noBx : Bx := ⟨0, 0, 0, 0⟩
def boxAt (want seen : List Mk) (tol : Int) : Nat → Bx
  | 0 => noBx
  | k + 1 => meetB (if k = 0 then oneB want seen tol 0 else boxAt want seen tol k) (oneB want seen tol k)
abbrev nearB (x : Int) : Prop := -10000 ≤ x ∧ x ≤ 10000
abbrev pairB (want seen : List Mk) (j : Nat) : Prop := nearB (el seen j).x ∧ nearB (el seen j).y ∧ nearB (el want j).x ∧ nearB (el want j).y
def regE (want seen : List Mk) (tol : Int) : Int :=
  if ¬ (1 ≤ want.length ∧ want.length ≤ 20) then 4 else if seen.length ≠ want.length ∨ ¬ (0 ≤ tol ∧ tol ≤ 1000) then 2 else if ∀ j, j < seen.length → pairB want seen j then
    (if (boxAt want seen tol seen.length).lx > (boxAt want seen tol seen.length).hx ∨ (boxAt want seen tol seen.length).ly > (boxAt want seen tol seen.length).hy then 6 else 0) else 2
def regF (want seen : List Mk) (tol : Int) : Bx := if regE want seen tol = 0 then boxAt want seen tol seen.length else noBx
section
variable {want seen : List Mk} {tol : Int}
theorem regE_many (h : ¬ (1 ≤ want.length ∧ want.length ≤ 20)) : regE want seen tol = 4 := by unfold regE; rw [if_pos h]
theorem regE_arg (h : 1 ≤ want.length ∧ want.length ≤ 20) (h2 : seen.length ≠ want.length ∨ ¬ (0 ≤ tol ∧ tol ≤ 1000)) : regE want seen tol = 2 := by unfold regE; rw [if_neg (by omega), if_pos h2]
theorem regE_far (h : 1 ≤ want.length ∧ want.length ≤ 20) (h2 : seen.length = want.length) (h3 : 0 ≤ tol ∧ tol ≤ 1000) (h4 : ¬ ∀ j, j < seen.length → pairB want seen j) : regE want seen tol = 2 := by unfold regE; rw [if_neg (by omega), if_neg (by omega), if_neg h4]
theorem regE_none (h : 1 ≤ want.length ∧ want.length ≤ 20) (h2 : seen.length = want.length) (h3 : 0 ≤ tol ∧ tol ≤ 1000) (h4 : ∀ j, j < seen.length → pairB want seen j) (h5 : (boxAt want seen tol seen.length).lx > (boxAt want seen tol seen.length).hx ∨ (boxAt want seen tol seen.length).ly > (boxAt want seen tol seen.length).hy) : regE want seen tol = 6 := by unfold regE; rw [if_neg (by omega), if_neg (by omega), if_pos h4, if_pos h5]
theorem regE_ok (h : 1 ≤ want.length ∧ want.length ≤ 20) (h2 : seen.length = want.length) (h3 : 0 ≤ tol ∧ tol ≤ 1000) (h4 : ∀ j, j < seen.length → pairB want seen j) (h5 : ¬ ((boxAt want seen tol seen.length).lx > (boxAt want seen tol seen.length).hx ∨ (boxAt want seen tol seen.length).ly > (boxAt want seen tol seen.length).hy)) : regE want seen tol = 0 := by unfold regE; rw [if_neg (by omega), if_neg (by omega), if_pos h4, if_neg h5]
theorem regF_no (h : regE want seen tol ≠ 0) : regF want seen tol = noBx := by unfold regF; rw [if_neg h]
theorem regF_ok (h : regE want seen tol = 0) : regF want seen tol = boxAt want seen tol seen.length := by unfold regF; rw [if_pos h]
end
theorem fromB_four {lo hi a b c d : Int} : fromB lo hi [a, b, c, d] = true ↔ (lo ≤ a ∧ a ≤ hi) ∧ (lo ≤ b ∧ b ≤ hi) ∧ (lo ≤ c ∧ c ≤ hi) ∧ (lo ≤ d ∧ d ≤ hi) := by simp [fromB, withinB, and_assoc]
theorem bq2b {F : Bx} {e : Int} {R Rp : V → Heap → Prop} {L : Heap} (hR : R (.tup [F.enc, vi e]) (.arr 4 1 (fun _ => F.enc) :: L)) : BodyQ Try.prog #[.cell 6 26, .tmp 7] R Rp .ret [(6, .ptr 4 0 0 0), (7, vi e)] (.arr 4 1 (fun _ => F.enc) :: L) :=
  ⟨_, .inr (.inr (.inl ⟨_, _, _, _, rfl, ⟨_, 4, 0, 0, 0, 1, fun _ => F.enc, ty rfl, rfl, rfl, Nat.one_pos, rfl⟩, rfl, rfl⟩)), hR⟩
set_option maxHeartbeats 4000000 in
theorem pRegister_p (want seen : List Mk) (tol : Int) : PCalls Try.prog 16 [encMarks want, encMarks seen, vi tol] (· = .tup [(regF want seen tol).enc, vi (regE want seen tol)]) := by
  have hlen : want.length ≤ maxLen ∨ ¬ want.length ≤ maxLen := by omega
  refine pcalls_of_aw Try.func16 rfl (Nat.le_of_ble_eq_true rfl) ?_
  (repeat' (first | (refine ar_isq ?_; first | refine zmv ?_ | refine zas ?_ | (refine is_load ?_; first | refine zlp ?_ | refine zlr ?_) | (refine is_binOp ?_; first | refine zlss ?_ | refine zgtr ?_ | refine zeql ?_ | refine zneq ?_ | refine zadd ?_ | refine zsub ?_) | (refine is_fieldAddr ?_; first | refine zfp ?_ | refine zfr ?_) | (refine is_indexAddr ?_; first | refine zil ?_ | refine zis ?_ | refine zit ?_ | refine zia ?_ | refine zir ?_ | (refine zxl ?_; intro _ _ _) | (refine zxs ?_; intro _ _ _)) | (refine is_call ?_; first | refine zll ?_ | refine zls ?_ | refine zln ?_ | refine zle ?_ | refine zmin ?_ | refine zmax ?_) | (refine is_pick ?_; first | refine zpt ?_ | refine zpf ?_) | refine znt ?_ | (refine ar_buildT ?_ (by exact ty rfl) (by exact rfl) (by exact sizes rfl) (by exact rfl) (by exact rfl) (by exact build rfl) (by exact dc rfl); intro _ hds; (try dsimp only [List.toList_toArray, cells_s, cells_emp, cells_agg, cells_list, cells_sl, cells_ptr, cells_ref, cells_fn, cells_vi, cells_vb, cells_vnil, constV, List.map_cons, List.map_nil, List.take_succ_cons, List.take_zero, List.drop_succ_cons, List.drop_zero, List.cons_append, List.nil_append, List.append_nil, LV_cells] at hds); (try dsimp only [cells_s, cells_emp, cells_agg, cells_list, cells_sl, cells_ptr, cells_ref, cells_fn, cells_vi, cells_vb, cells_vnil, constV, List.map_cons, List.map_nil, List.take_succ_cons, List.take_zero, List.drop_succ_cons, List.drop_zero, List.cons_append, List.nil_append, List.append_nil, LV_cells] at hds); subst hds)) | (((refine ar_subk_l (sub_frzL (t := 15) vi ([(want.length : Int)]) rfl rfl rfl rfl (fun _ _ => rfl) (fun _ => rfl)) ?_); refine ar_pcall (own := false) fn50 rfl rfl (.cons (.closed rfl) (.cons (.closed rfl) (.cons (.closed rfl) .nil))) (from_p _ _ [(want.length : Int)]) (by simp) (dc rfl) ?_; intro _ hv; subst hv)) | (refine ar_buildLE vi ([(want.length : Int)]) (by exact ty rfl) (by exact rfl) (by exact ty rfl) (by exact rfl) (by exact rfl) (by exact Nat.succ_pos _) (by exact rfl) (by exact dc rfl) (by exact rfl) (by exact fun _ => ⟨rfl, rfl⟩) (by exact dc rfl) ?_) | (((refine ar_subk_l (sub_frzL (t := 26) vi ([tol]) rfl rfl rfl rfl (fun _ _ => rfl) (fun _ => rfl)) ?_); refine ar_pcall (own := false) fn50 rfl rfl (.cons (.closed rfl) (.cons (.closed rfl) (.cons (.closed rfl) .nil))) (from_p _ _ [tol]) (by simp) (dc rfl) ?_; intro _ hv; subst hv)) | (refine ar_buildLE vi ([tol]) (by exact ty rfl) (by exact rfl) (by exact ty rfl) (by exact rfl) (by exact rfl) (by exact Nat.succ_pos _) (by exact rfl) (by exact dc rfl) (by exact rfl) (by exact fun _ => ⟨rfl, rfl⟩) (by exact dc rfl) ?_) | (refine zal ?_) | (refine zb1 ?_) | (refine zb0 ?_) | (refine zsvs ?_) | (refine zsva ?_) | (refine zses ?_) | (refine zsea ?_) | (refine zg ?_ ?_ <;> intro hg <;> first | exact absurd hg (by decide) | ((try replace hg := HG.out hg); (try dsimp only at hg); (try rw [fromB_one] at hg); (try rw [fromB_four] at hg); (try rw [withinB_iff] at hg); (try rw [withinB_no] at hg); (try (have _h : True := hg; clear _h hg)); first | (exfalso; omega) | skip)) | (refine zgu ?_) | (refine ar_nil ?_) | (refine ar_forkL ?_ ?_) | (refine ar_lq rfl ?_) | (refine aw_seq ?_) | (refine aw_skip ?_) | (refine aw_block ?_) | (refine aw_exit ?_) | (refine aw_region ?_) | (refine aw_fork (id := 15) [[(16, 2), (10, 0), (11, 0), (12, 0), (13, 0), (17, 0), (18, 0), (19, 2)], [(16, 2), (11, 0), (12, 0), (13, 0), (17, 0), (18, 0), (19, 2)], [(16, 2), (12, 0), (13, 0), (17, 0), (18, 0), (19, 2)], [(16, 2), (13, 0), (17, 0), (18, 0), (19, 2)]] [(0, 0), (1, 0), (2, 0), (3, 0), (4, 0), (5, 0), (6, 0), (7, 0), (8, 0), (9, 0), (14, 0), (15, 0), (0, 3), (10, 1), (1, 3), (11, 1), (2, 3), (12, 1), (3, 3), (13, 1), (16, 2), (17, 0), (18, 0), (19, 2)] mixed (by kernel_rfl) ?_) | (refine aw_fork (id := 16) [[(16, 2), (10, 0), (11, 0), (12, 0), (13, 0), (17, 0), (18, 0), (19, 2)], [(16, 2), (11, 0), (12, 0), (13, 0), (17, 0), (18, 0), (19, 2)], [(16, 2), (12, 0), (13, 0), (17, 0), (18, 0), (19, 2)], [(16, 2), (13, 0), (17, 0), (18, 0), (19, 2)]] [(0, 0), (1, 0), (2, 0), (3, 0), (4, 0), (5, 0), (6, 0), (7, 0), (8, 0), (9, 0), (14, 0), (15, 0), (0, 3), (10, 1), (1, 3), (11, 1), (2, 3), (12, 1), (3, 3), (13, 1), (16, 2), (17, 0), (18, 0), (19, 2)] mixed (by kernel_rfl) ?_) | (refine zco ?_ ?_ <;> intro hg <;> first | exact absurd hg (by decide) | ((try replace hg := HG.out hg); (try dsimp only at hg); (try rw [fromB_one] at hg); (try rw [fromB_four] at hg); (try rw [withinB_iff] at hg); (try rw [withinB_no] at hg); (try (have _h : True := hg; clear _h hg)); first | (exfalso; omega) | skip))))
  all_goals (try ((refine aw_mono_r (env' := [(6, .ptr 4 0 0 0), (7, vi 4)]) (H' := [.arr 4 1 (fun _ => noBx.enc)]) ?_ ?_; (focus ((refine sub_to [some 0] [] rfl ?_ ?_ <;> (repeat' (first | exact trivial | refine ⟨⟨_, rfl, ?_⟩, ?_⟩ | refine ⟨bsub_snoc rfl rfl (fun _ => rfl) ?_, ?_⟩ | refine ⟨bsub_one rfl rfl ?_, ?_⟩ | refine ⟨bsub_all rfl rfl (fun _ _ => rfl) (fun _ => rfl), ?_⟩ | refine ⟨bsub_updL rfl rfl ?_ (fun _ _ _ => rfl) (fun _ => rfl), ?_⟩ | refine ⟨.inl ⟨_, _, rfl, rfl, ?_⟩, ?_⟩ | exact ⟨.inr ⟨rfl, rfl⟩, trivial⟩ | refine ⟨.inr ⟨rfl, rfl⟩, ?_⟩ | (intro _ _) | exact vz1 | exact vz2 | fail))); done))); refine aw_ret ?_; (repeat (first | refine ret_then ?_ | refine ret_block ?_)); refine bq2b ⟨?_, rfl⟩; have he := regE_many (want := want) (seen := seen) (tol := tol) (by omega); rw [regF_no (by omega), he]; done))
  all_goals (try ((refine aw_mono_r (env' := [(6, .ptr 4 0 0 0), (7, vi 2)]) (H' := [.arr 4 1 (fun _ => noBx.enc)]) ?_ ?_; (focus ((refine sub_to [some 0] [] rfl ?_ ?_ <;> (repeat' (first | exact trivial | refine ⟨⟨_, rfl, ?_⟩, ?_⟩ | refine ⟨bsub_snoc rfl rfl (fun _ => rfl) ?_, ?_⟩ | refine ⟨bsub_one rfl rfl ?_, ?_⟩ | refine ⟨bsub_all rfl rfl (fun _ _ => rfl) (fun _ => rfl), ?_⟩ | refine ⟨bsub_updL rfl rfl ?_ (fun _ _ _ => rfl) (fun _ => rfl), ?_⟩ | refine ⟨.inl ⟨_, _, rfl, rfl, ?_⟩, ?_⟩ | exact ⟨.inr ⟨rfl, rfl⟩, trivial⟩ | refine ⟨.inr ⟨rfl, rfl⟩, ?_⟩ | (intro _ _) | exact vz1 | exact vz2 | fail))); done))); refine aw_ret ?_; (repeat (first | refine ret_then ?_ | refine ret_block ?_)); refine bq2b ⟨?_, rfl⟩; have he := regE_arg (want := want) (seen := seen) (tol := tol) (by omega) (by omega); rw [regF_no (by omega), he]; done))
  have hw : 1 ≤ want.length ∧ want.length ≤ 20 := by omega
  have hsame : seen.length = want.length := by omega
  refine aw_for seen.length (fun k => ∀ j, j < k → pairB want seen j) (fun k => [(0, encMarks want), (2, vi tol), (6, .ptr 4 0 0 0), (8, .ptr 4 1 0 0), (31, encMarks seen), (32, vi seen.length), (33, vi k)]) (fun k => [.arr 4 1 (fun _ => noBx.enc), .arr 4 1 (fun _ => (boxAt want seen tol k).enc)]) (fun j hj => by omega) ?_ ?_
  · (refine sub_to [some 0, some 3] [] rfl ?_ ?_ <;> (repeat' (first | exact trivial | refine ⟨⟨_, rfl, ?_⟩, ?_⟩ | refine ⟨bsub_snoc rfl rfl (fun _ => rfl) ?_, ?_⟩ | refine ⟨bsub_one rfl rfl ?_, ?_⟩ | refine ⟨bsub_all rfl rfl (fun _ _ => rfl) (fun _ => rfl), ?_⟩ | refine ⟨bsub_updL rfl rfl ?_ (fun _ _ _ => rfl) (fun _ => rfl), ?_⟩ | refine ⟨.inl ⟨_, _, rfl, rfl, ?_⟩, ?_⟩ | exact ⟨.inr ⟨rfl, rfl⟩, trivial⟩ | refine ⟨.inr ⟨rfl, rfl⟩, ?_⟩ | (intro _ _) | exact vz1 | exact vz2 | fail)))
  intro k hk hJ
  by_cases hlt : k < seen.length
  · obtain ⟨⟨a, b, c, d⟩, hB⟩ : ∃ x, boxAt want seen tol k = x := ⟨_, rfl⟩
    rw [hB]
    by_cases hk0 : k = 0
    · have hN : boxAt want seen tol (k + 1) = meetB (oneB want seen tol k) (oneB want seen tol k) := by
        show meetB (if k = 0 then _ else _) _ = _
        rw [if_pos hk0, hk0]
      have hE : V.agg [vi (max ((el want k).x - (el seen k).x - tol) ((el want k).x - (el seen k).x - tol)), vi (max ((el want k).y - (el seen k).y - tol) ((el want k).y - (el seen k).y - tol)), vi (min ((el want k).x - (el seen k).x + tol) ((el want k).x - (el seen k).x + tol)), vi (min ((el want k).y - (el seen k).y + tol) ((el want k).y - (el seen k).y + tol))] = (boxAt want seen tol (k + 1)).enc := by rw [hN]; rfl
      (repeat' (first | (refine ar_isq ?_; first | refine zmv ?_ | refine zas ?_ | (refine is_load ?_; first | refine zlp ?_ | refine zlr ?_) | (refine is_binOp ?_; first | refine zlss ?_ | refine zgtr ?_ | refine zeql ?_ | refine zneq ?_ | refine zadd ?_ | refine zsub ?_) | (refine is_fieldAddr ?_; first | refine zfp ?_ | refine zfr ?_) | (refine is_indexAddr ?_; first | refine zil ?_ | refine zis ?_ | refine zit ?_ | refine zia ?_ | refine zir ?_ | refine zil (j := k) ?_ | refine zis (j := k) ?_ | refine zit (j := k) ?_ | (refine zxl ?_; intro _ _ _) | (refine zxs ?_; intro _ _ _)) | (refine is_call ?_; first | refine zll ?_ | refine zls ?_ | refine zln ?_ | refine zle ?_ | refine zmin ?_ | refine zmax ?_) | (refine is_pick ?_; first | refine zpt ?_ | refine zpf ?_) | refine znt ?_ | (refine ar_buildT ?_ (by exact ty rfl) (by exact rfl) (by exact sizes rfl) (by exact rfl) (by exact rfl) (by exact build rfl) (by exact dc rfl); intro _ hds; (try dsimp only [List.toList_toArray, cells_s, cells_emp, cells_agg, cells_list, cells_sl, cells_ptr, cells_ref, cells_fn, cells_vi, cells_vb, cells_vnil, constV, List.map_cons, List.map_nil, List.take_succ_cons, List.take_zero, List.drop_succ_cons, List.drop_zero, List.cons_append, List.nil_append, List.append_nil, LV_cells] at hds); (try dsimp only [cells_s, cells_emp, cells_agg, cells_list, cells_sl, cells_ptr, cells_ref, cells_fn, cells_vi, cells_vb, cells_vnil, constV, List.map_cons, List.map_nil, List.take_succ_cons, List.take_zero, List.drop_succ_cons, List.drop_zero, List.cons_append, List.nil_append, List.append_nil, LV_cells] at hds); subst hds)) | (((refine ar_sub_l (env' := [(0, encMarks want), (2, vi tol), (6, .ptr 4 0 0 0), (8, .ptr 4 1 0 0), (9, vi k), (31, encMarks seen), (32, vi seen.length), (33, vi k), (10, .ptr 2 2 0 0), (11, .ptr 2 3 0 0), (50, .sl 1 4 0 4)]) (H' := [.arr 4 1 (fun _ => noBx.enc), .arr 4 1 (fun _ => Bx.enc ⟨a, b, c, d⟩), .arr 2 1 (fun _ => (el seen k).enc), .arr 2 1 (fun _ => (el want k).enc), LB 1 vi [(el seen k).x, (el seen k).y, (el want k).x, (el want k).y]]) ?_ ?_; (focus ((refine sub_to [some 0, some 1, some 2, some 3, some 4] [] rfl ?_ ?_ <;> (repeat' (first | exact trivial | refine ⟨⟨_, rfl, ?_⟩, ?_⟩ | refine ⟨bsub_snoc rfl rfl (fun _ => rfl) ?_, ?_⟩ | refine ⟨bsub_one rfl rfl ?_, ?_⟩ | refine ⟨bsub_all rfl rfl (fun _ _ => rfl) (fun _ => rfl), ?_⟩ | refine ⟨bsub_updL rfl rfl ?_ (fun _ _ _ => rfl) (fun _ => rfl), ?_⟩ | refine ⟨.inl ⟨_, _, rfl, rfl, ?_⟩, ?_⟩ | exact ⟨.inr ⟨rfl, rfl⟩, trivial⟩ | refine ⟨.inr ⟨rfl, rfl⟩, ?_⟩ | (intro _ _) | exact vz1 | exact vz2 | fail))); done))); (refine ar_subk_l (sub_frzL (t := 50) vi ([(el seen k).x, (el seen k).y, (el want k).x, (el want k).y]) rfl rfl rfl rfl (fun _ _ => rfl) (fun _ => rfl)) ?_); refine ar_pcall (own := false) fn50 rfl rfl (.cons (.closed rfl) (.cons (.closed rfl) (.cons (.closed rfl) .nil))) (from_p _ _ [(el seen k).x, (el seen k).y, (el want k).x, (el want k).y]) (by simp) (dc rfl) ?_; intro _ hv; subst hv)) | (refine ar_buildLE vi ([(el seen k).x, (el seen k).y, (el want k).x, (el want k).y]) (by exact ty rfl) (by exact rfl) (by exact ty rfl) (by exact rfl) (by exact rfl) (by exact Nat.succ_pos _) (by exact rfl) (by exact dc rfl) (by exact rfl) (by exact fun _ => ⟨rfl, rfl⟩) (by exact dc rfl) ?_) | (refine zal ?_) | (refine zb1 ?_) | (refine zb0 ?_) | (refine zsvs ?_) | (refine zsva ?_) | (refine zses ?_) | (refine zsea ?_) | (refine zg ?_ ?_ <;> intro hg <;> first | exact absurd hg (by decide) | ((try replace hg := HG.out hg); (try dsimp only at hg); (try rw [fromB_one] at hg); (try rw [fromB_four] at hg); (try rw [withinB_iff] at hg); (try rw [withinB_no] at hg); (try (have _h : True := hg; clear _h hg)); first | (exfalso; omega) | skip)) | (refine zgu ?_) | (refine ar_nil ?_) | (refine ar_forkL ?_ ?_) | (refine ar_lq rfl ?_) | (refine aw_seq ?_) | (refine aw_skip ?_) | (refine aw_block ?_) | (refine aw_exit ?_) | (refine aw_region ?_) | (refine aw_fork (id := 15) [[(16, 2), (10, 0), (11, 0), (12, 0), (13, 0), (17, 0), (18, 0), (19, 2)], [(16, 2), (11, 0), (12, 0), (13, 0), (17, 0), (18, 0), (19, 2)], [(16, 2), (12, 0), (13, 0), (17, 0), (18, 0), (19, 2)], [(16, 2), (13, 0), (17, 0), (18, 0), (19, 2)]] [(0, 0), (1, 0), (2, 0), (3, 0), (4, 0), (5, 0), (6, 0), (7, 0), (8, 0), (9, 0), (14, 0), (15, 0), (0, 3), (10, 1), (1, 3), (11, 1), (2, 3), (12, 1), (3, 3), (13, 1), (16, 2), (17, 0), (18, 0), (19, 2)] mixed (by kernel_rfl) ?_) | (refine aw_fork (id := 16) [[(16, 2), (10, 0), (11, 0), (12, 0), (13, 0), (17, 0), (18, 0), (19, 2)], [(16, 2), (11, 0), (12, 0), (13, 0), (17, 0), (18, 0), (19, 2)], [(16, 2), (12, 0), (13, 0), (17, 0), (18, 0), (19, 2)], [(16, 2), (13, 0), (17, 0), (18, 0), (19, 2)]] [(0, 0), (1, 0), (2, 0), (3, 0), (4, 0), (5, 0), (6, 0), (7, 0), (8, 0), (9, 0), (14, 0), (15, 0), (0, 3), (10, 1), (1, 3), (11, 1), (2, 3), (12, 1), (3, 3), (13, 1), (16, 2), (17, 0), (18, 0), (19, 2)] mixed (by kernel_rfl) ?_) | (refine zco ?_ ?_ <;> intro hg <;> first | exact absurd hg (by decide) | ((try replace hg := HG.out hg); (try dsimp only at hg); (try rw [fromB_one] at hg); (try rw [fromB_four] at hg); (try rw [withinB_iff] at hg); (try rw [withinB_no] at hg); (try (have _h : True := hg; clear _h hg)); first | (exfalso; omega) | skip))))
      all_goals first
        | (exfalso; omega)
        | ((refine aw_mono_r (env' := [(6, .ptr 4 0 0 0), (7, vi 2)]) (H' := [.arr 4 1 (fun _ => noBx.enc)]) ?_ ?_; (focus ((refine sub_to [some 0] [] rfl ?_ ?_ <;> (repeat' (first | exact trivial | refine ⟨⟨_, rfl, ?_⟩, ?_⟩ | refine ⟨bsub_snoc rfl rfl (fun _ => rfl) ?_, ?_⟩ | refine ⟨bsub_one rfl rfl ?_, ?_⟩ | refine ⟨bsub_all rfl rfl (fun _ _ => rfl) (fun _ => rfl), ?_⟩ | refine ⟨bsub_updL rfl rfl ?_ (fun _ _ _ => rfl) (fun _ => rfl), ?_⟩ | refine ⟨.inl ⟨_, _, rfl, rfl, ?_⟩, ?_⟩ | exact ⟨.inr ⟨rfl, rfl⟩, trivial⟩ | refine ⟨.inr ⟨rfl, rfl⟩, ?_⟩ | (intro _ _) | exact vz1 | exact vz2 | fail))); done))); refine aw_ret ?_; (repeat (first | refine ret_then ?_ | refine ret_block ?_)); refine bq2b ⟨?_, rfl⟩; have he := regE_far (want := want) (seen := seen) (tol := tol) hw hsame (by omega) (fun h => by have h5 := fromB_four.2 (h k hlt); rw [hg] at h5; cases h5); rw [regF_no (by omega), he]; done)
        | ((first | refine loop_next (by omega) ?_ ?_ | refine (show _ ∧ _ ∧ SubOf _ _ _ _ _ _ from And.intro (by omega) (And.intro ?_ ?_))); (focus (((exact all_step hJ (by assumption))); done)); (focus ((refine sub_to [some 0, some 1] [] rfl ?_ ?_ <;> (repeat' (first | exact trivial | refine ⟨⟨_, rfl, ?_⟩, ?_⟩ | refine ⟨bsub_snoc rfl rfl (fun _ => rfl) ?_, ?_⟩ | refine ⟨bsub_one rfl rfl ?_, ?_⟩ | refine ⟨bsub_all rfl rfl (fun _ _ => rfl) (fun _ => rfl), ?_⟩ | refine ⟨bsub_updL rfl rfl ?_ (fun _ _ _ => rfl) (fun _ => rfl), ?_⟩ | refine ⟨.inl ⟨_, _, rfl, rfl, ?_⟩, ?_⟩ | exact ⟨.inr ⟨rfl, rfl⟩, trivial⟩ | refine ⟨.inr ⟨rfl, rfl⟩, ?_⟩ | (intro _ _) | exact vz1 | (exact .of_eq hE rfl) | exact vz2 | fail))); done)))
        | trace_state
    · have hN : boxAt want seen tol (k + 1) = meetB ⟨a, b, c, d⟩ (oneB want seen tol k) := by
        show meetB (if k = 0 then _ else _) _ = _
        rw [if_neg hk0, hB]
      have hE : V.agg [vi (max (a) ((el want k).x - (el seen k).x - tol)), vi (max (b) ((el want k).y - (el seen k).y - tol)), vi (min (c) ((el want k).x - (el seen k).x + tol)), vi (min (d) ((el want k).y - (el seen k).y + tol))] = (boxAt want seen tol (k + 1)).enc := by rw [hN]; rfl
      (repeat' (first | (refine ar_isq ?_; first | refine zmv ?_ | refine zas ?_ | (refine is_load ?_; first | refine zlp ?_ | refine zlr ?_) | (refine is_binOp ?_; first | refine zlss ?_ | refine zgtr ?_ | refine zeql ?_ | refine zneq ?_ | refine zadd ?_ | refine zsub ?_) | (refine is_fieldAddr ?_; first | refine zfp ?_ | refine zfr ?_) | (refine is_indexAddr ?_; first | refine zil ?_ | refine zis ?_ | refine zit ?_ | refine zia ?_ | refine zir ?_ | refine zil (j := k) ?_ | refine zis (j := k) ?_ | refine zit (j := k) ?_ | (refine zxl ?_; intro _ _ _) | (refine zxs ?_; intro _ _ _)) | (refine is_call ?_; first | refine zll ?_ | refine zls ?_ | refine zln ?_ | refine zle ?_ | refine zmin ?_ | refine zmax ?_) | (refine is_pick ?_; first | refine zpt ?_ | refine zpf ?_) | refine znt ?_ | (refine ar_buildT ?_ (by exact ty rfl) (by exact rfl) (by exact sizes rfl) (by exact rfl) (by exact rfl) (by exact build rfl) (by exact dc rfl); intro _ hds; (try dsimp only [List.toList_toArray, cells_s, cells_emp, cells_agg, cells_list, cells_sl, cells_ptr, cells_ref, cells_fn, cells_vi, cells_vb, cells_vnil, constV, List.map_cons, List.map_nil, List.take_succ_cons, List.take_zero, List.drop_succ_cons, List.drop_zero, List.cons_append, List.nil_append, List.append_nil, LV_cells] at hds); (try dsimp only [cells_s, cells_emp, cells_agg, cells_list, cells_sl, cells_ptr, cells_ref, cells_fn, cells_vi, cells_vb, cells_vnil, constV, List.map_cons, List.map_nil, List.take_succ_cons, List.take_zero, List.drop_succ_cons, List.drop_zero, List.cons_append, List.nil_append, List.append_nil, LV_cells] at hds); subst hds)) | (((refine ar_sub_l (env' := [(0, encMarks want), (2, vi tol), (6, .ptr 4 0 0 0), (8, .ptr 4 1 0 0), (9, vi k), (31, encMarks seen), (32, vi seen.length), (33, vi k), (10, .ptr 2 2 0 0), (11, .ptr 2 3 0 0), (50, .sl 1 4 0 4)]) (H' := [.arr 4 1 (fun _ => noBx.enc), .arr 4 1 (fun _ => Bx.enc ⟨a, b, c, d⟩), .arr 2 1 (fun _ => (el seen k).enc), .arr 2 1 (fun _ => (el want k).enc), LB 1 vi [(el seen k).x, (el seen k).y, (el want k).x, (el want k).y]]) ?_ ?_; (focus ((refine sub_to [some 0, some 1, some 2, some 3, some 4] [] rfl ?_ ?_ <;> (repeat' (first | exact trivial | refine ⟨⟨_, rfl, ?_⟩, ?_⟩ | refine ⟨bsub_snoc rfl rfl (fun _ => rfl) ?_, ?_⟩ | refine ⟨bsub_one rfl rfl ?_, ?_⟩ | refine ⟨bsub_all rfl rfl (fun _ _ => rfl) (fun _ => rfl), ?_⟩ | refine ⟨bsub_updL rfl rfl ?_ (fun _ _ _ => rfl) (fun _ => rfl), ?_⟩ | refine ⟨.inl ⟨_, _, rfl, rfl, ?_⟩, ?_⟩ | exact ⟨.inr ⟨rfl, rfl⟩, trivial⟩ | refine ⟨.inr ⟨rfl, rfl⟩, ?_⟩ | (intro _ _) | exact vz1 | exact vz2 | fail))); done))); (refine ar_subk_l (sub_frzL (t := 50) vi ([(el seen k).x, (el seen k).y, (el want k).x, (el want k).y]) rfl rfl rfl rfl (fun _ _ => rfl) (fun _ => rfl)) ?_); refine ar_pcall (own := false) fn50 rfl rfl (.cons (.closed rfl) (.cons (.closed rfl) (.cons (.closed rfl) .nil))) (from_p _ _ [(el seen k).x, (el seen k).y, (el want k).x, (el want k).y]) (by simp) (dc rfl) ?_; intro _ hv; subst hv)) | (refine ar_buildLE vi ([(el seen k).x, (el seen k).y, (el want k).x, (el want k).y]) (by exact ty rfl) (by exact rfl) (by exact ty rfl) (by exact rfl) (by exact rfl) (by exact Nat.succ_pos _) (by exact rfl) (by exact dc rfl) (by exact rfl) (by exact fun _ => ⟨rfl, rfl⟩) (by exact dc rfl) ?_) | (refine zal ?_) | (refine zb1 ?_) | (refine zb0 ?_) | (refine zsvs ?_) | (refine zsva ?_) | (refine zses ?_) | (refine zsea ?_) | (refine zg ?_ ?_ <;> intro hg <;> first | exact absurd hg (by decide) | ((try replace hg := HG.out hg); (try dsimp only at hg); (try rw [fromB_one] at hg); (try rw [fromB_four] at hg); (try rw [withinB_iff] at hg); (try rw [withinB_no] at hg); (try (have _h : True := hg; clear _h hg)); first | (exfalso; omega) | skip)) | (refine zgu ?_) | (refine ar_nil ?_) | (refine ar_forkL ?_ ?_) | (refine ar_lq rfl ?_) | (refine aw_seq ?_) | (refine aw_skip ?_) | (refine aw_block ?_) | (refine aw_exit ?_) | (refine aw_region ?_) | (refine aw_fork (id := 15) [[(16, 2), (10, 0), (11, 0), (12, 0), (13, 0), (17, 0), (18, 0), (19, 2)], [(16, 2), (11, 0), (12, 0), (13, 0), (17, 0), (18, 0), (19, 2)], [(16, 2), (12, 0), (13, 0), (17, 0), (18, 0), (19, 2)], [(16, 2), (13, 0), (17, 0), (18, 0), (19, 2)]] [(0, 0), (1, 0), (2, 0), (3, 0), (4, 0), (5, 0), (6, 0), (7, 0), (8, 0), (9, 0), (14, 0), (15, 0), (0, 3), (10, 1), (1, 3), (11, 1), (2, 3), (12, 1), (3, 3), (13, 1), (16, 2), (17, 0), (18, 0), (19, 2)] mixed (by kernel_rfl) ?_) | (refine aw_fork (id := 16) [[(16, 2), (10, 0), (11, 0), (12, 0), (13, 0), (17, 0), (18, 0), (19, 2)], [(16, 2), (11, 0), (12, 0), (13, 0), (17, 0), (18, 0), (19, 2)], [(16, 2), (12, 0), (13, 0), (17, 0), (18, 0), (19, 2)], [(16, 2), (13, 0), (17, 0), (18, 0), (19, 2)]] [(0, 0), (1, 0), (2, 0), (3, 0), (4, 0), (5, 0), (6, 0), (7, 0), (8, 0), (9, 0), (14, 0), (15, 0), (0, 3), (10, 1), (1, 3), (11, 1), (2, 3), (12, 1), (3, 3), (13, 1), (16, 2), (17, 0), (18, 0), (19, 2)] mixed (by kernel_rfl) ?_) | (refine zco ?_ ?_ <;> intro hg <;> first | exact absurd hg (by decide) | ((try replace hg := HG.out hg); (try dsimp only at hg); (try rw [fromB_one] at hg); (try rw [fromB_four] at hg); (try rw [withinB_iff] at hg); (try rw [withinB_no] at hg); (try (have _h : True := hg; clear _h hg)); first | (exfalso; omega) | skip))))
      all_goals first
        | (exfalso; omega)
        | ((refine aw_mono_r (env' := [(6, .ptr 4 0 0 0), (7, vi 2)]) (H' := [.arr 4 1 (fun _ => noBx.enc)]) ?_ ?_; (focus ((refine sub_to [some 0] [] rfl ?_ ?_ <;> (repeat' (first | exact trivial | refine ⟨⟨_, rfl, ?_⟩, ?_⟩ | refine ⟨bsub_snoc rfl rfl (fun _ => rfl) ?_, ?_⟩ | refine ⟨bsub_one rfl rfl ?_, ?_⟩ | refine ⟨bsub_all rfl rfl (fun _ _ => rfl) (fun _ => rfl), ?_⟩ | refine ⟨bsub_updL rfl rfl ?_ (fun _ _ _ => rfl) (fun _ => rfl), ?_⟩ | refine ⟨.inl ⟨_, _, rfl, rfl, ?_⟩, ?_⟩ | exact ⟨.inr ⟨rfl, rfl⟩, trivial⟩ | refine ⟨.inr ⟨rfl, rfl⟩, ?_⟩ | (intro _ _) | exact vz1 | exact vz2 | fail))); done))); refine aw_ret ?_; (repeat (first | refine ret_then ?_ | refine ret_block ?_)); refine bq2b ⟨?_, rfl⟩; have he := regE_far (want := want) (seen := seen) (tol := tol) hw hsame (by omega) (fun h => by have h5 := fromB_four.2 (h k hlt); rw [hg] at h5; cases h5); rw [regF_no (by omega), he]; done)
        | ((first | refine loop_next (by omega) ?_ ?_ | refine (show _ ∧ _ ∧ SubOf _ _ _ _ _ _ from And.intro (by omega) (And.intro ?_ ?_))); (focus (((exact all_step hJ (by assumption))); done)); (focus ((refine sub_to [some 0, some 1] [] rfl ?_ ?_ <;> (repeat' (first | exact trivial | refine ⟨⟨_, rfl, ?_⟩, ?_⟩ | refine ⟨bsub_snoc rfl rfl (fun _ => rfl) ?_, ?_⟩ | refine ⟨bsub_one rfl rfl ?_, ?_⟩ | refine ⟨bsub_all rfl rfl (fun _ _ => rfl) (fun _ => rfl), ?_⟩ | refine ⟨bsub_updL rfl rfl ?_ (fun _ _ _ => rfl) (fun _ => rfl), ?_⟩ | refine ⟨.inl ⟨_, _, rfl, rfl, ?_⟩, ?_⟩ | exact ⟨.inr ⟨rfl, rfl⟩, trivial⟩ | refine ⟨.inr ⟨rfl, rfl⟩, ?_⟩ | (intro _ _) | exact vz1 | (exact .of_eq hE rfl) | exact vz2 | fail))); done)))
        | trace_state
  · obtain rfl : k = seen.length := by omega
    (repeat' (first | (refine ar_isq ?_; first | refine zmv ?_ | refine zas ?_ | (refine is_load ?_; first | refine zlp ?_ | refine zlr ?_) | (refine is_binOp ?_; first | refine zlss ?_ | refine zgtr ?_ | refine zeql ?_ | refine zneq ?_ | refine zadd ?_ | refine zsub ?_) | (refine is_fieldAddr ?_; first | refine zfp ?_ | refine zfr ?_) | (refine is_indexAddr ?_; first | refine zil ?_ | refine zis ?_ | refine zit ?_ | refine zia ?_ | refine zir ?_ | (refine zxl ?_; intro _ _ _) | (refine zxs ?_; intro _ _ _)) | (refine is_call ?_; first | refine zll ?_ | refine zls ?_ | refine zln ?_ | refine zle ?_ | refine zmin ?_ | refine zmax ?_) | (refine is_pick ?_; first | refine zpt ?_ | refine zpf ?_) | refine znt ?_ | (refine ar_buildT ?_ (by exact ty rfl) (by exact rfl) (by exact sizes rfl) (by exact rfl) (by exact rfl) (by exact build rfl) (by exact dc rfl); intro _ hds; (try dsimp only [List.toList_toArray, cells_s, cells_emp, cells_agg, cells_list, cells_sl, cells_ptr, cells_ref, cells_fn, cells_vi, cells_vb, cells_vnil, constV, List.map_cons, List.map_nil, List.take_succ_cons, List.take_zero, List.drop_succ_cons, List.drop_zero, List.cons_append, List.nil_append, List.append_nil, LV_cells] at hds); (try dsimp only [cells_s, cells_emp, cells_agg, cells_list, cells_sl, cells_ptr, cells_ref, cells_fn, cells_vi, cells_vb, cells_vnil, constV, List.map_cons, List.map_nil, List.take_succ_cons, List.take_zero, List.drop_succ_cons, List.drop_zero, List.cons_append, List.nil_append, List.append_nil, LV_cells] at hds); subst hds)) | (refine zal ?_) | (refine zb1 ?_) | (refine zb0 ?_) | (refine zsvs ?_) | (refine zsva ?_) | (refine zses ?_) | (refine zsea ?_) | (refine zg ?_ ?_ <;> intro hg <;> first | exact absurd hg (by decide) | ((try replace hg := HG.out hg); (try dsimp only at hg); (try rw [fromB_one] at hg); (try rw [fromB_four] at hg); (try rw [withinB_iff] at hg); (try rw [withinB_no] at hg); (try (have _h : True := hg; clear _h hg)); first | (exfalso; omega) | skip)) | (refine zgu ?_) | (refine ar_nil ?_) | (refine ar_forkL ?_ ?_) | (refine ar_lq rfl ?_) | (refine aw_seq ?_) | (refine aw_skip ?_) | (refine aw_block ?_) | (refine aw_exit ?_) | (refine aw_region ?_) | (refine aw_fork (id := 15) [[(16, 2), (10, 0), (11, 0), (12, 0), (13, 0), (17, 0), (18, 0), (19, 2)], [(16, 2), (11, 0), (12, 0), (13, 0), (17, 0), (18, 0), (19, 2)], [(16, 2), (12, 0), (13, 0), (17, 0), (18, 0), (19, 2)], [(16, 2), (13, 0), (17, 0), (18, 0), (19, 2)]] [(0, 0), (1, 0), (2, 0), (3, 0), (4, 0), (5, 0), (6, 0), (7, 0), (8, 0), (9, 0), (14, 0), (15, 0), (0, 3), (10, 1), (1, 3), (11, 1), (2, 3), (12, 1), (3, 3), (13, 1), (16, 2), (17, 0), (18, 0), (19, 2)] mixed (by kernel_rfl) ?_) | (refine aw_fork (id := 16) [[(16, 2), (10, 0), (11, 0), (12, 0), (13, 0), (17, 0), (18, 0), (19, 2)], [(16, 2), (11, 0), (12, 0), (13, 0), (17, 0), (18, 0), (19, 2)], [(16, 2), (12, 0), (13, 0), (17, 0), (18, 0), (19, 2)], [(16, 2), (13, 0), (17, 0), (18, 0), (19, 2)]] [(0, 0), (1, 0), (2, 0), (3, 0), (4, 0), (5, 0), (6, 0), (7, 0), (8, 0), (9, 0), (14, 0), (15, 0), (0, 3), (10, 1), (1, 3), (11, 1), (2, 3), (12, 1), (3, 3), (13, 1), (16, 2), (17, 0), (18, 0), (19, 2)] mixed (by kernel_rfl) ?_) | (refine zco ?_ ?_ <;> intro hg <;> first | exact absurd hg (by decide) | ((try replace hg := HG.out hg); (try dsimp only at hg); (try rw [fromB_one] at hg); (try rw [fromB_four] at hg); (try rw [withinB_iff] at hg); (try rw [withinB_no] at hg); (try (have _h : True := hg; clear _h hg)); first | (exfalso; omega) | skip))))
    all_goals first
      | ((refine aw_mono_r (env' := [(6, .ptr 4 0 0 0), (7, vi 6)]) (H' := [.arr 4 1 (fun _ => noBx.enc)]) ?_ ?_; (focus ((refine sub_to [some 0] [] rfl ?_ ?_ <;> (repeat' (first | exact trivial | refine ⟨⟨_, rfl, ?_⟩, ?_⟩ | refine ⟨bsub_snoc rfl rfl (fun _ => rfl) ?_, ?_⟩ | refine ⟨bsub_one rfl rfl ?_, ?_⟩ | refine ⟨bsub_all rfl rfl (fun _ _ => rfl) (fun _ => rfl), ?_⟩ | refine ⟨bsub_updL rfl rfl ?_ (fun _ _ _ => rfl) (fun _ => rfl), ?_⟩ | refine ⟨.inl ⟨_, _, rfl, rfl, ?_⟩, ?_⟩ | exact ⟨.inr ⟨rfl, rfl⟩, trivial⟩ | refine ⟨.inr ⟨rfl, rfl⟩, ?_⟩ | (intro _ _) | exact vz1 | exact vz2 | fail))); done))); refine aw_ret ?_; (repeat (first | refine ret_then ?_ | refine ret_block ?_)); refine bq2b ⟨?_, rfl⟩; have he := regE_none (want := want) (seen := seen) (tol := tol) (by omega) (by omega) (by omega) hJ (by omega); rw [regF_no (by omega), he]; done)
      | ((refine aw_mono_r (env' := [(6, .ptr 4 0 0 0), (7, vi 0)]) (H' := [.arr 4 1 (fun _ => (boxAt want seen tol seen.length).enc)]) ?_ ?_; (focus ((refine sub_to [some 0] [] rfl ?_ ?_ <;> (repeat' (first | exact trivial | refine ⟨⟨_, rfl, ?_⟩, ?_⟩ | refine ⟨bsub_snoc rfl rfl (fun _ => rfl) ?_, ?_⟩ | refine ⟨bsub_one rfl rfl ?_, ?_⟩ | refine ⟨bsub_all rfl rfl (fun _ _ => rfl) (fun _ => rfl), ?_⟩ | refine ⟨bsub_updL rfl rfl ?_ (fun _ _ _ => rfl) (fun _ => rfl), ?_⟩ | refine ⟨.inl ⟨_, _, rfl, rfl, ?_⟩, ?_⟩ | exact ⟨.inr ⟨rfl, rfl⟩, trivial⟩ | refine ⟨.inr ⟨rfl, rfl⟩, ?_⟩ | (intro _ _) | exact vz1 | exact vz2 | fail))); done))); refine aw_ret ?_; (repeat (first | refine ret_then ?_ | refine ret_block ?_)); refine bq2b ⟨?_, rfl⟩; have he := regE_ok (want := want) (seen := seen) (tol := tol) (by omega) (by omega) (by omega) hJ (by omega); rw [regF_ok he, he]; done)
      | trace_state
end Go.Proofs.Ythpbjihnikapoaa
namespace Go.Proofs.Ythpbjihnikapoaa
open Go.RowKit
def gapAt (s : Sheet) (b : List (List Int)) (i c : Nat) : Int := el (el b (i + 1)) c - el (el b i) c - s.weight
def gapRow (s : Sheet) (b : List (List Int)) (i : Nat) (x : Int) (n : Nat) : Int := (List.range n).foldl (fun a c => min a (gapAt s b i c)) x
def gapTo (s : Sheet) (b : List (List Int)) (k : Nat) : Int := (List.range k).foldl (fun a i => gapRow s b i a s.cols.toNat) s.rows
theorem gapRow_succ (s : Sheet) (b : List (List Int)) (i : Nat) (x : Int) (n : Nat) : gapRow s b i x (n + 1) = min (gapRow s b i x n) (gapAt s b i n) := by simp [gapRow, List.range_succ]
theorem gapTo_succ (s : Sheet) (b : List (List Int)) (k : Nat) : gapTo s b (k + 1) = gapRow s b k (gapTo s b k) s.cols.toNat := by simp [gapTo, List.range_succ]
theorem gapRow_bnd {s : Sheet} {b : List (List Int)} {i : Nat} {x : Int} (hx : 0 ≤ x ∧ x ≤ s.rows) : ∀ n, (∀ c, c < n → 0 ≤ gapAt s b i c) → 0 ≤ gapRow s b i x n ∧ gapRow s b i x n ≤ s.rows
  | 0, _ => hx
  | n + 1, h => by
    have ih := gapRow_bnd (i := i) hx n (fun c hc => h c (by omega))
    have := h n (by omega)
    rw [gapRow_succ]
    omega
theorem gapTo_bnd {s : Sheet} {b : List (List Int)} (h0 : 0 ≤ s.rows) : ∀ k, (∀ i c, i < k → c < s.cols.toNat → 0 ≤ gapAt s b i c) → 0 ≤ gapTo s b k ∧ gapTo s b k ≤ s.rows
  | 0, _ => ⟨h0, Int.le_refl _⟩
  | k + 1, h => by
    rw [gapTo_succ]
    exact gapRow_bnd (gapTo_bnd h0 k fun i c hi hc => h i c (by omega) hc) _ fun c hc => h k c (by omega) hc
theorem near_no {s : Sheet} {x y : List Int} (h : clashF s x y < 0) {j : Nat} (hj : (j : Int) < s.cols) : nearAt s x y j = false := by
  unfold clashF at h
  split at h
  · omega
  · rename_i hf
    rw [List.find?_eq_none] at hf
    have := hf j (by simp; omega)
    simpa using this
theorem gap_pos {s : Sheet} {b : List (List Int)} (h : checkErr s b = 0) {i c : Nat} (hi : i < b.length - 1) (hc : c < s.cols.toNat) : 0 ≤ gapAt s b i c := by
  have hb := Sheet.bounds (band_of_check h).1
  have hbd : bandB s b = true := by
    unfold checkErr at h
    rw [if_pos (band_of_check h).1] at h
    split at h
    · assumption
    · omega
  unfold bandB at hbd
  simp only [Bool.and_eq_true, List.all_eq_true, List.mem_range, decide_eq_true_eq] at hbd
  have := near_no (hbd.2 i hi) (j := c) (by omega)
  simp only [nearAt, decide_eq_false_iff_not] at this
  unfold gapAt
  omega
def gapErr (s : Sheet) (b : List (List Int)) : Int := if checkErr s b = 0 then (if b.length < 2 then 6 else 0) else checkErr s b
def gapF (s : Sheet) (b : List (List Int)) : Int := if gapErr s b = 0 then gapTo s b (b.length - 1) else 0
theorem gap_ok {s : Sheet} {b : List (List Int)} (h : gapErr s b = 0) : checkErr s b = 0 ∧ 2 ≤ b.length ∧ 0 ≤ gapF s b ∧ gapF s b ≤ 60 := by
  have h0 := h
  unfold gapErr at h
  split at h
  · rename_i hc
    split at h
    · omega
    · have hb := Sheet.bounds (band_of_check hc).1
      have := gapTo_bnd (s := s) (b := b) (by omega) (b.length - 1) fun i c hi hcc => gap_pos hc hi hcc
      unfold gapF
      rw [if_pos h0]
      exact ⟨hc, by omega, this.1, by omega⟩
  · omega
def lastErr (s : Sheet) (b : List (List Int)) (per : Int) : Int := if gapErr s b = 0 then (if withinB per 1 1000 = true then (if gapF s b = 0 then 6 else 0) else 2) else gapErr s b
def lastF (s : Sheet) (b : List (List Int)) (per : Int) : Int := if lastErr s b per = 0 then (gapF s b + 1) / 2 * per - 1 else 0
end Go.Proofs.Ythpbjihnikapoaa
namespace Go.Proofs.Ythpbjihnikapoaa
open Go.RowKit
theorem from1_p (lo hi x : Int) : PCalls Try.prog 50 [vi lo, vi hi, encInts [x]] (· = vb (withinB x lo hi)) := (from_p lo hi [x]).mono fun v hv => by rw [hv]; simp [fromB]
end Go.Proofs.Ythpbjihnikapoaa
namespace Go.Proofs.Ythpbjihnikapoaa
open Go.RowKit
theorem gapErr_check {s : Sheet} {b : List (List Int)} (h : checkErr s b ≠ 0) : gapErr s b = checkErr s b := by simp [gapErr, h]
theorem gapErr_few {s : Sheet} {b : List (List Int)} (h : checkErr s b = 0) (h2 : b.length < 2) : gapErr s b = 6 := by simp [gapErr, h, h2]
theorem gapErr_ok {s : Sheet} {b : List (List Int)} (h : checkErr s b = 0) (h2 : ¬ b.length < 2) : gapErr s b = 0 := by simp [gapErr, h, h2]
theorem gapF_bad {s : Sheet} {b : List (List Int)} (h : gapErr s b ≠ 0) : gapF s b = 0 := by simp [gapF, h]
theorem gapF_ok {s : Sheet} {b : List (List Int)} (h : gapErr s b = 0) : gapF s b = gapTo s b (b.length - 1) := by simp [gapF, h]
def encGap (s : Sheet) (b : List (List Int)) : V := .tup [vi (gapF s b), vi (gapErr s b)]
theorem gap_next {s : Sheet} {b : List (List Int)} {k c : Nat} {x y z : Int} (hx : x = gapRow s b k (gapTo s b k) c) (hy : y = el (el b (k + 1)) c) (hz : z = el (el b k) c) : min x (y - z - s.weight) = gapRow s b k (gapTo s b k) (c + 1) := by
  subst hx hy hz
  rw [gapRow_succ, gapAt]
set_option maxHeartbeats 2000000 in
theorem lGap_p (s : Sheet) (b : List (List Int)) : PCalls Try.prog 21 [s.enc, encRows b] (· = encGap s b) := by
  by_cases hce : checkErr s b = 0
  · by_cases h2 : b.length < 2
    · have he := gapErr_few hce h2
      rw [encGap, gapF_bad (by omega), he]
      refine pcalls_of_aw Try.func21 rfl (Nat.le_of_ble_eq_true rfl) ?_
      (repeat' (first | (refine ar_isq ?_; first | refine zmv ?_ | refine zas ?_ | (refine is_load ?_; first | refine zlp ?_ | refine zlr ?_) | (refine is_binOp ?_; first | refine zlss ?_ | refine zneq ?_ | refine zadd ?_ | refine zsub ?_) | (refine is_fieldAddr ?_; first | refine zfp ?_ | refine zfr ?_) | (refine is_indexAddr ?_; first | refine zil ?_ | refine zis ?_ | refine zit ?_ | refine zia ?_ | refine zir ?_ | (refine zxl ?_; intro _ _ _) | (refine zxs ?_; intro _ _ _)) | (refine is_call ?_; first | refine zll ?_ | refine zls ?_ | refine zln ?_ | refine zle ?_ | refine zmin ?_)) | (refine ar_pcall (own := false) fn53 rfl rfl (.cons (.closed rfl) (.cons (.closed rfl) .nil)) (check_p s b) (by simp) (dc rfl) ?_; intro _ hv; subst hv) | (refine zcl ?_) | (refine zcs ?_) | (refine zbx ?_) | (refine ar_nil ?_) | (refine aw_seq ?_) | (refine aw_skip ?_) | (refine aw_block ?_) | (refine aw_exit ?_) | (refine aw_region ?_) | (refine aw_drawn (id := 13) [(0, 0), (1, 0), (2, 0), (3, 0), (4, 0), (5, 0), (6, 0), (7, 0), (8, 0), (9, 0), (10, 0), (11, 0), (12, 0), (13, 0), (14, 0)] mixed (by kernel_rfl) ?_) | (refine zco ?_ ?_ <;> intro hg <;> first | exact absurd hg (by decide) | ((try replace hg := HG.out hg); (try dsimp only at hg); (try (have _h : True := hg; clear _h hg)); first | (exfalso; omega) | skip))))
      all_goals first
        | (exfalso; omega)
        | ((refine aw_ret ?_; (repeat (first | refine ret_then ?_ | refine ret_block ?_)); refine bq2 rfl rfl ⟨?_, rfl⟩); rfl)
    · have he := gapErr_ok hce h2
      rw [encGap, gapF_ok he, he]
      obtain ⟨hs, h12, hl⟩ := band_of_check hce
      have hbd := Sheet.bounds hs
      refine pcalls_of_aw Try.func21 rfl (Nat.le_of_ble_eq_true rfl) ?_
      (repeat' (first | (refine ar_isq ?_; first | refine zmv ?_ | refine zas ?_ | (refine is_load ?_; first | refine zlp ?_ | refine zlr ?_) | (refine is_binOp ?_; first | refine zlss ?_ | refine zneq ?_ | refine zadd ?_ | refine zsub ?_) | (refine is_fieldAddr ?_; first | refine zfp ?_ | refine zfr ?_) | (refine is_indexAddr ?_; first | refine zil ?_ | refine zis ?_ | refine zit ?_ | refine zia ?_ | refine zir ?_ | (refine zxl ?_; intro _ _ _) | (refine zxs ?_; intro _ _ _)) | (refine is_call ?_; first | refine zll ?_ | refine zls ?_ | refine zln ?_ | refine zle ?_ | refine zmin ?_)) | (refine ar_pcall (own := false) fn53 rfl rfl (.cons (.closed rfl) (.cons (.closed rfl) .nil)) (check_p s b) (by simp) (dc rfl) ?_; intro _ hv; subst hv) | (refine zcl (a := 1) (b := b.length) ?_) | (refine zcs (a := 1) (b := b.length) ?_) | (refine zbx ?_) | (refine ar_nil ?_) | (refine aw_seq ?_) | (refine aw_skip ?_) | (refine aw_block ?_) | (refine aw_exit ?_) | (refine aw_region ?_) | (refine aw_drawn (id := 13) [(0, 0), (1, 0), (2, 0), (3, 0), (4, 0), (5, 0), (6, 0), (7, 0), (8, 0), (9, 0), (10, 0), (11, 0), (12, 0), (13, 0), (14, 0)] mixed (by kernel_rfl) ?_) | (refine zco ?_ ?_ <;> intro hg <;> first | exact absurd hg (by decide) | ((try replace hg := HG.out hg); (try dsimp only at hg); (try (have _h : True := hg; clear _h hg)); first | (exfalso; omega) | skip))))
      all_goals (try (exfalso; omega))
      refine aw_for (b.length - 1) (fun _ => True) (fun k => [(1, encRows b), (2, .ptr 5 0 0 0), (7, vi (gapTo s b k)), (24, .list 1 (b.length - 1) (fun j => encInts (el b (1 + j)))), (25, vi ((b.length - 1 : Nat) : Int)), (26, vi k)]) (fun _ => [.arr 5 1 (fun _ => s.enc)]) trivial ?_ ?_
      · (refine sub_to [some 0] [] rfl ?_ ?_ <;> (repeat' (first | exact trivial | refine ⟨⟨_, rfl, ?_⟩, ?_⟩ | refine ⟨bsub_snoc rfl rfl (fun _ => rfl) ?_, ?_⟩ | refine ⟨bsub_one rfl rfl ?_, ?_⟩ | refine ⟨bsub_all rfl rfl (fun _ _ => rfl) (fun _ => rfl), ?_⟩ | refine ⟨bsub_updL rfl rfl ?_ (fun _ _ _ => rfl) (fun _ => rfl), ?_⟩ | refine ⟨.inl ⟨_, _, rfl, rfl, ?_⟩, ?_⟩ | exact ⟨.inr ⟨rfl, rfl⟩, trivial⟩ | refine ⟨.inr ⟨rfl, rfl⟩, ?_⟩ | (intro _ _) | exact vz1 | exact vz2 | fail)))
      intro k hk _
      by_cases hlt : k < b.length - 1
      · have e1 : 1 + k = k + 1 := Nat.add_comm _ _
        have ha1 := of_all_el hl (k := 1 + k) (by omega)
        have ha0 := of_all_el hl (k := k) (by omega)
        have hn1 := isLine_len ha1
        have hn0 := isLine_len ha0
        (repeat' (first | (refine ar_isq ?_; first | refine zmv ?_ | refine zas ?_ | (refine is_load ?_; first | refine zlp ?_ | refine zlr ?_) | (refine is_binOp ?_; first | refine zlss ?_ | refine zneq ?_ | refine zadd ?_ | refine zsub ?_) | (refine is_fieldAddr ?_; first | refine zfp ?_ | refine zfr ?_) | (refine is_indexAddr ?_; first | refine zil ?_ | refine zis ?_ | refine zit ?_ | refine zia ?_ | refine zir ?_ | refine zil (j := k) ?_ | refine zis (j := k) ?_ | refine zit (j := k) ?_ | (refine zxl ?_; intro _ _ _) | (refine zxs ?_; intro _ _ _)) | (refine is_call ?_; first | refine zll ?_ | refine zls ?_ | refine zln ?_ | refine zle ?_ | refine zmin ?_)) | (refine zcl ?_) | (refine zcs ?_) | (refine zbx ?_) | (refine ar_nil ?_) | (refine aw_seq ?_) | (refine aw_skip ?_) | (refine aw_block ?_) | (refine aw_exit ?_) | (refine aw_region ?_) | (refine aw_drawn (id := 13) [(0, 0), (1, 0), (2, 0), (3, 0), (4, 0), (5, 0), (6, 0), (7, 0), (8, 0), (9, 0), (10, 0), (11, 0), (12, 0), (13, 0), (14, 0)] mixed (by kernel_rfl) ?_) | (refine zco ?_ ?_ <;> intro hg <;> first | exact absurd hg (by decide) | ((try replace hg := HG.out hg); (try dsimp only at hg); (try (have _h : True := hg; clear _h hg)); first | (exfalso; omega) | skip))))
        all_goals (try (exfalso; omega))
        refine aw_for (el b (1 + k)).length (fun _ => True) (fun c => [(1, encRows b), (2, .ptr 5 0 0 0), (7, vi (gapRow s b k (gapTo s b k) c)), (8, vi k), (24, .list 1 (b.length - 1) (fun j => encInts (el b (1 + j)))), (25, vi ((b.length - 1 : Nat) : Int)), (26, vi k), (31, encInts (el b (1 + k))), (32, vi (el b (1 + k)).length), (33, vi c)]) (fun _ => [.arr 5 1 (fun _ => s.enc)]) trivial ?_ ?_
        · (refine sub_to [some 0] [] rfl ?_ ?_ <;> (repeat' (first | exact trivial | refine ⟨⟨_, rfl, ?_⟩, ?_⟩ | refine ⟨bsub_snoc rfl rfl (fun _ => rfl) ?_, ?_⟩ | refine ⟨bsub_one rfl rfl ?_, ?_⟩ | refine ⟨bsub_all rfl rfl (fun _ _ => rfl) (fun _ => rfl), ?_⟩ | refine ⟨bsub_updL rfl rfl ?_ (fun _ _ _ => rfl) (fun _ => rfl), ?_⟩ | refine ⟨.inl ⟨_, _, rfl, rfl, ?_⟩, ?_⟩ | exact ⟨.inr ⟨rfl, rfl⟩, trivial⟩ | refine ⟨.inr ⟨rfl, rfl⟩, ?_⟩ | (intro _ _) | exact vz1 | exact vz2 | fail)))
        intro c hc _
        by_cases hltc : c < (el b (1 + k)).length
        · have hv1 := isLine_at ha1 (j := c) (by omega)
          have hv0 := isLine_at ha0 (j := c) (by omega)
          (repeat' (first | (refine ar_isq ?_; first | refine zmv ?_ | refine zas ?_ | (refine is_load ?_; first | refine zlp ?_ | refine zlr ?_) | (refine is_binOp ?_; first | refine zlss ?_ | refine zneq ?_ | refine zadd ?_ | refine zsub ?_) | (refine is_fieldAddr ?_; first | refine zfp ?_ | refine zfr ?_) | (refine is_indexAddr ?_; first | refine zil ?_ | refine zis ?_ | refine zit ?_ | refine zia ?_ | refine zir ?_ | refine zil (j := c) ?_ | refine zis (j := c) ?_ | refine zit (j := c) ?_ | refine zil (j := k) ?_ | refine zis (j := k) ?_ | refine zit (j := k) ?_ | (refine zxl ?_; intro _ _ _) | (refine zxs ?_; intro _ _ _)) | (refine is_call ?_; first | refine zll ?_ | refine zls ?_ | refine zln ?_ | refine zle ?_ | refine zmin ?_)) | (refine zcl ?_) | (refine zcs ?_) | (refine zbx ?_) | (refine ar_nil ?_) | (refine aw_seq ?_) | (refine aw_skip ?_) | (refine aw_block ?_) | (refine aw_exit ?_) | (refine aw_region ?_) | (refine aw_drawn (id := 13) [(0, 0), (1, 0), (2, 0), (3, 0), (4, 0), (5, 0), (6, 0), (7, 0), (8, 0), (9, 0), (10, 0), (11, 0), (12, 0), (13, 0), (14, 0)] mixed (by kernel_rfl) ?_) | (refine zco ?_ ?_ <;> intro hg <;> first | exact absurd hg (by decide) | ((try replace hg := HG.out hg); (try dsimp only at hg); (try (have _h : True := hg; clear _h hg)); first | (exfalso; omega) | skip))))
          all_goals first
            | (exfalso; omega)
            | ((first | refine loop_next (by omega) ?_ ?_ | refine (show _ ∧ _ ∧ SubOf _ _ _ _ _ _ from And.intro (by omega) (And.intro ?_ ?_))); (focus ((trivial); done)); (focus ((refine sub_to [some 0] [] rfl ?_ ?_ <;> (repeat' (first | exact trivial | refine ⟨⟨_, rfl, ?_⟩, ?_⟩ | refine ⟨bsub_snoc rfl rfl (fun _ => rfl) ?_, ?_⟩ | refine ⟨bsub_one rfl rfl ?_, ?_⟩ | refine ⟨bsub_all rfl rfl (fun _ _ => rfl) (fun _ => rfl), ?_⟩ | refine ⟨bsub_updL rfl rfl ?_ (fun _ _ _ => rfl) (fun _ => rfl), ?_⟩ | refine ⟨.inl ⟨_, _, rfl, rfl, ?_⟩, ?_⟩ | exact ⟨.inr ⟨rfl, rfl⟩, trivial⟩ | refine ⟨.inr ⟨rfl, rfl⟩, ?_⟩ | (intro _ _) | exact vz1 | (exact siEq (gap_next rfl (by rw [e1]) rfl)) | exact vz2 | fail))); done)))
        · (repeat' (first | (refine ar_isq ?_; first | refine zmv ?_ | refine zas ?_ | (refine is_load ?_; first | refine zlp ?_ | refine zlr ?_) | (refine is_binOp ?_; first | refine zlss ?_ | refine zneq ?_ | refine zadd ?_ | refine zsub ?_) | (refine is_fieldAddr ?_; first | refine zfp ?_ | refine zfr ?_) | (refine is_indexAddr ?_; first | refine zil ?_ | refine zis ?_ | refine zit ?_ | refine zia ?_ | refine zir ?_ | (refine zxl ?_; intro _ _ _) | (refine zxs ?_; intro _ _ _)) | (refine is_call ?_; first | refine zll ?_ | refine zls ?_ | refine zln ?_ | refine zle ?_ | refine zmin ?_)) | (refine zcl ?_) | (refine zcs ?_) | (refine zbx ?_) | (refine ar_nil ?_) | (refine aw_seq ?_) | (refine aw_skip ?_) | (refine aw_block ?_) | (refine aw_exit ?_) | (refine aw_region ?_) | (refine aw_drawn (id := 13) [(0, 0), (1, 0), (2, 0), (3, 0), (4, 0), (5, 0), (6, 0), (7, 0), (8, 0), (9, 0), (10, 0), (11, 0), (12, 0), (13, 0), (14, 0)] mixed (by kernel_rfl) ?_) | (refine zco ?_ ?_ <;> intro hg <;> first | exact absurd hg (by decide) | ((try replace hg := HG.out hg); (try dsimp only at hg); (try (have _h : True := hg; clear _h hg)); first | (exfalso; omega) | skip))))
          all_goals first
            | (exfalso; omega)
            | (rw [gapTo_succ, show s.cols.toNat = c by omega]; ((first | refine loop_next (by omega) ?_ ?_ | refine (show _ ∧ _ ∧ SubOf _ _ _ _ _ _ from And.intro (by omega) (And.intro ?_ ?_))); (focus ((trivial); done)); (focus ((refine sub_to [some 0] [] rfl ?_ ?_ <;> (repeat' (first | exact trivial | refine ⟨⟨_, rfl, ?_⟩, ?_⟩ | refine ⟨bsub_snoc rfl rfl (fun _ => rfl) ?_, ?_⟩ | refine ⟨bsub_one rfl rfl ?_, ?_⟩ | refine ⟨bsub_all rfl rfl (fun _ _ => rfl) (fun _ => rfl), ?_⟩ | refine ⟨bsub_updL rfl rfl ?_ (fun _ _ _ => rfl) (fun _ => rfl), ?_⟩ | refine ⟨.inl ⟨_, _, rfl, rfl, ?_⟩, ?_⟩ | exact ⟨.inr ⟨rfl, rfl⟩, trivial⟩ | refine ⟨.inr ⟨rfl, rfl⟩, ?_⟩ | (intro _ _) | exact vz1 | exact vz2 | fail))); done))))
      · (repeat' (first | (refine ar_isq ?_; first | refine zmv ?_ | refine zas ?_ | (refine is_load ?_; first | refine zlp ?_ | refine zlr ?_) | (refine is_binOp ?_; first | refine zlss ?_ | refine zneq ?_ | refine zadd ?_ | refine zsub ?_) | (refine is_fieldAddr ?_; first | refine zfp ?_ | refine zfr ?_) | (refine is_indexAddr ?_; first | refine zil ?_ | refine zis ?_ | refine zit ?_ | refine zia ?_ | refine zir ?_ | (refine zxl ?_; intro _ _ _) | (refine zxs ?_; intro _ _ _)) | (refine is_call ?_; first | refine zll ?_ | refine zls ?_ | refine zln ?_ | refine zle ?_ | refine zmin ?_)) | (refine zcl ?_) | (refine zcs ?_) | (refine zbx ?_) | (refine ar_nil ?_) | (refine aw_seq ?_) | (refine aw_skip ?_) | (refine aw_block ?_) | (refine aw_exit ?_) | (refine aw_region ?_) | (refine aw_drawn (id := 13) [(0, 0), (1, 0), (2, 0), (3, 0), (4, 0), (5, 0), (6, 0), (7, 0), (8, 0), (9, 0), (10, 0), (11, 0), (12, 0), (13, 0), (14, 0)] mixed (by kernel_rfl) ?_) | (refine zco ?_ ?_ <;> intro hg <;> first | exact absurd hg (by decide) | ((try replace hg := HG.out hg); (try dsimp only at hg); (try (have _h : True := hg; clear _h hg)); first | (exfalso; omega) | skip))))
        all_goals first
          | (exfalso; omega)
          | ((refine aw_mono_r (env' := [(4, vi (gapTo s b k)), (5, vi 0)]) (H' := []) ?_ ?_; (focus ((refine sub_to [] [] rfl ?_ ?_ <;> (repeat' (first | exact trivial | refine ⟨⟨_, rfl, ?_⟩, ?_⟩ | refine ⟨bsub_snoc rfl rfl (fun _ => rfl) ?_, ?_⟩ | refine ⟨bsub_one rfl rfl ?_, ?_⟩ | refine ⟨bsub_all rfl rfl (fun _ _ => rfl) (fun _ => rfl), ?_⟩ | refine ⟨bsub_updL rfl rfl ?_ (fun _ _ _ => rfl) (fun _ => rfl), ?_⟩ | refine ⟨.inl ⟨_, _, rfl, rfl, ?_⟩, ?_⟩ | exact ⟨.inr ⟨rfl, rfl⟩, trivial⟩ | refine ⟨.inr ⟨rfl, rfl⟩, ?_⟩ | (intro _ _) | exact vz1 | exact vz2 | fail))); done))); (refine aw_ret ?_; (repeat (first | refine ret_then ?_ | refine ret_block ?_)); refine bq2 rfl rfl ⟨?_, rfl⟩); rw [show k = b.length - 1 by omega]; try rfl)
  · have he := gapErr_check hce
    rw [encGap, gapF_bad (by omega), he]
    refine pcalls_of_aw Try.func21 rfl (Nat.le_of_ble_eq_true rfl) ?_
    (repeat' (first | (refine ar_isq ?_; first | refine zmv ?_ | refine zas ?_ | (refine is_load ?_; first | refine zlp ?_ | refine zlr ?_) | (refine is_binOp ?_; first | refine zlss ?_ | refine zneq ?_ | refine zadd ?_ | refine zsub ?_) | (refine is_fieldAddr ?_; first | refine zfp ?_ | refine zfr ?_) | (refine is_indexAddr ?_; first | refine zil ?_ | refine zis ?_ | refine zit ?_ | refine zia ?_ | refine zir ?_ | (refine zxl ?_; intro _ _ _) | (refine zxs ?_; intro _ _ _)) | (refine is_call ?_; first | refine zll ?_ | refine zls ?_ | refine zln ?_ | refine zle ?_ | refine zmin ?_)) | (refine ar_pcall (own := false) fn53 rfl rfl (.cons (.closed rfl) (.cons (.closed rfl) .nil)) (check_p s b) (by simp) (dc rfl) ?_; intro _ hv; subst hv) | (refine zcl ?_) | (refine zcs ?_) | (refine zbx ?_) | (refine ar_nil ?_) | (refine aw_seq ?_) | (refine aw_skip ?_) | (refine aw_block ?_) | (refine aw_exit ?_) | (refine aw_region ?_) | (refine aw_drawn (id := 13) [(0, 0), (1, 0), (2, 0), (3, 0), (4, 0), (5, 0), (6, 0), (7, 0), (8, 0), (9, 0), (10, 0), (11, 0), (12, 0), (13, 0), (14, 0)] mixed (by kernel_rfl) ?_) | (refine zco ?_ ?_ <;> intro hg <;> first | exact absurd hg (by decide) | ((try replace hg := HG.out hg); (try dsimp only at hg); (try (have _h : True := hg; clear _h hg)); first | (exfalso; omega) | skip))))
    all_goals first
      | (exfalso; omega)
      | ((refine aw_ret ?_; (repeat (first | refine ret_then ?_ | refine ret_block ?_)); refine bq2 rfl rfl ⟨?_, rfl⟩); rfl)
end Go.Proofs.Ythpbjihnikapoaa
namespace Go.Proofs.Ythpbjihnikapoaa
open Go.RowKit
theorem lastErr_gap {s : Sheet} {b : List (List Int)} {per : Int} (h : gapErr s b ≠ 0) : lastErr s b per = gapErr s b := by simp [lastErr, h]
theorem lastErr_arg {s : Sheet} {b : List (List Int)} {per : Int} (h : gapErr s b = 0) (h2 : withinB per 1 1000 = false) : lastErr s b per = 2 := by simp [lastErr, h, h2]
theorem lastErr_none {s : Sheet} {b : List (List Int)} {per : Int} (h : gapErr s b = 0) (h2 : withinB per 1 1000 = true) (h3 : gapF s b = 0) : lastErr s b per = 6 := by simp [lastErr, h, h2, h3]
theorem lastErr_ok {s : Sheet} {b : List (List Int)} {per : Int} (h : gapErr s b = 0) (h2 : withinB per 1 1000 = true) (h3 : gapF s b ≠ 0) : lastErr s b per = 0 := by simp [lastErr, h, h2, h3]
theorem lastF_bad {s : Sheet} {b : List (List Int)} {per : Int} (h : lastErr s b per ≠ 0) : lastF s b per = 0 := by simp [lastF, h]
theorem lastF_ok {s : Sheet} {b : List (List Int)} {per : Int} (h : lastErr s b per = 0) : lastF s b per = (gapF s b + 1) / 2 * per - 1 := by simp [lastF, h]
def encLast (s : Sheet) (b : List (List Int)) (per : Int) : V := .tup [vi (lastF s b per), vi (lastErr s b per)]
theorem last_bnd {g p : Int} (hg : 1 ≤ g ∧ g ≤ 60) (hp : 1 ≤ p ∧ p ≤ 1000) : 1 ≤ (g + 1) / 2 * p ∧ (g + 1) / 2 * p ≤ 30000 := by
  have h1 : 1 ≤ (g + 1) / 2 ∧ (g + 1) / 2 ≤ 30 := by omega
  constructor
  · have := Int.mul_le_mul h1.1 hp.1 (by omega) (by omega)
    omega
  · have := Int.mul_le_mul h1.2 hp.2 (by omega) (by omega)
    omega
set_option maxHeartbeats 2000000 in
theorem lLasts_p (s : Sheet) (b : List (List Int)) (per : Int) : PCalls Try.prog 23 [s.enc, encRows b, vi per] (· = encLast s b per) := by
  by_cases hge : gapErr s b = 0
  · cases hp : withinB per 1 1000
    · have he := lastErr_arg hge hp
      rw [encLast, lastF_bad (by omega), he]
      refine pcalls_of_aw Try.func23 rfl (Nat.le_of_ble_eq_true rfl) ?_
      (repeat' (first | (refine ar_isq ?_; first | refine zmv ?_ | refine zas ?_ | (refine is_load ?_; first | refine zlp ?_ | refine zlr ?_) | (refine is_binOp ?_; first | refine zeql ?_ | refine zneq ?_ | refine zadd ?_ | refine zsub ?_ | refine zmul ?_ | refine zquo ?_) | refine zex ?_ | refine znt ?_) | (refine ar_pcall (own := false) fn21 rfl rfl (.cons (.closed rfl) (.cons (.closed rfl) .nil)) (lGap_p s b) (by simp) (dc rfl) ?_; intro _ hv; subst hv) | (refine ar_pcall (own := true) fn50 rfl rfl (.cons (.closed rfl) (.cons (.closed rfl) (.cons (.lent rfl rfl (by omega) (fun _ _ => rfl) (fun k hk => match k, hk with | 0, _ => rfl)) .nil))) (from1_p 1 1000 per) (by intros; subst_vars; rfl) (dc rfl) ?_; intro _ hv; subst hv) | (refine zbx ?_) | (refine zb1 ?_) | (refine zb0 ?_) | (refine ar_nil ?_) | (refine aw_seq ?_) | (refine aw_skip ?_) | (refine aw_block ?_) | (refine aw_exit ?_) | (refine aw_region ?_) | (refine zco ?_ ?_ <;> intro hg <;> first | exact absurd hg (by decide) | ((try replace hg := HG.out hg); (try dsimp only at hg); (try (have _h : True := hg; clear _h hg)); first | (exfalso; omega) | skip))))
      all_goals first
        | (exfalso; simp_all; done)
        | ((refine aw_ret ?_; (repeat (first | refine ret_then ?_ | refine ret_block ?_)); refine bq2 rfl rfl ⟨?_, rfl⟩); rfl)
    · obtain ⟨hce, h2, hg0, hg60⟩ := gap_ok hge
      have hpb := withinB_iff.1 hp
      by_cases hz : gapF s b = 0
      · have he := lastErr_none hge hp hz
        rw [encLast, lastF_bad (by omega), he]
        refine pcalls_of_aw Try.func23 rfl (Nat.le_of_ble_eq_true rfl) ?_
        (repeat' (first | (refine ar_isq ?_; first | refine zmv ?_ | refine zas ?_ | (refine is_load ?_; first | refine zlp ?_ | refine zlr ?_) | (refine is_binOp ?_; first | refine zeql ?_ | refine zneq ?_ | refine zadd ?_ | refine zsub ?_ | refine zmul ?_ | refine zquo ?_) | refine zex ?_ | refine znt ?_) | (refine ar_pcall (own := false) fn21 rfl rfl (.cons (.closed rfl) (.cons (.closed rfl) .nil)) (lGap_p s b) (by simp) (dc rfl) ?_; intro _ hv; subst hv) | (refine ar_pcall (own := true) fn50 rfl rfl (.cons (.closed rfl) (.cons (.closed rfl) (.cons (.lent rfl rfl (by omega) (fun _ _ => rfl) (fun k hk => match k, hk with | 0, _ => rfl)) .nil))) (from1_p 1 1000 per) (by intros; subst_vars; rfl) (dc rfl) ?_; intro _ hv; subst hv) | (refine zbx ?_) | (refine zb1 ?_) | (refine zb0 ?_) | (refine ar_nil ?_) | (refine aw_seq ?_) | (refine aw_skip ?_) | (refine aw_block ?_) | (refine aw_exit ?_) | (refine aw_region ?_) | (refine zco ?_ ?_ <;> intro hg <;> first | exact absurd hg (by decide) | ((try replace hg := HG.out hg); (try dsimp only at hg); (try (have _h : True := hg; clear _h hg)); first | (exfalso; omega) | skip))))
        all_goals first
          | (exfalso; simp_all; done)
          | ((refine aw_ret ?_; (repeat (first | refine ret_then ?_ | refine ret_block ?_)); refine bq2 rfl rfl ⟨?_, rfl⟩); rfl)
      · have he := lastErr_ok hge hp hz
        rw [encLast, lastF_ok he, he]
        have hlb := last_bnd (g := gapF s b) (p := per) (by omega) hpb
        refine pcalls_of_aw Try.func23 rfl (Nat.le_of_ble_eq_true rfl) ?_
        (repeat' (first | (refine ar_isq ?_; first | refine zmv ?_ | refine zas ?_ | (refine is_load ?_; first | refine zlp ?_ | refine zlr ?_) | (refine is_binOp ?_; first | refine zeql ?_ | refine zneq ?_ | refine zadd ?_ | refine zsub ?_ | refine zmul ?_ | refine zquo ?_) | refine zex ?_ | refine znt ?_) | (refine ar_pcall (own := false) fn21 rfl rfl (.cons (.closed rfl) (.cons (.closed rfl) .nil)) (lGap_p s b) (by simp) (dc rfl) ?_; intro _ hv; subst hv) | (refine ar_pcall (own := true) fn50 rfl rfl (.cons (.closed rfl) (.cons (.closed rfl) (.cons (.lent rfl rfl (by omega) (fun _ _ => rfl) (fun k hk => match k, hk with | 0, _ => rfl)) .nil))) (from1_p 1 1000 per) (by intros; subst_vars; rfl) (dc rfl) ?_; intro _ hv; subst hv) | (refine zbx ?_) | (refine zb1 ?_) | (refine zb0 ?_) | (refine ar_nil ?_) | (refine aw_seq ?_) | (refine aw_skip ?_) | (refine aw_block ?_) | (refine aw_exit ?_) | (refine aw_region ?_) | (refine zco ?_ ?_ <;> intro hg <;> first | exact absurd hg (by decide) | ((try replace hg := HG.out hg); (try dsimp only at hg); (try (have _h : True := hg; clear _h hg)); first | (exfalso; omega) | skip))))
        all_goals first
          | (exfalso; simp_all; done)
          | ((refine aw_ret ?_; (repeat (first | refine ret_then ?_ | refine ret_block ?_)); refine bq2 rfl rfl ⟨?_, rfl⟩); rfl)
  · have he := lastErr_gap (per := per) hge
    rw [encLast, lastF_bad (by omega), he]
    refine pcalls_of_aw Try.func23 rfl (Nat.le_of_ble_eq_true rfl) ?_
    (repeat' (first | (refine ar_isq ?_; first | refine zmv ?_ | refine zas ?_ | (refine is_load ?_; first | refine zlp ?_ | refine zlr ?_) | (refine is_binOp ?_; first | refine zeql ?_ | refine zneq ?_ | refine zadd ?_ | refine zsub ?_ | refine zmul ?_ | refine zquo ?_) | refine zex ?_ | refine znt ?_) | (refine ar_pcall (own := false) fn21 rfl rfl (.cons (.closed rfl) (.cons (.closed rfl) .nil)) (lGap_p s b) (by simp) (dc rfl) ?_; intro _ hv; subst hv) | (refine zbx ?_) | (refine zb1 ?_) | (refine zb0 ?_) | (refine ar_nil ?_) | (refine aw_seq ?_) | (refine aw_skip ?_) | (refine aw_block ?_) | (refine aw_exit ?_) | (refine aw_region ?_) | (refine zco ?_ ?_ <;> intro hg <;> first | exact absurd hg (by decide) | ((try replace hg := HG.out hg); (try dsimp only at hg); (try (have _h : True := hg; clear _h hg)); first | (exfalso; omega) | skip))))
    all_goals first
      | (exfalso; omega)
      | ((refine aw_ret ?_; (repeat (first | refine ret_then ?_ | refine ret_block ?_)); refine bq2 rfl rfl ⟨?_, rfl⟩); rfl)
end Go.Proofs.Ythpbjihnikapoaa
namespace Go.Proofs.Ythpbjihnikapoaa
open Go.RowKit
set_option maxHeartbeats 1000000 in
theorem sameInts8_p (l : List Int) : PCalls Try.prog 33 [encInts l, encInts l] (· = vb true) := by
  (refine pcalls_know (fun I us h => rel_len (rel_arg h (j := 0) rfl)) fun hlen0 => ?_)
  refine pcalls_of_aw Try.func33 rfl (Nat.le_of_ble_eq_true rfl) ?_
  (repeat' (first | (refine ar_isq ?_; first | refine zmv ?_ | refine zas ?_ | (refine is_load ?_; first | refine zlp ?_ | refine zlr ?_) | (refine is_binOp ?_; first | refine zlss ?_ | refine zneq ?_ | refine zadd ?_) | (refine is_indexAddr ?_; first | refine zil ?_ | refine zis ?_ | refine zit ?_ | refine zia ?_ | refine zir ?_ | (refine zxl ?_; intro _ _ _) | (refine zxs ?_; intro _ _ _)) | (refine is_call ?_; first | refine zll ?_ | refine zls ?_ | refine zln ?_ | refine zle ?_)) | (refine ar_nil ?_) | (refine aw_seq ?_) | (refine aw_skip ?_) | (refine aw_block ?_) | (refine aw_exit ?_) | (refine aw_region ?_) | (refine aw_drawn (id := 6) [(0, 0), (1, 0), (2, 0), (3, 0), (4, 0), (5, 0), (6, 0), (7, 0), (8, 0)] mixed (by kernel_rfl) ?_) | (refine zco ?_ ?_ <;> intro hg <;> first | exact absurd hg (by decide) | ((try replace hg := HG.out hg); (try dsimp only at hg); (try (have _h : True := hg; clear _h hg)); first | (exfalso; omega) | skip))))
  refine aw_for l.length (fun _ => True) (fun k => [(0, encInts l), (1, encInts l), (5, vi k)]) (fun _ => []) trivial ?_ ?_
  · (refine sub_to [] [] rfl ?_ ?_ <;> (repeat' (first | exact trivial | refine ⟨⟨_, rfl, ?_⟩, ?_⟩ | refine ⟨bsub_snoc rfl rfl (fun _ => rfl) ?_, ?_⟩ | refine ⟨bsub_one rfl rfl ?_, ?_⟩ | refine ⟨bsub_all rfl rfl (fun _ _ => rfl) (fun _ => rfl), ?_⟩ | refine ⟨bsub_updL rfl rfl ?_ (fun _ _ _ => rfl) (fun _ => rfl), ?_⟩ | refine ⟨.inl ⟨_, _, rfl, rfl, ?_⟩, ?_⟩ | exact ⟨.inr ⟨rfl, rfl⟩, trivial⟩ | refine ⟨.inr ⟨rfl, rfl⟩, ?_⟩ | (intro _ _) | exact vz1 | exact vz2 | fail)))
  intro k hk _
  by_cases hlt : k < l.length
  · (repeat' (first | (refine ar_isq ?_; first | refine zmv ?_ | refine zas ?_ | (refine is_load ?_; first | refine zlp ?_ | refine zlr ?_) | (refine is_binOp ?_; first | refine zlss ?_ | refine zneq ?_ | refine zadd ?_) | (refine is_indexAddr ?_; first | refine zil ?_ | refine zis ?_ | refine zit ?_ | refine zia ?_ | refine zir ?_ | (refine zxl ?_; intro _ _ _) | (refine zxs ?_; intro _ _ _)) | (refine is_call ?_; first | refine zll ?_ | refine zls ?_ | refine zln ?_ | refine zle ?_)) | (refine ar_nil ?_) | (refine aw_seq ?_) | (refine aw_skip ?_) | (refine aw_block ?_) | (refine aw_exit ?_) | (refine aw_region ?_) | (refine aw_drawn (id := 6) [(0, 0), (1, 0), (2, 0), (3, 0), (4, 0), (5, 0), (6, 0), (7, 0), (8, 0)] mixed (by kernel_rfl) ?_) | (refine zco ?_ ?_ <;> intro hg <;> first | exact absurd hg (by decide) | ((try replace hg := HG.out hg); (try dsimp only at hg); (try (have _h : True := hg; clear _h hg)); first | (exfalso; omega) | skip))))
    all_goals first
      | (exfalso; omega)
      | ((first | refine loop_next (by omega) ?_ ?_ | refine (show _ ∧ _ ∧ SubOf _ _ _ _ _ _ from And.intro (by omega) (And.intro ?_ ?_))); (focus ((trivial); done)); (focus ((refine sub_to [] [] rfl ?_ ?_ <;> (repeat' (first | exact trivial | refine ⟨⟨_, rfl, ?_⟩, ?_⟩ | refine ⟨bsub_snoc rfl rfl (fun _ => rfl) ?_, ?_⟩ | refine ⟨bsub_one rfl rfl ?_, ?_⟩ | refine ⟨bsub_all rfl rfl (fun _ _ => rfl) (fun _ => rfl), ?_⟩ | refine ⟨bsub_updL rfl rfl ?_ (fun _ _ _ => rfl) (fun _ => rfl), ?_⟩ | refine ⟨.inl ⟨_, _, rfl, rfl, ?_⟩, ?_⟩ | exact ⟨.inr ⟨rfl, rfl⟩, trivial⟩ | refine ⟨.inr ⟨rfl, rfl⟩, ?_⟩ | (intro _ _) | exact vz1 | exact vz2 | fail))); done)))
      | ((refine aw_ret ?_; (repeat (first | refine ret_then ?_ | refine ret_block ?_)); refine bq1 rfl ⟨?_, rfl⟩); rfl)
  · (repeat' (first | (refine ar_isq ?_; first | refine zmv ?_ | refine zas ?_ | (refine is_load ?_; first | refine zlp ?_ | refine zlr ?_) | (refine is_binOp ?_; first | refine zlss ?_ | refine zneq ?_ | refine zadd ?_) | (refine is_indexAddr ?_; first | refine zil ?_ | refine zis ?_ | refine zit ?_ | refine zia ?_ | refine zir ?_ | (refine zxl ?_; intro _ _ _) | (refine zxs ?_; intro _ _ _)) | (refine is_call ?_; first | refine zll ?_ | refine zls ?_ | refine zln ?_ | refine zle ?_)) | (refine ar_nil ?_) | (refine aw_seq ?_) | (refine aw_skip ?_) | (refine aw_block ?_) | (refine aw_exit ?_) | (refine aw_region ?_) | (refine aw_drawn (id := 6) [(0, 0), (1, 0), (2, 0), (3, 0), (4, 0), (5, 0), (6, 0), (7, 0), (8, 0)] mixed (by kernel_rfl) ?_) | (refine zco ?_ ?_ <;> intro hg <;> first | exact absurd hg (by decide) | ((try replace hg := HG.out hg); (try dsimp only at hg); (try (have _h : True := hg; clear _h hg)); first | (exfalso; omega) | skip))))
    all_goals first
      | (exfalso; omega)
      | ((refine aw_ret ?_; (repeat (first | refine ret_then ?_ | refine ret_block ?_)); refine bq1 rfl ⟨?_, rfl⟩); rfl)
end Go.Proofs.Ythpbjihnikapoaa
namespace Go.Proofs.Ythpbjihnikapoaa
open Go.RowKit
def exBook : List Deed := [⟨1, 0, 0, 0⟩, ⟨3, 0, 1, 0⟩, ⟨2, 0, 0, 0⟩, ⟨2, 1, 0, 0⟩, ⟨3, 2, 2, 0⟩, ⟨4, 2, 0, 2⟩]
def exItems : List Itm := [⟨1, -1, 1, 1, false⟩, ⟨2, 0, 1, 1, false⟩, ⟨3, 1, 2, 2, false⟩]
def exPrints : List Prt := [⟨2, 0⟩, ⟨2, 0⟩]
def exWant : Sto := ⟨3, exItems, exPrints⟩
theorem ex_errs : ∀ j, j < 6 → errAt 3 exBook j = 0 := by decide +kernel
theorem ex_sto : stoAt 3 exBook 6 = exWant := by kernel_rfl
theorem ex_u8 : ∀ j, j < exBook.length → u8ok (el exBook j).kind := by
  intro j hj
  match j, hj with
  | 0, _ | 1, _ | 2, _ | 3, _ | 4, _ | 5, _ => exact ⟨by decide, by decide⟩
theorem ex_playX : playX 3 exBook = (0, 0) := playX_ok (by decide) (by decide) ex_errs
theorem ex_playF : playF 3 exBook = exWant := (playF_ok (by rw [ex_playX])).trans ex_sto
theorem ex_valid : Valid exWant := by have h := playX_sto ex_playX; rwa [show stoAt 3 exBook exBook.length = exWant from ex_sto] at h
theorem exPlay_p : PCalls Try.prog 40 [vi 3, encDeeds exBook] (· = .tup [exWant.enc, vi 0, vi 0]) := (pPlay_p 3 exBook ex_u8).mono fun v h => by rw [h, ex_playF, ex_playX]
def exOut : List Int := [-1, -1, -1, 1, 2, 2]
theorem ex_whereE : whereE 3 exBook 2 = 0 := whereE_ok (by rw [ex_playX]) (by rw [show stoAt 3 exBook exBook.length = exWant from ex_sto]; decide)
theorem exWhere_p : PCalls Try.prog 42 [vi 3, encDeeds exBook, vi 2] (· = .tup [encInts exOut, vi 0]) := (pWhere_p 3 exBook 2 ex_u8).mono fun v h => by
  rw [h, whereF_ok ex_whereE, ex_whereE, show outTo 3 exBook 2 exBook.length = exOut by decide +kernel]
def exMarks : List Mk := [⟨0, 0⟩, ⟨10, 0⟩]
def exSeen : List Mk := [⟨3, 1⟩, ⟨14, 2⟩]
theorem exRegister_p : PCalls Try.prog 16 [encMarks exMarks, encMarks exSeen, vi 1] (· = .tup [Bx.enc ⟨-4, -2, -3, -1⟩, vi 0]) := (pRegister_p exMarks exSeen 1).mono fun v h => by
  rw [h, show regE exMarks exSeen 1 = 0 by decide +kernel, show regF exMarks exSeen 1 = ⟨-4, -2, -3, -1⟩ by kernel_rfl]
def exSheet : Sheet := ⟨1, 9, 1, 0, 0⟩
def exBand : List (List Int) := [[0], [4]]
theorem exLasts_p : PCalls Try.prog 23 [exSheet.enc, encRows exBand, vi 100] (· = .tup [vi 199, vi 0]) := (lLasts_p exSheet exBand 100).mono fun v h => by
  rw [h]; unfold encLast; rw [show lastF exSheet exBand 100 = 199 by decide +kernel, show lastErr exSheet exBand 100 = 0 by decide +kernel]
theorem exLine_p : PCalls Try.prog 29 [exWant.enc, vi 2] (· = .tup [encInts [0, 1, 2], vi 0]) := (pLine_p exWant 2).mono fun v h => by
  have he := lineE_ok (i := 2) ex_valid (by decide)
  rw [h, lineF_ok he, he, show lineTo exWant.items 2 (lineN exWant.items 2) = [0, 1, 2] by decide +kernel]
theorem book_p : PCalls Try.prog 48 [] (· = encDeeds exBook) := by
  refine pcalls_of_aw Try.func48 rfl (Nat.le_of_ble_eq_true rfl) ?_
  (repeat' (first | (refine ar_isq ?_; first | refine zas ?_ | (refine ar_buildT ?_ (by exact ty rfl) (by exact rfl) (by exact sizes rfl) (by exact rfl) (by exact rfl) (by exact build rfl) (by exact dc rfl); intro _ hds; (try dsimp only [List.toList_toArray, cells_s, cells_emp, cells_agg, cells_list, cells_sl, cells_ptr, cells_ref, cells_fn, cells_vi, cells_vb, cells_vnil, constV, List.map_cons, List.map_nil, List.take_succ_cons, List.take_zero, List.drop_succ_cons, List.drop_zero, List.cons_append, List.nil_append, List.append_nil, LV_cells] at hds); (try dsimp only [cells_s, cells_emp, cells_agg, cells_list, cells_sl, cells_ptr, cells_ref, cells_fn, cells_vi, cells_vb, cells_vnil, constV, List.map_cons, List.map_nil, List.take_succ_cons, List.take_zero, List.drop_succ_cons, List.drop_zero, List.cons_append, List.nil_append, List.append_nil, LV_cells] at hds); subst hds)) | (refine ar_buildLE Deed.enc (exBook) (by exact ty rfl) (by exact rfl) (by exact ty rfl) (by exact rfl) (by exact rfl) (by exact Nat.succ_pos _) (by exact rfl) (by exact dc rfl) (by exact rfl) (by exact fun _ => ⟨rfl, rfl⟩) (by exact dc rfl) ?_) | (refine zb1 ?_) | (refine zb0 ?_) | (refine ar_nil ?_) | (refine aw_seq ?_) | (refine aw_skip ?_) | (refine aw_block ?_) | (refine aw_exit ?_) | (refine aw_region ?_) | (refine zco ?_ ?_ <;> intro hg <;> first | exact absurd hg (by decide) | ((try replace hg := HG.out hg); (try dsimp only at hg); (try (have _h : True := hg; clear _h hg)); first | (exfalso; omega) | skip))))
  (refine aw_mono_r (env' := [(0, encDeeds exBook)]) (H' := []) ?_ ?_; (focus ((refine sub_to [] [0] rfl ?_ ?_ <;> (repeat' (first | exact trivial | refine ⟨⟨_, rfl, ?_⟩, ?_⟩ | refine ⟨bsub_snoc rfl rfl (fun _ => rfl) ?_, ?_⟩ | refine ⟨bsub_one rfl rfl ?_, ?_⟩ | refine ⟨bsub_all rfl rfl (fun _ _ => rfl) (fun _ => rfl), ?_⟩ | refine ⟨bsub_updL rfl rfl ?_ (fun _ _ _ => rfl) (fun _ => rfl), ?_⟩ | refine ⟨.inl ⟨_, _, rfl, rfl, ?_⟩, ?_⟩ | exact ⟨.inr ⟨rfl, rfl⟩, trivial⟩ | refine ⟨.inr ⟨rfl, rfl⟩, ?_⟩ | (intro _ _) | exact vz1 | exact vz2 | fail))); done)))
  (refine aw_ret ?_; (repeat (first | refine ret_then ?_ | refine ret_block ?_)); refine bq1 rfl ⟨?_, rfl⟩)
  rfl
end Go.Proofs.Ythpbjihnikapoaa
namespace Go.Proofs.Ythpbjihnikapoaa
open Go.RowKit
section
variable {P : Program} {nt : Nat} {env : Env} {H : Heap} {dst : Option Tmp} {ty T T' : TypeId} {pos : String} {after : Array Edge} {guard : Option (Nat × Bool)} {x y : Operand} {d : TyD}
inductive EqN (P : Program) (cs ds : List V) : List (TypeId × Nat × Bool) → Bool → Prop
  | nil : EqN P cs ds [] true
  | sub {T o l r d cs' ds' l' r'} (ht : TyIs P T d) (hS : SeqOk P T l') (h1 : partV d.tk.agg cs o d.size = some (.agg cs')) (h2 : partV d.tk.agg ds o d.size = some (.agg ds')) (hq : EqOk P cs' ds' l' r') (h : EqN P cs ds l r) : EqN P cs ds ((T, o, false) :: l) (r' && r)
theorem eqFieldsN_run {I : Imm} {ρ : List (Option (Nat × Nat))} {cs ds : List V} {us vs : Array Value} (h1 : us.size = cs.length) (hr : ∀ (j : Nat) x u, cs[j]? = some x → us[j]? = some u → VRel I ρ x u) (h2 : vs.size = ds.length) (hr2 : ∀ (j : Nat) x u, ds[j]? = some x → vs[j]? = some u → VRel I ρ x u) (e : Nat) (w : World) :
    ∀ {fs : List Field} {l : List (TypeId × Nat × Bool)} {r : Bool}, fs.map (fun f => (f.type, f.offset, f.name == "_")) = l → EqN P cs ds l r → (Op.eqFields (e + 2) us vs fs).run P w = .ok r w
  | [], _, _, rfl, .nil => by simp [Op.eqFields]
  | f :: fs, l, r, hm, hq => by
    simp only [List.map_cons] at hm
    cases hq with
    | nil => cases hm
    | sub ht hS a1 a2 hq' hq =>
      simp only [List.cons.injEq, Prod.mk.injEq] at hm
      obtain ⟨⟨rfl, rfl, hn⟩, hm⟩ := hm
      have ih := eqFieldsN_run h1 hr h2 hr2 e w hm hq
      obtain ⟨u1, b1, p1⟩ := part_run (I := I) (ρ := ρ) ht h1 hr a1
      obtain ⟨u2, b2, p2⟩ := part_run (I := I) (ρ := ρ) ht h2 hr2 a2
      obtain ⟨us', rfl, c1, c2⟩ := agg_inv b1
      obtain ⟨vs', rfl, d1, d2⟩ := agg_inv b2
      have hn' : f.name ≠ "_" := by simpa using hn
      simp only [Op.eqFields, hn', ne_eq, not_false_eq_true, if_true, Sem.run_bind, p1 w, p2 w, Result.andThen_ok, run_equalIn_struct w (e + 1) _ us' vs' hS.und hS.stood, eqFields_run c1 c2 d1 d2 e w hS.fields hq']
      rename_i _ r'
      cases r'
      · simp
      · simpa using ih
theorem qs_seqN {cs ds : List V} {l : List (TypeId × Nat × Bool)} {r : Bool} (hS : SeqOk P T l) (hx : eo env x = some (.agg cs)) (hy : eo env y = some (.agg ds)) (hq : EqN P cs ds l r) :
    QS P nt env H ⟨dst, .binOp .eql T x y T', ty, pos, after, guard⟩ (.s (.bool r)) := .mk
  fun _ I ρ a w h hw => by
    obtain ⟨us, e1, h1, hr⟩ := agg_inv (eo_rel h hx)
    obtain ⟨vs, e2, h2, hr2⟩ := agg_inv (eo_rel h hy)
    exact ⟨_, .s _, fun w' _ => by
      simp only [execOp, e1, e2, Sem.run_bind, run_eqGuard_agg w' _ T x y us vs hS.guard, Result.andThen_ok, run_eql_struct, run_equalIn_struct w' 9999 T us vs hS.und hS.stood, eqFieldsN_run h1 hr h2 hr2 9997 w' hS.fields hq]
      rfl⟩
end
end Go.Proofs.Ythpbjihnikapoaa
namespace Go.Proofs.Ythpbjihnikapoaa
open Go.RowKit
theorem exSame_p : PCalls Try.prog 39 [exWant.enc, exWant.enc] (· = vb true) := sameStore_p exWant
theorem sqBox : SeqOk Try.prog 26 [(24, 0, false), (24, 2, false)] := ⟨by kernel_rfl, by kernel_rfl, by kernel_rfl, by kernel_rfl⟩
set_option maxHeartbeats 2000000 in
theorem alive_p : PCalls Try.prog 44 [] (· = vb true) := by
  refine pcalls_of_aw Try.func44 rfl (Nat.le_of_ble_eq_true rfl) ?_
  (repeat' (first | (refine ar_isq ?_; first | refine zmv ?_ | refine zas ?_ | (refine is_load ?_; first | refine zlp ?_ | refine zlr ?_) | (refine is_binOp ?_; first | refine zeql ?_ | refine ar_q (qs_seq (seq rfl) rfl rfl (.int (ty rfl) rfl rfl rfl rfl (.int (ty rfl) rfl rfl rfl rfl .nil))) (dc rfl) ?_ | refine ar_q (qs_seq (seq rfl) rfl rfl (.int (ty rfl) rfl rfl rfl rfl (.int (ty rfl) rfl rfl rfl rfl (.int (ty rfl) rfl rfl rfl rfl .nil)))) (dc rfl) ?_ | refine ar_q (qs_seq (seq rfl) rfl rfl (.int (ty rfl) rfl rfl rfl rfl (.int (ty rfl) rfl rfl rfl rfl (.int (ty rfl) rfl rfl rfl rfl (.int (ty rfl) rfl rfl rfl rfl .nil))))) (dc rfl) ?_ | refine ar_q (qs_seq (seq rfl) rfl rfl (.int (ty rfl) rfl rfl rfl rfl (.int (ty rfl) rfl rfl rfl rfl (.int (ty rfl) rfl rfl rfl rfl (.int (ty rfl) rfl rfl rfl rfl (.int (ty rfl) rfl rfl rfl rfl .nil)))))) (dc rfl) ?_) | (refine is_pick ?_; first | refine zpt ?_ | refine zpf ?_) | refine zex ?_ | (refine ar_buildT ?_ (by exact ty rfl) (by exact rfl) (by exact sizes rfl) (by exact rfl) (by exact rfl) (by exact build rfl) (by exact dc rfl); intro _ hds; (try dsimp only [List.toList_toArray, cells_s, cells_emp, cells_agg, cells_list, cells_sl, cells_ptr, cells_ref, cells_fn, cells_vi, cells_vb, cells_vnil, constV, List.map_cons, List.map_nil, List.take_succ_cons, List.take_zero, List.drop_succ_cons, List.drop_zero, List.cons_append, List.nil_append, List.append_nil, LV_cells] at hds); (try dsimp only [cells_s, cells_emp, cells_agg, cells_list, cells_sl, cells_ptr, cells_ref, cells_fn, cells_vi, cells_vb, cells_vnil, constV, List.map_cons, List.map_nil, List.take_succ_cons, List.take_zero, List.drop_succ_cons, List.drop_zero, List.cons_append, List.nil_append, List.append_nil, LV_cells] at hds); subst hds)) | (refine ar_pcall (own := false) fn48 rfl rfl .nil (book_p) (by simp) (dc rfl) ?_; intro _ hv; subst hv) | (refine ar_pcall (own := false) fn40 rfl rfl (.cons (.closed rfl) (.cons (.ext (fun _ _ => rfl)) .nil)) (exPlay_p) (by simp) (dc rfl) ?_; intro _ hv; subst hv) | (refine ar_buildLE Itm.enc (exItems) (by exact ty rfl) (by exact rfl) (by exact ty rfl) (by exact rfl) (by exact rfl) (by exact Nat.succ_pos _) (by exact rfl) (by exact dc rfl) (by exact rfl) (by exact fun _ => ⟨rfl, rfl⟩) (by exact dc rfl) ?_) | (((refine ar_subk_l (sub_frzL (t := 22) Itm.enc (exItems) rfl rfl rfl rfl (fun _ _ => rfl) (fun _ => rfl)) ?_); refine ar_buildLE Prt.enc (exPrints) (by exact ty rfl) (by exact rfl) (by exact ty rfl) (by exact rfl) (by exact rfl) (by exact Nat.succ_pos _) (by exact rfl) (by exact dc rfl) (by exact rfl) (by exact fun _ => ⟨rfl, rfl⟩) (by exact dc rfl) ?_)) | (((refine ar_sub_l (env' := [(1, .ptr 3 0 0 0), (2, vi 0), (3, vi 0), (26, exWant.enc)]) (H' := [.arr 3 1 (fun _ => exWant.enc)]) ?_ ?_; (focus ((refine sub_to [some 0] [2] rfl ?_ ?_ <;> (repeat' (first | exact trivial | refine ⟨⟨_, rfl, ?_⟩, ?_⟩ | refine ⟨bsub_snoc rfl rfl (fun _ => rfl) ?_, ?_⟩ | refine ⟨bsub_one rfl rfl ?_, ?_⟩ | refine ⟨bsub_all rfl rfl (fun _ _ => rfl) (fun _ => rfl), ?_⟩ | refine ⟨bsub_updL rfl rfl ?_ (fun _ _ _ => rfl) (fun _ => rfl), ?_⟩ | refine ⟨.inl ⟨_, _, rfl, rfl, ?_⟩, ?_⟩ | exact ⟨.inr ⟨rfl, rfl⟩, trivial⟩ | refine ⟨.inr ⟨rfl, rfl⟩, ?_⟩ | (intro _ _) | exact vz1 | (exact VSub.aggL ⟨.closed rfl, .closed rfl, frzLB (by first | exact List.elem_iff.1 rfl | (simp; done)) rfl (fun _ => rfl) rfl, trivial⟩) | exact vz2 | fail))); done))); refine zal (T := 54) ?_)) | (refine ar_pcall (own := false) fn42 rfl rfl (.cons (.closed rfl) (.cons (.ext (fun _ _ => rfl)) (.cons (.closed rfl) .nil))) (exWhere_p) (by simp) (dc rfl) ?_; intro _ hv; subst hv) | (refine ar_buildLE Mk.enc (exMarks) (by exact ty rfl) (by exact rfl) (by exact ty rfl) (by exact rfl) (by exact rfl) (by exact Nat.succ_pos _) (by exact rfl) (by exact dc rfl) (by exact rfl) (by exact fun _ => ⟨rfl, rfl⟩) (by exact dc rfl) ?_) | (((refine ar_subk_l (sub_frzL (t := 35) Mk.enc (exMarks) rfl rfl rfl rfl (fun _ _ => rfl) (fun _ => rfl)) ?_); refine ar_buildLE Mk.enc (exSeen) (by exact ty rfl) (by exact rfl) (by exact ty rfl) (by exact rfl) (by exact rfl) (by exact Nat.succ_pos _) (by exact rfl) (by exact dc rfl) (by exact rfl) (by exact fun _ => ⟨rfl, rfl⟩) (by exact dc rfl) ?_)) | (((refine ar_subk_l (sub_frzL (t := 38) Mk.enc (exSeen) rfl rfl rfl rfl (fun _ _ => rfl) (fun _ => rfl)) ?_); refine ar_pcall (own := false) fn16 rfl rfl (.cons (.closed rfl) (.cons (.closed rfl) (.cons (.closed rfl) .nil))) (exRegister_p) (by simp) (dc rfl) ?_; intro _ hv; subst hv)) | (refine ar_buildLE vi ([0]) (by exact ty rfl) (by exact rfl) (by exact ty rfl) (by exact rfl) (by exact rfl) (by exact Nat.succ_pos _) (by exact rfl) (by exact dc rfl) (by exact rfl) (by exact fun _ => ⟨rfl, rfl⟩) (by exact dc rfl) ?_) | (((refine ar_subk_l (sub_frzL (t := 44) vi ([0]) rfl rfl rfl rfl (fun _ _ => rfl) (fun _ => rfl)) ?_); refine ar_buildLE vi ([4]) (by exact ty rfl) (by exact rfl) (by exact ty rfl) (by exact rfl) (by exact rfl) (by exact Nat.succ_pos _) (by exact rfl) (by exact dc rfl) (by exact rfl) (by exact fun _ => ⟨rfl, rfl⟩) (by exact dc rfl) ?_)) | (((refine ar_subk_l (sub_frzL (t := 45) vi ([4]) rfl rfl rfl rfl (fun _ _ => rfl) (fun _ => rfl)) ?_); refine ar_buildLE encInts (exBand) (by exact ty rfl) (by exact rfl) (by exact ty rfl) (by exact rfl) (by exact rfl) (by exact Nat.succ_pos _) (by exact rfl) (by exact dc rfl) (by exact rfl) (by exact fun _ => ⟨rfl, rfl⟩) (by exact dc rfl) ?_)) | (((refine ar_subk_l (sub_frzL (t := 46) encInts (exBand) rfl rfl rfl rfl (fun _ _ => rfl) (fun _ => rfl)) ?_); refine ar_pcall (own := false) fn23 rfl rfl (.cons (.closed rfl) (.cons (.closed rfl) (.cons (.closed rfl) .nil))) (exLasts_p) (by simp) (dc rfl) ?_; intro _ hv; subst hv)) | (refine ar_pcall (own := false) fn29 rfl rfl (.cons (.closed rfl) (.cons (.closed rfl) .nil)) (exLine_p) (by simp) (dc rfl) ?_; intro _ hv; subst hv) | (refine ar_pcall (own := false) fn39 rfl rfl (.cons (.closed rfl) (.cons (.closed rfl) .nil)) (exSame_p) (by simp) (dc rfl) ?_; intro _ hv; subst hv) | (refine ar_buildLE vi (exOut) (by exact ty rfl) (by exact rfl) (by exact ty rfl) (by exact rfl) (by exact rfl) (by exact Nat.succ_pos _) (by exact rfl) (by exact dc rfl) (by exact rfl) (by exact fun _ => ⟨rfl, rfl⟩) (by exact dc rfl) ?_) | (((refine ar_subk_l (sub_frzL (t := 72) vi (exOut) rfl rfl rfl rfl (fun _ _ => rfl) (fun _ => rfl)) ?_); refine ar_pcall (own := false) fn33 rfl rfl (.cons (.closed rfl) (.cons (.closed rfl) .nil)) (sameInts8_p exOut) (by simp) (dc rfl) ?_; intro _ hv; subst hv)) | (refine ar_q (qs_seqN sqBox rfl rfl (.sub (ty rfl) (seq rfl) rfl rfl (.int (ty rfl) rfl rfl rfl rfl (.int (ty rfl) rfl rfl rfl rfl .nil)) (.sub (ty rfl) (seq rfl) rfl rfl (.int (ty rfl) rfl rfl rfl rfl (.int (ty rfl) rfl rfl rfl rfl .nil)) .nil))) (dc rfl) ?_) | (refine ar_buildLE vi ([0, 1, 2]) (by exact ty rfl) (by exact rfl) (by exact ty rfl) (by exact rfl) (by exact rfl) (by exact Nat.succ_pos _) (by exact rfl) (by exact dc rfl) (by exact rfl) (by exact fun _ => ⟨rfl, rfl⟩) (by exact dc rfl) ?_) | (((refine ar_subk_l (sub_frzL (t := 100) vi ([0, 1, 2]) rfl rfl rfl rfl (fun _ _ => rfl) (fun _ => rfl)) ?_); refine ar_pcall (own := false) fn33 rfl rfl (.cons (.closed rfl) (.cons (.closed rfl) .nil)) (sameInts8_p [0, 1, 2]) (by simp) (dc rfl) ?_; intro _ hv; subst hv)) | (refine zal ?_) | (refine zb1 ?_) | (refine zb0 ?_) | (refine zsvs ?_) | (refine zsva ?_) | (refine zses ?_) | (refine zsea ?_) | (refine zg ?_ ?_ <;> intro hg <;> first | exact absurd hg (by decide) | ((try replace hg := HG.out hg); (try dsimp only at hg); (try (have _h : True := hg; clear _h hg)); first | (exfalso; omega) | skip)) | (refine zgu ?_) | (refine ar_nil ?_) | (refine aw_seq ?_) | (refine aw_skip ?_) | (refine aw_block ?_) | (refine aw_exit ?_) | (refine aw_region ?_) | (refine zco ?_ ?_ <;> intro hg <;> first | exact absurd hg (by decide) | ((try replace hg := HG.out hg); (try dsimp only at hg); (try (have _h : True := hg; clear _h hg)); first | (exfalso; omega) | skip))))
  all_goals first
    | ((refine aw_ret ?_; (repeat (first | refine ret_then ?_ | refine ret_block ?_)); refine bq1 rfl ⟨?_, rfl⟩); rfl)
    | trace_state
end Go.Proofs.Ythpbjihnikapoaa
namespace Go.Proofs.Ythpbjihnikapoaa
open Go.RowKit
def entsU {α : Type} (e : α → V) (l : List (Int × α)) : List (Value × V) := l.map fun p => (.int .u8 p.1, e p.2)
def mapU {α : Type} (e : α → V) (l : List (Int × α)) : Blk := .map (entsU e l)
section
variable {α : Type}
theorem findNow_u8 (a : Int) : ∀ (es : List MapEntry) (l : List (Int × α)) (i : Nat), es.length = l.length → (∀ (j : Nat) e p, es[j]? = some e → l[j]? = some p → e.key = .int .u8 p.1) →
    Instr.findNow (.int .u8) (.int .u8 a) es i = some ((idxE l a).bind fun j => es[j]?.map fun e => (i + j, e.val))
  | [], [], _, _, _ => rfl
  | [], _ :: _, _, h, _ => by simp at h
  | _ :: _, [], _, h, _ => by simp at h
  | e :: es, p :: l, i, h, hk => by
    have h0 := hk 0 e p rfl rfl
    have ih := findNow_u8 a es l (i + 1) (by simpa using h) (fun j e' p' h1 h2 => hk (j + 1) e' p' (by simpa using h1) (by simpa using h2))
    simp only [Instr.findNow, h0, Instr.sameNow, if_true, idxE]
    by_cases hc : a = p.1
    · rw [if_pos hc, hc]
      simp
    · rw [if_neg hc]
      have : (a == p.1) = false := by simpa using hc
      rw [this]
      simp only [ih]
      cases idxE l a with
      | none => rfl
      | some j => simp [Nat.add_assoc, Nat.add_comm 1 j]
end
section
variable {P : Program} {r : Option Nat} {m nt : Nat} {Q : Post} {env : Env} {H : Heap} {ops : Array Oper} {L : List Stp} {ty : TypeId} {pos : String} {after : Array Edge} {guard : Option (Nat × Bool)} {keep : Bool} {T K E : TypeId} {d dk de : TyD} {x y z : Operand} {dst : Option Tmp} {α : Type}
theorem mapU_at {I : Imm} {ρ : List (Option (Nat × Nat))} {w : World} {X : Ctx} (hw : WOk X I ρ H w) {b : Nat} {e : α → V} {l : List (Int × α)} (hH : H[b]? = some (mapU e l)) : ∃ cb es clk, ρ[b]? = some (some (cb, 0)) ∧ w.heap[cb]? = some (.map es clk) ∧ es.size = l.length ∧
    ∀ (i : Nat) n p, es[i]? = some n → l[i]? = some p → n.key = .int .u8 p.1 ∧ VRel I ρ (e p.2) n.val := by
  obtain ⟨cb, h1, es, clk, h2, h3, h4⟩ := hw.map b _ hH
  refine ⟨cb, es, clk, h1, h2, by simpa [entsU] using h3, fun i n p hn hp => ?_⟩
  exact h4 i n (.int .u8 p.1, e p.2) hn (by simp [entsU, hp])
theorem u8Key (a : Int) : MapKept.IsKey (.int .u8) (.int .u8 a) := by simp [MapKept.IsKey]
theorem ar_lookupU {i f b : Nat} {e : α → V} {l : List (Int × α)} {a : Int} {ok : Bool} (ht : TyIs P T d) (hk : d.tk = .map K E) (hK : TyIs P K dk) (hkk : dk.tk = .int .u8) (hE : TyIs P E de) (hx : eo env x = some (.map b)) (hy : eo env y = some (.s (.int .u8 a))) (hH : H[b]? = some (mapU e l)) (hd : f < nt)
    (h1 : ∀ v, getE l a = some v → AR P r m nt ops Q L ((f, bif ok then .tup [e v, .s (.bool true)] else e v) :: env) H) (h2 : getE l a = none → AR P r m nt ops Q L ((f, bif ok then .tup [constV de.zero, .s (.bool false)] else constV de.zero) :: env) H) :
    AR P r m nt ops Q (.q i ⟨some f, .lookup T x y ok, ty, pos, after, none⟩ :: L) env H := by
  have key : ∀ (X : Ctx) (I : Imm) (ρ : List (Option (Nat × Nat))) (ac : Act) (w : World), EnvOk I ρ nt env ac → WOk X I ρ H w → ∃ v, ((∃ q, getE l a = some q ∧ v = (bif ok then .tup [e q, .s (.bool true)] else e q)) ∨ (getE l a = none ∧ v = (bif ok then .tup [constV de.zero, .s (.bool false)] else constV de.zero))) ∧
      ∃ u, VRel I ρ v u ∧ ∀ w', Keeps I ρ H w w' → (execOp ac.eval ⟨some f, .lookup T x y ok, ty, pos, after, none⟩).run P w' = .ok (.value u) w' := by
    intro X I ρ ac w hE' hw
    obtain ⟨cb, es, clk, h3, h4, h5, h6⟩ := mapU_at hw hH
    have hm := map_val (eo_rel hE' hx) h3
    have ha := sval hE' hy
    have hfind := findNow_u8 a es.toList l 0 (by simpa using h5) (fun j n p hn hp => (h6 j n p (by simpa using hn) hp).1)
    have hget := getE_idx l a
    cases hi : idxE l a with
    | none =>
      rw [hi] at hfind hget
      refine ⟨_, .inr ⟨hget, rfl⟩, bif ok then .tuple #[de.zero, .bool false] else de.zero, ?_, fun w' hK' => ?_⟩
      · cases ok with
        | true =>
          refine .tup rfl fun j v u hj hu => ?_
          match j, hj, hu with
          | 0, hj, hu => simp at hj hu; subst hj hu; exact constV_rel _ _ _
          | 1, hj, hu => simp at hj hu; subst hj hu; exact .s _
          | j + 2, hj, _ => simp at hj
        | false => exact constV_rel _ _ _
      · have hb' : w'.heap[cb]? = some (.map es clk) := (hK'.2.2 b _ cb 0 hH h3).trans h4
        simp only [execOp, hm, ha, Instr.lookup, Sem.run_bind, run_underlying (ht.map hk), MapKept.run_getObj_map hb', MapKept.run_checkKey (hK.intk hkk) (u8Key a), MapKept.run_findKey (hK.intk hkk) hfind, Result.andThen_ok, Sem.run_pure, hE.zeroV, Option.bind_none]
        cases ok <;> rfl
    | some j =>
      have hlt := idxE_lt hi
      have hes : es[j]? = some es[j] := by simp
      obtain ⟨h7, h8⟩ := h6 j es[j] l[j] hes (by simp [hlt])
      rw [hi] at hfind hget
      have hget : getE l a = some l[j].2 := by rw [hget]; simp [hlt]
      refine ⟨_, .inl ⟨_, hget, rfl⟩, bif ok then .tuple #[es[j].val, .bool true] else es[j].val, ?_, fun w' hK' => ?_⟩
      · cases ok with
        | true =>
          refine .tup rfl fun j v u hj hu => ?_
          match j, hj, hu with
          | 0, hj, hu => simp at hj hu; subst hj hu; exact h8
          | 1, hj, hu => simp at hj hu; subst hj hu; exact .s _
          | j + 2, hj, _ => simp at hj
        | false => exact h8
      · have hb' : w'.heap[cb]? = some (.map es clk) := (hK'.2.2 b _ cb 0 hH h3).trans h4
        have hfind' : Instr.findNow (.int .u8) (.int .u8 a) es.toList 0 = some (some (j, es[j].val)) := by rw [hfind, Option.bind_some, show es.toList[j]? = some es[j] by simp]; simp
        simp only [execOp, hm, ha, Instr.lookup, Sem.run_bind, run_underlying (ht.map hk), MapKept.run_getObj_map hb', MapKept.run_checkKey (hK.intk hkk) (u8Key a), MapKept.run_findKey (hK.intk hkk) hfind', Result.andThen_ok, Sem.run_pure]
        cases ok <;> rfl
  exact ar_q_any key hd fun v hv => by
    rcases hv with ⟨q, h3, rfl⟩ | ⟨h3, rfl⟩
    · exact h1 q h3
    · exact h2 h3
theorem ls_mapUpdateU {b : Nat} {e : α → V} {l : List (Int × α)} {a : Int} {v : α} (ht : TyIs P T d) (hk : d.tk = .map K E) (hK : TyIs P K dk) (hkk : dk.tk = .int .u8) (hx : eo env x = some (.map b)) (hy : eo env y = some (.s (.int .u8 a))) (hz : eo env z = some (e v)) (hH : H[b]? = some (mapU e l)) :
    LS P r m nt false env H ⟨none, .mapUpdate T x y z, ty, pos, after, guard⟩ (fun _ H' => H' = H.set b (mapU e (putE l a v))) NoP := .mk
  fun X I ρ ac w next Qx hX hs hk' hp => by
    have hw := hs.2.1
    obtain ⟨cb, es, clk, h3, h4, h5, h6⟩ := mapU_at hw hH
    have hm := map_val (eo_rel hs.1 hx) h3
    have ha := sval hs.1 hy
    have hv := eo_rel hs.1 hz
    have hfind := findNow_u8 a es.toList l 0 (by simpa using h5) (fun j n p hn hp => (h6 j n p (by simpa using hn) hp).1)
    have hcb := (Array.getElem?_eq_some_iff.1 h4).1
    cases hi : idxE l a with
    | none =>
      rw [hi] at hfind
      have hres : (execOp ac.eval ⟨none, .mapUpdate T x y z, ty, pos, after, guard⟩).run P w = .ok .skip { w with heap := w.heap.setIfInBounds cb (.map (es.push { key := .int .u8 a, val := ac.eval z, born := clk }) (clk + 1)) } := by
        simp only [execOp, hm, ha, Instr.mapUpdate, Sem.run_bind, run_underlying (ht.map hk), MapKept.run_getObj_map h4, MapKept.run_checkKey (hK.intk hkk) (u8Key a), MapKept.run_findKey (hK.intk hkk) hfind, Result.andThen_ok, Sem.run_pure, MapKept.run_setObj_map _ h4, Option.bind_none]
      refine wpIn_of_run (by simp) hres ?_
      refine hk' I ρ _ (.s undef) undef _ rfl (Imm.le_refl _) (Pre.refl _) (hw.setMap (m' := entsU e (putE l a v)) hH h3 hcb (es := es.push { key := .int .u8 a, val := ac.eval z, born := clk }) (clock := clk + 1) (by rw [putE_none v hi]; simp [entsU, h5]) (fun i n p hn hp => ?_)) (.s _) (by simp)
      rw [putE_none v hi] at hp
      simp only [entsU, List.getElem?_map, Option.map_eq_some_iff] at hp
      obtain ⟨q, hq, rfl⟩ := hp
      rcases get_snoc hq with ⟨h7, h8⟩ | ⟨h7, h8⟩
      · rw [Array.getElem?_push, if_neg (by omega)] at hn
        exact h6 i n q hn h8
      · rw [Array.getElem?_push, if_pos (by omega)] at hn
        cases hn
        subst h8
        exact ⟨rfl, hv⟩
    | some j =>
      have hlt := idxE_lt hi
      rw [hi] at hfind
      have hfind' : Instr.findNow (.int .u8) (.int .u8 a) es.toList 0 = some (some (j, es[j].val)) := by rw [hfind, Option.bind_some, show es.toList[j]? = some es[j] by simp]; simp
      have hes : es[j]? = some es[j] := by simp
      obtain ⟨h7, h8⟩ := h6 j es[j] l[j] hes (by simp [hlt])
      have hkey : l[j].1 = a := by
        have := idxE_key hi
        rw [List.getElem?_eq_getElem hlt] at this
        simpa using this
      have hstay : ∀ w', (Instr.keyThatStays es[j].key (.int .u8 a)).run P w' = .ok (.int .u8 a) w' := fun w' => by
        rw [h7, hkey]
        exact MapKept.run_keyThatStays (u8Key a)
      have hres : (execOp ac.eval ⟨none, .mapUpdate T x y z, ty, pos, after, guard⟩).run P w = .ok .skip { w with heap := w.heap.setIfInBounds cb (.map (es.modify j fun n => { n with key := .int .u8 a, val := ac.eval z }) clk) } := by
        simp only [execOp, hm, ha, Instr.mapUpdate, Sem.run_bind, run_underlying (ht.map hk), MapKept.run_getObj_map h4, MapKept.run_checkKey (hK.intk hkk) (u8Key a), MapKept.run_findKey (hK.intk hkk) hfind', Result.andThen_ok, Sem.run_pure, MapKept.run_setObj_map _ h4, hes, Option.map_some, Option.getD_some, hstay]
      refine wpIn_of_run (by simp) hres ?_
      refine hk' I ρ _ (.s undef) undef _ rfl (Imm.le_refl _) (Pre.refl _) (hw.setMap (m' := entsU e (putE l a v)) hH h3 hcb (es := es.modify j fun n => { n with key := .int .u8 a, val := ac.eval z }) (clock := clk) (by rw [putE_some v hi]; simp [entsU, h5]) (fun i n p hn hp => ?_)) (.s _) (by simp)
      rw [putE_some v hi] at hp
      rw [entsU, List.getElem?_map, List.getElem?_modify] at hp
      obtain ⟨q0, hq0⟩ : ∃ q0, l[i]? = some q0 := by
        cases hq : l[i]? with
        | none => rw [hq] at hp; cases hp
        | some q => exact ⟨q, rfl⟩
      rw [hq0] at hp
      cases hp
      rw [Array.getElem?_modify] at hn
      by_cases hji : j = i
      · subst hji
        rw [if_pos rfl, hes] at hn
        simp only [Option.map_some, Option.some.injEq] at hn
        subst hn
        have : q0 = l[j] := by rw [List.getElem?_eq_getElem hlt] at hq0; cases hq0; rfl
        subst this
        dsimp only
        rw [if_pos rfl]
        exact ⟨by rw [hkey], hv⟩
      · rw [if_neg hji] at hn
        dsimp only
        rw [if_neg hji]
        exact h6 i n q0 hn hq0
theorem ar_mapUpdateU {i b : Nat} {e : α → V} {l : List (Int × α)} {a : Int} {v : α} (ht : TyIs P T d) (hk : d.tk = .map K E) (hK : TyIs P K dk) (hkk : dk.tk = .int .u8) (hx : eo env x = some (.map b)) (hy : eo env y = some (.s (.int .u8 a))) (hz : eo env z = some (e v)) (hH : H[b]? = some (mapU e l))
    (h : AR P r m nt ops Q L env (H.set b (mapU e (putE l a v)))) : AR P r m nt ops Q (.l i ⟨none, .mapUpdate T x y z, ty, pos, after, none⟩ false :: L) env H :=
  ar_l0 (ls_mapUpdateU ht hk hK hkk hx hy hz hH) (fun v H' a => by subst a; exact h) (fun _ _ h => h.elim)
end
section
variable {H : Heap} {σ : List (Option Nat)} {fr : Nat → Prop}
theorem bsub_mapU {α : Type} {k b : Nat} {e : α → V} {l : List (Int × α)} (h : σ[k]? = some (some b)) (hb : H[b]? = some (mapU e l)) (hc : ∀ y, (e y).closed = true) : BSub H σ fr k (mapU e l) :=
  ⟨b, _, h, hb, rfl, fun i x y hx hy => by
    rw [hx] at hy
    cases hy
    refine ⟨rfl, .closed ?_⟩
    simp only [entsU, List.getElem?_map, Option.map_eq_some_iff] at hx
    obtain ⟨p, _, rfl⟩ := hx
    exact hc _⟩
end
end Go.Proofs.Ythpbjihnikapoaa
namespace Go.Proofs.Ythpbjihnikapoaa
open Go.RowKit
set_option maxHeartbeats 4000000 in
theorem pCountsU_p (s : Sto) (hw : ∀ j, j < s.prints.length → u8ok (el s.prints j).state) : PCalls Try.prog 27 [s.enc] (· = .tup [vi (cntV s 0), vi (cntV s 1), vi (cntV s 2), vi (validE s)]) := by
  refine pcalls_of_aw Try.func27 rfl (Nat.le_of_ble_eq_true rfl) ?_
  (repeat' (first | (refine ar_isq ?_; first | refine zmv ?_ | refine zas ?_ | (refine is_load ?_; first | refine zlp ?_ | refine zlr ?_) | (refine is_binOp ?_; first | refine zlss ?_ | refine zadd ?_) | (refine is_fieldAddr ?_; first | refine zfp ?_ | refine zfr ?_) | (refine is_indexAddr ?_; first | refine zil ?_ | refine zis ?_ | refine zit ?_ | refine zia ?_ | refine zir ?_ | (refine zxl ?_; intro _ _ _) | (refine zxs ?_; intro _ _ _)) | (refine is_call ?_; first | refine zll ?_ | refine zls ?_ | refine zln ?_ | refine zle ?_) | refine zex ?_ | refine znt ?_ | refine zncp ?_ | refine zncr ?_) | ((refine ar_gcall0 fn57 rfl rfl [s.enc] ⟨.closed rfl, trivial⟩ (valid_p s) (dc rfl) ?_ (fun _ _ h => h.elim); rintro _ _ (⟨hv, rfl, rfl⟩ | ⟨hv, rfl, rfl⟩) <;> (try rw [stoB_ren]) <;> (try (have hfew := hv.1; unfold Few at hfew)))) | (refine zbx ?_) | (refine zal ?_) | (refine zsvs ?_) | (refine zsva ?_) | (refine zses ?_) | (refine zsea ?_) | (refine ar_nil ?_) | (refine aw_seq ?_) | (refine aw_skip ?_) | (refine aw_block ?_) | (refine aw_exit ?_) | (refine aw_region ?_) | (refine aw_drawn (id := 10) [(0, 0), (1, 0), (2, 0), (3, 0), (4, 0), (5, 0), (6, 0), (7, 0), (8, 0), (9, 0)] mixed (by kernel_rfl) ?_) | (refine zco ?_ ?_ <;> intro hg <;> first | exact absurd hg (by decide) | ((try replace hg := HG.out hg); (try dsimp only at hg); (try (have _h : True := hg; clear _h hg)); first | (exfalso; omega) | skip))))
  · refine aw_for s.prints.length (fun _ => True) (fun k => [(8, .ptr 3 0 0 0), (22, .sl 2 1 0 s.prints.length), (23, vi s.prints.length), (24, vi k)]) (fun k => [.arr 3 1 (fun _ => .agg [vi (cntS s.prints 0 k), vi (cntS s.prints 1 k), vi (cntS s.prints 2 k)]), LB 2 Prt.enc s.prints]) trivial ?_ ?_
    · (refine sub_to [some 5, some 3] [] rfl ?_ ?_ <;> (repeat' (first | exact trivial | refine ⟨⟨_, rfl, ?_⟩, ?_⟩ | refine ⟨bsub_snoc rfl rfl (fun _ => rfl) ?_, ?_⟩ | refine ⟨bsub_one rfl rfl ?_, ?_⟩ | refine ⟨bsub_all rfl rfl (fun _ _ => rfl) (fun _ => rfl), ?_⟩ | refine ⟨bsub_updL rfl rfl ?_ (fun _ _ _ => rfl) (fun _ => rfl), ?_⟩ | refine ⟨.inl ⟨_, _, rfl, rfl, ?_⟩, ?_⟩ | exact ⟨.inr ⟨rfl, rfl⟩, trivial⟩ | refine ⟨.inr ⟨rfl, rfl⟩, ?_⟩ | (intro _ _) | exact vz1 | exact vz2 | fail)))
    intro k hk _
    have b0 := cntS_bnd s.prints 0 k
    have b1 := cntS_bnd s.prints 1 k
    have b2 := cntS_bnd s.prints 2 k
    by_cases hlt : k < s.prints.length
    · have hp := hv.2.2.2.1 k hlt
      have hu := hw k hlt
      unfold Printed at hp
      unfold u8ok at hu
      obtain hst | hst | hst : (el s.prints k).state = 0 ∨ (el s.prints k).state = 1 ∨ (el s.prints k).state = 2 := by omega
      · (repeat' (first | (refine ar_isq ?_; first | refine zmv ?_ | refine zas ?_ | (refine is_load ?_; first | refine zlp ?_ | refine zlr ?_) | (refine is_binOp ?_; first | refine zlss ?_ | refine zadd ?_) | (refine is_fieldAddr ?_; first | refine zfp ?_ | refine zfr ?_) | (refine is_indexAddr ?_; first | refine zil ?_ | refine zis ?_ | refine zit ?_ | refine zia ?_ | refine zir ?_ | refine zil (j := k) ?_ | refine zis (j := k) ?_ | refine zit (j := k) ?_ | (refine zxl ?_; intro _ _ _) | (refine zxs ?_; intro _ _ _)) | (refine is_call ?_; first | refine zll ?_ | refine zls ?_ | refine zln ?_ | refine zle ?_) | refine zex ?_ | refine znt ?_ | refine zncp ?_ | refine zncr ?_) | (refine zia (j := 0) ?_) | (refine zbx ?_) | (refine zal ?_) | (refine zsvs ?_) | (refine zsva ?_) | (refine zses ?_) | (refine zsea ?_) | (refine ar_nil ?_) | (refine aw_seq ?_) | (refine aw_skip ?_) | (refine aw_block ?_) | (refine aw_exit ?_) | (refine aw_region ?_) | (refine aw_drawn (id := 10) [(0, 0), (1, 0), (2, 0), (3, 0), (4, 0), (5, 0), (6, 0), (7, 0), (8, 0), (9, 0)] mixed (by kernel_rfl) ?_) | (refine zco ?_ ?_ <;> intro hg <;> first | exact absurd hg (by decide) | ((try replace hg := HG.out hg); (try dsimp only at hg); (try (have _h : True := hg; clear _h hg)); first | (exfalso; omega) | skip))))
        all_goals first
          | (exfalso; omega)
          | ((first | refine loop_next (by omega) ?_ ?_ | refine (show _ ∧ _ ∧ SubOf _ _ _ _ _ _ from And.intro (by omega) (And.intro ?_ ?_))); (focus ((trivial); done)); (focus ((refine sub_to [some 0, some 1] [] rfl ?_ ?_ <;> (repeat' (first | exact trivial | refine ⟨⟨_, rfl, ?_⟩, ?_⟩ | refine ⟨bsub_snoc rfl rfl (fun _ => rfl) ?_, ?_⟩ | refine ⟨bsub_one rfl rfl ?_, ?_⟩ | refine ⟨bsub_all rfl rfl (fun _ _ => rfl) (fun _ => rfl), ?_⟩ | refine ⟨bsub_updL rfl rfl ?_ (fun _ _ _ => rfl) (fun _ => rfl), ?_⟩ | refine ⟨.inl ⟨_, _, rfl, rfl, ?_⟩, ?_⟩ | exact ⟨.inr ⟨rfl, rfl⟩, trivial⟩ | refine ⟨.inr ⟨rfl, rfl⟩, ?_⟩ | (intro _ _) | exact vz1 | (exact VSub.aggL ⟨siEq (by rw [cntS_yes hst]), siEq (by rw [cntS_no (by omega)]), siEq (by rw [cntS_no (by omega)]), trivial⟩) | exact vz2 | fail))); done)))
          | trace_state
      · (repeat' (first | (refine ar_isq ?_; first | refine zmv ?_ | refine zas ?_ | (refine is_load ?_; first | refine zlp ?_ | refine zlr ?_) | (refine is_binOp ?_; first | refine zlss ?_ | refine zadd ?_) | (refine is_fieldAddr ?_; first | refine zfp ?_ | refine zfr ?_) | (refine is_indexAddr ?_; first | refine zil ?_ | refine zis ?_ | refine zit ?_ | refine zia ?_ | refine zir ?_ | refine zil (j := k) ?_ | refine zis (j := k) ?_ | refine zit (j := k) ?_ | (refine zxl ?_; intro _ _ _) | (refine zxs ?_; intro _ _ _)) | (refine is_call ?_; first | refine zll ?_ | refine zls ?_ | refine zln ?_ | refine zle ?_) | refine zex ?_ | refine znt ?_ | refine zncp ?_ | refine zncr ?_) | (refine zia (j := 1) ?_) | (refine zbx ?_) | (refine zal ?_) | (refine zsvs ?_) | (refine zsva ?_) | (refine zses ?_) | (refine zsea ?_) | (refine ar_nil ?_) | (refine aw_seq ?_) | (refine aw_skip ?_) | (refine aw_block ?_) | (refine aw_exit ?_) | (refine aw_region ?_) | (refine aw_drawn (id := 10) [(0, 0), (1, 0), (2, 0), (3, 0), (4, 0), (5, 0), (6, 0), (7, 0), (8, 0), (9, 0)] mixed (by kernel_rfl) ?_) | (refine zco ?_ ?_ <;> intro hg <;> first | exact absurd hg (by decide) | ((try replace hg := HG.out hg); (try dsimp only at hg); (try (have _h : True := hg; clear _h hg)); first | (exfalso; omega) | skip))))
        all_goals first
          | (exfalso; omega)
          | ((first | refine loop_next (by omega) ?_ ?_ | refine (show _ ∧ _ ∧ SubOf _ _ _ _ _ _ from And.intro (by omega) (And.intro ?_ ?_))); (focus ((trivial); done)); (focus ((refine sub_to [some 0, some 1] [] rfl ?_ ?_ <;> (repeat' (first | exact trivial | refine ⟨⟨_, rfl, ?_⟩, ?_⟩ | refine ⟨bsub_snoc rfl rfl (fun _ => rfl) ?_, ?_⟩ | refine ⟨bsub_one rfl rfl ?_, ?_⟩ | refine ⟨bsub_all rfl rfl (fun _ _ => rfl) (fun _ => rfl), ?_⟩ | refine ⟨bsub_updL rfl rfl ?_ (fun _ _ _ => rfl) (fun _ => rfl), ?_⟩ | refine ⟨.inl ⟨_, _, rfl, rfl, ?_⟩, ?_⟩ | exact ⟨.inr ⟨rfl, rfl⟩, trivial⟩ | refine ⟨.inr ⟨rfl, rfl⟩, ?_⟩ | (intro _ _) | exact vz1 | (exact VSub.aggL ⟨siEq (by rw [cntS_no (by omega)]), siEq (by rw [cntS_yes hst]), siEq (by rw [cntS_no (by omega)]), trivial⟩) | exact vz2 | fail))); done)))
          | trace_state
      · (repeat' (first | (refine ar_isq ?_; first | refine zmv ?_ | refine zas ?_ | (refine is_load ?_; first | refine zlp ?_ | refine zlr ?_) | (refine is_binOp ?_; first | refine zlss ?_ | refine zadd ?_) | (refine is_fieldAddr ?_; first | refine zfp ?_ | refine zfr ?_) | (refine is_indexAddr ?_; first | refine zil ?_ | refine zis ?_ | refine zit ?_ | refine zia ?_ | refine zir ?_ | refine zil (j := k) ?_ | refine zis (j := k) ?_ | refine zit (j := k) ?_ | (refine zxl ?_; intro _ _ _) | (refine zxs ?_; intro _ _ _)) | (refine is_call ?_; first | refine zll ?_ | refine zls ?_ | refine zln ?_ | refine zle ?_) | refine zex ?_ | refine znt ?_ | refine zncp ?_ | refine zncr ?_) | (refine zia (j := 2) ?_) | (refine zbx ?_) | (refine zal ?_) | (refine zsvs ?_) | (refine zsva ?_) | (refine zses ?_) | (refine zsea ?_) | (refine ar_nil ?_) | (refine aw_seq ?_) | (refine aw_skip ?_) | (refine aw_block ?_) | (refine aw_exit ?_) | (refine aw_region ?_) | (refine aw_drawn (id := 10) [(0, 0), (1, 0), (2, 0), (3, 0), (4, 0), (5, 0), (6, 0), (7, 0), (8, 0), (9, 0)] mixed (by kernel_rfl) ?_) | (refine zco ?_ ?_ <;> intro hg <;> first | exact absurd hg (by decide) | ((try replace hg := HG.out hg); (try dsimp only at hg); (try (have _h : True := hg; clear _h hg)); first | (exfalso; omega) | skip))))
        all_goals first
          | (exfalso; omega)
          | ((first | refine loop_next (by omega) ?_ ?_ | refine (show _ ∧ _ ∧ SubOf _ _ _ _ _ _ from And.intro (by omega) (And.intro ?_ ?_))); (focus ((trivial); done)); (focus ((refine sub_to [some 0, some 1] [] rfl ?_ ?_ <;> (repeat' (first | exact trivial | refine ⟨⟨_, rfl, ?_⟩, ?_⟩ | refine ⟨bsub_snoc rfl rfl (fun _ => rfl) ?_, ?_⟩ | refine ⟨bsub_one rfl rfl ?_, ?_⟩ | refine ⟨bsub_all rfl rfl (fun _ _ => rfl) (fun _ => rfl), ?_⟩ | refine ⟨bsub_updL rfl rfl ?_ (fun _ _ _ => rfl) (fun _ => rfl), ?_⟩ | refine ⟨.inl ⟨_, _, rfl, rfl, ?_⟩, ?_⟩ | exact ⟨.inr ⟨rfl, rfl⟩, trivial⟩ | refine ⟨.inr ⟨rfl, rfl⟩, ?_⟩ | (intro _ _) | exact vz1 | (exact VSub.aggL ⟨siEq (by rw [cntS_no (by omega)]), siEq (by rw [cntS_no (by omega)]), siEq (by rw [cntS_yes hst]), trivial⟩) | exact vz2 | fail))); done)))
          | trace_state
    · obtain rfl : k = s.prints.length := by omega
      (repeat' (first | (refine ar_isq ?_; first | refine zmv ?_ | refine zas ?_ | (refine is_load ?_; first | refine zlp ?_ | refine zlr ?_) | (refine is_binOp ?_; first | refine zlss ?_ | refine zadd ?_) | (refine is_fieldAddr ?_; first | refine zfp ?_ | refine zfr ?_) | (refine is_indexAddr ?_; first | refine zil ?_ | refine zis ?_ | refine zit ?_ | refine zia ?_ | refine zir ?_ | (refine zxl ?_; intro _ _ _) | (refine zxs ?_; intro _ _ _)) | (refine is_call ?_; first | refine zll ?_ | refine zls ?_ | refine zln ?_ | refine zle ?_) | refine zex ?_ | refine znt ?_ | refine zncp ?_ | refine zncr ?_) | (refine zia (j := 0) ?_) | (refine zia (j := 1) ?_) | (refine zia (j := 2) ?_) | (refine zbx ?_) | (refine zal ?_) | (refine zsvs ?_) | (refine zsva ?_) | (refine zses ?_) | (refine zsea ?_) | (refine ar_nil ?_) | (refine aw_seq ?_) | (refine aw_skip ?_) | (refine aw_block ?_) | (refine aw_exit ?_) | (refine aw_region ?_) | (refine aw_drawn (id := 10) [(0, 0), (1, 0), (2, 0), (3, 0), (4, 0), (5, 0), (6, 0), (7, 0), (8, 0), (9, 0)] mixed (by kernel_rfl) ?_) | (refine zco ?_ ?_ <;> intro hg <;> first | exact absurd hg (by decide) | ((try replace hg := HG.out hg); (try dsimp only at hg); (try (have _h : True := hg; clear _h hg)); first | (exfalso; omega) | skip))))
      all_goals first
        | (exfalso; omega)
        | ((refine aw_ret ?_; (repeat (first | refine ret_then ?_ | refine ret_block ?_)); refine bq4 rfl rfl rfl rfl ⟨?_, rfl⟩); rw [cntV_ok hv, cntV_ok hv, cntV_ok hv, validE, if_pos hv]; rfl)
        | trace_state
  · (refine aw_ret ?_; (repeat (first | refine ret_then ?_ | refine ret_block ?_)); refine bq4 rfl rfl rfl rfl ⟨?_, rfl⟩)
    rw [cntV_no hv, cntV_no hv, cntV_no hv, validE, if_neg hv]
    rfl
def getD0 (l : List (Int × Int)) (q : Int) : Int := (getE l q).getD 0
theorem getD0_put (l : List (Int × Int)) (a b v : Int) : getD0 (putE l a v) b = if b = a then v else getD0 l b := by
  unfold getD0
  rw [getE_put]
  split <;> rfl
/-- The counts of the prints' keys, avs the map holds them. -/
def tallyTo (f : Prt → Int) (l : List Prt) : Nat → List (Int × Int)
  | 0 => []
  | k + 1 => putE (tallyTo f l k) (f (el l k)) (getD0 (tallyTo f l k) (f (el l k)) + 1)
theorem tally_cnt (f : Prt → Int) (l : List Prt) (q : Int) : ∀ k, getD0 (tallyTo f l k) q = cntB (fun j => decide (f (el l j) = q)) k
  | 0 => rfl
  | k + 1 => by
    rw [tallyTo, getD0_put]
    by_cases h : q = f (el l k)
    · rw [if_pos h, cntB_yes (by simp [h]), ← h, tally_cnt f l q k]
    · rw [if_neg h, cntB_no (by simp; omega), tally_cnt f l q k]
def pressFor (l : List Itm) : Nat → List (Int × Bool)
  | 0 => []
  | k + 1 => if 2 ≤ (el l k).place then putE (pressFor l k) (el l k).place true else pressFor l k
theorem pressFor_free {l : List Itm} {q : Int} : ∀ {k : Nat}, (∀ j, j < k → 2 ≤ (el l j).place → (el l j).place ≠ q) → getE (pressFor l k) q = none
  | 0, _ => rfl
  | k + 1, h => by
    unfold pressFor
    split
    · rename_i h2
      rw [getE_put, if_neg (fun e => h k (by omega) h2 e.symm)]
      exact pressFor_free fun j hj => h j (by omega)
    · exact pressFor_free fun j hj => h j (by omega)
/-- The sum over the first k plates. -/
def sumP (l : List Itm) (f : Nat → Int) : Nat → Int
  | 0 => 0
  | k + 1 => sumP l f k + (if (el l k).kind = 3 then f k else 0)
theorem sumP_add (l : List Itm) (f g : Nat → Int) : ∀ k, sumP l (fun i => f i + g i) k = sumP l f k + sumP l g k
  | 0 => rfl
  | k + 1 => by
    simp only [sumP]
    rw [sumP_add l f g k]
    split <;> omega
theorem sumP_one (l : List Itm) (p : Nat) : ∀ k, sumP l (fun i => if p = i then 1 else 0) k = if p < k ∧ (el l p).kind = 3 then 1 else 0
  | 0 => by simp [sumP]
  | k + 1 => by
    simp only [sumP]
    rw [sumP_one l p k]
    by_cases h : p = k
    · subst h
      by_cases h3 : (el l p).kind = 3
      · rw [if_neg (by omega), if_pos h3, if_pos rfl, if_pos ⟨by omega, h3⟩]; rfl
      · rw [if_neg (by omega), if_neg h3, if_neg (fun q => h3 q.2)]; rfl
    · have e : (p < k + 1 ∧ (el l p).kind = 3) ↔ (p < k ∧ (el l p).kind = 3) := ⟨fun q => ⟨by omega, q.2⟩, fun q => ⟨by omega, q.2⟩⟩
      simp only [if_neg h, e, ite_self, Int.add_zero]
theorem sumP_same {l : List Itm} {f g : Nat → Int} : ∀ {k : Nat}, (∀ i, i < k → (el l i).kind = 3 → f i = g i) → sumP l f k = sumP l g k
  | 0, _ => rfl
  | k + 1, h => by
    simp only [sumP]
    rw [sumP_same fun i hi => h i (by omega)]
    by_cases h3 : (el l k).kind = 3
    · rw [if_pos h3, if_pos h3, h k (by omega) h3]
    · rw [if_neg h3, if_neg h3]
theorem sumP_zero (l : List Itm) : ∀ k, sumP l (fun _ => 0) k = 0
  | 0 => rfl
  | k + 1 => by simp only [sumP]; rw [sumP_zero l k]; split <;> rfl
theorem sumP_prints {l : List Itm} {ps : List Prt} : ∀ {n : Nat}, (∀ j, j < n → Printed l (el ps j)) → sumP l (fun i => usedP ps i n) l.length = n
  | 0, _ => by
    rw [show (fun i : Nat => usedP ps (i : Int) 0) = fun _ => 0 from rfl, sumP_zero]
    rfl
  | n + 1, h => by
    have ih := sumP_prints (l := l) (ps := ps) (n := n) fun j hj => h j (by omega)
    have hp := h n (by omega)
    unfold Printed at hp
    rw [sumP_same (g := fun i => usedP ps i n + (if (el ps n).plate.toNat = i then 1 else 0)) (fun i hi h3 => ?_), sumP_add, ih, sumP_one, if_pos ⟨by omega, hp.2.1⟩]
    · omega
    · by_cases e : (el ps n).plate = (i : Int)
      · rw [if_pos (by omega)]
        exact usedP_yes e
      · rw [if_neg (by omega), usedP_no e]
        omega
/-- Plates are made into nothing. -/
theorem plate_ends {l : List Itm} (h : ∀ i, i < l.length → Made l i) {i : Nat} (hi : (el l i).kind = 3) : ∀ {k : Nat}, k ≤ l.length → usedI l i k = 0
  | 0, _ => rfl
  | k + 1, hk => by
    have ih := plate_ends h hi (k := k) (by omega)
    have hm := h k (by omega)
    unfold Made at hm
    rw [usedI_no (fun e => ?_), ih]
    rcases hm with ⟨_, h1⟩ | ⟨h1, h2, h3⟩
    · omega
    · rw [e, Int.toNat_natCast, hi] at h3
      omega
theorem plate_uses {s : Sto} (hV : Valid s) {i : Nat} (hi : i < s.items.length) (h3 : (el s.items i).kind = 3) : (el s.items i).uses = usedP s.prints i s.prints.length := by
  have h := (hV.2.2.2.2 i hi).1
  unfold usedS at h
  rw [plate_ends hV.2.1 h3 (Nat.le_refl _)] at h
  omega
theorem sum_uses {s : Sto} (hV : Valid s) : sumP s.items (fun i => (el s.items i).uses) s.items.length = s.prints.length := by
  rw [sumP_same (g := fun i => usedP s.prints i s.prints.length) fun i hi h3 => plate_uses hV hi h3]
  exact sumP_prints hV.2.2.2.1
theorem states_all {l : List Prt} : ∀ {k : Nat}, (∀ j, j < k → 0 ≤ (el l j).state ∧ (el l j).state ≤ 2) → cntS l 0 k + cntS l 1 k + cntS l 2 k = k
  | 0, _ => rfl
  | k + 1, h => by
    have ih := states_all (l := l) (k := k) fun j hj => h j (by omega)
    have hk := h k (by omega)
    obtain e | e | e : (el l k).state = 0 ∨ (el l k).state = 1 ∨ (el l k).state = 2 := by omega
    · rw [cntS_yes e, cntS_no (by omega), cntS_no (by omega)]; omega
    · rw [cntS_yes e, cntS_no (by omega), cntS_no (by omega)]; omega
    · rw [cntS_yes e, cntS_no (by omega), cntS_no (by omega)]; omega
theorem sumP_bnd {l : List Itm} {f : Nat → Int} {M : Int} (h0 : 0 ≤ M) : ∀ {k : Nat}, (∀ i, i < k → (el l i).kind = 3 → 0 ≤ f i ∧ f i ≤ M) → 0 ≤ sumP l f k ∧ sumP l f k ≤ k * M
  | 0, _ => by simp [sumP]
  | k + 1, h => by
    have ih := sumP_bnd (l := l) h0 (k := k) fun i hi => h i (by omega)
    simp only [sumP]
    rw [Int.natCast_add, Int.add_mul]
    split
    · rename_i h3
      have := h k (by omega) h3
      omega
    · omega
end Go.Proofs.Ythpbjihnikapoaa
