/- Parts of the proof: a layer of values over the model, and contracts of functions. No condition. -/
import Derived.Test.YtbilpbabdgfblaaKXe8
namespace Go.Proofs.Ytbilpbabdgfblaa
open Go.RowKit
theorem vsub_to {α : Type} [Inhabited α] {H : Heap} {σ : List (Option Nat)} {fr : Nat → Prop} {k i : Nat} {e : α → V} {L : List α} {g : Nat → V} (hik : i < k + 1) (hv : g 0 = e (el L k)) (hc : ∀ y, (e y).closed = true) : VSub H σ fr (appF k (fun i => e (el L i)) g i) (e (el L i)) := by
  by_cases h : i < k
  · rw [appF_lt h]; exact .closed (hc _)
  · obtain rfl : i = k := by omega
    rw [appF_ge (Nat.le_refl _), Nat.sub_self, hv]
    exact .closed (hc _)
def opH (h : Hse) (k : Nat) : V := .agg [vi h.per, vi h.day, vi h.store.life, .sl 5 3 0 h.store.items.length, .sl 2 4 0 h.store.prints.length, .sl 7 5 0 k, encLics h.lics, encOrders h.orders, encInts h.made, encInts h.fors, .map 1]
set_option maxHeartbeats 4000000 in
theorem hopen_p (h : Hse) (hs : HSmall h) : ACalls Try.prog 35 [h.enc] [] (fun v H => v = .ptr 11 0 0 0 ∧ H = shoB h []) NoP := by
  have hs0 := hs
  unfold HSmall at hs
  obtain ⟨s1, s2, s3, s4, s5, s6, s7, s8⟩ := hs
  refine acalls_of_aw Try.func35 rfl (Nat.le_of_ble_eq_true rfl) ?_
  (repeat' (first | (refine ar_isq ?_; first | refine zmv ?_ | refine zas ?_ | (refine is_load ?_; first | refine zlp ?_ | refine zlr ?_) | (refine is_binOp ?_; first | refine zlss ?_ | refine zadd ?_) | (refine is_fieldAddr ?_; first | refine zfp ?_ | refine zfr ?_) | (refine is_indexAddr ?_; first | refine zil ?_ | refine zis ?_ | refine zit ?_ | refine zia ?_ | refine zir ?_ | (refine zxl ?_; intro _ _ _) | (refine zxs ?_; intro _ _ _)) | (refine is_call ?_; first | refine zll ?_ | refine zls ?_ | refine zln ?_ | refine zle ?_) | refine zncp ?_ | refine zncr ?_ | (refine ar_buildT ?_ (by exact ty rfl) (by exact rfl) (by exact sizes rfl) (by exact rfl) (by exact rfl) (by exact build rfl) (by exact dc rfl); intro _ hds; (try dsimp only [List.toList_toArray, cells_s, cells_emp, cells_agg, cells_list, cells_sl, cells_ptr, cells_ref, cells_fn, cells_vi, cells_vb, cells_vnil, constV, List.map_cons, List.map_nil, List.take_succ_cons, List.take_zero, List.drop_succ_cons, List.drop_zero, List.cons_append, List.nil_append, List.append_nil, LV_cells] at hds); (try dsimp only [cells_s, cells_emp, cells_agg, cells_list, cells_sl, cells_ptr, cells_ref, cells_fn, cells_vi, cells_vb, cells_vnil, constV, List.map_cons, List.map_nil, List.take_succ_cons, List.take_zero, List.drop_succ_cons, List.drop_zero, List.cons_append, List.nil_append, List.append_nil, LV_cells] at hds); subst hds)) | (refine ar_makeMap (dc rfl) ?_) | (refine ar_fcall fn55 rfl rfl (.cons (.closed rfl) .nil) (cloneI_p h.store.items (by omega)) (dc rfl) ?_; rintro n0 g0 ⟨rfl, hg0⟩) | (refine ar_fcall fn56 rfl rfl (.cons (.closed rfl) .nil) (cloneP_p h.store.prints (by omega)) (dc rfl) ?_; rintro n1 g1 ⟨rfl, hg1⟩) | (refine zbx ?_) | (refine zal ?_) | (refine zb1 ?_) | (refine zb0 ?_) | (refine zapoo ?_) | (refine zapol ?_) | (refine zapno ?_) | (refine zapnl ?_) | (refine zapeo ?_) | (refine zapel ?_) | (refine zsvs ?_) | (refine zsva ?_) | (refine zses ?_) | (refine zsea ?_) | (refine ar_nil ?_) | (refine aw_seq ?_) | (refine aw_skip ?_) | (refine aw_block ?_) | (refine aw_exit ?_) | (refine aw_region ?_) | (refine aw_drawn (id := 2) [(0, 0), (1, 0), (2, 0), (3, 0), (4, 0), (6, 0), (7, 0), (8, 0), (5, 1), (9, 1), (10, 0), (11, 0), (12, 0), (13, 0), (14, 2), (15, 0), (16, 0), (17, 0), (18, 0), (19, 2)] mixed (by kernel_rfl) ?_) | (refine aw_drawn (id := 7) [(0, 0), (1, 0), (2, 0), (3, 0), (4, 0), (5, 0), (6, 0), (7, 1), (8, 1), (9, 1), (10, 0), (11, 0), (12, 0), (13, 2)] mixed (by kernel_rfl) ?_) | (refine aw_drawn (id := 9) [(0, 0), (1, 0), (2, 0), (3, 0), (5, 0), (6, 0), (4, 1), (7, 1), (8, 0), (9, 0), (10, 0), (11, 2), (12, 0), (13, 0), (14, 0), (15, 2)] mixed (by kernel_rfl) ?_) | (refine aw_drawn (id := 10) [(0, 0), (1, 0), (2, 0), (3, 0), (5, 0), (6, 0), (4, 1), (7, 1), (8, 0), (9, 0), (10, 0), (11, 2), (12, 0), (13, 0), (14, 0), (15, 2)] mixed (by kernel_rfl) ?_) | (refine zco ?_ ?_ <;> intro hg <;> first | exact absurd hg (by decide) | ((try replace hg := HG.out hg); (try dsimp only at hg); (try (have _h : True := hg; clear _h hg)); first | (exfalso; omega) | skip))))
  refine aw_for h.designs.length (fun _ => True) (fun k => [(1, .ptr 10 0 0 0), (3, .ptr 11 2 0 0), (33, encDsns h.designs), (34, vi h.designs.length), (35, vi k)]) (fun k => [.arr 10 1 (fun _ => h.enc), mapE Tal.enc [], .arr 11 1 (fun _ => opH h k), LB 5 Itm.enc h.store.items, LB 2 Prt.enc h.store.prints, .arr 7 k (fun i => Dsn.enc (el h.designs i))]) trivial ?_ ?_
  · (refine sub_to [some 0, some 1, some 2, some 3, some 4, none] [] rfl ?_ ?_ <;> (repeat' (first | exact trivial | refine ⟨⟨_, rfl, ?_⟩, ?_⟩ | refine ⟨bsub_snoc rfl rfl (fun _ => rfl) ?_, ?_⟩ | refine ⟨bsub_one rfl rfl ?_, ?_⟩ | refine ⟨bsub_all rfl rfl (fun _ _ => rfl) (fun _ => rfl), ?_⟩ | refine ⟨bsub_updL rfl rfl ?_ (fun _ _ _ => rfl) (fun _ => rfl), ?_⟩ | refine ⟨.inl ⟨_, _, rfl, rfl, ?_⟩, ?_⟩ | exact ⟨.inr ⟨rfl, rfl⟩, trivial⟩ | refine ⟨.inr ⟨rfl, rfl⟩, ?_⟩ | (intro _ _) | exact vz1 | (first | exact VSub.of_eq (hg0 _ (by assumption)) rfl | exact VSub.of_eq (hg1 _ (by assumption)) rfl | refine ⟨bsub_mapE rfl rfl (fun _ => rfl), ?_⟩ | exact VSub.aggL ⟨.closed rfl, .closed rfl, .closed rfl, .sl rfl, .sl rfl, .nil rfl, .closed rfl, .closed rfl, .closed rfl, .closed rfl, .map rfl, trivial⟩) | exact vz2 | fail)))
  clear hg0 hg1 g0 g1
  intro k hk _
  by_cases hlt : k < h.designs.length
  · have hsm := s8 _ (el_mem hlt)
    (repeat' (first | (refine ar_isq ?_; first | refine zmv ?_ | refine zas ?_ | (refine is_load ?_; first | refine zlp ?_ | refine zlr ?_) | (refine is_binOp ?_; first | refine zlss ?_ | refine zadd ?_) | (refine is_fieldAddr ?_; first | refine zfp ?_ | refine zfr ?_) | (refine is_indexAddr ?_; first | refine zil ?_ | refine zis ?_ | refine zit ?_ | refine zia ?_ | refine zir ?_ | refine zil (j := k) ?_ | refine zis (j := k) ?_ | refine zit (j := k) ?_ | (refine zxl ?_; intro _ _ _) | (refine zxs ?_; intro _ _ _)) | (refine is_call ?_; first | refine zll ?_ | refine zls ?_ | refine zln ?_ | refine zle ?_) | refine zncp ?_ | refine zncr ?_ | (refine ar_buildT ?_ (by exact ty rfl) (by exact rfl) (by exact sizes rfl) (by exact rfl) (by exact rfl) (by exact build rfl) (by exact dc rfl); intro _ hds; (try dsimp only [List.toList_toArray, cells_s, cells_emp, cells_agg, cells_list, cells_sl, cells_ptr, cells_ref, cells_fn, cells_vi, cells_vb, cells_vnil, constV, List.map_cons, List.map_nil, List.take_succ_cons, List.take_zero, List.drop_succ_cons, List.drop_zero, List.cons_append, List.nil_append, List.append_nil, LV_cells] at hds); (try dsimp only [cells_s, cells_emp, cells_agg, cells_list, cells_sl, cells_ptr, cells_ref, cells_fn, cells_vi, cells_vb, cells_vnil, constV, List.map_cons, List.map_nil, List.take_succ_cons, List.take_zero, List.drop_succ_cons, List.drop_zero, List.cons_append, List.nil_append, List.append_nil, LV_cells] at hds); subst hds)) | (refine ar_pcall (own := false) fn57 rfl rfl (.cons (.closed rfl) .nil) (htwin_p (el h.designs k) hsm) (by simp) (dc rfl) ?_; intro _ hv; subst hv) | (refine zbx ?_) | (refine zal ?_) | (refine zb1 ?_) | (refine zb0 ?_) | (refine zapoo ?_) | (refine zapol ?_) | (refine zapno ?_) | (refine zapnl ?_) | (refine zapeo ?_) | (refine zapel ?_) | (refine zsvs ?_) | (refine zsva ?_) | (refine zses ?_) | (refine zsea ?_) | (refine ar_nil ?_) | (refine aw_seq ?_) | (refine aw_skip ?_) | (refine aw_block ?_) | (refine aw_exit ?_) | (refine aw_region ?_) | (refine aw_drawn (id := 2) [(0, 0), (1, 0), (2, 0), (3, 0), (4, 0), (6, 0), (7, 0), (8, 0), (5, 1), (9, 1), (10, 0), (11, 0), (12, 0), (13, 0), (14, 2), (15, 0), (16, 0), (17, 0), (18, 0), (19, 2)] mixed (by kernel_rfl) ?_) | (refine aw_drawn (id := 7) [(0, 0), (1, 0), (2, 0), (3, 0), (4, 0), (5, 0), (6, 0), (7, 1), (8, 1), (9, 1), (10, 0), (11, 0), (12, 0), (13, 2)] mixed (by kernel_rfl) ?_) | (refine aw_drawn (id := 9) [(0, 0), (1, 0), (2, 0), (3, 0), (5, 0), (6, 0), (4, 1), (7, 1), (8, 0), (9, 0), (10, 0), (11, 2), (12, 0), (13, 0), (14, 0), (15, 2)] mixed (by kernel_rfl) ?_) | (refine aw_drawn (id := 10) [(0, 0), (1, 0), (2, 0), (3, 0), (5, 0), (6, 0), (4, 1), (7, 1), (8, 0), (9, 0), (10, 0), (11, 2), (12, 0), (13, 0), (14, 0), (15, 2)] mixed (by kernel_rfl) ?_) | (refine zco ?_ ?_ <;> intro hg <;> first | exact absurd hg (by decide) | ((try replace hg := HG.out hg); (try dsimp only at hg); (try (have _h : True := hg; clear _h hg)); first | (exfalso; omega) | skip))))
    all_goals first
      | (exfalso; omega)
      | ((first | refine loop_next (by omega) ?_ ?_ | refine (show _ ∧ _ ∧ SubOf _ _ _ _ _ _ from And.intro (by omega) (And.intro ?_ ?_))); (focus ((exact trivial); done)); (focus ((refine sub_to [some 0, some 1, some 2, some 3, some 4, some 8] [] rfl ?_ ?_ <;> (repeat' (first | exact trivial | refine ⟨⟨_, rfl, ?_⟩, ?_⟩ | refine ⟨bsub_snoc rfl rfl (fun _ => rfl) ?_, ?_⟩ | refine ⟨bsub_one rfl rfl ?_, ?_⟩ | refine ⟨bsub_all rfl rfl (fun _ _ => rfl) (fun _ => rfl), ?_⟩ | refine ⟨bsub_updL rfl rfl ?_ (fun _ _ _ => rfl) (fun _ => rfl), ?_⟩ | refine ⟨.inl ⟨_, _, rfl, rfl, ?_⟩, ?_⟩ | exact ⟨.inr ⟨rfl, rfl⟩, trivial⟩ | refine ⟨.inr ⟨rfl, rfl⟩, ?_⟩ | (intro _ _) | exact vz1 | (first | exact vsub_to (e := Dsn.enc) (by assumption) rfl (fun _ => rfl) | refine ⟨bsub_mapE rfl rfl (fun _ => rfl), ?_⟩ | exact VSub.aggL ⟨.closed rfl, .closed rfl, .closed rfl, .sl rfl, .sl rfl, .sl rfl, .closed rfl, .closed rfl, .closed rfl, .closed rfl, .map rfl, trivial⟩) | exact vz2 | fail))); done)))
      | trace_state
  · obtain rfl : k = h.designs.length := by omega
    (repeat' (first | (refine ar_isq ?_; first | refine zmv ?_ | refine zas ?_ | (refine is_load ?_; first | refine zlp ?_ | refine zlr ?_) | (refine is_binOp ?_; first | refine zlss ?_ | refine zadd ?_) | (refine is_fieldAddr ?_; first | refine zfp ?_ | refine zfr ?_) | (refine is_indexAddr ?_; first | refine zil ?_ | refine zis ?_ | refine zit ?_ | refine zia ?_ | refine zir ?_ | (refine zxl ?_; intro _ _ _) | (refine zxs ?_; intro _ _ _)) | (refine is_call ?_; first | refine zll ?_ | refine zls ?_ | refine zln ?_ | refine zle ?_) | refine zncp ?_ | refine zncr ?_ | (refine ar_buildT ?_ (by exact ty rfl) (by exact rfl) (by exact sizes rfl) (by exact rfl) (by exact rfl) (by exact build rfl) (by exact dc rfl); intro _ hds; (try dsimp only [List.toList_toArray, cells_s, cells_emp, cells_agg, cells_list, cells_sl, cells_ptr, cells_ref, cells_fn, cells_vi, cells_vb, cells_vnil, constV, List.map_cons, List.map_nil, List.take_succ_cons, List.take_zero, List.drop_succ_cons, List.drop_zero, List.cons_append, List.nil_append, List.append_nil, LV_cells] at hds); (try dsimp only [cells_s, cells_emp, cells_agg, cells_list, cells_sl, cells_ptr, cells_ref, cells_fn, cells_vi, cells_vb, cells_vnil, constV, List.map_cons, List.map_nil, List.take_succ_cons, List.take_zero, List.drop_succ_cons, List.drop_zero, List.cons_append, List.nil_append, List.append_nil, LV_cells] at hds); subst hds)) | (refine ar_fcall fn58 rfl rfl (.cons (.closed rfl) .nil) (cloneC_p h.lics (by omega)) (dc rfl) ?_; rintro n2 g2 ⟨rfl, hg2⟩) | (refine ar_fcall fn59 rfl rfl (.cons (.closed rfl) .nil) (cloneO_p h.orders (by omega)) (dc rfl) ?_; rintro n3 g3 ⟨rfl, hg3⟩) | (refine ar_fcall fn60 rfl rfl (.cons (.closed rfl) .nil) (clone_p h.made (by omega)) (dc rfl) ?_; rintro n4 g4 ⟨rfl, hg4⟩) | (refine ar_fcall fn60 rfl rfl (.cons (.closed rfl) .nil) (clone_p h.fors (by omega)) (dc rfl) ?_; rintro n5 g5 ⟨rfl, hg5⟩) | (refine zbx ?_) | (refine zal ?_) | (refine zb1 ?_) | (refine zb0 ?_) | (refine zapoo ?_) | (refine zapol ?_) | (refine zapno ?_) | (refine zapnl ?_) | (refine zapeo ?_) | (refine zapel ?_) | (refine zsvs ?_) | (refine zsva ?_) | (refine zses ?_) | (refine zsea ?_) | (refine ar_nil ?_) | (refine aw_seq ?_) | (refine aw_skip ?_) | (refine aw_block ?_) | (refine aw_exit ?_) | (refine aw_region ?_) | (refine aw_drawn (id := 2) [(0, 0), (1, 0), (2, 0), (3, 0), (4, 0), (6, 0), (7, 0), (8, 0), (5, 1), (9, 1), (10, 0), (11, 0), (12, 0), (13, 0), (14, 2), (15, 0), (16, 0), (17, 0), (18, 0), (19, 2)] mixed (by kernel_rfl) ?_) | (refine aw_drawn (id := 7) [(0, 0), (1, 0), (2, 0), (3, 0), (4, 0), (5, 0), (6, 0), (7, 1), (8, 1), (9, 1), (10, 0), (11, 0), (12, 0), (13, 2)] mixed (by kernel_rfl) ?_) | (refine aw_drawn (id := 9) [(0, 0), (1, 0), (2, 0), (3, 0), (5, 0), (6, 0), (4, 1), (7, 1), (8, 0), (9, 0), (10, 0), (11, 2), (12, 0), (13, 0), (14, 0), (15, 2)] mixed (by kernel_rfl) ?_) | (refine aw_drawn (id := 10) [(0, 0), (1, 0), (2, 0), (3, 0), (5, 0), (6, 0), (4, 1), (7, 1), (8, 0), (9, 0), (10, 0), (11, 2), (12, 0), (13, 0), (14, 0), (15, 2)] mixed (by kernel_rfl) ?_) | (refine zco ?_ ?_ <;> intro hg <;> first | exact absurd hg (by decide) | ((try replace hg := HG.out hg); (try dsimp only at hg); (try (have _h : True := hg; clear _h hg)); first | (exfalso; omega) | skip))))
    all_goals first
      | (exfalso; omega)
      | ((refine aw_mono_r (env' := [(2, .ptr 11 0 0 0)]) (H' := [.arr 11 1 (fun _ => shoV 1 2 3 4 5 6 7 8 h), LB 5 Itm.enc h.store.items, LB 2 Prt.enc h.store.prints, LB 7 Dsn.enc h.designs, LB 4 Lic.enc h.lics, LB 4 Ordr.enc h.orders, LB 1 vi h.made, LB 1 vi h.fors, mapE Tal.enc []]) ?_ ?_; (focus ((refine sub_to [some 2, some 3, some 4, some 5, some 6, some 7, some 8, some 9, some 1] [] rfl ?_ ?_ <;> (repeat' (first | exact trivial | refine ⟨⟨_, rfl, ?_⟩, ?_⟩ | refine ⟨bsub_snoc rfl rfl (fun _ => rfl) ?_, ?_⟩ | refine ⟨bsub_one rfl rfl ?_, ?_⟩ | refine ⟨bsub_all rfl rfl (fun _ _ => rfl) (fun _ => rfl), ?_⟩ | refine ⟨bsub_updL rfl rfl ?_ (fun _ _ _ => rfl) (fun _ => rfl), ?_⟩ | refine ⟨.inl ⟨_, _, rfl, rfl, ?_⟩, ?_⟩ | exact ⟨.inr ⟨rfl, rfl⟩, trivial⟩ | refine ⟨.inr ⟨rfl, rfl⟩, ?_⟩ | (intro _ _) | exact vz1 | (first | exact VSub.of_eq (hg2 _ (by assumption)) rfl | exact VSub.of_eq (hg3 _ (by assumption)) rfl | exact VSub.of_eq (hg4 _ (by assumption)) rfl | exact VSub.of_eq (hg5 _ (by assumption)) rfl | refine ⟨bsub_mapE rfl rfl (fun _ => rfl), ?_⟩ | exact VSub.aggL ⟨.closed rfl, .closed rfl, .closed rfl, .sl rfl, .sl rfl, .sl rfl, .sl rfl, .sl rfl, .sl rfl, .sl rfl, .map rfl, trivial⟩) | exact vz2 | fail))); done)))
         refine aw_ret ?_
         exact bq1 rfl ⟨rfl, rfl⟩)
      | trace_state
end Go.Proofs.Ytbilpbabdgfblaa
namespace Go.Proofs.Ytbilpbabdgfblaa
open Go.RowKit
def MadeOk (h : Hse) : Prop := h.made.length = h.store.items.length ∧ ∀ i, i < h.store.items.length → MadeAt h i
set_option maxHeartbeats 4000000 in
theorem hmade_p (h : Hse) (hs : HSmall h) (hV : Valid h.store) : PCalls Try.prog 38 [.ref h.enc 0] (fun v => ∃ b : Bool, v = vb b ∧ (b = true ↔ MadeOk h)) := by
  have hs0 := hs
  unfold HSmall at hs
  refine pcalls_of_aw Try.func38 rfl (Nat.le_of_ble_eq_true rfl) ?_
  (repeat' (first | (refine ar_isq ?_; first | refine zmv ?_ | refine zas ?_ | (refine is_load ?_; first | refine zlp ?_ | refine zlr ?_) | (refine is_binOp ?_; first | refine zlss ?_ | refine zgtr ?_ | refine zeql ?_ | refine zneq ?_ | refine zadd ?_) | (refine is_fieldAddr ?_; first | refine zfp ?_ | refine zfr ?_) | (refine is_indexAddr ?_; first | refine zil ?_ | refine zis ?_ | refine zit ?_ | refine zia ?_ | refine zir ?_ | (refine zxl ?_; intro _ _ _) | (refine zxs ?_; intro _ _ _)) | (refine is_call ?_; first | refine zll ?_ | refine zls ?_ | refine zln ?_ | refine zle ?_) | (refine is_pick ?_; first | refine zpt ?_ | refine zpf ?_) | refine znt ?_ | refine zncp ?_ | refine zncr ?_) | (refine zal ?_) | (refine zsvs ?_) | (refine zsva ?_) | (refine zses ?_) | (refine zsea ?_) | (refine zg ?_ ?_ <;> intro hg <;> first | exact absurd hg (by decide) | ((try replace hg := HG.out hg); (try dsimp only at hg); (try rw [inD_iff] at hg); (try (have _h : True := hg; clear _h hg)); first | (exfalso; omega) | skip)) | (refine zgu ?_) | (refine ar_nil ?_) | (refine aw_seq ?_) | (refine aw_skip ?_) | (refine aw_block ?_) | (refine aw_exit ?_) | (refine aw_region ?_) | (refine aw_drawn (id := 1) [(0, 0), (1, 0), (2, 0), (3, 0), (4, 0), (5, 0), (6, 0), (7, 0), (8, 0), (9, 0), (10, 0), (11, 0), (12, 0), (13, 0)] mixed (by kernel_rfl) ?_) | (refine aw_drawn (id := 6) [(0, 0), (1, 0), (2, 0), (3, 0), (4, 0), (5, 0), (6, 0), (7, 0), (8, 0), (9, 1), (10, 0), (11, 0), (12, 0), (13, 0), (14, 0), (15, 0), (16, 0), (17, 0), (18, 0), (19, 0), (20, 0), (21, 0), (22, 0), (23, 0), (24, 0), (25, 0), (26, 0), (27, 0), (28, 0), (29, 0), (30, 0), (31, 0), (32, 0), (33, 0), (34, 0), (35, 0), (36, 0), (37, 0), (38, 0), (39, 0), (40, 0), (41, 0), (42, 0), (43, 0), (44, 0), (45, 0), (46, 0), (47, 0), (48, 0), (49, 0), (50, 0), (51, 0), (52, 1), (53, 0), (54, 0), (55, 0)] mixed (by kernel_rfl) ?_) | (refine zco ?_ ?_ <;> intro hg <;> first | exact absurd hg (by decide) | ((try replace hg := HG.out hg); (try dsimp only at hg); (try rw [inD_iff] at hg); (try (have _h : True := hg; clear _h hg)); first | (exfalso; omega) | skip))))
  · (refine aw_ret ?_; (repeat (first | refine ret_then ?_ | refine ret_block ?_)); refine bq1 rfl ⟨?_, rfl⟩)
    exact ⟨false, rfl, ⟨fun h => (by cases h), fun hM => by have := hM.1; omega⟩⟩
  · refine aw_for h.store.items.length (fun k => ∀ j, j < k → MadeAt h j) (fun k => [(0, .ref h.enc 0), (24, encItems h.store.items), (25, vi h.store.items.length), (26, vi k)]) (fun _ => []) (fun j hj => by omega) ?_ ?_
    · (refine sub_to [] [] rfl ?_ ?_ <;> (repeat' (first | exact trivial | refine ⟨⟨_, rfl, ?_⟩, ?_⟩ | refine ⟨bsub_snoc rfl rfl (fun _ => rfl) ?_, ?_⟩ | refine ⟨bsub_one rfl rfl ?_, ?_⟩ | refine ⟨bsub_all rfl rfl (fun _ _ => rfl) (fun _ => rfl), ?_⟩ | refine ⟨bsub_updL rfl rfl ?_ (fun _ _ _ => rfl) (fun _ => rfl), ?_⟩ | refine ⟨.inl ⟨_, _, rfl, rfl, ?_⟩, ?_⟩ | exact ⟨.inr ⟨rfl, rfl⟩, trivial⟩ | refine ⟨.inr ⟨rfl, rfl⟩, ?_⟩ | (intro _ _) | exact vz1 | exact vz2 | fail)))
    intro k hk hJ
    by_cases hlt : k < h.store.items.length
    · have hm := hV.2.1 k hlt
      unfold Made at hm
      (repeat' (first | (refine ar_isq ?_; first | refine zmv ?_ | refine zas ?_ | (refine is_load ?_; first | refine zlp ?_ | refine zlr ?_) | (refine is_binOp ?_; first | refine zlss ?_ | refine zgtr ?_ | refine zeql ?_ | refine zneq ?_ | refine zadd ?_) | (refine is_fieldAddr ?_; first | refine zfp ?_ | refine zfr ?_) | (refine is_indexAddr ?_; first | refine zil ?_ | refine zis ?_ | refine zit ?_ | refine zia ?_ | refine zir ?_ | refine zil (j := k) ?_ | refine zis (j := k) ?_ | refine zit (j := k) ?_ | refine zil (j := (el h.store.items k).src.toNat) ?_ | refine zis (j := (el h.store.items k).src.toNat) ?_ | refine zit (j := (el h.store.items k).src.toNat) ?_ | (refine zxl ?_; intro _ _ _) | (refine zxs ?_; intro _ _ _)) | (refine is_call ?_; first | refine zll ?_ | refine zls ?_ | refine zln ?_ | refine zle ?_) | (refine is_pick ?_; first | refine zpt ?_ | refine zpf ?_) | refine znt ?_ | refine zncp ?_ | refine zncr ?_) | (refine ar_pcall (own := false) fn66 rfl rfl (.cons (.closed rfl) (.cons (.closed rfl) .nil)) (design_p h (el h.made k) hs0) (by simp) (dc rfl) ?_; intro _ hv; subst hv) | (refine ar_pcall (own := false) fn67 rfl rfl (.cons (.closed rfl) (.cons (.closed rfl) .nil)) (allows_p h (el h.made k) (by assumption)) (by simp) (dc rfl) ?_; intro _ hv; subst hv) | (refine zal ?_) | (refine zsvs ?_) | (refine zsva ?_) | (refine zses ?_) | (refine zsea ?_) | (refine zg ?_ ?_ <;> intro hg <;> first | exact absurd hg (by decide) | ((try replace hg := HG.out hg); (try dsimp only at hg); (try rw [inD_iff] at hg); (try (have _h : True := hg; clear _h hg)); first | (exfalso; omega) | skip)) | (refine zgu ?_) | (refine ar_nil ?_) | (refine aw_seq ?_) | (refine aw_skip ?_) | (refine aw_block ?_) | (refine aw_exit ?_) | (refine aw_region ?_) | (refine aw_drawn (id := 1) [(0, 0), (1, 0), (2, 0), (3, 0), (4, 0), (5, 0), (6, 0), (7, 0), (8, 0), (9, 0), (10, 0), (11, 0), (12, 0), (13, 0)] mixed (by kernel_rfl) ?_) | (refine aw_drawn (id := 6) [(0, 0), (1, 0), (2, 0), (3, 0), (4, 0), (5, 0), (6, 0), (7, 0), (8, 0), (9, 1), (10, 0), (11, 0), (12, 0), (13, 0), (14, 0), (15, 0), (16, 0), (17, 0), (18, 0), (19, 0), (20, 0), (21, 0), (22, 0), (23, 0), (24, 0), (25, 0), (26, 0), (27, 0), (28, 0), (29, 0), (30, 0), (31, 0), (32, 0), (33, 0), (34, 0), (35, 0), (36, 0), (37, 0), (38, 0), (39, 0), (40, 0), (41, 0), (42, 0), (43, 0), (44, 0), (45, 0), (46, 0), (47, 0), (48, 0), (49, 0), (50, 0), (51, 0), (52, 1), (53, 0), (54, 0), (55, 0)] mixed (by kernel_rfl) ?_) | (refine zco ?_ ?_ <;> intro hg <;> first | exact absurd hg (by decide) | ((try replace hg := HG.out hg); (try dsimp only at hg); (try rw [inD_iff] at hg); (try (have _h : True := hg; clear _h hg)); first | (exfalso; omega) | skip))))
      all_goals first
        | (exfalso; omega)
        | ((refine aw_mono_r (env' := [(2, vb false)]) (H' := []) ?_ ?_; (focus ((refine sub_to [] [] rfl ?_ ?_ <;> (repeat' (first | exact trivial | refine ⟨⟨_, rfl, ?_⟩, ?_⟩ | refine ⟨bsub_snoc rfl rfl (fun _ => rfl) ?_, ?_⟩ | refine ⟨bsub_one rfl rfl ?_, ?_⟩ | refine ⟨bsub_all rfl rfl (fun _ _ => rfl) (fun _ => rfl), ?_⟩ | refine ⟨bsub_updL rfl rfl ?_ (fun _ _ _ => rfl) (fun _ => rfl), ?_⟩ | refine ⟨.inl ⟨_, _, rfl, rfl, ?_⟩, ?_⟩ | exact ⟨.inr ⟨rfl, rfl⟩, trivial⟩ | refine ⟨.inr ⟨rfl, rfl⟩, ?_⟩ | (intro _ _) | exact vz1 | exact vz2 | fail))); done))); (refine aw_ret ?_; (repeat (first | refine ret_then ?_ | refine ret_block ?_)); refine bq1 rfl ⟨?_, rfl⟩); refine ⟨false, rfl, ⟨fun h => (by cases h), fun hM => ?_⟩⟩; obtain ⟨h1, h2, h3⟩ := hM.2 k hlt; unfold inDesigns at h1; first | omega | (have := h2 (by omega); omega) | (have := h3 (by omega); omega))
        | ((first | refine loop_next (by omega) ?_ ?_ | refine (show _ ∧ _ ∧ SubOf _ _ _ _ _ _ from And.intro (by omega) (And.intro ?_ ?_))); (focus (((refine all_step hJ ⟨?_, fun _ => ?_, fun _ => ?_⟩ <;> first | assumption | omega)); done)); (focus ((refine sub_to [] [] rfl ?_ ?_ <;> (repeat' (first | exact trivial | refine ⟨⟨_, rfl, ?_⟩, ?_⟩ | refine ⟨bsub_snoc rfl rfl (fun _ => rfl) ?_, ?_⟩ | refine ⟨bsub_one rfl rfl ?_, ?_⟩ | refine ⟨bsub_all rfl rfl (fun _ _ => rfl) (fun _ => rfl), ?_⟩ | refine ⟨bsub_updL rfl rfl ?_ (fun _ _ _ => rfl) (fun _ => rfl), ?_⟩ | refine ⟨.inl ⟨_, _, rfl, rfl, ?_⟩, ?_⟩ | exact ⟨.inr ⟨rfl, rfl⟩, trivial⟩ | refine ⟨.inr ⟨rfl, rfl⟩, ?_⟩ | (intro _ _) | exact vz1 | exact vz2 | fail))); done)))
        | trace_state
    · (repeat' (first | (refine ar_isq ?_; first | refine zmv ?_ | refine zas ?_ | (refine is_load ?_; first | refine zlp ?_ | refine zlr ?_) | (refine is_binOp ?_; first | refine zlss ?_ | refine zgtr ?_ | refine zeql ?_ | refine zneq ?_ | refine zadd ?_) | (refine is_fieldAddr ?_; first | refine zfp ?_ | refine zfr ?_) | (refine is_indexAddr ?_; first | refine zil ?_ | refine zis ?_ | refine zit ?_ | refine zia ?_ | refine zir ?_ | (refine zxl ?_; intro _ _ _) | (refine zxs ?_; intro _ _ _)) | (refine is_call ?_; first | refine zll ?_ | refine zls ?_ | refine zln ?_ | refine zle ?_) | (refine is_pick ?_; first | refine zpt ?_ | refine zpf ?_) | refine znt ?_ | refine zncp ?_ | refine zncr ?_) | (refine zal ?_) | (refine zsvs ?_) | (refine zsva ?_) | (refine zses ?_) | (refine zsea ?_) | (refine zg ?_ ?_ <;> intro hg <;> first | exact absurd hg (by decide) | ((try replace hg := HG.out hg); (try dsimp only at hg); (try rw [inD_iff] at hg); (try (have _h : True := hg; clear _h hg)); first | (exfalso; omega) | skip)) | (refine zgu ?_) | (refine ar_nil ?_) | (refine aw_seq ?_) | (refine aw_skip ?_) | (refine aw_block ?_) | (refine aw_exit ?_) | (refine aw_region ?_) | (refine aw_drawn (id := 1) [(0, 0), (1, 0), (2, 0), (3, 0), (4, 0), (5, 0), (6, 0), (7, 0), (8, 0), (9, 0), (10, 0), (11, 0), (12, 0), (13, 0)] mixed (by kernel_rfl) ?_) | (refine aw_drawn (id := 6) [(0, 0), (1, 0), (2, 0), (3, 0), (4, 0), (5, 0), (6, 0), (7, 0), (8, 0), (9, 1), (10, 0), (11, 0), (12, 0), (13, 0), (14, 0), (15, 0), (16, 0), (17, 0), (18, 0), (19, 0), (20, 0), (21, 0), (22, 0), (23, 0), (24, 0), (25, 0), (26, 0), (27, 0), (28, 0), (29, 0), (30, 0), (31, 0), (32, 0), (33, 0), (34, 0), (35, 0), (36, 0), (37, 0), (38, 0), (39, 0), (40, 0), (41, 0), (42, 0), (43, 0), (44, 0), (45, 0), (46, 0), (47, 0), (48, 0), (49, 0), (50, 0), (51, 0), (52, 1), (53, 0), (54, 0), (55, 0)] mixed (by kernel_rfl) ?_) | (refine zco ?_ ?_ <;> intro hg <;> first | exact absurd hg (by decide) | ((try replace hg := HG.out hg); (try dsimp only at hg); (try rw [inD_iff] at hg); (try (have _h : True := hg; clear _h hg)); first | (exfalso; omega) | skip))))
      all_goals first
        | (exfalso; omega)
        | ((refine aw_ret ?_; (repeat (first | refine ret_then ?_ | refine ret_block ?_)); refine bq1 rfl ⟨?_, rfl⟩); exact ⟨true, rfl, ⟨fun _ => ⟨by omega, fun j hj => hJ j (by omega)⟩, fun _ => rfl⟩⟩)
        | trace_state
end Go.Proofs.Ytbilpbabdgfblaa
namespace Go.Proofs.Ytbilpbabdgfblaa
open Go.RowKit
def OrdersOk (h : Hse) : Prop := (h.orders.length ≤ 30 ∧ h.fors.length = h.store.prints.length) ∧ (∀ j, j < h.fors.length → ForAt h j) ∧ ∀ i, i < h.orders.length → OrdAt h i
/-- No state is below nought. -/
def StOk (s : Sto) : Prop := ∀ j, j < s.prints.length → 0 ≤ (el s.prints j).state
def OrderedR (h : Hse) (v : V) (H : Heap) : Prop := (v = vb true ∧ OrdersOk h ∧ ∃ m, TalOk h m ∧ H = shoB h m) ∨ (v = vb false ∧ ¬ OrdersOk h)
theorem tal_small {h : Hse} {k : Nat} (hst : ∀ j, j < k → 0 ≤ (el h.store.prints j).state ∧ (el h.store.prints j).state ≤ 2) (hk : k ≤ 1000) (n : Int) : (talAt (talTo h k) n).small := by
  rw [talTo_at hst]
  have h0 := doneTo_bnd h n 0 k
  have h1 := doneTo_bnd h n 1 k
  have h2 := doneTo_bnd h n 2 k
  refine ⟨?_, ?_, ?_⟩ <;> dsimp only <;> omega
set_option maxHeartbeats 8000000 in
theorem hordered_p (h : Hse) (hs : HSmall h) (hV : Valid h.store) (hM : MadeOk h) (hw : StOk h.store) : ACalls Try.prog 39 [.ptr 11 0 0 0] (shoB h []) (OrderedR h) NoP := by
  have hs0 := hs
  unfold HSmall at hs
  have hml := hM.1
  refine acalls_of_aw Try.func39 rfl (Nat.le_of_ble_eq_true rfl) ?_
  (repeat' (first | (refine ar_isq ?_; first | refine zmv ?_ | refine zas ?_ | (refine is_load ?_; first | refine zlp ?_ | refine zlr ?_) | (refine is_binOp ?_; first | refine zlss ?_ | refine zgtr ?_ | refine zneq ?_ | refine zadd ?_) | (refine is_fieldAddr ?_; first | refine zfp ?_ | refine zfr ?_) | (refine is_indexAddr ?_; first | refine zil ?_ | refine zis ?_ | refine zit ?_ | refine zia ?_ | refine zir ?_ | (refine zxl ?_; intro _ _ _) | (refine zxs ?_; intro _ _ _)) | (refine is_call ?_; first | refine zll ?_ | refine zls ?_ | refine zln ?_ | refine zle ?_) | (refine is_pick ?_; first | refine zpt ?_ | refine zpf ?_) | refine znt ?_ | refine zncp ?_ | refine zncr ?_ | refine zix ?_) | (refine zal ?_) | (refine zb1 ?_) | (refine zb0 ?_) | (refine zsvs ?_) | (refine zsva ?_) | (refine zses ?_) | (refine zsea ?_) | (refine zg ?_ ?_ <;> intro hg <;> first | exact absurd hg (by decide) | ((try replace hg := HG.out hg); (try dsimp only at hg); (try rw [inD_iff] at hg); (try rw [inO_iff] at hg); (try rw [fromB_one] at hg); (try rw [withinB_iff] at hg); (try rw [withinB_no] at hg); (try (have _h : True := hg; clear _h hg)); first | (exfalso; omega) | skip)) | (refine zgu ?_) | (refine ar_nil ?_) | (refine aw_seq ?_) | (refine aw_skip ?_) | (refine aw_block ?_) | (refine aw_exit ?_) | (refine aw_region ?_) | (refine aw_drawn (id := 1) [(0, 0), (1, 0), (2, 0), (3, 0), (4, 0), (5, 0), (6, 0), (7, 0), (8, 0), (9, 0), (10, 0), (11, 0), (12, 0), (13, 0), (14, 0), (15, 0), (16, 0), (17, 0), (18, 0), (19, 0), (20, 0), (21, 0), (22, 0)] mixed (by kernel_rfl) ?_) | (refine aw_drawn (id := 7) [(0, 0), (1, 0), (2, 1), (3, 0), (4, 0), (5, 0), (6, 0), (7, 0), (8, 0), (9, 0), (10, 0), (11, 0), (12, 0), (13, 0), (14, 0), (15, 0), (16, 0), (17, 0), (18, 0), (19, 0), (20, 0), (21, 0), (22, 0), (23, 0), (24, 0)] mixed (by kernel_rfl) ?_) | (refine aw_drawn (id := 7) [(0, 0), (1, 0), (2, 2), (3, 0), (4, 0), (5, 0), (6, 0), (7, 0), (8, 0), (9, 0), (10, 0), (11, 0), (12, 0), (13, 0), (14, 0), (15, 0), (16, 0), (17, 0), (18, 0), (19, 0), (20, 0), (21, 0), (22, 0), (23, 0), (24, 0)] mixed (by kernel_rfl) ?_) | (refine aw_drawn (id := 16) [(0, 0), (1, 0), (2, 0), (3, 0), (4, 0), (5, 0), (6, 0), (7, 0), (8, 0), (9, 0), (10, 0), (11, 0), (12, 0), (13, 0), (14, 0), (15, 0)] mixed (by kernel_rfl) ?_) | (refine zco ?_ ?_ <;> intro hg <;> first | exact absurd hg (by decide) | ((try replace hg := HG.out hg); (try dsimp only at hg); (try rw [inD_iff] at hg); (try rw [inO_iff] at hg); (try rw [fromB_one] at hg); (try rw [withinB_iff] at hg); (try rw [withinB_no] at hg); (try (have _h : True := hg; clear _h hg)); first | (exfalso; omega) | skip))))
  all_goals (try ((refine aw_ret ?_; (repeat (first | refine ret_then ?_ | refine ret_block ?_)); refine bq1 rfl (.inr ⟨rfl, fun hO => ?_⟩)); have := hO.1; omega))
  have hst : ∀ j, j < h.store.prints.length → 0 ≤ (el h.store.prints j).state ∧ (el h.store.prints j).state ≤ 2 := fun j hj => by have := hV.2.2.2.1 j hj; have := hw j hj; unfold Printed at *; omega
  have hpl : ∀ j, j < h.store.prints.length → 0 ≤ (el h.store.prints j).plate ∧ (el h.store.prints j).plate < (h.store.items.length : Int) := fun j hj => by have := hV.2.2.2.1 j hj; unfold Printed at this; omega
  refine aw_for h.fors.length (fun k => ∀ j, j < k → ForAt h j) (fun k => [(0, .ptr 11 0 0 0), (37, .sl 1 7 0 h.fors.length), (38, vi h.fors.length), (39, vi k)]) (fun k => [.arr 11 1 (fun _ => shoV 1 2 3 4 5 6 7 8 h), LB 5 Itm.enc h.store.items, LB 2 Prt.enc h.store.prints, LB 7 Dsn.enc h.designs, LB 4 Lic.enc h.lics, LB 4 Ordr.enc h.orders, LB 1 vi h.made, LB 1 vi h.fors, mapE Tal.enc (talTo h k)]) (fun j hj => by omega) ?_ ?_
  · (refine sub_to [some 0, some 1, some 2, some 3, some 4, some 5, some 6, some 7, some 8] [] rfl ?_ ?_ <;> (repeat' (first | exact trivial | refine ⟨⟨_, rfl, ?_⟩, ?_⟩ | refine ⟨bsub_snoc rfl rfl (fun _ => rfl) ?_, ?_⟩ | refine ⟨bsub_one rfl rfl ?_, ?_⟩ | refine ⟨bsub_all rfl rfl (fun _ _ => rfl) (fun _ => rfl), ?_⟩ | refine ⟨bsub_updL rfl rfl ?_ (fun _ _ _ => rfl) (fun _ => rfl), ?_⟩ | refine ⟨.inl ⟨_, _, rfl, rfl, ?_⟩, ?_⟩ | exact ⟨.inr ⟨rfl, rfl⟩, trivial⟩ | refine ⟨.inr ⟨rfl, rfl⟩, ?_⟩ | (intro _ _) | exact vz1 | (first | refine ⟨bsub_mapE rfl rfl (fun _ => rfl), ?_⟩ | exact VSub.aggL ⟨.closed rfl, .closed rfl, .closed rfl, .sl rfl, .sl rfl, .sl rfl, .sl rfl, .sl rfl, .sl rfl, .sl rfl, .map rfl, trivial⟩) | exact vz2 | fail)))
  intro k hk hJ
  by_cases hlt : k < h.fors.length
  · have hp := hpl k (by omega)
    have hq := hst k (by omega)
    have hsm := tal_small (h := h) (k := k) (fun j hj => hst j (by omega)) (by omega) (el h.fors k)
    (repeat' (first | (refine ar_isq ?_; first | refine zmv ?_ | refine zas ?_ | (refine is_load ?_; first | refine zlp ?_ | refine zlr ?_) | (refine is_binOp ?_; first | refine zlss ?_ | refine zgtr ?_ | refine zneq ?_ | refine zadd ?_) | (refine is_fieldAddr ?_; first | refine zfp ?_ | refine zfr ?_) | (refine is_indexAddr ?_; first | refine zil ?_ | refine zis ?_ | refine zit ?_ | refine zia ?_ | refine zir ?_ | refine zil (j := k) ?_ | refine zis (j := k) ?_ | refine zit (j := k) ?_ | refine zil (j := (el h.fors k).toNat) ?_ | refine zis (j := (el h.fors k).toNat) ?_ | refine zit (j := (el h.fors k).toNat) ?_ | refine zil (j := (el h.store.prints k).plate.toNat) ?_ | refine zis (j := (el h.store.prints k).plate.toNat) ?_ | refine zit (j := (el h.store.prints k).plate.toNat) ?_ | (refine zxl ?_; intro _ _ _) | (refine zxs ?_; intro _ _ _)) | (refine is_call ?_; first | refine zll ?_ | refine zls ?_ | refine zln ?_ | refine zle ?_) | (refine is_pick ?_; first | refine zpt ?_ | refine zpf ?_) | refine znt ?_ | refine zncp ?_ | refine zncr ?_ | refine zix ?_) | ((refine ar_read h (talTo h k) (order_p h (el h.fors k) hs0) fn32 (by intros; subst_vars; rfl) ?_; intro _ hv; subst hv)) | (refine ar_count (st := (el h.store.prints k).state) (k := 1) h (talTo h k) (by omega) hsm (by omega) ?_) | (refine zal ?_) | (refine zb1 ?_) | (refine zb0 ?_) | (refine zsvs ?_) | (refine zsva ?_) | (refine zses ?_) | (refine zsea ?_) | (refine zg ?_ ?_ <;> intro hg <;> first | exact absurd hg (by decide) | ((try replace hg := HG.out hg); (try dsimp only at hg); (try rw [inD_iff] at hg); (try rw [inO_iff] at hg); (try rw [fromB_one] at hg); (try rw [withinB_iff] at hg); (try rw [withinB_no] at hg); (try (have _h : True := hg; clear _h hg)); first | (exfalso; omega) | skip)) | (refine zgu ?_) | (refine ar_nil ?_) | (refine aw_seq ?_) | (refine aw_skip ?_) | (refine aw_block ?_) | (refine aw_exit ?_) | (refine aw_region ?_) | (refine aw_drawn (id := 1) [(0, 0), (1, 0), (2, 0), (3, 0), (4, 0), (5, 0), (6, 0), (7, 0), (8, 0), (9, 0), (10, 0), (11, 0), (12, 0), (13, 0), (14, 0), (15, 0), (16, 0), (17, 0), (18, 0), (19, 0), (20, 0), (21, 0), (22, 0)] mixed (by kernel_rfl) ?_) | (refine aw_drawn (id := 7) [(0, 0), (1, 0), (2, 1), (3, 0), (4, 0), (5, 0), (6, 0), (7, 0), (8, 0), (9, 0), (10, 0), (11, 0), (12, 0), (13, 0), (14, 0), (15, 0), (16, 0), (17, 0), (18, 0), (19, 0), (20, 0), (21, 0), (22, 0), (23, 0), (24, 0)] mixed (by kernel_rfl) ?_) | (refine aw_drawn (id := 7) [(0, 0), (1, 0), (2, 2), (3, 0), (4, 0), (5, 0), (6, 0), (7, 0), (8, 0), (9, 0), (10, 0), (11, 0), (12, 0), (13, 0), (14, 0), (15, 0), (16, 0), (17, 0), (18, 0), (19, 0), (20, 0), (21, 0), (22, 0), (23, 0), (24, 0)] mixed (by kernel_rfl) ?_) | (refine aw_drawn (id := 16) [(0, 0), (1, 0), (2, 0), (3, 0), (4, 0), (5, 0), (6, 0), (7, 0), (8, 0), (9, 0), (10, 0), (11, 0), (12, 0), (13, 0), (14, 0), (15, 0)] mixed (by kernel_rfl) ?_) | (refine zco ?_ ?_ <;> intro hg <;> first | exact absurd hg (by decide) | ((try replace hg := HG.out hg); (try dsimp only at hg); (try rw [inD_iff] at hg); (try rw [inO_iff] at hg); (try rw [fromB_one] at hg); (try rw [withinB_iff] at hg); (try rw [withinB_no] at hg); (try (have _h : True := hg; clear _h hg)); first | (exfalso; omega) | skip))))
    all_goals first
      | (exfalso; omega)
      | ((refine aw_ret ?_; (repeat (first | refine ret_then ?_ | refine ret_block ?_)); refine bq1 rfl (.inr ⟨rfl, fun hO => ?_⟩)); obtain ⟨h1, h2⟩ := hO.2.1 k hlt; unfold inOrders at h1; omega)
      | ((first | refine loop_next (by omega) ?_ ?_ | refine (show _ ∧ _ ∧ SubOf _ _ _ _ _ _ from And.intro (by omega) (And.intro ?_ ?_))); (focus (((refine all_step hJ ⟨?_, ?_⟩ <;> first | assumption | omega)); done)); (focus ((refine sub_to [some 0, some 1, some 2, some 3, some 4, some 5, some 6, some 7, some 8] [] rfl ?_ ?_ <;> (repeat' (first | exact trivial | refine ⟨⟨_, rfl, ?_⟩, ?_⟩ | refine ⟨bsub_snoc rfl rfl (fun _ => rfl) ?_, ?_⟩ | refine ⟨bsub_one rfl rfl ?_, ?_⟩ | refine ⟨bsub_all rfl rfl (fun _ _ => rfl) (fun _ => rfl), ?_⟩ | refine ⟨bsub_updL rfl rfl ?_ (fun _ _ _ => rfl) (fun _ => rfl), ?_⟩ | refine ⟨.inl ⟨_, _, rfl, rfl, ?_⟩, ?_⟩ | exact ⟨.inr ⟨rfl, rfl⟩, trivial⟩ | refine ⟨.inr ⟨rfl, rfl⟩, ?_⟩ | (intro _ _) | exact vz1 | (first | refine ⟨bsub_mapE rfl rfl (fun _ => rfl), ?_⟩ | exact VSub.aggL ⟨.closed rfl, .closed rfl, .closed rfl, .sl rfl, .sl rfl, .sl rfl, .sl rfl, .sl rfl, .sl rfl, .sl rfl, .map rfl, trivial⟩) | exact vz2 | fail))); done)))
      | trace_state
  · (repeat' (first | (refine ar_isq ?_; first | refine zmv ?_ | refine zas ?_ | (refine is_load ?_; first | refine zlp ?_ | refine zlr ?_) | (refine is_binOp ?_; first | refine zlss ?_ | refine zgtr ?_ | refine zneq ?_ | refine zadd ?_) | (refine is_fieldAddr ?_; first | refine zfp ?_ | refine zfr ?_) | (refine is_indexAddr ?_; first | refine zil ?_ | refine zis ?_ | refine zit ?_ | refine zia ?_ | refine zir ?_ | (refine zxl ?_; intro _ _ _) | (refine zxs ?_; intro _ _ _)) | (refine is_call ?_; first | refine zll ?_ | refine zls ?_ | refine zln ?_ | refine zle ?_) | (refine is_pick ?_; first | refine zpt ?_ | refine zpf ?_) | refine znt ?_ | refine zncp ?_ | refine zncr ?_ | refine zix ?_) | (refine zal ?_) | (refine zb1 ?_) | (refine zb0 ?_) | (refine zsvs ?_) | (refine zsva ?_) | (refine zses ?_) | (refine zsea ?_) | (refine zg ?_ ?_ <;> intro hg <;> first | exact absurd hg (by decide) | ((try replace hg := HG.out hg); (try dsimp only at hg); (try rw [inD_iff] at hg); (try rw [inO_iff] at hg); (try rw [fromB_one] at hg); (try rw [withinB_iff] at hg); (try rw [withinB_no] at hg); (try (have _h : True := hg; clear _h hg)); first | (exfalso; omega) | skip)) | (refine zgu ?_) | (refine ar_nil ?_) | (refine aw_seq ?_) | (refine aw_skip ?_) | (refine aw_block ?_) | (refine aw_exit ?_) | (refine aw_region ?_) | (refine aw_drawn (id := 1) [(0, 0), (1, 0), (2, 0), (3, 0), (4, 0), (5, 0), (6, 0), (7, 0), (8, 0), (9, 0), (10, 0), (11, 0), (12, 0), (13, 0), (14, 0), (15, 0), (16, 0), (17, 0), (18, 0), (19, 0), (20, 0), (21, 0), (22, 0)] mixed (by kernel_rfl) ?_) | (refine aw_drawn (id := 7) [(0, 0), (1, 0), (2, 1), (3, 0), (4, 0), (5, 0), (6, 0), (7, 0), (8, 0), (9, 0), (10, 0), (11, 0), (12, 0), (13, 0), (14, 0), (15, 0), (16, 0), (17, 0), (18, 0), (19, 0), (20, 0), (21, 0), (22, 0), (23, 0), (24, 0)] mixed (by kernel_rfl) ?_) | (refine aw_drawn (id := 7) [(0, 0), (1, 0), (2, 2), (3, 0), (4, 0), (5, 0), (6, 0), (7, 0), (8, 0), (9, 0), (10, 0), (11, 0), (12, 0), (13, 0), (14, 0), (15, 0), (16, 0), (17, 0), (18, 0), (19, 0), (20, 0), (21, 0), (22, 0), (23, 0), (24, 0)] mixed (by kernel_rfl) ?_) | (refine aw_drawn (id := 16) [(0, 0), (1, 0), (2, 0), (3, 0), (4, 0), (5, 0), (6, 0), (7, 0), (8, 0), (9, 0), (10, 0), (11, 0), (12, 0), (13, 0), (14, 0), (15, 0)] mixed (by kernel_rfl) ?_) | (refine zco ?_ ?_ <;> intro hg <;> first | exact absurd hg (by decide) | ((try replace hg := HG.out hg); (try dsimp only at hg); (try rw [inD_iff] at hg); (try rw [inO_iff] at hg); (try rw [fromB_one] at hg); (try rw [withinB_iff] at hg); (try rw [withinB_no] at hg); (try (have _h : True := hg; clear _h hg)); first | (exfalso; omega) | skip))))
    all_goals (try (exfalso; omega))
    have hF : ∀ j, j < h.fors.length → ForAt h j := fun j hj => hJ j (by omega)
    obtain rfl : k = h.fors.length := by omega
    clear hJ hlt hk
    have hta : ∀ n : Int, talAt (talTo h h.fors.length) n = ⟨doneF h n 0, doneF h n 1, doneF h n 2⟩ := talTo_at fun j hj => hst j (by omega)
    refine aw_for h.orders.length (fun k => ∀ j, j < k → OrdAt h j) (fun k => [(0, .ptr 11 0 0 0), (88, .sl 4 5 0 h.orders.length), (89, vi h.orders.length), (90, vi k)]) (fun _ => [.arr 11 1 (fun _ => shoV 1 2 3 4 5 6 7 8 h), LB 5 Itm.enc h.store.items, LB 2 Prt.enc h.store.prints, LB 7 Dsn.enc h.designs, LB 4 Lic.enc h.lics, LB 4 Ordr.enc h.orders, LB 1 vi h.made, LB 1 vi h.fors, mapE Tal.enc (talTo h h.fors.length)]) (fun j hj => by omega) ?_ ?_
    · (refine sub_to [some 0, some 1, some 2, some 3, some 4, some 5, some 6, some 7, some 8] [] rfl ?_ ?_ <;> (repeat' (first | exact trivial | refine ⟨⟨_, rfl, ?_⟩, ?_⟩ | refine ⟨bsub_snoc rfl rfl (fun _ => rfl) ?_, ?_⟩ | refine ⟨bsub_one rfl rfl ?_, ?_⟩ | refine ⟨bsub_all rfl rfl (fun _ _ => rfl) (fun _ => rfl), ?_⟩ | refine ⟨bsub_updL rfl rfl ?_ (fun _ _ _ => rfl) (fun _ => rfl), ?_⟩ | refine ⟨.inl ⟨_, _, rfl, rfl, ?_⟩, ?_⟩ | exact ⟨.inr ⟨rfl, rfl⟩, trivial⟩ | refine ⟨.inr ⟨rfl, rfl⟩, ?_⟩ | (intro _ _) | exact vz1 | (first | refine ⟨bsub_mapE rfl rfl (fun _ => rfl), ?_⟩ | exact VSub.aggL ⟨.closed rfl, .closed rfl, .closed rfl, .sl rfl, .sl rfl, .sl rfl, .sl rfl, .sl rfl, .sl rfl, .sl rfl, .map rfl, trivial⟩) | exact vz2 | fail)))
    intro k hk hJ
    by_cases hlt : k < h.orders.length
    · have ht0 : (talAt (talTo h h.fors.length) k).a = doneF h k 0 := by rw [hta]
      have ht1 : (talAt (talTo h h.fors.length) k).b = doneF h k 1 := by rw [hta]
      have hd0 : 0 ≤ doneF h k 0 := (doneTo_bnd h k 0 h.fors.length).1
      have hd1 : 0 ≤ doneF h k 1 := (doneTo_bnd h k 1 h.fors.length).1
      clear hta hF
      
      (repeat' (first | (refine ar_isq ?_; first | refine zmv ?_ | refine zas ?_ | (refine is_load ?_; first | refine zlp ?_ | refine zlr ?_) | (refine is_binOp ?_; first | refine zlss ?_ | refine zgtr ?_ | refine zneq ?_ | refine zadd ?_) | (refine is_fieldAddr ?_; first | refine zfp ?_ | refine zfr ?_) | (refine is_indexAddr ?_; first | refine zil ?_ | refine zis ?_ | refine zit ?_ | refine zia ?_ | refine zir ?_ | refine zil (j := k) ?_ | refine zis (j := k) ?_ | refine zit (j := k) ?_ | (refine zxl ?_; intro _ _ _) | (refine zxs ?_; intro _ _ _)) | (refine is_call ?_; first | refine zll ?_ | refine zls ?_ | refine zln ?_ | refine zle ?_) | (refine is_pick ?_; first | refine zpt ?_ | refine zpf ?_) | refine znt ?_ | refine zncp ?_ | refine zncr ?_ | refine zix ?_) | (((refine ar_subk_l (sub_frzL (t := 97) vi ([(el h.orders k).client]) rfl rfl rfl rfl (fun _ _ => rfl) (fun _ => rfl)) ?_); refine ar_pcall (own := false) fn20 rfl rfl (.cons (.closed rfl) (.cons (.closed rfl) (.cons (.closed rfl) .nil))) (hfrom_p _ _ [(el h.orders k).client]) (by simp) (dc rfl) ?_; intro _ hv; subst hv)) | (((refine ar_subk_l (sub_frzL (t := 110) vi ([(el h.orders k).need]) rfl rfl rfl rfl (fun _ _ => rfl) (fun _ => rfl)) ?_); refine ar_pcall (own := false) fn20 rfl rfl (.cons (.closed rfl) (.cons (.closed rfl) (.cons (.closed rfl) .nil))) (hfrom_p _ _ [(el h.orders k).need]) (by simp) (dc rfl) ?_; intro _ hv; subst hv)) | (refine ar_buildLE vi ([_]) (by exact ty rfl) (by exact rfl) (by exact ty rfl) (by exact rfl) (by exact rfl) (by exact Nat.succ_pos _) (by exact rfl) (by exact dc rfl) (by exact rfl) (by exact fun _ => ⟨rfl, rfl⟩) (by exact dc rfl) ?_) | ((refine ar_read h (talTo h h.fors.length) (design_p h (el h.orders k).design hs0) fn66 (by intros; subst_vars; rfl) ?_; intro _ hv; subst hv)) | (refine ar_lookupT ?_ (ty rfl) rfl (ty rfl) rfl (ty rfl) rfl rfl rfl rfl (dc rfl)) | (refine ar_q (qs_index (j := 0) (ty rfl) rfl (ty rfl) rfl rfl rfl (dc rfl) rfl) (dc rfl) ?_) | (refine ar_q (qs_index (j := 1) (ty rfl) rfl (ty rfl) rfl rfl rfl (dc rfl) rfl) (dc rfl) ?_) | (refine zal ?_) | (refine zb1 ?_) | (refine zb0 ?_) | (refine zsvs ?_) | (refine zsva ?_) | (refine zses ?_) | (refine zsea ?_) | (refine zg ?_ ?_ <;> intro hg <;> first | exact absurd hg (by decide) | ((try replace hg := HG.out hg); (try dsimp only at hg); (try rw [inD_iff] at hg); (try rw [inO_iff] at hg); (try rw [fromB_one] at hg); (try rw [withinB_iff] at hg); (try rw [withinB_no] at hg); (try rw [ht0] at hg); (try rw [ht1] at hg); (try (have _h : True := hg; clear _h hg)); first | (exfalso; omega) | skip)) | (refine zgu ?_) | (refine ar_nil ?_) | (refine aw_seq ?_) | (refine aw_skip ?_) | (refine aw_block ?_) | (refine aw_exit ?_) | (refine aw_region ?_) | (refine aw_drawn (id := 1) [(0, 0), (1, 0), (2, 0), (3, 0), (4, 0), (5, 0), (6, 0), (7, 0), (8, 0), (9, 0), (10, 0), (11, 0), (12, 0), (13, 0), (14, 0), (15, 0), (16, 0), (17, 0), (18, 0), (19, 0), (20, 0), (21, 0), (22, 0)] mixed (by kernel_rfl) ?_) | (refine aw_drawn (id := 7) [(0, 0), (1, 0), (2, 1), (3, 0), (4, 0), (5, 0), (6, 0), (7, 0), (8, 0), (9, 0), (10, 0), (11, 0), (12, 0), (13, 0), (14, 0), (15, 0), (16, 0), (17, 0), (18, 0), (19, 0), (20, 0), (21, 0), (22, 0), (23, 0), (24, 0)] mixed (by kernel_rfl) ?_) | (refine aw_drawn (id := 7) [(0, 0), (1, 0), (2, 2), (3, 0), (4, 0), (5, 0), (6, 0), (7, 0), (8, 0), (9, 0), (10, 0), (11, 0), (12, 0), (13, 0), (14, 0), (15, 0), (16, 0), (17, 0), (18, 0), (19, 0), (20, 0), (21, 0), (22, 0), (23, 0), (24, 0)] mixed (by kernel_rfl) ?_) | (refine aw_drawn (id := 16) [(0, 0), (1, 0), (2, 0), (3, 0), (4, 0), (5, 0), (6, 0), (7, 0), (8, 0), (9, 0), (10, 0), (11, 0), (12, 0), (13, 0), (14, 0), (15, 0)] mixed (by kernel_rfl) ?_) | (refine zco ?_ ?_ <;> intro hg <;> first | exact absurd hg (by decide) | ((try replace hg := HG.out hg); (try dsimp only at hg); (try rw [inD_iff] at hg); (try rw [inO_iff] at hg); (try rw [fromB_one] at hg); (try rw [withinB_iff] at hg); (try rw [withinB_no] at hg); (try rw [ht0] at hg); (try rw [ht1] at hg); (try (have _h : True := hg; clear _h hg)); first | (exfalso; omega) | skip))))
      all_goals first
        | ((first | refine loop_next (by omega) ?_ ?_ | refine (show _ ∧ _ ∧ SubOf _ _ _ _ _ _ from And.intro (by omega) (And.intro ?_ ?_))); (focus (((first | exact all_step hJ ⟨by assumption, inD_iff.2 (by assumption), by assumption, fun _ => ⟨by omega, by omega⟩, fun hd => absurd (hd.symm.trans (show (el h.orders k).done = true from by assumption)) (by decide)⟩ | exact all_step hJ ⟨by assumption, inD_iff.2 (by assumption), by assumption, fun hd => absurd (hd.symm.trans (show (el h.orders k).done = false from by assumption)) (by decide), fun _ => ⟨by omega, by omega⟩⟩)); done)); (focus ((refine sub_to [some 0, some 1, some 2, some 3, some 4, some 5, some 6, some 7, some 8] [] rfl ?_ ?_ <;> (repeat' (first | exact trivial | refine ⟨⟨_, rfl, ?_⟩, ?_⟩ | refine ⟨bsub_snoc rfl rfl (fun _ => rfl) ?_, ?_⟩ | refine ⟨bsub_one rfl rfl ?_, ?_⟩ | refine ⟨bsub_all rfl rfl (fun _ _ => rfl) (fun _ => rfl), ?_⟩ | refine ⟨bsub_updL rfl rfl ?_ (fun _ _ _ => rfl) (fun _ => rfl), ?_⟩ | refine ⟨.inl ⟨_, _, rfl, rfl, ?_⟩, ?_⟩ | exact ⟨.inr ⟨rfl, rfl⟩, trivial⟩ | refine ⟨.inr ⟨rfl, rfl⟩, ?_⟩ | (intro _ _) | exact vz1 | (first | refine ⟨bsub_mapE rfl rfl (fun _ => rfl), ?_⟩ | exact VSub.aggL ⟨.closed rfl, .closed rfl, .closed rfl, .sl rfl, .sl rfl, .sl rfl, .sl rfl, .sl rfl, .sl rfl, .sl rfl, .map rfl, trivial⟩) | exact vz2 | fail))); done)))
        | ((refine aw_ret ?_; (repeat (first | refine ret_then ?_ | refine ret_block ?_)); refine bq1 rfl (.inr ⟨rfl, fun hO => ?_⟩)); obtain ⟨h1, h2, h3, h4, h5⟩ := hO.2.2 k hlt; first | (exact absurd h1 (by assumption)) | (exact absurd h3 (by assumption)) | (exact absurd (inD_iff.1 h2) (by assumption)) | (have a1 := h4 (by assumption); omega) | (have a1 := h5 (by assumption); omega))
        | (exfalso; simp_all; done)
        | (exfalso; omega)
        | trace_state
    · (repeat' (first | (refine ar_isq ?_; first | refine zmv ?_ | refine zas ?_ | (refine is_load ?_; first | refine zlp ?_ | refine zlr ?_) | (refine is_binOp ?_; first | refine zlss ?_ | refine zgtr ?_ | refine zneq ?_ | refine zadd ?_) | (refine is_fieldAddr ?_; first | refine zfp ?_ | refine zfr ?_) | (refine is_indexAddr ?_; first | refine zil ?_ | refine zis ?_ | refine zit ?_ | refine zia ?_ | refine zir ?_ | (refine zxl ?_; intro _ _ _) | (refine zxs ?_; intro _ _ _)) | (refine is_call ?_; first | refine zll ?_ | refine zls ?_ | refine zln ?_ | refine zle ?_) | (refine is_pick ?_; first | refine zpt ?_ | refine zpf ?_) | refine znt ?_ | refine zncp ?_ | refine zncr ?_ | refine zix ?_) | (refine zal ?_) | (refine zb1 ?_) | (refine zb0 ?_) | (refine zsvs ?_) | (refine zsva ?_) | (refine zses ?_) | (refine zsea ?_) | (refine zg ?_ ?_ <;> intro hg <;> first | exact absurd hg (by decide) | ((try replace hg := HG.out hg); (try dsimp only at hg); (try rw [inD_iff] at hg); (try rw [inO_iff] at hg); (try rw [fromB_one] at hg); (try rw [withinB_iff] at hg); (try rw [withinB_no] at hg); (try rw [ht0] at hg); (try rw [ht1] at hg); (try (have _h : True := hg; clear _h hg)); first | (exfalso; omega) | skip)) | (refine zgu ?_) | (refine ar_nil ?_) | (refine aw_seq ?_) | (refine aw_skip ?_) | (refine aw_block ?_) | (refine aw_exit ?_) | (refine aw_region ?_) | (refine aw_drawn (id := 1) [(0, 0), (1, 0), (2, 0), (3, 0), (4, 0), (5, 0), (6, 0), (7, 0), (8, 0), (9, 0), (10, 0), (11, 0), (12, 0), (13, 0), (14, 0), (15, 0), (16, 0), (17, 0), (18, 0), (19, 0), (20, 0), (21, 0), (22, 0)] mixed (by kernel_rfl) ?_) | (refine aw_drawn (id := 7) [(0, 0), (1, 0), (2, 1), (3, 0), (4, 0), (5, 0), (6, 0), (7, 0), (8, 0), (9, 0), (10, 0), (11, 0), (12, 0), (13, 0), (14, 0), (15, 0), (16, 0), (17, 0), (18, 0), (19, 0), (20, 0), (21, 0), (22, 0), (23, 0), (24, 0)] mixed (by kernel_rfl) ?_) | (refine aw_drawn (id := 7) [(0, 0), (1, 0), (2, 2), (3, 0), (4, 0), (5, 0), (6, 0), (7, 0), (8, 0), (9, 0), (10, 0), (11, 0), (12, 0), (13, 0), (14, 0), (15, 0), (16, 0), (17, 0), (18, 0), (19, 0), (20, 0), (21, 0), (22, 0), (23, 0), (24, 0)] mixed (by kernel_rfl) ?_) | (refine aw_drawn (id := 16) [(0, 0), (1, 0), (2, 0), (3, 0), (4, 0), (5, 0), (6, 0), (7, 0), (8, 0), (9, 0), (10, 0), (11, 0), (12, 0), (13, 0), (14, 0), (15, 0)] mixed (by kernel_rfl) ?_) | (refine zco ?_ ?_ <;> intro hg <;> first | exact absurd hg (by decide) | ((try replace hg := HG.out hg); (try dsimp only at hg); (try rw [inD_iff] at hg); (try rw [inO_iff] at hg); (try rw [fromB_one] at hg); (try rw [withinB_iff] at hg); (try rw [withinB_no] at hg); (try rw [ht0] at hg); (try rw [ht1] at hg); (try (have _h : True := hg; clear _h hg)); first | (exfalso; omega) | skip))))
      all_goals first
        | (exfalso; omega)
        | (refine aw_ret ?_; refine bq1 rfl (.inl ⟨rfl, ⟨⟨by omega, by omega⟩, hF, fun i hi => hJ i (by omega)⟩, _, hta, rfl⟩))
        | trace_state
end Go.Proofs.Ytbilpbabdgfblaa
namespace Go.Proofs.Ytbilpbabdgfblaa
open Go.RowKit
def shoN (n : Nat) (h : Hse) (m : List (Int × Tal)) : Heap := [.arr 11 1 (fun _ => shoV (n + 1) (n + 2) (n + 3) (n + 4) (n + 5) (n + 6) (n + 7) (n + 8) h), LB 5 Itm.enc h.store.items, LB 2 Prt.enc h.store.prints, LB 7 Dsn.enc h.designs, LB 4 Lic.enc h.lics, LB 4 Ordr.enc h.orders, LB 1 vi h.made, LB 1 vi h.fors, mapE Tal.enc m]
theorem shoB_ren {h : Hse} {m : List (Int × Tal)} {n : Nat} : (shoB h m).map (Blk.ren (rn [] n)) = shoN n h m := by
  have e2 : (mapE Tal.enc m).ren (rn [] n) = mapE Tal.enc m := mapE_renE fun _ => rfl
  show _ :: _ :: _ :: _ :: _ :: _ :: _ :: _ :: [(mapE Tal.enc m).ren (rn [] n)] = _ :: _ :: _ :: _ :: _ :: _ :: _ :: _ :: [_]
  rw [e2]
  rfl
def HValidR (h : Hse) (v : V) (H : Heap) : Prop := (HValid h ∧ v = .tup [.ptr 11 0 0 0, vb true] ∧ ∃ m, TalOk h m ∧ H = shoB h m) ∨ (¬ HValid h ∧ v = .tup [.ptr 11 0 0 0, vb false] ∧ H = [.dead])
theorem hvalid_of {h : Hse} (h1 : 1 ≤ h.per ∧ h.per ≤ 1000) (h2 : 0 ≤ h.day ∧ h.day ≤ 10000) (h3 : Valid h.store) (h4 : ArchOk h) (h5 : MadeOk h) (h6 : OrdersOk h) : HValid h :=
  ⟨h1, h2, h3, ⟨h4.1.1, h4.1.2, h6.1.1⟩, fun i hi => h4.2.1 _ (el_mem hi), fun i hi => h4.2.2 _ (el_mem hi), h5.1, h5.2, h6.1.2, h6.2.1, h6.2.2⟩
theorem HValid.arch {h : Hse} (hV : HValid h) : ArchOk h := ⟨⟨hV.few.1, hV.few.2.1⟩, fun d hd => by obtain ⟨i, hi, rfl⟩ := mem_el hd; exact hV.designs i hi, fun d hd => by obtain ⟨i, hi, rfl⟩ := mem_el hd; exact hV.lics i hi⟩
theorem HValid.madeOk {h : Hse} (hV : HValid h) : MadeOk h := ⟨hV.mades, hV.made⟩
theorem HValid.ordOk {h : Hse} (hV : HValid h) : OrdersOk h := ⟨⟨hV.few.2.2, hV.forss⟩, hV.fors, hV.orders⟩
theorem chk_iff {s : Sto} : ((if Valid s then (0 : Int) else 80) = 0) ↔ Valid s := by
  by_cases h : Valid s
  · rw [if_pos h]; exact ⟨fun _ => h, fun _ => rfl⟩
  · rw [if_neg h]; exact ⟨fun e => absurd e (by decide), fun e => (h e).elim⟩
set_option maxHeartbeats 8000000 in
theorem hvalid_p (h : Hse) (hs : HSmall h) (hw : StOk h.store) : ACalls Try.prog 19 [h.enc] [] (HValidR h) NoP := by
  refine acalls_of_aw Try.func19 rfl (Nat.le_of_ble_eq_true rfl) ?_
  (repeat' (first | (refine ar_isq ?_; first | refine zmv ?_ | refine zas ?_ | (refine is_load ?_; first | refine zlp ?_ | refine zlr ?_) | refine zeql ?_ | (refine is_fieldAddr ?_; first | refine zfp ?_ | refine zfr ?_) | (refine is_pick ?_; first | refine zpt ?_ | refine zpf ?_) | refine zncp ?_ | refine zncr ?_) | ((refine ar_gcall0 fn35 rfl rfl [h.enc] ⟨.closed rfl, trivial⟩ (hopen_p h hs) (dc rfl) ?_ (fun _ _ h => h.elim); rintro _ _ ⟨rfl, rfl⟩; rw [shoB_ren])) | (((refine ar_subk_l (sub_frzL (t := 13) vi ([h.per]) rfl rfl rfl rfl (fun _ _ => rfl) (fun _ => rfl)) ?_); refine ar_pcall (own := false) fn20 rfl rfl (.cons (.closed rfl) (.cons (.closed rfl) (.cons (.closed rfl) .nil))) (hfrom_p _ _ [h.per]) (by simp) (dc rfl) ?_; intro _ hv; subst hv)) | (((refine ar_subk_l (sub_frzL (t := 21) vi ([h.day]) rfl rfl rfl rfl (fun _ _ => rfl) (fun _ => rfl)) ?_); refine ar_pcall (own := false) fn20 rfl rfl (.cons (.closed rfl) (.cons (.closed rfl) (.cons (.closed rfl) .nil))) (hfrom_p _ _ [h.day]) (by simp) (dc rfl) ?_; intro _ hv; subst hv)) | (refine ar_buildLE vi ([_]) (by exact ty rfl) (by exact rfl) (by exact ty rfl) (by exact rfl) (by exact rfl) (by exact Nat.succ_pos _) (by exact rfl) (by exact dc rfl) (by exact rfl) (by exact fun _ => ⟨rfl, rfl⟩) (by exact dc rfl) ?_) | ((refine ar_lcall fn36 rfl rfl (first := []) (cap := []) (zs := [h.store.enc]) ⟨.aggL ⟨.closed rfl, .row rfl rfl (fun _ => rfl), .row rfl rfl (fun _ => rfl), trivial⟩, trivial⟩ (pCheck_p h.store) (by intros; subst_vars; rfl) (dc rfl) ?_; intro _ hv; subst hv)) | ((refine ar_read h [] (archived_p h hs) fn37 (by rintro _ ⟨_, rfl, _⟩; rfl) ?_; rintro _ ⟨ba, rfl, hba⟩)) | ((refine ar_read h [] (hmade_p h hs (by assumption)) fn38 (by rintro _ ⟨_, rfl, _⟩; rfl) ?_; rintro _ ⟨bm, rfl, hbm⟩)) | ((refine ar_gcall (H0 := shoB h []) [1, 2, 3, 4, 5, 6, 7, 8, 9] [] (first := []) (cap := []) fn39 rfl rfl (xs := [.ptr 11 0 0 0]) ⟨.ptr rfl, trivial⟩ rfl (by decide) (fun _ h => by cases h) (show ShoAt _ 1 2 3 4 5 6 7 8 9 h [] from {}).hsub shoB_live (hordered_p h hs (by assumption) (hbm.1 (by assumption)) hw) (dc rfl) ?_ (fun _ _ h => h.elim); rintro _ _ (⟨rfl, hO, m, ht, rfl⟩ | ⟨rfl, hO⟩))) | (refine zbx ?_) | (refine zb1 ?_) | (refine zb0 ?_) | (refine zg ?_ ?_ <;> intro hg <;> first | exact absurd hg (by decide) | ((try replace hg := HG.out hg); (try dsimp only at hg); (try rw [fromB_one] at hg); (try rw [withinB_iff] at hg); (try rw [withinB_no] at hg); (try rw [chk_iff] at hg); (try (have _h : True := hg; clear _h hg)); first | (exfalso; omega) | skip)) | (refine zgu ?_) | (refine ar_nil ?_) | (refine aw_seq ?_) | (refine aw_skip ?_) | (refine aw_block ?_) | (refine aw_exit ?_) | (refine aw_region ?_) | (refine zco ?_ ?_ <;> intro hg <;> first | exact absurd hg (by decide) | ((try replace hg := HG.out hg); (try dsimp only at hg); (try rw [fromB_one] at hg); (try rw [withinB_iff] at hg); (try rw [withinB_no] at hg); (try rw [chk_iff] at hg); (try (have _h : True := hg; clear _h hg)); first | (exfalso; omega) | skip))))
  all_goals first
    | (exfalso; omega)
    | ((refine aw_mono_r (env' := [(2, .ptr 11 0 0 0), (3, vb false)]) (H' := [.dead]) ?_ ?_; (focus ((refine sub_to [some 1] [] rfl ?_ ?_ <;> (repeat' (first | exact trivial | refine ⟨⟨_, rfl, ?_⟩, ?_⟩ | refine ⟨bsub_snoc rfl rfl (fun _ => rfl) ?_, ?_⟩ | refine ⟨bsub_one rfl rfl ?_, ?_⟩ | refine ⟨bsub_all rfl rfl (fun _ _ => rfl) (fun _ => rfl), ?_⟩ | refine ⟨bsub_updL rfl rfl ?_ (fun _ _ _ => rfl) (fun _ => rfl), ?_⟩ | refine ⟨.inl ⟨_, _, rfl, rfl, ?_⟩, ?_⟩ | exact ⟨.inr ⟨rfl, rfl⟩, trivial⟩ | refine ⟨.inr ⟨rfl, rfl⟩, ?_⟩ | (intro _ _) | exact vz1 | (refine ⟨trivial, ?_⟩) | exact vz2 | fail))); done)))
       (refine aw_ret ?_; (repeat (first | refine ret_then ?_ | refine ret_block ?_)); refine bq2 rfl rfl (.inr ⟨fun hv => ?_, rfl, rfl⟩))
       first
         | exact absurd hv.per (by assumption)
         | exact absurd hv.day (by assumption)
         | exact absurd hv.store (by assumption)
         | exact absurd ((hba.2 hv.arch).symm.trans (show ba = false from by assumption)) (by decide)
         | exact absurd ((hbm.2 hv.madeOk).symm.trans (show bm = false from by assumption)) (by decide)
         | exact absurd hv.ordOk (by assumption))
    | (rw [join_sho {} (by decide)]
       (repeat' (first | (refine ar_isq ?_; first | refine zmv ?_ | refine zas ?_ | (refine is_load ?_; first | refine zlp ?_ | refine zlr ?_) | refine zeql ?_ | (refine is_fieldAddr ?_; first | refine zfp ?_ | refine zfr ?_) | (refine is_pick ?_; first | refine zpt ?_ | refine zpf ?_) | refine zncp ?_ | refine zncr ?_) | (refine zbx ?_) | (refine zb1 ?_) | (refine zb0 ?_) | (refine zg ?_ ?_ <;> intro hg <;> first | exact absurd hg (by decide) | ((try replace hg := HG.out hg); (try dsimp only at hg); (try rw [fromB_one] at hg); (try rw [withinB_iff] at hg); (try rw [withinB_no] at hg); (try rw [chk_iff] at hg); (try (have _h : True := hg; clear _h hg)); first | (exfalso; omega) | skip)) | (refine zgu ?_) | (refine ar_nil ?_) | (refine aw_seq ?_) | (refine aw_skip ?_) | (refine aw_block ?_) | (refine aw_exit ?_) | (refine aw_region ?_) | (refine zco ?_ ?_ <;> intro hg <;> first | exact absurd hg (by decide) | ((try replace hg := HG.out hg); (try dsimp only at hg); (try rw [fromB_one] at hg); (try rw [withinB_iff] at hg); (try rw [withinB_no] at hg); (try rw [chk_iff] at hg); (try (have _h : True := hg; clear _h hg)); first | (exfalso; omega) | skip))))
       (refine aw_mono_r (env' := [(2, .ptr 11 0 0 0), (3, vb true)]) (H' := [.arr 11 1 (fun _ => shoV 1 2 3 4 5 6 7 8 h), LB 5 Itm.enc h.store.items, LB 2 Prt.enc h.store.prints, LB 7 Dsn.enc h.designs, LB 4 Lic.enc h.lics, LB 4 Ordr.enc h.orders, LB 1 vi h.made, LB 1 vi h.fors, mapE Tal.enc m]) ?_ ?_; (focus ((refine sub_to [some 1, some 2, some 3, some 4, some 5, some 6, some 7, some 8, some 9] [] rfl ?_ ?_ <;> (repeat' (first | exact trivial | refine ⟨⟨_, rfl, ?_⟩, ?_⟩ | refine ⟨bsub_snoc rfl rfl (fun _ => rfl) ?_, ?_⟩ | refine ⟨bsub_one rfl rfl ?_, ?_⟩ | refine ⟨bsub_all rfl rfl (fun _ _ => rfl) (fun _ => rfl), ?_⟩ | refine ⟨bsub_updL rfl rfl ?_ (fun _ _ _ => rfl) (fun _ => rfl), ?_⟩ | refine ⟨.inl ⟨_, _, rfl, rfl, ?_⟩, ?_⟩ | exact ⟨.inr ⟨rfl, rfl⟩, trivial⟩ | refine ⟨.inr ⟨rfl, rfl⟩, ?_⟩ | (intro _ _) | exact vz1 | (first | refine ⟨bsub_mapE rfl rfl (fun _ => rfl), ?_⟩ | exact VSub.aggL ⟨.closed rfl, .closed rfl, .closed rfl, .sl rfl, .sl rfl, .sl rfl, .sl rfl, .sl rfl, .sl rfl, .sl rfl, .map rfl, trivial⟩) | exact vz2 | fail))); done)))
       (refine aw_ret ?_; (repeat (first | refine ret_then ?_ | refine ret_block ?_)); refine bq2 rfl rfl (.inl ⟨hvalid_of (by assumption) (by assumption) (by assumption) (hba.1 (by assumption)) (hbm.1 (by assumption)) (by assumption), rfl, m, by assumption, rfl⟩)))
    | trace_state
end Go.Proofs.Ytbilpbabdgfblaa
namespace Go.Proofs.Ytbilpbabdgfblaa
open Go.RowKit
theorem sub_preC {m nt t sz b c : Nat} {env : Env} {H : Heap} {f : Nat → V} (cs ds : List V) (ht : look env t = some (.ptr sz b 0 0)) (hcH : H[c]? = some (.arr 1 1 f)) (hf : f 0 = .ptr sz b 0 0) (hne : b ≠ c) (hb : H[b]? = some (.arr sz 1 (fun _ => .agg (cs ++ ds)))) (hc : V.closed.all cs = true) :
    SubK m nt env H ((t, .ref (.agg cs) 0) :: env) ((H.set b .dead).set c (.arr 1 1 (fun _ => .ref (.agg cs) 0))) := .mk fun X I ρ a w _ ⟨hE, hw, hd⟩ => by
  have hlt : c < ρ.length := by rw [hw.len]; exact (List.getElem?_eq_some_iff.1 hcH).1
  obtain ⟨xc, hxc⟩ : ∃ x, ρ[c]? = some x := ⟨ρ[c], by simp [hlt]⟩
  cases xc with
  | none => have := hw.none _ _ _ _ hcH hxc; omega
  | some pc =>
    obtain ⟨bc, zc⟩ := pc
    obtain ⟨vs, tyc, hvs, hzc, hnc, hrc⟩ := hw.arr _ _ _ _ _ _ hcH hxc
    obtain ⟨uc, huc, hrel⟩ := hrc 0 0 (.ptr sz b 0 0) Nat.one_pos (by rw [hf]; rfl)
    obtain ⟨cb, z, hu, hx⟩ := hrel.ptr_inv
    have hL : Live H ρ cb := ⟨b, _, hb, by simp, z, hx⟩
    have hI := know_le (o := w.heap[cb]?) (hw.apart cb hL)
    obtain ⟨us, ty, hcs, hz, hn, hr⟩ := hw.arr _ _ _ _ _ _ hb hx
    have hcell : ∀ (j : Nat) x, cs[j]? = some x → ∃ u, us[j]? = some u ∧ VRel I ρ x u := fun j x hj => by
      have hlt := (List.getElem?_eq_some_iff.1 hj).1
      obtain ⟨u, h3, h4⟩ := hr 0 j x Nat.one_pos (by show (cs ++ ds)[j]? = _; rw [List.getElem?_append_left hlt]; exact hj)
      exact ⟨u, by simpa using h3, h4⟩
    have href0 : VRel (know I cb (w.heap[cb]?)) ρ (.ref (.agg cs) 0) (.pointer (some ⟨cb, 0 * sz + 0, none⟩)) := by
      rw [Nat.zero_mul]
      refine .ref (us := fun j => us.getD j undef) ⟨us, ty, (0, 0), by rw [know_at]; exact hcs, fun j hj => ?_⟩ fun j x hj => ?_
      · have hj : j < cs.length := hj
        obtain ⟨u, h3, _⟩ := hcell j cs[j] (by simp [hj])
        simp [h3]
      · have hj : cs[j]? = some x := hj
        obtain ⟨u, h3, h4⟩ := hcell j x hj
        rw [show us.getD j undef = u by simp [h3]]
        exact (h4.close (closed_all hc hj)).mono hI (Pre.refl _)
    have href : VRel (know I cb (w.heap[cb]?)) ρ (.ref (.agg cs) 0) uc := by rw [hu]; exact href0
    have hw2 := hw.forget hb (by simp) hx
    have hw3 := hw2.write (w' := w) (k := c) (g := fun _ => .ref (.agg cs) 0) (by rw [List.getElem?_set_ne hne]; exact hcH) hxc hzc (fun _ _ => rfl) (fun i j v hi hj => by
      obtain rfl : i = 0 := by omega
      cases j with
      | zero =>
        have hj : some (V.ref (.agg cs) 0) = some v := hj
        cases hj
        exact ⟨uc, by simpa using huc, href⟩
      | succ j => cases hj) hvs (fun _ _ => rfl) rfl rfl rfl rfl
    refine ⟨know I cb (w.heap[cb]?), ρ, hI, ⟨⟨hE.1, fun t' v hv => ?_⟩, hw3, hd.mono hI⟩, fun y hy => ?_⟩
    · rw [look_cons] at hv
      split at hv
      · rename_i e
        subst e
        cases hv
        obtain ⟨h1, h2⟩ := hE.2 t _ ht
        obtain ⟨cb2, z2, hu2, hx2⟩ := h2.ptr_inv
        rw [hx] at hx2
        cases hx2
        exact ⟨h1, by rw [hu2]; exact href0⟩
      · obtain ⟨h3, h4⟩ := hE.2 t' v hv
        exact ⟨h3, h4.mono hI (Pre.refl _)⟩
    obtain ⟨y1, y2, y3⟩ := hy
    have hcl : c < (H.set b Blk.dead).length := by rw [List.length_set, ← hw.len]; exact hlt
    refine ⟨fun c o hc => y1 c o (hI c o hc), fun k sz' n' f' b' z' hk hρ o ho => ?_, fun k mm b' z' hk hρ => ?_⟩
    · by_cases e : k = b
      · subst e
        rw [hx] at hρ
        cases hρ
        have := y1 cb _ (by rw [know_at]; exact hcs)
        simp [World.cell?, this, hcs]
      · by_cases e2 : k = c
        · subst e2
          rw [hcH] at hk
          cases hk
          exact y2 k 1 1 (fun _ => .ref (.agg cs) 0) b' z' (List.getElem?_set_self hcl) hρ o ho
        · exact y2 k sz' n' f' b' z' (by rw [List.getElem?_set_ne (Ne.symm e2), List.getElem?_set_ne (Ne.symm e)]; exact hk) hρ o ho
    · refine y3 k mm b' z' ?_ hρ
      by_cases e : k = b
      · subst e; rw [hb] at hk; cases hk
      · by_cases e2 : k = c
        · subst e2; rw [hcH] at hk; cases hk
        · rw [List.getElem?_set_ne (Ne.symm e2), List.getElem?_set_ne (Ne.symm e)]; exact hk
end Go.Proofs.Ytbilpbabdgfblaa
namespace Go.Proofs.Ytbilpbabdgfblaa
open Go.RowKit
def hseC (h : Hse) : List V := [vi h.per, vi h.day, vi h.store.life, encItems h.store.items, encPrints h.store.prints, encDsns h.designs, encLics h.lics, encOrders h.orders, encInts h.made, encInts h.fors]
set_option maxHeartbeats 1000000 in
theorem growths_p (h : Hse) : PCalls Try.prog 21 [.ref h.enc 0] (· = .fn (.func 42) [] [.ref (.ref h.enc 0) 0]) := by
  refine pcalls_of_aw Try.func21 rfl (Nat.le_of_ble_eq_true rfl) ?_
  (repeat' (first | (refine ar_isq ?_; first | refine zas ?_ | refine zmf ?_) | (refine zbx ?_) | (refine ar_nil ?_) | (refine aw_seq ?_) | (refine aw_skip ?_) | (refine aw_block ?_) | (refine aw_exit ?_) | (refine aw_region ?_) | (refine zco ?_ ?_ <;> intro hg <;> first | exact absurd hg (by decide) | ((try replace hg := HG.out hg); (try dsimp only at hg); (try (have _h : True := hg; clear _h hg)); first | (exfalso; omega) | skip))))
  (refine aw_mono_r (env' := [(2, .fn (.func 42) [] [.ref (.ref h.enc 0) 0])]) (H' := []) ?_ ?_; (focus ((refine sub_to [] [0] rfl ?_ ?_ <;> (repeat' (first | exact trivial | refine ⟨⟨_, rfl, ?_⟩, ?_⟩ | refine ⟨bsub_snoc rfl rfl (fun _ => rfl) ?_, ?_⟩ | refine ⟨bsub_one rfl rfl ?_, ?_⟩ | refine ⟨bsub_all rfl rfl (fun _ _ => rfl) (fun _ => rfl), ?_⟩ | refine ⟨bsub_updL rfl rfl ?_ (fun _ _ _ => rfl) (fun _ => rfl), ?_⟩ | refine ⟨.inl ⟨_, _, rfl, rfl, ?_⟩, ?_⟩ | exact ⟨.inr ⟨rfl, rfl⟩, trivial⟩ | refine ⟨.inr ⟨rfl, rfl⟩, ?_⟩ | (intro _ _) | exact vz1 | (exact fn1_sub (frzPtr' (by simp) rfl (by omega) rfl rfl)) | exact vz2 | fail))); done)))
  (refine aw_ret ?_; (repeat (first | refine ret_then ?_ | refine ret_block ?_)); refine bq1 rfl ⟨?_, rfl⟩)
  rfl
def inPrints (h : Hse) (n : Int) : Prop := 0 ≤ n ∧ n < (h.store.prints.length : Int)
instance (h : Hse) (n : Int) : Decidable (inPrints h n) := by unfold inPrints; infer_instance
end Go.Proofs.Ytbilpbabdgfblaa
namespace Go.Proofs.Ytbilpbabdgfblaa
open Go.RowKit
/-- What a print of a design looks like. -/
def dproofF (d : Dsn) (g : Int) : List Bool := proofF d.sheet d.band g true
def dsnAt (h : Hse) (n : Int) : Dsn := el h.designs n.toNat
/-- The origin of a print. -/
structure Org where
  order : Int
  client : Int
  design : Int
  line : List Int
  grow : Int
def Org.enc (o : Org) : V := .agg [vi o.order, vi o.client, vi o.design, encInts o.line, vi o.grow]
section
variable (h : Hse)
set_option maxHeartbeats 1000000 in
theorem proof_p (hs : HSmall h) {i : Int} (hi : inDesigns h i) (g : Int) : PCalls Try.prog 22 [.ref h.enc 0, vi i, vi g] (· = encBools (dproofF (dsnAt h i) g)) := by
  unfold HSmall at hs
  unfold inDesigns at hi
  refine pcalls_of_aw Try.func22 rfl (Nat.le_of_ble_eq_true rfl) ?_
  (repeat' (first | (refine ar_isq ?_; first | refine zmv ?_ | refine zas ?_ | (refine is_load ?_; first | refine zlp ?_ | refine zlr ?_) | (refine is_fieldAddr ?_; first | refine zfp ?_ | refine zfr ?_) | (refine is_indexAddr ?_; first | refine zil ?_ | refine zis ?_ | refine zit ?_ | refine zia ?_ | refine zir ?_ | refine zil (j := i.toNat) ?_ | refine zis (j := i.toNat) ?_ | refine zit (j := i.toNat) ?_ | (refine zxl ?_; intro _ _ _) | (refine zxs ?_; intro _ _ _)) | refine zex ?_ | refine zncp ?_ | refine zncr ?_) | (refine ar_pcall (own := false) fn43 rfl rfl (.cons (.closed rfl) (.cons (.closed rfl) (.cons (.closed rfl) (.cons (.closed rfl) .nil)))) (lProof_p (dsnAt h i).sheet (dsnAt h i).band g true) (by simp) (dc rfl) ?_; intro _ hv; subst hv) | (refine zal ?_) | (refine zsvs ?_) | (refine zsva ?_) | (refine zses ?_) | (refine zsea ?_) | (refine ar_nil ?_) | (refine aw_seq ?_) | (refine aw_skip ?_) | (refine aw_block ?_) | (refine aw_exit ?_) | (refine aw_region ?_) | (refine zco ?_ ?_ <;> intro hg <;> first | exact absurd hg (by decide) | ((try replace hg := HG.out hg); (try dsimp only at hg); (try (have _h : True := hg; clear _h hg)); first | (exfalso; omega) | skip))))
  (refine aw_ret ?_; (repeat (first | refine ret_then ?_ | refine ret_block ?_)); refine bq1 rfl ⟨?_, rfl⟩)
  rfl
end
end Go.Proofs.Ytbilpbabdgfblaa
namespace Go.Proofs.Ytbilpbabdgfblaa
open Go.RowKit
section
variable {P : Program} {nt : Nat} {env : Env} {H : Heap} {dst : Option Tmp} {ty T T' E : TypeId} {pos : String} {after : Array Edge} {guard : Option (Nat × Bool)} {x y : Operand} {d de : TyD}
theorem TyIs.cellsE (h : TyIs P E de) : P.cellsOf E = de.size := by
  obtain ⟨i, hi, hs, _⟩ := h.inf
  unfold Program.cellsOf
  rw [hi]
  exact hs
theorem boolsOf_at {l : List Bool} {i : Nat} (h : i < l.length) : (l.map vb)[i]? = some (.s (.bool (el l i))) := by
  rw [List.getElem?_map, List.getElem?_eq_getElem h]
  simp [el, h, vb, constV]
theorem eqItems_bools {I : Imm} {ρ : List (Option (Nat × Nat))} {l1 l2 : List Bool} {us vs : Array Value} (he : TyIs P E de) (hk : de.tk = .bool) (hs : de.size = 1) (h1 : us.size = (l1.map vb).length) (hr : ∀ (j : Nat) x u, (l1.map vb)[j]? = some x → us[j]? = some u → VRel I ρ x u)
    (h2 : vs.size = (l2.map vb).length) (hr2 : ∀ (j : Nat) x u, (l2.map vb)[j]? = some x → vs[j]? = some u → VRel I ρ x u) (e : Nat) (w : World) : ∀ is : List Nat, (∀ i, i ∈ is → i < l1.length ∧ i < l2.length) → (Op.eqItems (e + 1) E 1 us vs is).run P w = .ok (is.all fun i => el l1 i == el l2 i) w
  | [], _ => by simp [Op.eqItems]
  | i :: is, hi => by
    have ih := eqItems_bools he hk hs h1 hr h2 hr2 e w is fun j hj => hi j (by simp [hj])
    obtain ⟨a1, a2⟩ := hi i (by simp)
    have p1 := part1_run (I := I) (ρ := ρ) he (by rw [hk]; rfl) hs h1 hr (boolsOf_at a1) w
    have p2 := part1_run (I := I) (ρ := ρ) he (by rw [hk]; rfl) hs h2 hr2 (boolsOf_at a2) w
    simp only [Op.eqItems, Nat.mul_one, Sem.run_bind, p1, p2, Result.andThen_ok, run_equalIn_bool w e _ _ _ (he.boolk hk), List.all_cons]
    cases hb : (el l1 i == el l2 i)
    · simp
    · simpa using ih
theorem all_elB {l1 l2 : List Bool} {n : Nat} (h1 : l1.length = n) (h2 : l2.length = n) : ((List.range n).all fun i => el l1 i == el l2 i) = decide (l1 = l2) := by
  have : (((List.range n).all fun i => el l1 i == el l2 i) = true) ↔ l1 = l2 := by
    rw [List.all_eq_true]
    constructor
    · intro h
      refine List.ext_getElem (by omega) fun i a b => ?_
      have := h i (List.mem_range.2 (by omega))
      simpa [el, a, b] using this
    · rintro rfl i _
      simp
  by_cases e : l1 = l2
  · rw [decide_eq_true e, this.2 e]
  · rw [decide_eq_false e]
    cases hb : ((List.range n).all fun i => el l1 i == el l2 i) with
    | false => rfl
    | true => exact (e (this.1 hb)).elim
theorem qs_eqnil0 (ht : TyIs P T d) (hk : d.tk = .slice E) (hx : eo env x = some (.s (.slice none 0 0))) (hy : eo env y = some (.s (.slice none 0 0))) : QS P nt env H ⟨dst, .binOp .eql T x y T', ty, pos, after, guard⟩ (.s (.bool true)) := .mk
  fun _ I ρ a w h hw => ⟨_, .s _, fun w' _ => by simp [execOp, sval h hx, sval h hy, eqGuard, binOp, run_equal_slice_nil w' T E none 0 0 (ht.slice hk)]⟩
theorem qs_eqnil1 {sz b i n : Nat} (hn : n ≠ 0) (ht : TyIs P T d) (hk : d.tk = .slice E) (hx : eo env x = some (.sl sz b i n)) (hy : eo env y = some (.s (.slice none 0 0))) : QS P nt env H ⟨dst, .binOp .eql T x y T', ty, pos, after, guard⟩ (.s (.bool false)) := .mk
  fun _ I ρ a w h hw => by
    rcases (eo_rel h hx).sl_inv with ⟨cb, z, c, h1, _⟩ | ⟨A, _, _, _, h0⟩
    · exact ⟨_, .s _, fun w' _ => by simp [execOp, h1, sval h hy, eqGuard, binOp, run_equal_slice_nil w' T E (some ⟨cb, i * sz, none⟩) n c (ht.slice hk)]⟩
    · exact absurd h0 hn
theorem qs_arrB {l1 l2 : List Bool} {n : Nat} (ht : TyIs P T d) (hk : d.tk = .array n E) (he : TyIs P E de) (heb : de.tk = .bool) (hes : de.size = 1) (hg : P.eqGuardType P.depth T = false) (hx : eo env x = some (.agg (l1.map vb))) (hy : eo env y = some (.agg (l2.map vb))) (h1 : l1.length = n) (h2 : l2.length = n) :
    QS P nt env H ⟨dst, .binOp .eql T x y T', ty, pos, after, guard⟩ (.s (.bool (decide (l1 = l2)))) := .mk
  fun _ I ρ a w h hw => by
    obtain ⟨us, e1, g1, hr⟩ := agg_inv (eo_rel h hx)
    obtain ⟨vs, e2, g2, hr2⟩ := agg_inv (eo_rel h hy)
    obtain ⟨i, hi, _⟩ := he.inf
    have key : ∀ w', (Op.eqItems (9998 + 1) E 1 us vs (List.range n)).run P w' = .ok (decide (l1 = l2)) w' := fun w' => by
      rw [eqItems_bools he heb hes g1 hr g2 hr2 9998 w' (List.range n) (fun j hj => by have := List.mem_range.1 hj; omega), all_elB h1 h2]
    exact ⟨_, .s _, fun w' _ => by
      simp only [execOp, e1, e2, Sem.run_bind, run_eqGuard_agg w' _ T x y us vs hg, Result.andThen_ok, run_eql_struct, run_equalIn_array w' 9999 us vs (ht.arr hk) hi, he.cellsE, hes, key]
      rfl⟩
end
end Go.Proofs.Ytbilpbabdgfblaa
namespace Go.Proofs.Ytbilpbabdgfblaa
open Go.RowKit
structure Fnd where
  design : Int
  grow : Int
  off : Int
instance : Inhabited Fnd := ⟨⟨0, 0, 0⟩⟩
def Fnd.enc (x : Fnd) : V := .agg [vi x.design, vi x.grow, vi x.off]
abbrev encFnds (l : List Fnd) : V := LV 3 Fnd.enc l
/-- How many dots of a note differ from a design's print. -/
def offD (h : Hse) (dots : List Bool) (i g : Nat) : Int := offTo (dproofF (el h.designs i) g) dots dots.length
def fndOk (h : Hse) (dots : List Bool) (tol : Int) (i g : Nat) : Prop := shownF h i g = true ∧ offD h dots i g ≤ tol
instance (h : Hse) (dots : List Bool) (tol : Int) (i g : Nat) : Decidable (fndOk h dots tol i g) := by unfold fndOk; infer_instance
def fndG (h : Hse) (dots : List Bool) (tol : Int) (i : Nat) : Nat → List Fnd
  | 0 => []
  | g + 1 => if fndOk h dots tol i g then fndG h dots tol i g ++ [⟨i, g, offD h dots i g⟩] else fndG h dots tol i g
def fndSize (h : Hse) (dots : List Bool) (i : Nat) : Prop := (el h.designs i).sheet.cols * (el h.designs i).sheet.rows = (dots.length : Int)
instance (h : Hse) (dots : List Bool) (i : Nat) : Decidable (fndSize h dots i) := by unfold fndSize; infer_instance
def fndD (h : Hse) (dots : List Bool) (tol : Int) : Nat → List Fnd
  | 0 => []
  | i + 1 => if fndSize h dots i then fndD h dots tol i ++ fndG h dots tol i 21 else fndD h dots tol i
def fndS (h : Hse) (dots : List Bool) (tol : Int) (i g : Nat) : List Fnd := fndD h dots tol i ++ fndG h dots tol i g
def expArg (dots : List Bool) (tol : Int) : Prop := dots.length ≤ 2400 ∧ 0 ≤ tol ∧ tol ≤ 2400
open Classical in
noncomputable def expE (h : Hse) (dots : List Bool) (tol : Int) : Int := if HValid h then if expArg dots tol then if (fndD h dots tol h.designs.length).length = 0 then 105 else 0 else 2 else 100
noncomputable def expF (h : Hse) (dots : List Bool) (tol : Int) : List Fnd := if expE h dots tol = 0 then fndD h dots tol h.designs.length else []
section
variable {h : Hse} {dots : List Bool} {tol : Int} {i g : Nat}
theorem expE_bad (hV : ¬ HValid h) : expE h dots tol = 100 := by unfold expE; rw [if_neg hV]
theorem expE_arg (hV : HValid h) (ha : ¬ expArg dots tol) : expE h dots tol = 2 := by unfold expE; rw [if_pos hV, if_neg ha]
theorem expE_forged (hV : HValid h) (ha : expArg dots tol) (h0 : (fndD h dots tol h.designs.length).length = 0) : expE h dots tol = 105 := by unfold expE; rw [if_pos hV, if_pos ha, if_pos h0]
theorem expE_ok (hV : HValid h) (ha : expArg dots tol) (h0 : (fndD h dots tol h.designs.length).length ≠ 0) : expE h dots tol = 0 := by unfold expE; rw [if_pos hV, if_pos ha, if_neg h0]
theorem expF_no {e : Int} (he : expE h dots tol = e) (h0 : e ≠ 0) : expF h dots tol = [] := by unfold expF; rw [he, if_neg h0]
theorem expF_ok (he : expE h dots tol = 0) : expF h dots tol = fndD h dots tol h.designs.length := by unfold expF; rw [if_pos he]
theorem fndS_zero : fndS h dots tol i 0 = fndD h dots tol i := by unfold fndS fndG; rw [List.append_nil]
theorem fndS_yes (hg : fndOk h dots tol i g) : fndS h dots tol i (g + 1) = fndS h dots tol i g ++ [⟨i, g, offD h dots i g⟩] := by
  unfold fndS
  rw [fndG, if_pos hg, List.append_assoc]
theorem fndS_no (hg : ¬ fndOk h dots tol i g) : fndS h dots tol i (g + 1) = fndS h dots tol i g := by
  unfold fndS
  rw [fndG, if_neg hg]
theorem fndD_skip (hs : ¬ fndSize h dots i) : fndD h dots tol (i + 1) = fndD h dots tol i := by rw [fndD, if_neg hs]
theorem fndD_full (hs : fndSize h dots i) : fndD h dots tol (i + 1) = fndS h dots tol i 21 := by rw [fndD, if_pos hs, fndS]
theorem fndG_len : ∀ g, (fndG h dots tol i g).length ≤ g
  | 0 => Nat.le_refl 0
  | g + 1 => by
    have := fndG_len g
    rw [fndG]
    split
    · rw [List.length_append]; exact Nat.succ_le_succ this
    · omega
theorem fndD_len : ∀ i, (fndD h dots tol i).length ≤ 21 * i
  | 0 => Nat.le_refl 0
  | i + 1 => by
    have h1 := fndD_len i
    have h2 := fndG_len (h := h) (dots := dots) (tol := tol) (i := i) 21
    rw [fndD]
    split
    · rw [List.length_append]; omega
    · omega
theorem fndS_len (i g : Nat) : (fndS h dots tol i g).length ≤ 21 * i + g := by
  have h1 := fndD_len (h := h) (dots := dots) (tol := tol) i
  have h2 := fndG_len (h := h) (dots := dots) (tol := tol) (i := i) g
  unfold fndS
  rw [List.length_append]
  omega
theorem fndG_none : ∀ {g : Nat}, (∀ q : Nat, q < g → shownF h i q = false) → fndG h dots tol i g = []
  | 0, _ => rfl
  | g + 1, hq => by
    rw [fndG, if_neg (fun hk => by have := hq g (by omega); rw [hk.1] at this; cases this), fndG_none fun q hq' => hq q (by omega)]
theorem fndD_none (hq : ∀ q : Nat, q < 21 → shownF h i q = false) : fndD h dots tol (i + 1) = fndD h dots tol i := by
  rw [fndD, fndG_none hq, List.append_nil, ite_self]
end
def seenA (h : Hse) (k q : Nat) : Bool := shownTo h ((q / 21 : Nat) : Int) ((q % 21 : Nat) : Int) k
def seenL (h : Hse) (k : Nat) : List V := (List.range 168).map fun q => vb (seenA h k q)
def seenV (h : Hse) (k : Nat) : V := .agg (seenL h k)
def rowL (h : Hse) (i : Nat) : List Bool := (List.range 21).map fun (g : Nat) => shownF h i g
theorem rowL_len (h : Hse) (i : Nat) : (rowL h i).length = 21 := by unfold rowL; rw [List.length_map, List.length_range]
theorem seenV_ok (h : Hse) (k : Nat) : V.closed.all (seenV h k).cells = true := by
  have : ∀ l : List Nat, V.closed.all (l.map fun q => vb (seenA h k q)) = true := fun l => by
    induction l with
    | nil => rfl
    | cons q l ih => rw [List.map_cons, V.closed.all, ih]; rfl
  exact this _
theorem seen_set {h : Hse} {k a g : Nat} (ha : dsnOf h k = a) (hg : growF h k = g) (ha8 : a < 8) (hg21 : g < 21) : putPart (seenV h k) (0 + a * 21 + g * 1) (vb true) = seenV h (k + 1) := by
  have hoff : 0 + a * 21 + g * 1 = a * 21 + g := by omega
  rw [hoff]
  unfold seenV putPart
  dsimp only
  congr 1
  refine List.ext_getElem? fun q => ?_
  have hl : (seenL h k).length = 168 := by unfold seenL; rw [List.length_map, List.length_range]
  have e : ∀ k, (seenL h k)[q]? = if q < 168 then some (vb (seenA h k q)) else none := fun k => by
    unfold seenL
    rw [List.getElem?_map]
    by_cases hq : q < 168
    · rw [if_pos hq, List.getElem?_range hq]; rfl
    · rw [if_neg hq, List.getElem?_eq_none (by rw [List.length_range]; omega)]; rfl
  have hs : seenA h (k + 1) q = (seenA h k q || (decide ((a : Int) = ((q / 21 : Nat) : Int)) && decide ((g : Int) = ((q % 21 : Nat) : Int)))) := by
    unfold seenA
    rw [shownTo, ha, hg]
  rw [e (k + 1), hs, List.append_assoc]
  by_cases h1 : q < a * 21 + g
  · rw [List.getElem?_append_left (by rw [List.length_take]; omega), List.getElem?_take, if_pos h1, e k]
    rw [show (decide ((a : Int) = ((q / 21 : Nat) : Int)) && decide ((g : Int) = ((q % 21 : Nat) : Int))) = false by
      by_cases e1 : (a : Int) = ((q / 21 : Nat) : Int)
      · rw [decide_eq_false (p := (g : Int) = ((q % 21 : Nat) : Int)) (by omega), Bool.and_false]
      · rw [decide_eq_false e1, Bool.false_and]]
    rw [Bool.or_false]
  · rw [List.getElem?_append_right (by rw [List.length_take]; omega), List.length_take]
    by_cases h2 : q = a * 21 + g
    · subst h2
      rw [if_pos (by omega), show (decide ((a : Int) = (((a * 21 + g) / 21 : Nat) : Int)) && decide ((g : Int) = (((a * 21 + g) % 21 : Nat) : Int))) = true by rw [decide_eq_true (by omega), decide_eq_true (by omega)]; rfl, Bool.or_true]
      rw [show a * 21 + g - min (a * 21 + g) (seenL h k).length = 0 by omega]
      rfl
    · rw [List.getElem?_append_right (by show 1 ≤ _; omega), List.getElem?_drop]
      rw [show a * 21 + g + (vb true).cells.length + (q - min (a * 21 + g) (seenL h k).length - (vb true).cells.length) = q by show a * 21 + g + 1 + (q - min (a * 21 + g) (seenL h k).length - 1) = q; omega, e k]
      rw [show (decide ((a : Int) = ((q / 21 : Nat) : Int)) && decide ((g : Int) = ((q % 21 : Nat) : Int))) = false by
        by_cases e1 : (a : Int) = ((q / 21 : Nat) : Int)
        · rw [decide_eq_false (p := (g : Int) = ((q % 21 : Nat) : Int)) (by omega), Bool.and_false]
        · rw [decide_eq_false e1, Bool.false_and]]
      rw [Bool.or_false]
theorem seen_part {h : Hse} {i : Nat} (hi : i < 8) : partV true (seenV h h.store.prints.length).cells (0 + i * 21) 21 = some (.agg ((rowL h i).map vb)) := by
  have hl : (seenL h h.store.prints.length).length = 168 := by unfold seenL; rw [List.length_map, List.length_range]
  have hc : (seenV h h.store.prints.length).cells = seenL h h.store.prints.length := rfl
  rw [hc]
  unfold partV
  dsimp only
  rw [show Nat.ble (0 + i * 21 + 21) (seenL h h.store.prints.length).length = true from Nat.ble_eq_true_of_le (by omega)]
  simp only [cond_true, Option.some.injEq, V.agg.injEq]
  refine List.ext_getElem? fun q => ?_
  rw [List.getElem?_take, List.getElem?_drop]
  unfold rowL seenL
  rw [List.map_map, List.getElem?_map, List.getElem?_map]
  by_cases hq : q < 21
  · rw [if_pos hq, List.getElem?_range (by omega), List.getElem?_range hq]
    show some (vb (seenA h h.store.prints.length (0 + i * 21 + q))) = some (vb (shownF h i q))
    unfold seenA shownF
    rw [show (0 + i * 21 + q) / 21 = i by omega, show (0 + i * 21 + q) % 21 = q by omega]
  · rw [if_neg hq, List.getElem?_eq_none (by rw [List.length_range]; omega)]; rfl
theorem row_ok (h : Hse) (i : Nat) : (V.agg ((rowL h i).map vb)).closed = true := by
  have : ∀ l : List Bool, V.closed.all (l.map vb) = true := fun l => by
    induction l with
    | nil => rfl
    | cons q l ih => rw [List.map_cons, V.closed.all, ih]; rfl
  exact this _
theorem row_part {h : Hse} {i g : Nat} (hg : g < 21) : partV false ((rowL h i).map vb) (g * 1) 1 = some (vb (shownF h i g)) := by
  show ((rowL h i).map vb)[g * 1]? = _
  unfold rowL
  rw [Nat.mul_one, List.map_map, List.getElem?_map, List.getElem?_range hg]
  rfl
theorem row_none {h : Hse} {i : Nat} (hr : rowL h i = List.replicate 21 false) : ∀ q : Nat, q < 21 → shownF h i q = false := fun q hq => by
  have h1 : el (rowL h i) q = shownF h i q := by unfold rowL; rw [el_map_range hq]
  rw [← h1, hr]
  unfold el
  rw [List.getD_eq_getElem?_getD, List.getElem?_replicate, if_pos hq]
  rfl
def fE (l : List Fnd) : V := match l with | [] => vnil | x :: r => .sl 3 0 0 (x :: r).length
def fB (l : List Fnd) : Blk := match l with | [] => .dead | x :: r => LB 3 Fnd.enc (x :: r)
theorem fE_pos {l : List Fnd} (h : l.length ≠ 0) : fE l = .sl 3 0 0 l.length := by cases l with | nil => exact (h rfl).elim | cons x r => rfl
theorem fB_pos {l : List Fnd} (h : l.length ≠ 0) : fB l = LB 3 Fnd.enc l := by cases l with | nil => exact (h rfl).elim | cons x r => rfl
theorem fE_snoc (l : List Fnd) (x : Fnd) : fE (l ++ [x]) = .sl 3 0 0 (l.length + 1) := by rw [fE_pos (by simp), List.length_append]; rfl
theorem fB_snoc (l : List Fnd) (x : Fnd) : fB (l ++ [x]) = LB 3 Fnd.enc (l ++ [x]) := fB_pos (by simp)
theorem vsub_fE {H : Heap} {σ : List (Option Nat)} {fr : Nat → Prop} {l : List Fnd} (h : σ[0]? = some (some 0)) : VSub H σ fr (fE l) (fE l) := by
  cases l with
  | nil => exact .closed rfl
  | cons x r => exact .sl h
theorem bsub_fB {H : Heap} {σ : List (Option Nat)} {fr : Nat → Prop} {l : List Fnd} (h : σ[0]? = some (some 0)) (hH : H[0]? = some (fB l)) : BSub H σ fr 0 (fB l) := by
  cases l with
  | nil => trivial
  | cons x r => exact .inl ⟨0, _, h, hH, fun _ _ => .closed rfl⟩
theorem dproof_len {d : Dsn} (hd : GoodD d) {g : Nat} (hg : g < 21) : (dproofF d g).length = d.sheet.rows.toNat * d.sheet.cols.toNat := by
  have he : proofErr d.sheet d.band g = 0 := by
    unfold proofErr
    rw [if_pos hd.2.2.1, if_pos (withinB_iff.2 (by omega))]
  unfold dproofF proofF
  rw [if_pos he, proofTo_len]
theorem good_size {d : Dsn} (hd : GoodD d) : (1 ≤ d.sheet.cols ∧ d.sheet.cols ≤ 40) ∧ (1 ≤ d.sheet.rows ∧ d.sheet.rows ≤ 60) ∧ 0 ≤ d.sheet.cols * d.sheet.rows ∧ d.sheet.cols * d.sheet.rows ≤ 2400 := by
  have hok := (band_of_check hd.2.2.1).1
  unfold Sheet.ok at hok
  simp only [Bool.and_eq_true, withinB_iff] at hok
  obtain ⟨⟨⟨⟨h1, h2⟩, _⟩, _⟩, _⟩ := hok
  refine ⟨h1, h2, Int.mul_nonneg (by omega) (by omega), ?_⟩
  have := Int.mul_le_mul h1.2 h2.2 (by omega) (by omega)
  omega
theorem dproof_dots {h : Hse} {dots : List Bool} {i g : Nat} (hd : GoodD (el h.designs i)) (hg : g < 21) (hs : fndSize h dots i) : (dproofF (el h.designs i) g).length = dots.length := by
  obtain ⟨h1, h2, _⟩ := good_size hd
  rw [dproof_len hd hg]
  unfold fndSize at hs
  have e1 : (((el h.designs i).sheet.cols.toNat : Nat) : Int) = (el h.designs i).sheet.cols := by omega
  have e2 : (((el h.designs i).sheet.rows.toNat : Nat) : Int) = (el h.designs i).sheet.rows := by omega
  have : (((el h.designs i).sheet.rows.toNat * (el h.designs i).sheet.cols.toNat : Nat) : Int) = (dots.length : Int) := by
    rw [Int.natCast_mul, e1, e2, Int.mul_comm]
    exact hs
  omega
theorem offTo_bnd (a b : List Bool) (k : Nat) : 0 ≤ offTo a b k ∧ offTo a b k ≤ k := cntB_bnd k
theorem offTo_yes {a b : List Bool} {k : Nat} (h : ¬ el a k = el b k) : offTo a b (k + 1) = offTo a b k + 1 := cntB_yes (by simpa using h)
theorem offTo_no {a b : List Bool} {k : Nat} (h : el a k = el b k) : offTo a b (k + 1) = offTo a b k := cntB_no (by simpa using h)
end Go.Proofs.Ytbilpbabdgfblaa
namespace Go.Proofs.Ytbilpbabdgfblaa
open Go.RowKit
set_option maxHeartbeats 2000000 in
theorem rdesign_p (d : Dsn) : PCalls Try.prog 45 [d.enc] (· = vb (decide (GoodD d))) := by
  have e0 : ∀ b : Bool, (b = true ↔ GoodD d) → vb b = vb (decide (GoodD d)) := fun b h => vb_iff h
  refine pcalls_of_aw Try.func45 rfl (Nat.le_of_ble_eq_true rfl) ?_
  (repeat' (first | (refine ar_isq ?_; first | refine zmv ?_ | refine zas ?_ | (refine is_load ?_; first | refine zlp ?_ | refine zlr ?_) | (refine is_binOp ?_; first | refine zgtr ?_ | refine zeql ?_ | refine zneq ?_) | (refine is_fieldAddr ?_; first | refine zfp ?_ | refine zfr ?_) | (refine is_call ?_; first | refine zll ?_ | refine zls ?_ | refine zln ?_ | refine zle ?_) | (refine is_pick ?_; first | refine zpt ?_ | refine zpf ?_) | refine zex ?_ | refine znt ?_) | (refine ar_pcall (own := false) fn74 rfl rfl (.cons (.closed rfl) .nil) (hclient_p d.owner) (by simp) (dc rfl) ?_; intro _ hv; subst hv) | (refine ar_pcall (own := false) fn75 rfl rfl (.cons (.closed rfl) (.cons (.closed rfl) .nil)) (rCheck_p d.sheet d.band) (by simp) (dc rfl) ?_; intro _ hv; subst hv) | (refine ar_pcall (own := false) fn76 rfl rfl (.cons (.closed rfl) (.cons (.closed rfl) .nil)) (rGap_p d.sheet d.band) (by simp) (dc rfl) ?_; intro _ hv; subst hv) | (refine zbx ?_) | (refine zg ?_ ?_ <;> intro hg <;> first | exact absurd hg (by decide) | ((try replace hg := HG.out hg); (try dsimp only at hg); (try rw [withinB_iff] at hg); (try rw [withinB_no] at hg); (try (have _h : True := hg; clear _h hg)); first | (exfalso; omega) | skip)) | (refine zgu ?_) | (refine ar_nil ?_) | (refine aw_seq ?_) | (refine aw_skip ?_) | (refine aw_block ?_) | (refine aw_exit ?_) | (refine aw_region ?_) | (refine zco ?_ ?_ <;> intro hg <;> first | exact absurd hg (by decide) | ((try replace hg := HG.out hg); (try dsimp only at hg); (try rw [withinB_iff] at hg); (try rw [withinB_no] at hg); (try (have _h : True := hg; clear _h hg)); first | (exfalso; omega) | skip))))
  all_goals first
    | (exfalso; omega)
    | ((refine aw_mono_r (env' := [(2, vb false)]) (H' := []) ?_ ?_; (focus ((refine sub_to [] [] rfl ?_ ?_ <;> (repeat' (first | exact trivial | refine ⟨⟨_, rfl, ?_⟩, ?_⟩ | refine ⟨bsub_snoc rfl rfl (fun _ => rfl) ?_, ?_⟩ | refine ⟨bsub_one rfl rfl ?_, ?_⟩ | refine ⟨bsub_all rfl rfl (fun _ _ => rfl) (fun _ => rfl), ?_⟩ | refine ⟨bsub_updL rfl rfl ?_ (fun _ _ _ => rfl) (fun _ => rfl), ?_⟩ | refine ⟨.inl ⟨_, _, rfl, rfl, ?_⟩, ?_⟩ | exact ⟨.inr ⟨rfl, rfl⟩, trivial⟩ | refine ⟨.inr ⟨rfl, rfl⟩, ?_⟩ | (intro _ _) | exact vz1 | exact vz2 | fail))); done))); (refine aw_ret ?_; (repeat (first | refine ret_then ?_ | refine ret_block ?_)); refine bq1 rfl ⟨?_, rfl⟩); refine e0 false ⟨fun h => (by cases h), fun h => ?_⟩; unfold GoodD at h; omega)
    | ((refine aw_mono_r (env' := [(2, vb true)]) (H' := []) ?_ ?_; (focus ((refine sub_to [] [] rfl ?_ ?_ <;> (repeat' (first | exact trivial | refine ⟨⟨_, rfl, ?_⟩, ?_⟩ | refine ⟨bsub_snoc rfl rfl (fun _ => rfl) ?_, ?_⟩ | refine ⟨bsub_one rfl rfl ?_, ?_⟩ | refine ⟨bsub_all rfl rfl (fun _ _ => rfl) (fun _ => rfl), ?_⟩ | refine ⟨bsub_updL rfl rfl ?_ (fun _ _ _ => rfl) (fun _ => rfl), ?_⟩ | refine ⟨.inl ⟨_, _, rfl, rfl, ?_⟩, ?_⟩ | exact ⟨.inr ⟨rfl, rfl⟩, trivial⟩ | refine ⟨.inr ⟨rfl, rfl⟩, ?_⟩ | (intro _ _) | exact vz1 | exact vz2 | fail))); done))); (refine aw_ret ?_; (repeat (first | refine ret_then ?_ | refine ret_block ?_)); refine bq1 rfl ⟨?_, rfl⟩); refine e0 true ⟨fun _ => ?_, fun _ => rfl⟩; unfold GoodD; omega)
    | ((refine aw_mono_r (env' := [(2, vb (decide (0 < gapF d.sheet d.band)))]) (H' := []) ?_ ?_; (focus ((refine sub_to [] [] rfl ?_ ?_ <;> (repeat' (first | exact trivial | refine ⟨⟨_, rfl, ?_⟩, ?_⟩ | refine ⟨bsub_snoc rfl rfl (fun _ => rfl) ?_, ?_⟩ | refine ⟨bsub_one rfl rfl ?_, ?_⟩ | refine ⟨bsub_all rfl rfl (fun _ _ => rfl) (fun _ => rfl), ?_⟩ | refine ⟨bsub_updL rfl rfl ?_ (fun _ _ _ => rfl) (fun _ => rfl), ?_⟩ | refine ⟨.inl ⟨_, _, rfl, rfl, ?_⟩, ?_⟩ | exact ⟨.inr ⟨rfl, rfl⟩, trivial⟩ | refine ⟨.inr ⟨rfl, rfl⟩, ?_⟩ | (intro _ _) | exact vz1 | exact vz2 | fail))); done))); (refine aw_ret ?_; (repeat (first | refine ret_then ?_ | refine ret_block ?_)); refine bq1 rfl ⟨?_, rfl⟩); refine e0 _ ⟨fun h => ?_, fun h => ?_⟩; (focus (have := of_decide_eq_true h; unfold GoodD; omega)); (focus (unfold GoodD at h; exact decide_eq_true (by omega))))
    | trace_state
set_option maxHeartbeats 1000000 in
theorem rallows_p (d : Dsn) (per life : Int) : PCalls Try.prog 77 [d.enc, vi per, vi life] (· = vi (allowsF per life d)) := by
  have hb : lastErr d.sheet d.band per = 0 → 0 ≤ lastF d.sheet d.band per ∧ lastF d.sheet d.band per ≤ 1000000 := fun he => by have := lastF_bnd he; omega
  refine pcalls_of_aw Try.func77 rfl (Nat.le_of_ble_eq_true rfl) ?_
  (repeat' (first | (refine ar_isq ?_; first | refine zmv ?_ | refine zas ?_ | (refine is_load ?_; first | refine zlp ?_ | refine zlr ?_) | (refine is_binOp ?_; first | refine zneq ?_ | refine zadd ?_) | (refine is_fieldAddr ?_; first | refine zfp ?_ | refine zfr ?_) | refine zex ?_) | (refine ar_pcall (own := false) fn95 rfl rfl (.cons (.closed rfl) (.cons (.closed rfl) (.cons (.closed rfl) .nil))) (rLasts_p d.sheet d.band per) (by simp) (dc rfl) ?_; intro _ hv; subst hv) | (refine zbx ?_) | (refine ar_nil ?_) | (refine aw_seq ?_) | (refine aw_skip ?_) | (refine aw_block ?_) | (refine aw_exit ?_) | (refine aw_region ?_) | (refine zco ?_ ?_ <;> intro hg <;> first | exact absurd hg (by decide) | ((try replace hg := HG.out hg); (try dsimp only at hg); (try rw [withinB_iff] at hg); (try rw [withinB_no] at hg); (try (have _h : True := hg; clear _h hg)); first | (exfalso; omega) | skip))))
  · (refine aw_ret ?_; (repeat (first | refine ret_then ?_ | refine ret_block ?_)); refine bq1 rfl ⟨?_, rfl⟩)
    unfold allowsF
    rw [if_neg (by omega)]
  · (refine aw_ret ?_; (repeat (first | refine ret_then ?_ | refine ret_block ?_)); refine bq1 rfl ⟨?_, rfl⟩)
    unfold allowsF
    rw [if_pos (by omega)]
    rfl
set_option maxHeartbeats 2000000 in
theorem rcount_p (h : Hse) (n st : Int) (hf : h.fors.length ≤ h.store.prints.length) (hs : h.fors.length ≤ 1000) : PCalls Try.prog 33 [h.enc, vi n, vu8 st] (· = vi (doneF h n st)) := by
  refine pcalls_of_aw Try.func33 rfl (Nat.le_of_ble_eq_true rfl) ?_
  ((repeat refine aw_seq ?_); (first | (refine aw_region ?_)); (repeat' (first | (refine ar_isq ?_; first | refine zmv ?_ | refine zas ?_ | (refine is_load ?_; first | refine zlp ?_ | refine zlr ?_) | (refine is_binOp ?_; first | refine zlss ?_ | refine zeql ?_ | refine zadd ?_) | (refine is_fieldAddr ?_; first | refine zfp ?_ | refine zfr ?_) | (refine is_indexAddr ?_; first | refine zil ?_ | refine zis ?_ | refine zit ?_ | refine zia ?_ | refine zir ?_ | (refine zxl ?_; intro _ _ _) | (refine zxs ?_; intro _ _ _)) | (refine is_call ?_; first | refine zll ?_ | refine zls ?_ | refine zln ?_ | refine zle ?_) | (refine is_pick ?_; first | refine zpt ?_ | refine zpf ?_)) | (refine zbx ?_) | (refine zg ?_ ?_ <;> intro hg <;> first | exact absurd hg (by decide) | ((try replace hg := HG.out hg); (try dsimp only at hg); (try (have _h : True := hg; clear _h hg)); first | (exfalso; omega) | skip)) | (refine zgu ?_) | (refine ar_nil ?_))))
  (refine aw_mono_r (env' := [(1, vi n), (2, vu8 st), (3, .ref h.enc 0)]) (H' := []) ?_ ?_; (focus ((refine sub_to [] [0] rfl ?_ ?_ <;> (repeat' (first | exact trivial | refine ⟨⟨_, rfl, ?_⟩, ?_⟩ | refine ⟨bsub_snoc rfl rfl (fun _ => rfl) ?_, ?_⟩ | refine ⟨bsub_one rfl rfl ?_, ?_⟩ | refine ⟨bsub_all rfl rfl (fun _ _ => rfl) (fun _ => rfl), ?_⟩ | refine ⟨bsub_updL rfl rfl ?_ (fun _ _ _ => rfl) (fun _ => rfl), ?_⟩ | refine ⟨.inl ⟨_, _, rfl, rfl, ?_⟩, ?_⟩ | exact ⟨.inr ⟨rfl, rfl⟩, trivial⟩ | refine ⟨.inr ⟨rfl, rfl⟩, ?_⟩ | (intro _ _) | exact vz1 | exact vz2 | fail))); done)))
  (repeat' (first | (refine ar_isq ?_; first | refine zmv ?_ | refine zas ?_ | (refine is_load ?_; first | refine zlp ?_ | refine zlr ?_) | (refine is_binOp ?_; first | refine zlss ?_ | refine zeql ?_ | refine zadd ?_) | (refine is_fieldAddr ?_; first | refine zfp ?_ | refine zfr ?_) | (refine is_indexAddr ?_; first | refine zil ?_ | refine zis ?_ | refine zit ?_ | refine zia ?_ | refine zir ?_ | (refine zxl ?_; intro _ _ _) | (refine zxs ?_; intro _ _ _)) | (refine is_call ?_; first | refine zll ?_ | refine zls ?_ | refine zln ?_ | refine zle ?_) | (refine is_pick ?_; first | refine zpt ?_ | refine zpf ?_)) | (refine zbx ?_) | (refine zg ?_ ?_ <;> intro hg <;> first | exact absurd hg (by decide) | ((try replace hg := HG.out hg); (try dsimp only at hg); (try (have _h : True := hg; clear _h hg)); first | (exfalso; omega) | skip)) | (refine zgu ?_) | (refine ar_nil ?_) | (refine aw_seq ?_) | (refine aw_skip ?_) | (refine aw_block ?_) | (refine aw_exit ?_) | (refine aw_region ?_) | (refine zco ?_ ?_ <;> intro hg <;> first | exact absurd hg (by decide) | ((try replace hg := HG.out hg); (try dsimp only at hg); (try (have _h : True := hg; clear _h hg)); first | (exfalso; omega) | skip))))
  refine aw_for h.fors.length (fun _ => True) (fun k => [(1, vi n), (2, vu8 st), (3, .ref h.enc 0), (7, vi (doneTo h n st k)), (8, vi k)]) (fun _ => []) trivial ?_ ?_
  · (refine sub_to [] [] rfl ?_ ?_ <;> (repeat' (first | exact trivial | refine ⟨⟨_, rfl, ?_⟩, ?_⟩ | refine ⟨bsub_snoc rfl rfl (fun _ => rfl) ?_, ?_⟩ | refine ⟨bsub_one rfl rfl ?_, ?_⟩ | refine ⟨bsub_all rfl rfl (fun _ _ => rfl) (fun _ => rfl), ?_⟩ | refine ⟨bsub_updL rfl rfl ?_ (fun _ _ _ => rfl) (fun _ => rfl), ?_⟩ | refine ⟨.inl ⟨_, _, rfl, rfl, ?_⟩, ?_⟩ | exact ⟨.inr ⟨rfl, rfl⟩, trivial⟩ | refine ⟨.inr ⟨rfl, rfl⟩, ?_⟩ | (intro _ _) | exact vz1 | exact vz2 | fail)))
  intro k hk _
  have hb := doneTo_bnd h n st k
  have hstep := doneTo_step (h := h) (n := n) (st := st) (k := k)
  by_cases hlt : k < h.fors.length
  · (repeat' (first | (refine ar_isq ?_; first | refine zmv ?_ | refine zas ?_ | (refine is_load ?_; first | refine zlp ?_ | refine zlr ?_) | (refine is_binOp ?_; first | refine zlss ?_ | refine zeql ?_ | refine zadd ?_) | (refine is_fieldAddr ?_; first | refine zfp ?_ | refine zfr ?_) | (refine is_indexAddr ?_; first | refine zil ?_ | refine zis ?_ | refine zit ?_ | refine zia ?_ | refine zir ?_ | refine zil (j := k) ?_ | refine zis (j := k) ?_ | refine zit (j := k) ?_ | (refine zxl ?_; intro _ _ _) | (refine zxs ?_; intro _ _ _)) | (refine is_call ?_; first | refine zll ?_ | refine zls ?_ | refine zln ?_ | refine zle ?_) | (refine is_pick ?_; first | refine zpt ?_ | refine zpf ?_)) | (refine zbx ?_) | (refine zg ?_ ?_ <;> intro hg <;> first | exact absurd hg (by decide) | ((try replace hg := HG.out hg); (try dsimp only at hg); (try (have _h : True := hg; clear _h hg)); first | (exfalso; omega) | skip)) | (refine zgu ?_) | (refine ar_nil ?_) | (refine aw_seq ?_) | (refine aw_skip ?_) | (refine aw_block ?_) | (refine aw_exit ?_) | (refine aw_region ?_) | (refine zco ?_ ?_ <;> intro hg <;> first | exact absurd hg (by decide) | ((try replace hg := HG.out hg); (try dsimp only at hg); (try (have _h : True := hg; clear _h hg)); first | (exfalso; omega) | skip))))
    all_goals first
      | (exfalso; omega)
      | ((first | refine loop_next (by omega) ?_ ?_ | refine (show _ ∧ _ ∧ SubOf _ _ _ _ _ _ from And.intro (by omega) (And.intro ?_ ?_))); (focus ((trivial); done)); (focus ((refine sub_to [] [] rfl ?_ ?_ <;> (repeat' (first | exact trivial | refine ⟨⟨_, rfl, ?_⟩, ?_⟩ | refine ⟨bsub_snoc rfl rfl (fun _ => rfl) ?_, ?_⟩ | refine ⟨bsub_one rfl rfl ?_, ?_⟩ | refine ⟨bsub_all rfl rfl (fun _ _ => rfl) (fun _ => rfl), ?_⟩ | refine ⟨bsub_updL rfl rfl ?_ (fun _ _ _ => rfl) (fun _ => rfl), ?_⟩ | refine ⟨.inl ⟨_, _, rfl, rfl, ?_⟩, ?_⟩ | exact ⟨.inr ⟨rfl, rfl⟩, trivial⟩ | refine ⟨.inr ⟨rfl, rfl⟩, ?_⟩ | (intro _ _) | exact vz1 | (exact siEq (by rw [hstep, if_pos ⟨by assumption, by assumption⟩])) | exact vz2 | fail))); done)))
      | ((first | refine loop_next (by omega) ?_ ?_ | refine (show _ ∧ _ ∧ SubOf _ _ _ _ _ _ from And.intro (by omega) (And.intro ?_ ?_))); (focus ((trivial); done)); (focus ((refine sub_to [] [] rfl ?_ ?_ <;> (repeat' (first | exact trivial | refine ⟨⟨_, rfl, ?_⟩, ?_⟩ | refine ⟨bsub_snoc rfl rfl (fun _ => rfl) ?_, ?_⟩ | refine ⟨bsub_one rfl rfl ?_, ?_⟩ | refine ⟨bsub_all rfl rfl (fun _ _ => rfl) (fun _ => rfl), ?_⟩ | refine ⟨bsub_updL rfl rfl ?_ (fun _ _ _ => rfl) (fun _ => rfl), ?_⟩ | refine ⟨.inl ⟨_, _, rfl, rfl, ?_⟩, ?_⟩ | exact ⟨.inr ⟨rfl, rfl⟩, trivial⟩ | refine ⟨.inr ⟨rfl, rfl⟩, ?_⟩ | (intro _ _) | exact vz1 | (exact siEq (by rw [hstep, if_neg (fun e => by first | exact absurd e.1 (by assumption) | exact absurd e.2 (by assumption))] <;> omega)) | exact vz2 | fail))); done)))
      | trace_state
  · (repeat' (first | (refine ar_isq ?_; first | refine zmv ?_ | refine zas ?_ | (refine is_load ?_; first | refine zlp ?_ | refine zlr ?_) | (refine is_binOp ?_; first | refine zlss ?_ | refine zeql ?_ | refine zadd ?_) | (refine is_fieldAddr ?_; first | refine zfp ?_ | refine zfr ?_) | (refine is_indexAddr ?_; first | refine zil ?_ | refine zis ?_ | refine zit ?_ | refine zia ?_ | refine zir ?_ | (refine zxl ?_; intro _ _ _) | (refine zxs ?_; intro _ _ _)) | (refine is_call ?_; first | refine zll ?_ | refine zls ?_ | refine zln ?_ | refine zle ?_) | (refine is_pick ?_; first | refine zpt ?_ | refine zpf ?_)) | (refine zbx ?_) | (refine zg ?_ ?_ <;> intro hg <;> first | exact absurd hg (by decide) | ((try replace hg := HG.out hg); (try dsimp only at hg); (try (have _h : True := hg; clear _h hg)); first | (exfalso; omega) | skip)) | (refine zgu ?_) | (refine ar_nil ?_) | (refine aw_seq ?_) | (refine aw_skip ?_) | (refine aw_block ?_) | (refine aw_exit ?_) | (refine aw_region ?_) | (refine zco ?_ ?_ <;> intro hg <;> first | exact absurd hg (by decide) | ((try replace hg := HG.out hg); (try dsimp only at hg); (try (have _h : True := hg; clear _h hg)); first | (exfalso; omega) | skip))))
    all_goals first
      | (exfalso; omega)
      | ((refine aw_ret ?_; (repeat (first | refine ret_then ?_ | refine ret_block ?_)); refine bq1 rfl ⟨?_, rfl⟩); exact congrArg vi (by rw [doneF, show k = h.fors.length by omega]))
      | trace_state
set_option maxHeartbeats 2000000 in
theorem rlicence_p (h : Hse) (l : Lic) (hs : h.designs.length ≤ 1000) : PCalls Try.prog 46 [h.enc, l.enc] (fun v => ∃ b : Bool, v = vb b ∧ (b = true ↔ LicOk h l)) := by
  refine pcalls_of_aw Try.func46 rfl (Nat.le_of_ble_eq_true rfl) ?_
  ((repeat refine aw_seq ?_); (first | (refine aw_region ?_) | (refine aw_drawn (id := 1) [(0, 0), (1, 0), (2, 0), (3, 0), (4, 0), (5, 0), (6, 1), (7, 0), (8, 0), (9, 0), (10, 1), (11, 0), (12, 0), (13, 0), (14, 0), (15, 0), (16, 0), (17, 0), (18, 0), (19, 0), (20, 0), (21, 0), (22, 0), (23, 0), (24, 0), (25, 0), (26, 0), (27, 1), (28, 0), (29, 0), (30, 0), (31, 0), (32, 1), (33, 0), (34, 0)] mixed (by kernel_rfl) ?_) | (refine aw_drawn (id := 1) [(0, 0), (1, 0), (2, 0), (3, 0), (4, 0), (5, 0), (6, 2), (7, 0), (8, 0), (9, 0), (10, 2), (11, 0), (12, 0), (13, 0), (14, 0), (15, 0), (16, 0), (17, 0), (18, 0), (19, 0), (20, 0), (21, 0), (22, 0), (23, 0), (24, 0), (25, 0), (26, 0), (27, 2), (28, 0), (29, 0), (30, 0), (31, 0), (32, 2), (33, 0), (34, 0)] mixed (by kernel_rfl) ?_)); (repeat' (first | (refine ar_isq ?_; first | refine zmv ?_ | refine zas ?_ | (refine is_load ?_; first | refine zlp ?_ | refine zlr ?_) | (refine is_binOp ?_; first | refine zneq ?_ | refine zsub ?_) | (refine is_fieldAddr ?_; first | refine zfp ?_ | refine zfr ?_) | (refine is_indexAddr ?_; first | refine zil ?_ | refine zis ?_ | refine zit ?_ | refine zia ?_ | refine zir ?_ | (refine zxl ?_; intro _ _ _) | (refine zxs ?_; intro _ _ _)) | (refine is_call ?_; first | refine zll ?_ | refine zls ?_ | refine zln ?_ | refine zle ?_) | (refine is_pick ?_; first | refine zpt ?_ | refine zpf ?_)) | (refine zbx ?_) | (refine zg ?_ ?_ <;> intro hg <;> first | exact absurd hg (by decide) | ((try replace hg := HG.out hg); (try dsimp only at hg); (try rw [withinB_iff] at hg); (try rw [withinB_no] at hg); (try (have _h : True := hg; clear _h hg)); first | (exfalso; omega) | skip)) | (refine zgu ?_) | (refine ar_nil ?_))))
  (refine aw_mono_r (env' := [(2, .ref h.enc 0), (3, .ref l.enc 0)]) (H' := []) ?_ ?_; (focus ((refine sub_to [] [0, 1] rfl ?_ ?_ <;> (repeat' (first | exact trivial | refine ⟨⟨_, rfl, ?_⟩, ?_⟩ | refine ⟨bsub_snoc rfl rfl (fun _ => rfl) ?_, ?_⟩ | refine ⟨bsub_one rfl rfl ?_, ?_⟩ | refine ⟨bsub_all rfl rfl (fun _ _ => rfl) (fun _ => rfl), ?_⟩ | refine ⟨bsub_updL rfl rfl ?_ (fun _ _ _ => rfl) (fun _ => rfl), ?_⟩ | refine ⟨.inl ⟨_, _, rfl, rfl, ?_⟩, ?_⟩ | exact ⟨.inr ⟨rfl, rfl⟩, trivial⟩ | refine ⟨.inr ⟨rfl, rfl⟩, ?_⟩ | (intro _ _) | exact vz1 | exact vz2 | fail))); done)))
  (repeat' (first | (refine ar_isq ?_; first | refine zmv ?_ | refine zas ?_ | (refine is_load ?_; first | refine zlp ?_ | refine zlr ?_) | (refine is_binOp ?_; first | refine zneq ?_ | refine zsub ?_) | (refine is_fieldAddr ?_; first | refine zfp ?_ | refine zfr ?_) | (refine is_indexAddr ?_; first | refine zil ?_ | refine zis ?_ | refine zit ?_ | refine zia ?_ | refine zir ?_ | refine zil (j := l.design.toNat) ?_ | refine zis (j := l.design.toNat) ?_ | refine zit (j := l.design.toNat) ?_ | (refine zxl ?_; intro _ _ _) | (refine zxs ?_; intro _ _ _)) | (refine is_call ?_; first | refine zll ?_ | refine zls ?_ | refine zln ?_ | refine zle ?_) | (refine is_pick ?_; first | refine zpt ?_ | refine zpf ?_)) | (refine ar_pcall (own := false) fn24 rfl rfl (.cons (.closed rfl) (.cons (.closed rfl) (.cons (.closed rfl) .nil))) (hwithin_p l.design 0 (h.designs.length - 1)) (by simp) (dc rfl) ?_; intro _ hv; subst hv) | (refine ar_pcall (own := false) fn24 rfl rfl (.cons (.closed rfl) (.cons (.closed rfl) (.cons (.closed rfl) .nil))) (hwithin_p l.til 0 10000) (by simp) (dc rfl) ?_; intro _ hv; subst hv) | (refine ar_pcall (own := false) fn24 rfl rfl (.cons (.closed rfl) (.cons (.closed rfl) (.cons (.closed rfl) .nil))) (hwithin_p l.left 0 400) (by simp) (dc rfl) ?_; intro _ hv; subst hv) | (refine ar_pcall (own := false) fn74 rfl rfl (.cons (.closed rfl) .nil) (hclient_p l.client) (by simp) (dc rfl) ?_; intro _ hv; subst hv) | (refine zbx ?_) | (refine zg ?_ ?_ <;> intro hg <;> first | exact absurd hg (by decide) | ((try replace hg := HG.out hg); (try dsimp only at hg); (try rw [withinB_iff] at hg); (try rw [withinB_no] at hg); (try (have _h : True := hg; clear _h hg)); first | (exfalso; omega) | skip)) | (refine zgu ?_) | (refine ar_nil ?_) | (refine aw_seq ?_) | (refine aw_skip ?_) | (refine aw_block ?_) | (refine aw_exit ?_) | (refine aw_region ?_) | (refine aw_drawn (id := 1) [(0, 0), (1, 0), (2, 0), (3, 0), (4, 0), (5, 0), (6, 1), (7, 0), (8, 0), (9, 0), (10, 1), (11, 0), (12, 0), (13, 0), (14, 0), (15, 0), (16, 0), (17, 0), (18, 0), (19, 0), (20, 0), (21, 0), (22, 0), (23, 0), (24, 0), (25, 0), (26, 0), (27, 1), (28, 0), (29, 0), (30, 0), (31, 0), (32, 1), (33, 0), (34, 0)] mixed (by kernel_rfl) ?_) | (refine aw_drawn (id := 1) [(0, 0), (1, 0), (2, 0), (3, 0), (4, 0), (5, 0), (6, 2), (7, 0), (8, 0), (9, 0), (10, 2), (11, 0), (12, 0), (13, 0), (14, 0), (15, 0), (16, 0), (17, 0), (18, 0), (19, 0), (20, 0), (21, 0), (22, 0), (23, 0), (24, 0), (25, 0), (26, 0), (27, 2), (28, 0), (29, 0), (30, 0), (31, 0), (32, 2), (33, 0), (34, 0)] mixed (by kernel_rfl) ?_) | (refine zco ?_ ?_ <;> intro hg <;> first | exact absurd hg (by decide) | ((try replace hg := HG.out hg); (try dsimp only at hg); (try rw [withinB_iff] at hg); (try rw [withinB_no] at hg); (try (have _h : True := hg; clear _h hg)); first | (exfalso; omega) | skip))))
  all_goals first
    | ((refine aw_ret ?_; (repeat (first | refine ret_then ?_ | refine ret_block ?_)); refine bq1 rfl ⟨?_, rfl⟩); refine ⟨_, rfl, ⟨fun hb => (by cases hb), fun hL => ?_⟩⟩; unfold LicOk inDesigns at hL; omega)
    | ((refine aw_ret ?_; (repeat (first | refine ret_then ?_ | refine ret_block ?_)); refine bq1 rfl ⟨?_, rfl⟩); refine ⟨_, rfl, ⟨fun hb => ?_, fun hL => ?_⟩⟩; (focus (rw [withinB_iff] at hb; unfold LicOk inDesigns; omega)); (focus (unfold LicOk inDesigns at hL; rw [withinB_iff]; omega)))
    | trace_state
set_option maxHeartbeats 4000000 in
theorem rordered_p (h : Hse) (k : Nat) (hk : k < h.orders.length) (hd : h.designs.length ≤ 1000) (hf : h.fors.length ≤ h.store.prints.length) (hs : h.fors.length ≤ 1000) : PCalls Try.prog 48 [h.enc, vi k] (fun v => ∃ b : Bool, v = vb b ∧ (b = true ↔ OrdAt h k)) := by
  refine pcalls_of_aw Try.func48 rfl (Nat.le_of_ble_eq_true rfl) ?_
  ((repeat refine aw_seq ?_); (first | (refine aw_region ?_) | (refine aw_drawn (id := 4) [(0, 0), (1, 0), (3, 0), (4, 0), (2, 1), (5, 1), (6, 0), (7, 0)] mixed (by kernel_rfl) ?_)); (repeat' (first | (refine ar_isq ?_; first | refine zmv ?_ | refine zas ?_ | (refine is_load ?_; first | refine zlp ?_ | refine zlr ?_) | (refine is_binOp ?_; first | refine zleq ?_ | refine zeql ?_ | refine zsub ?_) | (refine is_fieldAddr ?_; first | refine zfp ?_ | refine zfr ?_) | (refine is_indexAddr ?_; first | refine zil ?_ | refine zis ?_ | refine zit ?_ | refine zia ?_ | refine zir ?_ | (refine zxl ?_; intro _ _ _) | (refine zxs ?_; intro _ _ _)) | (refine is_call ?_; first | refine zll ?_ | refine zls ?_ | refine zln ?_ | refine zle ?_) | (refine is_pick ?_; first | refine zpt ?_ | refine zpf ?_) | refine znt ?_) | (refine zbx ?_) | (refine zal ?_) | (refine zsvs ?_) | (refine zsva ?_) | (refine zses ?_) | (refine zsea ?_) | (refine zg ?_ ?_ <;> intro hg <;> first | exact absurd hg (by decide) | ((try replace hg := HG.out hg); (try dsimp only at hg); (try rw [withinB_iff] at hg); (try rw [withinB_no] at hg); (try (have _h : True := hg; clear _h hg)); first | (exfalso; omega) | skip)) | (refine zgu ?_) | (refine ar_nil ?_))))
  (refine aw_mono_r (env' := [(1, vi k), (2, .ref h.enc 0)]) (H' := []) ?_ ?_; (focus ((refine sub_to [] [0] rfl ?_ ?_ <;> (repeat' (first | exact trivial | refine ⟨⟨_, rfl, ?_⟩, ?_⟩ | refine ⟨bsub_snoc rfl rfl (fun _ => rfl) ?_, ?_⟩ | refine ⟨bsub_one rfl rfl ?_, ?_⟩ | refine ⟨bsub_all rfl rfl (fun _ _ => rfl) (fun _ => rfl), ?_⟩ | refine ⟨bsub_updL rfl rfl ?_ (fun _ _ _ => rfl) (fun _ => rfl), ?_⟩ | refine ⟨.inl ⟨_, _, rfl, rfl, ?_⟩, ?_⟩ | exact ⟨.inr ⟨rfl, rfl⟩, trivial⟩ | refine ⟨.inr ⟨rfl, rfl⟩, ?_⟩ | (intro _ _) | exact vz1 | exact vz2 | fail))); done)))
  (repeat' (first | (refine ar_isq ?_; first | refine zmv ?_ | refine zas ?_ | (refine is_load ?_; first | refine zlp ?_ | refine zlr ?_) | (refine is_binOp ?_; first | refine zleq ?_ | refine zeql ?_ | refine zsub ?_) | (refine is_fieldAddr ?_; first | refine zfp ?_ | refine zfr ?_) | (refine is_indexAddr ?_; first | refine zil ?_ | refine zis ?_ | refine zit ?_ | refine zia ?_ | refine zir ?_ | refine zil (j := k) ?_ | refine zis (j := k) ?_ | refine zit (j := k) ?_ | (refine zxl ?_; intro _ _ _) | (refine zxs ?_; intro _ _ _)) | (refine is_call ?_; first | refine zll ?_ | refine zls ?_ | refine zln ?_ | refine zle ?_) | (refine is_pick ?_; first | refine zpt ?_ | refine zpf ?_) | refine znt ?_) | (refine ar_pcall (own := false) fn24 rfl rfl (.cons (.closed rfl) (.cons (.closed rfl) (.cons (.closed rfl) .nil))) (hwithin_p (el h.orders k).design 0 (h.designs.length - 1)) (by simp) (dc rfl) ?_; intro _ hv; subst hv) | (refine ar_pcall (own := false) fn24 rfl rfl (.cons (.closed rfl) (.cons (.closed rfl) (.cons (.closed rfl) .nil))) (hwithin_p (el h.orders k).need 1 400) (by simp) (dc rfl) ?_; intro _ hv; subst hv) | (refine ar_pcall (own := false) fn74 rfl rfl (.cons (.closed rfl) .nil) (hclient_p (el h.orders k).client) (by simp) (dc rfl) ?_; intro _ hv; subst hv) | (refine ar_pcall (own := false) fn33 rfl rfl (.cons (.closed rfl) (.cons (.closed rfl) (.cons (.closed rfl) .nil))) (rcount_p h k 0 hf hs) (by simp) (dc rfl) ?_; intro _ hv; subst hv) | (refine ar_pcall (own := false) fn33 rfl rfl (.cons (.closed rfl) (.cons (.closed rfl) (.cons (.closed rfl) .nil))) (rcount_p h k 1 hf hs) (by simp) (dc rfl) ?_; intro _ hv; subst hv) | (refine zbx ?_) | (refine zal ?_) | (refine zsvs ?_) | (refine zsva ?_) | (refine zses ?_) | (refine zsea ?_) | (refine zg ?_ ?_ <;> intro hg <;> first | exact absurd hg (by decide) | ((try replace hg := HG.out hg); (try dsimp only at hg); (try rw [withinB_iff] at hg); (try rw [withinB_no] at hg); (try (have _h : True := hg; clear _h hg)); first | (exfalso; omega) | skip)) | (refine zgu ?_) | (refine ar_nil ?_) | (refine aw_seq ?_) | (refine aw_skip ?_) | (refine aw_block ?_) | (refine aw_exit ?_) | (refine aw_region ?_) | (refine aw_drawn (id := 4) [(0, 0), (1, 0), (3, 0), (4, 0), (2, 1), (5, 1), (6, 0), (7, 0)] mixed (by kernel_rfl) ?_) | (refine zco ?_ ?_ <;> intro hg <;> first | exact absurd hg (by decide) | ((try replace hg := HG.out hg); (try dsimp only at hg); (try rw [withinB_iff] at hg); (try rw [withinB_no] at hg); (try (have _h : True := hg; clear _h hg)); first | (exfalso; omega) | skip))))
  all_goals first
    | ((refine aw_ret ?_; (repeat (first | refine ret_then ?_ | refine ret_block ?_)); refine bq1 rfl ⟨?_, rfl⟩); refine ⟨_, rfl, ⟨fun hb => ?_, fun hO => ?_⟩⟩
       · first
           | (cases hb; done)
           | exact ⟨by assumption, inD_iff.2 (by omega), by assumption, fun _ => ⟨by assumption, of_decide_eq_true hb⟩, fun hd => absurd (hd.symm.trans (show (el h.orders k).done = true from by assumption)) (by decide)⟩
           | exact ⟨by assumption, inD_iff.2 (by omega), by assumption, fun hd => absurd (hd.symm.trans (show (el h.orders k).done = false from by assumption)) (by decide), fun _ => ⟨by assumption, of_decide_eq_true hb⟩⟩
       · obtain ⟨h1, h2, h3, h4, h5⟩ := hO
         first
           | exact absurd h1 (by assumption)
           | exact absurd h3 (by assumption)
           | (have a1 := h4 (by assumption); first | exact absurd a1.1 (by assumption) | exact decide_eq_true a1.2)
           | (have a1 := h5 (by assumption); first | exact absurd a1.1 (by assumption) | exact decide_eq_true a1.2)
           | (unfold inDesigns at h2; omega))
    | trace_state
set_option maxHeartbeats 4000000 in
theorem rmade_p (h : Hse) (hs : HSmall h) (hV : Valid h.store) : PCalls Try.prog 47 [h.enc] (fun v => ∃ b : Bool, v = vb b ∧ (b = true ↔ MadeOk h)) := by
  unfold HSmall at hs
  refine pcalls_of_aw Try.func47 rfl (Nat.le_of_ble_eq_true rfl) ?_
  ((repeat refine aw_seq ?_); (first | (refine aw_region ?_) | (refine aw_drawn (id := 7) [(0, 0), (1, 0), (2, 0), (3, 0), (4, 0), (5, 0), (6, 0), (7, 0), (8, 0), (9, 1), (10, 0), (11, 0), (12, 0), (13, 0), (14, 0), (15, 0), (16, 0), (17, 0), (18, 0), (19, 0), (20, 0), (21, 0), (22, 0), (23, 0), (24, 0), (25, 0), (26, 0), (27, 0), (28, 0), (29, 0)] mixed (by kernel_rfl) ?_) | (refine aw_drawn (id := 7) [(0, 0), (1, 0), (2, 0), (3, 0), (4, 0), (5, 0), (6, 0), (7, 0), (8, 0), (9, 2), (10, 0), (11, 0), (12, 0), (13, 0), (14, 0), (15, 0), (16, 0), (17, 0), (18, 0), (19, 0), (20, 0), (21, 0), (22, 0), (23, 0), (24, 0), (25, 0), (26, 0), (27, 0), (28, 0), (29, 0)] mixed (by kernel_rfl) ?_) | (refine aw_drawn (id := 9) [(0, 0), (1, 0), (2, 0), (3, 0), (4, 0), (5, 0), (6, 0), (7, 0), (8, 0), (9, 0), (10, 0), (11, 0), (12, 0), (13, 0), (14, 0), (15, 0), (16, 0), (17, 0), (18, 0), (19, 0), (20, 1), (21, 0), (22, 0)] mixed (by kernel_rfl) ?_)); (repeat' (first | (refine ar_isq ?_; first | refine zmv ?_ | refine zas ?_ | (refine is_load ?_; first | refine zlp ?_ | refine zlr ?_) | (refine is_binOp ?_; first | refine zlss ?_ | refine zgtr ?_ | refine zgeq ?_ | refine zeql ?_ | refine zneq ?_ | refine zadd ?_ | refine zsub ?_) | (refine is_fieldAddr ?_; first | refine zfp ?_ | refine zfr ?_) | (refine is_indexAddr ?_; first | refine zil ?_ | refine zis ?_ | refine zit ?_ | refine zia ?_ | refine zir ?_ | (refine zxl ?_; intro _ _ _) | (refine zxs ?_; intro _ _ _)) | (refine is_call ?_; first | refine zll ?_ | refine zls ?_ | refine zln ?_ | refine zle ?_) | (refine is_pick ?_; first | refine zpt ?_ | refine zpf ?_) | refine znt ?_) | (refine zbx ?_) | (refine zal ?_) | (refine zsvs ?_) | (refine zsva ?_) | (refine zses ?_) | (refine zsea ?_) | (refine zg ?_ ?_ <;> intro hg <;> first | exact absurd hg (by decide) | ((try replace hg := HG.out hg); (try dsimp only at hg); (try rw [withinB_iff] at hg); (try rw [withinB_no] at hg); (try (have _h : True := hg; clear _h hg)); first | (exfalso; omega) | skip)) | (refine zgu ?_) | (refine ar_nil ?_))))
  (refine aw_mono_r (env' := [(1, .ref h.enc 0), (2, vb false)]) (H' := []) ?_ ?_; (focus ((refine sub_to [] [0] rfl ?_ ?_ <;> (repeat' (first | exact trivial | refine ⟨⟨_, rfl, ?_⟩, ?_⟩ | refine ⟨bsub_snoc rfl rfl (fun _ => rfl) ?_, ?_⟩ | refine ⟨bsub_one rfl rfl ?_, ?_⟩ | refine ⟨bsub_all rfl rfl (fun _ _ => rfl) (fun _ => rfl), ?_⟩ | refine ⟨bsub_updL rfl rfl ?_ (fun _ _ _ => rfl) (fun _ => rfl), ?_⟩ | refine ⟨.inl ⟨_, _, rfl, rfl, ?_⟩, ?_⟩ | exact ⟨.inr ⟨rfl, rfl⟩, trivial⟩ | refine ⟨.inr ⟨rfl, rfl⟩, ?_⟩ | (intro _ _) | exact vz1 | exact vz2 | fail))); done)))
  (repeat' (first | (refine ar_isq ?_; first | refine zmv ?_ | refine zas ?_ | (refine is_load ?_; first | refine zlp ?_ | refine zlr ?_) | (refine is_binOp ?_; first | refine zlss ?_ | refine zgtr ?_ | refine zgeq ?_ | refine zeql ?_ | refine zneq ?_ | refine zadd ?_ | refine zsub ?_) | (refine is_fieldAddr ?_; first | refine zfp ?_ | refine zfr ?_) | (refine is_indexAddr ?_; first | refine zil ?_ | refine zis ?_ | refine zit ?_ | refine zia ?_ | refine zir ?_ | (refine zxl ?_; intro _ _ _) | (refine zxs ?_; intro _ _ _)) | (refine is_call ?_; first | refine zll ?_ | refine zls ?_ | refine zln ?_ | refine zle ?_) | (refine is_pick ?_; first | refine zpt ?_ | refine zpf ?_) | refine znt ?_) | (refine zbx ?_) | (refine zal ?_) | (refine zsvs ?_) | (refine zsva ?_) | (refine zses ?_) | (refine zsea ?_) | (refine zg ?_ ?_ <;> intro hg <;> first | exact absurd hg (by decide) | ((try replace hg := HG.out hg); (try dsimp only at hg); (try rw [withinB_iff] at hg); (try rw [withinB_no] at hg); (try (have _h : True := hg; clear _h hg)); first | (exfalso; omega) | skip)) | (refine zgu ?_) | (refine ar_nil ?_) | (refine aw_seq ?_) | (refine aw_skip ?_) | (refine aw_block ?_) | (refine aw_exit ?_) | (refine aw_region ?_) | (refine aw_drawn (id := 7) [(0, 0), (1, 0), (2, 0), (3, 0), (4, 0), (5, 0), (6, 0), (7, 0), (8, 0), (9, 1), (10, 0), (11, 0), (12, 0), (13, 0), (14, 0), (15, 0), (16, 0), (17, 0), (18, 0), (19, 0), (20, 0), (21, 0), (22, 0), (23, 0), (24, 0), (25, 0), (26, 0), (27, 0), (28, 0), (29, 0)] mixed (by kernel_rfl) ?_) | (refine aw_drawn (id := 7) [(0, 0), (1, 0), (2, 0), (3, 0), (4, 0), (5, 0), (6, 0), (7, 0), (8, 0), (9, 2), (10, 0), (11, 0), (12, 0), (13, 0), (14, 0), (15, 0), (16, 0), (17, 0), (18, 0), (19, 0), (20, 0), (21, 0), (22, 0), (23, 0), (24, 0), (25, 0), (26, 0), (27, 0), (28, 0), (29, 0)] mixed (by kernel_rfl) ?_) | (refine aw_drawn (id := 9) [(0, 0), (1, 0), (2, 0), (3, 0), (4, 0), (5, 0), (6, 0), (7, 0), (8, 0), (9, 0), (10, 0), (11, 0), (12, 0), (13, 0), (14, 0), (15, 0), (16, 0), (17, 0), (18, 0), (19, 0), (20, 1), (21, 0), (22, 0)] mixed (by kernel_rfl) ?_) | (refine zco ?_ ?_ <;> intro hg <;> first | exact absurd hg (by decide) | ((try replace hg := HG.out hg); (try dsimp only at hg); (try rw [withinB_iff] at hg); (try rw [withinB_no] at hg); (try (have _h : True := hg; clear _h hg)); first | (exfalso; omega) | skip))))
  · (refine aw_ret ?_; (repeat (first | refine ret_then ?_ | refine ret_block ?_)); refine bq1 rfl ⟨?_, rfl⟩)
    exact ⟨false, rfl, ⟨fun h => (by cases h), fun hM => by have := hM.1; omega⟩⟩
  · refine aw_for h.made.length (fun k => ∀ j, j < k → MadeAt h j) (fun k => [(1, .ref h.enc 0), (3, vi k)]) (fun _ => []) (fun j hj => by omega) ?_ ?_
    · (refine sub_to [] [] rfl ?_ ?_ <;> (repeat' (first | exact trivial | refine ⟨⟨_, rfl, ?_⟩, ?_⟩ | refine ⟨bsub_snoc rfl rfl (fun _ => rfl) ?_, ?_⟩ | refine ⟨bsub_one rfl rfl ?_, ?_⟩ | refine ⟨bsub_all rfl rfl (fun _ _ => rfl) (fun _ => rfl), ?_⟩ | refine ⟨bsub_updL rfl rfl ?_ (fun _ _ _ => rfl) (fun _ => rfl), ?_⟩ | refine ⟨.inl ⟨_, _, rfl, rfl, ?_⟩, ?_⟩ | exact ⟨.inr ⟨rfl, rfl⟩, trivial⟩ | refine ⟨.inr ⟨rfl, rfl⟩, ?_⟩ | (intro _ _) | exact vz1 | exact vz2 | fail)))
    intro k hk hJ
    by_cases hlt : k < h.made.length
    · have hm := hV.2.1 k (by omega)
      unfold Made at hm
      (repeat' (first | (refine ar_isq ?_; first | refine zmv ?_ | refine zas ?_ | (refine is_load ?_; first | refine zlp ?_ | refine zlr ?_) | (refine is_binOp ?_; first | refine zlss ?_ | refine zgtr ?_ | refine zgeq ?_ | refine zeql ?_ | refine zneq ?_ | refine zadd ?_ | refine zsub ?_) | (refine is_fieldAddr ?_; first | refine zfp ?_ | refine zfr ?_) | (refine is_indexAddr ?_; first | refine zil ?_ | refine zis ?_ | refine zit ?_ | refine zia ?_ | refine zir ?_ | refine zil (j := k) ?_ | refine zis (j := k) ?_ | refine zit (j := k) ?_ | refine zil (j := (el h.store.items k).src.toNat) ?_ | refine zis (j := (el h.store.items k).src.toNat) ?_ | refine zit (j := (el h.store.items k).src.toNat) ?_ | refine zil (j := (el h.made k).toNat) ?_ | refine zis (j := (el h.made k).toNat) ?_ | refine zit (j := (el h.made k).toNat) ?_ | (refine zxl ?_; intro _ _ _) | (refine zxs ?_; intro _ _ _)) | (refine is_call ?_; first | refine zll ?_ | refine zls ?_ | refine zln ?_ | refine zle ?_) | (refine is_pick ?_; first | refine zpt ?_ | refine zpf ?_) | refine znt ?_) | (refine ar_pcall (own := false) fn24 rfl rfl (.cons (.closed rfl) (.cons (.closed rfl) (.cons (.closed rfl) .nil))) (hwithin_p (el h.made k) 0 (h.designs.length - 1)) (by simp) (dc rfl) ?_; intro _ hv; subst hv) | (refine ar_pcall (own := false) fn77 rfl rfl (.cons (.closed rfl) (.cons (.closed rfl) (.cons (.closed rfl) .nil))) (rallows_p (el h.designs (el h.made k).toNat) h.per h.store.life) (by simp) (dc rfl) ?_; intro _ hv; subst hv) | (refine zbx ?_) | (refine zal ?_) | (refine zsvs ?_) | (refine zsva ?_) | (refine zses ?_) | (refine zsea ?_) | (refine zg ?_ ?_ <;> intro hg <;> first | exact absurd hg (by decide) | ((try replace hg := HG.out hg); (try dsimp only at hg); (try rw [withinB_iff] at hg); (try rw [withinB_no] at hg); (try (have _h : True := hg; clear _h hg)); first | (exfalso; omega) | skip)) | (refine zgu ?_) | (refine ar_nil ?_) | (refine aw_seq ?_) | (refine aw_skip ?_) | (refine aw_block ?_) | (refine aw_exit ?_) | (refine aw_region ?_) | (refine aw_drawn (id := 7) [(0, 0), (1, 0), (2, 0), (3, 0), (4, 0), (5, 0), (6, 0), (7, 0), (8, 0), (9, 1), (10, 0), (11, 0), (12, 0), (13, 0), (14, 0), (15, 0), (16, 0), (17, 0), (18, 0), (19, 0), (20, 0), (21, 0), (22, 0), (23, 0), (24, 0), (25, 0), (26, 0), (27, 0), (28, 0), (29, 0)] mixed (by kernel_rfl) ?_) | (refine aw_drawn (id := 7) [(0, 0), (1, 0), (2, 0), (3, 0), (4, 0), (5, 0), (6, 0), (7, 0), (8, 0), (9, 2), (10, 0), (11, 0), (12, 0), (13, 0), (14, 0), (15, 0), (16, 0), (17, 0), (18, 0), (19, 0), (20, 0), (21, 0), (22, 0), (23, 0), (24, 0), (25, 0), (26, 0), (27, 0), (28, 0), (29, 0)] mixed (by kernel_rfl) ?_) | (refine aw_drawn (id := 9) [(0, 0), (1, 0), (2, 0), (3, 0), (4, 0), (5, 0), (6, 0), (7, 0), (8, 0), (9, 0), (10, 0), (11, 0), (12, 0), (13, 0), (14, 0), (15, 0), (16, 0), (17, 0), (18, 0), (19, 0), (20, 1), (21, 0), (22, 0)] mixed (by kernel_rfl) ?_) | (refine zco ?_ ?_ <;> intro hg <;> first | exact absurd hg (by decide) | ((try replace hg := HG.out hg); (try dsimp only at hg); (try rw [withinB_iff] at hg); (try rw [withinB_no] at hg); (try (have _h : True := hg; clear _h hg)); first | (exfalso; omega) | skip))))
      all_goals first
        | (exfalso; omega)
        | ((refine aw_ret ?_; (repeat (first | refine ret_then ?_ | refine ret_block ?_)); refine bq1 rfl ⟨?_, rfl⟩); refine ⟨false, rfl, ⟨fun h => (by cases h), fun hM => ?_⟩⟩; obtain ⟨h1, h2, h3⟩ := hM.2 k (by omega); unfold inDesigns at h1; first | omega | (have := h2 (by omega); omega) | (have := h3 (by omega); omega))
        | ((first | refine loop_next (by omega) ?_ ?_ | refine (show _ ∧ _ ∧ SubOf _ _ _ _ _ _ from And.intro (by omega) (And.intro ?_ ?_))); (focus (((refine all_step hJ ⟨inD_iff.2 (by omega), fun _ => ?_, fun _ => ?_⟩ <;> first | assumption | omega)); done)); (focus ((refine sub_to [] [] rfl ?_ ?_ <;> (repeat' (first | exact trivial | refine ⟨⟨_, rfl, ?_⟩, ?_⟩ | refine ⟨bsub_snoc rfl rfl (fun _ => rfl) ?_, ?_⟩ | refine ⟨bsub_one rfl rfl ?_, ?_⟩ | refine ⟨bsub_all rfl rfl (fun _ _ => rfl) (fun _ => rfl), ?_⟩ | refine ⟨bsub_updL rfl rfl ?_ (fun _ _ _ => rfl) (fun _ => rfl), ?_⟩ | refine ⟨.inl ⟨_, _, rfl, rfl, ?_⟩, ?_⟩ | exact ⟨.inr ⟨rfl, rfl⟩, trivial⟩ | refine ⟨.inr ⟨rfl, rfl⟩, ?_⟩ | (intro _ _) | exact vz1 | exact vz2 | fail))); done)))
        | trace_state
    · (repeat' (first | (refine ar_isq ?_; first | refine zmv ?_ | refine zas ?_ | (refine is_load ?_; first | refine zlp ?_ | refine zlr ?_) | (refine is_binOp ?_; first | refine zlss ?_ | refine zgtr ?_ | refine zgeq ?_ | refine zeql ?_ | refine zneq ?_ | refine zadd ?_ | refine zsub ?_) | (refine is_fieldAddr ?_; first | refine zfp ?_ | refine zfr ?_) | (refine is_indexAddr ?_; first | refine zil ?_ | refine zis ?_ | refine zit ?_ | refine zia ?_ | refine zir ?_ | (refine zxl ?_; intro _ _ _) | (refine zxs ?_; intro _ _ _)) | (refine is_call ?_; first | refine zll ?_ | refine zls ?_ | refine zln ?_ | refine zle ?_) | (refine is_pick ?_; first | refine zpt ?_ | refine zpf ?_) | refine znt ?_) | (refine zbx ?_) | (refine zal ?_) | (refine zsvs ?_) | (refine zsva ?_) | (refine zses ?_) | (refine zsea ?_) | (refine zg ?_ ?_ <;> intro hg <;> first | exact absurd hg (by decide) | ((try replace hg := HG.out hg); (try dsimp only at hg); (try rw [withinB_iff] at hg); (try rw [withinB_no] at hg); (try (have _h : True := hg; clear _h hg)); first | (exfalso; omega) | skip)) | (refine zgu ?_) | (refine ar_nil ?_) | (refine aw_seq ?_) | (refine aw_skip ?_) | (refine aw_block ?_) | (refine aw_exit ?_) | (refine aw_region ?_) | (refine aw_drawn (id := 7) [(0, 0), (1, 0), (2, 0), (3, 0), (4, 0), (5, 0), (6, 0), (7, 0), (8, 0), (9, 1), (10, 0), (11, 0), (12, 0), (13, 0), (14, 0), (15, 0), (16, 0), (17, 0), (18, 0), (19, 0), (20, 0), (21, 0), (22, 0), (23, 0), (24, 0), (25, 0), (26, 0), (27, 0), (28, 0), (29, 0)] mixed (by kernel_rfl) ?_) | (refine aw_drawn (id := 7) [(0, 0), (1, 0), (2, 0), (3, 0), (4, 0), (5, 0), (6, 0), (7, 0), (8, 0), (9, 2), (10, 0), (11, 0), (12, 0), (13, 0), (14, 0), (15, 0), (16, 0), (17, 0), (18, 0), (19, 0), (20, 0), (21, 0), (22, 0), (23, 0), (24, 0), (25, 0), (26, 0), (27, 0), (28, 0), (29, 0)] mixed (by kernel_rfl) ?_) | (refine aw_drawn (id := 9) [(0, 0), (1, 0), (2, 0), (3, 0), (4, 0), (5, 0), (6, 0), (7, 0), (8, 0), (9, 0), (10, 0), (11, 0), (12, 0), (13, 0), (14, 0), (15, 0), (16, 0), (17, 0), (18, 0), (19, 0), (20, 1), (21, 0), (22, 0)] mixed (by kernel_rfl) ?_) | (refine zco ?_ ?_ <;> intro hg <;> first | exact absurd hg (by decide) | ((try replace hg := HG.out hg); (try dsimp only at hg); (try rw [withinB_iff] at hg); (try rw [withinB_no] at hg); (try (have _h : True := hg; clear _h hg)); first | (exfalso; omega) | skip))))
      all_goals first
        | (exfalso; omega)
        | ((refine aw_ret ?_; (repeat (first | refine ret_then ?_ | refine ret_block ?_)); refine bq1 rfl ⟨?_, rfl⟩); exact ⟨true, rfl, ⟨fun _ => ⟨by omega, fun j hj => hJ j (by omega)⟩, fun _ => rfl⟩⟩)
        | trace_state
end Go.Proofs.Ytbilpbabdgfblaa
namespace Go.Proofs.Ytbilpbabdgfblaa
open Go.RowKit
def one (b : Prop) [Decidable b] : Int := if b then 1 else 0
end Go.Proofs.Ytbilpbabdgfblaa
