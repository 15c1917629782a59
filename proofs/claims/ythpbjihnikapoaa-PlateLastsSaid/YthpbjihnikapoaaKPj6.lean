/- Parts of the proof: a layer of values over the model, and contracts of functions. No condition. -/
import Derived.Test.YthpbjihnikapoaaKPj5
namespace Go.Proofs.Ythpbjihnikapoaa
open Go.RowKit
theorem lineAt_iff {s : Sheet} {l : List Int} {k : Nat} : lineAt s l k = true ↔ (0 ≤ el l k ∧ el l k ≤ s.rows - s.weight) ∧ (k = 0 ∨ (-s.lean ≤ el l k - el l (k - 1) ∧ el l k - el l (k - 1) ≤ s.lean)) := by
  simp [lineAt, withinB_iff]
theorem isLineB_iff {s : Sheet} {l : List Int} : isLineB s l = true ↔ (l.length : Int) = s.cols ∧ ∀ j, j < l.length → lineAt s l j = true := by
  simp [isLineB, List.all_eq_true]
theorem isLine_no {s : Sheet} {l : List Int} {k : Nat} (hk : k < l.length) (h : lineAt s l k = false) : isLineB s l = false := by
  cases e : isLineB s l with
  | false => rfl
  | true => have := (isLineB_iff.1 e).2 k hk; rw [h] at this; cases this
theorem isLine_yes {s : Sheet} {l : List Int} (h : ∀ j, j < l.length → lineAt s l j = true) : isLineB s l = decide ((l.length : Int) = s.cols) := by
  rw [Bool.eq_iff_iff, isLineB_iff, decide_eq_true_eq]
  exact ⟨fun h => h.1, fun e => ⟨e, h⟩⟩
set_option maxHeartbeats 1000000 in
theorem isLine_p (s : Sheet) (hs : s.ok = true) (l : List Int) : PCalls Try.prog 97 [s.enc, encInts l] (· = vb (isLineB s l)) := by
  (refine pcalls_know (fun I us h => rel_len (rel_arg h (j := 1) rfl)) fun hlen1 => ?_)
  have hb := Sheet.bounds hs
  refine pcalls_of_aw Try.func97 rfl (Nat.le_of_ble_eq_true rfl) ?_
  (repeat' (first | (refine ar_isq ?_; first | refine zmv ?_ | refine zas ?_ | (refine is_load ?_; first | refine zlp ?_ | refine zlr ?_) | (refine is_binOp ?_; first | refine zlss ?_ | refine zgtr ?_ | refine zeql ?_ | refine zadd ?_ | refine zsub ?_) | (refine is_fieldAddr ?_; first | refine zfp ?_ | refine zfr ?_) | (refine is_indexAddr ?_; first | refine zil ?_ | refine zis ?_ | refine zit ?_ | refine zia ?_ | refine zir ?_ | (refine zxl ?_; intro _ _ _) | (refine zxs ?_; intro _ _ _)) | (refine is_call ?_; first | refine zll ?_ | refine zls ?_ | refine zln ?_ | refine zle ?_) | (refine is_pick ?_; first | refine zpt ?_ | refine zpf ?_) | (refine is_unOp ?_; first | refine znt ?_ | refine zng ?_)) | (refine zbx ?_) | (refine zg ?_ ?_ <;> intro hg <;> first | exact absurd hg (by decide) | ((try replace hg := HG.out hg); (try dsimp only at hg); (try rw [withinB_iff] at hg); (try rw [withinB_no] at hg); (try (have _h : True := hg; clear _h hg)); first | (exfalso; omega) | skip)) | (refine zgu ?_) | (refine ar_nil ?_) | (refine aw_seq ?_) | (refine aw_skip ?_) | (refine aw_block ?_) | (refine aw_exit ?_) | (refine aw_region ?_) | (refine aw_drawn (id := 4) [(0, 0), (1, 0), (2, 0), (3, 0), (4, 0), (5, 0), (6, 1), (7, 0), (8, 0), (9, 0), (10, 0), (11, 0), (12, 0), (13, 0), (14, 0), (15, 0), (16, 0), (17, 0), (18, 0), (19, 0), (20, 0), (21, 0), (22, 0), (23, 0), (24, 1), (25, 0), (26, 0), (27, 0)] mixed (by kernel_rfl) ?_) | (refine aw_drawn (id := 4) [(0, 0), (1, 0), (2, 0), (3, 0), (4, 0), (5, 0), (6, 2), (7, 0), (8, 0), (9, 0), (10, 0), (11, 0), (12, 0), (13, 0), (14, 0), (15, 0), (16, 0), (17, 0), (18, 0), (19, 0), (20, 0), (21, 0), (22, 0), (23, 0), (24, 2), (25, 0), (26, 0), (27, 0)] mixed (by kernel_rfl) ?_) | (refine zco ?_ ?_ <;> intro hg <;> first | exact absurd hg (by decide) | ((try replace hg := HG.out hg); (try dsimp only at hg); (try rw [withinB_iff] at hg); (try rw [withinB_no] at hg); (try (have _h : True := hg; clear _h hg)); first | (exfalso; omega) | skip))))
  refine aw_for l.length (fun k => ∀ j, j < k → lineAt s l j = true) (fun k => [(0, s.enc), (1, encInts l), (2, .ptr 5 0 0 0), (7, encInts l), (8, vi l.length), (9, vi k)]) (fun _ => [.arr 5 1 (fun _ => s.enc)]) (fun j hj => by omega) ?_ ?_
  · (refine sub_to [some 0] [] rfl ?_ ?_ <;> (repeat' (first | exact trivial | refine ⟨⟨_, rfl, ?_⟩, ?_⟩ | refine ⟨bsub_snoc rfl rfl (fun _ => rfl) ?_, ?_⟩ | refine ⟨bsub_one rfl rfl ?_, ?_⟩ | refine ⟨bsub_all rfl rfl (fun _ _ => rfl) (fun _ => rfl), ?_⟩ | refine ⟨bsub_updL rfl rfl ?_ (fun _ _ _ => rfl) (fun _ => rfl), ?_⟩ | refine ⟨.inl ⟨_, _, rfl, rfl, ?_⟩, ?_⟩ | exact ⟨.inr ⟨rfl, rfl⟩, trivial⟩ | refine ⟨.inr ⟨rfl, rfl⟩, ?_⟩ | (intro _ _) | exact vz1 | exact vz2 | fail)))
  intro k hk hJ
  have hp := fun h : 0 < k => lineAt_iff.1 (hJ (k - 1) (by omega))
  by_cases h0 : 0 < k
  · have hp := hp h0
    (repeat' (first | (refine ar_isq ?_; first | refine zmv ?_ | refine zas ?_ | (refine is_load ?_; first | refine zlp ?_ | refine zlr ?_) | (refine is_binOp ?_; first | refine zlss ?_ | refine zgtr ?_ | refine zeql ?_ | refine zadd ?_ | refine zsub ?_) | (refine is_fieldAddr ?_; first | refine zfp ?_ | refine zfr ?_) | (refine is_indexAddr ?_; first | refine zil ?_ | refine zis ?_ | refine zit ?_ | refine zia ?_ | refine zir ?_ | refine zil (j := k - 1) ?_ | refine zis (j := k - 1) ?_ | refine zit (j := k - 1) ?_ | (refine zxl ?_; intro _ _ _) | (refine zxs ?_; intro _ _ _)) | (refine is_call ?_; first | refine zll ?_ | refine zls ?_ | refine zln ?_ | refine zle ?_) | (refine is_pick ?_; first | refine zpt ?_ | refine zpf ?_) | (refine is_unOp ?_; first | refine znt ?_ | refine zng ?_)) | (refine ar_pcall (own := false) fn94 rfl rfl (.cons (.closed rfl) (.cons (.closed rfl) (.cons (.closed rfl) .nil))) (within_p _ _ _) (by simp) (dc rfl) ?_; intro _ hv; subst hv) | (refine zbx ?_) | (refine zg ?_ ?_ <;> intro hg <;> first | exact absurd hg (by decide) | ((try replace hg := HG.out hg); (try dsimp only at hg); (try rw [withinB_iff] at hg); (try rw [withinB_no] at hg); (try (have _h : True := hg; clear _h hg)); first | (exfalso; omega) | skip)) | (refine zgu ?_) | (refine ar_nil ?_) | (refine aw_seq ?_) | (refine aw_skip ?_) | (refine aw_block ?_) | (refine aw_exit ?_) | (refine aw_region ?_) | (refine aw_drawn (id := 4) [(0, 0), (1, 0), (2, 0), (3, 0), (4, 0), (5, 0), (6, 1), (7, 0), (8, 0), (9, 0), (10, 0), (11, 0), (12, 0), (13, 0), (14, 0), (15, 0), (16, 0), (17, 0), (18, 0), (19, 0), (20, 0), (21, 0), (22, 0), (23, 0), (24, 1), (25, 0), (26, 0), (27, 0)] mixed (by kernel_rfl) ?_) | (refine aw_drawn (id := 4) [(0, 0), (1, 0), (2, 0), (3, 0), (4, 0), (5, 0), (6, 2), (7, 0), (8, 0), (9, 0), (10, 0), (11, 0), (12, 0), (13, 0), (14, 0), (15, 0), (16, 0), (17, 0), (18, 0), (19, 0), (20, 0), (21, 0), (22, 0), (23, 0), (24, 2), (25, 0), (26, 0), (27, 0)] mixed (by kernel_rfl) ?_) | (refine zco ?_ ?_ <;> intro hg <;> first | exact absurd hg (by decide) | ((try replace hg := HG.out hg); (try dsimp only at hg); (try rw [withinB_iff] at hg); (try rw [withinB_no] at hg); (try (have _h : True := hg; clear _h hg)); first | (exfalso; omega) | skip))))
    all_goals first
      | (((first | refine loop_next (by omega) ?_ ?_ | refine (show _ ∧ _ ∧ SubOf _ _ _ _ _ _ from And.intro (by omega) (And.intro ?_ ?_))); (focus (((exact all_step hJ (lineAt_iff.2 (by omega)))); done)); (focus ((refine sub_to [some 0] [] rfl ?_ ?_ <;> (repeat' (first | exact trivial | refine ⟨⟨_, rfl, ?_⟩, ?_⟩ | refine ⟨bsub_snoc rfl rfl (fun _ => rfl) ?_, ?_⟩ | refine ⟨bsub_one rfl rfl ?_, ?_⟩ | refine ⟨bsub_all rfl rfl (fun _ _ => rfl) (fun _ => rfl), ?_⟩ | refine ⟨bsub_updL rfl rfl ?_ (fun _ _ _ => rfl) (fun _ => rfl), ?_⟩ | refine ⟨.inl ⟨_, _, rfl, rfl, ?_⟩, ?_⟩ | exact ⟨.inr ⟨rfl, rfl⟩, trivial⟩ | refine ⟨.inr ⟨rfl, rfl⟩, ?_⟩ | (intro _ _) | exact vz1 | exact vz2 | fail))); done))))
      | ((refine aw_ret ?_; (repeat (first | refine ret_then ?_ | refine ret_block ?_)); refine bq1 rfl ⟨?_, rfl⟩); first | (rw [isLine_no (k := k) (by omega) (by rw [← Bool.not_eq_true, lineAt_iff]; omega)]; rfl) | (obtain rfl : k = l.length := (by omega); rw [isLine_yes hJ]; rfl))
  · (repeat' (first | (refine ar_isq ?_; first | refine zmv ?_ | refine zas ?_ | (refine is_load ?_; first | refine zlp ?_ | refine zlr ?_) | (refine is_binOp ?_; first | refine zlss ?_ | refine zgtr ?_ | refine zeql ?_ | refine zadd ?_ | refine zsub ?_) | (refine is_fieldAddr ?_; first | refine zfp ?_ | refine zfr ?_) | (refine is_indexAddr ?_; first | refine zil ?_ | refine zis ?_ | refine zit ?_ | refine zia ?_ | refine zir ?_ | refine zil (j := k - 1) ?_ | refine zis (j := k - 1) ?_ | refine zit (j := k - 1) ?_ | (refine zxl ?_; intro _ _ _) | (refine zxs ?_; intro _ _ _)) | (refine is_call ?_; first | refine zll ?_ | refine zls ?_ | refine zln ?_ | refine zle ?_) | (refine is_pick ?_; first | refine zpt ?_ | refine zpf ?_) | (refine is_unOp ?_; first | refine znt ?_ | refine zng ?_)) | (refine ar_pcall (own := false) fn94 rfl rfl (.cons (.closed rfl) (.cons (.closed rfl) (.cons (.closed rfl) .nil))) (within_p _ _ _) (by simp) (dc rfl) ?_; intro _ hv; subst hv) | (refine zbx ?_) | (refine zg ?_ ?_ <;> intro hg <;> first | exact absurd hg (by decide) | ((try replace hg := HG.out hg); (try dsimp only at hg); (try rw [withinB_iff] at hg); (try rw [withinB_no] at hg); (try (have _h : True := hg; clear _h hg)); first | (exfalso; omega) | skip)) | (refine zgu ?_) | (refine ar_nil ?_) | (refine aw_seq ?_) | (refine aw_skip ?_) | (refine aw_block ?_) | (refine aw_exit ?_) | (refine aw_region ?_) | (refine aw_drawn (id := 4) [(0, 0), (1, 0), (2, 0), (3, 0), (4, 0), (5, 0), (6, 1), (7, 0), (8, 0), (9, 0), (10, 0), (11, 0), (12, 0), (13, 0), (14, 0), (15, 0), (16, 0), (17, 0), (18, 0), (19, 0), (20, 0), (21, 0), (22, 0), (23, 0), (24, 1), (25, 0), (26, 0), (27, 0)] mixed (by kernel_rfl) ?_) | (refine aw_drawn (id := 4) [(0, 0), (1, 0), (2, 0), (3, 0), (4, 0), (5, 0), (6, 2), (7, 0), (8, 0), (9, 0), (10, 0), (11, 0), (12, 0), (13, 0), (14, 0), (15, 0), (16, 0), (17, 0), (18, 0), (19, 0), (20, 0), (21, 0), (22, 0), (23, 0), (24, 2), (25, 0), (26, 0), (27, 0)] mixed (by kernel_rfl) ?_) | (refine zco ?_ ?_ <;> intro hg <;> first | exact absurd hg (by decide) | ((try replace hg := HG.out hg); (try dsimp only at hg); (try rw [withinB_iff] at hg); (try rw [withinB_no] at hg); (try (have _h : True := hg; clear _h hg)); first | (exfalso; omega) | skip))))
    all_goals first
      | (((first | refine loop_next (by omega) ?_ ?_ | refine (show _ ∧ _ ∧ SubOf _ _ _ _ _ _ from And.intro (by omega) (And.intro ?_ ?_))); (focus (((exact all_step hJ (lineAt_iff.2 (by omega)))); done)); (focus ((refine sub_to [some 0] [] rfl ?_ ?_ <;> (repeat' (first | exact trivial | refine ⟨⟨_, rfl, ?_⟩, ?_⟩ | refine ⟨bsub_snoc rfl rfl (fun _ => rfl) ?_, ?_⟩ | refine ⟨bsub_one rfl rfl ?_, ?_⟩ | refine ⟨bsub_all rfl rfl (fun _ _ => rfl) (fun _ => rfl), ?_⟩ | refine ⟨bsub_updL rfl rfl ?_ (fun _ _ _ => rfl) (fun _ => rfl), ?_⟩ | refine ⟨.inl ⟨_, _, rfl, rfl, ?_⟩, ?_⟩ | exact ⟨.inr ⟨rfl, rfl⟩, trivial⟩ | refine ⟨.inr ⟨rfl, rfl⟩, ?_⟩ | (intro _ _) | exact vz1 | exact vz2 | fail))); done))))
      | ((refine aw_ret ?_; (repeat (first | refine ret_then ?_ | refine ret_block ?_)); refine bq1 rfl ⟨?_, rfl⟩); first | (rw [isLine_no (k := k) (by omega) (by rw [← Bool.not_eq_true, lineAt_iff]; omega)]; rfl) | (obtain rfl : k = l.length := (by omega); rw [isLine_yes hJ]; rfl))
end Go.Proofs.Ythpbjihnikapoaa
namespace Go.Proofs.Ythpbjihnikapoaa
open Go.RowKit
set_option maxHeartbeats 1000000 in
theorem everyRows_p (b : List (List Int)) {g : FuncId} {cap : List V} (hfn : FnOk Try.prog g) (hcap : V.closed.all cap = true) (p : List Int → Bool) (hc : ∀ l, l ∈ b → PCalls Try.prog g (encInts l :: cap) (· = vb (p l))) :
    PCalls Try.prog 95 [encRows b, .fn (.func g) [] cap] (· = vb (b.all p)) := by
  (refine pcalls_know (fun I us h => rel_len (rel_arg h (j := 0) rfl)) fun hlen0 => ?_)
  refine pcalls_of_aw Try.func95 rfl (Nat.le_of_ble_eq_true rfl) ?_
  (repeat' (first | (refine ar_isq ?_; first | refine zmv ?_ | refine zas ?_ | (refine is_load ?_; first | refine zlp ?_ | refine zlr ?_) | (refine is_binOp ?_; first | refine zlss ?_ | refine zadd ?_) | (refine is_indexAddr ?_; first | refine zil ?_ | refine zis ?_ | refine zit ?_ | refine zia ?_ | refine zir ?_ | (refine zxl ?_; intro _ _ _) | (refine zxs ?_; intro _ _ _)) | (refine is_call ?_; first | refine zll ?_ | refine zls ?_ | refine zln ?_ | refine zle ?_) | refine znt ?_) | (refine ar_nil ?_) | (refine aw_seq ?_) | (refine aw_skip ?_) | (refine aw_block ?_) | (refine aw_exit ?_) | (refine aw_region ?_) | (refine zco ?_ ?_ <;> intro hg <;> first | exact absurd hg (by decide) | ((try replace hg := HG.out hg); (try dsimp only at hg); (try rw [withinB_iff] at hg); (try rw [withinB_no] at hg); (try (have _h : True := hg; clear _h hg)); first | (exfalso; omega) | skip))))
  refine aw_for b.length (fun k => ∀ j, j < k → p (el b j) = true) (fun k => [(1, .fn (.func g) [] cap), (7, encRows b), (8, vi b.length), (9, vi k)]) (fun _ => []) (fun j hj => by omega) ?_ ?_
  · (refine sub_to [] [] rfl ?_ ?_ <;> (repeat' (first | exact trivial | refine ⟨⟨_, rfl, ?_⟩, ?_⟩ | refine ⟨bsub_snoc rfl rfl (fun _ => rfl) ?_, ?_⟩ | refine ⟨bsub_one rfl rfl ?_, ?_⟩ | refine ⟨bsub_all rfl rfl (fun _ _ => rfl) (fun _ => rfl), ?_⟩ | refine ⟨bsub_updL rfl rfl ?_ (fun _ _ _ => rfl) (fun _ => rfl), ?_⟩ | refine ⟨.inl ⟨_, _, rfl, rfl, ?_⟩, ?_⟩ | exact ⟨.inr ⟨rfl, rfl⟩, trivial⟩ | refine ⟨.inr ⟨rfl, rfl⟩, ?_⟩ | (intro _ _) | exact vz1 | exact vz2 | fail)))
  intro k hk hJ
  by_cases hkn : k < b.length
  · (repeat' (first | (refine ar_isq ?_; first | refine zmv ?_ | refine zas ?_ | (refine is_load ?_; first | refine zlp ?_ | refine zlr ?_) | (refine is_binOp ?_; first | refine zlss ?_ | refine zadd ?_) | (refine is_indexAddr ?_; first | refine zil ?_ | refine zis ?_ | refine zit ?_ | refine zia ?_ | refine zir ?_ | (refine zxl ?_; intro _ _ _) | (refine zxs ?_; intro _ _ _)) | (refine is_call ?_; first | refine zll ?_ | refine zls ?_ | refine zln ?_ | refine zle ?_) | refine znt ?_) | (refine ar_pcall (own := false) hfn rfl rfl (args_closed hcap) (hc _ (el_mem hkn)) (by simp) (dc rfl) ?_; intro _ hv; subst hv) | (refine ar_nil ?_) | (refine aw_seq ?_) | (refine aw_skip ?_) | (refine aw_block ?_) | (refine aw_exit ?_) | (refine aw_region ?_) | (refine zco ?_ ?_ <;> intro hg <;> first | exact absurd hg (by decide) | ((try replace hg := HG.out hg); (try dsimp only at hg); (try rw [withinB_iff] at hg); (try rw [withinB_no] at hg); (try (have _h : True := hg; clear _h hg)); first | (exfalso; omega) | skip))))
    all_goals first
      | (exfalso; omega)
      | ((first | refine loop_next (by omega) ?_ ?_ | refine (show _ ∧ _ ∧ SubOf _ _ _ _ _ _ from And.intro (by omega) (And.intro ?_ ?_))); (focus ((exact all_step hJ (by assumption)); done)); (focus ((refine sub_to [] [] rfl ?_ ?_ <;> (repeat' (first | exact trivial | refine ⟨⟨_, rfl, ?_⟩, ?_⟩ | refine ⟨bsub_snoc rfl rfl (fun _ => rfl) ?_, ?_⟩ | refine ⟨bsub_one rfl rfl ?_, ?_⟩ | refine ⟨bsub_all rfl rfl (fun _ _ => rfl) (fun _ => rfl), ?_⟩ | refine ⟨bsub_updL rfl rfl ?_ (fun _ _ _ => rfl) (fun _ => rfl), ?_⟩ | refine ⟨.inl ⟨_, _, rfl, rfl, ?_⟩, ?_⟩ | exact ⟨.inr ⟨rfl, rfl⟩, trivial⟩ | refine ⟨.inr ⟨rfl, rfl⟩, ?_⟩ | (intro _ _) | exact vz1 | exact vz2 | fail))); done)))
      | ((refine aw_ret ?_; (repeat (first | refine ret_then ?_ | refine ret_block ?_)); refine bq1 rfl ⟨?_, rfl⟩); rw [not_all_el hkn (by simp_all)]; rfl)
  · (repeat' (first | (refine ar_isq ?_; first | refine zmv ?_ | refine zas ?_ | (refine is_load ?_; first | refine zlp ?_ | refine zlr ?_) | (refine is_binOp ?_; first | refine zlss ?_ | refine zadd ?_) | (refine is_indexAddr ?_; first | refine zil ?_ | refine zis ?_ | refine zit ?_ | refine zia ?_ | refine zir ?_ | (refine zxl ?_; intro _ _ _) | (refine zxs ?_; intro _ _ _)) | (refine is_call ?_; first | refine zll ?_ | refine zls ?_ | refine zln ?_ | refine zle ?_) | refine znt ?_) | (refine ar_nil ?_) | (refine aw_seq ?_) | (refine aw_skip ?_) | (refine aw_block ?_) | (refine aw_exit ?_) | (refine aw_region ?_) | (refine zco ?_ ?_ <;> intro hg <;> first | exact absurd hg (by decide) | ((try replace hg := HG.out hg); (try dsimp only at hg); (try rw [withinB_iff] at hg); (try rw [withinB_no] at hg); (try (have _h : True := hg; clear _h hg)); first | (exfalso; omega) | skip))))
    all_goals first | omega | ((refine aw_ret ?_; (repeat (first | refine ret_then ?_ | refine ret_block ?_)); refine bq1 rfl ⟨?_, rfl⟩); rw [all_el (fun j hj => hJ j (by omega))]; rfl)
theorem lines_p (s : Sheet) (hs : s.ok = true) (b : List (List Int)) : PCalls Try.prog 73 [s.enc, encRows b] (· = vb (b.all (isLineB s))) := by
  have h1 : ∀ l, l ∈ b → PCalls Try.prog 96 (encInts l :: [.ref s.enc 0]) (· = vb (isLineB s l)) := fun l hm => by
    refine pcalls_of_aw Try.func96 rfl (Nat.le_of_ble_eq_true rfl) ?_
    (repeat' (first | (refine ar_isq ?_; first | refine zmv ?_ | refine zas ?_ | (refine is_load ?_; first | refine zlp ?_ | refine zlr ?_)) | (refine ar_pcall (own := false) fn97 rfl rfl (.cons (.closed rfl) (.cons (.closed rfl) .nil)) (isLine_p s hs l) (by simp) (dc rfl) ?_; intro _ hv; subst hv) | (refine ar_nil ?_) | (refine aw_seq ?_) | (refine aw_skip ?_) | (refine aw_block ?_) | (refine aw_exit ?_) | (refine aw_region ?_) | (refine zco ?_ ?_ <;> intro hg <;> first | exact absurd hg (by decide) | ((try replace hg := HG.out hg); (try dsimp only at hg); (try rw [withinB_iff] at hg); (try rw [withinB_no] at hg); (try (have _h : True := hg; clear _h hg)); first | (exfalso; omega) | skip))))
    (refine aw_ret ?_; (repeat (first | refine ret_then ?_ | refine ret_block ?_)); refine bq1 rfl ⟨?_, rfl⟩)
    rfl
  refine pcalls_of_aw Try.func73 rfl (Nat.le_of_ble_eq_true rfl) ?_
  ((repeat refine aw_seq ?_); (first | (refine aw_region ?_)); (repeat' (first | (refine ar_isq ?_; first | refine zmv ?_ | refine zas ?_ | refine zmf ?_) | (refine zbx ?_) | (refine ar_nil ?_))))
  (refine aw_mono_r (env' := [(0, s.enc), (1, encRows b), (2, .ref s.enc 0)]) (H' := []) ?_ ?_; (focus ((refine sub_to [] [0] rfl ?_ ?_ <;> (repeat' (first | exact trivial | refine ⟨⟨_, rfl, ?_⟩, ?_⟩ | refine ⟨bsub_snoc rfl rfl (fun _ => rfl) ?_, ?_⟩ | refine ⟨bsub_one rfl rfl ?_, ?_⟩ | refine ⟨bsub_all rfl rfl (fun _ _ => rfl) (fun _ => rfl), ?_⟩ | refine ⟨bsub_updL rfl rfl ?_ (fun _ _ _ => rfl) (fun _ => rfl), ?_⟩ | refine ⟨.inl ⟨_, _, rfl, rfl, ?_⟩, ?_⟩ | exact ⟨.inr ⟨rfl, rfl⟩, trivial⟩ | refine ⟨.inr ⟨rfl, rfl⟩, ?_⟩ | (intro _ _) | exact vz1 | exact vz2 | fail))); done)))
  (repeat' (first | (refine ar_isq ?_; first | refine zmv ?_ | refine zas ?_ | refine zmf ?_) | (refine ar_pcall (own := false) fn95 rfl rfl (.cons (.closed rfl) (.cons (.closed rfl) .nil)) (everyRows_p b fn96 rfl _ h1) (by simp) (dc rfl) ?_; intro _ hv; subst hv) | (refine zbx ?_) | (refine ar_nil ?_) | (refine aw_seq ?_) | (refine aw_skip ?_) | (refine aw_block ?_) | (refine aw_exit ?_) | (refine aw_region ?_) | (refine zco ?_ ?_ <;> intro hg <;> first | exact absurd hg (by decide) | ((try replace hg := HG.out hg); (try dsimp only at hg); (try rw [withinB_iff] at hg); (try rw [withinB_no] at hg); (try (have _h : True := hg; clear _h hg)); first | (exfalso; omega) | skip))))
  (refine aw_ret ?_; (repeat (first | refine ret_then ?_ | refine ret_block ?_)); refine bq1 rfl ⟨?_, rfl⟩)
  rfl
end Go.Proofs.Ythpbjihnikapoaa
namespace Go.Proofs.Ythpbjihnikapoaa
open Go.RowKit
structure Clash where
  upper : Int
  lower : Int
  col : Int
instance : Inhabited Clash := ⟨⟨0, 0, 0⟩⟩
def Clash.enc (x : Clash) : V := .agg [vi x.upper, vi x.lower, vi x.col]
abbrev encClashes (l : List Clash) : V := LV 3 Clash.enc l
def nearAt (s : Sheet) (a b : List Int) (j : Nat) : Bool := decide (el b j - el a j < s.weight + s.clear)
def clashF (s : Sheet) (a b : List Int) : Int := match (List.range s.cols.toNat).find? (nearAt s a b) with | some j => (j : Int) | none => -1
theorem clashF_at {s : Sheet} {a b : List Int} {k : Nat} (hk : (k : Int) < s.cols) (h0 : ∀ j, j < k → nearAt s a b j = false) (h : nearAt s a b k = true) : clashF s a b = k := by
  have : (List.range s.cols.toNat).find? (nearAt s a b) = some k := by
    rw [List.find?_range_eq_some]
    exact ⟨h, by simp; omega, fun j hj => by simp [h0 j hj]⟩
  unfold clashF
  rw [this]
theorem clashF_none {s : Sheet} {a b : List Int} (h0 : ∀ j : Nat, (j : Int) < s.cols → nearAt s a b j = false) : clashF s a b = -1 := by
  have : (List.range s.cols.toNat).find? (nearAt s a b) = none := by
    rw [List.find?_eq_none]
    intro j hj
    rw [List.mem_range] at hj
    simp [h0 j (by omega)]
  unfold clashF
  rw [this]
def clashAt (s : Sheet) (b : List (List Int)) (i : Nat) : List Clash := if clashF s (el b i) (el b (i + 1)) < 0 then [] else [⟨i, (i : Int) + 1, clashF s (el b i) (el b (i + 1))⟩]
def clashesTo (s : Sheet) (b : List (List Int)) (k : Nat) : List Clash := (List.range k).flatMap (clashAt s b)
theorem clashesTo_succ (s : Sheet) (b : List (List Int)) (k : Nat) : clashesTo s b (k + 1) = clashesTo s b k ++ clashAt s b k := by simp [clashesTo, List.range_succ]
theorem clashesTo_len (s : Sheet) (b : List (List Int)) : ∀ k, (clashesTo s b k).length ≤ k
  | 0 => by simp [clashesTo]
  | k + 1 => by
    rw [clashesTo_succ, List.length_append]
    have := clashesTo_len s b k
    have : (clashAt s b k).length ≤ 1 := by unfold clashAt; split <;> simp
    omega
def clashesF (s : Sheet) (b : List (List Int)) : List Clash := clashesTo s b (b.length - 1)
theorem clashesTo_yes {s : Sheet} {b : List (List Int)} {k x : Nat} (hx : (x : Int) < s.cols) (h0 : ∀ j, j < x → nearAt s (el b k) (el b (k + 1)) j = false) (h : nearAt s (el b k) (el b (k + 1)) x = true) : clashesTo s b (k + 1) = clashesTo s b k ++ [⟨k, (k : Int) + 1, x⟩] := by
  have e := clashF_at hx h0 h
  rw [clashesTo_succ, clashAt, if_neg (by omega), e]
theorem clashesTo_no {s : Sheet} {b : List (List Int)} {k : Nat} (h0 : ∀ j : Nat, (j : Int) < s.cols → nearAt s (el b k) (el b (k + 1)) j = false) : clashesTo s b (k + 1) = clashesTo s b k := by
  have e := clashF_none h0
  rw [clashesTo_succ, clashAt, if_pos (by omega), List.append_nil]
theorem isLine_len {s : Sheet} {l : List Int} (h : isLineB s l = true) : (l.length : Int) = s.cols := (isLineB_iff.1 h).1
theorem isLine_at {s : Sheet} {l : List Int} (h : isLineB s l = true) {j : Nat} (hj : j < l.length) : 0 ≤ el l j ∧ el l j ≤ s.rows - s.weight := (lineAt_iff.1 ((isLineB_iff.1 h).2 j hj)).1
set_option maxHeartbeats 1000000 in
theorem clashes_p (s : Sheet) (hs : s.ok = true) (b : List (List Int)) (hl : b.all (isLineB s) = true) (h12 : b.length ≤ 12) : PCalls Try.prog 74 [s.enc, encRows b] (· = encClashes (clashesF s b)) := by
  have hb := Sheet.bounds hs
  refine pcalls_of_aw Try.func74 rfl (Nat.le_of_ble_eq_true rfl) ?_
  (repeat' (first | (refine ar_isq ?_; first | refine zmv ?_ | refine zas ?_ | (refine is_load ?_; first | refine zlp ?_ | refine zlr ?_) | (refine is_binOp ?_; first | refine zlss ?_ | refine zadd ?_ | refine zsub ?_) | (refine is_fieldAddr ?_; first | refine zfp ?_ | refine zfr ?_) | (refine is_indexAddr ?_; first | refine zil ?_ | refine zis ?_ | refine zit ?_ | refine zia ?_ | refine zir ?_ | (refine zxl ?_; intro _ _ _) | (refine zxs ?_; intro _ _ _)) | (refine is_call ?_; first | refine zll ?_ | refine zls ?_ | refine zln ?_ | refine zle ?_) | (refine ar_buildS (ds := ?ds) (by exact ty rfl) (by exact rfl) (by exact sizes rfl) (by exact rfl) (by exact rfl) (by exact build rfl) (by exact dc rfl) ?hn ?h; (case hn => (dsimp only [cells_s, cells_emp, cells_agg, cells_list, cells_sl, cells_ptr, cells_ref, cells_fn, cells_vi, cells_vb, cells_vnil, constV, List.map_cons, List.map_nil, List.take_succ_cons, List.take_zero, List.drop_succ_cons, List.drop_zero, List.cons_append, List.nil_append, List.append_nil, LV_cells]; exact rfl)))) | (refine zbx ?_) | (refine zb1 ?_) | (refine zb0 ?_) | (refine zapoo ?_) | (refine zapol ?_) | (refine zapno ?_) | (refine zapnl ?_) | (refine zapeo ?_) | (refine zapel ?_) | (refine ar_nil ?_) | (refine aw_seq ?_) | (refine aw_skip ?_) | (refine aw_block ?_) | (refine aw_exit ?_) | (refine aw_region ?_) | (refine aw_drawn (id := 8) [(0, 0), (1, 0), (2, 0), (3, 0), (4, 0), (5, 0), (6, 0), (7, 0), (8, 0), (9, 0), (10, 0), (11, 0), (12, 0), (13, 0), (14, 0), (15, 0)] mixed (by kernel_rfl) ?_) | (refine zco ?_ ?_ <;> intro hg <;> first | exact absurd hg (by decide) | ((try replace hg := HG.out hg); (try dsimp only at hg); (try (have _h : True := hg; clear _h hg)); first | (exfalso; omega) | skip))))
  refine aw_for (b.length - 1) (fun _ => True) (fun k => [(1, encRows b), (2, .ptr 5 0 0 0), (5, .sl 3 1 0 (clashesTo s b k).length), (6, vi (k + 1))]) (fun k => [.arr 5 1 (fun _ => s.enc), LB 3 Clash.enc (clashesTo s b k)]) trivial ?_ ?_
  · (refine sub_to [some 0, none] [] rfl ?_ ?_ <;> (repeat' (first | exact trivial | refine ⟨⟨_, rfl, ?_⟩, ?_⟩ | refine ⟨bsub_snoc rfl rfl (fun _ => rfl) ?_, ?_⟩ | refine ⟨bsub_one rfl rfl ?_, ?_⟩ | refine ⟨bsub_all rfl rfl (fun _ _ => rfl) (fun _ => rfl), ?_⟩ | refine ⟨bsub_updL rfl rfl ?_ (fun _ _ _ => rfl) (fun _ => rfl), ?_⟩ | refine ⟨.inl ⟨_, _, rfl, rfl, ?_⟩, ?_⟩ | exact ⟨.inr ⟨rfl, rfl⟩, trivial⟩ | refine ⟨.inr ⟨rfl, rfl⟩, ?_⟩ | (intro _ _) | exact vz1 | exact vz2 | fail)))
  intro k hk _
  by_cases hlt : k + 1 < b.length
  · have hli := isLine_len (of_all_el hl hlt)
    have hlj := isLine_len (of_all_el hl (k := k) (by omega))
    have hle := clashesTo_len s b k
    (repeat' (first | (refine ar_isq ?_; first | refine zmv ?_ | refine zas ?_ | (refine is_load ?_; first | refine zlp ?_ | refine zlr ?_) | (refine is_binOp ?_; first | refine zlss ?_ | refine zadd ?_ | refine zsub ?_) | (refine is_fieldAddr ?_; first | refine zfp ?_ | refine zfr ?_) | (refine is_indexAddr ?_; first | refine zil ?_ | refine zis ?_ | refine zit ?_ | refine zia ?_ | refine zir ?_ | refine zil (j := k + 1) ?_ | refine zis (j := k + 1) ?_ | refine zit (j := k + 1) ?_ | refine zil (j := k) ?_ | refine zis (j := k) ?_ | refine zit (j := k) ?_ | (refine zxl ?_; intro _ _ _) | (refine zxs ?_; intro _ _ _)) | (refine is_call ?_; first | refine zll ?_ | refine zls ?_ | refine zln ?_ | refine zle ?_) | (refine ar_buildS (ds := ?ds) (by exact ty rfl) (by exact rfl) (by exact sizes rfl) (by exact rfl) (by exact rfl) (by exact build rfl) (by exact dc rfl) ?hn ?h; (case hn => (dsimp only [cells_s, cells_emp, cells_agg, cells_list, cells_sl, cells_ptr, cells_ref, cells_fn, cells_vi, cells_vb, cells_vnil, constV, List.map_cons, List.map_nil, List.take_succ_cons, List.take_zero, List.drop_succ_cons, List.drop_zero, List.cons_append, List.nil_append, List.append_nil, LV_cells]; exact rfl)))) | (refine zbx ?_) | (refine zb1 ?_) | (refine zb0 ?_) | (refine zapoo ?_) | (refine zapol ?_) | (refine zapno ?_) | (refine zapnl ?_) | (refine zapeo ?_) | (refine zapel ?_) | (refine ar_nil ?_) | (refine aw_seq ?_) | (refine aw_skip ?_) | (refine aw_block ?_) | (refine aw_exit ?_) | (refine aw_region ?_) | (refine aw_drawn (id := 8) [(0, 0), (1, 0), (2, 0), (3, 0), (4, 0), (5, 0), (6, 0), (7, 0), (8, 0), (9, 0), (10, 0), (11, 0), (12, 0), (13, 0), (14, 0), (15, 0)] mixed (by kernel_rfl) ?_) | (refine zco ?_ ?_ <;> intro hg <;> first | exact absurd hg (by decide) | ((try replace hg := HG.out hg); (try dsimp only at hg); (try (have _h : True := hg; clear _h hg)); first | (exfalso; omega) | skip))))
    all_goals (try (exfalso; omega))
    refine aw_for (el b (k + 1)).length (fun x => ∀ j, j < x → nearAt s (el b k) (el b (k + 1)) j = false) (fun x => [(1, encRows b), (2, .ptr 5 0 0 0), (5, .sl 3 1 0 (clashesTo s b k).length), (6, vi (k + 1)), (18, encInts (el b (k + 1))), (19, vi (el b (k + 1)).length), (20, vi x)]) (fun _ => [.arr 5 1 (fun _ => s.enc), LB 3 Clash.enc (clashesTo s b k)]) (fun j hj => by omega) ?_ ?_
    · (refine sub_to [some 0, some 1] [] rfl ?_ ?_ <;> (repeat' (first | exact trivial | refine ⟨⟨_, rfl, ?_⟩, ?_⟩ | refine ⟨bsub_snoc rfl rfl (fun _ => rfl) ?_, ?_⟩ | refine ⟨bsub_one rfl rfl ?_, ?_⟩ | refine ⟨bsub_all rfl rfl (fun _ _ => rfl) (fun _ => rfl), ?_⟩ | refine ⟨bsub_updL rfl rfl ?_ (fun _ _ _ => rfl) (fun _ => rfl), ?_⟩ | refine ⟨.inl ⟨_, _, rfl, rfl, ?_⟩, ?_⟩ | exact ⟨.inr ⟨rfl, rfl⟩, trivial⟩ | refine ⟨.inr ⟨rfl, rfl⟩, ?_⟩ | (intro _ _) | exact vz1 | exact vz2 | fail)))
    intro x hx hN
    by_cases hltx : x < (el b (k + 1)).length
    · have h1 := isLine_at (of_all_el hl hlt) (j := x) (by omega)
      have h2 := isLine_at (of_all_el hl (k := k) (by omega)) (j := x) (by omega)
      (repeat' (first | (refine ar_isq ?_; first | refine zmv ?_ | refine zas ?_ | (refine is_load ?_; first | refine zlp ?_ | refine zlr ?_) | (refine is_binOp ?_; first | refine zlss ?_ | refine zadd ?_ | refine zsub ?_) | (refine is_fieldAddr ?_; first | refine zfp ?_ | refine zfr ?_) | (refine is_indexAddr ?_; first | refine zil ?_ | refine zis ?_ | refine zit ?_ | refine zia ?_ | refine zir ?_ | refine zil (j := k) ?_ | refine zis (j := k) ?_ | refine zit (j := k) ?_ | refine zil (j := x) ?_ | refine zis (j := x) ?_ | refine zit (j := x) ?_ | (refine zxl ?_; intro _ _ _) | (refine zxs ?_; intro _ _ _)) | (refine is_call ?_; first | refine zll ?_ | refine zls ?_ | refine zln ?_ | refine zle ?_) | (refine ar_buildS (ds := ?ds) (by exact ty rfl) (by exact rfl) (by exact sizes rfl) (by exact rfl) (by exact rfl) (by exact build rfl) (by exact dc rfl) ?hn ?h; (case hn => (dsimp only [cells_s, cells_emp, cells_agg, cells_list, cells_sl, cells_ptr, cells_ref, cells_fn, cells_vi, cells_vb, cells_vnil, constV, List.map_cons, List.map_nil, List.take_succ_cons, List.take_zero, List.drop_succ_cons, List.drop_zero, List.cons_append, List.nil_append, List.append_nil, LV_cells]; exact rfl)))) | (refine zbx ?_) | (refine zb1 ?_) | (refine zb0 ?_) | (refine zapoo ?_) | (refine zapol ?_) | (refine zapno ?_) | (refine zapnl ?_) | (refine zapeo ?_) | (refine zapel ?_) | (refine ar_nil ?_) | (refine aw_seq ?_) | (refine aw_skip ?_) | (refine aw_block ?_) | (refine aw_exit ?_) | (refine aw_region ?_) | (refine aw_drawn (id := 8) [(0, 0), (1, 0), (2, 0), (3, 0), (4, 0), (5, 0), (6, 0), (7, 0), (8, 0), (9, 0), (10, 0), (11, 0), (12, 0), (13, 0), (14, 0), (15, 0)] mixed (by kernel_rfl) ?_) | (refine zco ?_ ?_ <;> intro hg <;> first | exact absurd hg (by decide) | ((try replace hg := HG.out hg); (try dsimp only at hg); (try (have _h : True := hg; clear _h hg)); first | (exfalso; omega) | skip))))
      all_goals first
        | (exfalso; omega)
        | (((first | refine loop_next (by omega) ?_ ?_ | refine (show _ ∧ _ ∧ SubOf _ _ _ _ _ _ from And.intro (by omega) (And.intro ?_ ?_))); (focus ((exact all_step hN (by simp [nearAt]; omega)); done)); (focus ((refine sub_to [some 0, some 1] [] rfl ?_ ?_ <;> (repeat' (first | exact trivial | refine ⟨⟨_, rfl, ?_⟩, ?_⟩ | refine ⟨bsub_snoc rfl rfl (fun _ => rfl) ?_, ?_⟩ | refine ⟨bsub_one rfl rfl ?_, ?_⟩ | refine ⟨bsub_all rfl rfl (fun _ _ => rfl) (fun _ => rfl), ?_⟩ | refine ⟨bsub_updL rfl rfl ?_ (fun _ _ _ => rfl) (fun _ => rfl), ?_⟩ | refine ⟨.inl ⟨_, _, rfl, rfl, ?_⟩, ?_⟩ | exact ⟨.inr ⟨rfl, rfl⟩, trivial⟩ | refine ⟨.inr ⟨rfl, rfl⟩, ?_⟩ | (intro _ _) | exact vz1 | exact vz2 | fail))); done))))
        | (rw [clashesTo_yes (x := x) (by omega) hN (by simp [nearAt]; omega)]; ((first | refine loop_next (by omega) ?_ ?_ | refine (show _ ∧ _ ∧ SubOf _ _ _ _ _ _ from And.intro (by omega) (And.intro ?_ ?_))); (focus ((trivial); done)); (focus ((refine sub_to [some 0, some 3] [] rfl ?_ ?_ <;> (repeat' (first | exact trivial | refine ⟨⟨_, rfl, ?_⟩, ?_⟩ | refine ⟨bsub_snoc rfl rfl (fun _ => rfl) ?_, ?_⟩ | refine ⟨bsub_one rfl rfl ?_, ?_⟩ | refine ⟨bsub_all rfl rfl (fun _ _ => rfl) (fun _ => rfl), ?_⟩ | refine ⟨bsub_updL rfl rfl ?_ (fun _ _ _ => rfl) (fun _ => rfl), ?_⟩ | refine ⟨.inl ⟨_, _, rfl, rfl, ?_⟩, ?_⟩ | exact ⟨.inr ⟨rfl, rfl⟩, trivial⟩ | refine ⟨.inr ⟨rfl, rfl⟩, ?_⟩ | (intro _ _) | exact vz1 | exact vz2 | fail))); done))))
    · (repeat' (first | (refine ar_isq ?_; first | refine zmv ?_ | refine zas ?_ | (refine is_load ?_; first | refine zlp ?_ | refine zlr ?_) | (refine is_binOp ?_; first | refine zlss ?_ | refine zadd ?_ | refine zsub ?_) | (refine is_fieldAddr ?_; first | refine zfp ?_ | refine zfr ?_) | (refine is_indexAddr ?_; first | refine zil ?_ | refine zis ?_ | refine zit ?_ | refine zia ?_ | refine zir ?_ | (refine zxl ?_; intro _ _ _) | (refine zxs ?_; intro _ _ _)) | (refine is_call ?_; first | refine zll ?_ | refine zls ?_ | refine zln ?_ | refine zle ?_) | (refine ar_buildS (ds := ?ds) (by exact ty rfl) (by exact rfl) (by exact sizes rfl) (by exact rfl) (by exact rfl) (by exact build rfl) (by exact dc rfl) ?hn ?h; (case hn => (dsimp only [cells_s, cells_emp, cells_agg, cells_list, cells_sl, cells_ptr, cells_ref, cells_fn, cells_vi, cells_vb, cells_vnil, constV, List.map_cons, List.map_nil, List.take_succ_cons, List.take_zero, List.drop_succ_cons, List.drop_zero, List.cons_append, List.nil_append, List.append_nil, LV_cells]; exact rfl)))) | (refine zbx ?_) | (refine zb1 ?_) | (refine zb0 ?_) | (refine zapoo ?_) | (refine zapol ?_) | (refine zapno ?_) | (refine zapnl ?_) | (refine zapeo ?_) | (refine zapel ?_) | (refine ar_nil ?_) | (refine aw_seq ?_) | (refine aw_skip ?_) | (refine aw_block ?_) | (refine aw_exit ?_) | (refine aw_region ?_) | (refine aw_drawn (id := 8) [(0, 0), (1, 0), (2, 0), (3, 0), (4, 0), (5, 0), (6, 0), (7, 0), (8, 0), (9, 0), (10, 0), (11, 0), (12, 0), (13, 0), (14, 0), (15, 0)] mixed (by kernel_rfl) ?_) | (refine zco ?_ ?_ <;> intro hg <;> first | exact absurd hg (by decide) | ((try replace hg := HG.out hg); (try dsimp only at hg); (try (have _h : True := hg; clear _h hg)); first | (exfalso; omega) | skip))))
      all_goals first
        | (exfalso; omega)
        | (rw [clashesTo_no (k := k) fun j hj => hN j (by omega)]; ((first | refine loop_next (by omega) ?_ ?_ | refine (show _ ∧ _ ∧ SubOf _ _ _ _ _ _ from And.intro (by omega) (And.intro ?_ ?_))); (focus ((trivial); done)); (focus ((refine sub_to [some 0, some 1] [] rfl ?_ ?_ <;> (repeat' (first | exact trivial | refine ⟨⟨_, rfl, ?_⟩, ?_⟩ | refine ⟨bsub_snoc rfl rfl (fun _ => rfl) ?_, ?_⟩ | refine ⟨bsub_one rfl rfl ?_, ?_⟩ | refine ⟨bsub_all rfl rfl (fun _ _ => rfl) (fun _ => rfl), ?_⟩ | refine ⟨bsub_updL rfl rfl ?_ (fun _ _ _ => rfl) (fun _ => rfl), ?_⟩ | refine ⟨.inl ⟨_, _, rfl, rfl, ?_⟩, ?_⟩ | exact ⟨.inr ⟨rfl, rfl⟩, trivial⟩ | refine ⟨.inr ⟨rfl, rfl⟩, ?_⟩ | (intro _ _) | exact vz1 | exact vz2 | fail))); done))))
  · (repeat' (first | (refine ar_isq ?_; first | refine zmv ?_ | refine zas ?_ | (refine is_load ?_; first | refine zlp ?_ | refine zlr ?_) | (refine is_binOp ?_; first | refine zlss ?_ | refine zadd ?_ | refine zsub ?_) | (refine is_fieldAddr ?_; first | refine zfp ?_ | refine zfr ?_) | (refine is_indexAddr ?_; first | refine zil ?_ | refine zis ?_ | refine zit ?_ | refine zia ?_ | refine zir ?_ | (refine zxl ?_; intro _ _ _) | (refine zxs ?_; intro _ _ _)) | (refine is_call ?_; first | refine zll ?_ | refine zls ?_ | refine zln ?_ | refine zle ?_) | (refine ar_buildS (ds := ?ds) (by exact ty rfl) (by exact rfl) (by exact sizes rfl) (by exact rfl) (by exact rfl) (by exact build rfl) (by exact dc rfl) ?hn ?h; (case hn => (dsimp only [cells_s, cells_emp, cells_agg, cells_list, cells_sl, cells_ptr, cells_ref, cells_fn, cells_vi, cells_vb, cells_vnil, constV, List.map_cons, List.map_nil, List.take_succ_cons, List.take_zero, List.drop_succ_cons, List.drop_zero, List.cons_append, List.nil_append, List.append_nil, LV_cells]; exact rfl)))) | (refine zbx ?_) | (refine zb1 ?_) | (refine zb0 ?_) | (refine zapoo ?_) | (refine zapol ?_) | (refine zapno ?_) | (refine zapnl ?_) | (refine zapeo ?_) | (refine zapel ?_) | (refine ar_nil ?_) | (refine aw_seq ?_) | (refine aw_skip ?_) | (refine aw_block ?_) | (refine aw_exit ?_) | (refine aw_region ?_) | (refine aw_drawn (id := 8) [(0, 0), (1, 0), (2, 0), (3, 0), (4, 0), (5, 0), (6, 0), (7, 0), (8, 0), (9, 0), (10, 0), (11, 0), (12, 0), (13, 0), (14, 0), (15, 0)] mixed (by kernel_rfl) ?_) | (refine zco ?_ ?_ <;> intro hg <;> first | exact absurd hg (by decide) | ((try replace hg := HG.out hg); (try dsimp only at hg); (try (have _h : True := hg; clear _h hg)); first | (exfalso; omega) | skip))))
    all_goals first
      | (exfalso; omega)
      | ((refine aw_mono_r (env' := [(4, encClashes (clashesTo s b k))]) (H' := []) ?_ ?_; (focus ((refine sub_to [] [1] rfl ?_ ?_ <;> (repeat' (first | exact trivial | refine ⟨⟨_, rfl, ?_⟩, ?_⟩ | refine ⟨bsub_snoc rfl rfl (fun _ => rfl) ?_, ?_⟩ | refine ⟨bsub_one rfl rfl ?_, ?_⟩ | refine ⟨bsub_all rfl rfl (fun _ _ => rfl) (fun _ => rfl), ?_⟩ | refine ⟨bsub_updL rfl rfl ?_ (fun _ _ _ => rfl) (fun _ => rfl), ?_⟩ | refine ⟨.inl ⟨_, _, rfl, rfl, ?_⟩, ?_⟩ | exact ⟨.inr ⟨rfl, rfl⟩, trivial⟩ | refine ⟨.inr ⟨rfl, rfl⟩, ?_⟩ | (intro _ _) | exact vz1 | exact vz2 | fail))); done))); (refine aw_ret ?_; (repeat (first | refine ret_then ?_ | refine ret_block ?_)); refine bq1 rfl ⟨?_, rfl⟩); rw [show k = b.length - 1 by omega]; rfl)
end Go.Proofs.Ythpbjihnikapoaa
namespace Go.Proofs.Ythpbjihnikapoaa
open Go.RowKit
def linesB (s : Sheet) (b : List (List Int)) : Bool := b.all (isLineB s)
def bandB (s : Sheet) (b : List (List Int)) : Bool := decide (b.length ≤ 12) && linesB s b && (List.range (b.length - 1)).all fun i => decide (clashF s (el b i) (el b (i + 1)) < 0)
theorem err_ok {s : Sheet} (h : s.ok = true) : s.err = 0 := by simp [Sheet.err, h]
theorem err_bad {s : Sheet} (h : s.ok = false) : s.err = 70 := by simp [Sheet.err, h]
theorem clashes_nil {s : Sheet} {b : List (List Int)} : (clashesF s b).length = 0 ↔ ((List.range (b.length - 1)).all fun i => decide (clashF s (el b i) (el b (i + 1)) < 0)) = true := by
  rw [List.length_eq_zero_iff, clashesF, clashesTo, List.flatMap_eq_nil_iff, List.all_eq_true]
  refine forall_congr' fun i => forall_congr' fun hi => ?_
  unfold clashAt
  split
  · rename_i h; simp [h]
  · rename_i h; simp [h]
def checkErr (s : Sheet) (b : List (List Int)) : Int := if s.ok then (if bandB s b then 0 else 71) else 70
theorem checkErr_eq {s : Sheet} {b : List (List Int)} (hs : s.ok = true) : checkErr s b = if b.length ≤ 12 ∧ linesB s b = true ∧ (clashesF s b).length = 0 then 0 else 71 := by
  unfold checkErr bandB
  rw [if_pos hs]
  simp only [Bool.and_eq_true, decide_eq_true_eq, and_assoc, clashes_nil]
theorem band_of_check {s : Sheet} {b : List (List Int)} (h : checkErr s b = 0) : s.ok = true ∧ b.length ≤ 12 ∧ linesB s b = true := by
  unfold checkErr at h
  cases hs : s.ok
  · rw [hs] at h; simp at h
  · have h' : checkErr s b = 0 := h
    rw [checkErr_eq hs] at h'
    split at h'
    · rename_i h2; exact ⟨rfl, h2.1, h2.2.1⟩
    · simp at h'
set_option maxHeartbeats 1000000 in
theorem check_p (s : Sheet) (b : List (List Int)) : PCalls Try.prog 53 [s.enc, encRows b] (· = vi (checkErr s b)) := by
  cases hs : s.ok
  · have he := err_bad hs
    refine pcalls_of_aw Try.func53 rfl (Nat.le_of_ble_eq_true rfl) ?_
    (repeat' (first | (refine ar_isq ?_; first | refine zmv ?_ | refine zas ?_ | (refine is_load ?_; first | refine zlp ?_ | refine zlr ?_) | (refine is_binOp ?_; first | refine zgtr ?_ | refine zneq ?_) | (refine is_call ?_; first | refine zll ?_ | refine zls ?_ | refine zln ?_ | refine zle ?_) | (refine is_pick ?_; first | refine zpt ?_ | refine zpf ?_) | refine znt ?_) | (refine ar_pcall (own := false) fn72 rfl rfl (.cons (.closed rfl) .nil) (checkSheet_p _) (by simp) (dc rfl) ?_; intro _ hv; subst hv) | (refine zbx ?_) | (refine zg ?_ ?_ <;> intro hg <;> first | exact absurd hg (by decide) | ((try replace hg := HG.out hg); (try dsimp only at hg); (try (have _h : True := hg; clear _h hg)); first | (exfalso; omega) | skip)) | (refine zgu ?_) | (refine ar_nil ?_) | (refine aw_seq ?_) | (refine aw_skip ?_) | (refine aw_block ?_) | (refine aw_exit ?_) | (refine aw_region ?_) | (refine zco ?_ ?_ <;> intro hg <;> first | exact absurd hg (by decide) | ((try replace hg := HG.out hg); (try dsimp only at hg); (try (have _h : True := hg; clear _h hg)); first | (exfalso; omega) | skip))))
    all_goals first
      | (exfalso; omega)
      | ((refine aw_ret ?_; (repeat (first | refine ret_then ?_ | refine ret_block ?_)); refine bq1 rfl ⟨?_, rfl⟩); simp [vi, checkErr, hs, he])
  · have he := err_ok hs
    refine pcalls_of_aw Try.func53 rfl (Nat.le_of_ble_eq_true rfl) ?_
    (repeat' (first | (refine ar_isq ?_; first | refine zmv ?_ | refine zas ?_ | (refine is_load ?_; first | refine zlp ?_ | refine zlr ?_) | (refine is_binOp ?_; first | refine zgtr ?_ | refine zneq ?_) | (refine is_call ?_; first | refine zll ?_ | refine zls ?_ | refine zln ?_ | refine zle ?_) | (refine is_pick ?_; first | refine zpt ?_ | refine zpf ?_) | refine znt ?_) | (refine ar_pcall (own := false) fn72 rfl rfl (.cons (.closed rfl) .nil) (checkSheet_p _) (by simp) (dc rfl) ?_; intro _ hv; subst hv) | (refine ar_pcall (own := false) fn73 rfl rfl (.cons (.closed rfl) (.cons (.closed rfl) .nil)) (lines_p s hs b) (by simp) (dc rfl) ?_; intro _ hv; subst hv) | (refine ar_pcall (own := false) fn74 rfl rfl (.cons (.closed rfl) (.cons (.closed rfl) .nil)) (clashes_p s hs b (by assumption) (by omega)) (by simp) (dc rfl) ?_; intro _ hv; subst hv) | (refine zbx ?_) | (refine zg ?_ ?_ <;> intro hg <;> first | exact absurd hg (by decide) | ((try replace hg := HG.out hg); (try dsimp only at hg); (try (have _h : True := hg; clear _h hg)); first | (exfalso; omega) | skip)) | (refine zgu ?_) | (refine ar_nil ?_) | (refine aw_seq ?_) | (refine aw_skip ?_) | (refine aw_block ?_) | (refine aw_exit ?_) | (refine aw_region ?_) | (refine zco ?_ ?_ <;> intro hg <;> first | exact absurd hg (by decide) | ((try replace hg := HG.out hg); (try dsimp only at hg); (try (have _h : True := hg; clear _h hg)); first | (exfalso; omega) | skip))))
    all_goals first
      | (exfalso; omega)
      | ((refine aw_ret ?_; (repeat (first | refine ret_then ?_ | refine ret_block ?_)); refine bq1 rfl ⟨?_, rfl⟩); rw [checkErr_eq hs]; first
          | (rw [if_pos ⟨by omega, (show b.all (isLineB s) = true by assumption), by omega⟩]; rfl)
          | (rw [if_neg (fun h => by obtain ⟨h1, h2, h3⟩ := h; first | omega | (have h4 : b.all (isLineB s) = true := h2; simp_all))]; rfl))
end Go.Proofs.Ythpbjihnikapoaa
-- old go
namespace Go.Proofs.Ythpbjihnikapoaa
open Go.RowKit
def Screen.ok (c : Screen) : Bool := withinB c.period 2 16 && withinB c.phase 0 (c.period - 1)
theorem Screen.bounds {c : Screen} (h : c.ok = true) : 2 ≤ c.period ∧ c.period ≤ 16 ∧ 0 ≤ c.phase ∧ c.phase ≤ c.period - 1 := by
  simp only [Screen.ok, Bool.and_eq_true, withinB_iff] at h
  omega
end Go.Proofs.Ythpbjihnikapoaa
namespace Go.Proofs.Ythpbjihnikapoaa
open Go.RowKit
def vu (n : Int) : V := .s (.int .u64 n)
set_option maxHeartbeats 1000000 in
theorem mul64_p (x y : Int) (hx : 0 ≤ x ∧ x ≤ 4294967295) (hy : 0 ≤ y ∧ y ≤ 4294967295) (hxy : 0 ≤ x * y ∧ x * y ≤ 4294967295) : PCalls Try.prog 120 [vu x, vu y] (· = .tup [vu 0, vu (x * y)]) := by
  refine pcalls_of_aw Try.func120 rfl (Nat.le_of_ble_eq_true rfl) ?_
  (repeat' (first | (refine ar_isq ?_; first | refine zmv ?_ | refine zas ?_ | (refine is_binOp ?_; first | refine zaddu64 ?_ | refine zmulu64 ?_ | refine ar_q (qs_and rfl rfl (andMask (by omega))) (dc rfl) ?_ | refine ar_q (qs_shr rfl rfl (by omega) (shr0 (by omega))) (dc rfl) ?_)) | (refine ar_nil ?_) | (refine aw_seq ?_) | (refine aw_skip ?_) | (refine aw_block ?_) | (refine aw_exit ?_) | (refine aw_region ?_) | (refine zco ?_ ?_ <;> intro hg <;> first | exact absurd hg (by decide) | ((try replace hg := HG.out hg); (try dsimp only at hg); (try (have _h : True := hg; clear _h hg)); first | (exfalso; omega) | skip))))
  (refine aw_ret ?_; (repeat (first | refine ret_then ?_ | refine ret_block ?_)); refine bq2 rfl rfl ⟨?_, rfl⟩)
  simp [vu]
theorem mul_p (x y : Int) (hx : 0 ≤ x ∧ x ≤ 4294967295) (hy : 0 ≤ y ∧ y ≤ 4294967295) (hxy : 0 ≤ x * y ∧ x * y ≤ 4294967295) : PCalls Try.prog 111 [vu x, vu y] (· = .tup [vu 0, vu (x * y)]) := by
  refine pcalls_of_aw Try.func111 rfl (Nat.le_of_ble_eq_true rfl) ?_
  (repeat' (first | (refine ar_isq ?_; first | refine zmv ?_ | refine zas ?_ | refine zex ?_ | refine zcvu64 ?_ | refine zcvu32 ?_) | (refine ar_pcall (own := false) fn120 rfl rfl (.cons (.closed rfl) (.cons (.closed rfl) .nil)) (mul64_p x y hx hy hxy) (by simp) (dc rfl) ?_; intro _ hv; subst hv) | (refine ar_nil ?_) | (refine aw_seq ?_) | (refine aw_skip ?_) | (refine aw_block ?_) | (refine aw_exit ?_) | (refine aw_region ?_) | (refine zco ?_ ?_ <;> intro hg <;> first | exact absurd hg (by decide) | ((try replace hg := HG.out hg); (try dsimp only at hg); (try (have _h : True := hg; clear _h hg)); first | (exfalso; omega) | skip))))
  all_goals ((refine aw_ret ?_; (repeat (first | refine ret_then ?_ | refine ret_block ?_)); refine bq2 rfl rfl ⟨?_, rfl⟩); simp [vu])
end Go.Proofs.Ythpbjihnikapoaa
namespace Go.Proofs.Ythpbjihnikapoaa
open Go.RowKit
def fillN (L T : Nat) : Nat → Nat
  | 0 => min L T
  | k + 1 => fillN L T k + min (fillN L T k) (T - fillN L T k)
theorem fillN_le (L T : Nat) : ∀ k, fillN L T k ≤ T
  | 0 => by simp [fillN]; omega
  | k + 1 => by have := fillN_le L T k; simp only [fillN]; omega
theorem fillN_mod (l : List Bool) (T : Nat) (h : 0 < l.length) : ∀ k, fillN l.length T k < T → l.length ∣ fillN l.length T k ∧ k < fillN l.length T k
  | 0, hk => by simp only [fillN] at hk ⊢; rw [Nat.min_eq_left (by omega)]; exact ⟨Nat.dvd_refl _, h⟩
  | k + 1, hk => by
    have h1 := fillN_le l.length T k
    simp only [fillN] at hk ⊢
    have h2 : fillN l.length T k < T := by omega
    obtain ⟨h3, h4⟩ := fillN_mod l T h k h2
    rw [Nat.min_eq_left (by omega)]
    exact ⟨Nat.dvd_add h3 h3, by omega⟩
end Go.Proofs.Ythpbjihnikapoaa
namespace Go.Proofs.Ythpbjihnikapoaa
open Go.RowKit
theorem join_ins {H : Heap} {b c : Nat} {l : List Int} {v : Int} (hc : H[c]? = some (LB 1 vi [v])) (_hne : b ≠ c) : joinH [b, c] [] H [.dead, LB 1 vi [v], LB 1 vi (v :: l)] = H.set b .dead ++ [LB 1 vi (v :: l)] := by
  unfold joinH
  refine congr (congrArg HAppend.hAppend ?_) rfl
  refine List.ext_getElem? fun i => ?_
  rw [joinAt_get, Nat.zero_add, List.getElem?_set]
  by_cases e : b = i
  · subst e
    rw [if_pos rfl]
    by_cases hlt : b < H.length
    · rw [if_pos hlt, List.getElem?_eq_getElem hlt]
      simp [pickB, List.idxOf?_cons, Blk.ren]
    · rw [if_neg hlt, List.getElem?_eq_none (by omega)]
      rfl
  · rw [if_neg e]
    by_cases e2 : c = i
    · subst e2
      rw [hc]
      simp only [Option.map_some, Option.some.injEq]
      simp [pickB, List.idxOf?_cons, e]
      rfl
    · cases h : H[i]? with
      | none => rfl
      | some x => simp [pickB, List.idxOf?_cons, e, e2]
theorem ar_insert {r : Option Nat} {m nt i d : Nat} {Q : Post} {env : Env} {H : Heap} {ops : Array Oper} {L : List Stp} {ty : TypeId} {pos : String} {after : Array Edge} {ats : Array TypeId} {x z : Operand} {b c : Nat} (l : List Int) (v : Int)
    (h : AR Try.prog r m nt ops Q L ((d, .sl 1 H.length 0 (l.length + 1)) :: env) (H.set b .dead ++ [LB 1 vi (v :: l)])) (hx : eo env x = some (.sl 1 b 0 l.length)) (hz : eo env z = some (.sl 1 c 0 1)) (hb : H[b]? = some (LB 1 vi l)) (hc : H[c]? = some (LB 1 vi [v])) (hne : b ≠ c) (hl : l.length ≤ 100) (hd : d < nt) :
    AR Try.prog r m nt ops Q (.l i ⟨some d, .call ⟨.value (.func 60), #[x, .const (.int .i64 0), z], ats⟩, ty, pos, after, none⟩ false :: L) env H := by
  have hh : HSub H ([b, c].map some) (· ∈ ([] : List Nat)) 0 [LB 1 vi l, LB 1 vi [v]] :=
    ⟨.inl ⟨b, _, rfl, hb, fun _ _ => .closed rfl⟩, .inl ⟨c, _, rfl, hc, fun _ _ => .closed rfl⟩, trivial⟩
  refine ar_gcall (H0 := [LB 1 vi l, LB 1 vi [v]]) (vs := [.sl 1 b 0 l.length, vi 0, .sl 1 c 0 1]) (first := []) (cap := []) [b, c] [] (args := [x, .const (.int .i64 0), z]) fn60 rfl (by rw [List.mapM_cons, List.mapM_cons, List.mapM_cons, List.mapM_nil, hx, hz]; rfl) (xs := [.sl 1 0 0 l.length, vi 0, .sl 1 1 0 1]) ⟨.sl rfl, .closed rfl, .sl rfl, trivial⟩ rfl (by simpa using hne) (fun _ h => by cases h) hh (by simp [LB]) (insert_p l v hl) hd ?_ (fun _ _ h => h.elim)
  rintro _ _ ⟨rfl, rfl⟩
  rw [join_ins hc hne]
  exact h
def srcN (l : List Itm) (i : Int) : Nat → Int
  | 0 => i
  | k + 1 => (el l (srcN l i k).toNat).src
def lineTo (l : List Itm) (i : Int) : Nat → List Int
  | 0 => []
  | k + 1 => srcN l i k :: lineTo l i k
theorem lineTo_len (l : List Itm) (i : Int) : ∀ k, (lineTo l i k).length = k
  | 0 => rfl
  | k + 1 => by simp [lineTo, lineTo_len l i k]
def lineN (l : List Itm) (i : Int) : Nat := (el l i.toNat).kind.toNat
structure Chain (l : List Itm) (i : Int) : Prop where
  few : 1 ≤ lineN l i ∧ lineN l i ≤ 3
  at_ : ∀ k, k < lineN l i → (0 ≤ srcN l i k ∧ srcN l i k < (l.length : Int)) ∧ (el l (srcN l i k).toNat).kind = (lineN l i : Int) - k
  stop : srcN l i (lineN l i) = -1
theorem chain_ok {l : List Itm} (h : ∀ i, i < l.length → Made l i) {i : Int} (hi : 0 ≤ i ∧ i < (l.length : Int)) : Chain l i := by
  have h0 := h i.toNat (by omega)
  have hk : (el l i.toNat).kind = (lineN l i : Int) := by
    unfold lineN
    unfold Made at h0
    omega
  have hb : 1 ≤ lineN l i ∧ lineN l i ≤ 3 := by unfold Made at h0; omega
  have all : ∀ k, k < lineN l i → (0 ≤ srcN l i k ∧ srcN l i k < (l.length : Int)) ∧ (el l (srcN l i k).toNat).kind = (lineN l i : Int) - k := fun k => by
    induction k with
    | zero => intro _; exact ⟨hi, by rw [show srcN l i 0 = i from rfl, hk]; omega⟩
    | succ k ih =>
      intro hk1
      obtain ⟨h1, h2⟩ := ih (by omega)
      have h3 := h (srcN l i k).toNat (by omega)
      unfold Made at h3
      simp only [srcN]
      rcases h3 with h3 | ⟨_, h4, h5⟩
      · omega
      · exact ⟨by omega, by rw [h5, h2]; omega⟩
  refine ⟨hb, all, ?_⟩
  obtain ⟨h1, h2⟩ := all (lineN l i - 1) (by omega)
  have h3 := h (srcN l i (lineN l i - 1)).toNat (by omega)
  unfold Made at h3
  obtain ⟨q, hq⟩ : ∃ q, lineN l i = q + 1 := ⟨lineN l i - 1, by omega⟩
  rw [hq] at h1 h2 h3 ⊢
  simp only [Nat.add_sub_cancel] at h1 h2 h3
  simp only [srcN]
  omega
def lineE (s : Sto) (i : Int) : Int := if Valid s then (if 0 ≤ i ∧ i < (s.items.length : Int) then 0 else 6) else 80
def lineF (s : Sto) (i : Int) : List Int := if lineE s i = 0 then lineTo s.items i (lineN s.items i) else []
theorem lineE_bad {s : Sto} {i : Int} (h : ¬ Valid s) : lineE s i = 80 := by simp [lineE, h]
theorem lineE_none {s : Sto} {i : Int} (h : Valid s) (h2 : ¬ (0 ≤ i ∧ i < (s.items.length : Int))) : lineE s i = 6 := by simp [lineE, h, h2]
theorem lineE_ok {s : Sto} {i : Int} (h : Valid s) (h2 : 0 ≤ i ∧ i < (s.items.length : Int)) : lineE s i = 0 := by simp [lineE, h, h2]
theorem lineF_ok {s : Sto} {i : Int} (h : lineE s i = 0) : lineF s i = lineTo s.items i (lineN s.items i) := by simp [lineF, h]
theorem lineF_no {s : Sto} {i : Int} (h : lineE s i ≠ 0) : lineF s i = [] := by simp [lineF, h]
/-- The first fields of a store, avs nobody writes them. -/
def stoC (s : Sto) : V := .agg [vi s.life, encItems s.items, encPrints s.prints]
set_option maxHeartbeats 1000000 in
theorem pline_p (s : Sto) (i : Int) : PCalls Try.prog 59 [.ref (stoC s) 0, vi i] (· = .fn (.func 82) [] [.ref (vi i) 0, .ref (.ref (stoC s) 0) 0]) := by
  refine pcalls_of_aw Try.func59 rfl (Nat.le_of_ble_eq_true rfl) ?_
  (repeat' (first | (refine ar_isq ?_; first | refine zas ?_ | refine zmf ?_) | (refine zbx ?_) | (refine ar_nil ?_) | (refine aw_seq ?_) | (refine aw_skip ?_) | (refine aw_block ?_) | (refine aw_exit ?_) | (refine aw_region ?_) | (refine zco ?_ ?_ <;> intro hg <;> first | exact absurd hg (by decide) | ((try replace hg := HG.out hg); (try dsimp only at hg); (try (have _h : True := hg; clear _h hg)); first | (exfalso; omega) | skip))))
  (refine aw_mono_r (env' := [(4, .fn (.func 82) [] [.ref (vi i) 0, .ref (.ref (stoC s) 0) 0])]) (H' := []) ?_ ?_; (focus ((refine sub_to [] [0, 1] rfl ?_ ?_ <;> (repeat' (first | exact trivial | refine ⟨⟨_, rfl, ?_⟩, ?_⟩ | refine ⟨bsub_snoc rfl rfl (fun _ => rfl) ?_, ?_⟩ | refine ⟨bsub_one rfl rfl ?_, ?_⟩ | refine ⟨bsub_all rfl rfl (fun _ _ => rfl) (fun _ => rfl), ?_⟩ | refine ⟨bsub_updL rfl rfl ?_ (fun _ _ _ => rfl) (fun _ => rfl), ?_⟩ | refine ⟨.inl ⟨_, _, rfl, rfl, ?_⟩, ?_⟩ | exact ⟨.inr ⟨rfl, rfl⟩, trivial⟩ | refine ⟨.inr ⟨rfl, rfl⟩, ?_⟩ | (intro _ _) | exact vz1 | (exact fn2_sub (frzPtr' (by simp) rfl (by omega) rfl rfl) (frzPtr' (by simp) rfl (by omega) rfl rfl)) | exact vz2 | fail))); done)))
  (refine aw_ret ?_; (repeat (first | refine ret_then ?_ | refine ret_block ?_)); refine bq1 rfl ⟨?_, rfl⟩)
  rfl
end Go.Proofs.Ythpbjihnikapoaa
-- old go
namespace Go.Proofs.Ythpbjihnikapoaa.It
open Go.RowKit
set_option maxHeartbeats 1000000 in
theorem line_iter (s : Sto) (i : Int) (hC : Chain s.items i) (_hn : s.items.length ≤ 30) : Iter Try.prog 82 [.ref (vi i) 0, .ref (.ref (stoC s) 0) 0] (lineN s.items i) (fun k => [.int .i64 (srcN s.items i k)]) := by
  refine iter_of_aw Try.func82 rfl (dc rfl) rfl fun C hN hel => ?_
  (repeat' (first | (refine ar_isq ?_; first | refine ar_q (qs_move rfl) (dc rfl) ?_ | refine ar_q (qs_assign rfl) (dc rfl) ?_ | (refine is_load ?_; first | refine ar_q (qs_load_ptr (ty rfl) rfl rfl (by first | exact Nat.one_pos | assumption | omega) rfl) (dc rfl) ?_ | refine ar_q (qs_load_ref (ty rfl) rfl rfl) (dc rfl) ?_) | refine ar_q (qs_geq rfl rfl) (dc rfl) ?_ | (refine is_fieldAddr ?_; first | refine ar_q (qs_faddr_ptr (ty rfl) rfl rfl (ty rfl) (Nat.succ_ne_zero _) rfl) (dc rfl) ?_ | refine ar_q (qs_faddr_ref (ty rfl) rfl rfl (ty rfl) (Nat.succ_ne_zero _) rfl) (dc rfl) ?_) | (refine is_indexAddr ?_; first | refine ar_q (qs_iaddr_list (ty rfl) rfl (ty rfl) rfl rfl rfl rfl (by omega)) (dc rfl) ?_ | refine ar_q (qs_iaddr_sl0 (ty rfl) rfl (ty rfl) rfl rfl rfl rfl (by omega)) (dc rfl) ?_ | refine ar_q (qs_iaddr_sl (ty rfl) rfl (ty rfl) rfl rfl rfl rfl (by omega)) (dc rfl) ?_ | refine ar_q (qs_iaddr_aptr (ty rfl) rfl (ty rfl) rfl rfl rfl (by omega)) (dc rfl) ?_ | refine ar_q (qs_iaddr_aref (ty rfl) rfl (ty rfl) rfl rfl rfl (by omega)) (dc rfl) ?_ | (refine ar_idx_list (ty rfl) rfl (ty rfl) rfl rfl rfl (dc rfl) (by omega) ?_; intro _ _ _) | (refine ar_idx_sl (ty rfl) rfl (ty rfl) rfl rfl rfl (dc rfl) (by omega) ?_; intro _ _ _)) | (refine is_pick ?_; first | refine ar_q (qs_pick_t rfl rfl) (dc rfl) ?_ | refine ar_q (qs_pick_f rfl rfl) (dc rfl) ?_)) | (refine ar_guard rfl rfl rfl rfl (dc rfl) ?_ ?_ <;> intro hg <;> first | exact absurd hg (by decide) | ((first | replace hg := hgT hg | replace hg := hgF hg | replace hg := hgNT hg | replace hg := hgNF hg | replace hg := hgBT hg | replace hg := hgBF hg | replace hg := hgV hg | replace hg := hgW hg | skip); (try dsimp only at hg); (try (have _h : True := hg; clear _h hg)); first | (exfalso; omega) | skip)) | (refine ar_guard_u rfl rfl rfl rfl (dc rfl) ?_) | (refine ar_nil ?_) | (refine aw_seq ?_) | (refine aw_skip ?_) | (refine aw_block ?_) | (refine aw_exit ?_) | (refine aw_region ?_) | (refine aw_cond rfl ?_ ?_ <;> intro hg <;> first | exact absurd hg (by decide) | ((first | replace hg := hgT hg | replace hg := hgF hg | replace hg := hgNT hg | replace hg := hgNF hg | replace hg := hgBT hg | replace hg := hgBF hg | replace hg := hgV hg | replace hg := hgW hg | skip); (try dsimp only at hg); (try (have _h : True := hg; clear _h hg)); first | (exfalso; omega) | skip))))
  refine aw_for (lineN s.items i) (fun k => [(0, .s (.func (.yield C.l) #[] #[])), (1, .ref (vi i) 0), (2, .ref (.ref (stoC s) 0) 0), (4, vi (srcN s.items i k))]) (Nat.zero_le _) ⟨rfl, rfl, rfl, rfl, trivial⟩ ?_
  intro k hk
  by_cases hlt : k < lineN s.items i
  · obtain ⟨h1, h2⟩ := hC.at_ k hlt
    (repeat' (first | (refine ar_isq ?_; first | refine ar_q (qs_move rfl) (dc rfl) ?_ | refine ar_q (qs_assign rfl) (dc rfl) ?_ | (refine is_load ?_; first | refine ar_q (qs_load_ptr (ty rfl) rfl rfl (by first | exact Nat.one_pos | assumption | omega) rfl) (dc rfl) ?_ | refine ar_q (qs_load_ref (ty rfl) rfl rfl) (dc rfl) ?_) | refine ar_q (qs_geq rfl rfl) (dc rfl) ?_ | (refine is_fieldAddr ?_; first | refine ar_q (qs_faddr_ptr (ty rfl) rfl rfl (ty rfl) (Nat.succ_ne_zero _) rfl) (dc rfl) ?_ | refine ar_q (qs_faddr_ref (ty rfl) rfl rfl (ty rfl) (Nat.succ_ne_zero _) rfl) (dc rfl) ?_) | (refine is_indexAddr ?_; first | refine ar_q (qs_iaddr_list (ty rfl) rfl (ty rfl) rfl rfl rfl rfl (by omega)) (dc rfl) ?_ | refine ar_q (qs_iaddr_sl0 (ty rfl) rfl (ty rfl) rfl rfl rfl rfl (by omega)) (dc rfl) ?_ | refine ar_q (qs_iaddr_sl (ty rfl) rfl (ty rfl) rfl rfl rfl rfl (by omega)) (dc rfl) ?_ | refine ar_q (qs_iaddr_aptr (ty rfl) rfl (ty rfl) rfl rfl rfl (by omega)) (dc rfl) ?_ | refine ar_q (qs_iaddr_aref (ty rfl) rfl (ty rfl) rfl rfl rfl (by omega)) (dc rfl) ?_ | refine ar_q (qs_iaddr_list (j := (srcN s.items i k).toNat) (ty rfl) rfl (ty rfl) rfl rfl rfl (by omega) (by omega)) (dc rfl) ?_ | refine ar_q (qs_iaddr_sl0 (j := (srcN s.items i k).toNat) (ty rfl) rfl (ty rfl) rfl rfl rfl (by omega) (by omega)) (dc rfl) ?_ | refine ar_q (qs_iaddr_sl (j := (srcN s.items i k).toNat) (ty rfl) rfl (ty rfl) rfl rfl rfl (by omega) (by omega)) (dc rfl) ?_ | (refine ar_idx_list (ty rfl) rfl (ty rfl) rfl rfl rfl (dc rfl) (by omega) ?_; intro _ _ _) | (refine ar_idx_sl (ty rfl) rfl (ty rfl) rfl rfl rfl (dc rfl) (by omega) ?_; intro _ _ _)) | (refine is_pick ?_; first | refine ar_q (qs_pick_t rfl rfl) (dc rfl) ?_ | refine ar_q (qs_pick_f rfl rfl) (dc rfl) ?_)) | (refine ar_yield (us := [.int .i64 (srcN s.items i k)]) rfl rfl (by rw [hN]; exact hlt) (by rw [hel]) (dc rfl) ?_) | (refine ar_q (qs_nck_ref rfl) (dc rfl) ?_) | (refine ar_guard rfl rfl rfl rfl (dc rfl) ?_ ?_ <;> intro hg <;> first | exact absurd hg (by decide) | ((first | replace hg := hgT hg | replace hg := hgF hg | replace hg := hgNT hg | replace hg := hgNF hg | replace hg := hgBT hg | replace hg := hgBF hg | replace hg := hgV hg | replace hg := hgW hg | skip); (try dsimp only at hg); (try (have _h : True := hg; clear _h hg)); first | (exfalso; omega) | skip)) | (refine ar_guard_u rfl rfl rfl rfl (dc rfl) ?_) | (refine ar_nil ?_) | (refine aw_seq ?_) | (refine aw_skip ?_) | (refine aw_block ?_) | (refine aw_exit ?_) | (refine aw_region ?_) | (refine aw_cond rfl ?_ ?_ <;> intro hg <;> first | exact absurd hg (by decide) | ((first | replace hg := hgT hg | replace hg := hgF hg | replace hg := hgNT hg | replace hg := hgNF hg | replace hg := hgBT hg | replace hg := hgBF hg | replace hg := hgV hg | replace hg := hgW hg | skip); (try dsimp only at hg); (try (have _h : True := hg; clear _h hg)); first | (exfalso; omega) | skip))))
    all_goals first
      | (exfalso; omega)
      | exact loop_next hlt rfl ⟨rfl, rfl, rfl, rfl, trivial⟩
      | trace_state
  · obtain rfl : k = lineN s.items i := by omega
    have hs := hC.stop
    (repeat' (first | (refine ar_isq ?_; first | refine ar_q (qs_move rfl) (dc rfl) ?_ | refine ar_q (qs_assign rfl) (dc rfl) ?_ | (refine is_load ?_; first | refine ar_q (qs_load_ptr (ty rfl) rfl rfl (by first | exact Nat.one_pos | assumption | omega) rfl) (dc rfl) ?_ | refine ar_q (qs_load_ref (ty rfl) rfl rfl) (dc rfl) ?_) | refine ar_q (qs_geq rfl rfl) (dc rfl) ?_ | (refine is_fieldAddr ?_; first | refine ar_q (qs_faddr_ptr (ty rfl) rfl rfl (ty rfl) (Nat.succ_ne_zero _) rfl) (dc rfl) ?_ | refine ar_q (qs_faddr_ref (ty rfl) rfl rfl (ty rfl) (Nat.succ_ne_zero _) rfl) (dc rfl) ?_) | (refine is_indexAddr ?_; first | refine ar_q (qs_iaddr_list (ty rfl) rfl (ty rfl) rfl rfl rfl rfl (by omega)) (dc rfl) ?_ | refine ar_q (qs_iaddr_sl0 (ty rfl) rfl (ty rfl) rfl rfl rfl rfl (by omega)) (dc rfl) ?_ | refine ar_q (qs_iaddr_sl (ty rfl) rfl (ty rfl) rfl rfl rfl rfl (by omega)) (dc rfl) ?_ | refine ar_q (qs_iaddr_aptr (ty rfl) rfl (ty rfl) rfl rfl rfl (by omega)) (dc rfl) ?_ | refine ar_q (qs_iaddr_aref (ty rfl) rfl (ty rfl) rfl rfl rfl (by omega)) (dc rfl) ?_ | (refine ar_idx_list (ty rfl) rfl (ty rfl) rfl rfl rfl (dc rfl) (by omega) ?_; intro _ _ _) | (refine ar_idx_sl (ty rfl) rfl (ty rfl) rfl rfl rfl (dc rfl) (by omega) ?_; intro _ _ _)) | (refine is_pick ?_; first | refine ar_q (qs_pick_t rfl rfl) (dc rfl) ?_ | refine ar_q (qs_pick_f rfl rfl) (dc rfl) ?_)) | (refine ar_guard rfl rfl rfl rfl (dc rfl) ?_ ?_ <;> intro hg <;> first | exact absurd hg (by decide) | ((first | replace hg := hgT hg | replace hg := hgF hg | replace hg := hgNT hg | replace hg := hgNF hg | replace hg := hgBT hg | replace hg := hgBF hg | replace hg := hgV hg | replace hg := hgW hg | skip); (try dsimp only at hg); (try (have _h : True := hg; clear _h hg)); first | (exfalso; omega) | skip)) | (refine ar_guard_u rfl rfl rfl rfl (dc rfl) ?_) | (refine ar_nil ?_) | (refine aw_seq ?_) | (refine aw_skip ?_) | (refine aw_block ?_) | (refine aw_exit ?_) | (refine aw_region ?_) | (refine aw_cond rfl ?_ ?_ <;> intro hg <;> first | exact absurd hg (by decide) | ((first | replace hg := hgT hg | replace hg := hgF hg | replace hg := hgNT hg | replace hg := hgNF hg | replace hg := hgBT hg | replace hg := hgBF hg | replace hg := hgV hg | replace hg := hgW hg | skip); (try dsimp only at hg); (try (have _h : True := hg; clear _h hg)); first | (exfalso; omega) | skip))))
    all_goals first
      | (exfalso; omega)
      | exact aw_ret (show lineN s.items i = lineN s.items i from rfl)
      | exact (rfl : lineN s.items i = lineN s.items i)
      | trace_state
end Go.Proofs.Ythpbjihnikapoaa.It
namespace Go.Proofs.Ythpbjihnikapoaa
open Go.RowKit
set_option maxHeartbeats 1000000 in
theorem great_p (b : List (List Int)) : PCalls Try.prog 18 [encRows b] (fun v => v = vb true ∨ v = vb false ∧ b.length ≤ 20 ∧ ∀ l, l ∈ b → l.length ≤ 60) := by
  (refine pcalls_know (fun I us h => And.intro (rel_len (rel_arg h (j := 0) rfl)) (fun l (hm : l ∈ _) => rel_len (rel_el (rel_arg h (j := 0) rfl) (fun _ => rfl) hm))) fun hlen0 => ?_)
  refine pcalls_of_aw Try.func18 rfl (Nat.le_of_ble_eq_true rfl) ?_
  (repeat' (first | (refine ar_isq ?_; first | refine zmv ?_ | refine zas ?_ | (refine is_load ?_; first | refine zlp ?_ | refine zlr ?_) | (refine is_binOp ?_; first | refine zlss ?_ | refine zgtr ?_ | refine zadd ?_) | (refine is_indexAddr ?_; first | refine zil ?_ | refine zis ?_ | refine zit ?_ | refine zia ?_ | refine zir ?_ | (refine zxl ?_; intro _ _ _) | (refine zxs ?_; intro _ _ _)) | (refine is_call ?_; first | refine zll ?_ | refine zls ?_ | refine zln ?_ | refine zle ?_)) | (refine ar_nil ?_) | (refine aw_seq ?_) | (refine aw_skip ?_) | (refine aw_block ?_) | (refine aw_exit ?_) | (refine aw_region ?_) | (refine zco ?_ ?_ <;> intro hg <;> first | exact absurd hg (by decide) | ((try replace hg := HG.out hg); (try dsimp only at hg); (try (have _h : True := hg; clear _h hg)); first | (exfalso; omega) | skip))))
  · (refine aw_ret ?_; (repeat (first | refine ret_then ?_ | refine ret_block ?_)); refine bq1 rfl ⟨?_, rfl⟩)
    exact .inl rfl
  refine aw_for b.length (fun k => ∀ j, j < k → (el b j).length ≤ 60) (fun k => [(0, encRows b), (3, vi k)]) (fun _ => []) (fun j hj => by omega) ?_ ?_
  · (refine sub_to [] [] rfl ?_ ?_ <;> (repeat' (first | exact trivial | refine ⟨⟨_, rfl, ?_⟩, ?_⟩ | refine ⟨bsub_snoc rfl rfl (fun _ => rfl) ?_, ?_⟩ | refine ⟨bsub_one rfl rfl ?_, ?_⟩ | refine ⟨bsub_all rfl rfl (fun _ _ => rfl) (fun _ => rfl), ?_⟩ | refine ⟨bsub_updL rfl rfl ?_ (fun _ _ _ => rfl) (fun _ => rfl), ?_⟩ | refine ⟨.inl ⟨_, _, rfl, rfl, ?_⟩, ?_⟩ | exact ⟨.inr ⟨rfl, rfl⟩, trivial⟩ | refine ⟨.inr ⟨rfl, rfl⟩, ?_⟩ | (intro _ _) | exact vz1 | exact vz2 | fail)))
  intro k hk hJ
  by_cases hlt : k < b.length
  · have hl := hlen0.2 _ (el_mem hlt)
    (repeat' (first | (refine ar_isq ?_; first | refine zmv ?_ | refine zas ?_ | (refine is_load ?_; first | refine zlp ?_ | refine zlr ?_) | (refine is_binOp ?_; first | refine zlss ?_ | refine zgtr ?_ | refine zadd ?_) | (refine is_indexAddr ?_; first | refine zil ?_ | refine zis ?_ | refine zit ?_ | refine zia ?_ | refine zir ?_ | (refine zxl ?_; intro _ _ _) | (refine zxs ?_; intro _ _ _)) | (refine is_call ?_; first | refine zll ?_ | refine zls ?_ | refine zln ?_ | refine zle ?_)) | (refine ar_nil ?_) | (refine aw_seq ?_) | (refine aw_skip ?_) | (refine aw_block ?_) | (refine aw_exit ?_) | (refine aw_region ?_) | (refine zco ?_ ?_ <;> intro hg <;> first | exact absurd hg (by decide) | ((try replace hg := HG.out hg); (try dsimp only at hg); (try (have _h : True := hg; clear _h hg)); first | (exfalso; omega) | skip))))
    all_goals first
      | (exfalso; omega)
      | ((first | refine loop_next (by omega) ?_ ?_ | refine (show _ ∧ _ ∧ SubOf _ _ _ _ _ _ from And.intro (by omega) (And.intro ?_ ?_))); (focus ((exact all_step hJ (by omega)); done)); (focus ((refine sub_to [] [] rfl ?_ ?_ <;> (repeat' (first | exact trivial | refine ⟨⟨_, rfl, ?_⟩, ?_⟩ | refine ⟨bsub_snoc rfl rfl (fun _ => rfl) ?_, ?_⟩ | refine ⟨bsub_one rfl rfl ?_, ?_⟩ | refine ⟨bsub_all rfl rfl (fun _ _ => rfl) (fun _ => rfl), ?_⟩ | refine ⟨bsub_updL rfl rfl ?_ (fun _ _ _ => rfl) (fun _ => rfl), ?_⟩ | refine ⟨.inl ⟨_, _, rfl, rfl, ?_⟩, ?_⟩ | exact ⟨.inr ⟨rfl, rfl⟩, trivial⟩ | refine ⟨.inr ⟨rfl, rfl⟩, ?_⟩ | (intro _ _) | exact vz1 | exact vz2 | fail))); done)))
      | ((refine aw_ret ?_; (repeat (first | refine ret_then ?_ | refine ret_block ?_)); refine bq1 rfl ⟨?_, rfl⟩); exact .inl rfl)
  · (repeat' (first | (refine ar_isq ?_; first | refine zmv ?_ | refine zas ?_ | (refine is_load ?_; first | refine zlp ?_ | refine zlr ?_) | (refine is_binOp ?_; first | refine zlss ?_ | refine zgtr ?_ | refine zadd ?_) | (refine is_indexAddr ?_; first | refine zil ?_ | refine zis ?_ | refine zit ?_ | refine zia ?_ | refine zir ?_ | (refine zxl ?_; intro _ _ _) | (refine zxs ?_; intro _ _ _)) | (refine is_call ?_; first | refine zll ?_ | refine zls ?_ | refine zln ?_ | refine zle ?_)) | (refine ar_nil ?_) | (refine aw_seq ?_) | (refine aw_skip ?_) | (refine aw_block ?_) | (refine aw_exit ?_) | (refine aw_region ?_) | (refine zco ?_ ?_ <;> intro hg <;> first | exact absurd hg (by decide) | ((try replace hg := HG.out hg); (try dsimp only at hg); (try (have _h : True := hg; clear _h hg)); first | (exfalso; omega) | skip))))
    all_goals first
      | (exfalso; omega)
      | ((refine aw_ret ?_; (repeat (first | refine ret_then ?_ | refine ret_block ?_)); refine bq1 rfl ⟨?_, rfl⟩); exact .inr ⟨rfl, by omega, fun l hl => by obtain ⟨j, hj, rfl⟩ := mem_el hl; exact hJ j (by omega)⟩)
end Go.Proofs.Ythpbjihnikapoaa
namespace Go.Proofs.Ythpbjihnikapoaa
open Go.RowKit
set_option maxHeartbeats 4000000 in
theorem pLine_p (s : Sto) (i : Int) : PCalls Try.prog 29 [s.enc, vi i] (· = .tup [encInts (lineF s i), vi (lineE s i)]) := by
  refine pcalls_of_aw Try.func29 rfl (Nat.le_of_ble_eq_true rfl) ?_
  
  (repeat' (first | (refine ar_isq ?_; first | refine zmv ?_ | refine zas ?_ | (refine is_load ?_; first | refine zlp ?_ | refine zlr ?_) | refine zsub ?_ | (refine is_fieldAddr ?_; first | refine zfp ?_ | refine zfr ?_) | (refine is_call ?_; first | refine zll ?_ | refine zls ?_ | refine zln ?_ | refine zle ?_) | refine zex ?_ | refine znt ?_ | refine zncp ?_ | refine zncr ?_) | ((refine ar_gcall0 fn57 rfl rfl [s.enc] ⟨.closed rfl, trivial⟩ (valid_p s) (dc rfl) ?_ (fun _ _ h => h.elim); rintro _ _ (⟨hv, rfl, rfl⟩ | ⟨hv, rfl, rfl⟩) <;> (try rw [stoB_ren]) <;> (try (have hfew := hv.1; unfold Few at hfew)))) | (((refine ar_subk_l (sub_frzL (t := 25) vi ([i]) rfl rfl rfl rfl (fun _ _ => rfl) (fun _ => rfl)) ?_); refine ar_pcall (own := false) fn50 rfl rfl (.cons (.closed rfl) (.cons (.closed rfl) (.cons (.closed rfl) .nil))) (from_p _ _ [i]) (by simp) (dc rfl) ?_; intro _ hv; subst hv)) | (refine ar_buildLE vi ([i]) (by exact ty rfl) (by exact rfl) (by exact ty rfl) (by exact rfl) (by exact rfl) (by exact Nat.succ_pos _) (by exact rfl) (by exact dc rfl) (by exact rfl) (by exact fun _ => ⟨rfl, rfl⟩) (by exact dc rfl) ?_) | (((refine ar_sub_l (env' := [(8, .ptr 1 1 0 0), (28, .ptr 4 0 0 0), (29, vi i)]) (H' := [.arr 4 1 (fun _ => .agg [vi s.life, encItems s.items, encPrints s.prints, .map 2]), .arr 1 1 (fun _ => vnil), mapE vi (pressTo s.items s.items.length)]) ?_ ?_; (focus ((refine sub_to [some 1, some 6, some 4] [2, 3] rfl ?_ ?_ <;> (repeat' (first | exact trivial | refine ⟨⟨_, rfl, ?_⟩, ?_⟩ | refine ⟨bsub_snoc rfl rfl (fun _ => rfl) ?_, ?_⟩ | refine ⟨bsub_one rfl rfl ?_, ?_⟩ | refine ⟨bsub_all rfl rfl (fun _ _ => rfl) (fun _ => rfl), ?_⟩ | refine ⟨bsub_updL rfl rfl ?_ (fun _ _ _ => rfl) (fun _ => rfl), ?_⟩ | refine ⟨.inl ⟨_, _, rfl, rfl, ?_⟩, ?_⟩ | exact ⟨.inr ⟨rfl, rfl⟩, trivial⟩ | refine ⟨.inr ⟨rfl, rfl⟩, ?_⟩ | (intro _ _) | exact vz1 | (first | refine ⟨bsub_mapE rfl rfl (fun _ => rfl), ?_⟩ | exact VSub.aggL ⟨.closed rfl, frzLB (by simp; done) rfl (fun _ => rfl) rfl, frzLB (by simp; done) rfl (fun _ => rfl) rfl, .map rfl, trivial⟩) | exact vz2 | fail))); done))); refine ar_subk_l (sub_pre (t := 28) [vi s.life, encItems s.items, encPrints s.prints] [.map 2] rfl rfl rfl) ?_; refine ar_pcall (own := false) fn59 rfl rfl (.cons (.closed rfl) (.cons (.closed rfl) .nil)) (pline_p s i) (by simp) (dc rfl) ?_; intro _ hv; subst hv)) | (refine zbx ?_) | (refine zal ?_) | (refine zb1 ?_) | (refine zb0 ?_) | (refine zsvs ?_) | (refine zsva ?_) | (refine zses ?_) | (refine zsea ?_) | (refine ar_nil ?_) | (refine aw_seq ?_) | (refine aw_skip ?_) | (refine aw_block ?_) | (refine aw_exit ?_) | (refine aw_region ?_) | (refine zco ?_ ?_ <;> intro hg <;> first | exact absurd hg (by decide) | ((try replace hg := HG.out hg); (try dsimp only at hg); (try rw [fromB_one] at hg); (try rw [withinB_iff] at hg); (try rw [withinB_no] at hg); (try (have _h : True := hg; clear _h hg)); first | (exfalso; omega) | skip))))
  · have he := lineE_none (i := i) hv (by omega)
    (refine aw_mono_r (env' := [(4, encInts []), (5, vi 6)]) (H' := []) ?_ ?_; (focus ((refine sub_to [] [] rfl ?_ ?_ <;> (repeat' (first | exact trivial | refine ⟨⟨_, rfl, ?_⟩, ?_⟩ | refine ⟨bsub_snoc rfl rfl (fun _ => rfl) ?_, ?_⟩ | refine ⟨bsub_one rfl rfl ?_, ?_⟩ | refine ⟨bsub_all rfl rfl (fun _ _ => rfl) (fun _ => rfl), ?_⟩ | refine ⟨bsub_updL rfl rfl ?_ (fun _ _ _ => rfl) (fun _ => rfl), ?_⟩ | refine ⟨.inl ⟨_, _, rfl, rfl, ?_⟩, ?_⟩ | exact ⟨.inr ⟨rfl, rfl⟩, trivial⟩ | refine ⟨.inr ⟨rfl, rfl⟩, ?_⟩ | (intro _ _) | exact vz1 | exact vz2 | fail))); done)))
    (refine aw_ret ?_; (repeat (first | refine ret_then ?_ | refine ret_block ?_)); refine bq2 rfl rfl ⟨?_, rfl⟩)
    rw [lineF_no (by omega), he]
  · have hr : 0 ≤ i ∧ i < (s.items.length : Int) := by omega
    have he := lineE_ok hv hr
    have hC := chain_ok hv.2.1 hr
    
    refine aw_range (fun k => [.dead, .arr 1 1 (fun _ => .sl 1 3 0 (lineTo s.items i k).length), .dead, LB 1 vi (lineTo s.items i k)]) _ rfl rfl fn82 (It.line_iter s i hC (by omega)) (fun _ _ => rfl) (by decide) (fun k _ => rfl) ?maps ?start ?round ?done
    case maps => intro k j ms; match j with | 0 | 1 | 2 | 3 => simp [LB] | j + 4 => simp
    case start => (refine sub_to [some 0, some 1, some 2, none] [] rfl ?_ ?_ <;> (repeat' (first | exact trivial | refine ⟨⟨_, rfl, ?_⟩, ?_⟩ | refine ⟨bsub_snoc rfl rfl (fun _ => rfl) ?_, ?_⟩ | refine ⟨bsub_one rfl rfl ?_, ?_⟩ | refine ⟨bsub_all rfl rfl (fun _ _ => rfl) (fun _ => rfl), ?_⟩ | refine ⟨bsub_updL rfl rfl ?_ (fun _ _ _ => rfl) (fun _ => rfl), ?_⟩ | refine ⟨.inl ⟨_, _, rfl, rfl, ?_⟩, ?_⟩ | exact ⟨.inr ⟨rfl, rfl⟩, trivial⟩ | refine ⟨.inr ⟨rfl, rfl⟩, ?_⟩ | (intro _ _) | exact vz1 | (refine ⟨trivial, ?_⟩) | exact vz2 | fail)))
    case round =>
      intro k lp hk
      have hf := hC.few
      (repeat' (first | (refine ar_isq ?_; first | refine zmv ?_ | refine zas ?_ | (refine is_load ?_; first | refine zlp ?_ | refine zlr ?_) | refine zsub ?_ | (refine is_fieldAddr ?_; first | refine zfp ?_ | refine zfr ?_) | (refine is_call ?_; first | refine zll ?_ | refine zls ?_ | refine zln ?_ | refine zle ?_) | refine zex ?_ | refine znt ?_ | refine zncp ?_ | refine zncr ?_) | (refine ar_buildLE vi ([srcN s.items i k]) (by exact ty rfl) (by exact rfl) (by exact ty rfl) (by exact rfl) (by exact rfl) (by exact Nat.succ_pos _) (by exact rfl) (by exact dc rfl) (by exact rfl) (by exact fun _ => ⟨rfl, rfl⟩) (by exact dc rfl) ?_) | (refine ar_insert (lineTo s.items i k) (srcN s.items i k) ?_ rfl rfl rfl rfl (Nat.ne_of_lt (dc rfl)) (by rw [lineTo_len]; omega) (dc rfl)) | (refine zbx ?_) | (refine zal ?_) | (refine zb1 ?_) | (refine zb0 ?_) | (refine zsvs ?_) | (refine zsva ?_) | (refine zses ?_) | (refine zsea ?_) | (refine ar_nil ?_) | (refine aw_seq ?_) | (refine aw_skip ?_) | (refine aw_block ?_) | (refine aw_exit ?_) | (refine aw_region ?_) | (refine zco ?_ ?_ <;> intro hg <;> first | exact absurd hg (by decide) | ((try replace hg := HG.out hg); (try dsimp only at hg); (try (have _h : True := hg; clear _h hg)); first | (exfalso; omega) | skip))))
      refine (show SubOf _ _ _ _ _ _ from ?_)
      (refine sub_to [some 0, some 1, some 2, some 5] [] rfl ?_ ?_ <;> (repeat' (first | exact trivial | refine ⟨⟨_, rfl, ?_⟩, ?_⟩ | refine ⟨bsub_snoc rfl rfl (fun _ => rfl) ?_, ?_⟩ | refine ⟨bsub_one rfl rfl ?_, ?_⟩ | refine ⟨bsub_all rfl rfl (fun _ _ => rfl) (fun _ => rfl), ?_⟩ | refine ⟨bsub_updL rfl rfl ?_ (fun _ _ _ => rfl) (fun _ => rfl), ?_⟩ | refine ⟨.inl ⟨_, _, rfl, rfl, ?_⟩, ?_⟩ | exact ⟨.inr ⟨rfl, rfl⟩, trivial⟩ | refine ⟨.inr ⟨rfl, rfl⟩, ?_⟩ | (intro _ _) | exact vz1 | (refine ⟨trivial, ?_⟩) | exact vz2 | fail)))
    case done =>
      (repeat' (first | (refine ar_isq ?_; first | refine zmv ?_ | refine zas ?_ | (refine is_load ?_; first | refine zlp ?_ | refine zlr ?_) | refine zsub ?_ | (refine is_fieldAddr ?_; first | refine zfp ?_ | refine zfr ?_) | (refine is_call ?_; first | refine zll ?_ | refine zls ?_ | refine zln ?_ | refine zle ?_) | refine zex ?_ | refine znt ?_ | refine zncp ?_ | refine zncr ?_) | (refine zbx ?_) | (refine zal ?_) | (refine zb1 ?_) | (refine zb0 ?_) | (refine zsvs ?_) | (refine zsva ?_) | (refine zses ?_) | (refine zsea ?_) | (refine ar_nil ?_) | (refine aw_seq ?_) | (refine aw_skip ?_) | (refine aw_block ?_) | (refine aw_exit ?_) | (refine aw_region ?_) | (refine zco ?_ ?_ <;> intro hg <;> first | exact absurd hg (by decide) | ((try replace hg := HG.out hg); (try dsimp only at hg); (try (have _h : True := hg; clear _h hg)); first | (exfalso; omega) | skip))))
      (refine aw_mono_r (env' := [(4, encInts (lineTo s.items i (lineN s.items i))), (5, vi 0)]) (H' := []) ?_ ?_; (focus ((refine sub_to [] [3] rfl ?_ ?_ <;> (repeat' (first | exact trivial | refine ⟨⟨_, rfl, ?_⟩, ?_⟩ | refine ⟨bsub_snoc rfl rfl (fun _ => rfl) ?_, ?_⟩ | refine ⟨bsub_one rfl rfl ?_, ?_⟩ | refine ⟨bsub_all rfl rfl (fun _ _ => rfl) (fun _ => rfl), ?_⟩ | refine ⟨bsub_updL rfl rfl ?_ (fun _ _ _ => rfl) (fun _ => rfl), ?_⟩ | refine ⟨.inl ⟨_, _, rfl, rfl, ?_⟩, ?_⟩ | exact ⟨.inr ⟨rfl, rfl⟩, trivial⟩ | refine ⟨.inr ⟨rfl, rfl⟩, ?_⟩ | (intro _ _) | exact vz1 | exact vz2 | fail))); done)))
      (refine aw_ret ?_; (repeat (first | refine ret_then ?_ | refine ret_block ?_)); refine bq2 rfl rfl ⟨?_, rfl⟩)
      rw [lineF_ok he, he]
  · have he := lineE_bad (i := i) hv
    (refine aw_mono_r (env' := [(4, encInts []), (5, vi 80)]) (H' := []) ?_ ?_; (focus ((refine sub_to [] [] rfl ?_ ?_ <;> (repeat' (first | exact trivial | refine ⟨⟨_, rfl, ?_⟩, ?_⟩ | refine ⟨bsub_snoc rfl rfl (fun _ => rfl) ?_, ?_⟩ | refine ⟨bsub_one rfl rfl ?_, ?_⟩ | refine ⟨bsub_all rfl rfl (fun _ _ => rfl) (fun _ => rfl), ?_⟩ | refine ⟨bsub_updL rfl rfl ?_ (fun _ _ _ => rfl) (fun _ => rfl), ?_⟩ | refine ⟨.inl ⟨_, _, rfl, rfl, ?_⟩, ?_⟩ | exact ⟨.inr ⟨rfl, rfl⟩, trivial⟩ | refine ⟨.inr ⟨rfl, rfl⟩, ?_⟩ | (intro _ _) | exact vz1 | exact vz2 | fail))); done)))
    (refine aw_ret ?_; (repeat (first | refine ret_then ?_ | refine ret_block ?_)); refine bq2 rfl rfl ⟨?_, rfl⟩)
    rw [lineF_no (by omega), he]
end Go.Proofs.Ythpbjihnikapoaa
namespace Go.Proofs.Ythpbjihnikapoaa
open Go.RowKit
section
variable {P : Program} {r : Option Nat} {m nt : Nat} {Q : Post} {env : Env} {H : Heap} {ops : Array Oper} {l : List Stp} {ty : TypeId} {pos : String} {after : Array Edge} {T : TypeId} {d : TyD} {x : Operand} {v : V} {dst : Option Tmp} {guard : Option (Nat × Bool)} {keep : Bool}
theorem qs_makeInterface {k : IntKind} (ht : TyIs P T d) (hk : d.tk = .int k) (hx : eo env x = some v) : QS P nt env H ⟨dst, .makeInterface T x, ty, pos, after, guard⟩ (.iface T v) := .mk
  fun _ I ρ a w h _ => ⟨_, .iface (eo_rel h hx), fun w' _ => by simp [execOp, Instr.makeInterface, run_underlying (ht.intk hk)]⟩
theorem ls_panic {t : TypeId} (hx : eo env x = some (.iface t v)) : LS P r m nt keep env H ⟨none, .panic x, ty, pos, after, guard⟩ (fun _ _ => False) (fun u H' => u = .iface t v ∧ H' = H) := .mk
  fun X I ρ a w next Qx hX hs hk hp => by
    have h1 := eo_rel hs.1 hx
    cases h1' : a.eval x <;> rw [h1'] at h1 <;> cases h1
    rename_i u hu
    have hr : ∀ w, (Instr.panic (.iface t u)).run P w = .halt (.panic (.iface t u)) w := fun _ => rfl
    refine wpIn_of_run (res := .halt (.panic (.iface t u)) w) (by simp) (by simp [execOp, h1', hr]) ?_
    exact hp I ρ H _ _ w ⟨rfl, rfl⟩ (Imm.le_refl _) hs.2.1 (.iface hu)
theorem ar_panic {i : Nat} {t : TypeId} (hx : eo env x = some (.iface t v)) (h : Q (.panic (.iface t v)) [] H) : AR P r m nt ops Q (.l i ⟨none, .panic x, ty, pos, after, none⟩ keep :: l) env H :=
  ar_l0 (ls_panic hx) (fun _ _ h => h.elim) (fun u H' ⟨a, b⟩ => by subst a; subst b; exact h)
end
/-- In the end, in other words. -/
def subQ (m nt : Nat) (Q : Post) : Post
  | .panic v, env, H => Q (.panic v) env H
  | .normal, env, H => ∃ env' H', SubOf m nt env H env' H' ∧ Q .normal env' H'
  | .ret, env, H => ∃ env' H', SubOf m nt env H env' H' ∧ Q .ret env' H'
  | .exit k, env, H => Q (.exit k) env H
  | .goto k, env, H => Q (.goto k) env H
section
variable {P : Program} {r : Option Nat} {m nt : Nat} {Q : Post} {env env' : Env} {H H' : Heap}
theorem aw_post {c : Code} (h : AW P r m nt c (subQ m nt Q) env H) : AW P r m nt c Q env H := .mk fun X I ρ a w hX hs => by
  refine wpIn_mono (h.1 X I ρ a w hX hs) fun e a' w' hl => ?_
  cases e with
  | normal =>
    obtain ⟨env1, H1, I1, ρ1, h1, env2, H2, h2, h3⟩ := hl
    obtain ⟨I2, ρ2, _, h4⟩ := h2.1 X I1 ρ1 a' w' hX h1
    exact ⟨env2, H2, I2, ρ2, h4, h3⟩
  | ret =>
    obtain ⟨env1, H1, I1, ρ1, h1, env2, H2, h2, h3⟩ := hl
    obtain ⟨I2, ρ2, _, h4⟩ := h2.1 X I1 ρ1 a' w' hX h1
    exact ⟨env2, H2, I2, ρ2, h4, h3⟩
  | exit k => exact hl
  | goto k => exact hl
  | panic ch => exact hl
  | outgrown => exact hl
theorem subq_n (env' : Env) (H' : Heap) (h : SubOf m nt env H env' H') (k : Q .normal env' H') : subQ m nt Q .normal env H := ⟨_, _, h, k⟩
theorem subq_r (env' : Env) (H' : Heap) (h : SubOf m nt env H env' H') (k : Q .ret env' H') : subQ m nt Q .ret env H := ⟨_, _, h, k⟩
end
end Go.Proofs.Ythpbjihnikapoaa
namespace Go.Proofs.Ythpbjihnikapoaa
open Go.RowKit
def errV (e : Int) : V := .iface 139 (vi e)
def stoG (i j : Nat) (s : Sto) : V := .agg [vi s.life, .sl 5 i 0 s.items.length, .sl 2 j 0 s.prints.length, .map 3]
/-- A store at work, its items in a new row. -/
def WI (s : Sto) (m : List (Int × Int)) : Heap := [.arr 4 1 (fun _ => stoG 4 2 s), .dead, LB 2 Prt.enc s.prints, mapE vi m, LB 5 Itm.enc s.items]
/-- A store at work, its prints in a new row. -/
def WP (s : Sto) (m : List (Int × Int)) : Heap := [.arr 4 1 (fun _ => stoG 1 4 s), LB 5 Itm.enc s.items, .dead, mapE vi m, LB 2 Prt.enc s.prints]
theorem mapE_ren {m : List (Int × Int)} {r : Nat → Nat} : (mapE vi m).ren r = mapE vi m := by
  have e : entsE vi m = (entsE vi m).map fun p => (p.1, p.2.ren r) := by
    unfold entsE
    rw [List.map_map]
    exact List.map_congr_left fun p _ => rfl
  exact (congrArg Blk.map e).symm
/-- The call's blocks are our first four. -/
theorem join4 {H : Heap} {b0 b1 b2 b3 : Blk} {L : Heap} (h : 4 ≤ H.length) : joinH [0, 1, 2, 3] [] H (b0 :: b1 :: b2 :: b3 :: L) =
    ((((H.set 0 (b0.ren (rn [0, 1, 2, 3] H.length))).set 1 (b1.ren (rn [0, 1, 2, 3] H.length))).set 2 (b2.ren (rn [0, 1, 2, 3] H.length))).set 3 (b3.ren (rn [0, 1, 2, 3] H.length))) ++ L.map (Blk.ren (rn [0, 1, 2, 3] H.length)) := by
  match H, h with
  | a0 :: a1 :: a2 :: a3 :: K, _ =>
    have tail : ∀ {r : Nat → Nat} {H1 : Heap} (K : Heap) (k : Nat), 4 ≤ k → joinAt [0, 1, 2, 3] [] r H1 k K = K := fun {r H1} K => by
      induction K with
      | nil => intro k _; rfl
      | cons b K ih =>
        intro k hk
        simp only [joinAt]
        rw [ih (k + 1) (by omega)]
        have : pickB [0, 1, 2, 3] [] r H1 k b = b := by
          unfold pickB
          have h0 : ([0, 1, 2, 3] : List Nat).idxOf? k = none := by
            rw [List.idxOf?_eq_none_iff]
            simp
            omega
          rw [h0]
          rfl
        rw [this]
    unfold joinH
    simp only [joinAt]
    rw [tail K _ (by omega)]
    rfl
theorem hsub4 {H : Heap} {s : Sto} {p : List (Int × Int)} (h0 : H[0]? = some (.arr 4 1 (fun _ => stoV 0 s))) (h1 : H[1]? = some (LB 5 Itm.enc s.items)) (h2 : H[2]? = some (LB 2 Prt.enc s.prints)) (h3 : H[3]? = some (mapE vi p)) :
    HSub H ([0, 1, 2, 3].map some) (· ∈ ([] : List Nat)) 0 (stoB 0 s p) :=
  ⟨.inl ⟨0, _, rfl, h0, fun _ _ => VSub.aggL ⟨.closed rfl, .sl rfl, .sl rfl, .map rfl, trivial⟩⟩, .inl ⟨1, _, rfl, h1, fun _ _ => .closed rfl⟩, .inl ⟨2, _, rfl, h2, fun _ _ => .closed rfl⟩, bsub_mapE rfl h3 (fun _ => rfl), trivial⟩
theorem stoB_live {s : Sto} {p : List (Int × Int)} : ∀ b ∈ stoB 0 s p, b ≠ .dead := by simp [stoB, LB, mapE]
section
variable {r : Option Nat} {m nt i d : Nat} {Q : Post} {env : Env} {H : Heap} {ops : Array Oper} {L : List Stp} {ty : TypeId} {pos : String} {after : Array Edge} {ats : Array TypeId} {x y z : Operand}
theorem refuse_p (b : Bool) (e : Int) : ACalls Try.prog 116 [vb b, vi e] [] (fun v H => b = false ∧ v = .tup [] ∧ H = []) (fun v _ => b = true ∧ v = errV e) := by
  refine acalls_of_aw Try.func116 rfl (Nat.le_of_ble_eq_true rfl) ?_
  (repeat' (first | (refine ar_isq ?_; first | refine zmv ?_) | (refine ar_q (qs_makeInterface (ty rfl) rfl rfl) (dc rfl) ?_) | (refine ar_panic rfl ?_) | (refine ar_nil ?_) | (refine aw_seq ?_) | (refine aw_skip ?_) | (refine aw_block ?_) | (refine aw_exit ?_) | (refine aw_region ?_) | (refine zco ?_ ?_ <;> intro hg <;> first | exact absurd hg (by decide) | ((try replace hg := HG.out hg); (try dsimp only at hg); (try (have _h : True := hg; clear _h hg)); first | (exfalso; omega) | skip))))
  · exact (⟨by assumption, rfl⟩ : b = true ∧ errV e = errV e)
  · exact bq0n ⟨by assumption, rfl, rfl⟩
theorem ar_refuse {b : Bool} {e : Int} (h1 : b = false → AR Try.prog r m nt ops Q L ((d, .tup []) :: env) H) (h2 : b = true → ∀ H', Q (.panic (errV e)) [] H') (hx : eo env x = some (.s (.bool b))) (hy : eo env y = some (.s (.int .i64 e))) (hd : d < nt) :
    AR Try.prog r m nt ops Q (.l i ⟨some d, .call ⟨.value (.func 116), #[x, y], ats⟩, ty, pos, after, none⟩ false :: L) env H := by
  refine ar_gcall0 (args := [x, y]) (vs := [vb b, vi e]) (first := []) (cap := []) fn116 rfl (by rw [List.mapM_cons, List.mapM_cons, List.mapM_nil, hx, hy]; rfl) [vb b, vi e] ⟨.closed rfl, .closed rfl, trivial⟩ (refuse_p b e) hd ?_ ?_
  · rintro _ _ ⟨hb, rfl, rfl⟩
    have : H ++ List.map (Blk.ren (rn [] H.length)) [] = H := by simp
    rw [this]
    exact h1 hb
  · rintro _ _ ⟨hb, rfl⟩
    exact h2 hb _
end
def hereB (s : Sto) (i : Int) : Prop := (0 ≤ i ∧ i < (s.items.length : Int)) ∧ (el s.items i.toNat).gone = false
instance (s : Sto) (i : Int) : Decidable (hereB s i) := by unfold hereB; infer_instance
set_option maxHeartbeats 1000000 in
theorem item_p (s : Sto) (p : List (Int × Int)) (i : Int) (hn : s.items.length ≤ 30) : ACalls Try.prog 115 [.ptr 4 0 0 0, vi i] (stoB 0 s p) (fun v H => hereB s i ∧ v = .ptr 5 1 i.toNat 0 ∧ H = stoB 0 s p) (fun v _ => ¬ hereB s i ∧ v = errV 6) := by
  refine acalls_of_aw Try.func115 rfl (Nat.le_of_ble_eq_true rfl) ?_
  (repeat' (first | (refine ar_isq ?_; first | refine zmv ?_ | refine zas ?_ | (refine is_load ?_; first | refine zlp ?_ | refine zlr ?_) | refine zsub ?_ | (refine is_fieldAddr ?_; first | refine zfp ?_ | refine zfr ?_) | (refine is_indexAddr ?_; first | refine zil ?_ | refine zis ?_ | refine zit ?_ | refine zia ?_ | refine zir ?_ | refine zil (j := i.toNat) ?_ | refine zis (j := i.toNat) ?_ | refine zit (j := i.toNat) ?_ | (refine zxl ?_; intro _ _ _) | (refine zxs ?_; intro _ _ _)) | (refine is_call ?_; first | refine zll ?_ | refine zls ?_ | refine zln ?_ | refine zle ?_) | (refine is_pick ?_; first | refine zpt ?_ | refine zpf ?_) | refine znt ?_ | refine zncp ?_ | refine zncr ?_) | (((refine ar_subk_l (sub_frzL (t := 13) vi ([i]) rfl rfl rfl rfl (fun _ _ => rfl) (fun _ => rfl)) ?_); refine ar_pcall (own := false) fn50 rfl rfl (.cons (.closed rfl) (.cons (.closed rfl) (.cons (.closed rfl) .nil))) (from_p _ _ [i]) (by simp) (dc rfl) ?_; intro _ hv; subst hv)) | (refine ar_buildLE vi ([i]) (by exact ty rfl) (by exact rfl) (by exact ty rfl) (by exact rfl) (by exact rfl) (by exact Nat.succ_pos _) (by exact rfl) (by exact dc rfl) (by exact rfl) (by exact fun _ => ⟨rfl, rfl⟩) (by exact dc rfl) ?_) | (refine ar_refuse ?_ ?_ rfl rfl (dc rfl) <;> intro hrf) | (refine zb1 ?_) | (refine zb0 ?_) | (refine zg ?_ ?_ <;> intro hg <;> first | exact absurd hg (by decide) | ((try replace hg := HG.out hg); (try dsimp only at hg); (try rw [fromB_one] at hg); (try rw [withinB_iff] at hg); (try rw [withinB_no] at hg); (try (have _h : True := hg; clear _h hg)); first | (exfalso; omega) | skip)) | (refine zgu ?_) | (refine ar_nil ?_) | (refine aw_seq ?_) | (refine aw_skip ?_) | (refine aw_block ?_) | (refine aw_exit ?_) | (refine aw_region ?_) | (refine zco ?_ ?_ <;> intro hg <;> first | exact absurd hg (by decide) | ((try replace hg := HG.out hg); (try dsimp only at hg); (try rw [fromB_one] at hg); (try rw [withinB_iff] at hg); (try rw [withinB_no] at hg); (try (have _h : True := hg; clear _h hg)); first | (exfalso; omega) | skip))))
  all_goals first
    | (exfalso; omega)
    | (exfalso; simp_all; done)
    | (intro H'; refine (⟨fun h => ?_, rfl⟩ : ¬ hereB s i ∧ errV 6 = errV 6); unfold hereB at h; simp_all; done)
    | (intro H'; refine (⟨fun h => ?_, rfl⟩ : ¬ hereB s i ∧ errV 6 = errV 6); unfold hereB at h; omega)
    | ((refine aw_mono_r (env' := [(4, .ptr 5 1 i.toNat 0)]) (H' := [.arr 4 1 (fun _ => stoV 0 s), LB 5 Itm.enc s.items, LB 2 Prt.enc s.prints, mapE vi p]) ?_ ?_; (focus ((refine sub_to [some 0, some 1, some 2, some 3] [] rfl ?_ ?_ <;> (repeat' (first | exact trivial | refine ⟨⟨_, rfl, ?_⟩, ?_⟩ | refine ⟨bsub_snoc rfl rfl (fun _ => rfl) ?_, ?_⟩ | refine ⟨bsub_one rfl rfl ?_, ?_⟩ | refine ⟨bsub_all rfl rfl (fun _ _ => rfl) (fun _ => rfl), ?_⟩ | refine ⟨bsub_updL rfl rfl ?_ (fun _ _ _ => rfl) (fun _ => rfl), ?_⟩ | refine ⟨.inl ⟨_, _, rfl, rfl, ?_⟩, ?_⟩ | exact ⟨.inr ⟨rfl, rfl⟩, trivial⟩ | refine ⟨.inr ⟨rfl, rfl⟩, ?_⟩ | (intro _ _) | exact vz1 | (first | refine ⟨bsub_mapE rfl rfl (fun _ => rfl), ?_⟩ | exact VSub.aggL ⟨.closed rfl, .sl rfl, .sl rfl, .map rfl, trivial⟩) | exact vz2 | fail))); done)))
       refine aw_ret ?_
       exact bq1 rfl ⟨⟨by omega, by simp_all⟩, rfl, rfl⟩)
    | trace_state
end Go.Proofs.Ythpbjihnikapoaa
namespace Go.Proofs.Ythpbjihnikapoaa
open Go.RowKit
theorem set_same {H : Heap} {k : Nat} {b : Blk} (h : H[k]? = some b) : H.set k b = H := by
  refine List.ext_getElem? fun i => ?_
  rw [List.getElem?_set]
  by_cases e : k = i
  · subst e
    rw [if_pos rfl, if_pos (List.getElem?_eq_some_iff.1 h).1, h]
  · rw [if_neg e]
def addS (s : Sto) (x : Itm) : Sto := { s with items := s.items ++ [x] }
def setS (s : Sto) (j : Nat) (x : Itm) : Sto := { s with items := s.items.set j x }
set_option maxHeartbeats 1000000 in
theorem add_p (s : Sto) (p : List (Int × Int)) (x : Itm) (hn : s.items.length ≤ 30) : ACalls Try.prog 114 [.ptr 4 0 0 0, x.enc] (stoB 0 s p) (fun v H => s.items.length < 30 ∧ v = .tup [] ∧ H = WI (addS s x) p) (fun v _ => s.items.length = 30 ∧ v = errV 9) := by
  refine acalls_of_aw Try.func114 rfl (Nat.le_of_ble_eq_true rfl) ?_; refine aw_post ?_
  (repeat' (first | (refine ar_isq ?_; first | refine zmv ?_ | (refine is_load ?_; first | refine zlp ?_ | refine zlr ?_) | refine zeql ?_ | (refine is_fieldAddr ?_; first | refine zfp ?_ | refine zfr ?_) | (refine is_call ?_; first | refine zll ?_ | refine zls ?_ | refine zln ?_ | refine zle ?_) | refine zncp ?_ | refine zncr ?_) | (refine ar_refuse ?_ ?_ rfl rfl (dc rfl) <;> intro hrf <;> first | exact absurd hrf (by decide) | (try replace hrf := HG.out hrf)) | (refine zbx ?_) | (refine zb1 ?_) | (refine zb0 ?_) | (refine zapoo ?_) | (refine zapol ?_) | (refine zapno ?_) | (refine zapnl ?_) | (refine zapeo ?_) | (refine zapel ?_) | (refine zsvs ?_) | (refine zsva ?_) | (refine zses ?_) | (refine zsea ?_) | (refine ar_nil ?_) | (refine aw_seq ?_) | (refine aw_skip ?_) | (refine aw_block ?_) | (refine aw_exit ?_) | (refine aw_region ?_) | (refine aw_drawn (id := 2) [(0, 0), (1, 0), (2, 0), (3, 0), (4, 0), (5, 0), (6, 0), (7, 1), (8, 1), (9, 0), (10, 0), (11, 0), (12, 2)] mixed (by kernel_rfl) ?_) | (refine zco ?_ ?_ <;> intro hg <;> first | exact absurd hg (by decide) | ((try replace hg := HG.out hg); (try dsimp only at hg); (try (have _h : True := hg; clear _h hg)); first | (exfalso; omega) | skip))))
  all_goals first
    | (exfalso; omega)
    | (intro H'; exact (⟨by omega, rfl⟩ : s.items.length = 30 ∧ errV 9 = errV 9))
    | ((refine subq_n [] [.arr 4 1 (fun _ => stoG 4 2 (addS s x)), .dead, LB 2 Prt.enc s.prints, mapE vi p, LB 5 Itm.enc (s.items ++ [x])] ?_ ?_; (focus ((refine sub_to [some 0, some 1, some 2, some 3, some 6] [] rfl ?_ ?_ <;> (repeat' (first | exact trivial | refine ⟨⟨_, rfl, ?_⟩, ?_⟩ | refine ⟨bsub_snoc rfl rfl (fun _ => rfl) ?_, ?_⟩ | refine ⟨bsub_one rfl rfl ?_, ?_⟩ | refine ⟨bsub_all rfl rfl (fun _ _ => rfl) (fun _ => rfl), ?_⟩ | refine ⟨bsub_updL rfl rfl ?_ (fun _ _ _ => rfl) (fun _ => rfl), ?_⟩ | refine ⟨.inl ⟨_, _, rfl, rfl, ?_⟩, ?_⟩ | exact ⟨.inr ⟨rfl, rfl⟩, trivial⟩ | refine ⟨.inr ⟨rfl, rfl⟩, ?_⟩ | (intro _ _) | exact vz1 | (first | refine ⟨trivial, ?_⟩ | refine ⟨bsub_mapE rfl rfl (fun _ => rfl), ?_⟩ | exact VSub.aggL ⟨.closed rfl, slEq rfl (by simp [addS]), .sl rfl, .map rfl, trivial⟩) | exact vz2 | fail))); done)))
       exact bq0n ⟨by omega, rfl, rfl⟩)
    | trace_state
section
variable {r : Option Nat} {m nt i d : Nat} {Q : Post} {env : Env} {H : Heap} {ops : Array Oper} {L : List Stp} {ty : TypeId} {pos : String} {after : Array Edge} {ats : Array TypeId} {x y z : Operand} {p : List (Int × Int)}
theorem ar_item (s : Sto) {j : Int} (hn : s.items.length ≤ 30) (h1 : hereB s j → AR Try.prog r m nt ops Q L ((d, .ptr 5 1 j.toNat 0) :: env) H) (h2 : ¬ hereB s j → ∀ H', Q (.panic (errV 6)) [] H') (hx : eo env x = some (.ptr 4 0 0 0)) (hy : eo env y = some (vi j))
    (b0 : H[0]? = some (.arr 4 1 (fun _ => stoV 0 s))) (b1 : H[1]? = some (LB 5 Itm.enc s.items)) (b2 : H[2]? = some (LB 2 Prt.enc s.prints)) (b3 : H[3]? = some (mapE vi p)) (hl : 4 ≤ H.length) (hd : d < nt) :
    AR Try.prog r m nt ops Q (.l i ⟨some d, .call ⟨.value (.func 115), #[x, y], ats⟩, ty, pos, after, none⟩ false :: L) env H := by
  refine ar_gcall (H0 := stoB 0 s p) [0, 1, 2, 3] [] (args := [x, y]) (vs := [.ptr 4 0 0 0, vi j]) (first := []) (cap := []) fn115 rfl (by rw [List.mapM_cons, List.mapM_cons, List.mapM_nil, hx, hy]; rfl) (xs := [.ptr 4 0 0 0, vi j]) ⟨.ptr rfl, .closed rfl, trivial⟩ rfl (by decide) (fun _ h => by cases h) (hsub4 b0 b1 b2 b3) stoB_live (item_p s p j hn) hd ?_ ?_
  · rintro _ _ ⟨hh, rfl, rfl⟩
    rw [show stoB 0 s p = [.arr 4 1 (fun _ => stoV 0 s), LB 5 Itm.enc s.items, LB 2 Prt.enc s.prints, mapE vi p] from rfl, join4 hl, mapE_ren]
    have e0 : H.set 0 ((Blk.arr 4 1 (fun _ => stoV 0 s)).ren (rn [0, 1, 2, 3] H.length)) = H := set_same b0
    have e1 : H.set 1 ((LB 5 Itm.enc s.items).ren (rn [0, 1, 2, 3] H.length)) = H := set_same b1
    have e2 : H.set 2 ((LB 2 Prt.enc s.prints).ren (rn [0, 1, 2, 3] H.length)) = H := set_same b2
    rw [e0, e1, e2, set_same b3, List.map_nil, List.append_nil]
    exact h1 hh
  · rintro _ _ ⟨hh, rfl⟩
    exact h2 hh _
theorem ar_add (s : Sto) (w : Itm) (hn : s.items.length ≤ 30) (h1 : s.items.length < 30 → AR Try.prog r m nt ops Q L ((d, .tup []) :: env) (((H.set 0 (.arr 4 1 (fun _ => stoG H.length 2 (addS s w)))).set 1 .dead) ++ [LB 5 Itm.enc (s.items ++ [w])])) (h2 : s.items.length = 30 → ∀ H', Q (.panic (errV 9)) [] H') (hx : eo env x = some (.ptr 4 0 0 0)) (hy : eo env y = some w.enc)
    (b0 : H[0]? = some (.arr 4 1 (fun _ => stoV 0 s))) (b1 : H[1]? = some (LB 5 Itm.enc s.items)) (b2 : H[2]? = some (LB 2 Prt.enc s.prints)) (b3 : H[3]? = some (mapE vi p)) (hl : 4 ≤ H.length) (hd : d < nt) :
    AR Try.prog r m nt ops Q (.l i ⟨some d, .call ⟨.value (.func 114), #[x, y], ats⟩, ty, pos, after, none⟩ false :: L) env H := by
  refine ar_gcall (H0 := stoB 0 s p) [0, 1, 2, 3] [] (args := [x, y]) (vs := [.ptr 4 0 0 0, w.enc]) (first := []) (cap := []) fn114 rfl (by rw [List.mapM_cons, List.mapM_cons, List.mapM_nil, hx, hy]; rfl) (xs := [.ptr 4 0 0 0, w.enc]) ⟨.ptr rfl, .closed rfl, trivial⟩ rfl (by decide) (fun _ h => by cases h) (hsub4 b0 b1 b2 b3) stoB_live (add_p s p w hn) hd ?_ ?_
  · rintro _ _ ⟨hh, rfl, rfl⟩
    unfold WI
    rw [join4 hl, mapE_ren]
    have e2 : ((H.set 0 ((Blk.arr 4 1 (fun _ => stoG 4 2 (addS s w))).ren (rn [0, 1, 2, 3] H.length))).set 1 ((Blk.dead).ren (rn [0, 1, 2, 3] H.length))).set 2 ((LB 2 Prt.enc (addS s w).prints).ren (rn [0, 1, 2, 3] H.length)) = (H.set 0 (.arr 4 1 (fun _ => stoG H.length 2 (addS s w)))).set 1 .dead := set_same (by rw [List.getElem?_set_ne (by decide), List.getElem?_set_ne (by decide)]; exact b2)
    rw [e2, set_same (by rw [List.getElem?_set_ne (by decide), List.getElem?_set_ne (by decide)]; exact b3)]
    exact h1 hh
  · rintro _ _ ⟨hh, rfl⟩
    exact h2 hh _
end
def newDie : Itm := ⟨1, -1, 0, 0, false⟩
def engrE (s : Sto) : Int := if s.items.length = 30 then 9 else 0
def made1 (x : Itm) (i : Int) : Itm := ⟨x.kind + 1, i, 1, 0, false⟩
def transE (s : Sto) (i : Int) : Int := if hereB s i then (if (el s.items i.toNat).kind = 3 ∨ (el s.items i.toNat).place ≠ 1 then 2 else if (el s.items i.toNat).uses = 10 then 81 else if s.items.length = 30 then 9 else 0) else 6
def used1 (x : Itm) (n : Int) : Itm := { x with uses := x.uses + n }
def transF (s : Sto) (i : Int) : Sto := addS (setS s i.toNat (used1 (el s.items i.toNat) 1)) (made1 (el s.items i.toNat) i)
def gone1 (x : Itm) : Itm := { x with gone := true }
def destE (s : Sto) (i : Int) : Int := if hereB s i then (if (el s.items i.toNat).place ≠ 0 then 2 else 0) else 6
def destF (s : Sto) (i : Int) : Sto := setS s i.toNat (gone1 (el s.items i.toNat))
theorem upd_enc {l : List Itm} {j : Nat} (hj : j < l.length) {x : Itm} {v : V} (hv : v = x.enc) (i : Nat) : upd (fun i => (el l i).enc) j v i = (el (l.set j x) i).enc := by
  by_cases e : i = j
  · subst e
    rw [upd_same, hv]
    simp [el, hj]
  · rw [upd_other e]
    simp [el, List.getElem?_set_ne (Ne.symm e)]
theorem bsub_set {H : Heap} {σ : List (Option Nat)} {fr : Nat → Prop} {k b j : Nat} {l : List Itm} (x : Itm) {v : V} (h : σ[k]? = some (some b)) (hj : j < l.length) (hb : H[b]? = some (.arr 5 l.length (upd (fun i => (el l i).enc) j v))) (hv : v = x.enc) : BSub H σ fr k (LB 5 Itm.enc (l.set j x)) := by
  refine .inl ⟨b, _, h, ?_, fun i _ => .of_eq (upd_enc hj hv i) rfl⟩
  rw [hb, List.length_set]
set_option maxHeartbeats 1000000 in
theorem engrave_p (s : Sto) (p : List (Int × Int)) (a : Deed) (hn : s.items.length ≤ 30) : ACalls Try.prog 104 [.ptr 4 0 0 0, a.enc] (stoB 0 s p) (fun v H => engrE s = 0 ∧ v = .tup [] ∧ H = WI (addS s newDie) p) (fun v _ => engrE s ≠ 0 ∧ v = errV (engrE s)) := by
  refine acalls_of_aw Try.func104 rfl (Nat.le_of_ble_eq_true rfl) ?_; refine aw_post ?_
  (repeat' (first | (refine ar_isq ?_; first | refine zmv ?_ | (refine ar_buildT ?_ (by exact ty rfl) (by exact rfl) (by exact sizes rfl) (by exact rfl) (by exact rfl) (by exact build rfl) (by exact dc rfl); intro _ hds; (try dsimp only [List.toList_toArray, cells_s, cells_emp, cells_agg, cells_list, cells_sl, cells_ptr, cells_ref, cells_fn, cells_vi, cells_vb, cells_vnil, constV, List.map_cons, List.map_nil, List.take_succ_cons, List.take_zero, List.drop_succ_cons, List.drop_zero, List.cons_append, List.nil_append, List.append_nil, LV_cells] at hds); (try dsimp only [cells_s, cells_emp, cells_agg, cells_list, cells_sl, cells_ptr, cells_ref, cells_fn, cells_vi, cells_vb, cells_vnil, constV, List.map_cons, List.map_nil, List.take_succ_cons, List.take_zero, List.drop_succ_cons, List.drop_zero, List.cons_append, List.nil_append, List.append_nil, LV_cells] at hds); subst hds)) | (refine ar_add s newDie hn ?_ ?_ rfl rfl rfl rfl rfl rfl (dc rfl) (dc rfl) <;> intro hrf) | (refine zbx ?_) | (refine ar_nil ?_) | (refine aw_seq ?_) | (refine aw_skip ?_) | (refine aw_block ?_) | (refine aw_exit ?_) | (refine aw_region ?_) | (refine zco ?_ ?_ <;> intro hg <;> first | exact absurd hg (by decide) | ((try replace hg := HG.out hg); (try dsimp only at hg); (try (have _h : True := hg; clear _h hg)); first | (exfalso; omega) | skip))))
  · (refine subq_n [] [.arr 4 1 (fun _ => stoG 4 2 (addS s newDie)), .dead, LB 2 Prt.enc s.prints, mapE vi p, LB 5 Itm.enc (s.items ++ [newDie])] ?_ ?_; (focus ((refine sub_to [some 0, some 1, some 2, some 3, some 5] [] rfl ?_ ?_ <;> (repeat' (first | exact trivial | refine ⟨⟨_, rfl, ?_⟩, ?_⟩ | refine ⟨bsub_snoc rfl rfl (fun _ => rfl) ?_, ?_⟩ | refine ⟨bsub_one rfl rfl ?_, ?_⟩ | refine ⟨bsub_all rfl rfl (fun _ _ => rfl) (fun _ => rfl), ?_⟩ | refine ⟨bsub_updL rfl rfl ?_ (fun _ _ _ => rfl) (fun _ => rfl), ?_⟩ | refine ⟨.inl ⟨_, _, rfl, rfl, ?_⟩, ?_⟩ | exact ⟨.inr ⟨rfl, rfl⟩, trivial⟩ | refine ⟨.inr ⟨rfl, rfl⟩, ?_⟩ | (intro _ _) | exact vz1 | (first | refine ⟨trivial, ?_⟩ | refine ⟨bsub_mapE rfl rfl (fun _ => rfl), ?_⟩ | exact VSub.aggL ⟨.closed rfl, .sl rfl, .sl rfl, .map rfl, trivial⟩) | exact vz2 | fail))); done)))
    exact bq0n ⟨by unfold engrE; rw [if_neg (by omega)], rfl, rfl⟩
  · intro H'
    have e : engrE s = 9 := by unfold engrE; rw [if_pos hrf]
    refine (?_ : engrE s ≠ 0 ∧ errV 9 = errV (engrE s))
    rw [e]
    exact ⟨by decide, rfl⟩
set_option maxHeartbeats 1000000 in
theorem destroy_p (s : Sto) (p : List (Int × Int)) (a : Deed) (hn : s.items.length ≤ 30) : ACalls Try.prog 110 [.ptr 4 0 0 0, a.enc] (stoB 0 s p) (fun v H => destE s a.item = 0 ∧ v = .tup [] ∧ H = stoB 0 (destF s a.item) p) (fun v _ => destE s a.item ≠ 0 ∧ v = errV (destE s a.item)) := by
  have bad : ∀ e : Int, destE s a.item = e → e ≠ 0 → ∀ H' : Heap, destE s a.item ≠ 0 ∧ errV e = errV (destE s a.item) := fun e h h0 _ => by rw [h]; exact ⟨h0, rfl⟩
  by_cases hh : hereB s a.item
  · have hlt : a.item.toNat < s.items.length := by unfold hereB at hh; omega
    refine acalls_of_aw Try.func110 rfl (Nat.le_of_ble_eq_true rfl) ?_; refine aw_post ?_
    (repeat' (first | (refine ar_isq ?_; first | refine zmv ?_ | refine zas ?_ | (refine is_load ?_; first | refine zlp ?_ | refine zlr ?_) | refine zneq ?_ | (refine is_fieldAddr ?_; first | refine zfp ?_ | refine zfr ?_) | refine zncp ?_ | refine zncr ?_) | (refine ar_item s hn ?_ ?_ rfl rfl rfl rfl rfl rfl (dc rfl) (dc rfl) <;> intro hrf) | (refine ar_refuse ?_ ?_ rfl rfl (dc rfl) <;> intro hrf <;> first | exact absurd hrf (by decide) | (try replace hrf := HG.out hrf)) | (refine zbx ?_) | (refine zsvs ?_) | (refine zsva ?_) | (refine zses ?_) | (refine zsea ?_) | (refine ar_nil ?_) | (refine aw_seq ?_) | (refine aw_skip ?_) | (refine aw_block ?_) | (refine aw_exit ?_) | (refine aw_region ?_) | (refine zco ?_ ?_ <;> intro hg <;> first | exact absurd hg (by decide) | ((try replace hg := HG.out hg); (try dsimp only at hg); (try (have _h : True := hg; clear _h hg)); first | (exfalso; omega) | skip))))
    all_goals first
      | (exact absurd hh (by assumption))
      | exact bad 2 (by unfold destE; rw [if_pos hh, if_pos (by omega)]) (by decide)
      | ((refine subq_n [] [.arr 4 1 (fun _ => stoV 0 (destF s a.item)), LB 5 Itm.enc (s.items.set a.item.toNat (gone1 (el s.items a.item.toNat))), LB 2 Prt.enc s.prints, mapE vi p] ?_ ?_; (focus ((refine sub_to [some 0, some 1, some 2, some 3] [] rfl ?_ ?_ <;> (repeat' (first | exact trivial | refine ⟨⟨_, rfl, ?_⟩, ?_⟩ | refine ⟨bsub_snoc rfl rfl (fun _ => rfl) ?_, ?_⟩ | refine ⟨bsub_one rfl rfl ?_, ?_⟩ | refine ⟨bsub_all rfl rfl (fun _ _ => rfl) (fun _ => rfl), ?_⟩ | refine ⟨bsub_updL rfl rfl ?_ (fun _ _ _ => rfl) (fun _ => rfl), ?_⟩ | refine ⟨.inl ⟨_, _, rfl, rfl, ?_⟩, ?_⟩ | exact ⟨.inr ⟨rfl, rfl⟩, trivial⟩ | refine ⟨.inr ⟨rfl, rfl⟩, ?_⟩ | (intro _ _) | exact vz1 | (first | refine ⟨bsub_set (gone1 (el s.items a.item.toNat)) rfl hlt rfl rfl, ?_⟩ | refine ⟨bsub_mapE rfl rfl (fun _ => rfl), ?_⟩ | exact VSub.aggL ⟨.closed rfl, slEq rfl (by simp [destF, setS]), .sl rfl, .map rfl, trivial⟩) | exact vz2 | fail))); done)))
         exact bq0n ⟨by unfold destE; rw [if_pos hh, if_neg (by omega)], rfl, rfl⟩)
      | trace_state
  · refine acalls_of_aw Try.func110 rfl (Nat.le_of_ble_eq_true rfl) ?_
    (repeat' (first | (refine ar_isq ?_; first | refine zmv ?_ | refine zas ?_ | (refine is_load ?_; first | refine zlp ?_ | refine zlr ?_) | refine zneq ?_ | (refine is_fieldAddr ?_; first | refine zfp ?_ | refine zfr ?_) | refine zncp ?_ | refine zncr ?_) | (refine ar_item s hn ?_ ?_ rfl rfl rfl rfl rfl rfl (dc rfl) (dc rfl) <;> intro hrf <;> (try exact absurd hrf hh)) | (refine zbx ?_) | (refine zsvs ?_) | (refine zsva ?_) | (refine zses ?_) | (refine zsea ?_) | (refine ar_nil ?_) | (refine aw_seq ?_) | (refine aw_skip ?_) | (refine aw_block ?_) | (refine aw_exit ?_) | (refine aw_region ?_) | (refine zco ?_ ?_ <;> intro hg <;> first | exact absurd hg (by decide) | ((try replace hg := HG.out hg); (try dsimp only at hg); (try (have _h : True := hg; clear _h hg)); first | (exfalso; omega) | skip))))
    all_goals exact bad 6 (by unfold destE; rw [if_neg hh]) (by decide)
set_option maxHeartbeats 2000000 in
theorem transfer_p (s : Sto) (p : List (Int × Int)) (a : Deed) (hV : Valid s) : ACalls Try.prog 105 [.ptr 4 0 0 0, a.enc] (stoB 0 s p) (fun v H => transE s a.item = 0 ∧ v = .tup [] ∧ H = WI (transF s a.item) p) (fun v _ => transE s a.item ≠ 0 ∧ v = errV (transE s a.item)) := by
  have hfew := hV.1
  unfold Few at hfew
  have hn := hfew.2.1
  have bad : ∀ e : Int, transE s a.item = e → e ≠ 0 → ∀ H' : Heap, transE s a.item ≠ 0 ∧ errV e = errV (transE s a.item) := fun e h h0 _ => by rw [h]; exact ⟨h0, rfl⟩
  by_cases hh : hereB s a.item
  · have hlt : a.item.toNat < s.items.length := by unfold hereB at hh; omega
    have h0 := hh.1
    have hm := hV.2.1 a.item.toNat hlt
    unfold Made at hm
    have hu := hV.2.2.2.2 a.item.toNat hlt
    have hul := usedI_bnd s.items a.item.toNat s.items.length
    have hup := usedP_bnd s.prints a.item.toNat s.prints.length
    have hu1 := hu.1
    unfold usedS at hu1
    have hel : el (s.items ++ [made1 (el s.items a.item.toNat) a.item]) a.item.toNat = el s.items a.item.toNat := el_app_lt hlt
    have hj2 : a.item.toNat < (s.items ++ [made1 (el s.items a.item.toNat) a.item]).length := by rw [List.length_append]; omega
    have hue : (el (s.items ++ [made1 (el s.items a.item.toNat) a.item]) a.item.toNat).uses = (el s.items a.item.toNat).uses := by rw [hel]
    have hal : (addS s (made1 (el s.items a.item.toNat) a.item)).items.length = s.items.length + 1 := by simp [addS]
    have hset : (s.items ++ [made1 (el s.items a.item.toNat) a.item]).set a.item.toNat (used1 (el s.items a.item.toNat) 1) = (transF s a.item).items := List.set_append_left _ _ hlt
    refine acalls_of_aw Try.func105 rfl (Nat.le_of_ble_eq_true rfl) ?_; refine aw_post ?_
    (repeat' (first | (refine ar_isq ?_; first | refine zmv ?_ | refine zas ?_ | (refine is_load ?_; first | refine zlp ?_ | refine zlr ?_) | (refine is_binOp ?_; first | refine zeql ?_ | refine zneq ?_ | refine zadd ?_ | refine zaddu8 ?_) | (refine is_fieldAddr ?_; first | refine zfp ?_ | refine zfr ?_) | (refine is_indexAddr ?_; first | refine zil ?_ | refine zis ?_ | refine zit ?_ | refine zia ?_ | refine zir ?_ | refine zil (j := a.item.toNat) ?_ | refine zis (j := a.item.toNat) ?_ | refine zit (j := a.item.toNat) ?_ | (refine zxl ?_; intro _ _ _) | (refine zxs ?_; intro _ _ _)) | (refine is_pick ?_; first | refine zpt ?_ | refine zpf ?_) | refine zncp ?_ | refine zncr ?_ | (refine ar_buildT ?_ (by exact ty rfl) (by exact rfl) (by exact sizes rfl) (by exact rfl) (by exact rfl) (by exact build rfl) (by exact dc rfl); intro _ hds; (try dsimp only [List.toList_toArray, cells_s, cells_emp, cells_agg, cells_list, cells_sl, cells_ptr, cells_ref, cells_fn, cells_vi, cells_vb, cells_vnil, constV, List.map_cons, List.map_nil, List.take_succ_cons, List.take_zero, List.drop_succ_cons, List.drop_zero, List.cons_append, List.nil_append, List.append_nil, LV_cells] at hds); (try dsimp only [cells_s, cells_emp, cells_agg, cells_list, cells_sl, cells_ptr, cells_ref, cells_fn, cells_vi, cells_vb, cells_vnil, constV, List.map_cons, List.map_nil, List.take_succ_cons, List.take_zero, List.drop_succ_cons, List.drop_zero, List.cons_append, List.nil_append, List.append_nil, LV_cells] at hds); subst hds)) | (refine ar_item s hn ?_ ?_ rfl rfl rfl rfl rfl rfl (dc rfl) (dc rfl) <;> intro hrf) | (refine ar_refuse ?_ ?_ rfl rfl (dc rfl) <;> intro hrf <;> first | exact absurd hrf (by decide) | (try replace hrf := HG.out hrf)) | (refine ar_add s (made1 (el s.items a.item.toNat) a.item) hn ?_ ?_ rfl rfl rfl rfl rfl rfl (dc rfl) (dc rfl) <;> intro hrf) | (refine zbx ?_) | (refine zsvs ?_) | (refine zsva ?_) | (refine zses ?_) | (refine zsea ?_) | (refine zg ?_ ?_ <;> intro hg <;> first | exact absurd hg (by decide) | ((try replace hg := HG.out hg); (try dsimp only at hg); (try (have _h : True := hg; clear _h hg)); first | (exfalso; omega) | skip)) | (refine zgu ?_) | (refine ar_nil ?_) | (refine aw_seq ?_) | (refine aw_skip ?_) | (refine aw_block ?_) | (refine aw_exit ?_) | (refine aw_region ?_) | (refine aw_drawn (id := 4) [(0, 0), (1, 0), (2, 0), (3, 0), (4, 0), (5, 0), (6, 0), (7, 0), (8, 0), (9, 2)] mixed (by kernel_rfl) ?_) | (refine aw_drawn (id := 4) [(0, 0), (1, 0), (2, 0), (3, 0), (4, 0), (5, 0), (6, 0), (7, 0), (8, 0), (9, 1)] mixed (by kernel_rfl) ?_) | (refine aw_drawn (id := 5) [(0, 0), (1, 0), (2, 0), (3, 0), (4, 0), (5, 0), (6, 0), (7, 0), (8, 0), (9, 0), (10, 0), (11, 0), (12, 0), (13, 2)] mixed (by kernel_rfl) ?_) | (refine zco ?_ ?_ <;> intro hg <;> first | exact absurd hg (by decide) | ((try replace hg := HG.out hg); (try dsimp only at hg); (try (have _h : True := hg; clear _h hg)); first | (exfalso; omega) | skip))))
    all_goals first
      | (exact absurd hh (by assumption))
      | exact bad 2 (by unfold transE; rw [if_pos hh, if_pos (by omega)]) (by decide)
      | exact bad 81 (by unfold transE; rw [if_pos hh, if_neg (by omega), if_pos (by omega)]) (by decide)
      | exact bad 9 (by unfold transE; rw [if_pos hh, if_neg (by omega), if_neg (by omega), if_pos (by omega)]) (by decide)
      | ((refine subq_n [] [.arr 4 1 (fun _ => stoG 4 2 (transF s a.item)), .dead, LB 2 Prt.enc s.prints, mapE vi p, LB 5 Itm.enc ((s.items ++ [made1 (el s.items a.item.toNat) a.item]).set a.item.toNat (used1 (el s.items a.item.toNat) 1))] ?_ ?_; (focus ((refine sub_to [some 0, some 1, some 2, some 3, some 5] [] rfl ?_ ?_ <;> (repeat' (first | exact trivial | refine ⟨⟨_, rfl, ?_⟩, ?_⟩ | refine ⟨bsub_snoc rfl rfl (fun _ => rfl) ?_, ?_⟩ | refine ⟨bsub_one rfl rfl ?_, ?_⟩ | refine ⟨bsub_all rfl rfl (fun _ _ => rfl) (fun _ => rfl), ?_⟩ | refine ⟨bsub_updL rfl rfl ?_ (fun _ _ _ => rfl) (fun _ => rfl), ?_⟩ | refine ⟨.inl ⟨_, _, rfl, rfl, ?_⟩, ?_⟩ | exact ⟨.inr ⟨rfl, rfl⟩, trivial⟩ | refine ⟨.inr ⟨rfl, rfl⟩, ?_⟩ | (intro _ _) | exact vz1 | (first | refine ⟨trivial, ?_⟩ | refine ⟨bsub_set (used1 (el s.items a.item.toNat) 1) rfl (by simp; omega) rfl (by rw [hel]; rfl), ?_⟩ | refine ⟨bsub_mapE rfl rfl (fun _ => rfl), ?_⟩ | exact VSub.aggL ⟨.closed rfl, slEq rfl (by simp [addS, transF, setS]), .sl rfl, .map rfl, trivial⟩) | exact vz2 | fail))); done)))
         exact bq0n ⟨by unfold transE; rw [if_pos hh, if_neg (by omega), if_neg (by omega), if_neg (by omega)], rfl, by rw [hset]; rfl⟩)
      | trace_state
  · refine acalls_of_aw Try.func105 rfl (Nat.le_of_ble_eq_true rfl) ?_
    (repeat' (first | (refine ar_isq ?_; first | refine zmv ?_ | refine zas ?_ | (refine is_load ?_; first | refine zlp ?_ | refine zlr ?_) | (refine is_binOp ?_; first | refine zeql ?_ | refine zneq ?_ | refine zadd ?_ | refine zaddu8 ?_) | (refine is_fieldAddr ?_; first | refine zfp ?_ | refine zfr ?_) | (refine is_indexAddr ?_; first | refine zil ?_ | refine zis ?_ | refine zit ?_ | refine zia ?_ | refine zir ?_ | (refine zxl ?_; intro _ _ _) | (refine zxs ?_; intro _ _ _)) | (refine is_pick ?_; first | refine zpt ?_ | refine zpf ?_) | refine zncp ?_ | refine zncr ?_ | (refine ar_buildT ?_ (by exact ty rfl) (by exact rfl) (by exact sizes rfl) (by exact rfl) (by exact rfl) (by exact build rfl) (by exact dc rfl); intro _ hds; (try dsimp only [List.toList_toArray, cells_s, cells_emp, cells_agg, cells_list, cells_sl, cells_ptr, cells_ref, cells_fn, cells_vi, cells_vb, cells_vnil, constV, List.map_cons, List.map_nil, List.take_succ_cons, List.take_zero, List.drop_succ_cons, List.drop_zero, List.cons_append, List.nil_append, List.append_nil, LV_cells] at hds); (try dsimp only [cells_s, cells_emp, cells_agg, cells_list, cells_sl, cells_ptr, cells_ref, cells_fn, cells_vi, cells_vb, cells_vnil, constV, List.map_cons, List.map_nil, List.take_succ_cons, List.take_zero, List.drop_succ_cons, List.drop_zero, List.cons_append, List.nil_append, List.append_nil, LV_cells] at hds); subst hds)) | (refine ar_item s hn ?_ ?_ rfl rfl rfl rfl rfl rfl (dc rfl) (dc rfl) <;> intro hrf <;> (try exact absurd hrf hh)) | (refine zbx ?_) | (refine zsvs ?_) | (refine zsva ?_) | (refine zses ?_) | (refine zsea ?_) | (refine zg ?_ ?_ <;> intro hg <;> first | exact absurd hg (by decide) | ((try replace hg := HG.out hg); (try dsimp only at hg); (try (have _h : True := hg; clear _h hg)); first | (exfalso; omega) | skip)) | (refine zgu ?_) | (refine ar_nil ?_) | (refine aw_seq ?_) | (refine aw_skip ?_) | (refine aw_block ?_) | (refine aw_exit ?_) | (refine aw_region ?_) | (refine aw_drawn (id := 4) [(0, 0), (1, 0), (2, 0), (3, 0), (4, 0), (5, 0), (6, 0), (7, 0), (8, 0), (9, 1)] mixed (by kernel_rfl) ?_) | (refine aw_drawn (id := 4) [(0, 0), (1, 0), (2, 0), (3, 0), (4, 0), (5, 0), (6, 0), (7, 0), (8, 0), (9, 2)] mixed (by kernel_rfl) ?_) | (refine aw_drawn (id := 5) [(0, 0), (1, 0), (2, 0), (3, 0), (4, 0), (5, 0), (6, 0), (7, 0), (8, 0), (9, 0), (10, 0), (11, 0), (12, 0), (13, 2)] mixed (by kernel_rfl) ?_) | (refine zco ?_ ?_ <;> intro hg <;> first | exact absurd hg (by decide) | ((try replace hg := HG.out hg); (try dsimp only at hg); (try (have _h : True := hg; clear _h hg)); first | (exfalso; omega) | skip))))
    all_goals exact bad 6 (by unfold transE; rw [if_neg hh]) (by decide)
end Go.Proofs.Ythpbjihnikapoaa
namespace Go.Proofs.Ythpbjihnikapoaa
open Go.RowKit
section
variable {P : Program} {r : Option Nat} {m nt : Nat} {Q : Post} {env : Env} {H : Heap} {ops : Array Oper} {l : List Stp} {ty : TypeId} {pos : String} {after : Array Edge} {x y : Operand} {T T2 E : TypeId} {d de : TyD} {dst : Option Tmp} {guard : Option (Nat × Bool)}
theorem run_copy_rowN {w : World} {ii : TypeInfo} {cb o n c k cap : Nat} {ad : Addr} {cs : Array Value} {t : TypeId} {news : List Value} (hu : P.underlying T = some (.slice E)) (hi : P.info? E = some ii) (hg : w.heap[cb]? = some (.cells cs t (0, 0))) (hn : news.length = Nat.min k n * ii.size)
    (hsrc : ∀ j v, news[j]? = some v → w.cell? (ad.add j) = some v) (hfit : o + news.length ≤ cs.size) (h1 : ∀ v ∈ news, v.oneCell' = true) :
    (Builtin.copy_ #[T, T2] ty #[.slice (some ⟨cb, o, none⟩) n c, .slice (some ad) k cap]).run P w = .ok (goInt (Nat.min k n)) (w.setRow cb (cs.toList.take o ++ news ++ cs.toList.drop (o + news.length)).toArray) := by
  have hl := run_firstCells_some (P := P) w ii.size (Nat.min k n) ad k cap news hn hsrc
  have hst := run_storeCells_at P cb o t news 0 cs w hg (by simpa using hfit) h1
  simp only [Nat.add_zero] at hst
  simp [Builtin.copy_, run_underlying hu, Builtin.lenOf, sizeOf, typeInfo, hi, hl, hst]
theorem run_copy_noneN {w : World} {ii : TypeInfo} {A B : Option Addr} {n c k cap : Nat} (hu : P.underlying T = some (.slice E)) (hi : P.info? E = some ii) (hn : Nat.min k n = 0) :
    (Builtin.copy_ #[T, T2] ty #[.slice A n c, .slice B k cap]).run P w = .ok (goInt 0) w := by
  have h := firstCells_run (P := P) (w := w) (size := ii.size) (k := 0) (cap := cap) (A := B) (news := []) (by simp) (fun h => by omega)
  have h' : (Builtin.firstCells ii.size 0 (.slice B k cap)).run P w = .ok #[] w := by cases B <;> simp [Builtin.firstCells, loadCells, loadCellsFrom]
  cases A <;> simp [Builtin.copy_, run_underlying hu, Builtin.lenOf, sizeOf, typeInfo, hi, hn, h', storeCells]
theorem ls_copyN {yv : V} {sz b i n N k : Nat} {f g : Nat → V} (ht : TyIs P T d) (hk : d.tk = .slice E) (he : TyIs P E de) (hs1 : de.size = sz) (hx : eo env x = some (.sl sz b i n)) (hH : H[b]? = some (.arr sz N f)) (hN : i + n ≤ N) (hy : eo env y = some yv) (hs : Src H yv sz k g)
    (hone : ∀ j, j < k → (g j).cells.all V.one = true) :
    LS P r m nt false env H ⟨dst, .call ⟨.builtin .copy, #[x, y], #[T, T2]⟩, ty, pos, after, guard⟩ (fun u H' => u = vi (Nat.min k n) ∧ H' = H.set b (.arr sz N (copyF f i (Nat.min k n) g))) NoP := .mk
  fun X I ρ a w next Qx hX hS hK hp => by
    obtain ⟨hE, hw, hdf⟩ := hS
    have hu := eo_rel hE hx
    have hv := eo_rel hE hy
    obtain ⟨ii, hi, hsz, hby, hz0⟩ := he.inf
    obtain ⟨B, cap, news, ey, hnl, hnc, hgsz, hgr⟩ := src_cells hw hs hv
    have hex : ∀ {res : Value} {w' : World}, (Builtin.copy_ #[T, T2] ty #[a.eval x, a.eval y]).run P w = .ok res w' → (execOp a.eval ⟨dst, .call ⟨.builtin .copy, #[x, y], #[T, T2]⟩, ty, pos, after, guard⟩).run P w = .ok (.value res) w' := fun h => by
      simp [execOp, resolve, invoke, builtin, h]
    by_cases h0 : Nat.min k n = 0
    · have hset : H.set b (.arr sz N (copyF f i (Nat.min k n) g)) = H := by
        rw [h0, show copyF f i 0 g = f from funext fun j => copyF_out (by omega)]
        obtain ⟨hb, e⟩ := List.getElem?_eq_some_iff.1 hH
        rw [← e, List.set_getElem_self]
      obtain ⟨A, c, ex⟩ : ∃ A c, a.eval x = .slice A n c := by
        rcases hu.sl_inv with ⟨cb, z, c, e, _⟩ | ⟨A, e, _, _, rfl⟩
        · exact ⟨_, _, e⟩
        · exact ⟨_, _, e⟩
      have hr := run_copy_noneN (P := P) (w := w) (ty := ty) (T2 := T2) (A := A) (B := B) (c := c) (cap := cap) (ht.slice hk) hi h0
      rw [← ex, ← ey] at hr
      refine wpIn_of_run (by simp) (hex hr) ?_
      exact hK I ρ _ (vi 0) _ _ ⟨by rw [h0]; rfl, rfl⟩ (Imm.le_refl _) (Pre.refl _) (by rw [hset]; exact hw) (.s _) (by simp)
    · rcases hu.sl_inv with ⟨cb, z, c, ex, hb, hnc', hcm, hz'⟩ | ⟨A, _, _, _, rfl⟩
      · have hk0 : 0 < k := by have : Nat.min k n ≤ k := Nat.min_le_left _ _; omega
        have hmk : Nat.min k n ≤ k := Nat.min_le_left _ _
        have hmn : Nat.min k n ≤ n := Nat.min_le_right _ _
        obtain ⟨ad, rfl, hspot, hcell⟩ := hnc hk0
        obtain ⟨cs, t, hcs, hz, hn, hr⟩ := hw.arr _ _ _ _ _ _ hH hb
        have hgl := hw.size _ _ _ _ hH
        generalize hM : Nat.min k n = M at *
        have hMk : M * sz ≤ k * sz := Nat.mul_le_mul_right _ hmk
        have hcl : (news.take (M * sz)).length = M * sz := by rw [List.length_take]; omega
        have hiM : (i + M) * sz ≤ N * sz := Nat.mul_le_mul_right _ (by omega)
        rw [Nat.add_mul] at hiM
        have hones : ∀ u ∈ news.take (M * sz), u.oneCell' = true := fun u hu => by
          obtain ⟨t, hlt, rfl⟩ := List.getElem_of_mem hu
          rw [hcl] at hlt
          have hpos : 0 < sz := by rcases Nat.eq_zero_or_pos sz with h | h; subst h; simp at hlt; exact h
          have hi1 : t / sz < M := (Nat.div_lt_iff_lt_mul hpos).2 hlt
          have hj1 := Nat.mod_lt t hpos
          have e := Nat.div_add_mod' t sz
          obtain ⟨q, h1, h2⟩ := hgr (t / sz) (t % sz) ((g (t / sz)).cells[t % sz]'(by rw [hgsz _ (by omega)]; exact hj1)) (by omega) (by simp [hgsz _ (show t / sz < k by omega), hj1])
          rw [e] at h1
          have : (news.take (M * sz))[t] = q := by
            rw [List.getElem_take]
            rw [List.getElem?_eq_getElem (by rw [hnl]; omega)] at h1
            exact Option.some.inj h1
          rw [this]
          exact h2.one (List.all_eq_true.1 (hone _ (by omega)) _ (List.getElem_mem _))
        have hfit : i * sz + (news.take (M * sz)).length ≤ cs.size := by rw [hcl]; omega
        have hrun := run_copy_rowN (P := P) (w := w) (ty := ty) (T2 := T2) (n := n) (c := c) (k := k) (cap := cap) (o := i * sz) (ad := ad) (news := news.take (M * sz)) (ht.slice hk) hi hcs (by rw [hcl, hM, hsz, hs1]) (fun j v hj => by
          refine hcell w rfl j v ?_
          rw [List.getElem?_take] at hj
          split at hj
          · exact hj
          · cases hj) hfit hones
        rw [← ex, ← ey, hM] at hrun
        refine wpIn_of_run (by simp) (hex hrun) ?_
        obtain ⟨s1, s2, s3⟩ := setRow_facts (new := (cs.toList.take (i * sz) ++ news.take (M * sz) ++ cs.toList.drop (i * sz + (news.take (M * sz)).length)).toArray) hcs
        refine hK I ρ _ _ _ _ ⟨rfl, rfl⟩ (Imm.le_refl _) (Pre.refl _) (hw.write hH hb (by simp; simp at hfit; omega) (fun j hj => ?_) ?_ s1 s2 s3 rfl rfl rfl) (.s _) (by simp)
        · by_cases h1 : i ≤ j ∧ j < i + M
          · rw [copyF_in h1.1 h1.2]; exact hgsz _ (by omega)
          · rw [copyF_out (by omega)]; exact hgl j hj
        · intro j q v hj hv
          simp only [List.getElem?_toArray]
          rw [splice_get (by simpa using hfit), hcl]
          by_cases h1 : i ≤ j ∧ j < i + M
          · rw [copyF_in h1.1 h1.2] at hv
            have hq : q < sz := by have := (List.getElem?_eq_some_iff.1 hv).1; rw [hgsz _ (by omega)] at this; exact this
            obtain ⟨u, h2, h4⟩ := hgr (j - i) q v (by omega) hv
            have e1 : j * sz = i * sz + (j - i) * sz := by rw [← Nat.add_mul]; congr 1; omega
            have e2 : (j - i) * sz + sz ≤ M * sz := by rw [← Nat.succ_mul]; exact Nat.mul_le_mul_right _ (by omega)
            refine ⟨u, ?_, h4⟩
            rw [if_pos (by omega), List.getElem?_take, if_pos (by omega), ← h2]
            congr 1
            omega
          · rw [copyF_out (by omega)] at hv
            have hq : q < sz := by have := (List.getElem?_eq_some_iff.1 hv).1; rw [hgl j hj] at this; exact this
            obtain ⟨u, h2, h3⟩ := hr j q v hj hv
            refine ⟨u, ?_, h3⟩
            rw [if_neg ?_]
            · simpa using h2
            · rintro ⟨h4, h5⟩
              rcases Nat.lt_or_ge j i with h6 | h6
              · have : j * sz + sz ≤ i * sz := by rw [← Nat.succ_mul]; exact Nat.mul_le_mul_right _ h6
                omega
              · have : (i + M) * sz ≤ j * sz := Nat.mul_le_mul_right _ (by omega)
                rw [Nat.add_mul] at this
                omega
      · exact (h0 (by simp)).elim
theorem ar_copyN {yv : V} {sz b i n N k e : Nat} {f g : Nat → V} {j : Nat} (ht : TyIs P T d) (hk : d.tk = .slice E) (he : TyIs P E de) (hs1 : de.size = sz) (hx : eo env x = some (.sl sz b i n)) (hH : H[b]? = some (.arr sz N f)) (hN : i + n ≤ N) (hy : eo env y = some yv) (hs : Src H yv sz k g)
    (hone : ∀ j, j < k → (g j).cells.all V.one = true) (hd : e < nt) (h : AR P r m nt ops Q l ((e, vi (Nat.min k n)) :: env) (H.set b (.arr sz N (copyF f i (Nat.min k n) g)))) :
    AR P r m nt ops Q (.l j ⟨some e, .call ⟨.builtin .copy, #[x, y], #[T, T2]⟩, ty, pos, after, none⟩ false :: l) env H :=
  ar_l (ls_copyN ht hk he hs1 hx hH hN hy hs hone) hd (fun v H' ⟨a, b⟩ => by subst a; subst b; exact h) (fun _ _ h => h.elim)
end
end Go.Proofs.Ythpbjihnikapoaa
namespace Go.Proofs.Ythpbjihnikapoaa
open Go.RowKit
def repP (q : Prt) (m j : Nat) : V := bif Nat.blt j m then q.enc else Prt.enc ⟨0, 0⟩
theorem repP_in {q : Prt} {m j : Nat} (h : j < m) : repP q m j = q.enc := by
  have : Nat.blt j m = true := by rw [Nat.blt_eq]; exact h
  simp [repP, this]
theorem repP_out {q : Prt} {m j : Nat} (h : m ≤ j) : repP q m j = Prt.enc ⟨0, 0⟩ := by
  have : Nat.blt j m = false := by cases e : Nat.blt j m with | false => rfl | true => rw [Nat.blt_eq] at e; omega
  simp [repP, this]
theorem repP_closed (q : Prt) (m j : Nat) : (repP q m j).closed = true := by
  by_cases h : j < m
  · rw [repP_in h]; rfl
  · rw [repP_out (by omega)]; rfl
theorem repP_one (q : Prt) (m j : Nat) : (repP q m j).cells.all V.one = true := by
  by_cases h : j < m
  · rw [repP_in h]; rfl
  · rw [repP_out (by omega)]; rfl
theorem copy_repP0 (q : Prt) (c i : Nat) (hc : c ≤ 1) : copyF (fun _ => Prt.enc ⟨0, 0⟩) 0 c (fun j => (el [q] j).enc) i = repP q c i := by
  by_cases h : i < c
  · rw [copyF_in (Nat.zero_le _) (by omega), repP_in h, show i - 0 = 0 by omega]
    rfl
  · rw [copyF_out (by omega), repP_out (by omega)]
theorem copy_repP {q : Prt} {m c : Nat} (hc : c ≤ m) (i : Nat) : copyF (repP q m) m c (fun j => repP q m (0 + j)) i = repP q (m + c) i := by
  by_cases h : i < m
  · rw [copyF_out (by omega), repP_in h, repP_in (by omega)]
  · by_cases h2 : i < m + c
    · rw [copyF_in (by omega) h2, Nat.zero_add, repP_in (by omega), repP_in h2]
    · rw [copyF_out (by omega), repP_out (by omega), repP_out (by omega)]
set_option maxHeartbeats 2000000 in
theorem repeatP_p (q : Prt) (n : Nat) (hn : n ≤ 1000) : PCalls Try.prog 117 [encPrints [q], vi n] (· = encPrints (List.replicate n q)) := by
  have h1 : [q].length = 1 := rfl
  have hT' : (0 : Int) ≤ ([q].length : Int) * (n : Int) ∧ ([q].length : Int) * (n : Int) ≤ 100000 := by rw [← Int.natCast_mul, h1]; omega
  refine pcalls_of_aw Try.func117 rfl (Nat.le_of_ble_eq_true rfl) ?_
  (repeat' (first | (refine ar_isq ?_; first | refine zmv ?_ | refine zas ?_ | (refine is_binOp ?_; first | refine zlss ?_ | refine zgtr ?_ | refine zadd ?_) | (refine is_call ?_; first | refine zll ?_ | refine zls ?_ | refine zln ?_ | refine zle ?_) | (refine is_pick ?_; first | refine zpt ?_ | refine zpf ?_) | refine zex ?_ | refine zcv ?_ | refine zcvu64 ?_) | (refine ar_pcall (own := false) fn111 rfl rfl (.cons (.closed rfl) (.cons (.closed rfl) .nil)) (mul_p _ _ (by omega) (by omega) (by omega)) (by simp) (dc rfl) ?_; intro _ hv; subst hv) | (refine ar_make_v (n := n) (ty rfl) rfl (ty rfl) rfl rfl (by rw [h1]; omega) (by rw [h1]; omega) (dc rfl) rfl rfl (by dsimp only; omega) (maxLen_ok (by omega)) ?_) | (refine ar_copyN (ty rfl) rfl (ty rfl) rfl rfl rfl (by omega) rfl (.inl rfl) (fun _ _ => rfl) (dc rfl) ?_) | (refine zcl ?_) | (refine zcs ?_) | (refine zcpl ?_) | (refine zcpo ?_) | (refine zg ?_ ?_ <;> intro hg <;> first | exact absurd hg (by decide) | ((try replace hg := HG.out hg); (try dsimp only at hg); (try (have _h : True := hg; clear _h hg)); first | (exfalso; omega) | skip)) | (refine zgu ?_) | (refine ar_nil ?_) | (refine aw_seq ?_) | (refine aw_skip ?_) | (refine aw_block ?_) | (refine aw_exit ?_) | (refine aw_region ?_) | (refine aw_drawn (id := 9) [(0, 0), (1, 0), (2, 0), (3, 0), (4, 0), (5, 0), (6, 0), (7, 2), (8, 0), (9, 0)] mixed (by kernel_rfl) ?_) | (refine zco ?_ ?_ <;> intro hg <;> first | exact absurd hg (by decide) | ((try replace hg := HG.out hg); (try dsimp only at hg); (try (have _h : True := hg; clear _h hg)); first | (exfalso; omega) | skip))))
  all_goals (try (exfalso; omega))
  have hfl := fillN_le 1 n
  refine aw_for n (fun _ => True) (fun k => [(7, .sl 2 0 0 n), (8, vi (fillN 1 n k))]) (fun k => [.arr 2 n (repP q (fillN 1 n k))]) trivial ?_ ?_
  · (refine sub_to [some 0] [] rfl ?_ ?_ <;> (repeat' (first | exact trivial | refine ⟨⟨_, rfl, ?_⟩, ?_⟩ | refine ⟨bsub_snoc rfl rfl (fun _ => rfl) ?_, ?_⟩ | refine ⟨bsub_one rfl rfl ?_, ?_⟩ | refine ⟨bsub_all rfl rfl (fun _ _ => rfl) (fun _ => rfl), ?_⟩ | refine ⟨bsub_updL rfl rfl ?_ (fun _ _ _ => rfl) (fun _ => rfl), ?_⟩ | refine ⟨.inl ⟨_, _, rfl, rfl, ?_⟩, ?_⟩ | exact ⟨.inr ⟨rfl, rfl⟩, trivial⟩ | refine ⟨.inr ⟨rfl, rfl⟩, ?_⟩ | (intro _ _) | exact vz1 | (first | exact siEq (by simp [fillN]; omega) | exact VSub.of_eq ((copy_repP0 q _ _ (Nat.min_le_left _ _)).trans (by simp [fillN])) (repP_closed _ _ _)) | exact vz2 | fail)))
  intro k hk _
  have hf := hfl k
  by_cases hlt : fillN 1 n k < n
  · obtain ⟨hd, hkf⟩ := fillN_mod [true] n (by decide) k hlt
    have hmin : (fillN 1 n k - 0).min (n - fillN 1 n k) ≤ n - fillN 1 n k := Nat.min_le_right _ _
    have hkf : k < fillN 1 n k := hkf
    (repeat' (first | (refine ar_isq ?_; first | refine zmv ?_ | refine zas ?_ | (refine is_binOp ?_; first | refine zlss ?_ | refine zgtr ?_ | refine zadd ?_) | (refine is_call ?_; first | refine zll ?_ | refine zls ?_ | refine zln ?_ | refine zle ?_) | (refine is_pick ?_; first | refine zpt ?_ | refine zpf ?_) | refine zex ?_ | refine zcv ?_ | refine zcvu64 ?_) | (refine ar_copyN (ty rfl) rfl (ty rfl) rfl rfl rfl (by omega) rfl (.inr (.inl ⟨_, _, _, _, rfl, rfl, (by omega), rfl⟩)) (fun _ _ => repP_one _ _ _) (dc rfl) ?_) | (refine zcl (a := fillN 1 n k) (b := n) ?_) | (refine zcs (a := fillN 1 n k) (b := n) ?_) | (refine zcl (a := 0) (b := fillN 1 n k) ?_) | (refine zcs (a := 0) (b := fillN 1 n k) ?_) | (refine zcpl ?_) | (refine zcpo ?_) | (refine zg ?_ ?_ <;> intro hg <;> first | exact absurd hg (by decide) | ((try replace hg := HG.out hg); (try dsimp only at hg); (try (have _h : True := hg; clear _h hg)); first | (exfalso; omega) | skip)) | (refine zgu ?_) | (refine ar_nil ?_) | (refine aw_seq ?_) | (refine aw_skip ?_) | (refine aw_block ?_) | (refine aw_exit ?_) | (refine aw_region ?_) | (refine aw_drawn (id := 9) [(0, 0), (1, 0), (2, 0), (3, 0), (4, 0), (5, 0), (6, 0), (7, 2), (8, 0), (9, 0)] mixed (by kernel_rfl) ?_) | (refine zco ?_ ?_ <;> intro hg <;> first | exact absurd hg (by decide) | ((try replace hg := HG.out hg); (try dsimp only at hg); (try (have _h : True := hg; clear _h hg)); first | (exfalso; omega) | skip))))
    all_goals first
      | (exfalso; omega)
      | ((first | refine loop_next (by omega) ?_ ?_ | refine (show _ ∧ _ ∧ SubOf _ _ _ _ _ _ from And.intro (by omega) (And.intro ?_ ?_))); (focus ((trivial); done)); (focus ((refine sub_to [some 0] [] rfl ?_ ?_ <;> (repeat' (first | exact trivial | refine ⟨⟨_, rfl, ?_⟩, ?_⟩ | refine ⟨bsub_snoc rfl rfl (fun _ => rfl) ?_, ?_⟩ | refine ⟨bsub_one rfl rfl ?_, ?_⟩ | refine ⟨bsub_all rfl rfl (fun _ _ => rfl) (fun _ => rfl), ?_⟩ | refine ⟨bsub_updL rfl rfl ?_ (fun _ _ _ => rfl) (fun _ => rfl), ?_⟩ | refine ⟨.inl ⟨_, _, rfl, rfl, ?_⟩, ?_⟩ | exact ⟨.inr ⟨rfl, rfl⟩, trivial⟩ | refine ⟨.inr ⟨rfl, rfl⟩, ?_⟩ | (intro _ _) | exact vz1 | (first | exact siEq (by simp [fillN]; omega) | exact VSub.of_eq (by have := copy_repP (q := q) (c := min (fillN 1 n k) (n - fillN 1 n k)) (Nat.min_le_left (fillN 1 n k) _); simp only [Nat.zero_add, Nat.add_zero, Nat.sub_zero, fillN] at this ⊢; exact this _) (repP_closed _ _ _)) | exact vz2 | fail))); done)))
      | trace_state
  · (repeat' (first | (refine ar_isq ?_; first | refine zmv ?_ | refine zas ?_ | (refine is_binOp ?_; first | refine zlss ?_ | refine zgtr ?_ | refine zadd ?_) | (refine is_call ?_; first | refine zll ?_ | refine zls ?_ | refine zln ?_ | refine zle ?_) | (refine is_pick ?_; first | refine zpt ?_ | refine zpf ?_) | refine zex ?_ | refine zcv ?_ | refine zcvu64 ?_) | (refine zcl ?_) | (refine zcs ?_) | (refine zcpl ?_) | (refine zcpo ?_) | (refine zg ?_ ?_ <;> intro hg <;> first | exact absurd hg (by decide) | ((try replace hg := HG.out hg); (try dsimp only at hg); (try (have _h : True := hg; clear _h hg)); first | (exfalso; omega) | skip)) | (refine zgu ?_) | (refine ar_nil ?_) | (refine aw_seq ?_) | (refine aw_skip ?_) | (refine aw_block ?_) | (refine aw_exit ?_) | (refine aw_region ?_) | (refine aw_drawn (id := 9) [(0, 0), (1, 0), (2, 0), (3, 0), (4, 0), (5, 0), (6, 0), (7, 2), (8, 0), (9, 0)] mixed (by kernel_rfl) ?_) | (refine zco ?_ ?_ <;> intro hg <;> first | exact absurd hg (by decide) | ((try replace hg := HG.out hg); (try dsimp only at hg); (try (have _h : True := hg; clear _h hg)); first | (exfalso; omega) | skip))))
    all_goals first
      | (exfalso; omega)
      | ((refine aw_mono_r (env' := [(4, encPrints (List.replicate n q))]) (H' := []) ?_ ?_; (focus ((refine sub_to [] [0] rfl ?_ ?_ <;> (repeat' (first | exact trivial | refine ⟨⟨_, rfl, ?_⟩, ?_⟩ | refine ⟨bsub_snoc rfl rfl (fun _ => rfl) ?_, ?_⟩ | refine ⟨bsub_one rfl rfl ?_, ?_⟩ | refine ⟨bsub_all rfl rfl (fun _ _ => rfl) (fun _ => rfl), ?_⟩ | refine ⟨bsub_updL rfl rfl ?_ (fun _ _ _ => rfl) (fun _ => rfl), ?_⟩ | refine ⟨.inl ⟨_, _, rfl, rfl, ?_⟩, ?_⟩ | exact ⟨.inr ⟨rfl, rfl⟩, trivial⟩ | refine ⟨.inr ⟨rfl, rfl⟩, ?_⟩ | (intro _ _) | exact vz1 | (exact frz_as (by simp) rfl rfl (by simp) (fun i hi => by rw [el_replicate hi, repP_in (by omega)]) (fun _ => rfl)) | exact vz2 | fail))); done))); (refine aw_ret ?_; (repeat (first | refine ret_then ?_ | refine ret_block ?_)); refine bq1 rfl ⟨?_, rfl⟩); rfl)
      | trace_state
def idxP (p : Prt → Bool) (l : List Prt) : Int := match (List.range l.length).find? (fun i => p (el l i)) with | some i => (i : Int) | none => -1
theorem idxP_at {p : Prt → Bool} {l : List Prt} {i : Nat} (hi : i < l.length) (h0 : ∀ j, j < i → p (el l j) = false) (h : p (el l i) = true) : idxP p l = i := by
  have : (List.range l.length).find? (fun i => p (el l i)) = some i := by
    rw [List.find?_range_eq_some]
    exact ⟨h, by simpa using hi, fun j hj => by simp [h0 j hj]⟩
  unfold idxP
  rw [this]
theorem idxP_none {p : Prt → Bool} {l : List Prt} (h0 : ∀ j, j < l.length → p (el l j) = false) : idxP p l = -1 := by
  have : (List.range l.length).find? (fun i => p (el l i)) = none := by
    rw [List.find?_eq_none]
    intro j hj
    rw [List.mem_range] at hj
    simp [h0 j hj]
  unfold idxP
  rw [this]
theorem idxP_any (p : Prt → Bool) (l : List Prt) : decide (0 ≤ idxP p l) = l.any p := by
  cases h : l.any p
  · rw [List.any_eq_false] at h
    rw [idxP_none fun j hj => by simpa using h _ (el_mem hj)]
    rfl
  · rw [List.any_eq_true] at h
    obtain ⟨x, hx, hp⟩ := h
    obtain ⟨i, hi, rfl⟩ := mem_el hx
    unfold idxP
    split
    · simp
    · rename_i h0
      rw [List.find?_eq_none] at h0
      have := h0 i (by simpa using hi)
      simp [hp] at this
def spentB (x : Prt) : Bool := !decide (x.state = 0)
theorem spent1_p (x : Prt) : PCalls Try.prog 122 [x.enc] (· = vb (spentB x)) := by
  refine pcalls_of_aw Try.func122 rfl (Nat.le_of_ble_eq_true rfl) ?_
  (repeat' (first | (refine ar_isq ?_; first | refine zas ?_ | (refine is_load ?_; first | refine zlp ?_ | refine zlr ?_) | refine zneq ?_ | (refine is_fieldAddr ?_; first | refine zfp ?_ | refine zfr ?_)) | (refine zbx ?_) | (refine ar_nil ?_) | (refine aw_seq ?_) | (refine aw_skip ?_) | (refine aw_block ?_) | (refine aw_exit ?_) | (refine aw_region ?_) | (refine zco ?_ ?_ <;> intro hg <;> first | exact absurd hg (by decide) | ((try replace hg := HG.out hg); (try dsimp only at hg); (try (have _h : True := hg; clear _h hg)); first | (exfalso; omega) | skip))))
  (refine aw_ret ?_; (repeat (first | refine ret_then ?_ | refine ret_block ?_)); refine bq1 rfl ⟨?_, rfl⟩)
  rfl
set_option maxHeartbeats 1000000 in
theorem indexP_p (l : List Prt) : PCalls Try.prog 123 [encPrints l, .fn (.func 122) [] []] (· = vi (idxP spentB l)) := by
  (refine pcalls_know (fun I us h => rel_len (rel_arg h (j := 0) rfl)) fun hlen0 => ?_)
  refine pcalls_of_aw Try.func123 rfl (Nat.le_of_ble_eq_true rfl) ?_
  (repeat' (first | (refine ar_isq ?_; first | refine zmv ?_ | refine zas ?_ | (refine is_load ?_; first | refine zlp ?_ | refine zlr ?_) | (refine is_binOp ?_; first | refine zlss ?_ | refine zadd ?_) | (refine is_indexAddr ?_; first | refine zil ?_ | refine zis ?_ | refine zit ?_ | refine zia ?_ | refine zir ?_ | (refine zxl ?_; intro _ _ _) | (refine zxs ?_; intro _ _ _)) | (refine is_call ?_; first | refine zll ?_ | refine zls ?_ | refine zln ?_ | refine zle ?_)) | (refine ar_nil ?_) | (refine aw_seq ?_) | (refine aw_skip ?_) | (refine aw_block ?_) | (refine aw_exit ?_) | (refine aw_region ?_) | (refine zco ?_ ?_ <;> intro hg <;> first | exact absurd hg (by decide) | ((try replace hg := HG.out hg); (try dsimp only at hg); (try (have _h : True := hg; clear _h hg)); first | (exfalso; omega) | skip))))
  refine aw_for l.length (fun k => ∀ j, j < k → spentB (el l j) = false) (fun k => [(0, encPrints l), (1, .fn (.func 122) [] []), (7, vi l.length), (8, vi k)]) (fun _ => []) (fun j hj => by omega) ?_ ?_
  · (refine sub_to [] [] rfl ?_ ?_ <;> (repeat' (first | exact trivial | refine ⟨⟨_, rfl, ?_⟩, ?_⟩ | refine ⟨bsub_snoc rfl rfl (fun _ => rfl) ?_, ?_⟩ | refine ⟨bsub_one rfl rfl ?_, ?_⟩ | refine ⟨bsub_all rfl rfl (fun _ _ => rfl) (fun _ => rfl), ?_⟩ | refine ⟨bsub_updL rfl rfl ?_ (fun _ _ _ => rfl) (fun _ => rfl), ?_⟩ | refine ⟨.inl ⟨_, _, rfl, rfl, ?_⟩, ?_⟩ | exact ⟨.inr ⟨rfl, rfl⟩, trivial⟩ | refine ⟨.inr ⟨rfl, rfl⟩, ?_⟩ | (intro _ _) | exact vz1 | exact vz2 | fail)))
  intro k hk hJ
  by_cases hkn : k < l.length
  · (repeat' (first | (refine ar_isq ?_; first | refine zmv ?_ | refine zas ?_ | (refine is_load ?_; first | refine zlp ?_ | refine zlr ?_) | (refine is_binOp ?_; first | refine zlss ?_ | refine zadd ?_) | (refine is_indexAddr ?_; first | refine zil ?_ | refine zis ?_ | refine zit ?_ | refine zia ?_ | refine zir ?_ | refine zil (j := k) ?_ | refine zis (j := k) ?_ | refine zit (j := k) ?_ | (refine zxl ?_; intro _ _ _) | (refine zxs ?_; intro _ _ _)) | (refine is_call ?_; first | refine zll ?_ | refine zls ?_ | refine zln ?_ | refine zle ?_)) | (refine ar_pcall (own := false) fn122 rfl rfl (.cons (.closed rfl) .nil) (spent1_p (el l k)) (by simp) (dc rfl) ?_; intro _ hv; subst hv) | (refine ar_nil ?_) | (refine aw_seq ?_) | (refine aw_skip ?_) | (refine aw_block ?_) | (refine aw_exit ?_) | (refine aw_region ?_) | (refine zco ?_ ?_ <;> intro hg <;> first | exact absurd hg (by decide) | ((try replace hg := HG.out hg); (try dsimp only at hg); (try (have _h : True := hg; clear _h hg)); first | (exfalso; omega) | skip))))
    all_goals first
      | (exfalso; omega)
      | ((first | refine loop_next (by omega) ?_ ?_ | refine (show _ ∧ _ ∧ SubOf _ _ _ _ _ _ from And.intro (by omega) (And.intro ?_ ?_))); (focus ((exact all_step hJ (by assumption)); done)); (focus ((refine sub_to [] [] rfl ?_ ?_ <;> (repeat' (first | exact trivial | refine ⟨⟨_, rfl, ?_⟩, ?_⟩ | refine ⟨bsub_snoc rfl rfl (fun _ => rfl) ?_, ?_⟩ | refine ⟨bsub_one rfl rfl ?_, ?_⟩ | refine ⟨bsub_all rfl rfl (fun _ _ => rfl) (fun _ => rfl), ?_⟩ | refine ⟨bsub_updL rfl rfl ?_ (fun _ _ _ => rfl) (fun _ => rfl), ?_⟩ | refine ⟨.inl ⟨_, _, rfl, rfl, ?_⟩, ?_⟩ | exact ⟨.inr ⟨rfl, rfl⟩, trivial⟩ | refine ⟨.inr ⟨rfl, rfl⟩, ?_⟩ | (intro _ _) | exact vz1 | exact vz2 | fail))); done)))
      | ((refine aw_ret ?_; (repeat (first | refine ret_then ?_ | refine ret_block ?_)); refine bq1 rfl ⟨?_, rfl⟩); rw [idxP_at hkn hJ (by assumption)]; try rfl)
      | trace_state
  · (repeat' (first | (refine ar_isq ?_; first | refine zmv ?_ | refine zas ?_ | (refine is_load ?_; first | refine zlp ?_ | refine zlr ?_) | (refine is_binOp ?_; first | refine zlss ?_ | refine zadd ?_) | (refine is_indexAddr ?_; first | refine zil ?_ | refine zis ?_ | refine zit ?_ | refine zia ?_ | refine zir ?_ | (refine zxl ?_; intro _ _ _) | (refine zxs ?_; intro _ _ _)) | (refine is_call ?_; first | refine zll ?_ | refine zls ?_ | refine zln ?_ | refine zle ?_)) | (refine ar_nil ?_) | (refine aw_seq ?_) | (refine aw_skip ?_) | (refine aw_block ?_) | (refine aw_exit ?_) | (refine aw_region ?_) | (refine zco ?_ ?_ <;> intro hg <;> first | exact absurd hg (by decide) | ((try replace hg := HG.out hg); (try dsimp only at hg); (try (have _h : True := hg; clear _h hg)); first | (exfalso; omega) | skip))))
    all_goals first
      | (exfalso; omega)
      | ((refine aw_ret ?_; (repeat (first | refine ret_then ?_ | refine ret_block ?_)); refine bq1 rfl ⟨?_, rfl⟩); rw [idxP_none (fun j hj => hJ j (by omega))]; try rfl)
theorem containsP_p (l : List Prt) : PCalls Try.prog 121 [encPrints l, .fn (.func 122) [] []] (· = vb (l.any spentB)) := by
  refine pcalls_of_aw Try.func121 rfl (Nat.le_of_ble_eq_true rfl) ?_
  (repeat' (first | (refine ar_isq ?_; first | refine zmv ?_ | refine zas ?_ | refine zgeq ?_) | (refine ar_pcall (own := false) fn123 rfl rfl (.cons (.closed rfl) (.cons (.closed rfl) .nil)) (indexP_p l) (by simp) (dc rfl) ?_; intro _ hv; subst hv) | (refine ar_nil ?_) | (refine aw_seq ?_) | (refine aw_skip ?_) | (refine aw_block ?_) | (refine aw_exit ?_) | (refine aw_region ?_) | (refine zco ?_ ?_ <;> intro hg <;> first | exact absurd hg (by decide) | ((try replace hg := HG.out hg); (try dsimp only at hg); (try (have _h : True := hg; clear _h hg)); first | (exfalso; omega) | skip))))
  (refine aw_ret ?_; (repeat (first | refine ret_then ?_ | refine ret_block ?_)); refine bq1 rfl ⟨?_, rfl⟩)
  rw [← idxP_any]
  rfl
end Go.Proofs.Ythpbjihnikapoaa
