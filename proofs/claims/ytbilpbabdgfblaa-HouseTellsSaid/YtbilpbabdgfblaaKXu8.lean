/- Parts of the proof: a layer of values over the model, and contracts of functions. No condition. -/
import Derived.Test.YtbilpbabdgfblaaKXu7
set_option linter.unusedSimpArgs false
set_option linter.unusedVariables false
namespace Go.Proofs.Ytbilpbabdgfblaa
open Go.RowKit
def idxG {α : Type} [Inhabited α] (p : α → Bool) (l : List α) : Int := match (List.range l.length).find? (fun i => p (el l i)) with | some i => (i : Int) | none => -1
section
variable {α : Type} [Inhabited α]
theorem idxG_at {p : α → Bool} {l : List α} {i : Nat} (hi : i < l.length) (h0 : ∀ j, j < i → p (el l j) = false) (h : p (el l i) = true) : idxG p l = i := by
  have : (List.range l.length).find? (fun i => p (el l i)) = some i := by
    rw [List.find?_range_eq_some]
    exact ⟨h, by simpa using hi, fun j hj => by simp [h0 j hj]⟩
  unfold idxG
  rw [this]
theorem idxG_none {p : α → Bool} {l : List α} (h0 : ∀ j, j < l.length → p (el l j) = false) : idxG p l = -1 := by
  have : (List.range l.length).find? (fun i => p (el l i)) = none := by
    rw [List.find?_eq_none]
    intro j hj
    rw [List.mem_range] at hj
    simp [h0 j hj]
  unfold idxG
  rw [this]
theorem idxG_any (p : α → Bool) (l : List α) : decide (0 ≤ idxG p l) = l.any p := by
  cases h : l.any p
  · rw [List.any_eq_false] at h
    rw [idxG_none fun j hj => by simpa using h _ (el_mem hj)]
    rfl
  · rw [List.any_eq_true] at h
    obtain ⟨x, hx, hp⟩ := h
    obtain ⟨i, hi, rfl⟩ := mem_el hx
    unfold idxG
    split
    · simp
    · rename_i h0
      rw [List.find?_eq_none] at h0
      have := h0 i (by simpa using hi)
      simp [hp] at this
end
set_option maxHeartbeats 1000000 in
theorem indexD_p (l : List Dsn) {g : FuncId} {cap : List V} (hfn : FnOk Try.prog g) (hcap : V.closed.all cap = true) (p : Dsn → Bool) (hc : ∀ x, x ∈ l → PCalls Try.prog g (x.enc :: cap) (· = vb (p x))) :
    PCalls Try.prog 86 [encDsns l, .fn (.func g) [] cap] (· = vi (idxG p l)) := by
  (refine pcalls_know (fun I us h => rel_len (rel_arg h (j := 0) rfl)) fun hlen0 => ?_)
  refine pcalls_of_aw Try.func86 rfl (Nat.le_of_ble_eq_true rfl) ?_
  (repeat' (first | (refine ar_isq ?_; first | refine zmv ?_ | refine zas ?_ | (refine is_load ?_; first | refine zlp ?_ | refine zlr ?_) | (refine is_binOp ?_; first | refine zlss ?_ | refine zadd ?_) | (refine is_indexAddr ?_; first | refine zil ?_ | refine zis ?_ | refine zit ?_ | refine zia ?_ | refine zir ?_ | (refine zxl ?_; intro _ _ _) | (refine zxs ?_; intro _ _ _)) | (refine is_call ?_; first | refine zll ?_ | refine zls ?_ | refine zln ?_ | refine zle ?_)) | (refine ar_nil ?_) | (refine aw_seq ?_) | (refine aw_skip ?_) | (refine aw_block ?_) | (refine aw_exit ?_) | (refine aw_region ?_) | (refine zco ?_ ?_ <;> intro hg <;> first | exact absurd hg (by decide) | ((try replace hg := HG.out hg); (try dsimp only at hg); (try (have _h : True := hg; clear _h hg)); first | (exfalso; omega) | skip))))
  refine aw_for l.length (fun k => ∀ j, j < k → p (el l j) = false) (fun k => [(0, encDsns l), (1, .fn (.func g) [] cap), (7, vi l.length), (8, vi k)]) (fun _ => []) (fun j hj => by omega) ?_ ?_
  · (refine sub_to [] [] rfl ?_ ?_ <;> (repeat' (first | exact trivial | refine ⟨⟨_, rfl, ?_⟩, ?_⟩ | refine ⟨bsub_snoc rfl rfl (fun _ => rfl) ?_, ?_⟩ | refine ⟨bsub_one rfl rfl ?_, ?_⟩ | refine ⟨bsub_all rfl rfl (fun _ _ => rfl) (fun _ => rfl), ?_⟩ | refine ⟨bsub_updL rfl rfl ?_ (fun _ _ _ => rfl) (fun _ => rfl), ?_⟩ | refine ⟨.inl ⟨_, _, rfl, rfl, ?_⟩, ?_⟩ | exact ⟨.inr ⟨rfl, rfl⟩, trivial⟩ | refine ⟨.inr ⟨rfl, rfl⟩, ?_⟩ | (intro _ _) | exact vz1 | exact vz2 | fail)))
  intro k hk hJ
  by_cases hkn : k < l.length
  · (repeat' (first | (refine ar_isq ?_; first | refine zmv ?_ | refine zas ?_ | (refine is_load ?_; first | refine zlp ?_ | refine zlr ?_) | (refine is_binOp ?_; first | refine zlss ?_ | refine zadd ?_) | (refine is_indexAddr ?_; first | refine zil ?_ | refine zis ?_ | refine zit ?_ | refine zia ?_ | refine zir ?_ | refine zil (j := k) ?_ | refine zis (j := k) ?_ | refine zit (j := k) ?_ | (refine zxl ?_; intro _ _ _) | (refine zxs ?_; intro _ _ _)) | (refine is_call ?_; first | refine zll ?_ | refine zls ?_ | refine zln ?_ | refine zle ?_)) | (refine ar_pcall (own := false) hfn rfl rfl (args_closed (vs := _ :: cap) hcap) (hc _ (el_mem hkn)) (by simp) (dc rfl) ?_; intro _ hv; subst hv) | (refine ar_nil ?_) | (refine aw_seq ?_) | (refine aw_skip ?_) | (refine aw_block ?_) | (refine aw_exit ?_) | (refine aw_region ?_) | (refine zco ?_ ?_ <;> intro hg <;> first | exact absurd hg (by decide) | ((try replace hg := HG.out hg); (try dsimp only at hg); (try (have _h : True := hg; clear _h hg)); first | (exfalso; omega) | skip))))
    all_goals first
      | (exfalso; omega)
      | ((first | refine loop_next (by omega) ?_ ?_ | refine (show _ ∧ _ ∧ SubOf _ _ _ _ _ _ from And.intro (by omega) (And.intro ?_ ?_))); (focus ((exact all_step hJ (by assumption)); done)); (focus ((refine sub_to [] [] rfl ?_ ?_ <;> (repeat' (first | exact trivial | refine ⟨⟨_, rfl, ?_⟩, ?_⟩ | refine ⟨bsub_snoc rfl rfl (fun _ => rfl) ?_, ?_⟩ | refine ⟨bsub_one rfl rfl ?_, ?_⟩ | refine ⟨bsub_all rfl rfl (fun _ _ => rfl) (fun _ => rfl), ?_⟩ | refine ⟨bsub_updL rfl rfl ?_ (fun _ _ _ => rfl) (fun _ => rfl), ?_⟩ | refine ⟨.inl ⟨_, _, rfl, rfl, ?_⟩, ?_⟩ | exact ⟨.inr ⟨rfl, rfl⟩, trivial⟩ | refine ⟨.inr ⟨rfl, rfl⟩, ?_⟩ | (intro _ _) | exact vz1 | exact vz2 | fail))); done)))
      | ((refine aw_ret ?_; (repeat (first | refine ret_then ?_ | refine ret_block ?_)); refine bq1 rfl ⟨?_, rfl⟩); rw [idxG_at hkn hJ (by assumption)]; try rfl)
      | trace_state
  · (repeat' (first | (refine ar_isq ?_; first | refine zmv ?_ | refine zas ?_ | (refine is_load ?_; first | refine zlp ?_ | refine zlr ?_) | (refine is_binOp ?_; first | refine zlss ?_ | refine zadd ?_) | (refine is_indexAddr ?_; first | refine zil ?_ | refine zis ?_ | refine zit ?_ | refine zia ?_ | refine zir ?_ | (refine zxl ?_; intro _ _ _) | (refine zxs ?_; intro _ _ _)) | (refine is_call ?_; first | refine zll ?_ | refine zls ?_ | refine zln ?_ | refine zle ?_)) | (refine ar_nil ?_) | (refine aw_seq ?_) | (refine aw_skip ?_) | (refine aw_block ?_) | (refine aw_exit ?_) | (refine aw_region ?_) | (refine zco ?_ ?_ <;> intro hg <;> first | exact absurd hg (by decide) | ((try replace hg := HG.out hg); (try dsimp only at hg); (try (have _h : True := hg; clear _h hg)); first | (exfalso; omega) | skip))))
    all_goals first
      | (exfalso; omega)
      | ((refine aw_ret ?_; (repeat (first | refine ret_then ?_ | refine ret_block ?_)); refine bq1 rfl ⟨?_, rfl⟩); rw [idxG_none (fun j hj => hJ j (by omega))]; try rfl)
theorem containsD_p (l : List Dsn) {g : FuncId} {cap : List V} (hfn : FnOk Try.prog g) (hcap : V.closed.all cap = true) (p : Dsn → Bool) (hc : ∀ x, x ∈ l → PCalls Try.prog g (x.enc :: cap) (· = vb (p x))) :
    PCalls Try.prog 61 [encDsns l, .fn (.func g) [] cap] (· = vb (l.any p)) := by
  refine pcalls_of_aw Try.func61 rfl (Nat.le_of_ble_eq_true rfl) ?_
  (repeat' (first | (refine ar_isq ?_; first | refine zmv ?_ | refine zas ?_ | refine zgeq ?_) | (refine ar_pcall (own := false) fn86 rfl rfl (.cons (.closed rfl) (.cons (.closed hcap) .nil)) (indexD_p l hfn hcap p hc) (by simp) (dc rfl) ?_; intro _ hv; subst hv) | (refine ar_nil ?_) | (refine aw_seq ?_) | (refine aw_skip ?_) | (refine aw_block ?_) | (refine aw_exit ?_) | (refine aw_region ?_) | (refine zco ?_ ?_ <;> intro hg <;> first | exact absurd hg (by decide) | ((try replace hg := HG.out hg); (try dsimp only at hg); (try (have _h : True := hg; clear _h hg)); first | (exfalso; omega) | skip))))
  (refine aw_ret ?_; (repeat (first | refine ret_then ?_ | refine ret_block ?_)); refine bq1 rfl ⟨?_, rfl⟩)
  rw [← idxG_any]
  rfl
set_option maxHeartbeats 1000000 in
theorem indexC_p (l : List Lic) {g : FuncId} {cap : List V} (hfn : FnOk Try.prog g) (hcap : V.closed.all cap = true) (p : Lic → Bool) (hc : ∀ x, x ∈ l → PCalls Try.prog g (x.enc :: cap) (· = vb (p x))) :
    PCalls Try.prog 88 [encLics l, .fn (.func g) [] cap] (· = vi (idxG p l)) := by
  (refine pcalls_know (fun I us h => rel_len (rel_arg h (j := 0) rfl)) fun hlen0 => ?_)
  refine pcalls_of_aw Try.func88 rfl (Nat.le_of_ble_eq_true rfl) ?_
  (repeat' (first | (refine ar_isq ?_; first | refine zmv ?_ | refine zas ?_ | (refine is_load ?_; first | refine zlp ?_ | refine zlr ?_) | (refine is_binOp ?_; first | refine zlss ?_ | refine zadd ?_) | (refine is_indexAddr ?_; first | refine zil ?_ | refine zis ?_ | refine zit ?_ | refine zia ?_ | refine zir ?_ | (refine zxl ?_; intro _ _ _) | (refine zxs ?_; intro _ _ _)) | (refine is_call ?_; first | refine zll ?_ | refine zls ?_ | refine zln ?_ | refine zle ?_)) | (refine ar_nil ?_) | (refine aw_seq ?_) | (refine aw_skip ?_) | (refine aw_block ?_) | (refine aw_exit ?_) | (refine aw_region ?_) | (refine zco ?_ ?_ <;> intro hg <;> first | exact absurd hg (by decide) | ((try replace hg := HG.out hg); (try dsimp only at hg); (try (have _h : True := hg; clear _h hg)); first | (exfalso; omega) | skip))))
  refine aw_for l.length (fun k => ∀ j, j < k → p (el l j) = false) (fun k => [(0, encLics l), (1, .fn (.func g) [] cap), (7, vi l.length), (8, vi k)]) (fun _ => []) (fun j hj => by omega) ?_ ?_
  · (refine sub_to [] [] rfl ?_ ?_ <;> (repeat' (first | exact trivial | refine ⟨⟨_, rfl, ?_⟩, ?_⟩ | refine ⟨bsub_snoc rfl rfl (fun _ => rfl) ?_, ?_⟩ | refine ⟨bsub_one rfl rfl ?_, ?_⟩ | refine ⟨bsub_all rfl rfl (fun _ _ => rfl) (fun _ => rfl), ?_⟩ | refine ⟨bsub_updL rfl rfl ?_ (fun _ _ _ => rfl) (fun _ => rfl), ?_⟩ | refine ⟨.inl ⟨_, _, rfl, rfl, ?_⟩, ?_⟩ | exact ⟨.inr ⟨rfl, rfl⟩, trivial⟩ | refine ⟨.inr ⟨rfl, rfl⟩, ?_⟩ | (intro _ _) | exact vz1 | exact vz2 | fail)))
  intro k hk hJ
  by_cases hkn : k < l.length
  · (repeat' (first | (refine ar_isq ?_; first | refine zmv ?_ | refine zas ?_ | (refine is_load ?_; first | refine zlp ?_ | refine zlr ?_) | (refine is_binOp ?_; first | refine zlss ?_ | refine zadd ?_) | (refine is_indexAddr ?_; first | refine zil ?_ | refine zis ?_ | refine zit ?_ | refine zia ?_ | refine zir ?_ | refine zil (j := k) ?_ | refine zis (j := k) ?_ | refine zit (j := k) ?_ | (refine zxl ?_; intro _ _ _) | (refine zxs ?_; intro _ _ _)) | (refine is_call ?_; first | refine zll ?_ | refine zls ?_ | refine zln ?_ | refine zle ?_)) | (refine ar_pcall (own := false) hfn rfl rfl (args_closed (vs := _ :: cap) hcap) (hc _ (el_mem hkn)) (by simp) (dc rfl) ?_; intro _ hv; subst hv) | (refine ar_nil ?_) | (refine aw_seq ?_) | (refine aw_skip ?_) | (refine aw_block ?_) | (refine aw_exit ?_) | (refine aw_region ?_) | (refine zco ?_ ?_ <;> intro hg <;> first | exact absurd hg (by decide) | ((try replace hg := HG.out hg); (try dsimp only at hg); (try (have _h : True := hg; clear _h hg)); first | (exfalso; omega) | skip))))
    all_goals first
      | (exfalso; omega)
      | ((first | refine loop_next (by omega) ?_ ?_ | refine (show _ ∧ _ ∧ SubOf _ _ _ _ _ _ from And.intro (by omega) (And.intro ?_ ?_))); (focus ((exact all_step hJ (by assumption)); done)); (focus ((refine sub_to [] [] rfl ?_ ?_ <;> (repeat' (first | exact trivial | refine ⟨⟨_, rfl, ?_⟩, ?_⟩ | refine ⟨bsub_snoc rfl rfl (fun _ => rfl) ?_, ?_⟩ | refine ⟨bsub_one rfl rfl ?_, ?_⟩ | refine ⟨bsub_all rfl rfl (fun _ _ => rfl) (fun _ => rfl), ?_⟩ | refine ⟨bsub_updL rfl rfl ?_ (fun _ _ _ => rfl) (fun _ => rfl), ?_⟩ | refine ⟨.inl ⟨_, _, rfl, rfl, ?_⟩, ?_⟩ | exact ⟨.inr ⟨rfl, rfl⟩, trivial⟩ | refine ⟨.inr ⟨rfl, rfl⟩, ?_⟩ | (intro _ _) | exact vz1 | exact vz2 | fail))); done)))
      | ((refine aw_ret ?_; (repeat (first | refine ret_then ?_ | refine ret_block ?_)); refine bq1 rfl ⟨?_, rfl⟩); rw [idxG_at hkn hJ (by assumption)]; try rfl)
      | trace_state
  · (repeat' (first | (refine ar_isq ?_; first | refine zmv ?_ | refine zas ?_ | (refine is_load ?_; first | refine zlp ?_ | refine zlr ?_) | (refine is_binOp ?_; first | refine zlss ?_ | refine zadd ?_) | (refine is_indexAddr ?_; first | refine zil ?_ | refine zis ?_ | refine zit ?_ | refine zia ?_ | refine zir ?_ | (refine zxl ?_; intro _ _ _) | (refine zxs ?_; intro _ _ _)) | (refine is_call ?_; first | refine zll ?_ | refine zls ?_ | refine zln ?_ | refine zle ?_)) | (refine ar_nil ?_) | (refine aw_seq ?_) | (refine aw_skip ?_) | (refine aw_block ?_) | (refine aw_exit ?_) | (refine aw_region ?_) | (refine zco ?_ ?_ <;> intro hg <;> first | exact absurd hg (by decide) | ((try replace hg := HG.out hg); (try dsimp only at hg); (try (have _h : True := hg; clear _h hg)); first | (exfalso; omega) | skip))))
    all_goals first
      | (exfalso; omega)
      | ((refine aw_ret ?_; (repeat (first | refine ret_then ?_ | refine ret_block ?_)); refine bq1 rfl ⟨?_, rfl⟩); rw [idxG_none (fun j hj => hJ j (by omega))]; try rfl)
theorem containsC_p (l : List Lic) {g : FuncId} {cap : List V} (hfn : FnOk Try.prog g) (hcap : V.closed.all cap = true) (p : Lic → Bool) (hc : ∀ x, x ∈ l → PCalls Try.prog g (x.enc :: cap) (· = vb (p x))) :
    PCalls Try.prog 64 [encLics l, .fn (.func g) [] cap] (· = vb (l.any p)) := by
  refine pcalls_of_aw Try.func64 rfl (Nat.le_of_ble_eq_true rfl) ?_
  (repeat' (first | (refine ar_isq ?_; first | refine zmv ?_ | refine zas ?_ | refine zgeq ?_) | (refine ar_pcall (own := false) fn88 rfl rfl (.cons (.closed rfl) (.cons (.closed hcap) .nil)) (indexC_p l hfn hcap p hc) (by simp) (dc rfl) ?_; intro _ hv; subst hv) | (refine ar_nil ?_) | (refine aw_seq ?_) | (refine aw_skip ?_) | (refine aw_block ?_) | (refine aw_exit ?_) | (refine aw_region ?_) | (refine zco ?_ ?_ <;> intro hg <;> first | exact absurd hg (by decide) | ((try replace hg := HG.out hg); (try dsimp only at hg); (try (have _h : True := hg; clear _h hg)); first | (exfalso; omega) | skip))))
  (refine aw_ret ?_; (repeat (first | refine ret_then ?_ | refine ret_block ?_)); refine bq1 rfl ⟨?_, rfl⟩)
  rw [← idxG_any]
  rfl
set_option maxHeartbeats 1000000 in
theorem cloneC_p (l : List Lic) (hl : l.length ≤ 1000) : FCalls Try.prog 58 [encLics l] 4 (fun n f => n = l.length ∧ ∀ i, i < n → f i = Lic.enc (el l i)) := by
  refine fcalls_of_aw Try.func58 rfl (dc rfl) ?_
  (repeat' (first | (refine ar_isq ?_; first | refine zmv ?_ | refine zas ?_ | refine zeql ?_) | (refine ar_eqnil (ty rfl) rfl rfl rfl (dc rfl) ?_; intro bq hbq) | (refine zb1 ?_) | (refine zb0 ?_) | (refine zapoo ?_) | (refine zapol ?_) | (refine zapno ?_) | (refine zapnl ?_) | (refine zapeo ?_) | (refine zapel ?_) | (refine ar_nil ?_) | (refine aw_seq ?_) | (refine aw_skip ?_) | (refine aw_block ?_) | (refine aw_exit ?_) | (refine aw_region ?_) | (refine zco ?_ ?_ <;> intro hg <;> first | exact absurd hg (by decide) | ((try replace hg := HG.out hg); (try dsimp only at hg); (try (have _h : True := hg; clear _h hg)); first | (exfalso; omega) | skip))))
  · have h0 := hbq (by assumption)
    (refine aw_mono_r (env' := [(2, .sl 4 0 0 0)]) (H' := [.arr 4 0 (fun _ => vi 0)]) ?_ ?_; (focus ((refine sub_to [none] [] rfl ?_ ?_ <;> (repeat' (first | exact trivial | refine ⟨⟨_, rfl, ?_⟩, ?_⟩ | refine ⟨bsub_snoc rfl rfl (fun _ => rfl) ?_, ?_⟩ | refine ⟨bsub_one rfl rfl ?_, ?_⟩ | refine ⟨bsub_all rfl rfl (fun _ _ => rfl) (fun _ => rfl), ?_⟩ | refine ⟨bsub_updL rfl rfl ?_ (fun _ _ _ => rfl) (fun _ => rfl), ?_⟩ | refine ⟨.inl ⟨_, _, rfl, rfl, ?_⟩, ?_⟩ | exact ⟨.inr ⟨rfl, rfl⟩, trivial⟩ | refine ⟨.inr ⟨rfl, rfl⟩, ?_⟩ | (intro _ _) | exact vz1 | exact vz2 | fail))); done)))
    refine aw_ret (ret_then (bq1 rfl ⟨0, _, rfl, rfl, ⟨by omega, fun i hi => by omega⟩, fun i hi => by omega⟩))
  · refine aw_ret (bq1 rfl ⟨0 + l.length, _, rfl, rfl, ⟨Nat.zero_add _, fun i hi => by rw [appF_ge (Nat.zero_le _), Nat.sub_zero]⟩, fun i hi => by rw [appF_ge (Nat.zero_le _)]; rfl⟩)
set_option maxHeartbeats 1000000 in
theorem cloneO_p (l : List Ordr) (hl : l.length ≤ 1000) : FCalls Try.prog 59 [encOrders l] 4 (fun n f => n = l.length ∧ ∀ i, i < n → f i = Ordr.enc (el l i)) := by
  refine fcalls_of_aw Try.func59 rfl (dc rfl) ?_
  (repeat' (first | (refine ar_isq ?_; first | refine zmv ?_ | refine zas ?_ | refine zeql ?_) | (refine ar_eqnil (ty rfl) rfl rfl rfl (dc rfl) ?_; intro bq hbq) | (refine zb1 ?_) | (refine zb0 ?_) | (refine zapoo ?_) | (refine zapol ?_) | (refine zapno ?_) | (refine zapnl ?_) | (refine zapeo ?_) | (refine zapel ?_) | (refine ar_nil ?_) | (refine aw_seq ?_) | (refine aw_skip ?_) | (refine aw_block ?_) | (refine aw_exit ?_) | (refine aw_region ?_) | (refine zco ?_ ?_ <;> intro hg <;> first | exact absurd hg (by decide) | ((try replace hg := HG.out hg); (try dsimp only at hg); (try (have _h : True := hg; clear _h hg)); first | (exfalso; omega) | skip))))
  · have h0 := hbq (by assumption)
    (refine aw_mono_r (env' := [(2, .sl 4 0 0 0)]) (H' := [.arr 4 0 (fun _ => vi 0)]) ?_ ?_; (focus ((refine sub_to [none] [] rfl ?_ ?_ <;> (repeat' (first | exact trivial | refine ⟨⟨_, rfl, ?_⟩, ?_⟩ | refine ⟨bsub_snoc rfl rfl (fun _ => rfl) ?_, ?_⟩ | refine ⟨bsub_one rfl rfl ?_, ?_⟩ | refine ⟨bsub_all rfl rfl (fun _ _ => rfl) (fun _ => rfl), ?_⟩ | refine ⟨bsub_updL rfl rfl ?_ (fun _ _ _ => rfl) (fun _ => rfl), ?_⟩ | refine ⟨.inl ⟨_, _, rfl, rfl, ?_⟩, ?_⟩ | exact ⟨.inr ⟨rfl, rfl⟩, trivial⟩ | refine ⟨.inr ⟨rfl, rfl⟩, ?_⟩ | (intro _ _) | exact vz1 | exact vz2 | fail))); done)))
    refine aw_ret (ret_then (bq1 rfl ⟨0, _, rfl, rfl, ⟨by omega, fun i hi => by omega⟩, fun i hi => by omega⟩))
  · refine aw_ret (bq1 rfl ⟨0 + l.length, _, rfl, rfl, ⟨Nat.zero_add _, fun i hi => by rw [appF_ge (Nat.zero_le _), Nat.sub_zero]⟩, fun i hi => by rw [appF_ge (Nat.zero_le _)]; rfl⟩)
set_option maxHeartbeats 1000000 in
theorem cloneB_p (l : List (List Int)) (hl : l.length ≤ 1000) : FCalls Try.prog 85 [encRows l] 1 (fun n f => n = l.length ∧ ∀ i, i < n → f i = encInts (el l i)) := by
  refine fcalls_of_aw Try.func85 rfl (dc rfl) ?_
  (repeat' (first | (refine ar_isq ?_; first | refine zmv ?_ | refine zas ?_ | refine zeql ?_) | (refine ar_eqnil (ty rfl) rfl rfl rfl (dc rfl) ?_; intro bq hbq) | (refine zb1 ?_) | (refine zb0 ?_) | (refine zapoo ?_) | (refine zapol ?_) | (refine zapno ?_) | (refine zapnl ?_) | (refine zapeo ?_) | (refine zapel ?_) | (refine ar_nil ?_) | (refine aw_seq ?_) | (refine aw_skip ?_) | (refine aw_block ?_) | (refine aw_exit ?_) | (refine aw_region ?_) | (refine zco ?_ ?_ <;> intro hg <;> first | exact absurd hg (by decide) | ((try replace hg := HG.out hg); (try dsimp only at hg); (try (have _h : True := hg; clear _h hg)); first | (exfalso; omega) | skip))))
  · have h0 := hbq (by assumption)
    (refine aw_mono_r (env' := [(2, .sl 1 0 0 0)]) (H' := [.arr 1 0 (fun _ => vi 0)]) ?_ ?_; (focus ((refine sub_to [none] [] rfl ?_ ?_ <;> (repeat' (first | exact trivial | refine ⟨⟨_, rfl, ?_⟩, ?_⟩ | refine ⟨bsub_snoc rfl rfl (fun _ => rfl) ?_, ?_⟩ | refine ⟨bsub_one rfl rfl ?_, ?_⟩ | refine ⟨bsub_all rfl rfl (fun _ _ => rfl) (fun _ => rfl), ?_⟩ | refine ⟨bsub_updL rfl rfl ?_ (fun _ _ _ => rfl) (fun _ => rfl), ?_⟩ | refine ⟨.inl ⟨_, _, rfl, rfl, ?_⟩, ?_⟩ | exact ⟨.inr ⟨rfl, rfl⟩, trivial⟩ | refine ⟨.inr ⟨rfl, rfl⟩, ?_⟩ | (intro _ _) | exact vz1 | exact vz2 | fail))); done)))
    refine aw_ret (ret_then (bq1 rfl ⟨0, _, rfl, rfl, ⟨by omega, fun i hi => by omega⟩, fun i hi => by omega⟩))
  · refine aw_ret (bq1 rfl ⟨0 + l.length, _, rfl, rfl, ⟨Nat.zero_add _, fun i hi => by rw [appF_ge (Nat.zero_le _), Nat.sub_zero]⟩, fun i hi => by rw [appF_ge (Nat.zero_le _)]; rfl⟩)
def Dsn.cs (d : Dsn) (v : V) : V := .agg [vi d.owner, vi d.sheet.cols, vi d.sheet.rows, vi d.sheet.weight, vi d.sheet.clear, vi d.sheet.lean, v]
def SmallB (b : List (List Int)) : Prop := b.length ≤ 1000 ∧ ∀ l, l ∈ b → l.length ≤ 1000
set_option maxHeartbeats 1000000 in
theorem htwin_p (d : Dsn) (hs : SmallB d.band) : PCalls Try.prog 57 [d.enc] (· = d.enc) := by
  obtain ⟨hb, hl⟩ := hs
  refine pcalls_of_aw Try.func57 rfl (Nat.le_of_ble_eq_true rfl) ?_
  (repeat' (first | (refine ar_isq ?_; first | refine zmv ?_ | refine zas ?_ | (refine is_load ?_; first | refine zlp ?_ | refine zlr ?_) | (refine is_binOp ?_; first | refine zlss ?_ | refine zadd ?_) | (refine is_fieldAddr ?_; first | refine zfp ?_ | refine zfr ?_) | (refine is_indexAddr ?_; first | refine zil ?_ | refine zis ?_ | refine zit ?_ | refine zia ?_ | refine zir ?_ | (refine zxl ?_; intro _ _ _) | (refine zxs ?_; intro _ _ _)) | (refine is_call ?_; first | refine zll ?_ | refine zls ?_ | refine zln ?_ | refine zle ?_)) | (refine ar_fcall fn85 rfl rfl (.cons (.closed rfl) .nil) (cloneB_p d.band hb) (dc rfl) ?_; rintro n0 g0 ⟨rfl, hg0⟩) | (refine zcl ?_) | (refine zcs ?_) | (refine zbx ?_) | (refine zal ?_) | (refine zapoo ?_) | (refine zapol ?_) | (refine zapno ?_) | (refine zapnl ?_) | (refine zapeo ?_) | (refine zapel ?_) | (refine zsvs ?_) | (refine zsva ?_) | (refine zses ?_) | (refine zsea ?_) | (refine ar_nil ?_) | (refine aw_seq ?_) | (refine aw_skip ?_) | (refine aw_block ?_) | (refine aw_exit ?_) | (refine aw_region ?_) | (refine aw_drawn (id := 5) [(0, 0), (1, 0), (2, 0), (3, 0), (4, 0), (5, 0), (6, 1), (7, 0), (8, 2)] mixed (by kernel_rfl) ?_) | (refine zco ?_ ?_ <;> intro hg <;> first | exact absurd hg (by decide) | ((try replace hg := HG.out hg); (try dsimp only at hg); (try (have _h : True := hg; clear _h hg)); first | (exfalso; omega) | skip))))
  refine aw_for d.band.length (fun _ => True) (fun k => [(1, .ptr 7 0 0 0), (2, .ptr 7 1 0 0), (10, .sl 1 2 0 d.band.length), (11, vi d.band.length), (12, vi k)]) (fun _ => [.arr 7 1 (fun _ => d.cs (.sl 1 2 0 d.band.length)), .arr 7 1 (fun _ => Dsn.enc ⟨0, ⟨0, 0, 0, 0, 0⟩, []⟩), LB 1 encInts d.band]) trivial ?_ ?_
  · (refine sub_to [some 0, some 1, some 2] [] rfl ?_ ?_ <;> (repeat' (first | exact trivial | refine ⟨⟨_, rfl, ?_⟩, ?_⟩ | refine ⟨bsub_snoc rfl rfl (fun _ => rfl) ?_, ?_⟩ | refine ⟨bsub_one rfl rfl ?_, ?_⟩ | refine ⟨bsub_all rfl rfl (fun _ _ => rfl) (fun _ => rfl), ?_⟩ | refine ⟨bsub_updL rfl rfl ?_ (fun _ _ _ => rfl) (fun _ => rfl), ?_⟩ | refine ⟨.inl ⟨_, _, rfl, rfl, ?_⟩, ?_⟩ | exact ⟨.inr ⟨rfl, rfl⟩, trivial⟩ | refine ⟨.inr ⟨rfl, rfl⟩, ?_⟩ | (intro _ _) | exact vz1 | (first | exact VSub.of_eq (hg0 _ (by assumption)) rfl | exact VSub.aggL ⟨.closed rfl, .closed rfl, .closed rfl, .closed rfl, .closed rfl, .closed rfl, .sl rfl, trivial⟩ | exact VSub.aggL ⟨.closed rfl, .closed rfl, .closed rfl, .closed rfl, .closed rfl, .closed rfl, .nilList, trivial⟩) | exact vz2 | fail)))
  clear hg0 g0
  intro k hk _
  by_cases hlt : k < d.band.length
  · have hll := hl _ (el_mem hlt)
    (repeat' (first | (refine ar_isq ?_; first | refine zmv ?_ | refine zas ?_ | (refine is_load ?_; first | refine zlp ?_ | refine zlr ?_) | (refine is_binOp ?_; first | refine zlss ?_ | refine zadd ?_) | (refine is_fieldAddr ?_; first | refine zfp ?_ | refine zfr ?_) | (refine is_indexAddr ?_; first | refine zil ?_ | refine zis ?_ | refine zit ?_ | refine zia ?_ | refine zir ?_ | refine zil (j := k) ?_ | refine zis (j := k) ?_ | refine zit (j := k) ?_ | (refine zxl ?_; intro _ _ _) | (refine zxs ?_; intro _ _ _)) | (refine is_call ?_; first | refine zll ?_ | refine zls ?_ | refine zln ?_ | refine zle ?_)) | (refine ar_q (qs_slice00 (ty rfl) rfl (ty rfl) rfl rfl rfl) (dc rfl) ?_) | (refine zcl ?_) | (refine zcs ?_) | (refine zbx ?_) | (refine zal ?_) | (refine zapoo ?_) | (refine zapol ?_) | (refine zapno ?_) | (refine zapnl ?_) | (refine zapeo ?_) | (refine zapel ?_) | (refine zsvs ?_) | (refine zsva ?_) | (refine zses ?_) | (refine zsea ?_) | (refine ar_nil ?_) | (refine aw_seq ?_) | (refine aw_skip ?_) | (refine aw_block ?_) | (refine aw_exit ?_) | (refine aw_region ?_) | (refine aw_drawn (id := 5) [(0, 0), (1, 0), (2, 0), (3, 0), (4, 0), (5, 0), (6, 1), (7, 0), (8, 2)] mixed (by kernel_rfl) ?_) | (refine zco ?_ ?_ <;> intro hg <;> first | exact absurd hg (by decide) | ((try replace hg := HG.out hg); (try dsimp only at hg); (try (have _h : True := hg; clear _h hg)); first | (exfalso; omega) | skip))))
    all_goals first
      | (exfalso; omega)
      | ((first | refine loop_next (by omega) ?_ ?_ | refine (show _ ∧ _ ∧ SubOf _ _ _ _ _ _ from And.intro (by omega) (And.intro ?_ ?_))); (focus ((exact trivial); done)); (focus ((refine sub_to [some 0, some 1, some 2] [3] rfl ?_ ?_ <;> (repeat' (first | exact trivial | refine ⟨⟨_, rfl, ?_⟩, ?_⟩ | refine ⟨bsub_snoc rfl rfl (fun _ => rfl) ?_, ?_⟩ | refine ⟨bsub_one rfl rfl ?_, ?_⟩ | refine ⟨bsub_all rfl rfl (fun _ _ => rfl) (fun _ => rfl), ?_⟩ | refine ⟨bsub_updL rfl rfl ?_ (fun _ _ _ => rfl) (fun _ => rfl), ?_⟩ | refine ⟨.inl ⟨_, _, rfl, rfl, ?_⟩, ?_⟩ | exact ⟨.inr ⟨rfl, rfl⟩, trivial⟩ | refine ⟨.inr ⟨rfl, rfl⟩, ?_⟩ | (intro _ _) | exact vz1 | (exact VSub.aggL ⟨.closed rfl, .closed rfl, .closed rfl, .closed rfl, .closed rfl, .closed rfl, .sl rfl, trivial⟩) | exact vz2 | fail))); done)))
      | trace_state
  · (repeat' (first | (refine ar_isq ?_; first | refine zmv ?_ | refine zas ?_ | (refine is_load ?_; first | refine zlp ?_ | refine zlr ?_) | (refine is_binOp ?_; first | refine zlss ?_ | refine zadd ?_) | (refine is_fieldAddr ?_; first | refine zfp ?_ | refine zfr ?_) | (refine is_indexAddr ?_; first | refine zil ?_ | refine zis ?_ | refine zit ?_ | refine zia ?_ | refine zir ?_ | (refine zxl ?_; intro _ _ _) | (refine zxs ?_; intro _ _ _)) | (refine is_call ?_; first | refine zll ?_ | refine zls ?_ | refine zln ?_ | refine zle ?_)) | (refine zcl ?_) | (refine zcs ?_) | (refine zbx ?_) | (refine zal ?_) | (refine zapoo ?_) | (refine zapol ?_) | (refine zapno ?_) | (refine zapnl ?_) | (refine zapeo ?_) | (refine zapel ?_) | (refine zsvs ?_) | (refine zsva ?_) | (refine zses ?_) | (refine zsea ?_) | (refine ar_nil ?_) | (refine aw_seq ?_) | (refine aw_skip ?_) | (refine aw_block ?_) | (refine aw_exit ?_) | (refine aw_region ?_) | (refine aw_drawn (id := 5) [(0, 0), (1, 0), (2, 0), (3, 0), (4, 0), (5, 0), (6, 1), (7, 0), (8, 2)] mixed (by kernel_rfl) ?_) | (refine zco ?_ ?_ <;> intro hg <;> first | exact absurd hg (by decide) | ((try replace hg := HG.out hg); (try dsimp only at hg); (try (have _h : True := hg; clear _h hg)); first | (exfalso; omega) | skip))))
    all_goals first
      | (exfalso; omega)
      | ((refine aw_mono_r (env' := [(2, .ptr 7 0 0 0)]) (H' := [.arr 7 1 (fun _ => d.enc)]) ?_ ?_; (focus ((refine sub_to [some 1] [2] rfl ?_ ?_ <;> (repeat' (first | exact trivial | refine ⟨⟨_, rfl, ?_⟩, ?_⟩ | refine ⟨bsub_snoc rfl rfl (fun _ => rfl) ?_, ?_⟩ | refine ⟨bsub_one rfl rfl ?_, ?_⟩ | refine ⟨bsub_all rfl rfl (fun _ _ => rfl) (fun _ => rfl), ?_⟩ | refine ⟨bsub_updL rfl rfl ?_ (fun _ _ _ => rfl) (fun _ => rfl), ?_⟩ | refine ⟨.inl ⟨_, _, rfl, rfl, ?_⟩, ?_⟩ | exact ⟨.inr ⟨rfl, rfl⟩, trivial⟩ | refine ⟨.inr ⟨rfl, rfl⟩, ?_⟩ | (intro _ _) | exact vz1 | (exact VSub.aggL ⟨.closed rfl, .closed rfl, .closed rfl, .closed rfl, .closed rfl, .closed rfl, frzLB (by simp; done) rfl (fun _ => rfl) rfl, trivial⟩) | exact vz2 | fail))); done)))
         refine aw_ret ?_
         exact bq1c (f := fun _ => d.enc) (v := d.enc) (ty rfl) rfl rfl Nat.one_pos rfl ⟨rfl, rfl⟩)
      | trace_state
set_option maxHeartbeats 1000000 in
theorem good_p (d : Dsn) : PCalls Try.prog 63 [d.enc] (· = vb (decide (GoodD d))) := by
  have e0 : ∀ b : Bool, (b = true ↔ GoodD d) → vb b = vb (decide (GoodD d)) := fun b h => by
    by_cases hg : GoodD d
    · rw [decide_eq_true hg, h.2 hg]
    · rw [decide_eq_false hg]; cases b with | false => rfl | true => exact (hg (h.1 rfl)).elim
  refine pcalls_of_aw Try.func63 rfl (Nat.le_of_ble_eq_true rfl) ?_
  (repeat' (first | (refine ar_isq ?_; first | refine zmv ?_ | refine zas ?_ | (refine is_load ?_; first | refine zlp ?_ | refine zlr ?_) | (refine is_binOp ?_; first | refine zgtr ?_ | refine zeql ?_ | refine zneq ?_) | (refine is_fieldAddr ?_; first | refine zfp ?_ | refine zfr ?_) | (refine is_call ?_; first | refine zll ?_ | refine zls ?_ | refine zln ?_ | refine zle ?_) | (refine is_pick ?_; first | refine zpt ?_ | refine zpf ?_) | refine zex ?_ | refine znt ?_) | (((refine ar_subk_l (sub_frzL (t := 7) vi ([d.owner]) rfl rfl rfl rfl (fun _ _ => rfl) (fun _ => rfl)) ?_); refine ar_pcall (own := false) fn20 rfl rfl (.cons (.closed rfl) (.cons (.closed rfl) (.cons (.closed rfl) .nil))) (hfrom_p _ _ [d.owner]) (by simp) (dc rfl) ?_; intro _ hv; subst hv)) | (refine ar_buildLE vi ([d.owner]) (by exact ty rfl) (by exact rfl) (by exact ty rfl) (by exact rfl) (by exact rfl) (by exact Nat.succ_pos _) (by exact rfl) (by exact dc rfl) (by exact rfl) (by exact fun _ => ⟨rfl, rfl⟩) (by exact dc rfl) ?_) | (refine ar_pcall (own := false) fn70 rfl rfl (.cons (.closed rfl) (.cons (.closed rfl) .nil)) (check_p d.sheet d.band) (by simp) (dc rfl) ?_; intro _ hv; subst hv) | (refine ar_pcall (own := false) fn87 rfl rfl (.cons (.closed rfl) (.cons (.closed rfl) .nil)) (lGap_p d.sheet d.band) (by simp) (dc rfl) ?_; intro _ hv; subst hv) | (refine zbx ?_) | (refine zb1 ?_) | (refine zb0 ?_) | (refine zg ?_ ?_ <;> intro hg <;> first | exact absurd hg (by decide) | ((try replace hg := HG.out hg); (try dsimp only at hg); (try rw [fromB_one] at hg); (try rw [withinB_iff] at hg); (try rw [withinB_no] at hg); (try (have _h : True := hg; clear _h hg)); first | (exfalso; omega) | skip)) | (refine zgu ?_) | (refine ar_nil ?_) | (refine aw_seq ?_) | (refine aw_skip ?_) | (refine aw_block ?_) | (refine aw_exit ?_) | (refine aw_region ?_) | (refine zco ?_ ?_ <;> intro hg <;> first | exact absurd hg (by decide) | ((try replace hg := HG.out hg); (try dsimp only at hg); (try rw [fromB_one] at hg); (try rw [withinB_iff] at hg); (try rw [withinB_no] at hg); (try (have _h : True := hg; clear _h hg)); first | (exfalso; omega) | skip))))
  all_goals first
    | (exfalso; omega)
    | ((refine aw_mono_r (env' := [(2, vb false)]) (H' := []) ?_ ?_; (focus ((refine sub_to [] [] rfl ?_ ?_ <;> (repeat' (first | exact trivial | refine ⟨⟨_, rfl, ?_⟩, ?_⟩ | refine ⟨bsub_snoc rfl rfl (fun _ => rfl) ?_, ?_⟩ | refine ⟨bsub_one rfl rfl ?_, ?_⟩ | refine ⟨bsub_all rfl rfl (fun _ _ => rfl) (fun _ => rfl), ?_⟩ | refine ⟨bsub_updL rfl rfl ?_ (fun _ _ _ => rfl) (fun _ => rfl), ?_⟩ | refine ⟨.inl ⟨_, _, rfl, rfl, ?_⟩, ?_⟩ | exact ⟨.inr ⟨rfl, rfl⟩, trivial⟩ | refine ⟨.inr ⟨rfl, rfl⟩, ?_⟩ | (intro _ _) | exact vz1 | exact vz2 | fail))); done))); (refine aw_ret ?_; (repeat (first | refine ret_then ?_ | refine ret_block ?_)); refine bq1 rfl ⟨?_, rfl⟩); refine e0 false ⟨fun h => (by cases h), fun h => ?_⟩; unfold GoodD at h; omega)
    | ((refine aw_mono_r (env' := [(2, vb true)]) (H' := []) ?_ ?_; (focus ((refine sub_to [] [] rfl ?_ ?_ <;> (repeat' (first | exact trivial | refine ⟨⟨_, rfl, ?_⟩, ?_⟩ | refine ⟨bsub_snoc rfl rfl (fun _ => rfl) ?_, ?_⟩ | refine ⟨bsub_one rfl rfl ?_, ?_⟩ | refine ⟨bsub_all rfl rfl (fun _ _ => rfl) (fun _ => rfl), ?_⟩ | refine ⟨bsub_updL rfl rfl ?_ (fun _ _ _ => rfl) (fun _ => rfl), ?_⟩ | refine ⟨.inl ⟨_, _, rfl, rfl, ?_⟩, ?_⟩ | exact ⟨.inr ⟨rfl, rfl⟩, trivial⟩ | refine ⟨.inr ⟨rfl, rfl⟩, ?_⟩ | (intro _ _) | exact vz1 | exact vz2 | fail))); done))); (refine aw_ret ?_; (repeat (first | refine ret_then ?_ | refine ret_block ?_)); refine bq1 rfl ⟨?_, rfl⟩); refine e0 true ⟨fun _ => ?_, fun _ => rfl⟩; unfold GoodD; omega)
    | ((refine aw_mono_r (env' := [(2, vb (decide (0 < gapF d.sheet d.band)))]) (H' := []) ?_ ?_; (focus ((refine sub_to [] [] rfl ?_ ?_ <;> (repeat' (first | exact trivial | refine ⟨⟨_, rfl, ?_⟩, ?_⟩ | refine ⟨bsub_snoc rfl rfl (fun _ => rfl) ?_, ?_⟩ | refine ⟨bsub_one rfl rfl ?_, ?_⟩ | refine ⟨bsub_all rfl rfl (fun _ _ => rfl) (fun _ => rfl), ?_⟩ | refine ⟨bsub_updL rfl rfl ?_ (fun _ _ _ => rfl) (fun _ => rfl), ?_⟩ | refine ⟨.inl ⟨_, _, rfl, rfl, ?_⟩, ?_⟩ | exact ⟨.inr ⟨rfl, rfl⟩, trivial⟩ | refine ⟨.inr ⟨rfl, rfl⟩, ?_⟩ | (intro _ _) | exact vz1 | exact vz2 | fail))); done))); (refine aw_ret ?_; (repeat (first | refine ret_then ?_ | refine ret_block ?_)); refine bq1 rfl ⟨?_, rfl⟩); refine e0 _ ⟨fun h => ?_, fun h => ?_⟩; (focus (have := of_decide_eq_true h; unfold GoodD; omega)); (focus (unfold GoodD at h; exact decide_eq_true (by omega))))
    | trace_state
end Go.Proofs.Ytbilpbabdgfblaa
namespace Go.Proofs.Ytbilpbabdgfblaa
open Go.RowKit
/-- How many prints of an order are in each state. -/
structure Tal where
  a : Int
  b : Int
  c : Int
instance : Inhabited Tal := ⟨⟨0, 0, 0⟩⟩
def Tal.enc (t : Tal) : V := .agg [vi t.a, vi t.b, vi t.c]
def shoC (a b c d e f g : Nat) (h : Hse) : List V := [vi h.per, vi h.day, vi h.store.life, .sl 5 a 0 h.store.items.length, .sl 2 b 0 h.store.prints.length, .sl 7 c 0 h.designs.length, .sl 4 d 0 h.lics.length, .sl 4 e 0 h.orders.length, .sl 1 f 0 h.made.length, .sl 1 g 0 h.fors.length]
/-- A house at work: its cells. -/
def shoV (a b c d e f g q : Nat) (h : Hse) : V := .agg (shoC a b c d e f g h ++ [.map q])
def shoB (h : Hse) (m : List (Int × Tal)) : Heap := [.arr 11 1 (fun _ => shoV 1 2 3 4 5 6 7 8 h), LB 5 Itm.enc h.store.items, LB 2 Prt.enc h.store.prints, LB 7 Dsn.enc h.designs, LB 4 Lic.enc h.lics, LB 4 Ordr.enc h.orders, LB 1 vi h.made, LB 1 vi h.fors, mapE Tal.enc m]
theorem shoB_live {h : Hse} {m : List (Int × Tal)} : ∀ b ∈ shoB h m, b ≠ .dead := by simp [shoB, LB, mapE]
/-- Where a house at work lies. -/
structure ShoAt (H : Heap) (p a b c d e f g q : Nat) (h : Hse) (m : List (Int × Tal)) : Prop where
  p : H[p]? = some (.arr 11 1 (fun _ => shoV a b c d e f g q h)) := by exact rfl
  a : H[a]? = some (LB 5 Itm.enc h.store.items) := by exact rfl
  b : H[b]? = some (LB 2 Prt.enc h.store.prints) := by exact rfl
  c : H[c]? = some (LB 7 Dsn.enc h.designs) := by exact rfl
  d : H[d]? = some (LB 4 Lic.enc h.lics) := by exact rfl
  e : H[e]? = some (LB 4 Ordr.enc h.orders) := by exact rfl
  f : H[f]? = some (LB 1 vi h.made) := by exact rfl
  g : H[g]? = some (LB 1 vi h.fors) := by exact rfl
  q : H[q]? = some (mapE Tal.enc m) := by exact rfl
section
variable {H : Heap} {p a b c d e f g q : Nat} {h : Hse} {m : List (Int × Tal)}
theorem ShoAt.lent (hA : ShoAt H p a b c d e f g q h m) : LentV H (.ptr 11 p 0 0) (.ref h.enc 0) :=
  .ptrL [.map q] hA.p ⟨.closed rfl, .closed rfl, .closed rfl, .row hA.a rfl (fun _ => rfl), .row hA.b rfl (fun _ => rfl), .row hA.c rfl (fun _ => rfl), .row hA.d rfl (fun _ => rfl), .row hA.e rfl (fun _ => rfl), .row hA.f rfl (fun _ => rfl), .row hA.g rfl (fun _ => rfl), trivial⟩
theorem ShoAt.hsub (hA : ShoAt H p a b c d e f g q h m) : HSub H ([p, a, b, c, d, e, f, g, q].map some) (· ∈ ([] : List Nat)) 0 (shoB h m) :=
  ⟨.inl ⟨p, _, rfl, hA.p, fun _ _ => VSub.aggL ⟨.closed rfl, .closed rfl, .closed rfl, .sl rfl, .sl rfl, .sl rfl, .sl rfl, .sl rfl, .sl rfl, .sl rfl, .map rfl, trivial⟩⟩,
    .inl ⟨a, _, rfl, hA.a, fun _ _ => .closed rfl⟩, .inl ⟨b, _, rfl, hA.b, fun _ _ => .closed rfl⟩, .inl ⟨c, _, rfl, hA.c, fun _ _ => .closed rfl⟩, .inl ⟨d, _, rfl, hA.d, fun _ _ => .closed rfl⟩, .inl ⟨e, _, rfl, hA.e, fun _ _ => .closed rfl⟩, .inl ⟨f, _, rfl, hA.f, fun _ _ => .closed rfl⟩, .inl ⟨g, _, rfl, hA.g, fun _ _ => .closed rfl⟩, bsub_mapE rfl hA.q (fun _ => rfl), trivial⟩
theorem ShoAt.same {n : Nat} (hA : ShoAt H p a b c d e f g q h m) : SameAt H (rn [p, a, b, c, d, e, f, g, q] n) [p, a, b, c, d, e, f, g, q] (shoB h m) :=
  ⟨hA.p, hA.a, hA.b, hA.c, hA.d, hA.e, hA.f, hA.g, by rw [mapE_renE fun _ => rfl]; exact hA.q, trivial⟩
end
section
variable {r : Option Nat} {mm nt i dd : Nat} {Q : Post} {env : Env} {H : Heap} {ops : Array Oper} {L : List Stp} {ty : TypeId} {pos : String} {after : Array Edge} {ats : Array TypeId} {x : Operand} {keep : Bool} {p a b c d e f g q : Nat}
/-- A call of a method that only reads. -/
theorem ar_read {fo : Operand} {args : List Operand} {fi : FuncId} {us : List V} (h : Hse) (m : List (Int × Tal)) {R : V → Prop} (hc : PCalls Try.prog fi (.ref h.enc 0 :: us) R) (hfn : FnOk Try.prog fi) (hflat : ∀ v, R v → v.flat = true) (hk : ∀ v, R v → AR Try.prog r mm nt ops Q L ((dd, v) :: env) H)
    (hf : eo env fo = some (.fn (.func fi) [] []) := by exact rfl) (hargs : args.mapM (eo env) = some (.ptr 11 p 0 0 :: us) := by exact rfl) (hA : ShoAt H p a b c d e f g q h m := by exact {}) (hu : V.closed.all us = true := by exact rfl) (hd : dd < nt := by exact dc rfl) :
    AR Try.prog r mm nt ops Q (.l i ⟨some dd, .call ⟨.value fo, args.toArray, ats⟩, ty, pos, after, none⟩ keep :: L) env H := by
  have hl : ∀ l : List V, V.closed.all l = true → LentL H l l := fun l => by
    induction l with
    | nil => intro _; trivial
    | cons v l ih => intro hcl; simp only [V.closed.all, Bool.and_eq_true] at hcl; exact ⟨.closed hcl.1, ih hcl.2⟩
  refine ar_lcall (first := []) (cap := []) hfn hf hargs (zs := .ref h.enc 0 :: us) ?_ hc hflat hd hk
  rw [List.append_nil]
  exact ⟨hA.lent, hl us hu⟩
end
def HSmall (h : Hse) : Prop := h.store.items.length ≤ 1000 ∧ h.store.prints.length ≤ 1000 ∧ h.designs.length ≤ 1000 ∧ h.lics.length ≤ 1000 ∧ h.orders.length ≤ 1000 ∧ h.made.length ≤ 1000 ∧ h.fors.length ≤ 1000 ∧ ∀ d, d ∈ h.designs → SmallB d.band
theorem lastF_bnd {s : Sheet} {b : List (List Int)} {per : Int} (he : lastErr s b per = 0) : 0 ≤ lastF s b per ∧ lastF s b per ≤ 30000 := by
  have h1 := he
  unfold lastErr at h1
  unfold lastF
  rw [if_pos he]
  split at h1
  · rename_i hg
    split at h1
    · rename_i hp
      rw [withinB_iff] at hp
      split at h1
      · omega
      · have hgo := gap_ok hg
        have := last_bnd (g := gapF s b) (p := per) (by omega) hp
        omega
    · omega
  · rename_i hg
    exact (hg h1).elim
theorem vb_iff {b : Bool} {P : Prop} [Decidable P] (h : b = true ↔ P) : vb b = vb (decide P) := by
  by_cases hg : P
  · rw [decide_eq_true hg, h.2 hg]
  · rw [decide_eq_false hg]; cases b with | false => rfl | true => exact (hg (h.1 rfl)).elim
set_option maxHeartbeats 1000000 in
theorem design_p (h : Hse) (n : Int) (hs : HSmall h) : PCalls Try.prog 66 [.ref h.enc 0, vi n] (· = vb (decide (inDesigns h n))) := by
  unfold HSmall at hs
  refine pcalls_of_aw Try.func66 rfl (Nat.le_of_ble_eq_true rfl) ?_
  (repeat' (first | (refine ar_isq ?_; first | refine zmv ?_ | refine zas ?_ | (refine is_load ?_; first | refine zlp ?_ | refine zlr ?_) | refine zsub ?_ | (refine is_fieldAddr ?_; first | refine zfp ?_ | refine zfr ?_) | (refine is_call ?_; first | refine zll ?_ | refine zls ?_ | refine zln ?_ | refine zle ?_) | refine zncp ?_ | refine zncr ?_) | (((refine ar_subk_l (sub_frzL (t := 13) vi ([n]) rfl rfl rfl rfl (fun _ _ => rfl) (fun _ => rfl)) ?_); refine ar_pcall (own := false) fn20 rfl rfl (.cons (.closed rfl) (.cons (.closed rfl) (.cons (.closed rfl) .nil))) (hfrom_p _ _ [n]) (by simp) (dc rfl) ?_; intro _ hv; subst hv)) | (refine ar_buildLE vi ([n]) (by exact ty rfl) (by exact rfl) (by exact ty rfl) (by exact rfl) (by exact rfl) (by exact Nat.succ_pos _) (by exact rfl) (by exact dc rfl) (by exact rfl) (by exact fun _ => ⟨rfl, rfl⟩) (by exact dc rfl) ?_) | (refine zb1 ?_) | (refine zb0 ?_) | (refine ar_nil ?_) | (refine aw_seq ?_) | (refine aw_skip ?_) | (refine aw_block ?_) | (refine aw_exit ?_) | (refine aw_region ?_) | (refine zco ?_ ?_ <;> intro hg <;> first | exact absurd hg (by decide) | ((try replace hg := HG.out hg); (try dsimp only at hg); (try (have _h : True := hg; clear _h hg)); first | (exfalso; omega) | skip))))
  (refine aw_ret ?_; (repeat (first | refine ret_then ?_ | refine ret_block ?_)); refine bq1 rfl ⟨?_, rfl⟩)
  refine vb_iff ?_
  rw [fromB_one, withinB_iff]
  unfold inDesigns
  omega
set_option maxHeartbeats 1000000 in
theorem order_p (h : Hse) (n : Int) (hs : HSmall h) : PCalls Try.prog 32 [.ref h.enc 0, vi n] (· = vb (decide (inOrders h n))) := by
  unfold HSmall at hs
  refine pcalls_of_aw Try.func32 rfl (Nat.le_of_ble_eq_true rfl) ?_
  (repeat' (first | (refine ar_isq ?_; first | refine zmv ?_ | refine zas ?_ | (refine is_load ?_; first | refine zlp ?_ | refine zlr ?_) | refine zsub ?_ | (refine is_fieldAddr ?_; first | refine zfp ?_ | refine zfr ?_) | (refine is_call ?_; first | refine zll ?_ | refine zls ?_ | refine zln ?_ | refine zle ?_) | refine zncp ?_ | refine zncr ?_) | (((refine ar_subk_l (sub_frzL (t := 13) vi ([n]) rfl rfl rfl rfl (fun _ _ => rfl) (fun _ => rfl)) ?_); refine ar_pcall (own := false) fn20 rfl rfl (.cons (.closed rfl) (.cons (.closed rfl) (.cons (.closed rfl) .nil))) (hfrom_p _ _ [n]) (by simp) (dc rfl) ?_; intro _ hv; subst hv)) | (refine ar_buildLE vi ([n]) (by exact ty rfl) (by exact rfl) (by exact ty rfl) (by exact rfl) (by exact rfl) (by exact Nat.succ_pos _) (by exact rfl) (by exact dc rfl) (by exact rfl) (by exact fun _ => ⟨rfl, rfl⟩) (by exact dc rfl) ?_) | (refine zb1 ?_) | (refine zb0 ?_) | (refine ar_nil ?_) | (refine aw_seq ?_) | (refine aw_skip ?_) | (refine aw_block ?_) | (refine aw_exit ?_) | (refine aw_region ?_) | (refine zco ?_ ?_ <;> intro hg <;> first | exact absurd hg (by decide) | ((try replace hg := HG.out hg); (try dsimp only at hg); (try (have _h : True := hg; clear _h hg)); first | (exfalso; omega) | skip))))
  (refine aw_ret ?_; (repeat (first | refine ret_then ?_ | refine ret_block ?_)); refine bq1 rfl ⟨?_, rfl⟩)
  refine vb_iff ?_
  rw [fromB_one, withinB_iff]
  unfold inOrders
  omega
set_option maxHeartbeats 1000000 in
theorem allows_p (h : Hse) (n : Int) (hn : inDesigns h n) : PCalls Try.prog 67 [.ref h.enc 0, vi n] (· = vi (allowsF h.per h.store.life (el h.designs n.toNat))) := by
  unfold inDesigns at hn
  have hb : lastErr (el h.designs n.toNat).sheet (el h.designs n.toNat).band h.per = 0 → 0 ≤ lastF (el h.designs n.toNat).sheet (el h.designs n.toNat).band h.per ∧ lastF (el h.designs n.toNat).sheet (el h.designs n.toNat).band h.per ≤ 1000000 := fun he => by have := lastF_bnd he; omega
  refine pcalls_of_aw Try.func67 rfl (Nat.le_of_ble_eq_true rfl) ?_
  (repeat' (first | (refine ar_isq ?_; first | refine zmv ?_ | refine zas ?_ | (refine is_load ?_; first | refine zlp ?_ | refine zlr ?_) | (refine is_binOp ?_; first | refine zneq ?_ | refine zadd ?_) | (refine is_fieldAddr ?_; first | refine zfp ?_ | refine zfr ?_) | (refine is_indexAddr ?_; first | refine zil ?_ | refine zis ?_ | refine zit ?_ | refine zia ?_ | refine zir ?_ | refine zil (j := n.toNat) ?_ | refine zis (j := n.toNat) ?_ | refine zit (j := n.toNat) ?_ | (refine zxl ?_; intro _ _ _) | (refine zxs ?_; intro _ _ _)) | refine zex ?_ | refine zncp ?_ | refine zncr ?_) | (refine ar_pcall (own := false) fn89 rfl rfl (.cons (.closed rfl) (.cons (.closed rfl) (.cons (.closed rfl) .nil))) (lLasts_p (el h.designs n.toNat).sheet (el h.designs n.toNat).band h.per) (by simp) (dc rfl) ?_; intro _ hv; subst hv) | (refine zal ?_) | (refine zsvs ?_) | (refine zsva ?_) | (refine zses ?_) | (refine zsea ?_) | (refine ar_nil ?_) | (refine aw_seq ?_) | (refine aw_skip ?_) | (refine aw_block ?_) | (refine aw_exit ?_) | (refine aw_region ?_) | (refine aw_drawn (id := 2) [(0, 0), (1, 0), (2, 0), (3, 0), (4, 0), (5, 0), (6, 0), (7, 0), (8, 0), (9, 1), (10, 0), (11, 0), (12, 0), (13, 0), (14, 0)] mixed (by kernel_rfl) ?_) | (refine aw_drawn (id := 2) [(0, 0), (1, 0), (2, 0), (3, 0), (4, 0), (5, 0), (6, 0), (7, 0), (8, 0), (9, 2), (10, 0), (11, 0), (12, 0), (13, 0), (14, 0)] mixed (by kernel_rfl) ?_) | (refine zco ?_ ?_ <;> intro hg <;> first | exact absurd hg (by decide) | ((try replace hg := HG.out hg); (try dsimp only at hg); (try (have _h : True := hg; clear _h hg)); first | (exfalso; omega) | skip))))
  · (refine aw_ret ?_; (repeat (first | refine ret_then ?_ | refine ret_block ?_)); refine bq1 rfl ⟨?_, rfl⟩)
    unfold allowsF
    rw [if_neg (by omega)]
  · (refine aw_ret ?_; (repeat (first | refine ret_then ?_ | refine ret_block ?_)); refine bq1 rfl ⟨?_, rfl⟩)
    unfold allowsF
    rw [if_pos (by omega)]
    rfl
set_option maxHeartbeats 1000000 in
theorem arch1_p (d : Dsn) : PCalls Try.prog 62 [d.enc] (· = vb (!decide (GoodD d))) := by
  refine pcalls_of_aw Try.func62 rfl (Nat.le_of_ble_eq_true rfl) ?_
  (repeat' (first | (refine ar_isq ?_; first | refine zas ?_ | (refine is_load ?_; first | refine zlp ?_ | refine zlr ?_) | refine znt ?_) | (refine ar_pcall (own := false) fn63 rfl rfl (.cons (.closed rfl) .nil) (good_p d) (by simp) (dc rfl) ?_; intro _ hv; subst hv) | (refine zbx ?_) | (refine ar_nil ?_) | (refine aw_seq ?_) | (refine aw_skip ?_) | (refine aw_block ?_) | (refine aw_exit ?_) | (refine aw_region ?_) | (refine zco ?_ ?_ <;> intro hg <;> first | exact absurd hg (by decide) | ((try replace hg := HG.out hg); (try dsimp only at hg); (try (have _h : True := hg; clear _h hg)); first | (exfalso; omega) | skip))))
  (refine aw_ret ?_; (repeat (first | refine ret_then ?_ | refine ret_block ?_)); refine bq1 rfl ⟨?_, rfl⟩)
  rfl
theorem inD_iff {h : Hse} {n : Int} : inDesigns h n ↔ (0 ≤ n ∧ n < (h.designs.length : Int)) := Iff.rfl
theorem inO_iff {h : Hse} {n : Int} : inOrders h n ↔ (0 ≤ n ∧ n < (h.orders.length : Int)) := Iff.rfl
set_option maxHeartbeats 2000000 in
theorem arch2_p (h : Hse) (l : Lic) (hs : HSmall h) : PCalls Try.prog 65 [l.enc, .ref (.ref h.enc 0) 0] (· = vb (!decide (LicOk h l))) := by
  have key : ∀ b : Bool, (b = false ↔ LicOk h l) → vb b = vb (!decide (LicOk h l)) := fun b hb => by
    by_cases hg : LicOk h l
    · rw [decide_eq_true hg, hb.2 hg]; rfl
    · rw [decide_eq_false hg]; cases b with | true => rfl | false => exact (hg (hb.1 rfl)).elim
  refine pcalls_of_aw Try.func65 rfl (Nat.le_of_ble_eq_true rfl) ?_
  (repeat' (first | (refine ar_isq ?_; first | refine zmv ?_ | refine zas ?_ | (refine is_load ?_; first | refine zlp ?_ | refine zlr ?_) | refine zeql ?_ | (refine is_fieldAddr ?_; first | refine zfp ?_ | refine zfr ?_) | (refine is_indexAddr ?_; first | refine zil ?_ | refine zis ?_ | refine zit ?_ | refine zia ?_ | refine zir ?_ | refine zil (j := l.design.toNat) ?_ | refine zis (j := l.design.toNat) ?_ | refine zit (j := l.design.toNat) ?_ | (refine zxl ?_; intro _ _ _) | (refine zxs ?_; intro _ _ _)) | (refine is_pick ?_; first | refine zpt ?_ | refine zpf ?_) | refine znt ?_ | refine zncp ?_ | refine zncr ?_) | (refine ar_pcall (own := false) fn66 rfl rfl (.cons (.closed rfl) (.cons (.closed rfl) .nil)) (design_p h l.design hs) (by simp) (dc rfl) ?_; intro _ hv; subst hv) | (((refine ar_subk_l (sub_frzL (t := 12) vi ([l.client]) rfl rfl rfl rfl (fun _ _ => rfl) (fun _ => rfl)) ?_); refine ar_pcall (own := false) fn20 rfl rfl (.cons (.closed rfl) (.cons (.closed rfl) (.cons (.closed rfl) .nil))) (hfrom_p _ _ [l.client]) (by simp) (dc rfl) ?_; intro _ hv; subst hv)) | (((refine ar_subk_l (sub_frzL (t := 34) vi ([l.til]) rfl rfl rfl rfl (fun _ _ => rfl) (fun _ => rfl)) ?_); refine ar_pcall (own := false) fn20 rfl rfl (.cons (.closed rfl) (.cons (.closed rfl) (.cons (.closed rfl) .nil))) (hfrom_p _ _ [l.til]) (by simp) (dc rfl) ?_; intro _ hv; subst hv)) | (((refine ar_subk_l (sub_frzL (t := 41) vi ([l.left]) rfl rfl rfl rfl (fun _ _ => rfl) (fun _ => rfl)) ?_); refine ar_pcall (own := false) fn20 rfl rfl (.cons (.closed rfl) (.cons (.closed rfl) (.cons (.closed rfl) .nil))) (hfrom_p _ _ [l.left]) (by simp) (dc rfl) ?_; intro _ hv; subst hv)) | (refine ar_buildLE vi ([_]) (by exact ty rfl) (by exact rfl) (by exact ty rfl) (by exact rfl) (by exact rfl) (by exact Nat.succ_pos _) (by exact rfl) (by exact dc rfl) (by exact rfl) (by exact fun _ => ⟨rfl, rfl⟩) (by exact dc rfl) ?_) | (refine zbx ?_) | (refine zb1 ?_) | (refine zb0 ?_) | (refine zg ?_ ?_ <;> intro hg <;> first | exact absurd hg (by decide) | ((try replace hg := HG.out hg); (try dsimp only at hg); (try rw [fromB_one] at hg); (try rw [withinB_iff] at hg); (try rw [withinB_no] at hg); (try rw [inD_iff] at hg); (try rw [inO_iff] at hg); (try (have _h : True := hg; clear _h hg)); first | (exfalso; omega) | skip)) | (refine zgu ?_) | (refine ar_nil ?_) | (refine aw_seq ?_) | (refine aw_skip ?_) | (refine aw_block ?_) | (refine aw_exit ?_) | (refine aw_region ?_) | (refine aw_drawn (id := 1) [(0, 0), (1, 0), (2, 0), (3, 1), (4, 0), (5, 0), (6, 0), (7, 0), (8, 1), (9, 1), (10, 0), (11, 0), (12, 0), (13, 0), (14, 0), (15, 0), (16, 0), (17, 0), (18, 0), (19, 0), (20, 0), (21, 0), (22, 0), (23, 0), (24, 0), (25, 0), (26, 0), (27, 0), (28, 0), (29, 0), (30, 1), (31, 1), (32, 0), (33, 0), (34, 0), (35, 0), (36, 0), (37, 1), (38, 1), (39, 0), (40, 0), (41, 0)] mixed (by kernel_rfl) ?_) | (refine aw_drawn (id := 1) [(0, 0), (1, 0), (2, 0), (3, 2), (4, 0), (5, 0), (6, 0), (7, 0), (8, 1), (9, 2), (10, 0), (11, 0), (12, 0), (13, 0), (14, 0), (15, 0), (16, 0), (17, 0), (18, 0), (19, 0), (20, 0), (21, 0), (22, 0), (23, 0), (24, 0), (25, 0), (26, 0), (27, 0), (28, 0), (29, 0), (30, 1), (31, 2), (32, 0), (33, 0), (34, 0), (35, 0), (36, 0), (37, 1), (38, 2), (39, 0), (40, 0), (41, 0)] mixed (by kernel_rfl) ?_) | (refine zco ?_ ?_ <;> intro hg <;> first | exact absurd hg (by decide) | ((try replace hg := HG.out hg); (try dsimp only at hg); (try rw [fromB_one] at hg); (try rw [withinB_iff] at hg); (try rw [withinB_no] at hg); (try rw [inD_iff] at hg); (try rw [inO_iff] at hg); (try (have _h : True := hg; clear _h hg)); first | (exfalso; omega) | skip))))
  all_goals first
    | (exfalso; omega)
    | ((refine aw_mono_r (env' := [(3, vb true)]) (H' := []) ?_ ?_; (focus ((refine sub_to [] [] rfl ?_ ?_ <;> (repeat' (first | exact trivial | refine ⟨⟨_, rfl, ?_⟩, ?_⟩ | refine ⟨bsub_snoc rfl rfl (fun _ => rfl) ?_, ?_⟩ | refine ⟨bsub_one rfl rfl ?_, ?_⟩ | refine ⟨bsub_all rfl rfl (fun _ _ => rfl) (fun _ => rfl), ?_⟩ | refine ⟨bsub_updL rfl rfl ?_ (fun _ _ _ => rfl) (fun _ => rfl), ?_⟩ | refine ⟨.inl ⟨_, _, rfl, rfl, ?_⟩, ?_⟩ | exact ⟨.inr ⟨rfl, rfl⟩, trivial⟩ | refine ⟨.inr ⟨rfl, rfl⟩, ?_⟩ | (intro _ _) | exact vz1 | exact vz2 | fail))); done))); (refine aw_ret ?_; (repeat (first | refine ret_then ?_ | refine ret_block ?_)); refine bq1 rfl ⟨?_, rfl⟩); refine key true ⟨fun h => (by cases h), fun hL => ?_⟩; unfold LicOk inDesigns at hL; omega)
    | ((refine aw_ret ?_; (repeat (first | refine ret_then ?_ | refine ret_block ?_)); refine bq1 rfl ⟨?_, rfl⟩)
       refine key _ ⟨fun hb => ?_, fun hL => ?_⟩
       · have h1 : fromB 0 400 [l.left] = true := by simpa using hb
         rw [fromB_one, withinB_iff] at h1
         unfold LicOk inDesigns
         omega
       · unfold LicOk inDesigns at hL
         have h1 : fromB 0 400 [l.left] = true := by rw [fromB_one, withinB_iff]; omega
         rw [h1]; rfl)
    | trace_state
/-- The designs and licences are valid. -/
def ArchOk (h : Hse) : Prop := (h.designs.length ≤ 8 ∧ h.lics.length ≤ 20) ∧ (∀ d, d ∈ h.designs → GoodD d) ∧ ∀ l, l ∈ h.lics → LicOk h l
set_option maxHeartbeats 2000000 in
theorem archived_p (h : Hse) (hs : HSmall h) : PCalls Try.prog 37 [.ref h.enc 0] (fun v => ∃ b : Bool, v = vb b ∧ (b = true ↔ ArchOk h)) := by
  have e1 : (!h.designs.any fun d => !decide (GoodD d)) = true ↔ ∀ d, d ∈ h.designs → GoodD d := by simp
  have e3 : (∀ d, d ∈ h.designs → GoodD d) → (h.designs.any fun d => !decide (GoodD d)) = false := fun hh => by
    have := e1.2 hh
    cases hq : (h.designs.any fun d => !decide (GoodD d)) with
    | false => rfl
    | true => rw [hq] at this; cases this
  have e2 : (!h.lics.any fun l => !decide (LicOk h l)) = true ↔ ∀ l, l ∈ h.lics → LicOk h l := by simp
  refine pcalls_of_aw Try.func37 rfl (Nat.le_of_ble_eq_true rfl) ?_
  (repeat' (first | (refine ar_isq ?_; first | refine zmv ?_ | refine zas ?_ | (refine is_load ?_; first | refine zlp ?_ | refine zlr ?_) | refine zgtr ?_ | (refine is_fieldAddr ?_; first | refine zfp ?_ | refine zfr ?_) | (refine is_call ?_; first | refine zll ?_ | refine zls ?_ | refine zln ?_ | refine zle ?_) | (refine is_pick ?_; first | refine zpt ?_ | refine zpf ?_) | refine znt ?_ | refine zncp ?_ | refine zncr ?_ | refine zmf ?_) | (refine ar_pcall (own := false) fn61 rfl rfl (.cons (.closed rfl) (.cons (.closed rfl) .nil)) (containsD_p h.designs fn62 rfl _ (fun x _ => arch1_p x)) (by simp) (dc rfl) ?_; intro _ hv; subst hv) | (((refine ar_sub_l (env' := [(31, encLics h.lics), (32, .fn (.func 65) [] [.ref (.ref h.enc 0) 0]), (26, vb true)]) (H' := []) ?_ ?_; (focus ((refine sub_to [] [0] rfl ?_ ?_ <;> (repeat' (first | exact trivial | refine ⟨⟨_, rfl, ?_⟩, ?_⟩ | refine ⟨bsub_snoc rfl rfl (fun _ => rfl) ?_, ?_⟩ | refine ⟨bsub_one rfl rfl ?_, ?_⟩ | refine ⟨bsub_all rfl rfl (fun _ _ => rfl) (fun _ => rfl), ?_⟩ | refine ⟨bsub_updL rfl rfl ?_ (fun _ _ _ => rfl) (fun _ => rfl), ?_⟩ | refine ⟨.inl ⟨_, _, rfl, rfl, ?_⟩, ?_⟩ | exact ⟨.inr ⟨rfl, rfl⟩, trivial⟩ | refine ⟨.inr ⟨rfl, rfl⟩, ?_⟩ | (intro _ _) | exact vz1 | (exact fn1_sub (frzPtr' (List.mem_singleton.2 rfl) rfl Nat.one_pos rfl rfl)) | exact vz2 | fail))); done))); refine ar_pcall (own := false) fn64 rfl rfl (.cons (.closed rfl) (.cons (.closed rfl) .nil)) (containsC_p h.lics fn65 rfl _ (fun x _ => arch2_p h x hs)) (by simp) (dc rfl) ?_; intro _ hv; subst hv)) | (refine zbx ?_) | (refine zg ?_ ?_ <;> intro hg <;> first | exact absurd hg (by decide) | ((try replace hg := HG.out hg); (try dsimp only at hg); (try (have _h : True := hg; clear _h hg)); first | (exfalso; omega) | skip)) | (refine zgu ?_) | (refine ar_nil ?_) | (refine aw_seq ?_) | (refine aw_skip ?_) | (refine aw_block ?_) | (refine aw_exit ?_) | (refine aw_region ?_) | (refine zco ?_ ?_ <;> intro hg <;> first | exact absurd hg (by decide) | ((try replace hg := HG.out hg); (try dsimp only at hg); (try (have _h : True := hg; clear _h hg)); first | (exfalso; omega) | skip))))
  all_goals first
    | (exfalso; omega)
    | ((refine aw_ret ?_; (repeat (first | refine ret_then ?_ | refine ret_block ?_)); refine bq1 rfl ⟨?_, rfl⟩); refine ⟨_, rfl, ⟨fun hb => ?_, fun hL => ?_⟩⟩; (focus (first | (cases hb; done) | (refine ⟨by omega, e1.1 (by simp_all), e2.1 (by simp_all)⟩))); (focus (first | (exact absurd hL.1 (by omega)) | (exact absurd ((e3 hL.2.1).symm.trans (by assumption)) (by decide)) | (have a1 := e1.2 hL.2.1; have a2 := e2.2 hL.2.2; simp_all; done))))
    | trace_state
end Go.Proofs.Ytbilpbabdgfblaa
namespace Go.Proofs.Ytbilpbabdgfblaa
open Go.RowKit
theorem used_sub {H : Heap} {σ : List (Option Nat)} {fr : Nat → Prop} {l : List Itm} {k j i : Nat} (hj : (el l k).src = (j : Int)) : VSub H σ fr (upd (fun i => vi (usedI l i k)) j (vi (usedI l j k + 1)) i) (vi (usedI l i (k + 1))) := by
  by_cases e : i = j
  · subst e
    rw [upd_same, usedI_yes hj]
    exact .closed rfl
  · rw [upd_other e, usedI_no (by omega)]
    exact .closed rfl
theorem usedP_sub {H : Heap} {σ : List (Option Nat)} {fr : Nat → Prop} {l : List Itm} {p : List Prt} {n k j i : Nat} (hj : (el p k).plate = (j : Int)) : VSub H σ fr (upd (fun i => vi (usedI l i n + usedP p i k)) j (vi (usedI l j n + usedP p j k + 1)) i) (vi (usedI l i n + usedP p i (k + 1))) := by
  by_cases e : i = j
  · subst e
    rw [upd_same, usedP_yes hj]
    exact .of_eq (congrArg vi (by omega)) rfl
  · rw [upd_other e, usedP_no (by omega)]
    exact .closed rfl
def ValidR (s : Sto) (v : V) (H : Heap) : Prop := (Valid s ∧ v = .tup [.ptr 4 0 0 0, vb true] ∧ H = stoB 0 s (pressTo s.items s.items.length)) ∨ (¬ Valid s ∧ v = .tup [.s (.pointer none), vb false] ∧ H = [])
set_option maxHeartbeats 8000000 in
theorem valid_p (s : Sto) : ACalls Try.prog 50 [s.enc] [] (ValidR s) NoP := by
  refine acalls_of_aw Try.func50 rfl (Nat.le_of_ble_eq_true rfl) ?_
  (repeat' (first | (refine ar_isq ?_; first | refine zmv ?_ | refine zas ?_ | (refine is_load ?_; first | refine zlp ?_ | refine zlr ?_) | (refine is_binOp ?_; first | refine zlss ?_ | refine zgtr ?_ | refine zeql ?_ | refine zneq ?_ | refine zadd ?_ | refine zsub ?_ | refine zsubu8 ?_) | (refine is_fieldAddr ?_; first | refine zfp ?_ | refine zfr ?_) | (refine is_indexAddr ?_; first | refine zil ?_ | refine zis ?_ | refine zit ?_ | refine zia ?_ | refine zir ?_ | (refine zxl ?_; intro _ _ _) | (refine zxs ?_; intro _ _ _)) | (refine is_call ?_; first | refine zll ?_ | refine zls ?_ | refine zln ?_ | refine zle ?_) | (refine is_pick ?_; first | refine zpt ?_ | refine zpf ?_) | refine zex ?_ | refine znt ?_) | (((refine ar_subk_l (sub_frzL (t := 14) vi ([s.life]) rfl rfl rfl rfl (fun _ _ => rfl) (fun _ => rfl)) ?_); refine ar_pcall (own := false) fn51 rfl rfl (.cons (.closed rfl) (.cons (.closed rfl) (.cons (.closed rfl) .nil))) (from_p _ _ [s.life]) (by simp) (dc rfl) ?_; intro _ hv; subst hv)) | (refine ar_buildLE vi ([s.life]) (by exact ty rfl) (by exact rfl) (by exact ty rfl) (by exact rfl) (by exact rfl) (by exact Nat.succ_pos _) (by exact rfl) (by exact dc rfl) (by exact rfl) (by exact fun _ => ⟨rfl, rfl⟩) (by exact dc rfl) ?_) | (refine ar_make_v (n := s.items.length) (ty rfl) rfl (ty rfl) rfl rfl rfl rfl (dc rfl) rfl rfl (by dsimp only; omega) (maxLen_ok (by omega)) ?_) | (refine zbx ?_) | (refine zal ?_) | (refine zb1 ?_) | (refine zb0 ?_) | (refine zsvs ?_) | (refine zsva ?_) | (refine zses ?_) | (refine zsea ?_) | (refine zg ?_ ?_ <;> intro hg <;> first | exact absurd hg (by decide) | ((try replace hg := HG.out hg); (try dsimp only at hg); (try rw [fromB_one] at hg); (try rw [withinB_iff] at hg); (try rw [withinB_no] at hg); (try (have _h : True := hg; clear _h hg)); first | (exfalso; omega) | skip)) | (refine zgu ?_) | (refine ar_nil ?_) | (refine aw_seq ?_) | (refine aw_skip ?_) | (refine aw_block ?_) | (refine aw_exit ?_) | (refine aw_region ?_) | (refine aw_drawn (id := 14) [(0, 0), (1, 0), (2, 0), (3, 0), (4, 1), (5, 1), (6, 0), (7, 0), (8, 0), (9, 0), (10, 0), (11, 0), (12, 0), (13, 0), (14, 0), (15, 0), (16, 0), (17, 0), (18, 0), (19, 0)] mixed (by kernel_rfl) ?_) | (refine aw_drawn (id := 14) [(0, 0), (1, 0), (2, 0), (3, 0), (4, 1), (5, 2), (6, 0), (7, 0), (8, 0), (9, 0), (10, 0), (11, 0), (12, 0), (13, 0), (14, 0), (15, 0), (16, 0), (17, 0), (18, 0), (19, 0)] mixed (by kernel_rfl) ?_) | (refine aw_drawn (id := 31) [(0, 0), (1, 0), (2, 0), (3, 0), (4, 0), (5, 0), (6, 0), (7, 0), (8, 0), (9, 0), (10, 0), (11, 0), (12, 0)] mixed (by kernel_rfl) ?_) | (refine zco ?_ ?_ <;> intro hg <;> first | exact absurd hg (by decide) | ((try replace hg := HG.out hg); (try dsimp only at hg); (try rw [fromB_one] at hg); (try rw [withinB_iff] at hg); (try rw [withinB_no] at hg); (try (have _h : True := hg; clear _h hg)); first | (exfalso; omega) | skip))))
  all_goals (try ((refine aw_mono_r (env' := [(2, .s (.pointer none)), (3, vb false)]) (H' := []) ?_ ?_; (focus ((refine sub_to [] [] rfl ?_ ?_ <;> (repeat' (first | exact trivial | refine ⟨⟨_, rfl, ?_⟩, ?_⟩ | refine ⟨bsub_snoc rfl rfl (fun _ => rfl) ?_, ?_⟩ | refine ⟨bsub_one rfl rfl ?_, ?_⟩ | refine ⟨bsub_all rfl rfl (fun _ _ => rfl) (fun _ => rfl), ?_⟩ | refine ⟨bsub_updL rfl rfl ?_ (fun _ _ _ => rfl) (fun _ => rfl), ?_⟩ | refine ⟨.inl ⟨_, _, rfl, rfl, ?_⟩, ?_⟩ | exact ⟨.inr ⟨rfl, rfl⟩, trivial⟩ | refine ⟨.inr ⟨rfl, rfl⟩, ?_⟩ | (intro _ _) | exact vz1 | exact vz2 | fail))); done))); refine aw_ret ?_; (repeat (first | refine ret_then ?_ | refine ret_block ?_)); refine bq2 rfl rfl (.inr ⟨fun v => ?_, rfl, rfl⟩); have hv := v.1; unfold Few at hv; omega))
  refine aw_for s.items.length (fun k => ∀ j, j < k → Made s.items j) (fun k => [(1, .ptr 3 0 0 0), (4, .sl 1 1 0 s.items.length), (34, encItems s.items), (35, vi s.items.length), (36, vi k)]) (fun k => [.arr 3 1 (fun _ => s.enc), .arr 1 s.items.length (fun j => vi (usedI s.items j k))]) (fun j hj => by omega) ?_ ?_
  · (refine sub_to [some 0, some 2] [] rfl ?_ ?_ <;> (repeat' (first | exact trivial | refine ⟨⟨_, rfl, ?_⟩, ?_⟩ | refine ⟨bsub_snoc rfl rfl (fun _ => rfl) ?_, ?_⟩ | refine ⟨bsub_one rfl rfl ?_, ?_⟩ | refine ⟨bsub_all rfl rfl (fun _ _ => rfl) (fun _ => rfl), ?_⟩ | refine ⟨bsub_updL rfl rfl ?_ (fun _ _ _ => rfl) (fun _ => rfl), ?_⟩ | refine ⟨.inl ⟨_, _, rfl, rfl, ?_⟩, ?_⟩ | exact ⟨.inr ⟨rfl, rfl⟩, trivial⟩ | refine ⟨.inr ⟨rfl, rfl⟩, ?_⟩ | (intro _ _) | exact vz1 | exact vz2 | fail)))
  intro k hk hJ
  by_cases hlt : k < s.items.length
  · have hb := usedI_bnd s.items (el s.items k).src.toNat k
    (repeat' (first | (refine ar_isq ?_; first | refine zmv ?_ | refine zas ?_ | (refine is_load ?_; first | refine zlp ?_ | refine zlr ?_) | (refine is_binOp ?_; first | refine zlss ?_ | refine zgtr ?_ | refine zeql ?_ | refine zneq ?_ | refine zadd ?_ | refine zsub ?_ | refine zsubu8 ?_) | (refine is_fieldAddr ?_; first | refine zfp ?_ | refine zfr ?_) | (refine is_indexAddr ?_; first | refine zil ?_ | refine zis ?_ | refine zit ?_ | refine zia ?_ | refine zir ?_ | refine zil (j := k) ?_ | refine zis (j := k) ?_ | refine zit (j := k) ?_ | refine zil (j := (el s.items k).src.toNat) ?_ | refine zis (j := (el s.items k).src.toNat) ?_ | refine zit (j := (el s.items k).src.toNat) ?_ | (refine zxl ?_; intro _ _ _) | (refine zxs ?_; intro _ _ _)) | (refine is_call ?_; first | refine zll ?_ | refine zls ?_ | refine zln ?_ | refine zle ?_) | (refine is_pick ?_; first | refine zpt ?_ | refine zpf ?_) | refine zex ?_ | refine znt ?_) | (((refine ar_subk_l (sub_frzL (t := 55) vi ([(el s.items k).src]) rfl rfl rfl rfl (fun _ _ => rfl) (fun _ => rfl)) ?_); refine ar_pcall (own := false) fn51 rfl rfl (.cons (.closed rfl) (.cons (.closed rfl) (.cons (.closed rfl) .nil))) (from_p _ _ [(el s.items k).src]) (by simp) (dc rfl) ?_; intro _ hv; subst hv)) | (refine ar_buildLE vi ([(el s.items k).src]) (by exact ty rfl) (by exact rfl) (by exact ty rfl) (by exact rfl) (by exact rfl) (by exact Nat.succ_pos _) (by exact rfl) (by exact dc rfl) (by exact rfl) (by exact fun _ => ⟨rfl, rfl⟩) (by exact dc rfl) ?_) | (refine zbx ?_) | (refine zal ?_) | (refine zb1 ?_) | (refine zb0 ?_) | (refine zsvs ?_) | (refine zsva ?_) | (refine zses ?_) | (refine zsea ?_) | (refine zg ?_ ?_ <;> intro hg <;> first | exact absurd hg (by decide) | ((try replace hg := HG.out hg); (try dsimp only at hg); (try rw [fromB_one] at hg); (try rw [withinB_iff] at hg); (try rw [withinB_no] at hg); (try (have _h : True := hg; clear _h hg)); first | (exfalso; omega) | skip)) | (refine zgu ?_) | (refine ar_nil ?_) | (refine aw_seq ?_) | (refine aw_skip ?_) | (refine aw_block ?_) | (refine aw_exit ?_) | (refine aw_region ?_) | (refine aw_drawn (id := 14) [(0, 0), (1, 0), (2, 0), (3, 0), (4, 1), (5, 1), (6, 0), (7, 0), (8, 0), (9, 0), (10, 0), (11, 0), (12, 0), (13, 0), (14, 0), (15, 0), (16, 0), (17, 0), (18, 0), (19, 0)] mixed (by kernel_rfl) ?_) | (refine aw_drawn (id := 14) [(0, 0), (1, 0), (2, 0), (3, 0), (4, 1), (5, 2), (6, 0), (7, 0), (8, 0), (9, 0), (10, 0), (11, 0), (12, 0), (13, 0), (14, 0), (15, 0), (16, 0), (17, 0), (18, 0), (19, 0)] mixed (by kernel_rfl) ?_) | (refine aw_drawn (id := 31) [(0, 0), (1, 0), (2, 0), (3, 0), (4, 0), (5, 0), (6, 0), (7, 0), (8, 0), (9, 0), (10, 0), (11, 0), (12, 0)] mixed (by kernel_rfl) ?_) | (refine zco ?_ ?_ <;> intro hg <;> first | exact absurd hg (by decide) | ((try replace hg := HG.out hg); (try dsimp only at hg); (try rw [fromB_one] at hg); (try rw [withinB_iff] at hg); (try rw [withinB_no] at hg); (try (have _h : True := hg; clear _h hg)); first | (exfalso; omega) | skip))))
    all_goals first
      | (exfalso; omega)
      | ((refine aw_mono_r (env' := [(2, .s (.pointer none)), (3, vb false)]) (H' := []) ?_ ?_; (focus ((refine sub_to [] [] rfl ?_ ?_ <;> (repeat' (first | exact trivial | refine ⟨⟨_, rfl, ?_⟩, ?_⟩ | refine ⟨bsub_snoc rfl rfl (fun _ => rfl) ?_, ?_⟩ | refine ⟨bsub_one rfl rfl ?_, ?_⟩ | refine ⟨bsub_all rfl rfl (fun _ _ => rfl) (fun _ => rfl), ?_⟩ | refine ⟨bsub_updL rfl rfl ?_ (fun _ _ _ => rfl) (fun _ => rfl), ?_⟩ | refine ⟨.inl ⟨_, _, rfl, rfl, ?_⟩, ?_⟩ | exact ⟨.inr ⟨rfl, rfl⟩, trivial⟩ | refine ⟨.inr ⟨rfl, rfl⟩, ?_⟩ | (intro _ _) | exact vz1 | exact vz2 | fail))); done))); refine aw_ret ?_; (repeat (first | refine ret_then ?_ | refine ret_block ?_)); refine bq2 rfl rfl (.inr ⟨fun v => ?_, rfl, rfl⟩); have hv := v.2.1 k hlt; unfold Made at hv; omega)
      | ((first | refine loop_next (by omega) ?_ ?_ | refine (show _ ∧ _ ∧ SubOf _ _ _ _ _ _ from And.intro (by omega) (And.intro ?_ ?_))); (focus (((refine all_step hJ ?_; unfold Made; omega)); done)); (focus ((refine sub_to [some 0, some 1] [] rfl ?_ ?_ <;> (repeat' (first | exact trivial | refine ⟨⟨_, rfl, ?_⟩, ?_⟩ | refine ⟨bsub_snoc rfl rfl (fun _ => rfl) ?_, ?_⟩ | refine ⟨bsub_one rfl rfl ?_, ?_⟩ | refine ⟨bsub_all rfl rfl (fun _ _ => rfl) (fun _ => rfl), ?_⟩ | refine ⟨bsub_updL rfl rfl ?_ (fun _ _ _ => rfl) (fun _ => rfl), ?_⟩ | refine ⟨.inl ⟨_, _, rfl, rfl, ?_⟩, ?_⟩ | exact ⟨.inr ⟨rfl, rfl⟩, trivial⟩ | refine ⟨.inr ⟨rfl, rfl⟩, ?_⟩ | (intro _ _) | exact vz1 | (exact siEq (by rw [usedI_no (by omega)])) | exact vz2 | fail))); done)))
      | ((first | refine loop_next (by omega) ?_ ?_ | refine (show _ ∧ _ ∧ SubOf _ _ _ _ _ _ from And.intro (by omega) (And.intro ?_ ?_))); (focus (((refine all_step hJ ?_; unfold Made; omega)); done)); (focus ((refine sub_to [some 0, some 1] [] rfl ?_ ?_ <;> (repeat' (first | exact trivial | refine ⟨⟨_, rfl, ?_⟩, ?_⟩ | refine ⟨bsub_snoc rfl rfl (fun _ => rfl) ?_, ?_⟩ | refine ⟨bsub_one rfl rfl ?_, ?_⟩ | refine ⟨bsub_all rfl rfl (fun _ _ => rfl) (fun _ => rfl), ?_⟩ | refine ⟨bsub_updL rfl rfl ?_ (fun _ _ _ => rfl) (fun _ => rfl), ?_⟩ | refine ⟨.inl ⟨_, _, rfl, rfl, ?_⟩, ?_⟩ | exact ⟨.inr ⟨rfl, rfl⟩, trivial⟩ | refine ⟨.inr ⟨rfl, rfl⟩, ?_⟩ | (intro _ _) | exact vz1 | (exact used_sub (by omega)) | exact vz2 | fail))); done)))
      | trace_state
  · (repeat' (first | (refine ar_isq ?_; first | refine zmv ?_ | refine zas ?_ | (refine is_load ?_; first | refine zlp ?_ | refine zlr ?_) | (refine is_binOp ?_; first | refine zlss ?_ | refine zgtr ?_ | refine zeql ?_ | refine zneq ?_ | refine zadd ?_ | refine zsub ?_ | refine zsubu8 ?_) | (refine is_fieldAddr ?_; first | refine zfp ?_ | refine zfr ?_) | (refine is_indexAddr ?_; first | refine zil ?_ | refine zis ?_ | refine zit ?_ | refine zia ?_ | refine zir ?_ | (refine zxl ?_; intro _ _ _) | (refine zxs ?_; intro _ _ _)) | (refine is_call ?_; first | refine zll ?_ | refine zls ?_ | refine zln ?_ | refine zle ?_) | (refine is_pick ?_; first | refine zpt ?_ | refine zpf ?_) | refine zex ?_ | refine znt ?_) | (refine zbx ?_) | (refine zal ?_) | (refine zb1 ?_) | (refine zb0 ?_) | (refine zsvs ?_) | (refine zsva ?_) | (refine zses ?_) | (refine zsea ?_) | (refine zg ?_ ?_ <;> intro hg <;> first | exact absurd hg (by decide) | ((try replace hg := HG.out hg); (try dsimp only at hg); (try rw [fromB_one] at hg); (try rw [withinB_iff] at hg); (try rw [withinB_no] at hg); (try (have _h : True := hg; clear _h hg)); first | (exfalso; omega) | skip)) | (refine zgu ?_) | (refine ar_nil ?_) | (refine aw_seq ?_) | (refine aw_skip ?_) | (refine aw_block ?_) | (refine aw_exit ?_) | (refine aw_region ?_) | (refine aw_drawn (id := 14) [(0, 0), (1, 0), (2, 0), (3, 0), (4, 1), (5, 1), (6, 0), (7, 0), (8, 0), (9, 0), (10, 0), (11, 0), (12, 0), (13, 0), (14, 0), (15, 0), (16, 0), (17, 0), (18, 0), (19, 0)] mixed (by kernel_rfl) ?_) | (refine aw_drawn (id := 14) [(0, 0), (1, 0), (2, 0), (3, 0), (4, 1), (5, 2), (6, 0), (7, 0), (8, 0), (9, 0), (10, 0), (11, 0), (12, 0), (13, 0), (14, 0), (15, 0), (16, 0), (17, 0), (18, 0), (19, 0)] mixed (by kernel_rfl) ?_) | (refine aw_drawn (id := 31) [(0, 0), (1, 0), (2, 0), (3, 0), (4, 0), (5, 0), (6, 0), (7, 0), (8, 0), (9, 0), (10, 0), (11, 0), (12, 0)] mixed (by kernel_rfl) ?_) | (refine zco ?_ ?_ <;> intro hg <;> first | exact absurd hg (by decide) | ((try replace hg := HG.out hg); (try dsimp only at hg); (try rw [fromB_one] at hg); (try rw [withinB_iff] at hg); (try rw [withinB_no] at hg); (try (have _h : True := hg; clear _h hg)); first | (exfalso; omega) | skip))))
    all_goals (try (exfalso; omega))
    have hM : ∀ j, j < s.items.length → Made s.items j := fun j hj => hJ j (by omega)
    obtain rfl : k = s.items.length := by omega
    clear hJ hlt hk
    refine aw_for s.prints.length (fun q => ∀ j, j < q → Printed s.items (el s.prints j)) (fun q => [(1, .ptr 3 0 0 0), (4, .sl 1 1 0 s.items.length), (80, encPrints s.prints), (81, vi s.prints.length), (82, vi q)]) (fun q => [.arr 3 1 (fun _ => s.enc), .arr 1 s.items.length (fun j => vi (usedI s.items j s.items.length + usedP s.prints j q))]) (fun j hj => by omega) ?_ ?_
    · (refine sub_to [some 0, some 1] [] rfl ?_ ?_ <;> (repeat' (first | exact trivial | refine ⟨⟨_, rfl, ?_⟩, ?_⟩ | refine ⟨bsub_snoc rfl rfl (fun _ => rfl) ?_, ?_⟩ | refine ⟨bsub_one rfl rfl ?_, ?_⟩ | refine ⟨bsub_all rfl rfl (fun _ _ => rfl) (fun _ => rfl), ?_⟩ | refine ⟨bsub_updL rfl rfl ?_ (fun _ _ _ => rfl) (fun _ => rfl), ?_⟩ | refine ⟨.inl ⟨_, _, rfl, rfl, ?_⟩, ?_⟩ | exact ⟨.inr ⟨rfl, rfl⟩, trivial⟩ | refine ⟨.inr ⟨rfl, rfl⟩, ?_⟩ | (intro _ _) | exact vz1 | (exact siEq (by simp [usedP, cntB])) | exact vz2 | fail)))
    intro q hq hP
    by_cases hlq : q < s.prints.length
    · have hb := usedI_bnd s.items (el s.prints q).plate.toNat s.items.length
      have hb2 := usedP_bnd s.prints (el s.prints q).plate.toNat q
      (repeat' (first | (refine ar_isq ?_; first | refine zmv ?_ | refine zas ?_ | (refine is_load ?_; first | refine zlp ?_ | refine zlr ?_) | (refine is_binOp ?_; first | refine zlss ?_ | refine zgtr ?_ | refine zeql ?_ | refine zneq ?_ | refine zadd ?_ | refine zsub ?_ | refine zsubu8 ?_) | (refine is_fieldAddr ?_; first | refine zfp ?_ | refine zfr ?_) | (refine is_indexAddr ?_; first | refine zil ?_ | refine zis ?_ | refine zit ?_ | refine zia ?_ | refine zir ?_ | refine zil (j := q) ?_ | refine zis (j := q) ?_ | refine zit (j := q) ?_ | refine zil (j := (el s.prints q).plate.toNat) ?_ | refine zis (j := (el s.prints q).plate.toNat) ?_ | refine zit (j := (el s.prints q).plate.toNat) ?_ | (refine zxl ?_; intro _ _ _) | (refine zxs ?_; intro _ _ _)) | (refine is_call ?_; first | refine zll ?_ | refine zls ?_ | refine zln ?_ | refine zle ?_) | (refine is_pick ?_; first | refine zpt ?_ | refine zpf ?_) | refine zex ?_ | refine znt ?_) | (((refine ar_subk_l (sub_frzL (t := 92) vi ([(el s.prints q).plate]) rfl rfl rfl rfl (fun _ _ => rfl) (fun _ => rfl)) ?_); refine ar_pcall (own := false) fn51 rfl rfl (.cons (.closed rfl) (.cons (.closed rfl) (.cons (.closed rfl) .nil))) (from_p _ _ [(el s.prints q).plate]) (by simp) (dc rfl) ?_; intro _ hv; subst hv)) | (refine ar_buildLE vi ([(el s.prints q).plate]) (by exact ty rfl) (by exact rfl) (by exact ty rfl) (by exact rfl) (by exact rfl) (by exact Nat.succ_pos _) (by exact rfl) (by exact dc rfl) (by exact rfl) (by exact fun _ => ⟨rfl, rfl⟩) (by exact dc rfl) ?_) | (refine zbx ?_) | (refine zal ?_) | (refine zb1 ?_) | (refine zb0 ?_) | (refine zsvs ?_) | (refine zsva ?_) | (refine zses ?_) | (refine zsea ?_) | (refine zg ?_ ?_ <;> intro hg <;> first | exact absurd hg (by decide) | ((try replace hg := HG.out hg); (try dsimp only at hg); (try rw [fromB_one] at hg); (try rw [withinB_iff] at hg); (try rw [withinB_no] at hg); (try (have _h : True := hg; clear _h hg)); first | (exfalso; omega) | skip)) | (refine zgu ?_) | (refine ar_nil ?_) | (refine aw_seq ?_) | (refine aw_skip ?_) | (refine aw_block ?_) | (refine aw_exit ?_) | (refine aw_region ?_) | (refine aw_drawn (id := 14) [(0, 0), (1, 0), (2, 0), (3, 0), (4, 1), (5, 1), (6, 0), (7, 0), (8, 0), (9, 0), (10, 0), (11, 0), (12, 0), (13, 0), (14, 0), (15, 0), (16, 0), (17, 0), (18, 0), (19, 0)] mixed (by kernel_rfl) ?_) | (refine aw_drawn (id := 14) [(0, 0), (1, 0), (2, 0), (3, 0), (4, 1), (5, 2), (6, 0), (7, 0), (8, 0), (9, 0), (10, 0), (11, 0), (12, 0), (13, 0), (14, 0), (15, 0), (16, 0), (17, 0), (18, 0), (19, 0)] mixed (by kernel_rfl) ?_) | (refine aw_drawn (id := 31) [(0, 0), (1, 0), (2, 0), (3, 0), (4, 0), (5, 0), (6, 0), (7, 0), (8, 0), (9, 0), (10, 0), (11, 0), (12, 0)] mixed (by kernel_rfl) ?_) | (refine zco ?_ ?_ <;> intro hg <;> first | exact absurd hg (by decide) | ((try replace hg := HG.out hg); (try dsimp only at hg); (try rw [fromB_one] at hg); (try rw [withinB_iff] at hg); (try rw [withinB_no] at hg); (try (have _h : True := hg; clear _h hg)); first | (exfalso; omega) | skip))))
      all_goals first
        | (exfalso; omega)
        | ((refine aw_mono_r (env' := [(2, .s (.pointer none)), (3, vb false)]) (H' := []) ?_ ?_; (focus ((refine sub_to [] [] rfl ?_ ?_ <;> (repeat' (first | exact trivial | refine ⟨⟨_, rfl, ?_⟩, ?_⟩ | refine ⟨bsub_snoc rfl rfl (fun _ => rfl) ?_, ?_⟩ | refine ⟨bsub_one rfl rfl ?_, ?_⟩ | refine ⟨bsub_all rfl rfl (fun _ _ => rfl) (fun _ => rfl), ?_⟩ | refine ⟨bsub_updL rfl rfl ?_ (fun _ _ _ => rfl) (fun _ => rfl), ?_⟩ | refine ⟨.inl ⟨_, _, rfl, rfl, ?_⟩, ?_⟩ | exact ⟨.inr ⟨rfl, rfl⟩, trivial⟩ | refine ⟨.inr ⟨rfl, rfl⟩, ?_⟩ | (intro _ _) | exact vz1 | exact vz2 | fail))); done))); refine aw_ret ?_; (repeat (first | refine ret_then ?_ | refine ret_block ?_)); refine bq2 rfl rfl (.inr ⟨fun v => ?_, rfl, rfl⟩); have hv := v.2.2.2.1 q hlq; unfold Printed at hv; omega)
        | ((first | refine loop_next (by omega) ?_ ?_ | refine (show _ ∧ _ ∧ SubOf _ _ _ _ _ _ from And.intro (by omega) (And.intro ?_ ?_))); (focus (((refine all_step hP ?_; unfold Printed; omega)); done)); (focus ((refine sub_to [some 0, some 1] [] rfl ?_ ?_ <;> (repeat' (first | exact trivial | refine ⟨⟨_, rfl, ?_⟩, ?_⟩ | refine ⟨bsub_snoc rfl rfl (fun _ => rfl) ?_, ?_⟩ | refine ⟨bsub_one rfl rfl ?_, ?_⟩ | refine ⟨bsub_all rfl rfl (fun _ _ => rfl) (fun _ => rfl), ?_⟩ | refine ⟨bsub_updL rfl rfl ?_ (fun _ _ _ => rfl) (fun _ => rfl), ?_⟩ | refine ⟨.inl ⟨_, _, rfl, rfl, ?_⟩, ?_⟩ | exact ⟨.inr ⟨rfl, rfl⟩, trivial⟩ | refine ⟨.inr ⟨rfl, rfl⟩, ?_⟩ | (intro _ _) | exact vz1 | (exact usedP_sub (by omega)) | exact vz2 | fail))); done)))
        | trace_state
    · (repeat' (first | (refine ar_isq ?_; first | refine zmv ?_ | refine zas ?_ | (refine is_load ?_; first | refine zlp ?_ | refine zlr ?_) | (refine is_binOp ?_; first | refine zlss ?_ | refine zgtr ?_ | refine zeql ?_ | refine zneq ?_ | refine zadd ?_ | refine zsub ?_ | refine zsubu8 ?_) | (refine is_fieldAddr ?_; first | refine zfp ?_ | refine zfr ?_) | (refine is_indexAddr ?_; first | refine zil ?_ | refine zis ?_ | refine zit ?_ | refine zia ?_ | refine zir ?_ | (refine zxl ?_; intro _ _ _) | (refine zxs ?_; intro _ _ _)) | (refine is_call ?_; first | refine zll ?_ | refine zls ?_ | refine zln ?_ | refine zle ?_) | (refine is_pick ?_; first | refine zpt ?_ | refine zpf ?_) | refine zex ?_ | refine znt ?_) | (refine zbx ?_) | (refine zal ?_) | (refine zb1 ?_) | (refine zb0 ?_) | (refine zsvs ?_) | (refine zsva ?_) | (refine zses ?_) | (refine zsea ?_) | (refine zg ?_ ?_ <;> intro hg <;> first | exact absurd hg (by decide) | ((try replace hg := HG.out hg); (try dsimp only at hg); (try rw [fromB_one] at hg); (try rw [withinB_iff] at hg); (try rw [withinB_no] at hg); (try (have _h : True := hg; clear _h hg)); first | (exfalso; omega) | skip)) | (refine zgu ?_) | (refine ar_nil ?_) | (refine aw_seq ?_) | (refine aw_skip ?_) | (refine aw_block ?_) | (refine aw_exit ?_) | (refine aw_region ?_) | (refine aw_drawn (id := 14) [(0, 0), (1, 0), (2, 0), (3, 0), (4, 1), (5, 1), (6, 0), (7, 0), (8, 0), (9, 0), (10, 0), (11, 0), (12, 0), (13, 0), (14, 0), (15, 0), (16, 0), (17, 0), (18, 0), (19, 0)] mixed (by kernel_rfl) ?_) | (refine aw_drawn (id := 14) [(0, 0), (1, 0), (2, 0), (3, 0), (4, 1), (5, 2), (6, 0), (7, 0), (8, 0), (9, 0), (10, 0), (11, 0), (12, 0), (13, 0), (14, 0), (15, 0), (16, 0), (17, 0), (18, 0), (19, 0)] mixed (by kernel_rfl) ?_) | (refine aw_drawn (id := 31) [(0, 0), (1, 0), (2, 0), (3, 0), (4, 0), (5, 0), (6, 0), (7, 0), (8, 0), (9, 0), (10, 0), (11, 0), (12, 0)] mixed (by kernel_rfl) ?_) | (refine zco ?_ ?_ <;> intro hg <;> first | exact absurd hg (by decide) | ((try replace hg := HG.out hg); (try dsimp only at hg); (try rw [fromB_one] at hg); (try rw [withinB_iff] at hg); (try rw [withinB_no] at hg); (try (have _h : True := hg; clear _h hg)); first | (exfalso; omega) | skip))))
      all_goals (try (exfalso; omega))
      have hP1 : ∀ j, j < s.prints.length → Printed s.items (el s.prints j) := fun j hj => hP j (by omega)
      obtain rfl : q = s.prints.length := by omega
      clear hP hlq hq
      refine aw_for s.items.length (fun k => ∀ j, j < k → UsedOk s j) (fun k => [(1, .ptr 3 0 0 0), (4, .sl 1 1 0 s.items.length), (119, encItems s.items), (120, vi s.items.length), (121, vi k)]) (fun _ => [.arr 3 1 (fun _ => s.enc), .arr 1 s.items.length (fun j => vi (usedS s j))]) (fun j hj => by omega) ?_ ?_
      · (refine sub_to [some 0, some 1] [] rfl ?_ ?_ <;> (repeat' (first | exact trivial | refine ⟨⟨_, rfl, ?_⟩, ?_⟩ | refine ⟨bsub_snoc rfl rfl (fun _ => rfl) ?_, ?_⟩ | refine ⟨bsub_one rfl rfl ?_, ?_⟩ | refine ⟨bsub_all rfl rfl (fun _ _ => rfl) (fun _ => rfl), ?_⟩ | refine ⟨bsub_updL rfl rfl ?_ (fun _ _ _ => rfl) (fun _ => rfl), ?_⟩ | refine ⟨.inl ⟨_, _, rfl, rfl, ?_⟩, ?_⟩ | exact ⟨.inr ⟨rfl, rfl⟩, trivial⟩ | refine ⟨.inr ⟨rfl, rfl⟩, ?_⟩ | (intro _ _) | exact vz1 | exact vz2 | fail)))
      intro k hk hU
      by_cases hlt : k < s.items.length
      · (repeat' (first | (refine ar_isq ?_; first | refine zmv ?_ | refine zas ?_ | (refine is_load ?_; first | refine zlp ?_ | refine zlr ?_) | (refine is_binOp ?_; first | refine zlss ?_ | refine zgtr ?_ | refine zeql ?_ | refine zneq ?_ | refine zadd ?_ | refine zsub ?_ | refine zsubu8 ?_) | (refine is_fieldAddr ?_; first | refine zfp ?_ | refine zfr ?_) | (refine is_indexAddr ?_; first | refine zil ?_ | refine zis ?_ | refine zit ?_ | refine zia ?_ | refine zir ?_ | refine zil (j := k) ?_ | refine zis (j := k) ?_ | refine zit (j := k) ?_ | (refine zxl ?_; intro _ _ _) | (refine zxs ?_; intro _ _ _)) | (refine is_call ?_; first | refine zll ?_ | refine zls ?_ | refine zln ?_ | refine zle ?_) | (refine is_pick ?_; first | refine zpt ?_ | refine zpf ?_) | refine zex ?_ | refine znt ?_) | (refine zbx ?_) | (refine zal ?_) | (refine zb1 ?_) | (refine zb0 ?_) | (refine zsvs ?_) | (refine zsva ?_) | (refine zses ?_) | (refine zsea ?_) | (refine zg ?_ ?_ <;> intro hg <;> first | exact absurd hg (by decide) | ((try replace hg := HG.out hg); (try dsimp only at hg); (try rw [fromB_one] at hg); (try rw [withinB_iff] at hg); (try rw [withinB_no] at hg); (try (have _h : True := hg; clear _h hg)); first | (exfalso; omega) | skip)) | (refine zgu ?_) | (refine ar_nil ?_) | (refine aw_seq ?_) | (refine aw_skip ?_) | (refine aw_block ?_) | (refine aw_exit ?_) | (refine aw_region ?_) | (refine aw_drawn (id := 14) [(0, 0), (1, 0), (2, 0), (3, 0), (4, 1), (5, 1), (6, 0), (7, 0), (8, 0), (9, 0), (10, 0), (11, 0), (12, 0), (13, 0), (14, 0), (15, 0), (16, 0), (17, 0), (18, 0), (19, 0)] mixed (by kernel_rfl) ?_) | (refine aw_drawn (id := 14) [(0, 0), (1, 0), (2, 0), (3, 0), (4, 1), (5, 2), (6, 0), (7, 0), (8, 0), (9, 0), (10, 0), (11, 0), (12, 0), (13, 0), (14, 0), (15, 0), (16, 0), (17, 0), (18, 0), (19, 0)] mixed (by kernel_rfl) ?_) | (refine aw_drawn (id := 31) [(0, 0), (1, 0), (2, 0), (3, 0), (4, 0), (5, 0), (6, 0), (7, 0), (8, 0), (9, 0), (10, 0), (11, 0), (12, 0)] mixed (by kernel_rfl) ?_) | (refine zco ?_ ?_ <;> intro hg <;> first | exact absurd hg (by decide) | ((try replace hg := HG.out hg); (try dsimp only at hg); (try rw [fromB_one] at hg); (try rw [withinB_iff] at hg); (try rw [withinB_no] at hg); (try (have _h : True := hg; clear _h hg)); first | (exfalso; omega) | skip))))
        all_goals first
          | (exfalso; omega)
          | ((refine aw_mono_r (env' := [(2, .s (.pointer none)), (3, vb false)]) (H' := []) ?_ ?_; (focus ((refine sub_to [] [] rfl ?_ ?_ <;> (repeat' (first | exact trivial | refine ⟨⟨_, rfl, ?_⟩, ?_⟩ | refine ⟨bsub_snoc rfl rfl (fun _ => rfl) ?_, ?_⟩ | refine ⟨bsub_one rfl rfl ?_, ?_⟩ | refine ⟨bsub_all rfl rfl (fun _ _ => rfl) (fun _ => rfl), ?_⟩ | refine ⟨bsub_updL rfl rfl ?_ (fun _ _ _ => rfl) (fun _ => rfl), ?_⟩ | refine ⟨.inl ⟨_, _, rfl, rfl, ?_⟩, ?_⟩ | exact ⟨.inr ⟨rfl, rfl⟩, trivial⟩ | refine ⟨.inr ⟨rfl, rfl⟩, ?_⟩ | (intro _ _) | exact vz1 | exact vz2 | fail))); done))); refine aw_ret ?_; (repeat (first | refine ret_then ?_ | refine ret_block ?_)); refine bq2 rfl rfl (.inr ⟨fun v => ?_, rfl, rfl⟩); have hv := v.2.2.2.2 k hlt; unfold UsedOk mostOf at hv; simp_all; done)
          | ((refine aw_mono_r (env' := [(2, .s (.pointer none)), (3, vb false)]) (H' := []) ?_ ?_; (focus ((refine sub_to [] [] rfl ?_ ?_ <;> (repeat' (first | exact trivial | refine ⟨⟨_, rfl, ?_⟩, ?_⟩ | refine ⟨bsub_snoc rfl rfl (fun _ => rfl) ?_, ?_⟩ | refine ⟨bsub_one rfl rfl ?_, ?_⟩ | refine ⟨bsub_all rfl rfl (fun _ _ => rfl) (fun _ => rfl), ?_⟩ | refine ⟨bsub_updL rfl rfl ?_ (fun _ _ _ => rfl) (fun _ => rfl), ?_⟩ | refine ⟨.inl ⟨_, _, rfl, rfl, ?_⟩, ?_⟩ | exact ⟨.inr ⟨rfl, rfl⟩, trivial⟩ | refine ⟨.inr ⟨rfl, rfl⟩, ?_⟩ | (intro _ _) | exact vz1 | exact vz2 | fail))); done))); refine aw_ret ?_; (repeat (first | refine ret_then ?_ | refine ret_block ?_)); refine bq2 rfl rfl (.inr ⟨fun v => ?_, rfl, rfl⟩); have hv := v.2.2.2.2 k hlt; unfold UsedOk mostOf at hv; simp_all; omega)
          | ((first | refine loop_next (by omega) ?_ ?_ | refine (show _ ∧ _ ∧ SubOf _ _ _ _ _ _ from And.intro (by omega) (And.intro ?_ ?_))); (focus (((refine all_step hU ?_; unfold UsedOk mostOf; simp_all; done)); done)); (focus ((refine sub_to [some 0, some 1] [] rfl ?_ ?_ <;> (repeat' (first | exact trivial | refine ⟨⟨_, rfl, ?_⟩, ?_⟩ | refine ⟨bsub_snoc rfl rfl (fun _ => rfl) ?_, ?_⟩ | refine ⟨bsub_one rfl rfl ?_, ?_⟩ | refine ⟨bsub_all rfl rfl (fun _ _ => rfl) (fun _ => rfl), ?_⟩ | refine ⟨bsub_updL rfl rfl ?_ (fun _ _ _ => rfl) (fun _ => rfl), ?_⟩ | refine ⟨.inl ⟨_, _, rfl, rfl, ?_⟩, ?_⟩ | exact ⟨.inr ⟨rfl, rfl⟩, trivial⟩ | refine ⟨.inr ⟨rfl, rfl⟩, ?_⟩ | (intro _ _) | exact vz1 | exact vz2 | fail))); done)))
          | ((first | refine loop_next (by omega) ?_ ?_ | refine (show _ ∧ _ ∧ SubOf _ _ _ _ _ _ from And.intro (by omega) (And.intro ?_ ?_))); (focus (((refine all_step hU ?_; unfold UsedOk mostOf; simp_all; omega)); done)); (focus ((refine sub_to [some 0, some 1] [] rfl ?_ ?_ <;> (repeat' (first | exact trivial | refine ⟨⟨_, rfl, ?_⟩, ?_⟩ | refine ⟨bsub_snoc rfl rfl (fun _ => rfl) ?_, ?_⟩ | refine ⟨bsub_one rfl rfl ?_, ?_⟩ | refine ⟨bsub_all rfl rfl (fun _ _ => rfl) (fun _ => rfl), ?_⟩ | refine ⟨bsub_updL rfl rfl ?_ (fun _ _ _ => rfl) (fun _ => rfl), ?_⟩ | refine ⟨.inl ⟨_, _, rfl, rfl, ?_⟩, ?_⟩ | exact ⟨.inr ⟨rfl, rfl⟩, trivial⟩ | refine ⟨.inr ⟨rfl, rfl⟩, ?_⟩ | (intro _ _) | exact vz1 | exact vz2 | fail))); done)))
          | trace_state
      · (repeat' (first | (refine ar_isq ?_; first | refine zmv ?_ | refine zas ?_ | (refine is_load ?_; first | refine zlp ?_ | refine zlr ?_) | (refine is_binOp ?_; first | refine zlss ?_ | refine zgtr ?_ | refine zeql ?_ | refine zneq ?_ | refine zadd ?_ | refine zsub ?_ | refine zsubu8 ?_) | (refine is_fieldAddr ?_; first | refine zfp ?_ | refine zfr ?_) | (refine is_indexAddr ?_; first | refine zil ?_ | refine zis ?_ | refine zit ?_ | refine zia ?_ | refine zir ?_ | (refine zxl ?_; intro _ _ _) | (refine zxs ?_; intro _ _ _)) | (refine is_call ?_; first | refine zll ?_ | refine zls ?_ | refine zln ?_ | refine zle ?_) | (refine is_pick ?_; first | refine zpt ?_ | refine zpf ?_) | refine zex ?_ | refine znt ?_) | ((refine ar_gcall0 fn80 rfl rfl [s.enc] ⟨.closed rfl, trivial⟩ (open_p s (by omega) (by omega)) (dc rfl) ?_ (fun _ _ h => h.elim); rintro _ _ (⟨rfl, rfl, hpl⟩ | ⟨rfl, rfl, hpl⟩) <;> (try rw [stoB_ren]))) | (refine zbx ?_) | (refine zal ?_) | (refine zb1 ?_) | (refine zb0 ?_) | (refine zsvs ?_) | (refine zsva ?_) | (refine zses ?_) | (refine zsea ?_) | (refine zg ?_ ?_ <;> intro hg <;> first | exact absurd hg (by decide) | ((try replace hg := HG.out hg); (try dsimp only at hg); (try rw [fromB_one] at hg); (try rw [withinB_iff] at hg); (try rw [withinB_no] at hg); (try (have _h : True := hg; clear _h hg)); first | (exfalso; omega) | skip)) | (refine zgu ?_) | (refine ar_nil ?_) | (refine aw_seq ?_) | (refine aw_skip ?_) | (refine aw_block ?_) | (refine aw_exit ?_) | (refine aw_region ?_) | (refine aw_drawn (id := 14) [(0, 0), (1, 0), (2, 0), (3, 0), (4, 1), (5, 1), (6, 0), (7, 0), (8, 0), (9, 0), (10, 0), (11, 0), (12, 0), (13, 0), (14, 0), (15, 0), (16, 0), (17, 0), (18, 0), (19, 0)] mixed (by kernel_rfl) ?_) | (refine aw_drawn (id := 14) [(0, 0), (1, 0), (2, 0), (3, 0), (4, 1), (5, 2), (6, 0), (7, 0), (8, 0), (9, 0), (10, 0), (11, 0), (12, 0), (13, 0), (14, 0), (15, 0), (16, 0), (17, 0), (18, 0), (19, 0)] mixed (by kernel_rfl) ?_) | (refine aw_drawn (id := 31) [(0, 0), (1, 0), (2, 0), (3, 0), (4, 0), (5, 0), (6, 0), (7, 0), (8, 0), (9, 0), (10, 0), (11, 0), (12, 0)] mixed (by kernel_rfl) ?_) | (refine zco ?_ ?_ <;> intro hg <;> first | exact absurd hg (by decide) | ((try replace hg := HG.out hg); (try dsimp only at hg); (try rw [fromB_one] at hg); (try rw [withinB_iff] at hg); (try rw [withinB_no] at hg); (try (have _h : True := hg; clear _h hg)); first | (exfalso; omega) | skip))))
        all_goals first
          | (exfalso; omega)
          | ((refine aw_mono_r (env' := [(2, .s (.pointer none)), (3, vb false)]) (H' := []) ?_ ?_; (focus ((refine sub_to [] [] rfl ?_ ?_ <;> (repeat' (first | exact trivial | refine ⟨⟨_, rfl, ?_⟩, ?_⟩ | refine ⟨bsub_snoc rfl rfl (fun _ => rfl) ?_, ?_⟩ | refine ⟨bsub_one rfl rfl ?_, ?_⟩ | refine ⟨bsub_all rfl rfl (fun _ _ => rfl) (fun _ => rfl), ?_⟩ | refine ⟨bsub_updL rfl rfl ?_ (fun _ _ _ => rfl) (fun _ => rfl), ?_⟩ | refine ⟨.inl ⟨_, _, rfl, rfl, ?_⟩, ?_⟩ | exact ⟨.inr ⟨rfl, rfl⟩, trivial⟩ | refine ⟨.inr ⟨rfl, rfl⟩, ?_⟩ | (intro _ _) | exact vz1 | exact vz2 | fail))); done))); refine aw_ret ?_; (repeat (first | refine ret_then ?_ | refine ret_block ?_)); refine bq2 rfl rfl (.inr ⟨fun v => ?_, rfl, rfl⟩); exact hpl fun i hi => placed_to (v.2.2.1 i hi) (by omega))
          | ((refine aw_mono_r (env' := [(2, .ptr 4 0 0 0), (3, vb true)]) (H' := [.arr 4 1 (fun _ => stoV 0 s), LB 5 Itm.enc s.items, LB 2 Prt.enc s.prints, mapE vi (pressTo s.items s.items.length)]) ?_ ?_; (focus ((refine sub_to [some 2, some 3, some 4, some 5] [] rfl ?_ ?_ <;> (repeat' (first | exact trivial | refine ⟨⟨_, rfl, ?_⟩, ?_⟩ | refine ⟨bsub_snoc rfl rfl (fun _ => rfl) ?_, ?_⟩ | refine ⟨bsub_one rfl rfl ?_, ?_⟩ | refine ⟨bsub_all rfl rfl (fun _ _ => rfl) (fun _ => rfl), ?_⟩ | refine ⟨bsub_updL rfl rfl ?_ (fun _ _ _ => rfl) (fun _ => rfl), ?_⟩ | refine ⟨.inl ⟨_, _, rfl, rfl, ?_⟩, ?_⟩ | exact ⟨.inr ⟨rfl, rfl⟩, trivial⟩ | refine ⟨.inr ⟨rfl, rfl⟩, ?_⟩ | (intro _ _) | exact vz1 | (first | refine ⟨bsub_mapE rfl rfl (fun _ => rfl), ?_⟩ | exact VSub.aggL ⟨.closed rfl, .sl rfl, .sl rfl, .map rfl, trivial⟩) | exact vz2 | fail))); done)))
             refine aw_ret (bq2 rfl rfl (.inl ⟨⟨⟨by omega, by omega, by omega⟩, hM, placed_all hpl, hP1, fun i hi => hU i (by omega)⟩, rfl, rfl⟩)))
          | trace_state
end Go.Proofs.Ytbilpbabdgfblaa
namespace Go.Proofs.Ytbilpbabdgfblaa
open Go.RowKit Go.Shelf
def insRen : Ren := ⟨fun x => if x = 21 then 53 else if x = 27 then 83 else if x = 28 then 84 else if x = 35 then 97 else if x = 39 then 105 else 0, fun x => if x = 3 then 3 else if x = 4 then 4 else if x = 22 then 29 else 0, fun _ => 0⟩
set_option maxRecDepth 100000 in
theorem insLays : Lays2.n21 Try.prog insRen where
  mixed := by kernel_rfl
  f21 := by kernel_rfl
  f27 := by kernel_rfl
  f28 := by kernel_rfl
  f35 := by kernel_rfl
  f39 := by kernel_rfl
  t0 := by kernel_rfl
  a0 := fun _ => rfl
  z0 := fun _ => rfl
  v0 := fun _ => rfl
  t3 := by kernel_rfl
  a3 := fun _ => rfl
  z3 := fun _ => rfl
  v3 := fun _ => rfl
  t4 := by kernel_rfl
  a4 := fun _ => rfl
  z4 := fun _ => rfl
  v4 := fun _ => rfl
  t22 := by kernel_rfl
  a22 := fun _ => rfl
  z22 := fun _ => rfl
  v22 := fun _ => rfl
  i3 := by kernel_rfl
theorem setCells_block {b : Nat} {t : TypeId} : ∀ (vs : List Value) (o : Nat) (w : World) (cs : Array Value), w.heap[b]? = some (.cells cs t (0, 0)) → o + vs.length ≤ cs.size →
    ∃ cs' : Array Value, (w.setCells b o vs).heap[b]? = some (.cells cs' t (0, 0)) ∧ cs'.size = cs.size ∧ (∀ j, j < o → cs'[j]? = cs[j]?) ∧ (∀ j, j < vs.length → cs'[o + j]? = vs[j]?) ∧ (∀ j, o + vs.length ≤ j → cs'[j]? = cs[j]?) ∧
      (∀ c, c ≠ b → (w.setCells b o vs).heap[c]? = w.heap[c]?) ∧ (w.setCells b o vs).heap.size = w.heap.size ∧ (w.setCells b o vs).os = w.os ∧ (w.setCells b o vs).tape = w.tape ∧ (w.setCells b o vs).output = w.output
  | [], o, w, cs, h, _ => ⟨cs, h, rfl, fun _ _ => rfl, fun j hj => by simp at hj, fun _ _ => rfl, fun _ _ => rfl, rfl, rfl, rfl, rfl⟩
  | v :: r, o, w, cs, h, hl => by
    simp only [List.length_cons] at hl
    obtain ⟨cs', h1, h2, h3, h4, h5, h6, h7, h8, h9, h10⟩ := setCells_block r (o + 1) (w.setCell ⟨b, o, none⟩ v) (cs.setIfInBounds o v) (heap_setCell_same w b o cs t v h) (by simp; omega)
    refine ⟨cs', h1, by rw [h2]; simp, fun j hj => ?_, fun j hj => ?_, fun j hj => ?_, fun c hc => ?_, ?_, h8, h9, h10⟩
    · rw [h3 j (by omega)]
      simp [show o ≠ j by omega]
    · cases j with
      | zero =>
        rw [Nat.add_zero, h3 o (by omega)]
        simp [show o < cs.size by omega]
      | succ j =>
        have := h4 j (by simp at hj; omega)
        rw [show o + (j + 1) = o + 1 + j by omega, this]
        simp
    · simp only [List.length_cons] at hj
      rw [h5 j (by omega)]
      simp [show o ≠ j by omega]
    · show ((w.setCell ⟨b, o, none⟩ v).setCells b (o + 1) r).heap[c]? = _
      rw [h6 c hc, heap_setCell_other w _ c v hc]
    · show ((w.setCell ⟨b, o, none⟩ v).setCells b (o + 1) r).heap.size = _
      rw [h7]
      simp [World.setCell]
def InsR (l : List Int) (x : Int) (v : V) (H : Heap) : Prop := v = .sl 1 2 0 (l.length + 1) ∧ H = [.dead, LB 1 vi [x], LB 1 vi (x :: l)]
theorem insert_done {X : Ctx} {I : Imm} {ρ : List (Option (Nat × Nat))} {w w' : World} {l : List Int} {x : Int} {cb c : Nat} {cs : Array Value} {ty : TypeId} (hw : WOk X I ρ [.dead, LB 1 vi [x]] w) (hL : ¬ Live [.dead, LB 1 vi [x]] ρ cb) (hI : I cb = none) (hm : X.w.heap.size ≤ cb ∨ Live X.H X.ρ cb)
    (hc : l.length + 1 ≤ c) (hcm : c ≤ maxLen) (hcz : c ≤ cs.size) (hrow : ∀ i, i < l.length + 1 → cs[i]? = some (.int .i64 (el (x :: l) i))) (hnew : w'.heap[cb]? = some (.cells cs ty (0, 0))) (hold : ∀ c, c ≠ cb → c < w.heap.size → w'.heap[c]? = w.heap[c]?) (hsize : w.heap.size ≤ w'.heap.size)
    (ho : w'.os = w.os) (ht : w'.tape = w.tape) (hout : w'.output = w.output) :
    ∃ v u I' ρ' H', I.le I' ∧ Pre ρ ρ' ∧ WOk X I' ρ' H' w' ∧ VRel I' ρ' v u ∧ ((Ending.returned (.slice (some ⟨cb, 0, none⟩) (l.length + 1) c) = .returned u ∧ InsR l x v H') ∨ (Ending.returned (.slice (some ⟨cb, 0, none⟩) (l.length + 1) c) = .panicked [{ v := u, recovered := false }] ∧ NoP v H')) := by
  have hlen : ρ.length = 2 := hw.len
  have h := hw.adopt (w' := w') (sz := 1) (n := (x :: l).length) (f := fun i => vi (el (x :: l) i)) hL hI hm (by simp; omega) (fun _ _ => rfl) (fun i j v hi hj => by
    cases j with
    | zero => cases hj; exact ⟨_, by simpa using hrow i (by simpa using hi), .s _⟩
    | succ j => cases hj) hnew hold hsize ho ht hout
  refine ⟨.sl 1 2 0 (l.length + 1), _, I, _, _, Imm.le_refl _, pre_append _, h, ?_, .inl ⟨rfl, rfl, rfl⟩⟩
  have := VRel.sl (I := I) (ρ := ρ ++ [some (cb, cs.size)]) (sz := 1) (b := 2) (i := 0) (n := l.length + 1) (cb := cb) (z := cs.size) (c := c) (by rw [List.getElem?_append_right (by omega), hlen]; rfl) hc hcm (by omega)
  simpa using this
theorem insRow_size (v : Value) (k : Nat) : ((([] ++ [v] : List Value).toArray ++ Builtin.zeroCells (Value.int .i64 0).cells k)).size = 1 + k := by
  rw [Array.size_append, size_zeroCells, show (Value.int .i64 0).cells.size = 1 from rfl]
  simp
theorem insRow_at (v : Value) (k : Nat) : ((([] ++ [v] : List Value).toArray ++ Builtin.zeroCells (Value.int .i64 0).cells k))[0]? = some v := by
  rw [Array.getElem?_append_left (by simp)]
  rfl
set_option maxHeartbeats 1000000 in
theorem insert_p (l : List Int) (x : Int) (hl : l.length ≤ 100) : ACalls Try.prog 53 [.sl 1 0 0 l.length, vi 0, .sl 1 1 0 1] [LB 1 vi l, LB 1 vi [x]] (InsR l x) NoP := by
  refine ⟨fun X I ρ w us hw hv => ?_⟩
  obtain ⟨hsz, hrel⟩ := hv
  have hus : us.size = 3 := hsz
  obtain ⟨u0, u1, u2, rfl⟩ : ∃ a b c, us = #[a, b, c] := by
    match us, hus with
    | ⟨[a, b, c]⟩, _ => exact ⟨a, b, c, rfl⟩
  have r0 := hrel 0 _ u0 rfl rfl
  have r1 := hrel 1 _ u1 rfl rfl
  have r2 := hrel 2 _ u2 rfl rfl
  cases r1
  have hlen : ρ.length = 2 := hw.len
  -- the number that comes in
  obtain ⟨vb, z1, vc, rfl, hρ1, hvc, _, _⟩ : ∃ vb z1 vc, u2 = .slice (some ⟨vb, 0, none⟩) 1 vc ∧ ρ[1]? = some (some (vb, z1)) ∧ 1 ≤ vc ∧ vc ≤ maxLen ∧ True := by
    rcases r2.sl_inv with ⟨cb, z, c, h1, h2, h3, h4, _⟩ | ⟨_, _, _, _, h⟩
    · exact ⟨cb, z, c, by simpa using h1, h2, h3, h4, trivial⟩
    · cases h
  obtain ⟨cs1, ty1, hb1, hz1, hn1, hr1⟩ := hw.arr 1 _ _ _ _ _ rfl hρ1
  obtain ⟨y, hy, hyv⟩ := hr1 0 0 _ Nat.one_pos rfl
  have hy : cs1[0]? = some (.int .i64 x) := by cases hyv; simpa [el] using hy
  have hl1 : Live [LB 1 vi l, LB 1 vi [x]] ρ vb := ⟨1, _, rfl, by simp [LB], z1, hρ1⟩
  have hvs : ∀ j v, [Value.int .i64 x][j]? = some v → w.cell? ⟨vb, 0 + j, none⟩ = some v := fun j v hj => by
    cases j with
    | zero => cases hj; rw [cell_of hb1]; exact hy
    | succ j => cases hj
  have h1v : ∀ v ∈ [Value.int .i64 x], v.oneCell' = true := fun v hv => by simp at hv; subst hv; rfl
  have hkill := hw.kill 0
  have new : ¬ Live [.dead, LB 1 vi [x]] ρ w.heap.size := fun h => by have := hkill.lt h; omega
  have newI : I w.heap.size = none := by
    cases e : I w.heap.size with
    | none => rfl
    | some o => have := (Array.getElem?_eq_some_iff.1 (hw.imm _ o e)).1; omega
  have keepNew : ∀ (o : Obj) c, c ≠ w.heap.size → c < w.heap.size → (w.drew.alloc o).heap[c]? = w.heap[c]? := fun o c _ hc => Below.heap_alloc w.drew o c hc
  rcases r0.sl_inv with ⟨cb, z, c, rfl, hρ0, hnc, hcm, hcz⟩ | ⟨A, rfl, hρ0, _, hn0⟩
  · rw [Nat.zero_mul]
    rw [Nat.zero_add, Nat.mul_one] at hcz
    obtain ⟨cs, t, hcs, hzz, hnz, hr0⟩ := hw.arr 0 _ _ _ _ _ rfl hρ0
    have hL0 : Live [LB 1 vi l, LB 1 vi [x]] ρ cb := ⟨0, _, rfl, by simp [LB], z, hρ0⟩
    have hne : vb ≠ cb := fun e => by
      subst e
      have := hw.inj 0 1 vb ⟨_, rfl, by simp [LB]⟩ ⟨_, rfl, by simp [LB]⟩ z z1 hρ0 hρ1
      cases this
    have hrow0 : ∀ i, i < l.length → cs[i]? = some (.int .i64 (el l i)) := fun i hi => by
      obtain ⟨u, h2, h3⟩ := hr0 i 0 _ hi rfl
      cases h3
      simpa using h2
    have hdead : ¬ Live [.dead, LB 1 vi [x]] ρ cb := not_live_kill hw (k := 0) rfl (by simp [LB]) hρ0
    unfold maxLen at hcm
    by_cases h0 : l.length = 0
    · obtain rfl := List.length_eq_zero_iff.1 h0
      by_cases hroom : 1 ≤ c
      · refine (Any2.slices_Insert_int_end_room insLays cb 0 0 c vb 0 1 vc [.int .i64 x] w (by omega) (by omega) (by omega) rfl (fun j hj => ?_) (fun j hj => frozen_of_row w cb _ cs t hcs) hvs h1v).mono ?_
        · rw [cell_of hcs]
          simp [show j = 0 by omega] at *
          omega
        · rintro e w' ⟨rfl, rfl⟩
          obtain ⟨cs', a1, a2, a3, a4, a5, a6, a7, a8, a9, a10⟩ := setCells_block [.int .i64 x] (0 + 0) w cs hcs (by simp; omega)
          refine insert_done (l := []) (x := x) (cs := cs') hkill hdead (hw.apart cb hL0) (hw.mine cb hL0) hroom (by unfold maxLen; omega) (by omega) (fun i hi => ?_) a1 (fun c hc _ => a6 c hc) (by omega) a8 a9 a10
          have : i = 0 := by simpa using hi
          subst this
          simpa [el] using a4 0 (by simp)
      · have hc0 : c = 0 := by omega
        subst hc0
        refine (Any2.slices_Insert_int_end_grow insLays (some ⟨cb, 0, none⟩) 0 0 vb 0 1 vc [] [.int .i64 x] w (by omega) (by omega) (by omega) (by omega) rfl rfl (fun h => by cases h) (fun _ _ j v hj => by simp at hj) hvs h1v).mono ?_
        rintro e w' ⟨rfl, rfl⟩
        refine insert_done (l := []) (x := x) hkill new newI (.inl hw.grow) (grownCap_ge _ _ _ _) (grownCap_le_maxLen _ _ _ _ (by unfold maxLen; simp)) (by rw [insRow_size]; omega) (fun i hi => ?_) (World.alloc_heap_new w.drew _) (keepNew _) (by show w.heap.size ≤ (w.heap.push _).size; rw [Array.size_push]; omega) rfl rfl rfl
        have : i = 0 := by simpa using hi
        subst this
        exact insRow_at _ _
    · by_cases hroom : l.length + 1 ≤ c
      · refine (Any2.slices_Insert_int_shift insLays cb 0 l.length c 0 vb 0 1 vc (l.map (Value.int .i64)) [.int .i64 x] w (by omega) (by omega) hroom (by omega) hne (by simp) rfl (fun j v hj => ?_) (fun j hj => ?_) (fun j hj => frozen_of_row w cb _ cs t hcs) hvs (fun v hv => ?_) h1v ty1 t cs1.size cs.size ?_ ?_ (by omega) (frozen_of_row w vb _ cs1 ty1 hb1) (frozen_of_row w vb _ cs1 ty1 hb1)).mono ?_
        · rw [cell_of hcs, Nat.zero_add]
          simp only [List.getElem?_map, Option.map_eq_some_iff] at hj
          obtain ⟨q, hq, rfl⟩ := hj
          have hlt := (List.getElem?_eq_some_iff.1 hq).1
          rw [hrow0 j hlt, el_eq hlt]
          rw [List.getElem?_eq_getElem hlt] at hq
          cases hq
          rfl
        · rw [cell_of hcs, Nat.zero_add]
          simp
          omega
        · obtain ⟨q, _, rfl⟩ := List.mem_map.1 hv
          rfl
        · simp [World.shape?, hb1]
        · simp [World.shape?, hcs]
        · rintro e w' ⟨rfl, rfl⟩
          obtain ⟨cs', a1, a2, a3, a4, a5, a6, a7, a8, a9, a10⟩ := setCells_block ((l.map (Value.int .i64)).drop 0) (0 + (0 + 1)) w.drew cs hcs (by simp; omega)
          obtain ⟨cs2, b1, b2, b3, b4, b5, b6, b7, b8, b9, b10⟩ := setCells_block [.int .i64 x] (0 + 0) _ cs' a1 (by simp; omega)
          refine insert_done (cs := cs2) hkill hdead (hw.apart cb hL0) (hw.mine cb hL0) hroom (by unfold maxLen; omega) (by omega) (fun i hi => ?_) b1 (fun c hc _ => (b6 c hc).trans (a6 c hc)) (by rw [b7, a7]; exact Nat.le_refl _) (b8.trans a8) (b9.trans a9) (b10.trans a10)
          cases i with
          | zero => simpa [el] using b4 0 (by simp)
          | succ i =>
            have hi' : i < l.length := by omega
            have e := a4 i (by simpa using hi')
            rw [show 0 + (0 + 1) + i = i + 1 by omega] at e
            rw [b5 (i + 1) (by simp), e]
            simp [hi', el]
      · refine (Any2.slices_Insert_int_grow insLays cb 0 l.length c 0 vb 0 1 vc (l.map (Value.int .i64)) [.int .i64 x] w (by omega) (by omega) hnc (by omega) (by omega) (by simp) rfl (fun j v hj => ?_) hvs (fun v hv => ?_) h1v).mono ?_
        · rw [cell_of hcs, Nat.zero_add]
          simp only [List.getElem?_map, Option.map_eq_some_iff] at hj
          obtain ⟨q, hq, rfl⟩ := hj
          have hlt := (List.getElem?_eq_some_iff.1 hq).1
          rw [hrow0 j hlt, el_eq hlt]
          rw [List.getElem?_eq_getElem hlt] at hq
          cases hq
          rfl
        · obtain ⟨q, _, rfl⟩ := List.mem_map.1 hv
          rfl
        · rintro e w' ⟨rfl, rfl⟩
          have hge := grownCap_ge w (l.length + 1) c (insRen.t 3)
          generalize hA : ((((l.map (Value.int .i64)).take 0).toArray ++ Builtin.zeroCells (Value.int .i64 0).cells (l.length + 1 - 0) ++ Builtin.zeroCells (Value.int .i64 0).cells (grownCap w (l.length + 1) c (insRen.t 3) - (l.length + 1)))) = A
          have hAs : A.size = grownCap w (l.length + 1) c (insRen.t 3) := by
            rw [← hA]
            simp [size_zeroCells, Value.cells]
            omega
          have hnewA : (w.alloc (.cells A (insRen.t 3))).heap[w.heap.size]? = some (.cells A (insRen.t 3) (0, 0)) := World.alloc_heap_new w _
          obtain ⟨cs', a1, a2, a3, a4, a5, a6, a7, a8, a9, a10⟩ := setCells_block [.int .i64 x] 0 (w.alloc (.cells A (insRen.t 3))).drew A hnewA (by simp; omega)
          obtain ⟨cs2, b1, b2, b3, b4, b5, b6, b7, b8, b9, b10⟩ := setCells_block ((l.map (Value.int .i64)).drop 0) (0 + 1) ((w.alloc (.cells A (insRen.t 3))).drew.setCells w.heap.size 0 [.int .i64 x]).drew cs' a1 (by simp; omega)
          refine insert_done (cs := cs2) hkill new newI (.inl hw.grow) hge (grownCap_le_maxLen _ _ _ _ (by unfold maxLen; omega)) (by omega) (fun i hi => ?_) b1 (fun c hc hlt => (b6 c hc).trans ((a6 c hc).trans (Below.heap_alloc w _ c hlt))) (by
            rw [b7]
            show _ ≤ ((w.alloc (.cells A (insRen.t 3))).drew.setCells w.heap.size 0 [.int .i64 x]).heap.size
            rw [a7]
            show _ ≤ (w.heap.push _).size
            rw [Array.size_push]
            omega) (b8.trans a8) (b9.trans a9) (b10.trans a10)
          cases i with
          | zero => rw [b3 0 (by omega)]; simpa [el] using a4 0 (by simp)
          | succ i =>
            have hi' : i < l.length := by omega
            have e := b4 i (by simpa using hi')
            rw [show 0 + 1 + i = i + 1 by omega] at e
            rw [e]
            simp [hi', el]
  · have hn0 : l.length = 0 := hn0
    obtain rfl := List.length_eq_zero_iff.1 hn0
    refine (Any2.slices_Insert_int_end_grow insLays A 0 0 vb 0 1 vc [] [.int .i64 x] w (by omega) (by omega) (by omega) (by omega) rfl rfl (fun _ => rfl) (fun _ _ j v hj => by simp at hj) hvs h1v).mono ?_
    rintro e w' ⟨rfl, rfl⟩
    refine insert_done (l := []) (x := x) hkill new newI (.inl hw.grow) (grownCap_ge _ _ _ _) (grownCap_le_maxLen _ _ _ _ (by unfold maxLen; simp)) (by rw [insRow_size]; omega) (fun i hi => ?_) (World.alloc_heap_new w.drew _) (keepNew _) (by show w.heap.size ≤ (w.heap.push _).size; rw [Array.size_push]; omega) rfl rfl rfl
    have : i = 0 := by simpa using hi
    subst this
    exact insRow_at _ _
end Go.Proofs.Ytbilpbabdgfblaa
namespace Go.Proofs.Ytbilpbabdgfblaa
open Go.RowKit
theorem join_ins {H : Heap} {b c : Nat} {l : List Int} {v : Int} (hc : H[c]? = some (LB 1 vi [v])) (_hne : b ≠ c) : joinH [b, c] [] H [.dead, LB 1 vi [v], LB 1 vi (v :: l)] = H.set b .dead ++ [LB 1 vi (v :: l)] := by
  unfold joinH
  refine congr (congrArg HAppend.hAppend ?_) rfl
  refine List.ext_getElem? fun i => ?_
  rw [joinAt_get, Nat.zero_add, List.getElem?_set]
  by_cases e : b = i
  · subst e
    rw [if_pos rfl]
    by_cases hlt : b < H.length
    · rw [if_pos hlt, List.getElem?_eq_getElem hlt]
      simp [pickB, List.idxOf?_cons, Blk.ren]
    · rw [if_neg hlt, List.getElem?_eq_none (by omega)]
      rfl
  · rw [if_neg e]
    by_cases e2 : c = i
    · subst e2
      rw [hc]
      simp only [Option.map_some, Option.some.injEq]
      simp [pickB, List.idxOf?_cons, e]
      rfl
    · cases h : H[i]? with
      | none => rfl
      | some x => simp [pickB, List.idxOf?_cons, e, e2]
theorem ar_insert {r : Option Nat} {m nt i d : Nat} {Q : Post} {env : Env} {H : Heap} {ops : Array Oper} {L : List Stp} {ty : TypeId} {pos : String} {after : Array Edge} {ats : Array TypeId} {x z : Operand} {b c : Nat} (l : List Int) (v : Int)
    (h : AR Try.prog r m nt ops Q L ((d, .sl 1 H.length 0 (l.length + 1)) :: env) (H.set b .dead ++ [LB 1 vi (v :: l)])) (hx : eo env x = some (.sl 1 b 0 l.length)) (hz : eo env z = some (.sl 1 c 0 1)) (hb : H[b]? = some (LB 1 vi l)) (hc : H[c]? = some (LB 1 vi [v])) (hne : b ≠ c) (hl : l.length ≤ 100) (hd : d < nt) :
    AR Try.prog r m nt ops Q (.l i ⟨some d, .call ⟨.value (.func 53), #[x, .const (.int .i64 0), z], ats⟩, ty, pos, after, none⟩ false :: L) env H := by
  have hh : HSub H ([b, c].map some) (· ∈ ([] : List Nat)) 0 [LB 1 vi l, LB 1 vi [v]] :=
    ⟨.inl ⟨b, _, rfl, hb, fun _ _ => .closed rfl⟩, .inl ⟨c, _, rfl, hc, fun _ _ => .closed rfl⟩, trivial⟩
  refine ar_gcall (H0 := [LB 1 vi l, LB 1 vi [v]]) (vs := [.sl 1 b 0 l.length, vi 0, .sl 1 c 0 1]) (first := []) (cap := []) [b, c] [] (args := [x, .const (.int .i64 0), z]) fn53 rfl (by rw [List.mapM_cons, List.mapM_cons, List.mapM_cons, List.mapM_nil, hx, hz]; rfl) (xs := [.sl 1 0 0 l.length, vi 0, .sl 1 1 0 1]) ⟨.sl rfl, .closed rfl, .sl rfl, trivial⟩ rfl (by simpa using hne) (fun _ h => by cases h) hh (by simp [LB]) (insert_p l v hl) hd ?_ (fun _ _ h => h.elim)
  rintro _ _ ⟨rfl, rfl⟩
  rw [join_ins hc hne]
  exact h
def srcN (l : List Itm) (i : Int) : Nat → Int
  | 0 => i
  | k + 1 => (el l (srcN l i k).toNat).src
def lineTo (l : List Itm) (i : Int) : Nat → List Int
  | 0 => []
  | k + 1 => srcN l i k :: lineTo l i k
theorem lineTo_len (l : List Itm) (i : Int) : ∀ k, (lineTo l i k).length = k
  | 0 => rfl
  | k + 1 => by simp [lineTo, lineTo_len l i k]
def lineN (l : List Itm) (i : Int) : Nat := (el l i.toNat).kind.toNat
structure Chain (l : List Itm) (i : Int) : Prop where
  few : 1 ≤ lineN l i ∧ lineN l i ≤ 3
  at_ : ∀ k, k < lineN l i → (0 ≤ srcN l i k ∧ srcN l i k < (l.length : Int)) ∧ (el l (srcN l i k).toNat).kind = (lineN l i : Int) - k
  stop : srcN l i (lineN l i) = -1
theorem chain_ok {l : List Itm} (h : ∀ i, i < l.length → Made l i) {i : Int} (hi : 0 ≤ i ∧ i < (l.length : Int)) : Chain l i := by
  have h0 := h i.toNat (by omega)
  have hk : (el l i.toNat).kind = (lineN l i : Int) := by
    unfold lineN
    unfold Made at h0
    omega
  have hb : 1 ≤ lineN l i ∧ lineN l i ≤ 3 := by unfold Made at h0; omega
  have all : ∀ k, k < lineN l i → (0 ≤ srcN l i k ∧ srcN l i k < (l.length : Int)) ∧ (el l (srcN l i k).toNat).kind = (lineN l i : Int) - k := fun k => by
    induction k with
    | zero => intro _; exact ⟨hi, by rw [show srcN l i 0 = i from rfl, hk]; omega⟩
    | succ k ih =>
      intro hk1
      obtain ⟨h1, h2⟩ := ih (by omega)
      have h3 := h (srcN l i k).toNat (by omega)
      unfold Made at h3
      simp only [srcN]
      rcases h3 with h3 | ⟨_, h4, h5⟩
      · omega
      · exact ⟨by omega, by rw [h5, h2]; omega⟩
  refine ⟨hb, all, ?_⟩
  obtain ⟨h1, h2⟩ := all (lineN l i - 1) (by omega)
  have h3 := h (srcN l i (lineN l i - 1)).toNat (by omega)
  unfold Made at h3
  obtain ⟨q, hq⟩ : ∃ q, lineN l i = q + 1 := ⟨lineN l i - 1, by omega⟩
  rw [hq] at h1 h2 h3 ⊢
  simp only [Nat.add_sub_cancel] at h1 h2 h3
  simp only [srcN]
  omega
def lineE (s : Sto) (i : Int) : Int := if Valid s then (if 0 ≤ i ∧ i < (s.items.length : Int) then 0 else 6) else 80
def lineF (s : Sto) (i : Int) : List Int := if lineE s i = 0 then lineTo s.items i (lineN s.items i) else []
theorem lineE_bad {s : Sto} {i : Int} (h : ¬ Valid s) : lineE s i = 80 := by simp [lineE, h]
theorem lineE_none {s : Sto} {i : Int} (h : Valid s) (h2 : ¬ (0 ≤ i ∧ i < (s.items.length : Int))) : lineE s i = 6 := by simp [lineE, h, h2]
theorem lineE_ok {s : Sto} {i : Int} (h : Valid s) (h2 : 0 ≤ i ∧ i < (s.items.length : Int)) : lineE s i = 0 := by simp [lineE, h, h2]
theorem lineF_ok {s : Sto} {i : Int} (h : lineE s i = 0) : lineF s i = lineTo s.items i (lineN s.items i) := by simp [lineF, h]
theorem lineF_no {s : Sto} {i : Int} (h : lineE s i ≠ 0) : lineF s i = [] := by simp [lineF, h]
/-- The first fields of a store, avs nobody writes them. -/
def stoC (s : Sto) : V := .agg [vi s.life, encItems s.items, encPrints s.prints]
set_option maxHeartbeats 1000000 in
theorem pline_p (s : Sto) (i : Int) : PCalls Try.prog 52 [.ref (stoC s) 0, vi i] (· = .fn (.func 82) [] [.ref (vi i) 0, .ref (.ref (stoC s) 0) 0]) := by
  refine pcalls_of_aw Try.func52 rfl (Nat.le_of_ble_eq_true rfl) ?_
  (repeat' (first | (refine ar_isq ?_; first | refine zas ?_ | refine zmf ?_) | (refine zbx ?_) | (refine ar_nil ?_) | (refine aw_seq ?_) | (refine aw_skip ?_) | (refine aw_block ?_) | (refine aw_exit ?_) | (refine aw_region ?_) | (refine zco ?_ ?_ <;> intro hg <;> first | exact absurd hg (by decide) | ((try replace hg := HG.out hg); (try dsimp only at hg); (try (have _h : True := hg; clear _h hg)); first | (exfalso; omega) | skip))))
  (refine aw_mono_r (env' := [(4, .fn (.func 82) [] [.ref (vi i) 0, .ref (.ref (stoC s) 0) 0])]) (H' := []) ?_ ?_; (focus ((refine sub_to [] [0, 1] rfl ?_ ?_ <;> (repeat' (first | exact trivial | refine ⟨⟨_, rfl, ?_⟩, ?_⟩ | refine ⟨bsub_snoc rfl rfl (fun _ => rfl) ?_, ?_⟩ | refine ⟨bsub_one rfl rfl ?_, ?_⟩ | refine ⟨bsub_all rfl rfl (fun _ _ => rfl) (fun _ => rfl), ?_⟩ | refine ⟨bsub_updL rfl rfl ?_ (fun _ _ _ => rfl) (fun _ => rfl), ?_⟩ | refine ⟨.inl ⟨_, _, rfl, rfl, ?_⟩, ?_⟩ | exact ⟨.inr ⟨rfl, rfl⟩, trivial⟩ | refine ⟨.inr ⟨rfl, rfl⟩, ?_⟩ | (intro _ _) | exact vz1 | (exact fn2_sub (frzPtr' (by simp) rfl (by omega) rfl rfl) (frzPtr' (by simp) rfl (by omega) rfl rfl)) | exact vz2 | fail))); done)))
  (refine aw_ret ?_; (repeat (first | refine ret_then ?_ | refine ret_block ?_)); refine bq1 rfl ⟨?_, rfl⟩)
  rfl
end Go.Proofs.Ytbilpbabdgfblaa
-- old go
namespace Go.Proofs.Ytbilpbabdgfblaa.It
open Go.RowKit
set_option maxHeartbeats 1000000 in
theorem line_iter (s : Sto) (i : Int) (hC : Chain s.items i) (_hn : s.items.length ≤ 30) : Iter Try.prog 82 [.ref (vi i) 0, .ref (.ref (stoC s) 0) 0] (lineN s.items i) (fun k => [.int .i64 (srcN s.items i k)]) := by
  refine iter_of_aw Try.func82 rfl (dc rfl) rfl fun C hN hel => ?_
  (repeat' (first | (refine ar_isq ?_; first | refine ar_q (qs_move rfl) (dc rfl) ?_ | refine ar_q (qs_assign rfl) (dc rfl) ?_ | (refine is_load ?_; first | refine ar_q (qs_load_ptr (ty rfl) rfl rfl (by first | exact Nat.one_pos | assumption | omega) rfl) (dc rfl) ?_ | refine ar_q (qs_load_ref (ty rfl) rfl rfl) (dc rfl) ?_) | refine ar_q (qs_geq rfl rfl) (dc rfl) ?_ | (refine is_fieldAddr ?_; first | refine ar_q (qs_faddr_ptr (ty rfl) rfl rfl (ty rfl) (Nat.succ_ne_zero _) rfl) (dc rfl) ?_ | refine ar_q (qs_faddr_ref (ty rfl) rfl rfl (ty rfl) (Nat.succ_ne_zero _) rfl) (dc rfl) ?_) | (refine is_indexAddr ?_; first | refine ar_q (qs_iaddr_list (ty rfl) rfl (ty rfl) rfl rfl rfl rfl (by omega)) (dc rfl) ?_ | refine ar_q (qs_iaddr_sl0 (ty rfl) rfl (ty rfl) rfl rfl rfl rfl (by omega)) (dc rfl) ?_ | refine ar_q (qs_iaddr_sl (ty rfl) rfl (ty rfl) rfl rfl rfl rfl (by omega)) (dc rfl) ?_ | refine ar_q (qs_iaddr_aptr (ty rfl) rfl (ty rfl) rfl rfl rfl (by omega)) (dc rfl) ?_ | refine ar_q (qs_iaddr_aref (ty rfl) rfl (ty rfl) rfl rfl rfl (by omega)) (dc rfl) ?_ | (refine ar_idx_list (ty rfl) rfl (ty rfl) rfl rfl rfl (dc rfl) (by omega) ?_; intro _ _ _) | (refine ar_idx_sl (ty rfl) rfl (ty rfl) rfl rfl rfl (dc rfl) (by omega) ?_; intro _ _ _)) | (refine is_pick ?_; first | refine ar_q (qs_pick_t rfl rfl) (dc rfl) ?_ | refine ar_q (qs_pick_f rfl rfl) (dc rfl) ?_)) | (refine ar_guard rfl rfl rfl rfl (dc rfl) ?_ ?_ <;> intro hg <;> first | exact absurd hg (by decide) | ((first | replace hg := hgT hg | replace hg := hgF hg | replace hg := hgNT hg | replace hg := hgNF hg | replace hg := hgBT hg | replace hg := hgBF hg | replace hg := hgV hg | replace hg := hgW hg | skip); (try dsimp only at hg); (try (have _h : True := hg; clear _h hg)); first | (exfalso; omega) | skip)) | (refine ar_guard_u rfl rfl rfl rfl (dc rfl) ?_) | (refine ar_nil ?_) | (refine aw_seq ?_) | (refine aw_skip ?_) | (refine aw_block ?_) | (refine aw_exit ?_) | (refine aw_region ?_) | (refine aw_cond rfl ?_ ?_ <;> intro hg <;> first | exact absurd hg (by decide) | ((first | replace hg := hgT hg | replace hg := hgF hg | replace hg := hgNT hg | replace hg := hgNF hg | replace hg := hgBT hg | replace hg := hgBF hg | replace hg := hgV hg | replace hg := hgW hg | skip); (try dsimp only at hg); (try (have _h : True := hg; clear _h hg)); first | (exfalso; omega) | skip))))
  refine aw_for (lineN s.items i) (fun k => [(0, .s (.func (.yield C.l) #[] #[])), (1, .ref (vi i) 0), (2, .ref (.ref (stoC s) 0) 0), (4, vi (srcN s.items i k))]) (Nat.zero_le _) ⟨rfl, rfl, rfl, rfl, trivial⟩ ?_
  intro k hk
  by_cases hlt : k < lineN s.items i
  · obtain ⟨h1, h2⟩ := hC.at_ k hlt
    (repeat' (first | (refine ar_isq ?_; first | refine ar_q (qs_move rfl) (dc rfl) ?_ | refine ar_q (qs_assign rfl) (dc rfl) ?_ | (refine is_load ?_; first | refine ar_q (qs_load_ptr (ty rfl) rfl rfl (by first | exact Nat.one_pos | assumption | omega) rfl) (dc rfl) ?_ | refine ar_q (qs_load_ref (ty rfl) rfl rfl) (dc rfl) ?_) | refine ar_q (qs_geq rfl rfl) (dc rfl) ?_ | (refine is_fieldAddr ?_; first | refine ar_q (qs_faddr_ptr (ty rfl) rfl rfl (ty rfl) (Nat.succ_ne_zero _) rfl) (dc rfl) ?_ | refine ar_q (qs_faddr_ref (ty rfl) rfl rfl (ty rfl) (Nat.succ_ne_zero _) rfl) (dc rfl) ?_) | (refine is_indexAddr ?_; first | refine ar_q (qs_iaddr_list (ty rfl) rfl (ty rfl) rfl rfl rfl rfl (by omega)) (dc rfl) ?_ | refine ar_q (qs_iaddr_sl0 (ty rfl) rfl (ty rfl) rfl rfl rfl rfl (by omega)) (dc rfl) ?_ | refine ar_q (qs_iaddr_sl (ty rfl) rfl (ty rfl) rfl rfl rfl rfl (by omega)) (dc rfl) ?_ | refine ar_q (qs_iaddr_aptr (ty rfl) rfl (ty rfl) rfl rfl rfl (by omega)) (dc rfl) ?_ | refine ar_q (qs_iaddr_aref (ty rfl) rfl (ty rfl) rfl rfl rfl (by omega)) (dc rfl) ?_ | refine ar_q (qs_iaddr_list (j := (srcN s.items i k).toNat) (ty rfl) rfl (ty rfl) rfl rfl rfl (by omega) (by omega)) (dc rfl) ?_ | refine ar_q (qs_iaddr_sl0 (j := (srcN s.items i k).toNat) (ty rfl) rfl (ty rfl) rfl rfl rfl (by omega) (by omega)) (dc rfl) ?_ | refine ar_q (qs_iaddr_sl (j := (srcN s.items i k).toNat) (ty rfl) rfl (ty rfl) rfl rfl rfl (by omega) (by omega)) (dc rfl) ?_ | (refine ar_idx_list (ty rfl) rfl (ty rfl) rfl rfl rfl (dc rfl) (by omega) ?_; intro _ _ _) | (refine ar_idx_sl (ty rfl) rfl (ty rfl) rfl rfl rfl (dc rfl) (by omega) ?_; intro _ _ _)) | (refine is_pick ?_; first | refine ar_q (qs_pick_t rfl rfl) (dc rfl) ?_ | refine ar_q (qs_pick_f rfl rfl) (dc rfl) ?_)) | (refine ar_yield (us := [.int .i64 (srcN s.items i k)]) rfl rfl (by rw [hN]; exact hlt) (by rw [hel]) (dc rfl) ?_) | (refine ar_q (qs_nck_ref rfl) (dc rfl) ?_) | (refine ar_guard rfl rfl rfl rfl (dc rfl) ?_ ?_ <;> intro hg <;> first | exact absurd hg (by decide) | ((first | replace hg := hgT hg | replace hg := hgF hg | replace hg := hgNT hg | replace hg := hgNF hg | replace hg := hgBT hg | replace hg := hgBF hg | replace hg := hgV hg | replace hg := hgW hg | skip); (try dsimp only at hg); (try (have _h : True := hg; clear _h hg)); first | (exfalso; omega) | skip)) | (refine ar_guard_u rfl rfl rfl rfl (dc rfl) ?_) | (refine ar_nil ?_) | (refine aw_seq ?_) | (refine aw_skip ?_) | (refine aw_block ?_) | (refine aw_exit ?_) | (refine aw_region ?_) | (refine aw_cond rfl ?_ ?_ <;> intro hg <;> first | exact absurd hg (by decide) | ((first | replace hg := hgT hg | replace hg := hgF hg | replace hg := hgNT hg | replace hg := hgNF hg | replace hg := hgBT hg | replace hg := hgBF hg | replace hg := hgV hg | replace hg := hgW hg | skip); (try dsimp only at hg); (try (have _h : True := hg; clear _h hg)); first | (exfalso; omega) | skip))))
    all_goals first
      | (exfalso; omega)
      | exact loop_next hlt rfl ⟨rfl, rfl, rfl, rfl, trivial⟩
      | trace_state
  · obtain rfl : k = lineN s.items i := by omega
    have hs := hC.stop
    (repeat' (first | (refine ar_isq ?_; first | refine ar_q (qs_move rfl) (dc rfl) ?_ | refine ar_q (qs_assign rfl) (dc rfl) ?_ | (refine is_load ?_; first | refine ar_q (qs_load_ptr (ty rfl) rfl rfl (by first | exact Nat.one_pos | assumption | omega) rfl) (dc rfl) ?_ | refine ar_q (qs_load_ref (ty rfl) rfl rfl) (dc rfl) ?_) | refine ar_q (qs_geq rfl rfl) (dc rfl) ?_ | (refine is_fieldAddr ?_; first | refine ar_q (qs_faddr_ptr (ty rfl) rfl rfl (ty rfl) (Nat.succ_ne_zero _) rfl) (dc rfl) ?_ | refine ar_q (qs_faddr_ref (ty rfl) rfl rfl (ty rfl) (Nat.succ_ne_zero _) rfl) (dc rfl) ?_) | (refine is_indexAddr ?_; first | refine ar_q (qs_iaddr_list (ty rfl) rfl (ty rfl) rfl rfl rfl rfl (by omega)) (dc rfl) ?_ | refine ar_q (qs_iaddr_sl0 (ty rfl) rfl (ty rfl) rfl rfl rfl rfl (by omega)) (dc rfl) ?_ | refine ar_q (qs_iaddr_sl (ty rfl) rfl (ty rfl) rfl rfl rfl rfl (by omega)) (dc rfl) ?_ | refine ar_q (qs_iaddr_aptr (ty rfl) rfl (ty rfl) rfl rfl rfl (by omega)) (dc rfl) ?_ | refine ar_q (qs_iaddr_aref (ty rfl) rfl (ty rfl) rfl rfl rfl (by omega)) (dc rfl) ?_ | (refine ar_idx_list (ty rfl) rfl (ty rfl) rfl rfl rfl (dc rfl) (by omega) ?_; intro _ _ _) | (refine ar_idx_sl (ty rfl) rfl (ty rfl) rfl rfl rfl (dc rfl) (by omega) ?_; intro _ _ _)) | (refine is_pick ?_; first | refine ar_q (qs_pick_t rfl rfl) (dc rfl) ?_ | refine ar_q (qs_pick_f rfl rfl) (dc rfl) ?_)) | (refine ar_guard rfl rfl rfl rfl (dc rfl) ?_ ?_ <;> intro hg <;> first | exact absurd hg (by decide) | ((first | replace hg := hgT hg | replace hg := hgF hg | replace hg := hgNT hg | replace hg := hgNF hg | replace hg := hgBT hg | replace hg := hgBF hg | replace hg := hgV hg | replace hg := hgW hg | skip); (try dsimp only at hg); (try (have _h : True := hg; clear _h hg)); first | (exfalso; omega) | skip)) | (refine ar_guard_u rfl rfl rfl rfl (dc rfl) ?_) | (refine ar_nil ?_) | (refine aw_seq ?_) | (refine aw_skip ?_) | (refine aw_block ?_) | (refine aw_exit ?_) | (refine aw_region ?_) | (refine aw_cond rfl ?_ ?_ <;> intro hg <;> first | exact absurd hg (by decide) | ((first | replace hg := hgT hg | replace hg := hgF hg | replace hg := hgNT hg | replace hg := hgNF hg | replace hg := hgBT hg | replace hg := hgBF hg | replace hg := hgV hg | replace hg := hgW hg | skip); (try dsimp only at hg); (try (have _h : True := hg; clear _h hg)); first | (exfalso; omega) | skip))))
    all_goals first
      | (exfalso; omega)
      | exact aw_ret (show lineN s.items i = lineN s.items i from rfl)
      | exact (rfl : lineN s.items i = lineN s.items i)
      | trace_state
end Go.Proofs.Ytbilpbabdgfblaa.It
namespace Go.Proofs.Ytbilpbabdgfblaa
open Go.RowKit
set_option maxHeartbeats 1000000 in
theorem sameBools_p (l : List Bool) : PCalls Try.prog 16 [encBools l, encBools l] (· = vb true) := by
  (refine pcalls_know (fun I us h => rel_len (rel_arg h (j := 0) rfl)) fun hlen0 => ?_)
  refine pcalls_of_aw Try.func16 rfl (Nat.le_of_ble_eq_true rfl) ?_
  (repeat' (first | (refine ar_isq ?_; first | refine zmv ?_ | refine zas ?_ | (refine is_load ?_; first | refine zlp ?_ | refine zlr ?_) | (refine is_binOp ?_; first | refine zlss ?_ | refine zneq ?_ | refine zadd ?_ | refine zbneq ?_) | (refine is_indexAddr ?_; first | refine zil ?_ | refine zis ?_ | refine zit ?_ | refine zia ?_ | refine zir ?_ | (refine zxl ?_; intro _ _ _) | (refine zxs ?_; intro _ _ _)) | (refine is_call ?_; first | refine zll ?_ | refine zls ?_ | refine zln ?_ | refine zle ?_)) | (refine ar_nil ?_) | (refine aw_seq ?_) | (refine aw_skip ?_) | (refine aw_block ?_) | (refine aw_exit ?_) | (refine aw_region ?_) | (refine aw_drawn (id := 6) [(0, 0), (1, 0), (2, 0), (3, 0), (4, 0), (5, 0), (6, 0), (7, 0), (8, 0)] mixed (by kernel_rfl) ?_) | (refine zco ?_ ?_ <;> intro hg <;> first | exact absurd hg (by decide) | ((try replace hg := HG.out hg); (try dsimp only at hg); (try (have _h : True := hg; clear _h hg)); first | (exfalso; omega) | skip))))
  refine aw_for l.length (fun _ => True) (fun k => [(0, encBools l), (1, encBools l), (5, vi k)]) (fun _ => []) trivial ?_ ?_
  · (refine sub_to [] [] rfl ?_ ?_ <;> (repeat' (first | exact trivial | refine ⟨⟨_, rfl, ?_⟩, ?_⟩ | refine ⟨bsub_snoc rfl rfl (fun _ => rfl) ?_, ?_⟩ | refine ⟨bsub_one rfl rfl ?_, ?_⟩ | refine ⟨bsub_all rfl rfl (fun _ _ => rfl) (fun _ => rfl), ?_⟩ | refine ⟨bsub_updL rfl rfl ?_ (fun _ _ _ => rfl) (fun _ => rfl), ?_⟩ | refine ⟨.inl ⟨_, _, rfl, rfl, ?_⟩, ?_⟩ | exact ⟨.inr ⟨rfl, rfl⟩, trivial⟩ | refine ⟨.inr ⟨rfl, rfl⟩, ?_⟩ | (intro _ _) | exact vz1 | exact vz2 | fail)))
  intro k hk _
  (repeat' (first | (refine ar_isq ?_; first | refine zmv ?_ | refine zas ?_ | (refine is_load ?_; first | refine zlp ?_ | refine zlr ?_) | (refine is_binOp ?_; first | refine zlss ?_ | refine zneq ?_ | refine zadd ?_ | refine zbneq ?_) | (refine is_indexAddr ?_; first | refine zil ?_ | refine zis ?_ | refine zit ?_ | refine zia ?_ | refine zir ?_ | (refine zxl ?_; intro _ _ _) | (refine zxs ?_; intro _ _ _)) | (refine is_call ?_; first | refine zll ?_ | refine zls ?_ | refine zln ?_ | refine zle ?_)) | (refine ar_nil ?_) | (refine aw_seq ?_) | (refine aw_skip ?_) | (refine aw_block ?_) | (refine aw_exit ?_) | (refine aw_region ?_) | (refine aw_drawn (id := 6) [(0, 0), (1, 0), (2, 0), (3, 0), (4, 0), (5, 0), (6, 0), (7, 0), (8, 0)] mixed (by kernel_rfl) ?_) | (refine zco ?_ ?_ <;> intro hg <;> first | exact absurd hg (by decide) | ((try replace hg := HG.out hg); (try dsimp only at hg); (try (have _h : True := hg; clear _h hg)); first | (exfalso; omega) | skip))))
  all_goals first
    | (exfalso; simp at hg; done)
    | ((first | refine loop_next (by omega) ?_ ?_ | refine (show _ ∧ _ ∧ SubOf _ _ _ _ _ _ from And.intro (by omega) (And.intro ?_ ?_))); (focus ((exact trivial); done)); (focus ((refine sub_to [] [] rfl ?_ ?_ <;> (repeat' (first | exact trivial | refine ⟨⟨_, rfl, ?_⟩, ?_⟩ | refine ⟨bsub_snoc rfl rfl (fun _ => rfl) ?_, ?_⟩ | refine ⟨bsub_one rfl rfl ?_, ?_⟩ | refine ⟨bsub_all rfl rfl (fun _ _ => rfl) (fun _ => rfl), ?_⟩ | refine ⟨bsub_updL rfl rfl ?_ (fun _ _ _ => rfl) (fun _ => rfl), ?_⟩ | refine ⟨.inl ⟨_, _, rfl, rfl, ?_⟩, ?_⟩ | exact ⟨.inr ⟨rfl, rfl⟩, trivial⟩ | refine ⟨.inr ⟨rfl, rfl⟩, ?_⟩ | (intro _ _) | exact vz1 | exact vz2 | fail))); done)))
    | ((refine aw_ret ?_; (repeat (first | refine ret_then ?_ | refine ret_block ?_)); refine bq1 rfl ⟨?_, rfl⟩); rfl)
set_option maxHeartbeats 1000000 in
theorem great_p (b : List (List Int)) : PCalls Try.prog 18 [encRows b] (fun v => v = vb true ∨ v = vb false ∧ b.length ≤ 20 ∧ ∀ l, l ∈ b → l.length ≤ 60) := by
  (refine pcalls_know (fun I us h => And.intro (rel_len (rel_arg h (j := 0) rfl)) (fun l (hm : l ∈ _) => rel_len (rel_el (rel_arg h (j := 0) rfl) (fun _ => rfl) hm))) fun hlen0 => ?_)
  refine pcalls_of_aw Try.func18 rfl (Nat.le_of_ble_eq_true rfl) ?_
  (repeat' (first | (refine ar_isq ?_; first | refine zmv ?_ | refine zas ?_ | (refine is_load ?_; first | refine zlp ?_ | refine zlr ?_) | (refine is_binOp ?_; first | refine zlss ?_ | refine zgtr ?_ | refine zadd ?_) | (refine is_indexAddr ?_; first | refine zil ?_ | refine zis ?_ | refine zit ?_ | refine zia ?_ | refine zir ?_ | (refine zxl ?_; intro _ _ _) | (refine zxs ?_; intro _ _ _)) | (refine is_call ?_; first | refine zll ?_ | refine zls ?_ | refine zln ?_ | refine zle ?_)) | (refine ar_nil ?_) | (refine aw_seq ?_) | (refine aw_skip ?_) | (refine aw_block ?_) | (refine aw_exit ?_) | (refine aw_region ?_) | (refine zco ?_ ?_ <;> intro hg <;> first | exact absurd hg (by decide) | ((try replace hg := HG.out hg); (try dsimp only at hg); (try (have _h : True := hg; clear _h hg)); first | (exfalso; omega) | skip))))
  · (refine aw_ret ?_; (repeat (first | refine ret_then ?_ | refine ret_block ?_)); refine bq1 rfl ⟨?_, rfl⟩)
    exact .inl rfl
  refine aw_for b.length (fun k => ∀ j, j < k → (el b j).length ≤ 60) (fun k => [(0, encRows b), (3, vi k)]) (fun _ => []) (fun j hj => by omega) ?_ ?_
  · (refine sub_to [] [] rfl ?_ ?_ <;> (repeat' (first | exact trivial | refine ⟨⟨_, rfl, ?_⟩, ?_⟩ | refine ⟨bsub_snoc rfl rfl (fun _ => rfl) ?_, ?_⟩ | refine ⟨bsub_one rfl rfl ?_, ?_⟩ | refine ⟨bsub_all rfl rfl (fun _ _ => rfl) (fun _ => rfl), ?_⟩ | refine ⟨bsub_updL rfl rfl ?_ (fun _ _ _ => rfl) (fun _ => rfl), ?_⟩ | refine ⟨.inl ⟨_, _, rfl, rfl, ?_⟩, ?_⟩ | exact ⟨.inr ⟨rfl, rfl⟩, trivial⟩ | refine ⟨.inr ⟨rfl, rfl⟩, ?_⟩ | (intro _ _) | exact vz1 | exact vz2 | fail)))
  intro k hk hJ
  by_cases hlt : k < b.length
  · have hl := hlen0.2 _ (el_mem hlt)
    (repeat' (first | (refine ar_isq ?_; first | refine zmv ?_ | refine zas ?_ | (refine is_load ?_; first | refine zlp ?_ | refine zlr ?_) | (refine is_binOp ?_; first | refine zlss ?_ | refine zgtr ?_ | refine zadd ?_) | (refine is_indexAddr ?_; first | refine zil ?_ | refine zis ?_ | refine zit ?_ | refine zia ?_ | refine zir ?_ | (refine zxl ?_; intro _ _ _) | (refine zxs ?_; intro _ _ _)) | (refine is_call ?_; first | refine zll ?_ | refine zls ?_ | refine zln ?_ | refine zle ?_)) | (refine ar_nil ?_) | (refine aw_seq ?_) | (refine aw_skip ?_) | (refine aw_block ?_) | (refine aw_exit ?_) | (refine aw_region ?_) | (refine zco ?_ ?_ <;> intro hg <;> first | exact absurd hg (by decide) | ((try replace hg := HG.out hg); (try dsimp only at hg); (try (have _h : True := hg; clear _h hg)); first | (exfalso; omega) | skip))))
    all_goals first
      | (exfalso; omega)
      | ((first | refine loop_next (by omega) ?_ ?_ | refine (show _ ∧ _ ∧ SubOf _ _ _ _ _ _ from And.intro (by omega) (And.intro ?_ ?_))); (focus ((exact all_step hJ (by omega)); done)); (focus ((refine sub_to [] [] rfl ?_ ?_ <;> (repeat' (first | exact trivial | refine ⟨⟨_, rfl, ?_⟩, ?_⟩ | refine ⟨bsub_snoc rfl rfl (fun _ => rfl) ?_, ?_⟩ | refine ⟨bsub_one rfl rfl ?_, ?_⟩ | refine ⟨bsub_all rfl rfl (fun _ _ => rfl) (fun _ => rfl), ?_⟩ | refine ⟨bsub_updL rfl rfl ?_ (fun _ _ _ => rfl) (fun _ => rfl), ?_⟩ | refine ⟨.inl ⟨_, _, rfl, rfl, ?_⟩, ?_⟩ | exact ⟨.inr ⟨rfl, rfl⟩, trivial⟩ | refine ⟨.inr ⟨rfl, rfl⟩, ?_⟩ | (intro _ _) | exact vz1 | exact vz2 | fail))); done)))
      | ((refine aw_ret ?_; (repeat (first | refine ret_then ?_ | refine ret_block ?_)); refine bq1 rfl ⟨?_, rfl⟩); exact .inl rfl)
  · (repeat' (first | (refine ar_isq ?_; first | refine zmv ?_ | refine zas ?_ | (refine is_load ?_; first | refine zlp ?_ | refine zlr ?_) | (refine is_binOp ?_; first | refine zlss ?_ | refine zgtr ?_ | refine zadd ?_) | (refine is_indexAddr ?_; first | refine zil ?_ | refine zis ?_ | refine zit ?_ | refine zia ?_ | refine zir ?_ | (refine zxl ?_; intro _ _ _) | (refine zxs ?_; intro _ _ _)) | (refine is_call ?_; first | refine zll ?_ | refine zls ?_ | refine zln ?_ | refine zle ?_)) | (refine ar_nil ?_) | (refine aw_seq ?_) | (refine aw_skip ?_) | (refine aw_block ?_) | (refine aw_exit ?_) | (refine aw_region ?_) | (refine zco ?_ ?_ <;> intro hg <;> first | exact absurd hg (by decide) | ((try replace hg := HG.out hg); (try dsimp only at hg); (try (have _h : True := hg; clear _h hg)); first | (exfalso; omega) | skip))))
    all_goals first
      | (exfalso; omega)
      | ((refine aw_ret ?_; (repeat (first | refine ret_then ?_ | refine ret_block ?_)); refine bq1 rfl ⟨?_, rfl⟩); exact .inr ⟨rfl, by omega, fun l hl => by obtain ⟨j, hj, rfl⟩ := mem_el hl; exact hJ j (by omega)⟩)
end Go.Proofs.Ytbilpbabdgfblaa
