/- PlateCut: the law. No condition. -/
import Derived.Test.YthpbjihnikapoaaKPq11
namespace Go.Proofs.Ythpbjihnikapoaa
open Go.RowKit

set_option maxRecDepth 20000 in
set_option maxHeartbeats 1000000 in
theorem cut_out (life : Int) (bk : List Deed) (cut : Int) (h : ¬ (0 ≤ cut ∧ cut ≤ (bk.length : Int))) : PCalls Try.prog 13 [vi life, encDeeds bk, vi cut] (· = vb true) := by
  have hlen : bk.length ≤ maxLen ∨ ¬ bk.length ≤ maxLen := by omega
  refine pcalls_of_aw Try.func13 rfl (Nat.le_of_ble_eq_true rfl) ?_
  (repeat' (first | (refine ar_isq ?_; first | refine zmv ?_ | refine zas ?_ | (refine is_load ?_; first | refine zlp ?_ | refine zlr ?_) | (refine is_binOp ?_; first | refine zlss ?_ | refine zgtr ?_ | refine zeql ?_ | refine zneq ?_ | refine zadd ?_) | (refine is_fieldAddr ?_; first | refine zfp ?_ | refine zfr ?_) | (refine is_indexAddr ?_; first | refine zil ?_ | refine zis ?_ | refine zit ?_ | refine zia ?_ | refine zir ?_ | (refine zxl ?_; intro _ _ _) | (refine zxs ?_; intro _ _ _)) | (refine is_call ?_; first | refine zll ?_ | refine zls ?_ | refine zln ?_ | refine zle ?_) | (refine is_pick ?_; first | refine zpt ?_ | refine zpf ?_) | refine zex ?_ | refine znt ?_) | (refine ar_pcall (own := false) fn44 rfl rfl .nil (alive_p) (by simp) (dc rfl) ?_; intro _ hv; subst hv) | (refine zcl ?_) | (refine zcs ?_) | (refine zal ?_) | (refine zsvs ?_) | (refine zsva ?_) | (refine zses ?_) | (refine zsea ?_) | (refine zg ?_ ?_ <;> intro hg <;> first | exact absurd hg (by decide) | ((try replace hg := HG.out hg); (try dsimp only at hg); (try (have _h : True := hg; clear _h hg)); first | (exfalso; omega) | skip)) | (refine zgu ?_) | (refine ar_nil ?_) | (refine aw_seq ?_) | (refine aw_skip ?_) | (refine aw_block ?_) | (refine aw_exit ?_) | (refine aw_region ?_) | (refine zco ?_ ?_ <;> intro hg <;> first | exact absurd hg (by decide) | ((try replace hg := HG.out hg); (try dsimp only at hg); (try (have _h : True := hg; clear _h hg)); first | (exfalso; omega) | skip))))
  all_goals first
    | (exfalso; omega)
    | ((refine aw_ret ?_; (repeat (first | refine ret_then ?_ | refine ret_block ?_)); refine bq1 rfl ⟨?_, rfl⟩); rfl)
    | trace_state
set_option maxRecDepth 20000 in
set_option maxHeartbeats 2000000 in
theorem cut_early (life : Int) (bk : List Deed) (c : Nat) (hc : c ≤ bk.length) (F G : Sto) (x e y f : Int) (hf : f ≠ 0) (hX : (e = f ∧ x = y) ∨ (200 < bk.length ∧ e = 4)) (hp : PCalls Try.prog 40 [vi life, encDeeds bk] (· = .tup [F.enc, vi x, vi e])) (hq : PCalls Try.prog 40 [vi life, encDeeds (bk.take c)] (· = .tup [G.enc, vi y, vi f])) :
    PCalls Try.prog 13 [vi life, encDeeds bk, vi c] (· = vb true) := by
  have hlen : bk.length ≤ maxLen ∨ ¬ bk.length ≤ maxLen := by omega
  refine pcalls_of_aw Try.func13 rfl (Nat.le_of_ble_eq_true rfl) ?_
  (repeat' (first | (refine ar_isq ?_; first | refine zmv ?_ | refine zas ?_ | (refine is_load ?_; first | refine zlp ?_ | refine zlr ?_) | (refine is_binOp ?_; first | refine zlss ?_ | refine zgtr ?_ | refine zeql ?_ | refine zneq ?_ | refine zadd ?_) | (refine is_fieldAddr ?_; first | refine zfp ?_ | refine zfr ?_) | (refine is_indexAddr ?_; first | refine zil ?_ | refine zis ?_ | refine zit ?_ | refine zia ?_ | refine zir ?_ | (refine zxl ?_; intro _ _ _) | (refine zxs ?_; intro _ _ _)) | (refine is_call ?_; first | refine zll ?_ | refine zls ?_ | refine zln ?_ | refine zle ?_) | (refine is_pick ?_; first | refine zpt ?_ | refine zpf ?_) | refine zex ?_ | refine znt ?_) | (refine ar_pcall (own := false) fn44 rfl rfl .nil (alive_p) (by simp) (dc rfl) ?_; intro _ hv; subst hv) | (refine ar_pcall (own := false) fn40 rfl rfl (.cons (.closed rfl) (.cons (.ext (fun _ _ => rfl)) .nil)) (hp) (by simp) (dc rfl) ?_; intro _ hv; subst hv) | (((refine ar_sub_l (env' := [(0, vi life), (1, encDeeds bk), (2, vi c), (7, vb true), (8, .ptr 3 0 0 0), (9, vi x), (10, vi e), (45, vi life), (48, encDeeds (bk.take c))]) (H' := [.arr 3 1 (fun _ => F.enc)]) ?_ ?_; (focus ((refine sub_to [some 0] [] rfl ?_ ?_ <;> (repeat' (first | exact trivial | refine ⟨⟨_, rfl, ?_⟩, ?_⟩ | refine ⟨bsub_snoc rfl rfl (fun _ => rfl) ?_, ?_⟩ | refine ⟨bsub_one rfl rfl ?_, ?_⟩ | refine ⟨bsub_all rfl rfl (fun _ _ => rfl) (fun _ => rfl), ?_⟩ | refine ⟨bsub_updL rfl rfl ?_ (fun _ _ _ => rfl) (fun _ => rfl), ?_⟩ | refine ⟨.inl ⟨_, _, rfl, rfl, ?_⟩, ?_⟩ | exact ⟨.inr ⟨rfl, rfl⟩, trivial⟩ | refine ⟨.inr ⟨rfl, rfl⟩, ?_⟩ | (intro _ _) | exact vz1 | (exact cutD_sub (by omega)) | exact vz2 | fail))); done))); refine ar_pcall (own := false) fn40 rfl rfl (.cons (.closed rfl) (.cons (.ext (fun _ _ => rfl)) .nil)) (hq) (by simp) (dc rfl) ?_; intro _ hv; subst hv)) | (refine zcl (a := 0) (b := c) ?_) | (refine zcs (a := 0) (b := c) ?_) | (refine zal ?_) | (refine zsvs ?_) | (refine zsva ?_) | (refine zses ?_) | (refine zsea ?_) | (refine zg ?_ ?_ <;> intro hg <;> first | exact absurd hg (by decide) | ((try replace hg := HG.out hg); (try dsimp only at hg); (try (have _h : True := hg; clear _h hg)); first | (exfalso; omega) | skip)) | (refine zgu ?_) | (refine ar_nil ?_) | (refine aw_seq ?_) | (refine aw_skip ?_) | (refine aw_block ?_) | (refine aw_exit ?_) | (refine aw_region ?_) | (refine zco ?_ ?_ <;> intro hg <;> first | exact absurd hg (by decide) | ((try replace hg := HG.out hg); (try dsimp only at hg); (try (have _h : True := hg; clear _h hg)); first | (exfalso; omega) | skip))))
  all_goals first
    | (exfalso; omega)
    | ((refine aw_ret ?_; (repeat (first | refine ret_then ?_ | refine ret_block ?_)); refine bq1 rfl ⟨?_, rfl⟩); rfl)
    | ((refine aw_ret ?_; (repeat (first | refine ret_then ?_ | refine ret_block ?_)); refine bq1 rfl ⟨?_, rfl⟩); refine congrArg vb ?_; first | rfl | exact decide_eq_true (by omega))
    | trace_state
set_option maxRecDepth 20000 in
set_option maxHeartbeats 2000000 in
theorem cut_many (life : Int) (bk : List Deed) (c : Nat) (hc : c ≤ bk.length) (F G : Sto) (hn : 200 < bk.length) (hG : Sound G) (hp : PCalls Try.prog 40 [vi life, encDeeds bk] (· = .tup [F.enc, vi 0, vi 4])) (hq : PCalls Try.prog 40 [vi life, encDeeds (bk.take c)] (· = .tup [G.enc, vi 0, vi 0])) :
    PCalls Try.prog 13 [vi life, encDeeds bk, vi c] (· = vb true) := by
  have hlen : bk.length ≤ maxLen ∨ ¬ bk.length ≤ maxLen := by omega
  have hck : PCalls Try.prog 37 [G.enc] (· = vi 0) := (pCheck_p G).mono fun v h => by rw [h, if_pos hG.valid]
  refine pcalls_of_aw Try.func13 rfl (Nat.le_of_ble_eq_true rfl) ?_
  (repeat' (first | (refine ar_isq ?_; first | refine zmv ?_ | refine zas ?_ | (refine is_load ?_; first | refine zlp ?_ | refine zlr ?_) | (refine is_binOp ?_; first | refine zlss ?_ | refine zgtr ?_ | refine zeql ?_ | refine zneq ?_ | refine zadd ?_) | (refine is_fieldAddr ?_; first | refine zfp ?_ | refine zfr ?_) | (refine is_indexAddr ?_; first | refine zil ?_ | refine zis ?_ | refine zit ?_ | refine zia ?_ | refine zir ?_ | (refine zxl ?_; intro _ _ _) | (refine zxs ?_; intro _ _ _)) | (refine is_call ?_; first | refine zll ?_ | refine zls ?_ | refine zln ?_ | refine zle ?_) | (refine is_pick ?_; first | refine zpt ?_ | refine zpf ?_) | refine zex ?_ | refine znt ?_) | (refine ar_pcall (own := false) fn44 rfl rfl .nil (alive_p) (by simp) (dc rfl) ?_; intro _ hv; subst hv) | (refine ar_pcall (own := false) fn40 rfl rfl (.cons (.closed rfl) (.cons (.ext (fun _ _ => rfl)) .nil)) (hp) (by simp) (dc rfl) ?_; intro _ hv; subst hv) | (((refine ar_sub_l (env' := [(0, vi life), (1, encDeeds bk), (2, vi c), (7, vb true), (8, .ptr 3 0 0 0), (9, vi 0), (10, vi 4), (45, vi life), (48, encDeeds (bk.take c))]) (H' := [.arr 3 1 (fun _ => F.enc)]) ?_ ?_; (focus ((refine sub_to [some 0] [] rfl ?_ ?_ <;> (repeat' (first | exact trivial | refine ⟨⟨_, rfl, ?_⟩, ?_⟩ | refine ⟨bsub_snoc rfl rfl (fun _ => rfl) ?_, ?_⟩ | refine ⟨bsub_one rfl rfl ?_, ?_⟩ | refine ⟨bsub_all rfl rfl (fun _ _ => rfl) (fun _ => rfl), ?_⟩ | refine ⟨bsub_updL rfl rfl ?_ (fun _ _ _ => rfl) (fun _ => rfl), ?_⟩ | refine ⟨.inl ⟨_, _, rfl, rfl, ?_⟩, ?_⟩ | exact ⟨.inr ⟨rfl, rfl⟩, trivial⟩ | refine ⟨.inr ⟨rfl, rfl⟩, ?_⟩ | (intro _ _) | exact vz1 | (exact cutD_sub (by omega)) | exact vz2 | fail))); done))); refine ar_pcall (own := false) fn40 rfl rfl (.cons (.closed rfl) (.cons (.ext (fun _ _ => rfl)) .nil)) (hq) (by simp) (dc rfl) ?_; intro _ hv; subst hv)) | (refine ar_pcall (own := false) fn37 rfl rfl (.cons (.closed rfl) .nil) (hck) (by simp) (dc rfl) ?_; intro _ hv; subst hv) | (refine ar_pcall (own := false) fn47 rfl rfl (.cons (.closed rfl) .nil) (accounted_p G hG) (by simp) (dc rfl) ?_; intro _ hv; subst hv) | (refine zcl (a := 0) (b := c) ?_) | (refine zcs (a := 0) (b := c) ?_) | (refine zal ?_) | (refine zsvs ?_) | (refine zsva ?_) | (refine zses ?_) | (refine zsea ?_) | (refine zg ?_ ?_ <;> intro hg <;> first | exact absurd hg (by decide) | ((try replace hg := HG.out hg); (try dsimp only at hg); (try (have _h : True := hg; clear _h hg)); first | (exfalso; omega) | skip)) | (refine zgu ?_) | (refine ar_nil ?_) | (refine aw_seq ?_) | (refine aw_skip ?_) | (refine aw_block ?_) | (refine aw_exit ?_) | (refine aw_region ?_) | (refine zco ?_ ?_ <;> intro hg <;> first | exact absurd hg (by decide) | ((try replace hg := HG.out hg); (try dsimp only at hg); (try (have _h : True := hg; clear _h hg)); first | (exfalso; omega) | skip))))
  all_goals first
    | (exfalso; omega)
    | ((refine aw_ret ?_; (repeat (first | refine ret_then ?_ | refine ret_block ?_)); refine bq1 rfl ⟨?_, rfl⟩); rfl)
    | trace_state
set_option maxRecDepth 20000 in
set_option maxHeartbeats 2000000 in
theorem cut_good (life : Int) (bk : List Deed) (hu : ∀ j, j < bk.length → u8ok (el bk j).kind) (c : Nat) (hc : c ≤ bk.length) (hn : ¬ 200 < bk.length) (hl : 1 ≤ life ∧ life ≤ 1000) (hJ0 : ∀ j, j < c → errAt life bk j = 0) (F : Sto) (x e : Int) (hF : e ≠ 0 → F = noSto) (hFo : e = 0 → F = stoAt life bk bk.length ∧ x = 0) (he0 : e = 0 → ∀ j, j < bk.length → errAt life bk j = 0) (heb : ∀ k, k < bk.length → (∀ j, j < k → errAt life bk j = 0) → errAt life bk k ≠ 0 → x = k ∧ e = errAt life bk k) (heo : (∀ j, j < bk.length → errAt life bk j = 0) → e = 0)
    (hp : PCalls Try.prog 40 [vi life, encDeeds bk] (· = .tup [F.enc, vi x, vi e])) (hq : PCalls Try.prog 40 [vi life, encDeeds (bk.take c)] (· = .tup [(stoAt life bk c).enc, vi 0, vi 0])) :
    PCalls Try.prog 13 [vi life, encDeeds bk, vi c] (· = vb true) := by
  have hlen : bk.length ≤ maxLen ∨ ¬ bk.length ≤ maxLen := by omega
  have hG : Sound (stoAt life bk c) := sound_at hl hJ0
  have hck : PCalls Try.prog 37 [(stoAt life bk c).enc] (· = vi 0) := (pCheck_p _).mono fun v h => by rw [h, if_pos hG.valid]
  refine pcalls_of_aw Try.func13 rfl (Nat.le_of_ble_eq_true rfl) ?_
  (repeat' (first | (refine ar_isq ?_; first | refine zmv ?_ | refine zas ?_ | (refine is_load ?_; first | refine zlp ?_ | refine zlr ?_) | (refine is_binOp ?_; first | refine zlss ?_ | refine zgtr ?_ | refine zeql ?_ | refine zneq ?_ | refine zadd ?_) | (refine is_fieldAddr ?_; first | refine zfp ?_ | refine zfr ?_) | (refine is_indexAddr ?_; first | refine zil ?_ | refine zis ?_ | refine zit ?_ | refine zia ?_ | refine zir ?_ | (refine zxl ?_; intro _ _ _) | (refine zxs ?_; intro _ _ _)) | (refine is_call ?_; first | refine zll ?_ | refine zls ?_ | refine zln ?_ | refine zle ?_) | (refine is_pick ?_; first | refine zpt ?_ | refine zpf ?_) | refine zex ?_ | refine znt ?_) | (refine ar_pcall (own := false) fn44 rfl rfl .nil (alive_p) (by simp) (dc rfl) ?_; intro _ hv; subst hv) | (refine ar_pcall (own := false) fn40 rfl rfl (.cons (.closed rfl) (.cons (.ext (fun _ _ => rfl)) .nil)) (hp) (by simp) (dc rfl) ?_; intro _ hv; subst hv) | (((refine ar_sub_l (env' := [(0, vi life), (1, encDeeds bk), (2, vi c), (7, vb true), (8, .ptr 3 0 0 0), (9, vi x), (10, vi e), (45, vi life), (48, encDeeds (bk.take c))]) (H' := [.arr 3 1 (fun _ => F.enc)]) ?_ ?_; (focus ((refine sub_to [some 0] [] rfl ?_ ?_ <;> (repeat' (first | exact trivial | refine ⟨⟨_, rfl, ?_⟩, ?_⟩ | refine ⟨bsub_snoc rfl rfl (fun _ => rfl) ?_, ?_⟩ | refine ⟨bsub_one rfl rfl ?_, ?_⟩ | refine ⟨bsub_all rfl rfl (fun _ _ => rfl) (fun _ => rfl), ?_⟩ | refine ⟨bsub_updL rfl rfl ?_ (fun _ _ _ => rfl) (fun _ => rfl), ?_⟩ | refine ⟨.inl ⟨_, _, rfl, rfl, ?_⟩, ?_⟩ | exact ⟨.inr ⟨rfl, rfl⟩, trivial⟩ | refine ⟨.inr ⟨rfl, rfl⟩, ?_⟩ | (intro _ _) | exact vz1 | (exact cutD_sub (by omega)) | exact vz2 | fail))); done))); refine ar_pcall (own := false) fn40 rfl rfl (.cons (.closed rfl) (.cons (.ext (fun _ _ => rfl)) .nil)) (hq) (by simp) (dc rfl) ?_; intro _ hv; subst hv)) | (refine ar_pcall (own := false) fn37 rfl rfl (.cons (.closed rfl) .nil) (hck) (by simp) (dc rfl) ?_; intro _ hv; subst hv) | (refine ar_pcall (own := false) fn47 rfl rfl (.cons (.closed rfl) .nil) (accounted_p _ hG) (by simp) (dc rfl) ?_; intro _ hv; subst hv) | (refine zcl (a := 0) (b := c) ?_) | (refine zcs (a := 0) (b := c) ?_) | (refine zcl (a := c) (b := bk.length) ?_) | (refine zcs (a := c) (b := bk.length) ?_) | (refine zal ?_) | (refine zsvs ?_) | (refine zsva ?_) | (refine zses ?_) | (refine zsea ?_) | (refine zg ?_ ?_ <;> intro hg <;> first | exact absurd hg (by decide) | ((try replace hg := HG.out hg); (try dsimp only at hg); (try (have _h : True := hg; clear _h hg)); first | (exfalso; omega) | skip)) | (refine zgu ?_) | (refine ar_nil ?_) | (refine aw_seq ?_) | (refine aw_skip ?_) | (refine aw_block ?_) | (refine aw_exit ?_) | (refine aw_region ?_) | (refine zco ?_ ?_ <;> intro hg <;> first | exact absurd hg (by decide) | ((try replace hg := HG.out hg); (try dsimp only at hg); (try (have _h : True := hg; clear _h hg)); first | (exfalso; omega) | skip))))
  all_goals (try (exfalso; omega))
  refine aw_for (bk.length - c) (fun i => ∀ j, j < c + i → errAt life bk j = 0) (fun i => [(2, vi c), (7, vb true), (8, .ptr 3 0 0 0), (9, vi x), (10, vi e), (11, .ptr 3 1 0 0), (101, .list 4 (bk.length - c) (fun k => Deed.enc (el bk (c + k)))), (102, vi ((bk.length - c : Nat) : Int)), (103, vi i)]) (fun i => [.arr 3 1 (fun _ => F.enc), .arr 3 1 (fun _ => (stoAt life bk (c + i)).enc)]) (fun j hj => hJ0 j (by omega)) ?_ ?_
  · (refine sub_to [some 0, some 1] [] rfl ?_ ?_ <;> (repeat' (first | exact trivial | refine ⟨⟨_, rfl, ?_⟩, ?_⟩ | refine ⟨bsub_snoc rfl rfl (fun _ => rfl) ?_, ?_⟩ | refine ⟨bsub_one rfl rfl ?_, ?_⟩ | refine ⟨bsub_all rfl rfl (fun _ _ => rfl) (fun _ => rfl), ?_⟩ | refine ⟨bsub_updL rfl rfl ?_ (fun _ _ _ => rfl) (fun _ => rfl), ?_⟩ | refine ⟨.inl ⟨_, _, rfl, rfl, ?_⟩, ?_⟩ | exact ⟨.inr ⟨rfl, rfl⟩, trivial⟩ | refine ⟨.inr ⟨rfl, rfl⟩, ?_⟩ | (intro _ _) | exact vz1 | exact vz2 | fail)))
  intro i hi hJ
  by_cases hlt : i < bk.length - c
  · have hS : Sound (stoAt life bk (c + i)) := sound_at hl hJ
    have hdE : doE (stoAt life bk (c + i)) (el bk (c + i)) = errAt life bk (c + i) := doE_ok hS.valid
    have hdo := pDo_p (stoAt life bk (c + i)) (el bk (c + i)) (hu _ (by omega))
    rw [hdE] at hdo
    by_cases hb : errAt life bk (c + i) = 0
    · rw [doF_ok (hdE.trans hb), hb] at hdo
      (repeat' (first | (refine ar_isq ?_; first | refine zmv ?_ | refine zas ?_ | (refine is_load ?_; first | refine zlp ?_ | refine zlr ?_) | (refine is_binOp ?_; first | refine zlss ?_ | refine zgtr ?_ | refine zeql ?_ | refine zneq ?_ | refine zadd ?_) | (refine is_fieldAddr ?_; first | refine zfp ?_ | refine zfr ?_) | (refine is_indexAddr ?_; first | refine zil ?_ | refine zis ?_ | refine zit ?_ | refine zia ?_ | refine zir ?_ | refine zil (j := i) ?_ | refine zis (j := i) ?_ | refine zit (j := i) ?_ | (refine zxl ?_; intro _ _ _) | (refine zxs ?_; intro _ _ _)) | (refine is_call ?_; first | refine zll ?_ | refine zls ?_ | refine zln ?_ | refine zle ?_) | (refine is_pick ?_; first | refine zpt ?_ | refine zpf ?_) | refine zex ?_ | refine znt ?_) | (refine ar_pcall (own := false) fn35 rfl rfl (.cons (.closed rfl) (.cons (.closed rfl) .nil)) (hdo) (by simp) (dc rfl) ?_; intro _ hv; subst hv) | (refine zcl ?_) | (refine zcs ?_) | (refine zal ?_) | (refine zsvs ?_) | (refine zsva ?_) | (refine zses ?_) | (refine zsea ?_) | (refine zg ?_ ?_ <;> intro hg <;> first | exact absurd hg (by decide) | ((try replace hg := HG.out hg); (try dsimp only at hg); (try (have _h : True := hg; clear _h hg)); first | (exfalso; omega) | skip)) | (refine zgu ?_) | (refine ar_nil ?_) | (refine aw_seq ?_) | (refine aw_skip ?_) | (refine aw_block ?_) | (refine aw_exit ?_) | (refine aw_region ?_) | (refine zco ?_ ?_ <;> intro hg <;> first | exact absurd hg (by decide) | ((try replace hg := HG.out hg); (try dsimp only at hg); (try (have _h : True := hg; clear _h hg)); first | (exfalso; omega) | skip))))
      all_goals first
        | (exfalso; omega)
        | ((first | refine loop_next (by omega) ?_ ?_ | refine (show _ ∧ _ ∧ SubOf _ _ _ _ _ _ from And.intro (by omega) (And.intro ?_ ?_))); (focus (((exact fun j hj => if h : j < c + i then hJ j h else (show j = c + i by omega) ▸ hb)); done)); (focus ((refine sub_to [some 0, some 1] [] rfl ?_ ?_ <;> (repeat' (first | exact trivial | refine ⟨⟨_, rfl, ?_⟩, ?_⟩ | refine ⟨bsub_snoc rfl rfl (fun _ => rfl) ?_, ?_⟩ | refine ⟨bsub_one rfl rfl ?_, ?_⟩ | refine ⟨bsub_all rfl rfl (fun _ _ => rfl) (fun _ => rfl), ?_⟩ | refine ⟨bsub_updL rfl rfl ?_ (fun _ _ _ => rfl) (fun _ => rfl), ?_⟩ | refine ⟨.inl ⟨_, _, rfl, rfl, ?_⟩, ?_⟩ | exact ⟨.inr ⟨rfl, rfl⟩, trivial⟩ | refine ⟨.inr ⟨rfl, rfl⟩, ?_⟩ | (intro _ _) | exact vz1 | exact vz2 | fail))); done)))
        | trace_state
    · obtain ⟨h1, h2⟩ := heb (c + i) (by omega) hJ hb
      have hF0 := hF (by omega)
      subst hF0
      (repeat' (first | (refine ar_isq ?_; first | refine zmv ?_ | refine zas ?_ | (refine is_load ?_; first | refine zlp ?_ | refine zlr ?_) | (refine is_binOp ?_; first | refine zlss ?_ | refine zgtr ?_ | refine zeql ?_ | refine zneq ?_ | refine zadd ?_) | (refine is_fieldAddr ?_; first | refine zfp ?_ | refine zfr ?_) | (refine is_indexAddr ?_; first | refine zil ?_ | refine zis ?_ | refine zit ?_ | refine zia ?_ | refine zir ?_ | refine zil (j := i) ?_ | refine zis (j := i) ?_ | refine zit (j := i) ?_ | (refine zxl ?_; intro _ _ _) | (refine zxs ?_; intro _ _ _)) | (refine is_call ?_; first | refine zll ?_ | refine zls ?_ | refine zln ?_ | refine zle ?_) | (refine is_pick ?_; first | refine zpt ?_ | refine zpf ?_) | refine zex ?_ | refine znt ?_) | (refine ar_pcall (own := false) fn35 rfl rfl (.cons (.closed rfl) (.cons (.closed rfl) .nil)) (hdo) (by simp) (dc rfl) ?_; intro _ hv; subst hv) | (refine zcl ?_) | (refine zcs ?_) | (refine zal ?_) | (refine zsvs ?_) | (refine zsva ?_) | (refine zses ?_) | (refine zsea ?_) | (refine zg ?_ ?_ <;> intro hg <;> first | exact absurd hg (by decide) | ((try replace hg := HG.out hg); (try dsimp only at hg); (try (have _h : True := hg; clear _h hg)); first | (exfalso; omega) | skip)) | (refine zgu ?_) | (refine ar_nil ?_) | (refine aw_seq ?_) | (refine aw_skip ?_) | (refine aw_block ?_) | (refine aw_exit ?_) | (refine aw_region ?_) | (refine zco ?_ ?_ <;> intro hg <;> first | exact absurd hg (by decide) | ((try replace hg := HG.out hg); (try dsimp only at hg); (try (have _h : True := hg; clear _h hg)); first | (exfalso; omega) | skip))))
      all_goals first
        | (exfalso; omega)
        | ((refine aw_ret ?_; (repeat (first | refine ret_then ?_ | refine ret_block ?_)); refine bq1 rfl ⟨?_, rfl⟩); rfl)
        | ((refine aw_ret ?_; (repeat (first | refine ret_then ?_ | refine ret_block ?_)); refine bq1 rfl ⟨?_, rfl⟩); refine congrArg vb ?_; first | rfl | exact decide_eq_true (by omega))
        | trace_state
  · have hall : ∀ j, j < bk.length → errAt life bk j = 0 := fun j hj => hJ j (by omega)
    have he := heo hall
    obtain ⟨h1, h2⟩ := hFo he
    subst h1 h2 he
    have hci : c + i = bk.length := by omega
    rw [hci]
    (repeat' (first | (refine ar_isq ?_; first | refine zmv ?_ | refine zas ?_ | (refine is_load ?_; first | refine zlp ?_ | refine zlr ?_) | (refine is_binOp ?_; first | refine zlss ?_ | refine zgtr ?_ | refine zeql ?_ | refine zneq ?_ | refine zadd ?_) | (refine is_fieldAddr ?_; first | refine zfp ?_ | refine zfr ?_) | (refine is_indexAddr ?_; first | refine zil ?_ | refine zis ?_ | refine zit ?_ | refine zia ?_ | refine zir ?_ | (refine zxl ?_; intro _ _ _) | (refine zxs ?_; intro _ _ _)) | (refine is_call ?_; first | refine zll ?_ | refine zls ?_ | refine zln ?_ | refine zle ?_) | (refine is_pick ?_; first | refine zpt ?_ | refine zpf ?_) | refine zex ?_ | refine znt ?_) | (refine ar_pcall (own := false) fn39 rfl rfl (.cons (.closed rfl) (.cons (.closed rfl) .nil)) (sameStore_p (stoAt life bk bk.length)) (by simp) (dc rfl) ?_; intro _ hv; subst hv) | (refine zcl ?_) | (refine zcs ?_) | (refine zal ?_) | (refine zsvs ?_) | (refine zsva ?_) | (refine zses ?_) | (refine zsea ?_) | (refine zg ?_ ?_ <;> intro hg <;> first | exact absurd hg (by decide) | ((try replace hg := HG.out hg); (try dsimp only at hg); (try (have _h : True := hg; clear _h hg)); first | (exfalso; omega) | skip)) | (refine zgu ?_) | (refine ar_nil ?_) | (refine aw_seq ?_) | (refine aw_skip ?_) | (refine aw_block ?_) | (refine aw_exit ?_) | (refine aw_region ?_) | (refine zco ?_ ?_ <;> intro hg <;> first | exact absurd hg (by decide) | ((try replace hg := HG.out hg); (try dsimp only at hg); (try (have _h : True := hg; clear _h hg)); first | (exfalso; omega) | skip))))
    all_goals first
      | (exfalso; omega)
      | ((refine aw_ret ?_; (repeat (first | refine ret_then ?_ | refine ret_block ?_)); refine bq1 rfl ⟨?_, rfl⟩); rfl)
      | trace_state
end Go.Proofs.Ythpbjihnikapoaa
namespace Go.Proofs.Ythpbjihnikapoaa
open Go.RowKit
theorem plateCut_p (life : Int) (_h1 : i64ok life) (bk : List Deed) (hw : ∀ x, x ∈ bk → x.wf) (cut : Int) (_h2 : i64ok cut) : PCalls Try.prog 13 [vi life, encDeeds bk, vi cut] (· = vb true) := by
  have hu := deeds_u8 hw
  by_cases hc : 0 ≤ cut ∧ cut ≤ (bk.length : Int)
  · obtain ⟨c, rfl⟩ : ∃ c : Nat, cut = c := ⟨cut.toNat, by omega⟩
    have hcl : c ≤ bk.length := by omega
    have hl : (bk.take c).length = c := by rw [List.length_take]; omega
    have hut : ∀ j, j < (bk.take c).length → u8ok (el (bk.take c) j).kind := fun j hj => by
      rw [el_take (by omega)]
      exact hu j (by omega)
    have hp := pPlay_p life bk hu
    have hq := pPlay_p life (bk.take c) hut
    by_cases hy : (playX life (bk.take c)).2 = 0
    · have hY := playX_zero hy
      obtain ⟨g1, g2, g3⟩ := playX_all hY
      have hJ0 : ∀ j, j < c → errAt life bk j = 0 := fun j hj => by rw [← errAt_take hj]; exact g3 j (by omega)
      have hG : playF life (bk.take c) = stoAt life bk c := by rw [playF_ok hy, hl, stoAt_take (Nat.le_refl _)]
      rw [hG, hY] at hq
      by_cases hn : 200 < bk.length
      · rw [playX_many hn] at hp
        exact cut_many life bk c hcl _ _ hn (sound_at g2 hJ0) hp hq
      · refine cut_good life bk hu c hcl hn g2 hJ0 (playF life bk) (playX life bk).1 (playX life bk).2 (fun h => playF_bad h) (fun h => ⟨playF_ok h, by rw [playX_zero h]⟩) (fun h => (playX_all (playX_zero h)).2.2) (fun k hk hb he => ?_) (fun h => by rw [playX_ok hn g2 h]) hp hq
        rw [playX_bad hn g2 hb hk he]
        exact ⟨rfl, rfl⟩
    · refine cut_early life bk c hcl _ _ _ _ _ _ hy ?_ hp hq
      rcases cut_bad hcl hy with h | ⟨h, h2⟩
      · rw [h]; exact .inl ⟨rfl, rfl⟩
      · rw [h2]; exact .inr ⟨h, rfl⟩
  · exact cut_out life bk cut hc
end Go.Proofs.Ythpbjihnikapoaa
