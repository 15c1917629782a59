/- Parts of the proof: a layer of values over the model, and contracts of functions. No condition. -/
import Derived.Test.YtbilpbabdgfblaaKXu8
set_option linter.unusedSimpArgs false
set_option linter.unusedVariables false
namespace Go.Proofs.Ytbilpbabdgfblaa
open Go.RowKit
theorem bsub_cons {H : Heap} {σ : List (Option Nat)} {fr : Nat → Prop} {k b : Nat} {l : List Int} {x : Int} {f g : Nat → V} (h : σ[k]? = some (some b)) (hb : H[b]? = some (.arr 1 (1 + l.length) (appF 1 f g))) (hf : f 0 = vi x) (hg : ∀ j, j < l.length → g j = vi (el l j)) : BSub H σ fr k (LB 1 vi (x :: l)) := by
  have e : 1 + l.length = (x :: l).length := by simp [Nat.add_comm]
  rw [e] at hb
  refine .inl ⟨b, _, h, hb, fun i hi => ?_⟩
  cases i with
  | zero => rw [appF_lt (by omega)]; exact .of_eq hf rfl
  | succ i =>
    have hi' : i < l.length := by simpa using hi
    rw [appF_ge (by omega), show i + 1 - 1 = i by omega]
    exact .of_eq ((hg i hi').trans (by simp [el])) rfl
set_option maxHeartbeats 2000000 in
theorem pCheck_p (s : Sto) : PCalls Try.prog 36 [s.enc] (· = vi (if Valid s then 0 else 80)) := by
  refine pcalls_of_aw Try.func36 rfl (Nat.le_of_ble_eq_true rfl) ?_
  (repeat' (first | (refine ar_isq ?_; first | refine zmv ?_ | refine zas ?_ | (refine is_load ?_; first | refine zlp ?_ | refine zlr ?_) | refine zex ?_ | refine znt ?_) | ((refine ar_gcall0 fn50 rfl rfl [s.enc] ⟨.closed rfl, trivial⟩ (valid_p s) (dc rfl) ?_ (fun _ _ h => h.elim); rintro _ _ (⟨hv, rfl, rfl⟩ | ⟨hv, rfl, rfl⟩) <;> (try rw [stoB_ren]))) | (refine zbx ?_) | (refine ar_nil ?_) | (refine aw_seq ?_) | (refine aw_skip ?_) | (refine aw_block ?_) | (refine aw_exit ?_) | (refine aw_region ?_) | (refine zco ?_ ?_ <;> intro hg <;> first | exact absurd hg (by decide) | ((try replace hg := HG.out hg); (try dsimp only at hg); (try (have _h : True := hg; clear _h hg)); first | (exfalso; omega) | skip))))
  all_goals first
    | ((refine aw_ret ?_; (repeat (first | refine ret_then ?_ | refine ret_block ?_)); refine bq1 rfl ⟨?_, rfl⟩); rw [if_pos hv]; rfl)
    | ((refine aw_ret ?_; (repeat (first | refine ret_then ?_ | refine ret_block ?_)); refine bq1 rfl ⟨?_, rfl⟩); rw [if_neg hv]; rfl)
    | trace_state
set_option maxHeartbeats 4000000 in
theorem pLine_p (s : Sto) (i : Int) : PCalls Try.prog 28 [s.enc, vi i] (· = .tup [encInts (lineF s i), vi (lineE s i)]) := by
  refine pcalls_of_aw Try.func28 rfl (Nat.le_of_ble_eq_true rfl) ?_
  
  (repeat' (first | (refine ar_isq ?_; first | refine zmv ?_ | refine zas ?_ | (refine is_load ?_; first | refine zlp ?_ | refine zlr ?_) | refine zsub ?_ | (refine is_fieldAddr ?_; first | refine zfp ?_ | refine zfr ?_) | (refine is_call ?_; first | refine zll ?_ | refine zls ?_ | refine zln ?_ | refine zle ?_) | refine zex ?_ | refine znt ?_ | refine zncp ?_ | refine zncr ?_) | ((refine ar_gcall0 fn50 rfl rfl [s.enc] ⟨.closed rfl, trivial⟩ (valid_p s) (dc rfl) ?_ (fun _ _ h => h.elim); rintro _ _ (⟨hv, rfl, rfl⟩ | ⟨hv, rfl, rfl⟩) <;> (try rw [stoB_ren]) <;> (try (have hfew := hv.1; unfold Few at hfew)))) | (((refine ar_subk_l (sub_frzL (t := 25) vi ([i]) rfl rfl rfl rfl (fun _ _ => rfl) (fun _ => rfl)) ?_); refine ar_pcall (own := false) fn51 rfl rfl (.cons (.closed rfl) (.cons (.closed rfl) (.cons (.closed rfl) .nil))) (from_p _ _ [i]) (by simp) (dc rfl) ?_; intro _ hv; subst hv)) | (refine ar_buildLE vi ([i]) (by exact ty rfl) (by exact rfl) (by exact ty rfl) (by exact rfl) (by exact rfl) (by exact Nat.succ_pos _) (by exact rfl) (by exact dc rfl) (by exact rfl) (by exact fun _ => ⟨rfl, rfl⟩) (by exact dc rfl) ?_) | (((refine ar_sub_l (env' := [(8, .ptr 1 1 0 0), (28, .ptr 4 0 0 0), (29, vi i)]) (H' := [.arr 4 1 (fun _ => .agg [vi s.life, encItems s.items, encPrints s.prints, .map 2]), .arr 1 1 (fun _ => vnil), mapE vi (pressTo s.items s.items.length)]) ?_ ?_; (focus ((refine sub_to [some 1, some 6, some 4] [2, 3] rfl ?_ ?_ <;> (repeat' (first | exact trivial | refine ⟨⟨_, rfl, ?_⟩, ?_⟩ | refine ⟨bsub_snoc rfl rfl (fun _ => rfl) ?_, ?_⟩ | refine ⟨bsub_one rfl rfl ?_, ?_⟩ | refine ⟨bsub_all rfl rfl (fun _ _ => rfl) (fun _ => rfl), ?_⟩ | refine ⟨bsub_updL rfl rfl ?_ (fun _ _ _ => rfl) (fun _ => rfl), ?_⟩ | refine ⟨.inl ⟨_, _, rfl, rfl, ?_⟩, ?_⟩ | exact ⟨.inr ⟨rfl, rfl⟩, trivial⟩ | refine ⟨.inr ⟨rfl, rfl⟩, ?_⟩ | (intro _ _) | exact vz1 | (first | refine ⟨bsub_mapE rfl rfl (fun _ => rfl), ?_⟩ | exact VSub.aggL ⟨.closed rfl, frzLB (by simp; done) rfl (fun _ => rfl) rfl, frzLB (by simp; done) rfl (fun _ => rfl) rfl, .map rfl, trivial⟩) | exact vz2 | fail))); done))); refine ar_subk_l (sub_pre (t := 28) [vi s.life, encItems s.items, encPrints s.prints] [.map 2] rfl rfl rfl) ?_; refine ar_pcall (own := false) fn52 rfl rfl (.cons (.closed rfl) (.cons (.closed rfl) .nil)) (pline_p s i) (by simp) (dc rfl) ?_; intro _ hv; subst hv)) | (refine zbx ?_) | (refine zal ?_) | (refine zb1 ?_) | (refine zb0 ?_) | (refine zsvs ?_) | (refine zsva ?_) | (refine zses ?_) | (refine zsea ?_) | (refine ar_nil ?_) | (refine aw_seq ?_) | (refine aw_skip ?_) | (refine aw_block ?_) | (refine aw_exit ?_) | (refine aw_region ?_) | (refine zco ?_ ?_ <;> intro hg <;> first | exact absurd hg (by decide) | ((try replace hg := HG.out hg); (try dsimp only at hg); (try rw [fromB_one] at hg); (try rw [withinB_iff] at hg); (try rw [withinB_no] at hg); (try (have _h : True := hg; clear _h hg)); first | (exfalso; omega) | skip))))
  · have he := lineE_none (i := i) hv (by omega)
    (refine aw_mono_r (env' := [(4, encInts []), (5, vi 6)]) (H' := []) ?_ ?_; (focus ((refine sub_to [] [] rfl ?_ ?_ <;> (repeat' (first | exact trivial | refine ⟨⟨_, rfl, ?_⟩, ?_⟩ | refine ⟨bsub_snoc rfl rfl (fun _ => rfl) ?_, ?_⟩ | refine ⟨bsub_one rfl rfl ?_, ?_⟩ | refine ⟨bsub_all rfl rfl (fun _ _ => rfl) (fun _ => rfl), ?_⟩ | refine ⟨bsub_updL rfl rfl ?_ (fun _ _ _ => rfl) (fun _ => rfl), ?_⟩ | refine ⟨.inl ⟨_, _, rfl, rfl, ?_⟩, ?_⟩ | exact ⟨.inr ⟨rfl, rfl⟩, trivial⟩ | refine ⟨.inr ⟨rfl, rfl⟩, ?_⟩ | (intro _ _) | exact vz1 | exact vz2 | fail))); done)))
    (refine aw_ret ?_; (repeat (first | refine ret_then ?_ | refine ret_block ?_)); refine bq2 rfl rfl ⟨?_, rfl⟩)
    rw [lineF_no (by omega), he]
  · have hr : 0 ≤ i ∧ i < (s.items.length : Int) := by omega
    have he := lineE_ok hv hr
    have hC := chain_ok hv.2.1 hr
    
    refine aw_range (fun k => [.dead, .arr 1 1 (fun _ => .sl 1 3 0 (lineTo s.items i k).length), .dead, LB 1 vi (lineTo s.items i k)]) _ rfl rfl fn82 (It.line_iter s i hC (by omega)) (fun _ _ => rfl) (by decide) (fun k _ => rfl) ?maps ?start ?round ?done
    case maps => intro k j ms; match j with | 0 | 1 | 2 | 3 => simp [LB] | j + 4 => simp
    case start => (refine sub_to [some 0, some 1, some 2, none] [] rfl ?_ ?_ <;> (repeat' (first | exact trivial | refine ⟨⟨_, rfl, ?_⟩, ?_⟩ | refine ⟨bsub_snoc rfl rfl (fun _ => rfl) ?_, ?_⟩ | refine ⟨bsub_one rfl rfl ?_, ?_⟩ | refine ⟨bsub_all rfl rfl (fun _ _ => rfl) (fun _ => rfl), ?_⟩ | refine ⟨bsub_updL rfl rfl ?_ (fun _ _ _ => rfl) (fun _ => rfl), ?_⟩ | refine ⟨.inl ⟨_, _, rfl, rfl, ?_⟩, ?_⟩ | exact ⟨.inr ⟨rfl, rfl⟩, trivial⟩ | refine ⟨.inr ⟨rfl, rfl⟩, ?_⟩ | (intro _ _) | exact vz1 | (refine ⟨trivial, ?_⟩) | exact vz2 | fail)))
    case round =>
      intro k lp hk
      have hf := hC.few
      (repeat' (first | (refine ar_isq ?_; first | refine zmv ?_ | refine zas ?_ | (refine is_load ?_; first | refine zlp ?_ | refine zlr ?_) | refine zsub ?_ | (refine is_fieldAddr ?_; first | refine zfp ?_ | refine zfr ?_) | (refine is_call ?_; first | refine zll ?_ | refine zls ?_ | refine zln ?_ | refine zle ?_) | refine zex ?_ | refine znt ?_ | refine zncp ?_ | refine zncr ?_) | (refine ar_buildLE vi ([srcN s.items i k]) (by exact ty rfl) (by exact rfl) (by exact ty rfl) (by exact rfl) (by exact rfl) (by exact Nat.succ_pos _) (by exact rfl) (by exact dc rfl) (by exact rfl) (by exact fun _ => ⟨rfl, rfl⟩) (by exact dc rfl) ?_) | (refine ar_insert (lineTo s.items i k) (srcN s.items i k) ?_ rfl rfl rfl rfl (Nat.ne_of_lt (dc rfl)) (by rw [lineTo_len]; omega) (dc rfl)) | (refine zbx ?_) | (refine zal ?_) | (refine zb1 ?_) | (refine zb0 ?_) | (refine zsvs ?_) | (refine zsva ?_) | (refine zses ?_) | (refine zsea ?_) | (refine ar_nil ?_) | (refine aw_seq ?_) | (refine aw_skip ?_) | (refine aw_block ?_) | (refine aw_exit ?_) | (refine aw_region ?_) | (refine zco ?_ ?_ <;> intro hg <;> first | exact absurd hg (by decide) | ((try replace hg := HG.out hg); (try dsimp only at hg); (try (have _h : True := hg; clear _h hg)); first | (exfalso; omega) | skip))))
      refine (show SubOf _ _ _ _ _ _ from ?_)
      (refine sub_to [some 0, some 1, some 2, some 5] [] rfl ?_ ?_ <;> (repeat' (first | exact trivial | refine ⟨⟨_, rfl, ?_⟩, ?_⟩ | refine ⟨bsub_snoc rfl rfl (fun _ => rfl) ?_, ?_⟩ | refine ⟨bsub_one rfl rfl ?_, ?_⟩ | refine ⟨bsub_all rfl rfl (fun _ _ => rfl) (fun _ => rfl), ?_⟩ | refine ⟨bsub_updL rfl rfl ?_ (fun _ _ _ => rfl) (fun _ => rfl), ?_⟩ | refine ⟨.inl ⟨_, _, rfl, rfl, ?_⟩, ?_⟩ | exact ⟨.inr ⟨rfl, rfl⟩, trivial⟩ | refine ⟨.inr ⟨rfl, rfl⟩, ?_⟩ | (intro _ _) | exact vz1 | (refine ⟨trivial, ?_⟩) | exact vz2 | fail)))
    case done =>
      (repeat' (first | (refine ar_isq ?_; first | refine zmv ?_ | refine zas ?_ | (refine is_load ?_; first | refine zlp ?_ | refine zlr ?_) | refine zsub ?_ | (refine is_fieldAddr ?_; first | refine zfp ?_ | refine zfr ?_) | (refine is_call ?_; first | refine zll ?_ | refine zls ?_ | refine zln ?_ | refine zle ?_) | refine zex ?_ | refine znt ?_ | refine zncp ?_ | refine zncr ?_) | (refine zbx ?_) | (refine zal ?_) | (refine zb1 ?_) | (refine zb0 ?_) | (refine zsvs ?_) | (refine zsva ?_) | (refine zses ?_) | (refine zsea ?_) | (refine ar_nil ?_) | (refine aw_seq ?_) | (refine aw_skip ?_) | (refine aw_block ?_) | (refine aw_exit ?_) | (refine aw_region ?_) | (refine zco ?_ ?_ <;> intro hg <;> first | exact absurd hg (by decide) | ((try replace hg := HG.out hg); (try dsimp only at hg); (try (have _h : True := hg; clear _h hg)); first | (exfalso; omega) | skip))))
      (refine aw_mono_r (env' := [(4, encInts (lineTo s.items i (lineN s.items i))), (5, vi 0)]) (H' := []) ?_ ?_; (focus ((refine sub_to [] [3] rfl ?_ ?_ <;> (repeat' (first | exact trivial | refine ⟨⟨_, rfl, ?_⟩, ?_⟩ | refine ⟨bsub_snoc rfl rfl (fun _ => rfl) ?_, ?_⟩ | refine ⟨bsub_one rfl rfl ?_, ?_⟩ | refine ⟨bsub_all rfl rfl (fun _ _ => rfl) (fun _ => rfl), ?_⟩ | refine ⟨bsub_updL rfl rfl ?_ (fun _ _ _ => rfl) (fun _ => rfl), ?_⟩ | refine ⟨.inl ⟨_, _, rfl, rfl, ?_⟩, ?_⟩ | exact ⟨.inr ⟨rfl, rfl⟩, trivial⟩ | refine ⟨.inr ⟨rfl, rfl⟩, ?_⟩ | (intro _ _) | exact vz1 | exact vz2 | fail))); done)))
      (refine aw_ret ?_; (repeat (first | refine ret_then ?_ | refine ret_block ?_)); refine bq2 rfl rfl ⟨?_, rfl⟩)
      rw [lineF_ok he, he]
  · have he := lineE_bad (i := i) hv
    (refine aw_mono_r (env' := [(4, encInts []), (5, vi 80)]) (H' := []) ?_ ?_; (focus ((refine sub_to [] [] rfl ?_ ?_ <;> (repeat' (first | exact trivial | refine ⟨⟨_, rfl, ?_⟩, ?_⟩ | refine ⟨bsub_snoc rfl rfl (fun _ => rfl) ?_, ?_⟩ | refine ⟨bsub_one rfl rfl ?_, ?_⟩ | refine ⟨bsub_all rfl rfl (fun _ _ => rfl) (fun _ => rfl), ?_⟩ | refine ⟨bsub_updL rfl rfl ?_ (fun _ _ _ => rfl) (fun _ => rfl), ?_⟩ | refine ⟨.inl ⟨_, _, rfl, rfl, ?_⟩, ?_⟩ | exact ⟨.inr ⟨rfl, rfl⟩, trivial⟩ | refine ⟨.inr ⟨rfl, rfl⟩, ?_⟩ | (intro _ _) | exact vz1 | exact vz2 | fail))); done)))
    (refine aw_ret ?_; (repeat (first | refine ret_then ?_ | refine ret_block ?_)); refine bq2 rfl rfl ⟨?_, rfl⟩)
    rw [lineF_no (by omega), he]
set_option maxHeartbeats 4000000 in
theorem line8_p (s : Sto) (i : Int) : PCalls Try.prog 30 [s.enc, vi i] (· = .tup [encInts (lineF s i), vi (lineE s i)]) := by
  by_cases hv : Valid s
  · have hfew := hv.1
    unfold Few at hfew
    have hvd : decide (Valid s) = true := decide_eq_true hv
    have hp := store8_p s
    rw [hvd] at hp
    by_cases hr : 0 ≤ i ∧ i < (s.items.length : Int)
    · have he := lineE_ok hv hr
      have hC := chain_ok hv.2.1 hr
      have hf := hC.few
      rw [lineF_ok he, he]
      
      refine pcalls_of_aw Try.func30 rfl (Nat.le_of_ble_eq_true rfl) ?_
      (repeat' (first | (refine ar_isq ?_; first | refine zmv ?_ | refine zas ?_ | (refine is_load ?_; first | refine zlp ?_ | refine zlr ?_) | (refine is_binOp ?_; first | refine zgeq ?_ | refine zsub ?_) | (refine is_fieldAddr ?_; first | refine zfp ?_ | refine zfr ?_) | (refine is_indexAddr ?_; first | refine zil ?_ | refine zis ?_ | refine zit ?_ | refine zia ?_ | refine zir ?_ | (refine zxl ?_; intro _ _ _) | (refine zxs ?_; intro _ _ _)) | (refine is_call ?_; first | refine zll ?_ | refine zls ?_ | refine zln ?_ | refine zle ?_) | refine znt ?_) | (refine ar_pcall (own := false) fn44 rfl rfl (.cons (.closed rfl) .nil) (hp) (by simp) (dc rfl) ?_; intro _ hv; subst hv) | (refine ar_pcall (own := false) fn54 rfl rfl (.cons (.closed rfl) (.cons (.closed rfl) (.cons (.closed rfl) .nil))) (within8_p _ _ _) (by simp) (dc rfl) ?_; intro _ hv; subst hv) | (refine zbx ?_) | (refine zb1 ?_) | (refine zb0 ?_) | (refine zapoo ?_) | (refine zapol ?_) | (refine zapno ?_) | (refine zapnl ?_) | (refine zapeo ?_) | (refine zapel ?_) | (refine ar_nil ?_) | (refine aw_seq ?_) | (refine aw_skip ?_) | (refine aw_block ?_) | (refine aw_exit ?_) | (refine aw_region ?_) | (refine zco ?_ ?_ <;> intro hg <;> first | exact absurd hg (by decide) | ((try replace hg := HG.out hg); (try dsimp only at hg); (try rw [withinB_iff] at hg); (try rw [withinB_no] at hg); (try (have _h : True := hg; clear _h hg)); first | (exfalso; omega) | skip))))
      all_goals (try (exfalso; omega))
      refine aw_for (lineN s.items i) (fun _ => True) (fun k => [(2, .ptr 3 0 0 0), (6, .sl 1 1 0 (lineTo s.items i k).length), (7, vi (srcN s.items i k))]) (fun k => [.arr 3 1 (fun _ => s.enc), LB 1 vi (lineTo s.items i k)]) trivial ?_ ?_
      · (refine sub_to [some 0, none] [] rfl ?_ ?_ <;> (repeat' (first | exact trivial | refine ⟨⟨_, rfl, ?_⟩, ?_⟩ | refine ⟨bsub_snoc rfl rfl (fun _ => rfl) ?_, ?_⟩ | refine ⟨bsub_one rfl rfl ?_, ?_⟩ | refine ⟨bsub_all rfl rfl (fun _ _ => rfl) (fun _ => rfl), ?_⟩ | refine ⟨bsub_updL rfl rfl ?_ (fun _ _ _ => rfl) (fun _ => rfl), ?_⟩ | refine ⟨.inl ⟨_, _, rfl, rfl, ?_⟩, ?_⟩ | exact ⟨.inr ⟨rfl, rfl⟩, trivial⟩ | refine ⟨.inr ⟨rfl, rfl⟩, ?_⟩ | (intro _ _) | exact vz1 | exact vz2 | fail)))
      intro k hk _
      have hl := lineTo_len s.items i k
      by_cases hlt : k < lineN s.items i
      · obtain ⟨h1, h2⟩ := hC.at_ k hlt
        (repeat' (first | (refine ar_isq ?_; first | refine zmv ?_ | refine zas ?_ | (refine is_load ?_; first | refine zlp ?_ | refine zlr ?_) | (refine is_binOp ?_; first | refine zgeq ?_ | refine zsub ?_) | (refine is_fieldAddr ?_; first | refine zfp ?_ | refine zfr ?_) | (refine is_indexAddr ?_; first | refine zil ?_ | refine zis ?_ | refine zit ?_ | refine zia ?_ | refine zir ?_ | refine zil (j := (srcN s.items i k).toNat) ?_ | refine zis (j := (srcN s.items i k).toNat) ?_ | refine zit (j := (srcN s.items i k).toNat) ?_ | (refine zxl ?_; intro _ _ _) | (refine zxs ?_; intro _ _ _)) | (refine is_call ?_; first | refine zll ?_ | refine zls ?_ | refine zln ?_ | refine zle ?_) | refine znt ?_) | (refine zbx ?_) | (refine zb1 ?_) | (refine zb0 ?_) | (refine zapoo ?_) | (refine zapol ?_) | (refine zapno ?_) | (refine zapnl ?_) | (refine zapeo ?_) | (refine zapel ?_) | (refine ar_nil ?_) | (refine aw_seq ?_) | (refine aw_skip ?_) | (refine aw_block ?_) | (refine aw_exit ?_) | (refine aw_region ?_) | (refine zco ?_ ?_ <;> intro hg <;> first | exact absurd hg (by decide) | ((try replace hg := HG.out hg); (try dsimp only at hg); (try rw [withinB_iff] at hg); (try rw [withinB_no] at hg); (try (have _h : True := hg; clear _h hg)); first | (exfalso; omega) | skip))))
        all_goals first
          | (exfalso; omega)
          | ((first | refine loop_next (by omega) ?_ ?_ | refine (show _ ∧ _ ∧ SubOf _ _ _ _ _ _ from And.intro (by omega) (And.intro ?_ ?_))); (focus ((trivial); done)); (focus ((refine sub_to [some 0, some 3] [] rfl ?_ ?_ <;> (repeat' (first | exact trivial | refine ⟨⟨_, rfl, ?_⟩, ?_⟩ | refine ⟨bsub_snoc rfl rfl (fun _ => rfl) ?_, ?_⟩ | refine ⟨bsub_one rfl rfl ?_, ?_⟩ | refine ⟨bsub_all rfl rfl (fun _ _ => rfl) (fun _ => rfl), ?_⟩ | refine ⟨bsub_updL rfl rfl ?_ (fun _ _ _ => rfl) (fun _ => rfl), ?_⟩ | refine ⟨.inl ⟨_, _, rfl, rfl, ?_⟩, ?_⟩ | exact ⟨.inr ⟨rfl, rfl⟩, trivial⟩ | refine ⟨.inr ⟨rfl, rfl⟩, ?_⟩ | (intro _ _) | exact vz1 | (first | exact slEq rfl (by rw [lineTo_len, lineTo_len]; omega) | refine ⟨bsub_cons rfl rfl rfl (fun j _ => by rw [Nat.zero_add]), ?_⟩) | exact vz2 | fail))); done)))
          | trace_state
      · obtain rfl : k = lineN s.items i := by omega
        have hs := hC.stop
        (repeat' (first | (refine ar_isq ?_; first | refine zmv ?_ | refine zas ?_ | (refine is_load ?_; first | refine zlp ?_ | refine zlr ?_) | (refine is_binOp ?_; first | refine zgeq ?_ | refine zsub ?_) | (refine is_fieldAddr ?_; first | refine zfp ?_ | refine zfr ?_) | (refine is_indexAddr ?_; first | refine zil ?_ | refine zis ?_ | refine zit ?_ | refine zia ?_ | refine zir ?_ | (refine zxl ?_; intro _ _ _) | (refine zxs ?_; intro _ _ _)) | (refine is_call ?_; first | refine zll ?_ | refine zls ?_ | refine zln ?_ | refine zle ?_) | refine znt ?_) | (refine zbx ?_) | (refine zb1 ?_) | (refine zb0 ?_) | (refine zapoo ?_) | (refine zapol ?_) | (refine zapno ?_) | (refine zapnl ?_) | (refine zapeo ?_) | (refine zapel ?_) | (refine ar_nil ?_) | (refine aw_seq ?_) | (refine aw_skip ?_) | (refine aw_block ?_) | (refine aw_exit ?_) | (refine aw_region ?_) | (refine zco ?_ ?_ <;> intro hg <;> first | exact absurd hg (by decide) | ((try replace hg := HG.out hg); (try dsimp only at hg); (try rw [withinB_iff] at hg); (try rw [withinB_no] at hg); (try (have _h : True := hg; clear _h hg)); first | (exfalso; omega) | skip))))
        all_goals first
          | (exfalso; omega)
          | ((refine aw_mono_r (env' := [(4, encInts (lineTo s.items i (lineN s.items i))), (5, vi 0)]) (H' := []) ?_ ?_; (focus ((refine sub_to [] [1] rfl ?_ ?_ <;> (repeat' (first | exact trivial | refine ⟨⟨_, rfl, ?_⟩, ?_⟩ | refine ⟨bsub_snoc rfl rfl (fun _ => rfl) ?_, ?_⟩ | refine ⟨bsub_one rfl rfl ?_, ?_⟩ | refine ⟨bsub_all rfl rfl (fun _ _ => rfl) (fun _ => rfl), ?_⟩ | refine ⟨bsub_updL rfl rfl ?_ (fun _ _ _ => rfl) (fun _ => rfl), ?_⟩ | refine ⟨.inl ⟨_, _, rfl, rfl, ?_⟩, ?_⟩ | exact ⟨.inr ⟨rfl, rfl⟩, trivial⟩ | refine ⟨.inr ⟨rfl, rfl⟩, ?_⟩ | (intro _ _) | exact vz1 | exact vz2 | fail))); done))); (refine aw_ret ?_; (repeat (first | refine ret_then ?_ | refine ret_block ?_)); refine bq2 rfl rfl ⟨?_, rfl⟩); rfl)
          | trace_state
    · have he := lineE_none (i := i) hv hr
      rw [lineF_no (by omega), he]
      refine pcalls_of_aw Try.func30 rfl (Nat.le_of_ble_eq_true rfl) ?_
      (repeat' (first | (refine ar_isq ?_; first | refine zmv ?_ | refine zas ?_ | (refine is_load ?_; first | refine zlp ?_ | refine zlr ?_) | (refine is_binOp ?_; first | refine zgeq ?_ | refine zsub ?_) | (refine is_fieldAddr ?_; first | refine zfp ?_ | refine zfr ?_) | (refine is_indexAddr ?_; first | refine zil ?_ | refine zis ?_ | refine zit ?_ | refine zia ?_ | refine zir ?_ | (refine zxl ?_; intro _ _ _) | (refine zxs ?_; intro _ _ _)) | (refine is_call ?_; first | refine zll ?_ | refine zls ?_ | refine zln ?_ | refine zle ?_) | refine znt ?_) | (refine ar_pcall (own := false) fn44 rfl rfl (.cons (.closed rfl) .nil) (hp) (by simp) (dc rfl) ?_; intro _ hv; subst hv) | (refine ar_pcall (own := false) fn54 rfl rfl (.cons (.closed rfl) (.cons (.closed rfl) (.cons (.closed rfl) .nil))) (within8_p _ _ _) (by simp) (dc rfl) ?_; intro _ hv; subst hv) | (refine zbx ?_) | (refine zb1 ?_) | (refine zb0 ?_) | (refine zapoo ?_) | (refine zapol ?_) | (refine zapno ?_) | (refine zapnl ?_) | (refine zapeo ?_) | (refine zapel ?_) | (refine ar_nil ?_) | (refine aw_seq ?_) | (refine aw_skip ?_) | (refine aw_block ?_) | (refine aw_exit ?_) | (refine aw_region ?_) | (refine zco ?_ ?_ <;> intro hg <;> first | exact absurd hg (by decide) | ((try replace hg := HG.out hg); (try dsimp only at hg); (try rw [withinB_iff] at hg); (try rw [withinB_no] at hg); (try (have _h : True := hg; clear _h hg)); first | (exfalso; omega) | skip))))
      all_goals first
        | (exfalso; omega)
        | ((refine aw_mono_r (env' := [(4, encInts []), (5, vi 6)]) (H' := []) ?_ ?_; (focus ((refine sub_to [] [] rfl ?_ ?_ <;> (repeat' (first | exact trivial | refine ⟨⟨_, rfl, ?_⟩, ?_⟩ | refine ⟨bsub_snoc rfl rfl (fun _ => rfl) ?_, ?_⟩ | refine ⟨bsub_one rfl rfl ?_, ?_⟩ | refine ⟨bsub_all rfl rfl (fun _ _ => rfl) (fun _ => rfl), ?_⟩ | refine ⟨bsub_updL rfl rfl ?_ (fun _ _ _ => rfl) (fun _ => rfl), ?_⟩ | refine ⟨.inl ⟨_, _, rfl, rfl, ?_⟩, ?_⟩ | exact ⟨.inr ⟨rfl, rfl⟩, trivial⟩ | refine ⟨.inr ⟨rfl, rfl⟩, ?_⟩ | (intro _ _) | exact vz1 | exact vz2 | fail))); done))); (refine aw_ret ?_; (repeat (first | refine ret_then ?_ | refine ret_block ?_)); refine bq2 rfl rfl ⟨?_, rfl⟩); rfl)
        | trace_state
  · have he := lineE_bad (i := i) hv
    have hvd : decide (Valid s) = false := decide_eq_false hv
    have hp := store8_p s
    rw [hvd] at hp
    rw [lineF_no (by omega), he]
    refine pcalls_of_aw Try.func30 rfl (Nat.le_of_ble_eq_true rfl) ?_
    (repeat' (first | (refine ar_isq ?_; first | refine zmv ?_ | refine zas ?_ | (refine is_load ?_; first | refine zlp ?_ | refine zlr ?_) | (refine is_binOp ?_; first | refine zgeq ?_ | refine zsub ?_) | (refine is_fieldAddr ?_; first | refine zfp ?_ | refine zfr ?_) | (refine is_indexAddr ?_; first | refine zil ?_ | refine zis ?_ | refine zit ?_ | refine zia ?_ | refine zir ?_ | (refine zxl ?_; intro _ _ _) | (refine zxs ?_; intro _ _ _)) | (refine is_call ?_; first | refine zll ?_ | refine zls ?_ | refine zln ?_ | refine zle ?_) | refine znt ?_) | (refine ar_pcall (own := false) fn44 rfl rfl (.cons (.closed rfl) .nil) (hp) (by simp) (dc rfl) ?_; intro _ hv; subst hv) | (refine zbx ?_) | (refine zb1 ?_) | (refine zb0 ?_) | (refine zapoo ?_) | (refine zapol ?_) | (refine zapno ?_) | (refine zapnl ?_) | (refine zapeo ?_) | (refine zapel ?_) | (refine ar_nil ?_) | (refine aw_seq ?_) | (refine aw_skip ?_) | (refine aw_block ?_) | (refine aw_exit ?_) | (refine aw_region ?_) | (refine zco ?_ ?_ <;> intro hg <;> first | exact absurd hg (by decide) | ((try replace hg := HG.out hg); (try dsimp only at hg); (try rw [withinB_iff] at hg); (try rw [withinB_no] at hg); (try (have _h : True := hg; clear _h hg)); first | (exfalso; omega) | skip))))
    all_goals first
      | (exfalso; omega)
      | ((refine aw_mono_r (env' := [(4, encInts []), (5, vi 80)]) (H' := []) ?_ ?_; (focus ((refine sub_to [] [] rfl ?_ ?_ <;> (repeat' (first | exact trivial | refine ⟨⟨_, rfl, ?_⟩, ?_⟩ | refine ⟨bsub_snoc rfl rfl (fun _ => rfl) ?_, ?_⟩ | refine ⟨bsub_one rfl rfl ?_, ?_⟩ | refine ⟨bsub_all rfl rfl (fun _ _ => rfl) (fun _ => rfl), ?_⟩ | refine ⟨bsub_updL rfl rfl ?_ (fun _ _ _ => rfl) (fun _ => rfl), ?_⟩ | refine ⟨.inl ⟨_, _, rfl, rfl, ?_⟩, ?_⟩ | exact ⟨.inr ⟨rfl, rfl⟩, trivial⟩ | refine ⟨.inr ⟨rfl, rfl⟩, ?_⟩ | (intro _ _) | exact vz1 | exact vz2 | fail))); done))); (refine aw_ret ?_; (repeat (first | refine ret_then ?_ | refine ret_block ?_)); refine bq2 rfl rfl ⟨?_, rfl⟩); rfl)
      | trace_state
end Go.Proofs.Ytbilpbabdgfblaa
namespace Go.Proofs.Ytbilpbabdgfblaa
open Go.RowKit
def hereB (s : Sto) (i : Int) : Prop := (0 ≤ i ∧ i < (s.items.length : Int)) ∧ (el s.items i.toNat).gone = false
instance (s : Sto) (i : Int) : Decidable (hereB s i) := by unfold hereB; infer_instance
end Go.Proofs.Ytbilpbabdgfblaa
namespace Go.Proofs.Ytbilpbabdgfblaa
open Go.RowKit
def takenB (s : Sto) (i dest : Int) : Prop := 2 ≤ dest ∧ ¬ ∀ k, k < s.items.length → k ≠ i.toNat → (el s.items k).place ≠ dest
instance (s : Sto) (i dest : Int) : Decidable (takenB s i dest) := by unfold takenB; infer_instance
end Go.Proofs.Ytbilpbabdgfblaa
namespace Go.Proofs.Ytbilpbabdgfblaa
open Go.RowKit
theorem DCalls.mono {P : Program} {g : FuncId} {args : List V} {H : Heap} {pan : Option V} {R R' : Heap → Prop} (h : DCalls P g args H pan R) (hr : ∀ H', R H' → R' H') : DCalls P g args H pan R' :=
  ⟨fun X I ρ w us u a b c => (h.1 X I ρ w us u a b c).mono fun _ _ _ ⟨x, I', ρ', H', a, b, c, d, e, f⟩ => ⟨x, I', ρ', H', a, b, c, d, e, hr _ f⟩⟩
namespace Pn
theorem zco {t : Nat} {pd : Bool} {r : Option Nat} {m nt : Nat} {Q : Post} {env : Env} {H : Heap} {x : Operand} {c1 c2 : Code} {b : Bool} (hy : b = true → AW t pd Try.prog r m nt c1 Q env H) (hn : b = false → AW t pd Try.prog r m nt c2 Q env H) (hc : eo env x = some (.s (.bool b)) := by exact rfl) : AW t pd Try.prog r m nt (.cond x c1 c2) Q env H := aw_cond hc hy hn
end Pn
end Go.Proofs.Ytbilpbabdgfblaa
namespace Go.Proofs.Ytbilpbabdgfblaa
open Go.RowKit
theorem bq2c {P : Program} {env : Env} {H : Heap} {R Rp : V → Heap → Prop} {a t2 : Nat} {v v2 : V} {T : TypeId} {d : TyD} {sz b i off n : Nat} {f : Nat → V} (hT : TyIs P T d) (ha : look env a = some (.ptr sz b i off)) (hH : H[b]? = some (.arr sz n f)) (hi : i < n) (hv : partV d.tk.agg (f i).cells off d.size = some v)
    (h2 : look env t2 = some v2) (hR : R (.tup [v, v2]) H) : BodyQ P #[.cell a T, .tmp t2] R Rp .ret env H :=
  ⟨_, .inr (.inr (.inl ⟨_, _, _, _, rfl, ⟨d, sz, b, i, off, n, f, hT, ha, hH, hi, hv⟩, h2, rfl⟩)), hR⟩
end Go.Proofs.Ytbilpbabdgfblaa
namespace Go.Proofs.Ytbilpbabdgfblaa
open Go.RowKit
def zeroV : V := .agg [vi 0, vnil, vnil]
end Go.Proofs.Ytbilpbabdgfblaa
namespace Go.Proofs.Ytbilpbabdgfblaa
open Go.RowKit
def inMade (h : Hse) (i : Int) : Prop := 0 ≤ i ∧ i < (h.made.length : Int)
instance (h : Hse) (i : Int) : Decidable (inMade h i) := by unfold inMade; infer_instance
end Go.Proofs.Ytbilpbabdgfblaa
namespace Go.Proofs.Ytbilpbabdgfblaa
open Go.ChangeShapes Go.WideShapes Go.ChangeAt Go.RowKit Go.Deep
structure Mk where
  x : Int
  y : Int
instance : Inhabited Mk := ⟨⟨0, 0⟩⟩
structure Bx where
  lx : Int
  ly : Int
  hx : Int
  hy : Int
def Mk.enc (m : Mk) : V := .agg [vi m.x, vi m.y]
def Mk.wf (m : Mk) : Prop := i64ok m.x ∧ i64ok m.y
def Bx.enc (b : Bx) : V := .agg [vi b.lx, vi b.ly, vi b.hx, vi b.hy]
end Go.Proofs.Ytbilpbabdgfblaa
namespace Go.Proofs.Ytbilpbabdgfblaa
open Go.RowKit
/-- How many prints of its plate were before a print. -/
def beforeF (h : Hse) (k : Nat) : Int := usedP h.store.prints (el h.store.prints k).plate k
/-- The growth of a print's image. -/
def growF (h : Hse) (k : Nat) : Int := min (beforeF h k / h.per) 20
end Go.Proofs.Ytbilpbabdgfblaa
namespace Go.Proofs.Ytbilpbabdgfblaa
open Go.RowKit
theorem before_bnd (h : Hse) (k : Nat) : 0 ≤ beforeF h k ∧ beforeF h k ≤ k := usedP_bnd _ _ _
theorem grow_bnd {h : Hse} (hp : 1 ≤ h.per) (k : Nat) : 0 ≤ growF h k ∧ growF h k ≤ 20 ∧ growF h k ≤ (k : Int) / h.per := by
  have hb := before_bnd h k
  have h1 : 0 ≤ beforeF h k / h.per := Int.ediv_nonneg hb.1 (by omega)
  have h2 : beforeF h k / h.per ≤ (k : Int) / h.per := Int.ediv_le_ediv (by omega) hb.2
  unfold growF
  omega
end Go.Proofs.Ytbilpbabdgfblaa
-- old go
namespace Go.Proofs.Ytbilpbabdgfblaa
open Go.RowKit
/-- How many prints of each plate are among the first k. -/
def tgT (l : List Prt) : Nat → List (Int × Int)
  | 0 => []
  | k + 1 => putE (tgT l k) (el l k).plate (usedP l (el l k).plate k + 1)
def tgD (l : List (Int × Int)) (q : Int) : Int := (getE l q).getD 0
theorem tgD_put (l : List (Int × Int)) (a b v : Int) : tgD (putE l a v) b = if b = a then v else tgD l b := by
  unfold tgD
  rw [getE_put]
  split <;> rfl
theorem tgD_eq (l : List Prt) (q : Int) : ∀ k, tgD (tgT l k) q = usedP l q k
  | 0 => rfl
  | k + 1 => by
    rw [tgT, tgD_put]
    by_cases e : q = (el l k).plate
    · subst e
      rw [if_pos rfl, usedP_yes rfl]
    · rw [if_neg e, tgD_eq l q k, usedP_no (fun h => e h.symm)]
end Go.Proofs.Ytbilpbabdgfblaa
namespace Go.Proofs.Ytbilpbabdgfblaa.Im
open Go.RowKit
section
variable {C : Cx Try.prog} {nt : Nat} {Q : Post} {env : Env} {H : Heap} {k : Option Nat} {ops : Array Oper} {l : List Stp} {ty : TypeId} {pos : String} {after : Array Edge} {T K E : TypeId} {d dk de : TyD} {x y : Operand}
theorem ar_lookupG {i f b : Nat} {ml : List (Int × Int)} {a c : Int} (hv : tgD ml a = c) (ht : TyIs Try.prog T d) (hk : d.tk = .map K E) (hK : TyIs Try.prog K dk) (hkk : dk.tk = .int .i64) (hE : TyIs Try.prog E de) (hx : eo env x = some (.map b)) (hy : eo env y = some (.s (.int .i64 a))) (hH : H[b]? = some (mapE vi ml)) (hz : constV de.zero = vi 0) (hd : f < nt)
    (h : AR C nt ops Q l ((f, vi c) :: env) H k) : AR C nt ops Q (.q i ⟨some f, .lookup T x y false, ty, pos, after, none⟩ :: l) env H k := by
  subst hv
  refine ar_lookup ht hk hK hkk hE hx hy hH hd (fun v hv => ?_) fun hv => ?_
  · have : tgD ml a = v := by unfold tgD; rw [hv]; rfl
    rw [this] at h
    exact h
  · have : tgD ml a = 0 := by unfold tgD; rw [hv]; rfl
    rw [this] at h
    show AR C nt ops Q l ((f, constV de.zero) :: env) H k
    rw [hz]
    exact h
end
set_option maxHeartbeats 1000000 in
theorem growths_iter (h : Hse) (hV : HValid h) : IterX Try.prog 42 [.ref (.ref h.enc 0) 0] h.store.prints.length (fun k => [.int .i64 k, .int .i64 (growF h k)]) := by
  have hper := hV.per
  have hfew := hV.store.1
  unfold Few at hfew
  refine iter_of_aw Try.func42 rfl (dc rfl) rfl fun C hN hel => ?_
  (repeat' (first | (refine ar_isq ?_; first | refine ar_q (qs_move rfl) (dc rfl) ?_ | refine ar_q (qs_assign rfl) (dc rfl) ?_ | (refine is_load ?_; first | refine ar_q (qs_load_ptr (ty rfl) rfl rfl (by first | exact Nat.one_pos | assumption | omega) rfl) (dc rfl) ?_ | refine ar_q (qs_load_ref (ty rfl) rfl rfl) (dc rfl) ?_) | (refine is_binOp ?_; first | refine ar_q (qs_lss rfl rfl) (dc rfl) ?_ | refine ar_q (qs_add rfl rfl (wrap64 (by omega))) (dc rfl) ?_ | refine ar_q (qs_quo rfl rfl (by omega) (quo64 (by omega) (by omega))) (dc rfl) ?_) | (refine is_fieldAddr ?_; first | refine ar_q (qs_faddr_ptr (ty rfl) rfl rfl (ty rfl) (Nat.succ_ne_zero _) rfl) (dc rfl) ?_ | refine ar_q (qs_faddr_ref (ty rfl) rfl rfl (ty rfl) (Nat.succ_ne_zero _) rfl) (dc rfl) ?_) | (refine is_indexAddr ?_; first | refine ar_q (qs_iaddr_list (ty rfl) rfl (ty rfl) rfl rfl rfl rfl (by omega)) (dc rfl) ?_ | refine ar_q (qs_iaddr_sl0 (ty rfl) rfl (ty rfl) rfl rfl rfl rfl (by omega)) (dc rfl) ?_ | refine ar_q (qs_iaddr_sl (ty rfl) rfl (ty rfl) rfl rfl rfl rfl (by omega)) (dc rfl) ?_ | refine ar_q (qs_iaddr_aptr (ty rfl) rfl (ty rfl) rfl rfl rfl (by omega)) (dc rfl) ?_ | refine ar_q (qs_iaddr_aref (ty rfl) rfl (ty rfl) rfl rfl rfl (by omega)) (dc rfl) ?_ | (refine ar_idx_list (ty rfl) rfl (ty rfl) rfl rfl rfl (dc rfl) (by omega) ?_; intro _ _ _) | (refine ar_idx_sl (ty rfl) rfl (ty rfl) rfl rfl rfl (dc rfl) (by omega) ?_; intro _ _ _)) | (refine is_call ?_; first | refine ar_q (qs_len_list (ty rfl) rfl rfl rfl) (dc rfl) ?_ | refine ar_q (qs_len_sl (ty rfl) rfl rfl rfl) (dc rfl) ?_ | refine ar_q (qs_len_nil (ty rfl) rfl rfl rfl) (dc rfl) ?_ | refine ar_q (qs_len_emp (ty rfl) rfl rfl rfl) (dc rfl) ?_ | refine ar_q (qs_min rfl rfl) (dc rfl) ?_) | refine ar_q (qs_not rfl) (dc rfl) ?_) | (refine ar_makeMap (dc rfl) ?_) | (refine ar_q (qs_nck_ref rfl) (dc rfl) ?_) | (refine ar_alloc (ty rfl) rfl (dc rfl) ?_) | (refine ar_store_var (ty rfl) rfl rfl rfl rfl rfl rfl (by first | (dsimp only; omega) | exact dc rfl) (.inr ⟨rfl, rfl, rfl, fun _ h => by cases h⟩) ?_) | (refine ar_store_var (ty rfl) rfl rfl rfl rfl rfl rfl (by first | (dsimp only; omega) | exact dc rfl) (.inl ⟨_, rfl⟩) ?_) | (refine ar_store_elt (ty rfl) rfl rfl rfl rfl rfl rfl (by first | exact Nat.one_pos | assumption | omega) (by first | (dsimp only; omega) | exact dc rfl) (.inr ⟨rfl, rfl, rfl, fun _ h => by cases h⟩) ?_) | (refine ar_store_elt (ty rfl) rfl rfl rfl rfl rfl rfl (by first | exact Nat.one_pos | assumption | omega) (by first | (dsimp only; omega) | exact dc rfl) (.inl ⟨_, rfl⟩) ?_) | (refine ar_nil ?_) | (refine aw_seq ?_) | (refine aw_skip ?_) | (refine aw_block ?_) | (refine aw_exit ?_) | (refine aw_region ?_) | (refine aw_cond rfl ?_ ?_ <;> intro hg <;> first | exact absurd hg (by decide) | ((first | replace hg := hgT hg | replace hg := hgF hg | replace hg := hgNT hg | replace hg := hgNF hg | replace hg := hgBT hg | replace hg := hgBF hg | replace hg := hgV hg | replace hg := hgW hg | skip); (try dsimp only at hg); (try (have _h : True := hg; clear _h hg)); first | (exfalso; omega) | skip))))
  refine aw_for h.store.prints.length (fun k => [(0, .s (.func (.yield C.l) #[] #[])), (1, .ref (.ref h.enc 0) 0), (3, .map 0), (13, encPrints h.store.prints), (14, vi h.store.prints.length), (15, vi k)]) (fun k => [mapE vi (tgT h.store.prints k)]) ⟨rfl, rfl, rfl, rfl, rfl, rfl, trivial⟩ rfl ?_
  intro k hk
  by_cases hlt : k < h.store.prints.length
  · have hb := before_bnd h k
    have hg := grow_bnd hper.1 k
    have ht : tgD (tgT h.store.prints k) (el h.store.prints k).plate = beforeF h k := tgD_eq _ _ _
    (repeat' (first | (refine ar_isq ?_; first | refine ar_q (qs_move rfl) (dc rfl) ?_ | refine ar_q (qs_assign rfl) (dc rfl) ?_ | (refine is_load ?_; first | refine ar_q (qs_load_ptr (ty rfl) rfl rfl (by first | exact Nat.one_pos | assumption | omega) rfl) (dc rfl) ?_ | refine ar_q (qs_load_ref (ty rfl) rfl rfl) (dc rfl) ?_) | (refine is_binOp ?_; first | refine ar_q (qs_lss rfl rfl) (dc rfl) ?_ | refine ar_q (qs_add rfl rfl (wrap64 (by omega))) (dc rfl) ?_ | refine ar_q (qs_quo rfl rfl (by omega) (quo64 (by omega) (by omega))) (dc rfl) ?_) | (refine is_fieldAddr ?_; first | refine ar_q (qs_faddr_ptr (ty rfl) rfl rfl (ty rfl) (Nat.succ_ne_zero _) rfl) (dc rfl) ?_ | refine ar_q (qs_faddr_ref (ty rfl) rfl rfl (ty rfl) (Nat.succ_ne_zero _) rfl) (dc rfl) ?_) | (refine is_indexAddr ?_; first | refine ar_q (qs_iaddr_list (ty rfl) rfl (ty rfl) rfl rfl rfl rfl (by omega)) (dc rfl) ?_ | refine ar_q (qs_iaddr_sl0 (ty rfl) rfl (ty rfl) rfl rfl rfl rfl (by omega)) (dc rfl) ?_ | refine ar_q (qs_iaddr_sl (ty rfl) rfl (ty rfl) rfl rfl rfl rfl (by omega)) (dc rfl) ?_ | refine ar_q (qs_iaddr_aptr (ty rfl) rfl (ty rfl) rfl rfl rfl (by omega)) (dc rfl) ?_ | refine ar_q (qs_iaddr_aref (ty rfl) rfl (ty rfl) rfl rfl rfl (by omega)) (dc rfl) ?_ | refine ar_q (qs_iaddr_list (j := k) (ty rfl) rfl (ty rfl) rfl rfl rfl (by omega) (by omega)) (dc rfl) ?_ | refine ar_q (qs_iaddr_sl0 (j := k) (ty rfl) rfl (ty rfl) rfl rfl rfl (by omega) (by omega)) (dc rfl) ?_ | refine ar_q (qs_iaddr_sl (j := k) (ty rfl) rfl (ty rfl) rfl rfl rfl (by omega) (by omega)) (dc rfl) ?_ | (refine ar_idx_list (ty rfl) rfl (ty rfl) rfl rfl rfl (dc rfl) (by omega) ?_; intro _ _ _) | (refine ar_idx_sl (ty rfl) rfl (ty rfl) rfl rfl rfl (dc rfl) (by omega) ?_; intro _ _ _)) | (refine is_call ?_; first | refine ar_q (qs_len_list (ty rfl) rfl rfl rfl) (dc rfl) ?_ | refine ar_q (qs_len_sl (ty rfl) rfl rfl rfl) (dc rfl) ?_ | refine ar_q (qs_len_nil (ty rfl) rfl rfl rfl) (dc rfl) ?_ | refine ar_q (qs_len_emp (ty rfl) rfl rfl rfl) (dc rfl) ?_ | refine ar_q (qs_min rfl rfl) (dc rfl) ?_) | refine ar_q (qs_not rfl) (dc rfl) ?_) | (refine ar_q (qs_nck_ref rfl) (dc rfl) ?_) | (refine ar_copy (ty rfl) rfl rfl rfl rfl rfl rfl rfl rfl rfl ⟨_, rfl⟩ rfl (dc rfl) (dc rfl) ?_) | (refine ar_lookupG ht (ty rfl) rfl (ty rfl) rfl (ty rfl) rfl rfl rfl rfl (dc rfl) ?_) | (refine ar_drop_l [(0, .s (.func (.yield C.l) #[] #[])), (1, .ref (.ref h.enc 0) 0), (3, .map 0), (4, vi k), (6, vi (beforeF h k)), (13, encPrints h.store.prints), (14, vi h.store.prints.length), (15, vi k), (24, .map 0), (26, vi (el h.store.prints k).plate), (28, vi (beforeF h k + 1))] (fun _ => rfl) ⟨rfl, rfl, rfl, rfl, rfl, rfl, rfl, rfl, rfl, rfl, rfl, trivial⟩ rfl ?_) | (refine ar_mapUpdate (e := vi) (v := beforeF h k + 1) (ty rfl) rfl (ty rfl) rfl rfl rfl rfl ?_) | (refine ar_yield (us := [.int .i64 k, .int .i64 (growF h k)]) rfl rfl (by rw [hN]; exact hlt) (by rw [hel]) (dc rfl) only_mapE ?_ ?_) | (refine ar_alloc (ty rfl) rfl (dc rfl) ?_) | (refine ar_store_var (ty rfl) rfl rfl rfl rfl rfl rfl (by first | (dsimp only; omega) | exact dc rfl) (.inr ⟨rfl, rfl, rfl, fun _ h => by cases h⟩) ?_) | (refine ar_store_var (ty rfl) rfl rfl rfl rfl rfl rfl (by first | (dsimp only; omega) | exact dc rfl) (.inl ⟨_, rfl⟩) ?_) | (refine ar_store_elt (ty rfl) rfl rfl rfl rfl rfl rfl (by first | exact Nat.one_pos | assumption | omega) (by first | (dsimp only; omega) | exact dc rfl) (.inr ⟨rfl, rfl, rfl, fun _ h => by cases h⟩) ?_) | (refine ar_store_elt (ty rfl) rfl rfl rfl rfl rfl rfl (by first | exact Nat.one_pos | assumption | omega) (by first | (dsimp only; omega) | exact dc rfl) (.inl ⟨_, rfl⟩) ?_) | (refine ar_nil ?_) | (refine aw_seq ?_) | (refine aw_skip ?_) | (refine aw_block ?_) | (refine aw_exit ?_) | (refine aw_region ?_) | (refine aw_cond rfl ?_ ?_ <;> intro hg <;> first | exact absurd hg (by decide) | ((first | replace hg := hgT hg | replace hg := hgF hg | replace hg := hgNT hg | replace hg := hgNF hg | replace hg := hgBT hg | replace hg := hgBF hg | replace hg := hgV hg | replace hg := hgW hg | skip); (try dsimp only at hg); (try (have _h : True := hg; clear _h hg)); first | (exfalso; omega) | skip))))
    all_goals first
      | (exfalso; omega)
      | exact loop_next hlt rfl rfl ⟨rfl, rfl, rfl, rfl, rfl, rfl, trivial⟩
      | exact aw_ret (.inr rfl)
      | trace_state
  · obtain rfl : k = h.store.prints.length := by omega
    (repeat' (first | (refine ar_isq ?_; first | refine ar_q (qs_move rfl) (dc rfl) ?_ | refine ar_q (qs_assign rfl) (dc rfl) ?_ | (refine is_load ?_; first | refine ar_q (qs_load_ptr (ty rfl) rfl rfl (by first | exact Nat.one_pos | assumption | omega) rfl) (dc rfl) ?_ | refine ar_q (qs_load_ref (ty rfl) rfl rfl) (dc rfl) ?_) | (refine is_binOp ?_; first | refine ar_q (qs_lss rfl rfl) (dc rfl) ?_ | refine ar_q (qs_add rfl rfl (wrap64 (by omega))) (dc rfl) ?_ | refine ar_q (qs_quo rfl rfl (by omega) (quo64 (by omega) (by omega))) (dc rfl) ?_) | (refine is_fieldAddr ?_; first | refine ar_q (qs_faddr_ptr (ty rfl) rfl rfl (ty rfl) (Nat.succ_ne_zero _) rfl) (dc rfl) ?_ | refine ar_q (qs_faddr_ref (ty rfl) rfl rfl (ty rfl) (Nat.succ_ne_zero _) rfl) (dc rfl) ?_) | (refine is_indexAddr ?_; first | refine ar_q (qs_iaddr_list (ty rfl) rfl (ty rfl) rfl rfl rfl rfl (by omega)) (dc rfl) ?_ | refine ar_q (qs_iaddr_sl0 (ty rfl) rfl (ty rfl) rfl rfl rfl rfl (by omega)) (dc rfl) ?_ | refine ar_q (qs_iaddr_sl (ty rfl) rfl (ty rfl) rfl rfl rfl rfl (by omega)) (dc rfl) ?_ | refine ar_q (qs_iaddr_aptr (ty rfl) rfl (ty rfl) rfl rfl rfl (by omega)) (dc rfl) ?_ | refine ar_q (qs_iaddr_aref (ty rfl) rfl (ty rfl) rfl rfl rfl (by omega)) (dc rfl) ?_ | (refine ar_idx_list (ty rfl) rfl (ty rfl) rfl rfl rfl (dc rfl) (by omega) ?_; intro _ _ _) | (refine ar_idx_sl (ty rfl) rfl (ty rfl) rfl rfl rfl (dc rfl) (by omega) ?_; intro _ _ _)) | (refine is_call ?_; first | refine ar_q (qs_len_list (ty rfl) rfl rfl rfl) (dc rfl) ?_ | refine ar_q (qs_len_sl (ty rfl) rfl rfl rfl) (dc rfl) ?_ | refine ar_q (qs_len_nil (ty rfl) rfl rfl rfl) (dc rfl) ?_ | refine ar_q (qs_len_emp (ty rfl) rfl rfl rfl) (dc rfl) ?_ | refine ar_q (qs_min rfl rfl) (dc rfl) ?_) | refine ar_q (qs_not rfl) (dc rfl) ?_) | (refine ar_alloc (ty rfl) rfl (dc rfl) ?_) | (refine ar_store_var (ty rfl) rfl rfl rfl rfl rfl rfl (by first | (dsimp only; omega) | exact dc rfl) (.inr ⟨rfl, rfl, rfl, fun _ h => by cases h⟩) ?_) | (refine ar_store_var (ty rfl) rfl rfl rfl rfl rfl rfl (by first | (dsimp only; omega) | exact dc rfl) (.inl ⟨_, rfl⟩) ?_) | (refine ar_store_elt (ty rfl) rfl rfl rfl rfl rfl rfl (by first | exact Nat.one_pos | assumption | omega) (by first | (dsimp only; omega) | exact dc rfl) (.inr ⟨rfl, rfl, rfl, fun _ h => by cases h⟩) ?_) | (refine ar_store_elt (ty rfl) rfl rfl rfl rfl rfl rfl (by first | exact Nat.one_pos | assumption | omega) (by first | (dsimp only; omega) | exact dc rfl) (.inl ⟨_, rfl⟩) ?_) | (refine ar_nil ?_) | (refine aw_seq ?_) | (refine aw_skip ?_) | (refine aw_block ?_) | (refine aw_exit ?_) | (refine aw_region ?_) | (refine aw_cond rfl ?_ ?_ <;> intro hg <;> first | exact absurd hg (by decide) | ((first | replace hg := hgT hg | replace hg := hgF hg | replace hg := hgNT hg | replace hg := hgNF hg | replace hg := hgBT hg | replace hg := hgBF hg | replace hg := hgV hg | replace hg := hgW hg | skip); (try dsimp only at hg); (try (have _h : True := hg; clear _h hg)); first | (exfalso; omega) | skip))))
    all_goals first
      | (exfalso; omega)
      | exact aw_ret (.inl rfl)
      | exact .inl rfl
      | trace_state
end Go.Proofs.Ytbilpbabdgfblaa.Im
namespace Go.Proofs.Ytbilpbabdgfblaa
open Go.RowKit
def talAt (m : List (Int × Tal)) (n : Int) : Tal := (getE m n).getD ⟨0, 0, 0⟩
def Tal.bump (t : Tal) (st k : Int) : Tal := if st = 0 then ⟨t.a + k, t.b, t.c⟩ else if st = 1 then ⟨t.a, t.b + k, t.c⟩ else ⟨t.a, t.b, t.c + k⟩
theorem talAt_put (m : List (Int × Tal)) (a b : Int) (t : Tal) : talAt (putE m a t) b = if b = a then t else talAt m b := by
  unfold talAt
  rw [getE_put]
  split <;> rfl
/-- The tallies are right. -/
def TalOk (h : Hse) (m : List (Int × Tal)) : Prop := ∀ n : Int, talAt m n = ⟨doneF h n 0, doneF h n 1, doneF h n 2⟩
def talTo (h : Hse) : Nat → List (Int × Tal)
  | 0 => []
  | k + 1 => putE (talTo h k) (el h.fors k) ((talAt (talTo h k) (el h.fors k)).bump (el h.store.prints k).state 1)
theorem doneTo_step {h : Hse} {n st : Int} {k : Nat} : doneTo h n st (k + 1) = doneTo h n st k + (if el h.fors k = n ∧ (el h.store.prints k).state = st then 1 else 0) := by
  unfold doneTo
  by_cases hc : el h.fors k = n ∧ (el h.store.prints k).state = st
  · rw [if_pos hc, cntB_yes (p := fun j => decide (el h.fors j = n) && decide ((el h.store.prints j).state = st)) (by simp [hc.1, hc.2])]
  · rw [if_neg hc, cntB_no (p := fun j => decide (el h.fors j = n) && decide ((el h.store.prints j).state = st)) (by
      by_cases h1 : el h.fors k = n
      · have h2 : ¬ (el h.store.prints k).state = st := fun h2 => hc ⟨h1, h2⟩
        simp [h2]
      · simp [h1])]
    omega
theorem talTo_at {h : Hse} : ∀ {k : Nat}, (∀ j, j < k → 0 ≤ (el h.store.prints j).state ∧ (el h.store.prints j).state ≤ 2) → ∀ n : Int, talAt (talTo h k) n = ⟨doneTo h n 0 k, doneTo h n 1 k, doneTo h n 2 k⟩
  | 0, _, n => rfl
  | k + 1, hk, n => by
    have ih := talTo_at (h := h) (k := k) fun j hj => hk j (by omega)
    have hst := hk k (by omega)
    rw [talTo, talAt_put, doneTo_step, doneTo_step, doneTo_step]
    by_cases hn : n = el h.fors k
    · subst hn
      rw [if_pos rfl, ih]
      unfold Tal.bump
      have h3 : (el h.store.prints k).state = 0 ∨ (el h.store.prints k).state = 1 ∨ (el h.store.prints k).state = 2 := by omega
      rcases h3 with h3 | h3 | h3 <;> simp [h3]
    · rw [if_neg hn, ih, if_neg (fun e => hn e.1.symm), if_neg (fun e => hn e.1.symm), if_neg (fun e => hn e.1.symm)]
      simp
theorem doneTo_bnd (h : Hse) (n st : Int) (k : Nat) : 0 ≤ doneTo h n st k ∧ doneTo h n st k ≤ k := by
  induction k with
  | zero => exact ⟨Int.le_refl _, Int.le_refl _⟩
  | succ k ih =>
    rw [doneTo_step]
    split <;> omega
def Tal.small (t : Tal) : Prop := (-100000 ≤ t.a ∧ t.a ≤ 100000) ∧ (-100000 ≤ t.b ∧ t.b ≤ 100000) ∧ (-100000 ≤ t.c ∧ t.c ≤ 100000)
section
variable {P : Program} {r : Option Nat} {mm nt : Nat} {Q : Post} {env : Env} {H : Heap} {ops : Array Oper} {L : List Stp} {ty : TypeId} {pos : String} {after : Array Edge} {T K E : TypeId} {d dk de : TyD} {x y : Operand}
theorem ar_lookupT {i f b : Nat} {m : List (Int × Tal)} {a : Int} (h : AR P r mm nt ops Q L ((f, Tal.enc (talAt m a)) :: env) H) (ht : TyIs P T d) (hk : d.tk = .map K E) (hK : TyIs P K dk) (hkk : dk.tk = .int .i64) (hE : TyIs P E de) (hz : constV de.zero = Tal.enc ⟨0, 0, 0⟩) (hx : eo env x = some (.map b)) (hy : eo env y = some (.s (.int .i64 a))) (hH : H[b]? = some (mapE Tal.enc m)) (hd : f < nt) :
    AR P r mm nt ops Q (.q i ⟨some f, .lookup T x y false, ty, pos, after, none⟩ :: L) env H :=
  ar_lookup (e := Tal.enc) (ok := false) ht hk hK hkk hE hx hy hH hd (fun v hv => by
    have : talAt m a = v := by unfold talAt; rw [hv]; rfl
    rw [this] at h
    exact h) (fun hn => by
    have : talAt m a = ⟨0, 0, 0⟩ := by unfold talAt; rw [hn]; rfl
    rw [this] at h
    show AR P r mm nt ops Q L ((f, constV de.zero) :: env) H
    rw [hz]
    exact h)
end
set_option maxHeartbeats 2000000 in
theorem count_p (h : Hse) (m : List (Int × Tal)) (n st k : Int) (hst : st = 0 ∨ st = 1 ∨ st = 2) (hs : (talAt m n).small) (hk : -1000 ≤ k ∧ k ≤ 1000) :
    ACalls Try.prog 68 [.ptr 11 0 0 0, vi n, vu8 st, vi k] (shoB h m) (fun v H => v = .tup [] ∧ H = shoB h (putE m n ((talAt m n).bump st k))) NoP := by
  obtain ⟨h1, h2, h3⟩ := hs
  have e0 : ∀ x, st = x → vu8 st = vu8 x := fun x e => by rw [e]
  rcases hst with rfl | rfl | rfl
  · refine acalls_of_aw Try.func68 rfl (Nat.le_of_ble_eq_true rfl) ?_; refine aw_post ?_
    (repeat' (first | (refine ar_isq ?_; first | refine zmv ?_ | (refine is_load ?_; first | refine zlp ?_ | refine zlr ?_) | refine zadd ?_ | (refine is_fieldAddr ?_; first | refine zfp ?_ | refine zfr ?_) | (refine is_indexAddr ?_; first | refine zil ?_ | refine zis ?_ | refine zit ?_ | refine zia ?_ | refine zir ?_ | (refine zxl ?_; intro _ _ _) | (refine zxs ?_; intro _ _ _)) | refine zncp ?_ | refine zncr ?_) | (refine ar_lookupT ?_ (ty rfl) rfl (ty rfl) rfl (ty rfl) rfl rfl rfl rfl (dc rfl)) | (refine ar_q (qs_iaddr_aptr (j := 0) (ty rfl) rfl (ty rfl) rfl rfl rfl (dc rfl)) (dc rfl) ?_) | (refine ar_mapUpdate (e := Tal.enc) (v := ⟨(talAt m n).a + k, (talAt m n).b, (talAt m n).c⟩) (ty rfl) rfl (ty rfl) rfl rfl rfl rfl rfl ?_) | (refine zal ?_) | (refine zsvs ?_) | (refine zsva ?_) | (refine zses ?_) | (refine zsea ?_) | (refine ar_nil ?_) | (refine aw_seq ?_) | (refine aw_skip ?_) | (refine aw_block ?_) | (refine aw_exit ?_) | (refine aw_region ?_) | (refine aw_drawn (id := 2) [(0, 0), (1, 0), (2, 0), (3, 0), (4, 0), (5, 0), (6, 2)] mixed (by kernel_rfl) ?_) | (refine zco ?_ ?_ <;> intro hg <;> first | exact absurd hg (by decide) | ((try replace hg := HG.out hg); (try dsimp only at hg); (try (have _h : True := hg; clear _h hg)); first | (exfalso; omega) | skip))))
    (refine subq_n [] [.arr 11 1 (fun _ => shoV 1 2 3 4 5 6 7 8 h), LB 5 Itm.enc h.store.items, LB 2 Prt.enc h.store.prints, LB 7 Dsn.enc h.designs, LB 4 Lic.enc h.lics, LB 4 Ordr.enc h.orders, LB 1 vi h.made, LB 1 vi h.fors, mapE Tal.enc (putE m n ((talAt m n).bump 0 k))] ?_ ?_; (focus ((refine sub_to [some 0, some 1, some 2, some 3, some 4, some 5, some 6, some 7, some 8] [] rfl ?_ ?_ <;> (repeat' (first | exact trivial | refine ⟨⟨_, rfl, ?_⟩, ?_⟩ | refine ⟨bsub_snoc rfl rfl (fun _ => rfl) ?_, ?_⟩ | refine ⟨bsub_one rfl rfl ?_, ?_⟩ | refine ⟨bsub_all rfl rfl (fun _ _ => rfl) (fun _ => rfl), ?_⟩ | refine ⟨bsub_updL rfl rfl ?_ (fun _ _ _ => rfl) (fun _ => rfl), ?_⟩ | refine ⟨.inl ⟨_, _, rfl, rfl, ?_⟩, ?_⟩ | exact ⟨.inr ⟨rfl, rfl⟩, trivial⟩ | refine ⟨.inr ⟨rfl, rfl⟩, ?_⟩ | (intro _ _) | exact vz1 | (first | refine ⟨bsub_mapE rfl rfl (fun _ => rfl), ?_⟩ | exact VSub.aggL ⟨.closed rfl, .closed rfl, .closed rfl, .sl rfl, .sl rfl, .sl rfl, .sl rfl, .sl rfl, .sl rfl, .sl rfl, .map rfl, trivial⟩) | exact vz2 | fail))); done)))
    exact bq0n ⟨rfl, rfl⟩
  · refine acalls_of_aw Try.func68 rfl (Nat.le_of_ble_eq_true rfl) ?_; refine aw_post ?_
    (repeat' (first | (refine ar_isq ?_; first | refine zmv ?_ | (refine is_load ?_; first | refine zlp ?_ | refine zlr ?_) | refine zadd ?_ | (refine is_fieldAddr ?_; first | refine zfp ?_ | refine zfr ?_) | (refine is_indexAddr ?_; first | refine zil ?_ | refine zis ?_ | refine zit ?_ | refine zia ?_ | refine zir ?_ | (refine zxl ?_; intro _ _ _) | (refine zxs ?_; intro _ _ _)) | refine zncp ?_ | refine zncr ?_) | (refine ar_lookupT ?_ (ty rfl) rfl (ty rfl) rfl (ty rfl) rfl rfl rfl rfl (dc rfl)) | (refine ar_q (qs_iaddr_aptr (j := 1) (ty rfl) rfl (ty rfl) rfl rfl rfl (dc rfl)) (dc rfl) ?_) | (refine ar_mapUpdate (e := Tal.enc) (v := ⟨(talAt m n).a, (talAt m n).b + k, (talAt m n).c⟩) (ty rfl) rfl (ty rfl) rfl rfl rfl rfl rfl ?_) | (refine zal ?_) | (refine zsvs ?_) | (refine zsva ?_) | (refine zses ?_) | (refine zsea ?_) | (refine ar_nil ?_) | (refine aw_seq ?_) | (refine aw_skip ?_) | (refine aw_block ?_) | (refine aw_exit ?_) | (refine aw_region ?_) | (refine aw_drawn (id := 2) [(0, 0), (1, 0), (2, 0), (3, 0), (4, 0), (5, 0), (6, 2)] mixed (by kernel_rfl) ?_) | (refine zco ?_ ?_ <;> intro hg <;> first | exact absurd hg (by decide) | ((try replace hg := HG.out hg); (try dsimp only at hg); (try (have _h : True := hg; clear _h hg)); first | (exfalso; omega) | skip))))
    (refine subq_n [] [.arr 11 1 (fun _ => shoV 1 2 3 4 5 6 7 8 h), LB 5 Itm.enc h.store.items, LB 2 Prt.enc h.store.prints, LB 7 Dsn.enc h.designs, LB 4 Lic.enc h.lics, LB 4 Ordr.enc h.orders, LB 1 vi h.made, LB 1 vi h.fors, mapE Tal.enc (putE m n ((talAt m n).bump 1 k))] ?_ ?_; (focus ((refine sub_to [some 0, some 1, some 2, some 3, some 4, some 5, some 6, some 7, some 8] [] rfl ?_ ?_ <;> (repeat' (first | exact trivial | refine ⟨⟨_, rfl, ?_⟩, ?_⟩ | refine ⟨bsub_snoc rfl rfl (fun _ => rfl) ?_, ?_⟩ | refine ⟨bsub_one rfl rfl ?_, ?_⟩ | refine ⟨bsub_all rfl rfl (fun _ _ => rfl) (fun _ => rfl), ?_⟩ | refine ⟨bsub_updL rfl rfl ?_ (fun _ _ _ => rfl) (fun _ => rfl), ?_⟩ | refine ⟨.inl ⟨_, _, rfl, rfl, ?_⟩, ?_⟩ | exact ⟨.inr ⟨rfl, rfl⟩, trivial⟩ | refine ⟨.inr ⟨rfl, rfl⟩, ?_⟩ | (intro _ _) | exact vz1 | (first | refine ⟨bsub_mapE rfl rfl (fun _ => rfl), ?_⟩ | exact VSub.aggL ⟨.closed rfl, .closed rfl, .closed rfl, .sl rfl, .sl rfl, .sl rfl, .sl rfl, .sl rfl, .sl rfl, .sl rfl, .map rfl, trivial⟩) | exact vz2 | fail))); done)))
    exact bq0n ⟨rfl, rfl⟩
  · refine acalls_of_aw Try.func68 rfl (Nat.le_of_ble_eq_true rfl) ?_; refine aw_post ?_
    (repeat' (first | (refine ar_isq ?_; first | refine zmv ?_ | (refine is_load ?_; first | refine zlp ?_ | refine zlr ?_) | refine zadd ?_ | (refine is_fieldAddr ?_; first | refine zfp ?_ | refine zfr ?_) | (refine is_indexAddr ?_; first | refine zil ?_ | refine zis ?_ | refine zit ?_ | refine zia ?_ | refine zir ?_ | (refine zxl ?_; intro _ _ _) | (refine zxs ?_; intro _ _ _)) | refine zncp ?_ | refine zncr ?_) | (refine ar_lookupT ?_ (ty rfl) rfl (ty rfl) rfl (ty rfl) rfl rfl rfl rfl (dc rfl)) | (refine ar_q (qs_iaddr_aptr (j := 2) (ty rfl) rfl (ty rfl) rfl rfl rfl (dc rfl)) (dc rfl) ?_) | (refine ar_mapUpdate (e := Tal.enc) (v := ⟨(talAt m n).a, (talAt m n).b, (talAt m n).c + k⟩) (ty rfl) rfl (ty rfl) rfl rfl rfl rfl rfl ?_) | (refine zal ?_) | (refine zsvs ?_) | (refine zsva ?_) | (refine zses ?_) | (refine zsea ?_) | (refine ar_nil ?_) | (refine aw_seq ?_) | (refine aw_skip ?_) | (refine aw_block ?_) | (refine aw_exit ?_) | (refine aw_region ?_) | (refine aw_drawn (id := 2) [(0, 0), (1, 0), (2, 0), (3, 0), (4, 0), (5, 0), (6, 2)] mixed (by kernel_rfl) ?_) | (refine zco ?_ ?_ <;> intro hg <;> first | exact absurd hg (by decide) | ((try replace hg := HG.out hg); (try dsimp only at hg); (try (have _h : True := hg; clear _h hg)); first | (exfalso; omega) | skip))))
    (refine subq_n [] [.arr 11 1 (fun _ => shoV 1 2 3 4 5 6 7 8 h), LB 5 Itm.enc h.store.items, LB 2 Prt.enc h.store.prints, LB 7 Dsn.enc h.designs, LB 4 Lic.enc h.lics, LB 4 Ordr.enc h.orders, LB 1 vi h.made, LB 1 vi h.fors, mapE Tal.enc (putE m n ((talAt m n).bump 2 k))] ?_ ?_; (focus ((refine sub_to [some 0, some 1, some 2, some 3, some 4, some 5, some 6, some 7, some 8] [] rfl ?_ ?_ <;> (repeat' (first | exact trivial | refine ⟨⟨_, rfl, ?_⟩, ?_⟩ | refine ⟨bsub_snoc rfl rfl (fun _ => rfl) ?_, ?_⟩ | refine ⟨bsub_one rfl rfl ?_, ?_⟩ | refine ⟨bsub_all rfl rfl (fun _ _ => rfl) (fun _ => rfl), ?_⟩ | refine ⟨bsub_updL rfl rfl ?_ (fun _ _ _ => rfl) (fun _ => rfl), ?_⟩ | refine ⟨.inl ⟨_, _, rfl, rfl, ?_⟩, ?_⟩ | exact ⟨.inr ⟨rfl, rfl⟩, trivial⟩ | refine ⟨.inr ⟨rfl, rfl⟩, ?_⟩ | (intro _ _) | exact vz1 | (first | refine ⟨bsub_mapE rfl rfl (fun _ => rfl), ?_⟩ | exact VSub.aggL ⟨.closed rfl, .closed rfl, .closed rfl, .sl rfl, .sl rfl, .sl rfl, .sl rfl, .sl rfl, .sl rfl, .sl rfl, .map rfl, trivial⟩) | exact vz2 | fail))); done)))
    exact bq0n ⟨rfl, rfl⟩
section
variable {r : Option Nat} {mm nt i dd : Nat} {Q : Post} {env : Env} {H : Heap} {ops : Array Oper} {L : List Stp} {ty : TypeId} {pos : String} {after : Array Edge} {ats : Array TypeId} {p a b c d e f g q : Nat}
theorem join_sho {h : Hse} {m m' : List (Int × Tal)} (hA : ShoAt H p a b c d e f g q h m) (hn : [p, a, b, c, d, e, f, g, q].Nodup) : joinH [p, a, b, c, d, e, f, g, q] [] H (shoB h m') = H.set q (mapE Tal.enc m') := by
  have hq : q < H.length := (List.getElem?_eq_some_iff.1 hA.q).1
  have other : ∀ {k : Nat} {x : Blk}, k ≠ q → H[k]? = some x → (H.set q (mapE Tal.enc m'))[k]? = some x := fun {k x} hk hx => by rw [List.getElem?_set_ne (Ne.symm hk)]; exact hx
  simp only [List.nodup_cons, List.mem_cons, not_or, List.not_mem_nil] at hn
  obtain ⟨⟨_, _, _, _, _, _, _, pq, _⟩, ⟨_, _, _, _, _, _, aq, _⟩, ⟨_, _, _, _, _, bq, _⟩, ⟨_, _, _, _, cq, _⟩, ⟨_, _, _, dq, _⟩, ⟨_, _, eq, _⟩, ⟨_, fq, _⟩, ⟨gq, _⟩, _⟩ := hn
  have hs : SameAt (H.set q (mapE Tal.enc m')) (rn [p, a, b, c, d, e, f, g, q] H.length) [p, a, b, c, d, e, f, g, q] (shoB h m') :=
    ⟨other pq hA.p, other aq hA.a, other bq hA.b, other cq hA.c, other dq hA.d, other eq hA.e, other fq hA.f, other gq hA.g, by rw [mapE_renE fun _ => rfl]; simp [hq], trivial⟩
  obtain ⟨hl, hs'⟩ := sameAt_get hs
  have := joinH_is (L := []) hl (List.length_set ..) (fun k hk => by
    by_cases e : k = q
    · subst e
      exact (idxOf_none hk (by simp)).elim
    · rw [List.getElem?_set_ne (Ne.symm e)]) hs'
  simpa using this
theorem ar_count (h : Hse) (m : List (Int × Tal)) {n st k : Int} {ox oy oz ou : Operand} (hst : st = 0 ∨ st = 1 ∨ st = 2) (hs : (talAt m n).small) (hk : -1000 ≤ k ∧ k ≤ 1000) (hnx : AR Try.prog r mm nt ops Q L ((dd, .tup []) :: env) (H.set q (mapE Tal.enc (putE m n ((talAt m n).bump st k)))))
    (hargs : [ox, oy, oz, ou].mapM (eo env) = some [.ptr 11 p 0 0, vi n, vu8 st, vi k] := by exact rfl) (hA : ShoAt H p a b c d e f g q h m := by exact {}) (hd : dd < nt := by exact dc rfl) (hn : [p, a, b, c, d, e, f, g, q].Nodup := by decide) :
    AR Try.prog r mm nt ops Q (.l i ⟨some dd, .call ⟨.value (.func 68), #[ox, oy, oz, ou], ats⟩, ty, pos, after, none⟩ false :: L) env H := by
  refine ar_gcall (H0 := shoB h m) [p, a, b, c, d, e, f, g, q] [] (args := [ox, oy, oz, ou]) (first := []) (cap := []) fn68 rfl hargs (xs := [.ptr 11 0 0 0, vi n, vu8 st, vi k]) ⟨.ptr rfl, .closed rfl, .closed rfl, .closed rfl, trivial⟩ rfl hn (fun _ h => by cases h) hA.hsub shoB_live (count_p h m n st k hst hs hk) hd ?_ (fun _ _ h => h.elim)
  rintro _ _ ⟨rfl, rfl⟩
  rw [join_sho hA hn]
  exact hnx
end
end Go.Proofs.Ytbilpbabdgfblaa
namespace Go.Proofs.Ytbilpbabdgfblaa
open Go.RowKit
theorem vsub_to {α : Type} [Inhabited α] {H : Heap} {σ : List (Option Nat)} {fr : Nat → Prop} {k i : Nat} {e : α → V} {L : List α} {g : Nat → V} (hik : i < k + 1) (hv : g 0 = e (el L k)) (hc : ∀ y, (e y).closed = true) : VSub H σ fr (appF k (fun i => e (el L i)) g i) (e (el L i)) := by
  by_cases h : i < k
  · rw [appF_lt h]; exact .closed (hc _)
  · obtain rfl : i = k := by omega
    rw [appF_ge (Nat.le_refl _), Nat.sub_self, hv]
    exact .closed (hc _)
def opH (h : Hse) (k : Nat) : V := .agg [vi h.per, vi h.day, vi h.store.life, .sl 5 3 0 h.store.items.length, .sl 2 4 0 h.store.prints.length, .sl 7 5 0 k, encLics h.lics, encOrders h.orders, encInts h.made, encInts h.fors, .map 1]
set_option maxHeartbeats 4000000 in
theorem hopen_p (h : Hse) (hs : HSmall h) : ACalls Try.prog 35 [h.enc] [] (fun v H => v = .ptr 11 0 0 0 ∧ H = shoB h []) NoP := by
  have hs0 := hs
  unfold HSmall at hs
  obtain ⟨s1, s2, s3, s4, s5, s6, s7, s8⟩ := hs
  refine acalls_of_aw Try.func35 rfl (Nat.le_of_ble_eq_true rfl) ?_
  (repeat' (first | (refine ar_isq ?_; first | refine zmv ?_ | refine zas ?_ | (refine is_load ?_; first | refine zlp ?_ | refine zlr ?_) | (refine is_binOp ?_; first | refine zlss ?_ | refine zadd ?_) | (refine is_fieldAddr ?_; first | refine zfp ?_ | refine zfr ?_) | (refine is_indexAddr ?_; first | refine zil ?_ | refine zis ?_ | refine zit ?_ | refine zia ?_ | refine zir ?_ | (refine zxl ?_; intro _ _ _) | (refine zxs ?_; intro _ _ _)) | (refine is_call ?_; first | refine zll ?_ | refine zls ?_ | refine zln ?_ | refine zle ?_) | refine zncp ?_ | refine zncr ?_ | (refine ar_buildT ?_ (by exact ty rfl) (by exact rfl) (by exact sizes rfl) (by exact rfl) (by exact rfl) (by exact build rfl) (by exact dc rfl); intro _ hds; (try dsimp only [List.toList_toArray, cells_s, cells_emp, cells_agg, cells_list, cells_sl, cells_ptr, cells_ref, cells_fn, cells_vi, cells_vb, cells_vnil, constV, List.map_cons, List.map_nil, List.take_succ_cons, List.take_zero, List.drop_succ_cons, List.drop_zero, List.cons_append, List.nil_append, List.append_nil, LV_cells] at hds); (try dsimp only [cells_s, cells_emp, cells_agg, cells_list, cells_sl, cells_ptr, cells_ref, cells_fn, cells_vi, cells_vb, cells_vnil, constV, List.map_cons, List.map_nil, List.take_succ_cons, List.take_zero, List.drop_succ_cons, List.drop_zero, List.cons_append, List.nil_append, List.append_nil, LV_cells] at hds); subst hds)) | (refine ar_makeMap (dc rfl) ?_) | (refine ar_fcall fn55 rfl rfl (.cons (.closed rfl) .nil) (cloneI_p h.store.items (by omega)) (dc rfl) ?_; rintro n0 g0 ⟨rfl, hg0⟩) | (refine ar_fcall fn56 rfl rfl (.cons (.closed rfl) .nil) (cloneP_p h.store.prints (by omega)) (dc rfl) ?_; rintro n1 g1 ⟨rfl, hg1⟩) | (refine zbx ?_) | (refine zal ?_) | (refine zb1 ?_) | (refine zb0 ?_) | (refine zapoo ?_) | (refine zapol ?_) | (refine zapno ?_) | (refine zapnl ?_) | (refine zapeo ?_) | (refine zapel ?_) | (refine zsvs ?_) | (refine zsva ?_) | (refine zses ?_) | (refine zsea ?_) | (refine ar_nil ?_) | (refine aw_seq ?_) | (refine aw_skip ?_) | (refine aw_block ?_) | (refine aw_exit ?_) | (refine aw_region ?_) | (refine aw_drawn (id := 2) [(0, 0), (1, 0), (2, 0), (3, 0), (4, 0), (6, 0), (7, 0), (8, 0), (5, 1), (9, 1), (10, 0), (11, 0), (12, 0), (13, 0), (14, 2), (15, 0), (16, 0), (17, 0), (18, 0), (19, 2)] mixed (by kernel_rfl) ?_) | (refine aw_drawn (id := 7) [(0, 0), (1, 0), (2, 0), (3, 0), (4, 0), (5, 0), (6, 0), (7, 1), (8, 1), (9, 1), (10, 0), (11, 0), (12, 0), (13, 2)] mixed (by kernel_rfl) ?_) | (refine aw_drawn (id := 9) [(0, 0), (1, 0), (2, 0), (3, 0), (5, 0), (6, 0), (4, 1), (7, 1), (8, 0), (9, 0), (10, 0), (11, 2), (12, 0), (13, 0), (14, 0), (15, 2)] mixed (by kernel_rfl) ?_) | (refine aw_drawn (id := 10) [(0, 0), (1, 0), (2, 0), (3, 0), (5, 0), (6, 0), (4, 1), (7, 1), (8, 0), (9, 0), (10, 0), (11, 2), (12, 0), (13, 0), (14, 0), (15, 2)] mixed (by kernel_rfl) ?_) | (refine zco ?_ ?_ <;> intro hg <;> first | exact absurd hg (by decide) | ((try replace hg := HG.out hg); (try dsimp only at hg); (try (have _h : True := hg; clear _h hg)); first | (exfalso; omega) | skip))))
  refine aw_for h.designs.length (fun _ => True) (fun k => [(1, .ptr 10 0 0 0), (3, .ptr 11 2 0 0), (33, encDsns h.designs), (34, vi h.designs.length), (35, vi k)]) (fun k => [.arr 10 1 (fun _ => h.enc), mapE Tal.enc [], .arr 11 1 (fun _ => opH h k), LB 5 Itm.enc h.store.items, LB 2 Prt.enc h.store.prints, .arr 7 k (fun i => Dsn.enc (el h.designs i))]) trivial ?_ ?_
  · (refine sub_to [some 0, some 1, some 2, some 3, some 4, none] [] rfl ?_ ?_ <;> (repeat' (first | exact trivial | refine ⟨⟨_, rfl, ?_⟩, ?_⟩ | refine ⟨bsub_snoc rfl rfl (fun _ => rfl) ?_, ?_⟩ | refine ⟨bsub_one rfl rfl ?_, ?_⟩ | refine ⟨bsub_all rfl rfl (fun _ _ => rfl) (fun _ => rfl), ?_⟩ | refine ⟨bsub_updL rfl rfl ?_ (fun _ _ _ => rfl) (fun _ => rfl), ?_⟩ | refine ⟨.inl ⟨_, _, rfl, rfl, ?_⟩, ?_⟩ | exact ⟨.inr ⟨rfl, rfl⟩, trivial⟩ | refine ⟨.inr ⟨rfl, rfl⟩, ?_⟩ | (intro _ _) | exact vz1 | (first | exact VSub.of_eq (hg0 _ (by assumption)) rfl | exact VSub.of_eq (hg1 _ (by assumption)) rfl | refine ⟨bsub_mapE rfl rfl (fun _ => rfl), ?_⟩ | exact VSub.aggL ⟨.closed rfl, .closed rfl, .closed rfl, .sl rfl, .sl rfl, .nil rfl, .closed rfl, .closed rfl, .closed rfl, .closed rfl, .map rfl, trivial⟩) | exact vz2 | fail)))
  clear hg0 hg1 g0 g1
  intro k hk _
  by_cases hlt : k < h.designs.length
  · have hsm := s8 _ (el_mem hlt)
    (repeat' (first | (refine ar_isq ?_; first | refine zmv ?_ | refine zas ?_ | (refine is_load ?_; first | refine zlp ?_ | refine zlr ?_) | (refine is_binOp ?_; first | refine zlss ?_ | refine zadd ?_) | (refine is_fieldAddr ?_; first | refine zfp ?_ | refine zfr ?_) | (refine is_indexAddr ?_; first | refine zil ?_ | refine zis ?_ | refine zit ?_ | refine zia ?_ | refine zir ?_ | refine zil (j := k) ?_ | refine zis (j := k) ?_ | refine zit (j := k) ?_ | (refine zxl ?_; intro _ _ _) | (refine zxs ?_; intro _ _ _)) | (refine is_call ?_; first | refine zll ?_ | refine zls ?_ | refine zln ?_ | refine zle ?_) | refine zncp ?_ | refine zncr ?_ | (refine ar_buildT ?_ (by exact ty rfl) (by exact rfl) (by exact sizes rfl) (by exact rfl) (by exact rfl) (by exact build rfl) (by exact dc rfl); intro _ hds; (try dsimp only [List.toList_toArray, cells_s, cells_emp, cells_agg, cells_list, cells_sl, cells_ptr, cells_ref, cells_fn, cells_vi, cells_vb, cells_vnil, constV, List.map_cons, List.map_nil, List.take_succ_cons, List.take_zero, List.drop_succ_cons, List.drop_zero, List.cons_append, List.nil_append, List.append_nil, LV_cells] at hds); (try dsimp only [cells_s, cells_emp, cells_agg, cells_list, cells_sl, cells_ptr, cells_ref, cells_fn, cells_vi, cells_vb, cells_vnil, constV, List.map_cons, List.map_nil, List.take_succ_cons, List.take_zero, List.drop_succ_cons, List.drop_zero, List.cons_append, List.nil_append, List.append_nil, LV_cells] at hds); subst hds)) | (refine ar_pcall (own := false) fn57 rfl rfl (.cons (.closed rfl) .nil) (htwin_p (el h.designs k) hsm) (by simp) (dc rfl) ?_; intro _ hv; subst hv) | (refine zbx ?_) | (refine zal ?_) | (refine zb1 ?_) | (refine zb0 ?_) | (refine zapoo ?_) | (refine zapol ?_) | (refine zapno ?_) | (refine zapnl ?_) | (refine zapeo ?_) | (refine zapel ?_) | (refine zsvs ?_) | (refine zsva ?_) | (refine zses ?_) | (refine zsea ?_) | (refine ar_nil ?_) | (refine aw_seq ?_) | (refine aw_skip ?_) | (refine aw_block ?_) | (refine aw_exit ?_) | (refine aw_region ?_) | (refine aw_drawn (id := 2) [(0, 0), (1, 0), (2, 0), (3, 0), (4, 0), (6, 0), (7, 0), (8, 0), (5, 1), (9, 1), (10, 0), (11, 0), (12, 0), (13, 0), (14, 2), (15, 0), (16, 0), (17, 0), (18, 0), (19, 2)] mixed (by kernel_rfl) ?_) | (refine aw_drawn (id := 7) [(0, 0), (1, 0), (2, 0), (3, 0), (4, 0), (5, 0), (6, 0), (7, 1), (8, 1), (9, 1), (10, 0), (11, 0), (12, 0), (13, 2)] mixed (by kernel_rfl) ?_) | (refine aw_drawn (id := 9) [(0, 0), (1, 0), (2, 0), (3, 0), (5, 0), (6, 0), (4, 1), (7, 1), (8, 0), (9, 0), (10, 0), (11, 2), (12, 0), (13, 0), (14, 0), (15, 2)] mixed (by kernel_rfl) ?_) | (refine aw_drawn (id := 10) [(0, 0), (1, 0), (2, 0), (3, 0), (5, 0), (6, 0), (4, 1), (7, 1), (8, 0), (9, 0), (10, 0), (11, 2), (12, 0), (13, 0), (14, 0), (15, 2)] mixed (by kernel_rfl) ?_) | (refine zco ?_ ?_ <;> intro hg <;> first | exact absurd hg (by decide) | ((try replace hg := HG.out hg); (try dsimp only at hg); (try (have _h : True := hg; clear _h hg)); first | (exfalso; omega) | skip))))
    all_goals first
      | (exfalso; omega)
      | ((first | refine loop_next (by omega) ?_ ?_ | refine (show _ ∧ _ ∧ SubOf _ _ _ _ _ _ from And.intro (by omega) (And.intro ?_ ?_))); (focus ((exact trivial); done)); (focus ((refine sub_to [some 0, some 1, some 2, some 3, some 4, some 8] [] rfl ?_ ?_ <;> (repeat' (first | exact trivial | refine ⟨⟨_, rfl, ?_⟩, ?_⟩ | refine ⟨bsub_snoc rfl rfl (fun _ => rfl) ?_, ?_⟩ | refine ⟨bsub_one rfl rfl ?_, ?_⟩ | refine ⟨bsub_all rfl rfl (fun _ _ => rfl) (fun _ => rfl), ?_⟩ | refine ⟨bsub_updL rfl rfl ?_ (fun _ _ _ => rfl) (fun _ => rfl), ?_⟩ | refine ⟨.inl ⟨_, _, rfl, rfl, ?_⟩, ?_⟩ | exact ⟨.inr ⟨rfl, rfl⟩, trivial⟩ | refine ⟨.inr ⟨rfl, rfl⟩, ?_⟩ | (intro _ _) | exact vz1 | (first | exact vsub_to (e := Dsn.enc) (by assumption) rfl (fun _ => rfl) | refine ⟨bsub_mapE rfl rfl (fun _ => rfl), ?_⟩ | exact VSub.aggL ⟨.closed rfl, .closed rfl, .closed rfl, .sl rfl, .sl rfl, .sl rfl, .closed rfl, .closed rfl, .closed rfl, .closed rfl, .map rfl, trivial⟩) | exact vz2 | fail))); done)))
      | trace_state
  · obtain rfl : k = h.designs.length := by omega
    (repeat' (first | (refine ar_isq ?_; first | refine zmv ?_ | refine zas ?_ | (refine is_load ?_; first | refine zlp ?_ | refine zlr ?_) | (refine is_binOp ?_; first | refine zlss ?_ | refine zadd ?_) | (refine is_fieldAddr ?_; first | refine zfp ?_ | refine zfr ?_) | (refine is_indexAddr ?_; first | refine zil ?_ | refine zis ?_ | refine zit ?_ | refine zia ?_ | refine zir ?_ | (refine zxl ?_; intro _ _ _) | (refine zxs ?_; intro _ _ _)) | (refine is_call ?_; first | refine zll ?_ | refine zls ?_ | refine zln ?_ | refine zle ?_) | refine zncp ?_ | refine zncr ?_ | (refine ar_buildT ?_ (by exact ty rfl) (by exact rfl) (by exact sizes rfl) (by exact rfl) (by exact rfl) (by exact build rfl) (by exact dc rfl); intro _ hds; (try dsimp only [List.toList_toArray, cells_s, cells_emp, cells_agg, cells_list, cells_sl, cells_ptr, cells_ref, cells_fn, cells_vi, cells_vb, cells_vnil, constV, List.map_cons, List.map_nil, List.take_succ_cons, List.take_zero, List.drop_succ_cons, List.drop_zero, List.cons_append, List.nil_append, List.append_nil, LV_cells] at hds); (try dsimp only [cells_s, cells_emp, cells_agg, cells_list, cells_sl, cells_ptr, cells_ref, cells_fn, cells_vi, cells_vb, cells_vnil, constV, List.map_cons, List.map_nil, List.take_succ_cons, List.take_zero, List.drop_succ_cons, List.drop_zero, List.cons_append, List.nil_append, List.append_nil, LV_cells] at hds); subst hds)) | (refine ar_fcall fn58 rfl rfl (.cons (.closed rfl) .nil) (cloneC_p h.lics (by omega)) (dc rfl) ?_; rintro n2 g2 ⟨rfl, hg2⟩) | (refine ar_fcall fn59 rfl rfl (.cons (.closed rfl) .nil) (cloneO_p h.orders (by omega)) (dc rfl) ?_; rintro n3 g3 ⟨rfl, hg3⟩) | (refine ar_fcall fn60 rfl rfl (.cons (.closed rfl) .nil) (clone_p h.made (by omega)) (dc rfl) ?_; rintro n4 g4 ⟨rfl, hg4⟩) | (refine ar_fcall fn60 rfl rfl (.cons (.closed rfl) .nil) (clone_p h.fors (by omega)) (dc rfl) ?_; rintro n5 g5 ⟨rfl, hg5⟩) | (refine zbx ?_) | (refine zal ?_) | (refine zb1 ?_) | (refine zb0 ?_) | (refine zapoo ?_) | (refine zapol ?_) | (refine zapno ?_) | (refine zapnl ?_) | (refine zapeo ?_) | (refine zapel ?_) | (refine zsvs ?_) | (refine zsva ?_) | (refine zses ?_) | (refine zsea ?_) | (refine ar_nil ?_) | (refine aw_seq ?_) | (refine aw_skip ?_) | (refine aw_block ?_) | (refine aw_exit ?_) | (refine aw_region ?_) | (refine aw_drawn (id := 2) [(0, 0), (1, 0), (2, 0), (3, 0), (4, 0), (6, 0), (7, 0), (8, 0), (5, 1), (9, 1), (10, 0), (11, 0), (12, 0), (13, 0), (14, 2), (15, 0), (16, 0), (17, 0), (18, 0), (19, 2)] mixed (by kernel_rfl) ?_) | (refine aw_drawn (id := 7) [(0, 0), (1, 0), (2, 0), (3, 0), (4, 0), (5, 0), (6, 0), (7, 1), (8, 1), (9, 1), (10, 0), (11, 0), (12, 0), (13, 2)] mixed (by kernel_rfl) ?_) | (refine aw_drawn (id := 9) [(0, 0), (1, 0), (2, 0), (3, 0), (5, 0), (6, 0), (4, 1), (7, 1), (8, 0), (9, 0), (10, 0), (11, 2), (12, 0), (13, 0), (14, 0), (15, 2)] mixed (by kernel_rfl) ?_) | (refine aw_drawn (id := 10) [(0, 0), (1, 0), (2, 0), (3, 0), (5, 0), (6, 0), (4, 1), (7, 1), (8, 0), (9, 0), (10, 0), (11, 2), (12, 0), (13, 0), (14, 0), (15, 2)] mixed (by kernel_rfl) ?_) | (refine zco ?_ ?_ <;> intro hg <;> first | exact absurd hg (by decide) | ((try replace hg := HG.out hg); (try dsimp only at hg); (try (have _h : True := hg; clear _h hg)); first | (exfalso; omega) | skip))))
    all_goals first
      | (exfalso; omega)
      | ((refine aw_mono_r (env' := [(2, .ptr 11 0 0 0)]) (H' := [.arr 11 1 (fun _ => shoV 1 2 3 4 5 6 7 8 h), LB 5 Itm.enc h.store.items, LB 2 Prt.enc h.store.prints, LB 7 Dsn.enc h.designs, LB 4 Lic.enc h.lics, LB 4 Ordr.enc h.orders, LB 1 vi h.made, LB 1 vi h.fors, mapE Tal.enc []]) ?_ ?_; (focus ((refine sub_to [some 2, some 3, some 4, some 5, some 6, some 7, some 8, some 9, some 1] [] rfl ?_ ?_ <;> (repeat' (first | exact trivial | refine ⟨⟨_, rfl, ?_⟩, ?_⟩ | refine ⟨bsub_snoc rfl rfl (fun _ => rfl) ?_, ?_⟩ | refine ⟨bsub_one rfl rfl ?_, ?_⟩ | refine ⟨bsub_all rfl rfl (fun _ _ => rfl) (fun _ => rfl), ?_⟩ | refine ⟨bsub_updL rfl rfl ?_ (fun _ _ _ => rfl) (fun _ => rfl), ?_⟩ | refine ⟨.inl ⟨_, _, rfl, rfl, ?_⟩, ?_⟩ | exact ⟨.inr ⟨rfl, rfl⟩, trivial⟩ | refine ⟨.inr ⟨rfl, rfl⟩, ?_⟩ | (intro _ _) | exact vz1 | (first | exact VSub.of_eq (hg2 _ (by assumption)) rfl | exact VSub.of_eq (hg3 _ (by assumption)) rfl | exact VSub.of_eq (hg4 _ (by assumption)) rfl | exact VSub.of_eq (hg5 _ (by assumption)) rfl | refine ⟨bsub_mapE rfl rfl (fun _ => rfl), ?_⟩ | exact VSub.aggL ⟨.closed rfl, .closed rfl, .closed rfl, .sl rfl, .sl rfl, .sl rfl, .sl rfl, .sl rfl, .sl rfl, .sl rfl, .map rfl, trivial⟩) | exact vz2 | fail))); done)))
         refine aw_ret ?_
         exact bq1 rfl ⟨rfl, rfl⟩)
      | trace_state
end Go.Proofs.Ytbilpbabdgfblaa
namespace Go.Proofs.Ytbilpbabdgfblaa
open Go.RowKit
def MadeOk (h : Hse) : Prop := h.made.length = h.store.items.length ∧ ∀ i, i < h.store.items.length → MadeAt h i
set_option maxHeartbeats 4000000 in
theorem hmade_p (h : Hse) (hs : HSmall h) (hV : Valid h.store) : PCalls Try.prog 38 [.ref h.enc 0] (fun v => ∃ b : Bool, v = vb b ∧ (b = true ↔ MadeOk h)) := by
  have hs0 := hs
  unfold HSmall at hs
  refine pcalls_of_aw Try.func38 rfl (Nat.le_of_ble_eq_true rfl) ?_
  (repeat' (first | (refine ar_isq ?_; first | refine zmv ?_ | refine zas ?_ | (refine is_load ?_; first | refine zlp ?_ | refine zlr ?_) | (refine is_binOp ?_; first | refine zlss ?_ | refine zgtr ?_ | refine zeql ?_ | refine zneq ?_ | refine zadd ?_) | (refine is_fieldAddr ?_; first | refine zfp ?_ | refine zfr ?_) | (refine is_indexAddr ?_; first | refine zil ?_ | refine zis ?_ | refine zit ?_ | refine zia ?_ | refine zir ?_ | (refine zxl ?_; intro _ _ _) | (refine zxs ?_; intro _ _ _)) | (refine is_call ?_; first | refine zll ?_ | refine zls ?_ | refine zln ?_ | refine zle ?_) | (refine is_pick ?_; first | refine zpt ?_ | refine zpf ?_) | refine znt ?_ | refine zncp ?_ | refine zncr ?_) | (refine zal ?_) | (refine zsvs ?_) | (refine zsva ?_) | (refine zses ?_) | (refine zsea ?_) | (refine zg ?_ ?_ <;> intro hg <;> first | exact absurd hg (by decide) | ((try replace hg := HG.out hg); (try dsimp only at hg); (try rw [inD_iff] at hg); (try (have _h : True := hg; clear _h hg)); first | (exfalso; omega) | skip)) | (refine zgu ?_) | (refine ar_nil ?_) | (refine aw_seq ?_) | (refine aw_skip ?_) | (refine aw_block ?_) | (refine aw_exit ?_) | (refine aw_region ?_) | (refine aw_drawn (id := 1) [(0, 0), (1, 0), (2, 0), (3, 0), (4, 0), (5, 0), (6, 0), (7, 0), (8, 0), (9, 0), (10, 0), (11, 0), (12, 0), (13, 0)] mixed (by kernel_rfl) ?_) | (refine aw_drawn (id := 6) [(0, 0), (1, 0), (2, 0), (3, 0), (4, 0), (5, 0), (6, 0), (7, 0), (8, 0), (9, 1), (10, 0), (11, 0), (12, 0), (13, 0), (14, 0), (15, 0), (16, 0), (17, 0), (18, 0), (19, 0), (20, 0), (21, 0), (22, 0), (23, 0), (24, 0), (25, 0), (26, 0), (27, 0), (28, 0), (29, 0), (30, 0), (31, 0), (32, 0), (33, 0), (34, 0), (35, 0), (36, 0), (37, 0), (38, 0), (39, 0), (40, 0), (41, 0), (42, 0), (43, 0), (44, 0), (45, 0), (46, 0), (47, 0), (48, 0), (49, 0), (50, 0), (51, 0), (52, 1), (53, 0), (54, 0), (55, 0)] mixed (by kernel_rfl) ?_) | (refine zco ?_ ?_ <;> intro hg <;> first | exact absurd hg (by decide) | ((try replace hg := HG.out hg); (try dsimp only at hg); (try rw [inD_iff] at hg); (try (have _h : True := hg; clear _h hg)); first | (exfalso; omega) | skip))))
  · (refine aw_ret ?_; (repeat (first | refine ret_then ?_ | refine ret_block ?_)); refine bq1 rfl ⟨?_, rfl⟩)
    exact ⟨false, rfl, ⟨fun h => (by cases h), fun hM => by have := hM.1; omega⟩⟩
  · refine aw_for h.store.items.length (fun k => ∀ j, j < k → MadeAt h j) (fun k => [(0, .ref h.enc 0), (24, encItems h.store.items), (25, vi h.store.items.length), (26, vi k)]) (fun _ => []) (fun j hj => by omega) ?_ ?_
    · (refine sub_to [] [] rfl ?_ ?_ <;> (repeat' (first | exact trivial | refine ⟨⟨_, rfl, ?_⟩, ?_⟩ | refine ⟨bsub_snoc rfl rfl (fun _ => rfl) ?_, ?_⟩ | refine ⟨bsub_one rfl rfl ?_, ?_⟩ | refine ⟨bsub_all rfl rfl (fun _ _ => rfl) (fun _ => rfl), ?_⟩ | refine ⟨bsub_updL rfl rfl ?_ (fun _ _ _ => rfl) (fun _ => rfl), ?_⟩ | refine ⟨.inl ⟨_, _, rfl, rfl, ?_⟩, ?_⟩ | exact ⟨.inr ⟨rfl, rfl⟩, trivial⟩ | refine ⟨.inr ⟨rfl, rfl⟩, ?_⟩ | (intro _ _) | exact vz1 | exact vz2 | fail)))
    intro k hk hJ
    by_cases hlt : k < h.store.items.length
    · have hm := hV.2.1 k hlt
      unfold Made at hm
      (repeat' (first | (refine ar_isq ?_; first | refine zmv ?_ | refine zas ?_ | (refine is_load ?_; first | refine zlp ?_ | refine zlr ?_) | (refine is_binOp ?_; first | refine zlss ?_ | refine zgtr ?_ | refine zeql ?_ | refine zneq ?_ | refine zadd ?_) | (refine is_fieldAddr ?_; first | refine zfp ?_ | refine zfr ?_) | (refine is_indexAddr ?_; first | refine zil ?_ | refine zis ?_ | refine zit ?_ | refine zia ?_ | refine zir ?_ | refine zil (j := k) ?_ | refine zis (j := k) ?_ | refine zit (j := k) ?_ | refine zil (j := (el h.store.items k).src.toNat) ?_ | refine zis (j := (el h.store.items k).src.toNat) ?_ | refine zit (j := (el h.store.items k).src.toNat) ?_ | (refine zxl ?_; intro _ _ _) | (refine zxs ?_; intro _ _ _)) | (refine is_call ?_; first | refine zll ?_ | refine zls ?_ | refine zln ?_ | refine zle ?_) | (refine is_pick ?_; first | refine zpt ?_ | refine zpf ?_) | refine znt ?_ | refine zncp ?_ | refine zncr ?_) | (refine ar_pcall (own := false) fn66 rfl rfl (.cons (.closed rfl) (.cons (.closed rfl) .nil)) (design_p h (el h.made k) hs0) (by simp) (dc rfl) ?_; intro _ hv; subst hv) | (refine ar_pcall (own := false) fn67 rfl rfl (.cons (.closed rfl) (.cons (.closed rfl) .nil)) (allows_p h (el h.made k) (by assumption)) (by simp) (dc rfl) ?_; intro _ hv; subst hv) | (refine zal ?_) | (refine zsvs ?_) | (refine zsva ?_) | (refine zses ?_) | (refine zsea ?_) | (refine zg ?_ ?_ <;> intro hg <;> first | exact absurd hg (by decide) | ((try replace hg := HG.out hg); (try dsimp only at hg); (try rw [inD_iff] at hg); (try (have _h : True := hg; clear _h hg)); first | (exfalso; omega) | skip)) | (refine zgu ?_) | (refine ar_nil ?_) | (refine aw_seq ?_) | (refine aw_skip ?_) | (refine aw_block ?_) | (refine aw_exit ?_) | (refine aw_region ?_) | (refine aw_drawn (id := 1) [(0, 0), (1, 0), (2, 0), (3, 0), (4, 0), (5, 0), (6, 0), (7, 0), (8, 0), (9, 0), (10, 0), (11, 0), (12, 0), (13, 0)] mixed (by kernel_rfl) ?_) | (refine aw_drawn (id := 6) [(0, 0), (1, 0), (2, 0), (3, 0), (4, 0), (5, 0), (6, 0), (7, 0), (8, 0), (9, 1), (10, 0), (11, 0), (12, 0), (13, 0), (14, 0), (15, 0), (16, 0), (17, 0), (18, 0), (19, 0), (20, 0), (21, 0), (22, 0), (23, 0), (24, 0), (25, 0), (26, 0), (27, 0), (28, 0), (29, 0), (30, 0), (31, 0), (32, 0), (33, 0), (34, 0), (35, 0), (36, 0), (37, 0), (38, 0), (39, 0), (40, 0), (41, 0), (42, 0), (43, 0), (44, 0), (45, 0), (46, 0), (47, 0), (48, 0), (49, 0), (50, 0), (51, 0), (52, 1), (53, 0), (54, 0), (55, 0)] mixed (by kernel_rfl) ?_) | (refine zco ?_ ?_ <;> intro hg <;> first | exact absurd hg (by decide) | ((try replace hg := HG.out hg); (try dsimp only at hg); (try rw [inD_iff] at hg); (try (have _h : True := hg; clear _h hg)); first | (exfalso; omega) | skip))))
      all_goals first
        | (exfalso; omega)
        | ((refine aw_mono_r (env' := [(2, vb false)]) (H' := []) ?_ ?_; (focus ((refine sub_to [] [] rfl ?_ ?_ <;> (repeat' (first | exact trivial | refine ⟨⟨_, rfl, ?_⟩, ?_⟩ | refine ⟨bsub_snoc rfl rfl (fun _ => rfl) ?_, ?_⟩ | refine ⟨bsub_one rfl rfl ?_, ?_⟩ | refine ⟨bsub_all rfl rfl (fun _ _ => rfl) (fun _ => rfl), ?_⟩ | refine ⟨bsub_updL rfl rfl ?_ (fun _ _ _ => rfl) (fun _ => rfl), ?_⟩ | refine ⟨.inl ⟨_, _, rfl, rfl, ?_⟩, ?_⟩ | exact ⟨.inr ⟨rfl, rfl⟩, trivial⟩ | refine ⟨.inr ⟨rfl, rfl⟩, ?_⟩ | (intro _ _) | exact vz1 | exact vz2 | fail))); done))); (refine aw_ret ?_; (repeat (first | refine ret_then ?_ | refine ret_block ?_)); refine bq1 rfl ⟨?_, rfl⟩); refine ⟨false, rfl, ⟨fun h => (by cases h), fun hM => ?_⟩⟩; obtain ⟨h1, h2, h3⟩ := hM.2 k hlt; unfold inDesigns at h1; first | omega | (have := h2 (by omega); omega) | (have := h3 (by omega); omega))
        | ((first | refine loop_next (by omega) ?_ ?_ | refine (show _ ∧ _ ∧ SubOf _ _ _ _ _ _ from And.intro (by omega) (And.intro ?_ ?_))); (focus (((refine all_step hJ ⟨?_, fun _ => ?_, fun _ => ?_⟩ <;> first | assumption | omega)); done)); (focus ((refine sub_to [] [] rfl ?_ ?_ <;> (repeat' (first | exact trivial | refine ⟨⟨_, rfl, ?_⟩, ?_⟩ | refine ⟨bsub_snoc rfl rfl (fun _ => rfl) ?_, ?_⟩ | refine ⟨bsub_one rfl rfl ?_, ?_⟩ | refine ⟨bsub_all rfl rfl (fun _ _ => rfl) (fun _ => rfl), ?_⟩ | refine ⟨bsub_updL rfl rfl ?_ (fun _ _ _ => rfl) (fun _ => rfl), ?_⟩ | refine ⟨.inl ⟨_, _, rfl, rfl, ?_⟩, ?_⟩ | exact ⟨.inr ⟨rfl, rfl⟩, trivial⟩ | refine ⟨.inr ⟨rfl, rfl⟩, ?_⟩ | (intro _ _) | exact vz1 | exact vz2 | fail))); done)))
        | trace_state
    · (repeat' (first | (refine ar_isq ?_; first | refine zmv ?_ | refine zas ?_ | (refine is_load ?_; first | refine zlp ?_ | refine zlr ?_) | (refine is_binOp ?_; first | refine zlss ?_ | refine zgtr ?_ | refine zeql ?_ | refine zneq ?_ | refine zadd ?_) | (refine is_fieldAddr ?_; first | refine zfp ?_ | refine zfr ?_) | (refine is_indexAddr ?_; first | refine zil ?_ | refine zis ?_ | refine zit ?_ | refine zia ?_ | refine zir ?_ | (refine zxl ?_; intro _ _ _) | (refine zxs ?_; intro _ _ _)) | (refine is_call ?_; first | refine zll ?_ | refine zls ?_ | refine zln ?_ | refine zle ?_) | (refine is_pick ?_; first | refine zpt ?_ | refine zpf ?_) | refine znt ?_ | refine zncp ?_ | refine zncr ?_) | (refine zal ?_) | (refine zsvs ?_) | (refine zsva ?_) | (refine zses ?_) | (refine zsea ?_) | (refine zg ?_ ?_ <;> intro hg <;> first | exact absurd hg (by decide) | ((try replace hg := HG.out hg); (try dsimp only at hg); (try rw [inD_iff] at hg); (try (have _h : True := hg; clear _h hg)); first | (exfalso; omega) | skip)) | (refine zgu ?_) | (refine ar_nil ?_) | (refine aw_seq ?_) | (refine aw_skip ?_) | (refine aw_block ?_) | (refine aw_exit ?_) | (refine aw_region ?_) | (refine aw_drawn (id := 1) [(0, 0), (1, 0), (2, 0), (3, 0), (4, 0), (5, 0), (6, 0), (7, 0), (8, 0), (9, 0), (10, 0), (11, 0), (12, 0), (13, 0)] mixed (by kernel_rfl) ?_) | (refine aw_drawn (id := 6) [(0, 0), (1, 0), (2, 0), (3, 0), (4, 0), (5, 0), (6, 0), (7, 0), (8, 0), (9, 1), (10, 0), (11, 0), (12, 0), (13, 0), (14, 0), (15, 0), (16, 0), (17, 0), (18, 0), (19, 0), (20, 0), (21, 0), (22, 0), (23, 0), (24, 0), (25, 0), (26, 0), (27, 0), (28, 0), (29, 0), (30, 0), (31, 0), (32, 0), (33, 0), (34, 0), (35, 0), (36, 0), (37, 0), (38, 0), (39, 0), (40, 0), (41, 0), (42, 0), (43, 0), (44, 0), (45, 0), (46, 0), (47, 0), (48, 0), (49, 0), (50, 0), (51, 0), (52, 1), (53, 0), (54, 0), (55, 0)] mixed (by kernel_rfl) ?_) | (refine zco ?_ ?_ <;> intro hg <;> first | exact absurd hg (by decide) | ((try replace hg := HG.out hg); (try dsimp only at hg); (try rw [inD_iff] at hg); (try (have _h : True := hg; clear _h hg)); first | (exfalso; omega) | skip))))
      all_goals first
        | (exfalso; omega)
        | ((refine aw_ret ?_; (repeat (first | refine ret_then ?_ | refine ret_block ?_)); refine bq1 rfl ⟨?_, rfl⟩); exact ⟨true, rfl, ⟨fun _ => ⟨by omega, fun j hj => hJ j (by omega)⟩, fun _ => rfl⟩⟩)
        | trace_state
end Go.Proofs.Ytbilpbabdgfblaa
namespace Go.Proofs.Ytbilpbabdgfblaa
open Go.RowKit
def OrdersOk (h : Hse) : Prop := (h.orders.length ≤ 30 ∧ h.fors.length = h.store.prints.length) ∧ (∀ j, j < h.fors.length → ForAt h j) ∧ ∀ i, i < h.orders.length → OrdAt h i
/-- No state is below nought. -/
def StOk (s : Sto) : Prop := ∀ j, j < s.prints.length → 0 ≤ (el s.prints j).state
def OrderedR (h : Hse) (v : V) (H : Heap) : Prop := (v = vb true ∧ OrdersOk h ∧ ∃ m, TalOk h m ∧ H = shoB h m) ∨ (v = vb false ∧ ¬ OrdersOk h)
theorem tal_small {h : Hse} {k : Nat} (hst : ∀ j, j < k → 0 ≤ (el h.store.prints j).state ∧ (el h.store.prints j).state ≤ 2) (hk : k ≤ 1000) (n : Int) : (talAt (talTo h k) n).small := by
  rw [talTo_at hst]
  have h0 := doneTo_bnd h n 0 k
  have h1 := doneTo_bnd h n 1 k
  have h2 := doneTo_bnd h n 2 k
  refine ⟨?_, ?_, ?_⟩ <;> dsimp only <;> omega
set_option maxHeartbeats 8000000 in
theorem hordered_p (h : Hse) (hs : HSmall h) (hV : Valid h.store) (hM : MadeOk h) (hw : StOk h.store) : ACalls Try.prog 39 [.ptr 11 0 0 0] (shoB h []) (OrderedR h) NoP := by
  have hs0 := hs
  unfold HSmall at hs
  have hml := hM.1
  refine acalls_of_aw Try.func39 rfl (Nat.le_of_ble_eq_true rfl) ?_
  (repeat' (first | (refine ar_isq ?_; first | refine zmv ?_ | refine zas ?_ | (refine is_load ?_; first | refine zlp ?_ | refine zlr ?_) | (refine is_binOp ?_; first | refine zlss ?_ | refine zgtr ?_ | refine zneq ?_ | refine zadd ?_) | (refine is_fieldAddr ?_; first | refine zfp ?_ | refine zfr ?_) | (refine is_indexAddr ?_; first | refine zil ?_ | refine zis ?_ | refine zit ?_ | refine zia ?_ | refine zir ?_ | (refine zxl ?_; intro _ _ _) | (refine zxs ?_; intro _ _ _)) | (refine is_call ?_; first | refine zll ?_ | refine zls ?_ | refine zln ?_ | refine zle ?_) | (refine is_pick ?_; first | refine zpt ?_ | refine zpf ?_) | refine znt ?_ | refine zncp ?_ | refine zncr ?_ | refine zix ?_) | (refine zal ?_) | (refine zb1 ?_) | (refine zb0 ?_) | (refine zsvs ?_) | (refine zsva ?_) | (refine zses ?_) | (refine zsea ?_) | (refine zg ?_ ?_ <;> intro hg <;> first | exact absurd hg (by decide) | ((try replace hg := HG.out hg); (try dsimp only at hg); (try rw [inD_iff] at hg); (try rw [inO_iff] at hg); (try rw [fromB_one] at hg); (try rw [withinB_iff] at hg); (try rw [withinB_no] at hg); (try (have _h : True := hg; clear _h hg)); first | (exfalso; omega) | skip)) | (refine zgu ?_) | (refine ar_nil ?_) | (refine aw_seq ?_) | (refine aw_skip ?_) | (refine aw_block ?_) | (refine aw_exit ?_) | (refine aw_region ?_) | (refine aw_drawn (id := 1) [(0, 0), (1, 0), (2, 0), (3, 0), (4, 0), (5, 0), (6, 0), (7, 0), (8, 0), (9, 0), (10, 0), (11, 0), (12, 0), (13, 0), (14, 0), (15, 0), (16, 0), (17, 0), (18, 0), (19, 0), (20, 0), (21, 0), (22, 0)] mixed (by kernel_rfl) ?_) | (refine aw_drawn (id := 7) [(0, 0), (1, 0), (2, 1), (3, 0), (4, 0), (5, 0), (6, 0), (7, 0), (8, 0), (9, 0), (10, 0), (11, 0), (12, 0), (13, 0), (14, 0), (15, 0), (16, 0), (17, 0), (18, 0), (19, 0), (20, 0), (21, 0), (22, 0), (23, 0), (24, 0)] mixed (by kernel_rfl) ?_) | (refine aw_drawn (id := 7) [(0, 0), (1, 0), (2, 2), (3, 0), (4, 0), (5, 0), (6, 0), (7, 0), (8, 0), (9, 0), (10, 0), (11, 0), (12, 0), (13, 0), (14, 0), (15, 0), (16, 0), (17, 0), (18, 0), (19, 0), (20, 0), (21, 0), (22, 0), (23, 0), (24, 0)] mixed (by kernel_rfl) ?_) | (refine aw_drawn (id := 16) [(0, 0), (1, 0), (2, 0), (3, 0), (4, 0), (5, 0), (6, 0), (7, 0), (8, 0), (9, 0), (10, 0), (11, 0), (12, 0), (13, 0), (14, 0), (15, 0)] mixed (by kernel_rfl) ?_) | (refine zco ?_ ?_ <;> intro hg <;> first | exact absurd hg (by decide) | ((try replace hg := HG.out hg); (try dsimp only at hg); (try rw [inD_iff] at hg); (try rw [inO_iff] at hg); (try rw [fromB_one] at hg); (try rw [withinB_iff] at hg); (try rw [withinB_no] at hg); (try (have _h : True := hg; clear _h hg)); first | (exfalso; omega) | skip))))
  all_goals (try ((refine aw_ret ?_; (repeat (first | refine ret_then ?_ | refine ret_block ?_)); refine bq1 rfl (.inr ⟨rfl, fun hO => ?_⟩)); have := hO.1; omega))
  have hst : ∀ j, j < h.store.prints.length → 0 ≤ (el h.store.prints j).state ∧ (el h.store.prints j).state ≤ 2 := fun j hj => by have := hV.2.2.2.1 j hj; have := hw j hj; unfold Printed at *; omega
  have hpl : ∀ j, j < h.store.prints.length → 0 ≤ (el h.store.prints j).plate ∧ (el h.store.prints j).plate < (h.store.items.length : Int) := fun j hj => by have := hV.2.2.2.1 j hj; unfold Printed at this; omega
  refine aw_for h.fors.length (fun k => ∀ j, j < k → ForAt h j) (fun k => [(0, .ptr 11 0 0 0), (37, .sl 1 7 0 h.fors.length), (38, vi h.fors.length), (39, vi k)]) (fun k => [.arr 11 1 (fun _ => shoV 1 2 3 4 5 6 7 8 h), LB 5 Itm.enc h.store.items, LB 2 Prt.enc h.store.prints, LB 7 Dsn.enc h.designs, LB 4 Lic.enc h.lics, LB 4 Ordr.enc h.orders, LB 1 vi h.made, LB 1 vi h.fors, mapE Tal.enc (talTo h k)]) (fun j hj => by omega) ?_ ?_
  · (refine sub_to [some 0, some 1, some 2, some 3, some 4, some 5, some 6, some 7, some 8] [] rfl ?_ ?_ <;> (repeat' (first | exact trivial | refine ⟨⟨_, rfl, ?_⟩, ?_⟩ | refine ⟨bsub_snoc rfl rfl (fun _ => rfl) ?_, ?_⟩ | refine ⟨bsub_one rfl rfl ?_, ?_⟩ | refine ⟨bsub_all rfl rfl (fun _ _ => rfl) (fun _ => rfl), ?_⟩ | refine ⟨bsub_updL rfl rfl ?_ (fun _ _ _ => rfl) (fun _ => rfl), ?_⟩ | refine ⟨.inl ⟨_, _, rfl, rfl, ?_⟩, ?_⟩ | exact ⟨.inr ⟨rfl, rfl⟩, trivial⟩ | refine ⟨.inr ⟨rfl, rfl⟩, ?_⟩ | (intro _ _) | exact vz1 | (first | refine ⟨bsub_mapE rfl rfl (fun _ => rfl), ?_⟩ | exact VSub.aggL ⟨.closed rfl, .closed rfl, .closed rfl, .sl rfl, .sl rfl, .sl rfl, .sl rfl, .sl rfl, .sl rfl, .sl rfl, .map rfl, trivial⟩) | exact vz2 | fail)))
  intro k hk hJ
  by_cases hlt : k < h.fors.length
  · have hp := hpl k (by omega)
    have hq := hst k (by omega)
    have hsm := tal_small (h := h) (k := k) (fun j hj => hst j (by omega)) (by omega) (el h.fors k)
    (repeat' (first | (refine ar_isq ?_; first | refine zmv ?_ | refine zas ?_ | (refine is_load ?_; first | refine zlp ?_ | refine zlr ?_) | (refine is_binOp ?_; first | refine zlss ?_ | refine zgtr ?_ | refine zneq ?_ | refine zadd ?_) | (refine is_fieldAddr ?_; first | refine zfp ?_ | refine zfr ?_) | (refine is_indexAddr ?_; first | refine zil ?_ | refine zis ?_ | refine zit ?_ | refine zia ?_ | refine zir ?_ | refine zil (j := k) ?_ | refine zis (j := k) ?_ | refine zit (j := k) ?_ | refine zil (j := (el h.fors k).toNat) ?_ | refine zis (j := (el h.fors k).toNat) ?_ | refine zit (j := (el h.fors k).toNat) ?_ | refine zil (j := (el h.store.prints k).plate.toNat) ?_ | refine zis (j := (el h.store.prints k).plate.toNat) ?_ | refine zit (j := (el h.store.prints k).plate.toNat) ?_ | (refine zxl ?_; intro _ _ _) | (refine zxs ?_; intro _ _ _)) | (refine is_call ?_; first | refine zll ?_ | refine zls ?_ | refine zln ?_ | refine zle ?_) | (refine is_pick ?_; first | refine zpt ?_ | refine zpf ?_) | refine znt ?_ | refine zncp ?_ | refine zncr ?_ | refine zix ?_) | ((refine ar_read h (talTo h k) (order_p h (el h.fors k) hs0) fn32 (by intros; subst_vars; rfl) ?_; intro _ hv; subst hv)) | (refine ar_count (st := (el h.store.prints k).state) (k := 1) h (talTo h k) (by omega) hsm (by omega) ?_) | (refine zal ?_) | (refine zb1 ?_) | (refine zb0 ?_) | (refine zsvs ?_) | (refine zsva ?_) | (refine zses ?_) | (refine zsea ?_) | (refine zg ?_ ?_ <;> intro hg <;> first | exact absurd hg (by decide) | ((try replace hg := HG.out hg); (try dsimp only at hg); (try rw [inD_iff] at hg); (try rw [inO_iff] at hg); (try rw [fromB_one] at hg); (try rw [withinB_iff] at hg); (try rw [withinB_no] at hg); (try (have _h : True := hg; clear _h hg)); first | (exfalso; omega) | skip)) | (refine zgu ?_) | (refine ar_nil ?_) | (refine aw_seq ?_) | (refine aw_skip ?_) | (refine aw_block ?_) | (refine aw_exit ?_) | (refine aw_region ?_) | (refine aw_drawn (id := 1) [(0, 0), (1, 0), (2, 0), (3, 0), (4, 0), (5, 0), (6, 0), (7, 0), (8, 0), (9, 0), (10, 0), (11, 0), (12, 0), (13, 0), (14, 0), (15, 0), (16, 0), (17, 0), (18, 0), (19, 0), (20, 0), (21, 0), (22, 0)] mixed (by kernel_rfl) ?_) | (refine aw_drawn (id := 7) [(0, 0), (1, 0), (2, 1), (3, 0), (4, 0), (5, 0), (6, 0), (7, 0), (8, 0), (9, 0), (10, 0), (11, 0), (12, 0), (13, 0), (14, 0), (15, 0), (16, 0), (17, 0), (18, 0), (19, 0), (20, 0), (21, 0), (22, 0), (23, 0), (24, 0)] mixed (by kernel_rfl) ?_) | (refine aw_drawn (id := 7) [(0, 0), (1, 0), (2, 2), (3, 0), (4, 0), (5, 0), (6, 0), (7, 0), (8, 0), (9, 0), (10, 0), (11, 0), (12, 0), (13, 0), (14, 0), (15, 0), (16, 0), (17, 0), (18, 0), (19, 0), (20, 0), (21, 0), (22, 0), (23, 0), (24, 0)] mixed (by kernel_rfl) ?_) | (refine aw_drawn (id := 16) [(0, 0), (1, 0), (2, 0), (3, 0), (4, 0), (5, 0), (6, 0), (7, 0), (8, 0), (9, 0), (10, 0), (11, 0), (12, 0), (13, 0), (14, 0), (15, 0)] mixed (by kernel_rfl) ?_) | (refine zco ?_ ?_ <;> intro hg <;> first | exact absurd hg (by decide) | ((try replace hg := HG.out hg); (try dsimp only at hg); (try rw [inD_iff] at hg); (try rw [inO_iff] at hg); (try rw [fromB_one] at hg); (try rw [withinB_iff] at hg); (try rw [withinB_no] at hg); (try (have _h : True := hg; clear _h hg)); first | (exfalso; omega) | skip))))
    all_goals first
      | (exfalso; omega)
      | ((refine aw_ret ?_; (repeat (first | refine ret_then ?_ | refine ret_block ?_)); refine bq1 rfl (.inr ⟨rfl, fun hO => ?_⟩)); obtain ⟨h1, h2⟩ := hO.2.1 k hlt; unfold inOrders at h1; omega)
      | ((first | refine loop_next (by omega) ?_ ?_ | refine (show _ ∧ _ ∧ SubOf _ _ _ _ _ _ from And.intro (by omega) (And.intro ?_ ?_))); (focus (((refine all_step hJ ⟨?_, ?_⟩ <;> first | assumption | omega)); done)); (focus ((refine sub_to [some 0, some 1, some 2, some 3, some 4, some 5, some 6, some 7, some 8] [] rfl ?_ ?_ <;> (repeat' (first | exact trivial | refine ⟨⟨_, rfl, ?_⟩, ?_⟩ | refine ⟨bsub_snoc rfl rfl (fun _ => rfl) ?_, ?_⟩ | refine ⟨bsub_one rfl rfl ?_, ?_⟩ | refine ⟨bsub_all rfl rfl (fun _ _ => rfl) (fun _ => rfl), ?_⟩ | refine ⟨bsub_updL rfl rfl ?_ (fun _ _ _ => rfl) (fun _ => rfl), ?_⟩ | refine ⟨.inl ⟨_, _, rfl, rfl, ?_⟩, ?_⟩ | exact ⟨.inr ⟨rfl, rfl⟩, trivial⟩ | refine ⟨.inr ⟨rfl, rfl⟩, ?_⟩ | (intro _ _) | exact vz1 | (first | refine ⟨bsub_mapE rfl rfl (fun _ => rfl), ?_⟩ | exact VSub.aggL ⟨.closed rfl, .closed rfl, .closed rfl, .sl rfl, .sl rfl, .sl rfl, .sl rfl, .sl rfl, .sl rfl, .sl rfl, .map rfl, trivial⟩) | exact vz2 | fail))); done)))
      | trace_state
  · (repeat' (first | (refine ar_isq ?_; first | refine zmv ?_ | refine zas ?_ | (refine is_load ?_; first | refine zlp ?_ | refine zlr ?_) | (refine is_binOp ?_; first | refine zlss ?_ | refine zgtr ?_ | refine zneq ?_ | refine zadd ?_) | (refine is_fieldAddr ?_; first | refine zfp ?_ | refine zfr ?_) | (refine is_indexAddr ?_; first | refine zil ?_ | refine zis ?_ | refine zit ?_ | refine zia ?_ | refine zir ?_ | (refine zxl ?_; intro _ _ _) | (refine zxs ?_; intro _ _ _)) | (refine is_call ?_; first | refine zll ?_ | refine zls ?_ | refine zln ?_ | refine zle ?_) | (refine is_pick ?_; first | refine zpt ?_ | refine zpf ?_) | refine znt ?_ | refine zncp ?_ | refine zncr ?_ | refine zix ?_) | (refine zal ?_) | (refine zb1 ?_) | (refine zb0 ?_) | (refine zsvs ?_) | (refine zsva ?_) | (refine zses ?_) | (refine zsea ?_) | (refine zg ?_ ?_ <;> intro hg <;> first | exact absurd hg (by decide) | ((try replace hg := HG.out hg); (try dsimp only at hg); (try rw [inD_iff] at hg); (try rw [inO_iff] at hg); (try rw [fromB_one] at hg); (try rw [withinB_iff] at hg); (try rw [withinB_no] at hg); (try (have _h : True := hg; clear _h hg)); first | (exfalso; omega) | skip)) | (refine zgu ?_) | (refine ar_nil ?_) | (refine aw_seq ?_) | (refine aw_skip ?_) | (refine aw_block ?_) | (refine aw_exit ?_) | (refine aw_region ?_) | (refine aw_drawn (id := 1) [(0, 0), (1, 0), (2, 0), (3, 0), (4, 0), (5, 0), (6, 0), (7, 0), (8, 0), (9, 0), (10, 0), (11, 0), (12, 0), (13, 0), (14, 0), (15, 0), (16, 0), (17, 0), (18, 0), (19, 0), (20, 0), (21, 0), (22, 0)] mixed (by kernel_rfl) ?_) | (refine aw_drawn (id := 7) [(0, 0), (1, 0), (2, 1), (3, 0), (4, 0), (5, 0), (6, 0), (7, 0), (8, 0), (9, 0), (10, 0), (11, 0), (12, 0), (13, 0), (14, 0), (15, 0), (16, 0), (17, 0), (18, 0), (19, 0), (20, 0), (21, 0), (22, 0), (23, 0), (24, 0)] mixed (by kernel_rfl) ?_) | (refine aw_drawn (id := 7) [(0, 0), (1, 0), (2, 2), (3, 0), (4, 0), (5, 0), (6, 0), (7, 0), (8, 0), (9, 0), (10, 0), (11, 0), (12, 0), (13, 0), (14, 0), (15, 0), (16, 0), (17, 0), (18, 0), (19, 0), (20, 0), (21, 0), (22, 0), (23, 0), (24, 0)] mixed (by kernel_rfl) ?_) | (refine aw_drawn (id := 16) [(0, 0), (1, 0), (2, 0), (3, 0), (4, 0), (5, 0), (6, 0), (7, 0), (8, 0), (9, 0), (10, 0), (11, 0), (12, 0), (13, 0), (14, 0), (15, 0)] mixed (by kernel_rfl) ?_) | (refine zco ?_ ?_ <;> intro hg <;> first | exact absurd hg (by decide) | ((try replace hg := HG.out hg); (try dsimp only at hg); (try rw [inD_iff] at hg); (try rw [inO_iff] at hg); (try rw [fromB_one] at hg); (try rw [withinB_iff] at hg); (try rw [withinB_no] at hg); (try (have _h : True := hg; clear _h hg)); first | (exfalso; omega) | skip))))
    all_goals (try (exfalso; omega))
    have hF : ∀ j, j < h.fors.length → ForAt h j := fun j hj => hJ j (by omega)
    obtain rfl : k = h.fors.length := by omega
    clear hJ hlt hk
    have hta : ∀ n : Int, talAt (talTo h h.fors.length) n = ⟨doneF h n 0, doneF h n 1, doneF h n 2⟩ := talTo_at fun j hj => hst j (by omega)
    refine aw_for h.orders.length (fun k => ∀ j, j < k → OrdAt h j) (fun k => [(0, .ptr 11 0 0 0), (88, .sl 4 5 0 h.orders.length), (89, vi h.orders.length), (90, vi k)]) (fun _ => [.arr 11 1 (fun _ => shoV 1 2 3 4 5 6 7 8 h), LB 5 Itm.enc h.store.items, LB 2 Prt.enc h.store.prints, LB 7 Dsn.enc h.designs, LB 4 Lic.enc h.lics, LB 4 Ordr.enc h.orders, LB 1 vi h.made, LB 1 vi h.fors, mapE Tal.enc (talTo h h.fors.length)]) (fun j hj => by omega) ?_ ?_
    · (refine sub_to [some 0, some 1, some 2, some 3, some 4, some 5, some 6, some 7, some 8] [] rfl ?_ ?_ <;> (repeat' (first | exact trivial | refine ⟨⟨_, rfl, ?_⟩, ?_⟩ | refine ⟨bsub_snoc rfl rfl (fun _ => rfl) ?_, ?_⟩ | refine ⟨bsub_one rfl rfl ?_, ?_⟩ | refine ⟨bsub_all rfl rfl (fun _ _ => rfl) (fun _ => rfl), ?_⟩ | refine ⟨bsub_updL rfl rfl ?_ (fun _ _ _ => rfl) (fun _ => rfl), ?_⟩ | refine ⟨.inl ⟨_, _, rfl, rfl, ?_⟩, ?_⟩ | exact ⟨.inr ⟨rfl, rfl⟩, trivial⟩ | refine ⟨.inr ⟨rfl, rfl⟩, ?_⟩ | (intro _ _) | exact vz1 | (first | refine ⟨bsub_mapE rfl rfl (fun _ => rfl), ?_⟩ | exact VSub.aggL ⟨.closed rfl, .closed rfl, .closed rfl, .sl rfl, .sl rfl, .sl rfl, .sl rfl, .sl rfl, .sl rfl, .sl rfl, .map rfl, trivial⟩) | exact vz2 | fail)))
    intro k hk hJ
    by_cases hlt : k < h.orders.length
    · have ht0 : (talAt (talTo h h.fors.length) k).a = doneF h k 0 := by rw [hta]
      have ht1 : (talAt (talTo h h.fors.length) k).b = doneF h k 1 := by rw [hta]
      have hd0 : 0 ≤ doneF h k 0 := (doneTo_bnd h k 0 h.fors.length).1
      have hd1 : 0 ≤ doneF h k 1 := (doneTo_bnd h k 1 h.fors.length).1
      clear hta hF
      
      (repeat' (first | (refine ar_isq ?_; first | refine zmv ?_ | refine zas ?_ | (refine is_load ?_; first | refine zlp ?_ | refine zlr ?_) | (refine is_binOp ?_; first | refine zlss ?_ | refine zgtr ?_ | refine zneq ?_ | refine zadd ?_) | (refine is_fieldAddr ?_; first | refine zfp ?_ | refine zfr ?_) | (refine is_indexAddr ?_; first | refine zil ?_ | refine zis ?_ | refine zit ?_ | refine zia ?_ | refine zir ?_ | refine zil (j := k) ?_ | refine zis (j := k) ?_ | refine zit (j := k) ?_ | (refine zxl ?_; intro _ _ _) | (refine zxs ?_; intro _ _ _)) | (refine is_call ?_; first | refine zll ?_ | refine zls ?_ | refine zln ?_ | refine zle ?_) | (refine is_pick ?_; first | refine zpt ?_ | refine zpf ?_) | refine znt ?_ | refine zncp ?_ | refine zncr ?_ | refine zix ?_) | (((refine ar_subk_l (sub_frzL (t := 97) vi ([(el h.orders k).client]) rfl rfl rfl rfl (fun _ _ => rfl) (fun _ => rfl)) ?_); refine ar_pcall (own := false) fn20 rfl rfl (.cons (.closed rfl) (.cons (.closed rfl) (.cons (.closed rfl) .nil))) (hfrom_p _ _ [(el h.orders k).client]) (by simp) (dc rfl) ?_; intro _ hv; subst hv)) | (((refine ar_subk_l (sub_frzL (t := 110) vi ([(el h.orders k).need]) rfl rfl rfl rfl (fun _ _ => rfl) (fun _ => rfl)) ?_); refine ar_pcall (own := false) fn20 rfl rfl (.cons (.closed rfl) (.cons (.closed rfl) (.cons (.closed rfl) .nil))) (hfrom_p _ _ [(el h.orders k).need]) (by simp) (dc rfl) ?_; intro _ hv; subst hv)) | (refine ar_buildLE vi ([_]) (by exact ty rfl) (by exact rfl) (by exact ty rfl) (by exact rfl) (by exact rfl) (by exact Nat.succ_pos _) (by exact rfl) (by exact dc rfl) (by exact rfl) (by exact fun _ => ⟨rfl, rfl⟩) (by exact dc rfl) ?_) | ((refine ar_read h (talTo h h.fors.length) (design_p h (el h.orders k).design hs0) fn66 (by intros; subst_vars; rfl) ?_; intro _ hv; subst hv)) | (refine ar_lookupT ?_ (ty rfl) rfl (ty rfl) rfl (ty rfl) rfl rfl rfl rfl (dc rfl)) | (refine ar_q (qs_index (j := 0) (ty rfl) rfl (ty rfl) rfl rfl rfl (dc rfl) rfl) (dc rfl) ?_) | (refine ar_q (qs_index (j := 1) (ty rfl) rfl (ty rfl) rfl rfl rfl (dc rfl) rfl) (dc rfl) ?_) | (refine zal ?_) | (refine zb1 ?_) | (refine zb0 ?_) | (refine zsvs ?_) | (refine zsva ?_) | (refine zses ?_) | (refine zsea ?_) | (refine zg ?_ ?_ <;> intro hg <;> first | exact absurd hg (by decide) | ((try replace hg := HG.out hg); (try dsimp only at hg); (try rw [inD_iff] at hg); (try rw [inO_iff] at hg); (try rw [fromB_one] at hg); (try rw [withinB_iff] at hg); (try rw [withinB_no] at hg); (try rw [ht0] at hg); (try rw [ht1] at hg); (try (have _h : True := hg; clear _h hg)); first | (exfalso; omega) | skip)) | (refine zgu ?_) | (refine ar_nil ?_) | (refine aw_seq ?_) | (refine aw_skip ?_) | (refine aw_block ?_) | (refine aw_exit ?_) | (refine aw_region ?_) | (refine aw_drawn (id := 1) [(0, 0), (1, 0), (2, 0), (3, 0), (4, 0), (5, 0), (6, 0), (7, 0), (8, 0), (9, 0), (10, 0), (11, 0), (12, 0), (13, 0), (14, 0), (15, 0), (16, 0), (17, 0), (18, 0), (19, 0), (20, 0), (21, 0), (22, 0)] mixed (by kernel_rfl) ?_) | (refine aw_drawn (id := 7) [(0, 0), (1, 0), (2, 1), (3, 0), (4, 0), (5, 0), (6, 0), (7, 0), (8, 0), (9, 0), (10, 0), (11, 0), (12, 0), (13, 0), (14, 0), (15, 0), (16, 0), (17, 0), (18, 0), (19, 0), (20, 0), (21, 0), (22, 0), (23, 0), (24, 0)] mixed (by kernel_rfl) ?_) | (refine aw_drawn (id := 7) [(0, 0), (1, 0), (2, 2), (3, 0), (4, 0), (5, 0), (6, 0), (7, 0), (8, 0), (9, 0), (10, 0), (11, 0), (12, 0), (13, 0), (14, 0), (15, 0), (16, 0), (17, 0), (18, 0), (19, 0), (20, 0), (21, 0), (22, 0), (23, 0), (24, 0)] mixed (by kernel_rfl) ?_) | (refine aw_drawn (id := 16) [(0, 0), (1, 0), (2, 0), (3, 0), (4, 0), (5, 0), (6, 0), (7, 0), (8, 0), (9, 0), (10, 0), (11, 0), (12, 0), (13, 0), (14, 0), (15, 0)] mixed (by kernel_rfl) ?_) | (refine zco ?_ ?_ <;> intro hg <;> first | exact absurd hg (by decide) | ((try replace hg := HG.out hg); (try dsimp only at hg); (try rw [inD_iff] at hg); (try rw [inO_iff] at hg); (try rw [fromB_one] at hg); (try rw [withinB_iff] at hg); (try rw [withinB_no] at hg); (try rw [ht0] at hg); (try rw [ht1] at hg); (try (have _h : True := hg; clear _h hg)); first | (exfalso; omega) | skip))))
      all_goals first
        | ((first | refine loop_next (by omega) ?_ ?_ | refine (show _ ∧ _ ∧ SubOf _ _ _ _ _ _ from And.intro (by omega) (And.intro ?_ ?_))); (focus (((first | exact all_step hJ ⟨by assumption, inD_iff.2 (by assumption), by assumption, fun _ => ⟨by omega, by omega⟩, fun hd => absurd (hd.symm.trans (show (el h.orders k).done = true from by assumption)) (by decide)⟩ | exact all_step hJ ⟨by assumption, inD_iff.2 (by assumption), by assumption, fun hd => absurd (hd.symm.trans (show (el h.orders k).done = false from by assumption)) (by decide), fun _ => ⟨by omega, by omega⟩⟩)); done)); (focus ((refine sub_to [some 0, some 1, some 2, some 3, some 4, some 5, some 6, some 7, some 8] [] rfl ?_ ?_ <;> (repeat' (first | exact trivial | refine ⟨⟨_, rfl, ?_⟩, ?_⟩ | refine ⟨bsub_snoc rfl rfl (fun _ => rfl) ?_, ?_⟩ | refine ⟨bsub_one rfl rfl ?_, ?_⟩ | refine ⟨bsub_all rfl rfl (fun _ _ => rfl) (fun _ => rfl), ?_⟩ | refine ⟨bsub_updL rfl rfl ?_ (fun _ _ _ => rfl) (fun _ => rfl), ?_⟩ | refine ⟨.inl ⟨_, _, rfl, rfl, ?_⟩, ?_⟩ | exact ⟨.inr ⟨rfl, rfl⟩, trivial⟩ | refine ⟨.inr ⟨rfl, rfl⟩, ?_⟩ | (intro _ _) | exact vz1 | (first | refine ⟨bsub_mapE rfl rfl (fun _ => rfl), ?_⟩ | exact VSub.aggL ⟨.closed rfl, .closed rfl, .closed rfl, .sl rfl, .sl rfl, .sl rfl, .sl rfl, .sl rfl, .sl rfl, .sl rfl, .map rfl, trivial⟩) | exact vz2 | fail))); done)))
        | ((refine aw_ret ?_; (repeat (first | refine ret_then ?_ | refine ret_block ?_)); refine bq1 rfl (.inr ⟨rfl, fun hO => ?_⟩)); obtain ⟨h1, h2, h3, h4, h5⟩ := hO.2.2 k hlt; first | (exact absurd h1 (by assumption)) | (exact absurd h3 (by assumption)) | (exact absurd (inD_iff.1 h2) (by assumption)) | (have a1 := h4 (by assumption); omega) | (have a1 := h5 (by assumption); omega))
        | (exfalso; simp_all; done)
        | (exfalso; omega)
        | trace_state
    · (repeat' (first | (refine ar_isq ?_; first | refine zmv ?_ | refine zas ?_ | (refine is_load ?_; first | refine zlp ?_ | refine zlr ?_) | (refine is_binOp ?_; first | refine zlss ?_ | refine zgtr ?_ | refine zneq ?_ | refine zadd ?_) | (refine is_fieldAddr ?_; first | refine zfp ?_ | refine zfr ?_) | (refine is_indexAddr ?_; first | refine zil ?_ | refine zis ?_ | refine zit ?_ | refine zia ?_ | refine zir ?_ | (refine zxl ?_; intro _ _ _) | (refine zxs ?_; intro _ _ _)) | (refine is_call ?_; first | refine zll ?_ | refine zls ?_ | refine zln ?_ | refine zle ?_) | (refine is_pick ?_; first | refine zpt ?_ | refine zpf ?_) | refine znt ?_ | refine zncp ?_ | refine zncr ?_ | refine zix ?_) | (refine zal ?_) | (refine zb1 ?_) | (refine zb0 ?_) | (refine zsvs ?_) | (refine zsva ?_) | (refine zses ?_) | (refine zsea ?_) | (refine zg ?_ ?_ <;> intro hg <;> first | exact absurd hg (by decide) | ((try replace hg := HG.out hg); (try dsimp only at hg); (try rw [inD_iff] at hg); (try rw [inO_iff] at hg); (try rw [fromB_one] at hg); (try rw [withinB_iff] at hg); (try rw [withinB_no] at hg); (try rw [ht0] at hg); (try rw [ht1] at hg); (try (have _h : True := hg; clear _h hg)); first | (exfalso; omega) | skip)) | (refine zgu ?_) | (refine ar_nil ?_) | (refine aw_seq ?_) | (refine aw_skip ?_) | (refine aw_block ?_) | (refine aw_exit ?_) | (refine aw_region ?_) | (refine aw_drawn (id := 1) [(0, 0), (1, 0), (2, 0), (3, 0), (4, 0), (5, 0), (6, 0), (7, 0), (8, 0), (9, 0), (10, 0), (11, 0), (12, 0), (13, 0), (14, 0), (15, 0), (16, 0), (17, 0), (18, 0), (19, 0), (20, 0), (21, 0), (22, 0)] mixed (by kernel_rfl) ?_) | (refine aw_drawn (id := 7) [(0, 0), (1, 0), (2, 1), (3, 0), (4, 0), (5, 0), (6, 0), (7, 0), (8, 0), (9, 0), (10, 0), (11, 0), (12, 0), (13, 0), (14, 0), (15, 0), (16, 0), (17, 0), (18, 0), (19, 0), (20, 0), (21, 0), (22, 0), (23, 0), (24, 0)] mixed (by kernel_rfl) ?_) | (refine aw_drawn (id := 7) [(0, 0), (1, 0), (2, 2), (3, 0), (4, 0), (5, 0), (6, 0), (7, 0), (8, 0), (9, 0), (10, 0), (11, 0), (12, 0), (13, 0), (14, 0), (15, 0), (16, 0), (17, 0), (18, 0), (19, 0), (20, 0), (21, 0), (22, 0), (23, 0), (24, 0)] mixed (by kernel_rfl) ?_) | (refine aw_drawn (id := 16) [(0, 0), (1, 0), (2, 0), (3, 0), (4, 0), (5, 0), (6, 0), (7, 0), (8, 0), (9, 0), (10, 0), (11, 0), (12, 0), (13, 0), (14, 0), (15, 0)] mixed (by kernel_rfl) ?_) | (refine zco ?_ ?_ <;> intro hg <;> first | exact absurd hg (by decide) | ((try replace hg := HG.out hg); (try dsimp only at hg); (try rw [inD_iff] at hg); (try rw [inO_iff] at hg); (try rw [fromB_one] at hg); (try rw [withinB_iff] at hg); (try rw [withinB_no] at hg); (try rw [ht0] at hg); (try rw [ht1] at hg); (try (have _h : True := hg; clear _h hg)); first | (exfalso; omega) | skip))))
      all_goals first
        | (exfalso; omega)
        | (refine aw_ret ?_; refine bq1 rfl (.inl ⟨rfl, ⟨⟨by omega, by omega⟩, hF, fun i hi => hJ i (by omega)⟩, _, hta, rfl⟩))
        | trace_state
end Go.Proofs.Ytbilpbabdgfblaa
namespace Go.Proofs.Ytbilpbabdgfblaa
open Go.RowKit
def shoN (n : Nat) (h : Hse) (m : List (Int × Tal)) : Heap := [.arr 11 1 (fun _ => shoV (n + 1) (n + 2) (n + 3) (n + 4) (n + 5) (n + 6) (n + 7) (n + 8) h), LB 5 Itm.enc h.store.items, LB 2 Prt.enc h.store.prints, LB 7 Dsn.enc h.designs, LB 4 Lic.enc h.lics, LB 4 Ordr.enc h.orders, LB 1 vi h.made, LB 1 vi h.fors, mapE Tal.enc m]
theorem shoB_ren {h : Hse} {m : List (Int × Tal)} {n : Nat} : (shoB h m).map (Blk.ren (rn [] n)) = shoN n h m := by
  have e2 : (mapE Tal.enc m).ren (rn [] n) = mapE Tal.enc m := mapE_renE fun _ => rfl
  show _ :: _ :: _ :: _ :: _ :: _ :: _ :: _ :: [(mapE Tal.enc m).ren (rn [] n)] = _ :: _ :: _ :: _ :: _ :: _ :: _ :: _ :: [_]
  rw [e2]
  rfl
def HValidR (h : Hse) (v : V) (H : Heap) : Prop := (HValid h ∧ v = .tup [.ptr 11 0 0 0, vb true] ∧ ∃ m, TalOk h m ∧ H = shoB h m) ∨ (¬ HValid h ∧ v = .tup [.ptr 11 0 0 0, vb false] ∧ H = [.dead])
theorem hvalid_of {h : Hse} (h1 : 1 ≤ h.per ∧ h.per ≤ 1000) (h2 : 0 ≤ h.day ∧ h.day ≤ 10000) (h3 : Valid h.store) (h4 : ArchOk h) (h5 : MadeOk h) (h6 : OrdersOk h) : HValid h :=
  ⟨h1, h2, h3, ⟨h4.1.1, h4.1.2, h6.1.1⟩, fun i hi => h4.2.1 _ (el_mem hi), fun i hi => h4.2.2 _ (el_mem hi), h5.1, h5.2, h6.1.2, h6.2.1, h6.2.2⟩
theorem HValid.arch {h : Hse} (hV : HValid h) : ArchOk h := ⟨⟨hV.few.1, hV.few.2.1⟩, fun d hd => by obtain ⟨i, hi, rfl⟩ := mem_el hd; exact hV.designs i hi, fun d hd => by obtain ⟨i, hi, rfl⟩ := mem_el hd; exact hV.lics i hi⟩
theorem HValid.madeOk {h : Hse} (hV : HValid h) : MadeOk h := ⟨hV.mades, hV.made⟩
theorem HValid.ordOk {h : Hse} (hV : HValid h) : OrdersOk h := ⟨⟨hV.few.2.2, hV.forss⟩, hV.fors, hV.orders⟩
theorem chk_iff {s : Sto} : ((if Valid s then (0 : Int) else 80) = 0) ↔ Valid s := by
  by_cases h : Valid s
  · rw [if_pos h]; exact ⟨fun _ => h, fun _ => rfl⟩
  · rw [if_neg h]; exact ⟨fun e => absurd e (by decide), fun e => (h e).elim⟩
set_option maxHeartbeats 8000000 in
theorem hvalid_p (h : Hse) (hs : HSmall h) (hw : StOk h.store) : ACalls Try.prog 19 [h.enc] [] (HValidR h) NoP := by
  refine acalls_of_aw Try.func19 rfl (Nat.le_of_ble_eq_true rfl) ?_
  (repeat' (first | (refine ar_isq ?_; first | refine zmv ?_ | refine zas ?_ | (refine is_load ?_; first | refine zlp ?_ | refine zlr ?_) | refine zeql ?_ | (refine is_fieldAddr ?_; first | refine zfp ?_ | refine zfr ?_) | (refine is_pick ?_; first | refine zpt ?_ | refine zpf ?_) | refine zncp ?_ | refine zncr ?_) | ((refine ar_gcall0 fn35 rfl rfl [h.enc] ⟨.closed rfl, trivial⟩ (hopen_p h hs) (dc rfl) ?_ (fun _ _ h => h.elim); rintro _ _ ⟨rfl, rfl⟩; rw [shoB_ren])) | (((refine ar_subk_l (sub_frzL (t := 13) vi ([h.per]) rfl rfl rfl rfl (fun _ _ => rfl) (fun _ => rfl)) ?_); refine ar_pcall (own := false) fn20 rfl rfl (.cons (.closed rfl) (.cons (.closed rfl) (.cons (.closed rfl) .nil))) (hfrom_p _ _ [h.per]) (by simp) (dc rfl) ?_; intro _ hv; subst hv)) | (((refine ar_subk_l (sub_frzL (t := 21) vi ([h.day]) rfl rfl rfl rfl (fun _ _ => rfl) (fun _ => rfl)) ?_); refine ar_pcall (own := false) fn20 rfl rfl (.cons (.closed rfl) (.cons (.closed rfl) (.cons (.closed rfl) .nil))) (hfrom_p _ _ [h.day]) (by simp) (dc rfl) ?_; intro _ hv; subst hv)) | (refine ar_buildLE vi ([_]) (by exact ty rfl) (by exact rfl) (by exact ty rfl) (by exact rfl) (by exact rfl) (by exact Nat.succ_pos _) (by exact rfl) (by exact dc rfl) (by exact rfl) (by exact fun _ => ⟨rfl, rfl⟩) (by exact dc rfl) ?_) | ((refine ar_lcall fn36 rfl rfl (first := []) (cap := []) (zs := [h.store.enc]) ⟨.aggL ⟨.closed rfl, .row rfl rfl (fun _ => rfl), .row rfl rfl (fun _ => rfl), trivial⟩, trivial⟩ (pCheck_p h.store) (by intros; subst_vars; rfl) (dc rfl) ?_; intro _ hv; subst hv)) | ((refine ar_read h [] (archived_p h hs) fn37 (by rintro _ ⟨_, rfl, _⟩; rfl) ?_; rintro _ ⟨ba, rfl, hba⟩)) | ((refine ar_read h [] (hmade_p h hs (by assumption)) fn38 (by rintro _ ⟨_, rfl, _⟩; rfl) ?_; rintro _ ⟨bm, rfl, hbm⟩)) | ((refine ar_gcall (H0 := shoB h []) [1, 2, 3, 4, 5, 6, 7, 8, 9] [] (first := []) (cap := []) fn39 rfl rfl (xs := [.ptr 11 0 0 0]) ⟨.ptr rfl, trivial⟩ rfl (by decide) (fun _ h => by cases h) (show ShoAt _ 1 2 3 4 5 6 7 8 9 h [] from {}).hsub shoB_live (hordered_p h hs (by assumption) (hbm.1 (by assumption)) hw) (dc rfl) ?_ (fun _ _ h => h.elim); rintro _ _ (⟨rfl, hO, m, ht, rfl⟩ | ⟨rfl, hO⟩))) | (refine zbx ?_) | (refine zb1 ?_) | (refine zb0 ?_) | (refine zg ?_ ?_ <;> intro hg <;> first | exact absurd hg (by decide) | ((try replace hg := HG.out hg); (try dsimp only at hg); (try rw [fromB_one] at hg); (try rw [withinB_iff] at hg); (try rw [withinB_no] at hg); (try rw [chk_iff] at hg); (try (have _h : True := hg; clear _h hg)); first | (exfalso; omega) | skip)) | (refine zgu ?_) | (refine ar_nil ?_) | (refine aw_seq ?_) | (refine aw_skip ?_) | (refine aw_block ?_) | (refine aw_exit ?_) | (refine aw_region ?_) | (refine zco ?_ ?_ <;> intro hg <;> first | exact absurd hg (by decide) | ((try replace hg := HG.out hg); (try dsimp only at hg); (try rw [fromB_one] at hg); (try rw [withinB_iff] at hg); (try rw [withinB_no] at hg); (try rw [chk_iff] at hg); (try (have _h : True := hg; clear _h hg)); first | (exfalso; omega) | skip))))
  all_goals first
    | (exfalso; omega)
    | ((refine aw_mono_r (env' := [(2, .ptr 11 0 0 0), (3, vb false)]) (H' := [.dead]) ?_ ?_; (focus ((refine sub_to [some 1] [] rfl ?_ ?_ <;> (repeat' (first | exact trivial | refine ⟨⟨_, rfl, ?_⟩, ?_⟩ | refine ⟨bsub_snoc rfl rfl (fun _ => rfl) ?_, ?_⟩ | refine ⟨bsub_one rfl rfl ?_, ?_⟩ | refine ⟨bsub_all rfl rfl (fun _ _ => rfl) (fun _ => rfl), ?_⟩ | refine ⟨bsub_updL rfl rfl ?_ (fun _ _ _ => rfl) (fun _ => rfl), ?_⟩ | refine ⟨.inl ⟨_, _, rfl, rfl, ?_⟩, ?_⟩ | exact ⟨.inr ⟨rfl, rfl⟩, trivial⟩ | refine ⟨.inr ⟨rfl, rfl⟩, ?_⟩ | (intro _ _) | exact vz1 | (refine ⟨trivial, ?_⟩) | exact vz2 | fail))); done)))
       (refine aw_ret ?_; (repeat (first | refine ret_then ?_ | refine ret_block ?_)); refine bq2 rfl rfl (.inr ⟨fun hv => ?_, rfl, rfl⟩))
       first
         | exact absurd hv.per (by assumption)
         | exact absurd hv.day (by assumption)
         | exact absurd hv.store (by assumption)
         | exact absurd ((hba.2 hv.arch).symm.trans (show ba = false from by assumption)) (by decide)
         | exact absurd ((hbm.2 hv.madeOk).symm.trans (show bm = false from by assumption)) (by decide)
         | exact absurd hv.ordOk (by assumption))
    | (rw [join_sho {} (by decide)]
       (repeat' (first | (refine ar_isq ?_; first | refine zmv ?_ | refine zas ?_ | (refine is_load ?_; first | refine zlp ?_ | refine zlr ?_) | refine zeql ?_ | (refine is_fieldAddr ?_; first | refine zfp ?_ | refine zfr ?_) | (refine is_pick ?_; first | refine zpt ?_ | refine zpf ?_) | refine zncp ?_ | refine zncr ?_) | (refine zbx ?_) | (refine zb1 ?_) | (refine zb0 ?_) | (refine zg ?_ ?_ <;> intro hg <;> first | exact absurd hg (by decide) | ((try replace hg := HG.out hg); (try dsimp only at hg); (try rw [fromB_one] at hg); (try rw [withinB_iff] at hg); (try rw [withinB_no] at hg); (try rw [chk_iff] at hg); (try (have _h : True := hg; clear _h hg)); first | (exfalso; omega) | skip)) | (refine zgu ?_) | (refine ar_nil ?_) | (refine aw_seq ?_) | (refine aw_skip ?_) | (refine aw_block ?_) | (refine aw_exit ?_) | (refine aw_region ?_) | (refine zco ?_ ?_ <;> intro hg <;> first | exact absurd hg (by decide) | ((try replace hg := HG.out hg); (try dsimp only at hg); (try rw [fromB_one] at hg); (try rw [withinB_iff] at hg); (try rw [withinB_no] at hg); (try rw [chk_iff] at hg); (try (have _h : True := hg; clear _h hg)); first | (exfalso; omega) | skip))))
       (refine aw_mono_r (env' := [(2, .ptr 11 0 0 0), (3, vb true)]) (H' := [.arr 11 1 (fun _ => shoV 1 2 3 4 5 6 7 8 h), LB 5 Itm.enc h.store.items, LB 2 Prt.enc h.store.prints, LB 7 Dsn.enc h.designs, LB 4 Lic.enc h.lics, LB 4 Ordr.enc h.orders, LB 1 vi h.made, LB 1 vi h.fors, mapE Tal.enc m]) ?_ ?_; (focus ((refine sub_to [some 1, some 2, some 3, some 4, some 5, some 6, some 7, some 8, some 9] [] rfl ?_ ?_ <;> (repeat' (first | exact trivial | refine ⟨⟨_, rfl, ?_⟩, ?_⟩ | refine ⟨bsub_snoc rfl rfl (fun _ => rfl) ?_, ?_⟩ | refine ⟨bsub_one rfl rfl ?_, ?_⟩ | refine ⟨bsub_all rfl rfl (fun _ _ => rfl) (fun _ => rfl), ?_⟩ | refine ⟨bsub_updL rfl rfl ?_ (fun _ _ _ => rfl) (fun _ => rfl), ?_⟩ | refine ⟨.inl ⟨_, _, rfl, rfl, ?_⟩, ?_⟩ | exact ⟨.inr ⟨rfl, rfl⟩, trivial⟩ | refine ⟨.inr ⟨rfl, rfl⟩, ?_⟩ | (intro _ _) | exact vz1 | (first | refine ⟨bsub_mapE rfl rfl (fun _ => rfl), ?_⟩ | exact VSub.aggL ⟨.closed rfl, .closed rfl, .closed rfl, .sl rfl, .sl rfl, .sl rfl, .sl rfl, .sl rfl, .sl rfl, .sl rfl, .map rfl, trivial⟩) | exact vz2 | fail))); done)))
       (refine aw_ret ?_; (repeat (first | refine ret_then ?_ | refine ret_block ?_)); refine bq2 rfl rfl (.inl ⟨hvalid_of (by assumption) (by assumption) (by assumption) (hba.1 (by assumption)) (hbm.1 (by assumption)) (by assumption), rfl, m, by assumption, rfl⟩)))
    | trace_state
end Go.Proofs.Ytbilpbabdgfblaa
namespace Go.Proofs.Ytbilpbabdgfblaa
open Go.RowKit
theorem sub_preC {m nt t sz b c : Nat} {env : Env} {H : Heap} {f : Nat → V} (cs ds : List V) (ht : look env t = some (.ptr sz b 0 0)) (hcH : H[c]? = some (.arr 1 1 f)) (hf : f 0 = .ptr sz b 0 0) (hne : b ≠ c) (hb : H[b]? = some (.arr sz 1 (fun _ => .agg (cs ++ ds)))) (hc : V.closed.all cs = true) :
    SubK m nt env H ((t, .ref (.agg cs) 0) :: env) ((H.set b .dead).set c (.arr 1 1 (fun _ => .ref (.agg cs) 0))) := .mk fun X I ρ a w _ ⟨hE, hw, hd⟩ => by
  have hlt : c < ρ.length := by rw [hw.len]; exact (List.getElem?_eq_some_iff.1 hcH).1
  obtain ⟨xc, hxc⟩ : ∃ x, ρ[c]? = some x := ⟨ρ[c], by simp [hlt]⟩
  cases xc with
  | none => have := hw.none _ _ _ _ hcH hxc; omega
  | some pc =>
    obtain ⟨bc, zc⟩ := pc
    obtain ⟨vs, tyc, hvs, hzc, hnc, hrc⟩ := hw.arr _ _ _ _ _ _ hcH hxc
    obtain ⟨uc, huc, hrel⟩ := hrc 0 0 (.ptr sz b 0 0) Nat.one_pos (by rw [hf]; rfl)
    obtain ⟨cb, z, hu, hx⟩ := hrel.ptr_inv
    have hL : Live H ρ cb := ⟨b, _, hb, by simp, z, hx⟩
    have hI := know_le (o := w.heap[cb]?) (hw.apart cb hL)
    obtain ⟨us, ty, hcs, hz, hn, hr⟩ := hw.arr _ _ _ _ _ _ hb hx
    have hcell : ∀ (j : Nat) x, cs[j]? = some x → ∃ u, us[j]? = some u ∧ VRel I ρ x u := fun j x hj => by
      have hlt := (List.getElem?_eq_some_iff.1 hj).1
      obtain ⟨u, h3, h4⟩ := hr 0 j x Nat.one_pos (by show (cs ++ ds)[j]? = _; rw [List.getElem?_append_left hlt]; exact hj)
      exact ⟨u, by simpa using h3, h4⟩
    have href0 : VRel (know I cb (w.heap[cb]?)) ρ (.ref (.agg cs) 0) (.pointer (some ⟨cb, 0 * sz + 0, none⟩)) := by
      rw [Nat.zero_mul]
      refine .ref (us := fun j => us.getD j undef) ⟨us, ty, (0, 0), by rw [know_at]; exact hcs, fun j hj => ?_⟩ fun j x hj => ?_
      · have hj : j < cs.length := hj
        obtain ⟨u, h3, _⟩ := hcell j cs[j] (by simp [hj])
        simp [h3]
      · have hj : cs[j]? = some x := hj
        obtain ⟨u, h3, h4⟩ := hcell j x hj
        rw [show us.getD j undef = u by simp [h3]]
        exact (h4.close (closed_all hc hj)).mono hI (Pre.refl _)
    have href : VRel (know I cb (w.heap[cb]?)) ρ (.ref (.agg cs) 0) uc := by rw [hu]; exact href0
    have hw2 := hw.forget hb (by simp) hx
    have hw3 := hw2.write (w' := w) (k := c) (g := fun _ => .ref (.agg cs) 0) (by rw [List.getElem?_set_ne hne]; exact hcH) hxc hzc (fun _ _ => rfl) (fun i j v hi hj => by
      obtain rfl : i = 0 := by omega
      cases j with
      | zero =>
        have hj : some (V.ref (.agg cs) 0) = some v := hj
        cases hj
        exact ⟨uc, by simpa using huc, href⟩
      | succ j => cases hj) hvs (fun _ _ => rfl) rfl rfl rfl rfl
    refine ⟨know I cb (w.heap[cb]?), ρ, hI, ⟨⟨hE.1, fun t' v hv => ?_⟩, hw3, hd.mono hI⟩, fun y hy => ?_⟩
    · rw [look_cons] at hv
      split at hv
      · rename_i e
        subst e
        cases hv
        obtain ⟨h1, h2⟩ := hE.2 t _ ht
        obtain ⟨cb2, z2, hu2, hx2⟩ := h2.ptr_inv
        rw [hx] at hx2
        cases hx2
        exact ⟨h1, by rw [hu2]; exact href0⟩
      · obtain ⟨h3, h4⟩ := hE.2 t' v hv
        exact ⟨h3, h4.mono hI (Pre.refl _)⟩
    obtain ⟨y1, y2, y3⟩ := hy
    have hcl : c < (H.set b Blk.dead).length := by rw [List.length_set, ← hw.len]; exact hlt
    refine ⟨fun c o hc => y1 c o (hI c o hc), fun k sz' n' f' b' z' hk hρ o ho => ?_, fun k mm b' z' hk hρ => ?_⟩
    · by_cases e : k = b
      · subst e
        rw [hx] at hρ
        cases hρ
        have := y1 cb _ (by rw [know_at]; exact hcs)
        simp [World.cell?, this, hcs]
      · by_cases e2 : k = c
        · subst e2
          rw [hcH] at hk
          cases hk
          exact y2 k 1 1 (fun _ => .ref (.agg cs) 0) b' z' (List.getElem?_set_self hcl) hρ o ho
        · exact y2 k sz' n' f' b' z' (by rw [List.getElem?_set_ne (Ne.symm e2), List.getElem?_set_ne (Ne.symm e)]; exact hk) hρ o ho
    · refine y3 k mm b' z' ?_ hρ
      by_cases e : k = b
      · subst e; rw [hb] at hk; cases hk
      · by_cases e2 : k = c
        · subst e2; rw [hcH] at hk; cases hk
        · rw [List.getElem?_set_ne (Ne.symm e2), List.getElem?_set_ne (Ne.symm e)]; exact hk
/-- A block that cannot be avs it is said. -/
theorem aw_bad {P : Program} {r : Option Nat} {m nt b sz n i : Nat} {f : Nat → V} {c : Code} {Q : Post} {env : Env} {H : Heap} (hH : H[b]? = some (.arr sz n f)) (hi : i < n) (hs : (f i).cells.length ≠ sz) : AW P r m nt c Q env H := .mk fun X I ρ a w _ hst => absurd (hst.2.1.size _ _ _ _ hH i hi) hs
/-- Three results in variables of ours. -/
theorem bq3k {P : Program} {env : Env} {H : Heap} {R Rp : V → Heap → Prop} {a1 a2 a3 b1 b2 b3 : Nat} {v1 v2 v3 : V} {T1 T2 T3 : TypeId} {d1 d2 d3 : TyD} {f1 f2 f3 : Nat → V} (hT1 : TyIs P T1 d1) (hT2 : TyIs P T2 d2) (hT3 : TyIs P T3 d3)
    (l1 : look env a1 = some (.ptr 1 b1 0 0)) (l2 : look env a2 = some (.ptr 1 b2 0 0)) (l3 : look env a3 = some (.ptr 1 b3 0 0)) (g1 : H[b1]? = some (.arr 1 1 f1)) (g2 : H[b2]? = some (.arr 1 1 f2)) (g3 : H[b3]? = some (.arr 1 1 f3))
    (p1 : partV d1.tk.agg (f1 0).cells 0 d1.size = some v1) (p2 : partV d2.tk.agg (f2 0).cells 0 d2.size = some v2) (p3 : partV d3.tk.agg (f3 0).cells 0 d3.size = some v3) (hR : R (.tup [v1, v2, v3]) H) : BodyQ P #[.cell a1 T1, .cell a2 T2, .cell a3 T3] R Rp .ret env H :=
  ⟨_, .inr (.inr (.inr (.inl ⟨_, _, _, _, _, _, rfl, ⟨d1, 1, b1, 0, 0, 1, f1, hT1, l1, g1, Nat.one_pos, p1⟩, ⟨d2, 1, b2, 0, 0, 1, f2, hT2, l2, g2, Nat.one_pos, p2⟩, ⟨d3, 1, b3, 0, 0, 1, f3, hT3, l3, g3, Nat.one_pos, p3⟩, rfl⟩))), hR⟩
end Go.Proofs.Ytbilpbabdgfblaa
namespace Go.Proofs.Ytbilpbabdgfblaa
open Go.RowKit
def hseC (h : Hse) : List V := [vi h.per, vi h.day, vi h.store.life, encItems h.store.items, encPrints h.store.prints, encDsns h.designs, encLics h.lics, encOrders h.orders, encInts h.made, encInts h.fors]
set_option maxHeartbeats 1000000 in
theorem growths_p (h : Hse) : PCalls Try.prog 21 [.ref h.enc 0] (· = .fn (.func 42) [] [.ref (.ref h.enc 0) 0]) := by
  refine pcalls_of_aw Try.func21 rfl (Nat.le_of_ble_eq_true rfl) ?_
  (repeat' (first | (refine ar_isq ?_; first | refine zas ?_ | refine zmf ?_) | (refine zbx ?_) | (refine ar_nil ?_) | (refine aw_seq ?_) | (refine aw_skip ?_) | (refine aw_block ?_) | (refine aw_exit ?_) | (refine aw_region ?_) | (refine zco ?_ ?_ <;> intro hg <;> first | exact absurd hg (by decide) | ((try replace hg := HG.out hg); (try dsimp only at hg); (try (have _h : True := hg; clear _h hg)); first | (exfalso; omega) | skip))))
  (refine aw_mono_r (env' := [(2, .fn (.func 42) [] [.ref (.ref h.enc 0) 0])]) (H' := []) ?_ ?_; (focus ((refine sub_to [] [0] rfl ?_ ?_ <;> (repeat' (first | exact trivial | refine ⟨⟨_, rfl, ?_⟩, ?_⟩ | refine ⟨bsub_snoc rfl rfl (fun _ => rfl) ?_, ?_⟩ | refine ⟨bsub_one rfl rfl ?_, ?_⟩ | refine ⟨bsub_all rfl rfl (fun _ _ => rfl) (fun _ => rfl), ?_⟩ | refine ⟨bsub_updL rfl rfl ?_ (fun _ _ _ => rfl) (fun _ => rfl), ?_⟩ | refine ⟨.inl ⟨_, _, rfl, rfl, ?_⟩, ?_⟩ | exact ⟨.inr ⟨rfl, rfl⟩, trivial⟩ | refine ⟨.inr ⟨rfl, rfl⟩, ?_⟩ | (intro _ _) | exact vz1 | (exact fn1_sub (frzPtr' (by simp) rfl (by omega) rfl rfl)) | exact vz2 | fail))); done)))
  (refine aw_ret ?_; (repeat (first | refine ret_then ?_ | refine ret_block ?_)); refine bq1 rfl ⟨?_, rfl⟩)
  rfl
def vnp : V := .s (.pointer none)
def inPrints (h : Hse) (n : Int) : Prop := 0 ≤ n ∧ n < (h.store.prints.length : Int)
instance (h : Hse) (n : Int) : Decidable (inPrints h n) := by unfold inPrints; infer_instance
open Classical in
/-- What asking for a print answers. -/
noncomputable def askE (h : Hse) (n : Int) : Int := if HValid h then if inPrints h n then 0 else 6 else 100
theorem askE_ok {h : Hse} {n : Int} (hV : HValid h) (hn : inPrints h n) : askE h n = 0 := by unfold askE; rw [if_pos hV, if_pos hn]
theorem askE_none {h : Hse} {n : Int} (hV : HValid h) (hn : ¬ inPrints h n) : askE h n = 6 := by unfold askE; rw [if_pos hV, if_neg hn]
theorem askE_bad {h : Hse} {n : Int} (hV : ¬ HValid h) : askE h n = 100 := by unfold askE; rw [if_neg hV]
def FindR (h : Hse) (n : Int) (v : V) : Prop := (HValid h ∧ inPrints h n ∧ v = .tup [.ref h.enc 0, vi (growF h n.toNat), vi 0]) ∨ (¬ (HValid h ∧ inPrints h n) ∧ v = .tup [vnp, vi 0, vi (askE h n)])
/-- The search's memory in round k. -/
def findG (n : Int) (h : Hse) (k : Nat) : Heap := [.arr 1 1 (fun _ => vi n), .arr 1 1 (fun _ => vnp), .arr 1 1 (fun _ => vi 0), .arr 1 1 (fun _ => vi 0), .dead, .dead, .arr 1 1 (fun _ => if (k : Int) ≤ n ∨ n < 0 then .ref h.enc 0 else .agg [])]
theorem findG_at {n : Int} {h : Hse} {k : Nat} (hk : (k : Int) ≤ n ∨ n < 0) : findG n h k = [.arr 1 1 (fun _ => vi n), .arr 1 1 (fun _ => vnp), .arr 1 1 (fun _ => vi 0), .arr 1 1 (fun _ => vi 0), .dead, .dead, .arr 1 1 (fun _ => .ref h.enc 0)] := by unfold findG; rw [if_pos hk]
set_option maxHeartbeats 4000000 in
theorem find_p (h : Hse) (n : Int) (hs : HSmall h) (hw : StOk h.store) : PCalls Try.prog 27 [h.enc, vi n] (FindR h n) := by
  refine pcalls_of_aw Try.func27 rfl (Nat.le_of_ble_eq_true rfl) ?_
  (repeat' (first | (refine ar_isq ?_; first | refine zmv ?_ | refine zas ?_ | (refine is_load ?_; first | refine zlp ?_ | refine zlr ?_) | refine zeql ?_ | refine zex ?_ | refine znt ?_) | ((refine ar_gcall0 fn19 rfl rfl [h.enc] ⟨.closed rfl, trivial⟩ (hvalid_p h hs hw) (dc rfl) ?_ (fun _ _ h => h.elim); rintro _ _ (⟨hv, rfl, m, ht, rfl⟩ | ⟨hv, rfl, rfl⟩) <;> (try rw [shoB_ren]))) | (refine zbx ?_) | (refine zal ?_) | (refine zsvs ?_) | (refine zsva ?_) | (refine zses ?_) | (refine zsea ?_) | (refine ar_nil ?_) | (refine aw_seq ?_) | (refine aw_skip ?_) | (refine aw_block ?_) | (refine aw_exit ?_) | (refine aw_region ?_) | (refine zco ?_ ?_ <;> intro hg <;> first | exact absurd hg (by decide) | ((try replace hg := HG.out hg); (try dsimp only at hg); (try (have _h : True := hg; clear _h hg)); first | (exfalso; omega) | skip))))
  · (refine ar_sub_l (env' := [(3, .ptr 1 0 0 0), (4, .ptr 1 1 0 0), (5, .ptr 1 2 0 0), (6, .ptr 1 3 0 0), (7, .ptr 1 6 0 0), (18, .ptr 11 4 0 0)]) (H' := [.arr 1 1 (fun _ => vi n), .arr 1 1 (fun _ => vnp), .arr 1 1 (fun _ => vi 0), .arr 1 1 (fun _ => vi 0), .arr 11 1 (fun _ => .agg (hseC h ++ [.map 5])), mapE Tal.enc m, .arr 1 1 (fun _ => .ptr 11 4 0 0)]) ?_ ?_; (focus ((refine sub_to [some 1, some 2, some 3, some 4, some 5, some 13, some 14] [6, 7, 8, 9, 10, 11, 12] rfl ?_ ?_ <;> (repeat' (first | exact trivial | refine ⟨⟨_, rfl, ?_⟩, ?_⟩ | refine ⟨bsub_snoc rfl rfl (fun _ => rfl) ?_, ?_⟩ | refine ⟨bsub_one rfl rfl ?_, ?_⟩ | refine ⟨bsub_all rfl rfl (fun _ _ => rfl) (fun _ => rfl), ?_⟩ | refine ⟨bsub_updL rfl rfl ?_ (fun _ _ _ => rfl) (fun _ => rfl), ?_⟩ | refine ⟨.inl ⟨_, _, rfl, rfl, ?_⟩, ?_⟩ | exact ⟨.inr ⟨rfl, rfl⟩, trivial⟩ | refine ⟨.inr ⟨rfl, rfl⟩, ?_⟩ | (intro _ _) | exact vz1 | (first | exact (VSub.ptr (b := 5) rfl : VSub _ _ _ (.ptr 11 5 0 0) (.ptr 11 4 0 0)) | refine ⟨bsub_mapE rfl rfl (fun _ => rfl), ?_⟩ | exact VSub.aggL ⟨.closed rfl, .closed rfl, .closed rfl, frzLB (by first | decide | (simp; done)) rfl (fun _ => rfl) rfl, frzLB (by first | decide | (simp; done)) rfl (fun _ => rfl) rfl, frzLB (by first | decide | (simp; done)) rfl (fun _ => rfl) rfl, frzLB (by first | decide | (simp; done)) rfl (fun _ => rfl) rfl, frzLB (by first | decide | (simp; done)) rfl (fun _ => rfl) rfl, frzLB (by first | decide | (simp; done)) rfl (fun _ => rfl) rfl, frzLB (by first | decide | (simp; done)) rfl (fun _ => rfl) rfl, .map rfl, trivial⟩) | exact vz2 | fail))); done)))
    refine ar_subk_l (sub_preC (t := 18) (b := 4) (c := 6) (hseC h) [.map 5] rfl rfl rfl (by omega) rfl rfl) ?_
    (repeat' (first | (refine ar_isq ?_; first | refine zmv ?_ | refine zas ?_ | (refine is_load ?_; first | refine zlp ?_ | refine zlr ?_) | refine zeql ?_ | refine zex ?_ | refine znt ?_) | (refine ar_pcall (own := false) fn21 rfl rfl (.cons (.closed rfl) .nil) (growths_p h) (by simp) (dc rfl) ?_; intro _ hv; subst hv) | (refine zbx ?_) | (refine zal ?_) | (refine zsvs ?_) | (refine zsva ?_) | (refine zses ?_) | (refine zsea ?_) | (refine ar_nil ?_) | (refine aw_seq ?_) | (refine aw_skip ?_) | (refine aw_block ?_) | (refine aw_exit ?_) | (refine aw_region ?_) | (refine zco ?_ ?_ <;> intro hg <;> first | exact absurd hg (by decide) | ((try replace hg := HG.out hg); (try dsimp only at hg); (try (have _h : True := hg; clear _h hg)); first | (exfalso; omega) | skip))))
    refine aw_rangeX (findG n h) _ rfl rfl fn42 (Im.growths_iter h hv) (fun _ _ => rfl) (by decide) (fun k _ => rfl) ?maps ?start ?round ?done
    case maps => intro k j ms; match j with | 0 | 1 | 2 | 3 | 4 | 5 | 6 => simp [findG] | j + 7 => simp [findG]
    case start =>
      rw [findG_at (by omega)]
      (refine sub_to [some 0, some 1, some 2, some 3, some 4, some 5, some 6] [] rfl ?_ ?_ <;> (repeat' (first | exact trivial | refine ⟨⟨_, rfl, ?_⟩, ?_⟩ | refine ⟨bsub_snoc rfl rfl (fun _ => rfl) ?_, ?_⟩ | refine ⟨bsub_one rfl rfl ?_, ?_⟩ | refine ⟨bsub_all rfl rfl (fun _ _ => rfl) (fun _ => rfl), ?_⟩ | refine ⟨bsub_updL rfl rfl ?_ (fun _ _ _ => rfl) (fun _ => rfl), ?_⟩ | refine ⟨.inl ⟨_, _, rfl, rfl, ?_⟩, ?_⟩ | exact ⟨.inr ⟨rfl, rfl⟩, trivial⟩ | refine ⟨.inr ⟨rfl, rfl⟩, ?_⟩ | (intro _ _) | exact vz1 | (refine ⟨trivial, ?_⟩) | exact vz2 | fail)))
    case round =>
      intro k lp hk
      by_cases hin : (k : Int) ≤ n ∨ n < 0
      · have hG : findG n h k = [.arr 1 1 (fun _ => vi n), .arr 1 1 (fun _ => vnp), .arr 1 1 (fun _ => vi 0), .arr 1 1 (fun _ => vi 0), .dead, .dead, .arr 1 1 (fun _ => .ref h.enc 0)] := by unfold findG; rw [if_pos hin]
        rw [hG]
        (repeat' (first | (refine ar_isq ?_; first | refine zmv ?_ | refine zas ?_ | (refine is_load ?_; first | refine zlp ?_ | refine zlr ?_) | refine zeql ?_ | refine zex ?_ | refine znt ?_) | (refine zbx ?_) | (refine zal ?_) | (refine zsvs ?_) | (refine zsva ?_) | (refine zses ?_) | (refine zsea ?_) | (refine ar_nil ?_) | (refine aw_seq ?_) | (refine aw_skip ?_) | (refine aw_block ?_) | (refine aw_exit ?_) | (refine aw_region ?_) | (refine zco ?_ ?_ <;> intro hg <;> first | exact absurd hg (by decide) | ((try replace hg := HG.out hg); (try dsimp only at hg); (try (have _h : True := hg; clear _h hg)); first | (exfalso; omega) | skip))))
        · obtain rfl : n = (k : Int) := by omega
          refine aw_ret ?_
          (repeat (first | refine ret_then ?_ | refine ret_block ?_))
          refine ⟨[.arr 1 1 (fun _ => vi k), .arr 1 1 (fun _ => .ref h.enc 0), .arr 1 1 (fun _ => vi (growF h k)), .arr 1 1 (fun _ => vi 0), .dead, .dead, .arr 1 1 (fun _ => .ref h.enc 0)], ?_, ?_, ?_⟩
          · intro j ms; match j with | 0 | 1 | 2 | 3 | 4 | 5 | 6 => simp | j + 7 => simp
          · (refine sub_to [some 0, some 1, some 2, some 3, some 4, some 5, some 6] [] rfl ?_ ?_ <;> (repeat' (first | exact trivial | refine ⟨⟨_, rfl, ?_⟩, ?_⟩ | refine ⟨bsub_snoc rfl rfl (fun _ => rfl) ?_, ?_⟩ | refine ⟨bsub_one rfl rfl ?_, ?_⟩ | refine ⟨bsub_all rfl rfl (fun _ _ => rfl) (fun _ => rfl), ?_⟩ | refine ⟨bsub_updL rfl rfl ?_ (fun _ _ _ => rfl) (fun _ => rfl), ?_⟩ | refine ⟨.inl ⟨_, _, rfl, rfl, ?_⟩, ?_⟩ | exact ⟨.inr ⟨rfl, rfl⟩, trivial⟩ | refine ⟨.inr ⟨rfl, rfl⟩, ?_⟩ | (intro _ _) | exact vz1 | (refine ⟨trivial, ?_⟩) | exact vz2 | fail)))
          · (repeat (first | refine ret_then ?_ | refine ret_block ?_))
            exact bq3k (ty rfl) (ty rfl) (ty rfl) rfl rfl rfl rfl rfl rfl rfl rfl rfl ⟨.inl ⟨hv, ⟨by omega, by omega⟩, by rw [Int.toNat_natCast]⟩, rfl⟩
        · refine (show SubOf _ _ _ _ _ _ from ?_)
          rw [findG_at (by omega)]
          (refine sub_to [some 0, some 1, some 2, some 3, some 4, some 5, some 6] [] rfl ?_ ?_ <;> (repeat' (first | exact trivial | refine ⟨⟨_, rfl, ?_⟩, ?_⟩ | refine ⟨bsub_snoc rfl rfl (fun _ => rfl) ?_, ?_⟩ | refine ⟨bsub_one rfl rfl ?_, ?_⟩ | refine ⟨bsub_all rfl rfl (fun _ _ => rfl) (fun _ => rfl), ?_⟩ | refine ⟨bsub_updL rfl rfl ?_ (fun _ _ _ => rfl) (fun _ => rfl), ?_⟩ | refine ⟨.inl ⟨_, _, rfl, rfl, ?_⟩, ?_⟩ | exact ⟨.inr ⟨rfl, rfl⟩, trivial⟩ | refine ⟨.inr ⟨rfl, rfl⟩, ?_⟩ | (intro _ _) | exact vz1 | (refine ⟨trivial, ?_⟩) | exact vz2 | fail)))
      · exact aw_bad (b := 6) (i := 0) rfl Nat.one_pos (by rw [if_neg hin]; decide)
    case done =>
      by_cases hin : (h.store.prints.length : Int) ≤ n ∨ n < 0
      · have hG : findG n h h.store.prints.length = [.arr 1 1 (fun _ => vi n), .arr 1 1 (fun _ => vnp), .arr 1 1 (fun _ => vi 0), .arr 1 1 (fun _ => vi 0), .dead, .dead, .arr 1 1 (fun _ => .ref h.enc 0)] := by unfold findG; rw [if_pos hin]
        rw [hG]
        have hno : ¬ inPrints h n := by unfold inPrints; omega
        (repeat' (first | (refine ar_isq ?_; first | refine zmv ?_ | refine zas ?_ | (refine is_load ?_; first | refine zlp ?_ | refine zlr ?_) | refine zeql ?_ | refine zex ?_ | refine znt ?_) | (refine zbx ?_) | (refine zal ?_) | (refine zsvs ?_) | (refine zsva ?_) | (refine zses ?_) | (refine zsea ?_) | (refine ar_nil ?_) | (refine aw_seq ?_) | (refine aw_skip ?_) | (refine aw_block ?_) | (refine aw_exit ?_) | (refine aw_region ?_) | (refine zco ?_ ?_ <;> intro hg <;> first | exact absurd hg (by decide) | ((try replace hg := HG.out hg); (try dsimp only at hg); (try (have _h : True := hg; clear _h hg)); first | (exfalso; omega) | skip))))
        refine aw_ret ?_
        (repeat (first | refine ret_then ?_ | refine ret_block ?_))
        exact bq3k (ty rfl) (ty rfl) (ty rfl) rfl rfl rfl rfl rfl rfl rfl rfl rfl ⟨.inr ⟨fun h => hno h.2, by rw [askE_none hv hno]; rfl⟩, rfl⟩
      · refine (show AW Try.prog none 0 _ _ _ _ _ from ?_)
        exact aw_bad (b := 6) (i := 0) rfl Nat.one_pos (by rw [if_neg hin]; decide)
  · refine aw_ret ?_
    (repeat (first | refine ret_then ?_ | refine ret_block ?_))
    exact bq3k (ty rfl) (ty rfl) (ty rfl) rfl rfl rfl rfl rfl rfl rfl rfl rfl ⟨.inr ⟨fun h => hv h.1, by rw [askE_bad hv]; rfl⟩, rfl⟩
end Go.Proofs.Ytbilpbabdgfblaa
