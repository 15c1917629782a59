/- Parts of the proof: a layer of values over the model, and contracts of functions. No condition. -/
import Derived.Test.YtccidiflnmchiaaKOb7
namespace Go.Proofs.Ytccidiflnmchiaa
open Go.RowKit
set_option maxHeartbeats 1000000 in
theorem lInk_p (s : Sheet) (b : List (List Int)) : PCalls Try.prog 26 [s.enc, encRows b] (· = .tup [encBools (inkF s b), vi (checkErr s b)]) := by
  by_cases hce : checkErr s b = 0
  · obtain ⟨hs, h12, hl⟩ := band_of_check hce
    have hbd := Sheet.bounds hs
    have hpl := paintF_len s b
    rw [show inkF s b = inkTo s b s.rows.toNat by unfold inkF; rw [if_pos hce]]
    refine pcalls_of_aw Try.func26 rfl (Nat.le_of_ble_eq_true rfl) ?_
    (repeat' (first | (refine ar_isq ?_; first | refine zmv ?_ | refine zas ?_ | (refine is_load ?_; first | refine zlp ?_ | refine zlr ?_) | (refine is_binOp ?_; first | refine zlss ?_ | refine zneq ?_ | refine zadd ?_) | (refine is_fieldAddr ?_; first | refine zfp ?_ | refine zfr ?_) | (refine is_indexAddr ?_; first | refine zil ?_ | refine zis ?_ | refine zit ?_ | refine zia ?_ | refine zir ?_ | (refine zxl ?_; intro _ _ _) | (refine zxs ?_; intro _ _ _)) | (refine is_call ?_; first | refine zll ?_ | refine zls ?_ | refine zln ?_ | refine zle ?_)) | (refine ar_pcall (own := false) fn30 rfl rfl (.cons (.closed rfl) (.cons (.closed rfl) .nil)) (check_p s b) (by simp) (dc rfl) ?_; intro _ hv; subst hv) | (refine ar_pcall (own := false) fn68 rfl rfl (.cons (.closed rfl) (.cons (.closed rfl) .nil)) (paint_p s hs b h12 hl) (by simp) (dc rfl) ?_; intro _ hv; subst hv) | (refine zbx ?_) | (refine zb1 ?_) | (refine zb0 ?_) | (refine zapoo ?_) | (refine zapol ?_) | (refine zapno ?_) | (refine zapnl ?_) | (refine zapeo ?_) | (refine zapel ?_) | (refine ar_nil ?_) | (refine aw_seq ?_) | (refine aw_skip ?_) | (refine aw_block ?_) | (refine aw_exit ?_) | (refine aw_region ?_) | (refine zco ?_ ?_ <;> intro hg <;> first | exact absurd hg (by decide) | ((try replace hg := HG.out hg); (try dsimp only at hg); (try (have _h : True := hg; clear _h hg)); first | (exfalso; omega) | skip))))
    all_goals (try (exfalso; omega))
    refine aw_for s.rows.toNat (fun _ => True) (fun k => [(1, encRows b), (2, .ptr 5 0 0 0), (8, encCols (paintF s b)), (22, vi s.rows), (7, .sl 1 1 0 (inkTo s b k).length), (23, vi k)]) (fun k => [.arr 5 1 (fun _ => s.enc), LB 1 vb (inkTo s b k)]) trivial ?_ ?_
    · (refine sub_to [some 0, none] [] rfl ?_ ?_ <;> (repeat' (first | exact trivial | refine ⟨⟨_, rfl, ?_⟩, ?_⟩ | refine ⟨bsub_snoc rfl rfl (fun _ => rfl) ?_, ?_⟩ | refine ⟨bsub_one rfl rfl ?_, ?_⟩ | refine ⟨bsub_all rfl rfl (fun _ _ => rfl) (fun _ => rfl), ?_⟩ | refine ⟨bsub_updL rfl rfl ?_ (fun _ _ _ => rfl) (fun _ => rfl), ?_⟩ | refine ⟨.inl ⟨_, _, rfl, rfl, ?_⟩, ?_⟩ | exact ⟨.inr ⟨rfl, rfl⟩, trivial⟩ | refine ⟨.inr ⟨rfl, rfl⟩, ?_⟩ | (intro _ _) | exact .closed rfl | exact .sl rfl | exact .ptr rfl | exact .map rfl | exact .nil rfl | exact .emp rfl | exact .nilList | exact .empList | exact frzPtr' (by simp; done) rfl (by omega) rfl rfl | exact frzLB (by simp; done) rfl (fun _ => rfl) rfl | exact frz_all (by simp; done) rfl (fun _ _ => rfl) (fun _ => rfl) rfl | exact .frz (by simp; done) rfl (by omega) (fun _ _ => rfl) (fun _ _ => rfl) | exact slEq rfl (by first | (simp; done) | (simp; omega)) | exact siEq (by omega) | exact .of_eq (by refine (show V.agg _ = V.agg _ from ?_); (try dsimp only); congr <;> first | rfl | omega) rfl | exact .closed (by simp [V.closed, V.closed.all, *]; done) | fail)))
    intro k hk _
    have hlen := inkTo_len s b k
    have hk60 : k * s.cols.toNat ≤ 60 * 40 := Nat.mul_le_mul (by omega) (by omega)
    by_cases hlt : k < s.rows.toNat
    · (repeat' (first | (refine ar_isq ?_; first | refine zmv ?_ | refine zas ?_ | (refine is_load ?_; first | refine zlp ?_ | refine zlr ?_) | (refine is_binOp ?_; first | refine zlss ?_ | refine zneq ?_ | refine zadd ?_) | (refine is_fieldAddr ?_; first | refine zfp ?_ | refine zfr ?_) | (refine is_indexAddr ?_; first | refine zil ?_ | refine zis ?_ | refine zit ?_ | refine zia ?_ | refine zir ?_ | (refine zxl ?_; intro _ _ _) | (refine zxs ?_; intro _ _ _)) | (refine is_call ?_; first | refine zll ?_ | refine zls ?_ | refine zln ?_ | refine zle ?_)) | (refine zbx ?_) | (refine zb1 ?_) | (refine zb0 ?_) | (refine zapoo ?_) | (refine zapol ?_) | (refine zapno ?_) | (refine zapnl ?_) | (refine zapeo ?_) | (refine zapel ?_) | (refine ar_nil ?_) | (refine aw_seq ?_) | (refine aw_skip ?_) | (refine aw_block ?_) | (refine aw_exit ?_) | (refine aw_region ?_) | (refine zco ?_ ?_ <;> intro hg <;> first | exact absurd hg (by decide) | ((try replace hg := HG.out hg); (try dsimp only at hg); (try (have _h : True := hg; clear _h hg)); first | (exfalso; omega) | skip))))
      all_goals (try (exfalso; omega))
      refine aw_for s.cols.toNat (fun _ => True) (fun j => [(1, encRows b), (2, .ptr 5 0 0 0), (8, encCols (paintF s b)), (22, vi s.rows), (7, .sl 1 1 0 (inkTo s b k ++ inkRow s b j k).length), (23, vi k), (9, vi k), (26, encCols (paintF s b)), (27, vi (paintF s b).length), (28, vi j)]) (fun j => [.arr 5 1 (fun _ => s.enc), LB 1 vb (inkTo s b k ++ inkRow s b j k)]) trivial ?_ ?_
      · rw [show inkTo s b k ++ inkRow s b 0 k = inkTo s b k by simp [inkRow]]
        (refine sub_to [some 0, some 1] [] rfl ?_ ?_ <;> (repeat' (first | exact trivial | refine ⟨⟨_, rfl, ?_⟩, ?_⟩ | refine ⟨bsub_snoc rfl rfl (fun _ => rfl) ?_, ?_⟩ | refine ⟨bsub_one rfl rfl ?_, ?_⟩ | refine ⟨bsub_all rfl rfl (fun _ _ => rfl) (fun _ => rfl), ?_⟩ | refine ⟨bsub_updL rfl rfl ?_ (fun _ _ _ => rfl) (fun _ => rfl), ?_⟩ | refine ⟨.inl ⟨_, _, rfl, rfl, ?_⟩, ?_⟩ | exact ⟨.inr ⟨rfl, rfl⟩, trivial⟩ | refine ⟨.inr ⟨rfl, rfl⟩, ?_⟩ | (intro _ _) | exact .closed rfl | exact .sl rfl | exact .ptr rfl | exact .map rfl | exact .nil rfl | exact .emp rfl | exact .nilList | exact .empList | exact frzPtr' (by simp; done) rfl (by omega) rfl rfl | exact frzLB (by simp; done) rfl (fun _ => rfl) rfl | exact frz_all (by simp; done) rfl (fun _ _ => rfl) (fun _ => rfl) rfl | exact .frz (by simp; done) rfl (by omega) (fun _ _ => rfl) (fun _ _ => rfl) | exact slEq rfl (by first | (simp; done) | (simp; omega)) | exact siEq (by omega) | exact .of_eq (by refine (show V.agg _ = V.agg _ from ?_); (try dsimp only); congr <;> first | rfl | omega) rfl | exact .closed (by simp [V.closed, V.closed.all, *]; done) | fail)))
      intro j hj _
      have hlen2 : (inkTo s b k ++ inkRow s b j k).length = k * s.cols.toNat + j := by rw [List.length_append, hlen, inkRow_len]
      by_cases hltj : j < s.cols.toNat
      · have hcl : (el (paintF s b) j).length = s.rows.toNat := by rw [paintF_el hltj, colF_len]
        have hv : el (el (paintF s b) j) k = dotB s b k j := by rw [paintF_el hltj, colF_el hlt]
        (repeat' (first | (refine ar_isq ?_; first | refine zmv ?_ | refine zas ?_ | (refine is_load ?_; first | refine zlp ?_ | refine zlr ?_) | (refine is_binOp ?_; first | refine zlss ?_ | refine zneq ?_ | refine zadd ?_) | (refine is_fieldAddr ?_; first | refine zfp ?_ | refine zfr ?_) | (refine is_indexAddr ?_; first | refine zil ?_ | refine zis ?_ | refine zit ?_ | refine zia ?_ | refine zir ?_ | refine zil (j := j) ?_ | refine zis (j := j) ?_ | refine zit (j := j) ?_ | refine zil (j := k) ?_ | refine zis (j := k) ?_ | refine zit (j := k) ?_ | (refine zxl ?_; intro _ _ _) | (refine zxs ?_; intro _ _ _)) | (refine is_call ?_; first | refine zll ?_ | refine zls ?_ | refine zln ?_ | refine zle ?_)) | (refine zbx ?_) | (refine zb1 ?_) | (refine zb0 ?_) | (refine zapoo ?_) | (refine zapol ?_) | (refine zapno ?_) | (refine zapnl ?_) | (refine zapeo ?_) | (refine zapel ?_) | (refine ar_nil ?_) | (refine aw_seq ?_) | (refine aw_skip ?_) | (refine aw_block ?_) | (refine aw_exit ?_) | (refine aw_region ?_) | (refine zco ?_ ?_ <;> intro hg <;> first | exact absurd hg (by decide) | ((try replace hg := HG.out hg); (try dsimp only at hg); (try (have _h : True := hg; clear _h hg)); first | (exfalso; omega) | skip))))
        all_goals first
          | (exfalso; omega)
          | (rw [inkRow_succ, ← List.append_assoc]; ((first | refine loop_next (by omega) ?_ ?_ | refine (show _ ∧ _ ∧ SubOf _ _ _ _ _ _ from And.intro (by omega) (And.intro ?_ ?_))); (focus ((trivial); done)); (focus ((refine sub_to [some 0, some 3] [] rfl ?_ ?_ <;> (repeat' (first | exact trivial | refine ⟨⟨_, rfl, ?_⟩, ?_⟩ | refine ⟨bsub_snoc rfl rfl (fun _ => rfl) ?_, ?_⟩ | refine ⟨bsub_one rfl rfl ?_, ?_⟩ | refine ⟨bsub_all rfl rfl (fun _ _ => rfl) (fun _ => rfl), ?_⟩ | refine ⟨bsub_updL rfl rfl ?_ (fun _ _ _ => rfl) (fun _ => rfl), ?_⟩ | refine ⟨.inl ⟨_, _, rfl, rfl, ?_⟩, ?_⟩ | exact ⟨.inr ⟨rfl, rfl⟩, trivial⟩ | refine ⟨.inr ⟨rfl, rfl⟩, ?_⟩ | (intro _ _) | exact .closed rfl | exact .sl rfl | exact .ptr rfl | exact .map rfl | exact .nil rfl | exact .emp rfl | exact .nilList | exact .empList | exact frzPtr' (by simp; done) rfl (by omega) rfl rfl | exact frzLB (by simp; done) rfl (fun _ => rfl) rfl | exact frz_all (by simp; done) rfl (fun _ _ => rfl) (fun _ => rfl) rfl | exact .frz (by simp; done) rfl (by omega) (fun _ _ => rfl) (fun _ _ => rfl) | exact slEq rfl (by first | (simp; done) | (simp; omega)) | exact siEq (by omega) | (exact VSub.of_eq (congrArg vb hv) rfl) | exact .of_eq (by refine (show V.agg _ = V.agg _ from ?_); (try dsimp only); congr <;> first | rfl | omega) rfl | exact .closed (by simp [V.closed, V.closed.all, *]; done) | fail))); done))))
      · (repeat' (first | (refine ar_isq ?_; first | refine zmv ?_ | refine zas ?_ | (refine is_load ?_; first | refine zlp ?_ | refine zlr ?_) | (refine is_binOp ?_; first | refine zlss ?_ | refine zneq ?_ | refine zadd ?_) | (refine is_fieldAddr ?_; first | refine zfp ?_ | refine zfr ?_) | (refine is_indexAddr ?_; first | refine zil ?_ | refine zis ?_ | refine zit ?_ | refine zia ?_ | refine zir ?_ | (refine zxl ?_; intro _ _ _) | (refine zxs ?_; intro _ _ _)) | (refine is_call ?_; first | refine zll ?_ | refine zls ?_ | refine zln ?_ | refine zle ?_)) | (refine zbx ?_) | (refine zb1 ?_) | (refine zb0 ?_) | (refine zapoo ?_) | (refine zapol ?_) | (refine zapno ?_) | (refine zapnl ?_) | (refine zapeo ?_) | (refine zapel ?_) | (refine ar_nil ?_) | (refine aw_seq ?_) | (refine aw_skip ?_) | (refine aw_block ?_) | (refine aw_exit ?_) | (refine aw_region ?_) | (refine zco ?_ ?_ <;> intro hg <;> first | exact absurd hg (by decide) | ((try replace hg := HG.out hg); (try dsimp only at hg); (try (have _h : True := hg; clear _h hg)); first | (exfalso; omega) | skip))))
        all_goals first
          | (exfalso; omega)
          | (rw [show inkTo s b (k + 1) = inkTo s b k ++ inkRow s b j k by rw [inkTo_succ, show j = s.cols.toNat by omega]]; ((first | refine loop_next (by omega) ?_ ?_ | refine (show _ ∧ _ ∧ SubOf _ _ _ _ _ _ from And.intro (by omega) (And.intro ?_ ?_))); (focus ((trivial); done)); (focus ((refine sub_to [some 0, some 1] [] rfl ?_ ?_ <;> (repeat' (first | exact trivial | refine ⟨⟨_, rfl, ?_⟩, ?_⟩ | refine ⟨bsub_snoc rfl rfl (fun _ => rfl) ?_, ?_⟩ | refine ⟨bsub_one rfl rfl ?_, ?_⟩ | refine ⟨bsub_all rfl rfl (fun _ _ => rfl) (fun _ => rfl), ?_⟩ | refine ⟨bsub_updL rfl rfl ?_ (fun _ _ _ => rfl) (fun _ => rfl), ?_⟩ | refine ⟨.inl ⟨_, _, rfl, rfl, ?_⟩, ?_⟩ | exact ⟨.inr ⟨rfl, rfl⟩, trivial⟩ | refine ⟨.inr ⟨rfl, rfl⟩, ?_⟩ | (intro _ _) | exact .closed rfl | exact .sl rfl | exact .ptr rfl | exact .map rfl | exact .nil rfl | exact .emp rfl | exact .nilList | exact .empList | exact frzPtr' (by simp; done) rfl (by omega) rfl rfl | exact frzLB (by simp; done) rfl (fun _ => rfl) rfl | exact frz_all (by simp; done) rfl (fun _ _ => rfl) (fun _ => rfl) rfl | exact .frz (by simp; done) rfl (by omega) (fun _ _ => rfl) (fun _ _ => rfl) | exact slEq rfl (by first | (simp; done) | (simp; omega)) | exact siEq (by omega) | exact .of_eq (by refine (show V.agg _ = V.agg _ from ?_); (try dsimp only); congr <;> first | rfl | omega) rfl | exact .closed (by simp [V.closed, V.closed.all, *]; done) | fail))); done))))
    · (repeat' (first | (refine ar_isq ?_; first | refine zmv ?_ | refine zas ?_ | (refine is_load ?_; first | refine zlp ?_ | refine zlr ?_) | (refine is_binOp ?_; first | refine zlss ?_ | refine zneq ?_ | refine zadd ?_) | (refine is_fieldAddr ?_; first | refine zfp ?_ | refine zfr ?_) | (refine is_indexAddr ?_; first | refine zil ?_ | refine zis ?_ | refine zit ?_ | refine zia ?_ | refine zir ?_ | (refine zxl ?_; intro _ _ _) | (refine zxs ?_; intro _ _ _)) | (refine is_call ?_; first | refine zll ?_ | refine zls ?_ | refine zln ?_ | refine zle ?_)) | (refine zbx ?_) | (refine zb1 ?_) | (refine zb0 ?_) | (refine zapoo ?_) | (refine zapol ?_) | (refine zapno ?_) | (refine zapnl ?_) | (refine zapeo ?_) | (refine zapel ?_) | (refine ar_nil ?_) | (refine aw_seq ?_) | (refine aw_skip ?_) | (refine aw_block ?_) | (refine aw_exit ?_) | (refine aw_region ?_) | (refine zco ?_ ?_ <;> intro hg <;> first | exact absurd hg (by decide) | ((try replace hg := HG.out hg); (try dsimp only at hg); (try (have _h : True := hg; clear _h hg)); first | (exfalso; omega) | skip))))
      all_goals first
        | (exfalso; omega)
        | ((refine aw_mono_r (env' := [(4, encBools (inkTo s b k)), (5, vi 0)]) (H' := []) ?_ ?_; (focus ((refine sub_to [] [1] rfl ?_ ?_ <;> (repeat' (first | exact trivial | refine ⟨⟨_, rfl, ?_⟩, ?_⟩ | refine ⟨bsub_snoc rfl rfl (fun _ => rfl) ?_, ?_⟩ | refine ⟨bsub_one rfl rfl ?_, ?_⟩ | refine ⟨bsub_all rfl rfl (fun _ _ => rfl) (fun _ => rfl), ?_⟩ | refine ⟨bsub_updL rfl rfl ?_ (fun _ _ _ => rfl) (fun _ => rfl), ?_⟩ | refine ⟨.inl ⟨_, _, rfl, rfl, ?_⟩, ?_⟩ | exact ⟨.inr ⟨rfl, rfl⟩, trivial⟩ | refine ⟨.inr ⟨rfl, rfl⟩, ?_⟩ | (intro _ _) | exact .closed rfl | exact .sl rfl | exact .ptr rfl | exact .map rfl | exact .nil rfl | exact .emp rfl | exact .nilList | exact .empList | exact frzPtr' (by simp; done) rfl (by omega) rfl rfl | exact frzLB (by simp; done) rfl (fun _ => rfl) rfl | exact frz_all (by simp; done) rfl (fun _ _ => rfl) (fun _ => rfl) rfl | exact .frz (by simp; done) rfl (by omega) (fun _ _ => rfl) (fun _ _ => rfl) | exact slEq rfl (by first | (simp; done) | (simp; omega)) | exact siEq (by omega) | exact .of_eq (by refine (show V.agg _ = V.agg _ from ?_); (try dsimp only); congr <;> first | rfl | omega) rfl | exact .closed (by simp [V.closed, V.closed.all, *]; done) | fail))); done))); (refine aw_ret ?_; (repeat (first | refine ret_then ?_ | refine ret_block ?_)); refine bq2 rfl rfl ⟨?_, rfl⟩); rw [show k = s.rows.toNat by omega, hce]; try rfl)
  · rw [show inkF s b = [] by unfold inkF; rw [if_neg hce]]
    refine pcalls_of_aw Try.func26 rfl (Nat.le_of_ble_eq_true rfl) ?_
    (repeat' (first | (refine ar_isq ?_; first | refine zmv ?_ | refine zas ?_ | (refine is_load ?_; first | refine zlp ?_ | refine zlr ?_) | (refine is_binOp ?_; first | refine zlss ?_ | refine zneq ?_ | refine zadd ?_) | (refine is_fieldAddr ?_; first | refine zfp ?_ | refine zfr ?_) | (refine is_indexAddr ?_; first | refine zil ?_ | refine zis ?_ | refine zit ?_ | refine zia ?_ | refine zir ?_ | (refine zxl ?_; intro _ _ _) | (refine zxs ?_; intro _ _ _)) | (refine is_call ?_; first | refine zll ?_ | refine zls ?_ | refine zln ?_ | refine zle ?_)) | (refine ar_pcall (own := false) fn30 rfl rfl (.cons (.closed rfl) (.cons (.closed rfl) .nil)) (check_p s b) (by simp) (dc rfl) ?_; intro _ hv; subst hv) | (refine zbx ?_) | (refine zb1 ?_) | (refine zb0 ?_) | (refine zapoo ?_) | (refine zapol ?_) | (refine zapno ?_) | (refine zapnl ?_) | (refine zapeo ?_) | (refine zapel ?_) | (refine ar_nil ?_) | (refine aw_seq ?_) | (refine aw_skip ?_) | (refine aw_block ?_) | (refine aw_exit ?_) | (refine aw_region ?_) | (refine zco ?_ ?_ <;> intro hg <;> first | exact absurd hg (by decide) | ((try replace hg := HG.out hg); (try dsimp only at hg); (try (have _h : True := hg; clear _h hg)); first | (exfalso; omega) | skip))))
    all_goals first
      | (exfalso; omega)
      | ((refine aw_mono_r (env' := [(4, encBools []), (5, vi (checkErr s b))]) (H' := []) ?_ ?_; (focus ((refine sub_to [] [] rfl ?_ ?_ <;> (repeat' (first | exact trivial | refine ⟨⟨_, rfl, ?_⟩, ?_⟩ | refine ⟨bsub_snoc rfl rfl (fun _ => rfl) ?_, ?_⟩ | refine ⟨bsub_one rfl rfl ?_, ?_⟩ | refine ⟨bsub_all rfl rfl (fun _ _ => rfl) (fun _ => rfl), ?_⟩ | refine ⟨bsub_updL rfl rfl ?_ (fun _ _ _ => rfl) (fun _ => rfl), ?_⟩ | refine ⟨.inl ⟨_, _, rfl, rfl, ?_⟩, ?_⟩ | exact ⟨.inr ⟨rfl, rfl⟩, trivial⟩ | refine ⟨.inr ⟨rfl, rfl⟩, ?_⟩ | (intro _ _) | exact .closed rfl | exact .sl rfl | exact .ptr rfl | exact .map rfl | exact .nil rfl | exact .emp rfl | exact .nilList | exact .empList | exact frzPtr' (by simp; done) rfl (by omega) rfl rfl | exact frzLB (by simp; done) rfl (fun _ => rfl) rfl | exact frz_all (by simp; done) rfl (fun _ _ => rfl) (fun _ => rfl) rfl | exact .frz (by simp; done) rfl (by omega) (fun _ _ => rfl) (fun _ _ => rfl) | exact slEq rfl (by first | (simp; done) | (simp; omega)) | exact siEq (by omega) | exact .of_eq (by refine (show V.agg _ = V.agg _ from ?_); (try dsimp only); congr <;> first | rfl | omega) rfl | exact .closed (by simp [V.closed, V.closed.all, *]; done) | fail))); done))); (refine aw_ret ?_; (repeat (first | refine ret_then ?_ | refine ret_block ?_)); refine bq2 rfl rfl ⟨?_, rfl⟩); rfl)
end Go.Proofs.Ytccidiflnmchiaa
namespace Go.Proofs.Ytccidiflnmchiaa
open Go.RowKit
def exSheet : Sheet := ⟨6, 20, 2, 1, 2⟩
def exScreen : Screen := ⟨8, 1⟩
def exHidden : List (List Bool) := [[false, false, true, true, true, false], [false, false, false, false, false, false]]
theorem sheet_p : PCalls Try.prog 51 [] (· = exSheet.enc) := by
  refine pcalls_of_aw Try.func51 rfl (Nat.le_of_ble_eq_true rfl) ?_
  (repeat' (first | (refine ar_isq ?_; first | (refine ar_buildS (ds := ?ds) (ty rfl) rfl (sizes rfl) rfl rfl (build rfl) (dc rfl) ?hn ?h; (case hn => (dsimp only [cells_s, cells_emp, cells_agg, cells_list, cells_sl, cells_ptr, cells_ref, cells_fn, cells_vi, cells_vb, cells_vnil, constV, List.map_cons, List.map_nil, List.take_succ_cons, List.take_zero, List.drop_succ_cons, List.drop_zero, List.cons_append, List.nil_append, List.append_nil, LV_cells]; exact rfl)))) | (refine zal ?_) | (refine zsvs ?_) | (refine zsva ?_) | (refine zses ?_) | (refine zsea ?_) | (refine ar_nil ?_) | (refine aw_seq ?_) | (refine aw_skip ?_) | (refine aw_block ?_) | (refine aw_exit ?_) | (refine aw_region ?_) | (refine zco ?_ ?_ <;> intro hg <;> first | exact absurd hg (by decide) | ((try replace hg := HG.out hg); (try dsimp only at hg); (try (have _h : True := hg; clear _h hg)); first | (exfalso; omega) | skip))))
  refine aw_ret ?_
  (repeat (first | refine ret_then ?_ | refine ret_block ?_))
  exact bq1c (ty rfl) rfl rfl Nat.one_pos rfl ⟨rfl, rfl⟩
theorem screen_p : PCalls Try.prog 53 [] (· = exScreen.enc) := by
  refine pcalls_of_aw Try.func53 rfl (Nat.le_of_ble_eq_true rfl) ?_
  (repeat' (first | (refine ar_isq ?_; first | (refine ar_buildS (ds := ?ds) (ty rfl) rfl (sizes rfl) rfl rfl (build rfl) (dc rfl) ?hn ?h; (case hn => (dsimp only [cells_s, cells_emp, cells_agg, cells_list, cells_sl, cells_ptr, cells_ref, cells_fn, cells_vi, cells_vb, cells_vnil, constV, List.map_cons, List.map_nil, List.take_succ_cons, List.take_zero, List.drop_succ_cons, List.drop_zero, List.cons_append, List.nil_append, List.append_nil, LV_cells]; exact rfl)))) | (refine zal ?_) | (refine zsvs ?_) | (refine zsva ?_) | (refine zses ?_) | (refine zsea ?_) | (refine ar_nil ?_) | (refine aw_seq ?_) | (refine aw_skip ?_) | (refine aw_block ?_) | (refine aw_exit ?_) | (refine aw_region ?_) | (refine zco ?_ ?_ <;> intro hg <;> first | exact absurd hg (by decide) | ((try replace hg := HG.out hg); (try dsimp only at hg); (try (have _h : True := hg; clear _h hg)); first | (exfalso; omega) | skip))))
  refine aw_ret ?_
  (repeat (first | refine ret_then ?_ | refine ret_block ?_))
  exact bq1c (ty rfl) rfl rfl Nat.one_pos rfl ⟨rfl, rfl⟩
set_option maxHeartbeats 1000000 in
theorem hidden_p : PCalls Try.prog 54 [] (· = encMask exHidden) := by
  refine pcalls_of_aw Try.func54 rfl (Nat.le_of_ble_eq_true rfl) ?_
  (repeat' (first | (refine ar_isq ?_; first | refine zas ?_) | (refine ar_buildLE vb ([false, false, true, true, true, false]) (ty rfl) rfl (ty rfl) rfl rfl (Nat.succ_pos _) rfl (dc rfl) rfl (fun _ => ⟨rfl, rfl⟩) (dc rfl) ?_) | (refine ar_make_v (n := 6) (ty rfl) rfl (ty rfl) rfl rfl (by omega) (by omega) (dc rfl) rfl rfl (by dsimp only; omega) (maxLen_ok (by omega)) ?_) | (((refine ar_subk_l (sub_frzL (t := 1) vb ([false, false, true, true, true, false]) rfl rfl rfl rfl (fun _ _ => rfl) (fun _ => rfl)) ?_); (refine ar_subk_l (sub_frzL (t := 2) vb (List.replicate (6) (false)) rfl rfl (by simp) rfl (fun _ hk => congrArg vb (el_replicate hk)) (fun _ => rfl)) ?_); refine ar_buildLE encBools (exHidden) (ty rfl) rfl (ty rfl) rfl rfl (Nat.succ_pos _) rfl (dc rfl) rfl (fun _ => ⟨rfl, rfl⟩) (dc rfl) ?_)) | (refine zb1 ?_) | (refine zb0 ?_) | (refine ar_nil ?_) | (refine aw_seq ?_) | (refine aw_skip ?_) | (refine aw_block ?_) | (refine aw_exit ?_) | (refine aw_region ?_) | (refine zco ?_ ?_ <;> intro hg <;> first | exact absurd hg (by decide) | ((try replace hg := HG.out hg); (try dsimp only at hg); (try (have _h : True := hg; clear _h hg)); first | (exfalso; omega) | skip))))
  (refine aw_mono_r (env' := [(0, encMask exHidden)]) (H' := []) ?_ ?_; (focus ((refine sub_to [] [2] rfl ?_ ?_ <;> (repeat' (first | exact trivial | refine ⟨⟨_, rfl, ?_⟩, ?_⟩ | refine ⟨bsub_snoc rfl rfl (fun _ => rfl) ?_, ?_⟩ | refine ⟨bsub_one rfl rfl ?_, ?_⟩ | refine ⟨bsub_all rfl rfl (fun _ _ => rfl) (fun _ => rfl), ?_⟩ | refine ⟨bsub_updL rfl rfl ?_ (fun _ _ _ => rfl) (fun _ => rfl), ?_⟩ | refine ⟨.inl ⟨_, _, rfl, rfl, ?_⟩, ?_⟩ | exact ⟨.inr ⟨rfl, rfl⟩, trivial⟩ | refine ⟨.inr ⟨rfl, rfl⟩, ?_⟩ | (intro _ _) | exact .closed rfl | exact .sl rfl | exact .ptr rfl | exact .map rfl | exact .nil rfl | exact .emp rfl | exact .nilList | exact .empList | exact frzPtr' (by simp; done) rfl (by omega) rfl rfl | exact frzLB (by simp; done) rfl (fun _ => rfl) rfl | exact frz_all (by simp; done) rfl (fun _ _ => rfl) (fun _ => rfl) rfl | exact .frz (by simp; done) rfl (by omega) (fun _ _ => rfl) (fun _ _ => rfl) | exact slEq rfl (by first | (simp; done) | (simp; omega)) | exact siEq (by omega) | exact .of_eq (by refine (show V.agg _ = V.agg _ from ?_); (try dsimp only); congr <;> first | rfl | omega) rfl | exact .closed (by simp [V.closed, V.closed.all, *]; done) | fail))); done)))
  (refine aw_ret ?_; (repeat (first | refine ret_then ?_ | refine ret_block ?_)); refine bq1 rfl ⟨?_, rfl⟩)
  rfl
def stF (row : Int) (k j : Nat) : V := if j < k then vi row else vi 0
theorem stF_closed (row : Int) (k j : Nat) : (stF row k j).closed = true := by unfold stF; split <;> rfl
theorem stF_one (row : Int) (k j : Nat) : (stF row k j).cells.length = 1 := by unfold stF; split <;> rfl
theorem stF_na (row : Int) (k j : Nat) (cs : List V) : stF row k j ≠ .agg cs := by unfold stF; split <;> intro h <;> cases h
theorem stF_lt {row : Int} {k j : Nat} (h : j < k) : stF row k j = vi row := by simp [stF, h]
theorem stF_ne {row : Int} {k j : Nat} (h : j ≠ k) : stF row (k + 1) j = stF row k j := by
  unfold stF
  by_cases h1 : j < k
  · rw [if_pos h1, if_pos (by omega)]
  · rw [if_neg h1, if_neg (by omega)]
set_option maxHeartbeats 1000000 in
theorem straight_p (row : Int) (n : Nat) (hn : n ≤ 1000) : PCalls Try.prog 52 [vi row, vi n] (· = encInts (List.replicate n row)) := by
  refine pcalls_of_aw Try.func52 rfl (Nat.le_of_ble_eq_true rfl) ?_
  (repeat' (first | (refine ar_isq ?_; first | refine zmv ?_ | refine zas ?_ | (refine is_binOp ?_; first | refine zlss ?_ | refine zadd ?_) | (refine is_indexAddr ?_; first | refine zil ?_ | refine zis ?_ | refine zit ?_ | refine zia ?_ | refine zir ?_ | (refine zxl ?_; intro _ _ _) | (refine zxs ?_; intro _ _ _)) | (refine is_call ?_; first | refine zll ?_ | refine zls ?_ | refine zln ?_ | refine zle ?_)) | (refine ar_make_v (n := n) (ty rfl) rfl (ty rfl) rfl rfl (by omega) (by omega) (dc rfl) rfl rfl (by dsimp only; omega) (maxLen_ok (by omega)) ?_) | (refine zsvs ?_) | (refine zsva ?_) | (refine zses ?_) | (refine zsea ?_) | (refine ar_nil ?_) | (refine aw_seq ?_) | (refine aw_skip ?_) | (refine aw_block ?_) | (refine aw_exit ?_) | (refine aw_region ?_) | (refine zco ?_ ?_ <;> intro hg <;> first | exact absurd hg (by decide) | ((try replace hg := HG.out hg); (try dsimp only at hg); (try (have _h : True := hg; clear _h hg)); first | (exfalso; omega) | skip))))
  refine aw_for n (fun _ => True) (fun k => [(0, vi row), (5, .sl 1 0 0 n), (10, vi n), (11, vi k)]) (fun k => [.arr 1 n (stF row k)]) trivial ?_ ?_
  · (refine sub_to [some 0] [] rfl ?_ ?_ <;> (repeat' (first | exact trivial | refine ⟨⟨_, rfl, ?_⟩, ?_⟩ | refine ⟨bsub_snoc rfl rfl (fun _ => rfl) ?_, ?_⟩ | refine ⟨bsub_one rfl rfl ?_, ?_⟩ | refine ⟨bsub_all rfl rfl (fun _ _ => rfl) (fun _ => rfl), ?_⟩ | refine ⟨bsub_updL rfl rfl ?_ (fun _ _ _ => rfl) (fun _ => rfl), ?_⟩ | refine ⟨.inl ⟨_, _, rfl, rfl, ?_⟩, ?_⟩ | exact ⟨.inr ⟨rfl, rfl⟩, trivial⟩ | refine ⟨.inr ⟨rfl, rfl⟩, ?_⟩ | (intro _ _) | exact .closed rfl | exact .sl rfl | exact .ptr rfl | exact .map rfl | exact .nil rfl | exact .emp rfl | exact .nilList | exact .empList | exact frzPtr' (by simp; done) rfl (by omega) rfl rfl | exact frzLB (by simp; done) rfl (fun _ => rfl) rfl | exact frz_all (by simp; done) rfl (fun _ _ => rfl) (fun _ => rfl) rfl | exact .frz (by simp; done) rfl (by omega) (fun _ _ => rfl) (fun _ _ => rfl) | exact slEq rfl (by first | (simp; done) | (simp; omega)) | exact siEq (by omega) | exact .of_eq (by refine (show V.agg _ = V.agg _ from ?_); (try dsimp only); congr <;> first | rfl | omega) rfl | exact .closed (by simp [V.closed, V.closed.all, *]; done) | fail)))
  intro k hk _
  by_cases hlt : k < n
  · (repeat' (first | (refine ar_isq ?_; first | refine zmv ?_ | refine zas ?_ | (refine is_binOp ?_; first | refine zlss ?_ | refine zadd ?_) | (refine is_indexAddr ?_; first | refine zil ?_ | refine zis ?_ | refine zit ?_ | refine zia ?_ | refine zir ?_ | (refine zxl ?_; intro _ _ _) | (refine zxs ?_; intro _ _ _)) | (refine is_call ?_; first | refine zll ?_ | refine zls ?_ | refine zln ?_ | refine zle ?_)) | (refine ar_store_as (stF row (k + 1)) (ty rfl) rfl rfl rfl rfl rfl rfl (by assumption) (by dsimp only; omega) (fun _ h => by cases h) rfl (stF_one _ _ _) (stF_na _ _ _) (stF_lt (Nat.lt_succ_self _)) (fun i _ h => stF_ne h) ?_) | (refine zsvs ?_) | (refine zsva ?_) | (refine zses ?_) | (refine zsea ?_) | (refine ar_nil ?_) | (refine aw_seq ?_) | (refine aw_skip ?_) | (refine aw_block ?_) | (refine aw_exit ?_) | (refine aw_region ?_) | (refine zco ?_ ?_ <;> intro hg <;> first | exact absurd hg (by decide) | ((try replace hg := HG.out hg); (try dsimp only at hg); (try (have _h : True := hg; clear _h hg)); first | (exfalso; omega) | skip))))
    all_goals first
      | (exfalso; omega)
      | ((first | refine loop_next (by omega) ?_ ?_ | refine (show _ ∧ _ ∧ SubOf _ _ _ _ _ _ from And.intro (by omega) (And.intro ?_ ?_))); (focus ((trivial); done)); (focus ((refine sub_to [some 0] [] rfl ?_ ?_ <;> (repeat' (first | exact trivial | refine ⟨⟨_, rfl, ?_⟩, ?_⟩ | refine ⟨bsub_snoc rfl rfl (fun _ => rfl) ?_, ?_⟩ | refine ⟨bsub_one rfl rfl ?_, ?_⟩ | refine ⟨bsub_all rfl rfl (fun _ _ => rfl) (fun _ => rfl), ?_⟩ | refine ⟨bsub_updL rfl rfl ?_ (fun _ _ _ => rfl) (fun _ => rfl), ?_⟩ | refine ⟨.inl ⟨_, _, rfl, rfl, ?_⟩, ?_⟩ | exact ⟨.inr ⟨rfl, rfl⟩, trivial⟩ | refine ⟨.inr ⟨rfl, rfl⟩, ?_⟩ | (intro _ _) | exact .closed rfl | exact .sl rfl | exact .ptr rfl | exact .map rfl | exact .nil rfl | exact .emp rfl | exact .nilList | exact .empList | exact frzPtr' (by simp; done) rfl (by omega) rfl rfl | exact frzLB (by simp; done) rfl (fun _ => rfl) rfl | exact frz_all (by simp; done) rfl (fun _ _ => rfl) (fun _ => rfl) rfl | exact .frz (by simp; done) rfl (by omega) (fun _ _ => rfl) (fun _ _ => rfl) | exact slEq rfl (by first | (simp; done) | (simp; omega)) | exact siEq (by omega) | (exact VSub.closed (stF_closed _ _ _)) | exact .of_eq (by refine (show V.agg _ = V.agg _ from ?_); (try dsimp only); congr <;> first | rfl | omega) rfl | exact .closed (by simp [V.closed, V.closed.all, *]; done) | fail))); done)))
      | trace_state
  · obtain rfl : k = n := by omega
    (repeat' (first | (refine ar_isq ?_; first | refine zmv ?_ | refine zas ?_ | (refine is_binOp ?_; first | refine zlss ?_ | refine zadd ?_) | (refine is_indexAddr ?_; first | refine zil ?_ | refine zis ?_ | refine zit ?_ | refine zia ?_ | refine zir ?_ | (refine zxl ?_; intro _ _ _) | (refine zxs ?_; intro _ _ _)) | (refine is_call ?_; first | refine zll ?_ | refine zls ?_ | refine zln ?_ | refine zle ?_)) | (refine zsvs ?_) | (refine zsva ?_) | (refine zses ?_) | (refine zsea ?_) | (refine ar_nil ?_) | (refine aw_seq ?_) | (refine aw_skip ?_) | (refine aw_block ?_) | (refine aw_exit ?_) | (refine aw_region ?_) | (refine zco ?_ ?_ <;> intro hg <;> first | exact absurd hg (by decide) | ((try replace hg := HG.out hg); (try dsimp only at hg); (try (have _h : True := hg; clear _h hg)); first | (exfalso; omega) | skip))))
    all_goals first
      | (exfalso; omega)
      | ((refine aw_mono_r (env' := [(4, encInts (List.replicate k row))]) (H' := []) ?_ ?_; (focus ((refine sub_to [] [0] rfl ?_ ?_ <;> (repeat' (first | exact trivial | refine ⟨⟨_, rfl, ?_⟩, ?_⟩ | refine ⟨bsub_snoc rfl rfl (fun _ => rfl) ?_, ?_⟩ | refine ⟨bsub_one rfl rfl ?_, ?_⟩ | refine ⟨bsub_all rfl rfl (fun _ _ => rfl) (fun _ => rfl), ?_⟩ | refine ⟨bsub_updL rfl rfl ?_ (fun _ _ _ => rfl) (fun _ => rfl), ?_⟩ | refine ⟨.inl ⟨_, _, rfl, rfl, ?_⟩, ?_⟩ | exact ⟨.inr ⟨rfl, rfl⟩, trivial⟩ | refine ⟨.inr ⟨rfl, rfl⟩, ?_⟩ | (intro _ _) | exact .closed rfl | exact .sl rfl | exact .ptr rfl | exact .map rfl | exact .nil rfl | exact .emp rfl | exact .nilList | exact .empList | exact frzPtr' (by simp; done) rfl (by omega) rfl rfl | exact frzLB (by simp; done) rfl (fun _ => rfl) rfl | exact frz_all (by simp; done) rfl (fun _ _ => rfl) (fun _ => rfl) rfl | exact .frz (by simp; done) rfl (by omega) (fun _ _ => rfl) (fun _ _ => rfl) | exact slEq rfl (by first | (simp; done) | (simp; omega)) | exact siEq (by omega) | (exact frz_as (by simp) rfl rfl (by simp) (fun j hj => by rw [stF_lt hj, el_replicate hj]) (fun _ => rfl)) | exact .of_eq (by refine (show V.agg _ = V.agg _ from ?_); (try dsimp only); congr <;> first | rfl | omega) rfl | exact .closed (by simp [V.closed, V.closed.all, *]; done) | fail))); done))); (refine aw_ret ?_; (repeat (first | refine ret_then ?_ | refine ret_block ?_)); refine bq1 rfl ⟨?_, rfl⟩); rfl)
      | trace_state
theorem exRoom_p : PCalls Try.prog 43 [exSheet.enc, exScreen.enc] (· = .tup [vi 2, vi 5, vi 0]) := (lRoom_p exSheet exScreen).mono fun v h => h.trans (by kernel_rfl)
def exBand : List (List Int) := [[1, 1, 3, 5, 3, 1], [9, 9, 9, 9, 9, 9]]
theorem exHide_p : PCalls Try.prog 47 [exSheet.enc, exScreen.enc, encMask exHidden] (· = .tup [encRows exBand, vi 0]) := (lHide_p exSheet exScreen exHidden).mono fun v h => by
  rw [h, show hideF exSheet exScreen exHidden = exBand by decide +kernel, show hideErr exSheet exScreen exHidden = 0 by decide +kernel]
def exSeen : List (List Bool) := [[false, false, false, true, false, false], [false, false, false, false, false, false]]
theorem exSeen_p : PCalls Try.prog 41 [exSheet.enc, encRows exBand, exScreen.enc, vi 4] (· = .tup [encMask exSeen, vi 0]) := (lSeen_p exSheet exBand exScreen 4).mono fun v h => by
  rw [h, show seenF exSheet exBand exScreen 4 = exSeen by decide +kernel, show seenErr exSheet exBand exScreen 4 = 0 by decide +kernel]
theorem exMost_p : PCalls Try.prog 19 [exSheet.enc, encInts (List.replicate 6 0), encInts (List.replicate 6 12)] (· = .tup [vi 5, vi 0]) := (lMost_p exSheet _ _).mono fun v h => by
  rw [h, show mostVal exSheet (List.replicate 6 0) (List.replicate 6 12) = 5 by decide +kernel, show mostErr exSheet (List.replicate 6 0) (List.replicate 6 12) = 0 by decide +kernel]
def exMask : List (List Bool) := [[true, true, true, false], [true, false, true, false], [true, false, true, false], [true, false, true, false], [true, true, true, false]]
theorem exMask_p : PCalls Try.prog 35 [encInts [31599], vi 1, vi 4, vi 5] (· = .tup [encMask exMask, vi 0]) := (lMask_p [31599] 1 4 5).mono fun v h => by
  rw [h, show maskF [31599] 1 4 5 = exMask by decide +kernel, show maskErr [31599] 1 4 5 = 0 by decide +kernel]
theorem exSpell_p : PCalls Try.prog 37 [encMask exMask, vi 1, vi 1] (· = .tup [encInts [31599], vi 0]) := (lSpell_p exMask 1 1).mono fun v h => by
  rw [h, show spellF exMask 1 1 = [31599] by decide +kernel, show spellErr exMask 1 1 = 0 by decide +kernel]
set_option maxHeartbeats 4000000 in
theorem alive_p : PCalls Try.prog 49 [] (· = vb true) := by
  refine pcalls_of_aw Try.func49 rfl (Nat.le_of_ble_eq_true rfl) ?_
  (repeat' (first | (refine ar_isq ?_; first | refine zmv ?_ | refine zas ?_ | refine zeql ?_ | (refine is_call ?_; first | refine zll ?_ | refine zls ?_ | refine zln ?_ | refine zle ?_) | (refine is_pick ?_; first | refine zpt ?_ | refine zpf ?_) | refine zex ?_) | (refine ar_pcall (own := false) fn51 rfl rfl .nil (sheet_p) (by simp) (dc rfl) ?_; intro _ hv; subst hv) | (refine ar_pcall (own := false) fn53 rfl rfl .nil (screen_p) (by simp) (dc rfl) ?_; intro _ hv; subst hv) | (refine ar_pcall (own := false) fn54 rfl rfl .nil (hidden_p) (by simp) (dc rfl) ?_; intro _ hv; subst hv) | (refine ar_pcall (own := false) fn43 rfl rfl (.cons (.closed rfl) (.cons (.closed rfl) .nil)) (exRoom_p) (by simp) (dc rfl) ?_; intro _ hv; subst hv) | (refine ar_pcall (own := false) fn47 rfl rfl (.cons (.closed rfl) (.cons (.closed rfl) (.cons (.closed rfl) .nil))) (exHide_p) (by simp) (dc rfl) ?_; intro _ hv; subst hv) | (refine ar_pcall (own := false) fn41 rfl rfl (.cons (.closed rfl) (.cons (.closed rfl) (.cons (.closed rfl) (.cons (.closed rfl) .nil)))) (exSeen_p) (by simp) (dc rfl) ?_; intro _ hv; subst hv) | (refine ar_pcall (own := false) fn52 rfl rfl (.cons (.closed rfl) (.cons (.closed rfl) .nil)) (straight_p _ 6 (by omega)) (by simp) (dc rfl) ?_; intro _ hv; subst hv) | (refine ar_pcall (own := false) fn19 rfl rfl (.cons (.closed rfl) (.cons (.closed rfl) (.cons (.closed rfl) .nil))) (exMost_p) (by simp) (dc rfl) ?_; intro _ hv; subst hv) | (((refine ar_subk_l (sub_frzL (t := 43) vi ([31599]) rfl rfl rfl rfl (fun _ _ => rfl) (fun _ => rfl)) ?_); refine ar_pcall (own := false) fn35 rfl rfl (.cons (.closed rfl) (.cons (.closed rfl) (.cons (.closed rfl) (.cons (.closed rfl) .nil)))) (exMask_p) (by simp) (dc rfl) ?_; intro _ hv; subst hv)) | (refine ar_pcall (own := false) fn37 rfl rfl (.cons (.closed rfl) (.cons (.closed rfl) (.cons (.closed rfl) .nil))) (exSpell_p) (by simp) (dc rfl) ?_; intro _ hv; subst hv) | (refine ar_buildLE vi ([31599]) (ty rfl) rfl (ty rfl) rfl rfl (Nat.succ_pos _) rfl (dc rfl) rfl (fun _ => ⟨rfl, rfl⟩) (dc rfl) ?_) | (refine ar_buildLE vi ([1, 1, 3, 5, 3, 1]) (ty rfl) rfl (ty rfl) rfl rfl (Nat.succ_pos _) rfl (dc rfl) rfl (fun _ => ⟨rfl, rfl⟩) (dc rfl) ?_) | (((refine ar_subk_l (sub_frzL (t := 68) vi ([1, 1, 3, 5, 3, 1]) rfl rfl rfl rfl (fun _ _ => rfl) (fun _ => rfl)) ?_); refine ar_buildLE encInts (exBand) (ty rfl) rfl (ty rfl) rfl rfl (Nat.succ_pos _) rfl (dc rfl) rfl (fun _ => ⟨rfl, rfl⟩) (dc rfl) ?_)) | (((refine ar_subk_l (sub_frzL (t := 70) encInts (exBand) rfl rfl rfl rfl (fun _ _ => rfl) (fun _ => rfl)) ?_); refine ar_pcall (own := false) fn21 rfl rfl (.cons (.closed rfl) (.cons (.closed rfl) .nil)) (sameBand_p exBand) (by simp) (dc rfl) ?_; intro _ hv; subst hv)) | (refine ar_buildLE vb ([false, false, false, true, false, false]) (ty rfl) rfl (ty rfl) rfl rfl (Nat.succ_pos _) rfl (dc rfl) rfl (fun _ => ⟨rfl, rfl⟩) (dc rfl) ?_) | (refine ar_make_v (n := 6) (ty rfl) rfl (ty rfl) rfl rfl (by omega) (by omega) (dc rfl) rfl rfl (by dsimp only; omega) (maxLen_ok (by omega)) ?_) | (((refine ar_subk_l (sub_frzL (t := 79) vb ([false, false, false, true, false, false]) rfl rfl rfl rfl (fun _ _ => rfl) (fun _ => rfl)) ?_); (refine ar_subk_l (sub_frzL (t := 80) vb (List.replicate (6) (false)) rfl rfl (by simp) rfl (fun _ hk => congrArg vb (el_replicate hk)) (fun _ => rfl)) ?_); refine ar_buildLE encBools (exSeen) (ty rfl) rfl (ty rfl) rfl rfl (Nat.succ_pos _) rfl (dc rfl) rfl (fun _ => ⟨rfl, rfl⟩) (dc rfl) ?_)) | (((refine ar_subk_l (sub_frzL (t := 81) encBools (exSeen) rfl rfl rfl rfl (fun _ _ => rfl) (fun _ => rfl)) ?_); refine ar_pcall (own := false) fn39 rfl rfl (.cons (.closed rfl) (.cons (.closed rfl) .nil)) (sameMask_p exSeen) (by simp) (dc rfl) ?_; intro _ hv; subst hv)) | (((refine ar_subk_l (sub_frzL (t := 107) vi ([31599]) rfl rfl rfl rfl (fun _ _ => rfl) (fun _ => rfl)) ?_); refine ar_pcall (own := false) fn40 rfl rfl (.cons (.closed rfl) (.cons (.closed rfl) .nil)) (sameInts_p [31599]) (by simp) (dc rfl) ?_; intro _ hv; subst hv)) | (refine zb1 ?_) | (refine zb0 ?_) | (refine zg ?_ ?_ <;> intro hg <;> first | exact absurd hg (by decide) | ((try replace hg := HG.out hg); (try dsimp only at hg); (try (have _h : True := hg; clear _h hg)); first | (exfalso; omega) | skip)) | (refine zgu ?_) | (refine ar_nil ?_) | (refine aw_seq ?_) | (refine aw_skip ?_) | (refine aw_block ?_) | (refine aw_exit ?_) | (refine aw_region ?_) | (refine zco ?_ ?_ <;> intro hg <;> first | exact absurd hg (by decide) | ((try replace hg := HG.out hg); (try dsimp only at hg); (try (have _h : True := hg; clear _h hg)); first | (exfalso; omega) | skip))))
  all_goals first
    | ((refine aw_ret ?_; (repeat (first | refine ret_then ?_ | refine ret_block ?_)); refine bq1 rfl ⟨?_, rfl⟩); rfl)
    | trace_state
end Go.Proofs.Ytccidiflnmchiaa
namespace Go.Proofs.Ytccidiflnmchiaa
open Go.RowKit
section
variable {a : Int} {w v : Nat → Int} {n j k : Nat}
theorem lean_le (hj : j < n) : leanAt a w n j ≤ w j := by
  have := lean_all (a := a) (w := w) hj hj
  rw [show farI j j = 0 by unfold farI; omega, Int.mul_zero] at this
  omega
theorem lean_ge0 (ha : 0 ≤ a) (hw : ∀ k, k < n → 0 ≤ w k) (hj : j < n) : 0 ≤ leanAt a w n j := bD_bnd ha hw (by omega) _
theorem lean_step (ha : 0 ≤ a) (hj : j < n) (hk : k < n) (h : k ≤ j + 1) (h' : j ≤ k + 1) : leanAt a w n j - leanAt a w n k ≤ a := by
  obtain ⟨i, hi, h1⟩ := lean_some (w := w) ha hk
  have h2 := lean_all (a := a) (w := w) hj hi
  have h3 : a * farI j i ≤ a * (farI k i + 1) := Int.mul_le_mul_of_nonneg_left (by unfold farI; omega) ha
  rw [Int.mul_add, Int.mul_one] at h3
  omega
theorem far_near (ha : 0 ≤ a) (hv : ∀ i, i + 1 < n → v (i + 1) - v i ≤ a ∧ v i - v (i + 1) ≤ a) : ∀ (d i : Nat), i + d < n → v (i + d) - v i ≤ a * d ∧ v i - v (i + d) ≤ a * d
  | 0, i, _ => by simp
  | d + 1, i, h => by
    have h1 := far_near ha hv d i (by omega)
    have h2 := hv (i + d) (by omega)
    have e : a * ((d + 1 : Nat) : Int) = a * d + a := by rw [Int.natCast_succ, Int.mul_add, Int.mul_one]
    rw [e, show i + (d + 1) = i + d + 1 by omega]
    omega
/-- No line that leans no more, and is nowhere above what is wished, is greater. -/
theorem lean_greatest (ha : 0 ≤ a) (hv : ∀ i, i + 1 < n → v (i + 1) - v i ≤ a ∧ v i - v (i + 1) ≤ a) (hle : ∀ i, i < n → v i ≤ w i) (hj : j < n) : v j ≤ leanAt a w n j := by
  obtain ⟨k, hk, h1⟩ := lean_some (w := w) ha hj
  have h2 := hle k hk
  have h3 : v j - v k ≤ a * farI j k := by
    by_cases h : k ≤ j
    · have := (far_near ha hv (j - k) k (by omega)).1
      rw [show k + (j - k) = j by omega] at this
      rw [show farI j k = ((j - k : Nat) : Int) by unfold farI; omega]
      exact this
    · have := (far_near ha hv (k - j) j (by omega)).2
      rw [show j + (k - j) = k by omega] at this
      rw [show farI j k = ((k - j : Nat) : Int) by unfold farI; omega]
      exact this
  omega
theorem lean_same (ha : 0 ≤ a) (hw : ∀ i, i + 1 < n → w (i + 1) - w i ≤ a ∧ w i - w (i + 1) ≤ a) (hj : j < n) : leanAt a w n j = w j :=
  Int.le_antisymm (lean_le hj) (lean_greatest ha hw (fun _ _ => Int.le_refl _) hj)
theorem lean_mono (ha : 0 ≤ a) (hw : ∀ i, i < n → w i ≤ v i) (hj : j < n) : leanAt a w n j ≤ leanAt a v n j :=
  lean_greatest ha (fun i hi => ⟨lean_step ha (by omega) (by omega) (by omega) (by omega), lean_step ha (by omega) (by omega) (by omega) (by omega)⟩) (fun i hi => Int.le_trans (lean_le hi) (hw i hi)) hj
end
theorem check_band {s : Sheet} {b : List (List Int)} (hs : s.ok = true) (h : bandB s b = true) : checkErr s b = 0 := by simp [checkErr, hs, h]
/-- What is drawn is a band. -/
theorem draw_band {s : Sheet} {c : Screen} {w : List (List Int)} (hr : roomErr s c = 0) (hn : w.length = cntF s c) (hw : ∀ i, i < w.length → ∀ j : Nat, (j : Int) < s.cols → 0 ≤ el (el w i) j ∧ el (el w i) j ≤ roomW s c) : bandB s (drawTo s c w (cntF s c)) = true := by
  obtain ⟨hs, hc, hrm, _, hrw⟩ := room_ok hr
  have hb := Sheet.bounds hs
  have hcb := Screen.bounds hc
  have hc12 := cntF_le s c
  rw [hrw] at hw
  have ext : ∀ i, i < cntF s c → ∀ k, k < s.cols.toNat → 0 ≤ leanAt s.lean (el (el w i)) s.cols.toNat k ∧ leanAt s.lean (el (el w i)) s.cols.toNat k ≤ c.period - s.weight - s.clear := fun i hi k hk => by
    have h1 := lean_ge0 (a := s.lean) (w := el (el w i)) (n := s.cols.toNat) (by omega) (fun k hk => (hw i (by omega) k (by omega)).1) hk
    have h2 := lean_le (a := s.lean) (w := el (el w i)) hk
    have h3 := hw i (by omega) k (by omega)
    omega
  rw [bandB_iff, drawTo_len]
  refine ⟨hc12, linesB_yes ?_, fun i hi j hj => ?_⟩
  · rw [drawTo_len]
    intro i hi
    unfold drawTo
    rw [el_map_range hi, isLineB_iff, drawRow_len]
    refine ⟨by omega, fun j hj => ?_⟩
    have e1 := ext i hi j hj
    have e2 := cntF_in (s := s) (c := c) hi
    have e3 := mulP hc (k := i) (by omega)
    rw [lineAt_iff, drawRow_el hj]
    unfold rowI
    refine ⟨by omega, ?_⟩
    by_cases h0 : j = 0
    · exact .inl h0
    · right
      rw [drawRow_el (show j - 1 < s.cols.toNat by omega)]
      unfold rowI
      have l1 := lean_step (a := s.lean) (w := el (el w i)) (n := s.cols.toNat) (j := j) (k := j - 1) (by omega) hj (by omega) (by omega) (by omega)
      have l2 := lean_step (a := s.lean) (w := el (el w i)) (n := s.cols.toNat) (j := j - 1) (k := j) (by omega) (by omega) hj (by omega) (by omega)
      omega
  · have e1 := ext i (by omega) j (by omega)
    have e2 := ext (i + 1) (by omega) j (by omega)
    unfold drawTo
    rw [el_map_range hi, el_map_range (show i < cntF s c by omega), drawRow_el (show j < s.cols.toNat by omega), drawRow_el (show j < s.cols.toNat by omega)]
    unfold rowI
    rw [Int.natCast_succ, Int.add_mul]
    omega
theorem hide_ok {s : Sheet} {c : Screen} {m : List (List Bool)} (h : hideErr s c m = 0) : roomErr s c = 0 ∧ s.weight ≤ c.period / 2 ∧ c.period / 2 ≤ roomW s c ∧ m.length = cntF s c ∧ ∀ i, i < m.length → ((el m i).length : Int) = s.cols := by
  unfold hideErr at h
  split at h
  · rename_i h1
    split at h
    · rename_i h2
      split at h
      · rename_i h3
        obtain ⟨_, _, _, hn, _⟩ := room_ok h1
        obtain ⟨h4, h5⟩ := mask_rows h3
        have h6 := withinB_iff.1 h2
        exact ⟨h1, h6.1, h6.2, by omega, h5⟩
      · cases h
    · cases h
  · rename_i h1; exact (h1 h).elim
/-- The wish of a mask. -/
theorem hide_el {s : Sheet} {c : Screen} {m : List (List Bool)} {i j : Nat} (hi : i < m.length) (hl : ((el m i).length : Int) = s.cols) (hj : (j : Int) < s.cols) : el (el (hideTo c m m.length) i) j = hV c (el (el m i) j) := by
  unfold hideTo
  rw [el_map_range hi, hRowTo_el (by omega)]
theorem hV_at (c : Screen) (b : Bool) : hV c b = 0 ∨ hV c b = c.period / 2 := by unfold hV; split <;> simp
theorem hide_band {s : Sheet} {c : Screen} {m : List (List Bool)} (h : hideErr s c m = 0) : bandB s (hideF s c m) = true := by
  obtain ⟨hr, hw, hh, hn, hl⟩ := hide_ok h
  obtain ⟨hs, hc, _, _, _⟩ := room_ok hr
  have hb := Sheet.bounds hs
  rw [hideF_ok h]
  refine draw_band hr (by rw [hideTo_len, hn]) fun i hi j hj => ?_
  rw [hideTo_len] at hi
  rw [hide_el hi (hl i hi) hj]
  rcases hV_at c (el (el m i) j) with e | e <;> rw [e] <;> omega
/-- The lean of line i of the band by which a mask is hidden. -/
def hideA (s : Sheet) (c : Screen) (m : List (List Bool)) (i j : Nat) : Int := leanAt s.lean (el (el (hideTo c m m.length) i)) s.cols.toNat j
theorem hideA_bnd {s : Sheet} {c : Screen} {m : List (List Bool)} (h : hideErr s c m = 0) {i j : Nat} (hi : i < m.length) (hj : (j : Int) < s.cols) : 0 ≤ hideA s c m i j ∧ hideA s c m i j ≤ hV c (el (el m i) j) := by
  obtain ⟨hr, hw, hh, hn, hl⟩ := hide_ok h
  obtain ⟨hs, hc, _, _, _⟩ := room_ok hr
  have hb := Sheet.bounds hs
  have hcb := Screen.bounds hc
  refine ⟨lean_ge0 (by omega) (fun k hk => ?_) (by omega), ?_⟩
  · rw [hide_el hi (hl i hi) (by omega)]
    rcases hV_at c (el (el m i) k) with e | e <;> rw [e] <;> omega
  · have := lean_le (a := s.lean) (w := el (el (hideTo c m m.length) i)) (n := s.cols.toNat) (j := j) (by omega)
    rw [hide_el hi (hl i hi) hj] at this
    exact this
/-- What is seen of a hidden mask. -/
theorem hide_dot {s : Sheet} {c : Screen} {m : List (List Bool)} (h : hideErr s c m = 0) {by' : Int} (hb0 : 0 ≤ by') (hb1 : by' < c.period) {i j : Nat} (hi : i < m.length) (hj : (j : Int) < s.cols) :
    dotB s (hideF s c m) (rowN c by' i) j = decide (hideA s c m i j ≤ by' ∧ by' - hideA s c m i j < s.weight) := by
  obtain ⟨hr, hw, hh, hn, hl⟩ := hide_ok h
  obtain ⟨hs, hc, h0, _, hrw⟩ := room_ok hr
  have hb := Sheet.bounds hs
  have hcb := Screen.bounds hc
  have hc12 := cntF_le s c
  have hrow : ((rowN c by' i : Nat) : Int) = c.phase + (i : Int) * c.period + by' := by
    have := mulP hc (k := i) (by omega)
    unfold rowN
    omega
  have hel : ∀ k, k < m.length → el (el (hideF s c m) k) j = hideA s c m k j + (c.phase + (k : Int) * c.period) := fun k hk => by
    rw [hideF_ok h]
    unfold drawTo
    rw [el_map_range (by omega), drawRow_el (by omega)]
    rfl
  have hA := hideA_bnd h hi hj
  have hlen : (hideF s c m).length = m.length := by rw [hideF_ok h, drawTo_len, hn]
  have key : ∀ k, k < m.length → dotAt s (rowN c by' i) j (el (hideF s c m) k) = true → k = i := fun k hk hd => by
    unfold dotAt at hd
    rw [withinB_iff, hrow, hel k hk] at hd
    have hAk := hideA_bnd h hk hj
    have hv : hV c (el (el m k) j) ≤ c.period / 2 := by rcases hV_at c (el (el m k) j) with e | e <;> rw [e] <;> omega
    rcases Nat.lt_trichotomy k i with h1 | h1 | h1
    · have : ((k : Int) + 1) * c.period ≤ (i : Int) * c.period := Int.mul_le_mul_of_nonneg_right (by omega) (by omega)
      rw [Int.add_mul, Int.one_mul] at this
      omega
    · exact h1
    · have : ((i : Int) + 1) * c.period ≤ (k : Int) * c.period := Int.mul_le_mul_of_nonneg_right (by omega) (by omega)
      rw [Int.add_mul, Int.one_mul] at this
      omega
  have hat : dotAt s (rowN c by' i) j (el (hideF s c m) i) = decide (hideA s c m i j ≤ by' ∧ by' - hideA s c m i j < s.weight) := by
    unfold dotAt
    rw [hrow, hel i hi]
    refine Bool.eq_iff_iff.2 ?_
    rw [withinB_iff, decide_eq_true_eq]
    omega
  rw [← hat]
  unfold dotB
  cases hd : dotAt s (rowN c by' i) j (el (hideF s c m) i)
  · refine none_el fun k hk => ?_
    rw [hlen] at hk
    cases hk2 : dotAt s (rowN c by' i) j (el (hideF s c m) k)
    · rfl
    · have := key k hk hk2
      subst this
      rw [hd] at hk2
      cases hk2
  · exact any_el (k := i) (by omega) hd
theorem hide_seen {s : Sheet} {c : Screen} {m : List (List Bool)} (h : hideErr s c m = 0) {by' : Int} (hb0 : 0 ≤ by') (hb1 : by' < c.period) : seenErr s (hideF s c m) c by' = 0 ∧ (seenF s (hideF s c m) c by').length = m.length ∧
    ∀ i, i < m.length → (el (seenF s (hideF s c m) c by') i).length = (el m i).length ∧ ∀ j, j < (el m i).length → el (el (seenF s (hideF s c m) c by') i) j = decide (hideA s c m i j ≤ by' ∧ by' - hideA s c m i j < s.weight) := by
  obtain ⟨hr, hw, hh, hn, hl⟩ := hide_ok h
  obtain ⟨hs, hc, h0, _, hrw⟩ := room_ok hr
  have hb := Sheet.bounds hs
  have he : seenErr s (hideF s c m) c by' = 0 := seenErr_ok (check_band hs (hide_band h)) ⟨hc, withinB_iff.2 ⟨hb0, by omega⟩⟩
  rw [seenF_ok he, seenTo_len]
  refine ⟨he, hn.symm, fun i hi => ?_⟩
  have hli := hl i hi
  unfold seenTo
  rw [el_map_range (by omega), seenRow_len]
  refine ⟨by omega, fun j hj => ?_⟩
  unfold seenRow
  rw [el_map_range (by omega)]
  exact hide_dot h hb0 hb1 hi (by omega)
end Go.Proofs.Ytccidiflnmchiaa
namespace Go.Proofs.Ytccidiflnmchiaa
open Go.RowKit
theorem inkTo_el (s : Sheet) (b : List (List Int)) (k : Nat) (hk : k < s.cols.toNat) : ∀ (R r : Nat), r < R → el (inkTo s b R) (r * s.cols.toNat + k) = dotB s b r k
  | 0, r, h => by omega
  | R + 1, r, h => by
    rw [inkTo_succ]
    by_cases h1 : r < R
    · have h2 : r * s.cols.toNat + k < (inkTo s b R).length := by
        rw [inkTo_len]
        have : (r + 1) * s.cols.toNat ≤ R * s.cols.toNat := Nat.mul_le_mul_right _ h1
        rw [Nat.succ_mul] at this
        omega
      rw [el_app_lt h2]
      exact inkTo_el s b k hk R r h1
    · obtain rfl : r = R := by omega
      rw [el_app_ge (by rw [inkTo_len]; omega), inkTo_len, show r * s.cols.toNat + k - r * s.cols.toNat = k by omega]
      unfold inkRow
      rw [el_map_range hk]
/-- How many of the first r dots of a column are ink. -/
def cntCol (ink : List Bool) (C k : Nat) : Nat → Nat
  | 0 => 0
  | r + 1 => cntCol ink C k r + (if el ink (r * C + k) = true then 1 else 0)
theorem cntCol_le (ink : List Bool) (C k : Nat) : ∀ r, cntCol ink C k r ≤ r
  | 0 => Nat.le_refl _
  | r + 1 => by have := cntCol_le ink C k r; simp only [cntCol]; split <;> omega
/-- What the law 'printed' knows behind r rows: paper, run, lines. -/
def pPaper (w cl : Int) (d : Nat → Bool) : Nat → Int × Int × Int
  | 0 => (cl, 0, 0)
  | r + 1 => if d r = true then (if (pPaper w cl d r).2.1 % w = 0 then (0, (pPaper w cl d r).2.1 + 1, (pPaper w cl d r).2.2 + 1) else ((pPaper w cl d r).1, (pPaper w cl d r).2.1 + 1, (pPaper w cl d r).2.2)) else ((pPaper w cl d r).1 + 1, 0, (pPaper w cl d r).2.2)
def cntD (d : Nat → Bool) : Nat → Nat
  | 0 => 0
  | r + 1 => cntD d r + (if d r = true then 1 else 0)
theorem cnt_same {ink : List Bool} {C k : Nat} {d : Nat → Bool} : ∀ {r : Nat}, (∀ q, q < r → el ink (q * C + k) = d q) → cntCol ink C k r = cntD d r
  | 0, _ => rfl
  | r + 1, h => by simp only [cntCol, cntD]; rw [cnt_same fun q hq => h q (by omega), h r (by omega)]
/-- The lines' rows in one column: l i, i < n; each w dots of ink, cl of paper at least between two. -/
structure Col (w cl R : Int) (n : Nat) (l : Nat → Int) (d : Nat → Bool) : Prop where
  hw : 1 ≤ w
  hc : 0 ≤ cl
  low : ∀ i, i < n → 0 ≤ l i ∧ l i + w ≤ R
  gap : ∀ i, i + 1 < n → l i + w + cl ≤ l (i + 1)
  dot : ∀ r : Nat, d r = true ↔ ∃ i, i < n ∧ l i ≤ r ∧ (r : Int) < l i + w
theorem Col.far {w cl R : Int} {n : Nat} {l : Nat → Int} {d : Nat → Bool} (h : Col w cl R n l d) : ∀ (e i : Nat), i + (e + 1) < n → l i + w + cl ≤ l (i + (e + 1))
  | 0, i, hi => h.gap i hi
  | e + 1, i, hi => by
    have h1 := h.far e i (by omega)
    have h2 := h.gap (i + (e + 1)) (by omega)
    have := h.hw
    have := h.hc
    rw [show i + (e + 1 + 1) = i + (e + 1) + 1 by omega]
    omega
theorem Col.apart {w cl R : Int} {n : Nat} {l : Nat → Int} {d : Nat → Bool} (h : Col w cl R n l d) {i j : Nat} (hij : i < j) (hj : j < n) : l i + w + cl ≤ l j := by
  have := h.far (j - i - 1) i (by omega)
  rw [show i + (j - i - 1 + 1) = j by omega] at this
  exact this
/-- Behind r rows L lines have begun. -/
structure At (w cl : Int) (n : Nat) (l : Nat → Int) (d : Nat → Bool) (r L : Nat) : Prop where
  le : L ≤ n
  old : ∀ i, i < L → l i < r
  new : ∀ i, L ≤ i → i < n → (r : Int) ≤ l i
  zero : L = 0 → (pPaper w cl d r).2.1 = 0 ∧ (pPaper w cl d r).2.2 = 0 ∧ cntD d r = 0
  lines : (pPaper w cl d r).2.2 = L
  ink : 0 < L → (r : Int) < l (L - 1) + w → (pPaper w cl d r).2.1 % w = r - l (L - 1) ∧ (pPaper w cl d r).1 = 0 ∧ (cntD d r : Int) = (L : Int) * w - w + (r - l (L - 1))
  edge : 0 < L → l (L - 1) + w ≤ r → (pPaper w cl d r).2.1 % w = 0 ∧ (pPaper w cl d r).1 = r - l (L - 1) - w ∧ (cntD d r : Int) = (L : Int) * w
theorem Col.at_ {w cl R : Int} {n : Nat} {l : Nat → Int} {d : Nat → Bool} (h : Col w cl R n l d) : ∀ r, ∃ L, At w cl n l d r L ∧ (d r = false → (pPaper w cl d r).2.1 % w = 0) ∧ (d r = true → (pPaper w cl d r).2.1 % w = 0 → (pPaper w cl d r).2.2 = 0 ∨ cl ≤ (pPaper w cl d r).1) := by
  have hw := h.hw
  have hc := h.hc
  have key : ∀ {r L : Nat}, At w cl n l d r L → (d r = true ↔ (0 < L ∧ (r : Int) < l (L - 1) + w) ∨ (L < n ∧ l L = r)) := fun {r L} a => by
    rw [h.dot]
    constructor
    · rintro ⟨i, hi, h1, h2⟩
      rcases Nat.lt_or_ge i L with h3 | h3
      · rcases Nat.lt_or_ge (i + 1) L with h4 | h4
        · have := h.apart (i := i) (j := L - 1) (by omega) (by have := a.le; omega)
          have := a.old (L - 1) (by omega)
          omega
        · obtain rfl : i = L - 1 := by omega
          exact .inl ⟨by omega, h2⟩
      · have h4 := a.new i h3 hi
        rcases Nat.lt_or_ge L i with h5 | h5
        · have := h.apart h5 hi
          have := a.new L (Nat.le_refl _) (by omega)
          omega
        · obtain rfl : i = L := by omega
          exact .inr ⟨hi, by omega⟩
    · rintro (⟨h1, h2⟩ | ⟨h1, h2⟩)
      · exact ⟨L - 1, by have := a.le; omega, by have := a.old (L - 1) (by omega); omega, h2⟩
      · exact ⟨L, h1, by omega, by omega⟩
  -- what the law asks, from the state
  have asks : ∀ {r L : Nat}, At w cl n l d r L → (d r = false → (pPaper w cl d r).2.1 % w = 0) ∧ (d r = true → (pPaper w cl d r).2.1 % w = 0 → (pPaper w cl d r).2.2 = 0 ∨ cl ≤ (pPaper w cl d r).1) := fun {r L} a => by
    have k := key a
    refine ⟨fun hf => ?_, fun ht h0 => ?_⟩
    · rw [hf] at k
      have k' : ¬ ((0 < L ∧ (r : Int) < l (L - 1) + w) ∨ (L < n ∧ l L = r)) := fun x => by have := k.2 x; cases this
      rcases Nat.eq_zero_or_pos L with h1 | h1
      · rw [(a.zero h1).1]; exact Int.zero_emod _
      · by_cases h2 : (r : Int) < l (L - 1) + w
        · exact (k' (.inl ⟨h1, h2⟩)).elim
        · exact (a.edge h1 (by omega)).1
    · rcases Nat.eq_zero_or_pos L with h1 | h1
      · exact .inl (a.zero h1).2.1
      · by_cases h2 : (r : Int) < l (L - 1) + w
        · have := (a.ink h1 h2).1
          have := a.old (L - 1) (by omega)
          omega
        · rcases k.1 ht with ⟨_, h3⟩ | ⟨h3, h4⟩
          · omega
          · have := (a.edge h1 (by omega)).2.1
            have := h.apart (i := L - 1) (j := L) (by omega) h3
            right
            omega
  intro r
  induction r with
  | zero =>
    refine ⟨0, ?_⟩
    have a : At w cl n l d 0 0 := ⟨Nat.zero_le _, fun i hi => by omega, fun i _ hi => (h.low i hi).1, fun _ => ⟨rfl, rfl, rfl⟩, rfl, fun h => by omega, fun h => by omega⟩
    exact ⟨a, asks a⟩
  | succ r ih =>
    obtain ⟨L, a, _⟩ := ih
    have k := key a
    have ak := asks a
    have hle := a.le
    have hlines := a.lines
    -- behind the first two kinds of rows: ink
    have inkStep : ∀ (L' : Nat), L' ≤ n → 0 < L' → (∀ i, i < L' → l i < (r : Int) + 1) → (∀ i, L' ≤ i → i < n → (r : Int) + 1 ≤ l i) → (pPaper w cl d (r + 1)).2.2 = L' → (pPaper w cl d (r + 1)).1 = 0 → (r : Int) < l (L' - 1) + w →
        (pPaper w cl d (r + 1)).2.1 % w = (if (r : Int) + 1 - l (L' - 1) = w then 0 else (r : Int) + 1 - l (L' - 1)) → (cntD d (r + 1) : Int) = (L' : Int) * w - w + ((r : Int) + 1 - l (L' - 1)) → At w cl n l d (r + 1) L' := fun L' h1 h2 h3 h4 h5 h6 h7 h8 h9 => {
      le := h1, old := fun i hi => by have := h3 i hi; omega, new := fun i hi hn => by have := h4 i hi hn; omega, zero := fun h => by omega, lines := h5
      ink := fun _ hb => by
        rw [if_neg (by omega)] at h8
        refine ⟨by omega, h6, by omega⟩
      edge := fun _ hb => by
        rw [if_pos (by omega)] at h8
        refine ⟨h8, by omega, by omega⟩ }
    by_cases hA : 0 < L ∧ (r : Int) < l (L - 1) + w
    · have hd : d r = true := k.2 (.inl hA)
      obtain ⟨i1, i2, i3⟩ := a.ink hA.1 hA.2
      have hold := a.old (L - 1) (by omega)
      have hne : ¬ (pPaper w cl d r).2.1 % w = 0 := by omega
      have e : (pPaper w cl d (r + 1)).2.1 = (pPaper w cl d r).2.1 + 1 ∧ (pPaper w cl d (r + 1)).2.2 = (pPaper w cl d r).2.2 ∧ (pPaper w cl d (r + 1)).1 = (pPaper w cl d r).1 := by simp only [pPaper, hd, if_true]; rw [if_neg hne]; exact ⟨rfl, rfl, rfl⟩
      obtain ⟨e1, e2, e3⟩ := e
      have e4 : cntD d (r + 1) = cntD d r + 1 := by simp [cntD, hd]
      have b : At w cl n l d (r + 1) L := by
        refine inkStep L hle hA.1 (fun i hi => by have := a.old i hi; omega) (fun i hi hn => ?_) (by omega) (by omega) hA.2 ?_ (by rw [e4]; omega)
        · have := h.apart (i := L - 1) (j := i) (by omega) hn
          omega
        · rw [e1, Int.add_emod, i1]
          by_cases hw1 : w = 1
          · omega
          · rw [Int.emod_eq_of_lt (show (0 : Int) ≤ 1 by omega) (by omega)]
            split
            · rw [show (r : Int) - l (L - 1) + 1 = w by omega]; exact Int.emod_self
            · rw [Int.emod_eq_of_lt (by omega) (by omega)]; omega
      exact ⟨L, b, (asks b).1, (asks b).2⟩
    · have h0 : (pPaper w cl d r).2.1 % w = 0 ∧ (cntD d r : Int) = (L : Int) * w := by
        rcases Nat.eq_zero_or_pos L with h1 | h1
        · obtain ⟨z1, z2, z3⟩ := a.zero h1
          rw [z1, z3, h1]
          exact ⟨Int.zero_emod _, by simp⟩
        · obtain ⟨z1, z2, z3⟩ := a.edge h1 (by omega)
          exact ⟨z1, z3⟩
      by_cases hB : L < n ∧ l L = r
      · have hd : d r = true := k.2 (.inr hB)
        have e : (pPaper w cl d (r + 1)).2.1 = (pPaper w cl d r).2.1 + 1 ∧ (pPaper w cl d (r + 1)).2.2 = (pPaper w cl d r).2.2 + 1 ∧ (pPaper w cl d (r + 1)).1 = 0 := by simp only [pPaper, hd, if_true]; rw [if_pos h0.1]; exact ⟨rfl, rfl, rfl⟩
        obtain ⟨e1, e2, e3⟩ := e
        have e4 : cntD d (r + 1) = cntD d r + 1 := by simp [cntD, hd]
        have hm : ((L + 1 : Nat) : Int) * w = (L : Int) * w + w := by rw [Int.natCast_succ, Int.add_mul, Int.one_mul]
        have b : At w cl n l d (r + 1) (L + 1) := by
          refine inkStep (L + 1) hB.1 (by omega) (fun i hi => ?_) (fun i hi hn => ?_) (by omega) e3 (by rw [show L + 1 - 1 = L by omega]; omega) ?_ ?_
          · rcases Nat.lt_or_ge i L with h1 | h1
            · have := a.old i h1; omega
            · obtain rfl : i = L := by omega
              omega
          · have := h.apart (i := L) (j := i) (by omega) hn
            omega
          · rw [show L + 1 - 1 = L by omega, e1, Int.add_emod, h0.1, Int.zero_add, Int.emod_emod]
            split
            · rw [show w = 1 by omega]; rfl
            · rw [Int.emod_eq_of_lt (by omega) (by omega)]; omega
          · rw [e4, hm, show L + 1 - 1 = L by omega]
            omega
        exact ⟨L + 1, b, (asks b).1, (asks b).2⟩
      · have hd : d r = false := by
          cases hd : d r
          · rfl
          · rcases k.1 hd with h1 | h1
            · exact (hA h1).elim
            · exact (hB h1).elim
        have e : (pPaper w cl d (r + 1)).2.1 = 0 ∧ (pPaper w cl d (r + 1)).2.2 = (pPaper w cl d r).2.2 ∧ (pPaper w cl d (r + 1)).1 = (pPaper w cl d r).1 + 1 := by simp only [pPaper, hd]; exact ⟨rfl, rfl, rfl⟩
        obtain ⟨e1, e2, e3⟩ := e
        have e4 : cntD d (r + 1) = cntD d r := by simp [cntD, hd]
        have b : At w cl n l d (r + 1) L := {
          le := hle, old := fun i hi => by have := a.old i hi; omega
          new := fun i hi hn => by
            have h1 := a.new i hi hn
            rcases Nat.lt_or_ge L i with h2 | h2
            · have := h.apart h2 hn
              have := a.new L (Nat.le_refl _) (by omega)
              omega
            · obtain rfl : i = L := by omega
              have : ¬ l i = r := fun e => hB ⟨hn, e⟩
              omega
          zero := fun h1 => by
            obtain ⟨z1, z2, z3⟩ := a.zero h1
            exact ⟨e1, by omega, by omega⟩
          lines := by omega
          ink := fun h1 h2 => (hA ⟨h1, by omega⟩).elim
          edge := fun h1 h2 => by
            obtain ⟨z1, z2, z3⟩ := a.edge h1 (by omega)
            exact ⟨by rw [e1]; exact Int.zero_emod _, by omega, by rw [e4]; exact z3⟩ }
        exact ⟨L, b, (asks b).1, (asks b).2⟩
/-- In the end each line has its ink. -/
theorem Col.all {w cl : Int} {R n : Nat} {l : Nat → Int} {d : Nat → Bool} (h : Col w cl R n l d) : (pPaper w cl d R).2.2 = n ∧ (cntD d R : Int) = (n : Int) * w := by
  have hw := h.hw
  obtain ⟨L, a, _, _⟩ := h.at_ R
  have hn : L = n := by
    rcases Nat.lt_or_ge L n with h1 | h1
    · have := a.new L (Nat.le_refl _) h1
      have := h.low L h1
      omega
    · have := a.le; omega
  subst hn
  refine ⟨a.lines, ?_⟩
  rcases Nat.eq_zero_or_pos L with h1 | h1
  · rw [(a.zero h1).2.2, h1]; simp
  · have := h.low (L - 1) (by omega)
    exact (a.edge h1 (by omega)).2.2
/-- A band's columns. -/
theorem band_col {s : Sheet} {b : List (List Int)} (hs : s.ok = true) (hb : bandB s b = true) {k : Nat} (hk : (k : Int) < s.cols) : Col s.weight s.clear ((s.rows.toNat : Nat) : Int) b.length (fun i => el (el b i) k) (fun r => dotB s b r k) := by
  have hbd := Sheet.bounds hs
  obtain ⟨h1, h2, h3⟩ := bandB_iff.1 hb
  refine ⟨by omega, by omega, fun i hi => ?_, fun i hi => ?_, fun r => ?_⟩
  · have h4 := of_all_el h2 hi
    have h5 := isLine_len h4
    have := isLine_at h4 (j := k) (by omega)
    omega
  · have := h3 i hi k hk
    show el (el b i) k + s.weight + s.clear ≤ el (el b (i + 1)) k
    omega
  · show dotB s b r k = true ↔ _
    constructor
    · intro hd
      unfold dotB at hd
      obtain ⟨x, hx, hd⟩ := List.any_eq_true.1 hd
      obtain ⟨i, hi, rfl⟩ := mem_el hx
      unfold dotAt at hd
      have := withinB_iff.1 hd
      exact ⟨i, hi, by omega, by omega⟩
    · rintro ⟨i, hi, h4, h5⟩
      refine any_el hi ?_
      unfold dotAt
      exact withinB_iff.2 ⟨by omega, by omega⟩
end Go.Proofs.Ytccidiflnmchiaa
namespace Go.Proofs.Ytccidiflnmchiaa
open Go.RowKit
theorem ink_len {s : Sheet} {b : List (List Int)} (h : checkErr s b = 0) : (inkF s b).length = s.rows.toNat * s.cols.toNat := by unfold inkF; rw [if_pos h, inkTo_len]
theorem ink_el {s : Sheet} {b : List (List Int)} (h : checkErr s b = 0) {r k : Nat} (hr : r < s.rows.toNat) (hk : k < s.cols.toNat) : el (inkF s b) (r * s.cols.toNat + k) = dotB s b r k := by
  unfold inkF
  rw [if_pos h]
  exact inkTo_el s b k hk _ _ hr
theorem check_bandB {s : Sheet} {b : List (List Int)} (h : checkErr s b = 0) : s.ok = true ∧ bandB s b = true := by
  unfold checkErr at h
  split at h
  · split at h
    · rename_i h1 h2; exact ⟨h1, h2⟩
    · cases h
  · cases h
theorem ink_cnt {s : Sheet} {b : List (List Int)} (h : checkErr s b = 0) {k : Nat} (hk : k < s.cols.toNat) : ((cntCol (inkF s b) s.cols.toNat k s.rows.toNat : Nat) : Int) = (b.length : Int) * s.weight := by
  obtain ⟨h1, h2⟩ := check_bandB h
  rw [cnt_same (d := fun r => dotB s b r k) fun q hq => ink_el h hq hk]
  exact (band_col h1 h2 (k := k) (by omega)).all.2
set_option maxHeartbeats 1000000 in
theorem column_p (s : Sheet) (hs : s.ok = true) (ink : List Bool) (hl : ink.length = s.rows.toNat * s.cols.toNat) (k : Nat) (hk : k < s.cols.toNat) : PCalls Try.prog 50 [s.enc, encBools ink, vi k] (· = vi ((cntCol ink s.cols.toNat k s.rows.toNat : Nat) : Int)) := by
  have hb := Sheet.bounds hs
  generalize hC : s.cols.toNat = C at *
  generalize hR : s.rows.toNat = R at *
  have hRC : R * C ≤ 60 * 40 := Nat.mul_le_mul (by omega) (by omega)
  refine pcalls_of_aw Try.func50 rfl (Nat.le_of_ble_eq_true rfl) ?_
  (repeat' (first | (refine ar_isq ?_; first | refine zmv ?_ | refine zas ?_ | (refine is_load ?_; first | refine zlp ?_ | refine zlr ?_) | (refine is_binOp ?_; first | refine zlss ?_ | refine zadd ?_) | (refine is_fieldAddr ?_; first | refine zfp ?_ | refine zfr ?_) | (refine is_indexAddr ?_; first | refine zil ?_ | refine zis ?_ | refine zit ?_ | refine zia ?_ | refine zir ?_ | (refine zxl ?_; intro _ _ _) | (refine zxs ?_; intro _ _ _)) | (refine is_call ?_; first | refine zll ?_ | refine zls ?_ | refine zln ?_ | refine zle ?_)) | (refine zbx ?_) | (refine ar_nil ?_) | (refine aw_seq ?_) | (refine aw_skip ?_) | (refine aw_block ?_) | (refine aw_exit ?_) | (refine aw_region ?_) | (refine zco ?_ ?_ <;> intro hg <;> first | exact absurd hg (by decide) | ((try replace hg := HG.out hg); (try dsimp only at hg); (try (have _h : True := hg; clear _h hg)); first | (exfalso; omega) | skip))))
  refine aw_for R (fun _ => True) (fun r => [(1, encBools ink), (3, .ptr 5 0 0 0), (7, vi ((cntCol ink C k r : Nat) : Int)), (8, vi ((r * C + k : Nat) : Int))]) (fun _ => [.arr 5 1 (fun _ => s.enc)]) trivial ?_ ?_
  · (refine sub_to [some 0] [] rfl ?_ ?_ <;> (repeat' (first | exact trivial | refine ⟨⟨_, rfl, ?_⟩, ?_⟩ | refine ⟨bsub_snoc rfl rfl (fun _ => rfl) ?_, ?_⟩ | refine ⟨bsub_one rfl rfl ?_, ?_⟩ | refine ⟨bsub_all rfl rfl (fun _ _ => rfl) (fun _ => rfl), ?_⟩ | refine ⟨bsub_updL rfl rfl ?_ (fun _ _ _ => rfl) (fun _ => rfl), ?_⟩ | refine ⟨.inl ⟨_, _, rfl, rfl, ?_⟩, ?_⟩ | exact ⟨.inr ⟨rfl, rfl⟩, trivial⟩ | refine ⟨.inr ⟨rfl, rfl⟩, ?_⟩ | (intro _ _) | exact .closed rfl | exact .sl rfl | exact .ptr rfl | exact .map rfl | exact .nil rfl | exact .emp rfl | exact .nilList | exact .empList | exact frzPtr' (by simp; done) rfl (by omega) rfl rfl | exact frzLB (by simp; done) rfl (fun _ => rfl) rfl | exact frz_all (by simp; done) rfl (fun _ _ => rfl) (fun _ => rfl) rfl | exact .frz (by simp; done) rfl (by omega) (fun _ _ => rfl) (fun _ _ => rfl) | exact slEq rfl (by first | (simp; done) | (simp; omega)) | exact siEq (by omega) | (exact siEq (by rw [Nat.zero_mul, Nat.zero_add])) | exact .of_eq (by refine (show V.agg _ = V.agg _ from ?_); (try dsimp only); congr <;> first | rfl | omega) rfl | exact .closed (by simp [V.closed, V.closed.all, *]; done) | fail)))
  intro r hr _
  have hcl := cntCol_le ink C k r
  by_cases hlt : r < R
  · have h1 : r * C + C ≤ R * C := by rw [← Nat.succ_mul]; exact Nat.mul_le_mul_right _ hlt
    have h2 : (r + 1) * C = r * C + C := Nat.succ_mul _ _
    (repeat' (first | (refine ar_isq ?_; first | refine zmv ?_ | refine zas ?_ | (refine is_load ?_; first | refine zlp ?_ | refine zlr ?_) | (refine is_binOp ?_; first | refine zlss ?_ | refine zadd ?_) | (refine is_fieldAddr ?_; first | refine zfp ?_ | refine zfr ?_) | (refine is_indexAddr ?_; first | refine zil ?_ | refine zis ?_ | refine zit ?_ | refine zia ?_ | refine zir ?_ | refine zil (j := r * C + k) ?_ | refine zis (j := r * C + k) ?_ | refine zit (j := r * C + k) ?_ | (refine zxl ?_; intro _ _ _) | (refine zxs ?_; intro _ _ _)) | (refine is_call ?_; first | refine zll ?_ | refine zls ?_ | refine zln ?_ | refine zle ?_)) | (refine zbx ?_) | (refine ar_nil ?_) | (refine aw_seq ?_) | (refine aw_skip ?_) | (refine aw_block ?_) | (refine aw_exit ?_) | (refine aw_region ?_) | (refine zco ?_ ?_ <;> intro hg <;> first | exact absurd hg (by decide) | ((try replace hg := HG.out hg); (try dsimp only at hg); (try (have _h : True := hg; clear _h hg)); first | (exfalso; omega) | skip))))
    all_goals first
      | (exfalso; omega)
      | ((first | refine loop_next (by omega) ?_ ?_ | refine (show _ ∧ _ ∧ SubOf _ _ _ _ _ _ from And.intro (by omega) (And.intro ?_ ?_))); (focus ((trivial); done)); (focus ((refine sub_to [some 0] [] rfl ?_ ?_ <;> (repeat' (first | exact trivial | refine ⟨⟨_, rfl, ?_⟩, ?_⟩ | refine ⟨bsub_snoc rfl rfl (fun _ => rfl) ?_, ?_⟩ | refine ⟨bsub_one rfl rfl ?_, ?_⟩ | refine ⟨bsub_all rfl rfl (fun _ _ => rfl) (fun _ => rfl), ?_⟩ | refine ⟨bsub_updL rfl rfl ?_ (fun _ _ _ => rfl) (fun _ => rfl), ?_⟩ | refine ⟨.inl ⟨_, _, rfl, rfl, ?_⟩, ?_⟩ | exact ⟨.inr ⟨rfl, rfl⟩, trivial⟩ | refine ⟨.inr ⟨rfl, rfl⟩, ?_⟩ | (intro _ _) | exact .closed rfl | exact .sl rfl | exact .ptr rfl | exact .map rfl | exact .nil rfl | exact .emp rfl | exact .nilList | exact .empList | exact frzPtr' (by simp; done) rfl (by omega) rfl rfl | exact frzLB (by simp; done) rfl (fun _ => rfl) rfl | exact frz_all (by simp; done) rfl (fun _ _ => rfl) (fun _ => rfl) rfl | exact .frz (by simp; done) rfl (by omega) (fun _ _ => rfl) (fun _ _ => rfl) | exact slEq rfl (by first | (simp; done) | (simp; omega)) | exact siEq (by omega) | (first | exact siEq (by omega) | exact siEq (by simp only [cntCol]; rw [if_pos (by assumption)]; omega) | exact siEq (by simp only [cntCol]; rw [if_neg (by simp_all)]; omega)) | exact .of_eq (by refine (show V.agg _ = V.agg _ from ?_); (try dsimp only); congr <;> first | rfl | omega) rfl | exact .closed (by simp [V.closed, V.closed.all, *]; done) | fail))); done)))
      | trace_state
  · obtain rfl : r = R := by omega
    (repeat' (first | (refine ar_isq ?_; first | refine zmv ?_ | refine zas ?_ | (refine is_load ?_; first | refine zlp ?_ | refine zlr ?_) | (refine is_binOp ?_; first | refine zlss ?_ | refine zadd ?_) | (refine is_fieldAddr ?_; first | refine zfp ?_ | refine zfr ?_) | (refine is_indexAddr ?_; first | refine zil ?_ | refine zis ?_ | refine zit ?_ | refine zia ?_ | refine zir ?_ | (refine zxl ?_; intro _ _ _) | (refine zxs ?_; intro _ _ _)) | (refine is_call ?_; first | refine zll ?_ | refine zls ?_ | refine zln ?_ | refine zle ?_)) | (refine zbx ?_) | (refine ar_nil ?_) | (refine aw_seq ?_) | (refine aw_skip ?_) | (refine aw_block ?_) | (refine aw_exit ?_) | (refine aw_region ?_) | (refine zco ?_ ?_ <;> intro hg <;> first | exact absurd hg (by decide) | ((try replace hg := HG.out hg); (try dsimp only at hg); (try (have _h : True := hg; clear _h hg)); first | (exfalso; omega) | skip))))
    all_goals first
      | (exfalso; omega)
      | ((refine aw_ret ?_; (repeat (first | refine ret_then ?_ | refine ret_block ?_)); refine bq1 rfl ⟨?_, rfl⟩); rfl)
      | trace_state
end Go.Proofs.Ytccidiflnmchiaa
namespace Go.Proofs.Ytccidiflnmchiaa
open Go.RowKit
theorem draw_ok {s : Sheet} {c : Screen} {w : List (List Int)} (h : drawErr s c w = 0) : roomErr s c = 0 ∧ w.length = cntF s c ∧ ∀ i, i < w.length → ((el w i).length : Int) = s.cols ∧ ∀ j, j < (el w i).length → 0 ≤ el (el w i) j ∧ el (el w i) j ≤ roomW s c := by
  unfold drawErr at h
  split at h
  · rename_i h1
    split at h
    · rename_i h2
      obtain ⟨_, _, _, hn, _⟩ := room_ok h1
      simp only [wishOk, Bool.and_eq_true, decide_eq_true_eq] at h2
      obtain ⟨⟨h3, h4⟩, h5⟩ := h2
      refine ⟨h1, by omega, fun i hi => ⟨?_, fun j hj => ?_⟩⟩
      · have := of_all_el h4 hi
        simpa [lenB] using this
      · have := List.all_eq_true.1 h5 (el (el w i) j) (List.mem_flatten.2 ⟨_, el_mem hi, el_mem hj⟩)
        exact withinB_iff.1 this
    · cases h
  · rename_i h1; exact (h1 h).elim
end Go.Proofs.Ytccidiflnmchiaa
namespace Go.Proofs.Ytccidiflnmchiaa
open Go.RowKit
theorem numTo_bits {n : Nat} (hn : n < 32768) : ∀ j, j ≤ 15 → numTo (bitB n) j = shN n (15 - j)
  | 0, _ => by
    show 0 = n / pow2 15
    rw [show pow2 15 = 32768 from rfl, Nat.div_eq_of_lt hn]
  | j + 1, hj => by
    simp only [numTo]
    rw [numTo_bits hn j (by omega)]
    have h1 := half_pow n (14 - j)
    rw [show 14 - j + 1 = 15 - j by omega] at h1
    have h2 : bitB n j = decide (shN n (14 - j) % 2 = 1) := rfl
    rw [show 15 - (j + 1) = 14 - j by omega, h1, h2]
    by_cases e : shN n (14 - j) % 2 = 1
    · rw [if_pos (by simpa using e)]; omega
    · rw [if_neg (by simpa using e)]; omega
theorem numTo_word {n : Nat} (hn : n < 32768) : numTo (bitB n) 15 = n := by
  rw [numTo_bits hn 15 (Nat.le_refl _)]
  show n / 1 = n
  exact Nat.div_one n
theorem cnt_none {l : List Bool} {a : Nat} : ∀ {n : Nat}, (∀ q, q < n → el l (a + q) = false) → cntTo l a n = 0
  | 0, _ => rfl
  | n + 1, h => by simp only [cntTo]; rw [cnt_none fun q hq => h q (by omega), h n (by omega)]; rfl
theorem cnt_ge {l : List Bool} {a lo hi : Nat} (h : ∀ q, lo ≤ q → q < hi → el l (a + q) = true) : ∀ n : Nat, (min n hi : Nat) ≤ lo + cntTo l a n
  | 0 => by simp
  | n + 1 => by
    have ih := cnt_ge h n
    simp only [cntTo]
    by_cases h1 : lo ≤ n ∧ n < hi
    · rw [if_pos (h n h1.1 h1.2)]; omega
    · split <;> omega
theorem cell_yes {m : List (List Bool)} {z g r k d : Nat} (hz : 4 * d < z) (h : ∀ q, d ≤ q → q < z - d → el (el m r) (z * (4 * g + k) + q) = true) : cellB m z g r k = true := by
  have := cnt_ge h z
  unfold cellB
  rw [decide_eq_true_eq]
  omega
theorem cell_no {m : List (List Bool)} {z g r k : Nat} (h : ∀ q, q < z → el (el m r) (z * (4 * g + k) + q) = false) : cellB m z g r k = false := by
  unfold cellB
  rw [cnt_none h]
  simp
theorem cell_place {z g k q : Nat} (hk : k < 4) (hq : q < z) : (z * (4 * g + k) + q) / (4 * z) = g ∧ (z * (4 * g + k) + q) % (4 * z) / z = k := by
  have h1 : (z * (4 * g + k) + q) / z = 4 * g + k := by rw [Nat.mul_add_div (by omega), Nat.div_eq_of_lt hq]; omega
  constructor
  · rw [Nat.mul_comm 4 z, ← Nat.div_div_eq_div_mul, h1]; omega
  · rw [Nat.mul_comm 4 z, Nat.mod_mul_right_div_self, h1]; omega
/-- Where a mask's cell is, in the mask of a word. -/
theorem mask_cell {w : List Int} {z C L g r k q : Nat} (hr : r < L) (hk : k < 3) (hq : q < z) (hC : z * (4 * g + k) + q < C) : el (el (maskTo w z C L) r) (z * (4 * g + k) + q) = maskAt w r g k := by
  obtain ⟨h1, h2⟩ := cell_place (g := g) (show k < 4 by omega) hq
  unfold maskTo
  rw [el_map_range hr]
  unfold maskRow
  rw [el_map_range hC, h1, h2]
/-- A mask whose cells are a word's bits says the word. -/
theorem spell_word {w : List Int} {m : List (List Bool)} {z : Nat} (hw : wordB w = true) (h : ∀ g, g < w.length → ∀ r, r < 5 → ∀ k, k < 3 → cellB m z g r k = bitB (el w g).toNat (r * 3 + k)) : spellTo m z w.length = w := by
  refine ext_el (spellTo_len _ _ _) fun g hg => ?_
  rw [spellTo_len] at hg
  unfold spellTo
  rw [el_map_range hg]
  have hwg := withinB_iff.1 (of_all_el hw hg)
  have e : numTo (glyphB m z g) 15 = numTo (bitB (el w g).toNat) 15 := numTo_congr fun j hj => by
    have h1 := h g hg (j / 3) (by omega) (j % 3) (by omega)
    unfold glyphB
    rw [h1]
    congr 1
    omega
  rw [e, numTo_word (by omega)]
  omega
theorem mask_parts {w : List Int} {size cols lines : Int} (h : maskErr w size cols lines = 0) : w.length ≤ 8 ∧ wordB w = true ∧ (1 ≤ size ∧ size ≤ 40) ∧ (1 ≤ cols ∧ cols ≤ 40) ∧ (1 ≤ lines ∧ lines ≤ 12) ∧ 5 ≤ lines ∧ wideI size w.length ≤ cols := by
  unfold maskErr at h
  split at h
  · cases h
  · rename_i h1
    split at h
    · rename_i h2
      split at h
      · cases h
      · rename_i h3
        exact ⟨by omega, h2.1, withinB_iff.1 h2.2.1, withinB_iff.1 h2.2.2.1, withinB_iff.1 h2.2.2.2, by omega, by omega⟩
    · cases h
  done
theorem wide_cell {z g k : Nat} {w : List Int} {C : Nat} (hz : 1 ≤ z) (hC : wideI (z : Int) w.length ≤ (C : Int)) (hg : g < w.length) (hk : k < 3) : z * (4 * g + k) + z ≤ C := by
  have h1 := cell_in (z := z) hg hk
  have h2 : wideI (z : Int) w.length = ((z * (4 * w.length - 1) : Nat) : Int) := by
    unfold wideI
    rw [Int.natCast_mul]
    congr 1
    omega
  omega
theorem spell_good {m : List (List Bool)} {z N C : Nat} (hz : 1 ≤ z ∧ z ≤ 40) (hN : N ≤ 8) (hm : 5 ≤ m.length) (hl : ∀ r, r < 5 → (el m r).length = C) (hC : wideI (z : Int) N ≤ (C : Int)) : spellErr m z N = 0 :=
  spellErr_ok ⟨withinB_iff.2 (by omega), withinB_iff.2 (by omega)⟩ (by omega) (long_yes (by omega) fun r hr => by rw [hl r hr]; exact hC)
/-- A word is spelled from its mask. -/
theorem spell_mask {w : List Int} {z C L : Nat} (h : maskErr w z C L = 0) : spellErr (maskTo w z C L) z w.length = 0 ∧ spellF (maskTo w z C L) z w.length = w := by
  obtain ⟨h8, hw, hz, hC, hL, h5, hwd⟩ := mask_parts h
  have he : spellErr (maskTo w z C L) z w.length = 0 := by
    refine spell_good (C := C) (by omega) h8 (by rw [maskTo_len]; omega) (fun r hr => ?_) hwd
    unfold maskTo
    rw [el_map_range (by omega), maskRow_len]
  refine ⟨he, ?_⟩
  rw [spellF_ok he, Int.toNat_natCast, Int.toNat_natCast]
  refine spell_word hw fun g hg r hr k hk => ?_
  have hin := wide_cell (z := z) (w := w) (C := C) (by omega) hwd hg hk
  have hat : ∀ q, q < z → el (el (maskTo w z C L) r) (z * (4 * g + k) + q) = bitB (el w g).toNat (r * 3 + k) := fun q hq => by
    rw [mask_cell (by omega) hk hq (by omega), maskAt_t hr hg hk]
  cases hb : bitB (el w g).toNat (r * 3 + k)
  · exact cell_no fun q hq => by rw [hat q hq, hb]
  · exact cell_yes (d := 0) (by omega) fun q _ hq => by rw [hat q (by omega), hb]
theorem mask_shape {s : Sheet} {c : Screen} {w : List Int} {z : Int} (hr : roomErr s c = 0) (h : maskErr w z s.cols (roomN s c) = 0) : maskOk s c (maskF w z s.cols (roomN s c)) = true := by
  obtain ⟨hs, _, _, hrn, _⟩ := room_ok hr
  have hb := Sheet.bounds hs
  rw [maskF_ok h]
  refine mask_good (by rw [maskTo_len]; omega) fun j hj => ?_
  rw [maskTo_len] at hj
  unfold maskTo
  rw [el_map_range hj, maskRow_len]
  omega
/-- A lean over a stretch that is wished in full. -/
theorem hideA_in {s : Sheet} {c : Screen} {m : List (List Bool)} (h : hideErr s c m = 0) (hlean : 1 ≤ s.lean) {i a z q d : Nat} (hi : i < m.length) (haz : ((a + z : Nat) : Int) ≤ s.cols) (hon : ∀ q, q < z → el (el m i) (a + q) = true) (hd : (d : Int) = (c.period / 2 - s.weight) / s.lean) (hq1 : d ≤ q) (hq2 : q < z - d) :
    hideA s c m i (a + q) ≤ c.period / 2 ∧ c.period / 2 - hideA s c m i (a + q) < s.weight := by
  obtain ⟨hr, hw, hh, hn, hl⟩ := hide_ok h
  obtain ⟨hs, hc, h0, _, _⟩ := room_ok hr
  have hb := Sheet.bounds hs
  have hcb := Screen.bounds hc
  have hbn := hideA_bnd h hi (j := a + q) (by omega)
  have hle : hV c (el (el m i) (a + q)) ≤ c.period / 2 := by rcases hV_at c (el (el m i) (a + q)) with e | e <;> rw [e] <;> omega
  refine ⟨by omega, ?_⟩
  obtain ⟨k, hk, h1⟩ := lean_some (a := s.lean) (w := el (el (hideTo c m m.length) i)) (n := s.cols.toNat) (j := a + q) (by omega) (by omega)
  rw [hide_el hi (hl i hi) (by omega)] at h1
  have hA : hideA s c m i (a + q) = leanAt s.lean (el (el (hideTo c m m.length) i)) s.cols.toNat (a + q) := rfl
  rw [← hA] at h1
  have hf0 : 0 ≤ farI (a + q) k := by unfold farI; omega
  have hm0 : 0 ≤ s.lean * farI (a + q) k := Int.mul_nonneg (by omega) hf0
  by_cases hin : a ≤ k ∧ k < a + z
  · have h2 := hon (k - a) (by omega)
    rw [show a + (k - a) = k by omega] at h2
    rw [h2] at h1
    have : hV c true = c.period / 2 := rfl
    omega
  · have hfar : (d : Int) + 1 ≤ farI (a + q) k := by unfold farI; omega
    have h3 : s.lean * ((d : Int) + 1) ≤ s.lean * farI (a + q) k := Int.mul_le_mul_of_nonneg_left hfar (by omega)
    have h4 : c.period / 2 - s.weight < s.lean * ((d : Int) + 1) := by
      rw [hd, Int.mul_add, Int.mul_one]
      have h5 := Int.mul_ediv_add_emod (c.period / 2 - s.weight) s.lean
      have h6 := Int.emod_lt_of_pos (c.period / 2 - s.weight) (show 0 < s.lean by omega)
      omega
    have h5 : 0 ≤ hV c (el (el m i) k) := (hV_bnd hc _).1
    omega
/-- A word is spelled from what is seen of its hidden mask. -/
theorem spell_seen {s : Sheet} {c : Screen} {w : List Int} {z : Nat} (hr : roomErr s c = 0) (h : maskErr w z s.cols (roomN s c) = 0) (hh : hideErr s c (maskF w z s.cols (roomN s c)) = 0) (hlean : 1 ≤ s.lean) (hz : (c.period / 2 - s.weight) / s.lean * 4 < z) :
    spellErr (seenF s (hideF s c (maskF w z s.cols (roomN s c))) c (c.period / 2)) z w.length = 0 ∧ spellF (seenF s (hideF s c (maskF w z s.cols (roomN s c))) c (c.period / 2)) z w.length = w := by
  obtain ⟨h8, hw, hz1, hC, hL, h5, hwd⟩ := mask_parts h
  obtain ⟨hs, hc, h0, hrn, _⟩ := room_ok hr
  obtain ⟨_, hwt, hhf, hml, hmr⟩ := hide_ok hh
  have hb := Sheet.bounds hs
  have hcb := Screen.bounds hc
  obtain ⟨se, sl, sr⟩ := hide_seen hh (by' := c.period / 2) (by omega) (by omega)
  obtain ⟨C, hCe⟩ : ∃ C : Nat, s.cols = (C : Int) := ⟨s.cols.toNat, by omega⟩
  have hmf : maskF w z s.cols (roomN s c) = maskTo w z C (cntF s c) := by
    rw [maskF_ok h, hrn, Int.toNat_natCast, Int.toNat_natCast, hCe, Int.toNat_natCast]
  have hd0 : 0 ≤ (c.period / 2 - s.weight) / s.lean := Int.ediv_nonneg (by omega) (by omega)
  obtain ⟨d, hd⟩ : ∃ d : Nat, (d : Int) = (c.period / 2 - s.weight) / s.lean := ⟨((c.period / 2 - s.weight) / s.lean).toNat, by omega⟩
  generalize hM : maskF w z s.cols (roomN s c) = M at *
  generalize hS : seenF s (hideF s c M) c (c.period / 2) = S at *
  have hMl : ∀ r, r < 5 → (el M r).length = C := fun r hr => by have := hmr r (by omega); omega
  have he : spellErr S z w.length = 0 := by
    refine spell_good (C := C) (by omega) h8 (by omega) (fun r hr => ?_) (by omega)
    rw [(sr r (by omega)).1, hMl r hr]
  refine ⟨he, ?_⟩
  rw [spellF_ok he, Int.toNat_natCast, Int.toNat_natCast]
  refine spell_word hw fun g hg r hr k hk => ?_
  have hin := wide_cell (z := z) (w := w) (C := C) (by omega) (by omega) hg hk
  have hat : ∀ q, q < z → el (el M r) (z * (4 * g + k) + q) = bitB (el w g).toNat (r * 3 + k) := fun q hq => by
    rw [hmf, mask_cell (by omega) hk hq (by omega), maskAt_t hr hg hk]
  have hsn : ∀ q, q < z → el (el S r) (z * (4 * g + k) + q) = decide (hideA s c M r (z * (4 * g + k) + q) ≤ c.period / 2 ∧ c.period / 2 - hideA s c M r (z * (4 * g + k) + q) < s.weight) := fun q hq =>
    (sr r (by omega)).2 _ (by rw [hMl r hr]; omega)
  cases hbt : bitB (el w g).toNat (r * 3 + k)
  · refine cell_no fun q hq => ?_
    rw [hsn q hq, decide_eq_false_iff_not]
    have hA := hideA_bnd hh (i := r) (j := z * (4 * g + k) + q) (by omega) (by omega)
    rw [hat q hq, hbt] at hA
    have : hV c false = 0 := rfl
    omega
  · refine cell_yes (d := d) (by omega) fun q hq1 hq2 => ?_
    rw [hsn q (by omega), decide_eq_true_eq]
    exact hideA_in hh hlean (z := z) (by omega) (by omega) (fun q hq => by rw [hat q hq, hbt]) hd hq1 hq2
theorem mask_hide {s : Sheet} {c : Screen} {w : List Int} {z : Int} (hr : roomErr s c = 0) (h : maskErr w z s.cols (roomN s c) = 0) : hideErr s c (maskF w z s.cols (roomN s c)) = 0 ∨ hideErr s c (maskF w z s.cols (roomN s c)) = 72 := by
  unfold hideErr
  rw [if_pos hr, if_pos (mask_shape hr h)]
  split
  · exact .inl rfl
  · exact .inr rfl
end Go.Proofs.Ytccidiflnmchiaa
