/- PlateWhere: the walk of the law. No condition. -/
import Derived.Test.YthpbjihnikapoaaKPq11
namespace Go.Proofs.Ythpbjihnikapoaa
open Go.RowKit

set_option maxRecDepth 20000 in
set_option maxHeartbeats 1000000 in
theorem where_bad (life : Int) (bk : List Deed) (i k e f g x : Int) (l m : List Int) (F : Sto) (h : (g ≠ 0 ∧ e = g ∧ f = g) ∨ (g = 0 ∧ (e = 0 ∨ e = 6) ∧ (f = 0 ∨ f = 6))) (hef : ¬ (e = 0 ∧ f = 0)) (hl : PCalls Try.prog 42 [vi life, encDeeds bk, vi i] (· = .tup [encInts l, vi e])) (hm : PCalls Try.prog 42 [vi life, encDeeds bk, vi k] (· = .tup [encInts m, vi f]))
    (hp : PCalls Try.prog 40 [vi life, encDeeds bk] (· = .tup [F.enc, vi x, vi g])) : PCalls Try.prog 8 [vi life, encDeeds bk, vi i, vi k] (· = vb true) := by
  have hlen : bk.length ≤ maxLen ∨ ¬ bk.length ≤ maxLen := by omega
  refine pcalls_of_aw Try.func8 rfl (Nat.le_of_ble_eq_true rfl) ?_
  (repeat' (first | (refine ar_isq ?_; first | refine zmv ?_ | refine zas ?_ | (refine is_load ?_; first | refine zlp ?_ | refine zlr ?_) | (refine is_binOp ?_; first | refine zlss ?_ | refine zgtr ?_ | refine zgeq ?_ | refine zeql ?_ | refine zneq ?_ | refine zadd ?_) | (refine is_fieldAddr ?_; first | refine zfp ?_ | refine zfr ?_) | (refine is_indexAddr ?_; first | refine zil ?_ | refine zis ?_ | refine zit ?_ | refine zia ?_ | refine zir ?_ | (refine zxl ?_; intro _ _ _) | (refine zxs ?_; intro _ _ _)) | (refine is_call ?_; first | refine zll ?_ | refine zls ?_ | refine zln ?_ | refine zle ?_) | (refine is_pick ?_; first | refine zpt ?_ | refine zpf ?_) | refine zex ?_ | refine znt ?_) | (refine ar_pcall (own := false) fn44 rfl rfl .nil (alive_p) (by simp) (dc rfl) ?_; intro _ hv; subst hv) | (refine ar_pcall (own := false) fn42 rfl rfl (.cons (.closed rfl) (.cons (.ext (fun _ _ => rfl)) (.cons (.closed rfl) .nil))) (hl) (by simp) (dc rfl) ?_; intro _ hv; subst hv) | (refine ar_pcall (own := false) fn42 rfl rfl (.cons (.closed rfl) (.cons (.ext (fun _ _ => rfl)) (.cons (.closed rfl) .nil))) (hm) (by simp) (dc rfl) ?_; intro _ hv; subst hv) | (refine ar_pcall (own := false) fn40 rfl rfl (.cons (.closed rfl) (.cons (.ext (fun _ _ => rfl)) .nil)) (hp) (by simp) (dc rfl) ?_; intro _ hv; subst hv) | (refine zal ?_) | (refine zsvs ?_) | (refine zsva ?_) | (refine zses ?_) | (refine zsea ?_) | (refine zg ?_ ?_ <;> intro hg <;> first | exact absurd hg (by decide) | ((try replace hg := HG.out hg); (try dsimp only at hg); (try (have _h : True := hg; clear _h hg)); first | (exfalso; omega) | skip)) | (refine zgu ?_) | (refine ar_nil ?_) | (refine aw_seq ?_) | (refine aw_skip ?_) | (refine aw_block ?_) | (refine aw_exit ?_) | (refine aw_region ?_) | (refine zco ?_ ?_ <;> intro hg <;> first | exact absurd hg (by decide) | ((try replace hg := HG.out hg); (try dsimp only at hg); (try (have _h : True := hg; clear _h hg)); first | (exfalso; omega) | skip))))
  all_goals first
    | (exfalso; omega)
    | ((refine aw_ret ?_; (repeat (first | refine ret_then ?_ | refine ret_block ?_)); refine bq1 rfl ⟨?_, rfl⟩); rfl)
    | ((refine aw_ret ?_; (repeat (first | refine ret_then ?_ | refine ret_block ?_)); refine bq1 rfl ⟨?_, rfl⟩); refine congrArg vb ?_; first | rfl | exact decide_eq_true (by omega))
    | trace_state
set_option maxRecDepth 20000 in
set_option maxHeartbeats 2000000 in
theorem where_good (life : Int) (bk : List Deed) (i k : Int) (F : Sto) (l m : List Int) (P : Nat → Int) (Q : Nat → Int) (hlen : l.length = bk.length) (hml : m.length = bk.length) (hl : PCalls Try.prog 42 [vi life, encDeeds bk, vi i] (· = .tup [encInts l, vi 0])) (hm : PCalls Try.prog 42 [vi life, encDeeds bk, vi k] (· = .tup [encInts m, vi 0]))
    (hp : PCalls Try.prog 40 [vi life, encDeeds bk] (· = .tup [F.enc, vi 0, vi 0])) (hi : 0 ≤ i ∧ i < (F.items.length : Int)) (hk : 0 ≤ k ∧ k < (F.items.length : Int)) (h0 : P 0 = -1) (hP : ∀ n, n < bk.length → el l n = P (n + 1)) (hQ : ∀ n, n < bk.length → el m n = Q (n + 1))
    (hstep : ∀ n, n < bk.length → P (n + 1) = P n ∨ ((el bk n).kind = 3 ∧ (el bk n).item = i ∧ P (n + 1) = (el bk n).dest) ∨ (P n = -1 ∧ (((el bk n).kind = 1 ∧ P (n + 1) = 0) ∨ ((el bk n).kind = 2 ∧ P (n + 1) = 1))) ∨ ((el bk n).kind = 7 ∧ (el bk n).item = i ∧ P (n + 1) = -1)) (hbnd : ∀ n, n < bk.length → -1 ≤ P (n + 1) ∧ P (n + 1) ≤ 9) (hap : ∀ n, n < bk.length → i ≠ k → 2 ≤ P (n + 1) → P (n + 1) ≠ Q (n + 1))
    (hend : ((el F.items i.toNat).gone = true ∧ P bk.length = -1) ∨ ((el F.items i.toNat).gone = false ∧ P bk.length = (el F.items i.toNat).place)) : PCalls Try.prog 8 [vi life, encDeeds bk, vi i, vi k] (· = vb true) := by
  have hml : bk.length ≤ maxLen ∨ ¬ bk.length ≤ maxLen := by omega
  refine pcalls_of_aw Try.func8 rfl (Nat.le_of_ble_eq_true rfl) ?_
  (repeat' (first | (refine ar_isq ?_; first | refine zmv ?_ | refine zas ?_ | (refine is_load ?_; first | refine zlp ?_ | refine zlr ?_) | (refine is_binOp ?_; first | refine zlss ?_ | refine zgtr ?_ | refine zgeq ?_ | refine zeql ?_ | refine zneq ?_ | refine zadd ?_) | (refine is_fieldAddr ?_; first | refine zfp ?_ | refine zfr ?_) | (refine is_indexAddr ?_; first | refine zil ?_ | refine zis ?_ | refine zit ?_ | refine zia ?_ | refine zir ?_ | (refine zxl ?_; intro _ _ _) | (refine zxs ?_; intro _ _ _)) | (refine is_call ?_; first | refine zll ?_ | refine zls ?_ | refine zln ?_ | refine zle ?_) | (refine is_pick ?_; first | refine zpt ?_ | refine zpf ?_) | refine zex ?_ | refine znt ?_) | (refine ar_pcall (own := false) fn44 rfl rfl .nil (alive_p) (by simp) (dc rfl) ?_; intro _ hv; subst hv) | (refine ar_pcall (own := false) fn42 rfl rfl (.cons (.closed rfl) (.cons (.ext (fun _ _ => rfl)) (.cons (.closed rfl) .nil))) (hl) (by simp) (dc rfl) ?_; intro _ hv; subst hv) | (refine ar_pcall (own := false) fn42 rfl rfl (.cons (.closed rfl) (.cons (.ext (fun _ _ => rfl)) (.cons (.closed rfl) .nil))) (hm) (by simp) (dc rfl) ?_; intro _ hv; subst hv) | (refine ar_pcall (own := false) fn40 rfl rfl (.cons (.closed rfl) (.cons (.ext (fun _ _ => rfl)) .nil)) (hp) (by simp) (dc rfl) ?_; intro _ hv; subst hv) | (refine zal ?_) | (refine zsvs ?_) | (refine zsva ?_) | (refine zses ?_) | (refine zsea ?_) | (refine zg ?_ ?_ <;> intro hg <;> first | exact absurd hg (by decide) | ((try replace hg := HG.out hg); (try dsimp only at hg); (try (have _h : True := hg; clear _h hg)); first | (exfalso; omega) | skip)) | (refine zgu ?_) | (refine ar_nil ?_) | (refine aw_seq ?_) | (refine aw_skip ?_) | (refine aw_block ?_) | (refine aw_exit ?_) | (refine aw_region ?_) | (refine zco ?_ ?_ <;> intro hg <;> first | exact absurd hg (by decide) | ((try replace hg := HG.out hg); (try dsimp only at hg); (try (have _h : True := hg; clear _h hg)); first | (exfalso; omega) | skip))))
  all_goals (try (exfalso; omega))
  all_goals (try ((refine aw_ret ?_; (repeat (first | refine ret_then ?_ | refine ret_block ?_)); refine bq1 rfl ⟨?_, rfl⟩); rfl; done))
  refine aw_for bk.length (fun _ => True) (fun n => [(1, encDeeds bk), (2, vi i), (3, vi k), (9, vb true), (12, encInts m), (14, .ptr 3 0 0 0), (17, vi (P n)), (134, encInts l), (135, vi bk.length), (136, vi n)]) (fun _ => [.arr 3 1 (fun _ => F.enc)]) trivial ?_ ?_
  · (refine sub_to [some 0] [] rfl ?_ ?_ <;> (repeat' (first | exact trivial | refine ⟨⟨_, rfl, ?_⟩, ?_⟩ | refine ⟨bsub_snoc rfl rfl (fun _ => rfl) ?_, ?_⟩ | refine ⟨bsub_one rfl rfl ?_, ?_⟩ | refine ⟨bsub_all rfl rfl (fun _ _ => rfl) (fun _ => rfl), ?_⟩ | refine ⟨bsub_updL rfl rfl ?_ (fun _ _ _ => rfl) (fun _ => rfl), ?_⟩ | refine ⟨.inl ⟨_, _, rfl, rfl, ?_⟩, ?_⟩ | exact ⟨.inr ⟨rfl, rfl⟩, trivial⟩ | refine ⟨.inr ⟨rfl, rfl⟩, ?_⟩ | (intro _ _) | exact vz1 | exact vz2 | fail)))
  intro n hn _
  by_cases hlt : n < bk.length
  · have h1 := hP n hlt
    have h2 := hQ n hlt
    have h3 := hstep n hlt
    have h4 := hbnd n hlt
    have h5 := hap n hlt
    generalize P (n + 1) = p at *
    generalize Q (n + 1) = q at *
    (repeat' (first | (refine ar_isq ?_; first | refine zmv ?_ | refine zas ?_ | (refine is_load ?_; first | refine zlp ?_ | refine zlr ?_) | (refine is_binOp ?_; first | refine zlss ?_ | refine zgtr ?_ | refine zgeq ?_ | refine zeql ?_ | refine zneq ?_ | refine zadd ?_) | (refine is_fieldAddr ?_; first | refine zfp ?_ | refine zfr ?_) | (refine is_indexAddr ?_; first | refine zil ?_ | refine zis ?_ | refine zit ?_ | refine zia ?_ | refine zir ?_ | refine zil (j := n) ?_ | refine zis (j := n) ?_ | refine zit (j := n) ?_ | (refine zxl ?_; intro _ _ _) | (refine zxs ?_; intro _ _ _)) | (refine is_call ?_; first | refine zll ?_ | refine zls ?_ | refine zln ?_ | refine zle ?_) | (refine is_pick ?_; first | refine zpt ?_ | refine zpf ?_) | refine zex ?_ | refine znt ?_) | (refine zal ?_) | (refine zsvs ?_) | (refine zsva ?_) | (refine zses ?_) | (refine zsea ?_) | (refine zg ?_ ?_ <;> intro hg <;> first | exact absurd hg (by decide) | ((try replace hg := HG.out hg); (try dsimp only at hg); (try (have _h : True := hg; clear _h hg)); first | (exfalso; omega) | skip)) | (refine zgu ?_) | (refine ar_nil ?_) | (refine aw_seq ?_) | (refine aw_skip ?_) | (refine aw_block ?_) | (refine aw_exit ?_) | (refine aw_region ?_) | (refine zco ?_ ?_ <;> intro hg <;> first | exact absurd hg (by decide) | ((try replace hg := HG.out hg); (try dsimp only at hg); (try (have _h : True := hg; clear _h hg)); first | (exfalso; omega) | skip))))
    all_goals first
      | (exfalso; omega)
      | ((first | refine loop_next (by omega) ?_ ?_ | refine (show _ ∧ _ ∧ SubOf _ _ _ _ _ _ from And.intro (by omega) (And.intro ?_ ?_))); (focus ((trivial); done)); (focus ((refine sub_to [some 0] [] rfl ?_ ?_ <;> (repeat' (first | exact trivial | refine ⟨⟨_, rfl, ?_⟩, ?_⟩ | refine ⟨bsub_snoc rfl rfl (fun _ => rfl) ?_, ?_⟩ | refine ⟨bsub_one rfl rfl ?_, ?_⟩ | refine ⟨bsub_all rfl rfl (fun _ _ => rfl) (fun _ => rfl), ?_⟩ | refine ⟨bsub_updL rfl rfl ?_ (fun _ _ _ => rfl) (fun _ => rfl), ?_⟩ | refine ⟨.inl ⟨_, _, rfl, rfl, ?_⟩, ?_⟩ | exact ⟨.inr ⟨rfl, rfl⟩, trivial⟩ | refine ⟨.inr ⟨rfl, rfl⟩, ?_⟩ | (intro _ _) | exact vz1 | exact vz2 | fail))); done)))
      | trace_state
  · obtain rfl : n = bk.length := by omega
    rcases hend with ⟨hgone, he⟩ | ⟨hgone, he⟩
    · (repeat' (first | (refine ar_isq ?_; first | refine zmv ?_ | refine zas ?_ | (refine is_load ?_; first | refine zlp ?_ | refine zlr ?_) | (refine is_binOp ?_; first | refine zlss ?_ | refine zgtr ?_ | refine zgeq ?_ | refine zeql ?_ | refine zneq ?_ | refine zadd ?_) | (refine is_fieldAddr ?_; first | refine zfp ?_ | refine zfr ?_) | (refine is_indexAddr ?_; first | refine zil ?_ | refine zis ?_ | refine zit ?_ | refine zia ?_ | refine zir ?_ | refine zil (j := i.toNat) ?_ | refine zis (j := i.toNat) ?_ | refine zit (j := i.toNat) ?_ | (refine zxl ?_; intro _ _ _) | (refine zxs ?_; intro _ _ _)) | (refine is_call ?_; first | refine zll ?_ | refine zls ?_ | refine zln ?_ | refine zle ?_) | (refine is_pick ?_; first | refine zpt ?_ | refine zpf ?_) | refine zex ?_ | refine znt ?_) | (refine zal ?_) | (refine zsvs ?_) | (refine zsva ?_) | (refine zses ?_) | (refine zsea ?_) | (refine zg ?_ ?_ <;> intro hg <;> first | exact absurd hg (by decide) | ((try replace hg := HG.out hg); (try dsimp only at hg); (try (have _h : True := hg; clear _h hg)); first | (exfalso; omega) | skip)) | (refine zgu ?_) | (refine ar_nil ?_) | (refine aw_seq ?_) | (refine aw_skip ?_) | (refine aw_block ?_) | (refine aw_exit ?_) | (refine aw_region ?_) | (refine zco ?_ ?_ <;> intro hg <;> first | exact absurd hg (by decide) | ((try replace hg := HG.out hg); (try dsimp only at hg); (try (have _h : True := hg; clear _h hg)); first | (exfalso; omega) | skip))))
      all_goals first
        | (exfalso; omega)
        | ((refine aw_ret ?_; (repeat (first | refine ret_then ?_ | refine ret_block ?_)); refine bq1 rfl ⟨?_, rfl⟩); rfl)
        | (exfalso; exact absurd (hgone.symm.trans (show (el F.items i.toNat).gone = false by assumption)) (by decide))
        | ((refine aw_ret ?_; (repeat (first | refine ret_then ?_ | refine ret_block ?_)); refine bq1 rfl ⟨?_, rfl⟩); refine congrArg vb ?_; first | rfl | exact decide_eq_true he)
        | trace_state
    · (repeat' (first | (refine ar_isq ?_; first | refine zmv ?_ | refine zas ?_ | (refine is_load ?_; first | refine zlp ?_ | refine zlr ?_) | (refine is_binOp ?_; first | refine zlss ?_ | refine zgtr ?_ | refine zgeq ?_ | refine zeql ?_ | refine zneq ?_ | refine zadd ?_) | (refine is_fieldAddr ?_; first | refine zfp ?_ | refine zfr ?_) | (refine is_indexAddr ?_; first | refine zil ?_ | refine zis ?_ | refine zit ?_ | refine zia ?_ | refine zir ?_ | refine zil (j := i.toNat) ?_ | refine zis (j := i.toNat) ?_ | refine zit (j := i.toNat) ?_ | (refine zxl ?_; intro _ _ _) | (refine zxs ?_; intro _ _ _)) | (refine is_call ?_; first | refine zll ?_ | refine zls ?_ | refine zln ?_ | refine zle ?_) | (refine is_pick ?_; first | refine zpt ?_ | refine zpf ?_) | refine zex ?_ | refine znt ?_) | (refine zal ?_) | (refine zsvs ?_) | (refine zsva ?_) | (refine zses ?_) | (refine zsea ?_) | (refine zg ?_ ?_ <;> intro hg <;> first | exact absurd hg (by decide) | ((try replace hg := HG.out hg); (try dsimp only at hg); (try (have _h : True := hg; clear _h hg)); first | (exfalso; omega) | skip)) | (refine zgu ?_) | (refine ar_nil ?_) | (refine aw_seq ?_) | (refine aw_skip ?_) | (refine aw_block ?_) | (refine aw_exit ?_) | (refine aw_region ?_) | (refine zco ?_ ?_ <;> intro hg <;> first | exact absurd hg (by decide) | ((try replace hg := HG.out hg); (try dsimp only at hg); (try (have _h : True := hg; clear _h hg)); first | (exfalso; omega) | skip))))
      all_goals first
        | (exfalso; omega)
        | ((refine aw_ret ?_; (repeat (first | refine ret_then ?_ | refine ret_block ?_)); refine bq1 rfl ⟨?_, rfl⟩); rfl)
        | (exfalso; exact absurd (hgone.symm.trans (show (el F.items i.toNat).gone = true by assumption)) (by decide))
        | ((refine aw_ret ?_; (repeat (first | refine ret_then ?_ | refine ret_block ?_)); refine bq1 rfl ⟨?_, rfl⟩); refine congrArg vb ?_; first | rfl | exact decide_eq_true he)
        | trace_state
theorem whereE_cases (life : Int) (bk : List Deed) (i k : Int) : ((playX life bk).2 ≠ 0 ∧ whereE life bk i = (playX life bk).2 ∧ whereE life bk k = (playX life bk).2) ∨ ((playX life bk).2 = 0 ∧ (whereE life bk i = 0 ∨ whereE life bk i = 6) ∧ (whereE life bk k = 0 ∨ whereE life bk k = 6)) := by
  by_cases h : (playX life bk).2 = 0
  · have hc : ∀ j, whereE life bk j = 0 ∨ whereE life bk j = 6 := fun j => by
      by_cases hj : 0 ≤ j ∧ j < ((stoAt life bk bk.length).items.length : Int)
      · exact .inl (whereE_ok h hj)
      · exact .inr (whereE_none h hj)
    exact .inr ⟨h, hc i, hc k⟩
  · exact .inl ⟨h, whereE_play h, whereE_play h⟩
theorem whereE_in {life : Int} {bk : List Deed} {i : Int} (h : whereE life bk i = 0) : 0 ≤ i ∧ i < ((stoAt life bk bk.length).items.length : Int) := Classical.byContradiction fun hn => by
  by_cases hp : (playX life bk).2 = 0
  · rw [whereE_none hp hn] at h; omega
  · rw [whereE_play hp] at h; exact hp h
theorem plateWhere_p (life : Int) (_h1 : i64ok life) (bk : List Deed) (hw : ∀ x, x ∈ bk → x.wf) (i : Int) (_h2 : i64ok i) (k : Int) (_h3 : i64ok k) : PCalls Try.prog 8 [vi life, encDeeds bk, vi i, vi k] (· = vb true) := by
  have hu := deeds_u8 hw
  have hc := whereE_cases life bk i k
  by_cases hb : whereE life bk i = 0 ∧ whereE life bk k = 0
  · have hp0 : (playX life bk).2 = 0 := by omega
    have hX := playX_zero hp0
    obtain ⟨hn, hl, hJ⟩ := playX_all hX
    have hv := valid0.2 hl
    have hV : ∀ n, n ≤ bk.length → Valid (stoAt life bk n) := fun n hn => (stoAt_ok hv fun j hj => hJ j (by omega)).1
    refine where_good life bk i k (stoAt life bk bk.length) (outTo life bk i bk.length) (outTo life bk k bk.length) (fun n => placeOf (stoAt life bk n) i) (fun n => placeOf (stoAt life bk n) k) outTo_len outTo_len
      ((pWhere_p life bk i hu).mono fun v h => by rw [h, hb.1, whereF_ok hb.1]) ((pWhere_p life bk k hu).mono fun v h => by rw [h, hb.2, whereF_ok hb.2]) ((pPlay_p life bk hu).mono fun v h => by rw [h, playF_ok hp0, hX]) (whereE_in hb.1) (whereE_in hb.2) ?_ (fun n hn => outTo_el hn) (fun n hn => outTo_el hn) (fun n hn => place_step (hJ n hn) i) (fun n hn => place_bnd (hV _ (by omega)) i) (fun n hn hik h2 => place_apart (hV _ (by omega)) hik h2) ?_
    · exact place_out (by simp [stoAt, sto0])
    · have hin := whereE_in hb.1
      cases hg : (el (stoAt life bk bk.length).items i.toNat).gone
      · exact .inr ⟨rfl, place_here ⟨hin, hg⟩⟩
      · exact .inl ⟨rfl, if_neg fun hh => by have := hh.2; rw [hg] at this; cases this⟩
  · exact where_bad life bk i k _ _ _ _ _ _ _ hc hb (pWhere_p life bk i hu) (pWhere_p life bk k hu) (pPlay_p life bk hu)
end Go.Proofs.Ythpbjihnikapoaa
