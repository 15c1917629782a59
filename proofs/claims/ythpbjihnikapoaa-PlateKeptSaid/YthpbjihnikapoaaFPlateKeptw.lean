/- PlateKept: the law. No condition. -/
import Derived.Test.YthpbjihnikapoaaKPq11
namespace Go.Proofs.Ythpbjihnikapoaa
open Go.RowKit
def spendsA (a : Deed) : Prop := a.kind = 5 ∨ a.kind = 6
structure KeptI (x y : Itm) : Prop where
  kind : y.kind = x.kind
  src : y.src = x.src
  gone : x.gone = true → y.gone = true
  uses : x.uses ≤ y.uses
theorem keptI_refl (x : Itm) : KeptI x x := ⟨rfl, rfl, id, Int.le_refl _⟩
structure Kept (s t : Sto) (a : Deed) : Prop where
  life : t.life = s.life
  items : s.items.length ≤ t.items.length ∧ t.items.length ≤ s.items.length + 1
  prints : s.prints.length ≤ t.prints.length
  item : ∀ i, i < s.items.length → KeptI (el s.items i) (el t.items i)
  own : ∀ i, i < s.items.length → spendsA a ∨ (i : Int) ≠ a.item → el t.items i = el s.items i
  plate : ∀ j, j < s.prints.length → (el t.prints j).plate = (el s.prints j).plate
  spent : ∀ j, j < s.prints.length → (el s.prints j).state ≠ 0 → (el t.prints j).state = (el s.prints j).state
  stay : ∀ j, j < s.prints.length → ¬ spendsA a → (el t.prints j).state = (el s.prints j).state
  new : ∀ j, s.prints.length ≤ j → j < t.prints.length → (el t.prints j).plate = a.item ∧ (el t.prints j).state = 0 ∧ a.kind = 4
theorem kept_set {s t : Sto} {a : Deed} {x : Itm} (hh : hereB s a.item) (hl : t.life = s.life) (hi : t.items = s.items.set a.item.toNat x) (hp : t.prints = s.prints) (hx : KeptI (el s.items a.item.toNat) x) (hs : ¬ spendsA a) : Kept s t a := by
  have hj : a.item.toNat < s.items.length := by have := hh.1; omega
  have h1 := hh.1
  refine ⟨hl, by rw [hi, List.length_set]; omega, by rw [hp]; exact Nat.le_refl _, fun i hlt => ?_, fun i hlt hc => ?_, fun j _ => by rw [hp], fun j _ _ => by rw [hp], fun j _ _ => by rw [hp], fun j h1 h2 => by rw [hp] at h2; omega⟩
  · rw [hi, el_setI hj]
    by_cases e : i = a.item.toNat
    · rw [if_pos e, e]; exact hx
    · rw [if_neg e]; exact keptI_refl _
  · rw [hi, el_setI hj, if_neg]
    intro e
    rcases hc with hc | hc
    · exact hs hc
    · omega
theorem stateAt_kept {s : Sto} {first n st : Int} (h : spendE s first n = 0) {j : Nat} (hj : j < s.prints.length) (h0 : (el s.prints j).state ≠ 0) : (stateAt s.prints first.toNat n.toNat st j).state = (el s.prints j).state := by
  unfold stateAt
  split
  · rename_i hin
    exfalso
    unfold spendE at h
    split at h
    · rename_i hn
      split at h
      · rename_i hf
        split at h
        · omega
        · rename_i hany
          refine hany (List.any_eq_true.2 ⟨el (cutP s first n) (j - first.toNat), ?_, ?_⟩)
          · refine el_mem ?_
            unfold cutP
            rw [List.length_take, List.length_drop]
            omega
          · have e : el (cutP s first n) (j - first.toNat) = el s.prints j := by
              unfold cutP
              rw [el_take (by omega), el_drop, show first.toNat + (j - first.toNat) = j by omega]
            rw [e]
            unfold spentB
            rw [decide_eq_false h0]
            rfl
      · omega
    · omega
  · rfl
theorem kept_act {s : Sto} {a : Deed} (h : actE s a = 0) : Kept s (actF s a) a := by
  have hspend : ∀ st : Int, spendsA a → spendE s a.item a.n = 0 → Kept s (spendF s a.item a.n st) a := fun st hs he => by
    refine ⟨rfl, ⟨Nat.le_refl _, Nat.le_succ _⟩, by rw [spendF_len]; exact Nat.le_refl _, fun i _ => keptI_refl _, fun i _ _ => rfl, fun j hj => ?_, fun j hj h0 => ?_, fun j hj hn => (hn hs).elim, fun j h1 h2 => by rw [spendF_len] at h2; omega⟩
    · rw [spendF_el hj]
      unfold stateAt
      split <;> rfl
    · rw [spendF_el hj]
      exact stateAt_kept he hj h0
  have kadd : ∀ (t : Sto) (x : Itm), t.items.length = s.items.length → Kept s t a → Kept s (addS t x) a := fun t x hl k =>
    ⟨k.life, by show s.items.length ≤ (t.items ++ [x]).length ∧ (t.items ++ [x]).length ≤ s.items.length + 1; rw [List.length_append, List.length_singleton]; omega, k.prints, fun i hi => by show KeptI _ (el (t.items ++ [x]) i); rw [el_app_lt (by omega)]; exact k.item i hi, fun i hi hc => by show el (t.items ++ [x]) i = _; rw [el_app_lt (by omega)]; exact k.own i hi hc, k.plate, k.spent, k.stay, k.new⟩
  have kself : Kept s s a := ⟨rfl, ⟨Nat.le_refl _, Nat.le_succ _⟩, Nat.le_refl _, fun i _ => keptI_refl _, fun _ _ _ => rfl, fun _ _ => rfl, fun _ _ _ => rfl, fun _ _ _ => rfl, fun j h1 h2 => by omega⟩
  have hns : a.kind ≠ 5 → a.kind ≠ 6 → ¬ spendsA a := fun h1 h2 hs => hs.elim h1 h2
  rcases act_kind h with k | k | k | k | k | k | k
  · rw [actF_1 k]
    exact kadd s newDie rfl kself
  · rw [actE_2 k] at h
    have hh := here_trans h
    rw [actF_2 k]
    exact kadd (setS s a.item.toNat (used1 (el s.items a.item.toNat) 1)) _ List.length_set (kept_set hh rfl rfl rfl ⟨rfl, rfl, id, by show (el s.items a.item.toNat).uses ≤ (el s.items a.item.toNat).uses + 1; omega⟩ (hns (by omega) (by omega)))
  · rw [actE_3 k] at h
    rw [actF_3 k]
    exact kept_set (here_move h) rfl rfl rfl ⟨rfl, rfl, id, Int.le_refl _⟩ (hns (by omega) (by omega))
  · rw [actE_4 k] at h
    have hh := here_print h
    have hn : 1 ≤ a.n := by
      refine Classical.byContradiction fun hn => ?_
      unfold printE at h
      rw [if_pos hh, if_pos (.inr (.inr (by omega)))] at h
      omega
    rw [actF_4 k]
    have kk := kept_set (s := s) (t := setS s a.item.toNat (used1 (el s.items a.item.toNat) a.n)) (a := a) hh rfl rfl rfl ⟨rfl, rfl, id, by show (el s.items a.item.toNat).uses ≤ (el s.items a.item.toNat).uses + a.n; omega⟩ (hns (by omega) (by omega))
    have hpr : ∀ j, j < s.prints.length → el (printF s a.item a.n).prints j = el s.prints j := fun j hj => by
      show el (s.prints ++ List.replicate a.n.toNat ⟨a.item, 0⟩) j = _
      rw [el_app_lt hj]
    refine ⟨rfl, kk.items, by show s.prints.length ≤ (s.prints ++ _).length; rw [List.length_append]; omega, kk.item, kk.own, fun j hj => by rw [hpr j hj], fun j hj _ => by rw [hpr j hj], fun j hj _ => by rw [hpr j hj], fun j h1 h2 => ?_⟩
    have h3 : j < (s.prints ++ List.replicate a.n.toNat (⟨a.item, 0⟩ : Prt)).length := h2
    have e : el (printF s a.item a.n).prints j = ⟨a.item, 0⟩ := by
      show el (s.prints ++ List.replicate a.n.toNat (⟨a.item, 0⟩ : Prt)) j = _
      rw [el_eq h3, List.getElem_append_right (by omega), List.getElem_replicate]
    rw [e]
    exact ⟨rfl, rfl, k⟩
  · rw [actE_5 k] at h
    rw [actF_5 k]
    exact hspend _ (.inl k) h
  · rw [actE_6 k] at h
    rw [actF_6 k]
    exact hspend _ (.inr k) h
  · rw [actE_7 k] at h
    rw [actF_7 k]
    exact kept_set (here_dest h) rfl rfl rfl ⟨rfl, rfl, fun _ => rfl, Int.le_refl _⟩ (hns (by omega) (by omega))
end Go.Proofs.Ythpbjihnikapoaa
namespace Go.Proofs.Ythpbjihnikapoaa
open Go.RowKit
structure Key (P : Prop) : Prop where
  fits : P
theorem share {P G : Prop} (h : Key P → G) (hp : P) : G := h ⟨hp⟩

set_option maxRecDepth 20000 in
set_option maxHeartbeats 1000000 in
theorem kept_no (s T : Sto) (a : Deed) (e c : Int) (hc : (c ≠ 0 ∧ e = 80) ∨ (c = 0 ∧ Sound s ∧ e ≠ 0 ∧ T = noSto)) (hd : PCalls Try.prog 35 [s.enc, a.enc] (· = .tup [T.enc, vi e])) (hk : PCalls Try.prog 37 [s.enc] (· = vi c)) : PCalls Try.prog 12 [s.enc, a.enc] (· = vb true) := by
  rcases hc with ⟨h1, h2⟩ | ⟨h1, h2, h3, h4⟩
  · refine pcalls_of_aw Try.func12 rfl (Nat.le_of_ble_eq_true rfl) ?_
    (repeat' (first | (refine ar_isq ?_; first | refine zmv ?_ | refine zas ?_ | (refine is_load ?_; first | refine zlp ?_ | refine zlr ?_) | (refine is_binOp ?_; first | refine zlss ?_ | refine zgtr ?_ | refine zeql ?_ | refine zneq ?_ | refine zadd ?_ | refine ar_q (qs_sneq (seq rfl) rfl rfl (.int (ty rfl) rfl rfl rfl rfl (.int (ty rfl) rfl rfl rfl rfl .nil))) (dc rfl) ?_ | refine ar_q (qs_sneq (seq rfl) rfl rfl (.int (ty rfl) rfl rfl rfl rfl (.int (ty rfl) rfl rfl rfl rfl (.int (ty rfl) rfl rfl rfl rfl .nil)))) (dc rfl) ?_ | refine ar_q (qs_sneq (seq rfl) rfl rfl (.int (ty rfl) rfl rfl rfl rfl (.int (ty rfl) rfl rfl rfl rfl (.int (ty rfl) rfl rfl rfl rfl (.int (ty rfl) rfl rfl rfl rfl .nil))))) (dc rfl) ?_ | refine ar_q (qs_sneq (seq rfl) rfl rfl (.int (ty rfl) rfl rfl rfl rfl (.int (ty rfl) rfl rfl rfl rfl (.int (ty rfl) rfl rfl rfl rfl (.int (ty rfl) rfl rfl rfl rfl (.int (ty rfl) rfl rfl rfl rfl .nil)))))) (dc rfl) ?_) | (refine is_fieldAddr ?_; first | refine zfp ?_ | refine zfr ?_) | (refine is_indexAddr ?_; first | refine zil ?_ | refine zis ?_ | refine zit ?_ | refine zia ?_ | refine zir ?_ | (refine zxl ?_; intro _ _ _) | (refine zxs ?_; intro _ _ _)) | (refine is_call ?_; first | refine zll ?_ | refine zls ?_ | refine zln ?_ | refine zle ?_) | (refine is_pick ?_; first | refine zpt ?_ | refine zpf ?_) | refine zex ?_ | refine znt ?_) | (refine ar_pcall (own := false) fn44 rfl rfl .nil (alive_p) (by simp) (dc rfl) ?_; intro _ hv; subst hv) | (refine ar_pcall (own := false) fn26 rfl rfl (.cons (.closed rfl) .nil) (great8_p s) (by simp) (dc rfl) ?_; rintro _ (rfl | ⟨rfl, g40, g500⟩)) | (refine ar_pcall (own := false) fn35 rfl rfl (.cons (.closed rfl) (.cons (.closed rfl) .nil)) (hd) (by simp) (dc rfl) ?_; intro _ hv; subst hv) | (refine ar_pcall (own := false) fn37 rfl rfl (.cons (.closed rfl) .nil) (hk) (by simp) (dc rfl) ?_; intro _ hv; subst hv) | (refine zcl ?_) | (refine zcs ?_) | (refine zbx ?_) | (refine zal ?_) | (refine zsvs ?_) | (refine zsva ?_) | (refine zses ?_) | (refine zsea ?_) | (refine zg ?_ ?_ <;> intro hg <;> first | exact absurd hg (by decide) | ((try replace hg := HG.out hg); (try dsimp only at hg); (try (have _h : True := hg; clear _h hg)); first | (exfalso; omega) | skip)) | (refine zgu ?_) | (refine ar_nil ?_) | (refine aw_seq ?_) | (refine aw_skip ?_) | (refine aw_block ?_) | (refine aw_exit ?_) | (refine aw_region ?_) | (refine zco ?_ ?_ <;> intro hg <;> first | exact absurd hg (by decide) | ((try replace hg := HG.out hg); (try dsimp only at hg); (try (have _h : True := hg; clear _h hg)); first | (exfalso; omega) | skip))))
    all_goals first
      | (exfalso; omega)
      | ((refine aw_ret ?_; (repeat (first | refine ret_then ?_ | refine ret_block ?_)); refine bq1 rfl ⟨?_, rfl⟩); rfl)
      | ((refine aw_ret ?_; (repeat (first | refine ret_then ?_ | refine ret_block ?_)); refine bq1 rfl ⟨?_, rfl⟩); refine congrArg vb ?_; first | rfl | exact decide_eq_true (by omega))
      | trace_state
  · subst h1 h4
    refine pcalls_of_aw Try.func12 rfl (Nat.le_of_ble_eq_true rfl) ?_
    (repeat' (first | (refine ar_isq ?_; first | refine zmv ?_ | refine zas ?_ | (refine is_load ?_; first | refine zlp ?_ | refine zlr ?_) | (refine is_binOp ?_; first | refine zlss ?_ | refine zgtr ?_ | refine zeql ?_ | refine zneq ?_ | refine zadd ?_ | refine ar_q (qs_sneq (seq rfl) rfl rfl (.int (ty rfl) rfl rfl rfl rfl (.int (ty rfl) rfl rfl rfl rfl .nil))) (dc rfl) ?_ | refine ar_q (qs_sneq (seq rfl) rfl rfl (.int (ty rfl) rfl rfl rfl rfl (.int (ty rfl) rfl rfl rfl rfl (.int (ty rfl) rfl rfl rfl rfl .nil)))) (dc rfl) ?_ | refine ar_q (qs_sneq (seq rfl) rfl rfl (.int (ty rfl) rfl rfl rfl rfl (.int (ty rfl) rfl rfl rfl rfl (.int (ty rfl) rfl rfl rfl rfl (.int (ty rfl) rfl rfl rfl rfl .nil))))) (dc rfl) ?_ | refine ar_q (qs_sneq (seq rfl) rfl rfl (.int (ty rfl) rfl rfl rfl rfl (.int (ty rfl) rfl rfl rfl rfl (.int (ty rfl) rfl rfl rfl rfl (.int (ty rfl) rfl rfl rfl rfl (.int (ty rfl) rfl rfl rfl rfl .nil)))))) (dc rfl) ?_) | (refine is_fieldAddr ?_; first | refine zfp ?_ | refine zfr ?_) | (refine is_indexAddr ?_; first | refine zil ?_ | refine zis ?_ | refine zit ?_ | refine zia ?_ | refine zir ?_ | (refine zxl ?_; intro _ _ _) | (refine zxs ?_; intro _ _ _)) | (refine is_call ?_; first | refine zll ?_ | refine zls ?_ | refine zln ?_ | refine zle ?_) | (refine is_pick ?_; first | refine zpt ?_ | refine zpf ?_) | refine zex ?_ | refine znt ?_) | (refine ar_pcall (own := false) fn44 rfl rfl .nil (alive_p) (by simp) (dc rfl) ?_; intro _ hv; subst hv) | (refine ar_pcall (own := false) fn26 rfl rfl (.cons (.closed rfl) .nil) (great8_p s) (by simp) (dc rfl) ?_; rintro _ (rfl | ⟨rfl, g40, g500⟩)) | (refine ar_pcall (own := false) fn35 rfl rfl (.cons (.closed rfl) (.cons (.closed rfl) .nil)) (hd) (by simp) (dc rfl) ?_; intro _ hv; subst hv) | (refine ar_pcall (own := false) fn37 rfl rfl (.cons (.closed rfl) .nil) (hk) (by simp) (dc rfl) ?_; intro _ hv; subst hv) | (refine ar_pcall (own := false) fn47 rfl rfl (.cons (.closed rfl) .nil) (accounted_p s h2) (by simp) (dc rfl) ?_; intro _ hv; subst hv) | (refine zcl ?_) | (refine zcs ?_) | (refine zbx ?_) | (refine zal ?_) | (refine zsvs ?_) | (refine zsva ?_) | (refine zses ?_) | (refine zsea ?_) | (refine zg ?_ ?_ <;> intro hg <;> first | exact absurd hg (by decide) | ((try replace hg := HG.out hg); (try dsimp only at hg); (try (have _h : True := hg; clear _h hg)); first | (exfalso; omega) | skip)) | (refine zgu ?_) | (refine ar_nil ?_) | (refine aw_seq ?_) | (refine aw_skip ?_) | (refine aw_block ?_) | (refine aw_exit ?_) | (refine aw_region ?_) | (refine zco ?_ ?_ <;> intro hg <;> first | exact absurd hg (by decide) | ((try replace hg := HG.out hg); (try dsimp only at hg); (try (have _h : True := hg; clear _h hg)); first | (exfalso; omega) | skip))))
    all_goals first
      | (exfalso; omega)
      | ((refine aw_ret ?_; (repeat (first | refine ret_then ?_ | refine ret_block ?_)); refine bq1 rfl ⟨?_, rfl⟩); rfl)
      | ((refine aw_ret ?_; (repeat (first | refine ret_then ?_ | refine ret_block ?_)); refine bq1 rfl ⟨?_, rfl⟩); refine congrArg vb ?_; first | rfl | exact decide_eq_true (by omega))
      | trace_state
set_option maxRecDepth 20000 in
set_option maxHeartbeats 1500000 in
theorem kept_yes (s T : Sto) (a : Deed) (hs : Sound s) (hT : Sound T) (K : Kept s T a) (hu : u8ok a.kind) (hd : PCalls Try.prog 35 [s.enc, a.enc] (· = .tup [T.enc, vi 0])) : PCalls Try.prog 12 [s.enc, a.enc] (· = vb true) := by
  have hck : PCalls Try.prog 37 [s.enc] (· = vi 0) := (pCheck_p s).mono fun v h => by rw [h, if_pos hs.valid]
  have hck2 : PCalls Try.prog 37 [T.enc] (· = vi 0) := (pCheck_p T).mono fun v h => by rw [h, if_pos hT.valid]
  have hlife := K.life
  have hil := K.items
  have hpl := K.prints
  have hf1 := hs.valid.1
  unfold Few at hf1
  have hf2 := hT.valid.1
  unfold Few at hf2
  unfold u8ok at hu
  refine pcalls_of_aw Try.func12 rfl (Nat.le_of_ble_eq_true rfl) ?_
  apply share
  · intro key
    (repeat' (first | (refine ar_isq ?_; first | refine zmv ?_ | refine zas ?_ | (refine is_load ?_; first | refine zlp ?_ | refine zlr ?_) | (refine is_binOp ?_; first | refine zlss ?_ | refine zgtr ?_ | refine zeql ?_ | refine zneq ?_ | refine zadd ?_ | refine ar_q (qs_sneq (seq rfl) rfl rfl (.int (ty rfl) rfl rfl rfl rfl (.int (ty rfl) rfl rfl rfl rfl .nil))) (dc rfl) ?_ | refine ar_q (qs_sneq (seq rfl) rfl rfl (.int (ty rfl) rfl rfl rfl rfl (.int (ty rfl) rfl rfl rfl rfl (.int (ty rfl) rfl rfl rfl rfl .nil)))) (dc rfl) ?_ | refine ar_q (qs_sneq (seq rfl) rfl rfl (.int (ty rfl) rfl rfl rfl rfl (.int (ty rfl) rfl rfl rfl rfl (.int (ty rfl) rfl rfl rfl rfl (.int (ty rfl) rfl rfl rfl rfl .nil))))) (dc rfl) ?_ | refine ar_q (qs_sneq (seq rfl) rfl rfl (.int (ty rfl) rfl rfl rfl rfl (.int (ty rfl) rfl rfl rfl rfl (.int (ty rfl) rfl rfl rfl rfl (.int (ty rfl) rfl rfl rfl rfl (.int (ty rfl) rfl rfl rfl rfl .nil)))))) (dc rfl) ?_) | (refine is_fieldAddr ?_; first | refine zfp ?_ | refine zfr ?_) | (refine is_indexAddr ?_; first | refine zil ?_ | refine zis ?_ | refine zit ?_ | refine zia ?_ | refine zir ?_ | (refine zxl ?_; intro _ _ _) | (refine zxs ?_; intro _ _ _)) | (refine is_call ?_; first | refine zll ?_ | refine zls ?_ | refine zln ?_ | refine zle ?_) | (refine is_pick ?_; first | refine zpt ?_ | refine zpf ?_) | refine zex ?_ | refine znt ?_) | (refine ar_pcall (own := false) fn44 rfl rfl .nil (alive_p) (by simp) (dc rfl) ?_; intro _ hv; subst hv) | (refine ar_pcall (own := false) fn26 rfl rfl (.cons (.closed rfl) .nil) (great8_p s) (by simp) (dc rfl) ?_; rintro _ (rfl | ⟨rfl, g40, g500⟩)) | (refine ar_pcall (own := false) fn35 rfl rfl (.cons (.closed rfl) (.cons (.closed rfl) .nil)) (hd) (by simp) (dc rfl) ?_; intro _ hv; subst hv) | (refine ar_pcall (own := false) fn37 rfl rfl (.cons (.closed rfl) .nil) (hck) (by simp) (dc rfl) ?_; intro _ hv; subst hv) | (refine ar_pcall (own := false) fn37 rfl rfl (.cons (.closed rfl) .nil) (hck2) (by simp) (dc rfl) ?_; intro _ hv; subst hv) | (refine ar_pcall (own := false) fn47 rfl rfl (.cons (.closed rfl) .nil) (accounted_p s hs) (by simp) (dc rfl) ?_; intro _ hv; subst hv) | (refine ar_pcall (own := false) fn47 rfl rfl (.cons (.closed rfl) .nil) (accounted_p T hT) (by simp) (dc rfl) ?_; intro _ hv; subst hv) | (refine zcl ?_) | (refine zcs ?_) | (refine zbx ?_) | (refine zal ?_) | (refine zsvs ?_) | (refine zsva ?_) | (refine zses ?_) | (refine zsea ?_) | (refine zg ?_ ?_ <;> intro hg <;> first | exact absurd hg (by decide) | ((try replace hg := HG.out hg); (try dsimp only at hg); (try (have _h : True := hg; clear _h hg)); first | (exfalso; omega) | skip)) | (refine zgu ?_) | (refine ar_nil ?_) | (refine aw_seq ?_) | (refine aw_skip ?_) | (refine aw_block ?_) | (refine aw_exit ?_) | (refine aw_region ?_) | (refine zco ?_ ?_ <;> intro hg <;> first | exact absurd hg (by decide) | ((try replace hg := HG.out hg); (try dsimp only at hg); (try (have _h : True := hg; clear _h hg)); first | (exfalso; omega) | skip))))
    all_goals first
      | (exfalso; omega)
      | ((refine aw_ret ?_; (repeat (first | refine ret_then ?_ | refine ret_block ?_)); refine bq1 rfl ⟨?_, rfl⟩); rfl)
      | ((refine aw_mono_r (env' := [(2, .ptr 3 0 0 0), (3, .ptr 4 1 0 0), (5, vb true), (6, .ptr 3 2 0 0), (8, vb (decide (a.kind = 5 ∨ a.kind = 6))), (114, encItems s.items), (115, vi s.items.length), (116, vi 0)]) (H' := [.arr 3 1 (fun _ => s.enc), .arr 4 1 (fun _ => a.enc), .arr 3 1 (fun _ => T.enc)]) ?_ ?_; (focus ((refine sub_to [some 0, some 1, some 2] [] rfl ?_ ?_ <;> (repeat' (first | exact trivial | refine ⟨⟨_, rfl, ?_⟩, ?_⟩ | refine ⟨bsub_snoc rfl rfl (fun _ => rfl) ?_, ?_⟩ | refine ⟨bsub_one rfl rfl ?_, ?_⟩ | refine ⟨bsub_all rfl rfl (fun _ _ => rfl) (fun _ => rfl), ?_⟩ | refine ⟨bsub_updL rfl rfl ?_ (fun _ _ _ => rfl) (fun _ => rfl), ?_⟩ | refine ⟨.inl ⟨_, _, rfl, rfl, ?_⟩, ?_⟩ | exact ⟨.inr ⟨rfl, rfl⟩, trivial⟩ | refine ⟨.inr ⟨rfl, rfl⟩, ?_⟩ | (intro _ _) | exact vz1 | (exact .of_eq (congrArg vb (by first | (symm; exact decide_eq_true (by omega)) | (symm; exact decide_eq_false (by omega)) | (refine decide_eq_decide.2 ?_; omega))) rfl) | exact vz2 | fail))); done))); exact key.fits)
      | trace_state
  · refine aw_for s.items.length (fun _ => True) (fun k => [(2, .ptr 3 0 0 0), (3, .ptr 4 1 0 0), (5, vb true), (6, .ptr 3 2 0 0), (8, vb (decide (a.kind = 5 ∨ a.kind = 6))), (114, encItems s.items), (115, vi s.items.length), (116, vi k)]) (fun _ => [.arr 3 1 (fun _ => s.enc), .arr 4 1 (fun _ => a.enc), .arr 3 1 (fun _ => T.enc)]) trivial ?_ ?_
    · (refine sub_to [some 0, some 1, some 2] [] rfl ?_ ?_ <;> (repeat' (first | exact trivial | refine ⟨⟨_, rfl, ?_⟩, ?_⟩ | refine ⟨bsub_snoc rfl rfl (fun _ => rfl) ?_, ?_⟩ | refine ⟨bsub_one rfl rfl ?_, ?_⟩ | refine ⟨bsub_all rfl rfl (fun _ _ => rfl) (fun _ => rfl), ?_⟩ | refine ⟨bsub_updL rfl rfl ?_ (fun _ _ _ => rfl) (fun _ => rfl), ?_⟩ | refine ⟨.inl ⟨_, _, rfl, rfl, ?_⟩, ?_⟩ | exact ⟨.inr ⟨rfl, rfl⟩, trivial⟩ | refine ⟨.inr ⟨rfl, rfl⟩, ?_⟩ | (intro _ _) | exact vz1 | exact vz2 | fail)))
    intro k hk _
    by_cases hlt : k < s.items.length
    · have hI := K.item k hlt
      have i1 := hI.kind
      have i2 := hI.src
      have i3 := hI.gone
      have i4 := hI.uses
      by_cases hc : (a.kind = 5 ∨ a.kind = 6) ∨ (k : Int) ≠ a.item
      · have hy := K.own k hlt hc
        have hseq : (decide ((el T.items k).kind = (el s.items k).kind) && (decide ((el T.items k).src = (el s.items k).src) && (decide ((el T.items k).place = (el s.items k).place) && (decide ((el T.items k).uses = (el s.items k).uses) && ((el T.items k).gone == (el s.items k).gone && true))))) = true := by rw [hy]; simp
        (repeat' (first | (refine ar_isq ?_; first | refine zmv ?_ | refine zas ?_ | (refine is_load ?_; first | refine zlp ?_ | refine zlr ?_) | (refine is_binOp ?_; first | refine zlss ?_ | refine zgtr ?_ | refine zeql ?_ | refine zneq ?_ | refine zadd ?_ | refine ar_q (qs_sneq (seq rfl) rfl rfl (.int (ty rfl) rfl rfl rfl rfl (.int (ty rfl) rfl rfl rfl rfl .nil))) (dc rfl) ?_ | refine ar_q (qs_sneq (seq rfl) rfl rfl (.int (ty rfl) rfl rfl rfl rfl (.int (ty rfl) rfl rfl rfl rfl (.int (ty rfl) rfl rfl rfl rfl .nil)))) (dc rfl) ?_ | refine ar_q (qs_sneq (seq rfl) rfl rfl (.int (ty rfl) rfl rfl rfl rfl (.int (ty rfl) rfl rfl rfl rfl (.int (ty rfl) rfl rfl rfl rfl (.int (ty rfl) rfl rfl rfl rfl .nil))))) (dc rfl) ?_ | refine ar_q (qs_sneq (seq rfl) rfl rfl (.int (ty rfl) rfl rfl rfl rfl (.int (ty rfl) rfl rfl rfl rfl (.int (ty rfl) rfl rfl rfl rfl (.int (ty rfl) rfl rfl rfl rfl (.int (ty rfl) rfl rfl rfl rfl .nil)))))) (dc rfl) ?_) | (refine is_fieldAddr ?_; first | refine zfp ?_ | refine zfr ?_) | (refine is_indexAddr ?_; first | refine zil ?_ | refine zis ?_ | refine zit ?_ | refine zia ?_ | refine zir ?_ | refine zil (j := k) ?_ | refine zis (j := k) ?_ | refine zit (j := k) ?_ | (refine zxl ?_; intro _ _ _) | (refine zxs ?_; intro _ _ _)) | (refine is_call ?_; first | refine zll ?_ | refine zls ?_ | refine zln ?_ | refine zle ?_) | (refine is_pick ?_; first | refine zpt ?_ | refine zpf ?_) | refine zex ?_ | refine znt ?_) | (refine ar_q (qs_sneq (seq rfl) rfl rfl (.int (ty rfl) rfl rfl rfl rfl (.int (ty rfl) rfl rfl rfl rfl (.int (ty rfl) rfl rfl rfl rfl (.int (ty rfl) rfl rfl rfl rfl (.bool (ty rfl) rfl rfl rfl rfl .nil)))))) (dc rfl) ?_) | (refine zcl ?_) | (refine zcs ?_) | (refine zbx ?_) | (refine zal ?_) | (refine zsvs ?_) | (refine zsva ?_) | (refine zses ?_) | (refine zsea ?_) | (refine zg ?_ ?_ <;> intro hg <;> first | exact absurd hg (by decide) | ((try replace hg := HG.out hg); (try dsimp only at hg); (try (have _h : True := hg; clear _h hg)); first | (exfalso; omega) | skip)) | (refine zgu ?_) | (refine ar_nil ?_) | (refine aw_seq ?_) | (refine aw_skip ?_) | (refine aw_block ?_) | (refine aw_exit ?_) | (refine aw_region ?_) | (refine zco ?_ ?_ <;> intro hg <;> first | exact absurd hg (by decide) | ((try replace hg := HG.out hg); (try dsimp only at hg); (try (have _h : True := hg; clear _h hg)); first | (exfalso; omega) | skip))))
        all_goals first
          | (exfalso; omega)
          | ((first | refine loop_next (by omega) ?_ ?_ | refine (show _ ∧ _ ∧ SubOf _ _ _ _ _ _ from And.intro (by omega) (And.intro ?_ ?_))); (focus ((trivial); done)); (focus ((refine sub_to [some 0, some 1, some 2] [] rfl ?_ ?_ <;> (repeat' (first | exact trivial | refine ⟨⟨_, rfl, ?_⟩, ?_⟩ | refine ⟨bsub_snoc rfl rfl (fun _ => rfl) ?_, ?_⟩ | refine ⟨bsub_one rfl rfl ?_, ?_⟩ | refine ⟨bsub_all rfl rfl (fun _ _ => rfl) (fun _ => rfl), ?_⟩ | refine ⟨bsub_updL rfl rfl ?_ (fun _ _ _ => rfl) (fun _ => rfl), ?_⟩ | refine ⟨.inl ⟨_, _, rfl, rfl, ?_⟩, ?_⟩ | exact ⟨.inr ⟨rfl, rfl⟩, trivial⟩ | refine ⟨.inr ⟨rfl, rfl⟩, ?_⟩ | (intro _ _) | exact vz1 | exact vz2 | fail))); done)))
          | (exfalso; exact absurd ((i3 (by assumption)).symm.trans (show (el T.items k).gone = false by assumption)) (by decide))
          | (exfalso; simp_all; done)
          | trace_state
      · (repeat' (first | (refine ar_isq ?_; first | refine zmv ?_ | refine zas ?_ | (refine is_load ?_; first | refine zlp ?_ | refine zlr ?_) | (refine is_binOp ?_; first | refine zlss ?_ | refine zgtr ?_ | refine zeql ?_ | refine zneq ?_ | refine zadd ?_ | refine ar_q (qs_sneq (seq rfl) rfl rfl (.int (ty rfl) rfl rfl rfl rfl (.int (ty rfl) rfl rfl rfl rfl .nil))) (dc rfl) ?_ | refine ar_q (qs_sneq (seq rfl) rfl rfl (.int (ty rfl) rfl rfl rfl rfl (.int (ty rfl) rfl rfl rfl rfl (.int (ty rfl) rfl rfl rfl rfl .nil)))) (dc rfl) ?_ | refine ar_q (qs_sneq (seq rfl) rfl rfl (.int (ty rfl) rfl rfl rfl rfl (.int (ty rfl) rfl rfl rfl rfl (.int (ty rfl) rfl rfl rfl rfl (.int (ty rfl) rfl rfl rfl rfl .nil))))) (dc rfl) ?_ | refine ar_q (qs_sneq (seq rfl) rfl rfl (.int (ty rfl) rfl rfl rfl rfl (.int (ty rfl) rfl rfl rfl rfl (.int (ty rfl) rfl rfl rfl rfl (.int (ty rfl) rfl rfl rfl rfl (.int (ty rfl) rfl rfl rfl rfl .nil)))))) (dc rfl) ?_) | (refine is_fieldAddr ?_; first | refine zfp ?_ | refine zfr ?_) | (refine is_indexAddr ?_; first | refine zil ?_ | refine zis ?_ | refine zit ?_ | refine zia ?_ | refine zir ?_ | refine zil (j := k) ?_ | refine zis (j := k) ?_ | refine zit (j := k) ?_ | (refine zxl ?_; intro _ _ _) | (refine zxs ?_; intro _ _ _)) | (refine is_call ?_; first | refine zll ?_ | refine zls ?_ | refine zln ?_ | refine zle ?_) | (refine is_pick ?_; first | refine zpt ?_ | refine zpf ?_) | refine zex ?_ | refine znt ?_) | (refine ar_q (qs_sneq (seq rfl) rfl rfl (.int (ty rfl) rfl rfl rfl rfl (.int (ty rfl) rfl rfl rfl rfl (.int (ty rfl) rfl rfl rfl rfl (.int (ty rfl) rfl rfl rfl rfl (.bool (ty rfl) rfl rfl rfl rfl .nil)))))) (dc rfl) ?_) | (refine zcl ?_) | (refine zcs ?_) | (refine zbx ?_) | (refine zal ?_) | (refine zsvs ?_) | (refine zsva ?_) | (refine zses ?_) | (refine zsea ?_) | (refine zg ?_ ?_ <;> intro hg <;> first | exact absurd hg (by decide) | ((try replace hg := HG.out hg); (try dsimp only at hg); (try (have _h : True := hg; clear _h hg)); first | (exfalso; omega) | skip)) | (refine zgu ?_) | (refine ar_nil ?_) | (refine aw_seq ?_) | (refine aw_skip ?_) | (refine aw_block ?_) | (refine aw_exit ?_) | (refine aw_region ?_) | (refine zco ?_ ?_ <;> intro hg <;> first | exact absurd hg (by decide) | ((try replace hg := HG.out hg); (try dsimp only at hg); (try (have _h : True := hg; clear _h hg)); first | (exfalso; omega) | skip))))
        all_goals first
          | (exfalso; omega)
          | ((first | refine loop_next (by omega) ?_ ?_ | refine (show _ ∧ _ ∧ SubOf _ _ _ _ _ _ from And.intro (by omega) (And.intro ?_ ?_))); (focus ((trivial); done)); (focus ((refine sub_to [some 0, some 1, some 2] [] rfl ?_ ?_ <;> (repeat' (first | exact trivial | refine ⟨⟨_, rfl, ?_⟩, ?_⟩ | refine ⟨bsub_snoc rfl rfl (fun _ => rfl) ?_, ?_⟩ | refine ⟨bsub_one rfl rfl ?_, ?_⟩ | refine ⟨bsub_all rfl rfl (fun _ _ => rfl) (fun _ => rfl), ?_⟩ | refine ⟨bsub_updL rfl rfl ?_ (fun _ _ _ => rfl) (fun _ => rfl), ?_⟩ | refine ⟨.inl ⟨_, _, rfl, rfl, ?_⟩, ?_⟩ | exact ⟨.inr ⟨rfl, rfl⟩, trivial⟩ | refine ⟨.inr ⟨rfl, rfl⟩, ?_⟩ | (intro _ _) | exact vz1 | exact vz2 | fail))); done)))
          | (exfalso; exact absurd ((i3 (by assumption)).symm.trans (show (el T.items k).gone = false by assumption)) (by decide))
          | trace_state
    · obtain rfl : k = s.items.length := by omega
      (repeat' (first | (refine ar_isq ?_; first | refine zmv ?_ | refine zas ?_ | (refine is_load ?_; first | refine zlp ?_ | refine zlr ?_) | (refine is_binOp ?_; first | refine zlss ?_ | refine zgtr ?_ | refine zeql ?_ | refine zneq ?_ | refine zadd ?_ | refine ar_q (qs_sneq (seq rfl) rfl rfl (.int (ty rfl) rfl rfl rfl rfl (.int (ty rfl) rfl rfl rfl rfl .nil))) (dc rfl) ?_ | refine ar_q (qs_sneq (seq rfl) rfl rfl (.int (ty rfl) rfl rfl rfl rfl (.int (ty rfl) rfl rfl rfl rfl (.int (ty rfl) rfl rfl rfl rfl .nil)))) (dc rfl) ?_ | refine ar_q (qs_sneq (seq rfl) rfl rfl (.int (ty rfl) rfl rfl rfl rfl (.int (ty rfl) rfl rfl rfl rfl (.int (ty rfl) rfl rfl rfl rfl (.int (ty rfl) rfl rfl rfl rfl .nil))))) (dc rfl) ?_ | refine ar_q (qs_sneq (seq rfl) rfl rfl (.int (ty rfl) rfl rfl rfl rfl (.int (ty rfl) rfl rfl rfl rfl (.int (ty rfl) rfl rfl rfl rfl (.int (ty rfl) rfl rfl rfl rfl (.int (ty rfl) rfl rfl rfl rfl .nil)))))) (dc rfl) ?_) | (refine is_fieldAddr ?_; first | refine zfp ?_ | refine zfr ?_) | (refine is_indexAddr ?_; first | refine zil ?_ | refine zis ?_ | refine zit ?_ | refine zia ?_ | refine zir ?_ | (refine zxl ?_; intro _ _ _) | (refine zxs ?_; intro _ _ _)) | (refine is_call ?_; first | refine zll ?_ | refine zls ?_ | refine zln ?_ | refine zle ?_) | (refine is_pick ?_; first | refine zpt ?_ | refine zpf ?_) | refine zex ?_ | refine znt ?_) | (refine zcl ?_) | (refine zcs ?_) | (refine zbx ?_) | (refine zal ?_) | (refine zsvs ?_) | (refine zsva ?_) | (refine zses ?_) | (refine zsea ?_) | (refine zg ?_ ?_ <;> intro hg <;> first | exact absurd hg (by decide) | ((try replace hg := HG.out hg); (try dsimp only at hg); (try (have _h : True := hg; clear _h hg)); first | (exfalso; omega) | skip)) | (refine zgu ?_) | (refine ar_nil ?_) | (refine aw_seq ?_) | (refine aw_skip ?_) | (refine aw_block ?_) | (refine aw_exit ?_) | (refine aw_region ?_) | (refine zco ?_ ?_ <;> intro hg <;> first | exact absurd hg (by decide) | ((try replace hg := HG.out hg); (try dsimp only at hg); (try (have _h : True := hg; clear _h hg)); first | (exfalso; omega) | skip))))
      refine aw_for s.prints.length (fun _ => True) (fun k => [(2, .ptr 3 0 0 0), (3, .ptr 4 1 0 0), (5, vb true), (6, .ptr 3 2 0 0), (8, vb (decide (a.kind = 5 ∨ a.kind = 6))), (170, encPrints s.prints), (171, vi s.prints.length), (172, vi k)]) (fun _ => [.arr 3 1 (fun _ => s.enc), .arr 4 1 (fun _ => a.enc), .arr 3 1 (fun _ => T.enc)]) trivial ?_ ?_
      · (refine sub_to [some 0, some 1, some 2] [] rfl ?_ ?_ <;> (repeat' (first | exact trivial | refine ⟨⟨_, rfl, ?_⟩, ?_⟩ | refine ⟨bsub_snoc rfl rfl (fun _ => rfl) ?_, ?_⟩ | refine ⟨bsub_one rfl rfl ?_, ?_⟩ | refine ⟨bsub_all rfl rfl (fun _ _ => rfl) (fun _ => rfl), ?_⟩ | refine ⟨bsub_updL rfl rfl ?_ (fun _ _ _ => rfl) (fun _ => rfl), ?_⟩ | refine ⟨.inl ⟨_, _, rfl, rfl, ?_⟩, ?_⟩ | exact ⟨.inr ⟨rfl, rfl⟩, trivial⟩ | refine ⟨.inr ⟨rfl, rfl⟩, ?_⟩ | (intro _ _) | exact vz1 | exact vz2 | fail)))
      intro k hk _
      by_cases hlt : k < s.prints.length
      · have p1 := K.plate k hlt
        have p2 := K.spent k hlt
        have p3 := K.stay k hlt
        unfold spendsA at p3
        (repeat' (first | (refine ar_isq ?_; first | refine zmv ?_ | refine zas ?_ | (refine is_load ?_; first | refine zlp ?_ | refine zlr ?_) | (refine is_binOp ?_; first | refine zlss ?_ | refine zgtr ?_ | refine zeql ?_ | refine zneq ?_ | refine zadd ?_ | refine ar_q (qs_sneq (seq rfl) rfl rfl (.int (ty rfl) rfl rfl rfl rfl (.int (ty rfl) rfl rfl rfl rfl .nil))) (dc rfl) ?_ | refine ar_q (qs_sneq (seq rfl) rfl rfl (.int (ty rfl) rfl rfl rfl rfl (.int (ty rfl) rfl rfl rfl rfl (.int (ty rfl) rfl rfl rfl rfl .nil)))) (dc rfl) ?_ | refine ar_q (qs_sneq (seq rfl) rfl rfl (.int (ty rfl) rfl rfl rfl rfl (.int (ty rfl) rfl rfl rfl rfl (.int (ty rfl) rfl rfl rfl rfl (.int (ty rfl) rfl rfl rfl rfl .nil))))) (dc rfl) ?_ | refine ar_q (qs_sneq (seq rfl) rfl rfl (.int (ty rfl) rfl rfl rfl rfl (.int (ty rfl) rfl rfl rfl rfl (.int (ty rfl) rfl rfl rfl rfl (.int (ty rfl) rfl rfl rfl rfl (.int (ty rfl) rfl rfl rfl rfl .nil)))))) (dc rfl) ?_) | (refine is_fieldAddr ?_; first | refine zfp ?_ | refine zfr ?_) | (refine is_indexAddr ?_; first | refine zil ?_ | refine zis ?_ | refine zit ?_ | refine zia ?_ | refine zir ?_ | refine zil (j := k) ?_ | refine zis (j := k) ?_ | refine zit (j := k) ?_ | (refine zxl ?_; intro _ _ _) | (refine zxs ?_; intro _ _ _)) | (refine is_call ?_; first | refine zll ?_ | refine zls ?_ | refine zln ?_ | refine zle ?_) | (refine is_pick ?_; first | refine zpt ?_ | refine zpf ?_) | refine zex ?_ | refine znt ?_) | (refine zcl ?_) | (refine zcs ?_) | (refine zbx ?_) | (refine zal ?_) | (refine zsvs ?_) | (refine zsva ?_) | (refine zses ?_) | (refine zsea ?_) | (refine zg ?_ ?_ <;> intro hg <;> first | exact absurd hg (by decide) | ((try replace hg := HG.out hg); (try dsimp only at hg); (try (have _h : True := hg; clear _h hg)); first | (exfalso; omega) | skip)) | (refine zgu ?_) | (refine ar_nil ?_) | (refine aw_seq ?_) | (refine aw_skip ?_) | (refine aw_block ?_) | (refine aw_exit ?_) | (refine aw_region ?_) | (refine zco ?_ ?_ <;> intro hg <;> first | exact absurd hg (by decide) | ((try replace hg := HG.out hg); (try dsimp only at hg); (try (have _h : True := hg; clear _h hg)); first | (exfalso; omega) | skip))))
        all_goals first
          | (exfalso; omega)
          | ((first | refine loop_next (by omega) ?_ ?_ | refine (show _ ∧ _ ∧ SubOf _ _ _ _ _ _ from And.intro (by omega) (And.intro ?_ ?_))); (focus ((trivial); done)); (focus ((refine sub_to [some 0, some 1, some 2] [] rfl ?_ ?_ <;> (repeat' (first | exact trivial | refine ⟨⟨_, rfl, ?_⟩, ?_⟩ | refine ⟨bsub_snoc rfl rfl (fun _ => rfl) ?_, ?_⟩ | refine ⟨bsub_one rfl rfl ?_, ?_⟩ | refine ⟨bsub_all rfl rfl (fun _ _ => rfl) (fun _ => rfl), ?_⟩ | refine ⟨bsub_updL rfl rfl ?_ (fun _ _ _ => rfl) (fun _ => rfl), ?_⟩ | refine ⟨.inl ⟨_, _, rfl, rfl, ?_⟩, ?_⟩ | exact ⟨.inr ⟨rfl, rfl⟩, trivial⟩ | refine ⟨.inr ⟨rfl, rfl⟩, ?_⟩ | (intro _ _) | exact vz1 | exact vz2 | fail))); done)))
          | trace_state
      · obtain rfl : k = s.prints.length := by omega
        (repeat' (first | (refine ar_isq ?_; first | refine zmv ?_ | refine zas ?_ | (refine is_load ?_; first | refine zlp ?_ | refine zlr ?_) | (refine is_binOp ?_; first | refine zlss ?_ | refine zgtr ?_ | refine zeql ?_ | refine zneq ?_ | refine zadd ?_ | refine ar_q (qs_sneq (seq rfl) rfl rfl (.int (ty rfl) rfl rfl rfl rfl (.int (ty rfl) rfl rfl rfl rfl .nil))) (dc rfl) ?_ | refine ar_q (qs_sneq (seq rfl) rfl rfl (.int (ty rfl) rfl rfl rfl rfl (.int (ty rfl) rfl rfl rfl rfl (.int (ty rfl) rfl rfl rfl rfl .nil)))) (dc rfl) ?_ | refine ar_q (qs_sneq (seq rfl) rfl rfl (.int (ty rfl) rfl rfl rfl rfl (.int (ty rfl) rfl rfl rfl rfl (.int (ty rfl) rfl rfl rfl rfl (.int (ty rfl) rfl rfl rfl rfl .nil))))) (dc rfl) ?_ | refine ar_q (qs_sneq (seq rfl) rfl rfl (.int (ty rfl) rfl rfl rfl rfl (.int (ty rfl) rfl rfl rfl rfl (.int (ty rfl) rfl rfl rfl rfl (.int (ty rfl) rfl rfl rfl rfl (.int (ty rfl) rfl rfl rfl rfl .nil)))))) (dc rfl) ?_) | (refine is_fieldAddr ?_; first | refine zfp ?_ | refine zfr ?_) | (refine is_indexAddr ?_; first | refine zil ?_ | refine zis ?_ | refine zit ?_ | refine zia ?_ | refine zir ?_ | (refine zxl ?_; intro _ _ _) | (refine zxs ?_; intro _ _ _)) | (refine is_call ?_; first | refine zll ?_ | refine zls ?_ | refine zln ?_ | refine zle ?_) | (refine is_pick ?_; first | refine zpt ?_ | refine zpf ?_) | refine zex ?_ | refine znt ?_) | (refine zcl (a := s.prints.length) (b := T.prints.length) ?_) | (refine zcs (a := s.prints.length) (b := T.prints.length) ?_) | (refine zbx ?_) | (refine zal ?_) | (refine zsvs ?_) | (refine zsva ?_) | (refine zses ?_) | (refine zsea ?_) | (refine zg ?_ ?_ <;> intro hg <;> first | exact absurd hg (by decide) | ((try replace hg := HG.out hg); (try dsimp only at hg); (try (have _h : True := hg; clear _h hg)); first | (exfalso; omega) | skip)) | (refine zgu ?_) | (refine ar_nil ?_) | (refine aw_seq ?_) | (refine aw_skip ?_) | (refine aw_block ?_) | (refine aw_exit ?_) | (refine aw_region ?_) | (refine zco ?_ ?_ <;> intro hg <;> first | exact absurd hg (by decide) | ((try replace hg := HG.out hg); (try dsimp only at hg); (try (have _h : True := hg; clear _h hg)); first | (exfalso; omega) | skip))))
        refine aw_for (T.prints.length - s.prints.length) (fun _ => True) (fun k => [(2, .ptr 3 0 0 0), (3, .ptr 4 1 0 0), (5, vb true), (6, .ptr 3 2 0 0), (8, vb (decide (a.kind = 5 ∨ a.kind = 6))), (216, .list 2 (T.prints.length - s.prints.length) (fun j => Prt.enc (el T.prints (s.prints.length + j)))), (217, vi ((T.prints.length - s.prints.length : Nat) : Int)), (218, vi k)]) (fun _ => [.arr 3 1 (fun _ => s.enc), .arr 4 1 (fun _ => a.enc), .arr 3 1 (fun _ => T.enc)]) trivial ?_ ?_
        · (refine sub_to [some 0, some 1, some 2] [] rfl ?_ ?_ <;> (repeat' (first | exact trivial | refine ⟨⟨_, rfl, ?_⟩, ?_⟩ | refine ⟨bsub_snoc rfl rfl (fun _ => rfl) ?_, ?_⟩ | refine ⟨bsub_one rfl rfl ?_, ?_⟩ | refine ⟨bsub_all rfl rfl (fun _ _ => rfl) (fun _ => rfl), ?_⟩ | refine ⟨bsub_updL rfl rfl ?_ (fun _ _ _ => rfl) (fun _ => rfl), ?_⟩ | refine ⟨.inl ⟨_, _, rfl, rfl, ?_⟩, ?_⟩ | exact ⟨.inr ⟨rfl, rfl⟩, trivial⟩ | refine ⟨.inr ⟨rfl, rfl⟩, ?_⟩ | (intro _ _) | exact vz1 | exact vz2 | fail)))
        intro k hk _
        by_cases hlt : k < T.prints.length - s.prints.length
        · obtain ⟨n1, n2, n3⟩ := K.new (s.prints.length + k) (by omega) (by omega)
          (repeat' (first | (refine ar_isq ?_; first | refine zmv ?_ | refine zas ?_ | (refine is_load ?_; first | refine zlp ?_ | refine zlr ?_) | (refine is_binOp ?_; first | refine zlss ?_ | refine zgtr ?_ | refine zeql ?_ | refine zneq ?_ | refine zadd ?_ | refine ar_q (qs_sneq (seq rfl) rfl rfl (.int (ty rfl) rfl rfl rfl rfl (.int (ty rfl) rfl rfl rfl rfl .nil))) (dc rfl) ?_ | refine ar_q (qs_sneq (seq rfl) rfl rfl (.int (ty rfl) rfl rfl rfl rfl (.int (ty rfl) rfl rfl rfl rfl (.int (ty rfl) rfl rfl rfl rfl .nil)))) (dc rfl) ?_ | refine ar_q (qs_sneq (seq rfl) rfl rfl (.int (ty rfl) rfl rfl rfl rfl (.int (ty rfl) rfl rfl rfl rfl (.int (ty rfl) rfl rfl rfl rfl (.int (ty rfl) rfl rfl rfl rfl .nil))))) (dc rfl) ?_ | refine ar_q (qs_sneq (seq rfl) rfl rfl (.int (ty rfl) rfl rfl rfl rfl (.int (ty rfl) rfl rfl rfl rfl (.int (ty rfl) rfl rfl rfl rfl (.int (ty rfl) rfl rfl rfl rfl (.int (ty rfl) rfl rfl rfl rfl .nil)))))) (dc rfl) ?_) | (refine is_fieldAddr ?_; first | refine zfp ?_ | refine zfr ?_) | (refine is_indexAddr ?_; first | refine zil ?_ | refine zis ?_ | refine zit ?_ | refine zia ?_ | refine zir ?_ | refine zil (j := k) ?_ | refine zis (j := k) ?_ | refine zit (j := k) ?_ | (refine zxl ?_; intro _ _ _) | (refine zxs ?_; intro _ _ _)) | (refine is_call ?_; first | refine zll ?_ | refine zls ?_ | refine zln ?_ | refine zle ?_) | (refine is_pick ?_; first | refine zpt ?_ | refine zpf ?_) | refine zex ?_ | refine znt ?_) | (refine zcl ?_) | (refine zcs ?_) | (refine zbx ?_) | (refine zal ?_) | (refine zsvs ?_) | (refine zsva ?_) | (refine zses ?_) | (refine zsea ?_) | (refine zg ?_ ?_ <;> intro hg <;> first | exact absurd hg (by decide) | ((try replace hg := HG.out hg); (try dsimp only at hg); (try (have _h : True := hg; clear _h hg)); first | (exfalso; omega) | skip)) | (refine zgu ?_) | (refine ar_nil ?_) | (refine aw_seq ?_) | (refine aw_skip ?_) | (refine aw_block ?_) | (refine aw_exit ?_) | (refine aw_region ?_) | (refine zco ?_ ?_ <;> intro hg <;> first | exact absurd hg (by decide) | ((try replace hg := HG.out hg); (try dsimp only at hg); (try (have _h : True := hg; clear _h hg)); first | (exfalso; omega) | skip))))
          all_goals first
            | (exfalso; omega)
            | ((first | refine loop_next (by omega) ?_ ?_ | refine (show _ ∧ _ ∧ SubOf _ _ _ _ _ _ from And.intro (by omega) (And.intro ?_ ?_))); (focus ((trivial); done)); (focus ((refine sub_to [some 0, some 1, some 2] [] rfl ?_ ?_ <;> (repeat' (first | exact trivial | refine ⟨⟨_, rfl, ?_⟩, ?_⟩ | refine ⟨bsub_snoc rfl rfl (fun _ => rfl) ?_, ?_⟩ | refine ⟨bsub_one rfl rfl ?_, ?_⟩ | refine ⟨bsub_all rfl rfl (fun _ _ => rfl) (fun _ => rfl), ?_⟩ | refine ⟨bsub_updL rfl rfl ?_ (fun _ _ _ => rfl) (fun _ => rfl), ?_⟩ | refine ⟨.inl ⟨_, _, rfl, rfl, ?_⟩, ?_⟩ | exact ⟨.inr ⟨rfl, rfl⟩, trivial⟩ | refine ⟨.inr ⟨rfl, rfl⟩, ?_⟩ | (intro _ _) | exact vz1 | exact vz2 | fail))); done)))
            | trace_state
        · (repeat' (first | (refine ar_isq ?_; first | refine zmv ?_ | refine zas ?_ | (refine is_load ?_; first | refine zlp ?_ | refine zlr ?_) | (refine is_binOp ?_; first | refine zlss ?_ | refine zgtr ?_ | refine zeql ?_ | refine zneq ?_ | refine zadd ?_ | refine ar_q (qs_sneq (seq rfl) rfl rfl (.int (ty rfl) rfl rfl rfl rfl (.int (ty rfl) rfl rfl rfl rfl .nil))) (dc rfl) ?_ | refine ar_q (qs_sneq (seq rfl) rfl rfl (.int (ty rfl) rfl rfl rfl rfl (.int (ty rfl) rfl rfl rfl rfl (.int (ty rfl) rfl rfl rfl rfl .nil)))) (dc rfl) ?_ | refine ar_q (qs_sneq (seq rfl) rfl rfl (.int (ty rfl) rfl rfl rfl rfl (.int (ty rfl) rfl rfl rfl rfl (.int (ty rfl) rfl rfl rfl rfl (.int (ty rfl) rfl rfl rfl rfl .nil))))) (dc rfl) ?_ | refine ar_q (qs_sneq (seq rfl) rfl rfl (.int (ty rfl) rfl rfl rfl rfl (.int (ty rfl) rfl rfl rfl rfl (.int (ty rfl) rfl rfl rfl rfl (.int (ty rfl) rfl rfl rfl rfl (.int (ty rfl) rfl rfl rfl rfl .nil)))))) (dc rfl) ?_) | (refine is_fieldAddr ?_; first | refine zfp ?_ | refine zfr ?_) | (refine is_indexAddr ?_; first | refine zil ?_ | refine zis ?_ | refine zit ?_ | refine zia ?_ | refine zir ?_ | (refine zxl ?_; intro _ _ _) | (refine zxs ?_; intro _ _ _)) | (refine is_call ?_; first | refine zll ?_ | refine zls ?_ | refine zln ?_ | refine zle ?_) | (refine is_pick ?_; first | refine zpt ?_ | refine zpf ?_) | refine zex ?_ | refine znt ?_) | (refine zcl ?_) | (refine zcs ?_) | (refine zbx ?_) | (refine zal ?_) | (refine zsvs ?_) | (refine zsva ?_) | (refine zses ?_) | (refine zsea ?_) | (refine zg ?_ ?_ <;> intro hg <;> first | exact absurd hg (by decide) | ((try replace hg := HG.out hg); (try dsimp only at hg); (try (have _h : True := hg; clear _h hg)); first | (exfalso; omega) | skip)) | (refine zgu ?_) | (refine ar_nil ?_) | (refine aw_seq ?_) | (refine aw_skip ?_) | (refine aw_block ?_) | (refine aw_exit ?_) | (refine aw_region ?_) | (refine zco ?_ ?_ <;> intro hg <;> first | exact absurd hg (by decide) | ((try replace hg := HG.out hg); (try dsimp only at hg); (try (have _h : True := hg; clear _h hg)); first | (exfalso; omega) | skip))))
          all_goals first
            | (exfalso; omega)
            | ((refine aw_ret ?_; (repeat (first | refine ret_then ?_ | refine ret_block ?_)); refine bq1 rfl ⟨?_, rfl⟩); rfl)
            | trace_state
end Go.Proofs.Ythpbjihnikapoaa
namespace Go.Proofs.Ythpbjihnikapoaa
open Go.RowKit
theorem plateKept_p (s : Sto) (hs : s.wf) (a : Deed) (ha : a.wf) : PCalls Try.prog 12 [s.enc, a.enc] (· = vb true) := by
  have hd := pDo_p s a ha.1
  by_cases hV : Valid s
  · have hS : Sound s := ⟨hV, fun j hj => (hs.2.2 _ (el_mem hj)).2⟩
    by_cases he : actE s a = 0
    · have hE : doE s a = 0 := (doE_ok hV).trans he
      rw [doF_ok hE, hE] at hd
      exact kept_yes s (actF s a) a hS (sound_act hS he) (kept_act he) ha.1 hd
    · have hE : doE s a ≠ 0 := fun h => he ((doE_ok hV).symm.trans h)
      exact kept_no s _ a _ 0 (.inr ⟨rfl, hS, hE, doF_bad hE⟩) hd ((pCheck_p s).mono fun v h => by rw [h, if_pos hV])
  · exact kept_no s _ a _ 80 (.inl ⟨by decide, doE_bad hV⟩) hd ((pCheck_p s).mono fun v h => by rw [h, if_neg hV])
end Go.Proofs.Ythpbjihnikapoaa
