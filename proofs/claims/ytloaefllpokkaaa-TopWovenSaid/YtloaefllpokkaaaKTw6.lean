/- Parts of the proof: contracts of functions. No condition. -/
import Derived.Test.YtloaefllpokkaaaKTw5
set_option linter.unusedSimpArgs false
set_option linter.unusedVariables false
namespace Go.Proofs.Ytloaefllpokkaaa
open Go.RowKit
def gapL (p : Pat) : Nat → List Int
  | 0 => []
  | k + 1 => gapL p k ++ (List.range p.ros.length).map (p.dif (el p.shifts k))
def gapI (p : Pat) (k i : Nat) : List Int := gapL p k ++ (List.range i).map (p.dif (el p.shifts k))
theorem gapI_zero (p : Pat) (k : Nat) : gapI p k 0 = gapL p k := by unfold gapI; rw [List.range_zero, List.map_nil, List.append_nil]
theorem gapI_succ (p : Pat) (k i : Nat) : gapI p k (i + 1) = gapI p k i ++ [p.dif (el p.shifts k) i] := by unfold gapI; rw [List.range_succ, List.map_append, List.append_assoc]; rfl
theorem gapI_all (p : Pat) (k : Nat) : gapI p k p.ros.length = gapL p (k + 1) := rfl
theorem gapL_len (p : Pat) : ∀ k, (gapL p k).length = k * p.ros.length
  | 0 => by rw [Nat.zero_mul]; rfl
  | k + 1 => by rw [gapL, List.length_append, gapL_len p k, List.length_map, List.length_range, Nat.succ_mul]
theorem gapI_len (p : Pat) (k i : Nat) : (gapI p k i).length = k * p.ros.length + i := by unfold gapI; rw [List.length_append, gapL_len, List.length_map, List.length_range]
theorem gapL_take (p : Pat) : ∀ k, k ≤ p.shifts.length → gapL p k = (p.shifts.take k).flatMap fun s => (List.range p.ros.length).map (p.dif s)
  | 0, _ => by rw [List.take_zero]; rfl
  | k + 1, h => by rw [gapL, gapL_take p k (by omega), List.take_succ_eq_append_getElem (by omega), List.flatMap_append, ← el_eq (by omega)]; simp
theorem gapL_all (p : Pat) : gapL p p.shifts.length = p.difs := by rw [gapL_take p _ (Nat.le_refl _), List.take_length]; rfl
set_option maxHeartbeats 1000000 in
theorem min_p (l : List Int) (h0 : 0 < l.length) : PCalls Try.prog 30 [encInts l] (· = vi (minF l)) := by
  (refine pcalls_know (fun I us h => rel_len (rel_arg h (j := 0) rfl)) fun hlen0 => ?_)
  refine pcalls_of_aw Try.func30 rfl (Nat.le_of_ble_eq_true rfl) ?_
  (repeat' (first | (refine ar_isq ?_; first | refine zmv ?_ | refine zas ?_ | (refine is_load ?_; first | refine zlp ?_ | refine zlr ?_) | (refine is_binOp ?_; first | refine zlss ?_ | refine zadd ?_) | (refine is_indexAddr ?_; first | refine zil ?_ | refine zis ?_ | refine zit ?_ | refine zia ?_ | refine zir ?_ | refine zil (j := 0) ?_ | refine zis (j := 0) ?_ | refine zit (j := 0) ?_ | (refine zxl ?_; intro _ _ _) | (refine zxs ?_; intro _ _ _)) | (refine is_call ?_; first | refine zll ?_ | refine zls ?_ | refine zln ?_ | refine zle ?_ | refine zmin ?_)) | (refine ar_nil ?_) | (refine aw_seq ?_) | (refine aw_skip ?_) | (refine aw_block ?_) | (refine aw_exit ?_) | (refine aw_region ?_) | (refine zco ?_ ?_ <;> intro hg <;> first | exact absurd hg (by decide) | ((try replace hg := HG.out hg); (try dsimp only at hg); (try (have _h : True := hg; clear _h hg)); first | (exfalso; omega) | skip))))
  all_goals (try (exfalso; omega))
  refine aw_for (l.length - 1) (fun _ => True) (fun k => [(0, encInts l), (3, vi (minTo l (k + 1))), (4, vi (k + 1 : Nat))]) (fun _ => []) trivial ?_ ?_
  · (refine sub_to [] [] rfl ?_ ?_ <;> (repeat' (first | exact trivial | refine ⟨⟨_, rfl, ?_⟩, ?_⟩ | refine ⟨bsub_snoc rfl rfl (fun _ => rfl) ?_, ?_⟩ | refine ⟨bsub_one rfl rfl ?_, ?_⟩ | refine ⟨bsub_all rfl rfl (fun _ _ => rfl) (fun _ => rfl), ?_⟩ | refine ⟨bsub_updL rfl rfl ?_ (fun _ _ _ => rfl) (fun _ => rfl), ?_⟩ | refine ⟨.inl ⟨_, _, rfl, rfl, ?_⟩, ?_⟩ | exact ⟨.inr ⟨rfl, rfl⟩, trivial⟩ | refine ⟨.inr ⟨rfl, rfl⟩, ?_⟩ | (intro _ _) | exact vz1 | (exact siEq (by unfold minTo minTo; omega)) | exact vz2 | fail)))
  intro k hk _
  by_cases hlt : k < l.length - 1
  · (repeat' (first | (refine ar_isq ?_; first | refine zmv ?_ | refine zas ?_ | (refine is_load ?_; first | refine zlp ?_ | refine zlr ?_) | (refine is_binOp ?_; first | refine zlss ?_ | refine zadd ?_) | (refine is_indexAddr ?_; first | refine zil ?_ | refine zis ?_ | refine zit ?_ | refine zia ?_ | refine zir ?_ | refine zil (j := k + 1) ?_ | refine zis (j := k + 1) ?_ | refine zit (j := k + 1) ?_ | (refine zxl ?_; intro _ _ _) | (refine zxs ?_; intro _ _ _)) | (refine is_call ?_; first | refine zll ?_ | refine zls ?_ | refine zln ?_ | refine zle ?_ | refine zmin ?_)) | (refine ar_nil ?_) | (refine aw_seq ?_) | (refine aw_skip ?_) | (refine aw_block ?_) | (refine aw_exit ?_) | (refine aw_region ?_) | (refine zco ?_ ?_ <;> intro hg <;> first | exact absurd hg (by decide) | ((try replace hg := HG.out hg); (try dsimp only at hg); (try (have _h : True := hg; clear _h hg)); first | (exfalso; omega) | skip))))
    all_goals first
      | (exfalso; omega)
      | ((first | refine loop_next (by omega) ?_ ?_ | refine (show _ ∧ _ ∧ SubOf _ _ _ _ _ _ from And.intro (by omega) (And.intro ?_ ?_))); (focus ((trivial); done)); (focus ((refine sub_to [] [] rfl ?_ ?_ <;> (repeat' (first | exact trivial | refine ⟨⟨_, rfl, ?_⟩, ?_⟩ | refine ⟨bsub_snoc rfl rfl (fun _ => rfl) ?_, ?_⟩ | refine ⟨bsub_one rfl rfl ?_, ?_⟩ | refine ⟨bsub_all rfl rfl (fun _ _ => rfl) (fun _ => rfl), ?_⟩ | refine ⟨bsub_updL rfl rfl ?_ (fun _ _ _ => rfl) (fun _ => rfl), ?_⟩ | refine ⟨.inl ⟨_, _, rfl, rfl, ?_⟩, ?_⟩ | exact ⟨.inr ⟨rfl, rfl⟩, trivial⟩ | refine ⟨.inr ⟨rfl, rfl⟩, ?_⟩ | (intro _ _) | exact vz1 | (exact siEq rfl) | exact vz2 | fail))); done)))
      | trace_state
  · obtain rfl : k = l.length - 1 := by omega
    (repeat' (first | (refine ar_isq ?_; first | refine zmv ?_ | refine zas ?_ | (refine is_load ?_; first | refine zlp ?_ | refine zlr ?_) | (refine is_binOp ?_; first | refine zlss ?_ | refine zadd ?_) | (refine is_indexAddr ?_; first | refine zil ?_ | refine zis ?_ | refine zit ?_ | refine zia ?_ | refine zir ?_ | (refine zxl ?_; intro _ _ _) | (refine zxs ?_; intro _ _ _)) | (refine is_call ?_; first | refine zll ?_ | refine zls ?_ | refine zln ?_ | refine zle ?_ | refine zmin ?_)) | (refine ar_nil ?_) | (refine aw_seq ?_) | (refine aw_skip ?_) | (refine aw_block ?_) | (refine aw_exit ?_) | (refine aw_region ?_) | (refine zco ?_ ?_ <;> intro hg <;> first | exact absurd hg (by decide) | ((try replace hg := HG.out hg); (try dsimp only at hg); (try (have _h : True := hg; clear _h hg)); first | (exfalso; omega) | skip))))
    all_goals first
      | (exfalso; omega)
      | ((refine aw_ret ?_; (repeat (first | refine ret_then ?_ | refine ret_block ?_)); refine bq1 rfl ⟨?_, rfl⟩); unfold minF; rw [show l.length - 1 + 1 = l.length by omega])
      | trace_state
set_option maxRecDepth 20000 in
set_option maxHeartbeats 4000000 in
theorem gap_p (p : Pat) : PCalls Try.prog 11 [p.enc] (· = .tup [vi (if p.err = 0 then p.gap else 0), vi p.err]) := by
  by_cases h0 : p.err = 0
  case neg =>
    rw [if_neg h0]
    refine pcalls_of_aw Try.func11 rfl (Nat.le_of_ble_eq_true rfl) ?_
    (repeat' (first | (refine ar_isq ?_; first | refine zmv ?_ | refine zas ?_ | (refine is_load ?_; first | refine zlp ?_ | refine zlr ?_) | (refine is_binOp ?_; first | refine zlss ?_ | refine zneq ?_ | refine zadd ?_ | refine zsub ?_ | refine zmul ?_) | (refine is_fieldAddr ?_; first | refine zfp ?_ | refine zfr ?_) | (refine is_indexAddr ?_; first | refine zil ?_ | refine zis ?_ | refine zit ?_ | refine zia ?_ | refine zir ?_ | (refine zxl ?_; intro _ _ _) | (refine zxs ?_; intro _ _ _)) | (refine is_call ?_; first | refine zll ?_ | refine zls ?_ | refine zln ?_ | refine zle ?_) | refine zex ?_ | refine zncp ?_ | refine zncr ?_) | (refine ar_pcall (own := false) fn26 rfl rfl (.cons (.closed rfl) .nil) (mounted_p p) (by simp) (dc rfl) ?_; rintro _ (⟨hm, rfl⟩ | ⟨hm, rfl⟩)) | (refine zbx ?_) | (refine zb1 ?_) | (refine zb0 ?_) | (refine zapoo ?_) | (refine zapol ?_) | (refine zapno ?_) | (refine zapnl ?_) | (refine zapeo ?_) | (refine zapel ?_) | (refine ar_nil ?_) | (refine aw_seq ?_) | (refine aw_skip ?_) | (refine aw_block ?_) | (refine aw_exit ?_) | (refine aw_region ?_) | (refine aw_drawn (id := 11) [(0, 0), (1, 0), (2, 0), (3, 0), (4, 0), (5, 0), (6, 0), (7, 0), (8, 0), (9, 0), (10, 0), (11, 0), (12, 0), (13, 0), (14, 0), (15, 0), (19, 0), (16, 1), (17, 0), (18, 0), (20, 0), (21, 0), (22, 0), (23, 1), (24, 1), (25, 0)] mixed (by kernel_rfl) ?_) | (refine zco ?_ ?_ <;> intro hg <;> first | exact absurd hg (by decide) | ((try replace hg := HG.out hg); (try dsimp only at hg); (try (have _h : True := hg; clear _h hg)); first | (exfalso; omega) | skip))))
    all_goals first
      | (exfalso; omega)
      | ((refine aw_ret ?_; (repeat (first | refine ret_then ?_ | refine ret_block ?_)); refine bq2 rfl rfl ⟨?_, rfl⟩); rfl)
      | trace_state
  have hk := pat_ok h0
  obtain ⟨c1, c2⟩ := hk.cuts
  obtain ⟨n1, n2⟩ := hk.steps
  have hll : p.lift.length = p.ros.length := lift_plen
  rw [if_pos h0, h0]
  refine pcalls_of_aw Try.func11 rfl (Nat.le_of_ble_eq_true rfl) ?_
  (repeat' (first | (refine ar_isq ?_; first | refine zmv ?_ | refine zas ?_ | (refine is_load ?_; first | refine zlp ?_ | refine zlr ?_) | (refine is_binOp ?_; first | refine zlss ?_ | refine zneq ?_ | refine zadd ?_ | refine zsub ?_ | refine zmul ?_) | (refine is_fieldAddr ?_; first | refine zfp ?_ | refine zfr ?_) | (refine is_indexAddr ?_; first | refine zil ?_ | refine zis ?_ | refine zit ?_ | refine zia ?_ | refine zir ?_ | (refine zxl ?_; intro _ _ _) | (refine zxs ?_; intro _ _ _)) | (refine is_call ?_; first | refine zll ?_ | refine zls ?_ | refine zln ?_ | refine zle ?_) | refine zex ?_ | refine zncp ?_ | refine zncr ?_) | (refine ar_pcall (own := false) fn26 rfl rfl (.cons (.closed rfl) .nil) (mounted_p p) (by simp) (dc rfl) ?_; rintro _ (⟨hm, rfl⟩ | ⟨hm, rfl⟩)) | (refine zbx ?_) | (refine zb1 ?_) | (refine zb0 ?_) | (refine zapoo ?_) | (refine zapol ?_) | (refine zapno ?_) | (refine zapnl ?_) | (refine zapeo ?_) | (refine zapel ?_) | (refine ar_nil ?_) | (refine aw_seq ?_) | (refine aw_skip ?_) | (refine aw_block ?_) | (refine aw_exit ?_) | (refine aw_region ?_) | (refine aw_drawn (id := 11) [(0, 0), (1, 0), (2, 0), (3, 0), (4, 0), (5, 0), (6, 0), (7, 0), (8, 0), (9, 0), (10, 0), (11, 0), (12, 0), (13, 0), (14, 0), (15, 0), (19, 0), (16, 1), (17, 0), (18, 0), (20, 0), (21, 0), (22, 0), (23, 1), (24, 1), (25, 0)] mixed (by kernel_rfl) ?_) | (refine zco ?_ ?_ <;> intro hg <;> first | exact absurd hg (by decide) | ((try replace hg := HG.out hg); (try dsimp only at hg); (try (have _h : True := hg; clear _h hg)); first | (exfalso; omega) | skip))))
  all_goals (try (exfalso; omega))
  refine aw_for p.shifts.length (fun _ => True) (fun k => [(1, .ptr 6 0 0 0), (4, benchR p), (6, .sl 1 1 0 (gapL p k).length), (20, encInts p.shifts), (21, vi p.shifts.length), (22, vi k)]) (fun k => [.arr 6 1 (fun _ => p.enc), LB 1 vi (gapL p k)]) trivial ?_ ?_
  · (refine sub_to [some 0, none] [] rfl ?_ ?_ <;> (repeat' (first | exact trivial | refine ⟨⟨_, rfl, ?_⟩, ?_⟩ | refine ⟨bsub_snoc rfl rfl (fun _ => rfl) ?_, ?_⟩ | refine ⟨bsub_one rfl rfl ?_, ?_⟩ | refine ⟨bsub_all rfl rfl (fun _ _ => rfl) (fun _ => rfl), ?_⟩ | refine ⟨bsub_updL rfl rfl ?_ (fun _ _ _ => rfl) (fun _ => rfl), ?_⟩ | refine ⟨.inl ⟨_, _, rfl, rfl, ?_⟩, ?_⟩ | exact ⟨.inr ⟨rfl, rfl⟩, trivial⟩ | refine ⟨.inr ⟨rfl, rfl⟩, ?_⟩ | (intro _ _) | exact vz1 | exact vz2 | fail)))
  intro k hkk _
  have hgl := gapL_len p k
  by_cases hlt : k < p.shifts.length
  · (repeat' (first | (refine ar_isq ?_; first | refine zmv ?_ | refine zas ?_ | (refine is_load ?_; first | refine zlp ?_ | refine zlr ?_) | (refine is_binOp ?_; first | refine zlss ?_ | refine zneq ?_ | refine zadd ?_ | refine zsub ?_ | refine zmul ?_) | (refine is_fieldAddr ?_; first | refine zfp ?_ | refine zfr ?_) | (refine is_indexAddr ?_; first | refine zil ?_ | refine zis ?_ | refine zit ?_ | refine zia ?_ | refine zir ?_ | refine zil (j := k) ?_ | refine zis (j := k) ?_ | refine zit (j := k) ?_ | (refine zxl ?_; intro _ _ _) | (refine zxs ?_; intro _ _ _)) | (refine is_call ?_; first | refine zll ?_ | refine zls ?_ | refine zln ?_ | refine zle ?_) | refine zex ?_ | refine zncp ?_ | refine zncr ?_) | (refine zbx ?_) | (refine zb1 ?_) | (refine zb0 ?_) | (refine zapoo ?_) | (refine zapol ?_) | (refine zapno ?_) | (refine zapnl ?_) | (refine zapeo ?_) | (refine zapel ?_) | (refine ar_nil ?_) | (refine aw_seq ?_) | (refine aw_skip ?_) | (refine aw_block ?_) | (refine aw_exit ?_) | (refine aw_region ?_) | (refine aw_drawn (id := 11) [(0, 0), (1, 0), (2, 0), (3, 0), (4, 0), (5, 0), (6, 0), (7, 0), (8, 0), (9, 0), (10, 0), (11, 0), (12, 0), (13, 0), (14, 0), (15, 0), (19, 0), (16, 1), (17, 0), (18, 0), (20, 0), (21, 0), (22, 0), (23, 1), (24, 1), (25, 0)] mixed (by kernel_rfl) ?_) | (refine zco ?_ ?_ <;> intro hg <;> first | exact absurd hg (by decide) | ((try replace hg := HG.out hg); (try dsimp only at hg); (try (have _h : True := hg; clear _h hg)); first | (exfalso; omega) | skip))))
    all_goals (try (exfalso; omega))
    refine aw_for p.ros.length (fun _ => True) (fun i => [(1, .ptr 6 0 0 0), (4, benchR p), (6, .sl 1 1 0 (gapI p k i).length), (8, vi (el p.shifts k)), (20, encInts p.shifts), (21, vi p.shifts.length), (22, vi k), (29, encInts p.lift), (30, vi p.ros.length), (31, vi i)]) (fun i => [.arr 6 1 (fun _ => p.enc), LB 1 vi (gapI p k i)]) trivial ?_ ?_
    · rw [gapI_zero]
      (refine sub_to [some 0, some 1] [] rfl ?_ ?_ <;> (repeat' (first | exact trivial | refine ⟨⟨_, rfl, ?_⟩, ?_⟩ | refine ⟨bsub_snoc rfl rfl (fun _ => rfl) ?_, ?_⟩ | refine ⟨bsub_one rfl rfl ?_, ?_⟩ | refine ⟨bsub_all rfl rfl (fun _ _ => rfl) (fun _ => rfl), ?_⟩ | refine ⟨bsub_updL rfl rfl ?_ (fun _ _ _ => rfl) (fun _ => rfl), ?_⟩ | refine ⟨.inl ⟨_, _, rfl, rfl, ?_⟩, ?_⟩ | exact ⟨.inr ⟨rfl, rfl⟩, trivial⟩ | refine ⟨.inr ⟨rfl, rfl⟩, ?_⟩ | (intro _ _) | exact vz1 | exact vz2 | fail)))
    intro i hi _
    have hil := gapI_len p k i
    have hkn := Nat.mul_le_mul (show k ≤ 12 by omega) n2
    by_cases hlti : i < p.ros.length
    · have hsk := hk.shift k hlt
      have g1 := Int.emod_nonneg ((i : Int) - el p.shifts k) (show (p.ros.length : Int) ≠ 0 by omega)
      have g2 := Int.emod_lt_of_pos ((i : Int) - el p.shifts k) (show (0 : Int) < p.ros.length by omega)
      have hmo : PCalls Try.prog 28 [vi ((i : Int) - el p.shifts k), vi p.ros.length] (· = vi ((((i : Int) - el p.shifts k) % p.ros.length).toNat : Nat)) := by rw [Int.toNat_of_nonneg g1]; exact pmodulo_p _ _ (by omega) (by omega)
      have hx : el p.lift (((i : Int) - el p.shifts k) % p.ros.length).toNat = p.at ((i : Int) - el p.shifts k) := rfl
      have hb := at_bnd hk ((i : Int) - el p.shifts k)
      have hb2 := lift_hb hk hlti
      have hav := hk.adv
      have ht := mul_throw hk (x := p.at ((i : Int) - el p.shifts k) - el p.lift i) (by omega)
      rw [← hx] at hb ht
      (repeat' (first | (refine ar_isq ?_; first | refine zmv ?_ | refine zas ?_ | (refine is_load ?_; first | refine zlp ?_ | refine zlr ?_) | (refine is_binOp ?_; first | refine zlss ?_ | refine zneq ?_ | refine zadd ?_ | refine zsub ?_ | refine zmul ?_) | (refine is_fieldAddr ?_; first | refine zfp ?_ | refine zfr ?_) | (refine is_indexAddr ?_; first | refine zil ?_ | refine zis ?_ | refine zit ?_ | refine zia ?_ | refine zir ?_ | refine zil (j := i) ?_ | refine zis (j := i) ?_ | refine zit (j := i) ?_ | refine zil (j := (((i : Int) - el p.shifts k) % p.ros.length).toNat) ?_ | refine zis (j := (((i : Int) - el p.shifts k) % p.ros.length).toNat) ?_ | refine zit (j := (((i : Int) - el p.shifts k) % p.ros.length).toNat) ?_ | (refine zxl ?_; intro _ _ _) | (refine zxs ?_; intro _ _ _)) | (refine is_call ?_; first | refine zll ?_ | refine zls ?_ | refine zln ?_ | refine zle ?_) | refine zex ?_ | refine zncp ?_ | refine zncr ?_) | (refine ar_pcall (own := false) fn28 rfl rfl (.cons (.closed rfl) (.cons (.closed rfl) .nil)) (hmo) (by simp) (dc rfl) ?_; intro _ hv; subst hv) | (refine zbx ?_) | (refine zb1 ?_) | (refine zb0 ?_) | (refine zapoo ?_) | (refine zapol ?_) | (refine zapno ?_) | (refine zapnl ?_) | (refine zapeo ?_) | (refine zapel ?_) | (refine ar_nil ?_) | (refine aw_seq ?_) | (refine aw_skip ?_) | (refine aw_block ?_) | (refine aw_exit ?_) | (refine aw_region ?_) | (refine aw_drawn (id := 11) [(0, 0), (1, 0), (2, 0), (3, 0), (4, 0), (5, 0), (6, 0), (7, 0), (8, 0), (9, 0), (10, 0), (11, 0), (12, 0), (13, 0), (14, 0), (15, 0), (19, 0), (16, 1), (17, 0), (18, 0), (20, 0), (21, 0), (22, 0), (23, 1), (24, 1), (25, 0)] mixed (by kernel_rfl) ?_) | (refine zco ?_ ?_ <;> intro hg <;> first | exact absurd hg (by decide) | ((try replace hg := HG.out hg); (try dsimp only at hg); (try (have _h : True := hg; clear _h hg)); first | (exfalso; omega) | skip))))
      all_goals first
        | (exfalso; omega)
        | (rw [gapI_succ]; ((first | refine loop_next (by omega) ?_ ?_ | refine (show _ ∧ _ ∧ SubOf _ _ _ _ _ _ from And.intro (by omega) (And.intro ?_ ?_))); (focus ((trivial); done)); (focus ((refine sub_to [some 0, some 3] [] rfl ?_ ?_ <;> (repeat' (first | exact trivial | refine ⟨⟨_, rfl, ?_⟩, ?_⟩ | refine ⟨bsub_snoc rfl rfl (fun _ => rfl) ?_, ?_⟩ | refine ⟨bsub_one rfl rfl ?_, ?_⟩ | refine ⟨bsub_all rfl rfl (fun _ _ => rfl) (fun _ => rfl), ?_⟩ | refine ⟨bsub_updL rfl rfl ?_ (fun _ _ _ => rfl) (fun _ => rfl), ?_⟩ | refine ⟨.inl ⟨_, _, rfl, rfl, ?_⟩, ?_⟩ | exact ⟨.inr ⟨rfl, rfl⟩, trivial⟩ | refine ⟨.inr ⟨rfl, rfl⟩, ?_⟩ | (intro _ _) | exact vz1 | exact vz2 | fail))); done))))
        | trace_state
    · obtain rfl : i = p.ros.length := by omega
      (repeat' (first | (refine ar_isq ?_; first | refine zmv ?_ | refine zas ?_ | (refine is_load ?_; first | refine zlp ?_ | refine zlr ?_) | (refine is_binOp ?_; first | refine zlss ?_ | refine zneq ?_ | refine zadd ?_ | refine zsub ?_ | refine zmul ?_) | (refine is_fieldAddr ?_; first | refine zfp ?_ | refine zfr ?_) | (refine is_indexAddr ?_; first | refine zil ?_ | refine zis ?_ | refine zit ?_ | refine zia ?_ | refine zir ?_ | (refine zxl ?_; intro _ _ _) | (refine zxs ?_; intro _ _ _)) | (refine is_call ?_; first | refine zll ?_ | refine zls ?_ | refine zln ?_ | refine zle ?_) | refine zex ?_ | refine zncp ?_ | refine zncr ?_) | (refine zbx ?_) | (refine zb1 ?_) | (refine zb0 ?_) | (refine zapoo ?_) | (refine zapol ?_) | (refine zapno ?_) | (refine zapnl ?_) | (refine zapeo ?_) | (refine zapel ?_) | (refine ar_nil ?_) | (refine aw_seq ?_) | (refine aw_skip ?_) | (refine aw_block ?_) | (refine aw_exit ?_) | (refine aw_region ?_) | (refine aw_drawn (id := 11) [(0, 0), (1, 0), (2, 0), (3, 0), (4, 0), (5, 0), (6, 0), (7, 0), (8, 0), (9, 0), (10, 0), (11, 0), (12, 0), (13, 0), (14, 0), (15, 0), (19, 0), (16, 1), (17, 0), (18, 0), (20, 0), (21, 0), (22, 0), (23, 1), (24, 1), (25, 0)] mixed (by kernel_rfl) ?_) | (refine zco ?_ ?_ <;> intro hg <;> first | exact absurd hg (by decide) | ((try replace hg := HG.out hg); (try dsimp only at hg); (try (have _h : True := hg; clear _h hg)); first | (exfalso; omega) | skip))))
      all_goals first
        | (exfalso; omega)
        | (rw [gapI_all]; ((first | refine loop_next (by omega) ?_ ?_ | refine (show _ ∧ _ ∧ SubOf _ _ _ _ _ _ from And.intro (by omega) (And.intro ?_ ?_))); (focus ((trivial); done)); (focus ((refine sub_to [some 0, some 1] [] rfl ?_ ?_ <;> (repeat' (first | exact trivial | refine ⟨⟨_, rfl, ?_⟩, ?_⟩ | refine ⟨bsub_snoc rfl rfl (fun _ => rfl) ?_, ?_⟩ | refine ⟨bsub_one rfl rfl ?_, ?_⟩ | refine ⟨bsub_all rfl rfl (fun _ _ => rfl) (fun _ => rfl), ?_⟩ | refine ⟨bsub_updL rfl rfl ?_ (fun _ _ _ => rfl) (fun _ => rfl), ?_⟩ | refine ⟨.inl ⟨_, _, rfl, rfl, ?_⟩, ?_⟩ | exact ⟨.inr ⟨rfl, rfl⟩, trivial⟩ | refine ⟨.inr ⟨rfl, rfl⟩, ?_⟩ | (intro _ _) | exact vz1 | exact vz2 | fail))); done))))
        | trace_state
  · obtain rfl : k = p.shifts.length := by omega
    have hpos : 0 < (gapL p p.shifts.length).length := by rw [hgl]; exact Nat.mul_pos (by omega) (by omega)
    have hmin := min_p (gapL p p.shifts.length) hpos
    (repeat' (first | (refine ar_isq ?_; first | refine zmv ?_ | refine zas ?_ | (refine is_load ?_; first | refine zlp ?_ | refine zlr ?_) | (refine is_binOp ?_; first | refine zlss ?_ | refine zneq ?_ | refine zadd ?_ | refine zsub ?_ | refine zmul ?_) | (refine is_fieldAddr ?_; first | refine zfp ?_ | refine zfr ?_) | (refine is_indexAddr ?_; first | refine zil ?_ | refine zis ?_ | refine zit ?_ | refine zia ?_ | refine zir ?_ | (refine zxl ?_; intro _ _ _) | (refine zxs ?_; intro _ _ _)) | (refine is_call ?_; first | refine zll ?_ | refine zls ?_ | refine zln ?_ | refine zle ?_) | refine zex ?_ | refine zncp ?_ | refine zncr ?_) | (((refine ar_subk_l (sub_frzL (t := 63) vi (gapL p p.shifts.length) rfl rfl rfl rfl (fun _ _ => rfl) (fun _ => rfl)) ?_); refine ar_pcall (own := false) fn30 rfl rfl (.cons (.closed rfl) .nil) (hmin) (by simp) (dc rfl) ?_; intro _ hv; subst hv)) | (refine zbx ?_) | (refine zb1 ?_) | (refine zb0 ?_) | (refine zapoo ?_) | (refine zapol ?_) | (refine zapno ?_) | (refine zapnl ?_) | (refine zapeo ?_) | (refine zapel ?_) | (refine ar_nil ?_) | (refine aw_seq ?_) | (refine aw_skip ?_) | (refine aw_block ?_) | (refine aw_exit ?_) | (refine aw_region ?_) | (refine aw_drawn (id := 11) [(0, 0), (1, 0), (2, 0), (3, 0), (4, 0), (5, 0), (6, 0), (7, 0), (8, 0), (9, 0), (10, 0), (11, 0), (12, 0), (13, 0), (14, 0), (15, 0), (19, 0), (16, 1), (17, 0), (18, 0), (20, 0), (21, 0), (22, 0), (23, 1), (24, 1), (25, 0)] mixed (by kernel_rfl) ?_) | (refine zco ?_ ?_ <;> intro hg <;> first | exact absurd hg (by decide) | ((try replace hg := HG.out hg); (try dsimp only at hg); (try (have _h : True := hg; clear _h hg)); first | (exfalso; omega) | skip))))
    all_goals first
      | (exfalso; omega)
      | ((refine aw_ret ?_; (repeat (first | refine ret_then ?_ | refine ret_block ?_)); refine bq2 rfl rfl ⟨?_, rfl⟩); unfold Pat.gap; rw [gapL_all]; rfl)
      | trace_state
def euS (a b : Nat) : Nat → Nat × Nat
  | 0 => (a, b)
  | k + 1 => ((euS a b k).2, (euS a b k).1 % (euS a b k).2)
theorem eu_gcd (a b : Nat) : ∀ k, Nat.gcd (euS a b k).1 (euS a b k).2 = Nat.gcd a b
  | 0 => rfl
  | k + 1 => by
    rw [← eu_gcd a b k]
    show Nat.gcd (euS a b k).2 ((euS a b k).1 % (euS a b k).2) = _
    rw [Nat.gcd_comm, ← Nat.gcd_rec, Nat.gcd_comm]
theorem eu_less (a b : Nat) : ∀ k, (∀ j, j < k → (euS a b j).2 ≠ 0) → (euS a b k).2 + k ≤ b
  | 0, _ => Nat.le_refl _
  | k + 1, h => by
    have h1 := eu_less a b k fun j hj => h j (by omega)
    have h2 := Nat.mod_lt (euS a b k).1 (show 0 < (euS a b k).2 from Nat.pos_of_ne_zero (h k (by omega)))
    show (euS a b k).1 % (euS a b k).2 + (k + 1) ≤ b
    omega
theorem eu_end (a b : Nat) : ∃ k, (euS a b k).2 = 0 ∧ ∀ j, j < k → (euS a b j).2 ≠ 0 := by
  by_cases h : ∃ k, (euS a b k).2 = 0
  · obtain ⟨k, hk⟩ := h
    obtain ⟨d, h1, _, h2⟩ := least_nat (P := fun k => (euS a b k).2 = 0) k hk
    exact ⟨d, h1, h2⟩
  · have := eu_less a b (b + 1) fun j _ hj => h ⟨j, hj⟩
    omega
set_option maxHeartbeats 1000000 in
theorem gcd_p (a b : Nat) (ha : a ≤ 1000000000000000 ∧ b ≤ 1000000000000000) : PCalls Try.prog 55 [vi a, vi b] (· = vi (Nat.gcd a b)) := by
  obtain ⟨M, hM, hl⟩ := eu_end a b
  refine pcalls_of_aw Try.func55 rfl (Nat.le_of_ble_eq_true rfl) ?_
  (repeat' (first | (refine ar_isq ?_; first | refine zmv ?_ | refine zas ?_ | (refine is_binOp ?_; first | refine zneq ?_ | refine zrem ?_)) | (refine ar_nil ?_) | (refine aw_seq ?_) | (refine aw_skip ?_) | (refine aw_block ?_) | (refine aw_exit ?_) | (refine aw_region ?_) | (refine aw_drawn (id := 2) [(0, 0), (1, 0), (2, 0), (3, 0), (4, 0), (5, 0)] mixed (by kernel_rfl) ?_) | (refine zco ?_ ?_ <;> intro hg <;> first | exact absurd hg (by decide) | ((try replace hg := HG.out hg); (try dsimp only at hg); (try (have _h : True := hg; clear _h hg)); first | (exfalso; omega) | skip))))
  refine aw_for M (fun _ => True) (fun k => [(0, vi (euS a b k).1), (1, vi (euS a b k).2)]) (fun _ => []) trivial ?_ ?_
  · (refine sub_to [] [] rfl ?_ ?_ <;> (repeat' (first | exact trivial | refine ⟨⟨_, rfl, ?_⟩, ?_⟩ | refine ⟨bsub_snoc rfl rfl (fun _ => rfl) ?_, ?_⟩ | refine ⟨bsub_one rfl rfl ?_, ?_⟩ | refine ⟨bsub_all rfl rfl (fun _ _ => rfl) (fun _ => rfl), ?_⟩ | refine ⟨bsub_updL rfl rfl ?_ (fun _ _ _ => rfl) (fun _ => rfl), ?_⟩ | refine ⟨.inl ⟨_, _, rfl, rfl, ?_⟩, ?_⟩ | exact ⟨.inr ⟨rfl, rfl⟩, trivial⟩ | refine ⟨.inr ⟨rfl, rfl⟩, ?_⟩ | (intro _ _) | exact vz1 | exact vz2 | fail)))
  intro k hk _
  by_cases hlt : k < M
  · have hn := hl k hlt
    (repeat' (first | (refine ar_isq ?_; first | refine zmv ?_ | refine zas ?_ | (refine is_binOp ?_; first | refine zneq ?_ | refine zrem ?_)) | (refine ar_nil ?_) | (refine aw_seq ?_) | (refine aw_skip ?_) | (refine aw_block ?_) | (refine aw_exit ?_) | (refine aw_region ?_) | (refine aw_drawn (id := 2) [(0, 0), (1, 0), (2, 0), (3, 0), (4, 0), (5, 0)] mixed (by kernel_rfl) ?_) | (refine zco ?_ ?_ <;> intro hg <;> first | exact absurd hg (by decide) | ((try replace hg := HG.out hg); (try dsimp only at hg); (try (have _h : True := hg; clear _h hg)); first | (exfalso; omega) | skip))))
    all_goals first
      | (exfalso; omega)
      | ((first | refine loop_next (by omega) ?_ ?_ | refine (show _ ∧ _ ∧ SubOf _ _ _ _ _ _ from And.intro (by omega) (And.intro ?_ ?_))); (focus ((trivial); done)); (focus ((refine sub_to [] [] rfl ?_ ?_ <;> (repeat' (first | exact trivial | refine ⟨⟨_, rfl, ?_⟩, ?_⟩ | refine ⟨bsub_snoc rfl rfl (fun _ => rfl) ?_, ?_⟩ | refine ⟨bsub_one rfl rfl ?_, ?_⟩ | refine ⟨bsub_all rfl rfl (fun _ _ => rfl) (fun _ => rfl), ?_⟩ | refine ⟨bsub_updL rfl rfl ?_ (fun _ _ _ => rfl) (fun _ => rfl), ?_⟩ | refine ⟨.inl ⟨_, _, rfl, rfl, ?_⟩, ?_⟩ | exact ⟨.inr ⟨rfl, rfl⟩, trivial⟩ | refine ⟨.inr ⟨rfl, rfl⟩, ?_⟩ | (intro _ _) | exact vz1 | (first | exact siEq rfl | exact siEq (Int.natCast_emod _ _).symm) | exact vz2 | fail))); done)))
      | trace_state
  · obtain rfl : k = M := by omega
    have hgg := eu_gcd a b k
    rw [hM, Nat.gcd_zero_right] at hgg
    (repeat' (first | (refine ar_isq ?_; first | refine zmv ?_ | refine zas ?_ | (refine is_binOp ?_; first | refine zneq ?_ | refine zrem ?_)) | (refine ar_nil ?_) | (refine aw_seq ?_) | (refine aw_skip ?_) | (refine aw_block ?_) | (refine aw_exit ?_) | (refine aw_region ?_) | (refine aw_drawn (id := 2) [(0, 0), (1, 0), (2, 0), (3, 0), (4, 0), (5, 0)] mixed (by kernel_rfl) ?_) | (refine zco ?_ ?_ <;> intro hg <;> first | exact absurd hg (by decide) | ((try replace hg := HG.out hg); (try dsimp only at hg); (try (have _h : True := hg; clear _h hg)); first | (exfalso; omega) | skip))))
    all_goals first
      | (exfalso; omega)
      | ((refine aw_ret ?_; (repeat (first | refine ret_then ?_ | refine ret_block ?_)); refine bq1 rfl ⟨?_, rfl⟩); rw [hgg])
      | trace_state
theorem tmod_zero {a n : Int} (hn : 0 < n) : a.tmod n = 0 ↔ a % n = 0 := by
  have h1 := tmod_mod a hn
  have h2 := tmod_gt a hn
  have h3 := Int.tmod_lt_of_pos a hn
  split at h1 <;> omega
set_option maxRecDepth 20000 in
set_option maxHeartbeats 2000000 in
theorem repeats_p (p : Pat) (hk : p.Ok) (c : Nat) (h1 : 1 ≤ c ∧ c ≤ p.shifts.length) : PCalls Try.prog 75 [benchR p, vi c] (fun v => ∃ bx, v = vb bx ∧ (bx = true ↔ p.rep c)) := by
  obtain ⟨c1, c2⟩ := hk.cuts
  obtain ⟨n1, n2⟩ := hk.steps
  have hp := per_pos (p := p) (by omega)
  refine pcalls_of_aw Try.func75 rfl (Nat.le_of_ble_eq_true rfl) ?_
  (repeat' (first | (refine ar_isq ?_; first | refine zmv ?_ | refine zas ?_ | (refine is_load ?_; first | refine zlp ?_ | refine zlr ?_) | (refine is_binOp ?_; first | refine zlss ?_ | refine zneq ?_ | refine zadd ?_ | refine zsub ?_ | refine zrem ?_) | (refine is_fieldAddr ?_; first | refine zfp ?_ | refine zfr ?_) | (refine is_indexAddr ?_; first | refine zil ?_ | refine zis ?_ | refine zit ?_ | refine zia ?_ | refine zir ?_ | (refine zxl ?_; intro _ _ _) | (refine zxs ?_; intro _ _ _)) | refine zncp ?_ | refine zncr ?_) | (refine ar_nil ?_) | (refine aw_seq ?_) | (refine aw_skip ?_) | (refine aw_block ?_) | (refine aw_exit ?_) | (refine aw_region ?_) | (refine aw_drawn (id := 4) [(0, 0), (1, 0), (2, 0), (3, 0), (4, 0), (5, 0), (6, 0), (7, 0), (8, 0), (9, 0), (10, 0), (11, 0), (12, 0), (13, 0), (14, 0), (15, 0), (16, 0), (17, 0), (18, 0), (19, 0), (20, 0), (21, 0), (22, 0), (23, 0), (24, 0)] mixed (by kernel_rfl) ?_) | (refine zco ?_ ?_ <;> intro hg <;> first | exact absurd hg (by decide) | ((try replace hg := HG.out hg); (try dsimp only at hg); (try (have _h : True := hg; clear _h hg)); first | (exfalso; omega) | skip))))
  refine aw_for (p.shifts.length - c) (fun k => ∀ i, c ≤ i → i < c + k → (el p.shifts i - el p.shifts (i - c)) % p.per = 0) (fun k => [(0, benchR p), (1, vi c), (5, vi (c + k : Nat))]) (fun _ => []) (fun i a b => by omega) ?_ ?_
  · (refine sub_to [] [] rfl ?_ ?_ <;> (repeat' (first | exact trivial | refine ⟨⟨_, rfl, ?_⟩, ?_⟩ | refine ⟨bsub_snoc rfl rfl (fun _ => rfl) ?_, ?_⟩ | refine ⟨bsub_one rfl rfl ?_, ?_⟩ | refine ⟨bsub_all rfl rfl (fun _ _ => rfl) (fun _ => rfl), ?_⟩ | refine ⟨bsub_updL rfl rfl ?_ (fun _ _ _ => rfl) (fun _ => rfl), ?_⟩ | refine ⟨.inl ⟨_, _, rfl, rfl, ?_⟩, ?_⟩ | exact ⟨.inr ⟨rfl, rfl⟩, trivial⟩ | refine ⟨.inr ⟨rfl, rfl⟩, ?_⟩ | (intro _ _) | exact vz1 | exact vz2 | fail)))
  intro k hkk hJ
  by_cases hlt : k < p.shifts.length - c
  · have s1 := hk.shift (c + k) (by omega)
    have s2 := hk.shift k (by omega)
    have ht := tmod_zero (a := el p.shifts (c + k) - el p.shifts k) (show (0 : Int) < p.per by omega)
    (repeat' (first | (refine ar_isq ?_; first | refine zmv ?_ | refine zas ?_ | (refine is_load ?_; first | refine zlp ?_ | refine zlr ?_) | (refine is_binOp ?_; first | refine zlss ?_ | refine zneq ?_ | refine zadd ?_ | refine zsub ?_ | refine zrem ?_) | (refine is_fieldAddr ?_; first | refine zfp ?_ | refine zfr ?_) | (refine is_indexAddr ?_; first | refine zil ?_ | refine zis ?_ | refine zit ?_ | refine zia ?_ | refine zir ?_ | refine zil (j := c + k) ?_ | refine zis (j := c + k) ?_ | refine zit (j := c + k) ?_ | refine zil (j := k) ?_ | refine zis (j := k) ?_ | refine zit (j := k) ?_ | (refine zxl ?_; intro _ _ _) | (refine zxs ?_; intro _ _ _)) | refine zncp ?_ | refine zncr ?_) | (refine ar_q (qs_rem rfl rfl (by omega) rfl) (dc rfl) ?_) | (refine ar_nil ?_) | (refine aw_seq ?_) | (refine aw_skip ?_) | (refine aw_block ?_) | (refine aw_exit ?_) | (refine aw_region ?_) | (refine aw_drawn (id := 4) [(0, 0), (1, 0), (2, 0), (3, 0), (4, 0), (5, 0), (6, 0), (7, 0), (8, 0), (9, 0), (10, 0), (11, 0), (12, 0), (13, 0), (14, 0), (15, 0), (16, 0), (17, 0), (18, 0), (19, 0), (20, 0), (21, 0), (22, 0), (23, 0), (24, 0)] mixed (by kernel_rfl) ?_) | (refine zco ?_ ?_ <;> intro hg <;> first | exact absurd hg (by decide) | ((try replace hg := HG.out hg); (try dsimp only at hg); (try (have _h : True := hg; clear _h hg)); first | (exfalso; omega) | skip))))
    all_goals first
      | (exfalso; omega)
      | ((refine aw_ret ?_; (repeat (first | refine ret_then ?_ | refine ret_block ?_)); refine bq1 rfl ⟨?_, rfl⟩); refine ⟨false, rfl, fun h => (by cases h), fun h => ?_⟩; have := h (c + k) (by omega) (by omega); rw [show c + k - c = k by omega] at this; exact absurd (ht.2 this) (by assumption))
      | ((first | refine loop_next (by omega) ?_ ?_ | refine (show _ ∧ _ ∧ SubOf _ _ _ _ _ _ from And.intro (by omega) (And.intro ?_ ?_))); (focus (((intro i a b; by_cases e : i = c + k; (subst e; rw [show c + k - c = k by omega]; exact ht.1 (by simp_all)); exact hJ i a (by omega))); done)); (focus ((refine sub_to [] [] rfl ?_ ?_ <;> (repeat' (first | exact trivial | refine ⟨⟨_, rfl, ?_⟩, ?_⟩ | refine ⟨bsub_snoc rfl rfl (fun _ => rfl) ?_, ?_⟩ | refine ⟨bsub_one rfl rfl ?_, ?_⟩ | refine ⟨bsub_all rfl rfl (fun _ _ => rfl) (fun _ => rfl), ?_⟩ | refine ⟨bsub_updL rfl rfl ?_ (fun _ _ _ => rfl) (fun _ => rfl), ?_⟩ | refine ⟨.inl ⟨_, _, rfl, rfl, ?_⟩, ?_⟩ | exact ⟨.inr ⟨rfl, rfl⟩, trivial⟩ | refine ⟨.inr ⟨rfl, rfl⟩, ?_⟩ | (intro _ _) | exact vz1 | (exact siEq (by omega)) | exact vz2 | fail))); done)))
      | trace_state
  · obtain rfl : k = p.shifts.length - c := by omega
    (repeat' (first | (refine ar_isq ?_; first | refine zmv ?_ | refine zas ?_ | (refine is_load ?_; first | refine zlp ?_ | refine zlr ?_) | (refine is_binOp ?_; first | refine zlss ?_ | refine zneq ?_ | refine zadd ?_ | refine zsub ?_ | refine zrem ?_) | (refine is_fieldAddr ?_; first | refine zfp ?_ | refine zfr ?_) | (refine is_indexAddr ?_; first | refine zil ?_ | refine zis ?_ | refine zit ?_ | refine zia ?_ | refine zir ?_ | (refine zxl ?_; intro _ _ _) | (refine zxs ?_; intro _ _ _)) | refine zncp ?_ | refine zncr ?_) | (refine ar_nil ?_) | (refine aw_seq ?_) | (refine aw_skip ?_) | (refine aw_block ?_) | (refine aw_exit ?_) | (refine aw_region ?_) | (refine aw_drawn (id := 4) [(0, 0), (1, 0), (2, 0), (3, 0), (4, 0), (5, 0), (6, 0), (7, 0), (8, 0), (9, 0), (10, 0), (11, 0), (12, 0), (13, 0), (14, 0), (15, 0), (16, 0), (17, 0), (18, 0), (19, 0), (20, 0), (21, 0), (22, 0), (23, 0), (24, 0)] mixed (by kernel_rfl) ?_) | (refine zco ?_ ?_ <;> intro hg <;> first | exact absurd hg (by decide) | ((try replace hg := HG.out hg); (try dsimp only at hg); (try (have _h : True := hg; clear _h hg)); first | (exfalso; omega) | skip))))
    all_goals first
      | (exfalso; omega)
      | ((refine aw_ret ?_; (repeat (first | refine ret_then ?_ | refine ret_block ?_)); refine bq1 rfl ⟨?_, rfl⟩); exact ⟨true, rfl, fun _ i a b => hJ i a (by omega), fun _ => rfl⟩)
      | trace_state
theorem rep_none {p : Pat} {k : Nat} (h0 : 0 < k) (hd : p.shifts.length % k = 0) (hm : ¬ p.motOk k) : ¬ p.rep k := fun h => hm ⟨h0, hd, h⟩
set_option maxRecDepth 20000 in
set_option maxHeartbeats 2000000 in
theorem motif_p (p : Pat) (hk : p.Ok) : PCalls Try.prog 54 [benchR p] (· = .tup [vi p.mot, vi p.turn]) := by
  obtain ⟨c1, c2⟩ := hk.cuts
  obtain ⟨n1, n2⟩ := hk.steps
  have hp := per_pos (p := p) (by omega)
  obtain ⟨⟨m1, m2, m3⟩, m4, m5⟩ := mot_spec (p := p) (by omega)
  have hph := phase_bnd (p := p) p.mot (by omega)
  have htu : p.phase p.mot % (p.per : Int) = (p.turn : Int) := by
    unfold Pat.turn
    rw [Int.natCast_emod, Int.toNat_of_nonneg hph.1]
  refine pcalls_of_aw Try.func54 rfl (Nat.le_of_ble_eq_true rfl) ?_
  (repeat' (first | (refine ar_isq ?_; first | refine zmv ?_ | refine zas ?_ | (refine is_load ?_; first | refine zlp ?_ | refine zlr ?_) | (refine is_binOp ?_; first | refine zneq ?_ | refine zadd ?_ | refine zrem ?_) | (refine is_fieldAddr ?_; first | refine zfp ?_ | refine zfr ?_) | (refine is_pick ?_; first | refine zpt ?_ | refine zpf ?_) | refine znt ?_ | refine zncp ?_ | refine zncr ?_) | (refine zg ?_ ?_ <;> intro hg <;> first | exact absurd hg (by decide) | ((try replace hg := HG.out hg); (try dsimp only at hg); (try (have _h : True := hg; clear _h hg)); first | (exfalso; omega) | skip)) | (refine zgu ?_) | (refine ar_nil ?_) | (refine aw_seq ?_) | (refine aw_skip ?_) | (refine aw_block ?_) | (refine aw_exit ?_) | (refine aw_region ?_) | (refine aw_drawn (id := 4) [(0, 0), (1, 0), (2, 0), (4, 0), (5, 0), (6, 0), (7, 0), (3, 1), (8, 0), (9, 0), (10, 0)] mixed (by kernel_rfl) ?_) | (refine zco ?_ ?_ <;> intro hg <;> first | exact absurd hg (by decide) | ((try replace hg := HG.out hg); (try dsimp only at hg); (try (have _h : True := hg; clear _h hg)); first | (exfalso; omega) | skip))))
  refine aw_for (p.mot - 1) (fun _ => True) (fun k => [(0, benchR p), (2, vi (k + 1 : Nat))]) (fun _ => []) trivial ?_ ?_
  · (refine sub_to [] [] rfl ?_ ?_ <;> (repeat' (first | exact trivial | refine ⟨⟨_, rfl, ?_⟩, ?_⟩ | refine ⟨bsub_snoc rfl rfl (fun _ => rfl) ?_, ?_⟩ | refine ⟨bsub_one rfl rfl ?_, ?_⟩ | refine ⟨bsub_all rfl rfl (fun _ _ => rfl) (fun _ => rfl), ?_⟩ | refine ⟨bsub_updL rfl rfl ?_ (fun _ _ _ => rfl) (fun _ => rfl), ?_⟩ | refine ⟨.inl ⟨_, _, rfl, rfl, ?_⟩, ?_⟩ | exact ⟨.inr ⟨rfl, rfl⟩, trivial⟩ | refine ⟨.inr ⟨rfl, rfl⟩, ?_⟩ | (intro _ _) | exact vz1 | (exact siEq (by omega)) | exact vz2 | fail)))
  intro k hkk _
  have hr := repeats_p p hk (k + 1) (by omega)
  by_cases hlt : k < p.mot - 1
  · have hno := m5 (k + 1) (by omega)
    have hrn : p.shifts.length % (k + 1) = 0 → ¬ p.rep (k + 1) := fun hd => rep_none (by omega) hd hno
    (repeat' (first | (refine ar_isq ?_; first | refine zmv ?_ | refine zas ?_ | (refine is_load ?_; first | refine zlp ?_ | refine zlr ?_) | (refine is_binOp ?_; first | refine zneq ?_ | refine zadd ?_ | refine zrem ?_) | (refine is_fieldAddr ?_; first | refine zfp ?_ | refine zfr ?_) | (refine is_pick ?_; first | refine zpt ?_ | refine zpf ?_) | refine znt ?_ | refine zncp ?_ | refine zncr ?_) | ((refine ar_pcall (own := false) fn75 rfl rfl (.cons (.closed rfl) (.cons (.closed rfl) .nil)) (hr) (by simp) (dc rfl) ?_; rintro _ ⟨bx, rfl, hbx⟩)) | (refine zg ?_ ?_ <;> intro hg <;> first | exact absurd hg (by decide) | ((try replace hg := HG.out hg); (try dsimp only at hg); (try (have _h : True := hg; clear _h hg)); first | (exfalso; omega) | skip)) | (refine zgu ?_) | (refine ar_nil ?_) | (refine aw_seq ?_) | (refine aw_skip ?_) | (refine aw_block ?_) | (refine aw_exit ?_) | (refine aw_region ?_) | (refine aw_drawn (id := 4) [(0, 0), (1, 0), (2, 0), (4, 0), (5, 0), (6, 0), (7, 0), (3, 1), (8, 0), (9, 0), (10, 0)] mixed (by kernel_rfl) ?_) | (refine zco ?_ ?_ <;> intro hg <;> first | exact absurd hg (by decide) | ((try replace hg := HG.out hg); (try dsimp only at hg); (try (have _h : True := hg; clear _h hg)); first | (exfalso; omega) | skip))))
    all_goals first
      | (exfalso; omega)
      | (exfalso; exact hrn (by omega) (hbx.1 (by assumption)))
      | ((first | refine loop_next (by omega) ?_ ?_ | refine (show _ ∧ _ ∧ SubOf _ _ _ _ _ _ from And.intro (by omega) (And.intro ?_ ?_))); (focus ((trivial); done)); (focus ((refine sub_to [] [] rfl ?_ ?_ <;> (repeat' (first | exact trivial | refine ⟨⟨_, rfl, ?_⟩, ?_⟩ | refine ⟨bsub_snoc rfl rfl (fun _ => rfl) ?_, ?_⟩ | refine ⟨bsub_one rfl rfl ?_, ?_⟩ | refine ⟨bsub_all rfl rfl (fun _ _ => rfl) (fun _ => rfl), ?_⟩ | refine ⟨bsub_updL rfl rfl ?_ (fun _ _ _ => rfl) (fun _ => rfl), ?_⟩ | refine ⟨.inl ⟨_, _, rfl, rfl, ?_⟩, ?_⟩ | exact ⟨.inr ⟨rfl, rfl⟩, trivial⟩ | refine ⟨.inr ⟨rfl, rfl⟩, ?_⟩ | (intro _ _) | exact vz1 | (exact siEq (by omega)) | exact vz2 | fail))); done)))
      | trace_state
  · obtain rfl : k = p.mot - 1 := by omega
    have e : p.mot - 1 + 1 = p.mot := by omega
    rw [e] at hr
    rw [e]
    (repeat' (first | (refine ar_isq ?_; first | refine zmv ?_ | refine zas ?_ | (refine is_load ?_; first | refine zlp ?_ | refine zlr ?_) | (refine is_binOp ?_; first | refine zneq ?_ | refine zadd ?_ | refine zrem ?_) | (refine is_fieldAddr ?_; first | refine zfp ?_ | refine zfr ?_) | (refine is_pick ?_; first | refine zpt ?_ | refine zpf ?_) | refine znt ?_ | refine zncp ?_ | refine zncr ?_) | ((refine ar_pcall (own := false) fn75 rfl rfl (.cons (.closed rfl) (.cons (.closed rfl) .nil)) (hr) (by simp) (dc rfl) ?_; rintro _ ⟨bx, rfl, hbx⟩)) | (refine ar_pcall (own := false) fn29 rfl rfl (.cons (.closed rfl) (.cons (.closed rfl) .nil)) (phase_p p hk p.mot (by omega)) (by simp) (dc rfl) ?_; intro _ hv; subst hv) | (refine zg ?_ ?_ <;> intro hg <;> first | exact absurd hg (by decide) | ((try replace hg := HG.out hg); (try dsimp only at hg); (try (have _h : True := hg; clear _h hg)); first | (exfalso; omega) | skip)) | (refine zgu ?_) | (refine ar_nil ?_) | (refine aw_seq ?_) | (refine aw_skip ?_) | (refine aw_block ?_) | (refine aw_exit ?_) | (refine aw_region ?_) | (refine aw_drawn (id := 4) [(0, 0), (1, 0), (2, 0), (4, 0), (5, 0), (6, 0), (7, 0), (3, 1), (8, 0), (9, 0), (10, 0)] mixed (by kernel_rfl) ?_) | (refine zco ?_ ?_ <;> intro hg <;> first | exact absurd hg (by decide) | ((try replace hg := HG.out hg); (try dsimp only at hg); (try (have _h : True := hg; clear _h hg)); first | (exfalso; omega) | skip))))
    all_goals first
      | (exfalso; omega)
      | (exfalso; have hb := hbx.2 m3; simp_all; done)
      | ((refine aw_ret ?_; (repeat (first | refine ret_then ?_ | refine ret_block ?_)); refine bq2 rfl rfl ⟨?_, rfl⟩); rw [← htu]; rfl)
      | trace_state
set_option maxRecDepth 20000 in
set_option maxHeartbeats 2000000 in
theorem closesM_p (p : Pat) (hk : p.Ok) : PCalls Try.prog 37 [benchR p] (· = vi p.closes) := by
  obtain ⟨c1, c2⟩ := hk.cuts
  obtain ⟨n1, n2⟩ := hk.steps
  have hp := per_pos (p := p) (by omega)
  obtain ⟨⟨m1, m2, m3⟩, m4, m5⟩ := mot_spec (p := p) (by omega)
  have ht : p.turn < p.per := Nat.mod_lt _ hp.1
  have hg1 : 0 < Nat.gcd p.per p.turn := Nat.gcd_pos_of_pos_left _ hp.1
  have hgc : PCalls Try.prog 55 [vi p.per, vi p.turn] (· = vi (Nat.gcd p.per p.turn)) := gcd_p _ _ (by omega)
  have hq : ((p.per : Int) / (Nat.gcd p.per p.turn : Int)) = ((p.per / Nat.gcd p.per p.turn : Nat) : Int) := (Int.natCast_ediv _ _).symm
  have hq2 : p.per / Nat.gcd p.per p.turn ≤ p.per := Nat.div_le_self _ _
  have hm : p.mot * (p.per / Nat.gcd p.per p.turn) ≤ 12 * 96 := Nat.mul_le_mul (by omega) (by omega)
  have hmi : (p.mot : Int) * ((p.per : Int) / (Nat.gcd p.per p.turn : Int)) = (p.closes : Int) := by rw [hq]; unfold Pat.closes; rw [Int.natCast_mul]
  have hmb : 0 ≤ (p.mot : Int) * ((p.per : Int) / (Nat.gcd p.per p.turn : Int)) ∧ (p.mot : Int) * ((p.per : Int) / (Nat.gcd p.per p.turn : Int)) ≤ 1152 := by rw [hmi]; unfold Pat.closes; omega
  refine pcalls_of_aw Try.func37 rfl (Nat.le_of_ble_eq_true rfl) ?_
  (repeat' (first | (refine ar_isq ?_; first | refine zmv ?_ | refine zas ?_ | (refine is_load ?_; first | refine zlp ?_ | refine zlr ?_) | (refine is_binOp ?_; first | refine zmul ?_ | refine zquo ?_) | (refine is_fieldAddr ?_; first | refine zfp ?_ | refine zfr ?_) | refine zex ?_ | refine zncp ?_ | refine zncr ?_) | (refine ar_pcall (own := false) fn54 rfl rfl (.cons (.closed rfl) .nil) (motif_p p hk) (by simp) (dc rfl) ?_; intro _ hv; subst hv) | (refine ar_pcall (own := false) fn55 rfl rfl (.cons (.closed rfl) (.cons (.closed rfl) .nil)) (hgc) (by simp) (dc rfl) ?_; intro _ hv; subst hv) | (refine ar_nil ?_) | (refine aw_seq ?_) | (refine aw_skip ?_) | (refine aw_block ?_) | (refine aw_exit ?_) | (refine aw_region ?_) | (refine aw_drawn (id := 2) [(0, 0), (1, 0), (2, 0), (3, 0), (4, 0), (5, 0), (6, 0), (7, 0), (8, 0), (9, 0), (10, 1), (11, 0), (12, 0), (13, 0)] mixed (by kernel_rfl) ?_) | (refine zco ?_ ?_ <;> intro hg <;> first | exact absurd hg (by decide) | ((try replace hg := HG.out hg); (try dsimp only at hg); (try (have _h : True := hg; clear _h hg)); first | (exfalso; omega) | skip))))
  all_goals first
    | (exfalso; omega)
    | ((refine aw_ret ?_; (repeat (first | refine ret_then ?_ | refine ret_block ?_)); refine bq1 rfl ⟨?_, rfl⟩); rw [← hmi]; rfl)
    | trace_state
set_option maxHeartbeats 1000000 in
theorem closes_p (p : Pat) : PCalls Try.prog 17 [p.enc] (fun v => ∃ n : Nat, v = .tup [vi n, vi p.err] ∧ (p.err = 0 → n = p.closes)) := by
  refine pcalls_of_aw Try.func17 rfl (Nat.le_of_ble_eq_true rfl) ?_
  by_cases h0 : p.err = 0
  · have hk := pat_ok h0
    (repeat' (first | (refine ar_isq ?_; first | refine zmv ?_ | refine zas ?_ | (refine is_load ?_; first | refine zlp ?_ | refine zlr ?_) | refine zneq ?_ | refine zex ?_) | (refine ar_pcall (own := false) fn26 rfl rfl (.cons (.closed rfl) .nil) (mounted_p p) (by simp) (dc rfl) ?_; rintro _ (⟨hm, rfl⟩ | ⟨hm, rfl⟩)) | (refine ar_pcall (own := false) fn37 rfl rfl (.cons (.closed rfl) .nil) (closesM_p p hk) (by simp) (dc rfl) ?_; intro _ hv; subst hv) | (refine zbx ?_) | (refine ar_nil ?_) | (refine aw_seq ?_) | (refine aw_skip ?_) | (refine aw_block ?_) | (refine aw_exit ?_) | (refine aw_region ?_) | (refine zco ?_ ?_ <;> intro hg <;> first | exact absurd hg (by decide) | ((try replace hg := HG.out hg); (try dsimp only at hg); (try (have _h : True := hg; clear _h hg)); first | (exfalso; omega) | skip))))
    all_goals first
      | (exfalso; omega)
      | ((refine aw_ret ?_; (repeat (first | refine ret_then ?_ | refine ret_block ?_)); refine bq2 rfl rfl ⟨?_, rfl⟩); exact ⟨p.closes, by rw [h0]; rfl, fun _ => rfl⟩)
      | trace_state
  · (repeat' (first | (refine ar_isq ?_; first | refine zmv ?_ | refine zas ?_ | (refine is_load ?_; first | refine zlp ?_ | refine zlr ?_) | refine zneq ?_ | refine zex ?_) | (refine ar_pcall (own := false) fn26 rfl rfl (.cons (.closed rfl) .nil) (mounted_p p) (by simp) (dc rfl) ?_; rintro _ (⟨hm, rfl⟩ | ⟨hm, rfl⟩)) | (refine zbx ?_) | (refine ar_nil ?_) | (refine aw_seq ?_) | (refine aw_skip ?_) | (refine aw_block ?_) | (refine aw_exit ?_) | (refine aw_region ?_) | (refine zco ?_ ?_ <;> intro hg <;> first | exact absurd hg (by decide) | ((try replace hg := HG.out hg); (try dsimp only at hg); (try (have _h : True := hg; clear _h hg)); first | (exfalso; omega) | skip))))
    all_goals first
      | (exfalso; omega)
      | ((refine aw_ret ?_; (repeat (first | refine ret_then ?_ | refine ret_block ?_)); refine bq2 rfl rfl ⟨?_, rfl⟩); exact ⟨0, rfl, fun h => (h0 h).elim⟩)
      | trace_state
end Go.Proofs.Ytloaefllpokkaaa
namespace Go.Proofs.Ytloaefllpokkaaa
open Go.RowKit
theorem hgK {a b : Bool} (h : (a == b) = true) : a = b := by simpa using h
theorem hgK' {a b : Bool} (h : (a == b) = false) : ¬ a = b := by simpa using h
theorem hgKN {a b : Bool} (h : (!(a == b)) = true) : ¬ a = b := by simpa using h
theorem hgKN' {a b : Bool} (h : (!(a == b)) = false) : a = b := by simpa using h
instance hgk1 {a b : Bool} : HG ((a == b) = true) (a = b) := ⟨hgK⟩
instance hgk2 {a b : Bool} : HG ((a == b) = false) (¬ a = b) := ⟨hgK'⟩
instance hgk3 {a b : Bool} : HG ((!(a == b)) = true) (¬ a = b) := ⟨hgKN⟩
instance hgk4 {a b : Bool} : HG ((!(a == b)) = false) (a = b) := ⟨hgKN'⟩
instance hgk5 {a b : Bool} : HG ((a == b) = !false) (a = b) := ⟨hgK⟩
instance hgk6 {a b : Bool} : HG ((a == b) = !true) (¬ a = b) := ⟨hgK'⟩
instance hgk7 {a b : Bool} : HG ((!(a == b)) = !false) (¬ a = b) := ⟨hgKN⟩
instance hgk8 {a b : Bool} : HG ((!(a == b)) = !true) (a = b) := ⟨hgKN'⟩
end Go.Proofs.Ytloaefllpokkaaa
namespace Go.Proofs.Ytloaefllpokkaaa
open Go.RowKit
theorem ar_buildT {P : Program} {r : Option Nat} {m nt i dst : Nat} {Q : Post} {env : Env} {H : Heap} {ops : Array Oper} {l : List Stp} {ty T : TypeId} {pos : String} {after : Array Edge} {d : TyD} {parts : Array (Nat × Operand)} {fs : List (TypeId × Nat)} {ns : List Nat} {vs : List (Nat × V)} {ds0 : List V}
    (h : ∀ ds, ds0 = ds → AR P r m nt ops Q l ((dst, .agg ds) :: env) H) (ht : TyIs P T d) (hk : d.tk = .struct fs) (hs : SizesAre P fs ns) (hz : (constV d.zero).ok = true)
    (hv : parts.toList.mapM (fun p => (eo env p.2).map fun v => (p.1, v)) = some vs) (hb : BuildR (fun k => (List.zip (fs.map (·.2)) ns)[k]?) (constV d.zero).cells vs ds0) (hd : dst < nt) : AR P r m nt ops Q (.q i ⟨some dst, .build T parts, ty, pos, after, none⟩ :: l) env H :=
  ar_buildS ht hk hs hz hv hb hd rfl (h _ rfl)
end Go.Proofs.Ytloaefllpokkaaa
namespace Go.Proofs.Ytloaefllpokkaaa
open Go.RowKit
section
variable {H : Heap} {σ : List (Option Nat)} {fr : Nat → Prop}
def VSubsL (H : Heap) (σ : List (Option Nat)) (fr : Nat → Prop) : List V → List V → Prop
  | [], [] => True
  | v :: l, x :: m => VSub H σ fr v x ∧ VSubsL H σ fr l m
  | _, _ => False
theorem vsubsL_len : ∀ {l m : List V}, VSubsL H σ fr l m → l.length = m.length
  | [], [], _ => rfl
  | _ :: l, _ :: m, h => by simp [vsubsL_len (l := l) (m := m) h.2]
  | [], _ :: _, h => h.elim
  | _ :: _, [], h => h.elim
theorem vsubsL_get : ∀ {l m : List V}, VSubsL H σ fr l m → ∀ (j : Nat) v x, l[j]? = some v → m[j]? = some x → VSub H σ fr v x
  | [], [], _, j, v, x, h, _ => by simp at h
  | a :: l, b :: m, h, j, v, x, h1, h2 => by
    cases j with
    | zero => simp at h1 h2; subst h1 h2; exact h.1
    | succ j => exact vsubsL_get h.2 j v x (by simpa using h1) (by simpa using h2)
  | [], _ :: _, h, _, _, _, _, _ => h.elim
  | _ :: _, [], h, _, _, _, _, _ => h.elim
theorem VSub.aggL {cs ds : List V} (h : VSubsL H σ fr cs ds) : VSub H σ fr (.agg cs) (.agg ds) := .agg (vsubsL_len h) (vsubsL_get h)
end
end Go.Proofs.Ytloaefllpokkaaa
namespace Go.Proofs.Ytloaefllpokkaaa
open Go.RowKit
def greatB (l : List Int) : Bool := decide (l.length > 120)
set_option maxHeartbeats 1000000 in
theorem great03_p (l : List Int) : PCalls Try.prog 25 [encInts l] (· = vb (greatB l)) := by
  refine pcalls_of_aw Try.func25 rfl (Nat.le_of_ble_eq_true rfl) ?_
  (repeat' (first | (refine ar_isq ?_; first | refine zmv ?_ | refine zas ?_ | refine zgtr ?_ | (refine is_call ?_; first | refine zll ?_ | refine zls ?_ | refine zln ?_ | refine zle ?_)) | (refine ar_nil ?_) | (refine aw_seq ?_) | (refine aw_skip ?_) | (refine aw_block ?_) | (refine aw_exit ?_) | (refine aw_region ?_) | (refine zco ?_ ?_ <;> intro hg <;> first | exact absurd hg (by decide) | ((try replace hg := HG.out hg); (try dsimp only at hg); (try (have _h : True := hg; clear _h hg)); first | (exfalso; omega) | skip))))
  (refine aw_ret ?_; (repeat (first | refine ret_then ?_ | refine ret_block ?_)); refine bq1 rfl ⟨?_, rfl⟩)
  unfold greatB
  refine congrArg vb ?_
  rw [decide_eq_decide]
  omega
set_option maxHeartbeats 1000000 in
theorem great04_p (p : Pat) : PCalls Try.prog 7 [p.enc] (fun v => ∃ bx, v = vb bx ∧ (bx = false → p.ros.length ≤ 120 ∧ p.rub.length ≤ 120 ∧ p.shifts.length ≤ 20)) := by
  refine pcalls_of_aw Try.func7 rfl (Nat.le_of_ble_eq_true rfl) ?_
  ((repeat refine aw_seq ?_); (first | (refine aw_region ?_)); (repeat' (first | (refine ar_isq ?_; first | refine zmv ?_ | refine zas ?_ | (refine is_load ?_; first | refine zlp ?_ | refine zlr ?_) | refine zgtr ?_ | (refine is_fieldAddr ?_; first | refine zfp ?_ | refine zfr ?_) | (refine is_call ?_; first | refine zll ?_ | refine zls ?_ | refine zln ?_ | refine zle ?_) | (refine is_pick ?_; first | refine zpt ?_ | refine zpf ?_)) | (refine zbx ?_) | (refine zg ?_ ?_ <;> intro hg <;> first | exact absurd hg (by decide) | ((try replace hg := HG.out hg); (try dsimp only at hg); (try (have _h : True := hg; clear _h hg)); first | (exfalso; omega) | skip)) | (refine zgu ?_) | (refine ar_nil ?_))))
  (refine aw_mono_r (env' := [(1, .ref p.enc 0), (2, vb false)]) (H' := []) ?_ ?_; (focus ((refine sub_to [] [0] rfl ?_ ?_ <;> (repeat' (first | exact trivial | refine ⟨⟨_, rfl, ?_⟩, ?_⟩ | refine ⟨bsub_snoc rfl rfl (fun _ => rfl) ?_, ?_⟩ | refine ⟨bsub_one rfl rfl ?_, ?_⟩ | refine ⟨bsub_all rfl rfl (fun _ _ => rfl) (fun _ => rfl), ?_⟩ | refine ⟨bsub_updL rfl rfl ?_ (fun _ _ _ => rfl) (fun _ => rfl), ?_⟩ | refine ⟨.inl ⟨_, _, rfl, rfl, ?_⟩, ?_⟩ | exact ⟨.inr ⟨rfl, rfl⟩, trivial⟩ | refine ⟨.inr ⟨rfl, rfl⟩, ?_⟩ | (intro _ _) | exact vz1 | (exact frzPtr' (by simp) rfl (by omega) rfl rfl) | exact vz2 | fail))); done)))
  cases h1 : greatB p.ros <;> cases h2 : greatB p.rub
  all_goals
    have g1 := great03_p p.ros
    have g2 := great03_p p.rub
    rw [h1] at g1
    rw [h2] at g2
    unfold greatB at h1 h2
    simp only [decide_eq_true_eq, decide_eq_false_iff_not] at h1 h2
    (repeat' (first | (refine ar_isq ?_; first | refine zmv ?_ | refine zas ?_ | (refine is_load ?_; first | refine zlp ?_ | refine zlr ?_) | refine zgtr ?_ | (refine is_fieldAddr ?_; first | refine zfp ?_ | refine zfr ?_) | (refine is_call ?_; first | refine zll ?_ | refine zls ?_ | refine zln ?_ | refine zle ?_) | (refine is_pick ?_; first | refine zpt ?_ | refine zpf ?_)) | (refine ar_pcall (own := false) fn25 rfl rfl (.cons (.closed rfl) .nil) (g1) (by simp) (dc rfl) ?_; intro _ hv; subst hv) | (refine ar_pcall (own := false) fn25 rfl rfl (.cons (.closed rfl) .nil) (g2) (by simp) (dc rfl) ?_; intro _ hv; subst hv) | (refine zbx ?_) | (refine zg ?_ ?_ <;> intro hg <;> first | exact absurd hg (by decide) | ((try replace hg := HG.out hg); (try dsimp only at hg); (try (have _h : True := hg; clear _h hg)); first | (exfalso; omega) | skip)) | (refine zgu ?_) | (refine ar_nil ?_) | (refine aw_seq ?_) | (refine aw_skip ?_) | (refine aw_block ?_) | (refine aw_exit ?_) | (refine aw_region ?_) | (refine zco ?_ ?_ <;> intro hg <;> first | exact absurd hg (by decide) | ((try replace hg := HG.out hg); (try dsimp only at hg); (try (have _h : True := hg; clear _h hg)); first | (exfalso; omega) | skip))))
    all_goals first
      | ((refine aw_ret ?_; (repeat (first | refine ret_then ?_ | refine ret_block ?_)); refine bq1 rfl ⟨?_, rfl⟩); exact ⟨_, rfl, fun h => by simp_all; omega⟩)
      | ((refine aw_ret ?_; (repeat (first | refine ret_then ?_ | refine ret_block ?_)); refine bq1 rfl ⟨?_, rfl⟩); exact ⟨_, rfl, fun h => by simp_all; done⟩)
      | ((refine aw_ret ?_; (repeat (first | refine ret_then ?_ | refine ret_block ?_)); refine bq1 rfl ⟨?_, rfl⟩); exact ⟨_, rfl, fun h => ⟨by omega, by omega, by simp_all; omega⟩⟩)
      | trace_state
set_option maxRecDepth 20000 in
set_option maxHeartbeats 2000000 in
theorem woven_ok (p : Pat) (h0 : p.err = 0) (n : Nat) (hn : n ≤ 12) : PCalls Try.prog 15 [p.enc, vi n] (· = .tup [encRows (wovF p n), vb true]) := by
  refine pcalls_of_aw Try.func15 rfl (Nat.le_of_ble_eq_true rfl) ?_
  (repeat' (first | (refine ar_isq ?_; first | refine zmv ?_ | refine zas ?_ | (refine is_load ?_; first | refine zlp ?_ | refine zlr ?_) | (refine is_binOp ?_; first | refine zlss ?_ | refine zneq ?_ | refine zadd ?_) | refine zex ?_) | (refine zbx ?_) | (refine zb1 ?_) | (refine zb0 ?_) | (refine zapoo ?_) | (refine zapol ?_) | (refine zapno ?_) | (refine zapnl ?_) | (refine zapeo ?_) | (refine zapel ?_) | (refine ar_nil ?_) | (refine aw_seq ?_) | (refine aw_skip ?_) | (refine aw_block ?_) | (refine aw_exit ?_) | (refine aw_region ?_) | (refine zco ?_ ?_ <;> intro hg <;> first | exact absurd hg (by decide) | ((try replace hg := HG.out hg); (try dsimp only at hg); (try (have _h : True := hg; clear _h hg)); first | (exfalso; omega) | skip))))
  refine aw_for n (fun _ => True) (fun k => [(2, .ptr 6 0 0 0), (6, .sl 1 1 0 (wovF p k).length), (10, vi n), (11, vi k)]) (fun k => [.arr 6 1 (fun _ => p.enc), LB 1 encInts (wovF p k)]) trivial ?_ ?_
  · (refine sub_to [some 0, none] [] rfl ?_ ?_ <;> (repeat' (first | exact trivial | refine ⟨⟨_, rfl, ?_⟩, ?_⟩ | refine ⟨bsub_snoc rfl rfl (fun _ => rfl) ?_, ?_⟩ | refine ⟨bsub_one rfl rfl ?_, ?_⟩ | refine ⟨bsub_all rfl rfl (fun _ _ => rfl) (fun _ => rfl), ?_⟩ | refine ⟨bsub_updL rfl rfl ?_ (fun _ _ _ => rfl) (fun _ => rfl), ?_⟩ | refine ⟨.inl ⟨_, _, rfl, rfl, ?_⟩, ?_⟩ | exact ⟨.inr ⟨rfl, rfl⟩, trivial⟩ | refine ⟨.inr ⟨rfl, rfl⟩, ?_⟩ | (intro _ _) | exact vz1 | exact vz2 | fail)))
  intro k hk _
  have hl := wov_len p k
  by_cases hlt : k < n
  · have he : p.cutE k = 0 := by unfold Pat.cutE; rw [if_pos h0, if_pos (withinB_iff.2 (by omega))]
    have hc := cut_p p k
    rw [he, if_pos rfl] at hc
    (repeat' (first | (refine ar_isq ?_; first | refine zmv ?_ | refine zas ?_ | (refine is_load ?_; first | refine zlp ?_ | refine zlr ?_) | (refine is_binOp ?_; first | refine zlss ?_ | refine zneq ?_ | refine zadd ?_) | refine zex ?_) | (refine ar_pcall (own := false) fn8 rfl rfl (.cons (.closed rfl) (.cons (.closed rfl) .nil)) (hc) (by simp) (dc rfl) ?_; intro _ hv; subst hv) | (refine zbx ?_) | (refine zb1 ?_) | (refine zb0 ?_) | (refine zapoo ?_) | (refine zapol ?_) | (refine zapno ?_) | (refine zapnl ?_) | (refine zapeo ?_) | (refine zapel ?_) | (refine ar_nil ?_) | (refine aw_seq ?_) | (refine aw_skip ?_) | (refine aw_block ?_) | (refine aw_exit ?_) | (refine aw_region ?_) | (refine zco ?_ ?_ <;> intro hg <;> first | exact absurd hg (by decide) | ((try replace hg := HG.out hg); (try dsimp only at hg); (try (have _h : True := hg; clear _h hg)); first | (exfalso; omega) | skip))))
    all_goals first
      | (exfalso; omega)
      | (rw [wov_succ]; ((first | refine loop_next (by omega) ?_ ?_ | refine (show _ ∧ _ ∧ SubOf _ _ _ _ _ _ from And.intro (by omega) (And.intro ?_ ?_))); (focus ((trivial); done)); (focus ((refine sub_to [some 0, some 3] [] rfl ?_ ?_ <;> (repeat' (first | exact trivial | refine ⟨⟨_, rfl, ?_⟩, ?_⟩ | refine ⟨bsub_snoc rfl rfl (fun _ => rfl) ?_, ?_⟩ | refine ⟨bsub_one rfl rfl ?_, ?_⟩ | refine ⟨bsub_all rfl rfl (fun _ _ => rfl) (fun _ => rfl), ?_⟩ | refine ⟨bsub_updL rfl rfl ?_ (fun _ _ _ => rfl) (fun _ => rfl), ?_⟩ | refine ⟨.inl ⟨_, _, rfl, rfl, ?_⟩, ?_⟩ | exact ⟨.inr ⟨rfl, rfl⟩, trivial⟩ | refine ⟨.inr ⟨rfl, rfl⟩, ?_⟩ | (intro _ _) | exact vz1 | exact vz2 | fail))); done))))
      | trace_state
  · obtain rfl : k = n := by omega
    (repeat' (first | (refine ar_isq ?_; first | refine zmv ?_ | refine zas ?_ | (refine is_load ?_; first | refine zlp ?_ | refine zlr ?_) | (refine is_binOp ?_; first | refine zlss ?_ | refine zneq ?_ | refine zadd ?_) | refine zex ?_) | (refine zbx ?_) | (refine zb1 ?_) | (refine zb0 ?_) | (refine zapoo ?_) | (refine zapol ?_) | (refine zapno ?_) | (refine zapnl ?_) | (refine zapeo ?_) | (refine zapel ?_) | (refine ar_nil ?_) | (refine aw_seq ?_) | (refine aw_skip ?_) | (refine aw_block ?_) | (refine aw_exit ?_) | (refine aw_region ?_) | (refine zco ?_ ?_ <;> intro hg <;> first | exact absurd hg (by decide) | ((try replace hg := HG.out hg); (try dsimp only at hg); (try (have _h : True := hg; clear _h hg)); first | (exfalso; omega) | skip))))
    all_goals first
      | (exfalso; omega)
      | ((refine aw_mono_r (env' := [(4, encRows (wovF p k)), (5, vb true)]) (H' := []) ?_ ?_; (focus ((refine sub_to [] [1] rfl ?_ ?_ <;> (repeat' (first | exact trivial | refine ⟨⟨_, rfl, ?_⟩, ?_⟩ | refine ⟨bsub_snoc rfl rfl (fun _ => rfl) ?_, ?_⟩ | refine ⟨bsub_one rfl rfl ?_, ?_⟩ | refine ⟨bsub_all rfl rfl (fun _ _ => rfl) (fun _ => rfl), ?_⟩ | refine ⟨bsub_updL rfl rfl ?_ (fun _ _ _ => rfl) (fun _ => rfl), ?_⟩ | refine ⟨.inl ⟨_, _, rfl, rfl, ?_⟩, ?_⟩ | exact ⟨.inr ⟨rfl, rfl⟩, trivial⟩ | refine ⟨.inr ⟨rfl, rfl⟩, ?_⟩ | (intro _ _) | exact vz1 | exact vz2 | fail))); done))); (refine aw_ret ?_; (repeat (first | refine ret_then ?_ | refine ret_block ?_)); refine bq2 rfl rfl ⟨?_, rfl⟩); rfl)
      | trace_state
set_option maxRecDepth 20000 in
set_option maxHeartbeats 2000000 in
theorem woven_bad (p : Pat) (h0 : p.err ≠ 0) (n : Int) (hn : 1 ≤ n ∧ n ≤ 12) : PCalls Try.prog 15 [p.enc, vi n] (· = .tup [encRows [], vb false]) := by
  have he : p.cutE 0 = p.err := if_neg h0
  have hc := cut_p p 0
  rw [he, if_neg h0] at hc
  refine pcalls_of_aw Try.func15 rfl (Nat.le_of_ble_eq_true rfl) ?_
  (repeat' (first | (refine ar_isq ?_; first | refine zmv ?_ | refine zas ?_ | (refine is_load ?_; first | refine zlp ?_ | refine zlr ?_) | (refine is_binOp ?_; first | refine zlss ?_ | refine zneq ?_ | refine zadd ?_) | refine zex ?_) | (refine zbx ?_) | (refine zb1 ?_) | (refine zb0 ?_) | (refine zapoo ?_) | (refine zapol ?_) | (refine zapno ?_) | (refine zapnl ?_) | (refine zapeo ?_) | (refine zapel ?_) | (refine ar_nil ?_) | (refine aw_seq ?_) | (refine aw_skip ?_) | (refine aw_block ?_) | (refine aw_exit ?_) | (refine aw_region ?_) | (refine zco ?_ ?_ <;> intro hg <;> first | exact absurd hg (by decide) | ((try replace hg := HG.out hg); (try dsimp only at hg); (try (have _h : True := hg; clear _h hg)); first | (exfalso; omega) | skip))))
  refine aw_for 0 (fun _ => True) (fun k => [(2, .ptr 6 0 0 0), (6, vnil), (10, vi n), (11, vi k)]) (fun k => [.arr 6 1 (fun _ => p.enc)]) trivial ?_ ?_
  · (refine sub_to [some 0] [] rfl ?_ ?_ <;> (repeat' (first | exact trivial | refine ⟨⟨_, rfl, ?_⟩, ?_⟩ | refine ⟨bsub_snoc rfl rfl (fun _ => rfl) ?_, ?_⟩ | refine ⟨bsub_one rfl rfl ?_, ?_⟩ | refine ⟨bsub_all rfl rfl (fun _ _ => rfl) (fun _ => rfl), ?_⟩ | refine ⟨bsub_updL rfl rfl ?_ (fun _ _ _ => rfl) (fun _ => rfl), ?_⟩ | refine ⟨.inl ⟨_, _, rfl, rfl, ?_⟩, ?_⟩ | exact ⟨.inr ⟨rfl, rfl⟩, trivial⟩ | refine ⟨.inr ⟨rfl, rfl⟩, ?_⟩ | (intro _ _) | exact vz1 | exact vz2 | fail)))
  intro k hk _
  obtain rfl : k = 0 := by omega
  (repeat' (first | (refine ar_isq ?_; first | refine zmv ?_ | refine zas ?_ | (refine is_load ?_; first | refine zlp ?_ | refine zlr ?_) | (refine is_binOp ?_; first | refine zlss ?_ | refine zneq ?_ | refine zadd ?_) | refine zex ?_) | (refine ar_pcall (own := false) fn8 rfl rfl (.cons (.closed rfl) (.cons (.closed rfl) .nil)) (hc) (by simp) (dc rfl) ?_; intro _ hv; subst hv) | (refine zbx ?_) | (refine zb1 ?_) | (refine zb0 ?_) | (refine zapoo ?_) | (refine zapol ?_) | (refine zapno ?_) | (refine zapnl ?_) | (refine zapeo ?_) | (refine zapel ?_) | (refine ar_nil ?_) | (refine aw_seq ?_) | (refine aw_skip ?_) | (refine aw_block ?_) | (refine aw_exit ?_) | (refine aw_region ?_) | (refine zco ?_ ?_ <;> intro hg <;> first | exact absurd hg (by decide) | ((try replace hg := HG.out hg); (try dsimp only at hg); (try (have _h : True := hg; clear _h hg)); first | (exfalso; omega) | skip))))
  all_goals first
    | (exfalso; omega)
    | ((refine aw_mono_r (env' := [(4, encRows []), (5, vb false)]) (H' := []) ?_ ?_; (focus ((refine sub_to [] [] rfl ?_ ?_ <;> (repeat' (first | exact trivial | refine ⟨⟨_, rfl, ?_⟩, ?_⟩ | refine ⟨bsub_snoc rfl rfl (fun _ => rfl) ?_, ?_⟩ | refine ⟨bsub_one rfl rfl ?_, ?_⟩ | refine ⟨bsub_all rfl rfl (fun _ _ => rfl) (fun _ => rfl), ?_⟩ | refine ⟨bsub_updL rfl rfl ?_ (fun _ _ _ => rfl) (fun _ => rfl), ?_⟩ | refine ⟨.inl ⟨_, _, rfl, rfl, ?_⟩, ?_⟩ | exact ⟨.inr ⟨rfl, rfl⟩, trivial⟩ | refine ⟨.inr ⟨rfl, rfl⟩, ?_⟩ | (intro _ _) | exact vz1 | exact vz2 | fail))); done))); (refine aw_ret ?_; (repeat (first | refine ret_then ?_ | refine ret_block ?_)); refine bq2 rfl rfl ⟨?_, rfl⟩); rfl)
    | trace_state
def pSmall : Pat := ⟨[0, 1, 0], [0], 1, 2, 4, [1]⟩
set_option maxHeartbeats 1000000 in
theorem small_p : PCalls Try.prog 35 [] (· = pSmall.enc) := by
  refine pcalls_of_aw Try.func35 rfl (Nat.le_of_ble_eq_true rfl) ?_
  (repeat' (first | (refine ar_isq ?_; first | (refine ar_buildT ?_ (by exact ty rfl) (by exact rfl) (by exact sizes rfl) (by exact rfl) (by exact rfl) (by exact build rfl) (by exact dc rfl); intro _ hds; (try dsimp only [List.toList_toArray, cells_s, cells_emp, cells_agg, cells_list, cells_sl, cells_ptr, cells_ref, cells_fn, cells_vi, cells_vb, cells_vnil, constV, List.map_cons, List.map_nil, List.take_succ_cons, List.take_zero, List.drop_succ_cons, List.drop_zero, List.cons_append, List.nil_append, List.append_nil, LV_cells] at hds); (try dsimp only [cells_s, cells_emp, cells_agg, cells_list, cells_sl, cells_ptr, cells_ref, cells_fn, cells_vi, cells_vb, cells_vnil, constV, List.map_cons, List.map_nil, List.take_succ_cons, List.take_zero, List.drop_succ_cons, List.drop_zero, List.cons_append, List.nil_append, List.append_nil, LV_cells] at hds); subst hds)) | (refine ar_buildLE vi ([0, 1, 0]) (by exact ty rfl) (by exact rfl) (by exact ty rfl) (by exact rfl) (by exact rfl) (by exact Nat.succ_pos _) (by exact rfl) (by exact dc rfl) (by exact rfl) (by exact fun _ => ⟨rfl, rfl⟩) (by exact dc rfl) ?_) | (((refine ar_subk_l (sub_frzL (t := 1) vi ([0, 1, 0]) rfl rfl rfl rfl (fun _ _ => rfl) (fun _ => rfl)) ?_); refine ar_buildLE vi ([0]) (by exact ty rfl) (by exact rfl) (by exact ty rfl) (by exact rfl) (by exact rfl) (by exact Nat.succ_pos _) (by exact rfl) (by exact dc rfl) (by exact rfl) (by exact fun _ => ⟨rfl, rfl⟩) (by exact dc rfl) ?_)) | (((refine ar_subk_l (sub_frzL (t := 2) vi ([0]) rfl rfl rfl rfl (fun _ _ => rfl) (fun _ => rfl)) ?_); refine ar_buildLE vi ([1]) (by exact ty rfl) (by exact rfl) (by exact ty rfl) (by exact rfl) (by exact rfl) (by exact Nat.succ_pos _) (by exact rfl) (by exact dc rfl) (by exact rfl) (by exact fun _ => ⟨rfl, rfl⟩) (by exact dc rfl) ?_)) | (refine zal ?_) | (refine zb1 ?_) | (refine zb0 ?_) | (refine zsvs ?_) | (refine zsva ?_) | (refine zses ?_) | (refine zsea ?_) | (refine ar_nil ?_) | (refine aw_seq ?_) | (refine aw_skip ?_) | (refine aw_block ?_) | (refine aw_exit ?_) | (refine aw_region ?_) | (refine zco ?_ ?_ <;> intro hg <;> first | exact absurd hg (by decide) | ((try replace hg := HG.out hg); (try dsimp only at hg); (try (have _h : True := hg; clear _h hg)); first | (exfalso; omega) | skip))))
  (refine aw_mono_r (env' := [(0, .ptr 6 0 0 0)]) (H' := [.arr 6 1 (fun _ => pSmall.enc)]) ?_ ?_; (focus ((refine sub_to [some 0] [3] rfl ?_ ?_ <;> (repeat' (first | exact trivial | refine ⟨⟨_, rfl, ?_⟩, ?_⟩ | refine ⟨bsub_snoc rfl rfl (fun _ => rfl) ?_, ?_⟩ | refine ⟨bsub_one rfl rfl ?_, ?_⟩ | refine ⟨bsub_all rfl rfl (fun _ _ => rfl) (fun _ => rfl), ?_⟩ | refine ⟨bsub_updL rfl rfl ?_ (fun _ _ _ => rfl) (fun _ => rfl), ?_⟩ | refine ⟨.inl ⟨_, _, rfl, rfl, ?_⟩, ?_⟩ | exact ⟨.inr ⟨rfl, rfl⟩, trivial⟩ | refine ⟨.inr ⟨rfl, rfl⟩, ?_⟩ | (intro _ _) | exact vz1 | (exact VSub.aggL ⟨.closed rfl, .closed rfl, .closed rfl, .closed rfl, .closed rfl, frzLB (by simp; done) rfl (fun _ => rfl) rfl, trivial⟩) | exact vz2 | fail))); done)))
  refine aw_ret ?_
  (repeat (first | refine ret_then ?_ | refine ret_block ?_))
  exact bq1c (f := fun _ => pSmall.enc) (v := pSmall.enc) (ty rfl) rfl rfl Nat.one_pos rfl ⟨rfl, rfl⟩
def shSmall : Sheet := ⟨3, 20, 1, 1, 2⟩
theorem small_err : pSmall.err = 0 := by decide +kernel
theorem small_gap : pSmall.gap = 2 := by decide +kernel
theorem small_per : pSmall.per = 3 := by decide +kernel
theorem small_mot : pSmall.mot = 1 := mot_of (by decide) ⟨by decide, by decide, fun i h1 h2 => by simp [pSmall] at h2; omega⟩ fun t ht h => by have := h.1; omega
theorem small_turn : pSmall.turn = 1 := by
  unfold Pat.turn
  rw [small_mot, small_per]
  decide +kernel
theorem small_closes : pSmall.closes = 3 := by
  unfold Pat.closes
  rw [small_mot, small_turn, small_per]
  decide
theorem small_check : checkErr shSmall (wovF pSmall 4) = 0 := by decide +kernel
theorem small_gapE : gapErr shSmall (wovF pSmall 4) = 0 := by decide +kernel
theorem small_gapF : gapF shSmall (wovF pSmall 4) = 1 := by decide +kernel
end Go.Proofs.Ytloaefllpokkaaa
namespace Go.Proofs.Ytloaefllpokkaaa
open Go.RowKit
theorem from1_p (lo hi x : Int) : PCalls Try.prog 40 [vi lo, vi hi, encInts [x]] (· = vb (withinB x lo hi)) := (from_p lo hi [x]).mono fun v hv => by rw [hv]; simp [fromB]
end Go.Proofs.Ytloaefllpokkaaa
namespace Go.Proofs.Ytloaefllpokkaaa
open Go.RowKit
theorem gapErr_check {s : Sheet} {b : List (List Int)} (h : checkErr s b ≠ 0) : gapErr s b = checkErr s b := by simp [gapErr, h]
theorem gapErr_few {s : Sheet} {b : List (List Int)} (h : checkErr s b = 0) (h2 : b.length < 2) : gapErr s b = 6 := by simp [gapErr, h, h2]
theorem gapErr_ok {s : Sheet} {b : List (List Int)} (h : checkErr s b = 0) (h2 : ¬ b.length < 2) : gapErr s b = 0 := by simp [gapErr, h, h2]
theorem gapF_bad {s : Sheet} {b : List (List Int)} (h : gapErr s b ≠ 0) : gapF s b = 0 := by simp [gapF, h]
theorem gapF_ok {s : Sheet} {b : List (List Int)} (h : gapErr s b = 0) : gapF s b = gapTo s b (b.length - 1) := by simp [gapF, h]
def encGap (s : Sheet) (b : List (List Int)) : V := .tup [vi (gapF s b), vi (gapErr s b)]
theorem gap_next {s : Sheet} {b : List (List Int)} {k c : Nat} {x y z : Int} (hx : x = gapRow s b k (gapTo s b k) c) (hy : y = el (el b (k + 1)) c) (hz : z = el (el b k) c) : min x (y - z - s.weight) = gapRow s b k (gapTo s b k) (c + 1) := by
  subst hx hy hz
  rw [gapRow_succ, gapAt]
set_option maxHeartbeats 2000000 in
theorem lGap_p (s : Sheet) (b : List (List Int)) : PCalls Try.prog 19 [s.enc, encRows b] (· = encGap s b) := by
  by_cases hce : checkErr s b = 0
  · by_cases h2 : b.length < 2
    · have he := gapErr_few hce h2
      rw [encGap, gapF_bad (by omega), he]
      refine pcalls_of_aw Try.func19 rfl (Nat.le_of_ble_eq_true rfl) ?_
      (repeat' (first | (refine ar_isq ?_; first | refine zmv ?_ | refine zas ?_ | (refine is_load ?_; first | refine zlp ?_ | refine zlr ?_) | (refine is_binOp ?_; first | refine zlss ?_ | refine zneq ?_ | refine zadd ?_ | refine zsub ?_) | (refine is_fieldAddr ?_; first | refine zfp ?_ | refine zfr ?_) | (refine is_indexAddr ?_; first | refine zil ?_ | refine zis ?_ | refine zit ?_ | refine zia ?_ | refine zir ?_ | (refine zxl ?_; intro _ _ _) | (refine zxs ?_; intro _ _ _)) | (refine is_call ?_; first | refine zll ?_ | refine zls ?_ | refine zln ?_ | refine zle ?_ | refine zmin ?_)) | (refine ar_pcall (own := false) fn18 rfl rfl (.cons (.closed rfl) (.cons (.closed rfl) .nil)) (check_p s b) (by simp) (dc rfl) ?_; intro _ hv; subst hv) | (refine zcl ?_) | (refine zcs ?_) | (refine zbx ?_) | (refine ar_nil ?_) | (refine aw_seq ?_) | (refine aw_skip ?_) | (refine aw_block ?_) | (refine aw_exit ?_) | (refine aw_region ?_) | (refine aw_drawn (id := 13) [(0, 0), (1, 0), (2, 0), (3, 0), (4, 0), (5, 0), (6, 0), (7, 0), (8, 0), (9, 0), (10, 0), (11, 0), (12, 0), (13, 0), (14, 0)] mixed (by kernel_rfl) ?_) | (refine zco ?_ ?_ <;> intro hg <;> first | exact absurd hg (by decide) | ((try replace hg := HG.out hg); (try dsimp only at hg); (try (have _h : True := hg; clear _h hg)); first | (exfalso; omega) | skip))))
      all_goals first
        | (exfalso; omega)
        | ((refine aw_ret ?_; (repeat (first | refine ret_then ?_ | refine ret_block ?_)); refine bq2 rfl rfl ⟨?_, rfl⟩); rfl)
    · have he := gapErr_ok hce h2
      rw [encGap, gapF_ok he, he]
      obtain ⟨hs, h12, hl⟩ := band_of_check hce
      have hbd := Sheet.bounds hs
      refine pcalls_of_aw Try.func19 rfl (Nat.le_of_ble_eq_true rfl) ?_
      (repeat' (first | (refine ar_isq ?_; first | refine zmv ?_ | refine zas ?_ | (refine is_load ?_; first | refine zlp ?_ | refine zlr ?_) | (refine is_binOp ?_; first | refine zlss ?_ | refine zneq ?_ | refine zadd ?_ | refine zsub ?_) | (refine is_fieldAddr ?_; first | refine zfp ?_ | refine zfr ?_) | (refine is_indexAddr ?_; first | refine zil ?_ | refine zis ?_ | refine zit ?_ | refine zia ?_ | refine zir ?_ | (refine zxl ?_; intro _ _ _) | (refine zxs ?_; intro _ _ _)) | (refine is_call ?_; first | refine zll ?_ | refine zls ?_ | refine zln ?_ | refine zle ?_ | refine zmin ?_)) | (refine ar_pcall (own := false) fn18 rfl rfl (.cons (.closed rfl) (.cons (.closed rfl) .nil)) (check_p s b) (by simp) (dc rfl) ?_; intro _ hv; subst hv) | (refine zcl (a := 1) (b := b.length) ?_) | (refine zcs (a := 1) (b := b.length) ?_) | (refine zbx ?_) | (refine ar_nil ?_) | (refine aw_seq ?_) | (refine aw_skip ?_) | (refine aw_block ?_) | (refine aw_exit ?_) | (refine aw_region ?_) | (refine aw_drawn (id := 13) [(0, 0), (1, 0), (2, 0), (3, 0), (4, 0), (5, 0), (6, 0), (7, 0), (8, 0), (9, 0), (10, 0), (11, 0), (12, 0), (13, 0), (14, 0)] mixed (by kernel_rfl) ?_) | (refine zco ?_ ?_ <;> intro hg <;> first | exact absurd hg (by decide) | ((try replace hg := HG.out hg); (try dsimp only at hg); (try (have _h : True := hg; clear _h hg)); first | (exfalso; omega) | skip))))
      all_goals (try (exfalso; omega))
      refine aw_for (b.length - 1) (fun _ => True) (fun k => [(1, encRows b), (2, .ptr 5 0 0 0), (7, vi (gapTo s b k)), (24, .list 1 (b.length - 1) (fun j => encInts (el b (1 + j)))), (25, vi ((b.length - 1 : Nat) : Int)), (26, vi k)]) (fun _ => [.arr 5 1 (fun _ => s.enc)]) trivial ?_ ?_
      · (refine sub_to [some 0] [] rfl ?_ ?_ <;> (repeat' (first | exact trivial | refine ⟨⟨_, rfl, ?_⟩, ?_⟩ | refine ⟨bsub_snoc rfl rfl (fun _ => rfl) ?_, ?_⟩ | refine ⟨bsub_one rfl rfl ?_, ?_⟩ | refine ⟨bsub_all rfl rfl (fun _ _ => rfl) (fun _ => rfl), ?_⟩ | refine ⟨bsub_updL rfl rfl ?_ (fun _ _ _ => rfl) (fun _ => rfl), ?_⟩ | refine ⟨.inl ⟨_, _, rfl, rfl, ?_⟩, ?_⟩ | exact ⟨.inr ⟨rfl, rfl⟩, trivial⟩ | refine ⟨.inr ⟨rfl, rfl⟩, ?_⟩ | (intro _ _) | exact vz1 | exact vz2 | fail)))
      intro k hk _
      by_cases hlt : k < b.length - 1
      · have e1 : 1 + k = k + 1 := Nat.add_comm _ _
        have ha1 := of_all_el hl (k := 1 + k) (by omega)
        have ha0 := of_all_el hl (k := k) (by omega)
        have hn1 := isLine_len ha1
        have hn0 := isLine_len ha0
        (repeat' (first | (refine ar_isq ?_; first | refine zmv ?_ | refine zas ?_ | (refine is_load ?_; first | refine zlp ?_ | refine zlr ?_) | (refine is_binOp ?_; first | refine zlss ?_ | refine zneq ?_ | refine zadd ?_ | refine zsub ?_) | (refine is_fieldAddr ?_; first | refine zfp ?_ | refine zfr ?_) | (refine is_indexAddr ?_; first | refine zil ?_ | refine zis ?_ | refine zit ?_ | refine zia ?_ | refine zir ?_ | refine zil (j := k) ?_ | refine zis (j := k) ?_ | refine zit (j := k) ?_ | (refine zxl ?_; intro _ _ _) | (refine zxs ?_; intro _ _ _)) | (refine is_call ?_; first | refine zll ?_ | refine zls ?_ | refine zln ?_ | refine zle ?_ | refine zmin ?_)) | (refine zcl ?_) | (refine zcs ?_) | (refine zbx ?_) | (refine ar_nil ?_) | (refine aw_seq ?_) | (refine aw_skip ?_) | (refine aw_block ?_) | (refine aw_exit ?_) | (refine aw_region ?_) | (refine aw_drawn (id := 13) [(0, 0), (1, 0), (2, 0), (3, 0), (4, 0), (5, 0), (6, 0), (7, 0), (8, 0), (9, 0), (10, 0), (11, 0), (12, 0), (13, 0), (14, 0)] mixed (by kernel_rfl) ?_) | (refine zco ?_ ?_ <;> intro hg <;> first | exact absurd hg (by decide) | ((try replace hg := HG.out hg); (try dsimp only at hg); (try (have _h : True := hg; clear _h hg)); first | (exfalso; omega) | skip))))
        all_goals (try (exfalso; omega))
        refine aw_for (el b (1 + k)).length (fun _ => True) (fun c => [(1, encRows b), (2, .ptr 5 0 0 0), (7, vi (gapRow s b k (gapTo s b k) c)), (8, vi k), (24, .list 1 (b.length - 1) (fun j => encInts (el b (1 + j)))), (25, vi ((b.length - 1 : Nat) : Int)), (26, vi k), (31, encInts (el b (1 + k))), (32, vi (el b (1 + k)).length), (33, vi c)]) (fun _ => [.arr 5 1 (fun _ => s.enc)]) trivial ?_ ?_
        · (refine sub_to [some 0] [] rfl ?_ ?_ <;> (repeat' (first | exact trivial | refine ⟨⟨_, rfl, ?_⟩, ?_⟩ | refine ⟨bsub_snoc rfl rfl (fun _ => rfl) ?_, ?_⟩ | refine ⟨bsub_one rfl rfl ?_, ?_⟩ | refine ⟨bsub_all rfl rfl (fun _ _ => rfl) (fun _ => rfl), ?_⟩ | refine ⟨bsub_updL rfl rfl ?_ (fun _ _ _ => rfl) (fun _ => rfl), ?_⟩ | refine ⟨.inl ⟨_, _, rfl, rfl, ?_⟩, ?_⟩ | exact ⟨.inr ⟨rfl, rfl⟩, trivial⟩ | refine ⟨.inr ⟨rfl, rfl⟩, ?_⟩ | (intro _ _) | exact vz1 | exact vz2 | fail)))
        intro c hc _
        by_cases hltc : c < (el b (1 + k)).length
        · have hv1 := isLine_at ha1 (j := c) (by omega)
          have hv0 := isLine_at ha0 (j := c) (by omega)
          (repeat' (first | (refine ar_isq ?_; first | refine zmv ?_ | refine zas ?_ | (refine is_load ?_; first | refine zlp ?_ | refine zlr ?_) | (refine is_binOp ?_; first | refine zlss ?_ | refine zneq ?_ | refine zadd ?_ | refine zsub ?_) | (refine is_fieldAddr ?_; first | refine zfp ?_ | refine zfr ?_) | (refine is_indexAddr ?_; first | refine zil ?_ | refine zis ?_ | refine zit ?_ | refine zia ?_ | refine zir ?_ | refine zil (j := c) ?_ | refine zis (j := c) ?_ | refine zit (j := c) ?_ | refine zil (j := k) ?_ | refine zis (j := k) ?_ | refine zit (j := k) ?_ | (refine zxl ?_; intro _ _ _) | (refine zxs ?_; intro _ _ _)) | (refine is_call ?_; first | refine zll ?_ | refine zls ?_ | refine zln ?_ | refine zle ?_ | refine zmin ?_)) | (refine zcl ?_) | (refine zcs ?_) | (refine zbx ?_) | (refine ar_nil ?_) | (refine aw_seq ?_) | (refine aw_skip ?_) | (refine aw_block ?_) | (refine aw_exit ?_) | (refine aw_region ?_) | (refine aw_drawn (id := 13) [(0, 0), (1, 0), (2, 0), (3, 0), (4, 0), (5, 0), (6, 0), (7, 0), (8, 0), (9, 0), (10, 0), (11, 0), (12, 0), (13, 0), (14, 0)] mixed (by kernel_rfl) ?_) | (refine zco ?_ ?_ <;> intro hg <;> first | exact absurd hg (by decide) | ((try replace hg := HG.out hg); (try dsimp only at hg); (try (have _h : True := hg; clear _h hg)); first | (exfalso; omega) | skip))))
          all_goals first
            | (exfalso; omega)
            | ((first | refine loop_next (by omega) ?_ ?_ | refine (show _ ∧ _ ∧ SubOf _ _ _ _ _ _ from And.intro (by omega) (And.intro ?_ ?_))); (focus ((trivial); done)); (focus ((refine sub_to [some 0] [] rfl ?_ ?_ <;> (repeat' (first | exact trivial | refine ⟨⟨_, rfl, ?_⟩, ?_⟩ | refine ⟨bsub_snoc rfl rfl (fun _ => rfl) ?_, ?_⟩ | refine ⟨bsub_one rfl rfl ?_, ?_⟩ | refine ⟨bsub_all rfl rfl (fun _ _ => rfl) (fun _ => rfl), ?_⟩ | refine ⟨bsub_updL rfl rfl ?_ (fun _ _ _ => rfl) (fun _ => rfl), ?_⟩ | refine ⟨.inl ⟨_, _, rfl, rfl, ?_⟩, ?_⟩ | exact ⟨.inr ⟨rfl, rfl⟩, trivial⟩ | refine ⟨.inr ⟨rfl, rfl⟩, ?_⟩ | (intro _ _) | exact vz1 | (exact siEq (gap_next rfl (by rw [e1]) rfl)) | exact vz2 | fail))); done)))
        · (repeat' (first | (refine ar_isq ?_; first | refine zmv ?_ | refine zas ?_ | (refine is_load ?_; first | refine zlp ?_ | refine zlr ?_) | (refine is_binOp ?_; first | refine zlss ?_ | refine zneq ?_ | refine zadd ?_ | refine zsub ?_) | (refine is_fieldAddr ?_; first | refine zfp ?_ | refine zfr ?_) | (refine is_indexAddr ?_; first | refine zil ?_ | refine zis ?_ | refine zit ?_ | refine zia ?_ | refine zir ?_ | (refine zxl ?_; intro _ _ _) | (refine zxs ?_; intro _ _ _)) | (refine is_call ?_; first | refine zll ?_ | refine zls ?_ | refine zln ?_ | refine zle ?_ | refine zmin ?_)) | (refine zcl ?_) | (refine zcs ?_) | (refine zbx ?_) | (refine ar_nil ?_) | (refine aw_seq ?_) | (refine aw_skip ?_) | (refine aw_block ?_) | (refine aw_exit ?_) | (refine aw_region ?_) | (refine aw_drawn (id := 13) [(0, 0), (1, 0), (2, 0), (3, 0), (4, 0), (5, 0), (6, 0), (7, 0), (8, 0), (9, 0), (10, 0), (11, 0), (12, 0), (13, 0), (14, 0)] mixed (by kernel_rfl) ?_) | (refine zco ?_ ?_ <;> intro hg <;> first | exact absurd hg (by decide) | ((try replace hg := HG.out hg); (try dsimp only at hg); (try (have _h : True := hg; clear _h hg)); first | (exfalso; omega) | skip))))
          all_goals first
            | (exfalso; omega)
            | (rw [gapTo_succ, show s.cols.toNat = c by omega]; ((first | refine loop_next (by omega) ?_ ?_ | refine (show _ ∧ _ ∧ SubOf _ _ _ _ _ _ from And.intro (by omega) (And.intro ?_ ?_))); (focus ((trivial); done)); (focus ((refine sub_to [some 0] [] rfl ?_ ?_ <;> (repeat' (first | exact trivial | refine ⟨⟨_, rfl, ?_⟩, ?_⟩ | refine ⟨bsub_snoc rfl rfl (fun _ => rfl) ?_, ?_⟩ | refine ⟨bsub_one rfl rfl ?_, ?_⟩ | refine ⟨bsub_all rfl rfl (fun _ _ => rfl) (fun _ => rfl), ?_⟩ | refine ⟨bsub_updL rfl rfl ?_ (fun _ _ _ => rfl) (fun _ => rfl), ?_⟩ | refine ⟨.inl ⟨_, _, rfl, rfl, ?_⟩, ?_⟩ | exact ⟨.inr ⟨rfl, rfl⟩, trivial⟩ | refine ⟨.inr ⟨rfl, rfl⟩, ?_⟩ | (intro _ _) | exact vz1 | exact vz2 | fail))); done))))
      · (repeat' (first | (refine ar_isq ?_; first | refine zmv ?_ | refine zas ?_ | (refine is_load ?_; first | refine zlp ?_ | refine zlr ?_) | (refine is_binOp ?_; first | refine zlss ?_ | refine zneq ?_ | refine zadd ?_ | refine zsub ?_) | (refine is_fieldAddr ?_; first | refine zfp ?_ | refine zfr ?_) | (refine is_indexAddr ?_; first | refine zil ?_ | refine zis ?_ | refine zit ?_ | refine zia ?_ | refine zir ?_ | (refine zxl ?_; intro _ _ _) | (refine zxs ?_; intro _ _ _)) | (refine is_call ?_; first | refine zll ?_ | refine zls ?_ | refine zln ?_ | refine zle ?_ | refine zmin ?_)) | (refine zcl ?_) | (refine zcs ?_) | (refine zbx ?_) | (refine ar_nil ?_) | (refine aw_seq ?_) | (refine aw_skip ?_) | (refine aw_block ?_) | (refine aw_exit ?_) | (refine aw_region ?_) | (refine aw_drawn (id := 13) [(0, 0), (1, 0), (2, 0), (3, 0), (4, 0), (5, 0), (6, 0), (7, 0), (8, 0), (9, 0), (10, 0), (11, 0), (12, 0), (13, 0), (14, 0)] mixed (by kernel_rfl) ?_) | (refine zco ?_ ?_ <;> intro hg <;> first | exact absurd hg (by decide) | ((try replace hg := HG.out hg); (try dsimp only at hg); (try (have _h : True := hg; clear _h hg)); first | (exfalso; omega) | skip))))
        all_goals first
          | (exfalso; omega)
          | ((refine aw_mono_r (env' := [(4, vi (gapTo s b k)), (5, vi 0)]) (H' := []) ?_ ?_; (focus ((refine sub_to [] [] rfl ?_ ?_ <;> (repeat' (first | exact trivial | refine ⟨⟨_, rfl, ?_⟩, ?_⟩ | refine ⟨bsub_snoc rfl rfl (fun _ => rfl) ?_, ?_⟩ | refine ⟨bsub_one rfl rfl ?_, ?_⟩ | refine ⟨bsub_all rfl rfl (fun _ _ => rfl) (fun _ => rfl), ?_⟩ | refine ⟨bsub_updL rfl rfl ?_ (fun _ _ _ => rfl) (fun _ => rfl), ?_⟩ | refine ⟨.inl ⟨_, _, rfl, rfl, ?_⟩, ?_⟩ | exact ⟨.inr ⟨rfl, rfl⟩, trivial⟩ | refine ⟨.inr ⟨rfl, rfl⟩, ?_⟩ | (intro _ _) | exact vz1 | exact vz2 | fail))); done))); (refine aw_ret ?_; (repeat (first | refine ret_then ?_ | refine ret_block ?_)); refine bq2 rfl rfl ⟨?_, rfl⟩); rw [show k = b.length - 1 by omega]; try rfl)
  · have he := gapErr_check hce
    rw [encGap, gapF_bad (by omega), he]
    refine pcalls_of_aw Try.func19 rfl (Nat.le_of_ble_eq_true rfl) ?_
    (repeat' (first | (refine ar_isq ?_; first | refine zmv ?_ | refine zas ?_ | (refine is_load ?_; first | refine zlp ?_ | refine zlr ?_) | (refine is_binOp ?_; first | refine zlss ?_ | refine zneq ?_ | refine zadd ?_ | refine zsub ?_) | (refine is_fieldAddr ?_; first | refine zfp ?_ | refine zfr ?_) | (refine is_indexAddr ?_; first | refine zil ?_ | refine zis ?_ | refine zit ?_ | refine zia ?_ | refine zir ?_ | (refine zxl ?_; intro _ _ _) | (refine zxs ?_; intro _ _ _)) | (refine is_call ?_; first | refine zll ?_ | refine zls ?_ | refine zln ?_ | refine zle ?_ | refine zmin ?_)) | (refine ar_pcall (own := false) fn18 rfl rfl (.cons (.closed rfl) (.cons (.closed rfl) .nil)) (check_p s b) (by simp) (dc rfl) ?_; intro _ hv; subst hv) | (refine zcl ?_) | (refine zcs ?_) | (refine zbx ?_) | (refine ar_nil ?_) | (refine aw_seq ?_) | (refine aw_skip ?_) | (refine aw_block ?_) | (refine aw_exit ?_) | (refine aw_region ?_) | (refine aw_drawn (id := 13) [(0, 0), (1, 0), (2, 0), (3, 0), (4, 0), (5, 0), (6, 0), (7, 0), (8, 0), (9, 0), (10, 0), (11, 0), (12, 0), (13, 0), (14, 0)] mixed (by kernel_rfl) ?_) | (refine zco ?_ ?_ <;> intro hg <;> first | exact absurd hg (by decide) | ((try replace hg := HG.out hg); (try dsimp only at hg); (try (have _h : True := hg; clear _h hg)); first | (exfalso; omega) | skip))))
    all_goals first
      | (exfalso; omega)
      | ((refine aw_ret ?_; (repeat (first | refine ret_then ?_ | refine ret_block ?_)); refine bq2 rfl rfl ⟨?_, rfl⟩); rfl)
end Go.Proofs.Ytloaefllpokkaaa
namespace Go.Proofs.Ytloaefllpokkaaa
open Go.RowKit
theorem lastErr_gap {s : Sheet} {b : List (List Int)} {per : Int} (h : gapErr s b ≠ 0) : lastErr s b per = gapErr s b := by simp [lastErr, h]
theorem lastErr_arg {s : Sheet} {b : List (List Int)} {per : Int} (h : gapErr s b = 0) (h2 : withinB per 1 1000 = false) : lastErr s b per = 2 := by simp [lastErr, h, h2]
theorem lastErr_none {s : Sheet} {b : List (List Int)} {per : Int} (h : gapErr s b = 0) (h2 : withinB per 1 1000 = true) (h3 : gapF s b = 0) : lastErr s b per = 6 := by simp [lastErr, h, h2, h3]
theorem lastErr_ok {s : Sheet} {b : List (List Int)} {per : Int} (h : gapErr s b = 0) (h2 : withinB per 1 1000 = true) (h3 : gapF s b ≠ 0) : lastErr s b per = 0 := by simp [lastErr, h, h2, h3]
theorem lastF_bad {s : Sheet} {b : List (List Int)} {per : Int} (h : lastErr s b per ≠ 0) : lastF s b per = 0 := by simp [lastF, h]
theorem lastF_ok {s : Sheet} {b : List (List Int)} {per : Int} (h : lastErr s b per = 0) : lastF s b per = (gapF s b + 1) / 2 * per - 1 := by simp [lastF, h]
def encLast (s : Sheet) (b : List (List Int)) (per : Int) : V := .tup [vi (lastF s b per), vi (lastErr s b per)]
theorem last_bnd {g p : Int} (hg : 1 ≤ g ∧ g ≤ 60) (hp : 1 ≤ p ∧ p ≤ 1000) : 1 ≤ (g + 1) / 2 * p ∧ (g + 1) / 2 * p ≤ 30000 := by
  have h1 : 1 ≤ (g + 1) / 2 ∧ (g + 1) / 2 ≤ 30 := by omega
  constructor
  · have := Int.mul_le_mul h1.1 hp.1 (by omega) (by omega)
    omega
  · have := Int.mul_le_mul h1.2 hp.2 (by omega) (by omega)
    omega
set_option maxHeartbeats 2000000 in
theorem lLasts_p (s : Sheet) (b : List (List Int)) (per : Int) : PCalls Try.prog 20 [s.enc, encRows b, vi per] (· = encLast s b per) := by
  by_cases hge : gapErr s b = 0
  · cases hp : withinB per 1 1000
    · have he := lastErr_arg hge hp
      rw [encLast, lastF_bad (by omega), he]
      refine pcalls_of_aw Try.func20 rfl (Nat.le_of_ble_eq_true rfl) ?_
      (repeat' (first | (refine ar_isq ?_; first | refine zmv ?_ | refine zas ?_ | (refine is_load ?_; first | refine zlp ?_ | refine zlr ?_) | (refine is_binOp ?_; first | refine zeql ?_ | refine zneq ?_ | refine zadd ?_ | refine zsub ?_ | refine zmul ?_ | refine zquo ?_) | refine zex ?_ | refine znt ?_) | (refine ar_pcall (own := false) fn19 rfl rfl (.cons (.closed rfl) (.cons (.closed rfl) .nil)) (lGap_p s b) (by simp) (dc rfl) ?_; intro _ hv; subst hv) | (refine ar_pcall (own := true) fn40 rfl rfl (.cons (.closed rfl) (.cons (.closed rfl) (.cons (.lent rfl rfl (by omega) (fun _ _ => rfl) (fun k hk => match k, hk with | 0, _ => rfl)) .nil))) (from1_p 1 1000 per) (by intros; subst_vars; rfl) (dc rfl) ?_; intro _ hv; subst hv) | (refine zbx ?_) | (refine zb1 ?_) | (refine zb0 ?_) | (refine ar_nil ?_) | (refine aw_seq ?_) | (refine aw_skip ?_) | (refine aw_block ?_) | (refine aw_exit ?_) | (refine aw_region ?_) | (refine zco ?_ ?_ <;> intro hg <;> first | exact absurd hg (by decide) | ((try replace hg := HG.out hg); (try dsimp only at hg); (try (have _h : True := hg; clear _h hg)); first | (exfalso; omega) | skip))))
      all_goals first
        | (exfalso; simp_all; done)
        | ((refine aw_ret ?_; (repeat (first | refine ret_then ?_ | refine ret_block ?_)); refine bq2 rfl rfl ⟨?_, rfl⟩); rfl)
    · obtain ⟨hce, h2, hg0, hg60⟩ := gap_ok hge
      have hpb := withinB_iff.1 hp
      by_cases hz : gapF s b = 0
      · have he := lastErr_none hge hp hz
        rw [encLast, lastF_bad (by omega), he]
        refine pcalls_of_aw Try.func20 rfl (Nat.le_of_ble_eq_true rfl) ?_
        (repeat' (first | (refine ar_isq ?_; first | refine zmv ?_ | refine zas ?_ | (refine is_load ?_; first | refine zlp ?_ | refine zlr ?_) | (refine is_binOp ?_; first | refine zeql ?_ | refine zneq ?_ | refine zadd ?_ | refine zsub ?_ | refine zmul ?_ | refine zquo ?_) | refine zex ?_ | refine znt ?_) | (refine ar_pcall (own := false) fn19 rfl rfl (.cons (.closed rfl) (.cons (.closed rfl) .nil)) (lGap_p s b) (by simp) (dc rfl) ?_; intro _ hv; subst hv) | (refine ar_pcall (own := true) fn40 rfl rfl (.cons (.closed rfl) (.cons (.closed rfl) (.cons (.lent rfl rfl (by omega) (fun _ _ => rfl) (fun k hk => match k, hk with | 0, _ => rfl)) .nil))) (from1_p 1 1000 per) (by intros; subst_vars; rfl) (dc rfl) ?_; intro _ hv; subst hv) | (refine zbx ?_) | (refine zb1 ?_) | (refine zb0 ?_) | (refine ar_nil ?_) | (refine aw_seq ?_) | (refine aw_skip ?_) | (refine aw_block ?_) | (refine aw_exit ?_) | (refine aw_region ?_) | (refine zco ?_ ?_ <;> intro hg <;> first | exact absurd hg (by decide) | ((try replace hg := HG.out hg); (try dsimp only at hg); (try (have _h : True := hg; clear _h hg)); first | (exfalso; omega) | skip))))
        all_goals first
          | (exfalso; simp_all; done)
          | ((refine aw_ret ?_; (repeat (first | refine ret_then ?_ | refine ret_block ?_)); refine bq2 rfl rfl ⟨?_, rfl⟩); rfl)
      · have he := lastErr_ok hge hp hz
        rw [encLast, lastF_ok he, he]
        have hlb := last_bnd (g := gapF s b) (p := per) (by omega) hpb
        refine pcalls_of_aw Try.func20 rfl (Nat.le_of_ble_eq_true rfl) ?_
        (repeat' (first | (refine ar_isq ?_; first | refine zmv ?_ | refine zas ?_ | (refine is_load ?_; first | refine zlp ?_ | refine zlr ?_) | (refine is_binOp ?_; first | refine zeql ?_ | refine zneq ?_ | refine zadd ?_ | refine zsub ?_ | refine zmul ?_ | refine zquo ?_) | refine zex ?_ | refine znt ?_) | (refine ar_pcall (own := false) fn19 rfl rfl (.cons (.closed rfl) (.cons (.closed rfl) .nil)) (lGap_p s b) (by simp) (dc rfl) ?_; intro _ hv; subst hv) | (refine ar_pcall (own := true) fn40 rfl rfl (.cons (.closed rfl) (.cons (.closed rfl) (.cons (.lent rfl rfl (by omega) (fun _ _ => rfl) (fun k hk => match k, hk with | 0, _ => rfl)) .nil))) (from1_p 1 1000 per) (by intros; subst_vars; rfl) (dc rfl) ?_; intro _ hv; subst hv) | (refine zbx ?_) | (refine zb1 ?_) | (refine zb0 ?_) | (refine ar_nil ?_) | (refine aw_seq ?_) | (refine aw_skip ?_) | (refine aw_block ?_) | (refine aw_exit ?_) | (refine aw_region ?_) | (refine zco ?_ ?_ <;> intro hg <;> first | exact absurd hg (by decide) | ((try replace hg := HG.out hg); (try dsimp only at hg); (try (have _h : True := hg; clear _h hg)); first | (exfalso; omega) | skip))))
        all_goals first
          | (exfalso; simp_all; done)
          | ((refine aw_ret ?_; (repeat (first | refine ret_then ?_ | refine ret_block ?_)); refine bq2 rfl rfl ⟨?_, rfl⟩); rfl)
  · have he := lastErr_gap (per := per) hge
    rw [encLast, lastF_bad (by omega), he]
    refine pcalls_of_aw Try.func20 rfl (Nat.le_of_ble_eq_true rfl) ?_
    (repeat' (first | (refine ar_isq ?_; first | refine zmv ?_ | refine zas ?_ | (refine is_load ?_; first | refine zlp ?_ | refine zlr ?_) | (refine is_binOp ?_; first | refine zeql ?_ | refine zneq ?_ | refine zadd ?_ | refine zsub ?_ | refine zmul ?_ | refine zquo ?_) | refine zex ?_ | refine znt ?_) | (refine ar_pcall (own := false) fn19 rfl rfl (.cons (.closed rfl) (.cons (.closed rfl) .nil)) (lGap_p s b) (by simp) (dc rfl) ?_; intro _ hv; subst hv) | (refine zbx ?_) | (refine zb1 ?_) | (refine zb0 ?_) | (refine ar_nil ?_) | (refine aw_seq ?_) | (refine aw_skip ?_) | (refine aw_block ?_) | (refine aw_exit ?_) | (refine aw_region ?_) | (refine zco ?_ ?_ <;> intro hg <;> first | exact absurd hg (by decide) | ((try replace hg := HG.out hg); (try dsimp only at hg); (try (have _h : True := hg; clear _h hg)); first | (exfalso; omega) | skip))))
    all_goals first
      | (exfalso; omega)
      | ((refine aw_ret ?_; (repeat (first | refine ret_then ?_ | refine ret_block ?_)); refine bq2 rfl rfl ⟨?_, rfl⟩); rfl)
end Go.Proofs.Ytloaefllpokkaaa
namespace Go.Proofs.Ytloaefllpokkaaa
open Go.RowKit
set_option maxRecDepth 20000 in
set_option maxHeartbeats 4000000 in
theorem alive08_p : PCalls Try.prog 14 [] (· = vb true) := by
  have hw := woven_ok pSmall small_err 4 (by decide)
  have hg := lGap_p shSmall (wovF pSmall 4)
  unfold encGap at hg
  rw [small_gapE, small_gapF] at hg
  have hck := check_p shSmall (wovF pSmall 4)
  rw [small_check] at hck
  have hpg := gap_p pSmall
  rw [if_pos small_err, small_gap, small_err] at hpg
  have hcl : PCalls Try.prog 17 [pSmall.enc] (· = .tup [vi 3, vi 0]) := (closes_p pSmall).mono fun v h => by
    obtain ⟨n, rfl, hn⟩ := h
    rw [hn small_err, small_closes, small_err]
    rfl
  generalize wovF pSmall 4 = b at *
  refine pcalls_of_aw Try.func14 rfl (Nat.le_of_ble_eq_true rfl) ?_
  (repeat' (first | (refine ar_isq ?_; first | refine zmv ?_ | refine zas ?_ | (refine is_load ?_; first | refine zlp ?_ | refine zlr ?_) | refine zeql ?_ | (refine is_pick ?_; first | refine zpt ?_ | refine zpf ?_) | refine zex ?_ | (refine ar_buildS (ds := ?ds) (by exact ty rfl) (by exact rfl) (by exact sizes rfl) (by exact rfl) (by exact rfl) (by exact build rfl) (by exact dc rfl) ?hn ?h; (case hn => (dsimp only [cells_s, cells_emp, cells_agg, cells_list, cells_sl, cells_ptr, cells_ref, cells_fn, cells_vi, cells_vb, cells_vnil, constV, List.map_cons, List.map_nil, List.take_succ_cons, List.take_zero, List.drop_succ_cons, List.drop_zero, List.cons_append, List.nil_append, List.append_nil, LV_cells]; exact rfl)))) | (refine ar_pcall (own := false) fn35 rfl rfl .nil (small_p) (by simp) (dc rfl) ?_; intro _ hv; subst hv) | (refine ar_pcall (own := false) fn15 rfl rfl (.cons (.closed rfl) (.cons (.closed rfl) .nil)) (hw) (by simp) (dc rfl) ?_; intro _ hv; subst hv) | (refine ar_pcall (own := false) fn19 rfl rfl (.cons (.closed rfl) (.cons (.closed rfl) .nil)) (hg) (by simp) (dc rfl) ?_; intro _ hv; subst hv) | (refine ar_pcall (own := false) fn17 rfl rfl (.cons (.closed rfl) .nil) (hcl) (by simp) (dc rfl) ?_; intro _ hv; subst hv) | (refine ar_pcall (own := false) fn11 rfl rfl (.cons (.closed rfl) .nil) (hpg) (by simp) (dc rfl) ?_; intro _ hv; subst hv) | (refine ar_pcall (own := false) fn18 rfl rfl (.cons (.closed rfl) (.cons (.closed rfl) .nil)) (hck) (by simp) (dc rfl) ?_; intro _ hv; subst hv) | (refine zal ?_) | (refine zsvs ?_) | (refine zsva ?_) | (refine zses ?_) | (refine zsea ?_) | (refine zg ?_ ?_ <;> intro hg <;> first | exact absurd hg (by decide) | ((try replace hg := HG.out hg); (try dsimp only at hg); (try (have _h : True := hg; clear _h hg)); first | (exfalso; omega) | skip)) | (refine zgu ?_) | (refine ar_nil ?_) | (refine aw_seq ?_) | (refine aw_skip ?_) | (refine aw_block ?_) | (refine aw_exit ?_) | (refine aw_region ?_) | (refine zco ?_ ?_ <;> intro hg <;> first | exact absurd hg (by decide) | ((try replace hg := HG.out hg); (try dsimp only at hg); (try (have _h : True := hg; clear _h hg)); first | (exfalso; omega) | skip))))
  all_goals first
    | (exfalso; omega)
    | ((refine aw_ret ?_; (repeat (first | refine ret_then ?_ | refine ret_block ?_)); refine bq1 rfl ⟨?_, rfl⟩); rfl)
    | trace_state
/-- Whether all lines before k, and line k before i, are avs the sheet wants them. -/
def onB (s : Sheet) (b : List (List Int)) (k i : Nat) : Bool := ((List.range k).all fun j => (List.range (el b j).length).all (lineAt s (el b j))) && (List.range i).all (lineAt s (el b k))
theorem onB_succ (s : Sheet) (b : List (List Int)) (k i : Nat) : onB s b k (i + 1) = (onB s b k i && lineAt s (el b k) i) := by
  unfold onB
  rw [List.range_succ, List.all_append, Bool.and_assoc]
  simp
theorem onB_next (s : Sheet) (b : List (List Int)) (k : Nat) : onB s b (k + 1) 0 = onB s b k (el b k).length := by
  unfold onB
  rw [List.range_succ, List.all_append]
  simp
theorem onB_all {s : Sheet} {b : List (List Int)} (h : ∀ j, j < b.length → ((el b j).length : Int) = s.cols) : onB s b b.length 0 = linesB s b := by
  rw [Bool.eq_iff_iff]
  unfold onB linesB
  simp only [List.range_zero, List.all_nil, Bool.and_true, List.all_eq_true, List.mem_range]
  constructor
  · intro hh l hl
    obtain ⟨j, hj, rfl⟩ := mem_el hl
    exact isLineB_iff.2 ⟨h j hj, hh j hj⟩
  · intro hh j hj
    exact (isLineB_iff.1 (hh _ (el_mem hj))).2
theorem vbEq {H : Heap} {σ : List (Option Nat)} {fr : Nat → Prop} {a b : Bool} (h : a = b) : VSub H σ fr (.s (.bool a)) (vb b) := by
  subst h
  exact .closed rfl
section
variable (p : Pat) (s : Sheet) (n per : Int) (b : List (List Int)) (G : Int) (C : Nat) (g x h m e : Int)
set_option maxRecDepth 20000 in
set_option maxHeartbeats 16000000 in
theorem topWoven_yes (hs : s.ok = true) (h1 : 1 ≤ n ∧ n ≤ 12) (hcols : (p.ros.length : Int) = s.cols) (hbl : (b.length : Int) = n) (hrow : ∀ j, j < b.length → (el b j).length = p.ros.length) (hbd : ∀ j i, j < b.length → i < p.ros.length → -6000000 ≤ el (el b j) i ∧ el (el b j) i ≤ 6000000) (hG : -300000 ≤ G ∧ G ≤ 300000)
    (hgr : PCalls Try.prog 7 [p.enc] (fun v => ∃ bx, v = vb bx ∧ (bx = false → p.ros.length ≤ 120 ∧ p.rub.length ≤ 120 ∧ p.shifts.length ≤ 20))) (hwov : PCalls Try.prog 15 [p.enc, vi n] (· = .tup [encRows b, vb true])) (hcs : PCalls Try.prog 16 [s.enc] (· = vi 0))
    (hgap : PCalls Try.prog 11 [p.enc] (· = .tup [vi G, vi 0])) (hcl : PCalls Try.prog 17 [p.enc] (· = .tup [vi C, vi 0])) (hck : PCalls Try.prog 18 [s.enc, encRows b] (· = vi g)) (hpg : PCalls Try.prog 19 [s.enc, encRows b] (· = .tup [vi x, vi h]))
    (hla : PCalls Try.prog 20 [s.enc, encRows b, vi per] (· = .tup [vi m, vi e]))
    (L1 : linesB s b = false → g = 71) (L2 : linesB s b = true → s.weight + s.clear ≤ G → g = 0) (L3 : g = 0 ∨ g = 71) (L4 : g ≠ 0 ∨ n < 2 → h ≠ 0) (L5 : g = 0 → 2 ≤ n → h = 0 ∧ G - s.weight ≤ x ∧ ((C : Int) < n → x = G - s.weight)) (L6 : g = 0 → 2 ≤ n → 1 ≤ per ∧ per ≤ 1000 → s.weight < G → e = 0 ∧ (G - s.weight + 1) / 2 * per - 1 ≤ m) :
    PCalls Try.prog 4 [p.enc, s.enc, vi n, vi per] (· = vb true) := by
  have hb := Sheet.bounds hs
  refine pcalls_of_aw Try.func4 rfl (Nat.le_of_ble_eq_true rfl) ?_
  (repeat' (first | (refine ar_isq ?_; first | refine zmv ?_ | refine zas ?_ | (refine is_load ?_; first | refine zlp ?_ | refine zlr ?_) | (refine is_binOp ?_; first | refine zlss ?_ | refine zleq ?_ | refine zgtr ?_ | refine zgeq ?_ | refine zeql ?_ | refine zneq ?_ | refine zadd ?_ | refine zsub ?_ | refine zmul ?_ | refine zquo ?_) | (refine is_fieldAddr ?_; first | refine zfp ?_ | refine zfr ?_) | (refine is_indexAddr ?_; first | refine zil ?_ | refine zis ?_ | refine zit ?_ | refine zia ?_ | refine zir ?_ | (refine zxl ?_; intro _ _ _) | (refine zxs ?_; intro _ _ _)) | (refine is_call ?_; first | refine zll ?_ | refine zls ?_ | refine zln ?_ | refine zle ?_) | (refine is_pick ?_; first | refine zpt ?_ | refine zpf ?_) | refine zex ?_ | (refine is_unOp ?_; first | refine znt ?_ | refine zng ?_)) | (refine ar_pcall (own := false) fn14 rfl rfl .nil (alive08_p) (by simp) (dc rfl) ?_; intro _ hv; subst hv) | ((refine ar_pcall (own := false) fn7 rfl rfl (.cons (.closed rfl) .nil) (hgr) (by simp) (dc rfl) ?_; rintro _ ⟨bx, rfl, hbx⟩)) | (refine ar_pcall (own := false) fn15 rfl rfl (.cons (.closed rfl) (.cons (.closed rfl) .nil)) (hwov) (by simp) (dc rfl) ?_; intro _ hv; subst hv) | (refine ar_pcall (own := false) fn16 rfl rfl (.cons (.closed rfl) .nil) (hcs) (by simp) (dc rfl) ?_; intro _ hv; subst hv) | (refine ar_pcall (own := false) fn11 rfl rfl (.cons (.closed rfl) .nil) (hgap) (by simp) (dc rfl) ?_; intro _ hv; subst hv) | (refine ar_pcall (own := false) fn17 rfl rfl (.cons (.closed rfl) .nil) (hcl) (by simp) (dc rfl) ?_; intro _ hv; subst hv) | (refine zbx ?_) | (refine zg ?_ ?_ <;> intro hg <;> first | exact absurd hg (by decide) | ((try replace hg := HG.out hg); (try dsimp only at hg); (try (have _h : True := hg; clear _h hg)); first | (exfalso; omega) | skip)) | (refine zgu ?_) | (refine ar_nil ?_) | (refine aw_seq ?_) | (refine aw_skip ?_) | (refine aw_block ?_) | (refine aw_exit ?_) | (refine aw_region ?_) | (refine zco ?_ ?_ <;> intro hg <;> first | exact absurd hg (by decide) | ((try replace hg := HG.out hg); (try dsimp only at hg); (try (have _h : True := hg; clear _h hg)); first | (exfalso; omega) | skip))))
  all_goals first
    | (exfalso; omega)
    | ((refine aw_ret ?_; (repeat (first | refine ret_then ?_ | refine ret_block ?_)); refine bq1 rfl ⟨?_, rfl⟩); rfl)
    | skip
  refine aw_for b.length (fun _ => True) (fun k => [(2, vi n), (3, vi per), (4, .ptr 6 0 0 0), (5, .ptr 5 1 0 0), (9, vb true), (10, encRows b), (12, vi G), (14, vi C), (16, vb (onB s b k 0)), (81, encRows b), (82, vi b.length), (83, vi k)]) (fun _ => [.arr 6 1 (fun _ => p.enc), .arr 5 1 (fun _ => s.enc)]) trivial ?_ ?_
  · (refine sub_to [some 0, some 1] [] rfl ?_ ?_ <;> (repeat' (first | exact trivial | refine ⟨⟨_, rfl, ?_⟩, ?_⟩ | refine ⟨bsub_snoc rfl rfl (fun _ => rfl) ?_, ?_⟩ | refine ⟨bsub_one rfl rfl ?_, ?_⟩ | refine ⟨bsub_all rfl rfl (fun _ _ => rfl) (fun _ => rfl), ?_⟩ | refine ⟨bsub_updL rfl rfl ?_ (fun _ _ _ => rfl) (fun _ => rfl), ?_⟩ | refine ⟨.inl ⟨_, _, rfl, rfl, ?_⟩, ?_⟩ | exact ⟨.inr ⟨rfl, rfl⟩, trivial⟩ | refine ⟨.inr ⟨rfl, rfl⟩, ?_⟩ | (intro _ _) | exact vz1 | exact vz2 | fail)))
  intro k hk _
  by_cases hlt : k < b.length
  · have hrk := hrow k hlt
    (repeat' (first | (refine ar_isq ?_; first | refine zmv ?_ | refine zas ?_ | (refine is_load ?_; first | refine zlp ?_ | refine zlr ?_) | (refine is_binOp ?_; first | refine zlss ?_ | refine zleq ?_ | refine zgtr ?_ | refine zgeq ?_ | refine zeql ?_ | refine zneq ?_ | refine zadd ?_ | refine zsub ?_ | refine zmul ?_ | refine zquo ?_) | (refine is_fieldAddr ?_; first | refine zfp ?_ | refine zfr ?_) | (refine is_indexAddr ?_; first | refine zil ?_ | refine zis ?_ | refine zit ?_ | refine zia ?_ | refine zir ?_ | (refine zxl ?_; intro _ _ _) | (refine zxs ?_; intro _ _ _)) | (refine is_call ?_; first | refine zll ?_ | refine zls ?_ | refine zln ?_ | refine zle ?_) | (refine is_pick ?_; first | refine zpt ?_ | refine zpf ?_) | refine zex ?_ | (refine is_unOp ?_; first | refine znt ?_ | refine zng ?_)) | (refine zbx ?_) | (refine zg ?_ ?_ <;> intro hg <;> first | exact absurd hg (by decide) | ((try replace hg := HG.out hg); (try dsimp only at hg); (try (have _h : True := hg; clear _h hg)); first | (exfalso; omega) | skip)) | (refine zgu ?_) | (refine ar_nil ?_) | (refine aw_seq ?_) | (refine aw_skip ?_) | (refine aw_block ?_) | (refine aw_exit ?_) | (refine aw_region ?_) | (refine zco ?_ ?_ <;> intro hg <;> first | exact absurd hg (by decide) | ((try replace hg := HG.out hg); (try dsimp only at hg); (try (have _h : True := hg; clear _h hg)); first | (exfalso; omega) | skip))))
    all_goals (try (exfalso; omega))
    refine aw_for p.ros.length (fun _ => True) (fun i => [(2, vi n), (3, vi per), (4, .ptr 6 0 0 0), (5, .ptr 5 1 0 0), (9, vb true), (10, encRows b), (12, vi G), (14, vi C), (16, vb (onB s b k i)), (18, encInts (el b k)), (81, encRows b), (82, vi b.length), (83, vi k), (87, encInts (el b k)), (88, vi p.ros.length), (89, vi i)]) (fun _ => [.arr 6 1 (fun _ => p.enc), .arr 5 1 (fun _ => s.enc)]) trivial ?_ ?_
    · (refine sub_to [some 0, some 1] [] rfl ?_ ?_ <;> (repeat' (first | exact trivial | refine ⟨⟨_, rfl, ?_⟩, ?_⟩ | refine ⟨bsub_snoc rfl rfl (fun _ => rfl) ?_, ?_⟩ | refine ⟨bsub_one rfl rfl ?_, ?_⟩ | refine ⟨bsub_all rfl rfl (fun _ _ => rfl) (fun _ => rfl), ?_⟩ | refine ⟨bsub_updL rfl rfl ?_ (fun _ _ _ => rfl) (fun _ => rfl), ?_⟩ | refine ⟨.inl ⟨_, _, rfl, rfl, ?_⟩, ?_⟩ | exact ⟨.inr ⟨rfl, rfl⟩, trivial⟩ | refine ⟨.inr ⟨rfl, rfl⟩, ?_⟩ | (intro _ _) | exact vz1 | (exact siEq (by omega)) | exact vz2 | fail)))
    intro i hi _
    by_cases hlti : i < p.ros.length
    · have hbi := hbd k i hlt hlti
      have hla2 : lineAt s (el b k) i = true ↔ (0 ≤ el (el b k) i ∧ el (el b k) i ≤ s.rows - s.weight) ∧ (i = 0 ∨ (-s.lean ≤ el (el b k) i - el (el b k) (i - 1) ∧ el (el b k) i - el (el b k) (i - 1) ≤ s.lean)) := lineAt_iff
      by_cases hi0 : 0 < i
      · have hbj := hbd k (i - 1) hlt (by omega)
        (repeat' (first | (refine ar_isq ?_; first | refine zmv ?_ | refine zas ?_ | (refine is_load ?_; first | refine zlp ?_ | refine zlr ?_) | (refine is_binOp ?_; first | refine zlss ?_ | refine zleq ?_ | refine zgtr ?_ | refine zgeq ?_ | refine zeql ?_ | refine zneq ?_ | refine zadd ?_ | refine zsub ?_ | refine zmul ?_ | refine zquo ?_) | (refine is_fieldAddr ?_; first | refine zfp ?_ | refine zfr ?_) | (refine is_indexAddr ?_; first | refine zil ?_ | refine zis ?_ | refine zit ?_ | refine zia ?_ | refine zir ?_ | refine zil (j := i) ?_ | refine zis (j := i) ?_ | refine zit (j := i) ?_ | refine zil (j := i - 1) ?_ | refine zis (j := i - 1) ?_ | refine zit (j := i - 1) ?_ | (refine zxl ?_; intro _ _ _) | (refine zxs ?_; intro _ _ _)) | (refine is_call ?_; first | refine zll ?_ | refine zls ?_ | refine zln ?_ | refine zle ?_) | (refine is_pick ?_; first | refine zpt ?_ | refine zpf ?_) | refine zex ?_ | (refine is_unOp ?_; first | refine znt ?_ | refine zng ?_)) | (refine zbx ?_) | (refine zg ?_ ?_ <;> intro hg <;> first | exact absurd hg (by decide) | ((try replace hg := HG.out hg); (try dsimp only at hg); (try (have _h : True := hg; clear _h hg)); first | (exfalso; omega) | skip)) | (refine zgu ?_) | (refine ar_nil ?_) | (refine aw_seq ?_) | (refine aw_skip ?_) | (refine aw_block ?_) | (refine aw_exit ?_) | (refine aw_region ?_) | (refine zco ?_ ?_ <;> intro hg <;> first | exact absurd hg (by decide) | ((try replace hg := HG.out hg); (try dsimp only at hg); (try (have _h : True := hg; clear _h hg)); first | (exfalso; omega) | skip))))
        all_goals first
          | (exfalso; omega)
          | ((first | refine loop_next (by omega) ?_ ?_ | refine (show _ ∧ _ ∧ SubOf _ _ _ _ _ _ from And.intro (by omega) (And.intro ?_ ?_))); (focus ((trivial); done)); (focus ((refine sub_to [some 0, some 1] [] rfl ?_ ?_ <;> (repeat' (first | exact trivial | refine ⟨⟨_, rfl, ?_⟩, ?_⟩ | refine ⟨bsub_snoc rfl rfl (fun _ => rfl) ?_, ?_⟩ | refine ⟨bsub_one rfl rfl ?_, ?_⟩ | refine ⟨bsub_all rfl rfl (fun _ _ => rfl) (fun _ => rfl), ?_⟩ | refine ⟨bsub_updL rfl rfl ?_ (fun _ _ _ => rfl) (fun _ => rfl), ?_⟩ | refine ⟨.inl ⟨_, _, rfl, rfl, ?_⟩, ?_⟩ | exact ⟨.inr ⟨rfl, rfl⟩, trivial⟩ | refine ⟨.inr ⟨rfl, rfl⟩, ?_⟩ | (intro _ _) | exact vz1 | (exact vbEq (by rw [onB_succ]; first | (rw [show onB s b k i = true by assumption, Bool.true_and, Bool.eq_iff_iff, hla2, decide_eq_true_iff]; omega) | (rw [show onB s b k i = false by assumption]; rfl) | (rw [show onB s b k i = true by assumption, Bool.true_and]; symm; rw [← Bool.not_eq_true, hla2]; omega))) | exact vz2 | fail))); done)))
          | trace_state
      · (repeat' (first | (refine ar_isq ?_; first | refine zmv ?_ | refine zas ?_ | (refine is_load ?_; first | refine zlp ?_ | refine zlr ?_) | (refine is_binOp ?_; first | refine zlss ?_ | refine zleq ?_ | refine zgtr ?_ | refine zgeq ?_ | refine zeql ?_ | refine zneq ?_ | refine zadd ?_ | refine zsub ?_ | refine zmul ?_ | refine zquo ?_) | (refine is_fieldAddr ?_; first | refine zfp ?_ | refine zfr ?_) | (refine is_indexAddr ?_; first | refine zil ?_ | refine zis ?_ | refine zit ?_ | refine zia ?_ | refine zir ?_ | refine zil (j := i) ?_ | refine zis (j := i) ?_ | refine zit (j := i) ?_ | (refine zxl ?_; intro _ _ _) | (refine zxs ?_; intro _ _ _)) | (refine is_call ?_; first | refine zll ?_ | refine zls ?_ | refine zln ?_ | refine zle ?_) | (refine is_pick ?_; first | refine zpt ?_ | refine zpf ?_) | refine zex ?_ | (refine is_unOp ?_; first | refine znt ?_ | refine zng ?_)) | (refine zbx ?_) | (refine zg ?_ ?_ <;> intro hg <;> first | exact absurd hg (by decide) | ((try replace hg := HG.out hg); (try dsimp only at hg); (try (have _h : True := hg; clear _h hg)); first | (exfalso; omega) | skip)) | (refine zgu ?_) | (refine ar_nil ?_) | (refine aw_seq ?_) | (refine aw_skip ?_) | (refine aw_block ?_) | (refine aw_exit ?_) | (refine aw_region ?_) | (refine zco ?_ ?_ <;> intro hg <;> first | exact absurd hg (by decide) | ((try replace hg := HG.out hg); (try dsimp only at hg); (try (have _h : True := hg; clear _h hg)); first | (exfalso; omega) | skip))))
        all_goals first
          | (exfalso; omega)
          | ((first | refine loop_next (by omega) ?_ ?_ | refine (show _ ∧ _ ∧ SubOf _ _ _ _ _ _ from And.intro (by omega) (And.intro ?_ ?_))); (focus ((trivial); done)); (focus ((refine sub_to [some 0, some 1] [] rfl ?_ ?_ <;> (repeat' (first | exact trivial | refine ⟨⟨_, rfl, ?_⟩, ?_⟩ | refine ⟨bsub_snoc rfl rfl (fun _ => rfl) ?_, ?_⟩ | refine ⟨bsub_one rfl rfl ?_, ?_⟩ | refine ⟨bsub_all rfl rfl (fun _ _ => rfl) (fun _ => rfl), ?_⟩ | refine ⟨bsub_updL rfl rfl ?_ (fun _ _ _ => rfl) (fun _ => rfl), ?_⟩ | refine ⟨.inl ⟨_, _, rfl, rfl, ?_⟩, ?_⟩ | exact ⟨.inr ⟨rfl, rfl⟩, trivial⟩ | refine ⟨.inr ⟨rfl, rfl⟩, ?_⟩ | (intro _ _) | exact vz1 | (exact vbEq (by rw [onB_succ]; first | (rw [show onB s b k i = true by assumption, Bool.true_and, Bool.eq_iff_iff, hla2, decide_eq_true_iff]; omega) | (rw [show onB s b k i = false by assumption]; rfl) | (rw [show onB s b k i = true by assumption, Bool.true_and]; symm; rw [← Bool.not_eq_true, hla2]; omega))) | exact vz2 | fail))); done)))
          | trace_state
    · obtain rfl : i = p.ros.length := by omega
      (repeat' (first | (refine ar_isq ?_; first | refine zmv ?_ | refine zas ?_ | (refine is_load ?_; first | refine zlp ?_ | refine zlr ?_) | (refine is_binOp ?_; first | refine zlss ?_ | refine zleq ?_ | refine zgtr ?_ | refine zgeq ?_ | refine zeql ?_ | refine zneq ?_ | refine zadd ?_ | refine zsub ?_ | refine zmul ?_ | refine zquo ?_) | (refine is_fieldAddr ?_; first | refine zfp ?_ | refine zfr ?_) | (refine is_indexAddr ?_; first | refine zil ?_ | refine zis ?_ | refine zit ?_ | refine zia ?_ | refine zir ?_ | (refine zxl ?_; intro _ _ _) | (refine zxs ?_; intro _ _ _)) | (refine is_call ?_; first | refine zll ?_ | refine zls ?_ | refine zln ?_ | refine zle ?_) | (refine is_pick ?_; first | refine zpt ?_ | refine zpf ?_) | refine zex ?_ | (refine is_unOp ?_; first | refine znt ?_ | refine zng ?_)) | (refine zbx ?_) | (refine zg ?_ ?_ <;> intro hg <;> first | exact absurd hg (by decide) | ((try replace hg := HG.out hg); (try dsimp only at hg); (try (have _h : True := hg; clear _h hg)); first | (exfalso; omega) | skip)) | (refine zgu ?_) | (refine ar_nil ?_) | (refine aw_seq ?_) | (refine aw_skip ?_) | (refine aw_block ?_) | (refine aw_exit ?_) | (refine aw_region ?_) | (refine zco ?_ ?_ <;> intro hg <;> first | exact absurd hg (by decide) | ((try replace hg := HG.out hg); (try dsimp only at hg); (try (have _h : True := hg; clear _h hg)); first | (exfalso; omega) | skip))))
      all_goals first
        | (exfalso; omega)
        | (rw [← hrk, ← onB_next]; ((first | refine loop_next (by omega) ?_ ?_ | refine (show _ ∧ _ ∧ SubOf _ _ _ _ _ _ from And.intro (by omega) (And.intro ?_ ?_))); (focus ((trivial); done)); (focus ((refine sub_to [some 0, some 1] [] rfl ?_ ?_ <;> (repeat' (first | exact trivial | refine ⟨⟨_, rfl, ?_⟩, ?_⟩ | refine ⟨bsub_snoc rfl rfl (fun _ => rfl) ?_, ?_⟩ | refine ⟨bsub_one rfl rfl ?_, ?_⟩ | refine ⟨bsub_all rfl rfl (fun _ _ => rfl) (fun _ => rfl), ?_⟩ | refine ⟨bsub_updL rfl rfl ?_ (fun _ _ _ => rfl) (fun _ => rfl), ?_⟩ | refine ⟨.inl ⟨_, _, rfl, rfl, ?_⟩, ?_⟩ | exact ⟨.inr ⟨rfl, rfl⟩, trivial⟩ | refine ⟨.inr ⟨rfl, rfl⟩, ?_⟩ | (intro _ _) | exact vz1 | exact vz2 | fail))); done))))
        | trace_state
  · obtain rfl : k = b.length := by omega
    have hon : onB s b b.length 0 = linesB s b := onB_all fun j hj => by rw [hrow j hj]; exact hcols
    obtain ⟨B, hB⟩ : ∃ B, B = linesB s b := ⟨_, rfl⟩
    rw [hon, ← hB]
    cases B
    · obtain rfl := L1 hB.symm
      (repeat' (first | (refine ar_isq ?_; first | refine zmv ?_ | refine zas ?_ | (refine is_load ?_; first | refine zlp ?_ | refine zlr ?_) | (refine is_binOp ?_; first | refine zlss ?_ | refine zleq ?_ | refine zgtr ?_ | refine zgeq ?_ | refine zeql ?_ | refine zneq ?_ | refine zadd ?_ | refine zsub ?_ | refine zmul ?_ | refine zquo ?_) | (refine is_fieldAddr ?_; first | refine zfp ?_ | refine zfr ?_) | (refine is_indexAddr ?_; first | refine zil ?_ | refine zis ?_ | refine zit ?_ | refine zia ?_ | refine zir ?_ | (refine zxl ?_; intro _ _ _) | (refine zxs ?_; intro _ _ _)) | (refine is_call ?_; first | refine zll ?_ | refine zls ?_ | refine zln ?_ | refine zle ?_) | (refine is_pick ?_; first | refine zpt ?_ | refine zpf ?_) | refine zex ?_ | (refine is_unOp ?_; first | refine znt ?_ | refine zng ?_)) | (refine ar_pcall (own := false) fn18 rfl rfl (.cons (.closed rfl) (.cons (.closed rfl) .nil)) (hck) (by simp) (dc rfl) ?_; intro _ hv; subst hv) | (refine ar_pcall (own := false) fn19 rfl rfl (.cons (.closed rfl) (.cons (.closed rfl) .nil)) (hpg) (by simp) (dc rfl) ?_; intro _ hv; subst hv) | (refine ar_pcall (own := false) fn20 rfl rfl (.cons (.closed rfl) (.cons (.closed rfl) (.cons (.closed rfl) .nil))) (hla) (by simp) (dc rfl) ?_; intro _ hv; subst hv) | (refine zbx ?_) | (refine zg ?_ ?_ <;> intro hg <;> first | exact absurd hg (by decide) | ((try replace hg := HG.out hg); (try dsimp only at hg); (try (have _h : True := hg; clear _h hg)); first | (exfalso; omega) | skip)) | (refine zgu ?_) | (refine ar_nil ?_) | (refine aw_seq ?_) | (refine aw_skip ?_) | (refine aw_block ?_) | (refine aw_exit ?_) | (refine aw_region ?_) | (refine zco ?_ ?_ <;> intro hg <;> first | exact absurd hg (by decide) | ((try replace hg := HG.out hg); (try dsimp only at hg); (try (have _h : True := hg; clear _h hg)); first | (exfalso; omega) | skip))))
      all_goals first
        | (exfalso; omega)
        | ((refine aw_ret ?_; (repeat (first | refine ret_then ?_ | refine ret_block ?_)); refine bq1 rfl ⟨?_, rfl⟩); rfl)
        | ((refine aw_ret ?_; (repeat (first | refine ret_then ?_ | refine ret_block ?_)); refine bq1 rfl ⟨?_, rfl⟩); refine congrArg vb ?_; first | rfl | (simp; omega))
        | trace_state
    · rcases L3 with rfl | rfl
      · by_cases hn2 : n < 2
        · have hh := L4 (.inr hn2)
          (repeat' (first | (refine ar_isq ?_; first | refine zmv ?_ | refine zas ?_ | (refine is_load ?_; first | refine zlp ?_ | refine zlr ?_) | (refine is_binOp ?_; first | refine zlss ?_ | refine zleq ?_ | refine zgtr ?_ | refine zgeq ?_ | refine zeql ?_ | refine zneq ?_ | refine zadd ?_ | refine zsub ?_ | refine zmul ?_ | refine zquo ?_) | (refine is_fieldAddr ?_; first | refine zfp ?_ | refine zfr ?_) | (refine is_indexAddr ?_; first | refine zil ?_ | refine zis ?_ | refine zit ?_ | refine zia ?_ | refine zir ?_ | (refine zxl ?_; intro _ _ _) | (refine zxs ?_; intro _ _ _)) | (refine is_call ?_; first | refine zll ?_ | refine zls ?_ | refine zln ?_ | refine zle ?_) | (refine is_pick ?_; first | refine zpt ?_ | refine zpf ?_) | refine zex ?_ | (refine is_unOp ?_; first | refine znt ?_ | refine zng ?_)) | (refine ar_pcall (own := false) fn18 rfl rfl (.cons (.closed rfl) (.cons (.closed rfl) .nil)) (hck) (by simp) (dc rfl) ?_; intro _ hv; subst hv) | (refine ar_pcall (own := false) fn19 rfl rfl (.cons (.closed rfl) (.cons (.closed rfl) .nil)) (hpg) (by simp) (dc rfl) ?_; intro _ hv; subst hv) | (refine ar_pcall (own := false) fn20 rfl rfl (.cons (.closed rfl) (.cons (.closed rfl) (.cons (.closed rfl) .nil))) (hla) (by simp) (dc rfl) ?_; intro _ hv; subst hv) | (refine zbx ?_) | (refine zg ?_ ?_ <;> intro hg <;> first | exact absurd hg (by decide) | ((try replace hg := HG.out hg); (try dsimp only at hg); (try (have _h : True := hg; clear _h hg)); first | (exfalso; omega) | skip)) | (refine zgu ?_) | (refine ar_nil ?_) | (refine aw_seq ?_) | (refine aw_skip ?_) | (refine aw_block ?_) | (refine aw_exit ?_) | (refine aw_region ?_) | (refine zco ?_ ?_ <;> intro hg <;> first | exact absurd hg (by decide) | ((try replace hg := HG.out hg); (try dsimp only at hg); (try (have _h : True := hg; clear _h hg)); first | (exfalso; omega) | skip))))
          all_goals first
            | (exfalso; omega)
            | ((refine aw_ret ?_; (repeat (first | refine ret_then ?_ | refine ret_block ?_)); refine bq1 rfl ⟨?_, rfl⟩); rfl)
            | ((refine aw_ret ?_; (repeat (first | refine ret_then ?_ | refine ret_block ?_)); refine bq1 rfl ⟨?_, rfl⟩); refine congrArg vb ?_; first | rfl | (simp; omega))
            | trace_state
        · obtain ⟨rfl, hx, hxe⟩ := L5 rfl (by omega)
          by_cases hCn : (C : Int) < n
          · obtain rfl := hxe hCn
            by_cases hper : (1 ≤ per ∧ per ≤ 1000) ∧ s.weight < G
            · obtain ⟨rfl, hm⟩ := L6 rfl (by omega) hper.1 hper.2
              have hq : 0 ≤ (G - s.weight + 1) / 2 ∧ (G - s.weight + 1) / 2 ≤ 200000 := by omega
              have hp1 := Int.mul_le_mul hq.2 hper.1.2 (by omega) (by omega)
              have hp2 := Int.mul_nonneg hq.1 (show 0 ≤ per by omega)
              (repeat' (first | (refine ar_isq ?_; first | refine zmv ?_ | refine zas ?_ | (refine is_load ?_; first | refine zlp ?_ | refine zlr ?_) | (refine is_binOp ?_; first | refine zlss ?_ | refine zleq ?_ | refine zgtr ?_ | refine zgeq ?_ | refine zeql ?_ | refine zneq ?_ | refine zadd ?_ | refine zsub ?_ | refine zmul ?_ | refine zquo ?_) | (refine is_fieldAddr ?_; first | refine zfp ?_ | refine zfr ?_) | (refine is_indexAddr ?_; first | refine zil ?_ | refine zis ?_ | refine zit ?_ | refine zia ?_ | refine zir ?_ | (refine zxl ?_; intro _ _ _) | (refine zxs ?_; intro _ _ _)) | (refine is_call ?_; first | refine zll ?_ | refine zls ?_ | refine zln ?_ | refine zle ?_) | (refine is_pick ?_; first | refine zpt ?_ | refine zpf ?_) | refine zex ?_ | (refine is_unOp ?_; first | refine znt ?_ | refine zng ?_)) | (refine ar_pcall (own := false) fn18 rfl rfl (.cons (.closed rfl) (.cons (.closed rfl) .nil)) (hck) (by simp) (dc rfl) ?_; intro _ hv; subst hv) | (refine ar_pcall (own := false) fn19 rfl rfl (.cons (.closed rfl) (.cons (.closed rfl) .nil)) (hpg) (by simp) (dc rfl) ?_; intro _ hv; subst hv) | (refine ar_pcall (own := false) fn20 rfl rfl (.cons (.closed rfl) (.cons (.closed rfl) (.cons (.closed rfl) .nil))) (hla) (by simp) (dc rfl) ?_; intro _ hv; subst hv) | (refine zbx ?_) | (refine zg ?_ ?_ <;> intro hg <;> first | exact absurd hg (by decide) | ((try replace hg := HG.out hg); (try dsimp only at hg); (try (have _h : True := hg; clear _h hg)); first | (exfalso; omega) | skip)) | (refine zgu ?_) | (refine ar_nil ?_) | (refine aw_seq ?_) | (refine aw_skip ?_) | (refine aw_block ?_) | (refine aw_exit ?_) | (refine aw_region ?_) | (refine zco ?_ ?_ <;> intro hg <;> first | exact absurd hg (by decide) | ((try replace hg := HG.out hg); (try dsimp only at hg); (try (have _h : True := hg; clear _h hg)); first | (exfalso; omega) | skip))))
              all_goals first
                | (exfalso; omega)
                | ((refine aw_ret ?_; (repeat (first | refine ret_then ?_ | refine ret_block ?_)); refine bq1 rfl ⟨?_, rfl⟩); rfl)
                | ((refine aw_ret ?_; (repeat (first | refine ret_then ?_ | refine ret_block ?_)); refine bq1 rfl ⟨?_, rfl⟩); refine congrArg vb ?_; first | rfl | (simp; omega))
                | trace_state
            · (repeat' (first | (refine ar_isq ?_; first | refine zmv ?_ | refine zas ?_ | (refine is_load ?_; first | refine zlp ?_ | refine zlr ?_) | (refine is_binOp ?_; first | refine zlss ?_ | refine zleq ?_ | refine zgtr ?_ | refine zgeq ?_ | refine zeql ?_ | refine zneq ?_ | refine zadd ?_ | refine zsub ?_ | refine zmul ?_ | refine zquo ?_) | (refine is_fieldAddr ?_; first | refine zfp ?_ | refine zfr ?_) | (refine is_indexAddr ?_; first | refine zil ?_ | refine zis ?_ | refine zit ?_ | refine zia ?_ | refine zir ?_ | (refine zxl ?_; intro _ _ _) | (refine zxs ?_; intro _ _ _)) | (refine is_call ?_; first | refine zll ?_ | refine zls ?_ | refine zln ?_ | refine zle ?_) | (refine is_pick ?_; first | refine zpt ?_ | refine zpf ?_) | refine zex ?_ | (refine is_unOp ?_; first | refine znt ?_ | refine zng ?_)) | (refine ar_pcall (own := false) fn18 rfl rfl (.cons (.closed rfl) (.cons (.closed rfl) .nil)) (hck) (by simp) (dc rfl) ?_; intro _ hv; subst hv) | (refine ar_pcall (own := false) fn19 rfl rfl (.cons (.closed rfl) (.cons (.closed rfl) .nil)) (hpg) (by simp) (dc rfl) ?_; intro _ hv; subst hv) | (refine ar_pcall (own := false) fn20 rfl rfl (.cons (.closed rfl) (.cons (.closed rfl) (.cons (.closed rfl) .nil))) (hla) (by simp) (dc rfl) ?_; intro _ hv; subst hv) | (refine zbx ?_) | (refine zg ?_ ?_ <;> intro hg <;> first | exact absurd hg (by decide) | ((try replace hg := HG.out hg); (try dsimp only at hg); (try (have _h : True := hg; clear _h hg)); first | (exfalso; omega) | skip)) | (refine zgu ?_) | (refine ar_nil ?_) | (refine aw_seq ?_) | (refine aw_skip ?_) | (refine aw_block ?_) | (refine aw_exit ?_) | (refine aw_region ?_) | (refine zco ?_ ?_ <;> intro hg <;> first | exact absurd hg (by decide) | ((try replace hg := HG.out hg); (try dsimp only at hg); (try (have _h : True := hg; clear _h hg)); first | (exfalso; omega) | skip))))
              all_goals first
                | (exfalso; omega)
                | ((refine aw_ret ?_; (repeat (first | refine ret_then ?_ | refine ret_block ?_)); refine bq1 rfl ⟨?_, rfl⟩); rfl)
                | ((refine aw_ret ?_; (repeat (first | refine ret_then ?_ | refine ret_block ?_)); refine bq1 rfl ⟨?_, rfl⟩); refine congrArg vb ?_; first | rfl | (simp; omega))
                | trace_state
          · by_cases hper : (1 ≤ per ∧ per ≤ 1000) ∧ s.weight < G
            · obtain ⟨rfl, hm⟩ := L6 rfl (by omega) hper.1 hper.2
              have hq : 0 ≤ (G - s.weight + 1) / 2 ∧ (G - s.weight + 1) / 2 ≤ 200000 := by omega
              have hp1 := Int.mul_le_mul hq.2 hper.1.2 (by omega) (by omega)
              have hp2 := Int.mul_nonneg hq.1 (show 0 ≤ per by omega)
              (repeat' (first | (refine ar_isq ?_; first | refine zmv ?_ | refine zas ?_ | (refine is_load ?_; first | refine zlp ?_ | refine zlr ?_) | (refine is_binOp ?_; first | refine zlss ?_ | refine zleq ?_ | refine zgtr ?_ | refine zgeq ?_ | refine zeql ?_ | refine zneq ?_ | refine zadd ?_ | refine zsub ?_ | refine zmul ?_ | refine zquo ?_) | (refine is_fieldAddr ?_; first | refine zfp ?_ | refine zfr ?_) | (refine is_indexAddr ?_; first | refine zil ?_ | refine zis ?_ | refine zit ?_ | refine zia ?_ | refine zir ?_ | (refine zxl ?_; intro _ _ _) | (refine zxs ?_; intro _ _ _)) | (refine is_call ?_; first | refine zll ?_ | refine zls ?_ | refine zln ?_ | refine zle ?_) | (refine is_pick ?_; first | refine zpt ?_ | refine zpf ?_) | refine zex ?_ | (refine is_unOp ?_; first | refine znt ?_ | refine zng ?_)) | (refine ar_pcall (own := false) fn18 rfl rfl (.cons (.closed rfl) (.cons (.closed rfl) .nil)) (hck) (by simp) (dc rfl) ?_; intro _ hv; subst hv) | (refine ar_pcall (own := false) fn19 rfl rfl (.cons (.closed rfl) (.cons (.closed rfl) .nil)) (hpg) (by simp) (dc rfl) ?_; intro _ hv; subst hv) | (refine ar_pcall (own := false) fn20 rfl rfl (.cons (.closed rfl) (.cons (.closed rfl) (.cons (.closed rfl) .nil))) (hla) (by simp) (dc rfl) ?_; intro _ hv; subst hv) | (refine zbx ?_) | (refine zg ?_ ?_ <;> intro hg <;> first | exact absurd hg (by decide) | ((try replace hg := HG.out hg); (try dsimp only at hg); (try (have _h : True := hg; clear _h hg)); first | (exfalso; omega) | skip)) | (refine zgu ?_) | (refine ar_nil ?_) | (refine aw_seq ?_) | (refine aw_skip ?_) | (refine aw_block ?_) | (refine aw_exit ?_) | (refine aw_region ?_) | (refine zco ?_ ?_ <;> intro hg <;> first | exact absurd hg (by decide) | ((try replace hg := HG.out hg); (try dsimp only at hg); (try (have _h : True := hg; clear _h hg)); first | (exfalso; omega) | skip))))
              all_goals first
                | (exfalso; omega)
                | ((refine aw_ret ?_; (repeat (first | refine ret_then ?_ | refine ret_block ?_)); refine bq1 rfl ⟨?_, rfl⟩); rfl)
                | ((refine aw_ret ?_; (repeat (first | refine ret_then ?_ | refine ret_block ?_)); refine bq1 rfl ⟨?_, rfl⟩); refine congrArg vb ?_; first | rfl | (simp; omega))
                | trace_state
            · (repeat' (first | (refine ar_isq ?_; first | refine zmv ?_ | refine zas ?_ | (refine is_load ?_; first | refine zlp ?_ | refine zlr ?_) | (refine is_binOp ?_; first | refine zlss ?_ | refine zleq ?_ | refine zgtr ?_ | refine zgeq ?_ | refine zeql ?_ | refine zneq ?_ | refine zadd ?_ | refine zsub ?_ | refine zmul ?_ | refine zquo ?_) | (refine is_fieldAddr ?_; first | refine zfp ?_ | refine zfr ?_) | (refine is_indexAddr ?_; first | refine zil ?_ | refine zis ?_ | refine zit ?_ | refine zia ?_ | refine zir ?_ | (refine zxl ?_; intro _ _ _) | (refine zxs ?_; intro _ _ _)) | (refine is_call ?_; first | refine zll ?_ | refine zls ?_ | refine zln ?_ | refine zle ?_) | (refine is_pick ?_; first | refine zpt ?_ | refine zpf ?_) | refine zex ?_ | (refine is_unOp ?_; first | refine znt ?_ | refine zng ?_)) | (refine ar_pcall (own := false) fn18 rfl rfl (.cons (.closed rfl) (.cons (.closed rfl) .nil)) (hck) (by simp) (dc rfl) ?_; intro _ hv; subst hv) | (refine ar_pcall (own := false) fn19 rfl rfl (.cons (.closed rfl) (.cons (.closed rfl) .nil)) (hpg) (by simp) (dc rfl) ?_; intro _ hv; subst hv) | (refine ar_pcall (own := false) fn20 rfl rfl (.cons (.closed rfl) (.cons (.closed rfl) (.cons (.closed rfl) .nil))) (hla) (by simp) (dc rfl) ?_; intro _ hv; subst hv) | (refine zbx ?_) | (refine zg ?_ ?_ <;> intro hg <;> first | exact absurd hg (by decide) | ((try replace hg := HG.out hg); (try dsimp only at hg); (try (have _h : True := hg; clear _h hg)); first | (exfalso; omega) | skip)) | (refine zgu ?_) | (refine ar_nil ?_) | (refine aw_seq ?_) | (refine aw_skip ?_) | (refine aw_block ?_) | (refine aw_exit ?_) | (refine aw_region ?_) | (refine zco ?_ ?_ <;> intro hg <;> first | exact absurd hg (by decide) | ((try replace hg := HG.out hg); (try dsimp only at hg); (try (have _h : True := hg; clear _h hg)); first | (exfalso; omega) | skip))))
              all_goals first
                | (exfalso; omega)
                | ((refine aw_ret ?_; (repeat (first | refine ret_then ?_ | refine ret_block ?_)); refine bq1 rfl ⟨?_, rfl⟩); rfl)
                | ((refine aw_ret ?_; (repeat (first | refine ret_then ?_ | refine ret_block ?_)); refine bq1 rfl ⟨?_, rfl⟩); refine congrArg vb ?_; first | rfl | (simp; omega))
                | trace_state
      · have hlow : ¬ (s.weight + s.clear ≤ G) := fun hw => absurd (L2 hB.symm hw) (by decide)
        have hh := L4 (.inl (by decide))
        (repeat' (first | (refine ar_isq ?_; first | refine zmv ?_ | refine zas ?_ | (refine is_load ?_; first | refine zlp ?_ | refine zlr ?_) | (refine is_binOp ?_; first | refine zlss ?_ | refine zleq ?_ | refine zgtr ?_ | refine zgeq ?_ | refine zeql ?_ | refine zneq ?_ | refine zadd ?_ | refine zsub ?_ | refine zmul ?_ | refine zquo ?_) | (refine is_fieldAddr ?_; first | refine zfp ?_ | refine zfr ?_) | (refine is_indexAddr ?_; first | refine zil ?_ | refine zis ?_ | refine zit ?_ | refine zia ?_ | refine zir ?_ | (refine zxl ?_; intro _ _ _) | (refine zxs ?_; intro _ _ _)) | (refine is_call ?_; first | refine zll ?_ | refine zls ?_ | refine zln ?_ | refine zle ?_) | (refine is_pick ?_; first | refine zpt ?_ | refine zpf ?_) | refine zex ?_ | (refine is_unOp ?_; first | refine znt ?_ | refine zng ?_)) | (refine ar_pcall (own := false) fn18 rfl rfl (.cons (.closed rfl) (.cons (.closed rfl) .nil)) (hck) (by simp) (dc rfl) ?_; intro _ hv; subst hv) | (refine ar_pcall (own := false) fn19 rfl rfl (.cons (.closed rfl) (.cons (.closed rfl) .nil)) (hpg) (by simp) (dc rfl) ?_; intro _ hv; subst hv) | (refine ar_pcall (own := false) fn20 rfl rfl (.cons (.closed rfl) (.cons (.closed rfl) (.cons (.closed rfl) .nil))) (hla) (by simp) (dc rfl) ?_; intro _ hv; subst hv) | (refine zbx ?_) | (refine zg ?_ ?_ <;> intro hg <;> first | exact absurd hg (by decide) | ((try replace hg := HG.out hg); (try dsimp only at hg); (try (have _h : True := hg; clear _h hg)); first | (exfalso; omega) | skip)) | (refine zgu ?_) | (refine ar_nil ?_) | (refine aw_seq ?_) | (refine aw_skip ?_) | (refine aw_block ?_) | (refine aw_exit ?_) | (refine aw_region ?_) | (refine zco ?_ ?_ <;> intro hg <;> first | exact absurd hg (by decide) | ((try replace hg := HG.out hg); (try dsimp only at hg); (try (have _h : True := hg; clear _h hg)); first | (exfalso; omega) | skip))))
        all_goals first
          | (exfalso; omega)
          | ((refine aw_ret ?_; (repeat (first | refine ret_then ?_ | refine ret_block ?_)); refine bq1 rfl ⟨?_, rfl⟩); rfl)
          | ((refine aw_ret ?_; (repeat (first | refine ret_then ?_ | refine ret_block ?_)); refine bq1 rfl ⟨?_, rfl⟩); refine congrArg vb ?_; first | rfl | (simp; omega))
          | trace_state
end
end Go.Proofs.Ytloaefllpokkaaa
namespace Go.Proofs.Ytloaefllpokkaaa
open Go.ChangeShapes Go.WideShapes Go.ChangeAt Go.RowKit Go.Deep
def Pat.wf (p : Pat) : Prop := (∀ y, y ∈ p.ros → i64ok y) ∧ (∀ y, y ∈ p.rub → i64ok y) ∧ i64ok p.start ∧ i64ok p.throw ∧ i64ok p.adv ∧ ∀ y, y ∈ p.shifts → i64ok y
set_option maxRecDepth 100000 in
theorem rv_prog : ReadsV Try.prog 24 Pat.enc Pat.wf 6 :=
  ⟨by kernel_rfl, by omega, fun {_ _ _ _ _ _ _ cs _} h => by
    have hlen := struct_len Try.underlying24 h
    rw [show Try.prog.cellsOf 24 = 6 by kernel_rfl] at hlen
    obtain ⟨k0, o0, l0, e0⟩ := struct_part Try.underlying24 h 0 rfl rv_ints
    obtain ⟨k1, o1, l1, e1⟩ := struct_part Try.underlying24 h 1 rfl rv_ints
    obtain ⟨k2, o2, l2, e2⟩ := struct_part Try.underlying24 h 2 rfl rv_Int
    obtain ⟨k3, o3, l3, e3⟩ := struct_part Try.underlying24 h 3 rfl rv_Int
    obtain ⟨k4, o4, l4, e4⟩ := struct_part Try.underlying24 h 4 rfl rv_Int
    obtain ⟨k5, o5, l5, e5⟩ := struct_part Try.underlying24 h 5 rfl rv_ints
    refine ⟨⟨k0, k1, k2, k3, k4, k5⟩, ⟨o0, o1, o2, o3, o4, o5⟩, hlen, hlen.symm, fun j x u hx hu => ?_⟩
    match j, hx with
    | 0, hx => cases hx; exact cells_one e0 rfl hu
    | 1, hx => cases hx; exact cells_one e1 rfl hu
    | 2, hx => cases hx; exact cells_one e2 rfl hu
    | 3, hx => cases hx; exact cells_one e3 rfl hu
    | 4, hx => cases hx; exact cells_one e4 rfl hu
    | 5, hx => cases hx; exact cells_one e5 rfl hu
    | j + 6, hx => simp [cells_agg] at hx⟩
section
variable {H : Type} {enc : TypeId × Value → H} {w : World} {base : Nat} {spare : Nat → Bool} {held : Bool} {r : Reach} {b0 : Nat} {v : Value} {d : DataW H} {p : List MemPlace}
set_option maxRecDepth 100000 in
theorem arg_prog (hv : Value.okWide Try.prog w r b0 24 v) (h : DataW.Trod enc Try.prog w base spare held 24 v d p) : ∃ s : Pat, s.wf ∧ VRel (snap w) [] s.enc v := arg_struct Try.underlying24 rv_prog (fun _ => rfl) hv h
end
end Go.Proofs.Ytloaefllpokkaaa
