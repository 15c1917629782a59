/- Parts of the proof: contracts of functions. No condition. -/
import Derived.Test.YtloaefllpokkaaaKTw3
set_option linter.unusedSimpArgs false
set_option linter.unusedVariables false
namespace Go.Proofs.Ytloaefllpokkaaa
open Go.RowKit
theorem turn_len {f : List Int} {s : Nat} (hs : s ≤ f.length) : (turnF f s).length = f.length := by unfold turnF; rw [List.length_append, List.length_drop, List.length_take]; omega
theorem el_turn {f : List Int} {s i : Nat} (hs : s ≤ f.length) (hi : i < f.length) : el (turnF f s) i = el f ((i + (f.length - s)) % f.length) := by
  have hd : (f.drop (f.length - s)).length = s := by rw [List.length_drop]; omega
  unfold turnF
  by_cases h : i < s
  · rw [el_app_lt (by omega), el_drop, Nat.mod_eq_of_lt (by omega), Nat.add_comm]
  · rw [el_app_ge (by omega), hd, el_take (by omega), show i + (f.length - s) = i - s + f.length by omega, Nat.add_mod_right, Nat.mod_eq_of_lt (by omega)]
/-- Turned by t, the list is the same. -/
def PerB (f : List Int) (t : Nat) : Prop := ∀ i, i < f.length → el f ((i + t) % f.length) = el f i
theorem sym_iff {f : List Int} {s : Nat} (hs : s ≤ f.length) : symB f s = true ↔ PerB f (f.length - s) := by
  unfold symB
  rw [decide_eq_true_iff]
  refine ⟨fun h i hi => ?_, fun h => ext_el (turn_len hs) fun i hi => ?_⟩
  · rw [← el_turn hs hi, h]
  · rw [turn_len hs] at hi
    rw [el_turn hs hi, h i hi]
section
variable {f : List Int} {t u : Nat}
theorem per_n : PerB f f.length := fun i hi => by rw [Nat.add_mod_right, Nat.mod_eq_of_lt hi]
theorem per_add (ht : PerB f t) (hu : PerB f u) : PerB f (t + u) := fun i hi => by
  rw [← Nat.add_assoc, ← Nat.mod_add_mod, hu _ (Nat.mod_lt _ (by omega)), ht i hi]
theorem per_sub (hs : PerB f (t + u)) (ht : PerB f t) : PerB f u := fun i hi => by
  have := ht ((i + u) % f.length) (Nat.mod_lt _ (by omega))
  rw [Nat.mod_add_mod, Nat.add_assoc, Nat.add_comm u t, hs i hi] at this
  exact this.symm
theorem per_zero : PerB f 0 := fun i hi => by rw [Nat.add_zero, Nat.mod_eq_of_lt hi]
theorem per_mul (ht : PerB f t) : ∀ q, PerB f (t * q)
  | 0 => per_zero
  | q + 1 => by rw [Nat.mul_succ]; exact per_add (per_mul ht q) ht
end
theorem least_nat {P : Nat → Prop} : ∀ n, P n → ∃ d, P d ∧ d ≤ n ∧ ∀ t, t < d → ¬ P t := by
  intro n
  induction n using Nat.strongRecOn with
  | _ n ih =>
    intro h
    by_cases g : ∃ t, t < n ∧ P t
    · obtain ⟨t, h1, h2⟩ := g
      obtain ⟨d, h3, h4, h5⟩ := ih t h1 h2
      exact ⟨d, h3, by omega, h5⟩
    · exact ⟨n, h, Nat.le_refl _, fun t ht hp => g ⟨t, ht, hp⟩⟩
theorem sym_count {f : List Int} {d : Nat} (hd : 0 < d) (hs : ∀ s, s < f.length → (symB f s = true ↔ s % d = 0)) : ∀ k, k ≤ f.length → (symL f k).length = (k + (d - 1)) / d
  | 0, _ => by
    rw [Nat.zero_add, Nat.div_eq_of_lt (by omega)]; rfl
  | k + 1, h => by
    have ih := sym_count hd hs k (by omega)
    have hk := hs k (by omega)
    have h1 := Nat.div_add_mod k d
    have h2 := Nat.mod_lt k hd
    have e1 : symL f (k + 1) = symL f k ++ (if symB f k = true then [k] else []) := by
      unfold symL
      rw [List.range_succ, List.filter_append, List.filter_cons, List.filter_nil]
    have e2 : (k + 1 + (d - 1)) / d = k / d + 1 := by
      rw [show k + 1 + (d - 1) = k + d by omega, Nat.add_div_right _ hd]
    rw [e1, List.length_append, ih, e2]
    by_cases hz : k % d = 0
    · rw [if_pos (hk.2 hz)]
      have : (k + (d - 1)) / d = k / d := by
        refine Nat.div_eq_of_lt_le ?_ ?_
        · rw [Nat.mul_comm]; omega
        · rw [Nat.succ_mul, Nat.mul_comm]; omega
      rw [this]; rfl
    · rw [if_neg (fun e => hz (hk.1 e))]
      refine Nat.div_eq_of_lt_le ?_ ?_
      · rw [Nat.succ_mul, Nat.mul_comm]; omega
      · rw [Nat.succ_mul, Nat.succ_mul, Nat.mul_comm]; omega
theorem per_spec {f : List Int} (hn : 0 < f.length) : 0 < perF f ∧ perF f ≤ f.length ∧ f.length % perF f = 0 ∧ PerB f (perF f) ∧ 0 < (symL f f.length).length := by
  obtain ⟨d, ⟨h1, h2⟩, h3, h4⟩ := least_nat (P := fun d => 0 < d ∧ PerB f d) f.length ⟨hn, per_n⟩
  have hdv : ∀ t, PerB f t → t % d = 0 := fun t ht => by
    have e := Nat.div_add_mod t d
    have hl := Nat.mod_lt t h1
    rw [← e] at ht
    have hp := per_sub ht (per_mul h2 _)
    have := h4 (t % d) hl
    by_cases hz : t % d = 0
    · exact hz
    · exact (this ⟨by omega, hp⟩).elim
  have hmul : ∀ t, t % d = 0 → PerB f t := fun t ht => by
    have e := Nat.div_add_mod t d
    rw [ht, Nat.add_zero] at e
    rw [← e]
    exact per_mul h2 _
  have hnd := hdv _ (per_n (f := f))
  have hs : ∀ s, s < f.length → (symB f s = true ↔ s % d = 0) := fun s hs => by
    rw [sym_iff (by omega)]
    have e1 := Nat.div_add_mod f.length d
    have e2 := Nat.div_add_mod s d
    refine ⟨fun h => ?_, fun h => ?_⟩
    · have hp : PerB f s := per_sub (t := f.length - s) (by rw [show f.length - s + s = f.length by omega]; exact per_n) h
      exact hdv _ hp
    · exact per_sub (t := s) (by rw [show s + (f.length - s) = f.length by omega]; exact per_n) (hmul _ h)
  have hq := Nat.div_add_mod f.length d
  rw [hnd, Nat.add_zero] at hq
  have hcnt : (symL f f.length).length = f.length / d := by
    rw [sym_count h1 hs _ (Nat.le_refl _)]
    refine Nat.div_eq_of_lt_le ?_ ?_
    · rw [Nat.mul_comm, hq]; omega
    · rw [Nat.succ_mul, Nat.mul_comm, hq]; omega
  have hpos : 0 < f.length / d := Nat.div_pos h3 h1
  have hp : perF f = d := by
    unfold perF
    rw [hcnt]
    refine Nat.div_eq_of_lt_le ?_ ?_
    · exact Nat.le_of_eq hq
    · rw [Nat.succ_mul, hq]; omega
  rw [hp, hcnt]
  exact ⟨h1, h3, hnd, h2, hpos⟩
section
variable {p : Pat}
theorem lift_plen : p.lift.length = p.ros.length := lift_len _ _
theorem per_pos (hn : 0 < p.ros.length) : 0 < p.per ∧ p.per ≤ p.ros.length := by
  have := per_spec (f := p.lift) (by rw [lift_plen]; exact hn)
  rw [lift_plen] at this
  exact ⟨this.1, this.2.1⟩
theorem at_per1 (hn : 0 < p.ros.length) (i : Int) : p.at (i + p.per) = p.at i := by
  have hp := (per_spec (f := p.lift) (by rw [lift_plen]; exact hn)).2.2.2.1
  have h1 := Int.emod_nonneg i (show (p.ros.length : Int) ≠ 0 by omega)
  have h2 := Int.emod_lt_of_pos i (show (0 : Int) < p.ros.length by omega)
  have := hp (i % p.ros.length).toNat (by rw [lift_plen]; omega)
  rw [lift_plen] at this
  rw [← at_mod i, ← at_mod (i + p.per), ← mod_add_l]
  unfold Pat.at
  rw [Int.emod_emod_of_dvd _ (Int.dvd_refl _), Int.emod_emod_of_dvd _ (Int.dvd_refl _)]
  rw [← this]
  congr 1
  have e : ((i % p.ros.length).toNat + p.per : Nat) % p.ros.length = ((i % p.ros.length + p.per) % p.ros.length).toNat := by
    have : ((((i % p.ros.length).toNat + p.per : Nat) % p.ros.length : Nat) : Int) = (i % p.ros.length + p.per) % p.ros.length := by
      rw [Int.natCast_emod, Int.natCast_add, Int.toNat_of_nonneg h1]
    rw [← this]
    rfl
  exact e.symm
theorem at_perN (hn : 0 < p.ros.length) (i : Int) : ∀ k : Nat, p.at (i + p.per * k) = p.at i
  | 0 => by rw [show ((0 : Nat) : Int) = 0 from rfl, Int.mul_zero, Int.add_zero]
  | k + 1 => by rw [Int.natCast_add, Int.mul_add, ← Int.add_assoc, show (((1 : Nat) : Int)) = 1 from rfl, Int.mul_one, at_per1 hn, at_perN hn i k]
theorem at_perZ (hn : 0 < p.ros.length) (i z : Int) : p.at (i + p.per * z) = p.at i := by
  rcases Int.le_total 0 z with h | h
  · obtain ⟨k, rfl⟩ := Int.eq_ofNat_of_zero_le h
    exact at_perN hn i k
  · obtain ⟨k, hk⟩ := Int.eq_ofNat_of_zero_le (show 0 ≤ -z by omega)
    have := at_perN hn (i + p.per * z) k
    rw [← hk, Int.add_assoc, ← Int.mul_add, Int.add_right_neg, Int.mul_zero, Int.add_zero] at this
    exact this.symm
theorem at_cong (hn : 0 < p.ros.length) {s t : Int} (h : (s - t) % p.per = 0) (i : Int) : p.at (i - s) = p.at (i - t) := by
  obtain ⟨z, hz⟩ := Int.dvd_of_emod_eq_zero h
  have := at_perZ hn (i - s) z
  rw [← hz, show i - s + (s - t) = i - t by omega] at this
  exact this.symm
/-- The shifts are, up to periods, the same again after k of them. -/
def Pat.rep (p : Pat) (k : Nat) : Prop := ∀ i, k ≤ i → i < p.shifts.length → (el p.shifts i - el p.shifts (i - k)) % p.per = 0
def Pat.motOk (p : Pat) (k : Nat) : Prop := 0 < k ∧ p.shifts.length % k = 0 ∧ p.rep k
theorem motOk_all (hc : 0 < p.shifts.length) : p.motOk p.shifts.length := ⟨hc, Nat.mod_self _, fun i h1 h2 => by omega⟩
theorem mot_ex (hc : 0 < p.shifts.length) : ∃ d, p.motOk d ∧ d ≤ p.shifts.length ∧ ∀ t, t < d → ¬ p.motOk t := least_nat _ (motOk_all hc)
open Classical in
/-- How many cuts the motif has. -/
noncomputable def Pat.mot (p : Pat) : Nat := if h : 0 < p.shifts.length then (mot_ex h).choose else 1
theorem mot_spec (hc : 0 < p.shifts.length) : p.motOk p.mot ∧ p.mot ≤ p.shifts.length ∧ ∀ t, t < p.mot → ¬ p.motOk t := by
  unfold Pat.mot
  rw [dif_pos hc]
  exact (mot_ex hc).choose_spec
theorem mot_of {k : Nat} (hc : 0 < p.shifts.length) (h : p.motOk k) (hl : ∀ t, t < k → ¬ p.motOk t) : p.mot = k := by
  obtain ⟨h1, h2, h3⟩ := mot_spec hc
  rcases Nat.lt_trichotomy p.mot k with h4 | h4 | h4
  · exact (hl _ h4 h1).elim
  · exact h4
  · exact (h3 _ h4 h).elim
theorem rep_mod {m : Nat} (hm : 0 < m) (h : p.rep m) : ∀ k, k < p.shifts.length → (el p.shifts k - el p.shifts (k % m)) % p.per = 0 := by
  intro k
  induction k using Nat.strongRecOn with
  | _ k ih =>
    intro hk
    by_cases hl : k < m
    · rw [Nat.mod_eq_of_lt hl, Int.sub_self, Int.zero_emod]
    · have h1 := ih (k - m) (by omega) (by omega)
      have h2 := h k (by omega) hk
      rw [← Nat.mod_eq_sub_mod (by omega)] at h1
      have h3 := Int.dvd_add (Int.dvd_of_emod_eq_zero h2) (Int.dvd_of_emod_eq_zero h1)
      rw [show el p.shifts k - el p.shifts (k - m) + (el p.shifts (k - m) - el p.shifts (k % m)) = el p.shifts k - el p.shifts (k % m) by omega] at h3
      exact Int.emod_eq_zero_of_dvd h3
noncomputable def Pat.turn (p : Pat) : Nat := (p.phase p.mot).toNat % p.per
/-- After how many cuts the pattern closes. -/
noncomputable def Pat.closes (p : Pat) : Nat := p.mot * (p.per / Nat.gcd p.per p.turn)
theorem mot_closes (hn : 0 < p.ros.length) : p.mot ≤ p.closes := by
  have h1 := (per_pos hn).1
  have h2 : 0 < p.per / Nat.gcd p.per p.turn := Nat.div_pos (Nat.le_of_dvd h1 (Nat.gcd_dvd_left _ _)) (Nat.gcd_pos_of_pos_left _ h1)
  unfold Pat.closes
  exact Nat.le_mul_of_pos_right _ h2
/-- Among so many cuts avs the motif has, two are avs near avs the gap. -/
theorem gap_at (hn : 0 < p.ros.length) (hc : 0 < p.shifts.length) : ∃ j i : Nat, j < p.mot ∧ i < p.ros.length ∧ el (p.cut (j + 1)) i - el (p.cut j) i = p.gap := by
  obtain ⟨⟨h1, h2, h3⟩, h4, _⟩ := mot_spec hc
  have hd : 0 < p.difs.length := by
    have := dif_mem hc hn
    exact List.length_pos_of_mem this
  obtain ⟨k, i0, hk, hi0, he⟩ := mem_dif (minF_mem hd)
  have hj := Nat.mod_lt k h1
  have g1 := Int.emod_nonneg ((i0 : Int) + p.phase (k % p.mot : Nat)) (show (p.ros.length : Int) ≠ 0 by omega)
  have g2 := Int.emod_lt_of_pos ((i0 : Int) + p.phase (k % p.mot : Nat)) (show (0 : Int) < p.ros.length by omega)
  refine ⟨k % p.mot, (((i0 : Int) + p.phase (k % p.mot : Nat)) % p.ros.length).toNat, hj, by omega, ?_⟩
  rw [cut_dif hc (by omega), Int.toNat_of_nonneg g1, mod_sub_l, Int.add_sub_cancel, Int.emod_eq_of_lt (by omega) (by omega), Int.emod_eq_of_lt (by omega) (by omega)]
  unfold Pat.gap
  rw [he]
  unfold Pat.dif
  show p.adv + p.throw * (p.at ((((i0 : Int).toNat : Nat) : Int) - _) - el p.lift (i0 : Int).toNat) = _
  rw [Int.toNat_natCast, Int.toNat_natCast, at_cong hn (rep_mod h1 h3 k hk)]
end
end Go.Proofs.Ytloaefllpokkaaa
namespace Go.Proofs.Ytloaefllpokkaaa
open Go.RowKit
theorem lineAt_iff {s : Sheet} {l : List Int} {k : Nat} : lineAt s l k = true ↔ (0 ≤ el l k ∧ el l k ≤ s.rows - s.weight) ∧ (k = 0 ∨ (-s.lean ≤ el l k - el l (k - 1) ∧ el l k - el l (k - 1) ≤ s.lean)) := by
  simp [lineAt, withinB_iff]
theorem isLineB_iff {s : Sheet} {l : List Int} : isLineB s l = true ↔ (l.length : Int) = s.cols ∧ ∀ j, j < l.length → lineAt s l j = true := by
  simp [isLineB, List.all_eq_true]
theorem isLine_no {s : Sheet} {l : List Int} {k : Nat} (hk : k < l.length) (h : lineAt s l k = false) : isLineB s l = false := by
  cases e : isLineB s l with
  | false => rfl
  | true => have := (isLineB_iff.1 e).2 k hk; rw [h] at this; cases this
theorem isLine_yes {s : Sheet} {l : List Int} (h : ∀ j, j < l.length → lineAt s l j = true) : isLineB s l = decide ((l.length : Int) = s.cols) := by
  rw [Bool.eq_iff_iff, isLineB_iff, decide_eq_true_eq]
  exact ⟨fun h => h.1, fun e => ⟨e, h⟩⟩
set_option maxHeartbeats 1000000 in
theorem isLine_p (s : Sheet) (hs : s.ok = true) (l : List Int) : PCalls Try.prog 58 [s.enc, encInts l] (· = vb (isLineB s l)) := by
  (refine pcalls_know (fun I us h => rel_len (rel_arg h (j := 1) rfl)) fun hlen1 => ?_)
  have hb := Sheet.bounds hs
  refine pcalls_of_aw Try.func58 rfl (Nat.le_of_ble_eq_true rfl) ?_
  (repeat' (first | (refine ar_isq ?_; first | refine zmv ?_ | refine zas ?_ | (refine is_load ?_; first | refine zlp ?_ | refine zlr ?_) | (refine is_binOp ?_; first | refine zlss ?_ | refine zgtr ?_ | refine zeql ?_ | refine zadd ?_ | refine zsub ?_) | (refine is_fieldAddr ?_; first | refine zfp ?_ | refine zfr ?_) | (refine is_indexAddr ?_; first | refine zil ?_ | refine zis ?_ | refine zit ?_ | refine zia ?_ | refine zir ?_ | (refine zxl ?_; intro _ _ _) | (refine zxs ?_; intro _ _ _)) | (refine is_call ?_; first | refine zll ?_ | refine zls ?_ | refine zln ?_ | refine zle ?_) | (refine is_pick ?_; first | refine zpt ?_ | refine zpf ?_) | (refine is_unOp ?_; first | refine znt ?_ | refine zng ?_)) | (refine zbx ?_) | (refine zg ?_ ?_ <;> intro hg <;> first | exact absurd hg (by decide) | ((try replace hg := HG.out hg); (try dsimp only at hg); (try rw [withinB_iff] at hg); (try rw [withinB_no] at hg); (try (have _h : True := hg; clear _h hg)); first | (exfalso; omega) | skip)) | (refine zgu ?_) | (refine ar_nil ?_) | (refine aw_seq ?_) | (refine aw_skip ?_) | (refine aw_block ?_) | (refine aw_exit ?_) | (refine aw_region ?_) | (refine aw_drawn (id := 4) [(0, 0), (1, 0), (2, 0), (3, 0), (4, 0), (5, 0), (6, 1), (7, 0), (8, 0), (9, 0), (10, 0), (11, 0), (12, 0), (13, 0), (14, 0), (15, 0), (16, 0), (17, 0), (18, 0), (19, 0), (20, 0), (21, 0), (22, 0), (23, 0), (24, 1), (25, 0), (26, 0), (27, 0)] mixed (by kernel_rfl) ?_) | (refine aw_drawn (id := 4) [(0, 0), (1, 0), (2, 0), (3, 0), (4, 0), (5, 0), (6, 2), (7, 0), (8, 0), (9, 0), (10, 0), (11, 0), (12, 0), (13, 0), (14, 0), (15, 0), (16, 0), (17, 0), (18, 0), (19, 0), (20, 0), (21, 0), (22, 0), (23, 0), (24, 2), (25, 0), (26, 0), (27, 0)] mixed (by kernel_rfl) ?_) | (refine zco ?_ ?_ <;> intro hg <;> first | exact absurd hg (by decide) | ((try replace hg := HG.out hg); (try dsimp only at hg); (try rw [withinB_iff] at hg); (try rw [withinB_no] at hg); (try (have _h : True := hg; clear _h hg)); first | (exfalso; omega) | skip))))
  refine aw_for l.length (fun k => ∀ j, j < k → lineAt s l j = true) (fun k => [(0, s.enc), (1, encInts l), (2, .ptr 5 0 0 0), (7, encInts l), (8, vi l.length), (9, vi k)]) (fun _ => [.arr 5 1 (fun _ => s.enc)]) (fun j hj => by omega) ?_ ?_
  · (refine sub_to [some 0] [] rfl ?_ ?_ <;> (repeat' (first | exact trivial | refine ⟨⟨_, rfl, ?_⟩, ?_⟩ | refine ⟨bsub_snoc rfl rfl (fun _ => rfl) ?_, ?_⟩ | refine ⟨bsub_one rfl rfl ?_, ?_⟩ | refine ⟨bsub_all rfl rfl (fun _ _ => rfl) (fun _ => rfl), ?_⟩ | refine ⟨bsub_updL rfl rfl ?_ (fun _ _ _ => rfl) (fun _ => rfl), ?_⟩ | refine ⟨.inl ⟨_, _, rfl, rfl, ?_⟩, ?_⟩ | exact ⟨.inr ⟨rfl, rfl⟩, trivial⟩ | refine ⟨.inr ⟨rfl, rfl⟩, ?_⟩ | (intro _ _) | exact vz1 | exact vz2 | fail)))
  intro k hk hJ
  have hp := fun h : 0 < k => lineAt_iff.1 (hJ (k - 1) (by omega))
  by_cases h0 : 0 < k
  · have hp := hp h0
    (repeat' (first | (refine ar_isq ?_; first | refine zmv ?_ | refine zas ?_ | (refine is_load ?_; first | refine zlp ?_ | refine zlr ?_) | (refine is_binOp ?_; first | refine zlss ?_ | refine zgtr ?_ | refine zeql ?_ | refine zadd ?_ | refine zsub ?_) | (refine is_fieldAddr ?_; first | refine zfp ?_ | refine zfr ?_) | (refine is_indexAddr ?_; first | refine zil ?_ | refine zis ?_ | refine zit ?_ | refine zia ?_ | refine zir ?_ | refine zil (j := k - 1) ?_ | refine zis (j := k - 1) ?_ | refine zit (j := k - 1) ?_ | (refine zxl ?_; intro _ _ _) | (refine zxs ?_; intro _ _ _)) | (refine is_call ?_; first | refine zll ?_ | refine zls ?_ | refine zln ?_ | refine zle ?_) | (refine is_pick ?_; first | refine zpt ?_ | refine zpf ?_) | (refine is_unOp ?_; first | refine znt ?_ | refine zng ?_)) | (refine ar_pcall (own := false) fn36 rfl rfl (.cons (.closed rfl) (.cons (.closed rfl) (.cons (.closed rfl) .nil))) (within_p _ _ _) (by simp) (dc rfl) ?_; intro _ hv; subst hv) | (refine zbx ?_) | (refine zg ?_ ?_ <;> intro hg <;> first | exact absurd hg (by decide) | ((try replace hg := HG.out hg); (try dsimp only at hg); (try rw [withinB_iff] at hg); (try rw [withinB_no] at hg); (try (have _h : True := hg; clear _h hg)); first | (exfalso; omega) | skip)) | (refine zgu ?_) | (refine ar_nil ?_) | (refine aw_seq ?_) | (refine aw_skip ?_) | (refine aw_block ?_) | (refine aw_exit ?_) | (refine aw_region ?_) | (refine aw_drawn (id := 4) [(0, 0), (1, 0), (2, 0), (3, 0), (4, 0), (5, 0), (6, 1), (7, 0), (8, 0), (9, 0), (10, 0), (11, 0), (12, 0), (13, 0), (14, 0), (15, 0), (16, 0), (17, 0), (18, 0), (19, 0), (20, 0), (21, 0), (22, 0), (23, 0), (24, 1), (25, 0), (26, 0), (27, 0)] mixed (by kernel_rfl) ?_) | (refine aw_drawn (id := 4) [(0, 0), (1, 0), (2, 0), (3, 0), (4, 0), (5, 0), (6, 2), (7, 0), (8, 0), (9, 0), (10, 0), (11, 0), (12, 0), (13, 0), (14, 0), (15, 0), (16, 0), (17, 0), (18, 0), (19, 0), (20, 0), (21, 0), (22, 0), (23, 0), (24, 2), (25, 0), (26, 0), (27, 0)] mixed (by kernel_rfl) ?_) | (refine zco ?_ ?_ <;> intro hg <;> first | exact absurd hg (by decide) | ((try replace hg := HG.out hg); (try dsimp only at hg); (try rw [withinB_iff] at hg); (try rw [withinB_no] at hg); (try (have _h : True := hg; clear _h hg)); first | (exfalso; omega) | skip))))
    all_goals first
      | (((first | refine loop_next (by omega) ?_ ?_ | refine (show _ ∧ _ ∧ SubOf _ _ _ _ _ _ from And.intro (by omega) (And.intro ?_ ?_))); (focus (((exact all_step hJ (lineAt_iff.2 (by omega)))); done)); (focus ((refine sub_to [some 0] [] rfl ?_ ?_ <;> (repeat' (first | exact trivial | refine ⟨⟨_, rfl, ?_⟩, ?_⟩ | refine ⟨bsub_snoc rfl rfl (fun _ => rfl) ?_, ?_⟩ | refine ⟨bsub_one rfl rfl ?_, ?_⟩ | refine ⟨bsub_all rfl rfl (fun _ _ => rfl) (fun _ => rfl), ?_⟩ | refine ⟨bsub_updL rfl rfl ?_ (fun _ _ _ => rfl) (fun _ => rfl), ?_⟩ | refine ⟨.inl ⟨_, _, rfl, rfl, ?_⟩, ?_⟩ | exact ⟨.inr ⟨rfl, rfl⟩, trivial⟩ | refine ⟨.inr ⟨rfl, rfl⟩, ?_⟩ | (intro _ _) | exact vz1 | exact vz2 | fail))); done))))
      | ((refine aw_ret ?_; (repeat (first | refine ret_then ?_ | refine ret_block ?_)); refine bq1 rfl ⟨?_, rfl⟩); first | (rw [isLine_no (k := k) (by omega) (by rw [← Bool.not_eq_true, lineAt_iff]; omega)]; rfl) | (obtain rfl : k = l.length := (by omega); rw [isLine_yes hJ]; rfl))
  · (repeat' (first | (refine ar_isq ?_; first | refine zmv ?_ | refine zas ?_ | (refine is_load ?_; first | refine zlp ?_ | refine zlr ?_) | (refine is_binOp ?_; first | refine zlss ?_ | refine zgtr ?_ | refine zeql ?_ | refine zadd ?_ | refine zsub ?_) | (refine is_fieldAddr ?_; first | refine zfp ?_ | refine zfr ?_) | (refine is_indexAddr ?_; first | refine zil ?_ | refine zis ?_ | refine zit ?_ | refine zia ?_ | refine zir ?_ | refine zil (j := k - 1) ?_ | refine zis (j := k - 1) ?_ | refine zit (j := k - 1) ?_ | (refine zxl ?_; intro _ _ _) | (refine zxs ?_; intro _ _ _)) | (refine is_call ?_; first | refine zll ?_ | refine zls ?_ | refine zln ?_ | refine zle ?_) | (refine is_pick ?_; first | refine zpt ?_ | refine zpf ?_) | (refine is_unOp ?_; first | refine znt ?_ | refine zng ?_)) | (refine ar_pcall (own := false) fn36 rfl rfl (.cons (.closed rfl) (.cons (.closed rfl) (.cons (.closed rfl) .nil))) (within_p _ _ _) (by simp) (dc rfl) ?_; intro _ hv; subst hv) | (refine zbx ?_) | (refine zg ?_ ?_ <;> intro hg <;> first | exact absurd hg (by decide) | ((try replace hg := HG.out hg); (try dsimp only at hg); (try rw [withinB_iff] at hg); (try rw [withinB_no] at hg); (try (have _h : True := hg; clear _h hg)); first | (exfalso; omega) | skip)) | (refine zgu ?_) | (refine ar_nil ?_) | (refine aw_seq ?_) | (refine aw_skip ?_) | (refine aw_block ?_) | (refine aw_exit ?_) | (refine aw_region ?_) | (refine aw_drawn (id := 4) [(0, 0), (1, 0), (2, 0), (3, 0), (4, 0), (5, 0), (6, 1), (7, 0), (8, 0), (9, 0), (10, 0), (11, 0), (12, 0), (13, 0), (14, 0), (15, 0), (16, 0), (17, 0), (18, 0), (19, 0), (20, 0), (21, 0), (22, 0), (23, 0), (24, 1), (25, 0), (26, 0), (27, 0)] mixed (by kernel_rfl) ?_) | (refine aw_drawn (id := 4) [(0, 0), (1, 0), (2, 0), (3, 0), (4, 0), (5, 0), (6, 2), (7, 0), (8, 0), (9, 0), (10, 0), (11, 0), (12, 0), (13, 0), (14, 0), (15, 0), (16, 0), (17, 0), (18, 0), (19, 0), (20, 0), (21, 0), (22, 0), (23, 0), (24, 2), (25, 0), (26, 0), (27, 0)] mixed (by kernel_rfl) ?_) | (refine zco ?_ ?_ <;> intro hg <;> first | exact absurd hg (by decide) | ((try replace hg := HG.out hg); (try dsimp only at hg); (try rw [withinB_iff] at hg); (try rw [withinB_no] at hg); (try (have _h : True := hg; clear _h hg)); first | (exfalso; omega) | skip))))
    all_goals first
      | (((first | refine loop_next (by omega) ?_ ?_ | refine (show _ ∧ _ ∧ SubOf _ _ _ _ _ _ from And.intro (by omega) (And.intro ?_ ?_))); (focus (((exact all_step hJ (lineAt_iff.2 (by omega)))); done)); (focus ((refine sub_to [some 0] [] rfl ?_ ?_ <;> (repeat' (first | exact trivial | refine ⟨⟨_, rfl, ?_⟩, ?_⟩ | refine ⟨bsub_snoc rfl rfl (fun _ => rfl) ?_, ?_⟩ | refine ⟨bsub_one rfl rfl ?_, ?_⟩ | refine ⟨bsub_all rfl rfl (fun _ _ => rfl) (fun _ => rfl), ?_⟩ | refine ⟨bsub_updL rfl rfl ?_ (fun _ _ _ => rfl) (fun _ => rfl), ?_⟩ | refine ⟨.inl ⟨_, _, rfl, rfl, ?_⟩, ?_⟩ | exact ⟨.inr ⟨rfl, rfl⟩, trivial⟩ | refine ⟨.inr ⟨rfl, rfl⟩, ?_⟩ | (intro _ _) | exact vz1 | exact vz2 | fail))); done))))
      | ((refine aw_ret ?_; (repeat (first | refine ret_then ?_ | refine ret_block ?_)); refine bq1 rfl ⟨?_, rfl⟩); first | (rw [isLine_no (k := k) (by omega) (by rw [← Bool.not_eq_true, lineAt_iff]; omega)]; rfl) | (obtain rfl : k = l.length := (by omega); rw [isLine_yes hJ]; rfl))
end Go.Proofs.Ytloaefllpokkaaa
namespace Go.Proofs.Ytloaefllpokkaaa
open Go.RowKit
set_option maxHeartbeats 1000000 in
theorem everyRows_p (b : List (List Int)) {g : FuncId} {cap : List V} (hfn : FnOk Try.prog g) (hcap : V.closed.all cap = true) (p : List Int → Bool) (hc : ∀ l, l ∈ b → PCalls Try.prog g (encInts l :: cap) (· = vb (p l))) :
    PCalls Try.prog 56 [encRows b, .fn (.func g) [] cap] (· = vb (b.all p)) := by
  (refine pcalls_know (fun I us h => rel_len (rel_arg h (j := 0) rfl)) fun hlen0 => ?_)
  refine pcalls_of_aw Try.func56 rfl (Nat.le_of_ble_eq_true rfl) ?_
  (repeat' (first | (refine ar_isq ?_; first | refine zmv ?_ | refine zas ?_ | (refine is_load ?_; first | refine zlp ?_ | refine zlr ?_) | (refine is_binOp ?_; first | refine zlss ?_ | refine zadd ?_) | (refine is_indexAddr ?_; first | refine zil ?_ | refine zis ?_ | refine zit ?_ | refine zia ?_ | refine zir ?_ | (refine zxl ?_; intro _ _ _) | (refine zxs ?_; intro _ _ _)) | (refine is_call ?_; first | refine zll ?_ | refine zls ?_ | refine zln ?_ | refine zle ?_) | refine znt ?_) | (refine ar_nil ?_) | (refine aw_seq ?_) | (refine aw_skip ?_) | (refine aw_block ?_) | (refine aw_exit ?_) | (refine aw_region ?_) | (refine zco ?_ ?_ <;> intro hg <;> first | exact absurd hg (by decide) | ((try replace hg := HG.out hg); (try dsimp only at hg); (try rw [withinB_iff] at hg); (try rw [withinB_no] at hg); (try (have _h : True := hg; clear _h hg)); first | (exfalso; omega) | skip))))
  refine aw_for b.length (fun k => ∀ j, j < k → p (el b j) = true) (fun k => [(1, .fn (.func g) [] cap), (7, encRows b), (8, vi b.length), (9, vi k)]) (fun _ => []) (fun j hj => by omega) ?_ ?_
  · (refine sub_to [] [] rfl ?_ ?_ <;> (repeat' (first | exact trivial | refine ⟨⟨_, rfl, ?_⟩, ?_⟩ | refine ⟨bsub_snoc rfl rfl (fun _ => rfl) ?_, ?_⟩ | refine ⟨bsub_one rfl rfl ?_, ?_⟩ | refine ⟨bsub_all rfl rfl (fun _ _ => rfl) (fun _ => rfl), ?_⟩ | refine ⟨bsub_updL rfl rfl ?_ (fun _ _ _ => rfl) (fun _ => rfl), ?_⟩ | refine ⟨.inl ⟨_, _, rfl, rfl, ?_⟩, ?_⟩ | exact ⟨.inr ⟨rfl, rfl⟩, trivial⟩ | refine ⟨.inr ⟨rfl, rfl⟩, ?_⟩ | (intro _ _) | exact vz1 | exact vz2 | fail)))
  intro k hk hJ
  by_cases hkn : k < b.length
  · (repeat' (first | (refine ar_isq ?_; first | refine zmv ?_ | refine zas ?_ | (refine is_load ?_; first | refine zlp ?_ | refine zlr ?_) | (refine is_binOp ?_; first | refine zlss ?_ | refine zadd ?_) | (refine is_indexAddr ?_; first | refine zil ?_ | refine zis ?_ | refine zit ?_ | refine zia ?_ | refine zir ?_ | (refine zxl ?_; intro _ _ _) | (refine zxs ?_; intro _ _ _)) | (refine is_call ?_; first | refine zll ?_ | refine zls ?_ | refine zln ?_ | refine zle ?_) | refine znt ?_) | (refine ar_pcall (own := false) hfn rfl rfl (args_closed hcap) (hc _ (el_mem hkn)) (by simp) (dc rfl) ?_; intro _ hv; subst hv) | (refine ar_nil ?_) | (refine aw_seq ?_) | (refine aw_skip ?_) | (refine aw_block ?_) | (refine aw_exit ?_) | (refine aw_region ?_) | (refine zco ?_ ?_ <;> intro hg <;> first | exact absurd hg (by decide) | ((try replace hg := HG.out hg); (try dsimp only at hg); (try rw [withinB_iff] at hg); (try rw [withinB_no] at hg); (try (have _h : True := hg; clear _h hg)); first | (exfalso; omega) | skip))))
    all_goals first
      | (exfalso; omega)
      | ((first | refine loop_next (by omega) ?_ ?_ | refine (show _ ∧ _ ∧ SubOf _ _ _ _ _ _ from And.intro (by omega) (And.intro ?_ ?_))); (focus ((exact all_step hJ (by assumption)); done)); (focus ((refine sub_to [] [] rfl ?_ ?_ <;> (repeat' (first | exact trivial | refine ⟨⟨_, rfl, ?_⟩, ?_⟩ | refine ⟨bsub_snoc rfl rfl (fun _ => rfl) ?_, ?_⟩ | refine ⟨bsub_one rfl rfl ?_, ?_⟩ | refine ⟨bsub_all rfl rfl (fun _ _ => rfl) (fun _ => rfl), ?_⟩ | refine ⟨bsub_updL rfl rfl ?_ (fun _ _ _ => rfl) (fun _ => rfl), ?_⟩ | refine ⟨.inl ⟨_, _, rfl, rfl, ?_⟩, ?_⟩ | exact ⟨.inr ⟨rfl, rfl⟩, trivial⟩ | refine ⟨.inr ⟨rfl, rfl⟩, ?_⟩ | (intro _ _) | exact vz1 | exact vz2 | fail))); done)))
      | ((refine aw_ret ?_; (repeat (first | refine ret_then ?_ | refine ret_block ?_)); refine bq1 rfl ⟨?_, rfl⟩); rw [not_all_el hkn (by simp_all)]; rfl)
  · (repeat' (first | (refine ar_isq ?_; first | refine zmv ?_ | refine zas ?_ | (refine is_load ?_; first | refine zlp ?_ | refine zlr ?_) | (refine is_binOp ?_; first | refine zlss ?_ | refine zadd ?_) | (refine is_indexAddr ?_; first | refine zil ?_ | refine zis ?_ | refine zit ?_ | refine zia ?_ | refine zir ?_ | (refine zxl ?_; intro _ _ _) | (refine zxs ?_; intro _ _ _)) | (refine is_call ?_; first | refine zll ?_ | refine zls ?_ | refine zln ?_ | refine zle ?_) | refine znt ?_) | (refine ar_nil ?_) | (refine aw_seq ?_) | (refine aw_skip ?_) | (refine aw_block ?_) | (refine aw_exit ?_) | (refine aw_region ?_) | (refine zco ?_ ?_ <;> intro hg <;> first | exact absurd hg (by decide) | ((try replace hg := HG.out hg); (try dsimp only at hg); (try rw [withinB_iff] at hg); (try rw [withinB_no] at hg); (try (have _h : True := hg; clear _h hg)); first | (exfalso; omega) | skip))))
    all_goals first | omega | ((refine aw_ret ?_; (repeat (first | refine ret_then ?_ | refine ret_block ?_)); refine bq1 rfl ⟨?_, rfl⟩); rw [all_el (fun j hj => hJ j (by omega))]; rfl)
theorem lines_p (s : Sheet) (hs : s.ok = true) (b : List (List Int)) : PCalls Try.prog 38 [s.enc, encRows b] (· = vb (b.all (isLineB s))) := by
  have h1 : ∀ l, l ∈ b → PCalls Try.prog 57 (encInts l :: [.ref s.enc 0]) (· = vb (isLineB s l)) := fun l hm => by
    refine pcalls_of_aw Try.func57 rfl (Nat.le_of_ble_eq_true rfl) ?_
    (repeat' (first | (refine ar_isq ?_; first | refine zmv ?_ | refine zas ?_ | (refine is_load ?_; first | refine zlp ?_ | refine zlr ?_)) | (refine ar_pcall (own := false) fn58 rfl rfl (.cons (.closed rfl) (.cons (.closed rfl) .nil)) (isLine_p s hs l) (by simp) (dc rfl) ?_; intro _ hv; subst hv) | (refine ar_nil ?_) | (refine aw_seq ?_) | (refine aw_skip ?_) | (refine aw_block ?_) | (refine aw_exit ?_) | (refine aw_region ?_) | (refine zco ?_ ?_ <;> intro hg <;> first | exact absurd hg (by decide) | ((try replace hg := HG.out hg); (try dsimp only at hg); (try rw [withinB_iff] at hg); (try rw [withinB_no] at hg); (try (have _h : True := hg; clear _h hg)); first | (exfalso; omega) | skip))))
    (refine aw_ret ?_; (repeat (first | refine ret_then ?_ | refine ret_block ?_)); refine bq1 rfl ⟨?_, rfl⟩)
    rfl
  refine pcalls_of_aw Try.func38 rfl (Nat.le_of_ble_eq_true rfl) ?_
  ((repeat refine aw_seq ?_); (first | (refine aw_region ?_)); (repeat' (first | (refine ar_isq ?_; first | refine zmv ?_ | refine zas ?_ | refine zmf ?_) | (refine zbx ?_) | (refine ar_nil ?_))))
  (refine aw_mono_r (env' := [(0, s.enc), (1, encRows b), (2, .ref s.enc 0)]) (H' := []) ?_ ?_; (focus ((refine sub_to [] [0] rfl ?_ ?_ <;> (repeat' (first | exact trivial | refine ⟨⟨_, rfl, ?_⟩, ?_⟩ | refine ⟨bsub_snoc rfl rfl (fun _ => rfl) ?_, ?_⟩ | refine ⟨bsub_one rfl rfl ?_, ?_⟩ | refine ⟨bsub_all rfl rfl (fun _ _ => rfl) (fun _ => rfl), ?_⟩ | refine ⟨bsub_updL rfl rfl ?_ (fun _ _ _ => rfl) (fun _ => rfl), ?_⟩ | refine ⟨.inl ⟨_, _, rfl, rfl, ?_⟩, ?_⟩ | exact ⟨.inr ⟨rfl, rfl⟩, trivial⟩ | refine ⟨.inr ⟨rfl, rfl⟩, ?_⟩ | (intro _ _) | exact vz1 | exact vz2 | fail))); done)))
  (repeat' (first | (refine ar_isq ?_; first | refine zmv ?_ | refine zas ?_ | refine zmf ?_) | (refine ar_pcall (own := false) fn56 rfl rfl (.cons (.closed rfl) (.cons (.closed rfl) .nil)) (everyRows_p b fn57 rfl _ h1) (by simp) (dc rfl) ?_; intro _ hv; subst hv) | (refine zbx ?_) | (refine ar_nil ?_) | (refine aw_seq ?_) | (refine aw_skip ?_) | (refine aw_block ?_) | (refine aw_exit ?_) | (refine aw_region ?_) | (refine zco ?_ ?_ <;> intro hg <;> first | exact absurd hg (by decide) | ((try replace hg := HG.out hg); (try dsimp only at hg); (try rw [withinB_iff] at hg); (try rw [withinB_no] at hg); (try (have _h : True := hg; clear _h hg)); first | (exfalso; omega) | skip))))
  (refine aw_ret ?_; (repeat (first | refine ret_then ?_ | refine ret_block ?_)); refine bq1 rfl ⟨?_, rfl⟩)
  rfl
end Go.Proofs.Ytloaefllpokkaaa
namespace Go.Proofs.Ytloaefllpokkaaa
open Go.RowKit
structure Clash where
  upper : Int
  lower : Int
  col : Int
instance : Inhabited Clash := ⟨⟨0, 0, 0⟩⟩
def Clash.enc (x : Clash) : V := .agg [vi x.upper, vi x.lower, vi x.col]
abbrev encClashes (l : List Clash) : V := LV 3 Clash.enc l
def nearAt (s : Sheet) (a b : List Int) (j : Nat) : Bool := decide (el b j - el a j < s.weight + s.clear)
def clashF (s : Sheet) (a b : List Int) : Int := match (List.range s.cols.toNat).find? (nearAt s a b) with | some j => (j : Int) | none => -1
theorem clashF_at {s : Sheet} {a b : List Int} {k : Nat} (hk : (k : Int) < s.cols) (h0 : ∀ j, j < k → nearAt s a b j = false) (h : nearAt s a b k = true) : clashF s a b = k := by
  have : (List.range s.cols.toNat).find? (nearAt s a b) = some k := by
    rw [List.find?_range_eq_some]
    exact ⟨h, by simp; omega, fun j hj => by simp [h0 j hj]⟩
  unfold clashF
  rw [this]
theorem clashF_none {s : Sheet} {a b : List Int} (h0 : ∀ j : Nat, (j : Int) < s.cols → nearAt s a b j = false) : clashF s a b = -1 := by
  have : (List.range s.cols.toNat).find? (nearAt s a b) = none := by
    rw [List.find?_eq_none]
    intro j hj
    rw [List.mem_range] at hj
    simp [h0 j (by omega)]
  unfold clashF
  rw [this]
def clashAt (s : Sheet) (b : List (List Int)) (i : Nat) : List Clash := if clashF s (el b i) (el b (i + 1)) < 0 then [] else [⟨i, (i : Int) + 1, clashF s (el b i) (el b (i + 1))⟩]
def clashesTo (s : Sheet) (b : List (List Int)) (k : Nat) : List Clash := (List.range k).flatMap (clashAt s b)
theorem clashesTo_succ (s : Sheet) (b : List (List Int)) (k : Nat) : clashesTo s b (k + 1) = clashesTo s b k ++ clashAt s b k := by simp [clashesTo, List.range_succ]
theorem clashesTo_len (s : Sheet) (b : List (List Int)) : ∀ k, (clashesTo s b k).length ≤ k
  | 0 => by simp [clashesTo]
  | k + 1 => by
    rw [clashesTo_succ, List.length_append]
    have := clashesTo_len s b k
    have : (clashAt s b k).length ≤ 1 := by unfold clashAt; split <;> simp
    omega
def clashesF (s : Sheet) (b : List (List Int)) : List Clash := clashesTo s b (b.length - 1)
theorem clashesTo_yes {s : Sheet} {b : List (List Int)} {k x : Nat} (hx : (x : Int) < s.cols) (h0 : ∀ j, j < x → nearAt s (el b k) (el b (k + 1)) j = false) (h : nearAt s (el b k) (el b (k + 1)) x = true) : clashesTo s b (k + 1) = clashesTo s b k ++ [⟨k, (k : Int) + 1, x⟩] := by
  have e := clashF_at hx h0 h
  rw [clashesTo_succ, clashAt, if_neg (by omega), e]
theorem clashesTo_no {s : Sheet} {b : List (List Int)} {k : Nat} (h0 : ∀ j : Nat, (j : Int) < s.cols → nearAt s (el b k) (el b (k + 1)) j = false) : clashesTo s b (k + 1) = clashesTo s b k := by
  have e := clashF_none h0
  rw [clashesTo_succ, clashAt, if_pos (by omega), List.append_nil]
theorem isLine_len {s : Sheet} {l : List Int} (h : isLineB s l = true) : (l.length : Int) = s.cols := (isLineB_iff.1 h).1
theorem isLine_at {s : Sheet} {l : List Int} (h : isLineB s l = true) {j : Nat} (hj : j < l.length) : 0 ≤ el l j ∧ el l j ≤ s.rows - s.weight := (lineAt_iff.1 ((isLineB_iff.1 h).2 j hj)).1
set_option maxHeartbeats 1000000 in
theorem clashes_p (s : Sheet) (hs : s.ok = true) (b : List (List Int)) (hl : b.all (isLineB s) = true) (h12 : b.length ≤ 12) : PCalls Try.prog 39 [s.enc, encRows b] (· = encClashes (clashesF s b)) := by
  have hb := Sheet.bounds hs
  refine pcalls_of_aw Try.func39 rfl (Nat.le_of_ble_eq_true rfl) ?_
  (repeat' (first | (refine ar_isq ?_; first | refine zmv ?_ | refine zas ?_ | (refine is_load ?_; first | refine zlp ?_ | refine zlr ?_) | (refine is_binOp ?_; first | refine zlss ?_ | refine zadd ?_ | refine zsub ?_) | (refine is_fieldAddr ?_; first | refine zfp ?_ | refine zfr ?_) | (refine is_indexAddr ?_; first | refine zil ?_ | refine zis ?_ | refine zit ?_ | refine zia ?_ | refine zir ?_ | (refine zxl ?_; intro _ _ _) | (refine zxs ?_; intro _ _ _)) | (refine is_call ?_; first | refine zll ?_ | refine zls ?_ | refine zln ?_ | refine zle ?_) | (refine ar_buildS (ds := ?ds) (by exact ty rfl) (by exact rfl) (by exact sizes rfl) (by exact rfl) (by exact rfl) (by exact build rfl) (by exact dc rfl) ?hn ?h; (case hn => (dsimp only [cells_s, cells_emp, cells_agg, cells_list, cells_sl, cells_ptr, cells_ref, cells_fn, cells_vi, cells_vb, cells_vnil, constV, List.map_cons, List.map_nil, List.take_succ_cons, List.take_zero, List.drop_succ_cons, List.drop_zero, List.cons_append, List.nil_append, List.append_nil, LV_cells]; exact rfl)))) | (refine zbx ?_) | (refine zb1 ?_) | (refine zb0 ?_) | (refine zapoo ?_) | (refine zapol ?_) | (refine zapno ?_) | (refine zapnl ?_) | (refine zapeo ?_) | (refine zapel ?_) | (refine ar_nil ?_) | (refine aw_seq ?_) | (refine aw_skip ?_) | (refine aw_block ?_) | (refine aw_exit ?_) | (refine aw_region ?_) | (refine aw_drawn (id := 8) [(0, 0), (1, 0), (2, 0), (3, 0), (4, 0), (5, 0), (6, 0), (7, 0), (8, 0), (9, 0), (10, 0), (11, 0), (12, 0), (13, 0), (14, 0), (15, 0)] mixed (by kernel_rfl) ?_) | (refine zco ?_ ?_ <;> intro hg <;> first | exact absurd hg (by decide) | ((try replace hg := HG.out hg); (try dsimp only at hg); (try (have _h : True := hg; clear _h hg)); first | (exfalso; omega) | skip))))
  refine aw_for (b.length - 1) (fun _ => True) (fun k => [(1, encRows b), (2, .ptr 5 0 0 0), (5, .sl 3 1 0 (clashesTo s b k).length), (6, vi (k + 1))]) (fun k => [.arr 5 1 (fun _ => s.enc), LB 3 Clash.enc (clashesTo s b k)]) trivial ?_ ?_
  · (refine sub_to [some 0, none] [] rfl ?_ ?_ <;> (repeat' (first | exact trivial | refine ⟨⟨_, rfl, ?_⟩, ?_⟩ | refine ⟨bsub_snoc rfl rfl (fun _ => rfl) ?_, ?_⟩ | refine ⟨bsub_one rfl rfl ?_, ?_⟩ | refine ⟨bsub_all rfl rfl (fun _ _ => rfl) (fun _ => rfl), ?_⟩ | refine ⟨bsub_updL rfl rfl ?_ (fun _ _ _ => rfl) (fun _ => rfl), ?_⟩ | refine ⟨.inl ⟨_, _, rfl, rfl, ?_⟩, ?_⟩ | exact ⟨.inr ⟨rfl, rfl⟩, trivial⟩ | refine ⟨.inr ⟨rfl, rfl⟩, ?_⟩ | (intro _ _) | exact vz1 | exact vz2 | fail)))
  intro k hk _
  by_cases hlt : k + 1 < b.length
  · have hli := isLine_len (of_all_el hl hlt)
    have hlj := isLine_len (of_all_el hl (k := k) (by omega))
    have hle := clashesTo_len s b k
    (repeat' (first | (refine ar_isq ?_; first | refine zmv ?_ | refine zas ?_ | (refine is_load ?_; first | refine zlp ?_ | refine zlr ?_) | (refine is_binOp ?_; first | refine zlss ?_ | refine zadd ?_ | refine zsub ?_) | (refine is_fieldAddr ?_; first | refine zfp ?_ | refine zfr ?_) | (refine is_indexAddr ?_; first | refine zil ?_ | refine zis ?_ | refine zit ?_ | refine zia ?_ | refine zir ?_ | refine zil (j := k + 1) ?_ | refine zis (j := k + 1) ?_ | refine zit (j := k + 1) ?_ | refine zil (j := k) ?_ | refine zis (j := k) ?_ | refine zit (j := k) ?_ | (refine zxl ?_; intro _ _ _) | (refine zxs ?_; intro _ _ _)) | (refine is_call ?_; first | refine zll ?_ | refine zls ?_ | refine zln ?_ | refine zle ?_) | (refine ar_buildS (ds := ?ds) (by exact ty rfl) (by exact rfl) (by exact sizes rfl) (by exact rfl) (by exact rfl) (by exact build rfl) (by exact dc rfl) ?hn ?h; (case hn => (dsimp only [cells_s, cells_emp, cells_agg, cells_list, cells_sl, cells_ptr, cells_ref, cells_fn, cells_vi, cells_vb, cells_vnil, constV, List.map_cons, List.map_nil, List.take_succ_cons, List.take_zero, List.drop_succ_cons, List.drop_zero, List.cons_append, List.nil_append, List.append_nil, LV_cells]; exact rfl)))) | (refine zbx ?_) | (refine zb1 ?_) | (refine zb0 ?_) | (refine zapoo ?_) | (refine zapol ?_) | (refine zapno ?_) | (refine zapnl ?_) | (refine zapeo ?_) | (refine zapel ?_) | (refine ar_nil ?_) | (refine aw_seq ?_) | (refine aw_skip ?_) | (refine aw_block ?_) | (refine aw_exit ?_) | (refine aw_region ?_) | (refine aw_drawn (id := 8) [(0, 0), (1, 0), (2, 0), (3, 0), (4, 0), (5, 0), (6, 0), (7, 0), (8, 0), (9, 0), (10, 0), (11, 0), (12, 0), (13, 0), (14, 0), (15, 0)] mixed (by kernel_rfl) ?_) | (refine zco ?_ ?_ <;> intro hg <;> first | exact absurd hg (by decide) | ((try replace hg := HG.out hg); (try dsimp only at hg); (try (have _h : True := hg; clear _h hg)); first | (exfalso; omega) | skip))))
    all_goals (try (exfalso; omega))
    refine aw_for (el b (k + 1)).length (fun x => ∀ j, j < x → nearAt s (el b k) (el b (k + 1)) j = false) (fun x => [(1, encRows b), (2, .ptr 5 0 0 0), (5, .sl 3 1 0 (clashesTo s b k).length), (6, vi (k + 1)), (18, encInts (el b (k + 1))), (19, vi (el b (k + 1)).length), (20, vi x)]) (fun _ => [.arr 5 1 (fun _ => s.enc), LB 3 Clash.enc (clashesTo s b k)]) (fun j hj => by omega) ?_ ?_
    · (refine sub_to [some 0, some 1] [] rfl ?_ ?_ <;> (repeat' (first | exact trivial | refine ⟨⟨_, rfl, ?_⟩, ?_⟩ | refine ⟨bsub_snoc rfl rfl (fun _ => rfl) ?_, ?_⟩ | refine ⟨bsub_one rfl rfl ?_, ?_⟩ | refine ⟨bsub_all rfl rfl (fun _ _ => rfl) (fun _ => rfl), ?_⟩ | refine ⟨bsub_updL rfl rfl ?_ (fun _ _ _ => rfl) (fun _ => rfl), ?_⟩ | refine ⟨.inl ⟨_, _, rfl, rfl, ?_⟩, ?_⟩ | exact ⟨.inr ⟨rfl, rfl⟩, trivial⟩ | refine ⟨.inr ⟨rfl, rfl⟩, ?_⟩ | (intro _ _) | exact vz1 | exact vz2 | fail)))
    intro x hx hN
    by_cases hltx : x < (el b (k + 1)).length
    · have h1 := isLine_at (of_all_el hl hlt) (j := x) (by omega)
      have h2 := isLine_at (of_all_el hl (k := k) (by omega)) (j := x) (by omega)
      (repeat' (first | (refine ar_isq ?_; first | refine zmv ?_ | refine zas ?_ | (refine is_load ?_; first | refine zlp ?_ | refine zlr ?_) | (refine is_binOp ?_; first | refine zlss ?_ | refine zadd ?_ | refine zsub ?_) | (refine is_fieldAddr ?_; first | refine zfp ?_ | refine zfr ?_) | (refine is_indexAddr ?_; first | refine zil ?_ | refine zis ?_ | refine zit ?_ | refine zia ?_ | refine zir ?_ | refine zil (j := k) ?_ | refine zis (j := k) ?_ | refine zit (j := k) ?_ | refine zil (j := x) ?_ | refine zis (j := x) ?_ | refine zit (j := x) ?_ | (refine zxl ?_; intro _ _ _) | (refine zxs ?_; intro _ _ _)) | (refine is_call ?_; first | refine zll ?_ | refine zls ?_ | refine zln ?_ | refine zle ?_) | (refine ar_buildS (ds := ?ds) (by exact ty rfl) (by exact rfl) (by exact sizes rfl) (by exact rfl) (by exact rfl) (by exact build rfl) (by exact dc rfl) ?hn ?h; (case hn => (dsimp only [cells_s, cells_emp, cells_agg, cells_list, cells_sl, cells_ptr, cells_ref, cells_fn, cells_vi, cells_vb, cells_vnil, constV, List.map_cons, List.map_nil, List.take_succ_cons, List.take_zero, List.drop_succ_cons, List.drop_zero, List.cons_append, List.nil_append, List.append_nil, LV_cells]; exact rfl)))) | (refine zbx ?_) | (refine zb1 ?_) | (refine zb0 ?_) | (refine zapoo ?_) | (refine zapol ?_) | (refine zapno ?_) | (refine zapnl ?_) | (refine zapeo ?_) | (refine zapel ?_) | (refine ar_nil ?_) | (refine aw_seq ?_) | (refine aw_skip ?_) | (refine aw_block ?_) | (refine aw_exit ?_) | (refine aw_region ?_) | (refine aw_drawn (id := 8) [(0, 0), (1, 0), (2, 0), (3, 0), (4, 0), (5, 0), (6, 0), (7, 0), (8, 0), (9, 0), (10, 0), (11, 0), (12, 0), (13, 0), (14, 0), (15, 0)] mixed (by kernel_rfl) ?_) | (refine zco ?_ ?_ <;> intro hg <;> first | exact absurd hg (by decide) | ((try replace hg := HG.out hg); (try dsimp only at hg); (try (have _h : True := hg; clear _h hg)); first | (exfalso; omega) | skip))))
      all_goals first
        | (exfalso; omega)
        | (((first | refine loop_next (by omega) ?_ ?_ | refine (show _ ∧ _ ∧ SubOf _ _ _ _ _ _ from And.intro (by omega) (And.intro ?_ ?_))); (focus ((exact all_step hN (by simp [nearAt]; omega)); done)); (focus ((refine sub_to [some 0, some 1] [] rfl ?_ ?_ <;> (repeat' (first | exact trivial | refine ⟨⟨_, rfl, ?_⟩, ?_⟩ | refine ⟨bsub_snoc rfl rfl (fun _ => rfl) ?_, ?_⟩ | refine ⟨bsub_one rfl rfl ?_, ?_⟩ | refine ⟨bsub_all rfl rfl (fun _ _ => rfl) (fun _ => rfl), ?_⟩ | refine ⟨bsub_updL rfl rfl ?_ (fun _ _ _ => rfl) (fun _ => rfl), ?_⟩ | refine ⟨.inl ⟨_, _, rfl, rfl, ?_⟩, ?_⟩ | exact ⟨.inr ⟨rfl, rfl⟩, trivial⟩ | refine ⟨.inr ⟨rfl, rfl⟩, ?_⟩ | (intro _ _) | exact vz1 | exact vz2 | fail))); done))))
        | (rw [clashesTo_yes (x := x) (by omega) hN (by simp [nearAt]; omega)]; ((first | refine loop_next (by omega) ?_ ?_ | refine (show _ ∧ _ ∧ SubOf _ _ _ _ _ _ from And.intro (by omega) (And.intro ?_ ?_))); (focus ((trivial); done)); (focus ((refine sub_to [some 0, some 3] [] rfl ?_ ?_ <;> (repeat' (first | exact trivial | refine ⟨⟨_, rfl, ?_⟩, ?_⟩ | refine ⟨bsub_snoc rfl rfl (fun _ => rfl) ?_, ?_⟩ | refine ⟨bsub_one rfl rfl ?_, ?_⟩ | refine ⟨bsub_all rfl rfl (fun _ _ => rfl) (fun _ => rfl), ?_⟩ | refine ⟨bsub_updL rfl rfl ?_ (fun _ _ _ => rfl) (fun _ => rfl), ?_⟩ | refine ⟨.inl ⟨_, _, rfl, rfl, ?_⟩, ?_⟩ | exact ⟨.inr ⟨rfl, rfl⟩, trivial⟩ | refine ⟨.inr ⟨rfl, rfl⟩, ?_⟩ | (intro _ _) | exact vz1 | exact vz2 | fail))); done))))
    · (repeat' (first | (refine ar_isq ?_; first | refine zmv ?_ | refine zas ?_ | (refine is_load ?_; first | refine zlp ?_ | refine zlr ?_) | (refine is_binOp ?_; first | refine zlss ?_ | refine zadd ?_ | refine zsub ?_) | (refine is_fieldAddr ?_; first | refine zfp ?_ | refine zfr ?_) | (refine is_indexAddr ?_; first | refine zil ?_ | refine zis ?_ | refine zit ?_ | refine zia ?_ | refine zir ?_ | (refine zxl ?_; intro _ _ _) | (refine zxs ?_; intro _ _ _)) | (refine is_call ?_; first | refine zll ?_ | refine zls ?_ | refine zln ?_ | refine zle ?_) | (refine ar_buildS (ds := ?ds) (by exact ty rfl) (by exact rfl) (by exact sizes rfl) (by exact rfl) (by exact rfl) (by exact build rfl) (by exact dc rfl) ?hn ?h; (case hn => (dsimp only [cells_s, cells_emp, cells_agg, cells_list, cells_sl, cells_ptr, cells_ref, cells_fn, cells_vi, cells_vb, cells_vnil, constV, List.map_cons, List.map_nil, List.take_succ_cons, List.take_zero, List.drop_succ_cons, List.drop_zero, List.cons_append, List.nil_append, List.append_nil, LV_cells]; exact rfl)))) | (refine zbx ?_) | (refine zb1 ?_) | (refine zb0 ?_) | (refine zapoo ?_) | (refine zapol ?_) | (refine zapno ?_) | (refine zapnl ?_) | (refine zapeo ?_) | (refine zapel ?_) | (refine ar_nil ?_) | (refine aw_seq ?_) | (refine aw_skip ?_) | (refine aw_block ?_) | (refine aw_exit ?_) | (refine aw_region ?_) | (refine aw_drawn (id := 8) [(0, 0), (1, 0), (2, 0), (3, 0), (4, 0), (5, 0), (6, 0), (7, 0), (8, 0), (9, 0), (10, 0), (11, 0), (12, 0), (13, 0), (14, 0), (15, 0)] mixed (by kernel_rfl) ?_) | (refine zco ?_ ?_ <;> intro hg <;> first | exact absurd hg (by decide) | ((try replace hg := HG.out hg); (try dsimp only at hg); (try (have _h : True := hg; clear _h hg)); first | (exfalso; omega) | skip))))
      all_goals first
        | (exfalso; omega)
        | (rw [clashesTo_no (k := k) fun j hj => hN j (by omega)]; ((first | refine loop_next (by omega) ?_ ?_ | refine (show _ ∧ _ ∧ SubOf _ _ _ _ _ _ from And.intro (by omega) (And.intro ?_ ?_))); (focus ((trivial); done)); (focus ((refine sub_to [some 0, some 1] [] rfl ?_ ?_ <;> (repeat' (first | exact trivial | refine ⟨⟨_, rfl, ?_⟩, ?_⟩ | refine ⟨bsub_snoc rfl rfl (fun _ => rfl) ?_, ?_⟩ | refine ⟨bsub_one rfl rfl ?_, ?_⟩ | refine ⟨bsub_all rfl rfl (fun _ _ => rfl) (fun _ => rfl), ?_⟩ | refine ⟨bsub_updL rfl rfl ?_ (fun _ _ _ => rfl) (fun _ => rfl), ?_⟩ | refine ⟨.inl ⟨_, _, rfl, rfl, ?_⟩, ?_⟩ | exact ⟨.inr ⟨rfl, rfl⟩, trivial⟩ | refine ⟨.inr ⟨rfl, rfl⟩, ?_⟩ | (intro _ _) | exact vz1 | exact vz2 | fail))); done))))
  · (repeat' (first | (refine ar_isq ?_; first | refine zmv ?_ | refine zas ?_ | (refine is_load ?_; first | refine zlp ?_ | refine zlr ?_) | (refine is_binOp ?_; first | refine zlss ?_ | refine zadd ?_ | refine zsub ?_) | (refine is_fieldAddr ?_; first | refine zfp ?_ | refine zfr ?_) | (refine is_indexAddr ?_; first | refine zil ?_ | refine zis ?_ | refine zit ?_ | refine zia ?_ | refine zir ?_ | (refine zxl ?_; intro _ _ _) | (refine zxs ?_; intro _ _ _)) | (refine is_call ?_; first | refine zll ?_ | refine zls ?_ | refine zln ?_ | refine zle ?_) | (refine ar_buildS (ds := ?ds) (by exact ty rfl) (by exact rfl) (by exact sizes rfl) (by exact rfl) (by exact rfl) (by exact build rfl) (by exact dc rfl) ?hn ?h; (case hn => (dsimp only [cells_s, cells_emp, cells_agg, cells_list, cells_sl, cells_ptr, cells_ref, cells_fn, cells_vi, cells_vb, cells_vnil, constV, List.map_cons, List.map_nil, List.take_succ_cons, List.take_zero, List.drop_succ_cons, List.drop_zero, List.cons_append, List.nil_append, List.append_nil, LV_cells]; exact rfl)))) | (refine zbx ?_) | (refine zb1 ?_) | (refine zb0 ?_) | (refine zapoo ?_) | (refine zapol ?_) | (refine zapno ?_) | (refine zapnl ?_) | (refine zapeo ?_) | (refine zapel ?_) | (refine ar_nil ?_) | (refine aw_seq ?_) | (refine aw_skip ?_) | (refine aw_block ?_) | (refine aw_exit ?_) | (refine aw_region ?_) | (refine aw_drawn (id := 8) [(0, 0), (1, 0), (2, 0), (3, 0), (4, 0), (5, 0), (6, 0), (7, 0), (8, 0), (9, 0), (10, 0), (11, 0), (12, 0), (13, 0), (14, 0), (15, 0)] mixed (by kernel_rfl) ?_) | (refine zco ?_ ?_ <;> intro hg <;> first | exact absurd hg (by decide) | ((try replace hg := HG.out hg); (try dsimp only at hg); (try (have _h : True := hg; clear _h hg)); first | (exfalso; omega) | skip))))
    all_goals first
      | (exfalso; omega)
      | ((refine aw_mono_r (env' := [(4, encClashes (clashesTo s b k))]) (H' := []) ?_ ?_; (focus ((refine sub_to [] [1] rfl ?_ ?_ <;> (repeat' (first | exact trivial | refine ⟨⟨_, rfl, ?_⟩, ?_⟩ | refine ⟨bsub_snoc rfl rfl (fun _ => rfl) ?_, ?_⟩ | refine ⟨bsub_one rfl rfl ?_, ?_⟩ | refine ⟨bsub_all rfl rfl (fun _ _ => rfl) (fun _ => rfl), ?_⟩ | refine ⟨bsub_updL rfl rfl ?_ (fun _ _ _ => rfl) (fun _ => rfl), ?_⟩ | refine ⟨.inl ⟨_, _, rfl, rfl, ?_⟩, ?_⟩ | exact ⟨.inr ⟨rfl, rfl⟩, trivial⟩ | refine ⟨.inr ⟨rfl, rfl⟩, ?_⟩ | (intro _ _) | exact vz1 | exact vz2 | fail))); done))); (refine aw_ret ?_; (repeat (first | refine ret_then ?_ | refine ret_block ?_)); refine bq1 rfl ⟨?_, rfl⟩); rw [show k = b.length - 1 by omega]; rfl)
end Go.Proofs.Ytloaefllpokkaaa
namespace Go.Proofs.Ytloaefllpokkaaa
open Go.RowKit
def linesB (s : Sheet) (b : List (List Int)) : Bool := b.all (isLineB s)
def bandB (s : Sheet) (b : List (List Int)) : Bool := decide (b.length ≤ 12) && linesB s b && (List.range (b.length - 1)).all fun i => decide (clashF s (el b i) (el b (i + 1)) < 0)
theorem err_ok {s : Sheet} (h : s.ok = true) : s.err = 0 := by simp [Sheet.err, h]
theorem err_bad {s : Sheet} (h : s.ok = false) : s.err = 70 := by simp [Sheet.err, h]
theorem clashes_nil {s : Sheet} {b : List (List Int)} : (clashesF s b).length = 0 ↔ ((List.range (b.length - 1)).all fun i => decide (clashF s (el b i) (el b (i + 1)) < 0)) = true := by
  rw [List.length_eq_zero_iff, clashesF, clashesTo, List.flatMap_eq_nil_iff, List.all_eq_true]
  refine forall_congr' fun i => forall_congr' fun hi => ?_
  unfold clashAt
  split
  · rename_i h; simp [h]
  · rename_i h; simp [h]
def checkErr (s : Sheet) (b : List (List Int)) : Int := if s.ok then (if bandB s b then 0 else 71) else 70
theorem checkErr_eq {s : Sheet} {b : List (List Int)} (hs : s.ok = true) : checkErr s b = if b.length ≤ 12 ∧ linesB s b = true ∧ (clashesF s b).length = 0 then 0 else 71 := by
  unfold checkErr bandB
  rw [if_pos hs]
  simp only [Bool.and_eq_true, decide_eq_true_eq, and_assoc, clashes_nil]
theorem band_of_check {s : Sheet} {b : List (List Int)} (h : checkErr s b = 0) : s.ok = true ∧ b.length ≤ 12 ∧ linesB s b = true := by
  unfold checkErr at h
  cases hs : s.ok
  · rw [hs] at h; simp at h
  · have h' : checkErr s b = 0 := h
    rw [checkErr_eq hs] at h'
    split at h'
    · rename_i h2; exact ⟨rfl, h2.1, h2.2.1⟩
    · simp at h'
set_option maxHeartbeats 1000000 in
theorem check_p (s : Sheet) (b : List (List Int)) : PCalls Try.prog 18 [s.enc, encRows b] (· = vi (checkErr s b)) := by
  cases hs : s.ok
  · have he := err_bad hs
    refine pcalls_of_aw Try.func18 rfl (Nat.le_of_ble_eq_true rfl) ?_
    (repeat' (first | (refine ar_isq ?_; first | refine zmv ?_ | refine zas ?_ | (refine is_load ?_; first | refine zlp ?_ | refine zlr ?_) | (refine is_binOp ?_; first | refine zgtr ?_ | refine zneq ?_) | (refine is_call ?_; first | refine zll ?_ | refine zls ?_ | refine zln ?_ | refine zle ?_) | (refine is_pick ?_; first | refine zpt ?_ | refine zpf ?_) | refine znt ?_) | (refine ar_pcall (own := false) fn16 rfl rfl (.cons (.closed rfl) .nil) (checkSheet_p _) (by simp) (dc rfl) ?_; intro _ hv; subst hv) | (refine zbx ?_) | (refine zg ?_ ?_ <;> intro hg <;> first | exact absurd hg (by decide) | ((try replace hg := HG.out hg); (try dsimp only at hg); (try (have _h : True := hg; clear _h hg)); first | (exfalso; omega) | skip)) | (refine zgu ?_) | (refine ar_nil ?_) | (refine aw_seq ?_) | (refine aw_skip ?_) | (refine aw_block ?_) | (refine aw_exit ?_) | (refine aw_region ?_) | (refine zco ?_ ?_ <;> intro hg <;> first | exact absurd hg (by decide) | ((try replace hg := HG.out hg); (try dsimp only at hg); (try (have _h : True := hg; clear _h hg)); first | (exfalso; omega) | skip))))
    all_goals first
      | (exfalso; omega)
      | ((refine aw_ret ?_; (repeat (first | refine ret_then ?_ | refine ret_block ?_)); refine bq1 rfl ⟨?_, rfl⟩); simp [vi, checkErr, hs, he])
  · have he := err_ok hs
    refine pcalls_of_aw Try.func18 rfl (Nat.le_of_ble_eq_true rfl) ?_
    (repeat' (first | (refine ar_isq ?_; first | refine zmv ?_ | refine zas ?_ | (refine is_load ?_; first | refine zlp ?_ | refine zlr ?_) | (refine is_binOp ?_; first | refine zgtr ?_ | refine zneq ?_) | (refine is_call ?_; first | refine zll ?_ | refine zls ?_ | refine zln ?_ | refine zle ?_) | (refine is_pick ?_; first | refine zpt ?_ | refine zpf ?_) | refine znt ?_) | (refine ar_pcall (own := false) fn16 rfl rfl (.cons (.closed rfl) .nil) (checkSheet_p _) (by simp) (dc rfl) ?_; intro _ hv; subst hv) | (refine ar_pcall (own := false) fn38 rfl rfl (.cons (.closed rfl) (.cons (.closed rfl) .nil)) (lines_p s hs b) (by simp) (dc rfl) ?_; intro _ hv; subst hv) | (refine ar_pcall (own := false) fn39 rfl rfl (.cons (.closed rfl) (.cons (.closed rfl) .nil)) (clashes_p s hs b (by assumption) (by omega)) (by simp) (dc rfl) ?_; intro _ hv; subst hv) | (refine zbx ?_) | (refine zg ?_ ?_ <;> intro hg <;> first | exact absurd hg (by decide) | ((try replace hg := HG.out hg); (try dsimp only at hg); (try (have _h : True := hg; clear _h hg)); first | (exfalso; omega) | skip)) | (refine zgu ?_) | (refine ar_nil ?_) | (refine aw_seq ?_) | (refine aw_skip ?_) | (refine aw_block ?_) | (refine aw_exit ?_) | (refine aw_region ?_) | (refine zco ?_ ?_ <;> intro hg <;> first | exact absurd hg (by decide) | ((try replace hg := HG.out hg); (try dsimp only at hg); (try (have _h : True := hg; clear _h hg)); first | (exfalso; omega) | skip))))
    all_goals first
      | (exfalso; omega)
      | ((refine aw_ret ?_; (repeat (first | refine ret_then ?_ | refine ret_block ?_)); refine bq1 rfl ⟨?_, rfl⟩); rw [checkErr_eq hs]; first
          | (rw [if_pos ⟨by omega, (show b.all (isLineB s) = true by assumption), by omega⟩]; rfl)
          | (rw [if_neg (fun h => by obtain ⟨h1, h2, h3⟩ := h; first | omega | (have h4 : b.all (isLineB s) = true := h2; simp_all))]; rfl))
end Go.Proofs.Ytloaefllpokkaaa
namespace Go.Proofs.Ytloaefllpokkaaa
open Go.RowKit
def gapAt (s : Sheet) (b : List (List Int)) (i c : Nat) : Int := el (el b (i + 1)) c - el (el b i) c - s.weight
def gapRow (s : Sheet) (b : List (List Int)) (i : Nat) (x : Int) (n : Nat) : Int := (List.range n).foldl (fun a c => min a (gapAt s b i c)) x
def gapTo (s : Sheet) (b : List (List Int)) (k : Nat) : Int := (List.range k).foldl (fun a i => gapRow s b i a s.cols.toNat) s.rows
theorem gapRow_succ (s : Sheet) (b : List (List Int)) (i : Nat) (x : Int) (n : Nat) : gapRow s b i x (n + 1) = min (gapRow s b i x n) (gapAt s b i n) := by simp [gapRow, List.range_succ]
theorem gapTo_succ (s : Sheet) (b : List (List Int)) (k : Nat) : gapTo s b (k + 1) = gapRow s b k (gapTo s b k) s.cols.toNat := by simp [gapTo, List.range_succ]
theorem gapRow_bnd {s : Sheet} {b : List (List Int)} {i : Nat} {x : Int} (hx : 0 ≤ x ∧ x ≤ s.rows) : ∀ n, (∀ c, c < n → 0 ≤ gapAt s b i c) → 0 ≤ gapRow s b i x n ∧ gapRow s b i x n ≤ s.rows
  | 0, _ => hx
  | n + 1, h => by
    have ih := gapRow_bnd (i := i) hx n (fun c hc => h c (by omega))
    have := h n (by omega)
    rw [gapRow_succ]
    omega
theorem gapTo_bnd {s : Sheet} {b : List (List Int)} (h0 : 0 ≤ s.rows) : ∀ k, (∀ i c, i < k → c < s.cols.toNat → 0 ≤ gapAt s b i c) → 0 ≤ gapTo s b k ∧ gapTo s b k ≤ s.rows
  | 0, _ => ⟨h0, Int.le_refl _⟩
  | k + 1, h => by
    rw [gapTo_succ]
    exact gapRow_bnd (gapTo_bnd h0 k fun i c hi hc => h i c (by omega) hc) _ fun c hc => h k c (by omega) hc
theorem near_no {s : Sheet} {x y : List Int} (h : clashF s x y < 0) {j : Nat} (hj : (j : Int) < s.cols) : nearAt s x y j = false := by
  unfold clashF at h
  split at h
  · omega
  · rename_i hf
    rw [List.find?_eq_none] at hf
    have := hf j (by simp; omega)
    simpa using this
theorem gap_pos {s : Sheet} {b : List (List Int)} (h : checkErr s b = 0) {i c : Nat} (hi : i < b.length - 1) (hc : c < s.cols.toNat) : 0 ≤ gapAt s b i c := by
  have hb := Sheet.bounds (band_of_check h).1
  have hbd : bandB s b = true := by
    unfold checkErr at h
    rw [if_pos (band_of_check h).1] at h
    split at h
    · assumption
    · omega
  unfold bandB at hbd
  simp only [Bool.and_eq_true, List.all_eq_true, List.mem_range, decide_eq_true_eq] at hbd
  have := near_no (hbd.2 i hi) (j := c) (by omega)
  simp only [nearAt, decide_eq_false_iff_not] at this
  unfold gapAt
  omega
def gapErr (s : Sheet) (b : List (List Int)) : Int := if checkErr s b = 0 then (if b.length < 2 then 6 else 0) else checkErr s b
def gapF (s : Sheet) (b : List (List Int)) : Int := if gapErr s b = 0 then gapTo s b (b.length - 1) else 0
theorem gap_ok {s : Sheet} {b : List (List Int)} (h : gapErr s b = 0) : checkErr s b = 0 ∧ 2 ≤ b.length ∧ 0 ≤ gapF s b ∧ gapF s b ≤ 60 := by
  have h0 := h
  unfold gapErr at h
  split at h
  · rename_i hc
    split at h
    · omega
    · have hb := Sheet.bounds (band_of_check hc).1
      have := gapTo_bnd (s := s) (b := b) (by omega) (b.length - 1) fun i c hi hcc => gap_pos hc hi hcc
      unfold gapF
      rw [if_pos h0]
      exact ⟨hc, by omega, this.1, by omega⟩
  · omega
def lastErr (s : Sheet) (b : List (List Int)) (per : Int) : Int := if gapErr s b = 0 then (if withinB per 1 1000 = true then (if gapF s b = 0 then 6 else 0) else 2) else gapErr s b
def lastF (s : Sheet) (b : List (List Int)) (per : Int) : Int := if lastErr s b per = 0 then (gapF s b + 1) / 2 * per - 1 else 0
end Go.Proofs.Ytloaefllpokkaaa
namespace Go.Proofs.Ytloaefllpokkaaa
open Go.RowKit
theorem clashF_neg {s : Sheet} {a b : List Int} : clashF s a b < 0 ↔ ∀ j : Nat, (j : Int) < s.cols → s.weight + s.clear ≤ el b j - el a j := by
  constructor
  · intro h j hj
    unfold clashF at h
    split at h
    · omega
    · rename_i h0
      rw [List.find?_eq_none] at h0
      have := h0 j (by simp; omega)
      simp only [nearAt, decide_eq_true_eq] at this
      omega
  · intro h
    rw [clashF_none fun j hj => by have := h j hj; simp [nearAt]; omega]
    omega
theorem bandB_iff {s : Sheet} {b : List (List Int)} : bandB s b = true ↔ b.length ≤ 12 ∧ linesB s b = true ∧ ∀ i, i + 1 < b.length → ∀ j : Nat, (j : Int) < s.cols → s.weight + s.clear ≤ el (el b (i + 1)) j - el (el b i) j := by
  simp only [bandB, Bool.and_eq_true, decide_eq_true_eq, List.all_eq_true, List.mem_range, clashF_neg]
  constructor
  · rintro ⟨⟨h1, h2⟩, h3⟩
    exact ⟨h1, h2, fun i hi => h3 i (by omega)⟩
  · rintro ⟨h1, h2, h3⟩
    exact ⟨⟨h1, h2⟩, fun i hi => h3 i (by omega)⟩
end Go.Proofs.Ytloaefllpokkaaa
namespace Go.Proofs.Ytloaefllpokkaaa
open Go.RowKit
/-- The first cuts of a pattern. -/
def wovF (p : Pat) (k : Nat) : List (List Int) := (List.range k).map fun (j : Nat) => p.cut (j : Int)
theorem wov_len (p : Pat) (k : Nat) : (wovF p k).length = k := by simp [wovF]
theorem wov_el {p : Pat} {k j : Nat} (h : j < k) : el (wovF p k) j = p.cut (j : Int) := el_map_range h
theorem wov_succ (p : Pat) (k : Nat) : wovF p (k + 1) = wovF p k ++ [p.cut (k : Int)] := by simp [wovF, List.range_succ]
theorem wov_row {p : Pat} {k : Nat} {l : List Int} (h : l ∈ wovF p k) : l.length = p.ros.length := by
  obtain ⟨j, hj, rfl⟩ := mem_el h
  rw [wov_len] at hj
  rw [wov_el hj, cut_len]
section
variable {s : Sheet} {b : List (List Int)}
theorem gapRow_le {i c : Nat} {x : Int} : ∀ n, gapRow s b i x n ≤ x ∧ (c < n → gapRow s b i x n ≤ gapAt s b i c)
  | 0 => ⟨Int.le_refl _, fun h => by omega⟩
  | n + 1 => by
    have ih := gapRow_le (i := i) (c := c) (x := x) n
    rw [gapRow_succ]
    refine ⟨by omega, fun h => ?_⟩
    by_cases e : c = n
    · subst e; omega
    · have := ih.2 (by omega); omega
theorem gapTo_le {i c : Nat} (hc : c < s.cols.toNat) : ∀ k, i < k → gapTo s b k ≤ gapAt s b i c
  | 0, h => by omega
  | k + 1, h => by
    rw [gapTo_succ]
    by_cases e : i = k
    · subst e; exact (gapRow_le _).2 hc
    · have := gapTo_le (i := i) hc k (by omega)
      have := (gapRow_le (s := s) (b := b) (i := k) (c := c) (x := gapTo s b k) s.cols.toNat).1
      omega
theorem gapRow_ge {i : Nat} {x m : Int} (hx : m ≤ x) : ∀ n, (∀ c, c < n → m ≤ gapAt s b i c) → m ≤ gapRow s b i x n
  | 0, _ => hx
  | n + 1, h => by
    have ih := gapRow_ge (i := i) hx n (fun c hc => h c (by omega))
    have := h n (by omega)
    rw [gapRow_succ]
    omega
theorem gapTo_ge {m : Int} (h0 : m ≤ s.rows) : ∀ k, (∀ i c, i < k → c < s.cols.toNat → m ≤ gapAt s b i c) → m ≤ gapTo s b k
  | 0, _ => h0
  | k + 1, h => by
    rw [gapTo_succ]
    exact gapRow_ge (gapTo_ge h0 k fun i c hi hc => h i c (by omega) hc) _ fun c hc => h k c (by omega) hc
end
section
variable {p : Pat} {s : Sheet} {n : Nat}
/-- A pattern whose steps are the columns of a sheet. -/
structure Fits (p : Pat) (s : Sheet) (n : Nat) : Prop where
  steps : 0 < p.ros.length
  cuts : 0 < p.shifts.length
  sheet : s.ok = true
  cols : (p.ros.length : Int) = s.cols
  one : 1 ≤ n
  few : n ≤ 12
theorem wov_dif (h : Fits p s n) {i c : Nat} (hi : i + 1 < n) (hc : c < p.ros.length) : p.gap ≤ el (el (wovF p n) (i + 1)) c - el (el (wovF p n) i) c := by
  rw [wov_el hi, wov_el (by omega), show ((i + 1 : Nat) : Int) = (i : Int) + 1 by omega]
  exact gap_le h.cuts hc
/-- Lines on the sheet that are far enough apart do not clash. -/
theorem wov_band (h : Fits p s n) (hon : linesB s (wovF p n) = true) (hg : s.weight + s.clear ≤ p.gap) : checkErr s (wovF p n) = 0 := by
  have hcols := h.cols
  have hfew := h.few
  have hb : bandB s (wovF p n) = true := bandB_iff.2 ⟨by rw [wov_len]; exact hfew, hon, fun i hi j hj => by
    rw [wov_len] at hi
    have := wov_dif h hi (c := j) (by omega)
    omega⟩
  unfold checkErr
  rw [if_pos h.sheet, if_pos hb]
theorem wov_ink (h : Fits p s n) (hon : linesB s (wovF p n) = false) : checkErr s (wovF p n) = 71 := by
  have hb : bandB s (wovF p n) = false := by
    rw [← Bool.not_eq_true]
    intro e
    rw [(bandB_iff.1 e).2.1] at hon
    cases hon
  unfold checkErr
  rw [if_pos h.sheet, hb]
  rfl
theorem wov_err (h : Fits p s n) : checkErr s (wovF p n) = 0 ∨ checkErr s (wovF p n) = 71 := by
  unfold checkErr
  rw [if_pos h.sheet]
  split <;> simp
theorem wov_none (h : Fits p s n) (he : checkErr s (wovF p n) ≠ 0 ∨ n < 2) : gapErr s (wovF p n) ≠ 0 := by
  unfold gapErr
  split
  · rename_i h0
    rw [wov_len, if_pos (he.resolve_left fun e => e h0)]
    decide
  · rename_i h0; exact h0
set_option maxHeartbeats 4000000 in
theorem wov_gap (h : Fits p s n) (he : checkErr s (wovF p n) = 0) (h2 : 2 ≤ n) : gapErr s (wovF p n) = 0 ∧ p.gap - s.weight ≤ gapF s (wovF p n) ∧ (p.mot < n → gapF s (wovF p n) = p.gap - s.weight) := by
  have h0 : gapErr s (wovF p n) = 0 := by
    unfold gapErr
    rw [if_pos he, wov_len, if_neg (by omega)]
  have hsteps := h.steps
  have hcols := h.cols
  have hb := Sheet.bounds h.sheet
  obtain ⟨_, _, hlin⟩ := band_of_check he
  have hlow : p.gap - s.weight ≤ gapF s (wovF p n) := by
    unfold gapF
    rw [if_pos h0]
    refine gapTo_ge ?_ _ fun i c hi hc => ?_
    · have hd := wov_dif h (i := 0) (c := 0) (by omega) hsteps
      have e1 := of_all_el (p := isLineB s) hlin (k := 0) (by rw [wov_len]; omega)
      have e2 := of_all_el (p := isLineB s) hlin (k := 1) (by rw [wov_len]; omega)
      have l1 := (lineAt_iff.1 ((isLineB_iff.1 e1).2 0 (by have := (isLineB_iff.1 e1).1; omega))).1
      have l2 := (lineAt_iff.1 ((isLineB_iff.1 e2).2 0 (by have := (isLineB_iff.1 e2).1; omega))).1
      have hd : p.gap ≤ el (el (wovF p n) 1) 0 - el (el (wovF p n) 0) 0 := hd
      omega
    · rw [wov_len] at hi
      have := wov_dif h (i := i) (c := c) (by omega) (by omega)
      unfold gapAt
      omega
  refine ⟨h0, hlow, fun hm => ?_⟩
  obtain ⟨j, i, hj, hi, hji⟩ := gap_at hsteps h.cuts
  have : gapF s (wovF p n) ≤ gapAt s (wovF p n) j i := by
    unfold gapF
    rw [if_pos h0]
    exact gapTo_le (by omega) _ (by rw [wov_len]; omega)
  unfold gapAt at this
  rw [wov_el (show j + 1 < n by omega), wov_el (show j < n by omega)] at this
  rw [show ((j + 1 : Nat) : Int) = (j : Int) + 1 by omega] at this
  omega
theorem wov_last (h : Fits p s n) (he : checkErr s (wovF p n) = 0) (h2 : 2 ≤ n) {per : Int} (hp : 1 ≤ per ∧ per ≤ 1000) (hg : s.weight < p.gap) : lastErr s (wovF p n) per = 0 ∧ (p.gap - s.weight + 1) / 2 * per - 1 ≤ lastF s (wovF p n) per := by
  obtain ⟨h0, h1, _⟩ := wov_gap h he h2
  have hl : lastErr s (wovF p n) per = 0 := by
    unfold lastErr
    rw [if_pos h0, if_pos (withinB_iff.2 hp), if_neg (by omega)]
  refine ⟨hl, ?_⟩
  unfold lastF
  rw [if_pos hl]
  have h3 : (p.gap - s.weight + 1) / 2 ≤ (gapF s (wovF p n) + 1) / 2 := Int.ediv_le_ediv (by omega) (by omega)
  have := Int.mul_le_mul_of_nonneg_right h3 (show 0 ≤ per by omega)
  omega
end
end Go.Proofs.Ytloaefllpokkaaa
namespace Go.Proofs.Ytloaefllpokkaaa
open Go.RowKit
/-- The place of the first number that is so; -1: none. -/
def idxF (p : Int → Bool) (l : List Int) : Int := match (List.range l.length).find? (fun i => p (el l i)) with | some i => (i : Int) | none => -1
theorem idxF_at {p : Int → Bool} {l : List Int} {i : Nat} (hi : i < l.length) (h0 : ∀ j, j < i → p (el l j) = false) (h : p (el l i) = true) : idxF p l = i := by
  have : (List.range l.length).find? (fun i => p (el l i)) = some i := by
    rw [List.find?_range_eq_some]
    exact ⟨h, by simpa using hi, fun j hj => by simp [h0 j hj]⟩
  unfold idxF
  rw [this]
theorem idxF_none {p : Int → Bool} {l : List Int} (h0 : ∀ j, j < l.length → p (el l j) = false) : idxF p l = -1 := by
  have : (List.range l.length).find? (fun i => p (el l i)) = none := by
    rw [List.find?_eq_none]
    intro j hj
    rw [List.mem_range] at hj
    simp [h0 j hj]
  unfold idxF
  rw [this]
theorem idxF_any (p : Int → Bool) (l : List Int) : decide (0 ≤ idxF p l) = l.any p := by
  cases h : l.any p
  · rw [List.any_eq_false] at h
    rw [idxF_none fun j hj => by simpa using h _ (el_mem hj)]
    rfl
  · rw [List.any_eq_true] at h
    obtain ⟨x, hx, hp⟩ := h
    obtain ⟨i, hi, rfl⟩ := mem_el hx
    unfold idxF
    split
    · simp
    · rename_i h0
      rw [List.find?_eq_none] at h0
      have := h0 i (by simpa using hi)
      simp [hp] at this
def fromB (lo hi : Int) (l : List Int) : Bool := l.all fun n => withinB n lo hi
def outB (lo hi n : Int) : Bool := decide (n < lo) || decide (hi < n)
theorem any_out (lo hi : Int) (l : List Int) : (!l.any (outB lo hi)) = fromB lo hi l := by
  induction l with
  | nil => rfl
  | cons x l ih =>
    simp only [List.any_cons, Bool.not_or, fromB, List.all_cons] at *
    rw [ih]
    congr 1
    simp only [outB, withinB]
    grind
set_option maxHeartbeats 1000000 in
theorem indexInts_p (l : List Int) {g : FuncId} {cap : List V} (hfn : FnOk Try.prog g) (hcap : V.closed.all cap = true) (p : Int → Bool) (hc : ∀ x, x ∈ l → PCalls Try.prog g (vi x :: cap) (· = vb (p x))) :
    PCalls Try.prog 61 [encInts l, .fn (.func g) [] cap] (· = vi (idxF p l)) := by
  (refine pcalls_know (fun I us h => rel_len (rel_arg h (j := 0) rfl)) fun hlen0 => ?_)
  refine pcalls_of_aw Try.func61 rfl (Nat.le_of_ble_eq_true rfl) ?_
  (repeat' (first | (refine ar_isq ?_; first | refine zmv ?_ | refine zas ?_ | (refine is_load ?_; first | refine zlp ?_ | refine zlr ?_) | (refine is_binOp ?_; first | refine zlss ?_ | refine zadd ?_) | (refine is_indexAddr ?_; first | refine zil ?_ | refine zis ?_ | refine zit ?_ | refine zia ?_ | refine zir ?_ | (refine zxl ?_; intro _ _ _) | (refine zxs ?_; intro _ _ _)) | (refine is_call ?_; first | refine zll ?_ | refine zls ?_ | refine zln ?_ | refine zle ?_)) | (refine ar_nil ?_) | (refine aw_seq ?_) | (refine aw_skip ?_) | (refine aw_block ?_) | (refine aw_exit ?_) | (refine aw_region ?_) | (refine zco ?_ ?_ <;> intro hg <;> first | exact absurd hg (by decide) | ((try replace hg := HG.out hg); (try dsimp only at hg); (try (have _h : True := hg; clear _h hg)); first | (exfalso; omega) | skip))))
  refine aw_for l.length (fun k => ∀ j, j < k → p (el l j) = false) (fun k => [(0, encInts l), (1, .fn (.func g) [] cap), (7, vi l.length), (8, vi k)]) (fun _ => []) (fun j hj => by omega) ?_ ?_
  · (refine sub_to [] [] rfl ?_ ?_ <;> (repeat' (first | exact trivial | refine ⟨⟨_, rfl, ?_⟩, ?_⟩ | refine ⟨bsub_snoc rfl rfl (fun _ => rfl) ?_, ?_⟩ | refine ⟨bsub_one rfl rfl ?_, ?_⟩ | refine ⟨bsub_all rfl rfl (fun _ _ => rfl) (fun _ => rfl), ?_⟩ | refine ⟨bsub_updL rfl rfl ?_ (fun _ _ _ => rfl) (fun _ => rfl), ?_⟩ | refine ⟨.inl ⟨_, _, rfl, rfl, ?_⟩, ?_⟩ | exact ⟨.inr ⟨rfl, rfl⟩, trivial⟩ | refine ⟨.inr ⟨rfl, rfl⟩, ?_⟩ | (intro _ _) | exact vz1 | exact vz2 | fail)))
  intro k hk hJ
  by_cases hkn : k < l.length
  · (repeat' (first | (refine ar_isq ?_; first | refine zmv ?_ | refine zas ?_ | (refine is_load ?_; first | refine zlp ?_ | refine zlr ?_) | (refine is_binOp ?_; first | refine zlss ?_ | refine zadd ?_) | (refine is_indexAddr ?_; first | refine zil ?_ | refine zis ?_ | refine zit ?_ | refine zia ?_ | refine zir ?_ | (refine zxl ?_; intro _ _ _) | (refine zxs ?_; intro _ _ _)) | (refine is_call ?_; first | refine zll ?_ | refine zls ?_ | refine zln ?_ | refine zle ?_)) | (refine ar_pcall (own := false) hfn rfl rfl (args_closed hcap) (hc _ (el_mem hkn)) (by simp) (dc rfl) ?_; intro _ hv; subst hv) | (refine ar_nil ?_) | (refine aw_seq ?_) | (refine aw_skip ?_) | (refine aw_block ?_) | (refine aw_exit ?_) | (refine aw_region ?_) | (refine zco ?_ ?_ <;> intro hg <;> first | exact absurd hg (by decide) | ((try replace hg := HG.out hg); (try dsimp only at hg); (try (have _h : True := hg; clear _h hg)); first | (exfalso; omega) | skip))))
    all_goals first
      | (exfalso; omega)
      | ((first | refine loop_next (by omega) ?_ ?_ | refine (show _ ∧ _ ∧ SubOf _ _ _ _ _ _ from And.intro (by omega) (And.intro ?_ ?_))); (focus ((exact all_step hJ (by assumption)); done)); (focus ((refine sub_to [] [] rfl ?_ ?_ <;> (repeat' (first | exact trivial | refine ⟨⟨_, rfl, ?_⟩, ?_⟩ | refine ⟨bsub_snoc rfl rfl (fun _ => rfl) ?_, ?_⟩ | refine ⟨bsub_one rfl rfl ?_, ?_⟩ | refine ⟨bsub_all rfl rfl (fun _ _ => rfl) (fun _ => rfl), ?_⟩ | refine ⟨bsub_updL rfl rfl ?_ (fun _ _ _ => rfl) (fun _ => rfl), ?_⟩ | refine ⟨.inl ⟨_, _, rfl, rfl, ?_⟩, ?_⟩ | exact ⟨.inr ⟨rfl, rfl⟩, trivial⟩ | refine ⟨.inr ⟨rfl, rfl⟩, ?_⟩ | (intro _ _) | exact vz1 | exact vz2 | fail))); done)))
      | ((refine aw_ret ?_; (repeat (first | refine ret_then ?_ | refine ret_block ?_)); refine bq1 rfl ⟨?_, rfl⟩); rw [idxF_at hkn hJ (by assumption)]; try rfl)
  · (repeat' (first | (refine ar_isq ?_; first | refine zmv ?_ | refine zas ?_ | (refine is_load ?_; first | refine zlp ?_ | refine zlr ?_) | (refine is_binOp ?_; first | refine zlss ?_ | refine zadd ?_) | (refine is_indexAddr ?_; first | refine zil ?_ | refine zis ?_ | refine zit ?_ | refine zia ?_ | refine zir ?_ | (refine zxl ?_; intro _ _ _) | (refine zxs ?_; intro _ _ _)) | (refine is_call ?_; first | refine zll ?_ | refine zls ?_ | refine zln ?_ | refine zle ?_)) | (refine ar_nil ?_) | (refine aw_seq ?_) | (refine aw_skip ?_) | (refine aw_block ?_) | (refine aw_exit ?_) | (refine aw_region ?_) | (refine zco ?_ ?_ <;> intro hg <;> first | exact absurd hg (by decide) | ((try replace hg := HG.out hg); (try dsimp only at hg); (try (have _h : True := hg; clear _h hg)); first | (exfalso; omega) | skip))))
    all_goals first
      | (exfalso; omega)
      | ((refine aw_ret ?_; (repeat (first | refine ret_then ?_ | refine ret_block ?_)); refine bq1 rfl ⟨?_, rfl⟩); rw [idxF_none (fun j hj => hJ j (by omega))]; try rfl)
theorem containsInts_p (l : List Int) {g : FuncId} {cap : List V} (hfn : FnOk Try.prog g) (hcap : V.closed.all cap = true) (p : Int → Bool) (hc : ∀ x, x ∈ l → PCalls Try.prog g (vi x :: cap) (· = vb (p x))) :
    PCalls Try.prog 44 [encInts l, .fn (.func g) [] cap] (· = vb (l.any p)) := by
  refine pcalls_of_aw Try.func44 rfl (Nat.le_of_ble_eq_true rfl) ?_
  (repeat' (first | (refine ar_isq ?_; first | refine zmv ?_ | refine zas ?_ | refine zgeq ?_) | (refine ar_pcall (own := false) fn61 rfl rfl (.cons (.closed rfl) (.cons (.closed hcap) .nil)) (indexInts_p l hfn hcap p hc) (by simp) (dc rfl) ?_; intro _ hv; subst hv) | (refine ar_nil ?_) | (refine aw_seq ?_) | (refine aw_skip ?_) | (refine aw_block ?_) | (refine aw_exit ?_) | (refine aw_region ?_) | (refine zco ?_ ?_ <;> intro hg <;> first | exact absurd hg (by decide) | ((try replace hg := HG.out hg); (try dsimp only at hg); (try (have _h : True := hg; clear _h hg)); first | (exfalso; omega) | skip))))
  (refine aw_ret ?_; (repeat (first | refine ret_then ?_ | refine ret_block ?_)); refine bq1 rfl ⟨?_, rfl⟩)
  rw [← idxF_any]
  rfl
theorem fromF_p (lo hi n : Int) : PCalls Try.prog 59 [vi n, .ref (vi lo) 0, .ref (vi hi) 0] (· = vb (outB lo hi n)) := by
  refine pcalls_of_aw Try.func59 rfl (Nat.le_of_ble_eq_true rfl) ?_
  (repeat' (first | (refine ar_isq ?_; first | refine zmv ?_ | refine zas ?_ | (refine is_load ?_; first | refine zlp ?_ | refine zlr ?_) | (refine is_binOp ?_; first | refine zlss ?_ | refine zgtr ?_) | (refine is_pick ?_; first | refine zpt ?_ | refine zpf ?_)) | (refine zg ?_ ?_ <;> intro hg <;> first | exact absurd hg (by decide) | ((try replace hg := HG.out hg); (try dsimp only at hg); (try (have _h : True := hg; clear _h hg)); first | (exfalso; omega) | skip)) | (refine zgu ?_) | (refine ar_nil ?_) | (refine aw_seq ?_) | (refine aw_skip ?_) | (refine aw_block ?_) | (refine aw_exit ?_) | (refine aw_region ?_) | (refine zco ?_ ?_ <;> intro hg <;> first | exact absurd hg (by decide) | ((try replace hg := HG.out hg); (try dsimp only at hg); (try (have _h : True := hg; clear _h hg)); first | (exfalso; omega) | skip))))
  all_goals (refine aw_ret ?_; (repeat (first | refine ret_then ?_ | refine ret_block ?_)); refine bq1 rfl ⟨?_, rfl⟩)
  all_goals (simp only [vb, constV, outB]; congr 2; simp; try omega)
theorem from_p (lo hi : Int) (l : List Int) : PCalls Try.prog 40 [vi lo, vi hi, encInts l] (· = vb (fromB lo hi l)) := by
  refine pcalls_of_aw Try.func40 rfl (Nat.le_of_ble_eq_true rfl) ?_
  ((repeat refine aw_seq ?_); (first | (refine aw_region ?_)); (repeat' (first | (refine ar_isq ?_; first | refine zmv ?_ | refine zas ?_ | refine znt ?_ | refine zmf ?_) | (refine zbx ?_) | (refine ar_nil ?_))))
  (refine aw_mono_r (env' := [(0, vi lo), (1, vi hi), (2, encInts l), (3, .ref (vi lo) 0), (4, .ref (vi hi) 0)]) (H' := []) ?_ ?_; (focus ((refine sub_to [] [0, 1] rfl ?_ ?_ <;> (repeat' (first | exact trivial | refine ⟨⟨_, rfl, ?_⟩, ?_⟩ | refine ⟨bsub_snoc rfl rfl (fun _ => rfl) ?_, ?_⟩ | refine ⟨bsub_one rfl rfl ?_, ?_⟩ | refine ⟨bsub_all rfl rfl (fun _ _ => rfl) (fun _ => rfl), ?_⟩ | refine ⟨bsub_updL rfl rfl ?_ (fun _ _ _ => rfl) (fun _ => rfl), ?_⟩ | refine ⟨.inl ⟨_, _, rfl, rfl, ?_⟩, ?_⟩ | exact ⟨.inr ⟨rfl, rfl⟩, trivial⟩ | refine ⟨.inr ⟨rfl, rfl⟩, ?_⟩ | (intro _ _) | exact vz1 | exact vz2 | fail))); done)))
  (repeat' (first | (refine ar_isq ?_; first | refine zmv ?_ | refine zas ?_ | refine znt ?_ | refine zmf ?_) | (refine ar_pcall (own := false) fn44 rfl rfl (.cons (.closed rfl) (.cons (.closed rfl) .nil)) (containsInts_p l fn59 rfl _ (fun x _ => fromF_p lo hi x)) (by simp) (dc rfl) ?_; intro _ hv; subst hv) | (refine zbx ?_) | (refine ar_nil ?_) | (refine aw_seq ?_) | (refine aw_skip ?_) | (refine aw_block ?_) | (refine aw_exit ?_) | (refine aw_region ?_) | (refine zco ?_ ?_ <;> intro hg <;> first | exact absurd hg (by decide) | ((try replace hg := HG.out hg); (try dsimp only at hg); (try (have _h : True := hg; clear _h hg)); first | (exfalso; omega) | skip))))
  (refine aw_ret ?_; (repeat (first | refine ret_then ?_ | refine ret_block ?_)); refine bq1 rfl ⟨?_, rfl⟩)
  rw [← any_out]
  rfl
end Go.Proofs.Ytloaefllpokkaaa
namespace Go.Proofs.Ytloaefllpokkaaa
open Go.ChangeShapes Go.WideShapes Go.ChangeAt Go.RowKit Go.Deep
theorem own_knob : ownKnob Try.prog.godebug = none := by kernel_rfl
theorem laid_out : laidOutB Try.prog = true := by kernel_rfl
/-- All memory avs it stands. -/
def snap (w : World) : Imm := fun b => w.heap[b]?
/-- The cells of a value. -/
def CellsAre (I : Imm) (v : V) (cs : List Value) : Prop := v.cells.length = cs.length ∧ ∀ (j : Nat) x u, v.cells[j]? = some x → cs[j]? = some u → VRel I [] x u
/-- A type whose values, read avs data, are elements of 'α'. -/
structure ReadsV (P : Program) (t : TypeId) {α : Type} (e : α → V) (ok : α → Prop) (sz : Nat) : Prop where
  cells : P.cellsOf t = sz
  pos : 0 < sz
  read : ∀ {H : Type} {enc : TypeId × Value → H} {w : World} {base : Nat} {spare : Nat → Bool} {held : Bool} {fuel : Nat} {cs : List Value} {x : DataW H × List MemPlace},
    DataW.trod enc P w base spare held fuel t cs = some x → ∃ a : α, ok a ∧ cs.length = sz ∧ CellsAre (snap w) (e a) cs
def i64ok (n : Int) : Prop := -9223372036854775808 ≤ n ∧ n ≤ 9223372036854775807
theorem rv_int {P : Program} {t : TypeId} (ht : P.underlying t = some (.int .i64)) (hc : P.cellsOf t = 1) : ReadsV P t vi i64ok 1 :=
  ⟨hc, by omega, fun h => by
    obtain ⟨n, rfl, _, hw⟩ := DataW.trod_int ht h
    exact ⟨n, bounds_i64 hw, rfl, rfl, fun j x u hx hu => by
      cases j with
      | zero => simp [cells_vi] at hx hu; subst hx hu; exact .s _
      | succ j => simp at hu⟩⟩
theorem cell_block {w : World} {b i : Nat} {sp : Option Nat} {v : Value} (h : w.cell? ⟨b, i, sp⟩ = some v) : ∃ cs ty fz, w.heap[b]? = some (.cells cs ty fz) ∧ cs[i]? = some v := by
  unfold World.cell? at h
  simp only at h
  split at h
  · rename_i c ty fz hb
    split at h
    · cases h
    · exact ⟨c, ty, fz, hb, h⟩
  · cases h
theorem add_none (b off n : Nat) : (⟨b, off, none⟩ : Addr).add n = ⟨b, off + n, none⟩ := by
  unfold Addr.add
  split
  · rename_i h; subst h; rfl
  · rfl
theorem read_list {α : Type} [Inhabited α] {P : Program} {t e : TypeId} {ea : α → V} {ok : α → Prop} {sz : Nat} (ht : P.underlying t = some (.slice e)) (R : ReadsV P e ea ok sz)
    {H : Type} {enc : TypeId × Value → H} {w : World} {base : Nat} {spare : Nat → Bool} {held : Bool} {fuel : Nat} {cs : List Value} {x : DataW H × List MemPlace}
    (h : DataW.trod enc P w base spare held fuel t cs = some x) : ∃ (l : List α) (u : Value), (∀ y, y ∈ l → ok y) ∧ cs = [u] ∧ VRel (snap w) [] (LV sz ea l) u := by
  rcases open_slice ht h with ⟨rfl, _⟩ | ⟨a, len, cap, m, n, D, Pl, rfl, _, hl, hc, hm, _, hi⟩
  · exact ⟨[], _, (fun y hy => by cases hy), rfl, VRel.none_list none⟩
  · have hml : len ≤ m := by rw [hm]; split <;> omega
    have hex : ∀ i : Fin len, ∃ y : α, ∃ cs', w.cells? base (a.add (i * P.cellsOf e)) (P.cellsOf e) = some cs' ∧ ok y ∧ cs'.length = sz ∧ CellsAre (snap w) (ea y) cs' := fun i => by
      obtain ⟨cs', h1, h2⟩ := hi i (by omega)
      obtain ⟨y, hy⟩ := R.read h2
      exact ⟨y, cs', h1, hy⟩
    obtain ⟨f, hf⟩ := Classical.skolem.1 hex
    obtain ⟨g, hg⟩ := Classical.skolem.1 hf
    have hel : ∀ i (hi : i < len), el (List.ofFn f) i = f ⟨i, hi⟩ := fun i hi => by rw [el_eq (by simpa using hi)]; simp
    refine ⟨List.ofFn f, _, fun y hy => ?_, rfl, ?_⟩
    · obtain ⟨k, hk, rfl⟩ := mem_el hy
      rw [hel k (by simpa using hk)]
      exact (hg _).2.1
    obtain ⟨b, off, sp⟩ := a
    have hspot : 0 < len → sp = none := fun h0 => by
      obtain ⟨h1, _, h3, _⟩ := hg ⟨0, h0⟩
      obtain ⟨_, hcl, hat⟩ := World.cells?_some h1
      have hpos := R.pos
      have h5 := hat 0 (by rw [R.cells]; exact hpos)
      rw [List.getElem?_eq_getElem (by omega)] at h5
      simpa [Addr.add] using World.cell?_spot h5
    have hcell : ∀ (i : Nat) (hi : i < len) (j : Nat), j < sz → ∃ cs' ty fz, w.heap[b]? = some (.cells cs' ty fz) ∧ sp = none ∧ cs'[off + i * sz + j]? = some ((g ⟨i, hi⟩).getD j undef) := by
      intro i hi j hj
      obtain ⟨h1, _, h3, _⟩ := hg ⟨i, hi⟩
      obtain ⟨_, hcl, hat⟩ := World.cells?_some h1
      have hu : (g ⟨i, hi⟩)[j]? = some ((g ⟨i, hi⟩).getD j undef) := by simp [show j < (g ⟨i, hi⟩).length by omega]
      have h5 := hat j (by rw [R.cells]; exact hj)
      rw [hu] at h5
      have hsp : sp = none := hspot (by omega)
      subst hsp
      rw [add_none, add_none, R.cells] at h5
      obtain ⟨cs', ty, fz, h6, h7⟩ := cell_block h5
      exact ⟨cs', ty, fz, h6, rfl, h7⟩
    have hsz : ∀ i (hi : i < len), (ea (el (List.ofFn f) i)).cells.length = sz := fun i hi => by
      rw [hel i hi]
      obtain ⟨_, _, h3, h4⟩ := hg ⟨i, hi⟩
      rw [h4.1, h3]
    have hlen : (List.ofFn f).length = len := by simp
    show VRel (snap w) [] (.list sz (List.ofFn f).length fun i => ea (el (List.ofFn f) i)) _
    rw [hlen]
    refine .list (us := fun i j => if hi : i < len then (g ⟨i, hi⟩).getD j undef else undef) hl (by first | exact hc | (have h : cap ≤ 2 ^ 63 - 1 := hc; show cap ≤ maxLen; unfold maxLen; omega)) (fun h0 => ?_) (fun i hi => hsz i hi) (fun i j v hi hj => ?_)
    · obtain ⟨cs', ty, fz, h6, rfl, _⟩ := hcell 0 h0 0 R.pos
      refine ⟨b, off, rfl, fun i hi => ⟨cs', ty, fz, h6, fun j hj => ?_⟩⟩
      obtain ⟨cs2, ty2, fz2, h8, _, h9⟩ := hcell i hi j hj
      rw [h6] at h8
      cases h8
      simpa [hi] using h9
    · obtain ⟨_, _, h3, h4⟩ := hg ⟨i, hi⟩
      have hj2 := (List.getElem?_eq_some_iff.1 hj).1
      rw [hsz i hi] at hj2
      rw [hel i hi] at hj
      have := h4.2 j v ((g ⟨i, hi⟩).getD j undef) hj (by simp [show j < (g ⟨i, hi⟩).length by omega])
      simpa [hi] using this
theorem rv_list {α : Type} [Inhabited α] {P : Program} {t e : TypeId} {ea : α → V} {ok : α → Prop} {sz : Nat} (ht : P.underlying t = some (.slice e)) (hc : P.cellsOf t = 1) (R : ReadsV P e ea ok sz) : ReadsV P t (LV sz ea) (fun l => ∀ y, y ∈ l → ok y) 1 :=
  ⟨hc, by omega, fun h => by
    obtain ⟨l, u, h1, rfl, h2⟩ := read_list ht R h
    exact ⟨l, h1, rfl, rfl, fun j x u' hx hu => by
      cases j with
      | zero => simp [LV_cells] at hx hu; subst hx hu; exact h2
      | succ j => simp at hu⟩⟩
section
variable {P : Program} {H : Type} {enc : TypeId × Value → H} {w : World} {base : Nat} {spare : Nat → Bool} {held : Bool} {r : Reach} {b0 : Nat} {v : Value} {d : DataW H} {p : List MemPlace} {t e : TypeId}
theorem arg_int (ht : P.underlying t = some (.int .i64)) (hv : Value.okWide P w r b0 t v) (h : DataW.Trod enc P w base spare held t v d p) : ∃ n : Int, i64ok n ∧ VRel (snap w) [] (vi n) v := by
  obtain ⟨n, rfl, _, _, hw⟩ := open_int ht hv h
  exact ⟨n, bounds_i64 hw, .s _⟩
/-- A struct: its cells are those of 'e a'. -/
theorem arg_struct {α : Type} {ea : α → V} {ok : α → Prop} {sz : Nat} {fs : Array Field} (ht : P.underlying t = some (.struct fs)) (R : ReadsV P t ea ok sz) (hagg : ∀ a, ea a = .agg (ea a).cells) (hv : Value.okWide P w r b0 t v) (h : DataW.Trod enc P w base spare held t v d p) : ∃ a : α, ok a ∧ VRel (snap w) [] (ea a) v := by
  obtain ⟨cs, rfl, _⟩ := okWide_struct ht hv
  obtain ⟨fuel, hf⟩ := h
  obtain ⟨a, h1, h2, h3⟩ := R.read (by simpa [Value.cells] using hf)
  refine ⟨a, h1, ?_⟩
  rw [hagg a]
  exact .agg (by rw [h3.1]; simp) fun j x u hx hu => h3.2 j x u hx (by simpa using hu)
theorem rels_nil {I : Imm} : VRels I [] [] #[] := ⟨rfl, fun j v u h => by simp at h⟩
theorem rels_cons {I : Imm} {x : V} {u : Value} {vs : List V} {us : List Value} (h : VRel I [] x u) (k : VRels I [] vs us.toArray) : VRels I [] (x :: vs) (u :: us).toArray := by
  refine ⟨by have := k.1; simpa using this, fun j v y hj hu => ?_⟩
  cases j with
  | zero => simp at hj hu; subst hj hu; exact h
  | succ j => exact k.2 j v y (by simpa using hj) (by simpa using hu)
end
/-- A part of a struct. -/
theorem struct_part {P : Program} {t : TypeId} {fs : Array Field} (ht : P.underlying t = some (.struct fs))
    {H : Type} {enc : TypeId × Value → H} {w : World} {base : Nat} {spare : Nat → Bool} {held : Bool} {fuel : Nat} {cs : List Value} {x : DataW H × List MemPlace}
    (h : DataW.trod enc P w base spare held fuel t cs = some x) {α : Type} {ea : α → V} {ok : α → Prop} {sz : Nat} (i : Nat) {f : Field} (hfi : fs[i]? = some f) (R : ReadsV P f.type ea ok sz) :
    ∃ a : α, ok a ∧ ((cs.drop f.offset).take sz).length = sz ∧ CellsAre (snap w) (ea a) ((cs.drop f.offset).take sz) := by
  obtain ⟨xs, n, _, _, _, hxl, hg⟩ := DataW.trod_struct ht h
  have h3 := hg i f hfi
  have hi : i < fs.size := (Array.getElem?_eq_some_iff.1 hfi).1
  obtain ⟨a, h1, h2, h4⟩ := R.read (h3.trans (List.getElem?_eq_getElem (by omega)))
  rw [R.cells] at h2 h4
  exact ⟨a, h1, h2, h4⟩
theorem struct_len {P : Program} {t : TypeId} {fs : Array Field} (ht : P.underlying t = some (.struct fs))
    {H : Type} {enc : TypeId × Value → H} {w : World} {base : Nat} {spare : Nat → Bool} {held : Bool} {fuel : Nat} {cs : List Value} {x : DataW H × List MemPlace}
    (h : DataW.trod enc P w base spare held fuel t cs = some x) : cs.length = P.cellsOf t := by
  obtain ⟨_, _, _, _, hlen, _, _⟩ := DataW.trod_struct ht h
  exact hlen
theorem cells_one {I : Imm} {v : V} {cs : List Value} {o : Nat} {u : Value} (h : CellsAre I v ((cs.drop o).take 1)) (hv : v.cells = [v]) (hu : cs[o]? = some u) : VRel I [] v u :=
  h.2 0 v u (by rw [hv]; rfl) (by simp [hu])
end Go.Proofs.Ytloaefllpokkaaa
namespace Go.Proofs.Ytloaefllpokkaaa
open Go.ChangeShapes Go.WideShapes Go.ChangeAt Go.RowKit Go.Deep
structure Screen where
  period : Int
  phase : Int
def Screen.enc (s : Screen) : V := .agg [vi s.period, vi s.phase]
theorem rv_Int : ReadsV Try.prog 3 vi i64ok 1 := rv_int Try.underlying3 (by kernel_rfl)
theorem rv_ints : ReadsV Try.prog 22 (LV 1 vi) (fun l => ∀ y, y ∈ l → i64ok y) 1 := rv_list Try.underlying22 (by kernel_rfl) rv_Int
set_option maxRecDepth 100000 in
theorem rv_sheet : ReadsV Try.prog 45 Sheet.enc (fun s => i64ok s.cols ∧ i64ok s.rows ∧ i64ok s.weight ∧ i64ok s.clear ∧ i64ok s.lean) 5 :=
  ⟨by kernel_rfl, by omega, fun {_ _ _ _ _ _ _ cs _} h => by
    have hlen := struct_len Try.underlying45 h
    rw [show Try.prog.cellsOf 45 = 5 by kernel_rfl] at hlen
    obtain ⟨k0, o0, l0, e0⟩ := struct_part Try.underlying45 h 0 rfl rv_Int
    obtain ⟨k1, o1, l1, e1⟩ := struct_part Try.underlying45 h 1 rfl rv_Int
    obtain ⟨k2, o2, l2, e2⟩ := struct_part Try.underlying45 h 2 rfl rv_Int
    obtain ⟨k3, o3, l3, e3⟩ := struct_part Try.underlying45 h 3 rfl rv_Int
    obtain ⟨k4, o4, l4, e4⟩ := struct_part Try.underlying45 h 4 rfl rv_Int
    refine ⟨⟨k0, k1, k2, k3, k4⟩, ⟨o0, o1, o2, o3, o4⟩, hlen, hlen.symm, fun j x u hx hu => ?_⟩
    match j, hx with
    | 0, hx => cases hx; exact cells_one e0 rfl hu
    | 1, hx => cases hx; exact cells_one e1 rfl hu
    | 2, hx => cases hx; exact cells_one e2 rfl hu
    | 3, hx => cases hx; exact cells_one e3 rfl hu
    | 4, hx => cases hx; exact cells_one e4 rfl hu
    | j + 5, hx => simp [Sheet.enc, cells_agg] at hx⟩
section
variable {H : Type} {enc : TypeId × Value → H} {w : World} {base : Nat} {spare : Nat → Bool} {held : Bool} {r : Reach} {b0 : Nat} {v : Value} {d : DataW H} {p : List MemPlace}
set_option maxRecDepth 100000 in
theorem arg_sheet (hv : Value.okWide Try.prog w r b0 45 v) (h : DataW.Trod enc Try.prog w base spare held 45 v d p) : ∃ s : Sheet, (i64ok s.cols ∧ i64ok s.rows ∧ i64ok s.weight ∧ i64ok s.clear ∧ i64ok s.lean) ∧ VRel (snap w) [] s.enc v := arg_struct Try.underlying45 rv_sheet (fun _ => rfl) hv h
end
end Go.Proofs.Ytloaefllpokkaaa
-- old go
namespace Go.Proofs.Ytloaefllpokkaaa
open Go.RowKit
def Screen.ok (c : Screen) : Bool := withinB c.period 2 16 && withinB c.phase 0 (c.period - 1)
theorem Screen.bounds {c : Screen} (h : c.ok = true) : 2 ≤ c.period ∧ c.period ≤ 16 ∧ 0 ≤ c.phase ∧ c.phase ≤ c.period - 1 := by
  simp only [Screen.ok, Bool.and_eq_true, withinB_iff] at h
  omega
end Go.Proofs.Ytloaefllpokkaaa
namespace Go.Proofs.Ytloaefllpokkaaa
open Go.RowKit
section
variable {P : Program} {nt : Nat} {Q : Post} {env : Env} {H : Heap} {R Rp : V → Heap → Prop} {a t2 t3 : Nat} {v v2 v3 : V}
theorem bq1c {T : TypeId} {d : TyD} {sz b i off n : Nat} {f : Nat → V} (hT : TyIs P T d) (ha : look env a = some (.ptr sz b i off)) (hH : H[b]? = some (.arr sz n f)) (hi : i < n) (hv : partV d.tk.agg (f i).cells off d.size = some v)
    (hR : R v H) : BodyQ P #[.cell a T] R Rp .ret env H := ⟨_, .inl ⟨_, rfl, ⟨d, sz, b, i, off, n, f, hT, ha, hH, hi, hv⟩⟩, hR⟩
end
/-- A call that writes nothing that was there, of arguments without own blocks; its result is a new row of our own. -/
structure FCalls (P : Program) (f : FuncId) (args : List V) (sz : Nat) (R : Nat → (Nat → V) → Prop) : Prop where
  out : ∀ (I : Imm) w us, (∀ b o, I b = some o → w.heap[b]? = some o) → VRels I [] args us → Calls P f us w fun e w' => ∃ n g u I' ρ', R n g ∧ (∀ i, i < n → V.closed.all (g i).cells = true) ∧ e = .returned u ∧ VRel I' ρ' (.sl sz 0 0 n) u ∧ WOk (Ctx.self w [] [] I) I' ρ' [.arr sz n g] w'
def FreshQ (sz : Nat) (R : Nat → (Nat → V) → Prop) (v : V) (H : Heap) : Prop := ∃ n g, v = .sl sz 0 0 n ∧ H = [.arr sz n g] ∧ R n g ∧ ∀ i, i < n → V.closed.all (g i).cells = true
theorem fcalls_of_aw {P : Program} {f : FuncId} {fn : Func} {c : Code} {args : List V} {sz : Nat} {R : Nat → (Nat → V) → Prop} (hf : P.funcs[f]? = some fn) (hb : fn.body = some c) (hn : args.length ≤ fn.ntmps)
    (h : AW P none 0 fn.ntmps c (BodyQ P fn.results (FreshQ sz R) NoP) (argEnv args 0) []) : FCalls P f args sz R := by
  refine ⟨fun I w us hI hv => ?_⟩
  refine ((acalls_of_aw (H := []) hf hb hn h).1 (Ctx.self w [] [] I) I [] w us (WOk.begin hI) hv).mono fun e w' ⟨v, u, I', ρ', H', hle, hpre, hw', hr, h2⟩ => ?_
  rcases h2 with ⟨rfl, n, g, rfl, rfl, hR, hc⟩ | ⟨_, hno⟩
  · exact ⟨n, g, u, I', ρ', hR, hc, rfl, hr, hw'⟩
  · exact hno.elim
theorem get_snoc {α : Type} {l : List α} {a x : α} {k : Nat} (h : (l ++ [a])[k]? = some x) : (k < l.length ∧ l[k]? = some x) ∨ (k = l.length ∧ x = a) := by
  rcases Nat.lt_or_ge k l.length with hk | hk
  · exact .inl ⟨hk, by rwa [List.getElem?_append_left hk] at h⟩
  · rw [List.getElem?_append_right hk] at h
    have : k - l.length = 0 := by
      have := (List.getElem?_eq_some_iff.1 h).1
      simp at this
      omega
    rw [this] at h
    simp at h
    exact .inr ⟨by omega, h.symm⟩
theorem WOk.join {X : Ctx} {I J : Imm} {ρ : List (Option (Nat × Nat))} {x : Option (Nat × Nat)} {H : Heap} {w w' : World} {sz n : Nat} {g : Nat → V} (hw : WOk X I ρ H w) (k : WOk (Ctx.self w [] [] I) J [x] [.arr sz n g] w') (hc : ∀ i, i < n → V.closed.all (g i).cells = true) :
    WOk X J (ρ ++ [x]) (H ++ [.arr sz n g]) w' := by
  have hlen := hw.len
  have old : ∀ b, b < w.heap.size → w'.heap[b]? = w.heap[b]? := fun b hb => k.keep b hb not_live_nil
  have nw : ∀ b z, x = some (b, z) → w.heap.size ≤ b := fun b z e => by
    rcases k.mine b ⟨0, _, rfl, by simp, z, by rw [e]; rfl⟩ with h | h
    · exact h
    · exact (not_live_nil h).elim
  have oldLive : ∀ i b y (blk : Blk), H[i]? = some blk → blk ≠ .dead → ρ[i]? = some (some (b, y)) → b < w.heap.size := fun i b y blk h1 h2 h3 => hw.lt ⟨i, blk, h1, h2, y, h3⟩
  have both : ∀ (i : Nat) (blk : Blk) (y : Option (Nat × Nat)), (H ++ [Blk.arr sz n g])[i]? = some blk → (ρ ++ [x])[i]? = some y → (i < H.length ∧ H[i]? = some blk ∧ ρ[i]? = some y) ∨ (i = H.length ∧ blk = .arr sz n g ∧ y = x) := fun i blk y h1 h2 => by
    rcases get_snoc h1 with ⟨a1, a2⟩ | ⟨a1, a2⟩ <;> rcases get_snoc h2 with ⟨b1, b2⟩ | ⟨b1, b2⟩
    · exact .inl ⟨a1, a2, b2⟩
    · omega
    · omega
    · exact .inr ⟨a1, a2, b2⟩
  exact { len := by simp [hlen]
          inj := fun i j b ⟨p, hp, hp'⟩ ⟨q, hq, hq'⟩ y z hy hz => by
            rcases both i p _ hp hy with ⟨_, a2, a3⟩ | ⟨a1, _, a3⟩ <;> rcases both j q _ hq hz with ⟨_, b2, b3⟩ | ⟨b1, _, b3⟩
            · exact hw.inj i j b ⟨p, a2, hp'⟩ ⟨q, b2, hq'⟩ y z a3 b3
            · have h1 := oldLive i b y p a2 hp' a3
              have h2 := nw b z b3.symm
              omega
            · have h1 := oldLive j b z q b2 hq' b3
              have h2 := nw b y a3.symm
              omega
            · omega
          imm := k.imm
          apart := fun b ⟨i, blk, h1, h2, z, h3⟩ => by
            rcases both i blk _ h1 h3 with ⟨_, a2, a3⟩ | ⟨_, _, a3⟩
            · have hlt := oldLive i b z blk a2 h2 a3
              have hI := hw.apart b ⟨i, blk, a2, h2, z, a3⟩
              cases e : J b with
              | none => rfl
              | some o =>
                rcases k.news b (by rw [e]; simp) with h | h | h
                · exact (h hI).elim
                · have : w.heap.size ≤ b := h
                  omega
                · exact (not_live_nil h).elim
            · exact k.apart b ⟨0, _, rfl, by simp, z, by rw [← a3]; rfl⟩
          size := fun i s m f h => by
            rcases get_snoc h with ⟨_, a2⟩ | ⟨_, a2⟩
            · exact hw.size i s m f a2
            · cases a2; exact k.size 0 _ _ _ rfl
          none := fun i s m f h h' => by
            rcases both i _ _ h h' with ⟨_, a2, a3⟩ | ⟨_, a2, a3⟩
            · exact hw.none i s m f a2 a3
            · cases a2; exact k.none 0 _ _ _ rfl (by rw [← a3]; rfl)
          arr := fun i s m f b z h h' => by
            rcases both i _ _ h h' with ⟨_, a2, a3⟩ | ⟨_, a2, a3⟩
            · exact (hw.arr i s m f b z a2 a3).mono k.le (pre_append _) (old b (oldLive i b z _ a2 (by simp) a3))
            · cases a2
              obtain ⟨cs, ty, h1, h2, h3, h4⟩ := k.arr 0 _ _ _ b z rfl (by rw [← a3]; rfl)
              exact ⟨cs, ty, h1, h2, h3, fun i j v hi hv => by obtain ⟨u, h5, h6⟩ := h4 i j v hi hv; exact ⟨u, h5, (h6.close (closed_all (hc i hi) hv)).closed⟩⟩
          map := fun i m h => by
            rcases get_snoc h with ⟨a1, a2⟩ | ⟨_, a2⟩
            · obtain ⟨b, h1, h2⟩ := hw.map i m a2
              refine ⟨b, ?_, h2.mono k.le (pre_append _) (old b (oldLive i b 0 _ a2 (by simp) h1))⟩
              rw [List.getElem?_append_left (by omega)]
              exact h1
            · cases a2
          mine := fun b ⟨i, blk, h1, h2, z, h3⟩ => by
            rcases both i blk _ h1 h3 with ⟨_, a2, a3⟩ | ⟨_, _, a3⟩
            · exact hw.mine b ⟨i, blk, a2, h2, z, a3⟩
            · exact .inl (Nat.le_trans hw.grow (nw b z a3.symm))
          news := fun b hb => by
            rcases k.news b hb with h | h | h
            · exact hw.news b h
            · exact .inr (.inl (Nat.le_trans hw.grow h))
            · exact (not_live_nil h).elim
          le := Imm.le_trans hw.le k.le
          pre := hw.pre.trans (pre_append _)
          os := k.os.trans hw.os, tape := k.tape.trans hw.tape, out := k.out.trans hw.out, grow := Nat.le_trans hw.grow k.grow
          keep := fun b hb hl => (old b (Nat.lt_of_lt_of_le hb hw.grow)).trans (hw.keep b hb hl) }
section
variable {P : Program} {r : Option Nat} {m nt : Nat} {Q : Post} {env : Env} {H : Heap} {ops : Array Oper} {l : List Stp} {dst : Option Tmp} {ty : TypeId} {pos : String} {after : Array Edge} {guard : Option (Nat × Bool)} {keep : Bool}
theorem ls_fcall {fo : Operand} {args : List Operand} {ats : Array TypeId} {f : FuncId} {first cap vs avs : List V} {sz : Nat} {R : Nat → (Nat → V) → Prop} (hfn : FnOk P f) (hf : eo env fo = some (.fn (.func f) first cap)) (hargs : args.mapM (eo env) = some vs)
    (ha : ArgsOk false H (first ++ vs ++ cap) avs) (h : FCalls P f avs sz R) : LS P r m nt keep env H ⟨dst, .call ⟨.value fo, args.toArray, ats⟩, ty, pos, after, guard⟩ (fun v H' => ∃ n g, R n g ∧ v = .sl sz H.length 0 n ∧ H' = H ++ [.arr sz n g]) NoP := .mk
  fun X I ρ a w next Qx hX hs hk hp => by
    have hw := hs.2.1
    have h1 := eo_rel hs.1 hf
    cases h1' : a.eval fo <;> rw [h1'] at h1 <;> cases h1
    rename_i us ws e1 e2 e3 e4
    have hrel : VRels I ρ (first ++ vs ++ cap) (us ++ (args.map a.eval).toArray ++ ws) := (VRels.append ⟨e1, e2⟩ (evals hs.1 hargs)).append ⟨e3, e4⟩
    have hrel' := args_rel (us := (us ++ (args.map a.eval).toArray ++ ws).toList) hw ha (by rw [Array.toArray_toList]; exact hrel)
    rw [Array.toArray_toList] at hrel'
    refine wpIn_of_run (by simp) (call_run hfn h1' w) ⟨fun h => by simp [Fw, Fence.wide] at h, callsIn_fw.2 ?_⟩
    refine (h.1 I w _ hw.imm hrel').mono fun e w' ⟨n, g, u, I', ρ', hR, hc, he, hv, hk'⟩ => ?_
    subst he
    obtain ⟨x, rfl⟩ : ∃ x, ρ' = [x] := by
      have := hk'.len
      match ρ', this with
      | [x], _ => exact ⟨x, rfl⟩
    have hx : (ρ ++ [x])[H.length]? = some x := by rw [← hw.len]; simp
    have hv2 : VRel I' (ρ ++ [x]) (.sl sz H.length 0 n) u := by
      rcases hv.sl_inv with ⟨cb, z, c, rfl, hρ, h2, h3, h4⟩ | ⟨A, rfl, hρ, _, rfl⟩
      · exact .sl (by rw [hx]; simpa using hρ) h2 h3 h4
      · exact .slNone A (by rw [hx]; simpa using hρ)
    exact hk I' (ρ ++ [x]) _ _ u w' ⟨n, g, hR, rfl, rfl⟩ hk'.le (pre_append _) (hw.join hk' hc) hv2 (fun _ y hy => by
      have old : ∀ b, b < w.heap.size → w'.heap[b]? = w.heap[b]? := fun b hb => hk'.keep b hb not_live_nil
      have hlen := hw.len
      refine ⟨fun b o h1 => hy.1 b o (hk'.le b o h1), fun k s' m f b z h1 h2 o ho => ?_, fun k ms b z h1 h2 => ?_⟩
      · have hk1 := (List.getElem?_eq_some_iff.1 h1).1
        exact (hy.2.1 k s' m f b z (by rw [List.getElem?_append_left hk1]; exact h1) (by rw [List.getElem?_append_left (by omega)]; exact h2) o ho).trans (World.cell?_of_block (a := ⟨b, o, none⟩) (old b (hw.lt ⟨k, _, h1, by simp, z, h2⟩)))
      · have hk1 := (List.getElem?_eq_some_iff.1 h1).1
        exact (hy.2.2 k ms b z (by rw [List.getElem?_append_left hk1]; exact h1) (by rw [List.getElem?_append_left (by omega)]; exact h2)).trans (old b (hw.lt ⟨k, _, h1, by simp, z, h2⟩)))
theorem ar_fcall {i d : Nat} {fo : Operand} {args : List Operand} {ats : Array TypeId} {f : FuncId} {first cap vs avs : List V} {sz : Nat} {R : Nat → (Nat → V) → Prop} (hfn : FnOk P f) (hf : eo env fo = some (.fn (.func f) first cap)) (hargs : args.mapM (eo env) = some vs)
    (ha : ArgsOk false H (first ++ vs ++ cap) avs) (h : FCalls P f avs sz R) (hd : d < nt) (hk : ∀ n g, R n g → AR P r m nt ops Q l ((d, .sl sz H.length 0 n) :: env) (H ++ [.arr sz n g])) : AR P r m nt ops Q (.l i ⟨some d, .call ⟨.value fo, args.toArray, ats⟩, ty, pos, after, none⟩ keep :: l) env H :=
  ar_l (ls_fcall hfn hf hargs ha h) hd (fun v H' ⟨n, g, hR, a, b⟩ => by subst a; subst b; exact hk n g hR) (fun _ _ h => h.elim)
end
end Go.Proofs.Ytloaefllpokkaaa
namespace Go.Proofs.Ytloaefllpokkaaa
open Go.RowKit
section
variable {P : Program} {r : Option Nat} {m nt : Nat} {Q : Post} {env : Env} {H : Heap} {ops : Array Oper} {l : List Stp} {ty : TypeId} {pos : String} {after : Array Edge} {guard : Option (Nat × Bool)} {dst : Option Tmp} {T T2 E : TypeId} {d de : TyD} {x y : Operand} {keep : Bool}
theorem append_zeros_run {w : World} {i : TypeInfo} {z : Value} {n : Nat} (ht : P.underlying T = some (.slice E)) (ht2 : P.underlying T2 = some (.int .i64)) (hi : P.info? E = some i) (hz : i.zero = some z) (h0 : 0 < n) (hn : n ≤ 1000000) (hby : i.bytes ≤ 1024) (hs : i.size ≠ 0) :
    (Builtin.append_ #[T, T2] ty #[.slice none 0 0, .int .i64 (n : Int)]).run P w =
      .ok (.slice (some ⟨w.heap.size, 0, none⟩) n (grownCap w n 0 E)) (w.drew.alloc (.cells (Builtin.zeroCells z.cells n ++ Builtin.zeroCells z.cells (grownCap w n 0 E - n)) E)) := by
  have hb : n * i.bytes ≤ 1000000 * 1024 := Nat.mul_le_mul hn hby
  have hfit := growslice_fits (need := n) (old := 0) (bytes := i.bytes) h0 (by omega)
  have hn' : ¬ (n ≤ 0) := by omega
  have h63' : ¬ (9223372036854775807 < (n : Int)) := by omega
  have h48' : ¬ (281474976710656 < Builtin.nextslicecap n 0 * i.bytes) := by omega
  have hwr : IntKind.i64.wrap (n : Int) = n := wrap64 (by omega)
  have hneg : ¬ ((n : Int) < 0) := by omega
  have hbig : ¬ (281474976710656 < (n : Int) * (i.bytes : Int)) := by rw [← Int.natCast_mul]; omega
  have hn0 : ¬ n = 0 := by omega
  have hns : ¬ n * i.size = 0 := Nat.mul_ne_zero hn0 hs
  simp [Builtin.append_, run_underlying ht, run_underlying ht2, sizeOf, typeInfo, zeroValue, hi, hz, asInt, asIntOf, hwr, hneg, hbig, h63', h48', hn0, hns, Question.forced, newRow, grownCap, Builtin.firstCells]
theorem ar_append_zeros {i e n : Nat} {v : Int} (ht : TyIs P T d) (hk : d.tk = .slice E) (ht2 : P.underlying T2 = some (.int .i64)) (he : TyIs P E de) (hz : de.zero.cells.size = de.size) (hsz : de.size ≠ 0) (hby : de.bytes ≤ 1024) (hx : eo env x = some (.s (.slice none 0 0))) (hy : eo env y = some (.s (.int .i64 v))) (hv : v = (n : Int)) (h0 : 0 < n) (hn : n ≤ 1000000) (hd : e < nt)
    (h : AR P r m nt ops Q l ((e, .sl de.size H.length 0 n) :: env) (H ++ [.arr de.size 0 (fun _ => vnil)])) : AR P r m nt ops Q (.l i ⟨some e, .call ⟨.builtin .append, #[x, y], #[T, T2]⟩, ty, pos, after, none⟩ keep :: l) env H :=
  ar_l (R := fun u H' => u = .sl de.size H.length 0 n ∧ H' = H ++ [.arr de.size 0 (fun _ => vnil)]) (Rp := NoP) (.mk fun X I ρ a w next Qx hX hS hK hp => by
    obtain ⟨hE, hw, hdf⟩ := hS
    subst hv
    have hu := sval hE hx
    have hv := sval hE hy
    obtain ⟨ii, hi, hs1, hby1, hz0⟩ := he.inf
    have hrun := append_zeros_run (P := P) (w := w) (ty := ty) (ht.slice hk) ht2 hi hz0 h0 hn (by omega) (by omega)
    refine wpIn_of_run (by simp) (res := .ok (.value (.slice (some ⟨w.heap.size, 0, none⟩) n (grownCap w n 0 E))) (w.drew.alloc (.cells (Builtin.zeroCells de.zero.cells n ++ Builtin.zeroCells de.zero.cells (grownCap w n 0 E - n)) E))) (by simp [execOp, resolve, invoke, builtin, hu, hv, hrun]) ?_
    have hge := grownCap_ge w n 0 E
    have hcm := grownCap_le_maxLen w n 0 E (by unfold maxLen; omega)
    have hcs : (Builtin.zeroCells de.zero.cells n ++ Builtin.zeroCells de.zero.cells (grownCap w n 0 E - n)).size = grownCap w n 0 E * de.size := by
      rw [Array.size_append, size_zeroCells, size_zeroCells, hz, ← Nat.add_mul]
      congr 1
      omega
    have ok := WOk.alloc (w' := w.drew.alloc (.cells (Builtin.zeroCells de.zero.cells n ++ Builtin.zeroCells de.zero.cells (grownCap w n 0 E - n)) E)) (ty := E) (sz := de.size) (n := 0) (f := fun _ => vnil) hw.drew (cs := Builtin.zeroCells de.zero.cells n ++ Builtin.zeroCells de.zero.cells (grownCap w n 0 E - n)) (by simp) (fun i hi => by omega) (fun i j v hi => by omega) rfl rfl rfl rfl
    rw [hcs] at ok
    refine hK I _ _ _ _ _ ⟨rfl, rfl⟩ (Imm.le_refl _) (pre_append _) ok ?_ (fun _ => keeps_alloc hw fun b hb => Below.heap_alloc w.drew _ b hb)
    have := VRel.sl (I := I) (ρ := ρ ++ [some (w.heap.size, grownCap w n 0 E * de.size)]) (sz := de.size) (b := H.length) (i := 0) (n := n) (cb := w.heap.size) (z := grownCap w n 0 E * de.size) (c := grownCap w n 0 E) (by rw [← hw.len]; simp) (by omega) hcm (by simp)
    simpa using this) hd (fun v H' ⟨a, b⟩ => by subst a; subst b; exact h) (fun _ _ h => h.elim)
theorem qs_cap_nil {ats : Array TypeId} (ht : TyIs P T d) (hk : d.tk = .slice E) (h0 : ats[0]? = some T) (hx : eo env x = some (.s (.slice none 0 0))) : QS P nt env H ⟨dst, .call ⟨.builtin .cap, #[x], ats⟩, ty, pos, after, guard⟩ (.s (.int .i64 0)) := .mk
  fun _ I ρ a w h hw => ⟨_, .s _, fun w' _ => by simp [execOp, resolve, invoke, builtin, Builtin.cap_, sval h hx, h0, run_underlying (ht.slice hk), goInt]⟩
theorem qs_slice_nil {hi : Operand} {k : IntKind} (ht : TyIs P T d) (hk : d.tk = .slice E) (he : TyIs P E de) (hx : eo env x = some (.s (.slice none 0 0))) (hh : eo env hi = some (.s (.int k 0))) : QS P nt env H ⟨dst, .slice T x none (some hi) none, ty, pos, after, guard⟩ (.s (.slice none 0 0)) := .mk
  fun _ I ρ a w h hw => ⟨_, .s _, fun w' _ => by
    have := slice_run (P := P) (w := w') (A := none) (n := 0) (cap := 0) (l := 0) (h := 0) (m := 0) (lo := none) (hi := some (a.eval hi)) (mx := none) ht hk he rfl ⟨k, by rw [sval h hh]; rfl⟩ rfl (Nat.le_refl _) (Nat.le_refl _) (Nat.le_refl _)
    simp only [execOp, sval h hx, Sem.run_bind, Option.map_some, Option.map_none, this, Result.andThen_ok]
    rfl⟩
end
end Go.Proofs.Ytloaefllpokkaaa
namespace Go.Proofs.Ytloaefllpokkaaa
open Go.RowKit
theorem fn1_subL {H : Heap} {σ : List (Option Nat)} {fr : Nat → Prop} {f : Fn} {a a' : V} (ha : VSub H σ fr a a') : VSub H σ fr (.fn f [] [a]) (.fn f [] [a']) :=
  .fn rfl (fun j v x h _ => by simp at h) rfl fun j v x h h' => match j, h, h' with
    | 0, h, h' => by cases h; cases h'; exact ha
    | j + 1, h, _ => by simp at h
def catTo (b : List (List Int)) (k : Nat) : List Int := (b.take k).flatten
theorem catTo_succ {b : List (List Int)} {k : Nat} (h : k < b.length) : catTo b (k + 1) = catTo b k ++ el b k := by
  unfold catTo
  rw [List.take_succ_eq_append_getElem h, List.flatten_append, el_eq h]
  simp
theorem catTo_all {b : List (List Int)} {k : Nat} (h : b.length ≤ k) : catTo b k = b.flatten := by unfold catTo; rw [List.take_of_length_le h]
set_option maxHeartbeats 1000000 in
theorem grow_p (n : Int) (h0 : 0 ≤ n) (hn : n ≤ 100000) : FCalls Try.prog 87 [vnil, vi n] 1 (fun k _ => k = 0) := by
  refine fcalls_of_aw Try.func87 rfl (dc rfl) ?_
  (repeat' (first | (refine ar_isq ?_; first | refine zmv ?_ | refine zas ?_ | (refine is_binOp ?_; first | refine zlss ?_ | refine zgtr ?_ | refine zsub ?_) | (refine is_call ?_; first | refine zll ?_ | refine zls ?_ | refine zln ?_ | refine zle ?_)) | (refine ar_q (qs_cap_nil (ty rfl) rfl rfl rfl) (dc rfl) ?_) | (refine ar_q (qs_slice_nil (ty rfl) rfl (ty rfl) rfl rfl) (dc rfl) ?_) | (refine ar_append_zeros (n := n.toNat) (ty rfl) rfl Try.underlying3 (ty rfl) rfl (by decide) (by decide) rfl rfl (by omega) (by omega) (by omega) (dc rfl) ?_) | (refine zcl (a := 0) (b := 0) ?_) | (refine zcs (a := 0) (b := 0) ?_) | (refine zapoo ?_) | (refine zapol ?_) | (refine zapno ?_) | (refine zapnl ?_) | (refine zapeo ?_) | (refine zapel ?_) | (refine ar_nil ?_) | (refine aw_seq ?_) | (refine aw_skip ?_) | (refine aw_block ?_) | (refine aw_exit ?_) | (refine aw_region ?_) | (refine zco ?_ ?_ <;> intro hg <;> first | exact absurd hg (by decide) | ((try replace hg := HG.out hg); (try dsimp only at hg); (try (have _h : True := hg; clear _h hg)); first | (exfalso; omega) | skip))))
  all_goals first
    | (exfalso; omega)
    | ((refine aw_mono_r (env' := [(4, .sl 1 0 0 0)]) (H' := [.arr 1 0 (fun _ => vnil)]) ?_ ?_; (focus ((refine sub_to [some 0] [] rfl ?_ ?_ <;> (repeat' (first | exact trivial | refine ⟨⟨_, rfl, ?_⟩, ?_⟩ | refine ⟨bsub_snoc rfl rfl (fun _ => rfl) ?_, ?_⟩ | refine ⟨bsub_one rfl rfl ?_, ?_⟩ | refine ⟨bsub_all rfl rfl (fun _ _ => rfl) (fun _ => rfl), ?_⟩ | refine ⟨bsub_updL rfl rfl ?_ (fun _ _ _ => rfl) (fun _ => rfl), ?_⟩ | refine ⟨.inl ⟨_, _, rfl, rfl, ?_⟩, ?_⟩ | exact ⟨.inr ⟨rfl, rfl⟩, trivial⟩ | refine ⟨.inr ⟨rfl, rfl⟩, ?_⟩ | (intro _ _) | exact vz1 | exact vz2 | fail))); done))); refine aw_ret (bq1 rfl ⟨0, _, rfl, rfl, rfl, fun i hi => by omega⟩))
    | ((refine aw_mono_r (env' := [(4, .sl 1 0 0 0)]) (H' := [.arr 1 0 (fun _ => vnil)]) ?_ ?_; (focus ((refine sub_to [none] [] rfl ?_ ?_ <;> (repeat' (first | exact trivial | refine ⟨⟨_, rfl, ?_⟩, ?_⟩ | refine ⟨bsub_snoc rfl rfl (fun _ => rfl) ?_, ?_⟩ | refine ⟨bsub_one rfl rfl ?_, ?_⟩ | refine ⟨bsub_all rfl rfl (fun _ _ => rfl) (fun _ => rfl), ?_⟩ | refine ⟨bsub_updL rfl rfl ?_ (fun _ _ _ => rfl) (fun _ => rfl), ?_⟩ | refine ⟨.inl ⟨_, _, rfl, rfl, ?_⟩, ?_⟩ | exact ⟨.inr ⟨rfl, rfl⟩, trivial⟩ | refine ⟨.inr ⟨rfl, rfl⟩, ?_⟩ | (intro _ _) | exact vz1 | exact vz2 | fail))); done))); refine aw_ret (bq1 rfl ⟨0, _, rfl, rfl, rfl, fun i hi => by omega⟩))
end Go.Proofs.Ytloaefllpokkaaa
namespace Go.Proofs.Ytloaefllpokkaaa
open Go.RowKit
theorem and1 {k : Nat} (h : k ≤ 9223372036854775807) : IntKind.i64.wrap ((BitVec.ofInt IntKind.i64.bits (k : Int) &&& BitVec.ofInt IntKind.i64.bits 1).toNat : Int) = ((k % 2 : Nat) : Int) := by
  have e : ((BitVec.ofInt IntKind.i64.bits (k : Int) &&& BitVec.ofInt IntKind.i64.bits 1).toNat) = k % 2 := by
    show ((BitVec.ofInt 64 (k : Int) &&& BitVec.ofInt 64 1).toNat) = k % 2
    rw [BitVec.toNat_and]
    have h1 : (BitVec.ofInt 64 (k : Int)).toNat = k := by simp; omega
    have h2 : (BitVec.ofInt 64 1).toNat = 1 := by decide
    rw [h1, h2, Nat.and_one_is_mod]
  rw [e]
  have hk : k % 2 = 0 ∨ k % 2 = 1 := by omega
  rcases hk with h | h <;> rw [h] <;> rfl
set_option maxHeartbeats 1000000 in
theorem rodd_p (n : Int) : PCalls Try.prog 60 [vi n] (· = vb (oddB n)) := by
  refine pcalls_of_aw Try.func60 rfl (Nat.le_of_ble_eq_true rfl) ?_
  (repeat' (first | (refine ar_isq ?_; first | refine zmv ?_ | refine zas ?_ | (refine is_binOp ?_; first | refine zlss ?_ | refine zgtr ?_) | (refine is_pick ?_; first | refine zpt ?_ | refine zpf ?_)) | (refine zg ?_ ?_ <;> intro hg <;> first | exact absurd hg (by decide) | ((try replace hg := HG.out hg); (try dsimp only at hg); (try (have _h : True := hg; clear _h hg)); first | (exfalso; omega) | skip)) | (refine zgu ?_) | (refine ar_nil ?_) | (refine aw_seq ?_) | (refine aw_skip ?_) | (refine aw_block ?_) | (refine aw_exit ?_) | (refine aw_region ?_) | (refine zco ?_ ?_ <;> intro hg <;> first | exact absurd hg (by decide) | ((try replace hg := HG.out hg); (try dsimp only at hg); (try (have _h : True := hg; clear _h hg)); first | (exfalso; omega) | skip))))
  all_goals (refine aw_ret ?_; (repeat (first | refine ret_then ?_ | refine ret_block ?_)); refine bq1 rfl ⟨?_, rfl⟩)
  all_goals (simp only [vb, constV, oddB]; congr 2; simp; try omega)
theorem anyOdd_p (f : List Int) : PCalls Try.prog 44 [encInts f, .fn (.func 60) [] []] (· = vb (f.any oddB)) := containsInts_p f fn60 rfl _ (fun x _ => rodd_p x)
set_option maxHeartbeats 1000000 in
theorem rCheck_p (f : List Int) : PCalls Try.prog 41 [encInts f] (· = vi (rosE f)) := by
  (refine pcalls_know (fun I us h => rel_len (rel_arg h (j := 0) rfl)) fun hlen0 => ?_)
  refine pcalls_of_aw Try.func41 rfl (Nat.le_of_ble_eq_true rfl) ?_
  (repeat' (first | (refine ar_isq ?_; first | refine zmv ?_ | refine zas ?_ | (refine is_binOp ?_; first | refine zlss ?_ | refine zgtr ?_) | (refine is_call ?_; first | refine zll ?_ | refine zls ?_ | refine zln ?_ | refine zle ?_) | (refine is_pick ?_; first | refine zpt ?_ | refine zpf ?_)) | (refine ar_pcall (own := false) fn44 rfl rfl (.cons (.closed rfl) (.cons (.closed rfl) .nil)) (anyOdd_p f) (by simp) (dc rfl) ?_; intro _ hv; subst hv) | (refine zg ?_ ?_ <;> intro hg <;> first | exact absurd hg (by decide) | ((try replace hg := HG.out hg); (try dsimp only at hg); (try (have _h : True := hg; clear _h hg)); first | (exfalso; omega) | skip)) | (refine zgu ?_) | (refine ar_nil ?_) | (refine aw_seq ?_) | (refine aw_skip ?_) | (refine aw_block ?_) | (refine aw_exit ?_) | (refine aw_region ?_) | (refine zco ?_ ?_ <;> intro hg <;> first | exact absurd hg (by decide) | ((try replace hg := HG.out hg); (try dsimp only at hg); (try (have _h : True := hg; clear _h hg)); first | (exfalso; omega) | skip))))
  all_goals (refine aw_ret ?_; (repeat (first | refine ret_then ?_ | refine ret_block ?_)); refine bq1 rfl ⟨?_, rfl⟩)
  all_goals (unfold rosE; first | (rw [if_pos (by first | (left; omega) | (right; left; omega) | (right; right; assumption))]; rfl) | (rw [if_neg (by simp_all; omega)]; rfl))
set_option maxHeartbeats 1000000 in
theorem rRubber_p (b : List Int) (n : Int) : PCalls Try.prog 42 [encInts b, vi n] (· = vi (rubE b n)) := by
  (refine pcalls_know (fun I us h => rel_len (rel_arg h (j := 0) rfl)) fun hlen0 => ?_)
  refine pcalls_of_aw Try.func42 rfl (Nat.le_of_ble_eq_true rfl) ?_
  (repeat' (first | (refine ar_isq ?_; first | refine zmv ?_ | refine zas ?_ | (refine is_load ?_; first | refine zlp ?_ | refine zlr ?_) | (refine is_binOp ?_; first | refine zgtr ?_ | refine zeql ?_ | refine ar_q (qs_and rfl rfl (andMask (by omega))) (dc rfl) ?_ | refine zquo ?_) | (refine is_indexAddr ?_; first | refine zil ?_ | refine zis ?_ | refine zit ?_ | refine zia ?_ | refine zir ?_ | refine zil (j := b.length / 2) ?_ | refine zis (j := b.length / 2) ?_ | refine zit (j := b.length / 2) ?_ | (refine zxl ?_; intro _ _ _) | (refine zxs ?_; intro _ _ _)) | (refine is_call ?_; first | refine zll ?_ | refine zls ?_ | refine zln ?_ | refine zle ?_) | (refine is_pick ?_; first | refine zpt ?_ | refine zpf ?_)) | (refine ar_q (qs_and rfl rfl (and1 (by omega))) (dc rfl) ?_) | (refine ar_pcall (own := false) fn44 rfl rfl (.cons (.closed rfl) (.cons (.closed rfl) .nil)) (anyOdd_p b) (by simp) (dc rfl) ?_; intro _ hv; subst hv) | (refine zg ?_ ?_ <;> intro hg <;> first | exact absurd hg (by decide) | ((try replace hg := HG.out hg); (try dsimp only at hg); (try (have _h : True := hg; clear _h hg)); first | (exfalso; omega) | skip)) | (refine zgu ?_) | (refine ar_nil ?_) | (refine aw_seq ?_) | (refine aw_skip ?_) | (refine aw_block ?_) | (refine aw_exit ?_) | (refine aw_region ?_) | (refine zco ?_ ?_ <;> intro hg <;> first | exact absurd hg (by decide) | ((try replace hg := HG.out hg); (try dsimp only at hg); (try (have _h : True := hg; clear _h hg)); first | (exfalso; omega) | skip))))
  all_goals first
    | (exfalso; omega)
    | ((refine aw_ret ?_; (repeat (first | refine ret_then ?_ | refine ret_block ?_)); refine bq1 rfl ⟨?_, rfl⟩); unfold rubE; rw [if_pos (by first | (left; omega) | (right; left; omega) | (right; right; left; omega) | (right; right; right; left; assumption) | (right; right; right; right; omega))]; rfl)
    | ((refine aw_ret ?_; (repeat (first | refine ret_then ?_ | refine ret_block ?_)); refine bq1 rfl ⟨?_, rfl⟩); unfold rubE; rw [if_neg (by simp_all; omega)]; rfl)
    | trace_state
set_option maxHeartbeats 1000000 in
theorem rBoth_p (f b : List Int) : PCalls Try.prog 77 [encInts f, encInts b] (· = vi (if rosE f = 0 then rubE b f.length else rosE f)) := by
  refine pcalls_of_aw Try.func77 rfl (Nat.le_of_ble_eq_true rfl) ?_
  (repeat' (first | (refine ar_isq ?_; first | refine zmv ?_ | refine zas ?_ | refine zneq ?_ | (refine is_call ?_; first | refine zll ?_ | refine zls ?_ | refine zln ?_ | refine zle ?_)) | (refine ar_pcall (own := false) fn41 rfl rfl (.cons (.closed rfl) .nil) (rCheck_p f) (by simp) (dc rfl) ?_; intro _ hv; subst hv) | (refine ar_pcall (own := false) fn42 rfl rfl (.cons (.closed rfl) (.cons (.closed rfl) .nil)) (rRubber_p b f.length) (by simp) (dc rfl) ?_; intro _ hv; subst hv) | (refine ar_nil ?_) | (refine aw_seq ?_) | (refine aw_skip ?_) | (refine aw_block ?_) | (refine aw_exit ?_) | (refine aw_region ?_) | (refine zco ?_ ?_ <;> intro hg <;> first | exact absurd hg (by decide) | ((try replace hg := HG.out hg); (try dsimp only at hg); (try (have _h : True := hg; clear _h hg)); first | (exfalso; omega) | skip))))
  all_goals (refine aw_ret ?_; (repeat (first | refine ret_then ?_ | refine ret_block ?_)); refine bq1 rfl ⟨?_, rfl⟩)
  · rw [if_neg (by assumption)]
  · rw [if_pos (by assumption)]
set_option maxHeartbeats 1000000 in
theorem raround_p (p n : Int) (hn : 0 < n) (hb : n ≤ 1000) : PCalls Try.prog 84 [vi p, vi n] (· = vi (p % n)) := by
  have ht := tmod_mod p hn
  have hlo := tmod_gt p hn
  have hhi := Int.tmod_lt_of_pos p hn
  refine pcalls_of_aw Try.func84 rfl (Nat.le_of_ble_eq_true rfl) ?_
  (repeat' (first | (refine ar_isq ?_; first | refine zmv ?_ | refine zas ?_ | (refine is_binOp ?_; first | refine zlss ?_ | refine zadd ?_ | refine zrem ?_)) | (refine ar_q (qs_rem rfl rfl (by omega) rfl) (dc rfl) ?_) | (refine ar_nil ?_) | (refine aw_seq ?_) | (refine aw_skip ?_) | (refine aw_block ?_) | (refine aw_exit ?_) | (refine aw_region ?_) | (refine zco ?_ ?_ <;> intro hg <;> first | exact absurd hg (by decide) | ((try replace hg := HG.out hg); (try dsimp only at hg); (try (have _h : True := hg; clear _h hg)); first | (exfalso; omega) | skip))))
  all_goals first
    | (exfalso; omega)
    | ((refine aw_ret ?_; (repeat (first | refine ret_then ?_ | refine ret_block ?_)); refine bq1 rfl ⟨?_, rfl⟩); rw [ht, if_pos (by omega)]; rfl)
    | ((refine aw_ret ?_; (repeat (first | refine ret_then ?_ | refine ret_block ?_)); refine bq1 rfl ⟨?_, rfl⟩); rw [ht, if_neg (by omega)]; rfl)
    | trace_state
theorem rdrop_p (x y : Int) (hx : 0 ≤ x ∧ x ≤ 10000) (hy : 0 ≤ y ∧ y ≤ 10000) : PCalls Try.prog 79 [vi x, vi y] (· = vi (x - y)) := by
  refine pcalls_of_aw Try.func79 rfl (Nat.le_of_ble_eq_true rfl) ?_
  (repeat' (first | (refine ar_isq ?_; first | refine zmv ?_ | refine zas ?_ | refine zsub ?_) | (refine ar_nil ?_) | (refine aw_seq ?_) | (refine aw_skip ?_) | (refine aw_block ?_) | (refine aw_exit ?_) | (refine aw_region ?_) | (refine zco ?_ ?_ <;> intro hg <;> first | exact absurd hg (by decide) | ((try replace hg := HG.out hg); (try dsimp only at hg); (try (have _h : True := hg; clear _h hg)); first | (exfalso; omega) | skip))))
  (refine aw_ret ?_; (repeat (first | refine ret_then ?_ | refine ret_block ?_)); refine bq1 rfl ⟨?_, rfl⟩)
  rfl
theorem rmax_p (x y : Int) : PCalls Try.prog 80 [vi x, vi y] (· = vi (max x y)) := by
  refine pcalls_of_aw Try.func80 rfl (Nat.le_of_ble_eq_true rfl) ?_
  (repeat' (first | (refine ar_isq ?_; first | refine zmv ?_ | refine zas ?_ | refine zmax ?_) | (refine ar_nil ?_) | (refine aw_seq ?_) | (refine aw_skip ?_) | (refine aw_block ?_) | (refine aw_exit ?_) | (refine aw_region ?_) | (refine zco ?_ ?_ <;> intro hg <;> first | exact absurd hg (by decide) | ((try replace hg := HG.out hg); (try dsimp only at hg); (try (have _h : True := hg; clear _h hg)); first | (exfalso; omega) | skip))))
  (refine aw_ret ?_; (repeat (first | refine ret_then ?_ | refine ret_block ?_)); refine bq1 rfl ⟨?_, rfl⟩)
  rfl
theorem offsets_p (b : List Int) : PCalls Try.prog 83 [encInts b] (· = .fn (.func 86) [] [.ref (encInts b) 0]) := by
  refine pcalls_of_aw Try.func83 rfl (Nat.le_of_ble_eq_true rfl) ?_
  (repeat' (first | (refine ar_isq ?_; first | refine zas ?_ | refine zmf ?_) | (refine zbx ?_) | (refine ar_nil ?_) | (refine aw_seq ?_) | (refine aw_skip ?_) | (refine aw_block ?_) | (refine aw_exit ?_) | (refine aw_region ?_) | (refine zco ?_ ?_ <;> intro hg <;> first | exact absurd hg (by decide) | ((try replace hg := HG.out hg); (try dsimp only at hg); (try (have _h : True := hg; clear _h hg)); first | (exfalso; omega) | skip))))
  (refine aw_mono_r (env' := [(2, .fn (.func 86) [] [.ref (encInts b) 0])]) (H' := []) ?_ ?_; (focus ((refine sub_to [] [0] rfl ?_ ?_ <;> (repeat' (first | exact trivial | refine ⟨⟨_, rfl, ?_⟩, ?_⟩ | refine ⟨bsub_snoc rfl rfl (fun _ => rfl) ?_, ?_⟩ | refine ⟨bsub_one rfl rfl ?_, ?_⟩ | refine ⟨bsub_all rfl rfl (fun _ _ => rfl) (fun _ => rfl), ?_⟩ | refine ⟨bsub_updL rfl rfl ?_ (fun _ _ _ => rfl) (fun _ => rfl), ?_⟩ | refine ⟨.inl ⟨_, _, rfl, rfl, ?_⟩, ?_⟩ | exact ⟨.inr ⟨rfl, rfl⟩, trivial⟩ | refine ⟨.inr ⟨rfl, rfl⟩, ?_⟩ | (intro _ _) | exact vz1 | (exact fn1_subL (frzPtr' (by simp) rfl (by omega) rfl rfl)) | exact vz2 | fail))); done)))
  (refine aw_ret ?_; (repeat (first | refine ret_then ?_ | refine ret_block ?_)); refine bq1 rfl ⟨?_, rfl⟩)
  rfl
theorem catTo_lenW {b : List (List Int)} (hb : ∀ l, l ∈ b → l.length ≤ 200) : ∀ k, k ≤ b.length → (catTo b k).length ≤ 200 * k
  | 0, _ => by simp [catTo]
  | k + 1, h => by
    have h1 := catTo_lenW hb k (by omega)
    have h2 := hb _ (el_mem (l := b) (k := k) (by omega))
    rw [catTo_succ (by omega), List.length_append]
    omega
set_option maxHeartbeats 1000000 in
theorem concatW_p (b : List (List Int)) (h20 : b.length ≤ 20) (h60 : ∀ l, l ∈ b → l.length ≤ 200) : PCalls Try.prog 85 [encRows b] (· = encInts b.flatten) := by
  refine pcalls_of_aw Try.func85 rfl (Nat.le_of_ble_eq_true rfl) ?_
  (repeat' (first | (refine ar_isq ?_; first | refine zmv ?_ | refine zas ?_ | (refine is_load ?_; first | refine zlp ?_ | refine zlr ?_) | (refine is_binOp ?_; first | refine zlss ?_ | refine zadd ?_) | (refine is_indexAddr ?_; first | refine zil ?_ | refine zis ?_ | refine zit ?_ | refine zia ?_ | refine zir ?_ | (refine zxl ?_; intro _ _ _) | (refine zxs ?_; intro _ _ _)) | (refine is_call ?_; first | refine zll ?_ | refine zls ?_ | refine zln ?_ | refine zle ?_)) | (refine zapoo ?_) | (refine zapol ?_) | (refine zapno ?_) | (refine zapnl ?_) | (refine zapeo ?_) | (refine zapel ?_) | (refine ar_nil ?_) | (refine aw_seq ?_) | (refine aw_skip ?_) | (refine aw_block ?_) | (refine aw_exit ?_) | (refine aw_region ?_) | (refine zco ?_ ?_ <;> intro hg <;> first | exact absurd hg (by decide) | ((try replace hg := HG.out hg); (try dsimp only at hg); (try (have _h : True := hg; clear _h hg)); first | (exfalso; omega) | skip))))
  refine aw_for b.length (fun _ => True) (fun k => [(0, encRows b), (3, vi (catTo b k).length), (9, encRows b), (10, vi b.length), (11, vi k)]) (fun _ => []) trivial ?_ ?_
  · (refine sub_to [] [] rfl ?_ ?_ <;> (repeat' (first | exact trivial | refine ⟨⟨_, rfl, ?_⟩, ?_⟩ | refine ⟨bsub_snoc rfl rfl (fun _ => rfl) ?_, ?_⟩ | refine ⟨bsub_one rfl rfl ?_, ?_⟩ | refine ⟨bsub_all rfl rfl (fun _ _ => rfl) (fun _ => rfl), ?_⟩ | refine ⟨bsub_updL rfl rfl ?_ (fun _ _ _ => rfl) (fun _ => rfl), ?_⟩ | refine ⟨.inl ⟨_, _, rfl, rfl, ?_⟩, ?_⟩ | exact ⟨.inr ⟨rfl, rfl⟩, trivial⟩ | refine ⟨.inr ⟨rfl, rfl⟩, ?_⟩ | (intro _ _) | exact vz1 | exact vz2 | fail)))
  intro k hk _
  have hcl := catTo_lenW h60 k hk
  by_cases hlt : k < b.length
  · have hel := h60 _ (el_mem hlt)
    (repeat' (first | (refine ar_isq ?_; first | refine zmv ?_ | refine zas ?_ | (refine is_load ?_; first | refine zlp ?_ | refine zlr ?_) | (refine is_binOp ?_; first | refine zlss ?_ | refine zadd ?_) | (refine is_indexAddr ?_; first | refine zil ?_ | refine zis ?_ | refine zit ?_ | refine zia ?_ | refine zir ?_ | (refine zxl ?_; intro _ _ _) | (refine zxs ?_; intro _ _ _)) | (refine is_call ?_; first | refine zll ?_ | refine zls ?_ | refine zln ?_ | refine zle ?_)) | (refine zapoo ?_) | (refine zapol ?_) | (refine zapno ?_) | (refine zapnl ?_) | (refine zapeo ?_) | (refine zapel ?_) | (refine ar_nil ?_) | (refine aw_seq ?_) | (refine aw_skip ?_) | (refine aw_block ?_) | (refine aw_exit ?_) | (refine aw_region ?_) | (refine zco ?_ ?_ <;> intro hg <;> first | exact absurd hg (by decide) | ((try replace hg := HG.out hg); (try dsimp only at hg); (try (have _h : True := hg; clear _h hg)); first | (exfalso; omega) | skip))))
    all_goals first
      | (exfalso; omega)
      | (rw [catTo_succ hlt]; ((first | refine loop_next (by omega) ?_ ?_ | refine (show _ ∧ _ ∧ SubOf _ _ _ _ _ _ from And.intro (by omega) (And.intro ?_ ?_))); (focus ((trivial); done)); (focus ((refine sub_to [] [] rfl ?_ ?_ <;> (repeat' (first | exact trivial | refine ⟨⟨_, rfl, ?_⟩, ?_⟩ | refine ⟨bsub_snoc rfl rfl (fun _ => rfl) ?_, ?_⟩ | refine ⟨bsub_one rfl rfl ?_, ?_⟩ | refine ⟨bsub_all rfl rfl (fun _ _ => rfl) (fun _ => rfl), ?_⟩ | refine ⟨bsub_updL rfl rfl ?_ (fun _ _ _ => rfl) (fun _ => rfl), ?_⟩ | refine ⟨.inl ⟨_, _, rfl, rfl, ?_⟩, ?_⟩ | exact ⟨.inr ⟨rfl, rfl⟩, trivial⟩ | refine ⟨.inr ⟨rfl, rfl⟩, ?_⟩ | (intro _ _) | exact vz1 | (exact siEq (by rw [List.length_append]; omega)) | exact vz2 | fail))); done))))
  · (repeat' (first | (refine ar_isq ?_; first | refine zmv ?_ | refine zas ?_ | (refine is_load ?_; first | refine zlp ?_ | refine zlr ?_) | (refine is_binOp ?_; first | refine zlss ?_ | refine zadd ?_) | (refine is_indexAddr ?_; first | refine zil ?_ | refine zis ?_ | refine zit ?_ | refine zia ?_ | refine zir ?_ | (refine zxl ?_; intro _ _ _) | (refine zxs ?_; intro _ _ _)) | (refine is_call ?_; first | refine zll ?_ | refine zls ?_ | refine zln ?_ | refine zle ?_)) | (refine ar_fcall fn87 rfl rfl (.cons (.closed rfl) (.cons (.closed rfl) .nil)) (grow_p (catTo b k).length (by omega) (by omega)) (dc rfl) ?_; rintro _ g0 rfl) | (refine zapoo ?_) | (refine zapol ?_) | (refine zapno ?_) | (refine zapnl ?_) | (refine zapeo ?_) | (refine zapel ?_) | (refine ar_nil ?_) | (refine aw_seq ?_) | (refine aw_skip ?_) | (refine aw_block ?_) | (refine aw_exit ?_) | (refine aw_region ?_) | (refine zco ?_ ?_ <;> intro hg <;> first | exact absurd hg (by decide) | ((try replace hg := HG.out hg); (try dsimp only at hg); (try (have _h : True := hg; clear _h hg)); first | (exfalso; omega) | skip))))
    all_goals (try (exfalso; omega))
    refine aw_for b.length (fun _ => True) (fun k => [(6, .sl 1 0 0 (catTo b k).length), (25, encRows b), (26, vi b.length), (27, vi k)]) (fun k => [LB 1 vi (catTo b k)]) trivial ?_ ?_
    · (refine sub_to [some 0] [] rfl ?_ ?_ <;> (repeat' (first | exact trivial | refine ⟨⟨_, rfl, ?_⟩, ?_⟩ | refine ⟨bsub_snoc rfl rfl (fun _ => rfl) ?_, ?_⟩ | refine ⟨bsub_one rfl rfl ?_, ?_⟩ | refine ⟨bsub_all rfl rfl (fun _ _ => rfl) (fun _ => rfl), ?_⟩ | refine ⟨bsub_updL rfl rfl ?_ (fun _ _ _ => rfl) (fun _ => rfl), ?_⟩ | refine ⟨.inl ⟨_, _, rfl, rfl, ?_⟩, ?_⟩ | exact ⟨.inr ⟨rfl, rfl⟩, trivial⟩ | refine ⟨.inr ⟨rfl, rfl⟩, ?_⟩ | (intro _ _) | exact vz1 | ((exfalso; rename_i h; exact absurd h (Nat.not_lt_zero _))) | exact vz2 | fail)))
    intro q hq _
    have hcq := catTo_lenW h60 q hq
    by_cases hltq : q < b.length
    · have hel := h60 _ (el_mem hltq)
      (repeat' (first | (refine ar_isq ?_; first | refine zmv ?_ | refine zas ?_ | (refine is_load ?_; first | refine zlp ?_ | refine zlr ?_) | (refine is_binOp ?_; first | refine zlss ?_ | refine zadd ?_) | (refine is_indexAddr ?_; first | refine zil ?_ | refine zis ?_ | refine zit ?_ | refine zia ?_ | refine zir ?_ | (refine zxl ?_; intro _ _ _) | (refine zxs ?_; intro _ _ _)) | (refine is_call ?_; first | refine zll ?_ | refine zls ?_ | refine zln ?_ | refine zle ?_)) | (refine zapoo ?_) | (refine zapol ?_) | (refine zapno ?_) | (refine zapnl ?_) | (refine zapeo ?_) | (refine zapel ?_) | (refine ar_nil ?_) | (refine aw_seq ?_) | (refine aw_skip ?_) | (refine aw_block ?_) | (refine aw_exit ?_) | (refine aw_region ?_) | (refine zco ?_ ?_ <;> intro hg <;> first | exact absurd hg (by decide) | ((try replace hg := HG.out hg); (try dsimp only at hg); (try (have _h : True := hg; clear _h hg)); first | (exfalso; omega) | skip))))
      all_goals first
        | (exfalso; omega)
        | (rw [catTo_succ hltq]; ((first | refine loop_next (by omega) ?_ ?_ | refine (show _ ∧ _ ∧ SubOf _ _ _ _ _ _ from And.intro (by omega) (And.intro ?_ ?_))); (focus ((trivial); done)); (focus ((refine sub_to [some 1] [] rfl ?_ ?_ <;> (repeat' (first | exact trivial | refine ⟨⟨_, rfl, ?_⟩, ?_⟩ | refine ⟨bsub_snoc rfl rfl (fun _ => rfl) ?_, ?_⟩ | refine ⟨bsub_one rfl rfl ?_, ?_⟩ | refine ⟨bsub_all rfl rfl (fun _ _ => rfl) (fun _ => rfl), ?_⟩ | refine ⟨bsub_updL rfl rfl ?_ (fun _ _ _ => rfl) (fun _ => rfl), ?_⟩ | refine ⟨.inl ⟨_, _, rfl, rfl, ?_⟩, ?_⟩ | exact ⟨.inr ⟨rfl, rfl⟩, trivial⟩ | refine ⟨.inr ⟨rfl, rfl⟩, ?_⟩ | (intro _ _) | exact vz1 | (first | exact slEq rfl (by rw [List.length_append]) | refine ⟨bsub_app rfl rfl rfl rfl (fun _ _ => rfl) (fun _ => rfl) (fun _ _ => .closed rfl), ?_⟩) | exact vz2 | fail))); done))))
    · (repeat' (first | (refine ar_isq ?_; first | refine zmv ?_ | refine zas ?_ | (refine is_load ?_; first | refine zlp ?_ | refine zlr ?_) | (refine is_binOp ?_; first | refine zlss ?_ | refine zadd ?_) | (refine is_indexAddr ?_; first | refine zil ?_ | refine zis ?_ | refine zit ?_ | refine zia ?_ | refine zir ?_ | (refine zxl ?_; intro _ _ _) | (refine zxs ?_; intro _ _ _)) | (refine is_call ?_; first | refine zll ?_ | refine zls ?_ | refine zln ?_ | refine zle ?_)) | (refine zapoo ?_) | (refine zapol ?_) | (refine zapno ?_) | (refine zapnl ?_) | (refine zapeo ?_) | (refine zapel ?_) | (refine ar_nil ?_) | (refine aw_seq ?_) | (refine aw_skip ?_) | (refine aw_block ?_) | (refine aw_exit ?_) | (refine aw_region ?_) | (refine zco ?_ ?_ <;> intro hg <;> first | exact absurd hg (by decide) | ((try replace hg := HG.out hg); (try dsimp only at hg); (try (have _h : True := hg; clear _h hg)); first | (exfalso; omega) | skip))))
      all_goals first
        | (exfalso; omega)
        | ((refine aw_mono_r (env' := [(2, encInts (catTo b q))]) (H' := []) ?_ ?_; (focus ((refine sub_to [] [0] rfl ?_ ?_ <;> (repeat' (first | exact trivial | refine ⟨⟨_, rfl, ?_⟩, ?_⟩ | refine ⟨bsub_snoc rfl rfl (fun _ => rfl) ?_, ?_⟩ | refine ⟨bsub_one rfl rfl ?_, ?_⟩ | refine ⟨bsub_all rfl rfl (fun _ _ => rfl) (fun _ => rfl), ?_⟩ | refine ⟨bsub_updL rfl rfl ?_ (fun _ _ _ => rfl) (fun _ => rfl), ?_⟩ | refine ⟨.inl ⟨_, _, rfl, rfl, ?_⟩, ?_⟩ | exact ⟨.inr ⟨rfl, rfl⟩, trivial⟩ | refine ⟨.inr ⟨rfl, rfl⟩, ?_⟩ | (intro _ _) | exact vz1 | exact vz2 | fail))); done))); (refine aw_ret ?_; (repeat (first | refine ret_then ?_ | refine ret_block ?_)); refine bq1 rfl ⟨?_, rfl⟩); rw [catTo_all (by omega)])
end Go.Proofs.Ytloaefllpokkaaa
-- old go
namespace Go.Proofs.Ytloaefllpokkaaa.It
open Go.RowKit
def offEl (b : List Int) (k : Nat) : List Value := [.int .i64 ((k : Int) - (b.length / 2 : Nat)), .int .i64 (el b k)]
set_option maxHeartbeats 1000000 in
theorem offsets_iter (b : List Int) (hb : b.length ≤ 1000) : Iter Try.prog 86 [.ref (encInts b) 0] b.length (offEl b) := by
  refine iter_of_aw Try.func86 rfl (dc rfl) rfl fun C hN hel => ?_
  (repeat' (first | (refine ar_isq ?_; first | refine ar_q (qs_move rfl) (dc rfl) ?_ | refine ar_q (qs_assign rfl) (dc rfl) ?_ | (refine is_load ?_; first | refine ar_q (qs_load_ptr (ty rfl) rfl rfl (by first | exact Nat.one_pos | assumption | omega) rfl) (dc rfl) ?_ | refine ar_q (qs_load_ref (ty rfl) rfl rfl) (dc rfl) ?_) | (refine is_binOp ?_; first | refine ar_q (qs_lss rfl rfl) (dc rfl) ?_ | refine ar_q (qs_add rfl rfl (wrap64 (by omega))) (dc rfl) ?_ | refine ar_q (qs_sub rfl rfl (wrap64 (by omega))) (dc rfl) ?_ | refine ar_q (qs_quo rfl rfl (by omega) (quo64 (by omega) (by omega))) (dc rfl) ?_) | (refine is_indexAddr ?_; first | refine ar_q (qs_iaddr_list (ty rfl) rfl (ty rfl) rfl rfl rfl rfl (by omega)) (dc rfl) ?_ | refine ar_q (qs_iaddr_sl0 (ty rfl) rfl (ty rfl) rfl rfl rfl rfl (by omega)) (dc rfl) ?_ | refine ar_q (qs_iaddr_sl (ty rfl) rfl (ty rfl) rfl rfl rfl rfl (by omega)) (dc rfl) ?_ | refine ar_q (qs_iaddr_aptr (ty rfl) rfl (ty rfl) rfl rfl rfl (by omega)) (dc rfl) ?_ | refine ar_q (qs_iaddr_aref (ty rfl) rfl (ty rfl) rfl rfl rfl (by omega)) (dc rfl) ?_ | (refine ar_idx_list (ty rfl) rfl (ty rfl) rfl rfl rfl (dc rfl) (by omega) ?_; intro _ _ _) | (refine ar_idx_sl (ty rfl) rfl (ty rfl) rfl rfl rfl (dc rfl) (by omega) ?_; intro _ _ _)) | (refine is_call ?_; first | refine ar_q (qs_len_list (ty rfl) rfl rfl rfl) (dc rfl) ?_ | refine ar_q (qs_len_sl (ty rfl) rfl rfl rfl) (dc rfl) ?_ | refine ar_q (qs_len_nil (ty rfl) rfl rfl rfl) (dc rfl) ?_ | refine ar_q (qs_len_emp (ty rfl) rfl rfl rfl) (dc rfl) ?_) | refine ar_q (qs_not rfl) (dc rfl) ?_) | (refine ar_nil ?_) | (refine aw_seq ?_) | (refine aw_skip ?_) | (refine aw_block ?_) | (refine aw_exit ?_) | (refine aw_region ?_) | (refine aw_cond rfl ?_ ?_ <;> intro hg <;> first | exact absurd hg (by decide) | ((first | replace hg := hgT hg | replace hg := hgF hg | replace hg := hgNT hg | replace hg := hgNF hg | replace hg := hgBT hg | replace hg := hgBF hg | replace hg := hgV hg | replace hg := hgW hg | skip); (try dsimp only at hg); (try (have _h : True := hg; clear _h hg)); first | (exfalso; omega) | skip))))
  refine aw_for b.length (fun k => [(0, .s (.func (.yield C.l) #[] #[])), (1, .ref (encInts b) 0), (5, encInts b), (6, vi b.length), (7, vi k)]) (Nat.zero_le _) ⟨rfl, rfl, rfl, rfl, rfl, trivial⟩ ?_
  intro k hk
  by_cases hlt : k < b.length
  · (repeat' (first | (refine ar_isq ?_; first | refine ar_q (qs_move rfl) (dc rfl) ?_ | refine ar_q (qs_assign rfl) (dc rfl) ?_ | (refine is_load ?_; first | refine ar_q (qs_load_ptr (ty rfl) rfl rfl (by first | exact Nat.one_pos | assumption | omega) rfl) (dc rfl) ?_ | refine ar_q (qs_load_ref (ty rfl) rfl rfl) (dc rfl) ?_) | (refine is_binOp ?_; first | refine ar_q (qs_lss rfl rfl) (dc rfl) ?_ | refine ar_q (qs_add rfl rfl (wrap64 (by omega))) (dc rfl) ?_ | refine ar_q (qs_sub rfl rfl (wrap64 (by omega))) (dc rfl) ?_ | refine ar_q (qs_quo rfl rfl (by omega) (quo64 (by omega) (by omega))) (dc rfl) ?_) | (refine is_indexAddr ?_; first | refine ar_q (qs_iaddr_list (ty rfl) rfl (ty rfl) rfl rfl rfl rfl (by omega)) (dc rfl) ?_ | refine ar_q (qs_iaddr_sl0 (ty rfl) rfl (ty rfl) rfl rfl rfl rfl (by omega)) (dc rfl) ?_ | refine ar_q (qs_iaddr_sl (ty rfl) rfl (ty rfl) rfl rfl rfl rfl (by omega)) (dc rfl) ?_ | refine ar_q (qs_iaddr_aptr (ty rfl) rfl (ty rfl) rfl rfl rfl (by omega)) (dc rfl) ?_ | refine ar_q (qs_iaddr_aref (ty rfl) rfl (ty rfl) rfl rfl rfl (by omega)) (dc rfl) ?_ | (refine ar_idx_list (ty rfl) rfl (ty rfl) rfl rfl rfl (dc rfl) (by omega) ?_; intro _ _ _) | (refine ar_idx_sl (ty rfl) rfl (ty rfl) rfl rfl rfl (dc rfl) (by omega) ?_; intro _ _ _)) | (refine is_call ?_; first | refine ar_q (qs_len_list (ty rfl) rfl rfl rfl) (dc rfl) ?_ | refine ar_q (qs_len_sl (ty rfl) rfl rfl rfl) (dc rfl) ?_ | refine ar_q (qs_len_nil (ty rfl) rfl rfl rfl) (dc rfl) ?_ | refine ar_q (qs_len_emp (ty rfl) rfl rfl rfl) (dc rfl) ?_) | refine ar_q (qs_not rfl) (dc rfl) ?_) | (refine ar_yield (us := offEl b k) rfl rfl (by rw [hN]; exact hlt) (by rw [hel]) (dc rfl) ?_) | (refine ar_nil ?_) | (refine aw_seq ?_) | (refine aw_skip ?_) | (refine aw_block ?_) | (refine aw_exit ?_) | (refine aw_region ?_) | (refine aw_cond rfl ?_ ?_ <;> intro hg <;> first | exact absurd hg (by decide) | ((first | replace hg := hgT hg | replace hg := hgF hg | replace hg := hgNT hg | replace hg := hgNF hg | replace hg := hgBT hg | replace hg := hgBF hg | replace hg := hgV hg | replace hg := hgW hg | skip); (try dsimp only at hg); (try (have _h : True := hg; clear _h hg)); first | (exfalso; omega) | skip))))
    all_goals first
      | (exfalso; omega)
      | exact loop_next hlt rfl ⟨rfl, rfl, rfl, rfl, rfl, trivial⟩
      | trace_state
  · obtain rfl : k = b.length := by omega
    (repeat' (first | (refine ar_isq ?_; first | refine ar_q (qs_move rfl) (dc rfl) ?_ | refine ar_q (qs_assign rfl) (dc rfl) ?_ | (refine is_load ?_; first | refine ar_q (qs_load_ptr (ty rfl) rfl rfl (by first | exact Nat.one_pos | assumption | omega) rfl) (dc rfl) ?_ | refine ar_q (qs_load_ref (ty rfl) rfl rfl) (dc rfl) ?_) | (refine is_binOp ?_; first | refine ar_q (qs_lss rfl rfl) (dc rfl) ?_ | refine ar_q (qs_add rfl rfl (wrap64 (by omega))) (dc rfl) ?_ | refine ar_q (qs_sub rfl rfl (wrap64 (by omega))) (dc rfl) ?_ | refine ar_q (qs_quo rfl rfl (by omega) (quo64 (by omega) (by omega))) (dc rfl) ?_) | (refine is_indexAddr ?_; first | refine ar_q (qs_iaddr_list (ty rfl) rfl (ty rfl) rfl rfl rfl rfl (by omega)) (dc rfl) ?_ | refine ar_q (qs_iaddr_sl0 (ty rfl) rfl (ty rfl) rfl rfl rfl rfl (by omega)) (dc rfl) ?_ | refine ar_q (qs_iaddr_sl (ty rfl) rfl (ty rfl) rfl rfl rfl rfl (by omega)) (dc rfl) ?_ | refine ar_q (qs_iaddr_aptr (ty rfl) rfl (ty rfl) rfl rfl rfl (by omega)) (dc rfl) ?_ | refine ar_q (qs_iaddr_aref (ty rfl) rfl (ty rfl) rfl rfl rfl (by omega)) (dc rfl) ?_ | (refine ar_idx_list (ty rfl) rfl (ty rfl) rfl rfl rfl (dc rfl) (by omega) ?_; intro _ _ _) | (refine ar_idx_sl (ty rfl) rfl (ty rfl) rfl rfl rfl (dc rfl) (by omega) ?_; intro _ _ _)) | (refine is_call ?_; first | refine ar_q (qs_len_list (ty rfl) rfl rfl rfl) (dc rfl) ?_ | refine ar_q (qs_len_sl (ty rfl) rfl rfl rfl) (dc rfl) ?_ | refine ar_q (qs_len_nil (ty rfl) rfl rfl rfl) (dc rfl) ?_ | refine ar_q (qs_len_emp (ty rfl) rfl rfl rfl) (dc rfl) ?_) | refine ar_q (qs_not rfl) (dc rfl) ?_) | (refine ar_nil ?_) | (refine aw_seq ?_) | (refine aw_skip ?_) | (refine aw_block ?_) | (refine aw_exit ?_) | (refine aw_region ?_) | (refine aw_cond rfl ?_ ?_ <;> intro hg <;> first | exact absurd hg (by decide) | ((first | replace hg := hgT hg | replace hg := hgF hg | replace hg := hgNT hg | replace hg := hgNF hg | replace hg := hgBT hg | replace hg := hgBF hg | replace hg := hgV hg | replace hg := hgW hg | skip); (try dsimp only at hg); (try (have _h : True := hg; clear _h hg)); first | (exfalso; omega) | skip))))
    all_goals first
      | (exfalso; omega)
      | exact aw_ret (show b.length = b.length from rfl)
      | exact (rfl : b.length = b.length)
      | trace_state
end Go.Proofs.Ytloaefllpokkaaa.It
namespace Go.Proofs.Ytloaefllpokkaaa
open Go.RowKit
end Go.Proofs.Ytloaefllpokkaaa
