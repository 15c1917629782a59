/- Parts of the proof: contracts of functions. No condition. -/
import Derived.Test.YtloaefllpokkaaaKTm6
set_option linter.unusedSimpArgs false
set_option linter.unusedVariables false
namespace Go.Proofs.Ytloaefllpokkaaa
open Go.RowKit
theorem bq2w {P : Program} {env : Env} {H : Heap} {R Rp : V → Heap → Prop} {a t2 : Nat} {v v2 : V} {T : TypeId} {d : TyD} {sz b i off n : Nat} {f : Nat → V} (hT : TyIs P T d) (ha : look env a = some (.ptr sz b i off)) (hH : H[b]? = some (.arr sz n f)) (hi : i < n) (hv : partV d.tk.agg (f i).cells off d.size = some v)
    (h2 : look env t2 = some v2) (hR : R (.tup [v, v2]) H) : BodyQ P #[.cell a T, .tmp t2] R Rp .ret env H :=
  ⟨_, .inr (.inr (.inl ⟨_, _, _, _, rfl, ⟨d, sz, b, i, off, n, f, hT, ha, hH, hi, hv⟩, h2, rfl⟩)), hR⟩
theorem gfromF_p (lo hi n : Int) : PCalls Try.prog 53 [vi n, .ref (vi lo) 0, .ref (vi hi) 0] (· = vb (outB lo hi n)) := by
  refine pcalls_of_aw Try.func53 rfl (Nat.le_of_ble_eq_true rfl) ?_
  (repeat' (first | (refine ar_isq ?_; first | refine zmv ?_ | refine zas ?_ | (refine is_load ?_; first | refine zlp ?_ | refine zlr ?_) | (refine is_binOp ?_; first | refine zlss ?_ | refine zgtr ?_) | (refine is_pick ?_; first | refine zpt ?_ | refine zpf ?_)) | (refine zg ?_ ?_ <;> intro hg <;> first | exact absurd hg (by decide) | ((try replace hg := HG.out hg); (try dsimp only at hg); (try (have _h : True := hg; clear _h hg)); first | (exfalso; omega) | skip)) | (refine zgu ?_) | (refine ar_nil ?_) | (refine aw_seq ?_) | (refine aw_skip ?_) | (refine aw_block ?_) | (refine aw_exit ?_) | (refine aw_region ?_) | (refine zco ?_ ?_ <;> intro hg <;> first | exact absurd hg (by decide) | ((try replace hg := HG.out hg); (try dsimp only at hg); (try (have _h : True := hg; clear _h hg)); first | (exfalso; omega) | skip))))
  all_goals (refine aw_ret ?_; (repeat (first | refine ret_then ?_ | refine ret_block ?_)); refine bq1 rfl ⟨?_, rfl⟩)
  all_goals (simp only [vb, constV, outB]; congr 2; simp; try omega)
theorem gfrom_p (lo hi : Int) (l : List Int) : PCalls Try.prog 33 [vi lo, vi hi, encInts l] (· = vb (fromB lo hi l)) := by
  refine pcalls_of_aw Try.func33 rfl (Nat.le_of_ble_eq_true rfl) ?_
  ((repeat refine aw_seq ?_); (first | (refine aw_region ?_)); (repeat' (first | (refine ar_isq ?_; first | refine zmv ?_ | refine zas ?_ | refine znt ?_ | refine zmf ?_) | (refine zbx ?_) | (refine ar_nil ?_))))
  (refine aw_mono_r (env' := [(0, vi lo), (1, vi hi), (2, encInts l), (3, .ref (vi lo) 0), (4, .ref (vi hi) 0)]) (H' := []) ?_ ?_; (focus ((refine sub_to [] [0, 1] rfl ?_ ?_ <;> (repeat' (first | exact trivial | refine ⟨⟨_, rfl, ?_⟩, ?_⟩ | refine ⟨bsub_snoc rfl rfl (fun _ => rfl) ?_, ?_⟩ | refine ⟨bsub_one rfl rfl ?_, ?_⟩ | refine ⟨bsub_all rfl rfl (fun _ _ => rfl) (fun _ => rfl), ?_⟩ | refine ⟨bsub_updL rfl rfl ?_ (fun _ _ _ => rfl) (fun _ => rfl), ?_⟩ | refine ⟨.inl ⟨_, _, rfl, rfl, ?_⟩, ?_⟩ | exact ⟨.inr ⟨rfl, rfl⟩, trivial⟩ | refine ⟨.inr ⟨rfl, rfl⟩, ?_⟩ | (intro _ _) | exact vz1 | exact vz2 | fail))); done)))
  (repeat' (first | (refine ar_isq ?_; first | refine zmv ?_ | refine zas ?_ | refine znt ?_ | refine zmf ?_) | (refine ar_pcall (own := false) fn44 rfl rfl (.cons (.closed rfl) (.cons (.closed rfl) .nil)) (containsInts_p l fn53 rfl _ (fun x _ => gfromF_p lo hi x)) (by simp) (dc rfl) ?_; intro _ hv; subst hv) | (refine zbx ?_) | (refine ar_nil ?_) | (refine aw_seq ?_) | (refine aw_skip ?_) | (refine aw_block ?_) | (refine aw_exit ?_) | (refine aw_region ?_) | (refine zco ?_ ?_ <;> intro hg <;> first | exact absurd hg (by decide) | ((try replace hg := HG.out hg); (try dsimp only at hg); (try (have _h : True := hg; clear _h hg)); first | (exfalso; omega) | skip))))
  (refine aw_ret ?_; (repeat (first | refine ret_then ?_ | refine ret_block ?_)); refine bq1 rfl ⟨?_, rfl⟩)
  rw [← any_out]
  rfl
def spotB (s : Spt) : Bool := fromB (-10000) 10000 [s.x, s.y]
def lineB (l : List Spt) : Bool := l.all spotB && fromB 1 12 [(l.length : Int)]
theorem lineB_yes {l : List Spt} (h : ∀ j, j < l.length → spotB (el l j) = true) : lineB l = fromB 1 12 [(l.length : Int)] := by
  unfold lineB
  rw [List.all_eq_true.2 fun x hx => by obtain ⟨i, hi, rfl⟩ := mem_el hx; exact h i hi, Bool.true_and]
theorem lineB_no {l : List Spt} {k : Nat} (hk : k < l.length) (h : spotB (el l k) = false) : lineB l = false := by
  unfold lineB
  rw [List.all_eq_false.2 ⟨_, el_mem hk, by rw [h]; decide⟩, Bool.false_and]
set_option maxHeartbeats 1000000 in
theorem gisLine_p (l : List Spt) : PCalls Try.prog 31 [encSpts l] (· = vb (lineB l)) := by
  (refine pcalls_know (fun I us h => rel_len (rel_arg h (j := 0) rfl)) fun hlen0 => ?_)
  refine pcalls_of_aw Try.func31 rfl (Nat.le_of_ble_eq_true rfl) ?_
  (repeat' (first | (refine ar_isq ?_; first | refine zmv ?_ | refine zas ?_ | (refine is_load ?_; first | refine zlp ?_ | refine zlr ?_) | (refine is_binOp ?_; first | refine zlss ?_ | refine zadd ?_) | (refine is_fieldAddr ?_; first | refine zfp ?_ | refine zfr ?_) | (refine is_indexAddr ?_; first | refine zil ?_ | refine zis ?_ | refine zit ?_ | refine zia ?_ | refine zir ?_ | (refine zxl ?_; intro _ _ _) | (refine zxs ?_; intro _ _ _)) | (refine is_call ?_; first | refine zll ?_ | refine zls ?_ | refine zln ?_ | refine zle ?_) | refine znt ?_) | (refine zal ?_) | (refine zb1 ?_) | (refine zb0 ?_) | (refine zsvs ?_) | (refine zsva ?_) | (refine zses ?_) | (refine zsea ?_) | (refine ar_nil ?_) | (refine aw_seq ?_) | (refine aw_skip ?_) | (refine aw_block ?_) | (refine aw_exit ?_) | (refine aw_region ?_) | (refine zco ?_ ?_ <;> intro hg <;> first | exact absurd hg (by decide) | ((try replace hg := HG.out hg); (try dsimp only at hg); (try (have _h : True := hg; clear _h hg)); first | (exfalso; omega) | skip))))
  refine aw_for l.length (fun k => ∀ j, j < k → spotB (el l j) = true) (fun k => [(0, encSpts l), (5, encSpts l), (6, vi l.length), (7, vi k)]) (fun _ => []) (fun j hj => by omega) ?_ ?_
  · (refine sub_to [] [] rfl ?_ ?_ <;> (repeat' (first | exact trivial | refine ⟨⟨_, rfl, ?_⟩, ?_⟩ | refine ⟨bsub_snoc rfl rfl (fun _ => rfl) ?_, ?_⟩ | refine ⟨bsub_one rfl rfl ?_, ?_⟩ | refine ⟨bsub_all rfl rfl (fun _ _ => rfl) (fun _ => rfl), ?_⟩ | refine ⟨bsub_updL rfl rfl ?_ (fun _ _ _ => rfl) (fun _ => rfl), ?_⟩ | refine ⟨.inl ⟨_, _, rfl, rfl, ?_⟩, ?_⟩ | exact ⟨.inr ⟨rfl, rfl⟩, trivial⟩ | refine ⟨.inr ⟨rfl, rfl⟩, ?_⟩ | (intro _ _) | exact vz1 | exact vz2 | fail)))
  intro k hk hJ
  by_cases hkn : k < l.length
  · have hf := gfrom_p (-10000) 10000 [(el l k).x, (el l k).y]
    (repeat' (first | (refine ar_isq ?_; first | refine zmv ?_ | refine zas ?_ | (refine is_load ?_; first | refine zlp ?_ | refine zlr ?_) | (refine is_binOp ?_; first | refine zlss ?_ | refine zadd ?_) | (refine is_fieldAddr ?_; first | refine zfp ?_ | refine zfr ?_) | (refine is_indexAddr ?_; first | refine zil ?_ | refine zis ?_ | refine zit ?_ | refine zia ?_ | refine zir ?_ | refine zil (j := k) ?_ | refine zis (j := k) ?_ | refine zit (j := k) ?_ | (refine zxl ?_; intro _ _ _) | (refine zxs ?_; intro _ _ _)) | (refine is_call ?_; first | refine zll ?_ | refine zls ?_ | refine zln ?_ | refine zle ?_) | refine znt ?_) | (refine ar_buildLE vi ([_, _]) (by exact ty rfl) (by exact rfl) (by exact ty rfl) (by exact rfl) (by exact rfl) (by exact Nat.succ_pos _) (by exact rfl) (by exact dc rfl) (by exact rfl) (by exact fun _ => ⟨rfl, rfl⟩) (by exact dc rfl) ?_) | (((refine ar_subk_l (sub_frzL (t := 15) vi ([(el l k).x, (el l k).y]) rfl rfl rfl rfl (fun _ _ => rfl) (fun _ => rfl)) ?_); refine ar_pcall (own := false) fn33 rfl rfl (.cons (.closed rfl) (.cons (.closed rfl) (.cons (.closed rfl) .nil))) (hf) (by simp) (dc rfl) ?_; intro _ hv; subst hv)) | (refine zal ?_) | (refine zb1 ?_) | (refine zb0 ?_) | (refine zsvs ?_) | (refine zsva ?_) | (refine zses ?_) | (refine zsea ?_) | (refine ar_nil ?_) | (refine aw_seq ?_) | (refine aw_skip ?_) | (refine aw_block ?_) | (refine aw_exit ?_) | (refine aw_region ?_) | (refine zco ?_ ?_ <;> intro hg <;> first | exact absurd hg (by decide) | ((try replace hg := HG.out hg); (try dsimp only at hg); (try (have _h : True := hg; clear _h hg)); first | (exfalso; omega) | skip))))
    all_goals first
      | (exfalso; omega)
      | ((first | refine loop_next (by omega) ?_ ?_ | refine (show _ ∧ _ ∧ SubOf _ _ _ _ _ _ from And.intro (by omega) (And.intro ?_ ?_))); (focus ((exact all_step hJ (by assumption)); done)); (focus ((refine sub_to [] [] rfl ?_ ?_ <;> (repeat' (first | exact trivial | refine ⟨⟨_, rfl, ?_⟩, ?_⟩ | refine ⟨bsub_snoc rfl rfl (fun _ => rfl) ?_, ?_⟩ | refine ⟨bsub_one rfl rfl ?_, ?_⟩ | refine ⟨bsub_all rfl rfl (fun _ _ => rfl) (fun _ => rfl), ?_⟩ | refine ⟨bsub_updL rfl rfl ?_ (fun _ _ _ => rfl) (fun _ => rfl), ?_⟩ | refine ⟨.inl ⟨_, _, rfl, rfl, ?_⟩, ?_⟩ | exact ⟨.inr ⟨rfl, rfl⟩, trivial⟩ | refine ⟨.inr ⟨rfl, rfl⟩, ?_⟩ | (intro _ _) | exact vz1 | exact vz2 | fail))); done)))
      | ((refine aw_ret ?_; (repeat (first | refine ret_then ?_ | refine ret_block ?_)); refine bq1 rfl ⟨?_, rfl⟩); rw [lineB_no hkn (by assumption)]; try rfl)
      | trace_state
  · obtain rfl : k = l.length := by omega
    have hf := gfrom_p 1 12 [(l.length : Int)]
    (repeat' (first | (refine ar_isq ?_; first | refine zmv ?_ | refine zas ?_ | (refine is_load ?_; first | refine zlp ?_ | refine zlr ?_) | (refine is_binOp ?_; first | refine zlss ?_ | refine zadd ?_) | (refine is_fieldAddr ?_; first | refine zfp ?_ | refine zfr ?_) | (refine is_indexAddr ?_; first | refine zil ?_ | refine zis ?_ | refine zit ?_ | refine zia ?_ | refine zir ?_ | (refine zxl ?_; intro _ _ _) | (refine zxs ?_; intro _ _ _)) | (refine is_call ?_; first | refine zll ?_ | refine zls ?_ | refine zln ?_ | refine zle ?_) | refine znt ?_) | (refine ar_buildLE vi ([_]) (by exact ty rfl) (by exact rfl) (by exact ty rfl) (by exact rfl) (by exact rfl) (by exact Nat.succ_pos _) (by exact rfl) (by exact dc rfl) (by exact rfl) (by exact fun _ => ⟨rfl, rfl⟩) (by exact dc rfl) ?_) | (((refine ar_subk_l (sub_frzL (t := 21) vi ([(l.length : Int)]) rfl rfl rfl rfl (fun _ _ => rfl) (fun _ => rfl)) ?_); refine ar_pcall (own := false) fn33 rfl rfl (.cons (.closed rfl) (.cons (.closed rfl) (.cons (.closed rfl) .nil))) (hf) (by simp) (dc rfl) ?_; intro _ hv; subst hv)) | (refine zal ?_) | (refine zb1 ?_) | (refine zb0 ?_) | (refine zsvs ?_) | (refine zsva ?_) | (refine zses ?_) | (refine zsea ?_) | (refine ar_nil ?_) | (refine aw_seq ?_) | (refine aw_skip ?_) | (refine aw_block ?_) | (refine aw_exit ?_) | (refine aw_region ?_) | (refine zco ?_ ?_ <;> intro hg <;> first | exact absurd hg (by decide) | ((try replace hg := HG.out hg); (try dsimp only at hg); (try (have _h : True := hg; clear _h hg)); first | (exfalso; omega) | skip))))
    all_goals first
      | (exfalso; omega)
      | ((refine aw_ret ?_; (repeat (first | refine ret_then ?_ | refine ret_block ?_)); refine bq1 rfl ⟨?_, rfl⟩); rw [lineB_yes hJ]; try rfl)
      | trace_state
theorem near_p (p q : List Spt) (n N D : Int) (h : FarOk p q N D) (hN1 : 1 ≤ N) (hn : 0 ≤ n * n ∧ n * n ≤ N) : PCalls Try.prog 34 [encSpts p, encSpts q, vi n] (· = vb (decide ((dfarF p q).1 < n * n * (dfarF p q).2))) := by
  have hf := far_p p q N D h hN1
  have hND := h.hND
  have hNN := h.hN
  have hDD := h.hD
  have hm := mid_farI (p := p) (q := q) (N := N) (D := D) (show Mid N D (1, 0) by unfold Mid; omega) (segN p) fun i j hi hj => h.low i j hi hj
  have hl := less_mid hNN hDD hND (s := dfarF p q) (t := (n * n, 1)) hm (by unfold Mid; dsimp only; omega)
  rw [show (dfarF p q).1 * ((n * n, 1) : Int × Int).2 = (dfarF p q).1 from Int.mul_one _] at hl
  refine pcalls_of_aw Try.func34 rfl (Nat.le_of_ble_eq_true rfl) ?_
  (repeat' (first | (refine ar_isq ?_; first | refine zmv ?_ | refine zas ?_ | refine zmul ?_ | (refine ar_buildS (ds := ?ds) (by exact ty rfl) (by exact rfl) (by exact sizes rfl) (by exact rfl) (by exact rfl) (by exact build rfl) (by exact dc rfl) ?hn ?h; (case hn => (dsimp only [cells_s, cells_emp, cells_agg, cells_list, cells_sl, cells_ptr, cells_ref, cells_fn, cells_vi, cells_vb, cells_vnil, constV, List.map_cons, List.map_nil, List.take_succ_cons, List.take_zero, List.drop_succ_cons, List.drop_zero, List.cons_append, List.nil_append, List.append_nil, LV_cells]; exact rfl)))) | (refine ar_pcall (own := false) fn32 rfl rfl (.cons (.closed rfl) (.cons (.closed rfl) .nil)) (hf) (by simp) (dc rfl) ?_; intro _ hv; subst hv) | (refine ar_pcall (own := false) fn49 rfl rfl (.cons (.closed rfl) (.cons (.closed rfl) .nil)) (hl) (by simp) (dc rfl) ?_; intro _ hv; subst hv) | (refine ar_nil ?_) | (refine aw_seq ?_) | (refine aw_skip ?_) | (refine aw_block ?_) | (refine aw_exit ?_) | (refine aw_region ?_) | (refine zco ?_ ?_ <;> intro hg <;> first | exact absurd hg (by decide) | ((try replace hg := HG.out hg); (try dsimp only at hg); (try (have _h : True := hg; clear _h hg)); first | (exfalso; omega) | skip))))
  all_goals first
    | ((refine aw_ret ?_; (repeat (first | refine ret_then ?_ | refine ret_block ?_)); refine bq1 rfl ⟨?_, rfl⟩); rfl)
    | trace_state
def disG (p q : List Spt) : Nat := Nat.gcd (dfarF p q).1.toNat (dfarF p q).2.toNat
set_option maxHeartbeats 2000000 in
theorem distance_p (p q : List Spt) (N D : Int) (h : FarOk p q N D) (hN1 : 1 ≤ N) (hp : lineB p = true) (hq : lineB q = true) (h1 : 0 ≤ (dfarF p q).1 ∧ 0 < (dfarF p q).2) : PCalls Try.prog 12 [encSpts p, encSpts q] (· = .tup [.agg [vi (((dfarF p q).1.toNat / disG p q : Nat) : Int), vi (((dfarF p q).2.toNat / disG p q : Nat) : Int)], vi 0]) := by
  have i1 := gisLine_p p
  have i2 := gisLine_p q
  rw [hp] at i1
  rw [hq] at i2
  have hf := far_p p q N D h hN1
  have hNN := h.hN
  have hDD := h.hD
  have hm := mid_farI (p := p) (q := q) (N := N) (D := D) (show Mid N D (1, 0) by unfold Mid; omega) (segN p) fun i j hi hj => h.low i j hi hj
  have hm : Mid N D (dfarF p q) := hm
  unfold Mid at hm
  unfold disG
  obtain ⟨n, hn⟩ : ∃ n : Nat, (dfarF p q).1 = n := Int.eq_ofNat_of_zero_le h1.1
  obtain ⟨d, hd⟩ : ∃ d : Nat, (dfarF p q).2 = d := Int.eq_ofNat_of_zero_le (by omega)
  have hs : sqV (dfarF p q) = .agg [vi n, vi d] := by unfold sqV; rw [hn, hd]
  rw [hs] at hf
  rw [hn, hd] at hm
  have hd0 : 0 < d := by omega
  rw [hn, hd, Int.toNat_natCast, Int.toNat_natCast]
  obtain ⟨M, hM, hl⟩ := eu_end n d
  refine pcalls_of_aw Try.func12 rfl (Nat.le_of_ble_eq_true rfl) ?_
  (repeat' (first | (refine ar_isq ?_; first | refine zmv ?_ | refine zas ?_ | (refine is_load ?_; first | refine zlp ?_ | refine zlr ?_) | (refine is_binOp ?_; first | refine zneq ?_ | refine zquo ?_ | refine zrem ?_) | (refine is_fieldAddr ?_; first | refine zfp ?_ | refine zfr ?_) | (refine is_pick ?_; first | refine zpt ?_ | refine zpf ?_) | refine znt ?_ | (refine ar_buildS (ds := ?ds) (by exact ty rfl) (by exact rfl) (by exact sizes rfl) (by exact rfl) (by exact rfl) (by exact build rfl) (by exact dc rfl) ?hn ?h; (case hn => (dsimp only [cells_s, cells_emp, cells_agg, cells_list, cells_sl, cells_ptr, cells_ref, cells_fn, cells_vi, cells_vb, cells_vnil, constV, List.map_cons, List.map_nil, List.take_succ_cons, List.take_zero, List.drop_succ_cons, List.drop_zero, List.cons_append, List.nil_append, List.append_nil, LV_cells]; exact rfl)))) | (refine ar_pcall (own := false) fn31 rfl rfl (.cons (.closed rfl) .nil) (i1) (by simp) (dc rfl) ?_; intro _ hv; subst hv) | (refine ar_pcall (own := false) fn31 rfl rfl (.cons (.closed rfl) .nil) (i2) (by simp) (dc rfl) ?_; intro _ hv; subst hv) | (refine ar_pcall (own := false) fn32 rfl rfl (.cons (.closed rfl) (.cons (.closed rfl) .nil)) (hf) (by simp) (dc rfl) ?_; intro _ hv; subst hv) | (refine zal ?_) | (refine zsvs ?_) | (refine zsva ?_) | (refine zses ?_) | (refine zsea ?_) | (refine zg ?_ ?_ <;> intro hg <;> first | exact absurd hg (by decide) | ((try replace hg := HG.out hg); (try dsimp only at hg); (try (have _h : True := hg; clear _h hg)); first | (exfalso; omega) | skip)) | (refine zgu ?_) | (refine ar_nil ?_) | (refine aw_seq ?_) | (refine aw_skip ?_) | (refine aw_block ?_) | (refine aw_exit ?_) | (refine aw_region ?_) | (refine aw_drawn (id := 4) [(0, 0), (1, 0), (2, 0), (3, 0), (4, 0), (5, 0)] mixed (by kernel_rfl) ?_) | (refine aw_drawn (id := 6) [(0, 0), (1, 0), (2, 0), (3, 0), (4, 0), (5, 0)] mixed (by kernel_rfl) ?_) | (refine aw_drawn (id := 7) [(0, 0), (1, 0), (2, 0), (3, 0), (4, 0), (5, 0), (6, 0), (7, 0), (8, 0), (9, 2), (10, 0)] mixed (by kernel_rfl) ?_) | (refine zco ?_ ?_ <;> intro hg <;> first | exact absurd hg (by decide) | ((try replace hg := HG.out hg); (try dsimp only at hg); (try (have _h : True := hg; clear _h hg)); first | (exfalso; omega) | skip))))
  all_goals (try (exfalso; omega))
  refine aw_for M (fun _ => True) (fun k => [(4, .ptr 2 0 0 0), (5, vi 0), (6, .ptr 2 1 0 0), (7, vi (euS n d k).1), (8, vi (euS n d k).2)]) (fun _ => [.arr 2 1 (fun _ => .agg [vi 0, vi 0]), .arr 2 1 (fun _ => .agg [vi n, vi d])]) trivial ?_ ?_
  · (refine sub_to [some 0, some 1] [] rfl ?_ ?_ <;> (repeat' (first | exact trivial | refine ⟨⟨_, rfl, ?_⟩, ?_⟩ | refine ⟨bsub_snoc rfl rfl (fun _ => rfl) ?_, ?_⟩ | refine ⟨bsub_one rfl rfl ?_, ?_⟩ | refine ⟨bsub_all rfl rfl (fun _ _ => rfl) (fun _ => rfl), ?_⟩ | refine ⟨bsub_updL rfl rfl ?_ (fun _ _ _ => rfl) (fun _ => rfl), ?_⟩ | refine ⟨.inl ⟨_, _, rfl, rfl, ?_⟩, ?_⟩ | exact ⟨.inr ⟨rfl, rfl⟩, trivial⟩ | refine ⟨.inr ⟨rfl, rfl⟩, ?_⟩ | (intro _ _) | exact vz1 | exact vz2 | fail)))
  intro k hk _
  by_cases hlt : k < M
  · have hne := hl k hlt
    (repeat' (first | (refine ar_isq ?_; first | refine zmv ?_ | refine zas ?_ | (refine is_load ?_; first | refine zlp ?_ | refine zlr ?_) | (refine is_binOp ?_; first | refine zneq ?_ | refine zquo ?_ | refine zrem ?_) | (refine is_fieldAddr ?_; first | refine zfp ?_ | refine zfr ?_) | (refine is_pick ?_; first | refine zpt ?_ | refine zpf ?_) | refine znt ?_ | (refine ar_buildS (ds := ?ds) (by exact ty rfl) (by exact rfl) (by exact sizes rfl) (by exact rfl) (by exact rfl) (by exact build rfl) (by exact dc rfl) ?hn ?h; (case hn => (dsimp only [cells_s, cells_emp, cells_agg, cells_list, cells_sl, cells_ptr, cells_ref, cells_fn, cells_vi, cells_vb, cells_vnil, constV, List.map_cons, List.map_nil, List.take_succ_cons, List.take_zero, List.drop_succ_cons, List.drop_zero, List.cons_append, List.nil_append, List.append_nil, LV_cells]; exact rfl)))) | (refine zal ?_) | (refine zsvs ?_) | (refine zsva ?_) | (refine zses ?_) | (refine zsea ?_) | (refine zg ?_ ?_ <;> intro hg <;> first | exact absurd hg (by decide) | ((try replace hg := HG.out hg); (try dsimp only at hg); (try (have _h : True := hg; clear _h hg)); first | (exfalso; omega) | skip)) | (refine zgu ?_) | (refine ar_nil ?_) | (refine aw_seq ?_) | (refine aw_skip ?_) | (refine aw_block ?_) | (refine aw_exit ?_) | (refine aw_region ?_) | (refine aw_drawn (id := 4) [(0, 0), (1, 0), (2, 0), (3, 0), (4, 0), (5, 0)] mixed (by kernel_rfl) ?_) | (refine aw_drawn (id := 6) [(0, 0), (1, 0), (2, 0), (3, 0), (4, 0), (5, 0)] mixed (by kernel_rfl) ?_) | (refine aw_drawn (id := 7) [(0, 0), (1, 0), (2, 0), (3, 0), (4, 0), (5, 0), (6, 0), (7, 0), (8, 0), (9, 2), (10, 0)] mixed (by kernel_rfl) ?_) | (refine zco ?_ ?_ <;> intro hg <;> first | exact absurd hg (by decide) | ((try replace hg := HG.out hg); (try dsimp only at hg); (try (have _h : True := hg; clear _h hg)); first | (exfalso; omega) | skip))))
    all_goals first
      | (exfalso; omega)
      | ((first | refine loop_next (by omega) ?_ ?_ | refine (show _ ∧ _ ∧ SubOf _ _ _ _ _ _ from And.intro (by omega) (And.intro ?_ ?_))); (focus ((trivial); done)); (focus ((refine sub_to [some 0, some 1] [] rfl ?_ ?_ <;> (repeat' (first | exact trivial | refine ⟨⟨_, rfl, ?_⟩, ?_⟩ | refine ⟨bsub_snoc rfl rfl (fun _ => rfl) ?_, ?_⟩ | refine ⟨bsub_one rfl rfl ?_, ?_⟩ | refine ⟨bsub_all rfl rfl (fun _ _ => rfl) (fun _ => rfl), ?_⟩ | refine ⟨bsub_updL rfl rfl ?_ (fun _ _ _ => rfl) (fun _ => rfl), ?_⟩ | refine ⟨.inl ⟨_, _, rfl, rfl, ?_⟩, ?_⟩ | exact ⟨.inr ⟨rfl, rfl⟩, trivial⟩ | refine ⟨.inr ⟨rfl, rfl⟩, ?_⟩ | (intro _ _) | exact vz1 | (first | exact siEq rfl | exact siEq (Int.natCast_emod _ _).symm) | exact vz2 | fail))); done)))
      | trace_state
  · obtain rfl : k = M := by omega
    have hgg := eu_gcd n d k
    rw [hM, Nat.gcd_zero_right] at hgg
    rw [← hgg]
    have hg0 : (euS n d k).1 ≠ 0 := by rw [hgg]; exact Nat.ne_of_gt (Nat.gcd_pos_of_pos_right _ hd0)
    (repeat' (first | (refine ar_isq ?_; first | refine zmv ?_ | refine zas ?_ | (refine is_load ?_; first | refine zlp ?_ | refine zlr ?_) | (refine is_binOp ?_; first | refine zneq ?_ | refine zquo ?_ | refine zrem ?_) | (refine is_fieldAddr ?_; first | refine zfp ?_ | refine zfr ?_) | (refine is_pick ?_; first | refine zpt ?_ | refine zpf ?_) | refine znt ?_ | (refine ar_buildS (ds := ?ds) (by exact ty rfl) (by exact rfl) (by exact sizes rfl) (by exact rfl) (by exact rfl) (by exact build rfl) (by exact dc rfl) ?hn ?h; (case hn => (dsimp only [cells_s, cells_emp, cells_agg, cells_list, cells_sl, cells_ptr, cells_ref, cells_fn, cells_vi, cells_vb, cells_vnil, constV, List.map_cons, List.map_nil, List.take_succ_cons, List.take_zero, List.drop_succ_cons, List.drop_zero, List.cons_append, List.nil_append, List.append_nil, LV_cells]; exact rfl)))) | (refine zal ?_) | (refine zsvs ?_) | (refine zsva ?_) | (refine zses ?_) | (refine zsea ?_) | (refine zg ?_ ?_ <;> intro hg <;> first | exact absurd hg (by decide) | ((try replace hg := HG.out hg); (try dsimp only at hg); (try (have _h : True := hg; clear _h hg)); first | (exfalso; omega) | skip)) | (refine zgu ?_) | (refine ar_nil ?_) | (refine aw_seq ?_) | (refine aw_skip ?_) | (refine aw_block ?_) | (refine aw_exit ?_) | (refine aw_region ?_) | (refine aw_drawn (id := 4) [(0, 0), (1, 0), (2, 0), (3, 0), (4, 0), (5, 0)] mixed (by kernel_rfl) ?_) | (refine aw_drawn (id := 6) [(0, 0), (1, 0), (2, 0), (3, 0), (4, 0), (5, 0)] mixed (by kernel_rfl) ?_) | (refine aw_drawn (id := 7) [(0, 0), (1, 0), (2, 0), (3, 0), (4, 0), (5, 0), (6, 0), (7, 0), (8, 0), (9, 2), (10, 0)] mixed (by kernel_rfl) ?_) | (refine zco ?_ ?_ <;> intro hg <;> first | exact absurd hg (by decide) | ((try replace hg := HG.out hg); (try dsimp only at hg); (try (have _h : True := hg; clear _h hg)); first | (exfalso; omega) | skip))))
    refine (show AW Try.prog none 0 _ _ _ _ _ from ?_)
    (refine aw_mono_r (env' := [(4, .ptr 2 0 0 0), (5, vi 0)]) (H' := [.arr 2 1 (fun _ => .agg [vi ((n : Int) / ((euS n d k).1 : Nat)), vi ((d : Int) / ((euS n d k).1 : Nat))])]) ?_ ?_; (focus ((refine sub_to [some 0] [] rfl ?_ ?_ <;> (repeat' (first | exact trivial | refine ⟨⟨_, rfl, ?_⟩, ?_⟩ | refine ⟨bsub_snoc rfl rfl (fun _ => rfl) ?_, ?_⟩ | refine ⟨bsub_one rfl rfl ?_, ?_⟩ | refine ⟨bsub_all rfl rfl (fun _ _ => rfl) (fun _ => rfl), ?_⟩ | refine ⟨bsub_updL rfl rfl ?_ (fun _ _ _ => rfl) (fun _ => rfl), ?_⟩ | refine ⟨.inl ⟨_, _, rfl, rfl, ?_⟩, ?_⟩ | exact ⟨.inr ⟨rfl, rfl⟩, trivial⟩ | refine ⟨.inr ⟨rfl, rfl⟩, ?_⟩ | (intro _ _) | exact vz1 | exact vz2 | fail))); done)))
    refine aw_ret ?_; (repeat (first | refine ret_then ?_ | refine ret_block ?_)); refine bq2w (f := fun _ => .agg [vi ((n : Int) / ((euS n d k).1 : Nat)), vi ((d : Int) / ((euS n d k).1 : Nat))]) (v := .agg [vi ((n : Int) / ((euS n d k).1 : Nat)), vi ((d : Int) / ((euS n d k).1 : Nat))]) (ty rfl) rfl rfl Nat.one_pos rfl rfl ⟨?_, rfl⟩
    rw [Int.natCast_ediv, Int.natCast_ediv]
end Go.Proofs.Ytloaefllpokkaaa
namespace Go.Proofs.Ytloaefllpokkaaa
open Go.RowKit
/-- The mark of the cut f + j at the step a. -/
def markF (p : Pat) (f : Int) (a j : Nat) : Int := el (p.cut (f + j)) a
section
variable {p : Pat} {f : Int} {a : Nat}
theorem mark_step (hc : 0 < p.shifts.length) (ha : a < p.ros.length) (j : Nat) : p.gap ≤ markF p f a (j + 1) - markF p f a j := by
  have := gap_le (j := f + j) hc ha
  unfold markF
  rw [show f + ((j + 1 : Nat) : Int) = f + j + 1 by omega]
  exact this
theorem mark_far (hc : 0 < p.shifts.length) (ha : a < p.ros.length) {d : Int} (hd : 1 ≤ d) (hg : d ≤ p.gap) (i : Nat) : ∀ k, d ≤ markF p f a (i + k + 1) - markF p f a i
  | 0 => by have := mark_step (f := f) hc ha i; rw [Nat.add_zero]; omega
  | k + 1 => by
    have h1 := mark_far hc ha hd hg i k
    have h2 := mark_step (f := f) hc ha (i + k + 1)
    rw [show i + (k + 1) + 1 = i + k + 1 + 1 by omega]
    omega
end
/-- Two marks that are nearer than d. -/
def nearM (d x y : Int) : Bool := decide ((y - x) * (y - x) < d * d)
theorem nearM_iff {d x y : Int} (hd : 0 ≤ d) : nearM d x y = true ↔ y - x < d ∧ x - y < d := by
  unfold nearM
  rw [decide_eq_true_iff]
  constructor
  · intro h
    constructor
    · rcases Int.lt_or_le (y - x) d with g | g
      · exact g
      · have := Int.mul_le_mul g g hd (by omega); omega
    · rcases Int.lt_or_le (x - y) d with g | g
      · exact g
      · have := Int.mul_le_mul g g hd (by omega)
        have e : (x - y) * (x - y) = (y - x) * (y - x) := by rw [show x - y = -(y - x) by omega, Int.neg_mul_neg]
        omega
  · intro ⟨h1, h2⟩
    rcases Int.le_total 0 (y - x) with g | g
    · have := Int.mul_le_mul (show y - x ≤ d - 1 by omega) (show y - x ≤ d - 1 by omega) g (by omega)
      have e : (d - 1) * (d - 1) = d * d - d - d + 1 := by rw [Int.sub_mul, Int.mul_sub, Int.one_mul, Int.mul_one]; omega
      omega
    · have := Int.mul_le_mul (show x - y ≤ d - 1 by omega) (show x - y ≤ d - 1 by omega) (by omega) (by omega)
      have e : (d - 1) * (d - 1) = d * d - d - d + 1 := by rw [Int.sub_mul, Int.mul_sub, Int.one_mul, Int.mul_one]; omega
      have e2 : (x - y) * (x - y) = (y - x) * (y - x) := by rw [show x - y = -(y - x) by omega, Int.neg_mul_neg]
      omega
end Go.Proofs.Ytloaefllpokkaaa
namespace Go.Proofs.Ytloaefllpokkaaa
open Go.RowKit
def oneS (x : Int) : List Spt := [⟨x, 0⟩]
def InB (x : Int) : Prop := -10000 ≤ x ∧ x ≤ 10000
theorem one_dot (x y : Int) : dotF ⟨x, 0⟩ ⟨y, 0⟩ ⟨x, 0⟩ ⟨y, 0⟩ = (y - x) * (y - x) := by simp [dotF]
theorem one_spot (x y : Int) : spotF ⟨x, 0⟩ ⟨y, 0⟩ ⟨y, 0⟩ = ((x - y) * (x - y), 1) := by
  unfold spotF
  rw [if_pos (by simp [dotF]), one_dot]
theorem one_far (x y : Int) : dfarF (oneS x) (oneS y) = ((y - x) * (y - x), 1) := by
  have e : (x - y) * (x - y) = (y - x) * (y - x) := by rw [show x - y = -(y - x) by omega, Int.neg_mul_neg]
  show take4 (1, 0) ⟨x, 0⟩ ⟨x, 0⟩ ⟨y, 0⟩ ⟨y, 0⟩ = _
  unfold take4
  rw [one_spot, one_spot, e]
  unfold takeF
  dsimp only
  simp
theorem one_ok {x y : Int} (hx : InB x) (hy : InB y) : FarOk (oneS x) (oneS y) 400000000 1 := by
  unfold InB at hx hy
  have sx : SpOk ⟨x, 0⟩ := by unfold SpOk; dsimp only; omega
  have sy : SpOk ⟨y, 0⟩ := by unfold SpOk; dsimp only; omega
  have h1 := mul_bnd (a := y - x) (b := y - x) (K := 20000) (L := 20000) (by omega) (by omega)
  have h2 := mul_bnd (a := x - y) (b := x - y) (K := 20000) (L := 20000) (by omega) (by omega)
  have c : crossB ⟨x, 0⟩ ⟨x, 0⟩ ⟨y, 0⟩ ⟨y, 0⟩ = false := by unfold crossB crossF; simp
  refine ⟨⟨Nat.le_refl 1, show 1 ≤ 12 by omega⟩, ⟨Nat.le_refl 1, show 1 ≤ 12 by omega⟩, by omega, by omega, by omega, fun i hi => ?_, fun i hi => ?_, fun i j hi hj => ?_, fun i j hi hj => ?_⟩
  · obtain rfl : i = 0 := by have : i < 1 := hi; omega
    exact ⟨sx, sx⟩
  · obtain rfl : i = 0 := by have : i < 1 := hi; omega
    exact ⟨sy, sy⟩
  · obtain rfl : i = 0 := by have : i < 1 := hi; omega
    obtain rfl : j = 0 := by have : j < 1 := hj; omega
    have q1 : (spotF ⟨x, 0⟩ ⟨y, 0⟩ ⟨y, 0⟩).1 ≤ 400000000 ∧ (spotF ⟨x, 0⟩ ⟨y, 0⟩ ⟨y, 0⟩).2 ≤ 1 := by rw [one_spot]; exact ⟨by dsimp only; omega, by dsimp only; omega⟩
    have q2 : (spotF ⟨y, 0⟩ ⟨x, 0⟩ ⟨x, 0⟩).1 ≤ 400000000 ∧ (spotF ⟨y, 0⟩ ⟨x, 0⟩ ⟨x, 0⟩).2 ≤ 1 := by rw [one_spot]; exact ⟨by dsimp only; omega, by dsimp only; omega⟩
    exact ⟨q1, q1, q2, q2⟩
  · obtain rfl : i = 0 := by have : i < 1 := hi; omega
    obtain rfl : j = 0 := by have : j < 1 := hj; omega
    show (crossB ⟨x, 0⟩ ⟨x, 0⟩ ⟨y, 0⟩ ⟨y, 0⟩ && _) = false
    rw [c]
    rfl
theorem one_line {x : Int} (hx : InB x) : lineB (oneS x) = true := by
  unfold InB at hx
  simp only [lineB, oneS, List.all_cons, List.all_nil, spotB, fromB, Bool.and_true, Bool.and_eq_true]
  exact ⟨⟨withinB_iff.2 hx, rfl⟩, rfl⟩
theorem nearS_p (x y n : Int) (hx : InB x) (hy : InB y) (hn : 0 ≤ n ∧ n ≤ 10000) : PCalls Try.prog 34 [encSpts (oneS x), encSpts (oneS y), vi n] (· = vb (nearM n x y)) := by
  have hnn := mul_bnd (a := n) (b := n) (K := 10000) (L := 10000) (by omega) (by omega)
  have hn0 := sq_pos n
  have h := near_p _ _ n _ _ (one_ok hx hy) (by omega) (by omega)
  rw [one_far] at h
  dsimp only at h
  rw [Int.mul_one] at h
  exact h
def tolV (tip : Int) : V := .agg [vi tip, vi 1, vi 1, vi 1, vi 0]
theorem from1 {lo hi n : Int} (h : lo ≤ n ∧ n ≤ hi) : PCalls Try.prog 33 [vi lo, vi hi, encInts [n]] (· = vb true) := by
  have := gfrom_p lo hi [n]
  rw [show fromB lo hi [n] = true by simp only [fromB, List.all_cons, List.all_nil, Bool.and_true]; exact withinB_iff.2 h] at this
  exact this
theorem from2 {lo hi n m : Int} (h : lo ≤ n ∧ n ≤ hi) (h2 : lo ≤ m ∧ m ≤ hi) : PCalls Try.prog 33 [vi lo, vi hi, encInts [n, m]] (· = vb true) := by
  have := gfrom_p lo hi [n, m]
  rw [show fromB lo hi [n, m] = true by simp only [fromB, List.all_cons, List.all_nil, Bool.and_true, Bool.and_eq_true]; exact ⟨withinB_iff.2 h, withinB_iff.2 h2⟩] at this
  exact this
set_option maxRecDepth 20000 in
set_option maxHeartbeats 2000000 in
theorem tool_p (tip : Int) (ht : 0 ≤ tip ∧ tip ≤ 100) : PCalls Try.prog 63 [tolV tip] (· = vi 0) := by
  have f1 := from1 (lo := 0) (hi := 100) ht
  have f2 := from2 (lo := 1) (hi := 100) (n := 1) (m := 1) (by omega) (by omega)
  have f3 := from1 (lo := 1) (hi := 1000) (n := 1) (by omega)
  have f4 := from1 (lo := 0) (hi := 1000) (n := 0) (by omega)
  refine pcalls_of_aw Try.func63 rfl (Nat.le_of_ble_eq_true rfl) ?_
  ((repeat refine aw_seq ?_); (first | (refine aw_region ?_)); (repeat' (first | (refine ar_isq ?_; first | refine zmv ?_ | refine zas ?_ | (refine is_load ?_; first | refine zlp ?_ | refine zlr ?_) | refine zgtr ?_ | (refine is_fieldAddr ?_; first | refine zfp ?_ | refine zfr ?_) | (refine is_pick ?_; first | refine zpt ?_ | refine zpf ?_) | refine znt ?_) | (refine zbx ?_) | (refine zb1 ?_) | (refine zb0 ?_) | (refine zg ?_ ?_ <;> intro hg <;> first | exact absurd hg (by decide) | ((try replace hg := HG.out hg); (try dsimp only at hg); (try (have _h : True := hg; clear _h hg)); first | (exfalso; omega) | skip)) | (refine zgu ?_) | (refine ar_nil ?_))))
  (refine aw_mono_r (env' := [(1, .ref (tolV tip) 0), (2, vi 0)]) (H' := []) ?_ ?_; (focus ((refine sub_to [] [0] rfl ?_ ?_ <;> (repeat' (first | exact trivial | refine ⟨⟨_, rfl, ?_⟩, ?_⟩ | refine ⟨bsub_snoc rfl rfl (fun _ => rfl) ?_, ?_⟩ | refine ⟨bsub_one rfl rfl ?_, ?_⟩ | refine ⟨bsub_all rfl rfl (fun _ _ => rfl) (fun _ => rfl), ?_⟩ | refine ⟨bsub_updL rfl rfl ?_ (fun _ _ _ => rfl) (fun _ => rfl), ?_⟩ | refine ⟨.inl ⟨_, _, rfl, rfl, ?_⟩, ?_⟩ | exact ⟨.inr ⟨rfl, rfl⟩, trivial⟩ | refine ⟨.inr ⟨rfl, rfl⟩, ?_⟩ | (intro _ _) | exact vz1 | (exact frzPtr' (by simp) rfl (by omega) rfl rfl) | exact vz2 | fail))); done)))
  (repeat' (first | (refine ar_isq ?_; first | refine zmv ?_ | refine zas ?_ | (refine is_load ?_; first | refine zlp ?_ | refine zlr ?_) | refine zgtr ?_ | (refine is_fieldAddr ?_; first | refine zfp ?_ | refine zfr ?_) | (refine is_pick ?_; first | refine zpt ?_ | refine zpf ?_) | refine znt ?_) | ((refine ar_buildT ?_ (by exact ty rfl) (by exact rfl) (by exact sizes rfl) (by exact rfl) (by exact rfl) (by exact build rfl) (by exact dc rfl); intro _ hds; (try dsimp only [List.toList_toArray, cells_s, cells_emp, cells_agg, cells_list, cells_sl, cells_ptr, cells_ref, cells_fn, cells_vi, cells_vb, cells_vnil, constV, List.map_cons, List.map_nil, List.take_succ_cons, List.take_zero, List.drop_succ_cons, List.drop_zero, List.cons_append, List.nil_append, List.append_nil, LV_cells] at hds); (try dsimp only [cells_s, cells_emp, cells_agg, cells_list, cells_sl, cells_ptr, cells_ref, cells_fn, cells_vi, cells_vb, cells_vnil, constV, List.map_cons, List.map_nil, List.take_succ_cons, List.take_zero, List.drop_succ_cons, List.drop_zero, List.cons_append, List.nil_append, List.append_nil, LV_cells] at hds); subst hds)) | (refine ar_buildLE vi ([_]) (by exact ty rfl) (by exact rfl) (by exact ty rfl) (by exact rfl) (by exact rfl) (by exact Nat.succ_pos _) (by exact rfl) (by exact dc rfl) (by exact rfl) (by exact fun _ => ⟨rfl, rfl⟩) (by exact dc rfl) ?_) | (refine ar_buildLE vi ([_, _]) (by exact ty rfl) (by exact rfl) (by exact ty rfl) (by exact rfl) (by exact rfl) (by exact Nat.succ_pos _) (by exact rfl) (by exact dc rfl) (by exact rfl) (by exact fun _ => ⟨rfl, rfl⟩) (by exact dc rfl) ?_) | (((refine ar_subk_l (sub_frzL (t := 5) vi ([tip]) rfl rfl rfl rfl (fun _ _ => rfl) (fun _ => rfl)) ?_); refine ar_pcall (own := false) fn33 rfl rfl (.cons (.closed rfl) (.cons (.closed rfl) (.cons (.closed rfl) .nil))) (f1) (by simp) (dc rfl) ?_; intro _ hv; subst hv)) | (((refine ar_subk_l (sub_frzL (t := 13) vi ([1, 1]) rfl rfl rfl rfl (fun _ _ => rfl) (fun _ => rfl)) ?_); refine ar_pcall (own := false) fn33 rfl rfl (.cons (.closed rfl) (.cons (.closed rfl) (.cons (.closed rfl) .nil))) (f2) (by simp) (dc rfl) ?_; intro _ hv; subst hv)) | (((refine ar_subk_l (sub_frzL (t := 27) vi ([1]) rfl rfl rfl rfl (fun _ _ => rfl) (fun _ => rfl)) ?_); refine ar_pcall (own := false) fn33 rfl rfl (.cons (.closed rfl) (.cons (.closed rfl) (.cons (.closed rfl) .nil))) (f3) (by simp) (dc rfl) ?_; intro _ hv; subst hv)) | (((refine ar_subk_l (sub_frzL (t := 34) vi ([0]) rfl rfl rfl rfl (fun _ _ => rfl) (fun _ => rfl)) ?_); refine ar_pcall (own := false) fn33 rfl rfl (.cons (.closed rfl) (.cons (.closed rfl) (.cons (.closed rfl) .nil))) (f4) (by simp) (dc rfl) ?_; intro _ hv; subst hv)) | (refine zbx ?_) | (refine zb1 ?_) | (refine zb0 ?_) | (refine zg ?_ ?_ <;> intro hg <;> first | exact absurd hg (by decide) | ((try replace hg := HG.out hg); (try dsimp only at hg); (try (have _h : True := hg; clear _h hg)); first | (exfalso; omega) | skip)) | (refine zgu ?_) | (refine ar_nil ?_) | (refine aw_seq ?_) | (refine aw_skip ?_) | (refine aw_block ?_) | (refine aw_exit ?_) | (refine aw_region ?_) | (refine zco ?_ ?_ <;> intro hg <;> first | exact absurd hg (by decide) | ((try replace hg := HG.out hg); (try dsimp only at hg); (try (have _h : True := hg; clear _h hg)); first | (exfalso; omega) | skip))))
  all_goals first
    | (exfalso; omega)
    | ((refine aw_ret ?_; (repeat (first | refine ret_then ?_ | refine ret_block ?_)); refine bq1 rfl ⟨?_, rfl⟩); rfl)
    | trace_state
set_option maxHeartbeats 2000000 in
theorem depth_p (tip : Int) (ht : 0 ≤ tip ∧ tip ≤ 100) : PCalls Try.prog 65 [tolV tip, vi 0] (· = .tup [vi 0, vi 0, vi 0]) := by
  have hc := tool_p tip ht
  have f1 := from1 (lo := 0) (hi := 1000) (n := 0) (by omega)
  refine pcalls_of_aw Try.func65 rfl (Nat.le_of_ble_eq_true rfl) ?_
  ((repeat refine aw_seq ?_); (first | (refine aw_region ?_) | (refine aw_drawn (id := 7) [(0, 0), (1, 0), (2, 0), (3, 0), (4, 0), (5, 0), (6, 0), (7, 0), (8, 0), (9, 0), (10, 0), (11, 0)] mixed (by kernel_rfl) ?_)); (repeat' (first | (refine ar_isq ?_; first | refine zmv ?_ | refine zas ?_ | (refine is_load ?_; first | refine zlp ?_ | refine zlr ?_) | (refine is_binOp ?_; first | refine zneq ?_ | refine zadd ?_ | refine zsub ?_ | refine zmul ?_ | refine zquo ?_) | (refine is_fieldAddr ?_; first | refine zfp ?_ | refine zfr ?_) | refine zmax ?_ | refine znt ?_) | (refine zbx ?_) | (refine zb1 ?_) | (refine zb0 ?_) | (refine ar_nil ?_))))
  (refine aw_mono_r (env' := [(1, vi 0), (2, .ref (tolV tip) 0)]) (H' := []) ?_ ?_; (focus ((refine sub_to [] [0] rfl ?_ ?_ <;> (repeat' (first | exact trivial | refine ⟨⟨_, rfl, ?_⟩, ?_⟩ | refine ⟨bsub_snoc rfl rfl (fun _ => rfl) ?_, ?_⟩ | refine ⟨bsub_one rfl rfl ?_, ?_⟩ | refine ⟨bsub_all rfl rfl (fun _ _ => rfl) (fun _ => rfl), ?_⟩ | refine ⟨bsub_updL rfl rfl ?_ (fun _ _ _ => rfl) (fun _ => rfl), ?_⟩ | refine ⟨.inl ⟨_, _, rfl, rfl, ?_⟩, ?_⟩ | exact ⟨.inr ⟨rfl, rfl⟩, trivial⟩ | refine ⟨.inr ⟨rfl, rfl⟩, ?_⟩ | (intro _ _) | exact vz1 | (exact frzPtr' (by simp) rfl (by omega) rfl rfl) | exact vz2 | fail))); done)))
  (repeat' (first | (refine ar_isq ?_; first | refine zmv ?_ | refine zas ?_ | (refine is_load ?_; first | refine zlp ?_ | refine zlr ?_) | (refine is_binOp ?_; first | refine zneq ?_ | refine zadd ?_ | refine zsub ?_ | refine zmul ?_ | refine zquo ?_) | (refine is_fieldAddr ?_; first | refine zfp ?_ | refine zfr ?_) | refine zmax ?_ | refine znt ?_) | (refine ar_buildLE vi ([_]) (by exact ty rfl) (by exact rfl) (by exact ty rfl) (by exact rfl) (by exact rfl) (by exact Nat.succ_pos _) (by exact rfl) (by exact dc rfl) (by exact rfl) (by exact fun _ => ⟨rfl, rfl⟩) (by exact dc rfl) ?_) | (refine ar_pcall (own := false) fn63 rfl rfl (.cons (.closed rfl) .nil) (hc) (by simp) (dc rfl) ?_; intro _ hv; subst hv) | (((refine ar_subk_l (sub_frzL (t := 15) vi ([0]) rfl rfl rfl rfl (fun _ _ => rfl) (fun _ => rfl)) ?_); refine ar_pcall (own := false) fn33 rfl rfl (.cons (.closed rfl) (.cons (.closed rfl) (.cons (.closed rfl) .nil))) (f1) (by simp) (dc rfl) ?_; intro _ hv; subst hv)) | (refine zbx ?_) | (refine zb1 ?_) | (refine zb0 ?_) | (refine ar_nil ?_) | (refine aw_seq ?_) | (refine aw_skip ?_) | (refine aw_block ?_) | (refine aw_exit ?_) | (refine aw_region ?_) | (refine aw_drawn (id := 7) [(0, 0), (1, 0), (2, 0), (3, 0), (4, 0), (5, 0), (6, 0), (7, 0), (8, 0), (9, 0), (10, 0), (11, 0)] mixed (by kernel_rfl) ?_) | (refine zco ?_ ?_ <;> intro hg <;> first | exact absurd hg (by decide) | ((try replace hg := HG.out hg); (try dsimp only at hg); (try (have _h : True := hg; clear _h hg)); first | (exfalso; omega) | skip))))
  all_goals first
    | (exfalso; omega)
    | ((refine aw_ret ?_; (repeat (first | refine ret_then ?_ | refine ret_block ?_)); refine bq3 rfl rfl rfl ⟨?_, rfl⟩); rfl)
    | trace_state
set_option maxHeartbeats 2000000 in
theorem half_p (tip : Int) (ht : 0 ≤ tip ∧ tip ≤ 100) : PCalls Try.prog 66 [tolV tip, vi 0] (· = .tup [vi tip, vi 0]) := by
  have hc := tool_p tip ht
  have f1 := from1 (lo := 0) (hi := 20000) (n := 0) (by omega)
  refine pcalls_of_aw Try.func66 rfl (Nat.le_of_ble_eq_true rfl) ?_
  ((repeat refine aw_seq ?_); (first | (refine aw_region ?_)); (repeat' (first | (refine ar_isq ?_; first | refine zmv ?_ | refine zas ?_ | (refine is_load ?_; first | refine zlp ?_ | refine zlr ?_) | (refine is_binOp ?_; first | refine zlss ?_ | refine zneq ?_ | refine zadd ?_ | refine zmul ?_ | refine zquo ?_) | (refine is_fieldAddr ?_; first | refine zfp ?_ | refine zfr ?_) | refine znt ?_) | (refine zbx ?_) | (refine zb1 ?_) | (refine zb0 ?_) | (refine ar_nil ?_))))
  (refine aw_mono_r (env' := [(1, vi 0), (2, .ref (tolV tip) 0)]) (H' := []) ?_ ?_; (focus ((refine sub_to [] [0] rfl ?_ ?_ <;> (repeat' (first | exact trivial | refine ⟨⟨_, rfl, ?_⟩, ?_⟩ | refine ⟨bsub_snoc rfl rfl (fun _ => rfl) ?_, ?_⟩ | refine ⟨bsub_one rfl rfl ?_, ?_⟩ | refine ⟨bsub_all rfl rfl (fun _ _ => rfl) (fun _ => rfl), ?_⟩ | refine ⟨bsub_updL rfl rfl ?_ (fun _ _ _ => rfl) (fun _ => rfl), ?_⟩ | refine ⟨.inl ⟨_, _, rfl, rfl, ?_⟩, ?_⟩ | exact ⟨.inr ⟨rfl, rfl⟩, trivial⟩ | refine ⟨.inr ⟨rfl, rfl⟩, ?_⟩ | (intro _ _) | exact vz1 | (exact frzPtr' (by simp) rfl (by omega) rfl rfl) | exact vz2 | fail))); done)))
  (repeat' (first | (refine ar_isq ?_; first | refine zmv ?_ | refine zas ?_ | (refine is_load ?_; first | refine zlp ?_ | refine zlr ?_) | (refine is_binOp ?_; first | refine zlss ?_ | refine zneq ?_ | refine zadd ?_ | refine zmul ?_ | refine zquo ?_) | (refine is_fieldAddr ?_; first | refine zfp ?_ | refine zfr ?_) | refine znt ?_) | (refine ar_buildLE vi ([_]) (by exact ty rfl) (by exact rfl) (by exact ty rfl) (by exact rfl) (by exact rfl) (by exact Nat.succ_pos _) (by exact rfl) (by exact dc rfl) (by exact rfl) (by exact fun _ => ⟨rfl, rfl⟩) (by exact dc rfl) ?_) | (refine ar_pcall (own := false) fn63 rfl rfl (.cons (.closed rfl) .nil) (hc) (by simp) (dc rfl) ?_; intro _ hv; subst hv) | (((refine ar_subk_l (sub_frzL (t := 14) vi ([0]) rfl rfl rfl rfl (fun _ _ => rfl) (fun _ => rfl)) ?_); refine ar_pcall (own := false) fn33 rfl rfl (.cons (.closed rfl) (.cons (.closed rfl) (.cons (.closed rfl) .nil))) (f1) (by simp) (dc rfl) ?_; intro _ hv; subst hv)) | (refine zbx ?_) | (refine zb1 ?_) | (refine zb0 ?_) | (refine ar_nil ?_) | (refine aw_seq ?_) | (refine aw_skip ?_) | (refine aw_block ?_) | (refine aw_exit ?_) | (refine aw_region ?_) | (refine zco ?_ ?_ <;> intro hg <;> first | exact absurd hg (by decide) | ((try replace hg := HG.out hg); (try dsimp only at hg); (try (have _h : True := hg; clear _h hg)); first | (exfalso; omega) | skip))))
  all_goals first
    | (exfalso; omega)
    | ((refine aw_ret ?_; (repeat (first | refine ret_then ?_ | refine ret_block ?_)); refine bq2 rfl rfl ⟨?_, rfl⟩); show V.tup [vi (tip + 0 * 1 / 1), vi 0] = _; rw [show tip + 0 * 1 / 1 = tip by omega])
    | trace_state
end Go.Proofs.Ytloaefllpokkaaa
namespace Go.Proofs.Ytloaefllpokkaaa
open Go.ChangeShapes Go.WideShapes Go.ChangeAt Go.RowKit Go.Deep
def Pat.wf (p : Pat) : Prop := (∀ y, y ∈ p.ros → i64ok y) ∧ (∀ y, y ∈ p.rub → i64ok y) ∧ i64ok p.start ∧ i64ok p.throw ∧ i64ok p.adv ∧ ∀ y, y ∈ p.shifts → i64ok y
set_option maxRecDepth 100000 in
theorem rv_prog : ReadsV Try.prog 24 Pat.enc Pat.wf 6 :=
  ⟨by kernel_rfl, by omega, fun {_ _ _ _ _ _ _ cs _} h => by
    have hlen := struct_len Try.underlying24 h
    rw [show Try.prog.cellsOf 24 = 6 by kernel_rfl] at hlen
    obtain ⟨k0, o0, l0, e0⟩ := struct_part Try.underlying24 h 0 rfl rv_ints
    obtain ⟨k1, o1, l1, e1⟩ := struct_part Try.underlying24 h 1 rfl rv_ints
    obtain ⟨k2, o2, l2, e2⟩ := struct_part Try.underlying24 h 2 rfl rv_Int
    obtain ⟨k3, o3, l3, e3⟩ := struct_part Try.underlying24 h 3 rfl rv_Int
    obtain ⟨k4, o4, l4, e4⟩ := struct_part Try.underlying24 h 4 rfl rv_Int
    obtain ⟨k5, o5, l5, e5⟩ := struct_part Try.underlying24 h 5 rfl rv_ints
    refine ⟨⟨k0, k1, k2, k3, k4, k5⟩, ⟨o0, o1, o2, o3, o4, o5⟩, hlen, hlen.symm, fun j x u hx hu => ?_⟩
    match j, hx with
    | 0, hx => cases hx; exact cells_one e0 rfl hu
    | 1, hx => cases hx; exact cells_one e1 rfl hu
    | 2, hx => cases hx; exact cells_one e2 rfl hu
    | 3, hx => cases hx; exact cells_one e3 rfl hu
    | 4, hx => cases hx; exact cells_one e4 rfl hu
    | 5, hx => cases hx; exact cells_one e5 rfl hu
    | j + 6, hx => simp [cells_agg] at hx⟩
section
variable {H : Type} {enc : TypeId × Value → H} {w : World} {base : Nat} {spare : Nat → Bool} {held : Bool} {r : Reach} {b0 : Nat} {v : Value} {d : DataW H} {p : List MemPlace}
set_option maxRecDepth 100000 in
theorem arg_prog (hv : Value.okWide Try.prog w r b0 24 v) (h : DataW.Trod enc Try.prog w base spare held 24 v d p) : ∃ s : Pat, s.wf ∧ VRel (snap w) [] s.enc v := arg_struct Try.underlying24 rv_prog (fun _ => rfl) hv h
end
end Go.Proofs.Ytloaefllpokkaaa
namespace Go.Proofs.Ytloaefllpokkaaa
open Go.RowKit
def greatB (l : List Int) : Bool := decide (l.length > 120)
set_option maxHeartbeats 1000000 in
theorem great03_p (l : List Int) : PCalls Try.prog 25 [encInts l] (· = vb (greatB l)) := by
  refine pcalls_of_aw Try.func25 rfl (Nat.le_of_ble_eq_true rfl) ?_
  (repeat' (first | (refine ar_isq ?_; first | refine zmv ?_ | refine zas ?_ | refine zgtr ?_ | (refine is_call ?_; first | refine zll ?_ | refine zls ?_ | refine zln ?_ | refine zle ?_)) | (refine ar_nil ?_) | (refine aw_seq ?_) | (refine aw_skip ?_) | (refine aw_block ?_) | (refine aw_exit ?_) | (refine aw_region ?_) | (refine zco ?_ ?_ <;> intro hg <;> first | exact absurd hg (by decide) | ((try replace hg := HG.out hg); (try dsimp only at hg); (try (have _h : True := hg; clear _h hg)); first | (exfalso; omega) | skip))))
  (refine aw_ret ?_; (repeat (first | refine ret_then ?_ | refine ret_block ?_)); refine bq1 rfl ⟨?_, rfl⟩)
  unfold greatB
  refine congrArg vb ?_
  rw [decide_eq_decide]
  omega
set_option maxHeartbeats 1000000 in
theorem great04_p (p : Pat) : PCalls Try.prog 7 [p.enc] (fun v => ∃ bx, v = vb bx ∧ (bx = false → p.ros.length ≤ 120 ∧ p.rub.length ≤ 120 ∧ p.shifts.length ≤ 20)) := by
  refine pcalls_of_aw Try.func7 rfl (Nat.le_of_ble_eq_true rfl) ?_
  ((repeat refine aw_seq ?_); (first | (refine aw_region ?_)); (repeat' (first | (refine ar_isq ?_; first | refine zmv ?_ | refine zas ?_ | (refine is_load ?_; first | refine zlp ?_ | refine zlr ?_) | refine zgtr ?_ | (refine is_fieldAddr ?_; first | refine zfp ?_ | refine zfr ?_) | (refine is_call ?_; first | refine zll ?_ | refine zls ?_ | refine zln ?_ | refine zle ?_) | (refine is_pick ?_; first | refine zpt ?_ | refine zpf ?_)) | (refine zbx ?_) | (refine zg ?_ ?_ <;> intro hg <;> first | exact absurd hg (by decide) | ((try replace hg := HG.out hg); (try dsimp only at hg); (try (have _h : True := hg; clear _h hg)); first | (exfalso; omega) | skip)) | (refine zgu ?_) | (refine ar_nil ?_))))
  (refine aw_mono_r (env' := [(1, .ref p.enc 0), (2, vb false)]) (H' := []) ?_ ?_; (focus ((refine sub_to [] [0] rfl ?_ ?_ <;> (repeat' (first | exact trivial | refine ⟨⟨_, rfl, ?_⟩, ?_⟩ | refine ⟨bsub_snoc rfl rfl (fun _ => rfl) ?_, ?_⟩ | refine ⟨bsub_one rfl rfl ?_, ?_⟩ | refine ⟨bsub_all rfl rfl (fun _ _ => rfl) (fun _ => rfl), ?_⟩ | refine ⟨bsub_updL rfl rfl ?_ (fun _ _ _ => rfl) (fun _ => rfl), ?_⟩ | refine ⟨.inl ⟨_, _, rfl, rfl, ?_⟩, ?_⟩ | exact ⟨.inr ⟨rfl, rfl⟩, trivial⟩ | refine ⟨.inr ⟨rfl, rfl⟩, ?_⟩ | (intro _ _) | exact vz1 | (exact frzPtr' (by simp) rfl (by omega) rfl rfl) | exact vz2 | fail))); done)))
  cases h1 : greatB p.ros <;> cases h2 : greatB p.rub
  all_goals
    have g1 := great03_p p.ros
    have g2 := great03_p p.rub
    rw [h1] at g1
    rw [h2] at g2
    unfold greatB at h1 h2
    simp only [decide_eq_true_eq, decide_eq_false_iff_not] at h1 h2
    (repeat' (first | (refine ar_isq ?_; first | refine zmv ?_ | refine zas ?_ | (refine is_load ?_; first | refine zlp ?_ | refine zlr ?_) | refine zgtr ?_ | (refine is_fieldAddr ?_; first | refine zfp ?_ | refine zfr ?_) | (refine is_call ?_; first | refine zll ?_ | refine zls ?_ | refine zln ?_ | refine zle ?_) | (refine is_pick ?_; first | refine zpt ?_ | refine zpf ?_)) | (refine ar_pcall (own := false) fn25 rfl rfl (.cons (.closed rfl) .nil) (g1) (by simp) (dc rfl) ?_; intro _ hv; subst hv) | (refine ar_pcall (own := false) fn25 rfl rfl (.cons (.closed rfl) .nil) (g2) (by simp) (dc rfl) ?_; intro _ hv; subst hv) | (refine zbx ?_) | (refine zg ?_ ?_ <;> intro hg <;> first | exact absurd hg (by decide) | ((try replace hg := HG.out hg); (try dsimp only at hg); (try (have _h : True := hg; clear _h hg)); first | (exfalso; omega) | skip)) | (refine zgu ?_) | (refine ar_nil ?_) | (refine aw_seq ?_) | (refine aw_skip ?_) | (refine aw_block ?_) | (refine aw_exit ?_) | (refine aw_region ?_) | (refine zco ?_ ?_ <;> intro hg <;> first | exact absurd hg (by decide) | ((try replace hg := HG.out hg); (try dsimp only at hg); (try (have _h : True := hg; clear _h hg)); first | (exfalso; omega) | skip))))
    all_goals first
      | ((refine aw_ret ?_; (repeat (first | refine ret_then ?_ | refine ret_block ?_)); refine bq1 rfl ⟨?_, rfl⟩); exact ⟨_, rfl, fun h => by simp_all; omega⟩)
      | ((refine aw_ret ?_; (repeat (first | refine ret_then ?_ | refine ret_block ?_)); refine bq1 rfl ⟨?_, rfl⟩); exact ⟨_, rfl, fun h => by simp_all; done⟩)
      | ((refine aw_ret ?_; (repeat (first | refine ret_then ?_ | refine ret_block ?_)); refine bq1 rfl ⟨?_, rfl⟩); exact ⟨_, rfl, fun h => ⟨by omega, by omega, by simp_all; omega⟩⟩)
      | trace_state
end Go.Proofs.Ytloaefllpokkaaa
namespace Go.Proofs.Ytloaefllpokkaaa
open Go.RowKit
def pFl : Pat := ⟨[0, 3, 0, 0, 3, 0], [0], 100, 2, 10, [1]⟩
theorem fl_err : pFl.err = 0 := by decide +kernel
theorem fl_cut0 : pFl.cut 0 = [100, 106, 100, 100, 106, 100] := by decide +kernel
theorem fl_cut1 : pFl.cut 1 = [110, 110, 116, 110, 110, 116] := by decide +kernel
def flB : List Int := [110, 110, 116, 110, 110, 116]
end Go.Proofs.Ytloaefllpokkaaa
namespace Go.Proofs.Ytloaefllpokkaaa
open Go.RowKit
section
variable {P : Program} {r : Option Nat} {m nt : Nat} {env env' : Env} {H H' : Heap} {ty : TypeId} {pos : String} {after : Array Edge} {T E : TypeId} {d de : TyD} {α : Type} [Inhabited α]
theorem ls_buildLE {keep : Bool} {dst : Nat} {parts : Array (Nat × Operand)} {n : Nat} (e : α → V) (L : List α) (ht : TyIs P T d) (hk : d.tk = .slice E) (he : TyIs P E de) (hz : (constV de.zero).ok = true) (hzs : de.zero.cells.size = de.size) (hpos : 0 < de.size) (hn : n = L.length) (hb : n * de.size ≤ 16777216)
    (hv : parts.toList.mapM (fun p => (eo env p.2).map fun v => (p.1, v)) = some (enumV 0 (L.map e))) (hs : ∀ x, (e x).cells.length = de.size ∧ (e x).ok = true) :
    LS P r m nt keep env H ⟨some dst, .buildSlice T n parts, ty, pos, after, none⟩ (fun u H' => u = .sl de.size H.length 0 L.length ∧ H' = H ++ [LB de.size e L]) NoP := by
  subst hn
  have hall : ∀ x ∈ L.map e, x.cells.length = de.size ∧ x.ok = true := fun x hx => by
    obtain ⟨y, _, rfl⟩ := List.mem_map.1 hx
    exact hs y
  have hB := buildR_enum (sz := de.size) (L.map e) 0 ((List.range (L.length * de.size)).map fun j => ((constV de.zero).cells)[j % de.size]!) hall (by simp)
  rw [Nat.zero_mul, List.take_zero, List.nil_append] at hB
  by_cases h0 : L.length = 0
  · exact (ls_buildSlice (f := fun i => e (el L i)) ht hk he hz hzs hb hv hB (fun i hi => by omega) (by rw [h0]; unfold maxLen; omega)).loose
  · refine (ls_buildSlice (f := fun i => e (el L i)) ht hk he hz hzs hb hv hB (fun i hi => ⟨(hs _).1, fun j v hj => ?_⟩) ?_).loose
    · refine flatC_get (fun x hx => (hall x hx).1) (by simpa using hi) ?_
      rw [el_map hi]
      exact hj
    · have := Nat.le_mul_of_pos_right L.length hpos
      unfold maxLen
      omega
end
end Go.Proofs.Ytloaefllpokkaaa
-- buildT
namespace Go.Proofs.Ytloaefllpokkaaa
open Go.RowKit
def mcE (x : Int) : V := .agg [encSpts (oneS x), vi 0, vb false]
abbrev encCuts (l : List Int) : V := LV 3 mcE l
def wrkV (tip wall : Int) (l : List Int) : V := .agg [vi tip, vi 1, vi 1, vi 1, vi 0, vi wall, vi 0, vi 0, vi 1, vi 0, vi 0, vi 0, encCuts l]
def sideE (tip x : Int) : V := .agg [encSpts (oneS x), encSpts (oneS (x + 1)), vi 0, vi tip, vi 0, vb false]
def prE (p : Int × Int) : V := .agg [vi p.1, vi p.2]
def sideJ (tip x : Int) : Nat → V
  | 0 => .agg [encSpts (oneS x), vnil, vi 0, vi tip, vi 0, vb false]
  | _ => sideE tip x
theorem take_snoc {l : List Int} {k : Nat} (h : k < l.length) : l.take (k + 1) = l.take k ++ [el l k] := by
  rw [List.take_succ_eq_append_getElem h]
  congr 2
  unfold el
  simp [h]
def AllIn (l : List Int) : Prop := ∀ x, x ∈ l → InB x
set_option maxHeartbeats 1000000 in
theorem strange_p (x : Int) (hx : InB x) : PCalls Try.prog 62 [mcE x] (· = vb false) := by
  have hl := gisLine_p (oneS x)
  rw [one_line hx] at hl
  have f1 := from1 (lo := 0) (hi := 1000) (n := 0) (by omega)
  refine pcalls_of_aw Try.func62 rfl (Nat.le_of_ble_eq_true rfl) ?_
  ((repeat refine aw_seq ?_); (first | (refine aw_region ?_)); (repeat' (first | (refine ar_isq ?_; first | refine zmv ?_ | refine zas ?_ | (refine is_load ?_; first | refine zlp ?_ | refine zlr ?_) | (refine is_fieldAddr ?_; first | refine zfp ?_ | refine zfr ?_) | (refine is_pick ?_; first | refine zpt ?_ | refine zpf ?_) | refine znt ?_) | (refine zbx ?_) | (refine zb1 ?_) | (refine zb0 ?_) | (refine zg ?_ ?_ <;> intro hg <;> first | exact absurd hg (by decide) | ((try replace hg := HG.out hg); (try dsimp only at hg); (try (have _h : True := hg; clear _h hg)); first | (exfalso; omega) | skip)) | (refine zgu ?_) | (refine ar_nil ?_))))
  (refine aw_mono_r (env' := [(1, .ref (mcE x) 0), (2, vb false)]) (H' := []) ?_ ?_; (focus ((refine sub_to [] [0] rfl ?_ ?_ <;> (repeat' (first | exact trivial | refine ⟨⟨_, rfl, ?_⟩, ?_⟩ | refine ⟨bsub_snoc rfl rfl (fun _ => rfl) ?_, ?_⟩ | refine ⟨bsub_one rfl rfl ?_, ?_⟩ | refine ⟨bsub_all rfl rfl (fun _ _ => rfl) (fun _ => rfl), ?_⟩ | refine ⟨bsub_updL rfl rfl ?_ (fun _ _ _ => rfl) (fun _ => rfl), ?_⟩ | refine ⟨.inl ⟨_, _, rfl, rfl, ?_⟩, ?_⟩ | exact ⟨.inr ⟨rfl, rfl⟩, trivial⟩ | refine ⟨.inr ⟨rfl, rfl⟩, ?_⟩ | (intro _ _) | exact vz1 | (exact frzPtr' (by simp) rfl (by omega) rfl rfl) | exact vz2 | fail))); done)))
  (repeat' (first | (refine ar_isq ?_; first | refine zmv ?_ | refine zas ?_ | (refine is_load ?_; first | refine zlp ?_ | refine zlr ?_) | (refine is_fieldAddr ?_; first | refine zfp ?_ | refine zfr ?_) | (refine is_pick ?_; first | refine zpt ?_ | refine zpf ?_) | refine znt ?_) | ((refine ar_buildT ?_ (by exact ty rfl) (by exact rfl) (by exact sizes rfl) (by exact rfl) (by exact rfl) (by exact build rfl) (by exact dc rfl); intro _ hds; (try dsimp only [List.toList_toArray, cells_s, cells_emp, cells_agg, cells_list, cells_sl, cells_ptr, cells_ref, cells_fn, cells_vi, cells_vb, cells_vnil, constV, List.map_cons, List.map_nil, List.take_succ_cons, List.take_zero, List.drop_succ_cons, List.drop_zero, List.cons_append, List.nil_append, List.append_nil, LV_cells] at hds); (try dsimp only [cells_s, cells_emp, cells_agg, cells_list, cells_sl, cells_ptr, cells_ref, cells_fn, cells_vi, cells_vb, cells_vnil, constV, List.map_cons, List.map_nil, List.take_succ_cons, List.take_zero, List.drop_succ_cons, List.drop_zero, List.cons_append, List.nil_append, List.append_nil, LV_cells] at hds); subst hds)) | (refine ar_buildLE vi ([_]) (by exact ty rfl) (by exact rfl) (by exact ty rfl) (by exact rfl) (by exact rfl) (by exact Nat.succ_pos _) (by exact rfl) (by exact dc rfl) (by exact rfl) (by exact fun _ => ⟨rfl, rfl⟩) (by exact dc rfl) ?_) | (refine ar_pcall (own := false) fn31 rfl rfl (.cons (.closed rfl) .nil) (hl) (by simp) (dc rfl) ?_; intro _ hv; subst hv) | (((refine ar_subk_l (sub_frzL (t := 10) vi ([0]) rfl rfl rfl rfl (fun _ _ => rfl) (fun _ => rfl)) ?_); refine ar_pcall (own := false) fn33 rfl rfl (.cons (.closed rfl) (.cons (.closed rfl) (.cons (.closed rfl) .nil))) (f1) (by simp) (dc rfl) ?_; intro _ hv; subst hv)) | (refine zbx ?_) | (refine zb1 ?_) | (refine zb0 ?_) | (refine zg ?_ ?_ <;> intro hg <;> first | exact absurd hg (by decide) | ((try replace hg := HG.out hg); (try dsimp only at hg); (try (have _h : True := hg; clear _h hg)); first | (exfalso; omega) | skip)) | (refine zgu ?_) | (refine ar_nil ?_) | (refine aw_seq ?_) | (refine aw_skip ?_) | (refine aw_block ?_) | (refine aw_exit ?_) | (refine aw_region ?_) | (refine zco ?_ ?_ <;> intro hg <;> first | exact absurd hg (by decide) | ((try replace hg := HG.out hg); (try dsimp only at hg); (try (have _h : True := hg; clear _h hg)); first | (exfalso; omega) | skip))))
  all_goals first
    | (exfalso; omega)
    | ((refine aw_ret ?_; (repeat (first | refine ret_then ?_ | refine ret_block ?_)); refine bq1 rfl ⟨?_, rfl⟩); rfl)
    | trace_state
set_option maxHeartbeats 1000000 in
theorem indexCuts_p (l : List Int) (h : AllIn l) (h12 : l.length ≤ 12) : PCalls Try.prog 76 [encCuts l, .fn (.func 62) [] []] (· = vi (-1)) := by
  refine pcalls_of_aw Try.func76 rfl (Nat.le_of_ble_eq_true rfl) ?_
  (repeat' (first | (refine ar_isq ?_; first | refine zmv ?_ | refine zas ?_ | (refine is_load ?_; first | refine zlp ?_ | refine zlr ?_) | (refine is_binOp ?_; first | refine zlss ?_ | refine zadd ?_) | (refine is_indexAddr ?_; first | refine zil ?_ | refine zis ?_ | refine zit ?_ | refine zia ?_ | refine zir ?_ | (refine zxl ?_; intro _ _ _) | (refine zxs ?_; intro _ _ _)) | (refine is_call ?_; first | refine zll ?_ | refine zls ?_ | refine zln ?_ | refine zle ?_)) | (refine ar_nil ?_) | (refine aw_seq ?_) | (refine aw_skip ?_) | (refine aw_block ?_) | (refine aw_exit ?_) | (refine aw_region ?_) | (refine zco ?_ ?_ <;> intro hg <;> first | exact absurd hg (by decide) | ((try replace hg := HG.out hg); (try dsimp only at hg); (try (have _h : True := hg; clear _h hg)); first | (exfalso; omega) | skip))))
  refine aw_for l.length (fun _ => True) (fun k => [(0, encCuts l), (1, .fn (.func 62) [] []), (7, vi l.length), (8, vi k)]) (fun _ => []) trivial ?_ ?_
  · (refine sub_to [] [] rfl ?_ ?_ <;> (repeat' (first | exact trivial | refine ⟨⟨_, rfl, ?_⟩, ?_⟩ | refine ⟨bsub_snoc rfl rfl (fun _ => rfl) ?_, ?_⟩ | refine ⟨bsub_one rfl rfl ?_, ?_⟩ | refine ⟨bsub_all rfl rfl (fun _ _ => rfl) (fun _ => rfl), ?_⟩ | refine ⟨bsub_updL rfl rfl ?_ (fun _ _ _ => rfl) (fun _ => rfl), ?_⟩ | refine ⟨.inl ⟨_, _, rfl, rfl, ?_⟩, ?_⟩ | exact ⟨.inr ⟨rfl, rfl⟩, trivial⟩ | refine ⟨.inr ⟨rfl, rfl⟩, ?_⟩ | (intro _ _) | exact vz1 | exact vz2 | fail)))
  intro k hk _
  by_cases hkn : k < l.length
  · have hs := strange_p (el l k) (h _ (el_mem hkn))
    (repeat' (first | (refine ar_isq ?_; first | refine zmv ?_ | refine zas ?_ | (refine is_load ?_; first | refine zlp ?_ | refine zlr ?_) | (refine is_binOp ?_; first | refine zlss ?_ | refine zadd ?_) | (refine is_indexAddr ?_; first | refine zil ?_ | refine zis ?_ | refine zit ?_ | refine zia ?_ | refine zir ?_ | refine zil (j := k) ?_ | refine zis (j := k) ?_ | refine zit (j := k) ?_ | (refine zxl ?_; intro _ _ _) | (refine zxs ?_; intro _ _ _)) | (refine is_call ?_; first | refine zll ?_ | refine zls ?_ | refine zln ?_ | refine zle ?_)) | (refine ar_pcall (own := false) fn62 rfl rfl (.cons (.closed rfl) .nil) (hs) (by simp) (dc rfl) ?_; intro _ hv; subst hv) | (refine ar_nil ?_) | (refine aw_seq ?_) | (refine aw_skip ?_) | (refine aw_block ?_) | (refine aw_exit ?_) | (refine aw_region ?_) | (refine zco ?_ ?_ <;> intro hg <;> first | exact absurd hg (by decide) | ((try replace hg := HG.out hg); (try dsimp only at hg); (try (have _h : True := hg; clear _h hg)); first | (exfalso; omega) | skip))))
    all_goals first
      | (exfalso; omega)
      | ((first | refine loop_next (by omega) ?_ ?_ | refine (show _ ∧ _ ∧ SubOf _ _ _ _ _ _ from And.intro (by omega) (And.intro ?_ ?_))); (focus ((trivial); done)); (focus ((refine sub_to [] [] rfl ?_ ?_ <;> (repeat' (first | exact trivial | refine ⟨⟨_, rfl, ?_⟩, ?_⟩ | refine ⟨bsub_snoc rfl rfl (fun _ => rfl) ?_, ?_⟩ | refine ⟨bsub_one rfl rfl ?_, ?_⟩ | refine ⟨bsub_all rfl rfl (fun _ _ => rfl) (fun _ => rfl), ?_⟩ | refine ⟨bsub_updL rfl rfl ?_ (fun _ _ _ => rfl) (fun _ => rfl), ?_⟩ | refine ⟨.inl ⟨_, _, rfl, rfl, ?_⟩, ?_⟩ | exact ⟨.inr ⟨rfl, rfl⟩, trivial⟩ | refine ⟨.inr ⟨rfl, rfl⟩, ?_⟩ | (intro _ _) | exact vz1 | exact vz2 | fail))); done)))
      | trace_state
  · (repeat' (first | (refine ar_isq ?_; first | refine zmv ?_ | refine zas ?_ | (refine is_load ?_; first | refine zlp ?_ | refine zlr ?_) | (refine is_binOp ?_; first | refine zlss ?_ | refine zadd ?_) | (refine is_indexAddr ?_; first | refine zil ?_ | refine zis ?_ | refine zit ?_ | refine zia ?_ | refine zir ?_ | (refine zxl ?_; intro _ _ _) | (refine zxs ?_; intro _ _ _)) | (refine is_call ?_; first | refine zll ?_ | refine zls ?_ | refine zln ?_ | refine zle ?_)) | (refine ar_nil ?_) | (refine aw_seq ?_) | (refine aw_skip ?_) | (refine aw_block ?_) | (refine aw_exit ?_) | (refine aw_region ?_) | (refine zco ?_ ?_ <;> intro hg <;> first | exact absurd hg (by decide) | ((try replace hg := HG.out hg); (try dsimp only at hg); (try (have _h : True := hg; clear _h hg)); first | (exfalso; omega) | skip))))
    all_goals first
      | (exfalso; omega)
      | ((refine aw_ret ?_; (repeat (first | refine ret_then ?_ | refine ret_block ?_)); refine bq1 rfl ⟨?_, rfl⟩); rfl)
      | trace_state
theorem containsCuts_p (l : List Int) (h : AllIn l) (h12 : l.length ≤ 12) : PCalls Try.prog 64 [encCuts l, .fn (.func 62) [] []] (· = vb false) := by
  have hi := indexCuts_p l h h12
  refine pcalls_of_aw Try.func64 rfl (Nat.le_of_ble_eq_true rfl) ?_
  (repeat' (first | (refine ar_isq ?_; first | refine zmv ?_ | refine zas ?_ | refine zgeq ?_) | (refine ar_pcall (own := false) fn76 rfl rfl (.cons (.closed rfl) (.cons (.closed rfl) .nil)) (hi) (by simp) (dc rfl) ?_; intro _ hv; subst hv) | (refine ar_nil ?_) | (refine aw_seq ?_) | (refine aw_skip ?_) | (refine aw_block ?_) | (refine aw_exit ?_) | (refine aw_region ?_) | (refine zco ?_ ?_ <;> intro hg <;> first | exact absurd hg (by decide) | ((try replace hg := HG.out hg); (try dsimp only at hg); (try (have _h : True := hg; clear _h hg)); first | (exfalso; omega) | skip))))
  all_goals first
    | ((refine aw_ret ?_; (repeat (first | refine ret_then ?_ | refine ret_block ?_)); refine bq1 rfl ⟨?_, rfl⟩); rfl)
    | trace_state
set_option maxRecDepth 20000 in
set_option maxHeartbeats 4000000 in
theorem checkW_p (tip wall : Int) (l : List Int) (ht : 0 ≤ tip ∧ tip ≤ 100) (hw : 1 ≤ wall ∧ wall ≤ 256) (h : AllIn l) (h12 : l.length ≤ 12) : PCalls Try.prog 45 [wrkV tip wall l] (· = vi 0) := by
  have hc := tool_p tip ht
  have hs := containsCuts_p l h h12
  have f1 := from1 (lo := 1) (hi := 1000) (n := wall) (by omega)
  have f2 := from2 (lo := 0) (hi := 20000) (n := 0) (m := 0) (by omega) (by omega)
  have f3 := from1 (lo := 0) (hi := 100) (n := 0) (by omega)
  have f4 := from2 (lo := -1000) (hi := 1000) (n := 1) (m := 0) (by omega) (by omega)
  have f5 := from1 (lo := 0) (hi := 1000) (n := 0) (by omega)
  refine pcalls_of_aw Try.func45 rfl (Nat.le_of_ble_eq_true rfl) ?_
  ((repeat refine aw_seq ?_); (first | (refine aw_region ?_)); (repeat' (first | (refine ar_isq ?_; first | refine zmv ?_ | refine zas ?_ | (refine is_load ?_; first | refine zlp ?_ | refine zlr ?_) | (refine is_binOp ?_; first | refine zgtr ?_ | refine zneq ?_) | (refine is_fieldAddr ?_; first | refine zfp ?_ | refine zfr ?_) | (refine is_call ?_; first | refine zll ?_ | refine zls ?_ | refine zln ?_ | refine zle ?_) | (refine is_pick ?_; first | refine zpt ?_ | refine zpf ?_) | refine znt ?_) | (refine zbx ?_) | (refine zb1 ?_) | (refine zb0 ?_) | (refine zg ?_ ?_ <;> intro hg <;> first | exact absurd hg (by decide) | ((try replace hg := HG.out hg); (try dsimp only at hg); (try (have _h : True := hg; clear _h hg)); first | (exfalso; omega) | skip)) | (refine zgu ?_) | (refine ar_nil ?_))))
  (refine aw_mono_r (env' := [(1, .ref (wrkV tip wall l) 0), (2, vi 0)]) (H' := []) ?_ ?_; (focus ((refine sub_to [] [0] rfl ?_ ?_ <;> (repeat' (first | exact trivial | refine ⟨⟨_, rfl, ?_⟩, ?_⟩ | refine ⟨bsub_snoc rfl rfl (fun _ => rfl) ?_, ?_⟩ | refine ⟨bsub_one rfl rfl ?_, ?_⟩ | refine ⟨bsub_all rfl rfl (fun _ _ => rfl) (fun _ => rfl), ?_⟩ | refine ⟨bsub_updL rfl rfl ?_ (fun _ _ _ => rfl) (fun _ => rfl), ?_⟩ | refine ⟨.inl ⟨_, _, rfl, rfl, ?_⟩, ?_⟩ | exact ⟨.inr ⟨rfl, rfl⟩, trivial⟩ | refine ⟨.inr ⟨rfl, rfl⟩, ?_⟩ | (intro _ _) | exact vz1 | (exact frzPtr' (by simp) rfl (by omega) rfl rfl) | exact vz2 | fail))); done)))
  (repeat' (first | (refine ar_isq ?_; first | refine zmv ?_ | refine zas ?_ | (refine is_load ?_; first | refine zlp ?_ | refine zlr ?_) | (refine is_binOp ?_; first | refine zgtr ?_ | refine zneq ?_) | (refine is_fieldAddr ?_; first | refine zfp ?_ | refine zfr ?_) | (refine is_call ?_; first | refine zll ?_ | refine zls ?_ | refine zln ?_ | refine zle ?_) | (refine is_pick ?_; first | refine zpt ?_ | refine zpf ?_) | refine znt ?_) | ((refine ar_buildT ?_ (by exact ty rfl) (by exact rfl) (by exact sizes rfl) (by exact rfl) (by exact rfl) (by exact build rfl) (by exact dc rfl); intro _ hds; (try dsimp only [List.toList_toArray, cells_s, cells_emp, cells_agg, cells_list, cells_sl, cells_ptr, cells_ref, cells_fn, cells_vi, cells_vb, cells_vnil, constV, List.map_cons, List.map_nil, List.take_succ_cons, List.take_zero, List.drop_succ_cons, List.drop_zero, List.cons_append, List.nil_append, List.append_nil, LV_cells] at hds); (try dsimp only [cells_s, cells_emp, cells_agg, cells_list, cells_sl, cells_ptr, cells_ref, cells_fn, cells_vi, cells_vb, cells_vnil, constV, List.map_cons, List.map_nil, List.take_succ_cons, List.take_zero, List.drop_succ_cons, List.drop_zero, List.cons_append, List.nil_append, List.append_nil, LV_cells] at hds); subst hds)) | (refine ar_buildLE vi ([_]) (by exact ty rfl) (by exact rfl) (by exact ty rfl) (by exact rfl) (by exact rfl) (by exact Nat.succ_pos _) (by exact rfl) (by exact dc rfl) (by exact rfl) (by exact fun _ => ⟨rfl, rfl⟩) (by exact dc rfl) ?_) | (refine ar_buildLE vi ([_, _]) (by exact ty rfl) (by exact rfl) (by exact ty rfl) (by exact rfl) (by exact rfl) (by exact Nat.succ_pos _) (by exact rfl) (by exact dc rfl) (by exact rfl) (by exact fun _ => ⟨rfl, rfl⟩) (by exact dc rfl) ?_) | (((refine ar_subk_l (sub_frzL (t := 7) vi ([wall]) rfl rfl rfl rfl (fun _ _ => rfl) (fun _ => rfl)) ?_); refine ar_pcall (own := false) fn33 rfl rfl (.cons (.closed rfl) (.cons (.closed rfl) (.cons (.closed rfl) .nil))) (f1) (by simp) (dc rfl) ?_; intro _ hv; subst hv)) | (((refine ar_subk_l (sub_frzL (t := 14) vi ([0, 0]) rfl rfl rfl rfl (fun _ _ => rfl) (fun _ => rfl)) ?_); refine ar_pcall (own := false) fn33 rfl rfl (.cons (.closed rfl) (.cons (.closed rfl) (.cons (.closed rfl) .nil))) (f2) (by simp) (dc rfl) ?_; intro _ hv; subst hv)) | (((refine ar_subk_l (sub_frzL (t := 20) vi ([0]) rfl rfl rfl rfl (fun _ _ => rfl) (fun _ => rfl)) ?_); refine ar_pcall (own := false) fn33 rfl rfl (.cons (.closed rfl) (.cons (.closed rfl) (.cons (.closed rfl) .nil))) (f3) (by simp) (dc rfl) ?_; intro _ hv; subst hv)) | (((refine ar_subk_l (sub_frzL (t := 30) vi ([1, 0]) rfl rfl rfl rfl (fun _ _ => rfl) (fun _ => rfl)) ?_); refine ar_pcall (own := false) fn33 rfl rfl (.cons (.closed rfl) (.cons (.closed rfl) (.cons (.closed rfl) .nil))) (f4) (by simp) (dc rfl) ?_; intro _ hv; subst hv)) | (((refine ar_subk_l (sub_frzL (t := 36) vi ([0]) rfl rfl rfl rfl (fun _ _ => rfl) (fun _ => rfl)) ?_); refine ar_pcall (own := false) fn33 rfl rfl (.cons (.closed rfl) (.cons (.closed rfl) (.cons (.closed rfl) .nil))) (f5) (by simp) (dc rfl) ?_; intro _ hv; subst hv)) | (refine ar_pcall (own := false) fn63 rfl rfl (.cons (.closed rfl) .nil) (hc) (by simp) (dc rfl) ?_; intro _ hv; subst hv) | (refine ar_pcall (own := false) fn64 rfl rfl (.cons (.closed rfl) (.cons (.closed rfl) .nil)) (hs) (by simp) (dc rfl) ?_; intro _ hv; subst hv) | (refine zbx ?_) | (refine zb1 ?_) | (refine zb0 ?_) | (refine zg ?_ ?_ <;> intro hg <;> first | exact absurd hg (by decide) | ((try replace hg := HG.out hg); (try dsimp only at hg); (try (have _h : True := hg; clear _h hg)); first | (exfalso; omega) | skip)) | (refine zgu ?_) | (refine ar_nil ?_) | (refine aw_seq ?_) | (refine aw_skip ?_) | (refine aw_block ?_) | (refine aw_exit ?_) | (refine aw_region ?_) | (refine zco ?_ ?_ <;> intro hg <;> first | exact absurd hg (by decide) | ((try replace hg := HG.out hg); (try dsimp only at hg); (try (have _h : True := hg; clear _h hg)); first | (exfalso; omega) | skip))))
  all_goals first
    | (exfalso; omega)
    | ((refine aw_ret ?_; (repeat (first | refine ret_then ?_ | refine ret_block ?_)); refine bq1 rfl ⟨?_, rfl⟩); rfl)
    | trace_state
set_option maxRecDepth 20000 in
set_option maxHeartbeats 4000000 in
theorem sides_p (tip wall : Int) (l : List Int) (ht : 0 ≤ tip ∧ tip ≤ 100) (h : AllIn l) (h12 : l.length ≤ 12) : PCalls Try.prog 46 [wrkV tip wall l] (· = LV 6 (sideE tip) l) := by
  have hd := depth_p tip ht
  have hh := half_p tip ht
  refine pcalls_of_aw Try.func46 rfl (Nat.le_of_ble_eq_true rfl) ?_
  ((repeat refine aw_seq ?_); (first | (refine aw_region ?_)); (repeat' (first | (refine ar_isq ?_; first | refine zmv ?_ | refine zas ?_ | (refine is_load ?_; first | refine zlp ?_ | refine zlr ?_) | (refine is_binOp ?_; first | refine zlss ?_ | refine zadd ?_) | (refine is_fieldAddr ?_; first | refine zfp ?_ | refine zfr ?_) | (refine is_indexAddr ?_; first | refine zil ?_ | refine zis ?_ | refine zit ?_ | refine zia ?_ | refine zir ?_ | (refine zxl ?_; intro _ _ _) | (refine zxs ?_; intro _ _ _)) | (refine is_call ?_; first | refine zll ?_ | refine zls ?_ | refine zln ?_ | refine zle ?_) | refine zex ?_ | (refine ar_buildT ?_ (by exact ty rfl) (by exact rfl) (by exact sizes rfl) (by exact rfl) (by exact rfl) (by exact build rfl) (by exact dc rfl); intro _ hds; (try dsimp only [List.toList_toArray, cells_s, cells_emp, cells_agg, cells_list, cells_sl, cells_ptr, cells_ref, cells_fn, cells_vi, cells_vb, cells_vnil, constV, List.map_cons, List.map_nil, List.take_succ_cons, List.take_zero, List.drop_succ_cons, List.drop_zero, List.cons_append, List.nil_append, List.append_nil, LV_cells] at hds); (try dsimp only [cells_s, cells_emp, cells_agg, cells_list, cells_sl, cells_ptr, cells_ref, cells_fn, cells_vi, cells_vb, cells_vnil, constV, List.map_cons, List.map_nil, List.take_succ_cons, List.take_zero, List.drop_succ_cons, List.drop_zero, List.cons_append, List.nil_append, List.append_nil, LV_cells] at hds); subst hds)) | (refine zbx ?_) | (refine zal ?_) | (refine zb1 ?_) | (refine zb0 ?_) | (refine zapoo ?_) | (refine zapol ?_) | (refine zapno ?_) | (refine zapnl ?_) | (refine zapeo ?_) | (refine zapel ?_) | (refine zsvs ?_) | (refine zsva ?_) | (refine zses ?_) | (refine zsea ?_) | (refine ar_nil ?_))))
  (refine aw_mono_r (env' := [(1, .ref (wrkV tip wall l) 0), (2, vnil)]) (H' := []) ?_ ?_; (focus ((refine sub_to [] [0] rfl ?_ ?_ <;> (repeat' (first | exact trivial | refine ⟨⟨_, rfl, ?_⟩, ?_⟩ | refine ⟨bsub_snoc rfl rfl (fun _ => rfl) ?_, ?_⟩ | refine ⟨bsub_one rfl rfl ?_, ?_⟩ | refine ⟨bsub_all rfl rfl (fun _ _ => rfl) (fun _ => rfl), ?_⟩ | refine ⟨bsub_updL rfl rfl ?_ (fun _ _ _ => rfl) (fun _ => rfl), ?_⟩ | refine ⟨.inl ⟨_, _, rfl, rfl, ?_⟩, ?_⟩ | exact ⟨.inr ⟨rfl, rfl⟩, trivial⟩ | refine ⟨.inr ⟨rfl, rfl⟩, ?_⟩ | (intro _ _) | exact vz1 | (exact frzPtr' (by simp) rfl (by omega) rfl rfl) | exact vz2 | fail))); done)))
  (repeat' (first | (refine ar_isq ?_; first | refine zmv ?_ | refine zas ?_ | (refine is_load ?_; first | refine zlp ?_ | refine zlr ?_) | (refine is_binOp ?_; first | refine zlss ?_ | refine zadd ?_) | (refine is_fieldAddr ?_; first | refine zfp ?_ | refine zfr ?_) | (refine is_indexAddr ?_; first | refine zil ?_ | refine zis ?_ | refine zit ?_ | refine zia ?_ | refine zir ?_ | (refine zxl ?_; intro _ _ _) | (refine zxs ?_; intro _ _ _)) | (refine is_call ?_; first | refine zll ?_ | refine zls ?_ | refine zln ?_ | refine zle ?_) | refine zex ?_ | (refine ar_buildT ?_ (by exact ty rfl) (by exact rfl) (by exact sizes rfl) (by exact rfl) (by exact rfl) (by exact build rfl) (by exact dc rfl); intro _ hds; (try dsimp only [List.toList_toArray, cells_s, cells_emp, cells_agg, cells_list, cells_sl, cells_ptr, cells_ref, cells_fn, cells_vi, cells_vb, cells_vnil, constV, List.map_cons, List.map_nil, List.take_succ_cons, List.take_zero, List.drop_succ_cons, List.drop_zero, List.cons_append, List.nil_append, List.append_nil, LV_cells] at hds); (try dsimp only [cells_s, cells_emp, cells_agg, cells_list, cells_sl, cells_ptr, cells_ref, cells_fn, cells_vi, cells_vb, cells_vnil, constV, List.map_cons, List.map_nil, List.take_succ_cons, List.take_zero, List.drop_succ_cons, List.drop_zero, List.cons_append, List.nil_append, List.append_nil, LV_cells] at hds); subst hds)) | (refine zbx ?_) | (refine zal ?_) | (refine zb1 ?_) | (refine zb0 ?_) | (refine zapoo ?_) | (refine zapol ?_) | (refine zapno ?_) | (refine zapnl ?_) | (refine zapeo ?_) | (refine zapel ?_) | (refine zsvs ?_) | (refine zsva ?_) | (refine zses ?_) | (refine zsea ?_) | (refine ar_nil ?_) | (refine aw_seq ?_) | (refine aw_skip ?_) | (refine aw_block ?_) | (refine aw_exit ?_) | (refine aw_region ?_) | (refine zco ?_ ?_ <;> intro hg <;> first | exact absurd hg (by decide) | ((try replace hg := HG.out hg); (try dsimp only at hg); (try (have _h : True := hg; clear _h hg)); first | (exfalso; omega) | skip))))
  refine aw_for l.length (fun _ => True) (fun k => [(1, .ref (wrkV tip wall l) 0), (3, .sl 6 0 0 (l.take k).length), (10, encCuts l), (11, vi l.length), (12, vi k)]) (fun k => [LB 6 (sideE tip) (l.take k)]) trivial ?_ ?_
  · (refine sub_to [none] [] rfl ?_ ?_ <;> (repeat' (first | exact trivial | refine ⟨⟨_, rfl, ?_⟩, ?_⟩ | refine ⟨bsub_snoc rfl rfl (fun _ => rfl) ?_, ?_⟩ | refine ⟨bsub_one rfl rfl ?_, ?_⟩ | refine ⟨bsub_all rfl rfl (fun _ _ => rfl) (fun _ => rfl), ?_⟩ | refine ⟨bsub_updL rfl rfl ?_ (fun _ _ _ => rfl) (fun _ => rfl), ?_⟩ | refine ⟨.inl ⟨_, _, rfl, rfl, ?_⟩, ?_⟩ | exact ⟨.inr ⟨rfl, rfl⟩, trivial⟩ | refine ⟨.inr ⟨rfl, rfl⟩, ?_⟩ | (intro _ _) | exact vz1 | exact vz2 | fail)))
  intro k hk _
  have hlk : (l.take k).length = k := by rw [List.length_take]; omega
  by_cases hkn : k < l.length
  · have hin := h _ (el_mem hkn)
    unfold InB at hin
    (repeat' (first | (refine ar_isq ?_; first | refine zmv ?_ | refine zas ?_ | (refine is_load ?_; first | refine zlp ?_ | refine zlr ?_) | (refine is_binOp ?_; first | refine zlss ?_ | refine zadd ?_) | (refine is_fieldAddr ?_; first | refine zfp ?_ | refine zfr ?_) | (refine is_indexAddr ?_; first | refine zil ?_ | refine zis ?_ | refine zit ?_ | refine zia ?_ | refine zir ?_ | refine zil (j := k) ?_ | refine zis (j := k) ?_ | refine zit (j := k) ?_ | (refine zxl ?_; intro _ _ _) | (refine zxs ?_; intro _ _ _)) | (refine is_call ?_; first | refine zll ?_ | refine zls ?_ | refine zln ?_ | refine zle ?_) | refine zex ?_ | (refine ar_buildT ?_ (by exact ty rfl) (by exact rfl) (by exact sizes rfl) (by exact rfl) (by exact rfl) (by exact build rfl) (by exact dc rfl); intro _ hds; (try dsimp only [List.toList_toArray, cells_s, cells_emp, cells_agg, cells_list, cells_sl, cells_ptr, cells_ref, cells_fn, cells_vi, cells_vb, cells_vnil, constV, List.map_cons, List.map_nil, List.take_succ_cons, List.take_zero, List.drop_succ_cons, List.drop_zero, List.cons_append, List.nil_append, List.append_nil, LV_cells] at hds); (try dsimp only [cells_s, cells_emp, cells_agg, cells_list, cells_sl, cells_ptr, cells_ref, cells_fn, cells_vi, cells_vb, cells_vnil, constV, List.map_cons, List.map_nil, List.take_succ_cons, List.take_zero, List.drop_succ_cons, List.drop_zero, List.cons_append, List.nil_append, List.append_nil, LV_cells] at hds); subst hds)) | (refine ar_pcall (own := false) fn65 rfl rfl (.cons (.closed rfl) (.cons (.closed rfl) .nil)) (hd) (by simp) (dc rfl) ?_; intro _ hv; subst hv) | (refine ar_pcall (own := false) fn66 rfl rfl (.cons (.closed rfl) (.cons (.closed rfl) .nil)) (hh) (by simp) (dc rfl) ?_; intro _ hv; subst hv) | (refine zbx ?_) | (refine zal ?_) | (refine zb1 ?_) | (refine zb0 ?_) | (refine zapoo ?_) | (refine zapol ?_) | (refine zapno ?_) | (refine zapnl ?_) | (refine zapeo ?_) | (refine zapel ?_) | (refine zsvs ?_) | (refine zsva ?_) | (refine zses ?_) | (refine zsea ?_) | (refine ar_nil ?_) | (refine aw_seq ?_) | (refine aw_skip ?_) | (refine aw_block ?_) | (refine aw_exit ?_) | (refine aw_region ?_) | (refine zco ?_ ?_ <;> intro hg <;> first | exact absurd hg (by decide) | ((try replace hg := HG.out hg); (try dsimp only at hg); (try (have _h : True := hg; clear _h hg)); first | (exfalso; omega) | skip))))
    refine (show AW Try.prog none 0 _ _ _ _ _ from ?_)
    refine aw_for 1 (fun _ => True) (fun j => [(1, .ref (wrkV tip wall l) 0), (3, .sl 6 0 0 (l.take k).length), (6, .ptr 6 1 0 0), (10, encCuts l), (11, vi l.length), (12, vi k), (43, encSpts (oneS (el l k))), (44, vi 1), (45, vi j)]) (fun j => [LB 6 (sideE tip) (l.take k), .arr 6 1 (fun _ => sideJ tip (el l k) j)]) trivial ?_ ?_
    · (refine sub_to [some 0, some 2] [] rfl ?_ ?_ <;> (repeat' (first | exact trivial | refine ⟨⟨_, rfl, ?_⟩, ?_⟩ | refine ⟨bsub_snoc rfl rfl (fun _ => rfl) ?_, ?_⟩ | refine ⟨bsub_one rfl rfl ?_, ?_⟩ | refine ⟨bsub_all rfl rfl (fun _ _ => rfl) (fun _ => rfl), ?_⟩ | refine ⟨bsub_updL rfl rfl ?_ (fun _ _ _ => rfl) (fun _ => rfl), ?_⟩ | refine ⟨.inl ⟨_, _, rfl, rfl, ?_⟩, ?_⟩ | exact ⟨.inr ⟨rfl, rfl⟩, trivial⟩ | refine ⟨.inr ⟨rfl, rfl⟩, ?_⟩ | (intro _ _) | exact vz1 | exact vz2 | fail)))
    intro j hj _
    have h1 : (oneS (el l k)).length = 1 := rfl
    have h2 : (el (oneS (el l k)) 0).x = el l k := rfl
    have h3 : (el (oneS (el l k)) 0).y = 0 := rfl
    obtain rfl | rfl : j = 0 ∨ j = 1 := by omega
    · (repeat' (first | (refine ar_isq ?_; first | refine zmv ?_ | refine zas ?_ | (refine is_load ?_; first | refine zlp ?_ | refine zlr ?_) | (refine is_binOp ?_; first | refine zlss ?_ | refine zadd ?_) | (refine is_fieldAddr ?_; first | refine zfp ?_ | refine zfr ?_) | (refine is_indexAddr ?_; first | refine zil ?_ | refine zis ?_ | refine zit ?_ | refine zia ?_ | refine zir ?_ | refine zil (j := 0) ?_ | refine zis (j := 0) ?_ | refine zit (j := 0) ?_ | (refine zxl ?_; intro _ _ _) | (refine zxs ?_; intro _ _ _)) | (refine is_call ?_; first | refine zll ?_ | refine zls ?_ | refine zln ?_ | refine zle ?_) | refine zex ?_ | (refine ar_buildT ?_ (by exact ty rfl) (by exact rfl) (by exact sizes rfl) (by exact rfl) (by exact rfl) (by exact build rfl) (by exact dc rfl); intro _ hds; (try dsimp only [List.toList_toArray, cells_s, cells_emp, cells_agg, cells_list, cells_sl, cells_ptr, cells_ref, cells_fn, cells_vi, cells_vb, cells_vnil, constV, List.map_cons, List.map_nil, List.take_succ_cons, List.take_zero, List.drop_succ_cons, List.drop_zero, List.cons_append, List.nil_append, List.append_nil, LV_cells] at hds); (try dsimp only [cells_s, cells_emp, cells_agg, cells_list, cells_sl, cells_ptr, cells_ref, cells_fn, cells_vi, cells_vb, cells_vnil, constV, List.map_cons, List.map_nil, List.take_succ_cons, List.take_zero, List.drop_succ_cons, List.drop_zero, List.cons_append, List.nil_append, List.append_nil, LV_cells] at hds); subst hds)) | (refine zbx ?_) | (refine zal ?_) | (refine zb1 ?_) | (refine zb0 ?_) | (refine zapoo ?_) | (refine zapol ?_) | (refine zapno ?_) | (refine zapnl ?_) | (refine zapeo ?_) | (refine zapel ?_) | (refine zsvs ?_) | (refine zsva ?_) | (refine zses ?_) | (refine zsea ?_) | (refine ar_nil ?_) | (refine aw_seq ?_) | (refine aw_skip ?_) | (refine aw_block ?_) | (refine aw_exit ?_) | (refine aw_region ?_) | (refine zco ?_ ?_ <;> intro hg <;> first | exact absurd hg (by decide) | ((try replace hg := HG.out hg); (try dsimp only at hg); (try (have _h : True := hg; clear _h hg)); first | (exfalso; omega) | skip))))
      all_goals first
        | (exfalso; omega)
        | ((first | refine loop_next (by omega) ?_ ?_ | refine (show _ ∧ _ ∧ SubOf _ _ _ _ _ _ from And.intro (by omega) (And.intro ?_ ?_))); (focus ((trivial); done)); (focus ((refine sub_to [some 0, some 1] [4] rfl ?_ ?_ <;> (repeat' (first | exact trivial | refine ⟨⟨_, rfl, ?_⟩, ?_⟩ | refine ⟨bsub_snoc rfl rfl (fun _ => rfl) ?_, ?_⟩ | refine ⟨bsub_one rfl rfl ?_, ?_⟩ | refine ⟨bsub_all rfl rfl (fun _ _ => rfl) (fun _ => rfl), ?_⟩ | refine ⟨bsub_updL rfl rfl ?_ (fun _ _ _ => rfl) (fun _ => rfl), ?_⟩ | refine ⟨.inl ⟨_, _, rfl, rfl, ?_⟩, ?_⟩ | exact ⟨.inr ⟨rfl, rfl⟩, trivial⟩ | refine ⟨.inr ⟨rfl, rfl⟩, ?_⟩ | (intro _ _) | exact vz1 | (exact VSub.aggL ⟨.closed rfl, frz_as (e := Spt.enc) (l := oneS (el l k + 1)) (by simp; done) rfl rfl rfl (fun i hi => by (obtain rfl : i = 0 := by omega); rfl) (fun _ => rfl), .closed rfl, .closed rfl, .closed rfl, .closed rfl, trivial⟩) | exact vz2 | fail))); done)))
        | trace_state
    · (repeat' (first | (refine ar_isq ?_; first | refine zmv ?_ | refine zas ?_ | (refine is_load ?_; first | refine zlp ?_ | refine zlr ?_) | (refine is_binOp ?_; first | refine zlss ?_ | refine zadd ?_) | (refine is_fieldAddr ?_; first | refine zfp ?_ | refine zfr ?_) | (refine is_indexAddr ?_; first | refine zil ?_ | refine zis ?_ | refine zit ?_ | refine zia ?_ | refine zir ?_ | (refine zxl ?_; intro _ _ _) | (refine zxs ?_; intro _ _ _)) | (refine is_call ?_; first | refine zll ?_ | refine zls ?_ | refine zln ?_ | refine zle ?_) | refine zex ?_ | (refine ar_buildT ?_ (by exact ty rfl) (by exact rfl) (by exact sizes rfl) (by exact rfl) (by exact rfl) (by exact build rfl) (by exact dc rfl); intro _ hds; (try dsimp only [List.toList_toArray, cells_s, cells_emp, cells_agg, cells_list, cells_sl, cells_ptr, cells_ref, cells_fn, cells_vi, cells_vb, cells_vnil, constV, List.map_cons, List.map_nil, List.take_succ_cons, List.take_zero, List.drop_succ_cons, List.drop_zero, List.cons_append, List.nil_append, List.append_nil, LV_cells] at hds); (try dsimp only [cells_s, cells_emp, cells_agg, cells_list, cells_sl, cells_ptr, cells_ref, cells_fn, cells_vi, cells_vb, cells_vnil, constV, List.map_cons, List.map_nil, List.take_succ_cons, List.take_zero, List.drop_succ_cons, List.drop_zero, List.cons_append, List.nil_append, List.append_nil, LV_cells] at hds); subst hds)) | (refine zbx ?_) | (refine zal ?_) | (refine zb1 ?_) | (refine zb0 ?_) | (refine zapoo ?_) | (refine zapol ?_) | (refine zapno ?_) | (refine zapnl ?_) | (refine zapeo ?_) | (refine zapel ?_) | (refine zsvs ?_) | (refine zsva ?_) | (refine zses ?_) | (refine zsea ?_) | (refine ar_nil ?_) | (refine aw_seq ?_) | (refine aw_skip ?_) | (refine aw_block ?_) | (refine aw_exit ?_) | (refine aw_region ?_) | (refine zco ?_ ?_ <;> intro hg <;> first | exact absurd hg (by decide) | ((try replace hg := HG.out hg); (try dsimp only at hg); (try (have _h : True := hg; clear _h hg)); first | (exfalso; omega) | skip))))
      all_goals first
        | (exfalso; omega)
        | (rw [take_snoc hkn]; ((first | refine loop_next (by omega) ?_ ?_ | refine (show _ ∧ _ ∧ SubOf _ _ _ _ _ _ from And.intro (by omega) (And.intro ?_ ?_))); (focus ((trivial); done)); (focus ((refine sub_to [some 3] [] rfl ?_ ?_ <;> (repeat' (first | exact trivial | refine ⟨⟨_, rfl, ?_⟩, ?_⟩ | refine ⟨bsub_snoc rfl rfl (fun _ => rfl) ?_, ?_⟩ | refine ⟨bsub_one rfl rfl ?_, ?_⟩ | refine ⟨bsub_all rfl rfl (fun _ _ => rfl) (fun _ => rfl), ?_⟩ | refine ⟨bsub_updL rfl rfl ?_ (fun _ _ _ => rfl) (fun _ => rfl), ?_⟩ | refine ⟨.inl ⟨_, _, rfl, rfl, ?_⟩, ?_⟩ | exact ⟨.inr ⟨rfl, rfl⟩, trivial⟩ | refine ⟨.inr ⟨rfl, rfl⟩, ?_⟩ | (intro _ _) | exact vz1 | exact vz2 | fail))); done))))
        | trace_state
  · obtain rfl : k = l.length := by omega
    (repeat' (first | (refine ar_isq ?_; first | refine zmv ?_ | refine zas ?_ | (refine is_load ?_; first | refine zlp ?_ | refine zlr ?_) | (refine is_binOp ?_; first | refine zlss ?_ | refine zadd ?_) | (refine is_fieldAddr ?_; first | refine zfp ?_ | refine zfr ?_) | (refine is_indexAddr ?_; first | refine zil ?_ | refine zis ?_ | refine zit ?_ | refine zia ?_ | refine zir ?_ | (refine zxl ?_; intro _ _ _) | (refine zxs ?_; intro _ _ _)) | (refine is_call ?_; first | refine zll ?_ | refine zls ?_ | refine zln ?_ | refine zle ?_) | refine zex ?_ | (refine ar_buildT ?_ (by exact ty rfl) (by exact rfl) (by exact sizes rfl) (by exact rfl) (by exact rfl) (by exact build rfl) (by exact dc rfl); intro _ hds; (try dsimp only [List.toList_toArray, cells_s, cells_emp, cells_agg, cells_list, cells_sl, cells_ptr, cells_ref, cells_fn, cells_vi, cells_vb, cells_vnil, constV, List.map_cons, List.map_nil, List.take_succ_cons, List.take_zero, List.drop_succ_cons, List.drop_zero, List.cons_append, List.nil_append, List.append_nil, LV_cells] at hds); (try dsimp only [cells_s, cells_emp, cells_agg, cells_list, cells_sl, cells_ptr, cells_ref, cells_fn, cells_vi, cells_vb, cells_vnil, constV, List.map_cons, List.map_nil, List.take_succ_cons, List.take_zero, List.drop_succ_cons, List.drop_zero, List.cons_append, List.nil_append, List.append_nil, LV_cells] at hds); subst hds)) | (refine zbx ?_) | (refine zal ?_) | (refine zb1 ?_) | (refine zb0 ?_) | (refine zapoo ?_) | (refine zapol ?_) | (refine zapno ?_) | (refine zapnl ?_) | (refine zapeo ?_) | (refine zapel ?_) | (refine zsvs ?_) | (refine zsva ?_) | (refine zses ?_) | (refine zsea ?_) | (refine ar_nil ?_) | (refine aw_seq ?_) | (refine aw_skip ?_) | (refine aw_block ?_) | (refine aw_exit ?_) | (refine aw_region ?_) | (refine zco ?_ ?_ <;> intro hg <;> first | exact absurd hg (by decide) | ((try replace hg := HG.out hg); (try dsimp only at hg); (try (have _h : True := hg; clear _h hg)); first | (exfalso; omega) | skip))))
    all_goals first
      | (exfalso; omega)
      | (rw [List.take_length]; (refine aw_mono_r (env' := [(2, LV 6 (sideE tip) l)]) (H' := []) ?_ ?_; (focus ((refine sub_to [] [0] rfl ?_ ?_ <;> (repeat' (first | exact trivial | refine ⟨⟨_, rfl, ?_⟩, ?_⟩ | refine ⟨bsub_snoc rfl rfl (fun _ => rfl) ?_, ?_⟩ | refine ⟨bsub_one rfl rfl ?_, ?_⟩ | refine ⟨bsub_all rfl rfl (fun _ _ => rfl) (fun _ => rfl), ?_⟩ | refine ⟨bsub_updL rfl rfl ?_ (fun _ _ _ => rfl) (fun _ => rfl), ?_⟩ | refine ⟨.inl ⟨_, _, rfl, rfl, ?_⟩, ?_⟩ | exact ⟨.inr ⟨rfl, rfl⟩, trivial⟩ | refine ⟨.inr ⟨rfl, rfl⟩, ?_⟩ | (intro _ _) | exact vz1 | exact vz2 | fail))); done))); (refine aw_ret ?_; (repeat (first | refine ret_then ?_ | refine ret_block ?_)); refine bq1 rfl ⟨?_, rfl⟩); rfl)
      | trace_state
end Go.Proofs.Ytloaefllpokkaaa
-- buildT
namespace Go.Proofs.Ytloaefllpokkaaa
open Go.RowKit
def wI (l : List Int) (n : Int) (acc : List (Int × Int)) (i : Nat) : Nat → List (Int × Int)
  | 0 => acc
  | k + 1 => if nearM n (el l i) (el l (i + 1 + k)) = true then wI l n acc i k ++ [((i : Int), (i : Int) + 1 + k)] else wI l n acc i k
def wO (l : List Int) (n : Int) : Nat → List (Int × Int)
  | 0 => []
  | i + 1 => wI l n (wO l n i) i (l.length - (i + 1))
theorem wI_yes {l : List Int} {n : Int} {acc : List (Int × Int)} {i k : Nat} (h : nearM n (el l i) (el l (i + 1 + k)) = true) : wI l n acc i (k + 1) = wI l n acc i k ++ [((i : Int), (i : Int) + 1 + k)] := if_pos h
theorem wI_no {l : List Int} {n : Int} {acc : List (Int × Int)} {i k : Nat} (h : nearM n (el l i) (el l (i + 1 + k)) = false) : wI l n acc i (k + 1) = wI l n acc i k := if_neg (by rw [h]; decide)
theorem wI_len (l : List Int) (n : Int) (acc : List (Int × Int)) (i : Nat) : ∀ k, (wI l n acc i k).length ≤ acc.length + k
  | 0 => Nat.le_refl _
  | k + 1 => by
    have := wI_len l n acc i k
    unfold wI
    split
    · rw [List.length_append, List.length_singleton]; omega
    · omega
theorem wO_len (l : List Int) (n : Int) : ∀ i, (wO l n i).length ≤ i * l.length
  | 0 => by simp [wO]
  | i + 1 => by
    have h1 := wO_len l n i
    have h2 := wI_len l n (wO l n i) i (l.length - (i + 1))
    show (wI l n (wO l n i) i (l.length - (i + 1))).length ≤ _
    rw [Nat.succ_mul]
    omega
theorem wI_nil {l : List Int} {n : Int} {acc : List (Int × Int)} {i : Nat} : ∀ k, wI l n acc i k = [] ↔ acc = [] ∧ ∀ j, j < k → nearM n (el l i) (el l (i + 1 + j)) = false
  | 0 => ⟨fun h => ⟨h, fun j hj => by omega⟩, fun h => h.1⟩
  | k + 1 => by
    have ih := wI_nil (l := l) (n := n) (acc := acc) (i := i) k
    cases hc : nearM n (el l i) (el l (i + 1 + k))
    · rw [wI_no hc, ih]
      refine ⟨fun ⟨h1, h2⟩ => ⟨h1, fun j hj => ?_⟩, fun ⟨h1, h2⟩ => ⟨h1, fun j hj => h2 j (by omega)⟩⟩
      by_cases e : j = k
      · subst e; exact hc
      · exact h2 j (by omega)
    · rw [wI_yes hc]
      refine ⟨fun h => by simp at h, fun ⟨h1, h2⟩ => ?_⟩
      have := h2 k (by omega)
      rw [hc] at this
      cases this
theorem wO_nil {l : List Int} {n : Int} : ∀ i, wO l n i = [] ↔ ∀ a, a < i → ∀ j, j < l.length - (a + 1) → nearM n (el l a) (el l (a + 1 + j)) = false
  | 0 => ⟨fun _ a ha => by omega, fun _ => rfl⟩
  | i + 1 => by
    show wI l n (wO l n i) i (l.length - (i + 1)) = [] ↔ _
    rw [wI_nil, wO_nil i]
    refine ⟨fun ⟨h1, h2⟩ a ha j hj => ?_, fun h => ⟨fun a ha => h a (by omega), fun j hj => h i (by omega) j hj⟩⟩
    by_cases e : a = i
    · subst e; exact h2 j hj
    · exact h1 a (by omega) j hj
set_option maxRecDepth 20000 in
set_option maxHeartbeats 4000000 in
theorem walls_p (tip wall : Int) (l : List Int) (ht : 0 ≤ tip ∧ tip ≤ 100) (hw : 1 ≤ wall ∧ wall ≤ 256) (h : AllIn l) (h12 : l.length ≤ 12) : PCalls Try.prog 23 [wrkV tip wall l] (· = .tup [LV 2 prE (wO l (tip + tip + wall) l.length), vi 0]) := by
  have hc := checkW_p tip wall l ht hw h h12
  have hs := sides_p tip wall l ht h h12
  refine pcalls_of_aw Try.func23 rfl (Nat.le_of_ble_eq_true rfl) ?_
  ((repeat refine aw_seq ?_); (first | (refine aw_region ?_)); (repeat' (first | (refine ar_isq ?_; first | refine zmv ?_ | refine zas ?_ | (refine is_load ?_; first | refine zlp ?_ | refine zlr ?_) | (refine is_binOp ?_; first | refine zlss ?_ | refine zneq ?_ | refine zadd ?_ | refine zmul ?_) | (refine is_fieldAddr ?_; first | refine zfp ?_ | refine zfr ?_) | (refine is_indexAddr ?_; first | refine zil ?_ | refine zis ?_ | refine zit ?_ | refine zia ?_ | refine zir ?_ | (refine zxl ?_; intro _ _ _) | (refine zxs ?_; intro _ _ _)) | (refine is_call ?_; first | refine zll ?_ | refine zls ?_ | refine zln ?_ | refine zle ?_) | (refine is_pick ?_; first | refine zpt ?_ | refine zpf ?_) | refine znt ?_ | (refine ar_buildT ?_ (by exact ty rfl) (by exact rfl) (by exact sizes rfl) (by exact rfl) (by exact rfl) (by exact build rfl) (by exact dc rfl); intro _ hds; (try dsimp only [List.toList_toArray, cells_s, cells_emp, cells_agg, cells_list, cells_sl, cells_ptr, cells_ref, cells_fn, cells_vi, cells_vb, cells_vnil, constV, List.map_cons, List.map_nil, List.take_succ_cons, List.take_zero, List.drop_succ_cons, List.drop_zero, List.cons_append, List.nil_append, List.append_nil, LV_cells] at hds); (try dsimp only [cells_s, cells_emp, cells_agg, cells_list, cells_sl, cells_ptr, cells_ref, cells_fn, cells_vi, cells_vb, cells_vnil, constV, List.map_cons, List.map_nil, List.take_succ_cons, List.take_zero, List.drop_succ_cons, List.drop_zero, List.cons_append, List.nil_append, List.append_nil, LV_cells] at hds); subst hds)) | (refine zcl ?_) | (refine zcs ?_) | (refine zbx ?_) | (refine zal ?_) | (refine zb1 ?_) | (refine zb0 ?_) | (refine zapoo ?_) | (refine zapol ?_) | (refine zapno ?_) | (refine zapnl ?_) | (refine zapeo ?_) | (refine zapel ?_) | (refine zsvs ?_) | (refine zsva ?_) | (refine zses ?_) | (refine zsea ?_) | (refine zg ?_ ?_ <;> intro hg <;> first | exact absurd hg (by decide) | ((try replace hg := HG.out hg); (try dsimp only at hg); (try (have _h : True := hg; clear _h hg)); first | (exfalso; omega) | skip)) | (refine zgu ?_) | (refine ar_nil ?_))))
  (refine aw_mono_r (env' := [(1, .ref (wrkV tip wall l) 0), (2, vnil), (3, vi 0)]) (H' := []) ?_ ?_; (focus ((refine sub_to [] [0] rfl ?_ ?_ <;> (repeat' (first | exact trivial | refine ⟨⟨_, rfl, ?_⟩, ?_⟩ | refine ⟨bsub_snoc rfl rfl (fun _ => rfl) ?_, ?_⟩ | refine ⟨bsub_one rfl rfl ?_, ?_⟩ | refine ⟨bsub_all rfl rfl (fun _ _ => rfl) (fun _ => rfl), ?_⟩ | refine ⟨bsub_updL rfl rfl ?_ (fun _ _ _ => rfl) (fun _ => rfl), ?_⟩ | refine ⟨.inl ⟨_, _, rfl, rfl, ?_⟩, ?_⟩ | exact ⟨.inr ⟨rfl, rfl⟩, trivial⟩ | refine ⟨.inr ⟨rfl, rfl⟩, ?_⟩ | (intro _ _) | exact vz1 | (exact frzPtr' (by simp) rfl (by omega) rfl rfl) | exact vz2 | fail))); done)))
  (repeat' (first | (refine ar_isq ?_; first | refine zmv ?_ | refine zas ?_ | (refine is_load ?_; first | refine zlp ?_ | refine zlr ?_) | (refine is_binOp ?_; first | refine zlss ?_ | refine zneq ?_ | refine zadd ?_ | refine zmul ?_) | (refine is_fieldAddr ?_; first | refine zfp ?_ | refine zfr ?_) | (refine is_indexAddr ?_; first | refine zil ?_ | refine zis ?_ | refine zit ?_ | refine zia ?_ | refine zir ?_ | (refine zxl ?_; intro _ _ _) | (refine zxs ?_; intro _ _ _)) | (refine is_call ?_; first | refine zll ?_ | refine zls ?_ | refine zln ?_ | refine zle ?_) | (refine is_pick ?_; first | refine zpt ?_ | refine zpf ?_) | refine znt ?_ | (refine ar_buildT ?_ (by exact ty rfl) (by exact rfl) (by exact sizes rfl) (by exact rfl) (by exact rfl) (by exact build rfl) (by exact dc rfl); intro _ hds; (try dsimp only [List.toList_toArray, cells_s, cells_emp, cells_agg, cells_list, cells_sl, cells_ptr, cells_ref, cells_fn, cells_vi, cells_vb, cells_vnil, constV, List.map_cons, List.map_nil, List.take_succ_cons, List.take_zero, List.drop_succ_cons, List.drop_zero, List.cons_append, List.nil_append, List.append_nil, LV_cells] at hds); (try dsimp only [cells_s, cells_emp, cells_agg, cells_list, cells_sl, cells_ptr, cells_ref, cells_fn, cells_vi, cells_vb, cells_vnil, constV, List.map_cons, List.map_nil, List.take_succ_cons, List.take_zero, List.drop_succ_cons, List.drop_zero, List.cons_append, List.nil_append, List.append_nil, LV_cells] at hds); subst hds)) | (refine ar_pcall (own := false) fn45 rfl rfl (.cons (.closed rfl) .nil) (hc) (by simp) (dc rfl) ?_; intro _ hv; subst hv) | (refine ar_pcall (own := false) fn46 rfl rfl (.cons (.closed rfl) .nil) (hs) (by simp) (dc rfl) ?_; intro _ hv; subst hv) | (refine zcl ?_) | (refine zcs ?_) | (refine zbx ?_) | (refine zal ?_) | (refine zb1 ?_) | (refine zb0 ?_) | (refine zapoo ?_) | (refine zapol ?_) | (refine zapno ?_) | (refine zapnl ?_) | (refine zapeo ?_) | (refine zapel ?_) | (refine zsvs ?_) | (refine zsva ?_) | (refine zses ?_) | (refine zsea ?_) | (refine zg ?_ ?_ <;> intro hg <;> first | exact absurd hg (by decide) | ((try replace hg := HG.out hg); (try dsimp only at hg); (try (have _h : True := hg; clear _h hg)); first | (exfalso; omega) | skip)) | (refine zgu ?_) | (refine ar_nil ?_) | (refine aw_seq ?_) | (refine aw_skip ?_) | (refine aw_block ?_) | (refine aw_exit ?_) | (refine aw_region ?_) | (refine zco ?_ ?_ <;> intro hg <;> first | exact absurd hg (by decide) | ((try replace hg := HG.out hg); (try dsimp only at hg); (try (have _h : True := hg; clear _h hg)); first | (exfalso; omega) | skip))))
  all_goals (try (exfalso; omega))
  refine aw_for l.length (fun _ => True) (fun i => [(1, .ref (wrkV tip wall l) 0), (5, .sl 2 0 0 (wO l (tip + tip + wall) i).length), (6, LV 6 (sideE tip) l), (18, LV 6 (sideE tip) l), (19, vi l.length), (20, vi i)]) (fun i => [LB 2 prE (wO l (tip + tip + wall) i)]) trivial ?_ ?_
  · (refine sub_to [none] [] rfl ?_ ?_ <;> (repeat' (first | exact trivial | refine ⟨⟨_, rfl, ?_⟩, ?_⟩ | refine ⟨bsub_snoc rfl rfl (fun _ => rfl) ?_, ?_⟩ | refine ⟨bsub_one rfl rfl ?_, ?_⟩ | refine ⟨bsub_all rfl rfl (fun _ _ => rfl) (fun _ => rfl), ?_⟩ | refine ⟨bsub_updL rfl rfl ?_ (fun _ _ _ => rfl) (fun _ => rfl), ?_⟩ | refine ⟨.inl ⟨_, _, rfl, rfl, ?_⟩, ?_⟩ | exact ⟨.inr ⟨rfl, rfl⟩, trivial⟩ | refine ⟨.inr ⟨rfl, rfl⟩, ?_⟩ | (intro _ _) | exact vz1 | exact vz2 | fail)))
  intro i hi _
  have hlo := wO_len l (tip + tip + wall) i
  have hm := Nat.mul_le_mul (show i ≤ 12 by omega) (show l.length ≤ 12 from h12)
  by_cases hin : i < l.length
  · (repeat' (first | (refine ar_isq ?_; first | refine zmv ?_ | refine zas ?_ | (refine is_load ?_; first | refine zlp ?_ | refine zlr ?_) | (refine is_binOp ?_; first | refine zlss ?_ | refine zneq ?_ | refine zadd ?_ | refine zmul ?_) | (refine is_fieldAddr ?_; first | refine zfp ?_ | refine zfr ?_) | (refine is_indexAddr ?_; first | refine zil ?_ | refine zis ?_ | refine zit ?_ | refine zia ?_ | refine zir ?_ | refine zil (j := i) ?_ | refine zis (j := i) ?_ | refine zit (j := i) ?_ | (refine zxl ?_; intro _ _ _) | (refine zxs ?_; intro _ _ _)) | (refine is_call ?_; first | refine zll ?_ | refine zls ?_ | refine zln ?_ | refine zle ?_) | (refine is_pick ?_; first | refine zpt ?_ | refine zpf ?_) | refine znt ?_ | (refine ar_buildT ?_ (by exact ty rfl) (by exact rfl) (by exact sizes rfl) (by exact rfl) (by exact rfl) (by exact build rfl) (by exact dc rfl); intro _ hds; (try dsimp only [List.toList_toArray, cells_s, cells_emp, cells_agg, cells_list, cells_sl, cells_ptr, cells_ref, cells_fn, cells_vi, cells_vb, cells_vnil, constV, List.map_cons, List.map_nil, List.take_succ_cons, List.take_zero, List.drop_succ_cons, List.drop_zero, List.cons_append, List.nil_append, List.append_nil, LV_cells] at hds); (try dsimp only [cells_s, cells_emp, cells_agg, cells_list, cells_sl, cells_ptr, cells_ref, cells_fn, cells_vi, cells_vb, cells_vnil, constV, List.map_cons, List.map_nil, List.take_succ_cons, List.take_zero, List.drop_succ_cons, List.drop_zero, List.cons_append, List.nil_append, List.append_nil, LV_cells] at hds); subst hds)) | (refine zcl (a := i + 1) (b := l.length) ?_) | (refine zcs (a := i + 1) (b := l.length) ?_) | (refine zbx ?_) | (refine zal ?_) | (refine zb1 ?_) | (refine zb0 ?_) | (refine zapoo ?_) | (refine zapol ?_) | (refine zapno ?_) | (refine zapnl ?_) | (refine zapeo ?_) | (refine zapel ?_) | (refine zsvs ?_) | (refine zsva ?_) | (refine zses ?_) | (refine zsea ?_) | (refine zg ?_ ?_ <;> intro hg <;> first | exact absurd hg (by decide) | ((try replace hg := HG.out hg); (try dsimp only at hg); (try (have _h : True := hg; clear _h hg)); first | (exfalso; omega) | skip)) | (refine zgu ?_) | (refine ar_nil ?_) | (refine aw_seq ?_) | (refine aw_skip ?_) | (refine aw_block ?_) | (refine aw_exit ?_) | (refine aw_region ?_) | (refine zco ?_ ?_ <;> intro hg <;> first | exact absurd hg (by decide) | ((try replace hg := HG.out hg); (try dsimp only at hg); (try (have _h : True := hg; clear _h hg)); first | (exfalso; omega) | skip))))
    all_goals (try (exfalso; omega))
    refine (show AW Try.prog none 0 _ _ _ _ _ from ?_)
    refine aw_for (l.length - (i + 1)) (fun _ => True) (fun k => [(1, .ref (wrkV tip wall l) 0), (5, .sl 2 0 0 (wI l (tip + tip + wall) (wO l (tip + tip + wall) i) i k).length), (6, LV 6 (sideE tip) l), (7, vi i), (8, .ptr 6 1 0 0), (18, LV 6 (sideE tip) l), (19, vi l.length), (20, vi i), (28, .list 6 (l.length - (i + 1)) (fun k => sideE tip (el l (i + 1 + k)))), (29, vi (l.length - (i + 1) : Nat)), (30, vi k)]) (fun k => [LB 2 prE (wI l (tip + tip + wall) (wO l (tip + tip + wall) i) i k), .arr 6 1 (fun _ => sideE tip (el l i))]) trivial ?_ ?_
    · (refine sub_to [some 0, some 1] [] rfl ?_ ?_ <;> (repeat' (first | exact trivial | refine ⟨⟨_, rfl, ?_⟩, ?_⟩ | refine ⟨bsub_snoc rfl rfl (fun _ => rfl) ?_, ?_⟩ | refine ⟨bsub_one rfl rfl ?_, ?_⟩ | refine ⟨bsub_all rfl rfl (fun _ _ => rfl) (fun _ => rfl), ?_⟩ | refine ⟨bsub_updL rfl rfl ?_ (fun _ _ _ => rfl) (fun _ => rfl), ?_⟩ | refine ⟨.inl ⟨_, _, rfl, rfl, ?_⟩, ?_⟩ | exact ⟨.inr ⟨rfl, rfl⟩, trivial⟩ | refine ⟨.inr ⟨rfl, rfl⟩, ?_⟩ | (intro _ _) | exact vz1 | exact vz2 | fail)))
    intro k hk _
    have hli := wI_len l (tip + tip + wall) (wO l (tip + tip + wall) i) i k
    by_cases hkn : k < l.length - (i + 1)
    · have hnr := nearS_p (el l i) (el l (i + 1 + k)) (tip + tip + wall) (h _ (el_mem hin)) (h _ (el_mem (by omega))) (by omega)
      cases hcn : nearM (tip + tip + wall) (el l i) (el l (i + 1 + k))
      all_goals
        rw [hcn] at hnr
        (repeat' (first | (refine ar_isq ?_; first | refine zmv ?_ | refine zas ?_ | (refine is_load ?_; first | refine zlp ?_ | refine zlr ?_) | (refine is_binOp ?_; first | refine zlss ?_ | refine zneq ?_ | refine zadd ?_ | refine zmul ?_) | (refine is_fieldAddr ?_; first | refine zfp ?_ | refine zfr ?_) | (refine is_indexAddr ?_; first | refine zil ?_ | refine zis ?_ | refine zit ?_ | refine zia ?_ | refine zir ?_ | refine zil (j := k) ?_ | refine zis (j := k) ?_ | refine zit (j := k) ?_ | (refine zxl ?_; intro _ _ _) | (refine zxs ?_; intro _ _ _)) | (refine is_call ?_; first | refine zll ?_ | refine zls ?_ | refine zln ?_ | refine zle ?_) | (refine is_pick ?_; first | refine zpt ?_ | refine zpf ?_) | refine znt ?_ | (refine ar_buildT ?_ (by exact ty rfl) (by exact rfl) (by exact sizes rfl) (by exact rfl) (by exact rfl) (by exact build rfl) (by exact dc rfl); intro _ hds; (try dsimp only [List.toList_toArray, cells_s, cells_emp, cells_agg, cells_list, cells_sl, cells_ptr, cells_ref, cells_fn, cells_vi, cells_vb, cells_vnil, constV, List.map_cons, List.map_nil, List.take_succ_cons, List.take_zero, List.drop_succ_cons, List.drop_zero, List.cons_append, List.nil_append, List.append_nil, LV_cells] at hds); (try dsimp only [cells_s, cells_emp, cells_agg, cells_list, cells_sl, cells_ptr, cells_ref, cells_fn, cells_vi, cells_vb, cells_vnil, constV, List.map_cons, List.map_nil, List.take_succ_cons, List.take_zero, List.drop_succ_cons, List.drop_zero, List.cons_append, List.nil_append, List.append_nil, LV_cells] at hds); subst hds)) | ((refine ar_buildT ?_ (by exact ty rfl) (by exact rfl) (by exact sizes rfl) (by exact rfl) (by exact rfl) (by exact build rfl) (by exact dc rfl); intro _ hds; (try dsimp only [List.toList_toArray, cells_s, cells_emp, cells_agg, cells_list, cells_sl, cells_ptr, cells_ref, cells_fn, cells_vi, cells_vb, cells_vnil, constV, List.map_cons, List.map_nil, List.take_succ_cons, List.take_zero, List.drop_succ_cons, List.drop_zero, List.cons_append, List.nil_append, List.append_nil, LV_cells] at hds); (try dsimp only [cells_s, cells_emp, cells_agg, cells_list, cells_sl, cells_ptr, cells_ref, cells_fn, cells_vi, cells_vb, cells_vnil, constV, List.map_cons, List.map_nil, List.take_succ_cons, List.take_zero, List.drop_succ_cons, List.drop_zero, List.cons_append, List.nil_append, List.append_nil, LV_cells] at hds); subst hds)) | (refine ar_re (t := 58) (v' := vi (tip + tip + wall)) rfl (congrArg vi (show tip + tip + wall + 3 * 0 = tip + tip + wall by omega)) ?_; refine ar_pcall (own := false) fn34 rfl rfl (.cons (.closed rfl) (.cons (.closed rfl) (.cons (.closed rfl) .nil))) (hnr) (by simp) (dc rfl) ?_; intro _ hv; subst hv) | (refine zcl ?_) | (refine zcs ?_) | (refine zbx ?_) | (refine zal ?_) | (refine zb1 ?_) | (refine zb0 ?_) | (refine zapoo ?_) | (refine zapol ?_) | (refine zapno ?_) | (refine zapnl ?_) | (refine zapeo ?_) | (refine zapel ?_) | (refine zsvs ?_) | (refine zsva ?_) | (refine zses ?_) | (refine zsea ?_) | (refine zg ?_ ?_ <;> intro hg <;> first | exact absurd hg (by decide) | ((try replace hg := HG.out hg); (try dsimp only at hg); (try (have _h : True := hg; clear _h hg)); first | (exfalso; omega) | skip)) | (refine zgu ?_) | (refine ar_nil ?_) | (refine aw_seq ?_) | (refine aw_skip ?_) | (refine aw_block ?_) | (refine aw_exit ?_) | (refine aw_region ?_) | (refine zco ?_ ?_ <;> intro hg <;> first | exact absurd hg (by decide) | ((try replace hg := HG.out hg); (try dsimp only at hg); (try (have _h : True := hg; clear _h hg)); first | (exfalso; omega) | skip))))
      all_goals first
        | (exfalso; omega)
        | (rw [wI_yes hcn]; ((first | refine loop_next (by omega) ?_ ?_ | refine (show _ ∧ _ ∧ SubOf _ _ _ _ _ _ from And.intro (by omega) (And.intro ?_ ?_))); (focus ((trivial); done)); (focus ((refine sub_to [some 4, some 1] [] rfl ?_ ?_ <;> (repeat' (first | exact trivial | refine ⟨⟨_, rfl, ?_⟩, ?_⟩ | refine ⟨bsub_snoc rfl rfl (fun _ => rfl) ?_, ?_⟩ | refine ⟨bsub_one rfl rfl ?_, ?_⟩ | refine ⟨bsub_all rfl rfl (fun _ _ => rfl) (fun _ => rfl), ?_⟩ | refine ⟨bsub_updL rfl rfl ?_ (fun _ _ _ => rfl) (fun _ => rfl), ?_⟩ | refine ⟨.inl ⟨_, _, rfl, rfl, ?_⟩, ?_⟩ | exact ⟨.inr ⟨rfl, rfl⟩, trivial⟩ | refine ⟨.inr ⟨rfl, rfl⟩, ?_⟩ | (intro _ _) | exact vz1 | exact vz2 | fail))); done))))
        | (rw [wI_no hcn]; ((first | refine loop_next (by omega) ?_ ?_ | refine (show _ ∧ _ ∧ SubOf _ _ _ _ _ _ from And.intro (by omega) (And.intro ?_ ?_))); (focus ((trivial); done)); (focus ((refine sub_to [some 0, some 1] [] rfl ?_ ?_ <;> (repeat' (first | exact trivial | refine ⟨⟨_, rfl, ?_⟩, ?_⟩ | refine ⟨bsub_snoc rfl rfl (fun _ => rfl) ?_, ?_⟩ | refine ⟨bsub_one rfl rfl ?_, ?_⟩ | refine ⟨bsub_all rfl rfl (fun _ _ => rfl) (fun _ => rfl), ?_⟩ | refine ⟨bsub_updL rfl rfl ?_ (fun _ _ _ => rfl) (fun _ => rfl), ?_⟩ | refine ⟨.inl ⟨_, _, rfl, rfl, ?_⟩, ?_⟩ | exact ⟨.inr ⟨rfl, rfl⟩, trivial⟩ | refine ⟨.inr ⟨rfl, rfl⟩, ?_⟩ | (intro _ _) | exact vz1 | exact vz2 | fail))); done))))
        | trace_state
    · obtain rfl : k = l.length - (i + 1) := by omega
      (repeat' (first | (refine ar_isq ?_; first | refine zmv ?_ | refine zas ?_ | (refine is_load ?_; first | refine zlp ?_ | refine zlr ?_) | (refine is_binOp ?_; first | refine zlss ?_ | refine zneq ?_ | refine zadd ?_ | refine zmul ?_) | (refine is_fieldAddr ?_; first | refine zfp ?_ | refine zfr ?_) | (refine is_indexAddr ?_; first | refine zil ?_ | refine zis ?_ | refine zit ?_ | refine zia ?_ | refine zir ?_ | (refine zxl ?_; intro _ _ _) | (refine zxs ?_; intro _ _ _)) | (refine is_call ?_; first | refine zll ?_ | refine zls ?_ | refine zln ?_ | refine zle ?_) | (refine is_pick ?_; first | refine zpt ?_ | refine zpf ?_) | refine znt ?_ | (refine ar_buildT ?_ (by exact ty rfl) (by exact rfl) (by exact sizes rfl) (by exact rfl) (by exact rfl) (by exact build rfl) (by exact dc rfl); intro _ hds; (try dsimp only [List.toList_toArray, cells_s, cells_emp, cells_agg, cells_list, cells_sl, cells_ptr, cells_ref, cells_fn, cells_vi, cells_vb, cells_vnil, constV, List.map_cons, List.map_nil, List.take_succ_cons, List.take_zero, List.drop_succ_cons, List.drop_zero, List.cons_append, List.nil_append, List.append_nil, LV_cells] at hds); (try dsimp only [cells_s, cells_emp, cells_agg, cells_list, cells_sl, cells_ptr, cells_ref, cells_fn, cells_vi, cells_vb, cells_vnil, constV, List.map_cons, List.map_nil, List.take_succ_cons, List.take_zero, List.drop_succ_cons, List.drop_zero, List.cons_append, List.nil_append, List.append_nil, LV_cells] at hds); subst hds)) | (refine zcl ?_) | (refine zcs ?_) | (refine zbx ?_) | (refine zal ?_) | (refine zb1 ?_) | (refine zb0 ?_) | (refine zapoo ?_) | (refine zapol ?_) | (refine zapno ?_) | (refine zapnl ?_) | (refine zapeo ?_) | (refine zapel ?_) | (refine zsvs ?_) | (refine zsva ?_) | (refine zses ?_) | (refine zsea ?_) | (refine zg ?_ ?_ <;> intro hg <;> first | exact absurd hg (by decide) | ((try replace hg := HG.out hg); (try dsimp only at hg); (try (have _h : True := hg; clear _h hg)); first | (exfalso; omega) | skip)) | (refine zgu ?_) | (refine ar_nil ?_) | (refine aw_seq ?_) | (refine aw_skip ?_) | (refine aw_block ?_) | (refine aw_exit ?_) | (refine aw_region ?_) | (refine zco ?_ ?_ <;> intro hg <;> first | exact absurd hg (by decide) | ((try replace hg := HG.out hg); (try dsimp only at hg); (try (have _h : True := hg; clear _h hg)); first | (exfalso; omega) | skip))))
      all_goals first
        | (exfalso; omega)
        | ((first | refine loop_next (by omega) ?_ ?_ | refine (show _ ∧ _ ∧ SubOf _ _ _ _ _ _ from And.intro (by omega) (And.intro ?_ ?_))); (focus ((trivial); done)); (focus ((refine sub_to [some 0] [] rfl ?_ ?_ <;> (repeat' (first | exact trivial | refine ⟨⟨_, rfl, ?_⟩, ?_⟩ | refine ⟨bsub_snoc rfl rfl (fun _ => rfl) ?_, ?_⟩ | refine ⟨bsub_one rfl rfl ?_, ?_⟩ | refine ⟨bsub_all rfl rfl (fun _ _ => rfl) (fun _ => rfl), ?_⟩ | refine ⟨bsub_updL rfl rfl ?_ (fun _ _ _ => rfl) (fun _ => rfl), ?_⟩ | refine ⟨.inl ⟨_, _, rfl, rfl, ?_⟩, ?_⟩ | exact ⟨.inr ⟨rfl, rfl⟩, trivial⟩ | refine ⟨.inr ⟨rfl, rfl⟩, ?_⟩ | (intro _ _) | exact vz1 | exact vz2 | fail))); done)))
        | trace_state
  · obtain rfl : i = l.length := by omega
    (repeat' (first | (refine ar_isq ?_; first | refine zmv ?_ | refine zas ?_ | (refine is_load ?_; first | refine zlp ?_ | refine zlr ?_) | (refine is_binOp ?_; first | refine zlss ?_ | refine zneq ?_ | refine zadd ?_ | refine zmul ?_) | (refine is_fieldAddr ?_; first | refine zfp ?_ | refine zfr ?_) | (refine is_indexAddr ?_; first | refine zil ?_ | refine zis ?_ | refine zit ?_ | refine zia ?_ | refine zir ?_ | (refine zxl ?_; intro _ _ _) | (refine zxs ?_; intro _ _ _)) | (refine is_call ?_; first | refine zll ?_ | refine zls ?_ | refine zln ?_ | refine zle ?_) | (refine is_pick ?_; first | refine zpt ?_ | refine zpf ?_) | refine znt ?_ | (refine ar_buildT ?_ (by exact ty rfl) (by exact rfl) (by exact sizes rfl) (by exact rfl) (by exact rfl) (by exact build rfl) (by exact dc rfl); intro _ hds; (try dsimp only [List.toList_toArray, cells_s, cells_emp, cells_agg, cells_list, cells_sl, cells_ptr, cells_ref, cells_fn, cells_vi, cells_vb, cells_vnil, constV, List.map_cons, List.map_nil, List.take_succ_cons, List.take_zero, List.drop_succ_cons, List.drop_zero, List.cons_append, List.nil_append, List.append_nil, LV_cells] at hds); (try dsimp only [cells_s, cells_emp, cells_agg, cells_list, cells_sl, cells_ptr, cells_ref, cells_fn, cells_vi, cells_vb, cells_vnil, constV, List.map_cons, List.map_nil, List.take_succ_cons, List.take_zero, List.drop_succ_cons, List.drop_zero, List.cons_append, List.nil_append, List.append_nil, LV_cells] at hds); subst hds)) | (refine zcl ?_) | (refine zcs ?_) | (refine zbx ?_) | (refine zal ?_) | (refine zb1 ?_) | (refine zb0 ?_) | (refine zapoo ?_) | (refine zapol ?_) | (refine zapno ?_) | (refine zapnl ?_) | (refine zapeo ?_) | (refine zapel ?_) | (refine zsvs ?_) | (refine zsva ?_) | (refine zses ?_) | (refine zsea ?_) | (refine zg ?_ ?_ <;> intro hg <;> first | exact absurd hg (by decide) | ((try replace hg := HG.out hg); (try dsimp only at hg); (try (have _h : True := hg; clear _h hg)); first | (exfalso; omega) | skip)) | (refine zgu ?_) | (refine ar_nil ?_) | (refine aw_seq ?_) | (refine aw_skip ?_) | (refine aw_block ?_) | (refine aw_exit ?_) | (refine aw_region ?_) | (refine zco ?_ ?_ <;> intro hg <;> first | exact absurd hg (by decide) | ((try replace hg := HG.out hg); (try dsimp only at hg); (try (have _h : True := hg; clear _h hg)); first | (exfalso; omega) | skip))))
    all_goals first
      | (exfalso; omega)
      | ((refine aw_mono_r (env' := [(2, LV 2 prE (wO l (tip + tip + wall) l.length)), (3, vi 0)]) (H' := []) ?_ ?_; (focus ((refine sub_to [] [0] rfl ?_ ?_ <;> (repeat' (first | exact trivial | refine ⟨⟨_, rfl, ?_⟩, ?_⟩ | refine ⟨bsub_snoc rfl rfl (fun _ => rfl) ?_, ?_⟩ | refine ⟨bsub_one rfl rfl ?_, ?_⟩ | refine ⟨bsub_all rfl rfl (fun _ _ => rfl) (fun _ => rfl), ?_⟩ | refine ⟨bsub_updL rfl rfl ?_ (fun _ _ _ => rfl) (fun _ => rfl), ?_⟩ | refine ⟨.inl ⟨_, _, rfl, rfl, ?_⟩, ?_⟩ | exact ⟨.inr ⟨rfl, rfl⟩, trivial⟩ | refine ⟨.inr ⟨rfl, rfl⟩, ?_⟩ | (intro _ _) | exact vz1 | exact vz2 | fail))); done))); (refine aw_ret ?_; (repeat (first | refine ret_then ?_ | refine ret_block ?_)); refine bq2 rfl rfl ⟨?_, rfl⟩); rfl)
      | trace_state
end Go.Proofs.Ytloaefllpokkaaa
namespace Go.Proofs.Ytloaefllpokkaaa
open Go.RowKit
section
variable (p : Pat) (j w least : Int)
abbrev GreatC (p : Pat) : Prop := PCalls Try.prog 7 [p.enc] (fun v => ∃ bx, v = vb bx ∧ (bx = false → p.ros.length ≤ 120 ∧ p.rub.length ≤ 120 ∧ p.shifts.length ≤ 20))
end
end Go.Proofs.Ytloaefllpokkaaa
