/- Parts of the proof: contracts of functions. No condition. -/
import Derived.Test.YtloaefllpokkaaaKTm5
set_option linter.unusedSimpArgs false
set_option linter.unusedVariables false
-- old go
namespace Go.Proofs.Ytloaefllpokkaaa.It
open Go.RowKit
def offEl (b : List Int) (k : Nat) : List Value := [.int .i64 ((k : Int) - (b.length / 2 : Nat)), .int .i64 (el b k)]
set_option maxHeartbeats 1000000 in
theorem offsets_iter (b : List Int) (hb : b.length ≤ 1000) : Iter Try.prog 86 [.ref (encInts b) 0] b.length (offEl b) := by
  refine iter_of_aw Try.func86 rfl (dc rfl) rfl fun C hN hel => ?_
  (repeat' (first | (refine ar_isq ?_; first | refine ar_q (qs_move rfl) (dc rfl) ?_ | refine ar_q (qs_assign rfl) (dc rfl) ?_ | (refine is_load ?_; first | refine ar_q (qs_load_ptr (ty rfl) rfl rfl (by first | exact Nat.one_pos | assumption | omega) rfl) (dc rfl) ?_ | refine ar_q (qs_load_ref (ty rfl) rfl rfl) (dc rfl) ?_) | (refine is_binOp ?_; first | refine ar_q (qs_lss rfl rfl) (dc rfl) ?_ | refine ar_q (qs_add rfl rfl (wrap64 (by omega))) (dc rfl) ?_ | refine ar_q (qs_sub rfl rfl (wrap64 (by omega))) (dc rfl) ?_ | refine ar_q (qs_quo rfl rfl (by omega) (quo64 (by omega) (by omega))) (dc rfl) ?_) | (refine is_indexAddr ?_; first | refine ar_q (qs_iaddr_list (ty rfl) rfl (ty rfl) rfl rfl rfl rfl (by omega)) (dc rfl) ?_ | refine ar_q (qs_iaddr_sl0 (ty rfl) rfl (ty rfl) rfl rfl rfl rfl (by omega)) (dc rfl) ?_ | refine ar_q (qs_iaddr_sl (ty rfl) rfl (ty rfl) rfl rfl rfl rfl (by omega)) (dc rfl) ?_ | refine ar_q (qs_iaddr_aptr (ty rfl) rfl (ty rfl) rfl rfl rfl (by omega)) (dc rfl) ?_ | refine ar_q (qs_iaddr_aref (ty rfl) rfl (ty rfl) rfl rfl rfl (by omega)) (dc rfl) ?_ | (refine ar_idx_list (ty rfl) rfl (ty rfl) rfl rfl rfl (dc rfl) (by omega) ?_; intro _ _ _) | (refine ar_idx_sl (ty rfl) rfl (ty rfl) rfl rfl rfl (dc rfl) (by omega) ?_; intro _ _ _)) | (refine is_call ?_; first | refine ar_q (qs_len_list (ty rfl) rfl rfl rfl) (dc rfl) ?_ | refine ar_q (qs_len_sl (ty rfl) rfl rfl rfl) (dc rfl) ?_ | refine ar_q (qs_len_nil (ty rfl) rfl rfl rfl) (dc rfl) ?_ | refine ar_q (qs_len_emp (ty rfl) rfl rfl rfl) (dc rfl) ?_) | refine ar_q (qs_not rfl) (dc rfl) ?_) | (refine ar_nil ?_) | (refine aw_seq ?_) | (refine aw_skip ?_) | (refine aw_block ?_) | (refine aw_exit ?_) | (refine aw_region ?_) | (refine aw_cond rfl ?_ ?_ <;> intro hg <;> first | exact absurd hg (by decide) | ((first | replace hg := hgT hg | replace hg := hgF hg | replace hg := hgNT hg | replace hg := hgNF hg | replace hg := hgBT hg | replace hg := hgBF hg | replace hg := hgV hg | replace hg := hgW hg | skip); (try dsimp only at hg); (try (have _h : True := hg; clear _h hg)); first | (exfalso; omega) | skip))))
  refine aw_for b.length (fun k => [(0, .s (.func (.yield C.l) #[] #[])), (1, .ref (encInts b) 0), (5, encInts b), (6, vi b.length), (7, vi k)]) (Nat.zero_le _) ⟨rfl, rfl, rfl, rfl, rfl, trivial⟩ ?_
  intro k hk
  by_cases hlt : k < b.length
  · (repeat' (first | (refine ar_isq ?_; first | refine ar_q (qs_move rfl) (dc rfl) ?_ | refine ar_q (qs_assign rfl) (dc rfl) ?_ | (refine is_load ?_; first | refine ar_q (qs_load_ptr (ty rfl) rfl rfl (by first | exact Nat.one_pos | assumption | omega) rfl) (dc rfl) ?_ | refine ar_q (qs_load_ref (ty rfl) rfl rfl) (dc rfl) ?_) | (refine is_binOp ?_; first | refine ar_q (qs_lss rfl rfl) (dc rfl) ?_ | refine ar_q (qs_add rfl rfl (wrap64 (by omega))) (dc rfl) ?_ | refine ar_q (qs_sub rfl rfl (wrap64 (by omega))) (dc rfl) ?_ | refine ar_q (qs_quo rfl rfl (by omega) (quo64 (by omega) (by omega))) (dc rfl) ?_) | (refine is_indexAddr ?_; first | refine ar_q (qs_iaddr_list (ty rfl) rfl (ty rfl) rfl rfl rfl rfl (by omega)) (dc rfl) ?_ | refine ar_q (qs_iaddr_sl0 (ty rfl) rfl (ty rfl) rfl rfl rfl rfl (by omega)) (dc rfl) ?_ | refine ar_q (qs_iaddr_sl (ty rfl) rfl (ty rfl) rfl rfl rfl rfl (by omega)) (dc rfl) ?_ | refine ar_q (qs_iaddr_aptr (ty rfl) rfl (ty rfl) rfl rfl rfl (by omega)) (dc rfl) ?_ | refine ar_q (qs_iaddr_aref (ty rfl) rfl (ty rfl) rfl rfl rfl (by omega)) (dc rfl) ?_ | (refine ar_idx_list (ty rfl) rfl (ty rfl) rfl rfl rfl (dc rfl) (by omega) ?_; intro _ _ _) | (refine ar_idx_sl (ty rfl) rfl (ty rfl) rfl rfl rfl (dc rfl) (by omega) ?_; intro _ _ _)) | (refine is_call ?_; first | refine ar_q (qs_len_list (ty rfl) rfl rfl rfl) (dc rfl) ?_ | refine ar_q (qs_len_sl (ty rfl) rfl rfl rfl) (dc rfl) ?_ | refine ar_q (qs_len_nil (ty rfl) rfl rfl rfl) (dc rfl) ?_ | refine ar_q (qs_len_emp (ty rfl) rfl rfl rfl) (dc rfl) ?_) | refine ar_q (qs_not rfl) (dc rfl) ?_) | (refine ar_yield (us := offEl b k) rfl rfl (by rw [hN]; exact hlt) (by rw [hel]) (dc rfl) ?_) | (refine ar_nil ?_) | (refine aw_seq ?_) | (refine aw_skip ?_) | (refine aw_block ?_) | (refine aw_exit ?_) | (refine aw_region ?_) | (refine aw_cond rfl ?_ ?_ <;> intro hg <;> first | exact absurd hg (by decide) | ((first | replace hg := hgT hg | replace hg := hgF hg | replace hg := hgNT hg | replace hg := hgNF hg | replace hg := hgBT hg | replace hg := hgBF hg | replace hg := hgV hg | replace hg := hgW hg | skip); (try dsimp only at hg); (try (have _h : True := hg; clear _h hg)); first | (exfalso; omega) | skip))))
    all_goals first
      | (exfalso; omega)
      | exact loop_next hlt rfl ⟨rfl, rfl, rfl, rfl, rfl, trivial⟩
      | trace_state
  · obtain rfl : k = b.length := by omega
    (repeat' (first | (refine ar_isq ?_; first | refine ar_q (qs_move rfl) (dc rfl) ?_ | refine ar_q (qs_assign rfl) (dc rfl) ?_ | (refine is_load ?_; first | refine ar_q (qs_load_ptr (ty rfl) rfl rfl (by first | exact Nat.one_pos | assumption | omega) rfl) (dc rfl) ?_ | refine ar_q (qs_load_ref (ty rfl) rfl rfl) (dc rfl) ?_) | (refine is_binOp ?_; first | refine ar_q (qs_lss rfl rfl) (dc rfl) ?_ | refine ar_q (qs_add rfl rfl (wrap64 (by omega))) (dc rfl) ?_ | refine ar_q (qs_sub rfl rfl (wrap64 (by omega))) (dc rfl) ?_ | refine ar_q (qs_quo rfl rfl (by omega) (quo64 (by omega) (by omega))) (dc rfl) ?_) | (refine is_indexAddr ?_; first | refine ar_q (qs_iaddr_list (ty rfl) rfl (ty rfl) rfl rfl rfl rfl (by omega)) (dc rfl) ?_ | refine ar_q (qs_iaddr_sl0 (ty rfl) rfl (ty rfl) rfl rfl rfl rfl (by omega)) (dc rfl) ?_ | refine ar_q (qs_iaddr_sl (ty rfl) rfl (ty rfl) rfl rfl rfl rfl (by omega)) (dc rfl) ?_ | refine ar_q (qs_iaddr_aptr (ty rfl) rfl (ty rfl) rfl rfl rfl (by omega)) (dc rfl) ?_ | refine ar_q (qs_iaddr_aref (ty rfl) rfl (ty rfl) rfl rfl rfl (by omega)) (dc rfl) ?_ | (refine ar_idx_list (ty rfl) rfl (ty rfl) rfl rfl rfl (dc rfl) (by omega) ?_; intro _ _ _) | (refine ar_idx_sl (ty rfl) rfl (ty rfl) rfl rfl rfl (dc rfl) (by omega) ?_; intro _ _ _)) | (refine is_call ?_; first | refine ar_q (qs_len_list (ty rfl) rfl rfl rfl) (dc rfl) ?_ | refine ar_q (qs_len_sl (ty rfl) rfl rfl rfl) (dc rfl) ?_ | refine ar_q (qs_len_nil (ty rfl) rfl rfl rfl) (dc rfl) ?_ | refine ar_q (qs_len_emp (ty rfl) rfl rfl rfl) (dc rfl) ?_) | refine ar_q (qs_not rfl) (dc rfl) ?_) | (refine ar_nil ?_) | (refine aw_seq ?_) | (refine aw_skip ?_) | (refine aw_block ?_) | (refine aw_exit ?_) | (refine aw_region ?_) | (refine aw_cond rfl ?_ ?_ <;> intro hg <;> first | exact absurd hg (by decide) | ((first | replace hg := hgT hg | replace hg := hgF hg | replace hg := hgNT hg | replace hg := hgNF hg | replace hg := hgBT hg | replace hg := hgBF hg | replace hg := hgV hg | replace hg := hgW hg | skip); (try dsimp only at hg); (try (have _h : True := hg; clear _h hg)); first | (exfalso; omega) | skip))))
    all_goals first
      | (exfalso; omega)
      | exact aw_ret (show b.length = b.length from rfl)
      | exact (rfl : b.length = b.length)
      | trace_state
end Go.Proofs.Ytloaefllpokkaaa.It
namespace Go.Proofs.Ytloaefllpokkaaa
open Go.RowKit
theorem lift_hi {f b : List Int} (hf : rosE f = 0) (hb : rubE b f.length = 0) {p k : Nat} (hk : k < b.length) : 0 ≤ el f ((p + f.length + k - b.length / 2) % f.length) ∧ el f ((p + f.length + k - b.length / 2) % f.length) ≤ 10000 ∧ 0 ≤ el b k ∧ el b k ≤ 10000 := by
  obtain ⟨f1, f2, f3⟩ := rosE_zero.1 hf
  obtain ⟨b1, b2, b3, b4, b5⟩ := rubE_zero.1 hb
  have h1 := odd_el f3 (Nat.mod_lt (p + f.length + k - b.length / 2) (show 0 < f.length by omega))
  have h2 := odd_el b4 hk
  omega
theorem lift_idx {n p k h : Nat} (hn : 0 < n) (hh : h ≤ n) : ((p : Int) + 1 * ((k : Int) - (h : Nat))) % (n : Int) = (((p + n + k - h) % n : Nat) : Int) := by
  rw [Int.natCast_emod, Int.natCast_sub (by omega), Int.one_mul]
  have : (((p + n + k : Nat) : Int) - (h : Nat)) = ((p : Int) + ((k : Int) - (h : Nat))) + (n : Int) := by omega
  rw [this, Int.add_emod_right]
def liftP (f b : List Int) (k : Nat) : List Int := (List.range k).map fun p => liftTo f b p b.length
theorem liftP_succ (f b : List Int) (k : Nat) : liftP f b (k + 1) = liftP f b k ++ [liftTo f b k b.length] := by simp [liftP, List.range_succ]
theorem liftP_len (f b : List Int) (k : Nat) : (liftP f b k).length = k := by simp [liftP]
set_option maxRecDepth 20000 in
set_option maxHeartbeats 2000000 in
theorem picked_p (f b : List Int) (hf : rosE f = 0) (hb : rubE b f.length = 0) : PCalls Try.prog 78 [encInts f, encInts b, vi 1, .fn (.func 79) [] [], .fn (.func 80) [] []] (· = encInts (liftF f b)) := by
  obtain ⟨f1, f2, f3⟩ := rosE_zero.1 hf
  obtain ⟨b1, b2, b3, b4, b5⟩ := rubE_zero.1 hb
  have hn : 0 < f.length := by omega
  have hs1 : ∀ p k, k = 0 → liftTo f b p (k + 1) = liftX f b p k := fun p k hk => by subst hk; rw [liftTo, if_pos rfl]
  have hs2 : ∀ p k, k ≠ 0 → liftTo f b p (k + 1) = max (liftTo f b p k) (liftX f b p k) := fun p k hk => by rw [liftTo, if_neg hk]
  refine pcalls_of_aw Try.func78 rfl (Nat.le_of_ble_eq_true rfl) ?_
  (repeat' (first | (refine ar_isq ?_; first | refine zmv ?_ | refine zas ?_ | (refine is_load ?_; first | refine zlp ?_ | refine zlr ?_) | (refine is_binOp ?_; first | refine zlss ?_ | refine zeql ?_ | refine zadd ?_ | refine zmul ?_ | refine zquo ?_) | (refine is_indexAddr ?_; first | refine zil ?_ | refine zis ?_ | refine zit ?_ | refine zia ?_ | refine zir ?_ | (refine zxl ?_; intro _ _ _) | (refine zxs ?_; intro _ _ _)) | (refine is_call ?_; first | refine zll ?_ | refine zls ?_ | refine zln ?_ | refine zle ?_) | refine zng ?_) | (refine zbx ?_) | (refine zal ?_) | (refine zb1 ?_) | (refine zb0 ?_) | (refine zapoo ?_) | (refine zapol ?_) | (refine zapno ?_) | (refine zapnl ?_) | (refine zapeo ?_) | (refine zapel ?_) | (refine zsvs ?_) | (refine zsva ?_) | (refine zses ?_) | (refine zsea ?_) | (refine ar_nil ?_) | (refine aw_seq ?_) | (refine aw_skip ?_) | (refine aw_block ?_) | (refine aw_exit ?_) | (refine aw_region ?_) | (refine aw_drawn (id := 9) [(0, 0), (1, 0), (2, 0), (3, 0), (4, 0), (5, 0), (6, 0), (7, 0), (8, 0), (12, 0), (9, 1), (10, 0), (11, 0), (13, 1), (14, 0)] mixed (by kernel_rfl) ?_) | (refine zco ?_ ?_ <;> intro hg <;> first | exact absurd hg (by decide) | ((try replace hg := HG.out hg); (try dsimp only at hg); (try (have _h : True := hg; clear _h hg)); first | (exfalso; omega) | skip))))
  refine aw_for f.length (fun _ => True) (fun k => [(5, .ptr 1 0 0 0), (6, .ptr 1 1 0 0), (7, .ptr 1 2 0 0), (8, .ptr 1 3 0 0), (9, .ptr 1 4 0 0), (11, .sl 1 5 0 (liftP f b k).length), (18, vi f.length), (19, vi k)]) (fun k => [.arr 1 1 (fun _ => encInts f), .arr 1 1 (fun _ => encInts b), .arr 1 1 (fun _ => vi 1), .arr 1 1 (fun _ => .fn (.func 79) [] []), .arr 1 1 (fun _ => .fn (.func 80) [] []), LB 1 vi (liftP f b k)]) trivial ?_ ?_
  · (refine sub_to [some 0, some 1, some 2, some 3, some 4, none] [] rfl ?_ ?_ <;> (repeat' (first | exact trivial | refine ⟨⟨_, rfl, ?_⟩, ?_⟩ | refine ⟨bsub_snoc rfl rfl (fun _ => rfl) ?_, ?_⟩ | refine ⟨bsub_one rfl rfl ?_, ?_⟩ | refine ⟨bsub_all rfl rfl (fun _ _ => rfl) (fun _ => rfl), ?_⟩ | refine ⟨bsub_updL rfl rfl ?_ (fun _ _ _ => rfl) (fun _ => rfl), ?_⟩ | refine ⟨.inl ⟨_, _, rfl, rfl, ?_⟩, ?_⟩ | exact ⟨.inr ⟨rfl, rfl⟩, trivial⟩ | refine ⟨.inr ⟨rfl, rfl⟩, ?_⟩ | (intro _ _) | exact vz1 | exact vz2 | fail)))
  intro p hp _
  have hpl := liftP_len f b p
  by_cases hlt : p < f.length
  · (repeat' (first | (refine ar_isq ?_; first | refine zmv ?_ | refine zas ?_ | (refine is_load ?_; first | refine zlp ?_ | refine zlr ?_) | (refine is_binOp ?_; first | refine zlss ?_ | refine zeql ?_ | refine zadd ?_ | refine zmul ?_ | refine zquo ?_) | (refine is_indexAddr ?_; first | refine zil ?_ | refine zis ?_ | refine zit ?_ | refine zia ?_ | refine zir ?_ | (refine zxl ?_; intro _ _ _) | (refine zxs ?_; intro _ _ _)) | (refine is_call ?_; first | refine zll ?_ | refine zls ?_ | refine zln ?_ | refine zle ?_) | refine zng ?_) | (refine ar_pcall (own := false) fn83 rfl rfl (.cons (.closed rfl) .nil) (offsets_p b) (by simp) (dc rfl) ?_; intro _ hv; subst hv) | (refine zbx ?_) | (refine zal ?_) | (refine zb1 ?_) | (refine zb0 ?_) | (refine zapoo ?_) | (refine zapol ?_) | (refine zapno ?_) | (refine zapnl ?_) | (refine zapeo ?_) | (refine zapel ?_) | (refine zsvs ?_) | (refine zsva ?_) | (refine zses ?_) | (refine zsea ?_) | (refine ar_nil ?_) | (refine aw_seq ?_) | (refine aw_skip ?_) | (refine aw_block ?_) | (refine aw_exit ?_) | (refine aw_region ?_) | (refine aw_drawn (id := 9) [(0, 0), (1, 0), (2, 0), (3, 0), (4, 0), (5, 0), (6, 0), (7, 0), (8, 0), (12, 0), (9, 1), (10, 0), (11, 0), (13, 1), (14, 0)] mixed (by kernel_rfl) ?_) | (refine zco ?_ ?_ <;> intro hg <;> first | exact absurd hg (by decide) | ((try replace hg := HG.out hg); (try dsimp only at hg); (try (have _h : True := hg; clear _h hg)); first | (exfalso; omega) | skip))))
    refine aw_range (fun k => [.arr 1 1 (fun _ => encInts f), .arr 1 1 (fun _ => encInts b), .arr 1 1 (fun _ => vi 1), .arr 1 1 (fun _ => .fn (.func 79) [] []), .arr 1 1 (fun _ => .fn (.func 80) [] []), LB 1 vi (liftP f b p), .arr 1 1 (fun _ => vi p), .arr 1 1 (fun _ => vi (liftTo f b p k))]) _ rfl rfl fn86 (It.offsets_iter b (by omega)) (fun _ _ => rfl) (by decide) (fun k _ => rfl) ?maps ?start ?round ?done
    case maps => intro k j ms; match j with | 0 | 1 | 2 | 3 | 4 | 5 | 6 | 7 => simp [LB] | j + 8 => simp
    case start => (refine sub_to [some 0, some 1, some 2, some 3, some 4, some 5, some 6, some 7] [] rfl ?_ ?_ <;> (repeat' (first | exact trivial | refine ⟨⟨_, rfl, ?_⟩, ?_⟩ | refine ⟨bsub_snoc rfl rfl (fun _ => rfl) ?_, ?_⟩ | refine ⟨bsub_one rfl rfl ?_, ?_⟩ | refine ⟨bsub_all rfl rfl (fun _ _ => rfl) (fun _ => rfl), ?_⟩ | refine ⟨bsub_updL rfl rfl ?_ (fun _ _ _ => rfl) (fun _ => rfl), ?_⟩ | refine ⟨.inl ⟨_, _, rfl, rfl, ?_⟩, ?_⟩ | exact ⟨.inr ⟨rfl, rfl⟩, trivial⟩ | refine ⟨.inr ⟨rfl, rfl⟩, ?_⟩ | (intro _ _) | exact vz1 | exact vz2 | fail)))
    case round =>
      intro k lp hk
      have hh := lift_hi hf hb (p := p) hk
      have hidx := lift_idx (p := p) (k := k) (h := b.length / 2) hn (by omega)
      have hm := Nat.mod_lt (p + f.length + k - b.length / 2) hn
      have har : PCalls Try.prog 84 [vi ((p : Int) + 1 * ((k : Int) - (b.length / 2 : Nat))), vi f.length] (· = vi (((p + f.length + k - b.length / 2) % f.length : Nat) : Int)) := by rw [← hidx]; exact raround_p _ _ (by omega) (by omega)
      (repeat' (first | (refine ar_isq ?_; first | refine zmv ?_ | refine zas ?_ | (refine is_load ?_; first | refine zlp ?_ | refine zlr ?_) | (refine is_binOp ?_; first | refine zlss ?_ | refine zeql ?_ | refine zadd ?_ | refine zmul ?_ | refine zquo ?_) | (refine is_indexAddr ?_; first | refine zil ?_ | refine zis ?_ | refine zit ?_ | refine zia ?_ | refine zir ?_ | refine zil (j := (p + f.length + k - b.length / 2) % f.length) ?_ | refine zis (j := (p + f.length + k - b.length / 2) % f.length) ?_ | refine zit (j := (p + f.length + k - b.length / 2) % f.length) ?_ | (refine zxl ?_; intro _ _ _) | (refine zxs ?_; intro _ _ _)) | (refine is_call ?_; first | refine zll ?_ | refine zls ?_ | refine zln ?_ | refine zle ?_) | refine zng ?_) | (refine ar_pcall (own := false) fn84 rfl rfl (.cons (.closed rfl) (.cons (.closed rfl) .nil)) (har) (by simp) (dc rfl) ?_; intro _ hv; subst hv) | (refine ar_pcall (own := false) fn79 rfl rfl (.cons (.closed rfl) (.cons (.closed rfl) .nil)) (rdrop_p _ _ ⟨hh.1, hh.2.1⟩ hh.2.2) (by simp) (dc rfl) ?_; intro _ hv; subst hv) | (refine ar_pcall (own := false) fn80 rfl rfl (.cons (.closed rfl) (.cons (.closed rfl) .nil)) (rmax_p _ _) (by simp) (dc rfl) ?_; intro _ hv; subst hv) | (refine zbx ?_) | (refine zal ?_) | (refine zb1 ?_) | (refine zb0 ?_) | (refine zapoo ?_) | (refine zapol ?_) | (refine zapno ?_) | (refine zapnl ?_) | (refine zapeo ?_) | (refine zapel ?_) | (refine zsvs ?_) | (refine zsva ?_) | (refine zses ?_) | (refine zsea ?_) | (refine ar_nil ?_) | (refine aw_seq ?_) | (refine aw_skip ?_) | (refine aw_block ?_) | (refine aw_exit ?_) | (refine aw_region ?_) | (refine aw_drawn (id := 9) [(0, 0), (1, 0), (2, 0), (3, 0), (4, 0), (5, 0), (6, 0), (7, 0), (8, 0), (12, 0), (9, 1), (10, 0), (11, 0), (13, 1), (14, 0)] mixed (by kernel_rfl) ?_) | (refine zco ?_ ?_ <;> intro hg <;> first | exact absurd hg (by decide) | ((try replace hg := HG.out hg); (try dsimp only at hg); (try (have _h : True := hg; clear _h hg)); first | (exfalso; omega) | skip))))
      all_goals first
        | (exfalso; omega)
        | (refine (show SubOf _ _ _ _ _ _ from ?_); (refine sub_to [some 0, some 1, some 2, some 3, some 4, some 5, some 6, some 7] [] rfl ?_ ?_ <;> (repeat' (first | exact trivial | refine ⟨⟨_, rfl, ?_⟩, ?_⟩ | refine ⟨bsub_snoc rfl rfl (fun _ => rfl) ?_, ?_⟩ | refine ⟨bsub_one rfl rfl ?_, ?_⟩ | refine ⟨bsub_all rfl rfl (fun _ _ => rfl) (fun _ => rfl), ?_⟩ | refine ⟨bsub_updL rfl rfl ?_ (fun _ _ _ => rfl) (fun _ => rfl), ?_⟩ | refine ⟨.inl ⟨_, _, rfl, rfl, ?_⟩, ?_⟩ | exact ⟨.inr ⟨rfl, rfl⟩, trivial⟩ | refine ⟨.inr ⟨rfl, rfl⟩, ?_⟩ | (intro _ _) | exact vz1 | (first | exact siEq (hs1 p k (by omega)).symm | exact siEq (hs2 p k (by omega)).symm) | exact vz2 | fail))))
        | trace_state
    case done =>
      refine (show AW Try.prog none 0 _ _ _ _ _ from ?_)
      (repeat' (first | (refine ar_isq ?_; first | refine zmv ?_ | refine zas ?_ | (refine is_load ?_; first | refine zlp ?_ | refine zlr ?_) | (refine is_binOp ?_; first | refine zlss ?_ | refine zeql ?_ | refine zadd ?_ | refine zmul ?_ | refine zquo ?_) | (refine is_indexAddr ?_; first | refine zil ?_ | refine zis ?_ | refine zit ?_ | refine zia ?_ | refine zir ?_ | (refine zxl ?_; intro _ _ _) | (refine zxs ?_; intro _ _ _)) | (refine is_call ?_; first | refine zll ?_ | refine zls ?_ | refine zln ?_ | refine zle ?_) | refine zng ?_) | (refine zbx ?_) | (refine zal ?_) | (refine zb1 ?_) | (refine zb0 ?_) | (refine zapoo ?_) | (refine zapol ?_) | (refine zapno ?_) | (refine zapnl ?_) | (refine zapeo ?_) | (refine zapel ?_) | (refine zsvs ?_) | (refine zsva ?_) | (refine zses ?_) | (refine zsea ?_) | (refine ar_nil ?_) | (refine aw_seq ?_) | (refine aw_skip ?_) | (refine aw_block ?_) | (refine aw_exit ?_) | (refine aw_region ?_) | (refine aw_drawn (id := 9) [(0, 0), (1, 0), (2, 0), (3, 0), (4, 0), (5, 0), (6, 0), (7, 0), (8, 0), (12, 0), (9, 1), (10, 0), (11, 0), (13, 1), (14, 0)] mixed (by kernel_rfl) ?_) | (refine zco ?_ ?_ <;> intro hg <;> first | exact absurd hg (by decide) | ((try replace hg := HG.out hg); (try dsimp only at hg); (try (have _h : True := hg; clear _h hg)); first | (exfalso; omega) | skip))))
      all_goals first
        | (exfalso; omega)
        | (rw [liftP_succ]; ((first | refine loop_next (by omega) ?_ ?_ | refine (show _ ∧ _ ∧ SubOf _ _ _ _ _ _ from And.intro (by omega) (And.intro ?_ ?_))); (focus ((trivial); done)); (focus ((refine sub_to [some 0, some 1, some 2, some 3, some 4, some 9] [] rfl ?_ ?_ <;> (repeat' (first | exact trivial | refine ⟨⟨_, rfl, ?_⟩, ?_⟩ | refine ⟨bsub_snoc rfl rfl (fun _ => rfl) ?_, ?_⟩ | refine ⟨bsub_one rfl rfl ?_, ?_⟩ | refine ⟨bsub_all rfl rfl (fun _ _ => rfl) (fun _ => rfl), ?_⟩ | refine ⟨bsub_updL rfl rfl ?_ (fun _ _ _ => rfl) (fun _ => rfl), ?_⟩ | refine ⟨.inl ⟨_, _, rfl, rfl, ?_⟩, ?_⟩ | exact ⟨.inr ⟨rfl, rfl⟩, trivial⟩ | refine ⟨.inr ⟨rfl, rfl⟩, ?_⟩ | (intro _ _) | exact vz1 | exact vz2 | fail))); done))))
        | trace_state
  · obtain rfl : p = f.length := by omega
    (repeat' (first | (refine ar_isq ?_; first | refine zmv ?_ | refine zas ?_ | (refine is_load ?_; first | refine zlp ?_ | refine zlr ?_) | (refine is_binOp ?_; first | refine zlss ?_ | refine zeql ?_ | refine zadd ?_ | refine zmul ?_ | refine zquo ?_) | (refine is_indexAddr ?_; first | refine zil ?_ | refine zis ?_ | refine zit ?_ | refine zia ?_ | refine zir ?_ | (refine zxl ?_; intro _ _ _) | (refine zxs ?_; intro _ _ _)) | (refine is_call ?_; first | refine zll ?_ | refine zls ?_ | refine zln ?_ | refine zle ?_) | refine zng ?_) | (refine zbx ?_) | (refine zal ?_) | (refine zb1 ?_) | (refine zb0 ?_) | (refine zapoo ?_) | (refine zapol ?_) | (refine zapno ?_) | (refine zapnl ?_) | (refine zapeo ?_) | (refine zapel ?_) | (refine zsvs ?_) | (refine zsva ?_) | (refine zses ?_) | (refine zsea ?_) | (refine ar_nil ?_) | (refine aw_seq ?_) | (refine aw_skip ?_) | (refine aw_block ?_) | (refine aw_exit ?_) | (refine aw_region ?_) | (refine aw_drawn (id := 9) [(0, 0), (1, 0), (2, 0), (3, 0), (4, 0), (5, 0), (6, 0), (7, 0), (8, 0), (12, 0), (9, 1), (10, 0), (11, 0), (13, 1), (14, 0)] mixed (by kernel_rfl) ?_) | (refine zco ?_ ?_ <;> intro hg <;> first | exact absurd hg (by decide) | ((try replace hg := HG.out hg); (try dsimp only at hg); (try (have _h : True := hg; clear _h hg)); first | (exfalso; omega) | skip))))
    all_goals first
      | (exfalso; omega)
      | ((refine aw_mono_r (env' := [(10, encInts (liftP f b f.length))]) (H' := []) ?_ ?_; (focus ((refine sub_to [] [5] rfl ?_ ?_ <;> (repeat' (first | exact trivial | refine ⟨⟨_, rfl, ?_⟩, ?_⟩ | refine ⟨bsub_snoc rfl rfl (fun _ => rfl) ?_, ?_⟩ | refine ⟨bsub_one rfl rfl ?_, ?_⟩ | refine ⟨bsub_all rfl rfl (fun _ _ => rfl) (fun _ => rfl), ?_⟩ | refine ⟨bsub_updL rfl rfl ?_ (fun _ _ _ => rfl) (fun _ => rfl), ?_⟩ | refine ⟨.inl ⟨_, _, rfl, rfl, ?_⟩, ?_⟩ | exact ⟨.inr ⟨rfl, rfl⟩, trivial⟩ | refine ⟨.inr ⟨rfl, rfl⟩, ?_⟩ | (intro _ _) | exact vz1 | exact vz2 | fail))); done))); (refine aw_ret ?_; (repeat (first | refine ret_then ?_ | refine ret_block ?_)); refine bq1 rfl ⟨?_, rfl⟩); rfl)
      | trace_state
set_option maxHeartbeats 1000000 in
theorem lifted_p (f b : List Int) (hf : rosE f = 0) (hb : rubE b f.length = 0) : PCalls Try.prog 68 [encInts f, encInts b] (· = encInts (liftF f b)) := by
  refine pcalls_of_aw Try.func68 rfl (Nat.le_of_ble_eq_true rfl) ?_
  (repeat' (first | (refine ar_isq ?_; first | refine zmv ?_ | refine zas ?_) | (refine ar_pcall (own := false) fn78 rfl rfl (.cons (.closed rfl) (.cons (.closed rfl) (.cons (.closed rfl) (.cons (.closed rfl) (.cons (.closed rfl) .nil))))) (picked_p f b hf hb) (by simp) (dc rfl) ?_; intro _ hv; subst hv) | (refine ar_nil ?_) | (refine aw_seq ?_) | (refine aw_skip ?_) | (refine aw_block ?_) | (refine aw_exit ?_) | (refine aw_region ?_) | (refine zco ?_ ?_ <;> intro hg <;> first | exact absurd hg (by decide) | ((try replace hg := HG.out hg); (try dsimp only at hg); (try (have _h : True := hg; clear _h hg)); first | (exfalso; omega) | skip))))
  (refine aw_ret ?_; (repeat (first | refine ret_then ?_ | refine ret_block ?_)); refine bq1 rfl ⟨?_, rfl⟩)
  rfl
def liftV (_ : Unit) : V := .fn (.func 68) [] []
def liftE (f b : List Int) : Int := if rosE f = 0 then rubE b f.length else rosE f
theorem liftE_zero {f b : List Int} (h : liftE f b = 0) : rosE f = 0 ∧ rubE b f.length = 0 := by
  unfold liftE at h
  split at h
  · rename_i h0; exact ⟨h0, h⟩
  · rename_i h0; exact (h0 h).elim
set_option maxHeartbeats 1000000 in
theorem made_p (f b : List Int) : PCalls Try.prog 67 [encInts f, encInts b, LV 1 liftV [()]] (· = .tup [encInts (if liftE f b = 0 then liftF f b else []), vi (liftE f b)]) := by
  have hbo := rBoth_p f b
  by_cases h : liftE f b = 0
  · obtain ⟨hf, hb⟩ := liftE_zero h
    have hbo : PCalls Try.prog 77 [encInts f, encInts b] (· = vi 0) := by
      have := hbo; rw [if_pos hf, hb] at this; exact this
    rw [if_pos h, h]
    refine pcalls_of_aw Try.func67 rfl (Nat.le_of_ble_eq_true rfl) ?_
    (repeat' (first | (refine ar_isq ?_; first | refine zmv ?_ | refine zas ?_ | (refine is_load ?_; first | refine zlp ?_ | refine zlr ?_) | (refine is_binOp ?_; first | refine zlss ?_ | refine zneq ?_ | refine zadd ?_) | (refine is_indexAddr ?_; first | refine zil ?_ | refine zis ?_ | refine zit ?_ | refine zia ?_ | refine zir ?_ | (refine zxl ?_; intro _ _ _) | (refine zxs ?_; intro _ _ _)) | (refine is_call ?_; first | refine zll ?_ | refine zls ?_ | refine zln ?_ | refine zle ?_)) | (refine ar_pcall (own := false) fn77 rfl rfl (.cons (.closed rfl) (.cons (.closed rfl) .nil)) (hbo) (by simp) (dc rfl) ?_; intro _ hv; subst hv) | (refine ar_nil ?_) | (refine aw_seq ?_) | (refine aw_skip ?_) | (refine aw_block ?_) | (refine aw_exit ?_) | (refine aw_region ?_) | (refine zco ?_ ?_ <;> intro hg <;> first | exact absurd hg (by decide) | ((try replace hg := HG.out hg); (try dsimp only at hg); (try (have _h : True := hg; clear _h hg)); first | (exfalso; omega) | skip))))
    refine aw_for 1 (fun _ => True) (fun k => [(0, encInts (if k = 0 then f else liftF f b)), (1, encInts b), (17, LV 1 liftV [()]), (18, vi 1), (19, vi k)]) (fun _ => []) trivial ?_ ?_
    · (refine sub_to [] [] rfl ?_ ?_ <;> (repeat' (first | exact trivial | refine ⟨⟨_, rfl, ?_⟩, ?_⟩ | refine ⟨bsub_snoc rfl rfl (fun _ => rfl) ?_, ?_⟩ | refine ⟨bsub_one rfl rfl ?_, ?_⟩ | refine ⟨bsub_all rfl rfl (fun _ _ => rfl) (fun _ => rfl), ?_⟩ | refine ⟨bsub_updL rfl rfl ?_ (fun _ _ _ => rfl) (fun _ => rfl), ?_⟩ | refine ⟨.inl ⟨_, _, rfl, rfl, ?_⟩, ?_⟩ | exact ⟨.inr ⟨rfl, rfl⟩, trivial⟩ | refine ⟨.inr ⟨rfl, rfl⟩, ?_⟩ | (intro _ _) | exact vz1 | exact vz2 | fail)))
    intro k hk _
    by_cases hlt : k < 1
    · obtain rfl : k = 0 := by omega
      (repeat' (first | (refine ar_isq ?_; first | refine zmv ?_ | refine zas ?_ | (refine is_load ?_; first | refine zlp ?_ | refine zlr ?_) | (refine is_binOp ?_; first | refine zlss ?_ | refine zneq ?_ | refine zadd ?_) | (refine is_indexAddr ?_; first | refine zil ?_ | refine zis ?_ | refine zit ?_ | refine zia ?_ | refine zir ?_ | (refine zxl ?_; intro _ _ _) | (refine zxs ?_; intro _ _ _)) | (refine is_call ?_; first | refine zll ?_ | refine zls ?_ | refine zln ?_ | refine zle ?_)) | (refine ar_pcall (own := false) fn68 rfl rfl (.cons (.closed rfl) (.cons (.closed rfl) .nil)) (lifted_p f b hf hb) (by simp) (dc rfl) ?_; intro _ hv; subst hv) | (refine ar_nil ?_) | (refine aw_seq ?_) | (refine aw_skip ?_) | (refine aw_block ?_) | (refine aw_exit ?_) | (refine aw_region ?_) | (refine zco ?_ ?_ <;> intro hg <;> first | exact absurd hg (by decide) | ((try replace hg := HG.out hg); (try dsimp only at hg); (try (have _h : True := hg; clear _h hg)); first | (exfalso; omega) | skip))))
      all_goals first
        | (exfalso; omega)
        | ((first | refine loop_next (by omega) ?_ ?_ | refine (show _ ∧ _ ∧ SubOf _ _ _ _ _ _ from And.intro (by omega) (And.intro ?_ ?_))); (focus ((trivial); done)); (focus ((refine sub_to [] [] rfl ?_ ?_ <;> (repeat' (first | exact trivial | refine ⟨⟨_, rfl, ?_⟩, ?_⟩ | refine ⟨bsub_snoc rfl rfl (fun _ => rfl) ?_, ?_⟩ | refine ⟨bsub_one rfl rfl ?_, ?_⟩ | refine ⟨bsub_all rfl rfl (fun _ _ => rfl) (fun _ => rfl), ?_⟩ | refine ⟨bsub_updL rfl rfl ?_ (fun _ _ _ => rfl) (fun _ => rfl), ?_⟩ | refine ⟨.inl ⟨_, _, rfl, rfl, ?_⟩, ?_⟩ | exact ⟨.inr ⟨rfl, rfl⟩, trivial⟩ | refine ⟨.inr ⟨rfl, rfl⟩, ?_⟩ | (intro _ _) | exact vz1 | exact vz2 | fail))); done)))
        | trace_state
    · obtain rfl : k = 1 := by omega
      (repeat' (first | (refine ar_isq ?_; first | refine zmv ?_ | refine zas ?_ | (refine is_load ?_; first | refine zlp ?_ | refine zlr ?_) | (refine is_binOp ?_; first | refine zlss ?_ | refine zneq ?_ | refine zadd ?_) | (refine is_indexAddr ?_; first | refine zil ?_ | refine zis ?_ | refine zit ?_ | refine zia ?_ | refine zir ?_ | (refine zxl ?_; intro _ _ _) | (refine zxs ?_; intro _ _ _)) | (refine is_call ?_; first | refine zll ?_ | refine zls ?_ | refine zln ?_ | refine zle ?_)) | (refine ar_nil ?_) | (refine aw_seq ?_) | (refine aw_skip ?_) | (refine aw_block ?_) | (refine aw_exit ?_) | (refine aw_region ?_) | (refine zco ?_ ?_ <;> intro hg <;> first | exact absurd hg (by decide) | ((try replace hg := HG.out hg); (try dsimp only at hg); (try (have _h : True := hg; clear _h hg)); first | (exfalso; omega) | skip))))
      all_goals first
        | (exfalso; omega)
        | ((refine aw_ret ?_; (repeat (first | refine ret_then ?_ | refine ret_block ?_)); refine bq2 rfl rfl ⟨?_, rfl⟩); rfl)
        | trace_state
  · have hbo : PCalls Try.prog 77 [encInts f, encInts b] (· = vi (liftE f b)) := hbo
    rw [if_neg h]
    refine pcalls_of_aw Try.func67 rfl (Nat.le_of_ble_eq_true rfl) ?_
    (repeat' (first | (refine ar_isq ?_; first | refine zmv ?_ | refine zas ?_ | (refine is_load ?_; first | refine zlp ?_ | refine zlr ?_) | (refine is_binOp ?_; first | refine zlss ?_ | refine zneq ?_ | refine zadd ?_) | (refine is_indexAddr ?_; first | refine zil ?_ | refine zis ?_ | refine zit ?_ | refine zia ?_ | refine zir ?_ | (refine zxl ?_; intro _ _ _) | (refine zxs ?_; intro _ _ _)) | (refine is_call ?_; first | refine zll ?_ | refine zls ?_ | refine zln ?_ | refine zle ?_)) | (refine ar_pcall (own := false) fn77 rfl rfl (.cons (.closed rfl) (.cons (.closed rfl) .nil)) (hbo) (by simp) (dc rfl) ?_; intro _ hv; subst hv) | (refine ar_nil ?_) | (refine aw_seq ?_) | (refine aw_skip ?_) | (refine aw_block ?_) | (refine aw_exit ?_) | (refine aw_region ?_) | (refine zco ?_ ?_ <;> intro hg <;> first | exact absurd hg (by decide) | ((try replace hg := HG.out hg); (try dsimp only at hg); (try (have _h : True := hg; clear _h hg)); first | (exfalso; omega) | skip))))
    all_goals first
      | (exfalso; omega)
      | ((refine aw_mono_r (env' := [(6, encInts []), (7, vi (liftE f b))]) (H' := []) ?_ ?_; (focus ((refine sub_to [] [] rfl ?_ ?_ <;> (repeat' (first | exact trivial | refine ⟨⟨_, rfl, ?_⟩, ?_⟩ | refine ⟨bsub_snoc rfl rfl (fun _ => rfl) ?_, ?_⟩ | refine ⟨bsub_one rfl rfl ?_, ?_⟩ | refine ⟨bsub_all rfl rfl (fun _ _ => rfl) (fun _ => rfl), ?_⟩ | refine ⟨bsub_updL rfl rfl ?_ (fun _ _ _ => rfl) (fun _ => rfl), ?_⟩ | refine ⟨.inl ⟨_, _, rfl, rfl, ?_⟩, ?_⟩ | exact ⟨.inr ⟨rfl, rfl⟩, trivial⟩ | refine ⟨.inr ⟨rfl, rfl⟩, ?_⟩ | (intro _ _) | exact vz1 | exact vz2 | fail))); done))); (refine aw_ret ?_; (repeat (first | refine ret_then ?_ | refine ret_block ?_)); refine bq2 rfl rfl ⟨?_, rfl⟩); rfl)
      | trace_state
set_option maxHeartbeats 1000000 in
theorem rLift_p (f b : List Int) : PCalls Try.prog 47 [encInts f, encInts b] (· = .tup [encInts (if liftE f b = 0 then liftF f b else []), vi (liftE f b)]) := by
  refine pcalls_of_aw Try.func47 rfl (Nat.le_of_ble_eq_true rfl) ?_
  (repeat' (first | (refine ar_isq ?_; first | refine zmv ?_ | refine zas ?_ | refine zex ?_) | (refine zb1 ?_) | (refine zb0 ?_) | (refine ar_nil ?_) | (refine aw_seq ?_) | (refine aw_skip ?_) | (refine aw_block ?_) | (refine aw_exit ?_) | (refine aw_region ?_) | (refine zco ?_ ?_ <;> intro hg <;> first | exact absurd hg (by decide) | ((try replace hg := HG.out hg); (try dsimp only at hg); (try (have _h : True := hg; clear _h hg)); first | (exfalso; omega) | skip))))
  (refine ar_subk_l (sub_frzL (t := 8) liftV ([()]) rfl rfl rfl rfl (fun _ _ => rfl) (fun _ => rfl)) ?_)
  refine ar_pcall (own := false) fn67 rfl rfl (.cons (.closed rfl) (.cons (.closed rfl) (.cons (.closed rfl) .nil))) (made_p f b) (by simp) (dc rfl) ?_; intro _ hv; subst hv
  (repeat' (first | (refine ar_isq ?_; first | refine zmv ?_ | refine zas ?_ | refine zex ?_) | (refine zb1 ?_) | (refine zb0 ?_) | (refine ar_nil ?_) | (refine aw_seq ?_) | (refine aw_skip ?_) | (refine aw_block ?_) | (refine aw_exit ?_) | (refine aw_region ?_) | (refine zco ?_ ?_ <;> intro hg <;> first | exact absurd hg (by decide) | ((try replace hg := HG.out hg); (try dsimp only at hg); (try (have _h : True := hg; clear _h hg)); first | (exfalso; omega) | skip))))
  all_goals first
    | ((refine aw_ret ?_; (repeat (first | refine ret_then ?_ | refine ret_block ?_)); refine bq2 rfl rfl ⟨?_, rfl⟩); rfl)
    | trace_state
end Go.Proofs.Ytloaefllpokkaaa
namespace Go.Proofs.Ytloaefllpokkaaa
open Go.RowKit
theorem symL_succ (f : List Int) (k : Nat) : symL f (k + 1) = symL f k ++ (if symB f k = true then [k] else []) := by
  unfold symL
  rw [List.range_succ, List.filter_append, List.filter_cons, List.filter_nil]
theorem symL_len (f : List Int) : ∀ k, (symL f k).length ≤ k
  | 0 => Nat.le_refl _
  | k + 1 => by
    have := symL_len f k
    rw [symL_succ, List.length_append]
    split <;> simp <;> omega
def symZ (f : List Int) (k : Nat) : List Int := (symL f k).map fun (s : Nat) => (s : Int)
theorem symZ_len (f : List Int) (k : Nat) : (symZ f k).length = (symL f k).length := by simp [symZ]
theorem symZ_yes {f : List Int} {k : Nat} (h : symB f k = true) : symZ f (k + 1) = symZ f k ++ [(k : Int)] := by unfold symZ; rw [symL_succ, if_pos h, List.map_append]; rfl
theorem symZ_no {f : List Int} {k : Nat} (h : symB f k = false) : symZ f (k + 1) = symZ f k := by unfold symZ; rw [symL_succ, if_neg (by rw [h]; decide), List.append_nil]
def eqTo (a b : List Int) (k : Nat) : Prop := ∀ j, j < k → el a j = el b j
theorem vsub_listL {H : Heap} {σ : List (Option Nat)} {fr : Nat → Prop} {n : Nat} {f : Nat → V} {l : List Int} (hn : n = l.length) (h : ∀ k, k < n → vi (el l k) = f k) : VSub H σ fr (.list 1 n f) (encInts l) := by
  subst hn
  exact .ext h
set_option maxHeartbeats 1000000 in
theorem equal_p (a b : List Int) : PCalls Try.prog 81 [encInts a, encInts b] (· = vb (decide (a = b))) := by
  (refine pcalls_know (fun I us h => rel_len (rel_arg h (j := 0) rfl)) fun hlen0 => ?_)
  refine pcalls_of_aw Try.func81 rfl (Nat.le_of_ble_eq_true rfl) ?_
  (repeat' (first | (refine ar_isq ?_; first | refine zmv ?_ | refine zas ?_ | (refine is_load ?_; first | refine zlp ?_ | refine zlr ?_) | (refine is_binOp ?_; first | refine zlss ?_ | refine zneq ?_ | refine zadd ?_) | (refine is_indexAddr ?_; first | refine zil ?_ | refine zis ?_ | refine zit ?_ | refine zia ?_ | refine zir ?_ | (refine zxl ?_; intro _ _ _) | (refine zxs ?_; intro _ _ _)) | (refine is_call ?_; first | refine zll ?_ | refine zls ?_ | refine zln ?_ | refine zle ?_)) | (refine ar_nil ?_) | (refine aw_seq ?_) | (refine aw_skip ?_) | (refine aw_block ?_) | (refine aw_exit ?_) | (refine aw_region ?_) | (refine aw_drawn (id := 6) [(0, 0), (1, 0), (2, 0), (3, 0), (4, 0), (5, 0), (6, 0), (7, 0), (8, 0)] mixed (by kernel_rfl) ?_) | (refine zco ?_ ?_ <;> intro hg <;> first | exact absurd hg (by decide) | ((try replace hg := HG.out hg); (try dsimp only at hg); (try (have _h : True := hg; clear _h hg)); first | (exfalso; omega) | skip))))
  · (refine aw_ret ?_; (repeat (first | refine ret_then ?_ | refine ret_block ?_)); refine bq1 rfl ⟨?_, rfl⟩)
    rw [decide_eq_false (p := a = b) (by rintro rfl; omega)]
    rfl
  refine aw_for a.length (fun k => eqTo a b k) (fun k => [(0, encInts a), (1, encInts b), (12, vi a.length), (13, vi k)]) (fun _ => []) (fun j hj => by omega) ?_ ?_
  · (refine sub_to [] [] rfl ?_ ?_ <;> (repeat' (first | exact trivial | refine ⟨⟨_, rfl, ?_⟩, ?_⟩ | refine ⟨bsub_snoc rfl rfl (fun _ => rfl) ?_, ?_⟩ | refine ⟨bsub_one rfl rfl ?_, ?_⟩ | refine ⟨bsub_all rfl rfl (fun _ _ => rfl) (fun _ => rfl), ?_⟩ | refine ⟨bsub_updL rfl rfl ?_ (fun _ _ _ => rfl) (fun _ => rfl), ?_⟩ | refine ⟨.inl ⟨_, _, rfl, rfl, ?_⟩, ?_⟩ | exact ⟨.inr ⟨rfl, rfl⟩, trivial⟩ | refine ⟨.inr ⟨rfl, rfl⟩, ?_⟩ | (intro _ _) | exact vz1 | exact vz2 | fail)))
  intro k hk hJ
  by_cases hlt : k < a.length
  · (repeat' (first | (refine ar_isq ?_; first | refine zmv ?_ | refine zas ?_ | (refine is_load ?_; first | refine zlp ?_ | refine zlr ?_) | (refine is_binOp ?_; first | refine zlss ?_ | refine zneq ?_ | refine zadd ?_) | (refine is_indexAddr ?_; first | refine zil ?_ | refine zis ?_ | refine zit ?_ | refine zia ?_ | refine zir ?_ | refine zil (j := k) ?_ | refine zis (j := k) ?_ | refine zit (j := k) ?_ | (refine zxl ?_; intro _ _ _) | (refine zxs ?_; intro _ _ _)) | (refine is_call ?_; first | refine zll ?_ | refine zls ?_ | refine zln ?_ | refine zle ?_)) | (refine ar_nil ?_) | (refine aw_seq ?_) | (refine aw_skip ?_) | (refine aw_block ?_) | (refine aw_exit ?_) | (refine aw_region ?_) | (refine aw_drawn (id := 6) [(0, 0), (1, 0), (2, 0), (3, 0), (4, 0), (5, 0), (6, 0), (7, 0), (8, 0)] mixed (by kernel_rfl) ?_) | (refine zco ?_ ?_ <;> intro hg <;> first | exact absurd hg (by decide) | ((try replace hg := HG.out hg); (try dsimp only at hg); (try (have _h : True := hg; clear _h hg)); first | (exfalso; omega) | skip))))
    all_goals first
      | (exfalso; omega)
      | ((first | refine loop_next (by omega) ?_ ?_ | refine (show _ ∧ _ ∧ SubOf _ _ _ _ _ _ from And.intro (by omega) (And.intro ?_ ?_))); (focus (((exact all_step hJ (by omega))); done)); (focus ((refine sub_to [] [] rfl ?_ ?_ <;> (repeat' (first | exact trivial | refine ⟨⟨_, rfl, ?_⟩, ?_⟩ | refine ⟨bsub_snoc rfl rfl (fun _ => rfl) ?_, ?_⟩ | refine ⟨bsub_one rfl rfl ?_, ?_⟩ | refine ⟨bsub_all rfl rfl (fun _ _ => rfl) (fun _ => rfl), ?_⟩ | refine ⟨bsub_updL rfl rfl ?_ (fun _ _ _ => rfl) (fun _ => rfl), ?_⟩ | refine ⟨.inl ⟨_, _, rfl, rfl, ?_⟩, ?_⟩ | exact ⟨.inr ⟨rfl, rfl⟩, trivial⟩ | refine ⟨.inr ⟨rfl, rfl⟩, ?_⟩ | (intro _ _) | exact vz1 | exact vz2 | fail))); done)))
      | ((refine aw_ret ?_; (repeat (first | refine ret_then ?_ | refine ret_block ?_)); refine bq1 rfl ⟨?_, rfl⟩); rw [decide_eq_false (p := a = b) (by rintro rfl; omega)]; rfl)
      | trace_state
  · (repeat' (first | (refine ar_isq ?_; first | refine zmv ?_ | refine zas ?_ | (refine is_load ?_; first | refine zlp ?_ | refine zlr ?_) | (refine is_binOp ?_; first | refine zlss ?_ | refine zneq ?_ | refine zadd ?_) | (refine is_indexAddr ?_; first | refine zil ?_ | refine zis ?_ | refine zit ?_ | refine zia ?_ | refine zir ?_ | (refine zxl ?_; intro _ _ _) | (refine zxs ?_; intro _ _ _)) | (refine is_call ?_; first | refine zll ?_ | refine zls ?_ | refine zln ?_ | refine zle ?_)) | (refine ar_nil ?_) | (refine aw_seq ?_) | (refine aw_skip ?_) | (refine aw_block ?_) | (refine aw_exit ?_) | (refine aw_region ?_) | (refine aw_drawn (id := 6) [(0, 0), (1, 0), (2, 0), (3, 0), (4, 0), (5, 0), (6, 0), (7, 0), (8, 0)] mixed (by kernel_rfl) ?_) | (refine zco ?_ ?_ <;> intro hg <;> first | exact absurd hg (by decide) | ((try replace hg := HG.out hg); (try dsimp only at hg); (try (have _h : True := hg; clear _h hg)); first | (exfalso; omega) | skip))))
    all_goals first
      | (exfalso; omega)
      | ((refine aw_ret ?_; (repeat (first | refine ret_then ?_ | refine ret_block ?_)); refine bq1 rfl ⟨?_, rfl⟩); rw [decide_eq_true (p := a = b) (ext_el (by omega) fun i hi => hJ i (by omega))]; rfl)
      | trace_state
set_option maxHeartbeats 1000000 in
theorem turned_p (f : List Int) (hf : f.length ≤ 100) (s : Nat) (hs : s ≤ f.length) : PCalls Try.prog 82 [encInts f, vi s] (· = encInts (turnF f s)) := by
  have hc := concatW_p [f.drop (f.length - s), f.take (f.length - s)] (by simp) (fun l hl => by
    simp only [List.mem_cons, List.mem_nil_iff, or_false] at hl
    rcases hl with rfl | rfl
    · rw [List.length_drop]; omega
    · rw [List.length_take]; omega)
  refine pcalls_of_aw Try.func82 rfl (Nat.le_of_ble_eq_true rfl) ?_
  (repeat' (first | (refine ar_isq ?_; first | refine zmv ?_ | refine zas ?_ | refine zsub ?_ | (refine is_call ?_; first | refine zll ?_ | refine zls ?_ | refine zln ?_ | refine zle ?_)) | (refine aw_drawn (id := 1) [(0, 0), (1, 0), (2, 0), (3, 0), (4, 0), (5, 0), (6, 0), (7, 0), (8, 0), (9, 0), (10, 0), (11, 0), (12, 2), (13, 2), (14, 0)] mixed (by kernel_rfl) ?_) | (refine zcl (a := f.length - s) (b := f.length) ?_) | (refine zcs (a := f.length - s) (b := f.length) ?_) | (refine zcl (a := 0) (b := f.length - s) ?_) | (refine zcs (a := 0) (b := f.length - s) ?_) | (refine zb1 ?_) | (refine zb0 ?_) | (refine ar_nil ?_) | (refine aw_seq ?_) | (refine aw_skip ?_) | (refine aw_block ?_) | (refine aw_exit ?_) | (refine aw_region ?_) | (refine aw_drawn (id := 1) [(0, 0), (1, 0), (2, 0), (3, 0), (4, 0), (5, 0), (6, 0), (7, 0), (8, 0), (9, 0), (10, 0), (11, 0), (12, 1), (13, 1), (14, 0)] mixed (by kernel_rfl) ?_) | (refine aw_drawn (id := 1) [(0, 0), (1, 0), (2, 0), (3, 0), (4, 0), (5, 0), (6, 0), (7, 0), (8, 0), (9, 0), (10, 0), (11, 0), (12, 1), (13, 2), (14, 0)] mixed (by kernel_rfl) ?_) | (refine zco ?_ ?_ <;> intro hg <;> first | exact absurd hg (by decide) | ((try replace hg := HG.out hg); (try dsimp only at hg); (try (have _h : True := hg; clear _h hg)); first | (exfalso; omega) | skip))))
  (refine ar_sub_l (env' := [(10, encInts (f.drop (f.length - s))), (16, encInts (f.take (f.length - s)))]) (H' := []) ?_ ?_; (focus ((refine sub_to [] [] rfl ?_ ?_ <;> (repeat' (first | exact trivial | refine ⟨⟨_, rfl, ?_⟩, ?_⟩ | refine ⟨bsub_snoc rfl rfl (fun _ => rfl) ?_, ?_⟩ | refine ⟨bsub_one rfl rfl ?_, ?_⟩ | refine ⟨bsub_all rfl rfl (fun _ _ => rfl) (fun _ => rfl), ?_⟩ | refine ⟨bsub_updL rfl rfl ?_ (fun _ _ _ => rfl) (fun _ => rfl), ?_⟩ | refine ⟨.inl ⟨_, _, rfl, rfl, ?_⟩, ?_⟩ | exact ⟨.inr ⟨rfl, rfl⟩, trivial⟩ | refine ⟨.inr ⟨rfl, rfl⟩, ?_⟩ | (intro _ _) | exact vz1 | (first | exact vsub_listL (by rw [List.length_drop]) (fun k hk => by rw [el_drop]) | exact vsub_listL (by rw [List.length_take]; omega) (fun k hk => by rw [el_take (by omega), Nat.zero_add])) | exact vz2 | fail))); done)))
  refine ar_buildLE encInts ([f.drop (f.length - s), f.take (f.length - s)]) (by exact ty rfl) (by exact rfl) (by exact ty rfl) (by exact rfl) (by exact rfl) (by exact Nat.succ_pos _) (by exact rfl) (by exact dc rfl) (by exact rfl) (by exact fun _ => ⟨rfl, rfl⟩) (by exact dc rfl) ?_
  (repeat' (first | (refine ar_isq ?_; first | refine zmv ?_ | refine zas ?_ | refine zsub ?_ | (refine is_call ?_; first | refine zll ?_ | refine zls ?_ | refine zln ?_ | refine zle ?_)) | (((refine ar_subk_l (sub_frzL (t := 17) encInts ([f.drop (f.length - s), f.take (f.length - s)]) rfl rfl rfl rfl (fun _ _ => rfl) (fun _ => rfl)) ?_); refine ar_pcall (own := false) fn85 rfl rfl (.cons (.closed rfl) .nil) (hc) (by simp) (dc rfl) ?_; intro _ hv; subst hv)) | (refine zcl ?_) | (refine zcs ?_) | (refine zb1 ?_) | (refine zb0 ?_) | (refine ar_nil ?_) | (refine aw_seq ?_) | (refine aw_skip ?_) | (refine aw_block ?_) | (refine aw_exit ?_) | (refine aw_region ?_) | (refine aw_drawn (id := 1) [(0, 0), (1, 0), (2, 0), (3, 0), (4, 0), (5, 0), (6, 0), (7, 0), (8, 0), (9, 0), (10, 0), (11, 0), (12, 1), (13, 1), (14, 0)] mixed (by kernel_rfl) ?_) | (refine aw_drawn (id := 1) [(0, 0), (1, 0), (2, 0), (3, 0), (4, 0), (5, 0), (6, 0), (7, 0), (8, 0), (9, 0), (10, 0), (11, 0), (12, 1), (13, 2), (14, 0)] mixed (by kernel_rfl) ?_) | (refine zco ?_ ?_ <;> intro hg <;> first | exact absurd hg (by decide) | ((try replace hg := HG.out hg); (try dsimp only at hg); (try (have _h : True := hg; clear _h hg)); first | (exfalso; omega) | skip))))
  all_goals first
    | (exfalso; omega)
    | ((refine aw_ret ?_; (repeat (first | refine ret_then ?_ | refine ret_block ?_)); refine bq1 rfl ⟨?_, rfl⟩); unfold turnF; simp)
    | trace_state
set_option maxHeartbeats 1000000 in
theorem matches_p (f : List Int) (hf : f.length ≤ 100) : PCalls Try.prog 69 [encInts f, encInts f] (· = encInts (symZ f f.length)) := by
  refine pcalls_of_aw Try.func69 rfl (Nat.le_of_ble_eq_true rfl) ?_
  (repeat' (first | (refine ar_isq ?_; first | refine zmv ?_ | refine zas ?_ | (refine is_binOp ?_; first | refine zlss ?_ | refine zadd ?_) | (refine is_call ?_; first | refine zll ?_ | refine zls ?_ | refine zln ?_ | refine zle ?_)) | (refine zb1 ?_) | (refine zb0 ?_) | (refine zapoo ?_) | (refine zapol ?_) | (refine zapno ?_) | (refine zapnl ?_) | (refine zapeo ?_) | (refine zapel ?_) | (refine ar_nil ?_) | (refine aw_seq ?_) | (refine aw_skip ?_) | (refine aw_block ?_) | (refine aw_exit ?_) | (refine aw_region ?_) | (refine zco ?_ ?_ <;> intro hg <;> first | exact absurd hg (by decide) | ((try replace hg := HG.out hg); (try dsimp only at hg); (try (have _h : True := hg; clear _h hg)); first | (exfalso; omega) | skip))))
  refine aw_for f.length (fun _ => True) (fun k => [(0, encInts f), (1, encInts f), (5, .sl 1 0 0 (symZ f k).length), (8, vi f.length), (9, vi k)]) (fun k => [LB 1 vi (symZ f k)]) trivial ?_ ?_
  · (refine sub_to [none] [] rfl ?_ ?_ <;> (repeat' (first | exact trivial | refine ⟨⟨_, rfl, ?_⟩, ?_⟩ | refine ⟨bsub_snoc rfl rfl (fun _ => rfl) ?_, ?_⟩ | refine ⟨bsub_one rfl rfl ?_, ?_⟩ | refine ⟨bsub_all rfl rfl (fun _ _ => rfl) (fun _ => rfl), ?_⟩ | refine ⟨bsub_updL rfl rfl ?_ (fun _ _ _ => rfl) (fun _ => rfl), ?_⟩ | refine ⟨.inl ⟨_, _, rfl, rfl, ?_⟩, ?_⟩ | exact ⟨.inr ⟨rfl, rfl⟩, trivial⟩ | refine ⟨.inr ⟨rfl, rfl⟩, ?_⟩ | (intro _ _) | exact vz1 | exact vz2 | fail)))
  intro k hk _
  have hl := symL_len f k
  have hz := symZ_len f k
  by_cases hlt : k < f.length
  · have hsy : PCalls Try.prog 81 [encInts (turnF f k), encInts f] (· = vb (symB f k)) := equal_p _ _
    (repeat' (first | (refine ar_isq ?_; first | refine zmv ?_ | refine zas ?_ | (refine is_binOp ?_; first | refine zlss ?_ | refine zadd ?_) | (refine is_call ?_; first | refine zll ?_ | refine zls ?_ | refine zln ?_ | refine zle ?_)) | (refine ar_pcall (own := false) fn82 rfl rfl (.cons (.closed rfl) (.cons (.closed rfl) .nil)) (turned_p f hf k (by omega)) (by simp) (dc rfl) ?_; intro _ hv; subst hv) | (refine ar_pcall (own := false) fn81 rfl rfl (.cons (.closed rfl) (.cons (.closed rfl) .nil)) (hsy) (by simp) (dc rfl) ?_; intro _ hv; subst hv) | (refine zb1 ?_) | (refine zb0 ?_) | (refine zapoo ?_) | (refine zapol ?_) | (refine zapno ?_) | (refine zapnl ?_) | (refine zapeo ?_) | (refine zapel ?_) | (refine ar_nil ?_) | (refine aw_seq ?_) | (refine aw_skip ?_) | (refine aw_block ?_) | (refine aw_exit ?_) | (refine aw_region ?_) | (refine zco ?_ ?_ <;> intro hg <;> first | exact absurd hg (by decide) | ((try replace hg := HG.out hg); (try dsimp only at hg); (try (have _h : True := hg; clear _h hg)); first | (exfalso; omega) | skip))))
    all_goals first
      | (exfalso; omega)
      | (rw [symZ_yes (by assumption)]; ((first | refine loop_next (by omega) ?_ ?_ | refine (show _ ∧ _ ∧ SubOf _ _ _ _ _ _ from And.intro (by omega) (And.intro ?_ ?_))); (focus ((trivial); done)); (focus ((refine sub_to [some 2] [] rfl ?_ ?_ <;> (repeat' (first | exact trivial | refine ⟨⟨_, rfl, ?_⟩, ?_⟩ | refine ⟨bsub_snoc rfl rfl (fun _ => rfl) ?_, ?_⟩ | refine ⟨bsub_one rfl rfl ?_, ?_⟩ | refine ⟨bsub_all rfl rfl (fun _ _ => rfl) (fun _ => rfl), ?_⟩ | refine ⟨bsub_updL rfl rfl ?_ (fun _ _ _ => rfl) (fun _ => rfl), ?_⟩ | refine ⟨.inl ⟨_, _, rfl, rfl, ?_⟩, ?_⟩ | exact ⟨.inr ⟨rfl, rfl⟩, trivial⟩ | refine ⟨.inr ⟨rfl, rfl⟩, ?_⟩ | (intro _ _) | exact vz1 | exact vz2 | fail))); done))))
      | (rw [symZ_no (by simp_all)]; ((first | refine loop_next (by omega) ?_ ?_ | refine (show _ ∧ _ ∧ SubOf _ _ _ _ _ _ from And.intro (by omega) (And.intro ?_ ?_))); (focus ((trivial); done)); (focus ((refine sub_to [some 0] [] rfl ?_ ?_ <;> (repeat' (first | exact trivial | refine ⟨⟨_, rfl, ?_⟩, ?_⟩ | refine ⟨bsub_snoc rfl rfl (fun _ => rfl) ?_, ?_⟩ | refine ⟨bsub_one rfl rfl ?_, ?_⟩ | refine ⟨bsub_all rfl rfl (fun _ _ => rfl) (fun _ => rfl), ?_⟩ | refine ⟨bsub_updL rfl rfl ?_ (fun _ _ _ => rfl) (fun _ => rfl), ?_⟩ | refine ⟨.inl ⟨_, _, rfl, rfl, ?_⟩, ?_⟩ | exact ⟨.inr ⟨rfl, rfl⟩, trivial⟩ | refine ⟨.inr ⟨rfl, rfl⟩, ?_⟩ | (intro _ _) | exact vz1 | exact vz2 | fail))); done))))
      | trace_state
  · obtain rfl : k = f.length := by omega
    (repeat' (first | (refine ar_isq ?_; first | refine zmv ?_ | refine zas ?_ | (refine is_binOp ?_; first | refine zlss ?_ | refine zadd ?_) | (refine is_call ?_; first | refine zll ?_ | refine zls ?_ | refine zln ?_ | refine zle ?_)) | (refine zb1 ?_) | (refine zb0 ?_) | (refine zapoo ?_) | (refine zapol ?_) | (refine zapno ?_) | (refine zapnl ?_) | (refine zapeo ?_) | (refine zapel ?_) | (refine ar_nil ?_) | (refine aw_seq ?_) | (refine aw_skip ?_) | (refine aw_block ?_) | (refine aw_exit ?_) | (refine aw_region ?_) | (refine zco ?_ ?_ <;> intro hg <;> first | exact absurd hg (by decide) | ((try replace hg := HG.out hg); (try dsimp only at hg); (try (have _h : True := hg; clear _h hg)); first | (exfalso; omega) | skip))))
    all_goals first
      | (exfalso; omega)
      | ((refine aw_mono_r (env' := [(4, encInts (symZ f f.length))]) (H' := []) ?_ ?_; (focus ((refine sub_to [] [0] rfl ?_ ?_ <;> (repeat' (first | exact trivial | refine ⟨⟨_, rfl, ?_⟩, ?_⟩ | refine ⟨bsub_snoc rfl rfl (fun _ => rfl) ?_, ?_⟩ | refine ⟨bsub_one rfl rfl ?_, ?_⟩ | refine ⟨bsub_all rfl rfl (fun _ _ => rfl) (fun _ => rfl), ?_⟩ | refine ⟨bsub_updL rfl rfl ?_ (fun _ _ _ => rfl) (fun _ => rfl), ?_⟩ | refine ⟨.inl ⟨_, _, rfl, rfl, ?_⟩, ?_⟩ | exact ⟨.inr ⟨rfl, rfl⟩, trivial⟩ | refine ⟨.inr ⟨rfl, rfl⟩, ?_⟩ | (intro _ _) | exact vz1 | exact vz2 | fail))); done))); (refine aw_ret ?_; (repeat (first | refine ret_then ?_ | refine ret_block ?_)); refine bq1 rfl ⟨?_, rfl⟩); rfl)
      | trace_state
set_option maxHeartbeats 1000000 in
theorem rPeriod_p (f : List Int) (hf : rosE f = 0) : PCalls Try.prog 48 [encInts f] (· = .tup [vi (perF f), vi 0]) := by
  obtain ⟨f1, f2, f3⟩ := rosE_zero.1 hf
  have hp := per_spec (f := f) (by omega)
  have hz := symZ_len f f.length
  have hc := rCheck_p f
  rw [hf] at hc
  have hq : (f.length : Int) / ((symZ f f.length).length : Int) = (perF f : Int) := by rw [hz]; rfl
  refine pcalls_of_aw Try.func48 rfl (Nat.le_of_ble_eq_true rfl) ?_
  (repeat' (first | (refine ar_isq ?_; first | refine zmv ?_ | refine zas ?_ | (refine is_binOp ?_; first | refine zneq ?_ | refine zquo ?_) | (refine is_call ?_; first | refine zll ?_ | refine zls ?_ | refine zln ?_ | refine zle ?_)) | (refine ar_pcall (own := false) fn41 rfl rfl (.cons (.closed rfl) .nil) (hc) (by simp) (dc rfl) ?_; intro _ hv; subst hv) | (refine ar_pcall (own := false) fn69 rfl rfl (.cons (.closed rfl) (.cons (.closed rfl) .nil)) (matches_p f (by omega)) (by simp) (dc rfl) ?_; intro _ hv; subst hv) | (refine ar_nil ?_) | (refine aw_seq ?_) | (refine aw_skip ?_) | (refine aw_block ?_) | (refine aw_exit ?_) | (refine aw_region ?_) | (refine zco ?_ ?_ <;> intro hg <;> first | exact absurd hg (by decide) | ((try replace hg := HG.out hg); (try dsimp only at hg); (try (have _h : True := hg; clear _h hg)); first | (exfalso; omega) | skip))))
  all_goals first
    | (exfalso; omega)
    | ((refine aw_ret ?_; (repeat (first | refine ret_then ?_ | refine ret_block ?_)); refine bq2 rfl rfl ⟨?_, rfl⟩); rw [← hq]; rfl)
    | trace_state
end Go.Proofs.Ytloaefllpokkaaa
namespace Go.Proofs.Ytloaefllpokkaaa
open Go.RowKit
set_option maxHeartbeats 1000000 in
theorem pwithin_p (n lo hi : Int) : PCalls Try.prog 27 [vi n, vi lo, vi hi] (· = vb (withinB n lo hi)) := by
  refine pcalls_of_aw Try.func27 rfl (Nat.le_of_ble_eq_true rfl) ?_
  (repeat' (first | (refine ar_isq ?_; first | refine zmv ?_ | refine zas ?_ | (refine is_binOp ?_; first | refine zleq ?_ | refine zgeq ?_) | (refine is_pick ?_; first | refine zpt ?_ | refine zpf ?_)) | (refine zg ?_ ?_ <;> intro hg <;> first | exact absurd hg (by decide) | ((try replace hg := HG.out hg); (try dsimp only at hg); (try rw [withinB_iff] at hg); (try rw [withinB_no] at hg); (try (have _h : True := hg; clear _h hg)); first | (exfalso; omega) | skip)) | (refine zgu ?_) | (refine ar_nil ?_) | (refine aw_seq ?_) | (refine aw_skip ?_) | (refine aw_block ?_) | (refine aw_exit ?_) | (refine aw_region ?_) | (refine zco ?_ ?_ <;> intro hg <;> first | exact absurd hg (by decide) | ((try replace hg := HG.out hg); (try dsimp only at hg); (try rw [withinB_iff] at hg); (try rw [withinB_no] at hg); (try (have _h : True := hg; clear _h hg)); first | (exfalso; omega) | skip))))
  all_goals (refine aw_ret ?_; (repeat (first | refine ret_then ?_ | refine ret_block ?_)); refine bq1 rfl ⟨?_, rfl⟩)
  all_goals (simp only [vb, constV, withinB]; congr 2; simp; try omega)
set_option maxHeartbeats 1000000 in
theorem pmodulo_p (p n : Int) (hn : 0 < n) (hb : n ≤ 1000) : PCalls Try.prog 28 [vi p, vi n] (· = vi (p % n)) := by
  have ht := tmod_mod p hn
  have hlo := tmod_gt p hn
  have hhi := Int.tmod_lt_of_pos p hn
  refine pcalls_of_aw Try.func28 rfl (Nat.le_of_ble_eq_true rfl) ?_
  (repeat' (first | (refine ar_isq ?_; first | refine zmv ?_ | refine zas ?_ | (refine is_binOp ?_; first | refine zlss ?_ | refine zadd ?_ | refine zrem ?_)) | (refine ar_q (qs_rem rfl rfl (by omega) rfl) (dc rfl) ?_) | (refine ar_nil ?_) | (refine aw_seq ?_) | (refine aw_skip ?_) | (refine aw_block ?_) | (refine aw_exit ?_) | (refine aw_region ?_) | (refine zco ?_ ?_ <;> intro hg <;> first | exact absurd hg (by decide) | ((try replace hg := HG.out hg); (try dsimp only at hg); (try (have _h : True := hg; clear _h hg)); first | (exfalso; omega) | skip))))
  all_goals first
    | (exfalso; omega)
    | ((refine aw_ret ?_; (repeat (first | refine ret_then ?_ | refine ret_block ?_)); refine bq1 rfl ⟨?_, rfl⟩); rw [ht, if_pos (by omega)]; rfl)
    | ((refine aw_ret ?_; (repeat (first | refine ret_then ?_ | refine ret_block ?_)); refine bq1 rfl ⟨?_, rfl⟩); rw [ht, if_neg (by omega)]; rfl)
    | trace_state
set_option maxHeartbeats 1000000 in
theorem pshift_p (p : Pat) (hn : p.ros.length ≤ 1000) (s : Int) : PCalls Try.prog 43 [vi s, .ref p.enc 0] (· = vb (shiftB p.ros.length s)) := by
  refine pcalls_of_aw Try.func43 rfl (Nat.le_of_ble_eq_true rfl) ?_
  (repeat' (first | (refine ar_isq ?_; first | refine zmv ?_ | refine zas ?_ | (refine is_load ?_; first | refine zlp ?_ | refine zlr ?_) | refine zsub ?_ | (refine is_fieldAddr ?_; first | refine zfp ?_ | refine zfr ?_) | (refine is_call ?_; first | refine zll ?_ | refine zls ?_ | refine zln ?_ | refine zle ?_) | refine znt ?_) | (refine ar_pcall (own := false) fn27 rfl rfl (.cons (.closed rfl) (.cons (.closed rfl) (.cons (.closed rfl) .nil))) (pwithin_p _ _ _) (by simp) (dc rfl) ?_; intro _ hv; subst hv) | (refine ar_nil ?_) | (refine aw_seq ?_) | (refine aw_skip ?_) | (refine aw_block ?_) | (refine aw_exit ?_) | (refine aw_region ?_) | (refine zco ?_ ?_ <;> intro hg <;> first | exact absurd hg (by decide) | ((try replace hg := HG.out hg); (try dsimp only at hg); (try (have _h : True := hg; clear _h hg)); first | (exfalso; omega) | skip))))
  (refine aw_ret ?_; (repeat (first | refine ret_then ?_ | refine ret_block ?_)); refine bq1 rfl ⟨?_, rfl⟩)
  rfl
def Pat.fit (p : Pat) : Prop := withinB p.start 0 10000 = true ∧ withinB p.throw 1 16 = true ∧ withinB p.adv (-1000) 1000 = true ∧ withinB p.shifts.length 1 12 = true ∧ p.shifts.any (shiftB p.ros.length) = false
theorem pat_ros {p : Pat} (h : rosE p.ros ≠ 0) : p.err = 30 := by unfold Pat.err; rw [if_pos h]
theorem pat_rub {p : Pat} (h0 : rosE p.ros = 0) (h : rubE p.rub p.ros.length ≠ 0) : p.err = 31 := by unfold Pat.err; rw [if_neg (fun q => q h0), if_pos h]
theorem pat_fit {p : Pat} (h0 : rosE p.ros = 0) (h1 : rubE p.rub p.ros.length = 0) (h : p.fit) : p.err = 0 := by unfold Pat.err; rw [if_neg (fun q => q h0), if_neg (fun q => q h1)]; exact if_pos h
theorem pat_not {p : Pat} (h0 : rosE p.ros = 0) (h1 : rubE p.rub p.ros.length = 0) (h : ¬ p.fit) : p.err = 40 := by unfold Pat.err; rw [if_neg (fun q => q h0), if_neg (fun q => q h1)]; exact if_neg h
set_option maxRecDepth 20000 in
set_option maxHeartbeats 4000000 in
theorem pCheck_p (p : Pat) : PCalls Try.prog 22 [p.enc] (· = vi p.err) := by
  have e1 := rosE_or p.ros
  have e2 := rubE_or p.rub p.ros.length
  refine pcalls_of_aw Try.func22 rfl (Nat.le_of_ble_eq_true rfl) ?_
  ((repeat refine aw_seq ?_); (first | (refine aw_region ?_)); (repeat' (first | (refine ar_isq ?_; first | refine zmv ?_ | refine zas ?_ | (refine is_load ?_; first | refine zlp ?_ | refine zlr ?_) | refine zneq ?_ | (refine is_fieldAddr ?_; first | refine zfp ?_ | refine zfr ?_) | (refine is_call ?_; first | refine zll ?_ | refine zls ?_ | refine zln ?_ | refine zle ?_) | (refine is_pick ?_; first | refine zpt ?_ | refine zpf ?_) | refine znt ?_ | refine zmf ?_) | (refine zbx ?_) | (refine zg ?_ ?_ <;> intro hg <;> first | exact absurd hg (by decide) | ((try replace hg := HG.out hg); (try dsimp only at hg); (try rw [withinB_no] at hg); (try (have _h : True := hg; clear _h hg)); first | (exfalso; omega) | skip)) | (refine zgu ?_) | (refine ar_nil ?_))))
  (refine aw_mono_r (env' := [(1, .ref p.enc 0), (2, vi 0)]) (H' := []) ?_ ?_; (focus ((refine sub_to [] [0] rfl ?_ ?_ <;> (repeat' (first | exact trivial | refine ⟨⟨_, rfl, ?_⟩, ?_⟩ | refine ⟨bsub_snoc rfl rfl (fun _ => rfl) ?_, ?_⟩ | refine ⟨bsub_one rfl rfl ?_, ?_⟩ | refine ⟨bsub_all rfl rfl (fun _ _ => rfl) (fun _ => rfl), ?_⟩ | refine ⟨bsub_updL rfl rfl ?_ (fun _ _ _ => rfl) (fun _ => rfl), ?_⟩ | refine ⟨.inl ⟨_, _, rfl, rfl, ?_⟩, ?_⟩ | exact ⟨.inr ⟨rfl, rfl⟩, trivial⟩ | refine ⟨.inr ⟨rfl, rfl⟩, ?_⟩ | (intro _ _) | exact vz1 | (exact frzPtr' (by simp) rfl (by omega) rfl rfl) | exact vz2 | fail))); done)))
  by_cases h0 : rosE p.ros = 0
  case neg =>
    (repeat' (first | (refine ar_isq ?_; first | refine zmv ?_ | refine zas ?_ | (refine is_load ?_; first | refine zlp ?_ | refine zlr ?_) | refine zneq ?_ | (refine is_fieldAddr ?_; first | refine zfp ?_ | refine zfr ?_) | (refine is_call ?_; first | refine zll ?_ | refine zls ?_ | refine zln ?_ | refine zle ?_) | (refine is_pick ?_; first | refine zpt ?_ | refine zpf ?_) | refine znt ?_ | refine zmf ?_) | (refine ar_pcall (own := false) fn41 rfl rfl (.cons (.closed rfl) .nil) (rCheck_p p.ros) (by simp) (dc rfl) ?_; intro _ hv; subst hv) | (refine zbx ?_) | (refine zg ?_ ?_ <;> intro hg <;> first | exact absurd hg (by decide) | ((try replace hg := HG.out hg); (try dsimp only at hg); (try rw [withinB_no] at hg); (try (have _h : True := hg; clear _h hg)); first | (exfalso; omega) | skip)) | (refine zgu ?_) | (refine ar_nil ?_) | (refine aw_seq ?_) | (refine aw_skip ?_) | (refine aw_block ?_) | (refine aw_exit ?_) | (refine aw_region ?_) | (refine zco ?_ ?_ <;> intro hg <;> first | exact absurd hg (by decide) | ((try replace hg := HG.out hg); (try dsimp only at hg); (try rw [withinB_no] at hg); (try (have _h : True := hg; clear _h hg)); first | (exfalso; omega) | skip))))
    all_goals first
      | (exfalso; omega)
      | ((refine aw_ret ?_; (repeat (first | refine ret_then ?_ | refine ret_block ?_)); refine bq1 rfl ⟨?_, rfl⟩); rw [pat_ros h0]; exact congrArg vi (by omega))
      | trace_state
  by_cases h1 : rubE p.rub p.ros.length = 0
  case neg =>
    (repeat' (first | (refine ar_isq ?_; first | refine zmv ?_ | refine zas ?_ | (refine is_load ?_; first | refine zlp ?_ | refine zlr ?_) | refine zneq ?_ | (refine is_fieldAddr ?_; first | refine zfp ?_ | refine zfr ?_) | (refine is_call ?_; first | refine zll ?_ | refine zls ?_ | refine zln ?_ | refine zle ?_) | (refine is_pick ?_; first | refine zpt ?_ | refine zpf ?_) | refine znt ?_ | refine zmf ?_) | (refine ar_pcall (own := false) fn41 rfl rfl (.cons (.closed rfl) .nil) (rCheck_p p.ros) (by simp) (dc rfl) ?_; intro _ hv; subst hv) | (refine ar_pcall (own := false) fn42 rfl rfl (.cons (.closed rfl) (.cons (.closed rfl) .nil)) (rRubber_p p.rub p.ros.length) (by simp) (dc rfl) ?_; intro _ hv; subst hv) | (refine zbx ?_) | (refine zg ?_ ?_ <;> intro hg <;> first | exact absurd hg (by decide) | ((try replace hg := HG.out hg); (try dsimp only at hg); (try rw [withinB_no] at hg); (try (have _h : True := hg; clear _h hg)); first | (exfalso; omega) | skip)) | (refine zgu ?_) | (refine ar_nil ?_) | (refine aw_seq ?_) | (refine aw_skip ?_) | (refine aw_block ?_) | (refine aw_exit ?_) | (refine aw_region ?_) | (refine zco ?_ ?_ <;> intro hg <;> first | exact absurd hg (by decide) | ((try replace hg := HG.out hg); (try dsimp only at hg); (try rw [withinB_no] at hg); (try (have _h : True := hg; clear _h hg)); first | (exfalso; omega) | skip))))
    all_goals first
      | (exfalso; omega)
      | ((refine aw_ret ?_; (repeat (first | refine ret_then ?_ | refine ret_block ?_)); refine bq1 rfl ⟨?_, rfl⟩); rw [pat_rub h0 h1]; exact congrArg vi (by omega))
      | trace_state
  have hr := rosE_zero.1 h0
  have hany : PCalls Try.prog 44 [encInts p.shifts, .fn (.func 43) [] [.ref p.enc 0]] (· = vb (p.shifts.any (shiftB p.ros.length))) := containsInts_p p.shifts fn43 rfl _ (fun x _ => pshift_p p (by omega) x)
  (repeat' (first | (refine ar_isq ?_; first | refine zmv ?_ | refine zas ?_ | (refine is_load ?_; first | refine zlp ?_ | refine zlr ?_) | refine zneq ?_ | (refine is_fieldAddr ?_; first | refine zfp ?_ | refine zfr ?_) | (refine is_call ?_; first | refine zll ?_ | refine zls ?_ | refine zln ?_ | refine zle ?_) | (refine is_pick ?_; first | refine zpt ?_ | refine zpf ?_) | refine znt ?_ | refine zmf ?_) | (refine ar_pcall (own := false) fn41 rfl rfl (.cons (.closed rfl) .nil) (rCheck_p p.ros) (by simp) (dc rfl) ?_; intro _ hv; subst hv) | (refine ar_pcall (own := false) fn42 rfl rfl (.cons (.closed rfl) (.cons (.closed rfl) .nil)) (rRubber_p p.rub p.ros.length) (by simp) (dc rfl) ?_; intro _ hv; subst hv) | (refine ar_pcall (own := false) fn27 rfl rfl (.cons (.closed rfl) (.cons (.closed rfl) (.cons (.closed rfl) .nil))) (pwithin_p _ _ _) (by simp) (dc rfl) ?_; intro _ hv; subst hv) | (refine ar_pcall (own := false) fn44 rfl rfl (.cons (.closed rfl) (.cons (.closed rfl) .nil)) (hany) (by simp) (dc rfl) ?_; intro _ hv; subst hv) | (refine zbx ?_) | (refine zg ?_ ?_ <;> intro hg <;> first | exact absurd hg (by decide) | ((try replace hg := HG.out hg); (try dsimp only at hg); (try rw [withinB_no] at hg); (try (have _h : True := hg; clear _h hg)); first | (exfalso; omega) | skip)) | (refine zgu ?_) | (refine ar_nil ?_) | (refine aw_seq ?_) | (refine aw_skip ?_) | (refine aw_block ?_) | (refine aw_exit ?_) | (refine aw_region ?_) | (refine zco ?_ ?_ <;> intro hg <;> first | exact absurd hg (by decide) | ((try replace hg := HG.out hg); (try dsimp only at hg); (try rw [withinB_no] at hg); (try (have _h : True := hg; clear _h hg)); first | (exfalso; omega) | skip))))
  all_goals first
    | (exfalso; omega)
    | ((refine aw_ret ?_; (repeat (first | refine ret_then ?_ | refine ret_block ?_)); refine bq1 rfl ⟨?_, rfl⟩); rw [pat_fit h0 h1 (by unfold Pat.fit; simp_all)]; rfl)
    | ((refine aw_ret ?_; (repeat (first | refine ret_then ?_ | refine ret_block ?_)); refine bq1 rfl ⟨?_, rfl⟩); rw [pat_not h0 h1 (by rintro ⟨f1, f2, f3, f4, f5⟩; rw [withinB_iff] at f1 f2 f3 f4; first | omega | simp_all)]; rfl)
    | trace_state
/-- What a valid program is. -/
structure Pat.Ok (p : Pat) : Prop where
  ros : rosE p.ros = 0
  rub : rubE p.rub p.ros.length = 0
  start : 0 ≤ p.start ∧ p.start ≤ 10000
  throw : 1 ≤ p.throw ∧ p.throw ≤ 16
  adv : -1000 ≤ p.adv ∧ p.adv ≤ 1000
  cuts : 1 ≤ p.shifts.length ∧ p.shifts.length ≤ 12
  shift : ∀ k, k < p.shifts.length → 0 ≤ el p.shifts k ∧ el p.shifts k ≤ (p.ros.length : Int) - 1
  steps : 3 ≤ p.ros.length ∧ p.ros.length ≤ 96
theorem pat_ok {p : Pat} (h : p.err = 0) : p.Ok := by
  unfold Pat.err at h
  split at h
  · omega
  · rename_i h0
    split at h
    · omega
    · rename_i h1
      split at h
      · rename_i h2
        obtain ⟨f1, f2, f3, f4, f5⟩ := h2
        rw [withinB_iff] at f1 f2 f3 f4
        have h0 : rosE p.ros = 0 := Classical.byContradiction h0
        have hr := rosE_zero.1 h0
        refine ⟨h0, Classical.byContradiction h1, f1, f2, f3, by omega, fun k hk => ?_, ⟨hr.1, hr.2.1⟩⟩
        have : shiftB p.ros.length (el p.shifts k) = false := by
          rw [← Bool.not_eq_true]
          intro e
          rw [List.any_eq_true.2 ⟨_, el_mem hk, e⟩] at f5
          cases f5
        unfold shiftB at this
        rw [Bool.not_eq_false', withinB_iff] at this
        exact this
      · omega
theorem lift_hb {p : Pat} (h : p.Ok) {i : Nat} (hi : i < p.ros.length) : 0 ≤ el p.lift i ∧ el p.lift i ≤ 10000 := lift_bnd h.ros h.rub hi
theorem sum_bnd {p : Pat} (h : p.Ok) : ∀ k, k ≤ p.shifts.length → 0 ≤ sumS p.shifts k ∧ sumS p.shifts k ≤ 95 * k
  | 0, _ => ⟨Int.le_refl _, Int.le_refl _⟩
  | k + 1, hk => by
    have h1 := sum_bnd h k (by omega)
    have h2 := h.shift k (by omega)
    have h3 := h.steps
    unfold sumS
    omega
def sm (l : List Int) (k i : Nat) : Int := if i ≤ k then sumS l i else 0
def sumsL (l : List Int) (k : Nat) : List V := [vi (sm l k 0), vi (sm l k 1), vi (sm l k 2), vi (sm l k 3), vi (sm l k 4), vi (sm l k 5), vi (sm l k 6), vi (sm l k 7), vi (sm l k 8), vi (sm l k 9), vi (sm l k 10), vi (sm l k 11), vi (sm l k 12)]
def benchV (p : Pat) (k : Nat) : V := .agg ([encInts p.ros, encInts p.rub, vi p.start, vi p.throw, vi p.adv, encInts p.shifts, encInts p.lift, vi p.ros.length, vi p.shifts.length, vi p.per] ++ sumsL p.shifts k)
theorem bench_put (p : Pat) : ∀ {k : Nat}, k < 12 → putPart (benchV p k) (10 + (k + 1) * 1) (vi (sumS p.shifts k + el p.shifts k)) = benchV p (k + 1)
  | 0, _ | 1, _ | 2, _ | 3, _ | 4, _ | 5, _ | 6, _ | 7, _ | 8, _ | 9, _ | 10, _ | 11, _ => rfl
  | k + 12, h => absurd h (by omega)
theorem bench_get (p : Pat) {k : Nat} : ∀ {j : Nat}, j ≤ k → j ≤ 12 → partV false (benchV p k).cells (10 + j * 1) 1 = some (vi (sumS p.shifts j))
  | 0, h, _ | 1, h, _ | 2, h, _ | 3, h, _ | 4, h, _ | 5, h, _ | 6, h, _ | 7, h, _ | 8, h, _ | 9, h, _ | 10, h, _ | 11, h, _ | 12, h, _ => congrArg some (congrArg vi (if_pos h))
  | j + 13, _, h => absurd h (by omega)
theorem bench_closed (p : Pat) (k : Nat) : V.closed.all (benchV p k).cells = true := rfl
abbrev benchR (p : Pat) : V := .ref (benchV p p.shifts.length) 0
def vnp : V := .s (.pointer none)
def MountR (p : Pat) (v : V) : Prop := (p.err = 0 ∧ v = .tup [benchR p, vi 0]) ∨ (p.err ≠ 0 ∧ v = .tup [vnp, vi p.err])
set_option maxRecDepth 20000 in
set_option maxHeartbeats 4000000 in
theorem mounted_p (p : Pat) : PCalls Try.prog 26 [p.enc] (MountR p) := by
  have hck := pCheck_p p
  by_cases h0 : p.err = 0
  case neg =>
    refine pcalls_of_aw Try.func26 rfl (Nat.le_of_ble_eq_true rfl) ?_
    (repeat' (first | (refine ar_isq ?_; first | refine zmv ?_ | refine zas ?_ | (refine is_load ?_; first | refine zlp ?_ | refine zlr ?_) | (refine is_binOp ?_; first | refine zlss ?_ | refine zneq ?_ | refine zadd ?_) | (refine is_fieldAddr ?_; first | refine zfp ?_ | refine zfr ?_) | (refine is_indexAddr ?_; first | refine zil ?_ | refine zis ?_ | refine zit ?_ | refine zia ?_ | refine zir ?_ | (refine zxl ?_; intro _ _ _) | (refine zxs ?_; intro _ _ _)) | (refine is_call ?_; first | refine zll ?_ | refine zls ?_ | refine zln ?_ | refine zle ?_) | refine zex ?_ | refine zncp ?_ | refine zncr ?_ | (refine ar_buildS (ds := ?ds) (by exact ty rfl) (by exact rfl) (by exact sizes rfl) (by exact rfl) (by exact rfl) (by exact build rfl) (by exact dc rfl) ?hn ?h; (case hn => (dsimp only [cells_s, cells_emp, cells_agg, cells_list, cells_sl, cells_ptr, cells_ref, cells_fn, cells_vi, cells_vb, cells_vnil, constV, List.map_cons, List.map_nil, List.take_succ_cons, List.take_zero, List.drop_succ_cons, List.drop_zero, List.cons_append, List.nil_append, List.append_nil, LV_cells]; exact rfl)))) | (refine ar_pcall (own := false) fn22 rfl rfl (.cons (.closed rfl) .nil) (hck) (by simp) (dc rfl) ?_; intro _ hv; subst hv) | (refine zbx ?_) | (refine zsvs ?_) | (refine zsva ?_) | (refine zses ?_) | (refine zsea ?_) | (refine ar_nil ?_) | (refine aw_seq ?_) | (refine aw_skip ?_) | (refine aw_block ?_) | (refine aw_exit ?_) | (refine aw_region ?_) | (refine aw_drawn (id := 14) [(0, 0), (1, 0), (2, 0), (3, 0), (4, 0), (5, 0), (6, 0), (7, 0), (8, 0), (9, 0), (10, 0), (11, 0), (12, 0), (13, 0), (14, 2)] mixed (by kernel_rfl) ?_) | (refine zco ?_ ?_ <;> intro hg <;> first | exact absurd hg (by decide) | ((try replace hg := HG.out hg); (try dsimp only at hg); (try (have _h : True := hg; clear _h hg)); first | (exfalso; omega) | skip))))
    all_goals first
      | (exfalso; omega)
      | ((refine aw_ret ?_; (repeat (first | refine ret_then ?_ | refine ret_block ?_)); refine bq2 rfl rfl ⟨?_, rfl⟩); exact .inr ⟨h0, rfl⟩)
      | trace_state
  have hk := pat_ok h0
  obtain ⟨c1, c2⟩ := hk.cuts
  obtain ⟨n1, n2⟩ := hk.steps
  rw [h0] at hck
  have hl := rLift_p p.ros p.rub
  have hle : liftE p.ros p.rub = 0 := by unfold liftE; rw [if_pos hk.ros]; exact hk.rub
  rw [hle, if_pos rfl] at hl
  have hl : PCalls Try.prog 47 [encInts p.ros, encInts p.rub] (· = .tup [encInts p.lift, vi 0]) := hl
  have hll : p.lift.length = p.ros.length := lift_plen
  have hp : PCalls Try.prog 48 [encInts p.lift] (· = .tup [vi p.per, vi 0]) := rPeriod_p p.lift (lift_rosE hk.ros hk.rub)
  refine pcalls_of_aw Try.func26 rfl (Nat.le_of_ble_eq_true rfl) ?_
  (repeat' (first | (refine ar_isq ?_; first | refine zmv ?_ | refine zas ?_ | (refine is_load ?_; first | refine zlp ?_ | refine zlr ?_) | (refine is_binOp ?_; first | refine zlss ?_ | refine zneq ?_ | refine zadd ?_) | (refine is_fieldAddr ?_; first | refine zfp ?_ | refine zfr ?_) | (refine is_indexAddr ?_; first | refine zil ?_ | refine zis ?_ | refine zit ?_ | refine zia ?_ | refine zir ?_ | (refine zxl ?_; intro _ _ _) | (refine zxs ?_; intro _ _ _)) | (refine is_call ?_; first | refine zll ?_ | refine zls ?_ | refine zln ?_ | refine zle ?_) | refine zex ?_ | refine zncp ?_ | refine zncr ?_ | (refine ar_buildS (ds := ?ds) (by exact ty rfl) (by exact rfl) (by exact sizes rfl) (by exact rfl) (by exact rfl) (by exact build rfl) (by exact dc rfl) ?hn ?h; (case hn => (dsimp only [cells_s, cells_emp, cells_agg, cells_list, cells_sl, cells_ptr, cells_ref, cells_fn, cells_vi, cells_vb, cells_vnil, constV, List.map_cons, List.map_nil, List.take_succ_cons, List.take_zero, List.drop_succ_cons, List.drop_zero, List.cons_append, List.nil_append, List.append_nil, LV_cells]; exact rfl)))) | (refine ar_pcall (own := false) fn22 rfl rfl (.cons (.closed rfl) .nil) (hck) (by simp) (dc rfl) ?_; intro _ hv; subst hv) | (refine ar_pcall (own := false) fn47 rfl rfl (.cons (.closed rfl) (.cons (.closed rfl) .nil)) (hl) (by simp) (dc rfl) ?_; intro _ hv; subst hv) | (refine ar_pcall (own := false) fn48 rfl rfl (.cons (.closed rfl) .nil) (hp) (by simp) (dc rfl) ?_; intro _ hv; subst hv) | (refine zbx ?_) | (refine zsvs ?_) | (refine zsva ?_) | (refine zses ?_) | (refine zsea ?_) | (refine ar_nil ?_) | (refine aw_seq ?_) | (refine aw_skip ?_) | (refine aw_block ?_) | (refine aw_exit ?_) | (refine aw_region ?_) | (refine aw_drawn (id := 14) [(0, 0), (1, 0), (2, 0), (3, 0), (4, 0), (5, 0), (6, 0), (7, 0), (8, 0), (9, 0), (10, 0), (11, 0), (12, 0), (13, 0), (14, 2)] mixed (by kernel_rfl) ?_) | (refine zco ?_ ?_ <;> intro hg <;> first | exact absurd hg (by decide) | ((try replace hg := HG.out hg); (try dsimp only at hg); (try (have _h : True := hg; clear _h hg)); first | (exfalso; omega) | skip))))
  all_goals first
    | (exfalso; omega)
    | skip
  refine aw_for p.shifts.length (fun _ => True) (fun k => [(1, .ptr 6 0 0 0), (8, .ptr 23 1 0 0), (46, encInts p.shifts), (47, vi p.shifts.length), (48, vi k)]) (fun k => [.arr 6 1 (fun _ => p.enc), .arr 23 1 (fun _ => benchV p k)]) trivial ?_ ?_
  · (refine sub_to [some 0, some 1] [] rfl ?_ ?_ <;> (repeat' (first | exact trivial | refine ⟨⟨_, rfl, ?_⟩, ?_⟩ | refine ⟨bsub_snoc rfl rfl (fun _ => rfl) ?_, ?_⟩ | refine ⟨bsub_one rfl rfl ?_, ?_⟩ | refine ⟨bsub_all rfl rfl (fun _ _ => rfl) (fun _ => rfl), ?_⟩ | refine ⟨bsub_updL rfl rfl ?_ (fun _ _ _ => rfl) (fun _ => rfl), ?_⟩ | refine ⟨.inl ⟨_, _, rfl, rfl, ?_⟩, ?_⟩ | exact ⟨.inr ⟨rfl, rfl⟩, trivial⟩ | refine ⟨.inr ⟨rfl, rfl⟩, ?_⟩ | (intro _ _) | exact vz1 | (first | exact .closed rfl | exact .of_eq (by unfold benchV; rw [← hll]; rfl) rfl) | exact vz2 | fail)))
  intro k hkk _
  by_cases hlt : k < p.shifts.length
  · have hs := sum_bnd hk k (by omega)
    have hsk := hk.shift k hlt
    (repeat' (first | (refine ar_isq ?_; first | refine zmv ?_ | refine zas ?_ | (refine is_load ?_; first | refine zlp ?_ | refine zlr ?_) | (refine is_binOp ?_; first | refine zlss ?_ | refine zneq ?_ | refine zadd ?_) | (refine is_fieldAddr ?_; first | refine zfp ?_ | refine zfr ?_) | (refine is_indexAddr ?_; first | refine zil ?_ | refine zis ?_ | refine zit ?_ | refine zia ?_ | refine zir ?_ | refine zil (j := k) ?_ | refine zis (j := k) ?_ | refine zit (j := k) ?_ | (refine zxl ?_; intro _ _ _) | (refine zxs ?_; intro _ _ _)) | (refine is_call ?_; first | refine zll ?_ | refine zls ?_ | refine zln ?_ | refine zle ?_) | refine zex ?_ | refine zncp ?_ | refine zncr ?_ | (refine ar_buildS (ds := ?ds) (by exact ty rfl) (by exact rfl) (by exact sizes rfl) (by exact rfl) (by exact rfl) (by exact build rfl) (by exact dc rfl) ?hn ?h; (case hn => (dsimp only [cells_s, cells_emp, cells_agg, cells_list, cells_sl, cells_ptr, cells_ref, cells_fn, cells_vi, cells_vb, cells_vnil, constV, List.map_cons, List.map_nil, List.take_succ_cons, List.take_zero, List.drop_succ_cons, List.drop_zero, List.cons_append, List.nil_append, List.append_nil, LV_cells]; exact rfl)))) | (refine zia (j := k) ?_) | (refine zia (j := k + 1) ?_) | (refine zlp (v := vi (sumS p.shifts k)) ?_ (hv := by exact bench_get p (Nat.le_refl _) (by omega))) | (refine zbx ?_) | (refine zsvs ?_) | (refine zsva ?_) | (refine zses ?_) | (refine zsea ?_) | (refine ar_nil ?_) | (refine aw_seq ?_) | (refine aw_skip ?_) | (refine aw_block ?_) | (refine aw_exit ?_) | (refine aw_region ?_) | (refine aw_drawn (id := 14) [(0, 0), (1, 0), (2, 0), (3, 0), (4, 0), (5, 0), (6, 0), (7, 0), (8, 0), (9, 0), (10, 0), (11, 0), (12, 0), (13, 0), (14, 2)] mixed (by kernel_rfl) ?_) | (refine zco ?_ ?_ <;> intro hg <;> first | exact absurd hg (by decide) | ((try replace hg := HG.out hg); (try dsimp only at hg); (try (have _h : True := hg; clear _h hg)); first | (exfalso; omega) | skip))))
    all_goals first
      | (exfalso; omega)
      | ((first | refine loop_next (by omega) ?_ ?_ | refine (show _ ∧ _ ∧ SubOf _ _ _ _ _ _ from And.intro (by omega) (And.intro ?_ ?_))); (focus ((trivial); done)); (focus ((refine sub_to [some 0, some 1] [] rfl ?_ ?_ <;> (repeat' (first | exact trivial | refine ⟨⟨_, rfl, ?_⟩, ?_⟩ | refine ⟨bsub_snoc rfl rfl (fun _ => rfl) ?_, ?_⟩ | refine ⟨bsub_one rfl rfl ?_, ?_⟩ | refine ⟨bsub_all rfl rfl (fun _ _ => rfl) (fun _ => rfl), ?_⟩ | refine ⟨bsub_updL rfl rfl ?_ (fun _ _ _ => rfl) (fun _ => rfl), ?_⟩ | refine ⟨.inl ⟨_, _, rfl, rfl, ?_⟩, ?_⟩ | exact ⟨.inr ⟨rfl, rfl⟩, trivial⟩ | refine ⟨.inr ⟨rfl, rfl⟩, ?_⟩ | (intro _ _) | exact vz1 | (exact .of_eq (bench_put p (by omega)) (bench_closed p _)) | exact vz2 | fail))); done)))
      | trace_state
  · obtain rfl : k = p.shifts.length := by omega
    (repeat' (first | (refine ar_isq ?_; first | refine zmv ?_ | refine zas ?_ | (refine is_load ?_; first | refine zlp ?_ | refine zlr ?_) | (refine is_binOp ?_; first | refine zlss ?_ | refine zneq ?_ | refine zadd ?_) | (refine is_fieldAddr ?_; first | refine zfp ?_ | refine zfr ?_) | (refine is_indexAddr ?_; first | refine zil ?_ | refine zis ?_ | refine zit ?_ | refine zia ?_ | refine zir ?_ | (refine zxl ?_; intro _ _ _) | (refine zxs ?_; intro _ _ _)) | (refine is_call ?_; first | refine zll ?_ | refine zls ?_ | refine zln ?_ | refine zle ?_) | refine zex ?_ | refine zncp ?_ | refine zncr ?_ | (refine ar_buildS (ds := ?ds) (by exact ty rfl) (by exact rfl) (by exact sizes rfl) (by exact rfl) (by exact rfl) (by exact build rfl) (by exact dc rfl) ?hn ?h; (case hn => (dsimp only [cells_s, cells_emp, cells_agg, cells_list, cells_sl, cells_ptr, cells_ref, cells_fn, cells_vi, cells_vb, cells_vnil, constV, List.map_cons, List.map_nil, List.take_succ_cons, List.take_zero, List.drop_succ_cons, List.drop_zero, List.cons_append, List.nil_append, List.append_nil, LV_cells]; exact rfl)))) | (refine zbx ?_) | (refine zsvs ?_) | (refine zsva ?_) | (refine zses ?_) | (refine zsea ?_) | (refine ar_nil ?_) | (refine aw_seq ?_) | (refine aw_skip ?_) | (refine aw_block ?_) | (refine aw_exit ?_) | (refine aw_region ?_) | (refine aw_drawn (id := 14) [(0, 0), (1, 0), (2, 0), (3, 0), (4, 0), (5, 0), (6, 0), (7, 0), (8, 0), (9, 0), (10, 0), (11, 0), (12, 0), (13, 0), (14, 2)] mixed (by kernel_rfl) ?_) | (refine zco ?_ ?_ <;> intro hg <;> first | exact absurd hg (by decide) | ((try replace hg := HG.out hg); (try dsimp only at hg); (try (have _h : True := hg; clear _h hg)); first | (exfalso; omega) | skip))))
    all_goals first
      | (exfalso; omega)
      | ((refine aw_mono_r (env' := [(2, benchR p), (3, vi 0)]) (H' := []) ?_ ?_; (focus ((refine sub_to [] [1] rfl ?_ ?_ <;> (repeat' (first | exact trivial | refine ⟨⟨_, rfl, ?_⟩, ?_⟩ | refine ⟨bsub_snoc rfl rfl (fun _ => rfl) ?_, ?_⟩ | refine ⟨bsub_one rfl rfl ?_, ?_⟩ | refine ⟨bsub_all rfl rfl (fun _ _ => rfl) (fun _ => rfl), ?_⟩ | refine ⟨bsub_updL rfl rfl ?_ (fun _ _ _ => rfl) (fun _ => rfl), ?_⟩ | refine ⟨.inl ⟨_, _, rfl, rfl, ?_⟩, ?_⟩ | exact ⟨.inr ⟨rfl, rfl⟩, trivial⟩ | refine ⟨.inr ⟨rfl, rfl⟩, ?_⟩ | (intro _ _) | exact vz1 | (exact frzPtr' (by simp) rfl (by omega) rfl rfl) | exact vz2 | fail))); done))); (refine aw_ret ?_; (repeat (first | refine ret_then ?_ | refine ret_block ?_)); refine bq2 rfl rfl ⟨?_, rfl⟩); exact .inl ⟨h0, rfl⟩)
      | trace_state
end Go.Proofs.Ytloaefllpokkaaa
namespace Go.Proofs.Ytloaefllpokkaaa
open Go.RowKit
theorem quo_exact {j c : Int} (hc : 0 < c) (hj : -100000 ≤ j ∧ j ≤ 100000) : IntKind.i64.wrap ((j - j % c).tdiv c) = j / c ∧ -100001 ≤ j / c ∧ j / c ≤ 100000 := by
  have h := Int.emod_add_mul_ediv j c
  have e : j - j % c = c * (j / c) := by omega
  have b1 : -100001 ≤ j / c := by
    have := Int.ediv_nonneg_iff_of_pos (a := j) hc
    rcases Int.le_total 0 j with g | g
    · have := Int.ediv_nonneg g (Int.le_of_lt hc); omega
    · have h1 := Int.emod_lt_of_pos j hc
      have h2 : c * (j / c) > j - c := by omega
      rcases Int.lt_or_le (j / c) (-100001) with q | q
      · have := Int.mul_le_mul_of_nonneg_left (show j / c ≤ -100002 by omega) (Int.le_of_lt hc)
        have h3 : c * (-100002) ≤ -100002 + (c - 1) * (-1) := by omega
        omega
      · exact q
  have b2 : j / c ≤ 100000 := by
    rcases Int.le_total 0 j with g | g
    · have := Int.ediv_le_self c g; omega
    · have h1 := Int.emod_nonneg j (show c ≠ 0 by omega)
      rcases Int.lt_or_le 0 (j / c) with q | q
      · have := Int.mul_pos hc q; omega
      · omega
  refine ⟨?_, b1, b2⟩
  rw [e, Int.mul_tdiv_cancel_left _ (by omega)]
  exact wrap64 (by omega)
set_option maxRecDepth 20000 in
set_option maxHeartbeats 4000000 in
theorem phase_p (p : Pat) (hk : p.Ok) (j : Int) (hj : -100000 ≤ j ∧ j ≤ 100000) : PCalls Try.prog 29 [benchR p, vi j] (· = vi (p.phase j)) := by
  obtain ⟨c1, c2⟩ := hk.cuts
  obtain ⟨n1, n2⟩ := hk.steps
  have hc : (0 : Int) < p.shifts.length := by omega
  obtain ⟨q1, q2, q3⟩ := quo_exact (j := j) hc hj
  have m1 := Int.emod_nonneg j (show (p.shifts.length : Int) ≠ 0 by omega)
  have m2 := Int.emod_lt_of_pos j hc
  obtain ⟨r, hr⟩ : ∃ r : Nat, j % p.shifts.length = r := Int.eq_ofNat_of_zero_le m1
  have hrl : r < p.shifts.length := by omega
  have hs := sum_bnd hk p.shifts.length (Nat.le_refl _)
  have hs2 := sum_bnd hk r (by omega)
  have hb1 := Int.mul_le_mul_of_nonneg_right q3 hs.1
  have hb2 := Int.mul_le_mul_of_nonneg_right q2 hs.1
  have hph : p.phase j = (j / p.shifts.length * sumS p.shifts p.shifts.length + sumS p.shifts r) % p.ros.length := by unfold Pat.phase; rw [hr]; rfl
  rw [hr] at q1
  have hmo : PCalls Try.prog 28 [vi j, vi p.shifts.length] (· = vi r) := by rw [← hr]; exact pmodulo_p _ _ hc (by omega)
  have hmo2 : PCalls Try.prog 28 [vi (j / p.shifts.length * sumS p.shifts p.shifts.length + sumS p.shifts r), vi p.ros.length] (· = vi (p.phase j)) := by rw [hph]; exact pmodulo_p _ _ (by omega) (by omega)
  refine pcalls_of_aw Try.func29 rfl (Nat.le_of_ble_eq_true rfl) ?_
  (repeat' (first | (refine ar_isq ?_; first | refine zmv ?_ | refine zas ?_ | (refine is_load ?_; first | refine zlp ?_ | refine zlr ?_) | (refine is_binOp ?_; first | refine zadd ?_ | refine zsub ?_ | refine zmul ?_ | refine zquo ?_) | (refine is_fieldAddr ?_; first | refine zfp ?_ | refine zfr ?_) | (refine is_indexAddr ?_; first | refine zil ?_ | refine zis ?_ | refine zit ?_ | refine zia ?_ | refine zir ?_ | (refine zxl ?_; intro _ _ _) | (refine zxs ?_; intro _ _ _)) | refine zncp ?_ | refine zncr ?_) | (refine ar_pcall (own := false) fn28 rfl rfl (.cons (.closed rfl) (.cons (.closed rfl) .nil)) (hmo) (by simp) (dc rfl) ?_; intro _ hv; subst hv) | (refine ar_pcall (own := false) fn28 rfl rfl (.cons (.closed rfl) (.cons (.closed rfl) .nil)) (hmo2) (by simp) (dc rfl) ?_; intro _ hv; subst hv) | (refine ar_q (qs_quo rfl rfl (by omega) q1) (dc rfl) ?_) | (refine zir (j := p.shifts.length) ?_) | (refine zir (j := r) ?_) | (refine zlr (v := vi (sumS p.shifts p.shifts.length)) ?_ (hv := by exact bench_get p (Nat.le_refl _) (by omega))) | (refine zlr (v := vi (sumS p.shifts r)) ?_ (hv := by exact bench_get p (by omega) (by omega))) | (refine ar_nil ?_) | (refine aw_seq ?_) | (refine aw_skip ?_) | (refine aw_block ?_) | (refine aw_exit ?_) | (refine aw_region ?_) | (refine aw_drawn (id := 2) [(0, 0), (1, 0), (2, 0), (3, 0), (4, 0), (5, 0), (6, 0), (7, 0), (8, 0), (9, 0), (10, 0), (11, 0), (12, 0), (13, 0), (14, 0), (15, 0), (16, 0), (17, 0), (18, 0), (19, 0), (20, 0), (21, 0), (22, 0), (23, 0), (24, 0), (25, 0), (26, 0), (27, 0), (28, 0), (29, 1), (30, 0)] mixed (by kernel_rfl) ?_) | (refine aw_drawn (id := 2) [(0, 0), (1, 0), (2, 0), (3, 0), (4, 0), (5, 0), (6, 0), (7, 0), (8, 0), (9, 0), (10, 0), (11, 0), (12, 0), (13, 0), (14, 0), (15, 0), (16, 0), (17, 0), (18, 0), (19, 0), (20, 0), (21, 0), (22, 0), (23, 0), (24, 0), (25, 0), (26, 0), (27, 0), (28, 0), (29, 2), (30, 0)] mixed (by kernel_rfl) ?_) | (refine zco ?_ ?_ <;> intro hg <;> first | exact absurd hg (by decide) | ((try replace hg := HG.out hg); (try dsimp only at hg); (try (have _h : True := hg; clear _h hg)); first | (exfalso; omega) | skip))))
  all_goals first
    | (exfalso; omega)
    | ((refine aw_ret ?_; (repeat (first | refine ret_then ?_ | refine ret_block ?_)); refine bq1 rfl ⟨?_, rfl⟩); rfl)
    | trace_state
/-- A cut, its first k steps. -/
def cutP (p : Pat) (j : Int) (k : Nat) : List Int := (List.range p.ros.length).map fun (i : Nat) => if i < k then p.start + j * p.adv + p.throw * p.at ((i : Int) - p.phase j) else 0
theorem cutP_len (p : Pat) (j : Int) (k : Nat) : (cutP p j k).length = p.ros.length := by simp [cutP]
theorem cutP_el {p : Pat} {j : Int} {k i : Nat} (h : i < p.ros.length) : el (cutP p j k) i = if i < k then p.start + j * p.adv + p.throw * p.at ((i : Int) - p.phase j) else 0 := el_map_range h
theorem cutP_all (p : Pat) (j : Int) : cutP p j p.ros.length = p.cut j := by
  refine ext_el (by rw [cutP_len, cut_len]) fun i hi => ?_
  rw [cutP_len] at hi
  rw [cutP_el hi, cut_el hi, if_pos hi]
theorem cut_zero {H : Heap} {σ : List (Option Nat)} {fr : Nat → Prop} {p : Pat} {j : Int} {i : Nat} (hi : i < p.ros.length) : VSub H σ fr (vi 0) (vi (el (cutP p j 0) i)) := VSub.of_eq (by rw [cutP_el hi, if_neg (by omega)]) rfl
theorem cut_step {H : Heap} {σ : List (Option Nat)} {fr : Nat → Prop} {p : Pat} {j : Int} {k i : Nat} (hi : i < p.ros.length) : VSub H σ fr (upd (fun i => vi (el (cutP p j k) i)) k (vi (p.start + j * p.adv + p.throw * p.at ((k : Int) - p.phase j))) i) (vi (el (cutP p j (k + 1)) i)) := by
  refine VSub.of_eq ?_ rfl
  rw [upd_at, cutP_el hi, cutP_el hi]
  by_cases e : i = k
  · subst e
    rw [if_pos rfl, if_pos (by omega)]
  · rw [if_neg e]
    by_cases h : i < k
    · rw [if_pos h, if_pos (by omega)]
    · rw [if_neg h, if_neg (by omega)]
def Pat.cutE (p : Pat) (j : Int) : Int := if p.err = 0 then (if withinB j (-5000) 5000 = true then 0 else 2) else p.err
theorem at_bnd {p : Pat} (hk : p.Ok) (i : Int) : 0 ≤ p.at i ∧ p.at i ≤ 10000 := by
  have hn := hk.steps
  have g1 := Int.emod_nonneg i (show (p.ros.length : Int) ≠ 0 by omega)
  have g2 := Int.emod_lt_of_pos i (show (0 : Int) < p.ros.length by omega)
  exact lift_hb hk (by omega)
theorem mul_adv {p : Pat} (hk : p.Ok) {j : Int} (hj : -5000 ≤ j ∧ j ≤ 5000) : -5000000 ≤ j * p.adv ∧ j * p.adv ≤ 5000000 := by
  have ha := hk.adv
  rcases Int.le_total 0 j with g | g
  · have h1 := Int.mul_le_mul_of_nonneg_left ha.2 g
    have h2 := Int.mul_le_mul_of_nonneg_left ha.1 g
    omega
  · have h1 := Int.mul_le_mul_of_nonneg_left ha.2 (show 0 ≤ -j by omega)
    have h2 := Int.mul_le_mul_of_nonneg_left ha.1 (show 0 ≤ -j by omega)
    simp only [Int.neg_mul] at h1 h2
    omega
theorem mul_throw {p : Pat} (hk : p.Ok) {x : Int} (hx : -10000 ≤ x ∧ x ≤ 10000) : -160000 ≤ p.throw * x ∧ p.throw * x ≤ 160000 := by
  have ht := hk.throw
  have h1 := Int.mul_le_mul_of_nonneg_left hx.1 (show 0 ≤ p.throw by omega)
  have h2 := Int.mul_le_mul_of_nonneg_left hx.2 (show 0 ≤ p.throw by omega)
  omega
set_option maxRecDepth 20000 in
set_option maxHeartbeats 4000000 in
theorem cut_p (p : Pat) (j : Int) : PCalls Try.prog 8 [p.enc, vi j] (· = .tup [encInts (if p.cutE j = 0 then p.cut j else []), vi (p.cutE j)]) := by
  by_cases h0 : p.err = 0
  case neg =>
    have he : p.cutE j = p.err := if_neg h0
    rw [he, if_neg h0]
    refine pcalls_of_aw Try.func8 rfl (Nat.le_of_ble_eq_true rfl) ?_
    (repeat' (first | (refine ar_isq ?_; first | refine zmv ?_ | refine zas ?_ | (refine is_load ?_; first | refine zlp ?_ | refine zlr ?_) | (refine is_binOp ?_; first | refine zlss ?_ | refine zneq ?_ | refine zadd ?_ | refine zsub ?_ | refine zmul ?_) | (refine is_fieldAddr ?_; first | refine zfp ?_ | refine zfr ?_) | (refine is_indexAddr ?_; first | refine zil ?_ | refine zis ?_ | refine zit ?_ | refine zia ?_ | refine zir ?_ | (refine zxl ?_; intro _ _ _) | (refine zxs ?_; intro _ _ _)) | refine zex ?_ | refine znt ?_ | refine zncp ?_ | refine zncr ?_) | (refine ar_pcall (own := false) fn26 rfl rfl (.cons (.closed rfl) .nil) (mounted_p p) (by simp) (dc rfl) ?_; rintro _ (⟨hm, rfl⟩ | ⟨hm, rfl⟩)) | (refine zbx ?_) | (refine zsvs ?_) | (refine zsva ?_) | (refine zses ?_) | (refine zsea ?_) | (refine ar_nil ?_) | (refine aw_seq ?_) | (refine aw_skip ?_) | (refine aw_block ?_) | (refine aw_exit ?_) | (refine aw_region ?_) | (refine aw_drawn (id := 10) [(0, 0), (1, 0), (2, 0), (3, 0), (4, 0), (5, 0), (6, 0), (7, 0), (8, 0), (9, 0), (10, 0), (11, 0), (12, 0), (13, 0), (14, 0), (15, 0), (16, 0), (17, 0), (20, 0), (21, 0), (22, 0), (23, 0), (18, 1), (19, 0), (24, 1), (25, 0), (26, 0), (27, 0), (28, 0), (29, 0), (30, 2)] mixed (by kernel_rfl) ?_) | (refine zco ?_ ?_ <;> intro hg <;> first | exact absurd hg (by decide) | ((try replace hg := HG.out hg); (try dsimp only at hg); (try (have _h : True := hg; clear _h hg)); first | (exfalso; omega) | skip))))
    all_goals first
      | (exfalso; omega)
      | ((refine aw_mono_r (env' := [(4, encInts []), (5, vi p.err)]) (H' := []) ?_ ?_; (focus ((refine sub_to [] [] rfl ?_ ?_ <;> (repeat' (first | exact trivial | refine ⟨⟨_, rfl, ?_⟩, ?_⟩ | refine ⟨bsub_snoc rfl rfl (fun _ => rfl) ?_, ?_⟩ | refine ⟨bsub_one rfl rfl ?_, ?_⟩ | refine ⟨bsub_all rfl rfl (fun _ _ => rfl) (fun _ => rfl), ?_⟩ | refine ⟨bsub_updL rfl rfl ?_ (fun _ _ _ => rfl) (fun _ => rfl), ?_⟩ | refine ⟨.inl ⟨_, _, rfl, rfl, ?_⟩, ?_⟩ | exact ⟨.inr ⟨rfl, rfl⟩, trivial⟩ | refine ⟨.inr ⟨rfl, rfl⟩, ?_⟩ | (intro _ _) | exact vz1 | exact vz2 | fail))); done))); (refine aw_ret ?_; (repeat (first | refine ret_then ?_ | refine ret_block ?_)); refine bq2 rfl rfl ⟨?_, rfl⟩); rfl)
      | trace_state
  have hk := pat_ok h0
  obtain ⟨c1, c2⟩ := hk.cuts
  obtain ⟨n1, n2⟩ := hk.steps
  by_cases hj : -5000 ≤ j ∧ j ≤ 5000
  case neg =>
    have hw : withinB j (-5000) 5000 = false := by rw [← Bool.not_eq_true, withinB_iff]; exact hj
    have he : p.cutE j = 2 := by unfold Pat.cutE; rw [if_pos h0, hw]; rfl
    have hwi := pwithin_p j (-5000) 5000
    rw [hw] at hwi
    rw [he]
    refine pcalls_of_aw Try.func8 rfl (Nat.le_of_ble_eq_true rfl) ?_
    (repeat' (first | (refine ar_isq ?_; first | refine zmv ?_ | refine zas ?_ | (refine is_load ?_; first | refine zlp ?_ | refine zlr ?_) | (refine is_binOp ?_; first | refine zlss ?_ | refine zneq ?_ | refine zadd ?_ | refine zsub ?_ | refine zmul ?_) | (refine is_fieldAddr ?_; first | refine zfp ?_ | refine zfr ?_) | (refine is_indexAddr ?_; first | refine zil ?_ | refine zis ?_ | refine zit ?_ | refine zia ?_ | refine zir ?_ | (refine zxl ?_; intro _ _ _) | (refine zxs ?_; intro _ _ _)) | refine zex ?_ | refine znt ?_ | refine zncp ?_ | refine zncr ?_) | (refine ar_pcall (own := false) fn26 rfl rfl (.cons (.closed rfl) .nil) (mounted_p p) (by simp) (dc rfl) ?_; rintro _ (⟨hm, rfl⟩ | ⟨hm, rfl⟩)) | (refine ar_pcall (own := false) fn27 rfl rfl (.cons (.closed rfl) (.cons (.closed rfl) (.cons (.closed rfl) .nil))) (hwi) (by simp) (dc rfl) ?_; intro _ hv; subst hv) | (refine zbx ?_) | (refine zsvs ?_) | (refine zsva ?_) | (refine zses ?_) | (refine zsea ?_) | (refine ar_nil ?_) | (refine aw_seq ?_) | (refine aw_skip ?_) | (refine aw_block ?_) | (refine aw_exit ?_) | (refine aw_region ?_) | (refine aw_drawn (id := 10) [(0, 0), (1, 0), (2, 0), (3, 0), (4, 0), (5, 0), (6, 0), (7, 0), (8, 0), (9, 0), (10, 0), (11, 0), (12, 0), (13, 0), (14, 0), (15, 0), (16, 0), (17, 0), (20, 0), (21, 0), (22, 0), (23, 0), (18, 1), (19, 0), (24, 1), (25, 0), (26, 0), (27, 0), (28, 0), (29, 0), (30, 2)] mixed (by kernel_rfl) ?_) | (refine zco ?_ ?_ <;> intro hg <;> first | exact absurd hg (by decide) | ((try replace hg := HG.out hg); (try dsimp only at hg); (try (have _h : True := hg; clear _h hg)); first | (exfalso; omega) | skip))))
    all_goals first
      | (exfalso; omega)
      | ((refine aw_mono_r (env' := [(4, encInts []), (5, vi 2)]) (H' := []) ?_ ?_; (focus ((refine sub_to [] [] rfl ?_ ?_ <;> (repeat' (first | exact trivial | refine ⟨⟨_, rfl, ?_⟩, ?_⟩ | refine ⟨bsub_snoc rfl rfl (fun _ => rfl) ?_, ?_⟩ | refine ⟨bsub_one rfl rfl ?_, ?_⟩ | refine ⟨bsub_all rfl rfl (fun _ _ => rfl) (fun _ => rfl), ?_⟩ | refine ⟨bsub_updL rfl rfl ?_ (fun _ _ _ => rfl) (fun _ => rfl), ?_⟩ | refine ⟨.inl ⟨_, _, rfl, rfl, ?_⟩, ?_⟩ | exact ⟨.inr ⟨rfl, rfl⟩, trivial⟩ | refine ⟨.inr ⟨rfl, rfl⟩, ?_⟩ | (intro _ _) | exact vz1 | exact vz2 | fail))); done))); (refine aw_ret ?_; (repeat (first | refine ret_then ?_ | refine ret_block ?_)); refine bq2 rfl rfl ⟨?_, rfl⟩); rfl)
      | trace_state
  have hw : withinB j (-5000) 5000 = true := withinB_iff.2 hj
  have he : p.cutE j = 0 := by unfold Pat.cutE; rw [if_pos h0, hw]; rfl
  have hwi := pwithin_p j (-5000) 5000
  rw [hw] at hwi
  rw [he, if_pos rfl]
  have hph := phase_bnd (p := p) j (by omega)
  have hll : p.lift.length = p.ros.length := lift_plen
  have ha := mul_adv hk hj
  refine pcalls_of_aw Try.func8 rfl (Nat.le_of_ble_eq_true rfl) ?_
  (repeat' (first | (refine ar_isq ?_; first | refine zmv ?_ | refine zas ?_ | (refine is_load ?_; first | refine zlp ?_ | refine zlr ?_) | (refine is_binOp ?_; first | refine zlss ?_ | refine zneq ?_ | refine zadd ?_ | refine zsub ?_ | refine zmul ?_) | (refine is_fieldAddr ?_; first | refine zfp ?_ | refine zfr ?_) | (refine is_indexAddr ?_; first | refine zil ?_ | refine zis ?_ | refine zit ?_ | refine zia ?_ | refine zir ?_ | (refine zxl ?_; intro _ _ _) | (refine zxs ?_; intro _ _ _)) | refine zex ?_ | refine znt ?_ | refine zncp ?_ | refine zncr ?_) | (refine ar_pcall (own := false) fn26 rfl rfl (.cons (.closed rfl) .nil) (mounted_p p) (by simp) (dc rfl) ?_; rintro _ (⟨hm, rfl⟩ | ⟨hm, rfl⟩)) | (refine ar_pcall (own := false) fn27 rfl rfl (.cons (.closed rfl) (.cons (.closed rfl) (.cons (.closed rfl) .nil))) (hwi) (by simp) (dc rfl) ?_; intro _ hv; subst hv) | (refine ar_make_v (n := p.ros.length) (ty rfl) rfl (ty rfl) rfl rfl rfl rfl (dc rfl) rfl rfl (by dsimp only; omega) (maxLen_ok (by omega)) ?_) | (refine zbx ?_) | (refine zsvs ?_) | (refine zsva ?_) | (refine zses ?_) | (refine zsea ?_) | (refine ar_nil ?_) | (refine aw_seq ?_) | (refine aw_skip ?_) | (refine aw_block ?_) | (refine aw_exit ?_) | (refine aw_region ?_) | (refine aw_drawn (id := 10) [(0, 0), (1, 0), (2, 0), (3, 0), (4, 0), (5, 0), (6, 0), (7, 0), (8, 0), (9, 0), (10, 0), (11, 0), (12, 0), (13, 0), (14, 0), (15, 0), (16, 0), (17, 0), (20, 0), (21, 0), (22, 0), (23, 0), (18, 1), (19, 0), (24, 1), (25, 0), (26, 0), (27, 0), (28, 0), (29, 0), (30, 2)] mixed (by kernel_rfl) ?_) | (refine zco ?_ ?_ <;> intro hg <;> first | exact absurd hg (by decide) | ((try replace hg := HG.out hg); (try dsimp only at hg); (try (have _h : True := hg; clear _h hg)); first | (exfalso; omega) | skip))))
  all_goals (try (exfalso; omega))
  refine aw_for p.ros.length (fun _ => True) (fun k => [(1, vi j), (2, .ptr 6 0 0 0), (6, benchR p), (8, .sl 1 1 0 p.ros.length), (31, vi p.ros.length), (32, vi k)]) (fun k => [.arr 6 1 (fun _ => p.enc), .arr 1 p.ros.length (fun i => vi (el (cutP p j k) i))]) trivial ?_ ?_
  · (refine sub_to [some 0, some 1] [] rfl ?_ ?_ <;> (repeat' (first | exact trivial | refine ⟨⟨_, rfl, ?_⟩, ?_⟩ | refine ⟨bsub_snoc rfl rfl (fun _ => rfl) ?_, ?_⟩ | refine ⟨bsub_one rfl rfl ?_, ?_⟩ | refine ⟨bsub_all rfl rfl (fun _ _ => rfl) (fun _ => rfl), ?_⟩ | refine ⟨bsub_updL rfl rfl ?_ (fun _ _ _ => rfl) (fun _ => rfl), ?_⟩ | refine ⟨.inl ⟨_, _, rfl, rfl, ?_⟩, ?_⟩ | exact ⟨.inr ⟨rfl, rfl⟩, trivial⟩ | refine ⟨.inr ⟨rfl, rfl⟩, ?_⟩ | (intro _ _) | exact vz1 | (exact cut_zero (by assumption)) | exact vz2 | fail)))
  intro k hkk _
  by_cases hlt : k < p.ros.length
  · have g1 := Int.emod_nonneg ((k : Int) - p.phase j) (show (p.ros.length : Int) ≠ 0 by omega)
    have g2 := Int.emod_lt_of_pos ((k : Int) - p.phase j) (show (0 : Int) < p.ros.length by omega)
    have hmo : PCalls Try.prog 28 [vi ((k : Int) - p.phase j), vi p.ros.length] (· = vi ((((k : Int) - p.phase j) % p.ros.length).toNat : Nat)) := by rw [Int.toNat_of_nonneg g1]; exact pmodulo_p _ _ (by omega) (by omega)
    have hx : el p.lift (((k : Int) - p.phase j) % p.ros.length).toNat = p.at ((k : Int) - p.phase j) := rfl
    have hb := at_bnd hk ((k : Int) - p.phase j)
    have ht := mul_throw hk (x := p.at ((k : Int) - p.phase j)) (by omega)
    rw [← hx] at hb ht
    have hst := hk.start
    (repeat' (first | (refine ar_isq ?_; first | refine zmv ?_ | refine zas ?_ | (refine is_load ?_; first | refine zlp ?_ | refine zlr ?_) | (refine is_binOp ?_; first | refine zlss ?_ | refine zneq ?_ | refine zadd ?_ | refine zsub ?_ | refine zmul ?_) | (refine is_fieldAddr ?_; first | refine zfp ?_ | refine zfr ?_) | (refine is_indexAddr ?_; first | refine zil ?_ | refine zis ?_ | refine zit ?_ | refine zia ?_ | refine zir ?_ | refine zil (j := (((k : Int) - p.phase j) % p.ros.length).toNat) ?_ | refine zis (j := (((k : Int) - p.phase j) % p.ros.length).toNat) ?_ | refine zit (j := (((k : Int) - p.phase j) % p.ros.length).toNat) ?_ | refine zil (j := k) ?_ | refine zis (j := k) ?_ | refine zit (j := k) ?_ | (refine zxl ?_; intro _ _ _) | (refine zxs ?_; intro _ _ _)) | refine zex ?_ | refine znt ?_ | refine zncp ?_ | refine zncr ?_) | (refine ar_pcall (own := false) fn29 rfl rfl (.cons (.closed rfl) (.cons (.closed rfl) .nil)) (phase_p p hk j (by omega)) (by simp) (dc rfl) ?_; intro _ hv; subst hv) | (refine ar_pcall (own := false) fn28 rfl rfl (.cons (.closed rfl) (.cons (.closed rfl) .nil)) (hmo) (by simp) (dc rfl) ?_; intro _ hv; subst hv) | (refine zbx ?_) | (refine zsvs ?_) | (refine zsva ?_) | (refine zses ?_) | (refine zsea ?_) | (refine ar_nil ?_) | (refine aw_seq ?_) | (refine aw_skip ?_) | (refine aw_block ?_) | (refine aw_exit ?_) | (refine aw_region ?_) | (refine aw_drawn (id := 10) [(0, 0), (1, 0), (2, 0), (3, 0), (4, 0), (5, 0), (6, 0), (7, 0), (8, 0), (9, 0), (10, 0), (11, 0), (12, 0), (13, 0), (14, 0), (15, 0), (16, 0), (17, 0), (20, 0), (21, 0), (22, 0), (23, 0), (18, 1), (19, 0), (24, 1), (25, 0), (26, 0), (27, 0), (28, 0), (29, 0), (30, 2)] mixed (by kernel_rfl) ?_) | (refine zco ?_ ?_ <;> intro hg <;> first | exact absurd hg (by decide) | ((try replace hg := HG.out hg); (try dsimp only at hg); (try (have _h : True := hg; clear _h hg)); first | (exfalso; omega) | skip))))
    all_goals first
      | (exfalso; omega)
      | ((first | refine loop_next (by omega) ?_ ?_ | refine (show _ ∧ _ ∧ SubOf _ _ _ _ _ _ from And.intro (by omega) (And.intro ?_ ?_))); (focus ((trivial); done)); (focus ((refine sub_to [some 0, some 1] [] rfl ?_ ?_ <;> (repeat' (first | exact trivial | refine ⟨⟨_, rfl, ?_⟩, ?_⟩ | refine ⟨bsub_snoc rfl rfl (fun _ => rfl) ?_, ?_⟩ | refine ⟨bsub_one rfl rfl ?_, ?_⟩ | refine ⟨bsub_all rfl rfl (fun _ _ => rfl) (fun _ => rfl), ?_⟩ | refine ⟨bsub_updL rfl rfl ?_ (fun _ _ _ => rfl) (fun _ => rfl), ?_⟩ | refine ⟨.inl ⟨_, _, rfl, rfl, ?_⟩, ?_⟩ | exact ⟨.inr ⟨rfl, rfl⟩, trivial⟩ | refine ⟨.inr ⟨rfl, rfl⟩, ?_⟩ | (intro _ _) | exact vz1 | (exact cut_step (by assumption)) | exact vz2 | fail))); done)))
      | trace_state
  · obtain rfl : k = p.ros.length := by omega
    (repeat' (first | (refine ar_isq ?_; first | refine zmv ?_ | refine zas ?_ | (refine is_load ?_; first | refine zlp ?_ | refine zlr ?_) | (refine is_binOp ?_; first | refine zlss ?_ | refine zneq ?_ | refine zadd ?_ | refine zsub ?_ | refine zmul ?_) | (refine is_fieldAddr ?_; first | refine zfp ?_ | refine zfr ?_) | (refine is_indexAddr ?_; first | refine zil ?_ | refine zis ?_ | refine zit ?_ | refine zia ?_ | refine zir ?_ | (refine zxl ?_; intro _ _ _) | (refine zxs ?_; intro _ _ _)) | refine zex ?_ | refine znt ?_ | refine zncp ?_ | refine zncr ?_) | (refine zbx ?_) | (refine zsvs ?_) | (refine zsva ?_) | (refine zses ?_) | (refine zsea ?_) | (refine ar_nil ?_) | (refine aw_seq ?_) | (refine aw_skip ?_) | (refine aw_block ?_) | (refine aw_exit ?_) | (refine aw_region ?_) | (refine aw_drawn (id := 10) [(0, 0), (1, 0), (2, 0), (3, 0), (4, 0), (5, 0), (6, 0), (7, 0), (8, 0), (9, 0), (10, 0), (11, 0), (12, 0), (13, 0), (14, 0), (15, 0), (16, 0), (17, 0), (20, 0), (21, 0), (22, 0), (23, 0), (18, 1), (19, 0), (24, 1), (25, 0), (26, 0), (27, 0), (28, 0), (29, 0), (30, 2)] mixed (by kernel_rfl) ?_) | (refine zco ?_ ?_ <;> intro hg <;> first | exact absurd hg (by decide) | ((try replace hg := HG.out hg); (try dsimp only at hg); (try (have _h : True := hg; clear _h hg)); first | (exfalso; omega) | skip))))
    all_goals first
      | (exfalso; omega)
      | ((refine aw_mono_r (env' := [(4, encInts (cutP p j p.ros.length)), (5, vi 0)]) (H' := []) ?_ ?_; (focus ((refine sub_to [] [1] rfl ?_ ?_ <;> (repeat' (first | exact trivial | refine ⟨⟨_, rfl, ?_⟩, ?_⟩ | refine ⟨bsub_snoc rfl rfl (fun _ => rfl) ?_, ?_⟩ | refine ⟨bsub_one rfl rfl ?_, ?_⟩ | refine ⟨bsub_all rfl rfl (fun _ _ => rfl) (fun _ => rfl), ?_⟩ | refine ⟨bsub_updL rfl rfl ?_ (fun _ _ _ => rfl) (fun _ => rfl), ?_⟩ | refine ⟨.inl ⟨_, _, rfl, rfl, ?_⟩, ?_⟩ | exact ⟨.inr ⟨rfl, rfl⟩, trivial⟩ | refine ⟨.inr ⟨rfl, rfl⟩, ?_⟩ | (intro _ _) | exact vz1 | (exact frz_as (by simp; done) rfl rfl (cutP_len _ _ _) (fun _ _ => rfl) (fun _ => rfl)) | exact vz2 | fail))); done))); (refine aw_ret ?_; (repeat (first | refine ret_then ?_ | refine ret_block ?_)); refine bq2 rfl rfl ⟨?_, rfl⟩); rw [cutP_all])
      | trace_state
end Go.Proofs.Ytloaefllpokkaaa
namespace Go.Proofs.Ytloaefllpokkaaa
open Go.RowKit
def gapL (p : Pat) : Nat → List Int
  | 0 => []
  | k + 1 => gapL p k ++ (List.range p.ros.length).map (p.dif (el p.shifts k))
def gapI (p : Pat) (k i : Nat) : List Int := gapL p k ++ (List.range i).map (p.dif (el p.shifts k))
theorem gapI_zero (p : Pat) (k : Nat) : gapI p k 0 = gapL p k := by unfold gapI; rw [List.range_zero, List.map_nil, List.append_nil]
theorem gapI_succ (p : Pat) (k i : Nat) : gapI p k (i + 1) = gapI p k i ++ [p.dif (el p.shifts k) i] := by unfold gapI; rw [List.range_succ, List.map_append, List.append_assoc]; rfl
theorem gapI_all (p : Pat) (k : Nat) : gapI p k p.ros.length = gapL p (k + 1) := rfl
theorem gapL_len (p : Pat) : ∀ k, (gapL p k).length = k * p.ros.length
  | 0 => by rw [Nat.zero_mul]; rfl
  | k + 1 => by rw [gapL, List.length_append, gapL_len p k, List.length_map, List.length_range, Nat.succ_mul]
theorem gapI_len (p : Pat) (k i : Nat) : (gapI p k i).length = k * p.ros.length + i := by unfold gapI; rw [List.length_append, gapL_len, List.length_map, List.length_range]
theorem gapL_take (p : Pat) : ∀ k, k ≤ p.shifts.length → gapL p k = (p.shifts.take k).flatMap fun s => (List.range p.ros.length).map (p.dif s)
  | 0, _ => by rw [List.take_zero]; rfl
  | k + 1, h => by rw [gapL, gapL_take p k (by omega), List.take_succ_eq_append_getElem (by omega), List.flatMap_append, ← el_eq (by omega)]; simp
theorem gapL_all (p : Pat) : gapL p p.shifts.length = p.difs := by rw [gapL_take p _ (Nat.le_refl _), List.take_length]; rfl
set_option maxHeartbeats 1000000 in
theorem min_p (l : List Int) (h0 : 0 < l.length) : PCalls Try.prog 30 [encInts l] (· = vi (minF l)) := by
  (refine pcalls_know (fun I us h => rel_len (rel_arg h (j := 0) rfl)) fun hlen0 => ?_)
  refine pcalls_of_aw Try.func30 rfl (Nat.le_of_ble_eq_true rfl) ?_
  (repeat' (first | (refine ar_isq ?_; first | refine zmv ?_ | refine zas ?_ | (refine is_load ?_; first | refine zlp ?_ | refine zlr ?_) | (refine is_binOp ?_; first | refine zlss ?_ | refine zadd ?_) | (refine is_indexAddr ?_; first | refine zil ?_ | refine zis ?_ | refine zit ?_ | refine zia ?_ | refine zir ?_ | refine zil (j := 0) ?_ | refine zis (j := 0) ?_ | refine zit (j := 0) ?_ | (refine zxl ?_; intro _ _ _) | (refine zxs ?_; intro _ _ _)) | (refine is_call ?_; first | refine zll ?_ | refine zls ?_ | refine zln ?_ | refine zle ?_ | refine zmin ?_)) | (refine ar_nil ?_) | (refine aw_seq ?_) | (refine aw_skip ?_) | (refine aw_block ?_) | (refine aw_exit ?_) | (refine aw_region ?_) | (refine zco ?_ ?_ <;> intro hg <;> first | exact absurd hg (by decide) | ((try replace hg := HG.out hg); (try dsimp only at hg); (try (have _h : True := hg; clear _h hg)); first | (exfalso; omega) | skip))))
  all_goals (try (exfalso; omega))
  refine aw_for (l.length - 1) (fun _ => True) (fun k => [(0, encInts l), (3, vi (minTo l (k + 1))), (4, vi (k + 1 : Nat))]) (fun _ => []) trivial ?_ ?_
  · (refine sub_to [] [] rfl ?_ ?_ <;> (repeat' (first | exact trivial | refine ⟨⟨_, rfl, ?_⟩, ?_⟩ | refine ⟨bsub_snoc rfl rfl (fun _ => rfl) ?_, ?_⟩ | refine ⟨bsub_one rfl rfl ?_, ?_⟩ | refine ⟨bsub_all rfl rfl (fun _ _ => rfl) (fun _ => rfl), ?_⟩ | refine ⟨bsub_updL rfl rfl ?_ (fun _ _ _ => rfl) (fun _ => rfl), ?_⟩ | refine ⟨.inl ⟨_, _, rfl, rfl, ?_⟩, ?_⟩ | exact ⟨.inr ⟨rfl, rfl⟩, trivial⟩ | refine ⟨.inr ⟨rfl, rfl⟩, ?_⟩ | (intro _ _) | exact vz1 | (exact siEq (by unfold minTo minTo; omega)) | exact vz2 | fail)))
  intro k hk _
  by_cases hlt : k < l.length - 1
  · (repeat' (first | (refine ar_isq ?_; first | refine zmv ?_ | refine zas ?_ | (refine is_load ?_; first | refine zlp ?_ | refine zlr ?_) | (refine is_binOp ?_; first | refine zlss ?_ | refine zadd ?_) | (refine is_indexAddr ?_; first | refine zil ?_ | refine zis ?_ | refine zit ?_ | refine zia ?_ | refine zir ?_ | refine zil (j := k + 1) ?_ | refine zis (j := k + 1) ?_ | refine zit (j := k + 1) ?_ | (refine zxl ?_; intro _ _ _) | (refine zxs ?_; intro _ _ _)) | (refine is_call ?_; first | refine zll ?_ | refine zls ?_ | refine zln ?_ | refine zle ?_ | refine zmin ?_)) | (refine ar_nil ?_) | (refine aw_seq ?_) | (refine aw_skip ?_) | (refine aw_block ?_) | (refine aw_exit ?_) | (refine aw_region ?_) | (refine zco ?_ ?_ <;> intro hg <;> first | exact absurd hg (by decide) | ((try replace hg := HG.out hg); (try dsimp only at hg); (try (have _h : True := hg; clear _h hg)); first | (exfalso; omega) | skip))))
    all_goals first
      | (exfalso; omega)
      | ((first | refine loop_next (by omega) ?_ ?_ | refine (show _ ∧ _ ∧ SubOf _ _ _ _ _ _ from And.intro (by omega) (And.intro ?_ ?_))); (focus ((trivial); done)); (focus ((refine sub_to [] [] rfl ?_ ?_ <;> (repeat' (first | exact trivial | refine ⟨⟨_, rfl, ?_⟩, ?_⟩ | refine ⟨bsub_snoc rfl rfl (fun _ => rfl) ?_, ?_⟩ | refine ⟨bsub_one rfl rfl ?_, ?_⟩ | refine ⟨bsub_all rfl rfl (fun _ _ => rfl) (fun _ => rfl), ?_⟩ | refine ⟨bsub_updL rfl rfl ?_ (fun _ _ _ => rfl) (fun _ => rfl), ?_⟩ | refine ⟨.inl ⟨_, _, rfl, rfl, ?_⟩, ?_⟩ | exact ⟨.inr ⟨rfl, rfl⟩, trivial⟩ | refine ⟨.inr ⟨rfl, rfl⟩, ?_⟩ | (intro _ _) | exact vz1 | (exact siEq rfl) | exact vz2 | fail))); done)))
      | trace_state
  · obtain rfl : k = l.length - 1 := by omega
    (repeat' (first | (refine ar_isq ?_; first | refine zmv ?_ | refine zas ?_ | (refine is_load ?_; first | refine zlp ?_ | refine zlr ?_) | (refine is_binOp ?_; first | refine zlss ?_ | refine zadd ?_) | (refine is_indexAddr ?_; first | refine zil ?_ | refine zis ?_ | refine zit ?_ | refine zia ?_ | refine zir ?_ | (refine zxl ?_; intro _ _ _) | (refine zxs ?_; intro _ _ _)) | (refine is_call ?_; first | refine zll ?_ | refine zls ?_ | refine zln ?_ | refine zle ?_ | refine zmin ?_)) | (refine ar_nil ?_) | (refine aw_seq ?_) | (refine aw_skip ?_) | (refine aw_block ?_) | (refine aw_exit ?_) | (refine aw_region ?_) | (refine zco ?_ ?_ <;> intro hg <;> first | exact absurd hg (by decide) | ((try replace hg := HG.out hg); (try dsimp only at hg); (try (have _h : True := hg; clear _h hg)); first | (exfalso; omega) | skip))))
    all_goals first
      | (exfalso; omega)
      | ((refine aw_ret ?_; (repeat (first | refine ret_then ?_ | refine ret_block ?_)); refine bq1 rfl ⟨?_, rfl⟩); unfold minF; rw [show l.length - 1 + 1 = l.length by omega])
      | trace_state
set_option maxRecDepth 20000 in
set_option maxHeartbeats 4000000 in
theorem gap_p (p : Pat) : PCalls Try.prog 11 [p.enc] (· = .tup [vi (if p.err = 0 then p.gap else 0), vi p.err]) := by
  by_cases h0 : p.err = 0
  case neg =>
    rw [if_neg h0]
    refine pcalls_of_aw Try.func11 rfl (Nat.le_of_ble_eq_true rfl) ?_
    (repeat' (first | (refine ar_isq ?_; first | refine zmv ?_ | refine zas ?_ | (refine is_load ?_; first | refine zlp ?_ | refine zlr ?_) | (refine is_binOp ?_; first | refine zlss ?_ | refine zneq ?_ | refine zadd ?_ | refine zsub ?_ | refine zmul ?_) | (refine is_fieldAddr ?_; first | refine zfp ?_ | refine zfr ?_) | (refine is_indexAddr ?_; first | refine zil ?_ | refine zis ?_ | refine zit ?_ | refine zia ?_ | refine zir ?_ | (refine zxl ?_; intro _ _ _) | (refine zxs ?_; intro _ _ _)) | (refine is_call ?_; first | refine zll ?_ | refine zls ?_ | refine zln ?_ | refine zle ?_) | refine zex ?_ | refine zncp ?_ | refine zncr ?_) | (refine ar_pcall (own := false) fn26 rfl rfl (.cons (.closed rfl) .nil) (mounted_p p) (by simp) (dc rfl) ?_; rintro _ (⟨hm, rfl⟩ | ⟨hm, rfl⟩)) | (refine zbx ?_) | (refine zb1 ?_) | (refine zb0 ?_) | (refine zapoo ?_) | (refine zapol ?_) | (refine zapno ?_) | (refine zapnl ?_) | (refine zapeo ?_) | (refine zapel ?_) | (refine ar_nil ?_) | (refine aw_seq ?_) | (refine aw_skip ?_) | (refine aw_block ?_) | (refine aw_exit ?_) | (refine aw_region ?_) | (refine aw_drawn (id := 11) [(0, 0), (1, 0), (2, 0), (3, 0), (4, 0), (5, 0), (6, 0), (7, 0), (8, 0), (9, 0), (10, 0), (11, 0), (12, 0), (13, 0), (14, 0), (15, 0), (19, 0), (16, 1), (17, 0), (18, 0), (20, 0), (21, 0), (22, 0), (23, 1), (24, 1), (25, 0)] mixed (by kernel_rfl) ?_) | (refine zco ?_ ?_ <;> intro hg <;> first | exact absurd hg (by decide) | ((try replace hg := HG.out hg); (try dsimp only at hg); (try (have _h : True := hg; clear _h hg)); first | (exfalso; omega) | skip))))
    all_goals first
      | (exfalso; omega)
      | ((refine aw_ret ?_; (repeat (first | refine ret_then ?_ | refine ret_block ?_)); refine bq2 rfl rfl ⟨?_, rfl⟩); rfl)
      | trace_state
  have hk := pat_ok h0
  obtain ⟨c1, c2⟩ := hk.cuts
  obtain ⟨n1, n2⟩ := hk.steps
  have hll : p.lift.length = p.ros.length := lift_plen
  rw [if_pos h0, h0]
  refine pcalls_of_aw Try.func11 rfl (Nat.le_of_ble_eq_true rfl) ?_
  (repeat' (first | (refine ar_isq ?_; first | refine zmv ?_ | refine zas ?_ | (refine is_load ?_; first | refine zlp ?_ | refine zlr ?_) | (refine is_binOp ?_; first | refine zlss ?_ | refine zneq ?_ | refine zadd ?_ | refine zsub ?_ | refine zmul ?_) | (refine is_fieldAddr ?_; first | refine zfp ?_ | refine zfr ?_) | (refine is_indexAddr ?_; first | refine zil ?_ | refine zis ?_ | refine zit ?_ | refine zia ?_ | refine zir ?_ | (refine zxl ?_; intro _ _ _) | (refine zxs ?_; intro _ _ _)) | (refine is_call ?_; first | refine zll ?_ | refine zls ?_ | refine zln ?_ | refine zle ?_) | refine zex ?_ | refine zncp ?_ | refine zncr ?_) | (refine ar_pcall (own := false) fn26 rfl rfl (.cons (.closed rfl) .nil) (mounted_p p) (by simp) (dc rfl) ?_; rintro _ (⟨hm, rfl⟩ | ⟨hm, rfl⟩)) | (refine zbx ?_) | (refine zb1 ?_) | (refine zb0 ?_) | (refine zapoo ?_) | (refine zapol ?_) | (refine zapno ?_) | (refine zapnl ?_) | (refine zapeo ?_) | (refine zapel ?_) | (refine ar_nil ?_) | (refine aw_seq ?_) | (refine aw_skip ?_) | (refine aw_block ?_) | (refine aw_exit ?_) | (refine aw_region ?_) | (refine aw_drawn (id := 11) [(0, 0), (1, 0), (2, 0), (3, 0), (4, 0), (5, 0), (6, 0), (7, 0), (8, 0), (9, 0), (10, 0), (11, 0), (12, 0), (13, 0), (14, 0), (15, 0), (19, 0), (16, 1), (17, 0), (18, 0), (20, 0), (21, 0), (22, 0), (23, 1), (24, 1), (25, 0)] mixed (by kernel_rfl) ?_) | (refine zco ?_ ?_ <;> intro hg <;> first | exact absurd hg (by decide) | ((try replace hg := HG.out hg); (try dsimp only at hg); (try (have _h : True := hg; clear _h hg)); first | (exfalso; omega) | skip))))
  all_goals (try (exfalso; omega))
  refine aw_for p.shifts.length (fun _ => True) (fun k => [(1, .ptr 6 0 0 0), (4, benchR p), (6, .sl 1 1 0 (gapL p k).length), (20, encInts p.shifts), (21, vi p.shifts.length), (22, vi k)]) (fun k => [.arr 6 1 (fun _ => p.enc), LB 1 vi (gapL p k)]) trivial ?_ ?_
  · (refine sub_to [some 0, none] [] rfl ?_ ?_ <;> (repeat' (first | exact trivial | refine ⟨⟨_, rfl, ?_⟩, ?_⟩ | refine ⟨bsub_snoc rfl rfl (fun _ => rfl) ?_, ?_⟩ | refine ⟨bsub_one rfl rfl ?_, ?_⟩ | refine ⟨bsub_all rfl rfl (fun _ _ => rfl) (fun _ => rfl), ?_⟩ | refine ⟨bsub_updL rfl rfl ?_ (fun _ _ _ => rfl) (fun _ => rfl), ?_⟩ | refine ⟨.inl ⟨_, _, rfl, rfl, ?_⟩, ?_⟩ | exact ⟨.inr ⟨rfl, rfl⟩, trivial⟩ | refine ⟨.inr ⟨rfl, rfl⟩, ?_⟩ | (intro _ _) | exact vz1 | exact vz2 | fail)))
  intro k hkk _
  have hgl := gapL_len p k
  by_cases hlt : k < p.shifts.length
  · (repeat' (first | (refine ar_isq ?_; first | refine zmv ?_ | refine zas ?_ | (refine is_load ?_; first | refine zlp ?_ | refine zlr ?_) | (refine is_binOp ?_; first | refine zlss ?_ | refine zneq ?_ | refine zadd ?_ | refine zsub ?_ | refine zmul ?_) | (refine is_fieldAddr ?_; first | refine zfp ?_ | refine zfr ?_) | (refine is_indexAddr ?_; first | refine zil ?_ | refine zis ?_ | refine zit ?_ | refine zia ?_ | refine zir ?_ | refine zil (j := k) ?_ | refine zis (j := k) ?_ | refine zit (j := k) ?_ | (refine zxl ?_; intro _ _ _) | (refine zxs ?_; intro _ _ _)) | (refine is_call ?_; first | refine zll ?_ | refine zls ?_ | refine zln ?_ | refine zle ?_) | refine zex ?_ | refine zncp ?_ | refine zncr ?_) | (refine zbx ?_) | (refine zb1 ?_) | (refine zb0 ?_) | (refine zapoo ?_) | (refine zapol ?_) | (refine zapno ?_) | (refine zapnl ?_) | (refine zapeo ?_) | (refine zapel ?_) | (refine ar_nil ?_) | (refine aw_seq ?_) | (refine aw_skip ?_) | (refine aw_block ?_) | (refine aw_exit ?_) | (refine aw_region ?_) | (refine aw_drawn (id := 11) [(0, 0), (1, 0), (2, 0), (3, 0), (4, 0), (5, 0), (6, 0), (7, 0), (8, 0), (9, 0), (10, 0), (11, 0), (12, 0), (13, 0), (14, 0), (15, 0), (19, 0), (16, 1), (17, 0), (18, 0), (20, 0), (21, 0), (22, 0), (23, 1), (24, 1), (25, 0)] mixed (by kernel_rfl) ?_) | (refine zco ?_ ?_ <;> intro hg <;> first | exact absurd hg (by decide) | ((try replace hg := HG.out hg); (try dsimp only at hg); (try (have _h : True := hg; clear _h hg)); first | (exfalso; omega) | skip))))
    all_goals (try (exfalso; omega))
    refine aw_for p.ros.length (fun _ => True) (fun i => [(1, .ptr 6 0 0 0), (4, benchR p), (6, .sl 1 1 0 (gapI p k i).length), (8, vi (el p.shifts k)), (20, encInts p.shifts), (21, vi p.shifts.length), (22, vi k), (29, encInts p.lift), (30, vi p.ros.length), (31, vi i)]) (fun i => [.arr 6 1 (fun _ => p.enc), LB 1 vi (gapI p k i)]) trivial ?_ ?_
    · rw [gapI_zero]
      (refine sub_to [some 0, some 1] [] rfl ?_ ?_ <;> (repeat' (first | exact trivial | refine ⟨⟨_, rfl, ?_⟩, ?_⟩ | refine ⟨bsub_snoc rfl rfl (fun _ => rfl) ?_, ?_⟩ | refine ⟨bsub_one rfl rfl ?_, ?_⟩ | refine ⟨bsub_all rfl rfl (fun _ _ => rfl) (fun _ => rfl), ?_⟩ | refine ⟨bsub_updL rfl rfl ?_ (fun _ _ _ => rfl) (fun _ => rfl), ?_⟩ | refine ⟨.inl ⟨_, _, rfl, rfl, ?_⟩, ?_⟩ | exact ⟨.inr ⟨rfl, rfl⟩, trivial⟩ | refine ⟨.inr ⟨rfl, rfl⟩, ?_⟩ | (intro _ _) | exact vz1 | exact vz2 | fail)))
    intro i hi _
    have hil := gapI_len p k i
    have hkn := Nat.mul_le_mul (show k ≤ 12 by omega) n2
    by_cases hlti : i < p.ros.length
    · have hsk := hk.shift k hlt
      have g1 := Int.emod_nonneg ((i : Int) - el p.shifts k) (show (p.ros.length : Int) ≠ 0 by omega)
      have g2 := Int.emod_lt_of_pos ((i : Int) - el p.shifts k) (show (0 : Int) < p.ros.length by omega)
      have hmo : PCalls Try.prog 28 [vi ((i : Int) - el p.shifts k), vi p.ros.length] (· = vi ((((i : Int) - el p.shifts k) % p.ros.length).toNat : Nat)) := by rw [Int.toNat_of_nonneg g1]; exact pmodulo_p _ _ (by omega) (by omega)
      have hx : el p.lift (((i : Int) - el p.shifts k) % p.ros.length).toNat = p.at ((i : Int) - el p.shifts k) := rfl
      have hb := at_bnd hk ((i : Int) - el p.shifts k)
      have hb2 := lift_hb hk hlti
      have hav := hk.adv
      have ht := mul_throw hk (x := p.at ((i : Int) - el p.shifts k) - el p.lift i) (by omega)
      rw [← hx] at hb ht
      (repeat' (first | (refine ar_isq ?_; first | refine zmv ?_ | refine zas ?_ | (refine is_load ?_; first | refine zlp ?_ | refine zlr ?_) | (refine is_binOp ?_; first | refine zlss ?_ | refine zneq ?_ | refine zadd ?_ | refine zsub ?_ | refine zmul ?_) | (refine is_fieldAddr ?_; first | refine zfp ?_ | refine zfr ?_) | (refine is_indexAddr ?_; first | refine zil ?_ | refine zis ?_ | refine zit ?_ | refine zia ?_ | refine zir ?_ | refine zil (j := i) ?_ | refine zis (j := i) ?_ | refine zit (j := i) ?_ | refine zil (j := (((i : Int) - el p.shifts k) % p.ros.length).toNat) ?_ | refine zis (j := (((i : Int) - el p.shifts k) % p.ros.length).toNat) ?_ | refine zit (j := (((i : Int) - el p.shifts k) % p.ros.length).toNat) ?_ | (refine zxl ?_; intro _ _ _) | (refine zxs ?_; intro _ _ _)) | (refine is_call ?_; first | refine zll ?_ | refine zls ?_ | refine zln ?_ | refine zle ?_) | refine zex ?_ | refine zncp ?_ | refine zncr ?_) | (refine ar_pcall (own := false) fn28 rfl rfl (.cons (.closed rfl) (.cons (.closed rfl) .nil)) (hmo) (by simp) (dc rfl) ?_; intro _ hv; subst hv) | (refine zbx ?_) | (refine zb1 ?_) | (refine zb0 ?_) | (refine zapoo ?_) | (refine zapol ?_) | (refine zapno ?_) | (refine zapnl ?_) | (refine zapeo ?_) | (refine zapel ?_) | (refine ar_nil ?_) | (refine aw_seq ?_) | (refine aw_skip ?_) | (refine aw_block ?_) | (refine aw_exit ?_) | (refine aw_region ?_) | (refine aw_drawn (id := 11) [(0, 0), (1, 0), (2, 0), (3, 0), (4, 0), (5, 0), (6, 0), (7, 0), (8, 0), (9, 0), (10, 0), (11, 0), (12, 0), (13, 0), (14, 0), (15, 0), (19, 0), (16, 1), (17, 0), (18, 0), (20, 0), (21, 0), (22, 0), (23, 1), (24, 1), (25, 0)] mixed (by kernel_rfl) ?_) | (refine zco ?_ ?_ <;> intro hg <;> first | exact absurd hg (by decide) | ((try replace hg := HG.out hg); (try dsimp only at hg); (try (have _h : True := hg; clear _h hg)); first | (exfalso; omega) | skip))))
      all_goals first
        | (exfalso; omega)
        | (rw [gapI_succ]; ((first | refine loop_next (by omega) ?_ ?_ | refine (show _ ∧ _ ∧ SubOf _ _ _ _ _ _ from And.intro (by omega) (And.intro ?_ ?_))); (focus ((trivial); done)); (focus ((refine sub_to [some 0, some 3] [] rfl ?_ ?_ <;> (repeat' (first | exact trivial | refine ⟨⟨_, rfl, ?_⟩, ?_⟩ | refine ⟨bsub_snoc rfl rfl (fun _ => rfl) ?_, ?_⟩ | refine ⟨bsub_one rfl rfl ?_, ?_⟩ | refine ⟨bsub_all rfl rfl (fun _ _ => rfl) (fun _ => rfl), ?_⟩ | refine ⟨bsub_updL rfl rfl ?_ (fun _ _ _ => rfl) (fun _ => rfl), ?_⟩ | refine ⟨.inl ⟨_, _, rfl, rfl, ?_⟩, ?_⟩ | exact ⟨.inr ⟨rfl, rfl⟩, trivial⟩ | refine ⟨.inr ⟨rfl, rfl⟩, ?_⟩ | (intro _ _) | exact vz1 | exact vz2 | fail))); done))))
        | trace_state
    · obtain rfl : i = p.ros.length := by omega
      (repeat' (first | (refine ar_isq ?_; first | refine zmv ?_ | refine zas ?_ | (refine is_load ?_; first | refine zlp ?_ | refine zlr ?_) | (refine is_binOp ?_; first | refine zlss ?_ | refine zneq ?_ | refine zadd ?_ | refine zsub ?_ | refine zmul ?_) | (refine is_fieldAddr ?_; first | refine zfp ?_ | refine zfr ?_) | (refine is_indexAddr ?_; first | refine zil ?_ | refine zis ?_ | refine zit ?_ | refine zia ?_ | refine zir ?_ | (refine zxl ?_; intro _ _ _) | (refine zxs ?_; intro _ _ _)) | (refine is_call ?_; first | refine zll ?_ | refine zls ?_ | refine zln ?_ | refine zle ?_) | refine zex ?_ | refine zncp ?_ | refine zncr ?_) | (refine zbx ?_) | (refine zb1 ?_) | (refine zb0 ?_) | (refine zapoo ?_) | (refine zapol ?_) | (refine zapno ?_) | (refine zapnl ?_) | (refine zapeo ?_) | (refine zapel ?_) | (refine ar_nil ?_) | (refine aw_seq ?_) | (refine aw_skip ?_) | (refine aw_block ?_) | (refine aw_exit ?_) | (refine aw_region ?_) | (refine aw_drawn (id := 11) [(0, 0), (1, 0), (2, 0), (3, 0), (4, 0), (5, 0), (6, 0), (7, 0), (8, 0), (9, 0), (10, 0), (11, 0), (12, 0), (13, 0), (14, 0), (15, 0), (19, 0), (16, 1), (17, 0), (18, 0), (20, 0), (21, 0), (22, 0), (23, 1), (24, 1), (25, 0)] mixed (by kernel_rfl) ?_) | (refine zco ?_ ?_ <;> intro hg <;> first | exact absurd hg (by decide) | ((try replace hg := HG.out hg); (try dsimp only at hg); (try (have _h : True := hg; clear _h hg)); first | (exfalso; omega) | skip))))
      all_goals first
        | (exfalso; omega)
        | (rw [gapI_all]; ((first | refine loop_next (by omega) ?_ ?_ | refine (show _ ∧ _ ∧ SubOf _ _ _ _ _ _ from And.intro (by omega) (And.intro ?_ ?_))); (focus ((trivial); done)); (focus ((refine sub_to [some 0, some 1] [] rfl ?_ ?_ <;> (repeat' (first | exact trivial | refine ⟨⟨_, rfl, ?_⟩, ?_⟩ | refine ⟨bsub_snoc rfl rfl (fun _ => rfl) ?_, ?_⟩ | refine ⟨bsub_one rfl rfl ?_, ?_⟩ | refine ⟨bsub_all rfl rfl (fun _ _ => rfl) (fun _ => rfl), ?_⟩ | refine ⟨bsub_updL rfl rfl ?_ (fun _ _ _ => rfl) (fun _ => rfl), ?_⟩ | refine ⟨.inl ⟨_, _, rfl, rfl, ?_⟩, ?_⟩ | exact ⟨.inr ⟨rfl, rfl⟩, trivial⟩ | refine ⟨.inr ⟨rfl, rfl⟩, ?_⟩ | (intro _ _) | exact vz1 | exact vz2 | fail))); done))))
        | trace_state
  · obtain rfl : k = p.shifts.length := by omega
    have hpos : 0 < (gapL p p.shifts.length).length := by rw [hgl]; exact Nat.mul_pos (by omega) (by omega)
    have hmin := min_p (gapL p p.shifts.length) hpos
    (repeat' (first | (refine ar_isq ?_; first | refine zmv ?_ | refine zas ?_ | (refine is_load ?_; first | refine zlp ?_ | refine zlr ?_) | (refine is_binOp ?_; first | refine zlss ?_ | refine zneq ?_ | refine zadd ?_ | refine zsub ?_ | refine zmul ?_) | (refine is_fieldAddr ?_; first | refine zfp ?_ | refine zfr ?_) | (refine is_indexAddr ?_; first | refine zil ?_ | refine zis ?_ | refine zit ?_ | refine zia ?_ | refine zir ?_ | (refine zxl ?_; intro _ _ _) | (refine zxs ?_; intro _ _ _)) | (refine is_call ?_; first | refine zll ?_ | refine zls ?_ | refine zln ?_ | refine zle ?_) | refine zex ?_ | refine zncp ?_ | refine zncr ?_) | (((refine ar_subk_l (sub_frzL (t := 63) vi (gapL p p.shifts.length) rfl rfl rfl rfl (fun _ _ => rfl) (fun _ => rfl)) ?_); refine ar_pcall (own := false) fn30 rfl rfl (.cons (.closed rfl) .nil) (hmin) (by simp) (dc rfl) ?_; intro _ hv; subst hv)) | (refine zbx ?_) | (refine zb1 ?_) | (refine zb0 ?_) | (refine zapoo ?_) | (refine zapol ?_) | (refine zapno ?_) | (refine zapnl ?_) | (refine zapeo ?_) | (refine zapel ?_) | (refine ar_nil ?_) | (refine aw_seq ?_) | (refine aw_skip ?_) | (refine aw_block ?_) | (refine aw_exit ?_) | (refine aw_region ?_) | (refine aw_drawn (id := 11) [(0, 0), (1, 0), (2, 0), (3, 0), (4, 0), (5, 0), (6, 0), (7, 0), (8, 0), (9, 0), (10, 0), (11, 0), (12, 0), (13, 0), (14, 0), (15, 0), (19, 0), (16, 1), (17, 0), (18, 0), (20, 0), (21, 0), (22, 0), (23, 1), (24, 1), (25, 0)] mixed (by kernel_rfl) ?_) | (refine zco ?_ ?_ <;> intro hg <;> first | exact absurd hg (by decide) | ((try replace hg := HG.out hg); (try dsimp only at hg); (try (have _h : True := hg; clear _h hg)); first | (exfalso; omega) | skip))))
    all_goals first
      | (exfalso; omega)
      | ((refine aw_ret ?_; (repeat (first | refine ret_then ?_ | refine ret_block ?_)); refine bq2 rfl rfl ⟨?_, rfl⟩); unfold Pat.gap; rw [gapL_all]; rfl)
      | trace_state
def euS (a b : Nat) : Nat → Nat × Nat
  | 0 => (a, b)
  | k + 1 => ((euS a b k).2, (euS a b k).1 % (euS a b k).2)
theorem eu_gcd (a b : Nat) : ∀ k, Nat.gcd (euS a b k).1 (euS a b k).2 = Nat.gcd a b
  | 0 => rfl
  | k + 1 => by
    rw [← eu_gcd a b k]
    show Nat.gcd (euS a b k).2 ((euS a b k).1 % (euS a b k).2) = _
    rw [Nat.gcd_comm, ← Nat.gcd_rec, Nat.gcd_comm]
theorem eu_less (a b : Nat) : ∀ k, (∀ j, j < k → (euS a b j).2 ≠ 0) → (euS a b k).2 + k ≤ b
  | 0, _ => Nat.le_refl _
  | k + 1, h => by
    have h1 := eu_less a b k fun j hj => h j (by omega)
    have h2 := Nat.mod_lt (euS a b k).1 (show 0 < (euS a b k).2 from Nat.pos_of_ne_zero (h k (by omega)))
    show (euS a b k).1 % (euS a b k).2 + (k + 1) ≤ b
    omega
theorem eu_end (a b : Nat) : ∃ k, (euS a b k).2 = 0 ∧ ∀ j, j < k → (euS a b j).2 ≠ 0 := by
  by_cases h : ∃ k, (euS a b k).2 = 0
  · obtain ⟨k, hk⟩ := h
    obtain ⟨d, h1, _, h2⟩ := least_nat (P := fun k => (euS a b k).2 = 0) k hk
    exact ⟨d, h1, h2⟩
  · have := eu_less a b (b + 1) fun j _ hj => h ⟨j, hj⟩
    omega
end Go.Proofs.Ytloaefllpokkaaa
