/- Parts of the proof: a layer of values over the model, and contracts of functions. No condition. -/
import Derived.Test.YtbilpbabdgfblaaKXu4
set_option linter.unusedSimpArgs false
set_option linter.unusedVariables false
namespace Go.Proofs.Ytbilpbabdgfblaa
open Go.RowKit
structure Clash where
  upper : Int
  lower : Int
  col : Int
instance : Inhabited Clash := ⟨⟨0, 0, 0⟩⟩
def Clash.enc (x : Clash) : V := .agg [vi x.upper, vi x.lower, vi x.col]
abbrev encClashes (l : List Clash) : V := LV 3 Clash.enc l
def nearAt (s : Sheet) (a b : List Int) (j : Nat) : Bool := decide (el b j - el a j < s.weight + s.clear)
def clashF (s : Sheet) (a b : List Int) : Int := match (List.range s.cols.toNat).find? (nearAt s a b) with | some j => (j : Int) | none => -1
theorem clashF_at {s : Sheet} {a b : List Int} {k : Nat} (hk : (k : Int) < s.cols) (h0 : ∀ j, j < k → nearAt s a b j = false) (h : nearAt s a b k = true) : clashF s a b = k := by
  have : (List.range s.cols.toNat).find? (nearAt s a b) = some k := by
    rw [List.find?_range_eq_some]
    exact ⟨h, by simp; omega, fun j hj => by simp [h0 j hj]⟩
  unfold clashF
  rw [this]
theorem clashF_none {s : Sheet} {a b : List Int} (h0 : ∀ j : Nat, (j : Int) < s.cols → nearAt s a b j = false) : clashF s a b = -1 := by
  have : (List.range s.cols.toNat).find? (nearAt s a b) = none := by
    rw [List.find?_eq_none]
    intro j hj
    rw [List.mem_range] at hj
    simp [h0 j (by omega)]
  unfold clashF
  rw [this]
def clashAt (s : Sheet) (b : List (List Int)) (i : Nat) : List Clash := if clashF s (el b i) (el b (i + 1)) < 0 then [] else [⟨i, (i : Int) + 1, clashF s (el b i) (el b (i + 1))⟩]
def clashesTo (s : Sheet) (b : List (List Int)) (k : Nat) : List Clash := (List.range k).flatMap (clashAt s b)
theorem clashesTo_succ (s : Sheet) (b : List (List Int)) (k : Nat) : clashesTo s b (k + 1) = clashesTo s b k ++ clashAt s b k := by simp [clashesTo, List.range_succ]
theorem clashesTo_len (s : Sheet) (b : List (List Int)) : ∀ k, (clashesTo s b k).length ≤ k
  | 0 => by simp [clashesTo]
  | k + 1 => by
    rw [clashesTo_succ, List.length_append]
    have := clashesTo_len s b k
    have : (clashAt s b k).length ≤ 1 := by unfold clashAt; split <;> simp
    omega
def clashesF (s : Sheet) (b : List (List Int)) : List Clash := clashesTo s b (b.length - 1)
theorem clashesTo_yes {s : Sheet} {b : List (List Int)} {k x : Nat} (hx : (x : Int) < s.cols) (h0 : ∀ j, j < x → nearAt s (el b k) (el b (k + 1)) j = false) (h : nearAt s (el b k) (el b (k + 1)) x = true) : clashesTo s b (k + 1) = clashesTo s b k ++ [⟨k, (k : Int) + 1, x⟩] := by
  have e := clashF_at hx h0 h
  rw [clashesTo_succ, clashAt, if_neg (by omega), e]
theorem clashesTo_no {s : Sheet} {b : List (List Int)} {k : Nat} (h0 : ∀ j : Nat, (j : Int) < s.cols → nearAt s (el b k) (el b (k + 1)) j = false) : clashesTo s b (k + 1) = clashesTo s b k := by
  have e := clashF_none h0
  rw [clashesTo_succ, clashAt, if_pos (by omega), List.append_nil]
theorem isLine_len {s : Sheet} {l : List Int} (h : isLineB s l = true) : (l.length : Int) = s.cols := (isLineB_iff.1 h).1
theorem isLine_at {s : Sheet} {l : List Int} (h : isLineB s l = true) {j : Nat} (hj : j < l.length) : 0 ≤ el l j ∧ el l j ≤ s.rows - s.weight := (lineAt_iff.1 ((isLineB_iff.1 h).2 j hj)).1
set_option maxHeartbeats 1000000 in
theorem clashes_p (s : Sheet) (hs : s.ok = true) (b : List (List Int)) (hl : b.all (isLineB s) = true) (h12 : b.length ≤ 12) : PCalls Try.prog 92 [s.enc, encRows b] (· = encClashes (clashesF s b)) := by
  have hb := Sheet.bounds hs
  refine pcalls_of_aw Try.func92 rfl (Nat.le_of_ble_eq_true rfl) ?_
  (repeat' (first | (refine ar_isq ?_; first | refine zmv ?_ | refine zas ?_ | (refine is_load ?_; first | refine zlp ?_ | refine zlr ?_) | (refine is_binOp ?_; first | refine zlss ?_ | refine zadd ?_ | refine zsub ?_) | (refine is_fieldAddr ?_; first | refine zfp ?_ | refine zfr ?_) | (refine is_indexAddr ?_; first | refine zil ?_ | refine zis ?_ | refine zit ?_ | refine zia ?_ | refine zir ?_ | (refine zxl ?_; intro _ _ _) | (refine zxs ?_; intro _ _ _)) | (refine is_call ?_; first | refine zll ?_ | refine zls ?_ | refine zln ?_ | refine zle ?_) | (refine ar_buildS (ds := ?ds) (by exact ty rfl) (by exact rfl) (by exact sizes rfl) (by exact rfl) (by exact rfl) (by exact build rfl) (by exact dc rfl) ?hn ?h; (case hn => (dsimp only [cells_s, cells_emp, cells_agg, cells_list, cells_sl, cells_ptr, cells_ref, cells_fn, cells_vi, cells_vb, cells_vnil, constV, List.map_cons, List.map_nil, List.take_succ_cons, List.take_zero, List.drop_succ_cons, List.drop_zero, List.cons_append, List.nil_append, List.append_nil, LV_cells]; exact rfl)))) | (refine zbx ?_) | (refine zb1 ?_) | (refine zb0 ?_) | (refine zapoo ?_) | (refine zapol ?_) | (refine zapno ?_) | (refine zapnl ?_) | (refine zapeo ?_) | (refine zapel ?_) | (refine ar_nil ?_) | (refine aw_seq ?_) | (refine aw_skip ?_) | (refine aw_block ?_) | (refine aw_exit ?_) | (refine aw_region ?_) | (refine aw_drawn (id := 8) [(0, 0), (1, 0), (2, 0), (3, 0), (4, 0), (5, 0), (6, 0), (7, 0), (8, 0), (9, 0), (10, 0), (11, 0), (12, 0), (13, 0), (14, 0), (15, 0)] mixed (by kernel_rfl) ?_) | (refine zco ?_ ?_ <;> intro hg <;> first | exact absurd hg (by decide) | ((try replace hg := HG.out hg); (try dsimp only at hg); (try (have _h : True := hg; clear _h hg)); first | (exfalso; omega) | skip))))
  refine aw_for (b.length - 1) (fun _ => True) (fun k => [(1, encRows b), (2, .ptr 5 0 0 0), (5, .sl 3 1 0 (clashesTo s b k).length), (6, vi (k + 1))]) (fun k => [.arr 5 1 (fun _ => s.enc), LB 3 Clash.enc (clashesTo s b k)]) trivial ?_ ?_
  · (refine sub_to [some 0, none] [] rfl ?_ ?_ <;> (repeat' (first | exact trivial | refine ⟨⟨_, rfl, ?_⟩, ?_⟩ | refine ⟨bsub_snoc rfl rfl (fun _ => rfl) ?_, ?_⟩ | refine ⟨bsub_one rfl rfl ?_, ?_⟩ | refine ⟨bsub_all rfl rfl (fun _ _ => rfl) (fun _ => rfl), ?_⟩ | refine ⟨bsub_updL rfl rfl ?_ (fun _ _ _ => rfl) (fun _ => rfl), ?_⟩ | refine ⟨.inl ⟨_, _, rfl, rfl, ?_⟩, ?_⟩ | exact ⟨.inr ⟨rfl, rfl⟩, trivial⟩ | refine ⟨.inr ⟨rfl, rfl⟩, ?_⟩ | (intro _ _) | exact vz1 | exact vz2 | fail)))
  intro k hk _
  by_cases hlt : k + 1 < b.length
  · have hli := isLine_len (of_all_el hl hlt)
    have hlj := isLine_len (of_all_el hl (k := k) (by omega))
    have hle := clashesTo_len s b k
    (repeat' (first | (refine ar_isq ?_; first | refine zmv ?_ | refine zas ?_ | (refine is_load ?_; first | refine zlp ?_ | refine zlr ?_) | (refine is_binOp ?_; first | refine zlss ?_ | refine zadd ?_ | refine zsub ?_) | (refine is_fieldAddr ?_; first | refine zfp ?_ | refine zfr ?_) | (refine is_indexAddr ?_; first | refine zil ?_ | refine zis ?_ | refine zit ?_ | refine zia ?_ | refine zir ?_ | refine zil (j := k + 1) ?_ | refine zis (j := k + 1) ?_ | refine zit (j := k + 1) ?_ | refine zil (j := k) ?_ | refine zis (j := k) ?_ | refine zit (j := k) ?_ | (refine zxl ?_; intro _ _ _) | (refine zxs ?_; intro _ _ _)) | (refine is_call ?_; first | refine zll ?_ | refine zls ?_ | refine zln ?_ | refine zle ?_) | (refine ar_buildS (ds := ?ds) (by exact ty rfl) (by exact rfl) (by exact sizes rfl) (by exact rfl) (by exact rfl) (by exact build rfl) (by exact dc rfl) ?hn ?h; (case hn => (dsimp only [cells_s, cells_emp, cells_agg, cells_list, cells_sl, cells_ptr, cells_ref, cells_fn, cells_vi, cells_vb, cells_vnil, constV, List.map_cons, List.map_nil, List.take_succ_cons, List.take_zero, List.drop_succ_cons, List.drop_zero, List.cons_append, List.nil_append, List.append_nil, LV_cells]; exact rfl)))) | (refine zbx ?_) | (refine zb1 ?_) | (refine zb0 ?_) | (refine zapoo ?_) | (refine zapol ?_) | (refine zapno ?_) | (refine zapnl ?_) | (refine zapeo ?_) | (refine zapel ?_) | (refine ar_nil ?_) | (refine aw_seq ?_) | (refine aw_skip ?_) | (refine aw_block ?_) | (refine aw_exit ?_) | (refine aw_region ?_) | (refine aw_drawn (id := 8) [(0, 0), (1, 0), (2, 0), (3, 0), (4, 0), (5, 0), (6, 0), (7, 0), (8, 0), (9, 0), (10, 0), (11, 0), (12, 0), (13, 0), (14, 0), (15, 0)] mixed (by kernel_rfl) ?_) | (refine zco ?_ ?_ <;> intro hg <;> first | exact absurd hg (by decide) | ((try replace hg := HG.out hg); (try dsimp only at hg); (try (have _h : True := hg; clear _h hg)); first | (exfalso; omega) | skip))))
    all_goals (try (exfalso; omega))
    refine aw_for (el b (k + 1)).length (fun x => ∀ j, j < x → nearAt s (el b k) (el b (k + 1)) j = false) (fun x => [(1, encRows b), (2, .ptr 5 0 0 0), (5, .sl 3 1 0 (clashesTo s b k).length), (6, vi (k + 1)), (18, encInts (el b (k + 1))), (19, vi (el b (k + 1)).length), (20, vi x)]) (fun _ => [.arr 5 1 (fun _ => s.enc), LB 3 Clash.enc (clashesTo s b k)]) (fun j hj => by omega) ?_ ?_
    · (refine sub_to [some 0, some 1] [] rfl ?_ ?_ <;> (repeat' (first | exact trivial | refine ⟨⟨_, rfl, ?_⟩, ?_⟩ | refine ⟨bsub_snoc rfl rfl (fun _ => rfl) ?_, ?_⟩ | refine ⟨bsub_one rfl rfl ?_, ?_⟩ | refine ⟨bsub_all rfl rfl (fun _ _ => rfl) (fun _ => rfl), ?_⟩ | refine ⟨bsub_updL rfl rfl ?_ (fun _ _ _ => rfl) (fun _ => rfl), ?_⟩ | refine ⟨.inl ⟨_, _, rfl, rfl, ?_⟩, ?_⟩ | exact ⟨.inr ⟨rfl, rfl⟩, trivial⟩ | refine ⟨.inr ⟨rfl, rfl⟩, ?_⟩ | (intro _ _) | exact vz1 | exact vz2 | fail)))
    intro x hx hN
    by_cases hltx : x < (el b (k + 1)).length
    · have h1 := isLine_at (of_all_el hl hlt) (j := x) (by omega)
      have h2 := isLine_at (of_all_el hl (k := k) (by omega)) (j := x) (by omega)
      (repeat' (first | (refine ar_isq ?_; first | refine zmv ?_ | refine zas ?_ | (refine is_load ?_; first | refine zlp ?_ | refine zlr ?_) | (refine is_binOp ?_; first | refine zlss ?_ | refine zadd ?_ | refine zsub ?_) | (refine is_fieldAddr ?_; first | refine zfp ?_ | refine zfr ?_) | (refine is_indexAddr ?_; first | refine zil ?_ | refine zis ?_ | refine zit ?_ | refine zia ?_ | refine zir ?_ | refine zil (j := k) ?_ | refine zis (j := k) ?_ | refine zit (j := k) ?_ | refine zil (j := x) ?_ | refine zis (j := x) ?_ | refine zit (j := x) ?_ | (refine zxl ?_; intro _ _ _) | (refine zxs ?_; intro _ _ _)) | (refine is_call ?_; first | refine zll ?_ | refine zls ?_ | refine zln ?_ | refine zle ?_) | (refine ar_buildS (ds := ?ds) (by exact ty rfl) (by exact rfl) (by exact sizes rfl) (by exact rfl) (by exact rfl) (by exact build rfl) (by exact dc rfl) ?hn ?h; (case hn => (dsimp only [cells_s, cells_emp, cells_agg, cells_list, cells_sl, cells_ptr, cells_ref, cells_fn, cells_vi, cells_vb, cells_vnil, constV, List.map_cons, List.map_nil, List.take_succ_cons, List.take_zero, List.drop_succ_cons, List.drop_zero, List.cons_append, List.nil_append, List.append_nil, LV_cells]; exact rfl)))) | (refine zbx ?_) | (refine zb1 ?_) | (refine zb0 ?_) | (refine zapoo ?_) | (refine zapol ?_) | (refine zapno ?_) | (refine zapnl ?_) | (refine zapeo ?_) | (refine zapel ?_) | (refine ar_nil ?_) | (refine aw_seq ?_) | (refine aw_skip ?_) | (refine aw_block ?_) | (refine aw_exit ?_) | (refine aw_region ?_) | (refine aw_drawn (id := 8) [(0, 0), (1, 0), (2, 0), (3, 0), (4, 0), (5, 0), (6, 0), (7, 0), (8, 0), (9, 0), (10, 0), (11, 0), (12, 0), (13, 0), (14, 0), (15, 0)] mixed (by kernel_rfl) ?_) | (refine zco ?_ ?_ <;> intro hg <;> first | exact absurd hg (by decide) | ((try replace hg := HG.out hg); (try dsimp only at hg); (try (have _h : True := hg; clear _h hg)); first | (exfalso; omega) | skip))))
      all_goals first
        | (exfalso; omega)
        | (((first | refine loop_next (by omega) ?_ ?_ | refine (show _ ∧ _ ∧ SubOf _ _ _ _ _ _ from And.intro (by omega) (And.intro ?_ ?_))); (focus ((exact all_step hN (by simp [nearAt]; omega)); done)); (focus ((refine sub_to [some 0, some 1] [] rfl ?_ ?_ <;> (repeat' (first | exact trivial | refine ⟨⟨_, rfl, ?_⟩, ?_⟩ | refine ⟨bsub_snoc rfl rfl (fun _ => rfl) ?_, ?_⟩ | refine ⟨bsub_one rfl rfl ?_, ?_⟩ | refine ⟨bsub_all rfl rfl (fun _ _ => rfl) (fun _ => rfl), ?_⟩ | refine ⟨bsub_updL rfl rfl ?_ (fun _ _ _ => rfl) (fun _ => rfl), ?_⟩ | refine ⟨.inl ⟨_, _, rfl, rfl, ?_⟩, ?_⟩ | exact ⟨.inr ⟨rfl, rfl⟩, trivial⟩ | refine ⟨.inr ⟨rfl, rfl⟩, ?_⟩ | (intro _ _) | exact vz1 | exact vz2 | fail))); done))))
        | (rw [clashesTo_yes (x := x) (by omega) hN (by simp [nearAt]; omega)]; ((first | refine loop_next (by omega) ?_ ?_ | refine (show _ ∧ _ ∧ SubOf _ _ _ _ _ _ from And.intro (by omega) (And.intro ?_ ?_))); (focus ((trivial); done)); (focus ((refine sub_to [some 0, some 3] [] rfl ?_ ?_ <;> (repeat' (first | exact trivial | refine ⟨⟨_, rfl, ?_⟩, ?_⟩ | refine ⟨bsub_snoc rfl rfl (fun _ => rfl) ?_, ?_⟩ | refine ⟨bsub_one rfl rfl ?_, ?_⟩ | refine ⟨bsub_all rfl rfl (fun _ _ => rfl) (fun _ => rfl), ?_⟩ | refine ⟨bsub_updL rfl rfl ?_ (fun _ _ _ => rfl) (fun _ => rfl), ?_⟩ | refine ⟨.inl ⟨_, _, rfl, rfl, ?_⟩, ?_⟩ | exact ⟨.inr ⟨rfl, rfl⟩, trivial⟩ | refine ⟨.inr ⟨rfl, rfl⟩, ?_⟩ | (intro _ _) | exact vz1 | exact vz2 | fail))); done))))
    · (repeat' (first | (refine ar_isq ?_; first | refine zmv ?_ | refine zas ?_ | (refine is_load ?_; first | refine zlp ?_ | refine zlr ?_) | (refine is_binOp ?_; first | refine zlss ?_ | refine zadd ?_ | refine zsub ?_) | (refine is_fieldAddr ?_; first | refine zfp ?_ | refine zfr ?_) | (refine is_indexAddr ?_; first | refine zil ?_ | refine zis ?_ | refine zit ?_ | refine zia ?_ | refine zir ?_ | (refine zxl ?_; intro _ _ _) | (refine zxs ?_; intro _ _ _)) | (refine is_call ?_; first | refine zll ?_ | refine zls ?_ | refine zln ?_ | refine zle ?_) | (refine ar_buildS (ds := ?ds) (by exact ty rfl) (by exact rfl) (by exact sizes rfl) (by exact rfl) (by exact rfl) (by exact build rfl) (by exact dc rfl) ?hn ?h; (case hn => (dsimp only [cells_s, cells_emp, cells_agg, cells_list, cells_sl, cells_ptr, cells_ref, cells_fn, cells_vi, cells_vb, cells_vnil, constV, List.map_cons, List.map_nil, List.take_succ_cons, List.take_zero, List.drop_succ_cons, List.drop_zero, List.cons_append, List.nil_append, List.append_nil, LV_cells]; exact rfl)))) | (refine zbx ?_) | (refine zb1 ?_) | (refine zb0 ?_) | (refine zapoo ?_) | (refine zapol ?_) | (refine zapno ?_) | (refine zapnl ?_) | (refine zapeo ?_) | (refine zapel ?_) | (refine ar_nil ?_) | (refine aw_seq ?_) | (refine aw_skip ?_) | (refine aw_block ?_) | (refine aw_exit ?_) | (refine aw_region ?_) | (refine aw_drawn (id := 8) [(0, 0), (1, 0), (2, 0), (3, 0), (4, 0), (5, 0), (6, 0), (7, 0), (8, 0), (9, 0), (10, 0), (11, 0), (12, 0), (13, 0), (14, 0), (15, 0)] mixed (by kernel_rfl) ?_) | (refine zco ?_ ?_ <;> intro hg <;> first | exact absurd hg (by decide) | ((try replace hg := HG.out hg); (try dsimp only at hg); (try (have _h : True := hg; clear _h hg)); first | (exfalso; omega) | skip))))
      all_goals first
        | (exfalso; omega)
        | (rw [clashesTo_no (k := k) fun j hj => hN j (by omega)]; ((first | refine loop_next (by omega) ?_ ?_ | refine (show _ ∧ _ ∧ SubOf _ _ _ _ _ _ from And.intro (by omega) (And.intro ?_ ?_))); (focus ((trivial); done)); (focus ((refine sub_to [some 0, some 1] [] rfl ?_ ?_ <;> (repeat' (first | exact trivial | refine ⟨⟨_, rfl, ?_⟩, ?_⟩ | refine ⟨bsub_snoc rfl rfl (fun _ => rfl) ?_, ?_⟩ | refine ⟨bsub_one rfl rfl ?_, ?_⟩ | refine ⟨bsub_all rfl rfl (fun _ _ => rfl) (fun _ => rfl), ?_⟩ | refine ⟨bsub_updL rfl rfl ?_ (fun _ _ _ => rfl) (fun _ => rfl), ?_⟩ | refine ⟨.inl ⟨_, _, rfl, rfl, ?_⟩, ?_⟩ | exact ⟨.inr ⟨rfl, rfl⟩, trivial⟩ | refine ⟨.inr ⟨rfl, rfl⟩, ?_⟩ | (intro _ _) | exact vz1 | exact vz2 | fail))); done))))
  · (repeat' (first | (refine ar_isq ?_; first | refine zmv ?_ | refine zas ?_ | (refine is_load ?_; first | refine zlp ?_ | refine zlr ?_) | (refine is_binOp ?_; first | refine zlss ?_ | refine zadd ?_ | refine zsub ?_) | (refine is_fieldAddr ?_; first | refine zfp ?_ | refine zfr ?_) | (refine is_indexAddr ?_; first | refine zil ?_ | refine zis ?_ | refine zit ?_ | refine zia ?_ | refine zir ?_ | (refine zxl ?_; intro _ _ _) | (refine zxs ?_; intro _ _ _)) | (refine is_call ?_; first | refine zll ?_ | refine zls ?_ | refine zln ?_ | refine zle ?_) | (refine ar_buildS (ds := ?ds) (by exact ty rfl) (by exact rfl) (by exact sizes rfl) (by exact rfl) (by exact rfl) (by exact build rfl) (by exact dc rfl) ?hn ?h; (case hn => (dsimp only [cells_s, cells_emp, cells_agg, cells_list, cells_sl, cells_ptr, cells_ref, cells_fn, cells_vi, cells_vb, cells_vnil, constV, List.map_cons, List.map_nil, List.take_succ_cons, List.take_zero, List.drop_succ_cons, List.drop_zero, List.cons_append, List.nil_append, List.append_nil, LV_cells]; exact rfl)))) | (refine zbx ?_) | (refine zb1 ?_) | (refine zb0 ?_) | (refine zapoo ?_) | (refine zapol ?_) | (refine zapno ?_) | (refine zapnl ?_) | (refine zapeo ?_) | (refine zapel ?_) | (refine ar_nil ?_) | (refine aw_seq ?_) | (refine aw_skip ?_) | (refine aw_block ?_) | (refine aw_exit ?_) | (refine aw_region ?_) | (refine aw_drawn (id := 8) [(0, 0), (1, 0), (2, 0), (3, 0), (4, 0), (5, 0), (6, 0), (7, 0), (8, 0), (9, 0), (10, 0), (11, 0), (12, 0), (13, 0), (14, 0), (15, 0)] mixed (by kernel_rfl) ?_) | (refine zco ?_ ?_ <;> intro hg <;> first | exact absurd hg (by decide) | ((try replace hg := HG.out hg); (try dsimp only at hg); (try (have _h : True := hg; clear _h hg)); first | (exfalso; omega) | skip))))
    all_goals first
      | (exfalso; omega)
      | ((refine aw_mono_r (env' := [(4, encClashes (clashesTo s b k))]) (H' := []) ?_ ?_; (focus ((refine sub_to [] [1] rfl ?_ ?_ <;> (repeat' (first | exact trivial | refine ⟨⟨_, rfl, ?_⟩, ?_⟩ | refine ⟨bsub_snoc rfl rfl (fun _ => rfl) ?_, ?_⟩ | refine ⟨bsub_one rfl rfl ?_, ?_⟩ | refine ⟨bsub_all rfl rfl (fun _ _ => rfl) (fun _ => rfl), ?_⟩ | refine ⟨bsub_updL rfl rfl ?_ (fun _ _ _ => rfl) (fun _ => rfl), ?_⟩ | refine ⟨.inl ⟨_, _, rfl, rfl, ?_⟩, ?_⟩ | exact ⟨.inr ⟨rfl, rfl⟩, trivial⟩ | refine ⟨.inr ⟨rfl, rfl⟩, ?_⟩ | (intro _ _) | exact vz1 | exact vz2 | fail))); done))); (refine aw_ret ?_; (repeat (first | refine ret_then ?_ | refine ret_block ?_)); refine bq1 rfl ⟨?_, rfl⟩); rw [show k = b.length - 1 by omega]; rfl)
end Go.Proofs.Ytbilpbabdgfblaa
namespace Go.Proofs.Ytbilpbabdgfblaa
open Go.RowKit
set_option maxHeartbeats 400000 in
theorem rwithin_p (n lo hi : Int) : PCalls Try.prog 102 [vi n, vi lo, vi hi] (· = vb (withinB n lo hi)) := by
  refine pcalls_of_aw Try.func102 rfl (Nat.le_of_ble_eq_true rfl) ?_
  (repeat' (first | (refine ar_isq ?_; first | refine zmv ?_ | refine zas ?_ | (refine is_binOp ?_; first | refine zleq ?_ | refine zgeq ?_) | (refine is_pick ?_; first | refine zpt ?_ | refine zpf ?_)) | (refine zg ?_ ?_ <;> intro hg <;> first | exact absurd hg (by decide) | ((try replace hg := HG.out hg); (try dsimp only at hg); (try rw [withinB_iff] at hg); (try rw [withinB_no] at hg); (try (have _h : True := hg; clear _h hg)); first | (exfalso; omega) | skip)) | (refine zgu ?_) | (refine ar_nil ?_) | (refine aw_seq ?_) | (refine aw_skip ?_) | (refine aw_block ?_) | (refine aw_exit ?_) | (refine aw_region ?_) | (refine zco ?_ ?_ <;> intro hg <;> first | exact absurd hg (by decide) | ((try replace hg := HG.out hg); (try dsimp only at hg); (try rw [withinB_iff] at hg); (try rw [withinB_no] at hg); (try (have _h : True := hg; clear _h hg)); first | (exfalso; omega) | skip))))
  all_goals (refine aw_ret ?_; (repeat (first | refine ret_then ?_ | refine ret_block ?_)); refine bq1 rfl ⟨?_, rfl⟩)
  all_goals (simp only [vb, constV, withinB]; congr 2; simp; try omega)
set_option maxHeartbeats 400000 in
theorem rSheet_p (s : Sheet) : PCalls Try.prog 93 [s.enc] (· = vb s.ok) := by
  refine pcalls_of_aw Try.func93 rfl (Nat.le_of_ble_eq_true rfl) ?_
  (repeat' (first | (refine ar_isq ?_; first | refine zmv ?_ | refine zas ?_ | (refine is_load ?_; first | refine zlp ?_ | refine zlr ?_) | (refine is_fieldAddr ?_; first | refine zfp ?_ | refine zfr ?_) | (refine is_pick ?_; first | refine zpt ?_ | refine zpf ?_)) | (refine ar_pcall (own := false) fn102 rfl rfl (.cons (.closed rfl) (.cons (.closed rfl) (.cons (.closed rfl) .nil))) (rwithin_p _ _ _) (by simp) (dc rfl) ?_; intro _ hv; subst hv) | (refine zbx ?_) | (refine zg ?_ ?_ <;> intro hg <;> first | exact absurd hg (by decide) | ((try replace hg := HG.out hg); (try dsimp only at hg); (try rw [withinB_iff] at hg); (try rw [withinB_no] at hg); (try (have _h : True := hg; clear _h hg)); first | (exfalso; omega) | skip)) | (refine zgu ?_) | (refine ar_nil ?_) | (refine aw_seq ?_) | (refine aw_skip ?_) | (refine aw_block ?_) | (refine aw_exit ?_) | (refine aw_region ?_) | (refine zco ?_ ?_ <;> intro hg <;> first | exact absurd hg (by decide) | ((try replace hg := HG.out hg); (try dsimp only at hg); (try rw [withinB_iff] at hg); (try rw [withinB_no] at hg); (try (have _h : True := hg; clear _h hg)); first | (exfalso; omega) | skip))))
  all_goals (refine aw_ret ?_; (repeat (first | refine ret_then ?_ | refine ret_block ?_)); refine bq1 rfl ⟨?_, rfl⟩)
  all_goals (simp only [vb, constV, Sheet.ok, withinB]; congr 2; simp; try omega)
set_option maxHeartbeats 400000 in
theorem rCheckSheet_p (s : Sheet) : PCalls Try.prog 79 [s.enc] (· = vi s.err) := by
  refine pcalls_of_aw Try.func79 rfl (Nat.le_of_ble_eq_true rfl) ?_
  (repeat' (first | (refine ar_isq ?_; first | refine zas ?_ | (refine is_load ?_; first | refine zlp ?_ | refine zlr ?_) | refine znt ?_) | (refine ar_pcall (own := false) fn93 rfl rfl (.cons (.closed rfl) .nil) (rSheet_p _) (by simp) (dc rfl) ?_; intro _ hv; subst hv) | (refine zbx ?_) | (refine ar_nil ?_) | (refine aw_seq ?_) | (refine aw_skip ?_) | (refine aw_block ?_) | (refine aw_exit ?_) | (refine aw_region ?_) | (refine zco ?_ ?_ <;> intro hg <;> first | exact absurd hg (by decide) | ((try replace hg := HG.out hg); (try dsimp only at hg); (try rw [withinB_iff] at hg); (try rw [withinB_no] at hg); (try (have _h : True := hg; clear _h hg)); first | (exfalso; omega) | skip))))
  all_goals (refine aw_ret ?_; (repeat (first | refine ret_then ?_ | refine ret_block ?_)); refine bq1 rfl ⟨?_, rfl⟩)
  all_goals (simp_all [Sheet.err, vi, constV])
set_option maxHeartbeats 1000000 in
theorem rLine_p (s : Sheet) (hs : s.ok = true) (l : List Int) : PCalls Try.prog 106 [s.enc, encInts l] (· = vb (isLineB s l)) := by
  (refine pcalls_know (fun I us h => rel_len (rel_arg h (j := 1) rfl)) fun hlen1 => ?_)
  have hb := Sheet.bounds hs
  refine pcalls_of_aw Try.func106 rfl (Nat.le_of_ble_eq_true rfl) ?_
  (repeat' (first | (refine ar_isq ?_; first | refine zmv ?_ | refine zas ?_ | (refine is_load ?_; first | refine zlp ?_ | refine zlr ?_) | (refine is_binOp ?_; first | refine zlss ?_ | refine zgtr ?_ | refine zneq ?_ | refine zadd ?_ | refine zsub ?_) | (refine is_fieldAddr ?_; first | refine zfp ?_ | refine zfr ?_) | (refine is_indexAddr ?_; first | refine zil ?_ | refine zis ?_ | refine zit ?_ | refine zia ?_ | refine zir ?_ | (refine zxl ?_; intro _ _ _) | (refine zxs ?_; intro _ _ _)) | (refine is_call ?_; first | refine zll ?_ | refine zls ?_ | refine zln ?_ | refine zle ?_) | (refine is_pick ?_; first | refine zpt ?_ | refine zpf ?_) | (refine is_unOp ?_; first | refine znt ?_ | refine zng ?_)) | (refine zbx ?_) | (refine zg ?_ ?_ <;> intro hg <;> first | exact absurd hg (by decide) | ((try replace hg := HG.out hg); (try dsimp only at hg); (try rw [withinB_iff] at hg); (try rw [withinB_no] at hg); (try (have _h : True := hg; clear _h hg)); first | (exfalso; omega) | skip)) | (refine zgu ?_) | (refine ar_nil ?_) | (refine aw_seq ?_) | (refine aw_skip ?_) | (refine aw_block ?_) | (refine aw_exit ?_) | (refine aw_region ?_) | (refine aw_drawn (id := 6) [(0, 0), (1, 0), (2, 0), (3, 0), (4, 0), (5, 0), (6, 0), (7, 0), (8, 0), (9, 1), (10, 0), (11, 0), (12, 0), (13, 0), (14, 0), (15, 0), (16, 0), (17, 0), (18, 0), (19, 0), (20, 0), (21, 0), (22, 0), (23, 0), (24, 0), (25, 0), (26, 0), (27, 0), (28, 0), (29, 0), (30, 1), (31, 0), (32, 0), (33, 0)] mixed (by kernel_rfl) ?_) | (refine aw_drawn (id := 6) [(0, 0), (1, 0), (2, 0), (3, 0), (4, 0), (5, 0), (6, 0), (7, 0), (8, 0), (9, 2), (10, 0), (11, 0), (12, 0), (13, 0), (14, 0), (15, 0), (16, 0), (17, 0), (18, 0), (19, 0), (20, 0), (21, 0), (22, 0), (23, 0), (24, 0), (25, 0), (26, 0), (27, 0), (28, 0), (29, 0), (30, 2), (31, 0), (32, 0), (33, 0)] mixed (by kernel_rfl) ?_) | (refine zco ?_ ?_ <;> intro hg <;> first | exact absurd hg (by decide) | ((try replace hg := HG.out hg); (try dsimp only at hg); (try rw [withinB_iff] at hg); (try rw [withinB_no] at hg); (try (have _h : True := hg; clear _h hg)); first | (exfalso; omega) | skip))))
  · (refine aw_ret ?_; (repeat (first | refine ret_then ?_ | refine ret_block ?_)); refine bq1 rfl ⟨?_, rfl⟩)
    rw [show isLineB s l = false by simp [isLineB]; omega]
    rfl
  refine aw_for l.length (fun k => ∀ j, j < k → lineAt s l j = true) (fun k => [(1, encInts l), (2, .ptr 5 0 0 0), (5, vi k)]) (fun _ => [.arr 5 1 (fun _ => s.enc)]) (fun j hj => by omega) ?_ ?_
  · (refine sub_to [some 0] [] rfl ?_ ?_ <;> (repeat' (first | exact trivial | refine ⟨⟨_, rfl, ?_⟩, ?_⟩ | refine ⟨bsub_snoc rfl rfl (fun _ => rfl) ?_, ?_⟩ | refine ⟨bsub_one rfl rfl ?_, ?_⟩ | refine ⟨bsub_all rfl rfl (fun _ _ => rfl) (fun _ => rfl), ?_⟩ | refine ⟨bsub_updL rfl rfl ?_ (fun _ _ _ => rfl) (fun _ => rfl), ?_⟩ | refine ⟨.inl ⟨_, _, rfl, rfl, ?_⟩, ?_⟩ | exact ⟨.inr ⟨rfl, rfl⟩, trivial⟩ | refine ⟨.inr ⟨rfl, rfl⟩, ?_⟩ | (intro _ _) | exact vz1 | exact vz2 | fail)))
  intro k hk hJ
  by_cases h0 : 0 < k
  · have hp := lineAt_iff.1 (hJ (k - 1) (by omega))
    (repeat' (first | (refine ar_isq ?_; first | refine zmv ?_ | refine zas ?_ | (refine is_load ?_; first | refine zlp ?_ | refine zlr ?_) | (refine is_binOp ?_; first | refine zlss ?_ | refine zgtr ?_ | refine zneq ?_ | refine zadd ?_ | refine zsub ?_) | (refine is_fieldAddr ?_; first | refine zfp ?_ | refine zfr ?_) | (refine is_indexAddr ?_; first | refine zil ?_ | refine zis ?_ | refine zit ?_ | refine zia ?_ | refine zir ?_ | refine zil (j := k - 1) ?_ | refine zis (j := k - 1) ?_ | refine zit (j := k - 1) ?_ | (refine zxl ?_; intro _ _ _) | (refine zxs ?_; intro _ _ _)) | (refine is_call ?_; first | refine zll ?_ | refine zls ?_ | refine zln ?_ | refine zle ?_) | (refine is_pick ?_; first | refine zpt ?_ | refine zpf ?_) | (refine is_unOp ?_; first | refine znt ?_ | refine zng ?_)) | (refine ar_pcall (own := false) fn102 rfl rfl (.cons (.closed rfl) (.cons (.closed rfl) (.cons (.closed rfl) .nil))) (rwithin_p _ _ _) (by simp) (dc rfl) ?_; intro _ hv; subst hv) | (refine zbx ?_) | (refine zg ?_ ?_ <;> intro hg <;> first | exact absurd hg (by decide) | ((try replace hg := HG.out hg); (try dsimp only at hg); (try rw [withinB_iff] at hg); (try rw [withinB_no] at hg); (try (have _h : True := hg; clear _h hg)); first | (exfalso; omega) | skip)) | (refine zgu ?_) | (refine ar_nil ?_) | (refine aw_seq ?_) | (refine aw_skip ?_) | (refine aw_block ?_) | (refine aw_exit ?_) | (refine aw_region ?_) | (refine aw_drawn (id := 6) [(0, 0), (1, 0), (2, 0), (3, 0), (4, 0), (5, 0), (6, 0), (7, 0), (8, 0), (9, 1), (10, 0), (11, 0), (12, 0), (13, 0), (14, 0), (15, 0), (16, 0), (17, 0), (18, 0), (19, 0), (20, 0), (21, 0), (22, 0), (23, 0), (24, 0), (25, 0), (26, 0), (27, 0), (28, 0), (29, 0), (30, 1), (31, 0), (32, 0), (33, 0)] mixed (by kernel_rfl) ?_) | (refine aw_drawn (id := 6) [(0, 0), (1, 0), (2, 0), (3, 0), (4, 0), (5, 0), (6, 0), (7, 0), (8, 0), (9, 2), (10, 0), (11, 0), (12, 0), (13, 0), (14, 0), (15, 0), (16, 0), (17, 0), (18, 0), (19, 0), (20, 0), (21, 0), (22, 0), (23, 0), (24, 0), (25, 0), (26, 0), (27, 0), (28, 0), (29, 0), (30, 2), (31, 0), (32, 0), (33, 0)] mixed (by kernel_rfl) ?_) | (refine zco ?_ ?_ <;> intro hg <;> first | exact absurd hg (by decide) | ((try replace hg := HG.out hg); (try dsimp only at hg); (try rw [withinB_iff] at hg); (try rw [withinB_no] at hg); (try (have _h : True := hg; clear _h hg)); first | (exfalso; omega) | skip))))
    all_goals first
      | (exfalso; omega)
      | ((first | refine loop_next (by omega) ?_ ?_ | refine (show _ ∧ _ ∧ SubOf _ _ _ _ _ _ from And.intro (by omega) (And.intro ?_ ?_))); (focus (((exact all_step hJ (lineAt_iff.2 (by omega)))); done)); (focus ((refine sub_to [some 0] [] rfl ?_ ?_ <;> (repeat' (first | exact trivial | refine ⟨⟨_, rfl, ?_⟩, ?_⟩ | refine ⟨bsub_snoc rfl rfl (fun _ => rfl) ?_, ?_⟩ | refine ⟨bsub_one rfl rfl ?_, ?_⟩ | refine ⟨bsub_all rfl rfl (fun _ _ => rfl) (fun _ => rfl), ?_⟩ | refine ⟨bsub_updL rfl rfl ?_ (fun _ _ _ => rfl) (fun _ => rfl), ?_⟩ | refine ⟨.inl ⟨_, _, rfl, rfl, ?_⟩, ?_⟩ | exact ⟨.inr ⟨rfl, rfl⟩, trivial⟩ | refine ⟨.inr ⟨rfl, rfl⟩, ?_⟩ | (intro _ _) | exact vz1 | exact vz2 | fail))); done)))
      | ((refine aw_ret ?_; (repeat (first | refine ret_then ?_ | refine ret_block ?_)); refine bq1 rfl ⟨?_, rfl⟩); first | (rw [isLine_no (k := k) (by omega) (by rw [← Bool.not_eq_true, lineAt_iff]; omega)]; rfl) | (obtain rfl : k = l.length := (by omega); rw [isLine_yes hJ]; simp [constV, vb]; omega))
  · (repeat' (first | (refine ar_isq ?_; first | refine zmv ?_ | refine zas ?_ | (refine is_load ?_; first | refine zlp ?_ | refine zlr ?_) | (refine is_binOp ?_; first | refine zlss ?_ | refine zgtr ?_ | refine zneq ?_ | refine zadd ?_ | refine zsub ?_) | (refine is_fieldAddr ?_; first | refine zfp ?_ | refine zfr ?_) | (refine is_indexAddr ?_; first | refine zil ?_ | refine zis ?_ | refine zit ?_ | refine zia ?_ | refine zir ?_ | (refine zxl ?_; intro _ _ _) | (refine zxs ?_; intro _ _ _)) | (refine is_call ?_; first | refine zll ?_ | refine zls ?_ | refine zln ?_ | refine zle ?_) | (refine is_pick ?_; first | refine zpt ?_ | refine zpf ?_) | (refine is_unOp ?_; first | refine znt ?_ | refine zng ?_)) | (refine ar_pcall (own := false) fn102 rfl rfl (.cons (.closed rfl) (.cons (.closed rfl) (.cons (.closed rfl) .nil))) (rwithin_p _ _ _) (by simp) (dc rfl) ?_; intro _ hv; subst hv) | (refine zbx ?_) | (refine zg ?_ ?_ <;> intro hg <;> first | exact absurd hg (by decide) | ((try replace hg := HG.out hg); (try dsimp only at hg); (try rw [withinB_iff] at hg); (try rw [withinB_no] at hg); (try (have _h : True := hg; clear _h hg)); first | (exfalso; omega) | skip)) | (refine zgu ?_) | (refine ar_nil ?_) | (refine aw_seq ?_) | (refine aw_skip ?_) | (refine aw_block ?_) | (refine aw_exit ?_) | (refine aw_region ?_) | (refine aw_drawn (id := 6) [(0, 0), (1, 0), (2, 0), (3, 0), (4, 0), (5, 0), (6, 0), (7, 0), (8, 0), (9, 1), (10, 0), (11, 0), (12, 0), (13, 0), (14, 0), (15, 0), (16, 0), (17, 0), (18, 0), (19, 0), (20, 0), (21, 0), (22, 0), (23, 0), (24, 0), (25, 0), (26, 0), (27, 0), (28, 0), (29, 0), (30, 1), (31, 0), (32, 0), (33, 0)] mixed (by kernel_rfl) ?_) | (refine aw_drawn (id := 6) [(0, 0), (1, 0), (2, 0), (3, 0), (4, 0), (5, 0), (6, 0), (7, 0), (8, 0), (9, 2), (10, 0), (11, 0), (12, 0), (13, 0), (14, 0), (15, 0), (16, 0), (17, 0), (18, 0), (19, 0), (20, 0), (21, 0), (22, 0), (23, 0), (24, 0), (25, 0), (26, 0), (27, 0), (28, 0), (29, 0), (30, 2), (31, 0), (32, 0), (33, 0)] mixed (by kernel_rfl) ?_) | (refine zco ?_ ?_ <;> intro hg <;> first | exact absurd hg (by decide) | ((try replace hg := HG.out hg); (try dsimp only at hg); (try rw [withinB_iff] at hg); (try rw [withinB_no] at hg); (try (have _h : True := hg; clear _h hg)); first | (exfalso; omega) | skip))))
    all_goals first
      | (exfalso; omega)
      | ((first | refine loop_next (by omega) ?_ ?_ | refine (show _ ∧ _ ∧ SubOf _ _ _ _ _ _ from And.intro (by omega) (And.intro ?_ ?_))); (focus (((exact all_step hJ (lineAt_iff.2 (by omega)))); done)); (focus ((refine sub_to [some 0] [] rfl ?_ ?_ <;> (repeat' (first | exact trivial | refine ⟨⟨_, rfl, ?_⟩, ?_⟩ | refine ⟨bsub_snoc rfl rfl (fun _ => rfl) ?_, ?_⟩ | refine ⟨bsub_one rfl rfl ?_, ?_⟩ | refine ⟨bsub_all rfl rfl (fun _ _ => rfl) (fun _ => rfl), ?_⟩ | refine ⟨bsub_updL rfl rfl ?_ (fun _ _ _ => rfl) (fun _ => rfl), ?_⟩ | refine ⟨.inl ⟨_, _, rfl, rfl, ?_⟩, ?_⟩ | exact ⟨.inr ⟨rfl, rfl⟩, trivial⟩ | refine ⟨.inr ⟨rfl, rfl⟩, ?_⟩ | (intro _ _) | exact vz1 | exact vz2 | fail))); done)))
      | ((refine aw_ret ?_; (repeat (first | refine ret_then ?_ | refine ret_block ?_)); refine bq1 rfl ⟨?_, rfl⟩); first | (rw [isLine_no (k := k) (by omega) (by rw [← Bool.not_eq_true, lineAt_iff]; omega)]; rfl) | (obtain rfl : k = l.length := (by omega); rw [isLine_yes hJ]; simp [constV, vb]; omega))
set_option maxHeartbeats 1000000 in
theorem rlines_p (s : Sheet) (hs : s.ok = true) (b : List (List Int)) : PCalls Try.prog 103 [s.enc, encRows b] (· = vb (b.all (isLineB s))) := by
  (refine pcalls_know (fun I us h => rel_len (rel_arg h (j := 1) rfl)) fun hlen1 => ?_)
  refine pcalls_of_aw Try.func103 rfl (Nat.le_of_ble_eq_true rfl) ?_
  (repeat' (first | (refine ar_isq ?_; first | refine zmv ?_ | refine zas ?_ | (refine is_load ?_; first | refine zlp ?_ | refine zlr ?_) | (refine is_binOp ?_; first | refine zlss ?_ | refine zadd ?_) | (refine is_indexAddr ?_; first | refine zil ?_ | refine zis ?_ | refine zit ?_ | refine zia ?_ | refine zir ?_ | (refine zxl ?_; intro _ _ _) | (refine zxs ?_; intro _ _ _)) | (refine is_call ?_; first | refine zll ?_ | refine zls ?_ | refine zln ?_ | refine zle ?_) | refine znt ?_) | (refine zbx ?_) | (refine ar_nil ?_) | (refine aw_seq ?_) | (refine aw_skip ?_) | (refine aw_block ?_) | (refine aw_exit ?_) | (refine aw_region ?_) | (refine aw_drawn (id := 4) [(0, 0), (1, 0), (2, 0), (3, 0), (4, 0), (5, 1), (6, 0)] mixed (by kernel_rfl) ?_) | (refine aw_drawn (id := 4) [(0, 0), (1, 0), (2, 0), (3, 0), (4, 0), (5, 2), (6, 0)] mixed (by kernel_rfl) ?_) | (refine zco ?_ ?_ <;> intro hg <;> first | exact absurd hg (by decide) | ((try replace hg := HG.out hg); (try dsimp only at hg); (try (have _h : True := hg; clear _h hg)); first | (exfalso; omega) | skip))))
  refine aw_for b.length (fun k => ∀ j, j < k → isLineB s (el b j) = true) (fun k => [(1, encRows b), (2, .ptr 5 0 0 0), (5, vi k)]) (fun _ => [.arr 5 1 (fun _ => s.enc)]) (fun j hj => by omega) ?_ ?_
  · (refine sub_to [some 0] [] rfl ?_ ?_ <;> (repeat' (first | exact trivial | refine ⟨⟨_, rfl, ?_⟩, ?_⟩ | refine ⟨bsub_snoc rfl rfl (fun _ => rfl) ?_, ?_⟩ | refine ⟨bsub_one rfl rfl ?_, ?_⟩ | refine ⟨bsub_all rfl rfl (fun _ _ => rfl) (fun _ => rfl), ?_⟩ | refine ⟨bsub_updL rfl rfl ?_ (fun _ _ _ => rfl) (fun _ => rfl), ?_⟩ | refine ⟨.inl ⟨_, _, rfl, rfl, ?_⟩, ?_⟩ | exact ⟨.inr ⟨rfl, rfl⟩, trivial⟩ | refine ⟨.inr ⟨rfl, rfl⟩, ?_⟩ | (intro _ _) | exact vz1 | exact vz2 | fail)))
  intro k hk hJ
  (repeat' (first | (refine ar_isq ?_; first | refine zmv ?_ | refine zas ?_ | (refine is_load ?_; first | refine zlp ?_ | refine zlr ?_) | (refine is_binOp ?_; first | refine zlss ?_ | refine zadd ?_) | (refine is_indexAddr ?_; first | refine zil ?_ | refine zis ?_ | refine zit ?_ | refine zia ?_ | refine zir ?_ | (refine zxl ?_; intro _ _ _) | (refine zxs ?_; intro _ _ _)) | (refine is_call ?_; first | refine zll ?_ | refine zls ?_ | refine zln ?_ | refine zle ?_) | refine znt ?_) | (refine ar_pcall (own := false) fn106 rfl rfl (.cons (.closed rfl) (.cons (.closed rfl) .nil)) (rLine_p s hs _) (by simp) (dc rfl) ?_; intro _ hv; subst hv) | (refine zbx ?_) | (refine ar_nil ?_) | (refine aw_seq ?_) | (refine aw_skip ?_) | (refine aw_block ?_) | (refine aw_exit ?_) | (refine aw_region ?_) | (refine aw_drawn (id := 4) [(0, 0), (1, 0), (2, 0), (3, 0), (4, 0), (5, 1), (6, 0)] mixed (by kernel_rfl) ?_) | (refine aw_drawn (id := 4) [(0, 0), (1, 0), (2, 0), (3, 0), (4, 0), (5, 2), (6, 0)] mixed (by kernel_rfl) ?_) | (refine zco ?_ ?_ <;> intro hg <;> first | exact absurd hg (by decide) | ((try replace hg := HG.out hg); (try dsimp only at hg); (try (have _h : True := hg; clear _h hg)); first | (exfalso; omega) | skip))))
  all_goals first
    | (exfalso; omega)
    | ((first | refine loop_next (by omega) ?_ ?_ | refine (show _ ∧ _ ∧ SubOf _ _ _ _ _ _ from And.intro (by omega) (And.intro ?_ ?_))); (focus (((exact all_step hJ (by assumption))); done)); (focus ((refine sub_to [some 0] [] rfl ?_ ?_ <;> (repeat' (first | exact trivial | refine ⟨⟨_, rfl, ?_⟩, ?_⟩ | refine ⟨bsub_snoc rfl rfl (fun _ => rfl) ?_, ?_⟩ | refine ⟨bsub_one rfl rfl ?_, ?_⟩ | refine ⟨bsub_all rfl rfl (fun _ _ => rfl) (fun _ => rfl), ?_⟩ | refine ⟨bsub_updL rfl rfl ?_ (fun _ _ _ => rfl) (fun _ => rfl), ?_⟩ | refine ⟨.inl ⟨_, _, rfl, rfl, ?_⟩, ?_⟩ | exact ⟨.inr ⟨rfl, rfl⟩, trivial⟩ | refine ⟨.inr ⟨rfl, rfl⟩, ?_⟩ | (intro _ _) | exact vz1 | exact vz2 | fail))); done)))
    | ((refine aw_ret ?_; (repeat (first | refine ret_then ?_ | refine ret_block ?_)); refine bq1 rfl ⟨?_, rfl⟩); first | (rw [not_all_el (k := k) (by omega) (by assumption)]; rfl) | (rw [all_el (p := isLineB s) (fun j hj => hJ j (by omega))]; rfl))
set_option maxHeartbeats 1000000 in
theorem rclash_p (s : Sheet) (hs : s.ok = true) (a b : List Int) (ha : isLineB s a = true) (hb : isLineB s b = true) : PCalls Try.prog 104 [s.enc, encInts a, encInts b] (· = vi (clashF s a b)) := by
  have hbd := Sheet.bounds hs
  have hla := isLine_len ha
  have hlb := isLine_len hb
  refine pcalls_of_aw Try.func104 rfl (Nat.le_of_ble_eq_true rfl) ?_
  (repeat' (first | (refine ar_isq ?_; first | refine zmv ?_ | refine zas ?_ | (refine is_load ?_; first | refine zlp ?_ | refine zlr ?_) | (refine is_binOp ?_; first | refine zlss ?_ | refine zadd ?_ | refine zsub ?_) | (refine is_fieldAddr ?_; first | refine zfp ?_ | refine zfr ?_) | (refine is_indexAddr ?_; first | refine zil ?_ | refine zis ?_ | refine zit ?_ | refine zia ?_ | refine zir ?_ | (refine zxl ?_; intro _ _ _) | (refine zxs ?_; intro _ _ _))) | (refine zbx ?_) | (refine ar_nil ?_) | (refine aw_seq ?_) | (refine aw_skip ?_) | (refine aw_block ?_) | (refine aw_exit ?_) | (refine aw_region ?_) | (refine aw_drawn (id := 4) [(0, 0), (1, 0), (2, 0), (3, 0), (4, 0), (5, 0), (6, 0), (7, 0), (8, 0), (9, 0), (10, 0), (11, 0), (12, 0), (13, 0), (14, 0)] mixed (by kernel_rfl) ?_) | (refine zco ?_ ?_ <;> intro hg <;> first | exact absurd hg (by decide) | ((try replace hg := HG.out hg); (try dsimp only at hg); (try (have _h : True := hg; clear _h hg)); first | (exfalso; omega) | skip))))
  refine aw_for a.length (fun k => ∀ j, j < k → nearAt s a b j = false) (fun k => [(1, encInts a), (2, encInts b), (3, .ptr 5 0 0 0), (7, vi k)]) (fun _ => [.arr 5 1 (fun _ => s.enc)]) (fun j hj => by omega) ?_ ?_
  · (refine sub_to [some 0] [] rfl ?_ ?_ <;> (repeat' (first | exact trivial | refine ⟨⟨_, rfl, ?_⟩, ?_⟩ | refine ⟨bsub_snoc rfl rfl (fun _ => rfl) ?_, ?_⟩ | refine ⟨bsub_one rfl rfl ?_, ?_⟩ | refine ⟨bsub_all rfl rfl (fun _ _ => rfl) (fun _ => rfl), ?_⟩ | refine ⟨bsub_updL rfl rfl ?_ (fun _ _ _ => rfl) (fun _ => rfl), ?_⟩ | refine ⟨.inl ⟨_, _, rfl, rfl, ?_⟩, ?_⟩ | exact ⟨.inr ⟨rfl, rfl⟩, trivial⟩ | refine ⟨.inr ⟨rfl, rfl⟩, ?_⟩ | (intro _ _) | exact vz1 | exact vz2 | fail)))
  intro k hk hJ
  by_cases hlt : k < a.length
  · have h1 := isLine_at ha hlt
    have h2 := isLine_at hb (j := k) (by omega)
    (repeat' (first | (refine ar_isq ?_; first | refine zmv ?_ | refine zas ?_ | (refine is_load ?_; first | refine zlp ?_ | refine zlr ?_) | (refine is_binOp ?_; first | refine zlss ?_ | refine zadd ?_ | refine zsub ?_) | (refine is_fieldAddr ?_; first | refine zfp ?_ | refine zfr ?_) | (refine is_indexAddr ?_; first | refine zil ?_ | refine zis ?_ | refine zit ?_ | refine zia ?_ | refine zir ?_ | (refine zxl ?_; intro _ _ _) | (refine zxs ?_; intro _ _ _))) | (refine zbx ?_) | (refine ar_nil ?_) | (refine aw_seq ?_) | (refine aw_skip ?_) | (refine aw_block ?_) | (refine aw_exit ?_) | (refine aw_region ?_) | (refine aw_drawn (id := 4) [(0, 0), (1, 0), (2, 0), (3, 0), (4, 0), (5, 0), (6, 0), (7, 0), (8, 0), (9, 0), (10, 0), (11, 0), (12, 0), (13, 0), (14, 0)] mixed (by kernel_rfl) ?_) | (refine zco ?_ ?_ <;> intro hg <;> first | exact absurd hg (by decide) | ((try replace hg := HG.out hg); (try dsimp only at hg); (try (have _h : True := hg; clear _h hg)); first | (exfalso; omega) | skip))))
    all_goals first
      | (exfalso; omega)
      | ((first | refine loop_next (by omega) ?_ ?_ | refine (show _ ∧ _ ∧ SubOf _ _ _ _ _ _ from And.intro (by omega) (And.intro ?_ ?_))); (focus (((exact all_step hJ (by simp [nearAt]; omega))); done)); (focus ((refine sub_to [some 0] [] rfl ?_ ?_ <;> (repeat' (first | exact trivial | refine ⟨⟨_, rfl, ?_⟩, ?_⟩ | refine ⟨bsub_snoc rfl rfl (fun _ => rfl) ?_, ?_⟩ | refine ⟨bsub_one rfl rfl ?_, ?_⟩ | refine ⟨bsub_all rfl rfl (fun _ _ => rfl) (fun _ => rfl), ?_⟩ | refine ⟨bsub_updL rfl rfl ?_ (fun _ _ _ => rfl) (fun _ => rfl), ?_⟩ | refine ⟨.inl ⟨_, _, rfl, rfl, ?_⟩, ?_⟩ | exact ⟨.inr ⟨rfl, rfl⟩, trivial⟩ | refine ⟨.inr ⟨rfl, rfl⟩, ?_⟩ | (intro _ _) | exact vz1 | exact vz2 | fail))); done)))
      | ((refine aw_ret ?_; (repeat (first | refine ret_then ?_ | refine ret_block ?_)); refine bq1 rfl ⟨?_, rfl⟩); rw [clashF_at (k := k) (by omega) hJ (by simp [nearAt]; omega)]; try rfl)
  · (repeat' (first | (refine ar_isq ?_; first | refine zmv ?_ | refine zas ?_ | (refine is_load ?_; first | refine zlp ?_ | refine zlr ?_) | (refine is_binOp ?_; first | refine zlss ?_ | refine zadd ?_ | refine zsub ?_) | (refine is_fieldAddr ?_; first | refine zfp ?_ | refine zfr ?_) | (refine is_indexAddr ?_; first | refine zil ?_ | refine zis ?_ | refine zit ?_ | refine zia ?_ | refine zir ?_ | (refine zxl ?_; intro _ _ _) | (refine zxs ?_; intro _ _ _))) | (refine zbx ?_) | (refine ar_nil ?_) | (refine aw_seq ?_) | (refine aw_skip ?_) | (refine aw_block ?_) | (refine aw_exit ?_) | (refine aw_region ?_) | (refine aw_drawn (id := 4) [(0, 0), (1, 0), (2, 0), (3, 0), (4, 0), (5, 0), (6, 0), (7, 0), (8, 0), (9, 0), (10, 0), (11, 0), (12, 0), (13, 0), (14, 0)] mixed (by kernel_rfl) ?_) | (refine zco ?_ ?_ <;> intro hg <;> first | exact absurd hg (by decide) | ((try replace hg := HG.out hg); (try dsimp only at hg); (try (have _h : True := hg; clear _h hg)); first | (exfalso; omega) | skip))))
    all_goals first
      | (exfalso; omega)
      | ((refine aw_ret ?_; (repeat (first | refine ret_then ?_ | refine ret_block ?_)); refine bq1 rfl ⟨?_, rfl⟩); rw [clashF_none (fun j hj => hJ j (by omega))]; try rfl)
end Go.Proofs.Ytbilpbabdgfblaa
namespace Go.Proofs.Ytbilpbabdgfblaa
open Go.RowKit
def linesB (s : Sheet) (b : List (List Int)) : Bool := b.all (isLineB s)
def bandB (s : Sheet) (b : List (List Int)) : Bool := decide (b.length ≤ 12) && linesB s b && (List.range (b.length - 1)).all fun i => decide (clashF s (el b i) (el b (i + 1)) < 0)
theorem err_ok {s : Sheet} (h : s.ok = true) : s.err = 0 := by simp [Sheet.err, h]
theorem err_bad {s : Sheet} (h : s.ok = false) : s.err = 70 := by simp [Sheet.err, h]
theorem clashes_nil {s : Sheet} {b : List (List Int)} : (clashesF s b).length = 0 ↔ ((List.range (b.length - 1)).all fun i => decide (clashF s (el b i) (el b (i + 1)) < 0)) = true := by
  rw [List.length_eq_zero_iff, clashesF, clashesTo, List.flatMap_eq_nil_iff, List.all_eq_true]
  refine forall_congr' fun i => forall_congr' fun hi => ?_
  unfold clashAt
  split
  · rename_i h; simp [h]
  · rename_i h; simp [h]
def checkErr (s : Sheet) (b : List (List Int)) : Int := if s.ok then (if bandB s b then 0 else 71) else 70
theorem checkErr_eq {s : Sheet} {b : List (List Int)} (hs : s.ok = true) : checkErr s b = if b.length ≤ 12 ∧ linesB s b = true ∧ (clashesF s b).length = 0 then 0 else 71 := by
  unfold checkErr bandB
  rw [if_pos hs]
  simp only [Bool.and_eq_true, decide_eq_true_eq, and_assoc, clashes_nil]
theorem band_of_check {s : Sheet} {b : List (List Int)} (h : checkErr s b = 0) : s.ok = true ∧ b.length ≤ 12 ∧ linesB s b = true := by
  unfold checkErr at h
  cases hs : s.ok
  · rw [hs] at h; simp at h
  · have h' : checkErr s b = 0 := h
    rw [checkErr_eq hs] at h'
    split at h'
    · rename_i h2; exact ⟨rfl, h2.1, h2.2.1⟩
    · simp at h'
theorem band_lines {s : Sheet} {b : List (List Int)} (h : b.all (isLineB s) = false) : bandB s b = false := by
  unfold bandB linesB
  rw [h, Bool.and_false, Bool.false_and]
set_option maxHeartbeats 1000000 in
theorem check_p (s : Sheet) (b : List (List Int)) : PCalls Try.prog 70 [s.enc, encRows b] (· = vi (checkErr s b)) := by
  cases hs : s.ok
  · have he := err_bad hs
    refine pcalls_of_aw Try.func70 rfl (Nat.le_of_ble_eq_true rfl) ?_
    (repeat' (first | (refine ar_isq ?_; first | refine zmv ?_ | refine zas ?_ | (refine is_load ?_; first | refine zlp ?_ | refine zlr ?_) | (refine is_binOp ?_; first | refine zgtr ?_ | refine zneq ?_) | (refine is_call ?_; first | refine zll ?_ | refine zls ?_ | refine zln ?_ | refine zle ?_) | (refine is_pick ?_; first | refine zpt ?_ | refine zpf ?_) | refine znt ?_) | (refine ar_pcall (own := false) fn90 rfl rfl (.cons (.closed rfl) .nil) (checkSheet_p _) (by simp) (dc rfl) ?_; intro _ hv; subst hv) | (refine zbx ?_) | (refine zg ?_ ?_ <;> intro hg <;> first | exact absurd hg (by decide) | ((try replace hg := HG.out hg); (try dsimp only at hg); (try (have _h : True := hg; clear _h hg)); first | (exfalso; omega) | skip)) | (refine zgu ?_) | (refine ar_nil ?_) | (refine aw_seq ?_) | (refine aw_skip ?_) | (refine aw_block ?_) | (refine aw_exit ?_) | (refine aw_region ?_) | (refine zco ?_ ?_ <;> intro hg <;> first | exact absurd hg (by decide) | ((try replace hg := HG.out hg); (try dsimp only at hg); (try (have _h : True := hg; clear _h hg)); first | (exfalso; omega) | skip))))
    all_goals first
      | (exfalso; omega)
      | ((refine aw_ret ?_; (repeat (first | refine ret_then ?_ | refine ret_block ?_)); refine bq1 rfl ⟨?_, rfl⟩); simp [vi, checkErr, hs, he])
  · have he := err_ok hs
    refine pcalls_of_aw Try.func70 rfl (Nat.le_of_ble_eq_true rfl) ?_
    (repeat' (first | (refine ar_isq ?_; first | refine zmv ?_ | refine zas ?_ | (refine is_load ?_; first | refine zlp ?_ | refine zlr ?_) | (refine is_binOp ?_; first | refine zgtr ?_ | refine zneq ?_) | (refine is_call ?_; first | refine zll ?_ | refine zls ?_ | refine zln ?_ | refine zle ?_) | (refine is_pick ?_; first | refine zpt ?_ | refine zpf ?_) | refine znt ?_) | (refine ar_pcall (own := false) fn90 rfl rfl (.cons (.closed rfl) .nil) (checkSheet_p _) (by simp) (dc rfl) ?_; intro _ hv; subst hv) | (refine ar_pcall (own := false) fn91 rfl rfl (.cons (.closed rfl) (.cons (.closed rfl) .nil)) (lines_p s hs b) (by simp) (dc rfl) ?_; intro _ hv; subst hv) | (refine ar_pcall (own := false) fn92 rfl rfl (.cons (.closed rfl) (.cons (.closed rfl) .nil)) (clashes_p s hs b (by assumption) (by omega)) (by simp) (dc rfl) ?_; intro _ hv; subst hv) | (refine zbx ?_) | (refine zg ?_ ?_ <;> intro hg <;> first | exact absurd hg (by decide) | ((try replace hg := HG.out hg); (try dsimp only at hg); (try (have _h : True := hg; clear _h hg)); first | (exfalso; omega) | skip)) | (refine zgu ?_) | (refine ar_nil ?_) | (refine aw_seq ?_) | (refine aw_skip ?_) | (refine aw_block ?_) | (refine aw_exit ?_) | (refine aw_region ?_) | (refine zco ?_ ?_ <;> intro hg <;> first | exact absurd hg (by decide) | ((try replace hg := HG.out hg); (try dsimp only at hg); (try (have _h : True := hg; clear _h hg)); first | (exfalso; omega) | skip))))
    all_goals first
      | (exfalso; omega)
      | ((refine aw_ret ?_; (repeat (first | refine ret_then ?_ | refine ret_block ?_)); refine bq1 rfl ⟨?_, rfl⟩); rw [checkErr_eq hs]; first
          | (rw [if_pos ⟨by omega, (show b.all (isLineB s) = true by assumption), by omega⟩]; rfl)
          | (rw [if_neg (fun h => by obtain ⟨h1, h2, h3⟩ := h; first | omega | (have h4 : b.all (isLineB s) = true := h2; simp_all))]; rfl))
set_option maxHeartbeats 1000000 in
theorem rBand_p (s : Sheet) (hs : s.ok = true) (b : List (List Int)) : PCalls Try.prog 94 [s.enc, encRows b] (· = vb (bandB s b)) := by
  (refine pcalls_know (fun I us h => rel_len (rel_arg h (j := 1) rfl)) fun hlen1 => ?_)
  refine pcalls_of_aw Try.func94 rfl (Nat.le_of_ble_eq_true rfl) ?_
  (repeat' (first | (refine ar_isq ?_; first | refine zmv ?_ | refine zas ?_ | (refine is_load ?_; first | refine zlp ?_ | refine zlr ?_) | (refine is_binOp ?_; first | refine zlss ?_ | refine zgtr ?_ | refine zgeq ?_ | refine zadd ?_ | refine zsub ?_) | (refine is_indexAddr ?_; first | refine zil ?_ | refine zis ?_ | refine zit ?_ | refine zia ?_ | refine zir ?_ | (refine zxl ?_; intro _ _ _) | (refine zxs ?_; intro _ _ _)) | (refine is_call ?_; first | refine zll ?_ | refine zls ?_ | refine zln ?_ | refine zle ?_) | (refine is_pick ?_; first | refine zpt ?_ | refine zpf ?_) | refine znt ?_) | (refine ar_pcall (own := false) fn103 rfl rfl (.cons (.closed rfl) (.cons (.closed rfl) .nil)) (rlines_p s hs b) (by simp) (dc rfl) ?_; intro _ hv; subst hv) | (refine zbx ?_) | (refine zg ?_ ?_ <;> intro hg <;> first | exact absurd hg (by decide) | ((try replace hg := HG.out hg); (try dsimp only at hg); (try (have _h : True := hg; clear _h hg)); first | (exfalso; omega) | skip)) | (refine zgu ?_) | (refine ar_nil ?_) | (refine aw_seq ?_) | (refine aw_skip ?_) | (refine aw_block ?_) | (refine aw_exit ?_) | (refine aw_region ?_) | (refine aw_drawn (id := 6) [(0, 0), (1, 0), (2, 0), (3, 0), (4, 0), (5, 0), (6, 0), (7, 0), (8, 0), (9, 0), (10, 1), (11, 0)] mixed (by kernel_rfl) ?_) | (refine aw_drawn (id := 6) [(0, 0), (1, 0), (2, 0), (3, 0), (4, 0), (5, 0), (6, 0), (7, 0), (8, 0), (9, 0), (10, 2), (11, 0)] mixed (by kernel_rfl) ?_) | (refine zco ?_ ?_ <;> intro hg <;> first | exact absurd hg (by decide) | ((try replace hg := HG.out hg); (try dsimp only at hg); (try (have _h : True := hg; clear _h hg)); first | (exfalso; omega) | skip))))
  all_goals try ((refine aw_ret ?_; (repeat (first | refine ret_then ?_ | refine ret_block ?_)); refine bq1 rfl ⟨?_, rfl⟩); rw [show bandB s b = false by first | exact band_lines (by assumption) | (simp [bandB]; omega)]; rfl)
  have hl : b.all (isLineB s) = true := by assumption
  refine aw_for (b.length - 1) (fun k => ∀ j, j < k → decide (clashF s (el b j) (el b (j + 1)) < 0) = true) (fun k => [(1, encRows b), (2, .ptr 5 0 0 0), (5, vi (k + 1))]) (fun _ => [.arr 5 1 (fun _ => s.enc)]) (fun j hj => by omega) ?_ ?_
  · (refine sub_to [some 0] [] rfl ?_ ?_ <;> (repeat' (first | exact trivial | refine ⟨⟨_, rfl, ?_⟩, ?_⟩ | refine ⟨bsub_snoc rfl rfl (fun _ => rfl) ?_, ?_⟩ | refine ⟨bsub_one rfl rfl ?_, ?_⟩ | refine ⟨bsub_all rfl rfl (fun _ _ => rfl) (fun _ => rfl), ?_⟩ | refine ⟨bsub_updL rfl rfl ?_ (fun _ _ _ => rfl) (fun _ => rfl), ?_⟩ | refine ⟨.inl ⟨_, _, rfl, rfl, ?_⟩, ?_⟩ | exact ⟨.inr ⟨rfl, rfl⟩, trivial⟩ | refine ⟨.inr ⟨rfl, rfl⟩, ?_⟩ | (intro _ _) | exact vz1 | exact vz2 | fail)))
  intro k hk hJ
  by_cases hlt : k + 1 < b.length
  · (repeat' (first | (refine ar_isq ?_; first | refine zmv ?_ | refine zas ?_ | (refine is_load ?_; first | refine zlp ?_ | refine zlr ?_) | (refine is_binOp ?_; first | refine zlss ?_ | refine zgtr ?_ | refine zgeq ?_ | refine zadd ?_ | refine zsub ?_) | (refine is_indexAddr ?_; first | refine zil ?_ | refine zis ?_ | refine zit ?_ | refine zia ?_ | refine zir ?_ | refine zil (j := k) ?_ | refine zis (j := k) ?_ | refine zit (j := k) ?_ | refine zil (j := k + 1) ?_ | refine zis (j := k + 1) ?_ | refine zit (j := k + 1) ?_ | (refine zxl ?_; intro _ _ _) | (refine zxs ?_; intro _ _ _)) | (refine is_call ?_; first | refine zll ?_ | refine zls ?_ | refine zln ?_ | refine zle ?_) | (refine is_pick ?_; first | refine zpt ?_ | refine zpf ?_) | refine znt ?_) | (refine ar_pcall (own := false) fn104 rfl rfl (.cons (.closed rfl) (.cons (.closed rfl) (.cons (.closed rfl) .nil))) (rclash_p s hs _ _ (of_all_el hl (by omega)) (of_all_el hl (by omega))) (by simp) (dc rfl) ?_; intro _ hv; subst hv) | (refine zbx ?_) | (refine zg ?_ ?_ <;> intro hg <;> first | exact absurd hg (by decide) | ((try replace hg := HG.out hg); (try dsimp only at hg); (try (have _h : True := hg; clear _h hg)); first | (exfalso; omega) | skip)) | (refine zgu ?_) | (refine ar_nil ?_) | (refine aw_seq ?_) | (refine aw_skip ?_) | (refine aw_block ?_) | (refine aw_exit ?_) | (refine aw_region ?_) | (refine aw_drawn (id := 6) [(0, 0), (1, 0), (2, 0), (3, 0), (4, 0), (5, 0), (6, 0), (7, 0), (8, 0), (9, 0), (10, 1), (11, 0)] mixed (by kernel_rfl) ?_) | (refine aw_drawn (id := 6) [(0, 0), (1, 0), (2, 0), (3, 0), (4, 0), (5, 0), (6, 0), (7, 0), (8, 0), (9, 0), (10, 2), (11, 0)] mixed (by kernel_rfl) ?_) | (refine zco ?_ ?_ <;> intro hg <;> first | exact absurd hg (by decide) | ((try replace hg := HG.out hg); (try dsimp only at hg); (try (have _h : True := hg; clear _h hg)); first | (exfalso; omega) | skip))))
    all_goals first
      | (exfalso; omega)
      | ((first | refine loop_next (by omega) ?_ ?_ | refine (show _ ∧ _ ∧ SubOf _ _ _ _ _ _ from And.intro (by omega) (And.intro ?_ ?_))); (focus (((exact all_step hJ (by simp; omega))); done)); (focus ((refine sub_to [some 0] [] rfl ?_ ?_ <;> (repeat' (first | exact trivial | refine ⟨⟨_, rfl, ?_⟩, ?_⟩ | refine ⟨bsub_snoc rfl rfl (fun _ => rfl) ?_, ?_⟩ | refine ⟨bsub_one rfl rfl ?_, ?_⟩ | refine ⟨bsub_all rfl rfl (fun _ _ => rfl) (fun _ => rfl), ?_⟩ | refine ⟨bsub_updL rfl rfl ?_ (fun _ _ _ => rfl) (fun _ => rfl), ?_⟩ | refine ⟨.inl ⟨_, _, rfl, rfl, ?_⟩, ?_⟩ | exact ⟨.inr ⟨rfl, rfl⟩, trivial⟩ | refine ⟨.inr ⟨rfl, rfl⟩, ?_⟩ | (intro _ _) | exact vz1 | exact vz2 | fail))); done)))
      | ((refine aw_ret ?_; (repeat (first | refine ret_then ?_ | refine ret_block ?_)); refine bq1 rfl ⟨?_, rfl⟩); rw [show bandB s b = false by unfold bandB; rw [Bool.and_eq_false_iff]; right; rw [List.all_eq_false]; exact ⟨k, by simp; omega, by simp; omega⟩]; rfl)
  · (repeat' (first | (refine ar_isq ?_; first | refine zmv ?_ | refine zas ?_ | (refine is_load ?_; first | refine zlp ?_ | refine zlr ?_) | (refine is_binOp ?_; first | refine zlss ?_ | refine zgtr ?_ | refine zgeq ?_ | refine zadd ?_ | refine zsub ?_) | (refine is_indexAddr ?_; first | refine zil ?_ | refine zis ?_ | refine zit ?_ | refine zia ?_ | refine zir ?_ | (refine zxl ?_; intro _ _ _) | (refine zxs ?_; intro _ _ _)) | (refine is_call ?_; first | refine zll ?_ | refine zls ?_ | refine zln ?_ | refine zle ?_) | (refine is_pick ?_; first | refine zpt ?_ | refine zpf ?_) | refine znt ?_) | (refine zbx ?_) | (refine zg ?_ ?_ <;> intro hg <;> first | exact absurd hg (by decide) | ((try replace hg := HG.out hg); (try dsimp only at hg); (try (have _h : True := hg; clear _h hg)); first | (exfalso; omega) | skip)) | (refine zgu ?_) | (refine ar_nil ?_) | (refine aw_seq ?_) | (refine aw_skip ?_) | (refine aw_block ?_) | (refine aw_exit ?_) | (refine aw_region ?_) | (refine aw_drawn (id := 6) [(0, 0), (1, 0), (2, 0), (3, 0), (4, 0), (5, 0), (6, 0), (7, 0), (8, 0), (9, 0), (10, 1), (11, 0)] mixed (by kernel_rfl) ?_) | (refine aw_drawn (id := 6) [(0, 0), (1, 0), (2, 0), (3, 0), (4, 0), (5, 0), (6, 0), (7, 0), (8, 0), (9, 0), (10, 2), (11, 0)] mixed (by kernel_rfl) ?_) | (refine zco ?_ ?_ <;> intro hg <;> first | exact absurd hg (by decide) | ((try replace hg := HG.out hg); (try dsimp only at hg); (try (have _h : True := hg; clear _h hg)); first | (exfalso; omega) | skip))))
    all_goals first
      | (exfalso; omega)
      | ((refine aw_ret ?_; (repeat (first | refine ret_then ?_ | refine ret_block ?_)); refine bq1 rfl ⟨?_, rfl⟩); rw [show bandB s b = true by unfold bandB linesB; rw [hl]; simp only [Bool.and_true, Bool.and_eq_true, decide_eq_true_eq]; refine ⟨by omega, ?_⟩; rw [List.all_eq_true]; exact fun j hj => hJ j (by simp at hj; omega)]; rfl)
set_option maxHeartbeats 1000000 in
theorem rCheck_p (s : Sheet) (b : List (List Int)) : PCalls Try.prog 75 [s.enc, encRows b] (· = vi (checkErr s b)) := by
  refine pcalls_of_aw Try.func75 rfl (Nat.le_of_ble_eq_true rfl) ?_
  cases hs : s.ok
  · (repeat' (first | (refine ar_isq ?_; first | refine zmv ?_ | refine zas ?_ | (refine is_load ?_; first | refine zlp ?_ | refine zlr ?_) | refine znt ?_) | (refine ar_pcall (own := false) fn93 rfl rfl (.cons (.closed rfl) .nil) (rSheet_p _) (by simp) (dc rfl) ?_; intro _ hv; subst hv) | (refine zbx ?_) | (refine ar_nil ?_) | (refine aw_seq ?_) | (refine aw_skip ?_) | (refine aw_block ?_) | (refine aw_exit ?_) | (refine aw_region ?_) | (refine zco ?_ ?_ <;> intro hg <;> first | exact absurd hg (by decide) | ((try replace hg := HG.out hg); (try dsimp only at hg); (try (have _h : True := hg; clear _h hg)); first | (exfalso; omega) | skip))))
    all_goals first
      | (simp_all; done)
      | ((refine aw_ret ?_; (repeat (first | refine ret_then ?_ | refine ret_block ?_)); refine bq1 rfl ⟨?_, rfl⟩); simp [vi, constV, checkErr, hs])
  · (repeat' (first | (refine ar_isq ?_; first | refine zmv ?_ | refine zas ?_ | (refine is_load ?_; first | refine zlp ?_ | refine zlr ?_) | refine znt ?_) | (refine ar_pcall (own := false) fn93 rfl rfl (.cons (.closed rfl) .nil) (rSheet_p _) (by simp) (dc rfl) ?_; intro _ hv; subst hv) | (refine ar_pcall (own := false) fn94 rfl rfl (.cons (.closed rfl) (.cons (.closed rfl) .nil)) (rBand_p s hs b) (by simp) (dc rfl) ?_; intro _ hv; subst hv) | (refine zbx ?_) | (refine ar_nil ?_) | (refine aw_seq ?_) | (refine aw_skip ?_) | (refine aw_block ?_) | (refine aw_exit ?_) | (refine aw_region ?_) | (refine zco ?_ ?_ <;> intro hg <;> first | exact absurd hg (by decide) | ((try replace hg := HG.out hg); (try dsimp only at hg); (try (have _h : True := hg; clear _h hg)); first | (exfalso; omega) | skip))))
    all_goals first
      | (simp_all; done)
      | ((refine aw_ret ?_; (repeat (first | refine ret_then ?_ | refine ret_block ?_)); refine bq1 rfl ⟨?_, rfl⟩); simp_all [vi, constV, checkErr, hs])
end Go.Proofs.Ytbilpbabdgfblaa
namespace Go.Proofs.Ytbilpbabdgfblaa
open Go.RowKit
def dotAt (s : Sheet) (r c : Nat) (l : List Int) : Bool := withinB ((r : Int) - el l c) 0 (s.weight - 1)
def dotB (s : Sheet) (b : List (List Int)) (r c : Nat) : Bool := b.any (dotAt s r c)
def inkRow (s : Sheet) (b : List (List Int)) (n r : Nat) : List Bool := (List.range n).map (dotB s b r)
def inkTo (s : Sheet) (b : List (List Int)) (r : Nat) : List Bool := (List.range r).flatMap (inkRow s b s.cols.toNat)
def inkF (s : Sheet) (b : List (List Int)) : List Bool := if checkErr s b = 0 then inkTo s b s.rows.toNat else []
theorem inkRow_succ (s : Sheet) (b : List (List Int)) (n r : Nat) : inkRow s b (n + 1) r = inkRow s b n r ++ [dotB s b r n] := by simp [inkRow, List.range_succ]
theorem inkRow_len (s : Sheet) (b : List (List Int)) (n r : Nat) : (inkRow s b n r).length = n := by simp [inkRow]
theorem inkTo_succ (s : Sheet) (b : List (List Int)) (r : Nat) : inkTo s b (r + 1) = inkTo s b r ++ inkRow s b s.cols.toNat r := by simp [inkTo, List.range_succ]
theorem inkTo_len (s : Sheet) (b : List (List Int)) : ∀ r, (inkTo s b r).length = r * s.cols.toNat
  | 0 => by simp [inkTo]
  | r + 1 => by rw [inkTo_succ, List.length_append, inkTo_len s b r, inkRow_len, Nat.succ_mul]
theorem any_el {l : List (List Int)} {p : List Int → Bool} {k : Nat} (hk : k < l.length) (h : p (el l k) = true) : l.any p = true := List.any_eq_true.2 ⟨_, el_mem hk, h⟩
theorem none_el {l : List (List Int)} {p : List Int → Bool} (h : ∀ j, j < l.length → p (el l j) = false) : l.any p = false := by
  rw [List.any_eq_false]
  intro x hx
  obtain ⟨j, hj, rfl⟩ := mem_el hx
  simp [h j hj]
set_option maxHeartbeats 1000000 in
theorem dot_p (s : Sheet) (hs : s.ok = true) (b : List (List Int)) (h12 : b.length ≤ 12) (hl : b.all (isLineB s) = true) (r c : Nat) (hr : (r : Int) < s.rows) (hc : (c : Int) < s.cols) : PCalls Try.prog 96 [s.enc, encRows b, vi r, vi c] (· = vb (dotB s b r c)) := by
  have hbd := Sheet.bounds hs
  refine pcalls_of_aw Try.func96 rfl (Nat.le_of_ble_eq_true rfl) ?_
  (repeat' (first | (refine ar_isq ?_; first | refine zmv ?_ | refine zas ?_ | (refine is_load ?_; first | refine zlp ?_ | refine zlr ?_) | (refine is_binOp ?_; first | refine zlss ?_ | refine zadd ?_ | refine zsub ?_) | (refine is_fieldAddr ?_; first | refine zfp ?_ | refine zfr ?_) | (refine is_indexAddr ?_; first | refine zil ?_ | refine zis ?_ | refine zit ?_ | refine zia ?_ | refine zir ?_ | (refine zxl ?_; intro _ _ _) | (refine zxs ?_; intro _ _ _)) | (refine is_call ?_; first | refine zll ?_ | refine zls ?_ | refine zln ?_ | refine zle ?_)) | (refine zbx ?_) | (refine ar_nil ?_) | (refine aw_seq ?_) | (refine aw_skip ?_) | (refine aw_block ?_) | (refine aw_exit ?_) | (refine aw_region ?_) | (refine aw_drawn (id := 4) [(0, 0), (1, 0), (2, 0), (3, 0), (4, 0), (5, 0), (6, 0), (7, 0), (8, 0), (9, 0), (10, 0), (11, 0), (12, 1)] mixed (by kernel_rfl) ?_) | (refine aw_drawn (id := 4) [(0, 0), (1, 0), (2, 0), (3, 0), (4, 0), (5, 0), (6, 0), (7, 0), (8, 0), (9, 0), (10, 0), (11, 0), (12, 2)] mixed (by kernel_rfl) ?_) | (refine zco ?_ ?_ <;> intro hg <;> first | exact absurd hg (by decide) | ((try replace hg := HG.out hg); (try dsimp only at hg); (try rw [withinB_iff] at hg); (try rw [withinB_no] at hg); (try (have _h : True := hg; clear _h hg)); first | (exfalso; omega) | skip))))
  refine aw_for b.length (fun k => ∀ j, j < k → dotAt s r c (el b j) = false) (fun k => [(1, encRows b), (2, vi r), (3, vi c), (4, .ptr 5 0 0 0), (9, vi k)]) (fun _ => [.arr 5 1 (fun _ => s.enc)]) (fun j hj => by omega) ?_ ?_
  · (refine sub_to [some 0] [] rfl ?_ ?_ <;> (repeat' (first | exact trivial | refine ⟨⟨_, rfl, ?_⟩, ?_⟩ | refine ⟨bsub_snoc rfl rfl (fun _ => rfl) ?_, ?_⟩ | refine ⟨bsub_one rfl rfl ?_, ?_⟩ | refine ⟨bsub_all rfl rfl (fun _ _ => rfl) (fun _ => rfl), ?_⟩ | refine ⟨bsub_updL rfl rfl ?_ (fun _ _ _ => rfl) (fun _ => rfl), ?_⟩ | refine ⟨.inl ⟨_, _, rfl, rfl, ?_⟩, ?_⟩ | exact ⟨.inr ⟨rfl, rfl⟩, trivial⟩ | refine ⟨.inr ⟨rfl, rfl⟩, ?_⟩ | (intro _ _) | exact vz1 | exact vz2 | fail)))
  intro k hk hJ
  by_cases hlt : k < b.length
  · have h1 := of_all_el hl hlt
    have h2 := isLine_len h1
    have h3 := isLine_at h1 (j := c) (by omega)
    (repeat' (first | (refine ar_isq ?_; first | refine zmv ?_ | refine zas ?_ | (refine is_load ?_; first | refine zlp ?_ | refine zlr ?_) | (refine is_binOp ?_; first | refine zlss ?_ | refine zadd ?_ | refine zsub ?_) | (refine is_fieldAddr ?_; first | refine zfp ?_ | refine zfr ?_) | (refine is_indexAddr ?_; first | refine zil ?_ | refine zis ?_ | refine zit ?_ | refine zia ?_ | refine zir ?_ | refine zil (j := c) ?_ | refine zis (j := c) ?_ | refine zit (j := c) ?_ | (refine zxl ?_; intro _ _ _) | (refine zxs ?_; intro _ _ _)) | (refine is_call ?_; first | refine zll ?_ | refine zls ?_ | refine zln ?_ | refine zle ?_)) | (refine ar_pcall (own := false) fn102 rfl rfl (.cons (.closed rfl) (.cons (.closed rfl) (.cons (.closed rfl) .nil))) (rwithin_p _ _ _) (by simp) (dc rfl) ?_; intro _ hv; subst hv) | (refine zbx ?_) | (refine ar_nil ?_) | (refine aw_seq ?_) | (refine aw_skip ?_) | (refine aw_block ?_) | (refine aw_exit ?_) | (refine aw_region ?_) | (refine aw_drawn (id := 4) [(0, 0), (1, 0), (2, 0), (3, 0), (4, 0), (5, 0), (6, 0), (7, 0), (8, 0), (9, 0), (10, 0), (11, 0), (12, 1)] mixed (by kernel_rfl) ?_) | (refine aw_drawn (id := 4) [(0, 0), (1, 0), (2, 0), (3, 0), (4, 0), (5, 0), (6, 0), (7, 0), (8, 0), (9, 0), (10, 0), (11, 0), (12, 2)] mixed (by kernel_rfl) ?_) | (refine zco ?_ ?_ <;> intro hg <;> first | exact absurd hg (by decide) | ((try replace hg := HG.out hg); (try dsimp only at hg); (try rw [withinB_iff] at hg); (try rw [withinB_no] at hg); (try (have _h : True := hg; clear _h hg)); first | (exfalso; omega) | skip))))
    all_goals first
      | (exfalso; omega)
      | ((first | refine loop_next (by omega) ?_ ?_ | refine (show _ ∧ _ ∧ SubOf _ _ _ _ _ _ from And.intro (by omega) (And.intro ?_ ?_))); (focus ((exact all_step hJ (withinB_no.2 (by omega))); done)); (focus ((refine sub_to [some 0] [] rfl ?_ ?_ <;> (repeat' (first | exact trivial | refine ⟨⟨_, rfl, ?_⟩, ?_⟩ | refine ⟨bsub_snoc rfl rfl (fun _ => rfl) ?_, ?_⟩ | refine ⟨bsub_one rfl rfl ?_, ?_⟩ | refine ⟨bsub_all rfl rfl (fun _ _ => rfl) (fun _ => rfl), ?_⟩ | refine ⟨bsub_updL rfl rfl ?_ (fun _ _ _ => rfl) (fun _ => rfl), ?_⟩ | refine ⟨.inl ⟨_, _, rfl, rfl, ?_⟩, ?_⟩ | exact ⟨.inr ⟨rfl, rfl⟩, trivial⟩ | refine ⟨.inr ⟨rfl, rfl⟩, ?_⟩ | (intro _ _) | exact vz1 | exact vz2 | fail))); done)))
      | ((refine aw_ret ?_; (repeat (first | refine ret_then ?_ | refine ret_block ?_)); refine bq1 rfl ⟨?_, rfl⟩); rw [dotB, any_el hlt (withinB_iff.2 (by omega))]; rfl)
  · (repeat' (first | (refine ar_isq ?_; first | refine zmv ?_ | refine zas ?_ | (refine is_load ?_; first | refine zlp ?_ | refine zlr ?_) | (refine is_binOp ?_; first | refine zlss ?_ | refine zadd ?_ | refine zsub ?_) | (refine is_fieldAddr ?_; first | refine zfp ?_ | refine zfr ?_) | (refine is_indexAddr ?_; first | refine zil ?_ | refine zis ?_ | refine zit ?_ | refine zia ?_ | refine zir ?_ | (refine zxl ?_; intro _ _ _) | (refine zxs ?_; intro _ _ _)) | (refine is_call ?_; first | refine zll ?_ | refine zls ?_ | refine zln ?_ | refine zle ?_)) | (refine zbx ?_) | (refine ar_nil ?_) | (refine aw_seq ?_) | (refine aw_skip ?_) | (refine aw_block ?_) | (refine aw_exit ?_) | (refine aw_region ?_) | (refine aw_drawn (id := 4) [(0, 0), (1, 0), (2, 0), (3, 0), (4, 0), (5, 0), (6, 0), (7, 0), (8, 0), (9, 0), (10, 0), (11, 0), (12, 1)] mixed (by kernel_rfl) ?_) | (refine aw_drawn (id := 4) [(0, 0), (1, 0), (2, 0), (3, 0), (4, 0), (5, 0), (6, 0), (7, 0), (8, 0), (9, 0), (10, 0), (11, 0), (12, 2)] mixed (by kernel_rfl) ?_) | (refine zco ?_ ?_ <;> intro hg <;> first | exact absurd hg (by decide) | ((try replace hg := HG.out hg); (try dsimp only at hg); (try rw [withinB_iff] at hg); (try rw [withinB_no] at hg); (try (have _h : True := hg; clear _h hg)); first | (exfalso; omega) | skip))))
    all_goals first
      | (exfalso; omega)
      | ((refine aw_ret ?_; (repeat (first | refine ret_then ?_ | refine ret_block ?_)); refine bq1 rfl ⟨?_, rfl⟩); rw [dotB, none_el (fun j hj => hJ j (by omega))]; rfl)
set_option maxHeartbeats 1000000 in
theorem rInk_p (s : Sheet) (b : List (List Int)) : PCalls Try.prog 78 [s.enc, encRows b] (· = .tup [encBools (inkF s b), vi (checkErr s b)]) := by
  by_cases hce : checkErr s b = 0
  · obtain ⟨hs, h12, hl⟩ := band_of_check hce
    have hbd := Sheet.bounds hs
    rw [show inkF s b = inkTo s b s.rows.toNat by unfold inkF; rw [if_pos hce]]
    refine pcalls_of_aw Try.func78 rfl (Nat.le_of_ble_eq_true rfl) ?_
    (repeat' (first | (refine ar_isq ?_; first | refine zmv ?_ | refine zas ?_ | (refine is_load ?_; first | refine zlp ?_ | refine zlr ?_) | (refine is_binOp ?_; first | refine zlss ?_ | refine zneq ?_ | refine zadd ?_) | (refine is_fieldAddr ?_; first | refine zfp ?_ | refine zfr ?_)) | (refine ar_pcall (own := false) fn75 rfl rfl (.cons (.closed rfl) (.cons (.closed rfl) .nil)) (rCheck_p s b) (by simp) (dc rfl) ?_; intro _ hv; subst hv) | (refine zbx ?_) | (refine zb1 ?_) | (refine zb0 ?_) | (refine zapoo ?_) | (refine zapol ?_) | (refine zapno ?_) | (refine zapnl ?_) | (refine zapeo ?_) | (refine zapel ?_) | (refine ar_nil ?_) | (refine aw_seq ?_) | (refine aw_skip ?_) | (refine aw_block ?_) | (refine aw_exit ?_) | (refine aw_region ?_) | (refine zco ?_ ?_ <;> intro hg <;> first | exact absurd hg (by decide) | ((try replace hg := HG.out hg); (try dsimp only at hg); (try (have _h : True := hg; clear _h hg)); first | (exfalso; omega) | skip))))
    refine aw_for s.rows.toNat (fun _ => True) (fun k => [(1, encRows b), (2, .ptr 5 0 0 0), (7, .sl 1 1 0 (inkTo s b k).length), (8, vi k)]) (fun k => [.arr 5 1 (fun _ => s.enc), LB 1 vb (inkTo s b k)]) trivial ?_ ?_
    · (refine sub_to [some 0, none] [] rfl ?_ ?_ <;> (repeat' (first | exact trivial | refine ⟨⟨_, rfl, ?_⟩, ?_⟩ | refine ⟨bsub_snoc rfl rfl (fun _ => rfl) ?_, ?_⟩ | refine ⟨bsub_one rfl rfl ?_, ?_⟩ | refine ⟨bsub_all rfl rfl (fun _ _ => rfl) (fun _ => rfl), ?_⟩ | refine ⟨bsub_updL rfl rfl ?_ (fun _ _ _ => rfl) (fun _ => rfl), ?_⟩ | refine ⟨.inl ⟨_, _, rfl, rfl, ?_⟩, ?_⟩ | exact ⟨.inr ⟨rfl, rfl⟩, trivial⟩ | refine ⟨.inr ⟨rfl, rfl⟩, ?_⟩ | (intro _ _) | exact vz1 | exact vz2 | fail)))
    intro k hk _
    have hlen := inkTo_len s b k
    have hk60 : k * s.cols.toNat ≤ 60 * 40 := Nat.mul_le_mul (by omega) (by omega)
    by_cases hlt : k < s.rows.toNat
    · (repeat' (first | (refine ar_isq ?_; first | refine zmv ?_ | refine zas ?_ | (refine is_load ?_; first | refine zlp ?_ | refine zlr ?_) | (refine is_binOp ?_; first | refine zlss ?_ | refine zneq ?_ | refine zadd ?_) | (refine is_fieldAddr ?_; first | refine zfp ?_ | refine zfr ?_)) | (refine zbx ?_) | (refine zb1 ?_) | (refine zb0 ?_) | (refine zapoo ?_) | (refine zapol ?_) | (refine zapno ?_) | (refine zapnl ?_) | (refine zapeo ?_) | (refine zapel ?_) | (refine ar_nil ?_) | (refine aw_seq ?_) | (refine aw_skip ?_) | (refine aw_block ?_) | (refine aw_exit ?_) | (refine aw_region ?_) | (refine zco ?_ ?_ <;> intro hg <;> first | exact absurd hg (by decide) | ((try replace hg := HG.out hg); (try dsimp only at hg); (try (have _h : True := hg; clear _h hg)); first | (exfalso; omega) | skip))))
      refine aw_for s.cols.toNat (fun _ => True) (fun j => [(1, encRows b), (2, .ptr 5 0 0 0), (7, .sl 1 1 0 (inkTo s b k ++ inkRow s b j k).length), (8, vi k), (9, vi j)]) (fun j => [.arr 5 1 (fun _ => s.enc), LB 1 vb (inkTo s b k ++ inkRow s b j k)]) trivial ?_ ?_
      · rw [show inkTo s b k ++ inkRow s b 0 k = inkTo s b k by simp [inkRow]]
        (refine sub_to [some 0, some 1] [] rfl ?_ ?_ <;> (repeat' (first | exact trivial | refine ⟨⟨_, rfl, ?_⟩, ?_⟩ | refine ⟨bsub_snoc rfl rfl (fun _ => rfl) ?_, ?_⟩ | refine ⟨bsub_one rfl rfl ?_, ?_⟩ | refine ⟨bsub_all rfl rfl (fun _ _ => rfl) (fun _ => rfl), ?_⟩ | refine ⟨bsub_updL rfl rfl ?_ (fun _ _ _ => rfl) (fun _ => rfl), ?_⟩ | refine ⟨.inl ⟨_, _, rfl, rfl, ?_⟩, ?_⟩ | exact ⟨.inr ⟨rfl, rfl⟩, trivial⟩ | refine ⟨.inr ⟨rfl, rfl⟩, ?_⟩ | (intro _ _) | exact vz1 | exact vz2 | fail)))
      intro j hj _
      have hlen2 : (inkTo s b k ++ inkRow s b j k).length = k * s.cols.toNat + j := by rw [List.length_append, hlen, inkRow_len]
      by_cases hltj : j < s.cols.toNat
      · (repeat' (first | (refine ar_isq ?_; first | refine zmv ?_ | refine zas ?_ | (refine is_load ?_; first | refine zlp ?_ | refine zlr ?_) | (refine is_binOp ?_; first | refine zlss ?_ | refine zneq ?_ | refine zadd ?_) | (refine is_fieldAddr ?_; first | refine zfp ?_ | refine zfr ?_)) | (refine ar_pcall (own := false) fn96 rfl rfl (.cons (.closed rfl) (.cons (.closed rfl) (.cons (.closed rfl) (.cons (.closed rfl) .nil)))) (dot_p s hs b h12 hl k j (by omega) (by omega)) (by simp) (dc rfl) ?_; intro _ hv; subst hv) | (refine zbx ?_) | (refine zb1 ?_) | (refine zb0 ?_) | (refine zapoo ?_) | (refine zapol ?_) | (refine zapno ?_) | (refine zapnl ?_) | (refine zapeo ?_) | (refine zapel ?_) | (refine ar_nil ?_) | (refine aw_seq ?_) | (refine aw_skip ?_) | (refine aw_block ?_) | (refine aw_exit ?_) | (refine aw_region ?_) | (refine zco ?_ ?_ <;> intro hg <;> first | exact absurd hg (by decide) | ((try replace hg := HG.out hg); (try dsimp only at hg); (try (have _h : True := hg; clear _h hg)); first | (exfalso; omega) | skip))))
        all_goals first
          | (exfalso; omega)
          | (rw [inkRow_succ, ← List.append_assoc]; ((first | refine loop_next (by omega) ?_ ?_ | refine (show _ ∧ _ ∧ SubOf _ _ _ _ _ _ from And.intro (by omega) (And.intro ?_ ?_))); (focus ((trivial); done)); (focus ((refine sub_to [some 0, some 3] [] rfl ?_ ?_ <;> (repeat' (first | exact trivial | refine ⟨⟨_, rfl, ?_⟩, ?_⟩ | refine ⟨bsub_snoc rfl rfl (fun _ => rfl) ?_, ?_⟩ | refine ⟨bsub_one rfl rfl ?_, ?_⟩ | refine ⟨bsub_all rfl rfl (fun _ _ => rfl) (fun _ => rfl), ?_⟩ | refine ⟨bsub_updL rfl rfl ?_ (fun _ _ _ => rfl) (fun _ => rfl), ?_⟩ | refine ⟨.inl ⟨_, _, rfl, rfl, ?_⟩, ?_⟩ | exact ⟨.inr ⟨rfl, rfl⟩, trivial⟩ | refine ⟨.inr ⟨rfl, rfl⟩, ?_⟩ | (intro _ _) | exact vz1 | exact vz2 | fail))); done))))
      · (repeat' (first | (refine ar_isq ?_; first | refine zmv ?_ | refine zas ?_ | (refine is_load ?_; first | refine zlp ?_ | refine zlr ?_) | (refine is_binOp ?_; first | refine zlss ?_ | refine zneq ?_ | refine zadd ?_) | (refine is_fieldAddr ?_; first | refine zfp ?_ | refine zfr ?_)) | (refine zbx ?_) | (refine zb1 ?_) | (refine zb0 ?_) | (refine zapoo ?_) | (refine zapol ?_) | (refine zapno ?_) | (refine zapnl ?_) | (refine zapeo ?_) | (refine zapel ?_) | (refine ar_nil ?_) | (refine aw_seq ?_) | (refine aw_skip ?_) | (refine aw_block ?_) | (refine aw_exit ?_) | (refine aw_region ?_) | (refine zco ?_ ?_ <;> intro hg <;> first | exact absurd hg (by decide) | ((try replace hg := HG.out hg); (try dsimp only at hg); (try (have _h : True := hg; clear _h hg)); first | (exfalso; omega) | skip))))
        all_goals first
          | (exfalso; omega)
          | (rw [show inkTo s b (k + 1) = inkTo s b k ++ inkRow s b j k by rw [inkTo_succ, show j = s.cols.toNat by omega]]; ((first | refine loop_next (by omega) ?_ ?_ | refine (show _ ∧ _ ∧ SubOf _ _ _ _ _ _ from And.intro (by omega) (And.intro ?_ ?_))); (focus ((trivial); done)); (focus ((refine sub_to [some 0, some 1] [] rfl ?_ ?_ <;> (repeat' (first | exact trivial | refine ⟨⟨_, rfl, ?_⟩, ?_⟩ | refine ⟨bsub_snoc rfl rfl (fun _ => rfl) ?_, ?_⟩ | refine ⟨bsub_one rfl rfl ?_, ?_⟩ | refine ⟨bsub_all rfl rfl (fun _ _ => rfl) (fun _ => rfl), ?_⟩ | refine ⟨bsub_updL rfl rfl ?_ (fun _ _ _ => rfl) (fun _ => rfl), ?_⟩ | refine ⟨.inl ⟨_, _, rfl, rfl, ?_⟩, ?_⟩ | exact ⟨.inr ⟨rfl, rfl⟩, trivial⟩ | refine ⟨.inr ⟨rfl, rfl⟩, ?_⟩ | (intro _ _) | exact vz1 | exact vz2 | fail))); done))))
    · (repeat' (first | (refine ar_isq ?_; first | refine zmv ?_ | refine zas ?_ | (refine is_load ?_; first | refine zlp ?_ | refine zlr ?_) | (refine is_binOp ?_; first | refine zlss ?_ | refine zneq ?_ | refine zadd ?_) | (refine is_fieldAddr ?_; first | refine zfp ?_ | refine zfr ?_)) | (refine zbx ?_) | (refine zb1 ?_) | (refine zb0 ?_) | (refine zapoo ?_) | (refine zapol ?_) | (refine zapno ?_) | (refine zapnl ?_) | (refine zapeo ?_) | (refine zapel ?_) | (refine ar_nil ?_) | (refine aw_seq ?_) | (refine aw_skip ?_) | (refine aw_block ?_) | (refine aw_exit ?_) | (refine aw_region ?_) | (refine zco ?_ ?_ <;> intro hg <;> first | exact absurd hg (by decide) | ((try replace hg := HG.out hg); (try dsimp only at hg); (try (have _h : True := hg; clear _h hg)); first | (exfalso; omega) | skip))))
      all_goals first
        | (exfalso; omega)
        | ((refine aw_mono_r (env' := [(4, encBools (inkTo s b k)), (5, vi 0)]) (H' := []) ?_ ?_; (focus ((refine sub_to [] [1] rfl ?_ ?_ <;> (repeat' (first | exact trivial | refine ⟨⟨_, rfl, ?_⟩, ?_⟩ | refine ⟨bsub_snoc rfl rfl (fun _ => rfl) ?_, ?_⟩ | refine ⟨bsub_one rfl rfl ?_, ?_⟩ | refine ⟨bsub_all rfl rfl (fun _ _ => rfl) (fun _ => rfl), ?_⟩ | refine ⟨bsub_updL rfl rfl ?_ (fun _ _ _ => rfl) (fun _ => rfl), ?_⟩ | refine ⟨.inl ⟨_, _, rfl, rfl, ?_⟩, ?_⟩ | exact ⟨.inr ⟨rfl, rfl⟩, trivial⟩ | refine ⟨.inr ⟨rfl, rfl⟩, ?_⟩ | (intro _ _) | exact vz1 | exact vz2 | fail))); done))); (refine aw_ret ?_; (repeat (first | refine ret_then ?_ | refine ret_block ?_)); refine bq2 rfl rfl ⟨?_, rfl⟩); rw [show k = s.rows.toNat by omega, hce]; try rfl)
  · rw [show inkF s b = [] by unfold inkF; rw [if_neg hce]]
    refine pcalls_of_aw Try.func78 rfl (Nat.le_of_ble_eq_true rfl) ?_
    (repeat' (first | (refine ar_isq ?_; first | refine zmv ?_ | refine zas ?_ | (refine is_load ?_; first | refine zlp ?_ | refine zlr ?_) | (refine is_binOp ?_; first | refine zlss ?_ | refine zneq ?_ | refine zadd ?_) | (refine is_fieldAddr ?_; first | refine zfp ?_ | refine zfr ?_)) | (refine ar_pcall (own := false) fn75 rfl rfl (.cons (.closed rfl) (.cons (.closed rfl) .nil)) (rCheck_p s b) (by simp) (dc rfl) ?_; intro _ hv; subst hv) | (refine zbx ?_) | (refine zb1 ?_) | (refine zb0 ?_) | (refine zapoo ?_) | (refine zapol ?_) | (refine zapno ?_) | (refine zapnl ?_) | (refine zapeo ?_) | (refine zapel ?_) | (refine ar_nil ?_) | (refine aw_seq ?_) | (refine aw_skip ?_) | (refine aw_block ?_) | (refine aw_exit ?_) | (refine aw_region ?_) | (refine zco ?_ ?_ <;> intro hg <;> first | exact absurd hg (by decide) | ((try replace hg := HG.out hg); (try dsimp only at hg); (try (have _h : True := hg; clear _h hg)); first | (exfalso; omega) | skip))))
    all_goals first
      | (exfalso; omega)
      | ((refine aw_mono_r (env' := [(4, encBools []), (5, vi (checkErr s b))]) (H' := []) ?_ ?_; (focus ((refine sub_to [] [] rfl ?_ ?_ <;> (repeat' (first | exact trivial | refine ⟨⟨_, rfl, ?_⟩, ?_⟩ | refine ⟨bsub_snoc rfl rfl (fun _ => rfl) ?_, ?_⟩ | refine ⟨bsub_one rfl rfl ?_, ?_⟩ | refine ⟨bsub_all rfl rfl (fun _ _ => rfl) (fun _ => rfl), ?_⟩ | refine ⟨bsub_updL rfl rfl ?_ (fun _ _ _ => rfl) (fun _ => rfl), ?_⟩ | refine ⟨.inl ⟨_, _, rfl, rfl, ?_⟩, ?_⟩ | exact ⟨.inr ⟨rfl, rfl⟩, trivial⟩ | refine ⟨.inr ⟨rfl, rfl⟩, ?_⟩ | (intro _ _) | exact vz1 | exact vz2 | fail))); done))); (refine aw_ret ?_; (repeat (first | refine ret_then ?_ | refine ret_block ?_)); refine bq2 rfl rfl ⟨?_, rfl⟩); rfl)
end Go.Proofs.Ytbilpbabdgfblaa
namespace Go.Proofs.Ytbilpbabdgfblaa
open Go.RowKit
def pCol (s : Sheet) (m : Bool) (c : Nat) : Nat := if m = true then s.cols.toNat - 1 - c else c
theorem pCol_lt {s : Sheet} {m : Bool} {c : Nat} (h : c < s.cols.toNat) : pCol s m c < s.cols.toNat := by unfold pCol; split <;> omega
theorem pCol_pCol {s : Sheet} {m : Bool} {c : Nat} (h : c < s.cols.toNat) : pCol s m (pCol s m c) = c := by unfold pCol; split <;> omega
/-- A line's ink, grown. -/
def hitB (s : Sheet) (g : Int) (l : List Int) (r c : Nat) : Bool := decide (el l c - g ≤ (r : Int)) && decide ((r : Int) ≤ el l c + s.weight - 1 + g)
theorem hitB_iff {s : Sheet} {g : Int} {l : List Int} {r c : Nat} : hitB s g l r c = true ↔ el l c - g ≤ (r : Int) ∧ (r : Int) ≤ el l c + s.weight - 1 + g := by simp [hitB]
def proofB (s : Sheet) (b : List (List Int)) (g : Int) (m : Bool) (r c : Nat) : Bool := b.any fun l => hitB s g l r (pCol s m c)
def proofAt (s : Sheet) (b : List (List Int)) (g : Int) (m : Bool) (j : Nat) : Bool := proofB s b g m (j / s.cols.toNat) (j % s.cols.toNat)
def proofTo (s : Sheet) (b : List (List Int)) (g : Int) (m : Bool) (n : Nat) : List Bool := (List.range n).map (proofAt s b g m)
def proofErr (s : Sheet) (b : List (List Int)) (g : Int) : Int := if checkErr s b = 0 then (if withinB g 0 20 = true then 0 else 2) else checkErr s b
def proofF (s : Sheet) (b : List (List Int)) (g : Int) (m : Bool) : List Bool := if proofErr s b g = 0 then proofTo s b g m (s.rows.toNat * s.cols.toNat) else []
theorem proofTo_succ (s : Sheet) (b : List (List Int)) (g : Int) (m : Bool) (n : Nat) : proofTo s b g m (n + 1) = proofTo s b g m n ++ [proofAt s b g m n] := by simp [proofTo, List.range_succ]
theorem proofTo_len (s : Sheet) (b : List (List Int)) (g : Int) (m : Bool) (n : Nat) : (proofTo s b g m n).length = n := by simp [proofTo]
theorem proofTo_el {s : Sheet} {b : List (List Int)} {g : Int} {m : Bool} {n j : Nat} (h : j < n) : el (proofTo s b g m n) j = proofAt s b g m j := by unfold proofTo; rw [el_map_range h]
theorem proof_idx {s : Sheet} {b : List (List Int)} {g : Int} {m : Bool} {r c : Nat} (h : c < s.cols.toNat) : proofAt s b g m (r * s.cols.toNat + c) = proofB s b g m r c := by
  unfold proofAt
  rw [Nat.add_comm, Nat.add_mul_div_right _ _ (by omega), Nat.div_eq_of_lt h, Nat.zero_add, Nat.add_mul_mod_self_right, Nat.mod_eq_of_lt h]
def stLine (s : Sheet) (b : List (List Int)) (g : Int) (m : Bool) (i j : Nat) : Bool := (b.take i).any fun l => hitB s g l (j / s.cols.toNat) (pCol s m (j % s.cols.toNat))
def stCol (s : Sheet) (b : List (List Int)) (g : Int) (m : Bool) (i c j : Nat) : Bool := stLine s b g m i j || (decide (pCol s m (j % s.cols.toNat) < c) && hitB s g (el b i) (j / s.cols.toNat) (pCol s m (j % s.cols.toNat)))
def stRow (s : Sheet) (b : List (List Int)) (g : Int) (m : Bool) (i c r j : Nat) : Bool := stCol s b g m i c j || (decide (pCol s m (j % s.cols.toNat) = c) && (decide (j / s.cols.toNat < r) && hitB s g (el b i) (j / s.cols.toNat) c))
theorem stCol_zero (s : Sheet) (b : List (List Int)) (g : Int) (m : Bool) (i j : Nat) : stCol s b g m i 0 j = stLine s b g m i j := by simp [stCol]
theorem stRow_zero {s : Sheet} {b : List (List Int)} {g : Int} {m : Bool} {i c r j : Nat} (h : (r : Int) ≤ max (el (el b i) c - g) 0) : stRow s b g m i c r j = stCol s b g m i c j := by
  unfold stRow
  generalize j / s.cols.toNat = q
  cases hx : hitB s g (el b i) q c
  · simp
  · rw [hitB_iff] at hx
    rw [show decide (q < r) = false by simp; omega]
    simp
theorem stRow_succ {s : Sheet} {b : List (List Int)} {g : Int} {m : Bool} {i c r j : Nat} (hc : c < s.cols.toNat) (h1 : el (el b i) c - g ≤ (r : Int)) (h2 : (r : Int) ≤ el (el b i) c + s.weight - 1 + g) :
    (bif Nat.beq j (r * s.cols.toNat + pCol s m c) then true else stRow s b g m i c r j) = stRow s b g m i c (r + 1) j := by
  have hp := pCol_lt (m := m) hc
  by_cases e : j = r * s.cols.toNat + pCol s m c
  · have ed : j / s.cols.toNat = r := by rw [e, Nat.add_comm, Nat.add_mul_div_right _ _ (by omega), Nat.div_eq_of_lt hp, Nat.zero_add]
    have em : j % s.cols.toNat = pCol s m c := by rw [e, Nat.add_comm, Nat.add_mul_mod_self_right, Nat.mod_eq_of_lt hp]
    rw [show Nat.beq j (r * s.cols.toNat + pCol s m c) = true by rw [e]; simp]
    unfold stRow
    rw [ed, em, pCol_pCol hc, hitB_iff.2 ⟨h1, h2⟩]
    simp
  · have eb : Nat.beq j (r * s.cols.toNat + pCol s m c) = false := by cases q : Nat.beq j (r * s.cols.toNat + pCol s m c) with | false => rfl | true => exact (e (Nat.eq_of_beq_eq_true q)).elim
    rw [eb]
    show stRow s b g m i c r j = stRow s b g m i c (r + 1) j
    unfold stRow
    by_cases hq : pCol s m (j % s.cols.toNat) = c
    · have hne : j / s.cols.toNat ≠ r := fun hd => e (by
        have h3 := Nat.div_add_mod' j s.cols.toNat
        rw [hd] at h3
        have h4 : j % s.cols.toNat = pCol s m c := by rw [← hq, pCol_pCol (Nat.mod_lt _ (by omega))]
        rw [h4] at h3
        exact h3.symm)
      rw [show decide (j / s.cols.toNat < r + 1) = decide (j / s.cols.toNat < r) by simp; omega]
    · simp [hq]
theorem stRow_end {s : Sheet} {b : List (List Int)} {g : Int} {m : Bool} {i c r j : Nat} (hj : (j / s.cols.toNat : Nat) < s.rows) (h : min (el (el b i) c + s.weight - 1 + g) (s.rows - 1) < (r : Int)) : stRow s b g m i c r j = stCol s b g m i (c + 1) j := by
  unfold stRow stCol
  generalize j / s.cols.toNat = q at hj ⊢
  by_cases hq : pCol s m (j % s.cols.toNat) = c
  · cases hx : hitB s g (el b i) q c
    · rw [hq, hx]; simp
    · have hx' := hitB_iff.1 hx
      rw [hq, hx, show decide (q < r) = true by simp; omega]
      simp
  · rw [show decide (pCol s m (j % s.cols.toNat) < c + 1) = decide (pCol s m (j % s.cols.toNat) < c) by simp; omega]
    simp [hq]
theorem stCol_end {s : Sheet} {b : List (List Int)} {g : Int} {m : Bool} {i c j : Nat} (hc : s.cols.toNat ≤ c) (h0 : 0 < s.cols.toNat) (hi : i < b.length) : stCol s b g m i c j = stLine s b g m (i + 1) j := by
  unfold stCol stLine
  have := pCol_lt (s := s) (m := m) (Nat.mod_lt j h0)
  rw [show decide (pCol s m (j % s.cols.toNat) < c) = true by simp; omega, List.take_succ_eq_append_getElem hi, List.any_append, el_eq hi]
  simp
theorem stLine_end {s : Sheet} {b : List (List Int)} {g : Int} {m : Bool} {i j : Nat} (hi : b.length ≤ i) : stLine s b g m i j = proofAt s b g m j := by
  unfold stLine proofAt proofB
  rw [List.take_of_length_le hi]
theorem inkTo_el {s : Sheet} {b : List (List Int)} {c : Nat} (hc : c < s.cols.toNat) : ∀ {n r : Nat}, r < n → el (inkTo s b n) (r * s.cols.toNat + c) = dotB s b r c
  | 0, _, h => by omega
  | n + 1, r, h => by
    rw [inkTo_succ]
    have hl := inkTo_len s b n
    by_cases e : r < n
    · rw [el_app_lt, inkTo_el hc e]
      rw [hl]
      have : (r + 1) * s.cols.toNat ≤ n * s.cols.toNat := Nat.mul_le_mul_right _ e
      rw [Nat.add_mul, Nat.one_mul] at this
      omega
    · obtain rfl : r = n := by omega
      rw [el_app_ge (by omega), hl, Nat.add_sub_cancel_left]
      unfold inkRow
      rw [el_map_range hc]
def winB (s : Sheet) (b : List (List Int)) (c r0 n : Nat) : Bool := (List.range n).any fun k => dotB s b (r0 + k) c
theorem winB_succ (s : Sheet) (b : List (List Int)) (c r0 n : Nat) : winB s b c r0 (n + 1) = (winB s b c r0 n || dotB s b (r0 + n) c) := by
  unfold winB
  rw [List.range_succ, List.any_append]
  simp
theorem winB_all {s : Sheet} {b : List (List Int)} {g : Int} {c row r0 n : Nat} (hs : s.ok = true) (hl : b.all (isLineB s) = true) (hc : c < s.cols.toNat) (hrow : (row : Int) < s.rows) (hg : 0 ≤ g) (h0 : (r0 : Int) = max 0 ((row : Int) - g)) (hn : ((r0 + n : Nat) : Int) = min (s.rows - 1) ((row : Int) + g) + 1) :
    winB s b c r0 n = b.any fun l => hitB s g l row c := by
  have hb := Sheet.bounds hs
  rw [Bool.eq_iff_iff]
  unfold winB
  simp only [List.any_eq_true, List.mem_range]
  constructor
  · rintro ⟨k, hk, hd⟩
    unfold dotB at hd
    rw [List.any_eq_true] at hd
    obtain ⟨l, hm, hd⟩ := hd
    have := withinB_iff.1 hd
    exact ⟨l, hm, hitB_iff.2 (by push_cast at this hn; omega)⟩
  · rintro ⟨l, hm, hh⟩
    have hh := hitB_iff.1 hh
    have h1 := List.all_eq_true.1 hl l hm
    have h2 := isLine_len h1
    have h3 := isLine_at h1 (j := c) (by omega)
    refine ⟨(max (r0 : Int) (el l c)).toNat - r0, by omega, ?_⟩
    unfold dotB
    rw [List.any_eq_true]
    exact ⟨l, hm, withinB_iff.2 (by omega)⟩
def gapAt (s : Sheet) (b : List (List Int)) (i c : Nat) : Int := el (el b (i + 1)) c - el (el b i) c - s.weight
def gapRow (s : Sheet) (b : List (List Int)) (i : Nat) (x : Int) (n : Nat) : Int := (List.range n).foldl (fun a c => min a (gapAt s b i c)) x
def gapTo (s : Sheet) (b : List (List Int)) (k : Nat) : Int := (List.range k).foldl (fun a i => gapRow s b i a s.cols.toNat) s.rows
theorem gapRow_succ (s : Sheet) (b : List (List Int)) (i : Nat) (x : Int) (n : Nat) : gapRow s b i x (n + 1) = min (gapRow s b i x n) (gapAt s b i n) := by simp [gapRow, List.range_succ]
theorem gapTo_succ (s : Sheet) (b : List (List Int)) (k : Nat) : gapTo s b (k + 1) = gapRow s b k (gapTo s b k) s.cols.toNat := by simp [gapTo, List.range_succ]
theorem gapRow_bnd {s : Sheet} {b : List (List Int)} {i : Nat} {x : Int} (hx : 0 ≤ x ∧ x ≤ s.rows) : ∀ n, (∀ c, c < n → 0 ≤ gapAt s b i c) → 0 ≤ gapRow s b i x n ∧ gapRow s b i x n ≤ s.rows
  | 0, _ => hx
  | n + 1, h => by
    have ih := gapRow_bnd (i := i) hx n (fun c hc => h c (by omega))
    have := h n (by omega)
    rw [gapRow_succ]
    omega
theorem gapTo_bnd {s : Sheet} {b : List (List Int)} (h0 : 0 ≤ s.rows) : ∀ k, (∀ i c, i < k → c < s.cols.toNat → 0 ≤ gapAt s b i c) → 0 ≤ gapTo s b k ∧ gapTo s b k ≤ s.rows
  | 0, _ => ⟨h0, Int.le_refl _⟩
  | k + 1, h => by
    rw [gapTo_succ]
    exact gapRow_bnd (gapTo_bnd h0 k fun i c hi hc => h i c (by omega) hc) _ fun c hc => h k c (by omega) hc
theorem near_no {s : Sheet} {x y : List Int} (h : clashF s x y < 0) {j : Nat} (hj : (j : Int) < s.cols) : nearAt s x y j = false := by
  unfold clashF at h
  split at h
  · omega
  · rename_i hf
    rw [List.find?_eq_none] at hf
    have := hf j (by simp; omega)
    simpa using this
theorem gap_pos {s : Sheet} {b : List (List Int)} (h : checkErr s b = 0) {i c : Nat} (hi : i < b.length - 1) (hc : c < s.cols.toNat) : 0 ≤ gapAt s b i c := by
  have hb := Sheet.bounds (band_of_check h).1
  have hbd : bandB s b = true := by
    unfold checkErr at h
    rw [if_pos (band_of_check h).1] at h
    split at h
    · assumption
    · omega
  unfold bandB at hbd
  simp only [Bool.and_eq_true, List.all_eq_true, List.mem_range, decide_eq_true_eq] at hbd
  have := near_no (hbd.2 i hi) (j := c) (by omega)
  simp only [nearAt, decide_eq_false_iff_not] at this
  unfold gapAt
  omega
def gapErr (s : Sheet) (b : List (List Int)) : Int := if checkErr s b = 0 then (if b.length < 2 then 6 else 0) else checkErr s b
def gapF (s : Sheet) (b : List (List Int)) : Int := if gapErr s b = 0 then gapTo s b (b.length - 1) else 0
theorem gap_ok {s : Sheet} {b : List (List Int)} (h : gapErr s b = 0) : checkErr s b = 0 ∧ 2 ≤ b.length ∧ 0 ≤ gapF s b ∧ gapF s b ≤ 60 := by
  have h0 := h
  unfold gapErr at h
  split at h
  · rename_i hc
    split at h
    · omega
    · have hb := Sheet.bounds (band_of_check hc).1
      have := gapTo_bnd (s := s) (b := b) (by omega) (b.length - 1) fun i c hi hcc => gap_pos hc hi hcc
      unfold gapF
      rw [if_pos h0]
      exact ⟨hc, by omega, this.1, by omega⟩
  · omega
def lastErr (s : Sheet) (b : List (List Int)) (per : Int) : Int := if gapErr s b = 0 then (if withinB per 1 1000 = true then (if gapF s b = 0 then 6 else 0) else 2) else gapErr s b
def lastF (s : Sheet) (b : List (List Int)) (per : Int) : Int := if lastErr s b per = 0 then (gapF s b + 1) / 2 * per - 1 else 0
theorem last_step {g p n : Int} (hg : 1 ≤ g) (hp : 1 ≤ p) (hn : 0 ≤ n) (h : n < (g + 1) / 2 * p - 1) : 0 < g - 2 * ((n + 1) / p) := by
  have h1 : (n + 1) / p < (g + 1) / 2 := Int.ediv_lt_of_lt_mul (by omega) (by omega)
  omega
theorem last_end {g p : Int} (hp : 1 ≤ p) : ¬ (0 < g - 2 * (((g + 1) / 2 * p - 1 + 1) / p)) := by
  have : ((g + 1) / 2 * p - 1 + 1) / p = (g + 1) / 2 := by rw [Int.sub_add_cancel]; exact Int.mul_ediv_cancel _ (by omega)
  rw [this]
  omega
end Go.Proofs.Ytbilpbabdgfblaa
namespace Go.Proofs.Ytbilpbabdgfblaa
open Go.RowKit
structure Dsn where
  owner : Int
  sheet : Sheet
  band : List (List Int)
instance : Inhabited Dsn := ⟨⟨0, ⟨0, 0, 0, 0, 0⟩, []⟩⟩
structure Lic where
  design : Int
  client : Int
  til : Int
  left : Int
instance : Inhabited Lic := ⟨⟨0, 0, 0, 0⟩⟩
structure Ordr where
  client : Int
  design : Int
  need : Int
  done : Bool
instance : Inhabited Ordr := ⟨⟨0, 0, 0, false⟩⟩
structure Hse where
  per : Int
  day : Int
  store : Sto
  designs : List Dsn
  lics : List Lic
  orders : List Ordr
  made : List Int
  fors : List Int
/-- A deed of the house. -/
structure Job where
  kind : Int
  client : Int
  design : Int
  order : Int
  n : Int
  til : Int
  act : Deed
  sheet : Sheet
  band : List (List Int)
instance : Inhabited Job := ⟨⟨0, 0, 0, 0, 0, 0, ⟨0, 0, 0, 0⟩, ⟨0, 0, 0, 0, 0⟩, []⟩⟩
def Dsn.enc (d : Dsn) : V := .agg [vi d.owner, vi d.sheet.cols, vi d.sheet.rows, vi d.sheet.weight, vi d.sheet.clear, vi d.sheet.lean, encRows d.band]
def Lic.enc (l : Lic) : V := .agg [vi l.design, vi l.client, vi l.til, vi l.left]
def Ordr.enc (o : Ordr) : V := .agg [vi o.client, vi o.design, vi o.need, vb o.done]
abbrev encDsns (l : List Dsn) : V := LV 7 Dsn.enc l
abbrev encLics (l : List Lic) : V := LV 4 Lic.enc l
abbrev encOrders (l : List Ordr) : V := LV 4 Ordr.enc l
def Hse.enc (h : Hse) : V := .agg [vi h.per, vi h.day, vi h.store.life, encItems h.store.items, encPrints h.store.prints, encDsns h.designs, encLics h.lics, encOrders h.orders, encInts h.made, encInts h.fors]
def Job.enc (j : Job) : V := .agg [vu8 j.kind, vi j.client, vi j.design, vi j.order, vi j.n, vi j.til, vu8 j.act.kind, vi j.act.item, vi j.act.dest, vi j.act.n, vi j.sheet.cols, vi j.sheet.rows, vi j.sheet.weight, vi j.sheet.clear, vi j.sheet.lean, encRows j.band]
def GoodD (d : Dsn) : Prop := (0 ≤ d.owner ∧ d.owner ≤ 50) ∧ d.band.length ≠ 0 ∧ checkErr d.sheet d.band = 0 ∧ (gapErr d.sheet d.band ≠ 0 ∨ 0 < gapF d.sheet d.band)
instance (d : Dsn) : Decidable (GoodD d) := by unfold GoodD; infer_instance
/-- How many impressions of a plate a design allows. -/
def allowsF (per life : Int) (d : Dsn) : Int := if lastErr d.sheet d.band per = 0 then lastF d.sheet d.band per + 1 else life
def inDesigns (h : Hse) (n : Int) : Prop := 0 ≤ n ∧ n < (h.designs.length : Int)
def inOrders (h : Hse) (n : Int) : Prop := 0 ≤ n ∧ n < (h.orders.length : Int)
instance (h : Hse) (n : Int) : Decidable (inDesigns h n) := by unfold inDesigns; infer_instance
instance (h : Hse) (n : Int) : Decidable (inOrders h n) := by unfold inOrders; infer_instance
def LicOk (h : Hse) (l : Lic) : Prop := inDesigns h l.design ∧ (0 ≤ l.client ∧ l.client ≤ 50) ∧ l.client ≠ (el h.designs l.design.toNat).owner ∧ (0 ≤ l.til ∧ l.til ≤ 10000) ∧ (0 ≤ l.left ∧ l.left ≤ 400)
instance (h : Hse) (l : Lic) : Decidable (LicOk h l) := by unfold LicOk; infer_instance
def MadeAt (h : Hse) (i : Nat) : Prop := inDesigns h (el h.made i) ∧ ((el h.store.items i).kind ≠ 1 → el h.made i = el h.made (el h.store.items i).src.toNat) ∧ ((el h.store.items i).kind = 3 → (el h.store.items i).uses ≤ allowsF h.per h.store.life (el h.designs (el h.made i).toNat))
instance (h : Hse) (i : Nat) : Decidable (MadeAt h i) := by unfold MadeAt; infer_instance
def ForAt (h : Hse) (j : Nat) : Prop := inOrders h (el h.fors j) ∧ (el h.orders (el h.fors j).toNat).design = el h.made (el h.store.prints j).plate.toNat
instance (h : Hse) (j : Nat) : Decidable (ForAt h j) := by unfold ForAt; infer_instance
/-- How many of the first k prints are of an order and in a state. -/
def doneTo (h : Hse) (n st : Int) (k : Nat) : Int := cntB (fun j => decide (el h.fors j = n) && decide ((el h.store.prints j).state = st)) k
def doneF (h : Hse) (n st : Int) : Int := doneTo h n st h.fors.length
def OrdAt (h : Hse) (i : Nat) : Prop := (0 ≤ (el h.orders i).client ∧ (el h.orders i).client ≤ 50) ∧ inDesigns h (el h.orders i).design ∧ (1 ≤ (el h.orders i).need ∧ (el h.orders i).need ≤ 400) ∧ ((el h.orders i).done = true → doneF h i 0 = 0 ∧ doneF h i 1 = (el h.orders i).need) ∧ ((el h.orders i).done = false → doneF h i 1 = 0 ∧ doneF h i 0 ≤ (el h.orders i).need)
instance (h : Hse) (i : Nat) : Decidable (OrdAt h i) := by unfold OrdAt; infer_instance
structure HValid (h : Hse) : Prop where
  per : 1 ≤ h.per ∧ h.per ≤ 1000
  day : 0 ≤ h.day ∧ h.day ≤ 10000
  store : Valid h.store
  few : h.designs.length ≤ 8 ∧ h.lics.length ≤ 20 ∧ h.orders.length ≤ 30
  designs : ∀ i, i < h.designs.length → GoodD (el h.designs i)
  lics : ∀ i, i < h.lics.length → LicOk h (el h.lics i)
  mades : h.made.length = h.store.items.length
  made : ∀ i, i < h.store.items.length → MadeAt h i
  forss : h.fors.length = h.store.prints.length
  fors : ∀ j, j < h.fors.length → ForAt h j
  orders : ∀ i, i < h.orders.length → OrdAt h i
end Go.Proofs.Ytbilpbabdgfblaa
namespace Go.Proofs.Ytbilpbabdgfblaa
open Go.RowKit
theorem ar_buildT {P : Program} {r : Option Nat} {m nt i dst : Nat} {Q : Post} {env : Env} {H : Heap} {ops : Array Oper} {l : List Stp} {ty T : TypeId} {pos : String} {after : Array Edge} {d : TyD} {parts : Array (Nat × Operand)} {fs : List (TypeId × Nat)} {ns : List Nat} {vs : List (Nat × V)} {ds0 : List V}
    (h : ∀ ds, ds0 = ds → AR P r m nt ops Q l ((dst, .agg ds) :: env) H) (ht : TyIs P T d) (hk : d.tk = .struct fs) (hs : SizesAre P fs ns) (hz : (constV d.zero).ok = true)
    (hv : parts.toList.mapM (fun p => (eo env p.2).map fun v => (p.1, v)) = some vs) (hb : BuildR (fun k => (List.zip (fs.map (·.2)) ns)[k]?) (constV d.zero).cells vs ds0) (hd : dst < nt) : AR P r m nt ops Q (.q i ⟨some dst, .build T parts, ty, pos, after, none⟩ :: l) env H :=
  ar_buildS ht hk hs hz hv hb hd rfl (h _ rfl)
end Go.Proofs.Ytbilpbabdgfblaa
namespace Go.Proofs.Ytbilpbabdgfblaa
open Go.RowKit
section
variable {H : Heap} {σ : List (Option Nat)} {fr : Nat → Prop}
def VSubsL (H : Heap) (σ : List (Option Nat)) (fr : Nat → Prop) : List V → List V → Prop
  | [], [] => True
  | v :: l, x :: m => VSub H σ fr v x ∧ VSubsL H σ fr l m
  | _, _ => False
theorem vsubsL_len : ∀ {l m : List V}, VSubsL H σ fr l m → l.length = m.length
  | [], [], _ => rfl
  | _ :: l, _ :: m, h => by simp [vsubsL_len (l := l) (m := m) h.2]
  | [], _ :: _, h => h.elim
  | _ :: _, [], h => h.elim
theorem vsubsL_get : ∀ {l m : List V}, VSubsL H σ fr l m → ∀ (j : Nat) v x, l[j]? = some v → m[j]? = some x → VSub H σ fr v x
  | [], [], _, j, v, x, h, _ => by simp at h
  | a :: l, b :: m, h, j, v, x, h1, h2 => by
    cases j with
    | zero => simp at h1 h2; subst h1 h2; exact h.1
    | succ j => exact vsubsL_get h.2 j v x (by simpa using h1) (by simpa using h2)
  | [], _ :: _, h, _, _, _, _, _ => h.elim
  | _ :: _, [], h, _, _, _, _, _ => h.elim
theorem VSub.aggL {cs ds : List V} (h : VSubsL H σ fr cs ds) : VSub H σ fr (.agg cs) (.agg ds) := .agg (vsubsL_len h) (vsubsL_get h)
theorem bsub_mapE {α : Type} {k b : Nat} {e : α → V} {l : List (Int × α)} (h : σ[k]? = some (some b)) (hb : H[b]? = some (mapE e l)) (hc : ∀ y, (e y).closed = true) : BSub H σ fr k (mapE e l) :=
  ⟨b, _, h, hb, rfl, fun i x y hx hy => by
    rw [hx] at hy
    cases hy
    refine ⟨rfl, .closed ?_⟩
    simp only [entsE, List.getElem?_map, Option.map_eq_some_iff] at hx
    obtain ⟨p, _, rfl⟩ := hx
    exact hc _⟩
theorem bsub_mapE' {α : Type} {k b : Nat} {e : α → V} {l l' : List (Int × α)} (h : σ[k]? = some (some b)) (hb : H[b]? = some (mapE e l)) (hl : l' = l) (hc : ∀ y, (e y).closed = true) : BSub H σ fr k (mapE e l') := by
  subst hl
  exact bsub_mapE h hb hc
theorem joinAt_nil {r : Nat → Nat} {H1 : Heap} : ∀ {H : Heap} {k : Nat}, joinAt [] [] r H1 k H = H
  | [], _ => rfl
  | b :: l, k => by
    simp only [joinAt, joinAt_nil (H := l)]
    rfl
theorem joinH_nil {H H1 : Heap} : joinH [] [] H H1 = H ++ H1.map (Blk.ren (rn [] H.length)) := by
  unfold joinH
  rw [joinAt_nil]
  rfl
end
section
variable {P : Program} {r : Option Nat} {m nt : Nat} {Q : Post} {env : Env} {H : Heap} {ops : Array Oper} {l : List Stp} {ty : TypeId} {pos : String} {after : Array Edge}
/-- A call that is handed nothing of ours, and makes own blocks. -/
theorem ar_gcall0 {i d : Nat} {fo : Operand} {args : List Operand} {ats : Array TypeId} {f : FuncId} {first cap vs : List V} {R Rp : V → Heap → Prop} (hfn : FnOk P f) (hf : eo env fo = some (.fn (.func f) first cap)) (hargs : args.mapM (eo env) = some vs)
    (xs : List V) (ha : ArgsSub H [] [] (first ++ vs ++ cap) xs) (h : ACalls P f xs [] R Rp) (hd : d < nt)
    (hk : ∀ v1 H1, R v1 H1 → AR P r m nt ops Q l ((d, v1.ren (rn [] H.length)) :: env) (H ++ H1.map (Blk.ren (rn [] H.length)))) (hp : ∀ v1 H1, Rp v1 H1 → Q (.panic (v1.ren (rn [] H.length))) [] (H ++ H1.map (Blk.ren (rn [] H.length)))) :
    AR P r m nt ops Q (.l i ⟨some d, .call ⟨.value fo, args.toArray, ats⟩, ty, pos, after, none⟩ false :: l) env H :=
  ar_gcall (H0 := []) [] [] hfn hf hargs ha rfl List.nodup_nil (fun _ h => by cases h) trivial (fun _ h => by cases h) h hd (fun v1 H1 hR => by rw [joinH_nil]; exact hk v1 H1 hR) (fun v1 H1 hR => by rw [joinH_nil]; exact hp v1 H1 hR)
end
end Go.Proofs.Ytbilpbabdgfblaa
namespace Go.Proofs.Ytbilpbabdgfblaa
open Go.RowKit
/-- The struct is let go; of its fields the first ones are known. -/
theorem sub_pre {m nt t sz b : Nat} {env : Env} {H : Heap} (cs ds : List V) (ht : look env t = some (.ptr sz b 0 0)) (hb : H[b]? = some (.arr sz 1 (fun _ => .agg (cs ++ ds)))) (hc : V.closed.all cs = true) :
    SubK m nt env H ((t, .ref (.agg cs) 0) :: env) (H.set b .dead) := .mk fun X I ρ a w _ ⟨hE, hw, hd⟩ => by
  obtain ⟨h1, h2⟩ := hE.2 t _ ht
  obtain ⟨cb, z, hu, hx⟩ := h2.ptr_inv
  have hL : Live H ρ cb := ⟨b, _, hb, by simp, z, hx⟩
  have hI := know_le (o := w.heap[cb]?) (hw.apart cb hL)
  obtain ⟨us, ty, hcs, hz, hn, hr⟩ := hw.arr _ _ _ _ _ _ hb hx
  refine ⟨know I cb (w.heap[cb]?), ρ, hI, ⟨⟨hE.1, fun t' v hv => ?_⟩, hw.forget hb (by simp) hx, hd.mono hI⟩, fun y hy => ?_⟩
  · rw [look_cons] at hv
    split at hv
    · rename_i e; subst e; cases hv
      refine ⟨h1, ?_⟩
      rw [hu, Nat.zero_mul]
      have hcell : ∀ (j : Nat) x, cs[j]? = some x → ∃ u, us[j]? = some u ∧ VRel I ρ x u := fun j x hj => by
        have hlt := (List.getElem?_eq_some_iff.1 hj).1
        obtain ⟨u, h3, h4⟩ := hr 0 j x Nat.one_pos (by show (cs ++ ds)[j]? = _; rw [List.getElem?_append_left hlt]; exact hj)
        exact ⟨u, by simpa using h3, h4⟩
      refine .ref (us := fun j => us.getD j undef) ⟨us, ty, (0, 0), by rw [know_at]; exact hcs, fun j hj => ?_⟩ fun j x hj => ?_
      · have hj : j < cs.length := hj
        obtain ⟨u, h3, _⟩ := hcell j cs[j] (by simp [hj])
        simp [h3]
      · have hj : cs[j]? = some x := hj
        obtain ⟨u, h3, h4⟩ := hcell j x hj
        rw [show us.getD j undef = u by simp [h3]]
        exact (h4.close (closed_all hc hj)).mono hI (Pre.refl _)
    · obtain ⟨h3, h4⟩ := hE.2 t' v hv
      exact ⟨h3, h4.mono hI (Pre.refl _)⟩
  · obtain ⟨y1, y2, y3⟩ := hy
    refine ⟨fun c o hc => y1 c o (hI c o hc), fun k sz' n' f' b' z' hk hρ o ho => ?_, fun k mm b' z' hk hρ => ?_⟩
    · by_cases e : k = b
      · subst e
        rw [hx] at hρ
        cases hρ
        have := y1 cb _ (by rw [know_at]; exact hcs)
        simp [World.cell?, this, hcs]
      · exact y2 k sz' n' f' b' z' (by rw [List.getElem?_set_ne (Ne.symm e)]; exact hk) hρ o ho
    · refine y3 k mm b' z' ?_ hρ
      by_cases e : k = b
      · subst e; rw [hb] at hk; cases hk
      · rw [List.getElem?_set_ne (Ne.symm e)]; exact hk
end Go.Proofs.Ytbilpbabdgfblaa
namespace Go.Proofs.Ytbilpbabdgfblaa
open Go.RowKit
/-- In the end, in other words. -/
def subQ (m nt : Nat) (Q : Post) : Post
  | .panic v, env, H => Q (.panic v) env H
  | .normal, env, H => ∃ env' H', SubOf m nt env H env' H' ∧ Q .normal env' H'
  | .ret, env, H => ∃ env' H', SubOf m nt env H env' H' ∧ Q .ret env' H'
  | .exit k, env, H => Q (.exit k) env H
  | .goto k, env, H => Q (.goto k) env H
section
variable {P : Program} {r : Option Nat} {m nt : Nat} {Q : Post} {env env' : Env} {H H' : Heap}
theorem aw_post {c : Code} (h : AW P r m nt c (subQ m nt Q) env H) : AW P r m nt c Q env H := .mk fun X I ρ a w hX hs => by
  refine wpIn_mono (h.1 X I ρ a w hX hs) fun e a' w' hl => ?_
  cases e with
  | normal =>
    obtain ⟨env1, H1, I1, ρ1, h1, env2, H2, h2, h3⟩ := hl
    obtain ⟨I2, ρ2, _, h4⟩ := h2.1 X I1 ρ1 a' w' hX h1
    exact ⟨env2, H2, I2, ρ2, h4, h3⟩
  | ret =>
    obtain ⟨env1, H1, I1, ρ1, h1, env2, H2, h2, h3⟩ := hl
    obtain ⟨I2, ρ2, _, h4⟩ := h2.1 X I1 ρ1 a' w' hX h1
    exact ⟨env2, H2, I2, ρ2, h4, h3⟩
  | exit k => exact hl
  | goto k => exact hl
  | panic ch => exact hl
  | outgrown => exact hl
theorem subq_n (env' : Env) (H' : Heap) (h : SubOf m nt env H env' H') (k : Q .normal env' H') : subQ m nt Q .normal env H := ⟨_, _, h, k⟩
end
end Go.Proofs.Ytbilpbabdgfblaa
namespace Go.Proofs.Ytbilpbabdgfblaa
open Go.RowKit
section
variable {P : Program} {ops : Array Oper} {r : Option Nat} {Q Q' : Exit → Act → World → Prop}
theorem drawn_go1 (hsel : Region.noSelect ops = true) (hQ : ∀ (i : Nat) (o : Oper), ops[i]? = some o → ∀ c a v w, Q (.panic c) (a.put o.dst v) w → Q (.panic c) a w) :
    ∀ (l : List Stp) (listed : Array Bool) (S : World → Prop) (a : Act) (w : World), (∀ s ∈ l, s.flat = true → ops[s.idx]? = some s.oper) → ShutL ops listed → planOk0 ops listed l = true → S w →
      runP0 P r ops Q l S a w → wpAnyS P r ops Q S (phaseEnd ops.size l) l.length listed a w
  | [], listed, S, a, w, _, _, hok, _, h => ⟨by simpa [planOk0] using hok, h⟩
  | .q i o :: l, listed, S, a, w, hn, hsh, hok, hS, h => by
    simp only [planOk0, Bool.and_eq_true] at hok
    obtain ⟨⟨⟨⟨⟨hp, hr⟩, hf⟩, hl⟩, him⟩, hok'⟩ := hok
    have hi : ops[i]? = some o := hn (.q i o) (by simp) rfl
    simp only [runP0] at h
    have hn' : ∀ s ∈ l, s.flat = true → ops[s.idx]? = some s.oper := fun s hs => hn s (by simp [hs])
    show wpAnyS P r ops Q S (phaseEnd ops.size l) (l.length + 1) listed a w
    rw [Bool.or_eq_true] at hl
    have hri : i ∈ Region.ready .any ops listed := by simpa using hr
    rcases hl with hl | hl
    · cases hw : Region.wanted o (yielded ops a.tmps)
      · exact first_S (v := undef) hp hi hsel (fun c a w => hQ i o hi c a undef w) (awaits_of hl) (by simpa using him) l.length listed a w (Region.free_spec hi hf) hsh hri (.inr ⟨hw, rfl⟩) hS
          (drawn_go1 hsel hQ l _ S _ w hn' (hsh.set hri) hok' hS (h.2 hw))
      · obtain ⟨u, h1, h2⟩ := h.1 hw
        exact first_S (v := u) hp hi hsel (fun c a w => hQ i o hi c a u w) (awaits_of hl) (by simpa using him) l.length listed a w (Region.free_spec hi hf) hsh hri (.inl ⟨hw, h1⟩) hS
          (drawn_go1 hsel hQ l _ S _ w hn' (hsh.set hri) hok' hS h2)
    · cases hw : Region.wanted o (yielded ops a.tmps)
      · exact first_still (v := undef) hp hi hsel (fun c a w => hQ i o hi c a undef w) (by simpa using him) l.length listed a w (Region.free_spec hi hf) hsh hri (.inr ⟨hw, rfl⟩) hS
          (drawn_go1 hsel hQ l _ S _ w hn' (hsh.set hri) hok' hS (h.2 hw))
      · obtain ⟨u, h1, h2⟩ := h.1 hw
        exact first_still (v := u) hp hi hsel (fun c a w => hQ i o hi c a u w) (by simpa using him) l.length listed a w (Region.free_spec hi hf) hsh hri (.inl ⟨hw, fun w' _ => still_all hl (h1 w hS) w'⟩) hS
          (drawn_go1 hsel hQ l _ S _ w hn' (hsh.set hri) hok' hS h2)
  | .l i o keep :: l, listed, S, a, w, hn, hsh, hok, hS, h => by
    simp only [planOk0, Bool.and_eq_true, beq_iff_eq] at hok
    obtain ⟨⟨hr, hk⟩, hok'⟩ := hok
    have hi : ops[i]? = some o := hn (.l i o keep) (by simp) rfl
    have hn' : ∀ s ∈ l, s.flat = true → ops[s.idx]? = some s.oper := fun s hs => hn s (by simp [hs])
    refine ⟨fun h0 => (by rw [hr] at h0; cases h0), fun j hj => ?_⟩
    have hj0 := hj
    rw [hr] at hj
    obtain rfl : j = i := by simpa using hj
    exact head_ok (R := runP0 P r ops Q l) hi hS (fun e => by rw [e] at hk; simpa using hk) (fun S' a' w' h1 h3 => drawn_go1 hsel hQ l _ S' a' w' hn' (hsh.set hj0) hok' h1 h3) h
/-- A plan without forks. -/
theorem region_drawn1 {l : List Oper} {id : Nat} {a : Act} {w : World} (ps : List (Nat × Nat)) (S : World → Prop) (hm : P.follows .mixedOrders = true) (hB : (ps.all (fun x => decide (x.1 < l.length)) && Region.noSelect l.toArray && planOk0 l.toArray (Array.replicate l.toArray.size false) (numPlan l ps) && (ps.length == l.length)) = true)
    (hQ : ∀ (i : Nat) (o : Oper), l.toArray[i]? = some o → ∀ c a v w, Q (.panic c) (a.put o.dst v) w → Q (.panic c) a w)
    (hS : S { w with drawn := w.drawn + 1 }) (h : runP0 P r l.toArray Q (numPlan l ps) S a { w with drawn := w.drawn + 1 }) : (Code.region id l.toArray true).wpIn (Fw r) 0 P Q a w := by
  simp only [Bool.and_eq_true, beq_iff_eq, List.all_eq_true, decide_eq_true_eq] at hB
  obtain ⟨⟨⟨hn, hsel⟩, hok⟩, hlen⟩ := hB
  refine wpIn_region_any hm ?_
  have := any_of_S _ _ _ _ (drawn_go1 hsel hQ (numPlan l ps) _ S a _ (fun s hs _ => by
    simp only [numPlan, List.mem_map] at hs
    obtain ⟨x, hx, rfl⟩ := hs
    have := opAt_get l x.1 (hn x hx)
    split <;> simpa [Stp.idx, Stp.oper] using this) (fun j oj _ hl => by exfalso; rw [Array.getD_eq_getD_getElem?, Array.getElem?_replicate] at hl; split at hl <;> simp at hl) hok hS h)
  rw [show (numPlan l ps).length = l.toArray.size by simp [numPlan, hlen]] at this
  exact this
/-- The register (and, if asked, the deferred calls) are avs they were. -/
structure Pin where
  t : Nat
  u : Value
  ds : Option (List Deferred)
def Pin.Ok (p : Pin) (a : Act) : Prop := a.tmps.getD p.t undef = p.u ∧ ∀ ds, p.ds = some ds → a.defers = ds
def PinQ (p : Pin) (Q : Exit → Act → World → Prop) : Exit → Act → World → Prop
  | .outgrown, a, w => Q .outgrown a w
  | e, a, w => Q e a w ∧ p.Ok a
/-- An operation of which one sees that it defers nothing. -/
def calmOp : Op → Bool
  | .move _ | .assign _ | .pick .. | .load .. | .binOp .. | .unOp .. | .convert .. | .fieldAddr .. | .field .. | .indexAddr .. | .index .. | .slice .. | .lookup .. | .extract .. | .build .. | .makeInterface .. | .makeFunc .. | .typeAssert .. | .store .. | .panic _ => true
  | _ => false
def opKeeps (t : Nat) (pd : Bool) (o : Oper) : Bool := !(o.dst == some t) && (!pd || calmOp o.op)
theorem op_dst {t : Nat} {pd : Bool} {o : Oper} (h : opKeeps t pd o = true) : o.dst ≠ some t := by
  unfold opKeeps at h
  simp only [Bool.and_eq_true] at h
  exact fun e => by rw [e] at h; simp at h
theorem op_calm {t : Nat} {o : Oper} (h : opKeeps t true o = true) : calmOp o.op = true := by
  unfold opKeeps at h
  simp only [Bool.and_eq_true] at h
  simpa using h.2
theorem val_no {s : Sem Value} {w w' : World} {d : Deferred} (h : ((do let x ← s; pure (Next.value x)) : Sem Next).run P w = .ok (.defer d) w') : False := by
  rw [Sem.run_bind] at h
  cases hs : s.run P w <;> rw [hs] at h <;> simp at h
theorem skip_no {s : Sem Unit} {w w' : World} {d : Deferred} (h : ((do s; pure Next.skip) : Sem Next).run P w = .ok (.defer d) w') : False := by
  rw [Sem.run_bind] at h
  cases hs : s.run P w <;> rw [hs] at h <;> simp at h
theorem calm_no {o : Oper} {r : Option Nat} {a : Act} {w w' : World} {d : Deferred} (ho : calmOp o.op = true) (h : (o.semAt (Fw r).round a.eval).run P w = .ok (.defer d) w') : False := by
  rw [Oper.semAt_eq _ _ _ (fun c e => by rw [e] at ho; cases ho)] at h
  unfold execOp at h
  cases hop : o.op <;> rw [hop] at h ho <;> first | (cases ho; done) | exact val_no h | exact skip_no h | (simp at h; done) | skip
  rename_i c x y
  simp only [Sem.run_bind] at h
  cases hs : (asBool (a.eval c)).run P w <;> rw [hs] at h <;> simp at h
theorem put_pin {p : Pin} {a : Act} (h : p.Ok a) {d : Option Tmp} (hd : d ≠ some p.t) (v : Value) : p.Ok (a.put d v) := by
  cases d with
  | none => exact h
  | some d =>
    have : d ≠ p.t := fun e => hd (by rw [e])
    exact ⟨by simpa [Act.put, Array.getElem?_setIfInBounds_ne this] using h.1, h.2⟩
theorem pin_put {p : Pin} {a : Act} {d : Option Tmp} (hd : d ≠ some p.t) {v : Value} (h : p.Ok (a.put d v)) : p.Ok a := by
  cases d with
  | none => exact h
  | some d =>
    have : d ≠ p.t := fun e => hd (by rw [e])
    exact ⟨by simpa [Act.put, Array.getElem?_setIfInBounds_ne this] using h.1, h.2⟩
theorem wpIn_pin {p : Pin} {o : Oper} {a : Act} {w : World} {next next' : Act → World → Prop} (hk : opKeeps p.t p.ds.isSome o = true) (ha : p.Ok a) (hn : ∀ a' w', p.Ok a' → next a' w' → next' a' w')
    (h : o.wpIn (Fw r) 0 P a w next Q) : o.wpIn (Fw r) 0 P a w next' (PinQ p Q) := by
  have hd := op_dst hk
  refine ⟨h.1, ?_⟩
  have h2 := h.2
  revert h2
  generalize hres : (o.semAt (Fw r).round a.eval).run P w = res
  intro h2
  cases res
  case ok x w' =>
    cases x
    case value v => exact hn _ _ (put_pin ha hd v) h2
    case skip => exact hn _ _ (put_pin ha hd undef) h2
    case defer d =>
      cases hds : p.ds with
      | some ds => rw [hds] at hk; exact (calm_no (op_calm hk) hres).elim
      | none => exact hn _ _ (put_pin (a := { a with defers := d :: a.defers }) ⟨ha.1, fun ds e => by rw [hds] at e; cases e⟩ hd undef) h2
    case enter f args =>
      refine ⟨h2.1, h2.2.mono fun e w'' he => ?_⟩
      cases e
      case returned v => exact hn _ _ (put_pin ha hd v) he
      case panicked c => exact ⟨he, ha⟩
      all_goals exact he
    case row row args => exact ⟨h2.1, h2.2.mono fun v w'' he => hn _ _ (put_pin ha hd v) he⟩
    case round l f tmps args body =>
      refine ⟨h2.1, h2.2.mono fun e w'' he => ?_⟩
      cases e
      case returned v => exact hn _ _ (put_pin ha hd v) he
      case panicked c => exact ⟨he, ha⟩
      all_goals exact he
    all_goals exact h2.elim
  case halt x w' =>
    cases x
    case panic v => exact ⟨h2, ha⟩
    all_goals exact h2.elim
theorem runP0_pin {p : Pin} : ∀ {l : List Stp} {S : World → Prop} {a : Act} {w : World}, (∀ s ∈ l, s.flat = true ∧ opKeeps p.t p.ds.isSome s.oper = true) → p.Ok a → runP0 P r ops Q l S a w → runP0 P r ops (PinQ p Q) l S a w
  | [], _, _, _, _, ha, h => ⟨h, ha⟩
  | .q i o :: l, S, a, w, hf, ha, h => by
    have hf' : ∀ s ∈ l, s.flat = true ∧ opKeeps p.t p.ds.isSome s.oper = true := fun s hs => hf s (by simp [hs])
    have hd : o.dst ≠ some p.t := op_dst (hf (.q i o) (by simp)).2
    refine ⟨fun hw => ?_, fun hw => runP0_pin hf' (put_pin ha hd _) (h.2 hw)⟩
    obtain ⟨v, h1, h2⟩ := h.1 hw
    exact ⟨v, h1, runP0_pin hf' (put_pin ha hd _) h2⟩
  | .l i o keep :: l, S, a, w, hf, ha, h => by
    have hf' : ∀ s ∈ l, s.flat = true ∧ opKeeps p.t p.ds.isSome s.oper = true := fun s hs => hf s (by simp [hs])
    have hk := (hf (.l i o keep) (by simp)).2
    refine ⟨fun hw => wpIn_pin hk ha ?_ (h.1 hw), fun hw => runP0_pin hf' (put_pin ha (op_dst hk) _) (h.2 hw)⟩
    rintro a' w' ha' ⟨S', h1, h2, h3⟩
    exact ⟨S', h1, h2, runP0_pin hf' ha' h3⟩
  | .fork ps :: l, S, a, w, hf, _, _ => by have := (hf (.fork ps) (by simp)).1; cases this
theorem runP_pin {p : Pin} : ∀ {l : List Stp} {S : World → Prop} {a : Act} {w : World}, (∀ s ∈ l, s.flat = true ∧ opKeeps p.t p.ds.isSome s.oper = true) → p.Ok a → runP P r ops Q l S a w → runP P r ops (PinQ p Q) l S a w
  | [], _, _, _, _, ha, h => ⟨h, ha⟩
  | .q i o :: l, S, a, w, hf, ha, h => by
    have hf' : ∀ s ∈ l, s.flat = true ∧ opKeeps p.t p.ds.isSome s.oper = true := fun s hs => hf s (by simp [hs])
    have hd : o.dst ≠ some p.t := op_dst (hf (.q i o) (by simp)).2
    refine ⟨fun hw => ?_, fun hw => runP_pin hf' (put_pin ha hd _) (h.2 hw)⟩
    obtain ⟨v, h1, h2⟩ := h.1 hw
    exact ⟨v, h1, runP_pin hf' (put_pin ha hd _) h2⟩
  | .l i o keep :: l, S, a, w, hf, ha, h => by
    have hf' : ∀ s ∈ l, s.flat = true ∧ opKeeps p.t p.ds.isSome s.oper = true := fun s hs => hf s (by simp [hs])
    have hk := (hf (.l i o keep) (by simp)).2
    refine ⟨fun hw => wpIn_pin hk ha ?_ (h.1 hw), fun hw => runP_pin hf' (put_pin ha (op_dst hk) _) (h.2 hw)⟩
    rintro a' w' ha' ⟨S', h1, h2, h3⟩
    exact ⟨S', h1, h2, runP_pin hf' ha' h3⟩
  | .fork ps :: l, S, a, w, hf, _, _ => by have := (hf (.fork ps) (by simp)).1; cases this
end
namespace Pn
/-- The walk of a piece of code that keeps register t and defers nothing. -/
structure AW (t : Nat) (pd : Bool) (P : Program) (r : Option Nat) (m nt : Nat) (c : Code) (Q : Post) (env : Env) (H : Heap) : Prop where
  out : ∀ X I ρ a w (p : Pin), p.t = t → p.ds.isSome = pd → X.ρ.length = m → St X nt env H I ρ a w → p.Ok a → c.wpIn (Fw r) 0 P (PinQ p (Lift X nt Q)) a w
section
variable {t : Nat} {pd : Bool} {P : Program} {r : Option Nat} {m nt : Nat} {Q Q' : Post} {env env' : Env} {H H' : Heap}
theorem aw_skip (h : Q .normal env H) : AW t pd P r m nt .skip Q env H := .mk fun _ I ρ _ _ _ _ _ _ hs ha => wpIn_skip ⟨⟨env, H, I, ρ, hs, h⟩, ha⟩
theorem aw_exit {id : Nat} (h : Q (.exit id) env H) : AW t pd P r m nt (.exit id) Q env H := .mk fun _ I ρ _ _ _ _ _ _ hs ha => wpIn_exit ⟨⟨env, H, I, ρ, hs, h⟩, ha⟩
theorem aw_ret (h : Q .ret env H) : AW t pd P r m nt .ret Q env H := .mk fun _ I ρ _ _ _ _ _ _ hs ha => wpIn_ret ⟨⟨env, H, I, ρ, hs, h⟩, ha⟩
theorem aw_seq {x y : Code} (h : AW t pd P r m nt x (AE.then (AW t pd P r m nt y Q) Q) env H) : AW t pd P r m nt (.seq x y) Q env H := .mk
  fun X I ρ a w p hp hq0 hX hs ha => wpIn_seq (wpIn_mono (h.1 X I ρ a w p hp hq0 hX hs ha) fun e a' w' hl => by
    cases e with
    | normal => obtain ⟨⟨env', H', I', ρ', hs', hq⟩, ha'⟩ := hl; exact hq.1 X I' ρ' a' w' p hp hq0 hX hs' ha'
    | exit _ => exact hl
    | goto _ => exact hl
    | ret => exact hl
    | panic _ => exact hl
    | outgrown => exact hl)
theorem aw_cond {c : Operand} {x y : Code} {b : Bool} (hc : eo env c = some (.s (.bool b))) (ht : b = true → AW t pd P r m nt x Q env H) (hf : b = false → AW t pd P r m nt y Q env H) : AW t pd P r m nt (.cond c x y) Q env H := .mk
  fun X I ρ a w p hp hq hX hs ha => wpIn_cond_split (eo_bool hs.1 hc) (fun e => (ht e).1 X I ρ a w p hp hq hX hs ha) (fun e => (hf e).1 X I ρ a w p hp hq hX hs ha)
theorem aw_block {id : Nat} {c : Code} (h : AW t pd P r m nt c (AE.inBlock id Q) env H) : AW t pd P r m nt (.block id c) Q env H := .mk
  fun X I ρ a w p hp hq hX hs ha => wpIn_block (wpIn_mono (h.1 X I ρ a w p hp hq hX hs ha) fun e a w h => by
    cases e with
    | exit id' =>
      obtain ⟨⟨env, H, I, ρ, hs, hq⟩, ha⟩ := h
      simp only [AE.inBlock] at hq
      simp only [Exit.inBlock]
      cases hb : Nat.beq id' id
      · rw [hb] at hq
        rw [if_neg (fun e => by rw [e, Nat.beq_refl] at hb; cases hb)]
        exact ⟨⟨env, H, I, ρ, hs, hq⟩, ha⟩
      · rw [hb] at hq
        rw [if_pos (Nat.eq_of_beq_eq_true hb)]
        exact ⟨⟨env, H, I, ρ, hs, hq⟩, ha⟩
    | normal => exact h
    | goto _ => exact h
    | ret => exact h
    | panic _ => exact h
    | outgrown => exact h)
theorem aw_region {l : List Oper} {id : Nat} (h : AR P r m nt l.toArray Q (textPlan l 0) env H) (hk : l.all (opKeeps t pd) = true := by rfl) : AW t pd P r m nt (.region id l.toArray false) Q env H := .mk fun X I ρ a w p hp hq hX hs ha => by
  subst hp hq
  exact region_text (Keeps I ρ H w) (Keeps.refl hs.2.1) (runP_pin (fun s hs => ⟨textPlan_flat l 0 s hs, (by
    have key : ∀ (l : List Oper) (n : Nat), l.all (opKeeps p.t p.ds.isSome) = true → ∀ s ∈ textPlan l n, opKeeps p.t p.ds.isSome s.oper = true := fun l => by
      induction l with
      | nil => intro n _ s hs; simp [textPlan] at hs
      | cons o l ih =>
        intro n hl s hs
        simp only [List.all_cons, Bool.and_eq_true] at hl
        unfold textPlan at hs
        rcases List.mem_cons.1 hs with h | h
        · rw [h]; cases plainOp o.op <;> exact hl.1
        · exact ih _ hl.2 s h
    exact key l 0 hk s hs)⟩) ha (h.1 X I ρ a w hX hs))
theorem aw_drawn {l : List Oper} {id : Nat} (ps : List (Nat × Nat)) (hm : P.follows .mixedOrders = true) (_hB : drawnOk l ps = true) (h : AR P r m nt l.toArray Q (numPlan l ps) env H)
    (hB0 : (ps.all (fun x => decide (x.1 < l.length)) && Region.noSelect l.toArray && planOk0 l.toArray (Array.replicate l.toArray.size false) (numPlan l ps) && (ps.length == l.length)) = true := by kernel_rfl) (hk : l.all (opKeeps t pd) = true := by kernel_rfl) :
    AW t pd P r m nt (.region id l.toArray true) Q env H := .mk fun X I ρ a w p hp hq hX hs ha => by
  subst hp hq
  have hdl : ∀ o ∈ l, opKeeps p.t p.ds.isSome o = true := List.all_eq_true.1 hk
  refine region_drawn1 ps (Keeps I ρ H w) hm hB0 (fun i o hi c a' v w' hp => ⟨lift_put c a' o.dst v w' hp.1, pin_put (op_dst (hdl o (List.mem_of_getElem? (show l[i]? = some o by simpa using hi)))) hp.2⟩) (Keeps.refl (X := X) hs.2.1.drew) ?_
  refine runP0_pin (fun s hs' => ⟨numPlan_flat l ps s hs', ?_⟩) ha (run0 (numPlan_flat l ps) (h.1 X I ρ a _ hX ⟨hs.1, hs.2.1.drew, hs.2.2⟩))
  simp only [Bool.and_eq_true, List.all_eq_true, decide_eq_true_eq] at hB0
  unfold numPlan at hs'
  obtain ⟨x, hx, rfl⟩ := List.mem_map.1 hs'
  have := hdl _ (List.mem_of_getElem? (opAt_get l x.1 (hB0.1.1.1 x hx)))
  split <;> exact this
theorem aw_sub {c : Code} (hs : SubOf m nt env H env' H') (h : AW t pd P r m nt c Q env' H') : AW t pd P r m nt c Q env H := .mk fun X I ρ a w p hp hq hX h1 ha => by
  obtain ⟨I', ρ', _, h2⟩ := hs.1 X I ρ a w hX h1
  exact h.1 X I' ρ' a w p hp hq hX h2 ha
end
end Pn
end Go.Proofs.Ytbilpbabdgfblaa
namespace Go.Proofs.Ytbilpbabdgfblaa
open Go.RowKit
/-- How the frame below goes: plainly, or with a panic. -/
def ModeRel (I : Imm) (ρ : List (Option (Nat × Nat))) : Option V → FrameMode → Prop
  | none, u => u = .returning
  | some v, u => ∃ y, VRel I ρ v y ∧ u = .panicking [{ v := y, recovered := false }]
/-- A deferred call that ends whatever panic there is. -/
structure DCalls (P : Program) (g : FuncId) (args : List V) (H : Heap) (pan : Option V) (R : Heap → Prop) : Prop where
  out : ∀ X I ρ w us u, WOk X I ρ H w → VRels I ρ args us → ModeRel I ρ pan u → CallsDIn Fence.wide 0 P g us u w fun e u' w' => ∃ x I' ρ' H', I.le I' ∧ Pre ρ ρ' ∧ WOk X I' ρ' H' w' ∧ e = .returned x ∧ settle u' = .returning ∧ R H'
end Go.Proofs.Ytbilpbabdgfblaa
namespace Go.Proofs.Ytbilpbabdgfblaa
open Go.RowKit
theorem joinH_is {σ : List Nat} {H H1 L G : Heap} (hl : σ.length = H1.length) (hg : G.length = H.length) (ho : ∀ i, σ.idxOf? i = none → G[i]? = H[i]?) (h : ∀ j k, σ[j]? = some k → G[k]? = some ((H1.getD j .dead).ren (rn σ H.length))) :
    joinH σ [] H (H1 ++ L) = G ++ L.map (Blk.ren (rn σ H.length)) := by
  unfold joinH
  rw [List.drop_append_of_le_length (by omega), List.drop_eq_nil_of_le (by omega), List.nil_append]
  congr 1
  refine List.ext_getElem? fun i => ?_
  rw [joinAt_get, Nat.zero_add]
  cases hi : H[i]? with
  | none =>
    have h1 := List.getElem?_eq_none_iff.1 hi
    rw [List.getElem?_eq_none_iff.2 (by omega)]
    rfl
  | some b =>
    show some (pickB σ [] (rn σ H.length) (H1 ++ L) i b) = G[i]?
    unfold pickB
    rw [show ([] : List Nat).contains i = false from rfl, cond_false]
    cases e : σ.idxOf? i with
    | none => exact hi.symm.trans (ho i e).symm
    | some j =>
      have h1 := idxOf_some e
      have hj := (List.getElem?_eq_some_iff.1 h1).1
      have h2 := h j i h1
      rw [h2]
      show some (Blk.ren (rn σ H.length) ((H1 ++ L).getD j .dead)) = _
      rw [List.getD_eq_getElem?_getD, List.getD_eq_getElem?_getD, List.getElem?_append_left (by omega)]
/-- One by one. -/
def SameAt (H : Heap) (r : Nat → Nat) : List Nat → Heap → Prop
  | [], [] => True
  | k :: σ, b :: H0 => H[k]? = some (b.ren r) ∧ SameAt H r σ H0
  | _, _ => False
theorem sameAt_get {H : Heap} {r : Nat → Nat} : ∀ {σ : List Nat} {H0 : Heap}, SameAt H r σ H0 → σ.length = H0.length ∧ ∀ j k, σ[j]? = some k → H[k]? = some ((H0.getD j .dead).ren r)
  | [], [], _ => ⟨rfl, fun j k h => by simp at h⟩
  | k :: σ, b :: H0, ⟨h1, h2⟩ => by
    obtain ⟨h3, h4⟩ := sameAt_get h2
    refine ⟨by simp [h3], fun j k' h => ?_⟩
    cases j with
    | zero => simp at h; subst h; exact h1
    | succ j => simp only [List.getElem?_cons_succ] at h; simpa using h4 j k' h
  | [], _ :: _, h => h.elim
  | _ :: _, [], h => h.elim
theorem mapE_renE {α : Type} {e : α → V} {m : List (Int × α)} {r : Nat → Nat} (he : ∀ y, (e y).ren r = e y) : (mapE e m).ren r = mapE e m := by
  have h : entsE e m = (entsE e m).map fun p => (p.1, p.2.ren r) := by
    unfold entsE
    rw [List.map_map]
    exact List.map_congr_left fun p _ => by show _ = (Value.int .i64 p.1, (e p.2).ren r); rw [he]
  exact (congrArg Blk.map h).symm
end Go.Proofs.Ytbilpbabdgfblaa
