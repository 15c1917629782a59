/- Parts of the proof: a layer of values over the model, and contracts of functions. No condition. -/
import Derived.Test.YthpbjihnikapoaaKPj9
namespace Go.Proofs.Ythpbjihnikapoaa
open Go.ChangeShapes Go.WideShapes Go.ChangeAt Go.RowKit Go.Deep
structure Mk where
  x : Int
  y : Int
instance : Inhabited Mk := ⟨⟨0, 0⟩⟩
structure Bx where
  lx : Int
  ly : Int
  hx : Int
  hy : Int
def Mk.enc (m : Mk) : V := .agg [vi m.x, vi m.y]
abbrev encMarks (l : List Mk) : V := LV 2 Mk.enc l
def Bx.enc (b : Bx) : V := .agg [vi b.lx, vi b.ly, vi b.hx, vi b.hy]
def oneB (want seen : List Mk) (tol : Int) (j : Nat) : Bx :=
  ⟨(el want j).x - (el seen j).x - tol, (el want j).y - (el seen j).y - tol, (el want j).x - (el seen j).x + tol, (el want j).y - (el seen j).y + tol⟩
def meetB (a b : Bx) : Bx := ⟨max a.lx b.lx, max a.ly b.ly, min a.hx b.hx, min a.hy b.hy⟩
def noBx : Bx := ⟨0, 0, 0, 0⟩
def boxAt (want seen : List Mk) (tol : Int) : Nat → Bx
  | 0 => noBx
  | k + 1 => meetB (if k = 0 then oneB want seen tol 0 else boxAt want seen tol k) (oneB want seen tol k)
abbrev nearB (x : Int) : Prop := -10000 ≤ x ∧ x ≤ 10000
abbrev pairB (want seen : List Mk) (j : Nat) : Prop := nearB (el seen j).x ∧ nearB (el seen j).y ∧ nearB (el want j).x ∧ nearB (el want j).y
def regE (want seen : List Mk) (tol : Int) : Int :=
  if ¬ (1 ≤ want.length ∧ want.length ≤ 20) then 4 else if seen.length ≠ want.length ∨ ¬ (0 ≤ tol ∧ tol ≤ 1000) then 2 else if ∀ j, j < seen.length → pairB want seen j then
    (if (boxAt want seen tol seen.length).lx > (boxAt want seen tol seen.length).hx ∨ (boxAt want seen tol seen.length).ly > (boxAt want seen tol seen.length).hy then 6 else 0) else 2
def regF (want seen : List Mk) (tol : Int) : Bx := if regE want seen tol = 0 then boxAt want seen tol seen.length else noBx
section
variable {want seen : List Mk} {tol : Int}
theorem regE_many (h : ¬ (1 ≤ want.length ∧ want.length ≤ 20)) : regE want seen tol = 4 := by unfold regE; rw [if_pos h]
theorem regE_arg (h : 1 ≤ want.length ∧ want.length ≤ 20) (h2 : seen.length ≠ want.length ∨ ¬ (0 ≤ tol ∧ tol ≤ 1000)) : regE want seen tol = 2 := by unfold regE; rw [if_neg (by omega), if_pos h2]
theorem regE_far (h : 1 ≤ want.length ∧ want.length ≤ 20) (h2 : seen.length = want.length) (h3 : 0 ≤ tol ∧ tol ≤ 1000) (h4 : ¬ ∀ j, j < seen.length → pairB want seen j) : regE want seen tol = 2 := by unfold regE; rw [if_neg (by omega), if_neg (by omega), if_neg h4]
theorem regE_none (h : 1 ≤ want.length ∧ want.length ≤ 20) (h2 : seen.length = want.length) (h3 : 0 ≤ tol ∧ tol ≤ 1000) (h4 : ∀ j, j < seen.length → pairB want seen j) (h5 : (boxAt want seen tol seen.length).lx > (boxAt want seen tol seen.length).hx ∨ (boxAt want seen tol seen.length).ly > (boxAt want seen tol seen.length).hy) : regE want seen tol = 6 := by unfold regE; rw [if_neg (by omega), if_neg (by omega), if_pos h4, if_pos h5]
theorem regE_ok (h : 1 ≤ want.length ∧ want.length ≤ 20) (h2 : seen.length = want.length) (h3 : 0 ≤ tol ∧ tol ≤ 1000) (h4 : ∀ j, j < seen.length → pairB want seen j) (h5 : ¬ ((boxAt want seen tol seen.length).lx > (boxAt want seen tol seen.length).hx ∨ (boxAt want seen tol seen.length).ly > (boxAt want seen tol seen.length).hy)) : regE want seen tol = 0 := by unfold regE; rw [if_neg (by omega), if_neg (by omega), if_pos h4, if_neg h5]
theorem regF_no (h : regE want seen tol ≠ 0) : regF want seen tol = noBx := by unfold regF; rw [if_neg h]
theorem regF_ok (h : regE want seen tol = 0) : regF want seen tol = boxAt want seen tol seen.length := by unfold regF; rw [if_pos h]
end
theorem fromB_four {lo hi a b c d : Int} : fromB lo hi [a, b, c, d] = true ↔ (lo ≤ a ∧ a ≤ hi) ∧ (lo ≤ b ∧ b ≤ hi) ∧ (lo ≤ c ∧ c ≤ hi) ∧ (lo ≤ d ∧ d ≤ hi) := by simp [fromB, withinB, and_assoc]
theorem bq2b {F : Bx} {e : Int} {R Rp : V → Heap → Prop} {L : Heap} (hR : R (.tup [F.enc, vi e]) (.arr 4 1 (fun _ => F.enc) :: L)) : BodyQ Try.prog #[.cell 6 26, .tmp 7] R Rp .ret [(6, .ptr 4 0 0 0), (7, vi e)] (.arr 4 1 (fun _ => F.enc) :: L) :=
  ⟨_, .inr (.inr (.inl ⟨_, _, _, _, rfl, ⟨_, 4, 0, 0, 0, 1, fun _ => F.enc, ty rfl, rfl, rfl, Nat.one_pos, rfl⟩, rfl, rfl⟩)), hR⟩
set_option maxHeartbeats 4000000 in
theorem pRegister_p (want seen : List Mk) (tol : Int) : PCalls Try.prog 16 [encMarks want, encMarks seen, vi tol] (· = .tup [(regF want seen tol).enc, vi (regE want seen tol)]) := by
  have hlen : want.length ≤ maxLen ∨ ¬ want.length ≤ maxLen := by omega
  refine pcalls_of_aw Try.func16 rfl (Nat.le_of_ble_eq_true rfl) ?_
  (repeat' (first | (refine ar_isq ?_; first | refine zmv ?_ | refine zas ?_ | (refine is_load ?_; first | refine zlp ?_ | refine zlr ?_) | (refine is_binOp ?_; first | refine zlss ?_ | refine zgtr ?_ | refine zeql ?_ | refine zneq ?_ | refine zadd ?_ | refine zsub ?_) | (refine is_fieldAddr ?_; first | refine zfp ?_ | refine zfr ?_) | (refine is_indexAddr ?_; first | refine zil ?_ | refine zis ?_ | refine zit ?_ | refine zia ?_ | refine zir ?_ | (refine zxl ?_; intro _ _ _) | (refine zxs ?_; intro _ _ _)) | (refine is_call ?_; first | refine zll ?_ | refine zls ?_ | refine zln ?_ | refine zle ?_ | refine zmin ?_ | refine zmax ?_) | (refine is_pick ?_; first | refine zpt ?_ | refine zpf ?_) | refine znt ?_ | (refine ar_buildT ?_ (by exact ty rfl) (by exact rfl) (by exact sizes rfl) (by exact rfl) (by exact rfl) (by exact build rfl) (by exact dc rfl); intro _ hds; (try dsimp only [List.toList_toArray, cells_s, cells_emp, cells_agg, cells_list, cells_sl, cells_ptr, cells_ref, cells_fn, cells_vi, cells_vb, cells_vnil, constV, List.map_cons, List.map_nil, List.take_succ_cons, List.take_zero, List.drop_succ_cons, List.drop_zero, List.cons_append, List.nil_append, List.append_nil, LV_cells] at hds); (try dsimp only [cells_s, cells_emp, cells_agg, cells_list, cells_sl, cells_ptr, cells_ref, cells_fn, cells_vi, cells_vb, cells_vnil, constV, List.map_cons, List.map_nil, List.take_succ_cons, List.take_zero, List.drop_succ_cons, List.drop_zero, List.cons_append, List.nil_append, List.append_nil, LV_cells] at hds); subst hds)) | (((refine ar_subk_l (sub_frzL (t := 15) vi ([(want.length : Int)]) rfl rfl rfl rfl (fun _ _ => rfl) (fun _ => rfl)) ?_); refine ar_pcall (own := false) fn50 rfl rfl (.cons (.closed rfl) (.cons (.closed rfl) (.cons (.closed rfl) .nil))) (from_p _ _ [(want.length : Int)]) (by simp) (dc rfl) ?_; intro _ hv; subst hv)) | (refine ar_buildLE vi ([(want.length : Int)]) (by exact ty rfl) (by exact rfl) (by exact ty rfl) (by exact rfl) (by exact rfl) (by exact Nat.succ_pos _) (by exact rfl) (by exact dc rfl) (by exact rfl) (by exact fun _ => ⟨rfl, rfl⟩) (by exact dc rfl) ?_) | (((refine ar_subk_l (sub_frzL (t := 26) vi ([tol]) rfl rfl rfl rfl (fun _ _ => rfl) (fun _ => rfl)) ?_); refine ar_pcall (own := false) fn50 rfl rfl (.cons (.closed rfl) (.cons (.closed rfl) (.cons (.closed rfl) .nil))) (from_p _ _ [tol]) (by simp) (dc rfl) ?_; intro _ hv; subst hv)) | (refine ar_buildLE vi ([tol]) (by exact ty rfl) (by exact rfl) (by exact ty rfl) (by exact rfl) (by exact rfl) (by exact Nat.succ_pos _) (by exact rfl) (by exact dc rfl) (by exact rfl) (by exact fun _ => ⟨rfl, rfl⟩) (by exact dc rfl) ?_) | (refine zal ?_) | (refine zb1 ?_) | (refine zb0 ?_) | (refine zsvs ?_) | (refine zsva ?_) | (refine zses ?_) | (refine zsea ?_) | (refine zg ?_ ?_ <;> intro hg <;> first | exact absurd hg (by decide) | ((try replace hg := HG.out hg); (try dsimp only at hg); (try rw [fromB_one] at hg); (try rw [fromB_four] at hg); (try rw [withinB_iff] at hg); (try rw [withinB_no] at hg); (try (have _h : True := hg; clear _h hg)); first | (exfalso; omega) | skip)) | (refine zgu ?_) | (refine ar_nil ?_) | (refine ar_forkL ?_ ?_) | (refine ar_lq rfl ?_) | (refine aw_seq ?_) | (refine aw_skip ?_) | (refine aw_block ?_) | (refine aw_exit ?_) | (refine aw_region ?_) | (refine aw_fork (id := 15) [[(16, 2), (10, 0), (11, 0), (12, 0), (13, 0), (17, 0), (18, 0), (19, 2)], [(16, 2), (11, 0), (12, 0), (13, 0), (17, 0), (18, 0), (19, 2)], [(16, 2), (12, 0), (13, 0), (17, 0), (18, 0), (19, 2)], [(16, 2), (13, 0), (17, 0), (18, 0), (19, 2)]] [(0, 0), (1, 0), (2, 0), (3, 0), (4, 0), (5, 0), (6, 0), (7, 0), (8, 0), (9, 0), (14, 0), (15, 0), (0, 3), (10, 1), (1, 3), (11, 1), (2, 3), (12, 1), (3, 3), (13, 1), (16, 2), (17, 0), (18, 0), (19, 2)] mixed (by kernel_rfl) ?_) | (refine aw_fork (id := 16) [[(16, 2), (10, 0), (11, 0), (12, 0), (13, 0), (17, 0), (18, 0), (19, 2)], [(16, 2), (11, 0), (12, 0), (13, 0), (17, 0), (18, 0), (19, 2)], [(16, 2), (12, 0), (13, 0), (17, 0), (18, 0), (19, 2)], [(16, 2), (13, 0), (17, 0), (18, 0), (19, 2)]] [(0, 0), (1, 0), (2, 0), (3, 0), (4, 0), (5, 0), (6, 0), (7, 0), (8, 0), (9, 0), (14, 0), (15, 0), (0, 3), (10, 1), (1, 3), (11, 1), (2, 3), (12, 1), (3, 3), (13, 1), (16, 2), (17, 0), (18, 0), (19, 2)] mixed (by kernel_rfl) ?_) | (refine zco ?_ ?_ <;> intro hg <;> first | exact absurd hg (by decide) | ((try replace hg := HG.out hg); (try dsimp only at hg); (try rw [fromB_one] at hg); (try rw [fromB_four] at hg); (try rw [withinB_iff] at hg); (try rw [withinB_no] at hg); (try (have _h : True := hg; clear _h hg)); first | (exfalso; omega) | skip))))
  all_goals (try ((refine aw_mono_r (env' := [(6, .ptr 4 0 0 0), (7, vi 4)]) (H' := [.arr 4 1 (fun _ => noBx.enc)]) ?_ ?_; (focus ((refine sub_to [some 0] [] rfl ?_ ?_ <;> (repeat' (first | exact trivial | refine ⟨⟨_, rfl, ?_⟩, ?_⟩ | refine ⟨bsub_snoc rfl rfl (fun _ => rfl) ?_, ?_⟩ | refine ⟨bsub_one rfl rfl ?_, ?_⟩ | refine ⟨bsub_all rfl rfl (fun _ _ => rfl) (fun _ => rfl), ?_⟩ | refine ⟨bsub_updL rfl rfl ?_ (fun _ _ _ => rfl) (fun _ => rfl), ?_⟩ | refine ⟨.inl ⟨_, _, rfl, rfl, ?_⟩, ?_⟩ | exact ⟨.inr ⟨rfl, rfl⟩, trivial⟩ | refine ⟨.inr ⟨rfl, rfl⟩, ?_⟩ | (intro _ _) | exact vz1 | exact vz2 | fail))); done))); refine aw_ret ?_; (repeat (first | refine ret_then ?_ | refine ret_block ?_)); refine bq2b ⟨?_, rfl⟩; have he := regE_many (want := want) (seen := seen) (tol := tol) (by omega); rw [regF_no (by omega), he]; done))
  all_goals (try ((refine aw_mono_r (env' := [(6, .ptr 4 0 0 0), (7, vi 2)]) (H' := [.arr 4 1 (fun _ => noBx.enc)]) ?_ ?_; (focus ((refine sub_to [some 0] [] rfl ?_ ?_ <;> (repeat' (first | exact trivial | refine ⟨⟨_, rfl, ?_⟩, ?_⟩ | refine ⟨bsub_snoc rfl rfl (fun _ => rfl) ?_, ?_⟩ | refine ⟨bsub_one rfl rfl ?_, ?_⟩ | refine ⟨bsub_all rfl rfl (fun _ _ => rfl) (fun _ => rfl), ?_⟩ | refine ⟨bsub_updL rfl rfl ?_ (fun _ _ _ => rfl) (fun _ => rfl), ?_⟩ | refine ⟨.inl ⟨_, _, rfl, rfl, ?_⟩, ?_⟩ | exact ⟨.inr ⟨rfl, rfl⟩, trivial⟩ | refine ⟨.inr ⟨rfl, rfl⟩, ?_⟩ | (intro _ _) | exact vz1 | exact vz2 | fail))); done))); refine aw_ret ?_; (repeat (first | refine ret_then ?_ | refine ret_block ?_)); refine bq2b ⟨?_, rfl⟩; have he := regE_arg (want := want) (seen := seen) (tol := tol) (by omega) (by omega); rw [regF_no (by omega), he]; done))
  have hw : 1 ≤ want.length ∧ want.length ≤ 20 := by omega
  have hsame : seen.length = want.length := by omega
  refine aw_for seen.length (fun k => ∀ j, j < k → pairB want seen j) (fun k => [(0, encMarks want), (2, vi tol), (6, .ptr 4 0 0 0), (8, .ptr 4 1 0 0), (31, encMarks seen), (32, vi seen.length), (33, vi k)]) (fun k => [.arr 4 1 (fun _ => noBx.enc), .arr 4 1 (fun _ => (boxAt want seen tol k).enc)]) (fun j hj => by omega) ?_ ?_
  · (refine sub_to [some 0, some 3] [] rfl ?_ ?_ <;> (repeat' (first | exact trivial | refine ⟨⟨_, rfl, ?_⟩, ?_⟩ | refine ⟨bsub_snoc rfl rfl (fun _ => rfl) ?_, ?_⟩ | refine ⟨bsub_one rfl rfl ?_, ?_⟩ | refine ⟨bsub_all rfl rfl (fun _ _ => rfl) (fun _ => rfl), ?_⟩ | refine ⟨bsub_updL rfl rfl ?_ (fun _ _ _ => rfl) (fun _ => rfl), ?_⟩ | refine ⟨.inl ⟨_, _, rfl, rfl, ?_⟩, ?_⟩ | exact ⟨.inr ⟨rfl, rfl⟩, trivial⟩ | refine ⟨.inr ⟨rfl, rfl⟩, ?_⟩ | (intro _ _) | exact vz1 | exact vz2 | fail)))
  intro k hk hJ
  by_cases hlt : k < seen.length
  · obtain ⟨⟨a, b, c, d⟩, hB⟩ : ∃ x, boxAt want seen tol k = x := ⟨_, rfl⟩
    rw [hB]
    by_cases hk0 : k = 0
    · have hN : boxAt want seen tol (k + 1) = meetB (oneB want seen tol k) (oneB want seen tol k) := by
        show meetB (if k = 0 then _ else _) _ = _
        rw [if_pos hk0, hk0]
      have hE : V.agg [vi (max ((el want k).x - (el seen k).x - tol) ((el want k).x - (el seen k).x - tol)), vi (max ((el want k).y - (el seen k).y - tol) ((el want k).y - (el seen k).y - tol)), vi (min ((el want k).x - (el seen k).x + tol) ((el want k).x - (el seen k).x + tol)), vi (min ((el want k).y - (el seen k).y + tol) ((el want k).y - (el seen k).y + tol))] = (boxAt want seen tol (k + 1)).enc := by rw [hN]; rfl
      (repeat' (first | (refine ar_isq ?_; first | refine zmv ?_ | refine zas ?_ | (refine is_load ?_; first | refine zlp ?_ | refine zlr ?_) | (refine is_binOp ?_; first | refine zlss ?_ | refine zgtr ?_ | refine zeql ?_ | refine zneq ?_ | refine zadd ?_ | refine zsub ?_) | (refine is_fieldAddr ?_; first | refine zfp ?_ | refine zfr ?_) | (refine is_indexAddr ?_; first | refine zil ?_ | refine zis ?_ | refine zit ?_ | refine zia ?_ | refine zir ?_ | refine zil (j := k) ?_ | refine zis (j := k) ?_ | refine zit (j := k) ?_ | (refine zxl ?_; intro _ _ _) | (refine zxs ?_; intro _ _ _)) | (refine is_call ?_; first | refine zll ?_ | refine zls ?_ | refine zln ?_ | refine zle ?_ | refine zmin ?_ | refine zmax ?_) | (refine is_pick ?_; first | refine zpt ?_ | refine zpf ?_) | refine znt ?_ | (refine ar_buildT ?_ (by exact ty rfl) (by exact rfl) (by exact sizes rfl) (by exact rfl) (by exact rfl) (by exact build rfl) (by exact dc rfl); intro _ hds; (try dsimp only [List.toList_toArray, cells_s, cells_emp, cells_agg, cells_list, cells_sl, cells_ptr, cells_ref, cells_fn, cells_vi, cells_vb, cells_vnil, constV, List.map_cons, List.map_nil, List.take_succ_cons, List.take_zero, List.drop_succ_cons, List.drop_zero, List.cons_append, List.nil_append, List.append_nil, LV_cells] at hds); (try dsimp only [cells_s, cells_emp, cells_agg, cells_list, cells_sl, cells_ptr, cells_ref, cells_fn, cells_vi, cells_vb, cells_vnil, constV, List.map_cons, List.map_nil, List.take_succ_cons, List.take_zero, List.drop_succ_cons, List.drop_zero, List.cons_append, List.nil_append, List.append_nil, LV_cells] at hds); subst hds)) | (((refine ar_sub_l (env' := [(0, encMarks want), (2, vi tol), (6, .ptr 4 0 0 0), (8, .ptr 4 1 0 0), (9, vi k), (31, encMarks seen), (32, vi seen.length), (33, vi k), (10, .ptr 2 2 0 0), (11, .ptr 2 3 0 0), (50, .sl 1 4 0 4)]) (H' := [.arr 4 1 (fun _ => noBx.enc), .arr 4 1 (fun _ => Bx.enc ⟨a, b, c, d⟩), .arr 2 1 (fun _ => (el seen k).enc), .arr 2 1 (fun _ => (el want k).enc), LB 1 vi [(el seen k).x, (el seen k).y, (el want k).x, (el want k).y]]) ?_ ?_; (focus ((refine sub_to [some 0, some 1, some 2, some 3, some 4] [] rfl ?_ ?_ <;> (repeat' (first | exact trivial | refine ⟨⟨_, rfl, ?_⟩, ?_⟩ | refine ⟨bsub_snoc rfl rfl (fun _ => rfl) ?_, ?_⟩ | refine ⟨bsub_one rfl rfl ?_, ?_⟩ | refine ⟨bsub_all rfl rfl (fun _ _ => rfl) (fun _ => rfl), ?_⟩ | refine ⟨bsub_updL rfl rfl ?_ (fun _ _ _ => rfl) (fun _ => rfl), ?_⟩ | refine ⟨.inl ⟨_, _, rfl, rfl, ?_⟩, ?_⟩ | exact ⟨.inr ⟨rfl, rfl⟩, trivial⟩ | refine ⟨.inr ⟨rfl, rfl⟩, ?_⟩ | (intro _ _) | exact vz1 | exact vz2 | fail))); done))); (refine ar_subk_l (sub_frzL (t := 50) vi ([(el seen k).x, (el seen k).y, (el want k).x, (el want k).y]) rfl rfl rfl rfl (fun _ _ => rfl) (fun _ => rfl)) ?_); refine ar_pcall (own := false) fn50 rfl rfl (.cons (.closed rfl) (.cons (.closed rfl) (.cons (.closed rfl) .nil))) (from_p _ _ [(el seen k).x, (el seen k).y, (el want k).x, (el want k).y]) (by simp) (dc rfl) ?_; intro _ hv; subst hv)) | (refine ar_buildLE vi ([(el seen k).x, (el seen k).y, (el want k).x, (el want k).y]) (by exact ty rfl) (by exact rfl) (by exact ty rfl) (by exact rfl) (by exact rfl) (by exact Nat.succ_pos _) (by exact rfl) (by exact dc rfl) (by exact rfl) (by exact fun _ => ⟨rfl, rfl⟩) (by exact dc rfl) ?_) | (refine zal ?_) | (refine zb1 ?_) | (refine zb0 ?_) | (refine zsvs ?_) | (refine zsva ?_) | (refine zses ?_) | (refine zsea ?_) | (refine zg ?_ ?_ <;> intro hg <;> first | exact absurd hg (by decide) | ((try replace hg := HG.out hg); (try dsimp only at hg); (try rw [fromB_one] at hg); (try rw [fromB_four] at hg); (try rw [withinB_iff] at hg); (try rw [withinB_no] at hg); (try (have _h : True := hg; clear _h hg)); first | (exfalso; omega) | skip)) | (refine zgu ?_) | (refine ar_nil ?_) | (refine ar_forkL ?_ ?_) | (refine ar_lq rfl ?_) | (refine aw_seq ?_) | (refine aw_skip ?_) | (refine aw_block ?_) | (refine aw_exit ?_) | (refine aw_region ?_) | (refine aw_fork (id := 15) [[(16, 2), (10, 0), (11, 0), (12, 0), (13, 0), (17, 0), (18, 0), (19, 2)], [(16, 2), (11, 0), (12, 0), (13, 0), (17, 0), (18, 0), (19, 2)], [(16, 2), (12, 0), (13, 0), (17, 0), (18, 0), (19, 2)], [(16, 2), (13, 0), (17, 0), (18, 0), (19, 2)]] [(0, 0), (1, 0), (2, 0), (3, 0), (4, 0), (5, 0), (6, 0), (7, 0), (8, 0), (9, 0), (14, 0), (15, 0), (0, 3), (10, 1), (1, 3), (11, 1), (2, 3), (12, 1), (3, 3), (13, 1), (16, 2), (17, 0), (18, 0), (19, 2)] mixed (by kernel_rfl) ?_) | (refine aw_fork (id := 16) [[(16, 2), (10, 0), (11, 0), (12, 0), (13, 0), (17, 0), (18, 0), (19, 2)], [(16, 2), (11, 0), (12, 0), (13, 0), (17, 0), (18, 0), (19, 2)], [(16, 2), (12, 0), (13, 0), (17, 0), (18, 0), (19, 2)], [(16, 2), (13, 0), (17, 0), (18, 0), (19, 2)]] [(0, 0), (1, 0), (2, 0), (3, 0), (4, 0), (5, 0), (6, 0), (7, 0), (8, 0), (9, 0), (14, 0), (15, 0), (0, 3), (10, 1), (1, 3), (11, 1), (2, 3), (12, 1), (3, 3), (13, 1), (16, 2), (17, 0), (18, 0), (19, 2)] mixed (by kernel_rfl) ?_) | (refine zco ?_ ?_ <;> intro hg <;> first | exact absurd hg (by decide) | ((try replace hg := HG.out hg); (try dsimp only at hg); (try rw [fromB_one] at hg); (try rw [fromB_four] at hg); (try rw [withinB_iff] at hg); (try rw [withinB_no] at hg); (try (have _h : True := hg; clear _h hg)); first | (exfalso; omega) | skip))))
      all_goals first
        | (exfalso; omega)
        | ((refine aw_mono_r (env' := [(6, .ptr 4 0 0 0), (7, vi 2)]) (H' := [.arr 4 1 (fun _ => noBx.enc)]) ?_ ?_; (focus ((refine sub_to [some 0] [] rfl ?_ ?_ <;> (repeat' (first | exact trivial | refine ⟨⟨_, rfl, ?_⟩, ?_⟩ | refine ⟨bsub_snoc rfl rfl (fun _ => rfl) ?_, ?_⟩ | refine ⟨bsub_one rfl rfl ?_, ?_⟩ | refine ⟨bsub_all rfl rfl (fun _ _ => rfl) (fun _ => rfl), ?_⟩ | refine ⟨bsub_updL rfl rfl ?_ (fun _ _ _ => rfl) (fun _ => rfl), ?_⟩ | refine ⟨.inl ⟨_, _, rfl, rfl, ?_⟩, ?_⟩ | exact ⟨.inr ⟨rfl, rfl⟩, trivial⟩ | refine ⟨.inr ⟨rfl, rfl⟩, ?_⟩ | (intro _ _) | exact vz1 | exact vz2 | fail))); done))); refine aw_ret ?_; (repeat (first | refine ret_then ?_ | refine ret_block ?_)); refine bq2b ⟨?_, rfl⟩; have he := regE_far (want := want) (seen := seen) (tol := tol) hw hsame (by omega) (fun h => by have h5 := fromB_four.2 (h k hlt); rw [hg] at h5; cases h5); rw [regF_no (by omega), he]; done)
        | ((first | refine loop_next (by omega) ?_ ?_ | refine (show _ ∧ _ ∧ SubOf _ _ _ _ _ _ from And.intro (by omega) (And.intro ?_ ?_))); (focus (((exact all_step hJ (by assumption))); done)); (focus ((refine sub_to [some 0, some 1] [] rfl ?_ ?_ <;> (repeat' (first | exact trivial | refine ⟨⟨_, rfl, ?_⟩, ?_⟩ | refine ⟨bsub_snoc rfl rfl (fun _ => rfl) ?_, ?_⟩ | refine ⟨bsub_one rfl rfl ?_, ?_⟩ | refine ⟨bsub_all rfl rfl (fun _ _ => rfl) (fun _ => rfl), ?_⟩ | refine ⟨bsub_updL rfl rfl ?_ (fun _ _ _ => rfl) (fun _ => rfl), ?_⟩ | refine ⟨.inl ⟨_, _, rfl, rfl, ?_⟩, ?_⟩ | exact ⟨.inr ⟨rfl, rfl⟩, trivial⟩ | refine ⟨.inr ⟨rfl, rfl⟩, ?_⟩ | (intro _ _) | exact vz1 | (exact .of_eq hE rfl) | exact vz2 | fail))); done)))
        | trace_state
    · have hN : boxAt want seen tol (k + 1) = meetB ⟨a, b, c, d⟩ (oneB want seen tol k) := by
        show meetB (if k = 0 then _ else _) _ = _
        rw [if_neg hk0, hB]
      have hE : V.agg [vi (max (a) ((el want k).x - (el seen k).x - tol)), vi (max (b) ((el want k).y - (el seen k).y - tol)), vi (min (c) ((el want k).x - (el seen k).x + tol)), vi (min (d) ((el want k).y - (el seen k).y + tol))] = (boxAt want seen tol (k + 1)).enc := by rw [hN]; rfl
      (repeat' (first | (refine ar_isq ?_; first | refine zmv ?_ | refine zas ?_ | (refine is_load ?_; first | refine zlp ?_ | refine zlr ?_) | (refine is_binOp ?_; first | refine zlss ?_ | refine zgtr ?_ | refine zeql ?_ | refine zneq ?_ | refine zadd ?_ | refine zsub ?_) | (refine is_fieldAddr ?_; first | refine zfp ?_ | refine zfr ?_) | (refine is_indexAddr ?_; first | refine zil ?_ | refine zis ?_ | refine zit ?_ | refine zia ?_ | refine zir ?_ | refine zil (j := k) ?_ | refine zis (j := k) ?_ | refine zit (j := k) ?_ | (refine zxl ?_; intro _ _ _) | (refine zxs ?_; intro _ _ _)) | (refine is_call ?_; first | refine zll ?_ | refine zls ?_ | refine zln ?_ | refine zle ?_ | refine zmin ?_ | refine zmax ?_) | (refine is_pick ?_; first | refine zpt ?_ | refine zpf ?_) | refine znt ?_ | (refine ar_buildT ?_ (by exact ty rfl) (by exact rfl) (by exact sizes rfl) (by exact rfl) (by exact rfl) (by exact build rfl) (by exact dc rfl); intro _ hds; (try dsimp only [List.toList_toArray, cells_s, cells_emp, cells_agg, cells_list, cells_sl, cells_ptr, cells_ref, cells_fn, cells_vi, cells_vb, cells_vnil, constV, List.map_cons, List.map_nil, List.take_succ_cons, List.take_zero, List.drop_succ_cons, List.drop_zero, List.cons_append, List.nil_append, List.append_nil, LV_cells] at hds); (try dsimp only [cells_s, cells_emp, cells_agg, cells_list, cells_sl, cells_ptr, cells_ref, cells_fn, cells_vi, cells_vb, cells_vnil, constV, List.map_cons, List.map_nil, List.take_succ_cons, List.take_zero, List.drop_succ_cons, List.drop_zero, List.cons_append, List.nil_append, List.append_nil, LV_cells] at hds); subst hds)) | (((refine ar_sub_l (env' := [(0, encMarks want), (2, vi tol), (6, .ptr 4 0 0 0), (8, .ptr 4 1 0 0), (9, vi k), (31, encMarks seen), (32, vi seen.length), (33, vi k), (10, .ptr 2 2 0 0), (11, .ptr 2 3 0 0), (50, .sl 1 4 0 4)]) (H' := [.arr 4 1 (fun _ => noBx.enc), .arr 4 1 (fun _ => Bx.enc ⟨a, b, c, d⟩), .arr 2 1 (fun _ => (el seen k).enc), .arr 2 1 (fun _ => (el want k).enc), LB 1 vi [(el seen k).x, (el seen k).y, (el want k).x, (el want k).y]]) ?_ ?_; (focus ((refine sub_to [some 0, some 1, some 2, some 3, some 4] [] rfl ?_ ?_ <;> (repeat' (first | exact trivial | refine ⟨⟨_, rfl, ?_⟩, ?_⟩ | refine ⟨bsub_snoc rfl rfl (fun _ => rfl) ?_, ?_⟩ | refine ⟨bsub_one rfl rfl ?_, ?_⟩ | refine ⟨bsub_all rfl rfl (fun _ _ => rfl) (fun _ => rfl), ?_⟩ | refine ⟨bsub_updL rfl rfl ?_ (fun _ _ _ => rfl) (fun _ => rfl), ?_⟩ | refine ⟨.inl ⟨_, _, rfl, rfl, ?_⟩, ?_⟩ | exact ⟨.inr ⟨rfl, rfl⟩, trivial⟩ | refine ⟨.inr ⟨rfl, rfl⟩, ?_⟩ | (intro _ _) | exact vz1 | exact vz2 | fail))); done))); (refine ar_subk_l (sub_frzL (t := 50) vi ([(el seen k).x, (el seen k).y, (el want k).x, (el want k).y]) rfl rfl rfl rfl (fun _ _ => rfl) (fun _ => rfl)) ?_); refine ar_pcall (own := false) fn50 rfl rfl (.cons (.closed rfl) (.cons (.closed rfl) (.cons (.closed rfl) .nil))) (from_p _ _ [(el seen k).x, (el seen k).y, (el want k).x, (el want k).y]) (by simp) (dc rfl) ?_; intro _ hv; subst hv)) | (refine ar_buildLE vi ([(el seen k).x, (el seen k).y, (el want k).x, (el want k).y]) (by exact ty rfl) (by exact rfl) (by exact ty rfl) (by exact rfl) (by exact rfl) (by exact Nat.succ_pos _) (by exact rfl) (by exact dc rfl) (by exact rfl) (by exact fun _ => ⟨rfl, rfl⟩) (by exact dc rfl) ?_) | (refine zal ?_) | (refine zb1 ?_) | (refine zb0 ?_) | (refine zsvs ?_) | (refine zsva ?_) | (refine zses ?_) | (refine zsea ?_) | (refine zg ?_ ?_ <;> intro hg <;> first | exact absurd hg (by decide) | ((try replace hg := HG.out hg); (try dsimp only at hg); (try rw [fromB_one] at hg); (try rw [fromB_four] at hg); (try rw [withinB_iff] at hg); (try rw [withinB_no] at hg); (try (have _h : True := hg; clear _h hg)); first | (exfalso; omega) | skip)) | (refine zgu ?_) | (refine ar_nil ?_) | (refine ar_forkL ?_ ?_) | (refine ar_lq rfl ?_) | (refine aw_seq ?_) | (refine aw_skip ?_) | (refine aw_block ?_) | (refine aw_exit ?_) | (refine aw_region ?_) | (refine aw_fork (id := 15) [[(16, 2), (10, 0), (11, 0), (12, 0), (13, 0), (17, 0), (18, 0), (19, 2)], [(16, 2), (11, 0), (12, 0), (13, 0), (17, 0), (18, 0), (19, 2)], [(16, 2), (12, 0), (13, 0), (17, 0), (18, 0), (19, 2)], [(16, 2), (13, 0), (17, 0), (18, 0), (19, 2)]] [(0, 0), (1, 0), (2, 0), (3, 0), (4, 0), (5, 0), (6, 0), (7, 0), (8, 0), (9, 0), (14, 0), (15, 0), (0, 3), (10, 1), (1, 3), (11, 1), (2, 3), (12, 1), (3, 3), (13, 1), (16, 2), (17, 0), (18, 0), (19, 2)] mixed (by kernel_rfl) ?_) | (refine aw_fork (id := 16) [[(16, 2), (10, 0), (11, 0), (12, 0), (13, 0), (17, 0), (18, 0), (19, 2)], [(16, 2), (11, 0), (12, 0), (13, 0), (17, 0), (18, 0), (19, 2)], [(16, 2), (12, 0), (13, 0), (17, 0), (18, 0), (19, 2)], [(16, 2), (13, 0), (17, 0), (18, 0), (19, 2)]] [(0, 0), (1, 0), (2, 0), (3, 0), (4, 0), (5, 0), (6, 0), (7, 0), (8, 0), (9, 0), (14, 0), (15, 0), (0, 3), (10, 1), (1, 3), (11, 1), (2, 3), (12, 1), (3, 3), (13, 1), (16, 2), (17, 0), (18, 0), (19, 2)] mixed (by kernel_rfl) ?_) | (refine zco ?_ ?_ <;> intro hg <;> first | exact absurd hg (by decide) | ((try replace hg := HG.out hg); (try dsimp only at hg); (try rw [fromB_one] at hg); (try rw [fromB_four] at hg); (try rw [withinB_iff] at hg); (try rw [withinB_no] at hg); (try (have _h : True := hg; clear _h hg)); first | (exfalso; omega) | skip))))
      all_goals first
        | (exfalso; omega)
        | ((refine aw_mono_r (env' := [(6, .ptr 4 0 0 0), (7, vi 2)]) (H' := [.arr 4 1 (fun _ => noBx.enc)]) ?_ ?_; (focus ((refine sub_to [some 0] [] rfl ?_ ?_ <;> (repeat' (first | exact trivial | refine ⟨⟨_, rfl, ?_⟩, ?_⟩ | refine ⟨bsub_snoc rfl rfl (fun _ => rfl) ?_, ?_⟩ | refine ⟨bsub_one rfl rfl ?_, ?_⟩ | refine ⟨bsub_all rfl rfl (fun _ _ => rfl) (fun _ => rfl), ?_⟩ | refine ⟨bsub_updL rfl rfl ?_ (fun _ _ _ => rfl) (fun _ => rfl), ?_⟩ | refine ⟨.inl ⟨_, _, rfl, rfl, ?_⟩, ?_⟩ | exact ⟨.inr ⟨rfl, rfl⟩, trivial⟩ | refine ⟨.inr ⟨rfl, rfl⟩, ?_⟩ | (intro _ _) | exact vz1 | exact vz2 | fail))); done))); refine aw_ret ?_; (repeat (first | refine ret_then ?_ | refine ret_block ?_)); refine bq2b ⟨?_, rfl⟩; have he := regE_far (want := want) (seen := seen) (tol := tol) hw hsame (by omega) (fun h => by have h5 := fromB_four.2 (h k hlt); rw [hg] at h5; cases h5); rw [regF_no (by omega), he]; done)
        | ((first | refine loop_next (by omega) ?_ ?_ | refine (show _ ∧ _ ∧ SubOf _ _ _ _ _ _ from And.intro (by omega) (And.intro ?_ ?_))); (focus (((exact all_step hJ (by assumption))); done)); (focus ((refine sub_to [some 0, some 1] [] rfl ?_ ?_ <;> (repeat' (first | exact trivial | refine ⟨⟨_, rfl, ?_⟩, ?_⟩ | refine ⟨bsub_snoc rfl rfl (fun _ => rfl) ?_, ?_⟩ | refine ⟨bsub_one rfl rfl ?_, ?_⟩ | refine ⟨bsub_all rfl rfl (fun _ _ => rfl) (fun _ => rfl), ?_⟩ | refine ⟨bsub_updL rfl rfl ?_ (fun _ _ _ => rfl) (fun _ => rfl), ?_⟩ | refine ⟨.inl ⟨_, _, rfl, rfl, ?_⟩, ?_⟩ | exact ⟨.inr ⟨rfl, rfl⟩, trivial⟩ | refine ⟨.inr ⟨rfl, rfl⟩, ?_⟩ | (intro _ _) | exact vz1 | (exact .of_eq hE rfl) | exact vz2 | fail))); done)))
        | trace_state
  · obtain rfl : k = seen.length := by omega
    (repeat' (first | (refine ar_isq ?_; first | refine zmv ?_ | refine zas ?_ | (refine is_load ?_; first | refine zlp ?_ | refine zlr ?_) | (refine is_binOp ?_; first | refine zlss ?_ | refine zgtr ?_ | refine zeql ?_ | refine zneq ?_ | refine zadd ?_ | refine zsub ?_) | (refine is_fieldAddr ?_; first | refine zfp ?_ | refine zfr ?_) | (refine is_indexAddr ?_; first | refine zil ?_ | refine zis ?_ | refine zit ?_ | refine zia ?_ | refine zir ?_ | (refine zxl ?_; intro _ _ _) | (refine zxs ?_; intro _ _ _)) | (refine is_call ?_; first | refine zll ?_ | refine zls ?_ | refine zln ?_ | refine zle ?_ | refine zmin ?_ | refine zmax ?_) | (refine is_pick ?_; first | refine zpt ?_ | refine zpf ?_) | refine znt ?_ | (refine ar_buildT ?_ (by exact ty rfl) (by exact rfl) (by exact sizes rfl) (by exact rfl) (by exact rfl) (by exact build rfl) (by exact dc rfl); intro _ hds; (try dsimp only [List.toList_toArray, cells_s, cells_emp, cells_agg, cells_list, cells_sl, cells_ptr, cells_ref, cells_fn, cells_vi, cells_vb, cells_vnil, constV, List.map_cons, List.map_nil, List.take_succ_cons, List.take_zero, List.drop_succ_cons, List.drop_zero, List.cons_append, List.nil_append, List.append_nil, LV_cells] at hds); (try dsimp only [cells_s, cells_emp, cells_agg, cells_list, cells_sl, cells_ptr, cells_ref, cells_fn, cells_vi, cells_vb, cells_vnil, constV, List.map_cons, List.map_nil, List.take_succ_cons, List.take_zero, List.drop_succ_cons, List.drop_zero, List.cons_append, List.nil_append, List.append_nil, LV_cells] at hds); subst hds)) | (refine zal ?_) | (refine zb1 ?_) | (refine zb0 ?_) | (refine zsvs ?_) | (refine zsva ?_) | (refine zses ?_) | (refine zsea ?_) | (refine zg ?_ ?_ <;> intro hg <;> first | exact absurd hg (by decide) | ((try replace hg := HG.out hg); (try dsimp only at hg); (try rw [fromB_one] at hg); (try rw [fromB_four] at hg); (try rw [withinB_iff] at hg); (try rw [withinB_no] at hg); (try (have _h : True := hg; clear _h hg)); first | (exfalso; omega) | skip)) | (refine zgu ?_) | (refine ar_nil ?_) | (refine ar_forkL ?_ ?_) | (refine ar_lq rfl ?_) | (refine aw_seq ?_) | (refine aw_skip ?_) | (refine aw_block ?_) | (refine aw_exit ?_) | (refine aw_region ?_) | (refine aw_fork (id := 15) [[(16, 2), (10, 0), (11, 0), (12, 0), (13, 0), (17, 0), (18, 0), (19, 2)], [(16, 2), (11, 0), (12, 0), (13, 0), (17, 0), (18, 0), (19, 2)], [(16, 2), (12, 0), (13, 0), (17, 0), (18, 0), (19, 2)], [(16, 2), (13, 0), (17, 0), (18, 0), (19, 2)]] [(0, 0), (1, 0), (2, 0), (3, 0), (4, 0), (5, 0), (6, 0), (7, 0), (8, 0), (9, 0), (14, 0), (15, 0), (0, 3), (10, 1), (1, 3), (11, 1), (2, 3), (12, 1), (3, 3), (13, 1), (16, 2), (17, 0), (18, 0), (19, 2)] mixed (by kernel_rfl) ?_) | (refine aw_fork (id := 16) [[(16, 2), (10, 0), (11, 0), (12, 0), (13, 0), (17, 0), (18, 0), (19, 2)], [(16, 2), (11, 0), (12, 0), (13, 0), (17, 0), (18, 0), (19, 2)], [(16, 2), (12, 0), (13, 0), (17, 0), (18, 0), (19, 2)], [(16, 2), (13, 0), (17, 0), (18, 0), (19, 2)]] [(0, 0), (1, 0), (2, 0), (3, 0), (4, 0), (5, 0), (6, 0), (7, 0), (8, 0), (9, 0), (14, 0), (15, 0), (0, 3), (10, 1), (1, 3), (11, 1), (2, 3), (12, 1), (3, 3), (13, 1), (16, 2), (17, 0), (18, 0), (19, 2)] mixed (by kernel_rfl) ?_) | (refine zco ?_ ?_ <;> intro hg <;> first | exact absurd hg (by decide) | ((try replace hg := HG.out hg); (try dsimp only at hg); (try rw [fromB_one] at hg); (try rw [fromB_four] at hg); (try rw [withinB_iff] at hg); (try rw [withinB_no] at hg); (try (have _h : True := hg; clear _h hg)); first | (exfalso; omega) | skip))))
    all_goals first
      | ((refine aw_mono_r (env' := [(6, .ptr 4 0 0 0), (7, vi 6)]) (H' := [.arr 4 1 (fun _ => noBx.enc)]) ?_ ?_; (focus ((refine sub_to [some 0] [] rfl ?_ ?_ <;> (repeat' (first | exact trivial | refine ⟨⟨_, rfl, ?_⟩, ?_⟩ | refine ⟨bsub_snoc rfl rfl (fun _ => rfl) ?_, ?_⟩ | refine ⟨bsub_one rfl rfl ?_, ?_⟩ | refine ⟨bsub_all rfl rfl (fun _ _ => rfl) (fun _ => rfl), ?_⟩ | refine ⟨bsub_updL rfl rfl ?_ (fun _ _ _ => rfl) (fun _ => rfl), ?_⟩ | refine ⟨.inl ⟨_, _, rfl, rfl, ?_⟩, ?_⟩ | exact ⟨.inr ⟨rfl, rfl⟩, trivial⟩ | refine ⟨.inr ⟨rfl, rfl⟩, ?_⟩ | (intro _ _) | exact vz1 | exact vz2 | fail))); done))); refine aw_ret ?_; (repeat (first | refine ret_then ?_ | refine ret_block ?_)); refine bq2b ⟨?_, rfl⟩; have he := regE_none (want := want) (seen := seen) (tol := tol) (by omega) (by omega) (by omega) hJ (by omega); rw [regF_no (by omega), he]; done)
      | ((refine aw_mono_r (env' := [(6, .ptr 4 0 0 0), (7, vi 0)]) (H' := [.arr 4 1 (fun _ => (boxAt want seen tol seen.length).enc)]) ?_ ?_; (focus ((refine sub_to [some 0] [] rfl ?_ ?_ <;> (repeat' (first | exact trivial | refine ⟨⟨_, rfl, ?_⟩, ?_⟩ | refine ⟨bsub_snoc rfl rfl (fun _ => rfl) ?_, ?_⟩ | refine ⟨bsub_one rfl rfl ?_, ?_⟩ | refine ⟨bsub_all rfl rfl (fun _ _ => rfl) (fun _ => rfl), ?_⟩ | refine ⟨bsub_updL rfl rfl ?_ (fun _ _ _ => rfl) (fun _ => rfl), ?_⟩ | refine ⟨.inl ⟨_, _, rfl, rfl, ?_⟩, ?_⟩ | exact ⟨.inr ⟨rfl, rfl⟩, trivial⟩ | refine ⟨.inr ⟨rfl, rfl⟩, ?_⟩ | (intro _ _) | exact vz1 | exact vz2 | fail))); done))); refine aw_ret ?_; (repeat (first | refine ret_then ?_ | refine ret_block ?_)); refine bq2b ⟨?_, rfl⟩; have he := regE_ok (want := want) (seen := seen) (tol := tol) (by omega) (by omega) (by omega) hJ (by omega); rw [regF_ok he, he]; done)
      | trace_state
end Go.Proofs.Ythpbjihnikapoaa
namespace Go.Proofs.Ythpbjihnikapoaa
open Go.RowKit
def pCol (s : Sheet) (m : Bool) (c : Nat) : Nat := if m = true then s.cols.toNat - 1 - c else c
theorem pCol_lt {s : Sheet} {m : Bool} {c : Nat} (h : c < s.cols.toNat) : pCol s m c < s.cols.toNat := by unfold pCol; split <;> omega
theorem pCol_pCol {s : Sheet} {m : Bool} {c : Nat} (h : c < s.cols.toNat) : pCol s m (pCol s m c) = c := by unfold pCol; split <;> omega
/-- A line's ink, grown. -/
def hitB (s : Sheet) (g : Int) (l : List Int) (r c : Nat) : Bool := decide (el l c - g ≤ (r : Int)) && decide ((r : Int) ≤ el l c + s.weight - 1 + g)
theorem hitB_iff {s : Sheet} {g : Int} {l : List Int} {r c : Nat} : hitB s g l r c = true ↔ el l c - g ≤ (r : Int) ∧ (r : Int) ≤ el l c + s.weight - 1 + g := by simp [hitB]
def proofB (s : Sheet) (b : List (List Int)) (g : Int) (m : Bool) (r c : Nat) : Bool := b.any fun l => hitB s g l r (pCol s m c)
def proofAt (s : Sheet) (b : List (List Int)) (g : Int) (m : Bool) (j : Nat) : Bool := proofB s b g m (j / s.cols.toNat) (j % s.cols.toNat)
def proofTo (s : Sheet) (b : List (List Int)) (g : Int) (m : Bool) (n : Nat) : List Bool := (List.range n).map (proofAt s b g m)
def proofErr (s : Sheet) (b : List (List Int)) (g : Int) : Int := if checkErr s b = 0 then (if withinB g 0 20 = true then 0 else 2) else checkErr s b
def proofF (s : Sheet) (b : List (List Int)) (g : Int) (m : Bool) : List Bool := if proofErr s b g = 0 then proofTo s b g m (s.rows.toNat * s.cols.toNat) else []
theorem proofTo_len (s : Sheet) (b : List (List Int)) (g : Int) (m : Bool) (n : Nat) : (proofTo s b g m n).length = n := by simp [proofTo]
theorem proofTo_el {s : Sheet} {b : List (List Int)} {g : Int} {m : Bool} {n j : Nat} (h : j < n) : el (proofTo s b g m n) j = proofAt s b g m j := by unfold proofTo; rw [el_map_range h]
theorem proof_idx {s : Sheet} {b : List (List Int)} {g : Int} {m : Bool} {r c : Nat} (h : c < s.cols.toNat) : proofAt s b g m (r * s.cols.toNat + c) = proofB s b g m r c := by
  unfold proofAt
  rw [Nat.add_comm, Nat.add_mul_div_right _ _ (by omega), Nat.div_eq_of_lt h, Nat.zero_add, Nat.add_mul_mod_self_right, Nat.mod_eq_of_lt h]
def stLine (s : Sheet) (b : List (List Int)) (g : Int) (m : Bool) (i j : Nat) : Bool := (b.take i).any fun l => hitB s g l (j / s.cols.toNat) (pCol s m (j % s.cols.toNat))
def stCol (s : Sheet) (b : List (List Int)) (g : Int) (m : Bool) (i c j : Nat) : Bool := stLine s b g m i j || (decide (pCol s m (j % s.cols.toNat) < c) && hitB s g (el b i) (j / s.cols.toNat) (pCol s m (j % s.cols.toNat)))
def stRow (s : Sheet) (b : List (List Int)) (g : Int) (m : Bool) (i c r j : Nat) : Bool := stCol s b g m i c j || (decide (pCol s m (j % s.cols.toNat) = c) && (decide (j / s.cols.toNat < r) && hitB s g (el b i) (j / s.cols.toNat) c))
theorem stCol_zero (s : Sheet) (b : List (List Int)) (g : Int) (m : Bool) (i j : Nat) : stCol s b g m i 0 j = stLine s b g m i j := by simp [stCol]
theorem stRow_zero {s : Sheet} {b : List (List Int)} {g : Int} {m : Bool} {i c r j : Nat} (h : (r : Int) ≤ max (el (el b i) c - g) 0) : stRow s b g m i c r j = stCol s b g m i c j := by
  unfold stRow
  generalize j / s.cols.toNat = q
  cases hx : hitB s g (el b i) q c
  · simp
  · rw [hitB_iff] at hx
    rw [show decide (q < r) = false by simp; omega]
    simp
theorem stRow_succ {s : Sheet} {b : List (List Int)} {g : Int} {m : Bool} {i c r j : Nat} (hc : c < s.cols.toNat) (h1 : el (el b i) c - g ≤ (r : Int)) (h2 : (r : Int) ≤ el (el b i) c + s.weight - 1 + g) :
    (bif Nat.beq j (r * s.cols.toNat + pCol s m c) then true else stRow s b g m i c r j) = stRow s b g m i c (r + 1) j := by
  have hp := pCol_lt (m := m) hc
  by_cases e : j = r * s.cols.toNat + pCol s m c
  · have ed : j / s.cols.toNat = r := by rw [e, Nat.add_comm, Nat.add_mul_div_right _ _ (by omega), Nat.div_eq_of_lt hp, Nat.zero_add]
    have em : j % s.cols.toNat = pCol s m c := by rw [e, Nat.add_comm, Nat.add_mul_mod_self_right, Nat.mod_eq_of_lt hp]
    rw [show Nat.beq j (r * s.cols.toNat + pCol s m c) = true by rw [e]; simp]
    unfold stRow
    rw [ed, em, pCol_pCol hc, hitB_iff.2 ⟨h1, h2⟩]
    simp
  · have eb : Nat.beq j (r * s.cols.toNat + pCol s m c) = false := by cases q : Nat.beq j (r * s.cols.toNat + pCol s m c) with | false => rfl | true => exact (e (Nat.eq_of_beq_eq_true q)).elim
    rw [eb]
    show stRow s b g m i c r j = stRow s b g m i c (r + 1) j
    unfold stRow
    by_cases hq : pCol s m (j % s.cols.toNat) = c
    · have hne : j / s.cols.toNat ≠ r := fun hd => e (by
        have h3 := Nat.div_add_mod' j s.cols.toNat
        rw [hd] at h3
        have h4 : j % s.cols.toNat = pCol s m c := by rw [← hq, pCol_pCol (Nat.mod_lt _ (by omega))]
        rw [h4] at h3
        exact h3.symm)
      rw [show decide (j / s.cols.toNat < r + 1) = decide (j / s.cols.toNat < r) by simp; omega]
    · simp [hq]
theorem stRow_end {s : Sheet} {b : List (List Int)} {g : Int} {m : Bool} {i c r j : Nat} (hj : (j / s.cols.toNat : Nat) < s.rows) (h : min (el (el b i) c + s.weight - 1 + g) (s.rows - 1) < (r : Int)) : stRow s b g m i c r j = stCol s b g m i (c + 1) j := by
  unfold stRow stCol
  generalize j / s.cols.toNat = q at hj ⊢
  by_cases hq : pCol s m (j % s.cols.toNat) = c
  · cases hx : hitB s g (el b i) q c
    · rw [hq, hx]; simp
    · have hx' := hitB_iff.1 hx
      rw [hq, hx, show decide (q < r) = true by simp; omega]
      simp
  · rw [show decide (pCol s m (j % s.cols.toNat) < c + 1) = decide (pCol s m (j % s.cols.toNat) < c) by simp; omega]
    simp [hq]
theorem stCol_end {s : Sheet} {b : List (List Int)} {g : Int} {m : Bool} {i c j : Nat} (hc : s.cols.toNat ≤ c) (h0 : 0 < s.cols.toNat) (hi : i < b.length) : stCol s b g m i c j = stLine s b g m (i + 1) j := by
  unfold stCol stLine
  have := pCol_lt (s := s) (m := m) (Nat.mod_lt j h0)
  rw [show decide (pCol s m (j % s.cols.toNat) < c) = true by simp; omega, List.take_succ_eq_append_getElem hi, List.any_append, el_eq hi]
  simp
theorem stLine_end {s : Sheet} {b : List (List Int)} {g : Int} {m : Bool} {i j : Nat} (hi : b.length ≤ i) : stLine s b g m i j = proofAt s b g m j := by
  unfold stLine proofAt proofB
  rw [List.take_of_length_le hi]
def gapAt (s : Sheet) (b : List (List Int)) (i c : Nat) : Int := el (el b (i + 1)) c - el (el b i) c - s.weight
def gapRow (s : Sheet) (b : List (List Int)) (i : Nat) (x : Int) (n : Nat) : Int := (List.range n).foldl (fun a c => min a (gapAt s b i c)) x
def gapTo (s : Sheet) (b : List (List Int)) (k : Nat) : Int := (List.range k).foldl (fun a i => gapRow s b i a s.cols.toNat) s.rows
theorem gapRow_succ (s : Sheet) (b : List (List Int)) (i : Nat) (x : Int) (n : Nat) : gapRow s b i x (n + 1) = min (gapRow s b i x n) (gapAt s b i n) := by simp [gapRow, List.range_succ]
theorem gapTo_succ (s : Sheet) (b : List (List Int)) (k : Nat) : gapTo s b (k + 1) = gapRow s b k (gapTo s b k) s.cols.toNat := by simp [gapTo, List.range_succ]
theorem gapRow_bnd {s : Sheet} {b : List (List Int)} {i : Nat} {x : Int} (hx : 0 ≤ x ∧ x ≤ s.rows) : ∀ n, (∀ c, c < n → 0 ≤ gapAt s b i c) → 0 ≤ gapRow s b i x n ∧ gapRow s b i x n ≤ s.rows
  | 0, _ => hx
  | n + 1, h => by
    have ih := gapRow_bnd (i := i) hx n (fun c hc => h c (by omega))
    have := h n (by omega)
    rw [gapRow_succ]
    omega
theorem gapTo_bnd {s : Sheet} {b : List (List Int)} (h0 : 0 ≤ s.rows) : ∀ k, (∀ i c, i < k → c < s.cols.toNat → 0 ≤ gapAt s b i c) → 0 ≤ gapTo s b k ∧ gapTo s b k ≤ s.rows
  | 0, _ => ⟨h0, Int.le_refl _⟩
  | k + 1, h => by
    rw [gapTo_succ]
    exact gapRow_bnd (gapTo_bnd h0 k fun i c hi hc => h i c (by omega) hc) _ fun c hc => h k c (by omega) hc
theorem near_no {s : Sheet} {x y : List Int} (h : clashF s x y < 0) {j : Nat} (hj : (j : Int) < s.cols) : nearAt s x y j = false := by
  unfold clashF at h
  split at h
  · omega
  · rename_i hf
    rw [List.find?_eq_none] at hf
    have := hf j (by simp; omega)
    simpa using this
theorem gap_pos {s : Sheet} {b : List (List Int)} (h : checkErr s b = 0) {i c : Nat} (hi : i < b.length - 1) (hc : c < s.cols.toNat) : 0 ≤ gapAt s b i c := by
  have hb := Sheet.bounds (band_of_check h).1
  have hbd : bandB s b = true := by
    unfold checkErr at h
    rw [if_pos (band_of_check h).1] at h
    split at h
    · assumption
    · omega
  unfold bandB at hbd
  simp only [Bool.and_eq_true, List.all_eq_true, List.mem_range, decide_eq_true_eq] at hbd
  have := near_no (hbd.2 i hi) (j := c) (by omega)
  simp only [nearAt, decide_eq_false_iff_not] at this
  unfold gapAt
  omega
def gapErr (s : Sheet) (b : List (List Int)) : Int := if checkErr s b = 0 then (if b.length < 2 then 6 else 0) else checkErr s b
def gapF (s : Sheet) (b : List (List Int)) : Int := if gapErr s b = 0 then gapTo s b (b.length - 1) else 0
theorem gap_ok {s : Sheet} {b : List (List Int)} (h : gapErr s b = 0) : checkErr s b = 0 ∧ 2 ≤ b.length ∧ 0 ≤ gapF s b ∧ gapF s b ≤ 60 := by
  have h0 := h
  unfold gapErr at h
  split at h
  · rename_i hc
    split at h
    · omega
    · have hb := Sheet.bounds (band_of_check hc).1
      have := gapTo_bnd (s := s) (b := b) (by omega) (b.length - 1) fun i c hi hcc => gap_pos hc hi hcc
      unfold gapF
      rw [if_pos h0]
      exact ⟨hc, by omega, this.1, by omega⟩
  · omega
def lastErr (s : Sheet) (b : List (List Int)) (per : Int) : Int := if gapErr s b = 0 then (if withinB per 1 1000 = true then (if gapF s b = 0 then 6 else 0) else 2) else gapErr s b
def lastF (s : Sheet) (b : List (List Int)) (per : Int) : Int := if lastErr s b per = 0 then (gapF s b + 1) / 2 * per - 1 else 0
end Go.Proofs.Ythpbjihnikapoaa
namespace Go.Proofs.Ythpbjihnikapoaa
open Go.RowKit
theorem from1_p (lo hi x : Int) : PCalls Try.prog 50 [vi lo, vi hi, encInts [x]] (· = vb (withinB x lo hi)) := (from_p lo hi [x]).mono fun v hv => by rw [hv]; simp [fromB]
theorem proofErr_check {s : Sheet} {b : List (List Int)} {g : Int} (h : checkErr s b ≠ 0) : proofErr s b g = checkErr s b := by simp [proofErr, h]
theorem proofErr_arg {s : Sheet} {b : List (List Int)} {g : Int} (h : checkErr s b = 0) (h2 : withinB g 0 20 = false) : proofErr s b g = 2 := by simp [proofErr, h, h2]
theorem proofErr_ok {s : Sheet} {b : List (List Int)} {g : Int} (h : checkErr s b = 0) (h2 : withinB g 0 20 = true) : proofErr s b g = 0 := by simp [proofErr, h, h2]
theorem proofF_bad {s : Sheet} {b : List (List Int)} {g : Int} {m : Bool} (h : proofErr s b g ≠ 0) : proofF s b g m = [] := by simp [proofF, h]
theorem proofF_ok {s : Sheet} {b : List (List Int)} {g : Int} {m : Bool} (h : proofErr s b g = 0) : proofF s b g m = proofTo s b g m (s.rows.toNat * s.cols.toNat) := by simp [proofF, h]
theorem pCol_int {s : Sheet} {m : Bool} {c : Nat} (h : c < s.cols.toNat) : (pCol s m c : Int) = if m = true then s.cols - 1 - c else (c : Int) := by unfold pCol; split <;> omega
set_option maxHeartbeats 2000000 in
theorem lProof_p (s : Sheet) (b : List (List Int)) (g : Int) (m : Bool) : PCalls Try.prog 19 [s.enc, encRows b, vi g, vb m] (· = .tup [encBools (proofF s b g m), vi (proofErr s b g)]) := by
  by_cases hce : checkErr s b = 0
  · cases hok : withinB g 0 20
    · have he := proofErr_arg hce hok
      rw [proofF_bad (by omega), he]
      refine pcalls_of_aw Try.func19 rfl (Nat.le_of_ble_eq_true rfl) ?_
      (repeat' (first | (refine ar_isq ?_; first | refine zmv ?_ | refine zas ?_ | (refine is_load ?_; first | refine zlp ?_ | refine zlr ?_) | (refine is_binOp ?_; first | refine zlss ?_ | refine zleq ?_ | refine zneq ?_ | refine zadd ?_ | refine zsub ?_ | refine zmul ?_) | (refine is_fieldAddr ?_; first | refine zfp ?_ | refine zfr ?_) | (refine is_indexAddr ?_; first | refine zil ?_ | refine zis ?_ | refine zit ?_ | refine zia ?_ | refine zir ?_ | (refine zxl ?_; intro _ _ _) | (refine zxs ?_; intro _ _ _)) | (refine is_call ?_; first | refine zll ?_ | refine zls ?_ | refine zln ?_ | refine zle ?_ | refine zmin ?_ | refine zmax ?_) | refine znt ?_) | (refine ar_pcall (own := false) fn53 rfl rfl (.cons (.closed rfl) (.cons (.closed rfl) .nil)) (check_p s b) (by simp) (dc rfl) ?_; intro _ hv; subst hv) | (refine ar_pcall (own := true) fn50 rfl rfl (.cons (.closed rfl) (.cons (.closed rfl) (.cons (.lent rfl rfl (by omega) (fun _ _ => rfl) (fun k hk => match k, hk with | 0, _ => rfl)) .nil))) (from1_p 0 20 g) (by intros; subst_vars; rfl) (dc rfl) ?_; intro _ hv; subst hv) | (refine zbx ?_) | (refine zb1 ?_) | (refine zb0 ?_) | (refine zsvs ?_) | (refine zsva ?_) | (refine zses ?_) | (refine zsea ?_) | (refine ar_nil ?_) | (refine aw_seq ?_) | (refine aw_skip ?_) | (refine aw_block ?_) | (refine aw_exit ?_) | (refine aw_region ?_) | (refine zco ?_ ?_ <;> intro hg <;> first | exact absurd hg (by decide) | ((try replace hg := HG.out hg); (try dsimp only at hg); (try (have _h : True := hg; clear _h hg)); first | (exfalso; omega) | skip))))
      all_goals first
        | (exfalso; simp_all; done)
        | ((refine aw_mono_r (env' := [(8, encBools []), (9, vi 2)]) (H' := []) ?_ ?_; (focus ((refine sub_to [] [] rfl ?_ ?_ <;> (repeat' (first | exact trivial | refine ⟨⟨_, rfl, ?_⟩, ?_⟩ | refine ⟨bsub_snoc rfl rfl (fun _ => rfl) ?_, ?_⟩ | refine ⟨bsub_one rfl rfl ?_, ?_⟩ | refine ⟨bsub_all rfl rfl (fun _ _ => rfl) (fun _ => rfl), ?_⟩ | refine ⟨bsub_updL rfl rfl ?_ (fun _ _ _ => rfl) (fun _ => rfl), ?_⟩ | refine ⟨.inl ⟨_, _, rfl, rfl, ?_⟩, ?_⟩ | exact ⟨.inr ⟨rfl, rfl⟩, trivial⟩ | refine ⟨.inr ⟨rfl, rfl⟩, ?_⟩ | (intro _ _) | exact vz1 | exact vz2 | fail))); done))); (refine aw_ret ?_; (repeat (first | refine ret_then ?_ | refine ret_block ?_)); refine bq2 rfl rfl ⟨?_, rfl⟩); rfl)
    · have he := proofErr_ok hce hok
      rw [proofF_ok he, he]
      obtain ⟨hs, h12, hl⟩ := band_of_check hce
      have hbd := Sheet.bounds hs
      have hgb := withinB_iff.1 hok
      have hN : s.rows.toNat * s.cols.toNat ≤ 60 * 40 := Nat.mul_le_mul (by omega) (by omega)
      have hmk : s.cols * s.rows = ((s.rows.toNat * s.cols.toNat : Nat) : Int) := by
        rw [Int.natCast_mul, Int.toNat_of_nonneg (by omega), Int.toNat_of_nonneg (by omega), Int.mul_comm]
      have hq : ∀ (r c : Nat), r < s.rows.toNat → c < s.cols.toNat → r * s.cols.toNat + c < s.rows.toNat * s.cols.toNat := fun r c hr hc => by
        have h1 : (r + 1) * s.cols.toNat ≤ s.rows.toNat * s.cols.toNat := Nat.mul_le_mul_right _ hr
        rw [Nat.add_mul, Nat.one_mul] at h1
        omega
      have hmu : ∀ r : Nat, (r : Int) * s.cols = ((r * s.cols.toNat : Nat) : Int) := fun r => by rw [Int.natCast_mul, Int.toNat_of_nonneg (by omega)]
      have hdiv : ∀ j, j < s.rows.toNat * s.cols.toNat → ((j / s.cols.toNat : Nat) : Int) < s.rows := fun j hj => by
        have := (Nat.div_lt_iff_lt_mul (show 0 < s.cols.toNat by omega)).2 hj
        omega
      refine pcalls_of_aw Try.func19 rfl (Nat.le_of_ble_eq_true rfl) ?_
      (repeat' (first | (refine ar_isq ?_; first | refine zmv ?_ | refine zas ?_ | (refine is_load ?_; first | refine zlp ?_ | refine zlr ?_) | (refine is_binOp ?_; first | refine zlss ?_ | refine zleq ?_ | refine zneq ?_ | refine zadd ?_ | refine zsub ?_ | refine zmul ?_) | (refine is_fieldAddr ?_; first | refine zfp ?_ | refine zfr ?_) | (refine is_indexAddr ?_; first | refine zil ?_ | refine zis ?_ | refine zit ?_ | refine zia ?_ | refine zir ?_ | (refine zxl ?_; intro _ _ _) | (refine zxs ?_; intro _ _ _)) | (refine is_call ?_; first | refine zll ?_ | refine zls ?_ | refine zln ?_ | refine zle ?_ | refine zmin ?_ | refine zmax ?_) | refine znt ?_) | (refine ar_pcall (own := false) fn53 rfl rfl (.cons (.closed rfl) (.cons (.closed rfl) .nil)) (check_p s b) (by simp) (dc rfl) ?_; intro _ hv; subst hv) | (refine ar_pcall (own := true) fn50 rfl rfl (.cons (.closed rfl) (.cons (.closed rfl) (.cons (.lent rfl rfl (by omega) (fun _ _ => rfl) (fun k hk => match k, hk with | 0, _ => rfl)) .nil))) (from1_p 0 20 g) (by intros; subst_vars; rfl) (dc rfl) ?_; intro _ hv; subst hv) | (refine ar_make_v (n := s.rows.toNat * s.cols.toNat) (ty rfl) rfl (ty rfl) rfl rfl (by omega) (by omega) (dc rfl) rfl rfl (by dsimp only; omega) (maxLen_ok (by omega)) ?_) | (refine zbx ?_) | (refine zb1 ?_) | (refine zb0 ?_) | (refine zsvs ?_) | (refine zsva ?_) | (refine zses ?_) | (refine zsea ?_) | (refine ar_nil ?_) | (refine aw_seq ?_) | (refine aw_skip ?_) | (refine aw_block ?_) | (refine aw_exit ?_) | (refine aw_region ?_) | (refine zco ?_ ?_ <;> intro hg <;> first | exact absurd hg (by decide) | ((try replace hg := HG.out hg); (try dsimp only at hg); (try (have _h : True := hg; clear _h hg)); first | (exfalso; omega) | skip))))
      all_goals (try (exfalso; simp_all; done))
      refine aw_for b.length (fun _ => True) (fun i => [(1, encRows b), (2, vi g), (3, vb m), (4, .ptr 5 0 0 0), (11, .sl 1 1 0 (s.rows.toNat * s.cols.toNat)), (33, encRows b), (34, vi b.length), (35, vi i)]) (fun i => [.arr 5 1 (fun _ => s.enc), .arr 1 (s.rows.toNat * s.cols.toNat) (fun j => vb (stLine s b g m i j))]) trivial ?_ ?_
      · (refine sub_to [some 0, some 2] [] rfl ?_ ?_ <;> (repeat' (first | exact trivial | refine ⟨⟨_, rfl, ?_⟩, ?_⟩ | refine ⟨bsub_snoc rfl rfl (fun _ => rfl) ?_, ?_⟩ | refine ⟨bsub_one rfl rfl ?_, ?_⟩ | refine ⟨bsub_all rfl rfl (fun _ _ => rfl) (fun _ => rfl), ?_⟩ | refine ⟨bsub_updL rfl rfl ?_ (fun _ _ _ => rfl) (fun _ => rfl), ?_⟩ | refine ⟨.inl ⟨_, _, rfl, rfl, ?_⟩, ?_⟩ | exact ⟨.inr ⟨rfl, rfl⟩, trivial⟩ | refine ⟨.inr ⟨rfl, rfl⟩, ?_⟩ | (intro _ _) | exact vz1 | exact vz2 | fail)))
      intro i hi _
      by_cases hlti : i < b.length
      · have hli := of_all_el hl hlti
        have hln := isLine_len hli
        (repeat' (first | (refine ar_isq ?_; first | refine zmv ?_ | refine zas ?_ | (refine is_load ?_; first | refine zlp ?_ | refine zlr ?_) | (refine is_binOp ?_; first | refine zlss ?_ | refine zleq ?_ | refine zneq ?_ | refine zadd ?_ | refine zsub ?_ | refine zmul ?_) | (refine is_fieldAddr ?_; first | refine zfp ?_ | refine zfr ?_) | (refine is_indexAddr ?_; first | refine zil ?_ | refine zis ?_ | refine zit ?_ | refine zia ?_ | refine zir ?_ | (refine zxl ?_; intro _ _ _) | (refine zxs ?_; intro _ _ _)) | (refine is_call ?_; first | refine zll ?_ | refine zls ?_ | refine zln ?_ | refine zle ?_ | refine zmin ?_ | refine zmax ?_) | refine znt ?_) | (refine zbx ?_) | (refine zb1 ?_) | (refine zb0 ?_) | (refine zsvs ?_) | (refine zsva ?_) | (refine zses ?_) | (refine zsea ?_) | (refine ar_nil ?_) | (refine aw_seq ?_) | (refine aw_skip ?_) | (refine aw_block ?_) | (refine aw_exit ?_) | (refine aw_region ?_) | (refine zco ?_ ?_ <;> intro hg <;> first | exact absurd hg (by decide) | ((try replace hg := HG.out hg); (try dsimp only at hg); (try (have _h : True := hg; clear _h hg)); first | (exfalso; omega) | skip))))
        all_goals (try (exfalso; omega))
        refine aw_for (el b i).length (fun _ => True) (fun c => [(1, encRows b), (2, vi g), (3, vb m), (4, .ptr 5 0 0 0), (11, .sl 1 1 0 (s.rows.toNat * s.cols.toNat)), (33, encRows b), (34, vi b.length), (35, vi i), (39, encInts (el b i)), (40, vi (el b i).length), (41, vi c)]) (fun c => [.arr 5 1 (fun _ => s.enc), .arr 1 (s.rows.toNat * s.cols.toNat) (fun j => vb (stCol s b g m i c j))]) trivial ?_ ?_
        · (refine sub_to [some 0, some 1] [] rfl ?_ ?_ <;> (repeat' (first | exact trivial | refine ⟨⟨_, rfl, ?_⟩, ?_⟩ | refine ⟨bsub_snoc rfl rfl (fun _ => rfl) ?_, ?_⟩ | refine ⟨bsub_one rfl rfl ?_, ?_⟩ | refine ⟨bsub_all rfl rfl (fun _ _ => rfl) (fun _ => rfl), ?_⟩ | refine ⟨bsub_updL rfl rfl ?_ (fun _ _ _ => rfl) (fun _ => rfl), ?_⟩ | refine ⟨.inl ⟨_, _, rfl, rfl, ?_⟩, ?_⟩ | exact ⟨.inr ⟨rfl, rfl⟩, trivial⟩ | refine ⟨.inr ⟨rfl, rfl⟩, ?_⟩ | (intro _ _) | exact vz1 | (exact VSub.of_eq (congrArg vb (stCol_zero _ _ _ _ _ _).symm) rfl) | exact vz2 | fail)))
        intro c hc _
        by_cases hltc : c < (el b i).length
        · have hlc := isLine_at hli hltc
          have hcc : c < s.cols.toNat := by omega
          have hpcT : m = true → (pCol s m c : Int) = s.cols - 1 - c := fun h => by rw [pCol_int hcc, if_pos h]
          have hpcF : m = false → (pCol s m c : Int) = c := fun h => by rw [pCol_int hcc, if_neg (by simp [h])]
          have hpl := pCol_lt (m := m) hcc
          obtain ⟨R0, hR0⟩ : ∃ R0 : Nat, (R0 : Int) = max (el (el b i) c - g) 0 := ⟨(max (el (el b i) c - g) 0).toNat, by omega⟩
          obtain ⟨cnt, hcnt⟩ : ∃ cnt : Nat, ((R0 + cnt : Nat) : Int) = min (el (el b i) c + s.weight - 1 + g) (s.rows - 1) + 1 := ⟨(min (el (el b i) c + s.weight - 1 + g) (s.rows - 1) + 1 - R0).toNat, by omega⟩
          have hstart : ∀ j, vb (stCol s b g m i c j) = vb (stRow s b g m i c (R0 + 0) j) := fun j => congrArg vb (stRow_zero (by omega)).symm
          (repeat' (first | (refine ar_isq ?_; first | refine zmv ?_ | refine zas ?_ | (refine is_load ?_; first | refine zlp ?_ | refine zlr ?_) | (refine is_binOp ?_; first | refine zlss ?_ | refine zleq ?_ | refine zneq ?_ | refine zadd ?_ | refine zsub ?_ | refine zmul ?_) | (refine is_fieldAddr ?_; first | refine zfp ?_ | refine zfr ?_) | (refine is_indexAddr ?_; first | refine zil ?_ | refine zis ?_ | refine zit ?_ | refine zia ?_ | refine zir ?_ | refine zil (j := c) ?_ | refine zis (j := c) ?_ | refine zit (j := c) ?_ | (refine zxl ?_; intro _ _ _) | (refine zxs ?_; intro _ _ _)) | (refine is_call ?_; first | refine zll ?_ | refine zls ?_ | refine zln ?_ | refine zle ?_ | refine zmin ?_ | refine zmax ?_) | refine znt ?_) | (refine zbx ?_) | (refine zb1 ?_) | (refine zb0 ?_) | (refine zsvs ?_) | (refine zsva ?_) | (refine zses ?_) | (refine zsea ?_) | (refine ar_nil ?_) | (refine aw_seq ?_) | (refine aw_skip ?_) | (refine aw_block ?_) | (refine aw_exit ?_) | (refine aw_region ?_) | (refine zco ?_ ?_ <;> intro hg <;> first | exact absurd hg (by decide) | ((try replace hg := HG.out hg); (try dsimp only at hg); (try (have _h : True := hg; clear _h hg)); first | (exfalso; omega) | skip))))
          all_goals (try (exfalso; omega))
          all_goals
            refine aw_for cnt (fun _ => True) (fun k => [(1, encRows b), (2, vi g), (3, vb m), (4, .ptr 5 0 0 0), (11, .sl 1 1 0 (s.rows.toNat * s.cols.toNat)), (33, encRows b), (34, vi b.length), (35, vi i), (39, encInts (el b i)), (40, vi (el b i).length), (41, vi c), (14, vi (pCol s m c)), (15, vi (el (el b i) c)), (16, vi ((R0 + k : Nat) : Int))]) (fun k => [.arr 5 1 (fun _ => s.enc), .arr 1 (s.rows.toNat * s.cols.toNat) (fun j => vb (stRow s b g m i c (R0 + k) j))]) trivial ?_ ?_
            · (refine sub_to [some 0, some 1] [] rfl ?_ ?_ <;> (repeat' (first | exact trivial | refine ⟨⟨_, rfl, ?_⟩, ?_⟩ | refine ⟨bsub_snoc rfl rfl (fun _ => rfl) ?_, ?_⟩ | refine ⟨bsub_one rfl rfl ?_, ?_⟩ | refine ⟨bsub_all rfl rfl (fun _ _ => rfl) (fun _ => rfl), ?_⟩ | refine ⟨bsub_updL rfl rfl ?_ (fun _ _ _ => rfl) (fun _ => rfl), ?_⟩ | refine ⟨.inl ⟨_, _, rfl, rfl, ?_⟩, ?_⟩ | exact ⟨.inr ⟨rfl, rfl⟩, trivial⟩ | refine ⟨.inr ⟨rfl, rfl⟩, ?_⟩ | (intro _ _) | exact vz1 | (first | exact siEq (by omega) | exact siEq (by have := hpcT (by assumption); omega) | exact siEq (by have := hpcF (by assumption); omega) | exact VSub.of_eq (hstart _) rfl) | exact vz2 | fail)))
            intro k hk _
            by_cases hltk : k < cnt
            · have hrk : R0 + k < s.rows.toNat := by omega
              have hidx := hq (R0 + k) (pCol s m c) hrk hpl
              have hm2 := hmu (R0 + k)
              have hst : ∀ j, _ := fun j => stRow_succ (s := s) (b := b) (g := g) (m := m) (i := i) (c := c) (r := R0 + k) (j := j) hcc (by omega) (by omega)
              have hst1 : vb (stRow s b g m i c (R0 + k + 1) ((R0 + k) * s.cols.toNat + pCol s m c)) = vb true := by rw [← hst]; simp
              have hst2 : ∀ j, j ≠ (R0 + k) * s.cols.toNat + pCol s m c → vb (stRow s b g m i c (R0 + k + 1) j) = vb (stRow s b g m i c (R0 + k) j) := fun j hj => by
                rw [← hst, show Nat.beq j ((R0 + k) * s.cols.toNat + pCol s m c) = false by cases q : Nat.beq j ((R0 + k) * s.cols.toNat + pCol s m c) with | false => rfl | true => exact (hj (Nat.eq_of_beq_eq_true q)).elim]
                rfl
              (repeat' (first | (refine ar_isq ?_; first | refine zmv ?_ | refine zas ?_ | (refine is_load ?_; first | refine zlp ?_ | refine zlr ?_) | (refine is_binOp ?_; first | refine zlss ?_ | refine zleq ?_ | refine zneq ?_ | refine zadd ?_ | refine zsub ?_ | refine zmul ?_) | (refine is_fieldAddr ?_; first | refine zfp ?_ | refine zfr ?_) | (refine is_indexAddr ?_; first | refine zil ?_ | refine zis ?_ | refine zit ?_ | refine zia ?_ | refine zir ?_ | refine zil (j := (R0 + k) * s.cols.toNat + pCol s m c) ?_ | refine zis (j := (R0 + k) * s.cols.toNat + pCol s m c) ?_ | refine zit (j := (R0 + k) * s.cols.toNat + pCol s m c) ?_ | (refine zxl ?_; intro _ _ _) | (refine zxs ?_; intro _ _ _)) | (refine is_call ?_; first | refine zll ?_ | refine zls ?_ | refine zln ?_ | refine zle ?_ | refine zmin ?_ | refine zmax ?_) | refine znt ?_) | (refine ar_store_as (fun j => vb (stRow s b g m i c (R0 + k + 1) j)) (ty rfl) rfl rfl rfl rfl rfl rfl (by omega) (by dsimp only; omega) (fun _ h => by cases h) rfl rfl (fun _ h => by cases h) hst1 (fun j _ hj => hst2 j hj) ?_) | (refine zbx ?_) | (refine zb1 ?_) | (refine zb0 ?_) | (refine zsvs ?_) | (refine zsva ?_) | (refine zses ?_) | (refine zsea ?_) | (refine ar_nil ?_) | (refine aw_seq ?_) | (refine aw_skip ?_) | (refine aw_block ?_) | (refine aw_exit ?_) | (refine aw_region ?_) | (refine zco ?_ ?_ <;> intro hg <;> first | exact absurd hg (by decide) | ((try replace hg := HG.out hg); (try dsimp only at hg); (try (have _h : True := hg; clear _h hg)); first | (exfalso; omega) | skip))))
              all_goals first
                | (exfalso; omega)
                | ((first | refine loop_next (by omega) ?_ ?_ | refine (show _ ∧ _ ∧ SubOf _ _ _ _ _ _ from And.intro (by omega) (And.intro ?_ ?_))); (focus ((trivial); done)); (focus ((refine sub_to [some 0, some 1] [] rfl ?_ ?_ <;> (repeat' (first | exact trivial | refine ⟨⟨_, rfl, ?_⟩, ?_⟩ | refine ⟨bsub_snoc rfl rfl (fun _ => rfl) ?_, ?_⟩ | refine ⟨bsub_one rfl rfl ?_, ?_⟩ | refine ⟨bsub_all rfl rfl (fun _ _ => rfl) (fun _ => rfl), ?_⟩ | refine ⟨bsub_updL rfl rfl ?_ (fun _ _ _ => rfl) (fun _ => rfl), ?_⟩ | refine ⟨.inl ⟨_, _, rfl, rfl, ?_⟩, ?_⟩ | exact ⟨.inr ⟨rfl, rfl⟩, trivial⟩ | refine ⟨.inr ⟨rfl, rfl⟩, ?_⟩ | (intro _ _) | exact vz1 | exact vz2 | fail))); done)))
            · (repeat' (first | (refine ar_isq ?_; first | refine zmv ?_ | refine zas ?_ | (refine is_load ?_; first | refine zlp ?_ | refine zlr ?_) | (refine is_binOp ?_; first | refine zlss ?_ | refine zleq ?_ | refine zneq ?_ | refine zadd ?_ | refine zsub ?_ | refine zmul ?_) | (refine is_fieldAddr ?_; first | refine zfp ?_ | refine zfr ?_) | (refine is_indexAddr ?_; first | refine zil ?_ | refine zis ?_ | refine zit ?_ | refine zia ?_ | refine zir ?_ | (refine zxl ?_; intro _ _ _) | (refine zxs ?_; intro _ _ _)) | (refine is_call ?_; first | refine zll ?_ | refine zls ?_ | refine zln ?_ | refine zle ?_ | refine zmin ?_ | refine zmax ?_) | refine znt ?_) | (refine zbx ?_) | (refine zb1 ?_) | (refine zb0 ?_) | (refine zsvs ?_) | (refine zsva ?_) | (refine zses ?_) | (refine zsea ?_) | (refine ar_nil ?_) | (refine aw_seq ?_) | (refine aw_skip ?_) | (refine aw_block ?_) | (refine aw_exit ?_) | (refine aw_region ?_) | (refine zco ?_ ?_ <;> intro hg <;> first | exact absurd hg (by decide) | ((try replace hg := HG.out hg); (try dsimp only at hg); (try (have _h : True := hg; clear _h hg)); first | (exfalso; omega) | skip))))
              all_goals first
                | (exfalso; omega)
                | ((first | refine loop_next (by omega) ?_ ?_ | refine (show _ ∧ _ ∧ SubOf _ _ _ _ _ _ from And.intro (by omega) (And.intro ?_ ?_))); (focus ((trivial); done)); (focus ((refine sub_to [some 0, some 1] [] rfl ?_ ?_ <;> (repeat' (first | exact trivial | refine ⟨⟨_, rfl, ?_⟩, ?_⟩ | refine ⟨bsub_snoc rfl rfl (fun _ => rfl) ?_, ?_⟩ | refine ⟨bsub_one rfl rfl ?_, ?_⟩ | refine ⟨bsub_all rfl rfl (fun _ _ => rfl) (fun _ => rfl), ?_⟩ | refine ⟨bsub_updL rfl rfl ?_ (fun _ _ _ => rfl) (fun _ => rfl), ?_⟩ | refine ⟨.inl ⟨_, _, rfl, rfl, ?_⟩, ?_⟩ | exact ⟨.inr ⟨rfl, rfl⟩, trivial⟩ | refine ⟨.inr ⟨rfl, rfl⟩, ?_⟩ | (intro _ _) | exact vz1 | (exact VSub.of_eq (congrArg vb (stRow_end (hdiv _ (by assumption)) (by omega))) rfl) | exact vz2 | fail))); done)))
        · (repeat' (first | (refine ar_isq ?_; first | refine zmv ?_ | refine zas ?_ | (refine is_load ?_; first | refine zlp ?_ | refine zlr ?_) | (refine is_binOp ?_; first | refine zlss ?_ | refine zleq ?_ | refine zneq ?_ | refine zadd ?_ | refine zsub ?_ | refine zmul ?_) | (refine is_fieldAddr ?_; first | refine zfp ?_ | refine zfr ?_) | (refine is_indexAddr ?_; first | refine zil ?_ | refine zis ?_ | refine zit ?_ | refine zia ?_ | refine zir ?_ | (refine zxl ?_; intro _ _ _) | (refine zxs ?_; intro _ _ _)) | (refine is_call ?_; first | refine zll ?_ | refine zls ?_ | refine zln ?_ | refine zle ?_ | refine zmin ?_ | refine zmax ?_) | refine znt ?_) | (refine zbx ?_) | (refine zb1 ?_) | (refine zb0 ?_) | (refine zsvs ?_) | (refine zsva ?_) | (refine zses ?_) | (refine zsea ?_) | (refine ar_nil ?_) | (refine aw_seq ?_) | (refine aw_skip ?_) | (refine aw_block ?_) | (refine aw_exit ?_) | (refine aw_region ?_) | (refine zco ?_ ?_ <;> intro hg <;> first | exact absurd hg (by decide) | ((try replace hg := HG.out hg); (try dsimp only at hg); (try (have _h : True := hg; clear _h hg)); first | (exfalso; omega) | skip))))
          all_goals first
            | (exfalso; omega)
            | ((first | refine loop_next (by omega) ?_ ?_ | refine (show _ ∧ _ ∧ SubOf _ _ _ _ _ _ from And.intro (by omega) (And.intro ?_ ?_))); (focus ((trivial); done)); (focus ((refine sub_to [some 0, some 1] [] rfl ?_ ?_ <;> (repeat' (first | exact trivial | refine ⟨⟨_, rfl, ?_⟩, ?_⟩ | refine ⟨bsub_snoc rfl rfl (fun _ => rfl) ?_, ?_⟩ | refine ⟨bsub_one rfl rfl ?_, ?_⟩ | refine ⟨bsub_all rfl rfl (fun _ _ => rfl) (fun _ => rfl), ?_⟩ | refine ⟨bsub_updL rfl rfl ?_ (fun _ _ _ => rfl) (fun _ => rfl), ?_⟩ | refine ⟨.inl ⟨_, _, rfl, rfl, ?_⟩, ?_⟩ | exact ⟨.inr ⟨rfl, rfl⟩, trivial⟩ | refine ⟨.inr ⟨rfl, rfl⟩, ?_⟩ | (intro _ _) | exact vz1 | (exact VSub.of_eq (congrArg vb (stCol_end (by omega) (by omega) hlti)) rfl) | exact vz2 | fail))); done)))
      · (repeat' (first | (refine ar_isq ?_; first | refine zmv ?_ | refine zas ?_ | (refine is_load ?_; first | refine zlp ?_ | refine zlr ?_) | (refine is_binOp ?_; first | refine zlss ?_ | refine zleq ?_ | refine zneq ?_ | refine zadd ?_ | refine zsub ?_ | refine zmul ?_) | (refine is_fieldAddr ?_; first | refine zfp ?_ | refine zfr ?_) | (refine is_indexAddr ?_; first | refine zil ?_ | refine zis ?_ | refine zit ?_ | refine zia ?_ | refine zir ?_ | (refine zxl ?_; intro _ _ _) | (refine zxs ?_; intro _ _ _)) | (refine is_call ?_; first | refine zll ?_ | refine zls ?_ | refine zln ?_ | refine zle ?_ | refine zmin ?_ | refine zmax ?_) | refine znt ?_) | (refine zbx ?_) | (refine zb1 ?_) | (refine zb0 ?_) | (refine zsvs ?_) | (refine zsva ?_) | (refine zses ?_) | (refine zsea ?_) | (refine ar_nil ?_) | (refine aw_seq ?_) | (refine aw_skip ?_) | (refine aw_block ?_) | (refine aw_exit ?_) | (refine aw_region ?_) | (refine zco ?_ ?_ <;> intro hg <;> first | exact absurd hg (by decide) | ((try replace hg := HG.out hg); (try dsimp only at hg); (try (have _h : True := hg; clear _h hg)); first | (exfalso; omega) | skip))))
        all_goals first
          | (exfalso; omega)
          | ((refine aw_mono_r (env' := [(8, encBools (proofTo s b g m (s.rows.toNat * s.cols.toNat))), (9, vi 0)]) (H' := []) ?_ ?_; (focus ((refine sub_to [] [1] rfl ?_ ?_ <;> (repeat' (first | exact trivial | refine ⟨⟨_, rfl, ?_⟩, ?_⟩ | refine ⟨bsub_snoc rfl rfl (fun _ => rfl) ?_, ?_⟩ | refine ⟨bsub_one rfl rfl ?_, ?_⟩ | refine ⟨bsub_all rfl rfl (fun _ _ => rfl) (fun _ => rfl), ?_⟩ | refine ⟨bsub_updL rfl rfl ?_ (fun _ _ _ => rfl) (fun _ => rfl), ?_⟩ | refine ⟨.inl ⟨_, _, rfl, rfl, ?_⟩, ?_⟩ | exact ⟨.inr ⟨rfl, rfl⟩, trivial⟩ | refine ⟨.inr ⟨rfl, rfl⟩, ?_⟩ | (intro _ _) | exact vz1 | (exact frz_as (by simp) rfl rfl (proofTo_len _ _ _ _ _) (fun j hj => by rw [proofTo_el hj, stLine_end (by omega)]) (fun _ => rfl)) | exact vz2 | fail))); done))); (refine aw_ret ?_; (repeat (first | refine ret_then ?_ | refine ret_block ?_)); refine bq2 rfl rfl ⟨?_, rfl⟩); rfl)
  · have he := proofErr_check (g := g) hce
    rw [proofF_bad (by omega), he]
    refine pcalls_of_aw Try.func19 rfl (Nat.le_of_ble_eq_true rfl) ?_
    (repeat' (first | (refine ar_isq ?_; first | refine zmv ?_ | refine zas ?_ | (refine is_load ?_; first | refine zlp ?_ | refine zlr ?_) | (refine is_binOp ?_; first | refine zlss ?_ | refine zleq ?_ | refine zneq ?_ | refine zadd ?_ | refine zsub ?_ | refine zmul ?_) | (refine is_fieldAddr ?_; first | refine zfp ?_ | refine zfr ?_) | (refine is_indexAddr ?_; first | refine zil ?_ | refine zis ?_ | refine zit ?_ | refine zia ?_ | refine zir ?_ | (refine zxl ?_; intro _ _ _) | (refine zxs ?_; intro _ _ _)) | (refine is_call ?_; first | refine zll ?_ | refine zls ?_ | refine zln ?_ | refine zle ?_ | refine zmin ?_ | refine zmax ?_) | refine znt ?_) | (refine ar_pcall (own := false) fn53 rfl rfl (.cons (.closed rfl) (.cons (.closed rfl) .nil)) (check_p s b) (by simp) (dc rfl) ?_; intro _ hv; subst hv) | (refine zbx ?_) | (refine zb1 ?_) | (refine zb0 ?_) | (refine zsvs ?_) | (refine zsva ?_) | (refine zses ?_) | (refine zsea ?_) | (refine ar_nil ?_) | (refine aw_seq ?_) | (refine aw_skip ?_) | (refine aw_block ?_) | (refine aw_exit ?_) | (refine aw_region ?_) | (refine zco ?_ ?_ <;> intro hg <;> first | exact absurd hg (by decide) | ((try replace hg := HG.out hg); (try dsimp only at hg); (try (have _h : True := hg; clear _h hg)); first | (exfalso; omega) | skip))))
    all_goals first
      | (exfalso; omega)
      | ((refine aw_mono_r (env' := [(8, encBools []), (9, vi (checkErr s b))]) (H' := []) ?_ ?_; (focus ((refine sub_to [] [] rfl ?_ ?_ <;> (repeat' (first | exact trivial | refine ⟨⟨_, rfl, ?_⟩, ?_⟩ | refine ⟨bsub_snoc rfl rfl (fun _ => rfl) ?_, ?_⟩ | refine ⟨bsub_one rfl rfl ?_, ?_⟩ | refine ⟨bsub_all rfl rfl (fun _ _ => rfl) (fun _ => rfl), ?_⟩ | refine ⟨bsub_updL rfl rfl ?_ (fun _ _ _ => rfl) (fun _ => rfl), ?_⟩ | refine ⟨.inl ⟨_, _, rfl, rfl, ?_⟩, ?_⟩ | exact ⟨.inr ⟨rfl, rfl⟩, trivial⟩ | refine ⟨.inr ⟨rfl, rfl⟩, ?_⟩ | (intro _ _) | exact vz1 | exact vz2 | fail))); done))); (refine aw_ret ?_; (repeat (first | refine ret_then ?_ | refine ret_block ?_)); refine bq2 rfl rfl ⟨?_, rfl⟩); rfl)
end Go.Proofs.Ythpbjihnikapoaa
namespace Go.Proofs.Ythpbjihnikapoaa
open Go.RowKit
theorem gapErr_check {s : Sheet} {b : List (List Int)} (h : checkErr s b ≠ 0) : gapErr s b = checkErr s b := by simp [gapErr, h]
theorem gapErr_few {s : Sheet} {b : List (List Int)} (h : checkErr s b = 0) (h2 : b.length < 2) : gapErr s b = 6 := by simp [gapErr, h, h2]
theorem gapErr_ok {s : Sheet} {b : List (List Int)} (h : checkErr s b = 0) (h2 : ¬ b.length < 2) : gapErr s b = 0 := by simp [gapErr, h, h2]
theorem gapF_bad {s : Sheet} {b : List (List Int)} (h : gapErr s b ≠ 0) : gapF s b = 0 := by simp [gapF, h]
theorem gapF_ok {s : Sheet} {b : List (List Int)} (h : gapErr s b = 0) : gapF s b = gapTo s b (b.length - 1) := by simp [gapF, h]
def encGap (s : Sheet) (b : List (List Int)) : V := .tup [vi (gapF s b), vi (gapErr s b)]
theorem gap_next {s : Sheet} {b : List (List Int)} {k c : Nat} {x y z : Int} (hx : x = gapRow s b k (gapTo s b k) c) (hy : y = el (el b (k + 1)) c) (hz : z = el (el b k) c) : min x (y - z - s.weight) = gapRow s b k (gapTo s b k) (c + 1) := by
  subst hx hy hz
  rw [gapRow_succ, gapAt]
set_option maxHeartbeats 2000000 in
theorem lGap_p (s : Sheet) (b : List (List Int)) : PCalls Try.prog 21 [s.enc, encRows b] (· = encGap s b) := by
  by_cases hce : checkErr s b = 0
  · by_cases h2 : b.length < 2
    · have he := gapErr_few hce h2
      rw [encGap, gapF_bad (by omega), he]
      refine pcalls_of_aw Try.func21 rfl (Nat.le_of_ble_eq_true rfl) ?_
      (repeat' (first | (refine ar_isq ?_; first | refine zmv ?_ | refine zas ?_ | (refine is_load ?_; first | refine zlp ?_ | refine zlr ?_) | (refine is_binOp ?_; first | refine zlss ?_ | refine zneq ?_ | refine zadd ?_ | refine zsub ?_) | (refine is_fieldAddr ?_; first | refine zfp ?_ | refine zfr ?_) | (refine is_indexAddr ?_; first | refine zil ?_ | refine zis ?_ | refine zit ?_ | refine zia ?_ | refine zir ?_ | (refine zxl ?_; intro _ _ _) | (refine zxs ?_; intro _ _ _)) | (refine is_call ?_; first | refine zll ?_ | refine zls ?_ | refine zln ?_ | refine zle ?_ | refine zmin ?_)) | (refine ar_pcall (own := false) fn53 rfl rfl (.cons (.closed rfl) (.cons (.closed rfl) .nil)) (check_p s b) (by simp) (dc rfl) ?_; intro _ hv; subst hv) | (refine zcl ?_) | (refine zcs ?_) | (refine zbx ?_) | (refine ar_nil ?_) | (refine aw_seq ?_) | (refine aw_skip ?_) | (refine aw_block ?_) | (refine aw_exit ?_) | (refine aw_region ?_) | (refine aw_drawn (id := 13) [(0, 0), (1, 0), (2, 0), (3, 0), (4, 0), (5, 0), (6, 0), (7, 0), (8, 0), (9, 0), (10, 0), (11, 0), (12, 0), (13, 0), (14, 0)] mixed (by kernel_rfl) ?_) | (refine zco ?_ ?_ <;> intro hg <;> first | exact absurd hg (by decide) | ((try replace hg := HG.out hg); (try dsimp only at hg); (try (have _h : True := hg; clear _h hg)); first | (exfalso; omega) | skip))))
      all_goals first
        | (exfalso; omega)
        | ((refine aw_ret ?_; (repeat (first | refine ret_then ?_ | refine ret_block ?_)); refine bq2 rfl rfl ⟨?_, rfl⟩); rfl)
    · have he := gapErr_ok hce h2
      rw [encGap, gapF_ok he, he]
      obtain ⟨hs, h12, hl⟩ := band_of_check hce
      have hbd := Sheet.bounds hs
      refine pcalls_of_aw Try.func21 rfl (Nat.le_of_ble_eq_true rfl) ?_
      (repeat' (first | (refine ar_isq ?_; first | refine zmv ?_ | refine zas ?_ | (refine is_load ?_; first | refine zlp ?_ | refine zlr ?_) | (refine is_binOp ?_; first | refine zlss ?_ | refine zneq ?_ | refine zadd ?_ | refine zsub ?_) | (refine is_fieldAddr ?_; first | refine zfp ?_ | refine zfr ?_) | (refine is_indexAddr ?_; first | refine zil ?_ | refine zis ?_ | refine zit ?_ | refine zia ?_ | refine zir ?_ | (refine zxl ?_; intro _ _ _) | (refine zxs ?_; intro _ _ _)) | (refine is_call ?_; first | refine zll ?_ | refine zls ?_ | refine zln ?_ | refine zle ?_ | refine zmin ?_)) | (refine ar_pcall (own := false) fn53 rfl rfl (.cons (.closed rfl) (.cons (.closed rfl) .nil)) (check_p s b) (by simp) (dc rfl) ?_; intro _ hv; subst hv) | (refine zcl (a := 1) (b := b.length) ?_) | (refine zcs (a := 1) (b := b.length) ?_) | (refine zbx ?_) | (refine ar_nil ?_) | (refine aw_seq ?_) | (refine aw_skip ?_) | (refine aw_block ?_) | (refine aw_exit ?_) | (refine aw_region ?_) | (refine aw_drawn (id := 13) [(0, 0), (1, 0), (2, 0), (3, 0), (4, 0), (5, 0), (6, 0), (7, 0), (8, 0), (9, 0), (10, 0), (11, 0), (12, 0), (13, 0), (14, 0)] mixed (by kernel_rfl) ?_) | (refine zco ?_ ?_ <;> intro hg <;> first | exact absurd hg (by decide) | ((try replace hg := HG.out hg); (try dsimp only at hg); (try (have _h : True := hg; clear _h hg)); first | (exfalso; omega) | skip))))
      all_goals (try (exfalso; omega))
      refine aw_for (b.length - 1) (fun _ => True) (fun k => [(1, encRows b), (2, .ptr 5 0 0 0), (7, vi (gapTo s b k)), (24, .list 1 (b.length - 1) (fun j => encInts (el b (1 + j)))), (25, vi ((b.length - 1 : Nat) : Int)), (26, vi k)]) (fun _ => [.arr 5 1 (fun _ => s.enc)]) trivial ?_ ?_
      · (refine sub_to [some 0] [] rfl ?_ ?_ <;> (repeat' (first | exact trivial | refine ⟨⟨_, rfl, ?_⟩, ?_⟩ | refine ⟨bsub_snoc rfl rfl (fun _ => rfl) ?_, ?_⟩ | refine ⟨bsub_one rfl rfl ?_, ?_⟩ | refine ⟨bsub_all rfl rfl (fun _ _ => rfl) (fun _ => rfl), ?_⟩ | refine ⟨bsub_updL rfl rfl ?_ (fun _ _ _ => rfl) (fun _ => rfl), ?_⟩ | refine ⟨.inl ⟨_, _, rfl, rfl, ?_⟩, ?_⟩ | exact ⟨.inr ⟨rfl, rfl⟩, trivial⟩ | refine ⟨.inr ⟨rfl, rfl⟩, ?_⟩ | (intro _ _) | exact vz1 | exact vz2 | fail)))
      intro k hk _
      by_cases hlt : k < b.length - 1
      · have e1 : 1 + k = k + 1 := Nat.add_comm _ _
        have ha1 := of_all_el hl (k := 1 + k) (by omega)
        have ha0 := of_all_el hl (k := k) (by omega)
        have hn1 := isLine_len ha1
        have hn0 := isLine_len ha0
        (repeat' (first | (refine ar_isq ?_; first | refine zmv ?_ | refine zas ?_ | (refine is_load ?_; first | refine zlp ?_ | refine zlr ?_) | (refine is_binOp ?_; first | refine zlss ?_ | refine zneq ?_ | refine zadd ?_ | refine zsub ?_) | (refine is_fieldAddr ?_; first | refine zfp ?_ | refine zfr ?_) | (refine is_indexAddr ?_; first | refine zil ?_ | refine zis ?_ | refine zit ?_ | refine zia ?_ | refine zir ?_ | refine zil (j := k) ?_ | refine zis (j := k) ?_ | refine zit (j := k) ?_ | (refine zxl ?_; intro _ _ _) | (refine zxs ?_; intro _ _ _)) | (refine is_call ?_; first | refine zll ?_ | refine zls ?_ | refine zln ?_ | refine zle ?_ | refine zmin ?_)) | (refine zcl ?_) | (refine zcs ?_) | (refine zbx ?_) | (refine ar_nil ?_) | (refine aw_seq ?_) | (refine aw_skip ?_) | (refine aw_block ?_) | (refine aw_exit ?_) | (refine aw_region ?_) | (refine aw_drawn (id := 13) [(0, 0), (1, 0), (2, 0), (3, 0), (4, 0), (5, 0), (6, 0), (7, 0), (8, 0), (9, 0), (10, 0), (11, 0), (12, 0), (13, 0), (14, 0)] mixed (by kernel_rfl) ?_) | (refine zco ?_ ?_ <;> intro hg <;> first | exact absurd hg (by decide) | ((try replace hg := HG.out hg); (try dsimp only at hg); (try (have _h : True := hg; clear _h hg)); first | (exfalso; omega) | skip))))
        all_goals (try (exfalso; omega))
        refine aw_for (el b (1 + k)).length (fun _ => True) (fun c => [(1, encRows b), (2, .ptr 5 0 0 0), (7, vi (gapRow s b k (gapTo s b k) c)), (8, vi k), (24, .list 1 (b.length - 1) (fun j => encInts (el b (1 + j)))), (25, vi ((b.length - 1 : Nat) : Int)), (26, vi k), (31, encInts (el b (1 + k))), (32, vi (el b (1 + k)).length), (33, vi c)]) (fun _ => [.arr 5 1 (fun _ => s.enc)]) trivial ?_ ?_
        · (refine sub_to [some 0] [] rfl ?_ ?_ <;> (repeat' (first | exact trivial | refine ⟨⟨_, rfl, ?_⟩, ?_⟩ | refine ⟨bsub_snoc rfl rfl (fun _ => rfl) ?_, ?_⟩ | refine ⟨bsub_one rfl rfl ?_, ?_⟩ | refine ⟨bsub_all rfl rfl (fun _ _ => rfl) (fun _ => rfl), ?_⟩ | refine ⟨bsub_updL rfl rfl ?_ (fun _ _ _ => rfl) (fun _ => rfl), ?_⟩ | refine ⟨.inl ⟨_, _, rfl, rfl, ?_⟩, ?_⟩ | exact ⟨.inr ⟨rfl, rfl⟩, trivial⟩ | refine ⟨.inr ⟨rfl, rfl⟩, ?_⟩ | (intro _ _) | exact vz1 | exact vz2 | fail)))
        intro c hc _
        by_cases hltc : c < (el b (1 + k)).length
        · have hv1 := isLine_at ha1 (j := c) (by omega)
          have hv0 := isLine_at ha0 (j := c) (by omega)
          (repeat' (first | (refine ar_isq ?_; first | refine zmv ?_ | refine zas ?_ | (refine is_load ?_; first | refine zlp ?_ | refine zlr ?_) | (refine is_binOp ?_; first | refine zlss ?_ | refine zneq ?_ | refine zadd ?_ | refine zsub ?_) | (refine is_fieldAddr ?_; first | refine zfp ?_ | refine zfr ?_) | (refine is_indexAddr ?_; first | refine zil ?_ | refine zis ?_ | refine zit ?_ | refine zia ?_ | refine zir ?_ | refine zil (j := c) ?_ | refine zis (j := c) ?_ | refine zit (j := c) ?_ | refine zil (j := k) ?_ | refine zis (j := k) ?_ | refine zit (j := k) ?_ | (refine zxl ?_; intro _ _ _) | (refine zxs ?_; intro _ _ _)) | (refine is_call ?_; first | refine zll ?_ | refine zls ?_ | refine zln ?_ | refine zle ?_ | refine zmin ?_)) | (refine zcl ?_) | (refine zcs ?_) | (refine zbx ?_) | (refine ar_nil ?_) | (refine aw_seq ?_) | (refine aw_skip ?_) | (refine aw_block ?_) | (refine aw_exit ?_) | (refine aw_region ?_) | (refine aw_drawn (id := 13) [(0, 0), (1, 0), (2, 0), (3, 0), (4, 0), (5, 0), (6, 0), (7, 0), (8, 0), (9, 0), (10, 0), (11, 0), (12, 0), (13, 0), (14, 0)] mixed (by kernel_rfl) ?_) | (refine zco ?_ ?_ <;> intro hg <;> first | exact absurd hg (by decide) | ((try replace hg := HG.out hg); (try dsimp only at hg); (try (have _h : True := hg; clear _h hg)); first | (exfalso; omega) | skip))))
          all_goals first
            | (exfalso; omega)
            | ((first | refine loop_next (by omega) ?_ ?_ | refine (show _ ∧ _ ∧ SubOf _ _ _ _ _ _ from And.intro (by omega) (And.intro ?_ ?_))); (focus ((trivial); done)); (focus ((refine sub_to [some 0] [] rfl ?_ ?_ <;> (repeat' (first | exact trivial | refine ⟨⟨_, rfl, ?_⟩, ?_⟩ | refine ⟨bsub_snoc rfl rfl (fun _ => rfl) ?_, ?_⟩ | refine ⟨bsub_one rfl rfl ?_, ?_⟩ | refine ⟨bsub_all rfl rfl (fun _ _ => rfl) (fun _ => rfl), ?_⟩ | refine ⟨bsub_updL rfl rfl ?_ (fun _ _ _ => rfl) (fun _ => rfl), ?_⟩ | refine ⟨.inl ⟨_, _, rfl, rfl, ?_⟩, ?_⟩ | exact ⟨.inr ⟨rfl, rfl⟩, trivial⟩ | refine ⟨.inr ⟨rfl, rfl⟩, ?_⟩ | (intro _ _) | exact vz1 | (exact siEq (gap_next rfl (by rw [e1]) rfl)) | exact vz2 | fail))); done)))
        · (repeat' (first | (refine ar_isq ?_; first | refine zmv ?_ | refine zas ?_ | (refine is_load ?_; first | refine zlp ?_ | refine zlr ?_) | (refine is_binOp ?_; first | refine zlss ?_ | refine zneq ?_ | refine zadd ?_ | refine zsub ?_) | (refine is_fieldAddr ?_; first | refine zfp ?_ | refine zfr ?_) | (refine is_indexAddr ?_; first | refine zil ?_ | refine zis ?_ | refine zit ?_ | refine zia ?_ | refine zir ?_ | (refine zxl ?_; intro _ _ _) | (refine zxs ?_; intro _ _ _)) | (refine is_call ?_; first | refine zll ?_ | refine zls ?_ | refine zln ?_ | refine zle ?_ | refine zmin ?_)) | (refine zcl ?_) | (refine zcs ?_) | (refine zbx ?_) | (refine ar_nil ?_) | (refine aw_seq ?_) | (refine aw_skip ?_) | (refine aw_block ?_) | (refine aw_exit ?_) | (refine aw_region ?_) | (refine aw_drawn (id := 13) [(0, 0), (1, 0), (2, 0), (3, 0), (4, 0), (5, 0), (6, 0), (7, 0), (8, 0), (9, 0), (10, 0), (11, 0), (12, 0), (13, 0), (14, 0)] mixed (by kernel_rfl) ?_) | (refine zco ?_ ?_ <;> intro hg <;> first | exact absurd hg (by decide) | ((try replace hg := HG.out hg); (try dsimp only at hg); (try (have _h : True := hg; clear _h hg)); first | (exfalso; omega) | skip))))
          all_goals first
            | (exfalso; omega)
            | (rw [gapTo_succ, show s.cols.toNat = c by omega]; ((first | refine loop_next (by omega) ?_ ?_ | refine (show _ ∧ _ ∧ SubOf _ _ _ _ _ _ from And.intro (by omega) (And.intro ?_ ?_))); (focus ((trivial); done)); (focus ((refine sub_to [some 0] [] rfl ?_ ?_ <;> (repeat' (first | exact trivial | refine ⟨⟨_, rfl, ?_⟩, ?_⟩ | refine ⟨bsub_snoc rfl rfl (fun _ => rfl) ?_, ?_⟩ | refine ⟨bsub_one rfl rfl ?_, ?_⟩ | refine ⟨bsub_all rfl rfl (fun _ _ => rfl) (fun _ => rfl), ?_⟩ | refine ⟨bsub_updL rfl rfl ?_ (fun _ _ _ => rfl) (fun _ => rfl), ?_⟩ | refine ⟨.inl ⟨_, _, rfl, rfl, ?_⟩, ?_⟩ | exact ⟨.inr ⟨rfl, rfl⟩, trivial⟩ | refine ⟨.inr ⟨rfl, rfl⟩, ?_⟩ | (intro _ _) | exact vz1 | exact vz2 | fail))); done))))
      · (repeat' (first | (refine ar_isq ?_; first | refine zmv ?_ | refine zas ?_ | (refine is_load ?_; first | refine zlp ?_ | refine zlr ?_) | (refine is_binOp ?_; first | refine zlss ?_ | refine zneq ?_ | refine zadd ?_ | refine zsub ?_) | (refine is_fieldAddr ?_; first | refine zfp ?_ | refine zfr ?_) | (refine is_indexAddr ?_; first | refine zil ?_ | refine zis ?_ | refine zit ?_ | refine zia ?_ | refine zir ?_ | (refine zxl ?_; intro _ _ _) | (refine zxs ?_; intro _ _ _)) | (refine is_call ?_; first | refine zll ?_ | refine zls ?_ | refine zln ?_ | refine zle ?_ | refine zmin ?_)) | (refine zcl ?_) | (refine zcs ?_) | (refine zbx ?_) | (refine ar_nil ?_) | (refine aw_seq ?_) | (refine aw_skip ?_) | (refine aw_block ?_) | (refine aw_exit ?_) | (refine aw_region ?_) | (refine aw_drawn (id := 13) [(0, 0), (1, 0), (2, 0), (3, 0), (4, 0), (5, 0), (6, 0), (7, 0), (8, 0), (9, 0), (10, 0), (11, 0), (12, 0), (13, 0), (14, 0)] mixed (by kernel_rfl) ?_) | (refine zco ?_ ?_ <;> intro hg <;> first | exact absurd hg (by decide) | ((try replace hg := HG.out hg); (try dsimp only at hg); (try (have _h : True := hg; clear _h hg)); first | (exfalso; omega) | skip))))
        all_goals first
          | (exfalso; omega)
          | ((refine aw_mono_r (env' := [(4, vi (gapTo s b k)), (5, vi 0)]) (H' := []) ?_ ?_; (focus ((refine sub_to [] [] rfl ?_ ?_ <;> (repeat' (first | exact trivial | refine ⟨⟨_, rfl, ?_⟩, ?_⟩ | refine ⟨bsub_snoc rfl rfl (fun _ => rfl) ?_, ?_⟩ | refine ⟨bsub_one rfl rfl ?_, ?_⟩ | refine ⟨bsub_all rfl rfl (fun _ _ => rfl) (fun _ => rfl), ?_⟩ | refine ⟨bsub_updL rfl rfl ?_ (fun _ _ _ => rfl) (fun _ => rfl), ?_⟩ | refine ⟨.inl ⟨_, _, rfl, rfl, ?_⟩, ?_⟩ | exact ⟨.inr ⟨rfl, rfl⟩, trivial⟩ | refine ⟨.inr ⟨rfl, rfl⟩, ?_⟩ | (intro _ _) | exact vz1 | exact vz2 | fail))); done))); (refine aw_ret ?_; (repeat (first | refine ret_then ?_ | refine ret_block ?_)); refine bq2 rfl rfl ⟨?_, rfl⟩); rw [show k = b.length - 1 by omega]; try rfl)
  · have he := gapErr_check hce
    rw [encGap, gapF_bad (by omega), he]
    refine pcalls_of_aw Try.func21 rfl (Nat.le_of_ble_eq_true rfl) ?_
    (repeat' (first | (refine ar_isq ?_; first | refine zmv ?_ | refine zas ?_ | (refine is_load ?_; first | refine zlp ?_ | refine zlr ?_) | (refine is_binOp ?_; first | refine zlss ?_ | refine zneq ?_ | refine zadd ?_ | refine zsub ?_) | (refine is_fieldAddr ?_; first | refine zfp ?_ | refine zfr ?_) | (refine is_indexAddr ?_; first | refine zil ?_ | refine zis ?_ | refine zit ?_ | refine zia ?_ | refine zir ?_ | (refine zxl ?_; intro _ _ _) | (refine zxs ?_; intro _ _ _)) | (refine is_call ?_; first | refine zll ?_ | refine zls ?_ | refine zln ?_ | refine zle ?_ | refine zmin ?_)) | (refine ar_pcall (own := false) fn53 rfl rfl (.cons (.closed rfl) (.cons (.closed rfl) .nil)) (check_p s b) (by simp) (dc rfl) ?_; intro _ hv; subst hv) | (refine zcl ?_) | (refine zcs ?_) | (refine zbx ?_) | (refine ar_nil ?_) | (refine aw_seq ?_) | (refine aw_skip ?_) | (refine aw_block ?_) | (refine aw_exit ?_) | (refine aw_region ?_) | (refine aw_drawn (id := 13) [(0, 0), (1, 0), (2, 0), (3, 0), (4, 0), (5, 0), (6, 0), (7, 0), (8, 0), (9, 0), (10, 0), (11, 0), (12, 0), (13, 0), (14, 0)] mixed (by kernel_rfl) ?_) | (refine zco ?_ ?_ <;> intro hg <;> first | exact absurd hg (by decide) | ((try replace hg := HG.out hg); (try dsimp only at hg); (try (have _h : True := hg; clear _h hg)); first | (exfalso; omega) | skip))))
    all_goals first
      | (exfalso; omega)
      | ((refine aw_ret ?_; (repeat (first | refine ret_then ?_ | refine ret_block ?_)); refine bq2 rfl rfl ⟨?_, rfl⟩); rfl)
end Go.Proofs.Ythpbjihnikapoaa
namespace Go.Proofs.Ythpbjihnikapoaa
open Go.RowKit
theorem lastErr_gap {s : Sheet} {b : List (List Int)} {per : Int} (h : gapErr s b ≠ 0) : lastErr s b per = gapErr s b := by simp [lastErr, h]
theorem lastErr_arg {s : Sheet} {b : List (List Int)} {per : Int} (h : gapErr s b = 0) (h2 : withinB per 1 1000 = false) : lastErr s b per = 2 := by simp [lastErr, h, h2]
theorem lastErr_none {s : Sheet} {b : List (List Int)} {per : Int} (h : gapErr s b = 0) (h2 : withinB per 1 1000 = true) (h3 : gapF s b = 0) : lastErr s b per = 6 := by simp [lastErr, h, h2, h3]
theorem lastErr_ok {s : Sheet} {b : List (List Int)} {per : Int} (h : gapErr s b = 0) (h2 : withinB per 1 1000 = true) (h3 : gapF s b ≠ 0) : lastErr s b per = 0 := by simp [lastErr, h, h2, h3]
theorem lastF_bad {s : Sheet} {b : List (List Int)} {per : Int} (h : lastErr s b per ≠ 0) : lastF s b per = 0 := by simp [lastF, h]
theorem lastF_ok {s : Sheet} {b : List (List Int)} {per : Int} (h : lastErr s b per = 0) : lastF s b per = (gapF s b + 1) / 2 * per - 1 := by simp [lastF, h]
def encLast (s : Sheet) (b : List (List Int)) (per : Int) : V := .tup [vi (lastF s b per), vi (lastErr s b per)]
theorem last_bnd {g p : Int} (hg : 1 ≤ g ∧ g ≤ 60) (hp : 1 ≤ p ∧ p ≤ 1000) : 1 ≤ (g + 1) / 2 * p ∧ (g + 1) / 2 * p ≤ 30000 := by
  have h1 : 1 ≤ (g + 1) / 2 ∧ (g + 1) / 2 ≤ 30 := by omega
  constructor
  · have := Int.mul_le_mul h1.1 hp.1 (by omega) (by omega)
    omega
  · have := Int.mul_le_mul h1.2 hp.2 (by omega) (by omega)
    omega
set_option maxHeartbeats 2000000 in
theorem lLasts_p (s : Sheet) (b : List (List Int)) (per : Int) : PCalls Try.prog 23 [s.enc, encRows b, vi per] (· = encLast s b per) := by
  by_cases hge : gapErr s b = 0
  · cases hp : withinB per 1 1000
    · have he := lastErr_arg hge hp
      rw [encLast, lastF_bad (by omega), he]
      refine pcalls_of_aw Try.func23 rfl (Nat.le_of_ble_eq_true rfl) ?_
      (repeat' (first | (refine ar_isq ?_; first | refine zmv ?_ | refine zas ?_ | (refine is_load ?_; first | refine zlp ?_ | refine zlr ?_) | (refine is_binOp ?_; first | refine zeql ?_ | refine zneq ?_ | refine zadd ?_ | refine zsub ?_ | refine zmul ?_ | refine zquo ?_) | refine zex ?_ | refine znt ?_) | (refine ar_pcall (own := false) fn21 rfl rfl (.cons (.closed rfl) (.cons (.closed rfl) .nil)) (lGap_p s b) (by simp) (dc rfl) ?_; intro _ hv; subst hv) | (refine ar_pcall (own := true) fn50 rfl rfl (.cons (.closed rfl) (.cons (.closed rfl) (.cons (.lent rfl rfl (by omega) (fun _ _ => rfl) (fun k hk => match k, hk with | 0, _ => rfl)) .nil))) (from1_p 1 1000 per) (by intros; subst_vars; rfl) (dc rfl) ?_; intro _ hv; subst hv) | (refine zbx ?_) | (refine zb1 ?_) | (refine zb0 ?_) | (refine ar_nil ?_) | (refine aw_seq ?_) | (refine aw_skip ?_) | (refine aw_block ?_) | (refine aw_exit ?_) | (refine aw_region ?_) | (refine zco ?_ ?_ <;> intro hg <;> first | exact absurd hg (by decide) | ((try replace hg := HG.out hg); (try dsimp only at hg); (try (have _h : True := hg; clear _h hg)); first | (exfalso; omega) | skip))))
      all_goals first
        | (exfalso; simp_all; done)
        | ((refine aw_ret ?_; (repeat (first | refine ret_then ?_ | refine ret_block ?_)); refine bq2 rfl rfl ⟨?_, rfl⟩); rfl)
    · obtain ⟨hce, h2, hg0, hg60⟩ := gap_ok hge
      have hpb := withinB_iff.1 hp
      by_cases hz : gapF s b = 0
      · have he := lastErr_none hge hp hz
        rw [encLast, lastF_bad (by omega), he]
        refine pcalls_of_aw Try.func23 rfl (Nat.le_of_ble_eq_true rfl) ?_
        (repeat' (first | (refine ar_isq ?_; first | refine zmv ?_ | refine zas ?_ | (refine is_load ?_; first | refine zlp ?_ | refine zlr ?_) | (refine is_binOp ?_; first | refine zeql ?_ | refine zneq ?_ | refine zadd ?_ | refine zsub ?_ | refine zmul ?_ | refine zquo ?_) | refine zex ?_ | refine znt ?_) | (refine ar_pcall (own := false) fn21 rfl rfl (.cons (.closed rfl) (.cons (.closed rfl) .nil)) (lGap_p s b) (by simp) (dc rfl) ?_; intro _ hv; subst hv) | (refine ar_pcall (own := true) fn50 rfl rfl (.cons (.closed rfl) (.cons (.closed rfl) (.cons (.lent rfl rfl (by omega) (fun _ _ => rfl) (fun k hk => match k, hk with | 0, _ => rfl)) .nil))) (from1_p 1 1000 per) (by intros; subst_vars; rfl) (dc rfl) ?_; intro _ hv; subst hv) | (refine zbx ?_) | (refine zb1 ?_) | (refine zb0 ?_) | (refine ar_nil ?_) | (refine aw_seq ?_) | (refine aw_skip ?_) | (refine aw_block ?_) | (refine aw_exit ?_) | (refine aw_region ?_) | (refine zco ?_ ?_ <;> intro hg <;> first | exact absurd hg (by decide) | ((try replace hg := HG.out hg); (try dsimp only at hg); (try (have _h : True := hg; clear _h hg)); first | (exfalso; omega) | skip))))
        all_goals first
          | (exfalso; simp_all; done)
          | ((refine aw_ret ?_; (repeat (first | refine ret_then ?_ | refine ret_block ?_)); refine bq2 rfl rfl ⟨?_, rfl⟩); rfl)
      · have he := lastErr_ok hge hp hz
        rw [encLast, lastF_ok he, he]
        have hlb := last_bnd (g := gapF s b) (p := per) (by omega) hpb
        refine pcalls_of_aw Try.func23 rfl (Nat.le_of_ble_eq_true rfl) ?_
        (repeat' (first | (refine ar_isq ?_; first | refine zmv ?_ | refine zas ?_ | (refine is_load ?_; first | refine zlp ?_ | refine zlr ?_) | (refine is_binOp ?_; first | refine zeql ?_ | refine zneq ?_ | refine zadd ?_ | refine zsub ?_ | refine zmul ?_ | refine zquo ?_) | refine zex ?_ | refine znt ?_) | (refine ar_pcall (own := false) fn21 rfl rfl (.cons (.closed rfl) (.cons (.closed rfl) .nil)) (lGap_p s b) (by simp) (dc rfl) ?_; intro _ hv; subst hv) | (refine ar_pcall (own := true) fn50 rfl rfl (.cons (.closed rfl) (.cons (.closed rfl) (.cons (.lent rfl rfl (by omega) (fun _ _ => rfl) (fun k hk => match k, hk with | 0, _ => rfl)) .nil))) (from1_p 1 1000 per) (by intros; subst_vars; rfl) (dc rfl) ?_; intro _ hv; subst hv) | (refine zbx ?_) | (refine zb1 ?_) | (refine zb0 ?_) | (refine ar_nil ?_) | (refine aw_seq ?_) | (refine aw_skip ?_) | (refine aw_block ?_) | (refine aw_exit ?_) | (refine aw_region ?_) | (refine zco ?_ ?_ <;> intro hg <;> first | exact absurd hg (by decide) | ((try replace hg := HG.out hg); (try dsimp only at hg); (try (have _h : True := hg; clear _h hg)); first | (exfalso; omega) | skip))))
        all_goals first
          | (exfalso; simp_all; done)
          | ((refine aw_ret ?_; (repeat (first | refine ret_then ?_ | refine ret_block ?_)); refine bq2 rfl rfl ⟨?_, rfl⟩); rfl)
  · have he := lastErr_gap (per := per) hge
    rw [encLast, lastF_bad (by omega), he]
    refine pcalls_of_aw Try.func23 rfl (Nat.le_of_ble_eq_true rfl) ?_
    (repeat' (first | (refine ar_isq ?_; first | refine zmv ?_ | refine zas ?_ | (refine is_load ?_; first | refine zlp ?_ | refine zlr ?_) | (refine is_binOp ?_; first | refine zeql ?_ | refine zneq ?_ | refine zadd ?_ | refine zsub ?_ | refine zmul ?_ | refine zquo ?_) | refine zex ?_ | refine znt ?_) | (refine ar_pcall (own := false) fn21 rfl rfl (.cons (.closed rfl) (.cons (.closed rfl) .nil)) (lGap_p s b) (by simp) (dc rfl) ?_; intro _ hv; subst hv) | (refine zbx ?_) | (refine zb1 ?_) | (refine zb0 ?_) | (refine ar_nil ?_) | (refine aw_seq ?_) | (refine aw_skip ?_) | (refine aw_block ?_) | (refine aw_exit ?_) | (refine aw_region ?_) | (refine zco ?_ ?_ <;> intro hg <;> first | exact absurd hg (by decide) | ((try replace hg := HG.out hg); (try dsimp only at hg); (try (have _h : True := hg; clear _h hg)); first | (exfalso; omega) | skip))))
    all_goals first
      | (exfalso; omega)
      | ((refine aw_ret ?_; (repeat (first | refine ret_then ?_ | refine ret_block ?_)); refine bq2 rfl rfl ⟨?_, rfl⟩); rfl)
end Go.Proofs.Ythpbjihnikapoaa
namespace Go.Proofs.Ythpbjihnikapoaa
open Go.RowKit
set_option maxHeartbeats 1000000 in
theorem sameInts8_p (l : List Int) : PCalls Try.prog 33 [encInts l, encInts l] (· = vb true) := by
  (refine pcalls_know (fun I us h => rel_len (rel_arg h (j := 0) rfl)) fun hlen0 => ?_)
  refine pcalls_of_aw Try.func33 rfl (Nat.le_of_ble_eq_true rfl) ?_
  (repeat' (first | (refine ar_isq ?_; first | refine zmv ?_ | refine zas ?_ | (refine is_load ?_; first | refine zlp ?_ | refine zlr ?_) | (refine is_binOp ?_; first | refine zlss ?_ | refine zneq ?_ | refine zadd ?_) | (refine is_indexAddr ?_; first | refine zil ?_ | refine zis ?_ | refine zit ?_ | refine zia ?_ | refine zir ?_ | (refine zxl ?_; intro _ _ _) | (refine zxs ?_; intro _ _ _)) | (refine is_call ?_; first | refine zll ?_ | refine zls ?_ | refine zln ?_ | refine zle ?_)) | (refine ar_nil ?_) | (refine aw_seq ?_) | (refine aw_skip ?_) | (refine aw_block ?_) | (refine aw_exit ?_) | (refine aw_region ?_) | (refine aw_drawn (id := 6) [(0, 0), (1, 0), (2, 0), (3, 0), (4, 0), (5, 0), (6, 0), (7, 0), (8, 0)] mixed (by kernel_rfl) ?_) | (refine zco ?_ ?_ <;> intro hg <;> first | exact absurd hg (by decide) | ((try replace hg := HG.out hg); (try dsimp only at hg); (try (have _h : True := hg; clear _h hg)); first | (exfalso; omega) | skip))))
  refine aw_for l.length (fun _ => True) (fun k => [(0, encInts l), (1, encInts l), (5, vi k)]) (fun _ => []) trivial ?_ ?_
  · (refine sub_to [] [] rfl ?_ ?_ <;> (repeat' (first | exact trivial | refine ⟨⟨_, rfl, ?_⟩, ?_⟩ | refine ⟨bsub_snoc rfl rfl (fun _ => rfl) ?_, ?_⟩ | refine ⟨bsub_one rfl rfl ?_, ?_⟩ | refine ⟨bsub_all rfl rfl (fun _ _ => rfl) (fun _ => rfl), ?_⟩ | refine ⟨bsub_updL rfl rfl ?_ (fun _ _ _ => rfl) (fun _ => rfl), ?_⟩ | refine ⟨.inl ⟨_, _, rfl, rfl, ?_⟩, ?_⟩ | exact ⟨.inr ⟨rfl, rfl⟩, trivial⟩ | refine ⟨.inr ⟨rfl, rfl⟩, ?_⟩ | (intro _ _) | exact vz1 | exact vz2 | fail)))
  intro k hk _
  by_cases hlt : k < l.length
  · (repeat' (first | (refine ar_isq ?_; first | refine zmv ?_ | refine zas ?_ | (refine is_load ?_; first | refine zlp ?_ | refine zlr ?_) | (refine is_binOp ?_; first | refine zlss ?_ | refine zneq ?_ | refine zadd ?_) | (refine is_indexAddr ?_; first | refine zil ?_ | refine zis ?_ | refine zit ?_ | refine zia ?_ | refine zir ?_ | (refine zxl ?_; intro _ _ _) | (refine zxs ?_; intro _ _ _)) | (refine is_call ?_; first | refine zll ?_ | refine zls ?_ | refine zln ?_ | refine zle ?_)) | (refine ar_nil ?_) | (refine aw_seq ?_) | (refine aw_skip ?_) | (refine aw_block ?_) | (refine aw_exit ?_) | (refine aw_region ?_) | (refine aw_drawn (id := 6) [(0, 0), (1, 0), (2, 0), (3, 0), (4, 0), (5, 0), (6, 0), (7, 0), (8, 0)] mixed (by kernel_rfl) ?_) | (refine zco ?_ ?_ <;> intro hg <;> first | exact absurd hg (by decide) | ((try replace hg := HG.out hg); (try dsimp only at hg); (try (have _h : True := hg; clear _h hg)); first | (exfalso; omega) | skip))))
    all_goals first
      | (exfalso; omega)
      | ((first | refine loop_next (by omega) ?_ ?_ | refine (show _ ∧ _ ∧ SubOf _ _ _ _ _ _ from And.intro (by omega) (And.intro ?_ ?_))); (focus ((trivial); done)); (focus ((refine sub_to [] [] rfl ?_ ?_ <;> (repeat' (first | exact trivial | refine ⟨⟨_, rfl, ?_⟩, ?_⟩ | refine ⟨bsub_snoc rfl rfl (fun _ => rfl) ?_, ?_⟩ | refine ⟨bsub_one rfl rfl ?_, ?_⟩ | refine ⟨bsub_all rfl rfl (fun _ _ => rfl) (fun _ => rfl), ?_⟩ | refine ⟨bsub_updL rfl rfl ?_ (fun _ _ _ => rfl) (fun _ => rfl), ?_⟩ | refine ⟨.inl ⟨_, _, rfl, rfl, ?_⟩, ?_⟩ | exact ⟨.inr ⟨rfl, rfl⟩, trivial⟩ | refine ⟨.inr ⟨rfl, rfl⟩, ?_⟩ | (intro _ _) | exact vz1 | exact vz2 | fail))); done)))
      | ((refine aw_ret ?_; (repeat (first | refine ret_then ?_ | refine ret_block ?_)); refine bq1 rfl ⟨?_, rfl⟩); rfl)
  · (repeat' (first | (refine ar_isq ?_; first | refine zmv ?_ | refine zas ?_ | (refine is_load ?_; first | refine zlp ?_ | refine zlr ?_) | (refine is_binOp ?_; first | refine zlss ?_ | refine zneq ?_ | refine zadd ?_) | (refine is_indexAddr ?_; first | refine zil ?_ | refine zis ?_ | refine zit ?_ | refine zia ?_ | refine zir ?_ | (refine zxl ?_; intro _ _ _) | (refine zxs ?_; intro _ _ _)) | (refine is_call ?_; first | refine zll ?_ | refine zls ?_ | refine zln ?_ | refine zle ?_)) | (refine ar_nil ?_) | (refine aw_seq ?_) | (refine aw_skip ?_) | (refine aw_block ?_) | (refine aw_exit ?_) | (refine aw_region ?_) | (refine aw_drawn (id := 6) [(0, 0), (1, 0), (2, 0), (3, 0), (4, 0), (5, 0), (6, 0), (7, 0), (8, 0)] mixed (by kernel_rfl) ?_) | (refine zco ?_ ?_ <;> intro hg <;> first | exact absurd hg (by decide) | ((try replace hg := HG.out hg); (try dsimp only at hg); (try (have _h : True := hg; clear _h hg)); first | (exfalso; omega) | skip))))
    all_goals first
      | (exfalso; omega)
      | ((refine aw_ret ?_; (repeat (first | refine ret_then ?_ | refine ret_block ?_)); refine bq1 rfl ⟨?_, rfl⟩); rfl)
end Go.Proofs.Ythpbjihnikapoaa
namespace Go.Proofs.Ythpbjihnikapoaa
open Go.RowKit
def exBook : List Deed := [⟨1, 0, 0, 0⟩, ⟨3, 0, 1, 0⟩, ⟨2, 0, 0, 0⟩, ⟨2, 1, 0, 0⟩, ⟨3, 2, 2, 0⟩, ⟨4, 2, 0, 2⟩]
def exItems : List Itm := [⟨1, -1, 1, 1, false⟩, ⟨2, 0, 1, 1, false⟩, ⟨3, 1, 2, 2, false⟩]
def exPrints : List Prt := [⟨2, 0⟩, ⟨2, 0⟩]
def exWant : Sto := ⟨3, exItems, exPrints⟩
theorem ex_errs : ∀ j, j < 6 → errAt 3 exBook j = 0 := by decide +kernel
theorem ex_sto : stoAt 3 exBook 6 = exWant := by kernel_rfl
theorem ex_u8 : ∀ j, j < exBook.length → u8ok (el exBook j).kind := by
  intro j hj
  match j, hj with
  | 0, _ | 1, _ | 2, _ | 3, _ | 4, _ | 5, _ => exact ⟨by decide, by decide⟩
theorem ex_playX : playX 3 exBook = (0, 0) := playX_ok (by decide) (by decide) ex_errs
theorem ex_playF : playF 3 exBook = exWant := (playF_ok (by rw [ex_playX])).trans ex_sto
theorem ex_valid : Valid exWant := by have h := playX_sto ex_playX; rwa [show stoAt 3 exBook exBook.length = exWant from ex_sto] at h
theorem exPlay_p : PCalls Try.prog 40 [vi 3, encDeeds exBook] (· = .tup [exWant.enc, vi 0, vi 0]) := (pPlay_p 3 exBook ex_u8).mono fun v h => by rw [h, ex_playF, ex_playX]
def exOut : List Int := [-1, -1, -1, 1, 2, 2]
theorem ex_whereE : whereE 3 exBook 2 = 0 := whereE_ok (by rw [ex_playX]) (by rw [show stoAt 3 exBook exBook.length = exWant from ex_sto]; decide)
theorem exWhere_p : PCalls Try.prog 42 [vi 3, encDeeds exBook, vi 2] (· = .tup [encInts exOut, vi 0]) := (pWhere_p 3 exBook 2 ex_u8).mono fun v h => by
  rw [h, whereF_ok ex_whereE, ex_whereE, show outTo 3 exBook 2 exBook.length = exOut by decide +kernel]
def exMarks : List Mk := [⟨0, 0⟩, ⟨10, 0⟩]
def exSeen : List Mk := [⟨3, 1⟩, ⟨14, 2⟩]
theorem exRegister_p : PCalls Try.prog 16 [encMarks exMarks, encMarks exSeen, vi 1] (· = .tup [Bx.enc ⟨-4, -2, -3, -1⟩, vi 0]) := (pRegister_p exMarks exSeen 1).mono fun v h => by
  rw [h, show regE exMarks exSeen 1 = 0 by decide +kernel, show regF exMarks exSeen 1 = ⟨-4, -2, -3, -1⟩ by kernel_rfl]
def exSheet : Sheet := ⟨1, 9, 1, 0, 0⟩
def exBand : List (List Int) := [[0], [4]]
theorem exLasts_p : PCalls Try.prog 23 [exSheet.enc, encRows exBand, vi 100] (· = .tup [vi 199, vi 0]) := (lLasts_p exSheet exBand 100).mono fun v h => by
  rw [h]; unfold encLast; rw [show lastF exSheet exBand 100 = 199 by decide +kernel, show lastErr exSheet exBand 100 = 0 by decide +kernel]
theorem exLine_p : PCalls Try.prog 29 [exWant.enc, vi 2] (· = .tup [encInts [0, 1, 2], vi 0]) := (pLine_p exWant 2).mono fun v h => by
  have he := lineE_ok (i := 2) ex_valid (by decide)
  rw [h, lineF_ok he, he, show lineTo exWant.items 2 (lineN exWant.items 2) = [0, 1, 2] by decide +kernel]
theorem book_p : PCalls Try.prog 48 [] (· = encDeeds exBook) := by
  refine pcalls_of_aw Try.func48 rfl (Nat.le_of_ble_eq_true rfl) ?_
  (repeat' (first | (refine ar_isq ?_; first | refine zas ?_ | (refine ar_buildT ?_ (by exact ty rfl) (by exact rfl) (by exact sizes rfl) (by exact rfl) (by exact rfl) (by exact build rfl) (by exact dc rfl); intro _ hds; (try dsimp only [List.toList_toArray, cells_s, cells_emp, cells_agg, cells_list, cells_sl, cells_ptr, cells_ref, cells_fn, cells_vi, cells_vb, cells_vnil, constV, List.map_cons, List.map_nil, List.take_succ_cons, List.take_zero, List.drop_succ_cons, List.drop_zero, List.cons_append, List.nil_append, List.append_nil, LV_cells] at hds); (try dsimp only [cells_s, cells_emp, cells_agg, cells_list, cells_sl, cells_ptr, cells_ref, cells_fn, cells_vi, cells_vb, cells_vnil, constV, List.map_cons, List.map_nil, List.take_succ_cons, List.take_zero, List.drop_succ_cons, List.drop_zero, List.cons_append, List.nil_append, List.append_nil, LV_cells] at hds); subst hds)) | (refine ar_buildLE Deed.enc (exBook) (by exact ty rfl) (by exact rfl) (by exact ty rfl) (by exact rfl) (by exact rfl) (by exact Nat.succ_pos _) (by exact rfl) (by exact dc rfl) (by exact rfl) (by exact fun _ => ⟨rfl, rfl⟩) (by exact dc rfl) ?_) | (refine zb1 ?_) | (refine zb0 ?_) | (refine ar_nil ?_) | (refine aw_seq ?_) | (refine aw_skip ?_) | (refine aw_block ?_) | (refine aw_exit ?_) | (refine aw_region ?_) | (refine zco ?_ ?_ <;> intro hg <;> first | exact absurd hg (by decide) | ((try replace hg := HG.out hg); (try dsimp only at hg); (try (have _h : True := hg; clear _h hg)); first | (exfalso; omega) | skip))))
  (refine aw_mono_r (env' := [(0, encDeeds exBook)]) (H' := []) ?_ ?_; (focus ((refine sub_to [] [0] rfl ?_ ?_ <;> (repeat' (first | exact trivial | refine ⟨⟨_, rfl, ?_⟩, ?_⟩ | refine ⟨bsub_snoc rfl rfl (fun _ => rfl) ?_, ?_⟩ | refine ⟨bsub_one rfl rfl ?_, ?_⟩ | refine ⟨bsub_all rfl rfl (fun _ _ => rfl) (fun _ => rfl), ?_⟩ | refine ⟨bsub_updL rfl rfl ?_ (fun _ _ _ => rfl) (fun _ => rfl), ?_⟩ | refine ⟨.inl ⟨_, _, rfl, rfl, ?_⟩, ?_⟩ | exact ⟨.inr ⟨rfl, rfl⟩, trivial⟩ | refine ⟨.inr ⟨rfl, rfl⟩, ?_⟩ | (intro _ _) | exact vz1 | exact vz2 | fail))); done)))
  (refine aw_ret ?_; (repeat (first | refine ret_then ?_ | refine ret_block ?_)); refine bq1 rfl ⟨?_, rfl⟩)
  rfl
end Go.Proofs.Ythpbjihnikapoaa
namespace Go.Proofs.Ythpbjihnikapoaa
open Go.RowKit
section
variable {P : Program} {nt : Nat} {env : Env} {H : Heap} {dst : Option Tmp} {ty T T' : TypeId} {pos : String} {after : Array Edge} {guard : Option (Nat × Bool)} {x y : Operand} {d : TyD}
inductive EqN (P : Program) (cs ds : List V) : List (TypeId × Nat × Bool) → Bool → Prop
  | nil : EqN P cs ds [] true
  | sub {T o l r d cs' ds' l' r'} (ht : TyIs P T d) (hS : SeqOk P T l') (h1 : partV d.tk.agg cs o d.size = some (.agg cs')) (h2 : partV d.tk.agg ds o d.size = some (.agg ds')) (hq : EqOk P cs' ds' l' r') (h : EqN P cs ds l r) : EqN P cs ds ((T, o, false) :: l) (r' && r)
theorem eqFieldsN_run {I : Imm} {ρ : List (Option (Nat × Nat))} {cs ds : List V} {us vs : Array Value} (h1 : us.size = cs.length) (hr : ∀ (j : Nat) x u, cs[j]? = some x → us[j]? = some u → VRel I ρ x u) (h2 : vs.size = ds.length) (hr2 : ∀ (j : Nat) x u, ds[j]? = some x → vs[j]? = some u → VRel I ρ x u) (e : Nat) (w : World) :
    ∀ {fs : List Field} {l : List (TypeId × Nat × Bool)} {r : Bool}, fs.map (fun f => (f.type, f.offset, f.name == "_")) = l → EqN P cs ds l r → (Op.eqFields (e + 2) us vs fs).run P w = .ok r w
  | [], _, _, rfl, .nil => by simp [Op.eqFields]
  | f :: fs, l, r, hm, hq => by
    simp only [List.map_cons] at hm
    cases hq with
    | nil => cases hm
    | sub ht hS a1 a2 hq' hq =>
      simp only [List.cons.injEq, Prod.mk.injEq] at hm
      obtain ⟨⟨rfl, rfl, hn⟩, hm⟩ := hm
      have ih := eqFieldsN_run h1 hr h2 hr2 e w hm hq
      obtain ⟨u1, b1, p1⟩ := part_run (I := I) (ρ := ρ) ht h1 hr a1
      obtain ⟨u2, b2, p2⟩ := part_run (I := I) (ρ := ρ) ht h2 hr2 a2
      obtain ⟨us', rfl, c1, c2⟩ := agg_inv b1
      obtain ⟨vs', rfl, d1, d2⟩ := agg_inv b2
      have hn' : f.name ≠ "_" := by simpa using hn
      simp only [Op.eqFields, hn', ne_eq, not_false_eq_true, if_true, Sem.run_bind, p1 w, p2 w, Result.andThen_ok, run_equalIn_struct w (e + 1) _ us' vs' hS.und hS.stood, eqFields_run c1 c2 d1 d2 e w hS.fields hq']
      rename_i _ r'
      cases r'
      · simp
      · simpa using ih
theorem qs_seqN {cs ds : List V} {l : List (TypeId × Nat × Bool)} {r : Bool} (hS : SeqOk P T l) (hx : eo env x = some (.agg cs)) (hy : eo env y = some (.agg ds)) (hq : EqN P cs ds l r) :
    QS P nt env H ⟨dst, .binOp .eql T x y T', ty, pos, after, guard⟩ (.s (.bool r)) := .mk
  fun _ I ρ a w h hw => by
    obtain ⟨us, e1, h1, hr⟩ := agg_inv (eo_rel h hx)
    obtain ⟨vs, e2, h2, hr2⟩ := agg_inv (eo_rel h hy)
    exact ⟨_, .s _, fun w' _ => by
      simp only [execOp, e1, e2, Sem.run_bind, run_eqGuard_agg w' _ T x y us vs hS.guard, Result.andThen_ok, run_eql_struct, run_equalIn_struct w' 9999 T us vs hS.und hS.stood, eqFieldsN_run h1 hr h2 hr2 9997 w' hS.fields hq]
      rfl⟩
end
end Go.Proofs.Ythpbjihnikapoaa
namespace Go.Proofs.Ythpbjihnikapoaa
open Go.RowKit
theorem exSame_p : PCalls Try.prog 39 [exWant.enc, exWant.enc] (· = vb true) := sameStore_p exWant
theorem sqBox : SeqOk Try.prog 26 [(24, 0, false), (24, 2, false)] := ⟨by kernel_rfl, by kernel_rfl, by kernel_rfl, by kernel_rfl⟩
set_option maxHeartbeats 2000000 in
theorem alive_p : PCalls Try.prog 44 [] (· = vb true) := by
  refine pcalls_of_aw Try.func44 rfl (Nat.le_of_ble_eq_true rfl) ?_
  (repeat' (first | (refine ar_isq ?_; first | refine zmv ?_ | refine zas ?_ | (refine is_load ?_; first | refine zlp ?_ | refine zlr ?_) | (refine is_binOp ?_; first | refine zeql ?_ | refine ar_q (qs_seq (seq rfl) rfl rfl (.int (ty rfl) rfl rfl rfl rfl (.int (ty rfl) rfl rfl rfl rfl .nil))) (dc rfl) ?_ | refine ar_q (qs_seq (seq rfl) rfl rfl (.int (ty rfl) rfl rfl rfl rfl (.int (ty rfl) rfl rfl rfl rfl (.int (ty rfl) rfl rfl rfl rfl .nil)))) (dc rfl) ?_ | refine ar_q (qs_seq (seq rfl) rfl rfl (.int (ty rfl) rfl rfl rfl rfl (.int (ty rfl) rfl rfl rfl rfl (.int (ty rfl) rfl rfl rfl rfl (.int (ty rfl) rfl rfl rfl rfl .nil))))) (dc rfl) ?_ | refine ar_q (qs_seq (seq rfl) rfl rfl (.int (ty rfl) rfl rfl rfl rfl (.int (ty rfl) rfl rfl rfl rfl (.int (ty rfl) rfl rfl rfl rfl (.int (ty rfl) rfl rfl rfl rfl (.int (ty rfl) rfl rfl rfl rfl .nil)))))) (dc rfl) ?_) | (refine is_pick ?_; first | refine zpt ?_ | refine zpf ?_) | refine zex ?_ | (refine ar_buildT ?_ (by exact ty rfl) (by exact rfl) (by exact sizes rfl) (by exact rfl) (by exact rfl) (by exact build rfl) (by exact dc rfl); intro _ hds; (try dsimp only [List.toList_toArray, cells_s, cells_emp, cells_agg, cells_list, cells_sl, cells_ptr, cells_ref, cells_fn, cells_vi, cells_vb, cells_vnil, constV, List.map_cons, List.map_nil, List.take_succ_cons, List.take_zero, List.drop_succ_cons, List.drop_zero, List.cons_append, List.nil_append, List.append_nil, LV_cells] at hds); (try dsimp only [cells_s, cells_emp, cells_agg, cells_list, cells_sl, cells_ptr, cells_ref, cells_fn, cells_vi, cells_vb, cells_vnil, constV, List.map_cons, List.map_nil, List.take_succ_cons, List.take_zero, List.drop_succ_cons, List.drop_zero, List.cons_append, List.nil_append, List.append_nil, LV_cells] at hds); subst hds)) | (refine ar_pcall (own := false) fn48 rfl rfl .nil (book_p) (by simp) (dc rfl) ?_; intro _ hv; subst hv) | (refine ar_pcall (own := false) fn40 rfl rfl (.cons (.closed rfl) (.cons (.ext (fun _ _ => rfl)) .nil)) (exPlay_p) (by simp) (dc rfl) ?_; intro _ hv; subst hv) | (refine ar_buildLE Itm.enc (exItems) (by exact ty rfl) (by exact rfl) (by exact ty rfl) (by exact rfl) (by exact rfl) (by exact Nat.succ_pos _) (by exact rfl) (by exact dc rfl) (by exact rfl) (by exact fun _ => ⟨rfl, rfl⟩) (by exact dc rfl) ?_) | (((refine ar_subk_l (sub_frzL (t := 22) Itm.enc (exItems) rfl rfl rfl rfl (fun _ _ => rfl) (fun _ => rfl)) ?_); refine ar_buildLE Prt.enc (exPrints) (by exact ty rfl) (by exact rfl) (by exact ty rfl) (by exact rfl) (by exact rfl) (by exact Nat.succ_pos _) (by exact rfl) (by exact dc rfl) (by exact rfl) (by exact fun _ => ⟨rfl, rfl⟩) (by exact dc rfl) ?_)) | (((refine ar_sub_l (env' := [(1, .ptr 3 0 0 0), (2, vi 0), (3, vi 0), (26, exWant.enc)]) (H' := [.arr 3 1 (fun _ => exWant.enc)]) ?_ ?_; (focus ((refine sub_to [some 0] [2] rfl ?_ ?_ <;> (repeat' (first | exact trivial | refine ⟨⟨_, rfl, ?_⟩, ?_⟩ | refine ⟨bsub_snoc rfl rfl (fun _ => rfl) ?_, ?_⟩ | refine ⟨bsub_one rfl rfl ?_, ?_⟩ | refine ⟨bsub_all rfl rfl (fun _ _ => rfl) (fun _ => rfl), ?_⟩ | refine ⟨bsub_updL rfl rfl ?_ (fun _ _ _ => rfl) (fun _ => rfl), ?_⟩ | refine ⟨.inl ⟨_, _, rfl, rfl, ?_⟩, ?_⟩ | exact ⟨.inr ⟨rfl, rfl⟩, trivial⟩ | refine ⟨.inr ⟨rfl, rfl⟩, ?_⟩ | (intro _ _) | exact vz1 | (exact VSub.aggL ⟨.closed rfl, .closed rfl, frzLB (by first | exact List.elem_iff.1 rfl | (simp; done)) rfl (fun _ => rfl) rfl, trivial⟩) | exact vz2 | fail))); done))); refine zal (T := 54) ?_)) | (refine ar_pcall (own := false) fn42 rfl rfl (.cons (.closed rfl) (.cons (.ext (fun _ _ => rfl)) (.cons (.closed rfl) .nil))) (exWhere_p) (by simp) (dc rfl) ?_; intro _ hv; subst hv) | (refine ar_buildLE Mk.enc (exMarks) (by exact ty rfl) (by exact rfl) (by exact ty rfl) (by exact rfl) (by exact rfl) (by exact Nat.succ_pos _) (by exact rfl) (by exact dc rfl) (by exact rfl) (by exact fun _ => ⟨rfl, rfl⟩) (by exact dc rfl) ?_) | (((refine ar_subk_l (sub_frzL (t := 35) Mk.enc (exMarks) rfl rfl rfl rfl (fun _ _ => rfl) (fun _ => rfl)) ?_); refine ar_buildLE Mk.enc (exSeen) (by exact ty rfl) (by exact rfl) (by exact ty rfl) (by exact rfl) (by exact rfl) (by exact Nat.succ_pos _) (by exact rfl) (by exact dc rfl) (by exact rfl) (by exact fun _ => ⟨rfl, rfl⟩) (by exact dc rfl) ?_)) | (((refine ar_subk_l (sub_frzL (t := 38) Mk.enc (exSeen) rfl rfl rfl rfl (fun _ _ => rfl) (fun _ => rfl)) ?_); refine ar_pcall (own := false) fn16 rfl rfl (.cons (.closed rfl) (.cons (.closed rfl) (.cons (.closed rfl) .nil))) (exRegister_p) (by simp) (dc rfl) ?_; intro _ hv; subst hv)) | (refine ar_buildLE vi ([0]) (by exact ty rfl) (by exact rfl) (by exact ty rfl) (by exact rfl) (by exact rfl) (by exact Nat.succ_pos _) (by exact rfl) (by exact dc rfl) (by exact rfl) (by exact fun _ => ⟨rfl, rfl⟩) (by exact dc rfl) ?_) | (((refine ar_subk_l (sub_frzL (t := 44) vi ([0]) rfl rfl rfl rfl (fun _ _ => rfl) (fun _ => rfl)) ?_); refine ar_buildLE vi ([4]) (by exact ty rfl) (by exact rfl) (by exact ty rfl) (by exact rfl) (by exact rfl) (by exact Nat.succ_pos _) (by exact rfl) (by exact dc rfl) (by exact rfl) (by exact fun _ => ⟨rfl, rfl⟩) (by exact dc rfl) ?_)) | (((refine ar_subk_l (sub_frzL (t := 45) vi ([4]) rfl rfl rfl rfl (fun _ _ => rfl) (fun _ => rfl)) ?_); refine ar_buildLE encInts (exBand) (by exact ty rfl) (by exact rfl) (by exact ty rfl) (by exact rfl) (by exact rfl) (by exact Nat.succ_pos _) (by exact rfl) (by exact dc rfl) (by exact rfl) (by exact fun _ => ⟨rfl, rfl⟩) (by exact dc rfl) ?_)) | (((refine ar_subk_l (sub_frzL (t := 46) encInts (exBand) rfl rfl rfl rfl (fun _ _ => rfl) (fun _ => rfl)) ?_); refine ar_pcall (own := false) fn23 rfl rfl (.cons (.closed rfl) (.cons (.closed rfl) (.cons (.closed rfl) .nil))) (exLasts_p) (by simp) (dc rfl) ?_; intro _ hv; subst hv)) | (refine ar_pcall (own := false) fn29 rfl rfl (.cons (.closed rfl) (.cons (.closed rfl) .nil)) (exLine_p) (by simp) (dc rfl) ?_; intro _ hv; subst hv) | (refine ar_pcall (own := false) fn39 rfl rfl (.cons (.closed rfl) (.cons (.closed rfl) .nil)) (exSame_p) (by simp) (dc rfl) ?_; intro _ hv; subst hv) | (refine ar_buildLE vi (exOut) (by exact ty rfl) (by exact rfl) (by exact ty rfl) (by exact rfl) (by exact rfl) (by exact Nat.succ_pos _) (by exact rfl) (by exact dc rfl) (by exact rfl) (by exact fun _ => ⟨rfl, rfl⟩) (by exact dc rfl) ?_) | (((refine ar_subk_l (sub_frzL (t := 72) vi (exOut) rfl rfl rfl rfl (fun _ _ => rfl) (fun _ => rfl)) ?_); refine ar_pcall (own := false) fn33 rfl rfl (.cons (.closed rfl) (.cons (.closed rfl) .nil)) (sameInts8_p exOut) (by simp) (dc rfl) ?_; intro _ hv; subst hv)) | (refine ar_q (qs_seqN sqBox rfl rfl (.sub (ty rfl) (seq rfl) rfl rfl (.int (ty rfl) rfl rfl rfl rfl (.int (ty rfl) rfl rfl rfl rfl .nil)) (.sub (ty rfl) (seq rfl) rfl rfl (.int (ty rfl) rfl rfl rfl rfl (.int (ty rfl) rfl rfl rfl rfl .nil)) .nil))) (dc rfl) ?_) | (refine ar_buildLE vi ([0, 1, 2]) (by exact ty rfl) (by exact rfl) (by exact ty rfl) (by exact rfl) (by exact rfl) (by exact Nat.succ_pos _) (by exact rfl) (by exact dc rfl) (by exact rfl) (by exact fun _ => ⟨rfl, rfl⟩) (by exact dc rfl) ?_) | (((refine ar_subk_l (sub_frzL (t := 100) vi ([0, 1, 2]) rfl rfl rfl rfl (fun _ _ => rfl) (fun _ => rfl)) ?_); refine ar_pcall (own := false) fn33 rfl rfl (.cons (.closed rfl) (.cons (.closed rfl) .nil)) (sameInts8_p [0, 1, 2]) (by simp) (dc rfl) ?_; intro _ hv; subst hv)) | (refine zal ?_) | (refine zb1 ?_) | (refine zb0 ?_) | (refine zsvs ?_) | (refine zsva ?_) | (refine zses ?_) | (refine zsea ?_) | (refine zg ?_ ?_ <;> intro hg <;> first | exact absurd hg (by decide) | ((try replace hg := HG.out hg); (try dsimp only at hg); (try (have _h : True := hg; clear _h hg)); first | (exfalso; omega) | skip)) | (refine zgu ?_) | (refine ar_nil ?_) | (refine aw_seq ?_) | (refine aw_skip ?_) | (refine aw_block ?_) | (refine aw_exit ?_) | (refine aw_region ?_) | (refine zco ?_ ?_ <;> intro hg <;> first | exact absurd hg (by decide) | ((try replace hg := HG.out hg); (try dsimp only at hg); (try (have _h : True := hg; clear _h hg)); first | (exfalso; omega) | skip))))
  all_goals first
    | ((refine aw_ret ?_; (repeat (first | refine ret_then ?_ | refine ret_block ?_)); refine bq1 rfl ⟨?_, rfl⟩); rfl)
    | trace_state
end Go.Proofs.Ythpbjihnikapoaa
namespace Go.Proofs.Ythpbjihnikapoaa
open Go.RowKit
section
variable {s : Sheet} {b : List (List Int)}
theorem proofB_iff {g : Int} {r c : Nat} : proofB s b g false r c = true ↔ ∃ l, l ∈ b ∧ el l c - g ≤ (r : Int) ∧ (r : Int) ≤ el l c + s.weight - 1 + g := by
  unfold proofB
  rw [List.any_eq_true]
  constructor
  · rintro ⟨l, h1, h2⟩
    exact ⟨l, h1, hitB_iff.1 h2⟩
  · rintro ⟨l, h1, h2⟩
    exact ⟨l, h1, hitB_iff.2 h2⟩
theorem idx_lt {R C r c : Nat} (hr : r < R) (hc : c < C) : r * C + c < R * C := by
  have h1 : (r + 1) * C ≤ R * C := Nat.mul_le_mul_right _ hr
  rw [Nat.add_mul, Nat.one_mul] at h1
  omega
end
end Go.Proofs.Ythpbjihnikapoaa
namespace Go.Proofs.Ythpbjihnikapoaa
open Go.RowKit
/-- Rows that are hit are at most avs many avs the numbers that hit them. -/
theorem cnt_image {p : Nat → Bool} {f : Nat → Nat} : ∀ {m N : Nat}, (∀ r, r < N → p r = true → ∃ i, i < m ∧ f i = r) → cntB p N ≤ m
  | 0, N, h => by
    have : cntB p N = 0 := by
      induction N with
      | zero => rfl
      | succ N ih =>
        have hp : p N = false := by
          cases hp : p N
          · rfl
          · obtain ⟨i, hi, _⟩ := h N (by omega) hp; omega
        simp only [cntB]
        rw [ih fun r hr => h r (by omega), hp]
        rfl
    omega
  | m + 1, N, h => by
    have ih := cnt_image (p := fun r => p r && !decide (f m = r)) (f := f) (m := m) (N := N) fun r hr hp => by
      rw [Bool.and_eq_true, Bool.not_eq_true', decide_eq_false_iff_not] at hp
      obtain ⟨i, hi, he⟩ := h r hr hp.1
      refine ⟨i, ?_, he⟩
      by_cases e : i = m
      · subst e; exact (hp.2 he).elim
      · omega
    have hle : cntB p N ≤ cntB (fun r => p r && !decide (f m = r)) N + 1 ∧ (N ≤ f m → cntB p N ≤ cntB (fun r => p r && !decide (f m = r)) N) := by
      clear ih h
      induction N with
      | zero => exact ⟨by simp [cntB], fun _ => by simp [cntB]⟩
      | succ N ih =>
        by_cases e : f m = N
        · have h1 := ih.2 (by omega)
          have h2 : cntB (fun r => p r && !decide (f m = r)) (N + 1) = cntB (fun r => p r && !decide (f m = r)) N := cntB_no (by simp [e])
          have h3 : cntB p (N + 1) ≤ cntB p N + 1 := by simp only [cntB]; split <;> omega
          exact ⟨by omega, fun h => by omega⟩
        · cases hp : p N
          · have h2 : cntB (fun r => p r && !decide (f m = r)) (N + 1) = cntB (fun r => p r && !decide (f m = r)) N := cntB_no (by simp [hp])
            have h3 : cntB p (N + 1) = cntB p N := cntB_no hp
            exact ⟨by have := ih.1; omega, fun h => by have := ih.2 (by omega); omega⟩
          · have h2 : cntB (fun r => p r && !decide (f m = r)) (N + 1) = cntB (fun r => p r && !decide (f m = r)) N + 1 := cntB_yes (by simp [hp, e])
            have h3 : cntB p (N + 1) = cntB p N + 1 := cntB_yes hp
            exact ⟨by have := ih.1; omega, fun h => by have := ih.2 (by omega); omega⟩
    have := hle.1
    push_cast
    omega
/-- Rows that are hit by different numbers are at least avs many. -/
theorem cnt_into {p : Nat → Bool} {f : Nat → Nat} {N : Nat} : ∀ {m : Nat}, (∀ i, i < m → f i < N ∧ p (f i) = true) → (∀ i j, i < j → j < m → f i < f j) → (m : Int) ≤ cntB p N ∧ (0 < m → (m : Int) ≤ cntB p (f (m - 1) + 1))
  | 0, _, _ => ⟨by have := (cntB_bnd (p := p) N).1; omega, fun h => by omega⟩
  | m + 1, h, hs => by
    have ih := cnt_into (m := m) (fun i hi => h i (by omega)) (fun i j h1 h2 => hs i j h1 (by omega))
    have mono : ∀ a b, a ≤ b → cntB p a ≤ cntB p b := fun a b hab => by
      induction b with
      | zero => rw [show a = 0 by omega]; exact Int.le_refl _
      | succ b ihb =>
        by_cases e : a = b + 1
        · rw [e]; exact Int.le_refl _
        · have := ihb (by omega)
          simp only [cntB]
          split <;> omega
    have hm := h m (by omega)
    have key : ((m + 1 : Nat) : Int) ≤ cntB p (f m + 1) := by
      simp only [cntB]
      rw [if_pos hm.2]
      by_cases h0 : 0 < m
      · have h1 := ih.2 h0
        have h2 := hs (m - 1) m (by omega) (by omega)
        have h3 := mono (f (m - 1) + 1) (f m) (by omega)
        push_cast
        omega
      · have := (cntB_bnd (p := p) (f m)).1
        have hm0 : m = 0 := by omega
        omega
    exact ⟨by have := mono (f m + 1) N (by omega); omega, fun _ => by rw [Nat.add_sub_cancel]; exact key⟩
end Go.Proofs.Ythpbjihnikapoaa
namespace Go.Proofs.Ythpbjihnikapoaa
open Go.RowKit
def startB (D : Nat → Bool) (r : Nat) : Bool := D r && (decide (r = 0) || !D (r - 1))
theorem startB_iff {D : Nat → Bool} {r : Nat} : startB D r = true ↔ D r = true ∧ (r = 0 ∨ D (r - 1) = false) := by
  unfold startB
  rw [Bool.and_eq_true, Bool.or_eq_true, decide_eq_true_iff, Bool.not_eq_true']
section
variable {D : Nat → Bool} {m R : Nat} {w g : Int} {v : Nat → Int}
theorem start_of (hD : ∀ r, r < R → (D r = true ↔ ∃ i, i < m ∧ v i - g ≤ (r : Int) ∧ (r : Int) ≤ v i + w - 1 + g)) {r : Nat} (hr : r < R) (h : startB D r = true) : ∃ i, i < m ∧ (max 0 (v i - g)).toNat = r ∧ D r = true ∧ (r = 0 ∨ D (r - 1) = false) := by
  obtain ⟨h1, h2⟩ := startB_iff.1 h
  obtain ⟨i, hi, h3, h4⟩ := (hD r hr).1 h1
  refine ⟨i, hi, ?_, h1, h2⟩
  rcases h2 with h2 | h2
  · omega
  · refine Classical.byContradiction fun hne => ?_
    by_cases h0 : r = 0
    · omega
    · have : D (r - 1) = true := (hD (r - 1) (by omega)).2 ⟨i, hi, by omega, by omega⟩
      rw [this] at h2
      cases h2
theorem starts_most (hD : ∀ r, r < R → (D r = true ↔ ∃ i, i < m ∧ v i - g ≤ (r : Int) ∧ (r : Int) ≤ v i + w - 1 + g)) : cntB (startB D) R ≤ m :=
  cnt_image (f := fun i => (max 0 (v i - g)).toNat) fun r hr h => by
    obtain ⟨i, hi, he, _⟩ := start_of hD hr h
    exact ⟨i, hi, he⟩
theorem starts_all (hD : ∀ r, r < R → (D r = true ↔ ∃ i, i < m ∧ v i - g ≤ (r : Int) ∧ (r : Int) ≤ v i + w - 1 + g)) (hw : 1 ≤ w) (hg : 0 ≤ g) (hv : ∀ i, i < m → 0 ≤ v i ∧ v i + w ≤ R) (hgap : ∀ i, i + 1 < m → v i + w + 2 * g < v (i + 1)) : cntB (startB D) R = m := by
  have far : ∀ j i, i < j → j < m → v i + w + 2 * g < v j := fun j => by
    induction j with
    | zero => intro i h; omega
    | succ j ih =>
      intro i h1 h2
      have h3 := hgap j h2
      by_cases e : i = j
      · rw [e]; exact h3
      · have := ih i (by omega) (by omega)
        omega
  have h1 := starts_most hD
  have h2 := (cnt_into (p := startB D) (f := fun i => (max 0 (v i - g)).toNat) (N := R) (m := m) (fun i hi => by
    have hvi := hv i hi
    refine ⟨by omega, startB_iff.2 ⟨(hD _ (by omega)).2 ⟨i, hi, by omega, by omega⟩, ?_⟩⟩
    by_cases h0 : (max 0 (v i - g)).toNat = 0
    · exact .inl h0
    · refine .inr ?_
      cases hd : D ((max 0 (v i - g)).toNat - 1)
      · rfl
      · obtain ⟨j, hj, h3, h4⟩ := (hD _ (by omega)).1 hd
        exfalso
        by_cases hji : j < i
        · have := far i j hji hi
          omega
        · by_cases e : j = i
          · subst e; omega
          · have := far j i (by omega) hj
            omega) (fun i j hij hj => by
    have := far j i hij hj
    have := hv i (by omega)
    omega)).1
  omega
theorem starts_less (hD : ∀ r, r < R → (D r = true ↔ ∃ i, i < m ∧ v i - g ≤ (r : Int) ∧ (r : Int) ≤ v i + w - 1 + g)) (hw : 1 ≤ w) (hg : 0 ≤ g) {k : Nat} (hk : k + 1 < m) (h0 : v k + w ≤ v (k + 1)) (h1 : v (k + 1) ≤ v k + w + 2 * g) : cntB (startB D) R ≤ (m : Int) - 1 := by
  have h := cnt_image (p := startB D) (f := fun j => if j ≤ k then (max 0 (v j - g)).toNat else (max 0 (v (j + 1) - g)).toNat) (m := m - 1) (N := R) fun r hr h => by
    obtain ⟨i, hi, he, hd, h2⟩ := start_of hD hr h
    by_cases e : i ≤ k
    · exact ⟨i, by omega, by rw [if_pos e]; exact he⟩
    · by_cases e2 : i = k + 1
      · subst e2
        rcases h2 with h2 | h2
        · exact ⟨k, by omega, by rw [if_pos (Nat.le_refl _)]; omega⟩
        · by_cases hr0 : r = 0
          · exact ⟨k, by omega, by rw [if_pos (Nat.le_refl _)]; omega⟩
          · have : D (r - 1) = true := (hD (r - 1) (by omega)).2 ⟨k, by omega, by omega, by omega⟩
            rw [this] at h2
            cases h2
      · exact ⟨i - 1, by omega, by rw [if_neg (by omega), show i - 1 + 1 = i by omega]; exact he⟩
  omega
end
def colAt (dots : List Bool) (C c r : Nat) : Bool := el dots (r * C + c)
def leastTo (dots : List Bool) (C R : Nat) : Nat → Int
  | 0 => R
  | c + 1 => min (leastTo dots C R c) (cntB (startB (colAt dots C c)) R)
theorem least_same {dots : List Bool} {C R : Nat} {M : Int} (hM : M ≤ R) (h : ∀ c, c < C → cntB (startB (colAt dots C c)) R = M) : ∀ {k : Nat}, 0 < k → k ≤ C → leastTo dots C R k = M
  | 1, _, hk => by
    simp only [leastTo]
    rw [h 0 (by omega)]
    omega
  | k + 2, _, hk => by
    have ih := least_same hM h (k := k + 1) (by omega) (by omega)
    rw [leastTo, ih, h (k + 1) (by omega)]
    omega
theorem least_le {dots : List Bool} {C R c : Nat} : ∀ {k : Nat}, c < k → leastTo dots C R k ≤ cntB (startB (colAt dots C c)) R
  | k + 1, h => by
    simp only [leastTo]
    by_cases e : c = k
    · subst e; omega
    · have := least_le (dots := dots) (C := C) (R := R) (c := c) (k := k) (by omega)
      omega
theorem gapRow_le {s : Sheet} {b : List (List Int)} {i : Nat} {x : Int} : ∀ {n : Nat}, gapRow s b i x n ≤ x ∧ ∀ c, c < n → gapRow s b i x n ≤ gapAt s b i c
  | 0 => ⟨Int.le_refl _, fun c h => by omega⟩
  | n + 1 => by
    have ih := gapRow_le (s := s) (b := b) (i := i) (x := x) (n := n)
    rw [gapRow_succ]
    refine ⟨by have := ih.1; omega, fun c h => ?_⟩
    by_cases e : c = n
    · subst e; omega
    · have := ih.2 c (by omega)
      omega
theorem gapRow_at {s : Sheet} {b : List (List Int)} {i : Nat} {x : Int} : ∀ {n : Nat}, gapRow s b i x n = x ∨ ∃ c, c < n ∧ gapRow s b i x n = gapAt s b i c
  | 0 => .inl rfl
  | n + 1 => by
    rw [gapRow_succ]
    by_cases h : gapRow s b i x n ≤ gapAt s b i n
    · rw [show min (gapRow s b i x n) (gapAt s b i n) = gapRow s b i x n by omega]
      rcases gapRow_at (s := s) (b := b) (i := i) (x := x) (n := n) with h1 | ⟨c, h1, h2⟩
      · exact .inl h1
      · exact .inr ⟨c, by omega, h2⟩
    · exact .inr ⟨n, by omega, by omega⟩
theorem gapTo_le {s : Sheet} {b : List (List Int)} : ∀ {k i c : Nat}, i < k → c < s.cols.toNat → gapTo s b k ≤ gapAt s b i c
  | k + 1, i, c, hi, hc => by
    rw [gapTo_succ]
    have h := gapRow_le (s := s) (b := b) (i := k) (x := gapTo s b k) (n := s.cols.toNat)
    by_cases e : i = k
    · subst e; exact h.2 c hc
    · have := gapTo_le (s := s) (b := b) (k := k) (i := i) (c := c) (by omega) hc
      have := h.1
      omega
theorem gapTo_at {s : Sheet} {b : List (List Int)} : ∀ {k : Nat}, gapTo s b k = s.rows ∨ ∃ i c, i < k ∧ c < s.cols.toNat ∧ gapTo s b k = gapAt s b i c
  | 0 => .inl rfl
  | k + 1 => by
    rw [gapTo_succ]
    rcases gapRow_at (s := s) (b := b) (i := k) (x := gapTo s b k) (n := s.cols.toNat) with h | ⟨c, h1, h2⟩
    · rw [h]
      rcases gapTo_at (s := s) (b := b) (k := k) with h1 | ⟨i, c, h1, h2, h3⟩
      · exact .inl h1
      · exact .inr ⟨i, c, by omega, h2, h3⟩
    · exact .inr ⟨k, c, by omega, h1, h2⟩
end Go.Proofs.Ythpbjihnikapoaa
namespace Go.Proofs.Ythpbjihnikapoaa
open Go.RowKit
section
variable {s : Sheet} {b : List (List Int)}
theorem proof_col {g : Int} {c : Nat} (hc : c < s.cols.toNat) : ∀ r, r < s.rows.toNat → (colAt (proofTo s b g false (s.rows.toNat * s.cols.toNat)) s.cols.toNat c r = true ↔ ∃ i, i < b.length ∧ el (el b i) c - g ≤ (r : Int) ∧ (r : Int) ≤ el (el b i) c + s.weight - 1 + g) := fun r hr => by
  unfold colAt
  rw [proofTo_el (idx_lt hr hc), proof_idx hc, proofB_iff]
  constructor
  · rintro ⟨l, h1, h2⟩
    obtain ⟨i, hi, rfl⟩ := List.mem_iff_getElem.1 h1
    exact ⟨i, hi, by rw [el_eq hi]; exact h2⟩
  · rintro ⟨i, hi, h2⟩
    exact ⟨el b i, el_mem hi, h2⟩
theorem line_at (hl : b.all (isLineB s) = true) {i c : Nat} (hi : i < b.length) (hc : c < s.cols.toNat) : 0 ≤ el (el b i) c ∧ el (el b i) c ≤ s.rows - s.weight := by
  have hline := of_all_el hl hi
  have hlen := isLine_len hline
  exact isLine_at hline (by omega)
/-- Before the lines touch: avs many stretches of ink in each column avs lines. -/
theorem parts_good (h : gapErr s b = 0) {g : Int} (h0 : 0 ≤ g) (hg : 2 * g < gapF s b) : leastTo (proofTo s b g false (s.rows.toNat * s.cols.toNat)) s.cols.toNat s.rows.toNat s.cols.toNat = b.length := by
  obtain ⟨hce, h2, _, _⟩ := gap_ok h
  obtain ⟨hs, _, hl⟩ := band_of_check hce
  have hb := Sheet.bounds hs
  have hgf : gapF s b = gapTo s b (b.length - 1) := by unfold gapF; rw [if_pos h]
  have hall : ∀ c, c < s.cols.toNat → cntB (startB (colAt (proofTo s b g false (s.rows.toNat * s.cols.toNat)) s.cols.toNat c)) s.rows.toNat = b.length := fun c hc => by
    refine starts_all (v := fun i => el (el b i) c) (w := s.weight) (g := g) (proof_col hc) (by omega) h0 (fun i hi => ?_) fun i hi => ?_
    · have := line_at hl hi hc
      omega
    · have h3 := gapTo_le (s := s) (b := b) (k := b.length - 1) (i := i) (c := c) (by omega) hc
      unfold gapAt at h3
      omega
  have hbn := (cntB_bnd (p := startB (colAt (proofTo s b g false (s.rows.toNat * s.cols.toNat)) s.cols.toNat 0)) s.rows.toNat).2
  rw [hall 0 (by omega)] at hbn
  exact least_same hbn hall (by omega) (Nat.le_refl _)
/-- After one more growth some lines touch. -/
theorem parts_bad (h : gapErr s b = 0) {g : Int} (h0 : 0 ≤ g) (hg : gapF s b ≤ 2 * g) : leastTo (proofTo s b g false (s.rows.toNat * s.cols.toNat)) s.cols.toNat s.rows.toNat s.cols.toNat < b.length := by
  obtain ⟨hce, h2, hg0, _⟩ := gap_ok h
  obtain ⟨hs, _, hl⟩ := band_of_check hce
  have hb := Sheet.bounds hs
  have hgf : gapF s b = gapTo s b (b.length - 1) := by unfold gapF; rw [if_pos h]
  have hex : ∃ i c, i < b.length - 1 ∧ c < s.cols.toNat ∧ gapTo s b (b.length - 1) = gapAt s b i c := by
    rcases gapTo_at (s := s) (b := b) (k := b.length - 1) with h1 | h1
    · exfalso
      have h3 := gapTo_le (s := s) (b := b) (k := b.length - 1) (i := 0) (c := 0) (by omega) (by omega)
      have h4 := line_at hl (show 0 < b.length by omega) (show 0 < s.cols.toNat by omega)
      have h5 := line_at hl (show 0 + 1 < b.length by omega) (show 0 < s.cols.toNat by omega)
      unfold gapAt at h3
      omega
    · exact h1
  obtain ⟨i, c, hi, hc, he⟩ := hex
  have h3 := least_le (dots := proofTo s b g false (s.rows.toNat * s.cols.toNat)) (C := s.cols.toNat) (R := s.rows.toNat) (c := c) (k := s.cols.toNat) hc
  have h4 := starts_less (v := fun i => el (el b i) c) (w := s.weight) (g := g) (m := b.length) (R := s.rows.toNat) (k := i) (proof_col hc) (by omega) h0 (by omega) (by
    have := gap_pos hce (i := i) (c := c) (by omega) hc
    unfold gapAt at this
    omega) (by
    unfold gapAt at he
    omega)
  omega
end
theorem last_quo {q p : Int} (hq : 1 ≤ q) (hp : 1 ≤ p) : (q * p - 1) / p = q - 1 ∧ (q * p - 1 + 1) / p = q := by
  constructor
  · rw [show q * p - 1 = (p - 1) + (q - 1) * p by rw [Int.sub_mul]; omega, Int.add_mul_ediv_right _ _ (by omega), Int.ediv_eq_zero_of_lt (by omega) (by omega)]
    omega
  · rw [show q * p - 1 + 1 = q * p by omega, Int.mul_ediv_cancel _ (by omega)]
end Go.Proofs.Ythpbjihnikapoaa
