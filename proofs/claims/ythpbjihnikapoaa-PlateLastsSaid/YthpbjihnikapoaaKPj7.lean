/- Parts of the proof: a layer of values over the model, and contracts of functions. No condition. -/
import Derived.Test.YthpbjihnikapoaaKPj6
namespace Go.Proofs.Ythpbjihnikapoaa
open Go.RowKit
def takenB (s : Sto) (i dest : Int) : Prop := 2 ≤ dest ∧ ¬ ∀ k, k < s.items.length → k ≠ i.toNat → (el s.items k).place ≠ dest
instance (s : Sto) (i dest : Int) : Decidable (takenB s i dest) := by unfold takenB; infer_instance
def moveE (s : Sto) (i dest : Int) : Int := if hereB s i then (if ¬ (0 ≤ dest ∧ dest ≤ 9) ∨ (2 ≤ dest ∧ (el s.items i.toNat).kind ≠ 3) then 2 else if takenB s i dest then 82 else 0) else 6
def place1 (x : Itm) (dest : Int) : Itm := { x with place := dest }
def moveF (s : Sto) (i dest : Int) : Sto := setS s i.toNat (place1 (el s.items i.toNat) dest)
def moveP (p : List (Int × Int)) (x : Itm) (i dest : Int) : List (Int × Int) := if 2 ≤ dest then putE (delE p x.place) dest i else delE p x.place
set_option maxHeartbeats 4000000 in
theorem move_p (s : Sto) (p : List (Int × Int)) (a : Deed) (hV : Valid s) (hP : PressOk s.items p) : ACalls Try.prog 106 [.ptr 4 0 0 0, a.enc] (stoB 0 s p)
    (fun v H => moveE s a.item a.dest = 0 ∧ v = .tup [] ∧ H = stoB 0 (moveF s a.item a.dest) (moveP p (el s.items a.item.toNat) a.item a.dest)) (fun v _ => moveE s a.item a.dest ≠ 0 ∧ v = errV (moveE s a.item a.dest)) := by
  have hfew := hV.1
  unfold Few at hfew
  have hn := hfew.2.1
  have bad : ∀ e : Int, moveE s a.item a.dest = e → e ≠ 0 → ∀ H' : Heap, moveE s a.item a.dest ≠ 0 ∧ errV e = errV (moveE s a.item a.dest) := fun e h h0 _ => by rw [h]; exact ⟨h0, rfl⟩
  by_cases hh : hereB s a.item
  · have hlt : a.item.toNat < s.items.length := by unfold hereB at hh; omega
    have h0 := hh.1
    have hpl := hV.2.2.1 a.item.toNat hlt
    have taken : ∀ v, getE p a.dest = some v → ¬ v = a.item → takenB s a.item a.dest := fun v hv hne => by
      obtain ⟨q1, q2, q3, q4⟩ := (hP.iff _ _).1 hv
      exact ⟨q1, fun h => h v.toNat (by omega) (by omega) q4⟩
    have free1 : ∀ v, getE p a.dest = some v → v = a.item → ¬ takenB s a.item a.dest := fun v hv he ht => by
      obtain ⟨q1, q2, q3, q4⟩ := (hP.iff _ _).1 hv
      subst he
      exact ht.2 fun k hk hne hpk => (hpl.2.2 (by omega)).2 k hk hne (by omega)
    have free2 : getE p a.dest = none → ¬ takenB s a.item a.dest := fun hv ht => by
      refine ht.2 fun k hk hne hpk => ?_
      have := (hP.iff a.dest k).2 ⟨ht.1, by omega, by omega, by rw [Int.toNat_natCast]; exact hpk⟩
      rw [hv] at this
      cases this
    have e2 : ¬ (0 ≤ a.dest ∧ a.dest ≤ 9) ∨ (2 ≤ a.dest ∧ (el s.items a.item.toNat).kind ≠ 3) → moveE s a.item a.dest = 2 := fun h => by unfold moveE; rw [if_pos hh, if_pos h]
    have e82 : ¬ (¬ (0 ≤ a.dest ∧ a.dest ≤ 9) ∨ (2 ≤ a.dest ∧ (el s.items a.item.toNat).kind ≠ 3)) → takenB s a.item a.dest → moveE s a.item a.dest = 82 := fun h h2 => by unfold moveE; rw [if_pos hh, if_neg h, if_pos h2]
    have e0 : ¬ (¬ (0 ≤ a.dest ∧ a.dest ≤ 9) ∨ (2 ≤ a.dest ∧ (el s.items a.item.toNat).kind ≠ 3)) → ¬ takenB s a.item a.dest → moveE s a.item a.dest = 0 := fun h h2 => by unfold moveE; rw [if_pos hh, if_neg h, if_neg h2]
    
    refine acalls_of_aw Try.func106 rfl (Nat.le_of_ble_eq_true rfl) ?_; refine aw_post ?_
    (repeat' (first | (refine ar_isq ?_; first | refine zmv ?_ | refine zas ?_ | (refine is_load ?_; first | refine zlp ?_ | refine zlr ?_) | (refine is_binOp ?_; first | refine zgeq ?_ | refine zneq ?_) | (refine is_fieldAddr ?_; first | refine zfp ?_ | refine zfr ?_) | (refine is_pick ?_; first | refine zpt ?_ | refine zpf ?_) | refine zex ?_ | refine znt ?_ | refine zncp ?_ | refine zncr ?_) | (refine ar_item s hn ?_ ?_ rfl rfl rfl rfl rfl rfl (dc rfl) (dc rfl) <;> intro hrf) | (((refine ar_subk_l (sub_frzL (t := 13) vi ([a.dest]) rfl rfl rfl rfl (fun _ _ => rfl) (fun _ => rfl)) ?_); refine ar_pcall (own := false) fn50 rfl rfl (.cons (.closed rfl) (.cons (.closed rfl) (.cons (.closed rfl) .nil))) (from_p _ _ [a.dest]) (by simp) (dc rfl) ?_; intro _ hv; subst hv)) | (refine ar_buildLE vi ([a.dest]) (by exact ty rfl) (by exact rfl) (by exact ty rfl) (by exact rfl) (by exact rfl) (by exact Nat.succ_pos _) (by exact rfl) (by exact dc rfl) (by exact rfl) (by exact fun _ => ⟨rfl, rfl⟩) (by exact dc rfl) ?_) | (refine ar_refuse ?_ ?_ rfl rfl (dc rfl) <;> intro hrf <;> first | exact absurd hrf (by decide) | (try replace hrf := HG.out hrf)) | (refine ar_lookup (e := vi) (ty rfl) rfl (ty rfl) rfl (ty rfl) rfl rfl rfl (dc rfl) ?_ ?_ <;> intros) | (refine ar_delete (e := vi) rfl (ty rfl) rfl (ty rfl) rfl rfl rfl rfl ?_) | (refine ar_mapUpdate (e := vi) (v := a.item) (ty rfl) rfl (ty rfl) rfl rfl rfl rfl rfl ?_) | (refine zbx ?_) | (refine zb1 ?_) | (refine zb0 ?_) | (refine zsvs ?_) | (refine zsva ?_) | (refine zses ?_) | (refine zsea ?_) | (refine zg ?_ ?_ <;> intro hg <;> first | exact absurd hg (by decide) | ((try replace hg := HG.out hg); (try dsimp only at hg); (try rw [fromB_one] at hg); (try rw [withinB_iff] at hg); (try rw [withinB_no] at hg); (try (have _h : True := hg; clear _h hg)); first | (exfalso; omega) | skip)) | (refine zgu ?_) | (refine ar_nil ?_) | (refine aw_seq ?_) | (refine aw_skip ?_) | (refine aw_block ?_) | (refine aw_exit ?_) | (refine aw_region ?_) | (refine aw_drawn (id := 3) [(0, 0), (1, 0), (2, 0), (3, 0), (4, 0), (5, 0), (6, 0), (7, 0), (8, 0), (9, 0), (10, 0), (11, 0)] mixed (by kernel_rfl) ?_) | (refine aw_drawn (id := 5) [(0, 0), (1, 0), (2, 0), (3, 0), (4, 0), (5, 0), (6, 0), (7, 0), (8, 2)] mixed (by kernel_rfl) ?_) | (refine aw_drawn (id := 8) [(0, 0), (1, 0), (2, 0), (3, 0), (4, 0), (5, 0), (6, 0), (7, 0), (8, 2)] mixed (by kernel_rfl) ?_) | (refine zco ?_ ?_ <;> intro hg <;> first | exact absurd hg (by decide) | ((try replace hg := HG.out hg); (try dsimp only at hg); (try rw [fromB_one] at hg); (try rw [withinB_iff] at hg); (try rw [withinB_no] at hg); (try (have _h : True := hg; clear _h hg)); first | (exfalso; omega) | skip))))
    all_goals first
      | (exact absurd hh (by assumption))
      | exact bad 2 (e2 (by omega)) (by decide)
      | exact bad 82 (e82 (by omega) (taken _ (by assumption) (by assumption))) (by decide)
      | ((refine subq_n [] [.arr 4 1 (fun _ => stoV 0 (moveF s a.item a.dest)), LB 5 Itm.enc (s.items.set a.item.toNat (place1 (el s.items a.item.toNat) a.dest)), LB 2 Prt.enc s.prints, mapE vi (moveP p (el s.items a.item.toNat) a.item a.dest)] ?_ ?_; (focus ((refine sub_to [some 0, some 1, some 2, some 3] [] rfl ?_ ?_ <;> (repeat' (first | exact trivial | refine ⟨⟨_, rfl, ?_⟩, ?_⟩ | refine ⟨bsub_snoc rfl rfl (fun _ => rfl) ?_, ?_⟩ | refine ⟨bsub_one rfl rfl ?_, ?_⟩ | refine ⟨bsub_all rfl rfl (fun _ _ => rfl) (fun _ => rfl), ?_⟩ | refine ⟨bsub_updL rfl rfl ?_ (fun _ _ _ => rfl) (fun _ => rfl), ?_⟩ | refine ⟨.inl ⟨_, _, rfl, rfl, ?_⟩, ?_⟩ | exact ⟨.inr ⟨rfl, rfl⟩, trivial⟩ | refine ⟨.inr ⟨rfl, rfl⟩, ?_⟩ | (intro _ _) | exact vz1 | (first | refine ⟨bsub_set (place1 (el s.items a.item.toNat) a.dest) rfl hlt rfl rfl, ?_⟩ | refine ⟨bsub_mapE' rfl rfl (by unfold moveP; first | rw [if_pos (by omega)] | rw [if_neg (by omega)]) (fun _ => rfl), ?_⟩ | exact VSub.aggL ⟨.closed rfl, slEq rfl (by simp [moveF, setS]), .sl rfl, .map rfl, trivial⟩) | exact vz2 | fail))); done)))
         refine bq0n ⟨e0 (by omega) ?_, rfl, rfl⟩
         first
         | exact free2 (by assumption)
         | exact free1 _ (by assumption) (by assumption))
      | trace_state
  · 
    refine acalls_of_aw Try.func106 rfl (Nat.le_of_ble_eq_true rfl) ?_
    (repeat' (first | (refine ar_isq ?_; first | refine zmv ?_ | refine zas ?_ | (refine is_load ?_; first | refine zlp ?_ | refine zlr ?_) | (refine is_binOp ?_; first | refine zgeq ?_ | refine zneq ?_) | (refine is_fieldAddr ?_; first | refine zfp ?_ | refine zfr ?_) | (refine is_pick ?_; first | refine zpt ?_ | refine zpf ?_) | refine zex ?_ | refine znt ?_ | refine zncp ?_ | refine zncr ?_) | (refine ar_item s hn ?_ ?_ rfl rfl rfl rfl rfl rfl (dc rfl) (dc rfl) <;> intro hrf <;> (try exact absurd hrf hh)) | (refine zbx ?_) | (refine zb1 ?_) | (refine zb0 ?_) | (refine zsvs ?_) | (refine zsva ?_) | (refine zses ?_) | (refine zsea ?_) | (refine zg ?_ ?_ <;> intro hg <;> first | exact absurd hg (by decide) | ((try replace hg := HG.out hg); (try dsimp only at hg); (try (have _h : True := hg; clear _h hg)); first | (exfalso; omega) | skip)) | (refine zgu ?_) | (refine ar_nil ?_) | (refine aw_seq ?_) | (refine aw_skip ?_) | (refine aw_block ?_) | (refine aw_exit ?_) | (refine aw_region ?_) | (refine aw_drawn (id := 3) [(0, 0), (1, 0), (2, 0), (3, 0), (4, 0), (5, 0), (6, 0), (7, 0), (8, 0), (9, 0), (10, 0), (11, 0)] mixed (by kernel_rfl) ?_) | (refine aw_drawn (id := 5) [(0, 0), (1, 0), (2, 0), (3, 0), (4, 0), (5, 0), (6, 0), (7, 0), (8, 2)] mixed (by kernel_rfl) ?_) | (refine aw_drawn (id := 8) [(0, 0), (1, 0), (2, 0), (3, 0), (4, 0), (5, 0), (6, 0), (7, 0), (8, 2)] mixed (by kernel_rfl) ?_) | (refine zco ?_ ?_ <;> intro hg <;> first | exact absurd hg (by decide) | ((try replace hg := HG.out hg); (try dsimp only at hg); (try (have _h : True := hg; clear _h hg)); first | (exfalso; omega) | skip))))
    all_goals exact bad 6 (by unfold moveE; rw [if_neg hh]) (by decide)
def printE (s : Sto) (i n : Int) : Int := if hereB s i then (if (el s.items i.toNat).kind ≠ 3 ∨ (el s.items i.toNat).place < 2 ∨ ¬ (1 ≤ n ∧ n ≤ 400) then 2 else if s.life < (el s.items i.toNat).uses + n then 81 else if 400 < (s.prints.length : Int) + n then 9 else 0) else 6
def printF (s : Sto) (i n : Int) : Sto := { s with items := s.items.set i.toNat (used1 (el s.items i.toNat) n), prints := s.prints ++ List.replicate n.toNat ⟨i, 0⟩ }
set_option maxHeartbeats 4000000 in
theorem print_p (s : Sto) (p : List (Int × Int)) (a : Deed) (hV : Valid s) : ACalls Try.prog 107 [.ptr 4 0 0 0, a.enc] (stoB 0 s p)
    (fun v H => printE s a.item a.n = 0 ∧ v = .tup [] ∧ H = WP (printF s a.item a.n) p) (fun v _ => printE s a.item a.n ≠ 0 ∧ v = errV (printE s a.item a.n)) := by
  have hfew := hV.1
  unfold Few at hfew
  have hn := hfew.2.1
  have bad : ∀ e : Int, printE s a.item a.n = e → e ≠ 0 → ∀ H' : Heap, printE s a.item a.n ≠ 0 ∧ errV e = errV (printE s a.item a.n) := fun e h h0 _ => by rw [h]; exact ⟨h0, rfl⟩
  by_cases hh : hereB s a.item
  · have hlt : a.item.toNat < s.items.length := by unfold hereB at hh; omega
    have h0 := hh.1
    have hu := hV.2.2.2.2 a.item.toNat hlt
    have hul := usedI_bnd s.items a.item.toNat s.items.length
    have hup := usedP_bnd s.prints a.item.toNat s.prints.length
    have hu1 := hu.1
    unfold usedS at hu1
    have hrl : (List.replicate a.n.toNat (⟨a.item, 0⟩ : Prt)).length = a.n.toNat := by simp
    have e2 : (el s.items a.item.toNat).kind ≠ 3 ∨ (el s.items a.item.toNat).place < 2 ∨ ¬ (1 ≤ a.n ∧ a.n ≤ 400) → printE s a.item a.n = 2 := fun h => by unfold printE; rw [if_pos hh, if_pos h]
    have e81 : ¬ ((el s.items a.item.toNat).kind ≠ 3 ∨ (el s.items a.item.toNat).place < 2 ∨ ¬ (1 ≤ a.n ∧ a.n ≤ 400)) → s.life < (el s.items a.item.toNat).uses + a.n → printE s a.item a.n = 81 := fun h h2 => by unfold printE; rw [if_pos hh, if_neg h, if_pos h2]
    have e9 : ¬ ((el s.items a.item.toNat).kind ≠ 3 ∨ (el s.items a.item.toNat).place < 2 ∨ ¬ (1 ≤ a.n ∧ a.n ≤ 400)) → ¬ s.life < (el s.items a.item.toNat).uses + a.n → 400 < (s.prints.length : Int) + a.n → printE s a.item a.n = 9 := fun h h2 h3 => by unfold printE; rw [if_pos hh, if_neg h, if_neg h2, if_pos h3]
    have e0 : ¬ ((el s.items a.item.toNat).kind ≠ 3 ∨ (el s.items a.item.toNat).place < 2 ∨ ¬ (1 ≤ a.n ∧ a.n ≤ 400)) → ¬ s.life < (el s.items a.item.toNat).uses + a.n → ¬ 400 < (s.prints.length : Int) + a.n → printE s a.item a.n = 0 := fun h h2 h3 => by unfold printE; rw [if_pos hh, if_neg h, if_neg h2, if_neg h3]
    
    refine acalls_of_aw Try.func107 rfl (Nat.le_of_ble_eq_true rfl) ?_; refine aw_post ?_
    (repeat' (first | (refine ar_isq ?_; first | refine zmv ?_ | refine zas ?_ | (refine is_load ?_; first | refine zlp ?_ | refine zlr ?_) | (refine is_binOp ?_; first | refine zlss ?_ | refine zgtr ?_ | refine zneq ?_ | refine zadd ?_) | (refine is_fieldAddr ?_; first | refine zfp ?_ | refine zfr ?_) | (refine is_call ?_; first | refine zll ?_ | refine zls ?_ | refine zln ?_ | refine zle ?_) | (refine is_pick ?_; first | refine zpt ?_ | refine zpf ?_) | refine znt ?_ | refine zncp ?_ | refine zncr ?_ | (refine ar_buildT ?_ (by exact ty rfl) (by exact rfl) (by exact sizes rfl) (by exact rfl) (by exact rfl) (by exact build rfl) (by exact dc rfl); intro _ hds; (try dsimp only [List.toList_toArray, cells_s, cells_emp, cells_agg, cells_list, cells_sl, cells_ptr, cells_ref, cells_fn, cells_vi, cells_vb, cells_vnil, constV, List.map_cons, List.map_nil, List.take_succ_cons, List.take_zero, List.drop_succ_cons, List.drop_zero, List.cons_append, List.nil_append, List.append_nil, LV_cells] at hds); (try dsimp only [cells_s, cells_emp, cells_agg, cells_list, cells_sl, cells_ptr, cells_ref, cells_fn, cells_vi, cells_vb, cells_vnil, constV, List.map_cons, List.map_nil, List.take_succ_cons, List.take_zero, List.drop_succ_cons, List.drop_zero, List.cons_append, List.nil_append, List.append_nil, LV_cells] at hds); subst hds)) | (refine ar_item s hn ?_ ?_ rfl rfl rfl rfl rfl rfl (dc rfl) (dc rfl) <;> intro hrf) | (((refine ar_subk_l (sub_frzL (t := 24) vi ([a.n]) rfl rfl rfl rfl (fun _ _ => rfl) (fun _ => rfl)) ?_); refine ar_pcall (own := false) fn50 rfl rfl (.cons (.closed rfl) (.cons (.closed rfl) (.cons (.closed rfl) .nil))) (from_p _ _ [a.n]) (by simp) (dc rfl) ?_; intro _ hv; subst hv)) | (refine ar_buildLE vi ([a.n]) (by exact ty rfl) (by exact rfl) (by exact ty rfl) (by exact rfl) (by exact rfl) (by exact Nat.succ_pos _) (by exact rfl) (by exact dc rfl) (by exact rfl) (by exact fun _ => ⟨rfl, rfl⟩) (by exact dc rfl) ?_) | (refine ar_refuse ?_ ?_ rfl rfl (dc rfl) <;> intro hrf <;> first | exact absurd hrf (by decide) | ((try replace hrf := HG.out hrf); (try rw [fromB_one] at hrf); (try rw [withinB_iff] at hrf); (try rw [withinB_no] at hrf))) | (refine ar_buildLE Prt.enc ([⟨a.item, 0⟩]) (by exact ty rfl) (by exact rfl) (by exact ty rfl) (by exact rfl) (by exact rfl) (by exact Nat.succ_pos _) (by exact rfl) (by exact dc rfl) (by exact rfl) (by exact fun _ => ⟨rfl, rfl⟩) (by exact dc rfl) ?_) | ((refine ar_re (t := 74) (v' := vi ((a.n.toNat : Nat) : Int)) rfl (congrArg vi (by omega)) ?_; (refine ar_subk_l (sub_frzL (t := 72) Prt.enc ([⟨a.item, 0⟩]) rfl rfl rfl rfl (fun _ _ => rfl) (fun _ => rfl)) ?_); refine ar_pcall (own := false) fn117 rfl rfl (.cons (.closed rfl) (.cons (.closed rfl) .nil)) (repeatP_p ⟨a.item, 0⟩ a.n.toNat (by omega)) (by simp) (dc rfl) ?_; intro _ hv; subst hv)) | (refine zbx ?_) | (refine zb1 ?_) | (refine zb0 ?_) | (refine zapoo ?_) | (refine zapol ?_) | (refine zapno ?_) | (refine zapnl ?_) | (refine zapeo ?_) | (refine zapel ?_) | (refine zsvs ?_) | (refine zsva ?_) | (refine zses ?_) | (refine zsea ?_) | (refine zg ?_ ?_ <;> intro hg <;> first | exact absurd hg (by decide) | ((try replace hg := HG.out hg); (try dsimp only at hg); (try rw [fromB_one] at hg); (try rw [withinB_iff] at hg); (try rw [withinB_no] at hg); (try (have _h : True := hg; clear _h hg)); first | (exfalso; omega) | skip)) | (refine zgu ?_) | (refine ar_nil ?_) | (refine aw_seq ?_) | (refine aw_skip ?_) | (refine aw_block ?_) | (refine aw_exit ?_) | (refine aw_region ?_) | (refine aw_drawn (id := 3) [(0, 0), (1, 0), (2, 0), (3, 0), (4, 0), (5, 0), (6, 0), (7, 0), (8, 0), (9, 0), (10, 0), (11, 0), (12, 0), (13, 2)] mixed (by kernel_rfl) ?_) | (refine aw_drawn (id := 3) [(0, 0), (1, 0), (2, 0), (3, 0), (4, 0), (5, 0), (6, 0), (7, 0), (8, 0), (9, 0), (10, 0), (11, 0), (12, 0), (13, 1)] mixed (by kernel_rfl) ?_) | (refine aw_drawn (id := 4) [(0, 0), (1, 0), (2, 0), (3, 0), (4, 0), (5, 0), (6, 0), (7, 0), (8, 0), (9, 0), (10, 2)] mixed (by kernel_rfl) ?_) | (refine aw_drawn (id := 4) [(0, 0), (1, 0), (2, 0), (3, 0), (4, 0), (5, 0), (6, 0), (7, 0), (8, 0), (9, 0), (10, 1)] mixed (by kernel_rfl) ?_) | (refine aw_drawn (id := 5) [(0, 0), (1, 0), (2, 0), (3, 0), (4, 0), (5, 0), (6, 0), (7, 0), (8, 0), (9, 2)] mixed (by kernel_rfl) ?_) | (refine aw_drawn (id := 6) [(0, 0), (1, 0), (2, 0), (3, 0), (4, 0), (5, 0), (6, 0), (7, 0), (8, 0), (10, 0), (11, 0), (9, 1), (12, 1), (13, 1), (14, 0), (15, 0), (16, 0), (17, 2)] mixed (by kernel_rfl) ?_) | (refine zco ?_ ?_ <;> intro hg <;> first | exact absurd hg (by decide) | ((try replace hg := HG.out hg); (try dsimp only at hg); (try rw [fromB_one] at hg); (try rw [withinB_iff] at hg); (try rw [withinB_no] at hg); (try (have _h : True := hg; clear _h hg)); first | (exfalso; omega) | skip))))
    all_goals first
      | (exact absurd hh (by assumption))
      | exact bad 2 (e2 (by omega)) (by decide)
      | exact bad 81 (e81 (by omega) (by omega)) (by decide)
      | exact bad 9 (e9 (by omega) (by omega) (by omega)) (by decide)
      | ((refine subq_n [] [.arr 4 1 (fun _ => stoG 1 4 (printF s a.item a.n)), LB 5 Itm.enc (s.items.set a.item.toNat (used1 (el s.items a.item.toNat) a.n)), .dead, mapE vi p, LB 2 Prt.enc (s.prints ++ List.replicate a.n.toNat ⟨a.item, 0⟩)] ?_ ?_; (focus ((refine sub_to [some 0, some 1, some 2, some 3, some 7] [] rfl ?_ ?_ <;> (repeat' (first | exact trivial | refine ⟨⟨_, rfl, ?_⟩, ?_⟩ | refine ⟨bsub_snoc rfl rfl (fun _ => rfl) ?_, ?_⟩ | refine ⟨bsub_one rfl rfl ?_, ?_⟩ | refine ⟨bsub_all rfl rfl (fun _ _ => rfl) (fun _ => rfl), ?_⟩ | refine ⟨bsub_updL rfl rfl ?_ (fun _ _ _ => rfl) (fun _ => rfl), ?_⟩ | refine ⟨.inl ⟨_, _, rfl, rfl, ?_⟩, ?_⟩ | exact ⟨.inr ⟨rfl, rfl⟩, trivial⟩ | refine ⟨.inr ⟨rfl, rfl⟩, ?_⟩ | (intro _ _) | exact vz1 | (first | refine ⟨trivial, ?_⟩ | refine ⟨bsub_set (used1 (el s.items a.item.toNat) a.n) rfl hlt rfl rfl, ?_⟩ | refine ⟨bsub_app rfl rfl rfl rfl (fun _ _ => rfl) (fun _ => rfl) (fun _ _ => .closed rfl), ?_⟩ | refine ⟨bsub_mapE rfl rfl (fun _ => rfl), ?_⟩ | exact VSub.aggL ⟨.closed rfl, slEq rfl (by simp [printF]), slEq rfl (by simp [printF]), .map rfl, trivial⟩) | exact vz2 | fail))); done)))
         exact bq0n ⟨e0 (by omega) (by omega) (by omega), rfl, rfl⟩)
      | trace_state
  · 
    refine acalls_of_aw Try.func107 rfl (Nat.le_of_ble_eq_true rfl) ?_
    (repeat' (first | (refine ar_isq ?_; first | refine zmv ?_ | refine zas ?_ | (refine is_load ?_; first | refine zlp ?_ | refine zlr ?_) | (refine is_binOp ?_; first | refine zlss ?_ | refine zgtr ?_ | refine zneq ?_ | refine zadd ?_) | (refine is_fieldAddr ?_; first | refine zfp ?_ | refine zfr ?_) | (refine is_call ?_; first | refine zll ?_ | refine zls ?_ | refine zln ?_ | refine zle ?_) | (refine is_pick ?_; first | refine zpt ?_ | refine zpf ?_) | refine znt ?_ | refine zncp ?_ | refine zncr ?_ | (refine ar_buildT ?_ (by exact ty rfl) (by exact rfl) (by exact sizes rfl) (by exact rfl) (by exact rfl) (by exact build rfl) (by exact dc rfl); intro _ hds; (try dsimp only [List.toList_toArray, cells_s, cells_emp, cells_agg, cells_list, cells_sl, cells_ptr, cells_ref, cells_fn, cells_vi, cells_vb, cells_vnil, constV, List.map_cons, List.map_nil, List.take_succ_cons, List.take_zero, List.drop_succ_cons, List.drop_zero, List.cons_append, List.nil_append, List.append_nil, LV_cells] at hds); (try dsimp only [cells_s, cells_emp, cells_agg, cells_list, cells_sl, cells_ptr, cells_ref, cells_fn, cells_vi, cells_vb, cells_vnil, constV, List.map_cons, List.map_nil, List.take_succ_cons, List.take_zero, List.drop_succ_cons, List.drop_zero, List.cons_append, List.nil_append, List.append_nil, LV_cells] at hds); subst hds)) | (refine ar_item s hn ?_ ?_ rfl rfl rfl rfl rfl rfl (dc rfl) (dc rfl) <;> intro hrf <;> (try exact absurd hrf hh)) | (refine zbx ?_) | (refine zb1 ?_) | (refine zb0 ?_) | (refine zapoo ?_) | (refine zapol ?_) | (refine zapno ?_) | (refine zapnl ?_) | (refine zapeo ?_) | (refine zapel ?_) | (refine zsvs ?_) | (refine zsva ?_) | (refine zses ?_) | (refine zsea ?_) | (refine zg ?_ ?_ <;> intro hg <;> first | exact absurd hg (by decide) | ((try replace hg := HG.out hg); (try dsimp only at hg); (try (have _h : True := hg; clear _h hg)); first | (exfalso; omega) | skip)) | (refine zgu ?_) | (refine ar_nil ?_) | (refine aw_seq ?_) | (refine aw_skip ?_) | (refine aw_block ?_) | (refine aw_exit ?_) | (refine aw_region ?_) | (refine aw_drawn (id := 3) [(0, 0), (1, 0), (2, 0), (3, 0), (4, 0), (5, 0), (6, 0), (7, 0), (8, 0), (9, 0), (10, 0), (11, 0), (12, 0), (13, 1)] mixed (by kernel_rfl) ?_) | (refine aw_drawn (id := 3) [(0, 0), (1, 0), (2, 0), (3, 0), (4, 0), (5, 0), (6, 0), (7, 0), (8, 0), (9, 0), (10, 0), (11, 0), (12, 0), (13, 2)] mixed (by kernel_rfl) ?_) | (refine aw_drawn (id := 4) [(0, 0), (1, 0), (2, 0), (3, 0), (4, 0), (5, 0), (6, 0), (7, 0), (8, 0), (9, 0), (10, 1)] mixed (by kernel_rfl) ?_) | (refine aw_drawn (id := 4) [(0, 0), (1, 0), (2, 0), (3, 0), (4, 0), (5, 0), (6, 0), (7, 0), (8, 0), (9, 0), (10, 2)] mixed (by kernel_rfl) ?_) | (refine aw_drawn (id := 5) [(0, 0), (1, 0), (2, 0), (3, 0), (4, 0), (5, 0), (6, 0), (7, 0), (8, 0), (9, 2)] mixed (by kernel_rfl) ?_) | (refine aw_drawn (id := 6) [(0, 0), (1, 0), (2, 0), (3, 0), (4, 0), (5, 0), (6, 0), (7, 0), (8, 0), (10, 0), (11, 0), (9, 1), (12, 1), (13, 1), (14, 0), (15, 0), (16, 0), (17, 2)] mixed (by kernel_rfl) ?_) | (refine zco ?_ ?_ <;> intro hg <;> first | exact absurd hg (by decide) | ((try replace hg := HG.out hg); (try dsimp only at hg); (try (have _h : True := hg; clear _h hg)); first | (exfalso; omega) | skip))))
    all_goals exact bad 6 (by unfold printE; rw [if_neg hh]) (by decide)
end Go.Proofs.Ythpbjihnikapoaa
namespace Go.Proofs.Ythpbjihnikapoaa
open Go.RowKit
def cutP (s : Sto) (first n : Int) : List Prt := (s.prints.drop first.toNat).take n.toNat
def spendE (s : Sto) (first n : Int) : Int := if 1 ≤ n ∧ n ≤ 400 then (if 0 ≤ first ∧ first ≤ (s.prints.length : Int) - n then (if (cutP s first n).any spentB = true then 83 else 0) else 6) else 2
def stateAt (l : List Prt) (F k : Nat) (st : Int) (j : Nat) : Prt := if F ≤ j ∧ j < F + k then ⟨(el l j).plate, st⟩ else el l j
def spendF (s : Sto) (first n st : Int) : Sto := { s with prints := (List.range s.prints.length).map (stateAt s.prints first.toNat n.toNat st) }
theorem spendF_len (s : Sto) (first n st : Int) : (spendF s first n st).prints.length = s.prints.length := by simp [spendF]
theorem spendF_el {s : Sto} {first n st : Int} {j : Nat} (h : j < s.prints.length) : el (spendF s first n st).prints j = stateAt s.prints first.toNat n.toNat st j := by unfold spendF; rw [el_map_range h]
theorem state_zero (l : List Prt) (F : Nat) (st : Int) (j : Nat) : stateAt l F 0 st j = el l j := by
  unfold stateAt
  rw [if_neg (by omega)]
theorem state_sub {H : Heap} {σ : List (Option Nat)} {fr : Nat → Prop} {l : List Prt} {F k j : Nat} {st : Int} {v : V} (hv : v = Prt.enc ⟨(el l (F + k)).plate, st⟩) : VSub H σ fr (upd (fun j => (stateAt l F k st j).enc) (F + k) v j) ((stateAt l F (k + 1) st j).enc) := by
  by_cases e : j = F + k
  · subst e
    rw [upd_same, hv]
    unfold stateAt
    rw [if_pos (by omega)]
    exact .closed rfl
  · rw [upd_other e]
    refine .of_eq ?_ rfl
    unfold stateAt
    by_cases h : F ≤ j ∧ j < F + k
    · rw [if_pos h, if_pos (by omega)]
    · rw [if_neg h, if_neg (by omega)]
theorem bsub_len {α : Type} [Inhabited α] {H : Heap} {σ : List (Option Nat)} {fr : Nat → Prop} {k b sz n : Nat} {e : α → V} {L : List α} {f : Nat → V} (h : σ[k]? = some (some b)) (hb : H[b]? = some (.arr sz n f)) (hn : L.length = n) (hf : ∀ i, i < n → f i = e (el L i)) (hc : ∀ y, (e y).closed = true) : BSub H σ fr k (LB sz e L) := by
  refine .inl ⟨b, f, h, by rw [hb, hn], fun i hi => .of_eq (hf i (by omega)) (hc _)⟩
set_option maxHeartbeats 4000000 in
theorem spend_p (s : Sto) (p : List (Int × Int)) (a : Deed) (st : Int) (hV : Valid s) : ACalls Try.prog 118 [.ptr 4 0 0 0, a.enc, vu8 st] (stoB 0 s p)
    (fun v H => spendE s a.item a.n = 0 ∧ v = .tup [] ∧ H = stoB 0 (spendF s a.item a.n st) p) (fun v _ => spendE s a.item a.n ≠ 0 ∧ v = errV (spendE s a.item a.n)) := by
  have hfew := hV.1
  unfold Few at hfew
  have bad : ∀ e : Int, spendE s a.item a.n = e → e ≠ 0 → ∀ H' : Heap, spendE s a.item a.n ≠ 0 ∧ errV e = errV (spendE s a.item a.n) := fun e h h0 _ => by rw [h]; exact ⟨h0, rfl⟩
  have e2 : ¬ (1 ≤ a.n ∧ a.n ≤ 400) → spendE s a.item a.n = 2 := fun h => by unfold spendE; rw [if_neg h]
  have e6 : (1 ≤ a.n ∧ a.n ≤ 400) → ¬ (0 ≤ a.item ∧ a.item ≤ (s.prints.length : Int) - a.n) → spendE s a.item a.n = 6 := fun h h2 => by unfold spendE; rw [if_pos h, if_neg h2]
  have e83 : (1 ≤ a.n ∧ a.n ≤ 400) → (0 ≤ a.item ∧ a.item ≤ (s.prints.length : Int) - a.n) → (cutP s a.item a.n).any spentB = true → spendE s a.item a.n = 83 := fun h h2 h3 => by unfold spendE; rw [if_pos h, if_pos h2, if_pos h3]
  have e0 : (1 ≤ a.n ∧ a.n ≤ 400) → (0 ≤ a.item ∧ a.item ≤ (s.prints.length : Int) - a.n) → (cutP s a.item a.n).any spentB = false → spendE s a.item a.n = 0 := fun h h2 h3 => by unfold spendE; rw [if_pos h, if_pos h2, if_neg (by rw [h3]; decide)]
  have hcl : (1 ≤ a.n ∧ a.n ≤ 400) → (0 ≤ a.item ∧ a.item ≤ (s.prints.length : Int) - a.n) → (cutP s a.item a.n).length = a.n.toNat := fun h h2 => by unfold cutP; rw [List.length_take, List.length_drop]; omega
  have hce : ∀ k, k < a.n.toNat → el (cutP s a.item a.n) k = el s.prints (a.item.toNat + k) := fun k hk => by unfold cutP; rw [el_take hk, el_drop]
  
  refine acalls_of_aw Try.func118 rfl (Nat.le_of_ble_eq_true rfl) ?_; refine aw_post ?_
  (repeat' (first | (refine ar_isq ?_; first | refine zmv ?_ | refine zas ?_ | (refine is_load ?_; first | refine zlp ?_ | refine zlr ?_) | (refine is_binOp ?_; first | refine zlss ?_ | refine zgtr ?_ | refine zadd ?_ | refine zsub ?_) | (refine is_fieldAddr ?_; first | refine zfp ?_ | refine zfr ?_) | (refine is_indexAddr ?_; first | refine zil ?_ | refine zis ?_ | refine zit ?_ | refine zia ?_ | refine zir ?_ | (refine zxl ?_; intro _ _ _) | (refine zxs ?_; intro _ _ _)) | (refine is_call ?_; first | refine zll ?_ | refine zls ?_ | refine zln ?_ | refine zle ?_) | (refine is_pick ?_; first | refine zpt ?_ | refine zpf ?_) | refine znt ?_ | refine zncp ?_ | refine zncr ?_) | (((refine ar_subk_l (sub_frzL (t := 10) vi ([a.n]) rfl rfl rfl rfl (fun _ _ => rfl) (fun _ => rfl)) ?_); refine ar_pcall (own := false) fn50 rfl rfl (.cons (.closed rfl) (.cons (.closed rfl) (.cons (.closed rfl) .nil))) (from_p _ _ [a.n]) (by simp) (dc rfl) ?_; intro _ hv; subst hv)) | (refine ar_buildLE vi ([a.n]) (by exact ty rfl) (by exact rfl) (by exact ty rfl) (by exact rfl) (by exact rfl) (by exact Nat.succ_pos _) (by exact rfl) (by exact dc rfl) (by exact rfl) (by exact fun _ => ⟨rfl, rfl⟩) (by exact dc rfl) ?_) | (refine ar_refuse ?_ ?_ rfl rfl (dc rfl) <;> intro hrf <;> first | exact absurd hrf (by decide) | ((try replace hrf := HG.out hrf); (try rw [fromB_one] at hrf); (try rw [withinB_iff] at hrf); (try rw [withinB_no] at hrf))) | ((refine ar_re (t := 43) (v' := .sl 2 2 a.item.toNat (cutP s a.item a.n).length) rfl (by rw [hcl (by omega) (by omega)]; simp; try omega) ?_; refine ar_pcall (own := true) fn121 rfl rfl (.cons (.lent rfl rfl (by rw [hcl (by omega) (by omega)]; omega) (fun _ _ => rfl) (fun k hk => congrArg Prt.enc (hce k (by rw [← hcl (by omega) (by omega)]; exact hk)))) (.cons (.closed rfl) .nil)) (containsP_p (cutP s a.item a.n)) (by intros; subst_vars; rfl) (dc rfl) ?_; intro _ hv; subst hv)) | (refine zcl (a := a.item.toNat) (b := s.prints.length) ?_) | (refine zcs (a := a.item.toNat) (b := s.prints.length) ?_) | (refine zcl (a := 0) (b := a.n.toNat) ?_) | (refine zcs (a := 0) (b := a.n.toNat) ?_) | (refine zbx ?_) | (refine zb1 ?_) | (refine zb0 ?_) | (refine zsvs ?_) | (refine zsva ?_) | (refine zses ?_) | (refine zsea ?_) | (refine zg ?_ ?_ <;> intro hg <;> first | exact absurd hg (by decide) | ((try replace hg := HG.out hg); (try dsimp only at hg); (try rw [fromB_one] at hg); (try rw [withinB_iff] at hg); (try rw [withinB_no] at hg); (try (have _h : True := hg; clear _h hg)); first | (exfalso; omega) | skip)) | (refine zgu ?_) | (refine ar_nil ?_) | (refine aw_seq ?_) | (refine aw_skip ?_) | (refine aw_block ?_) | (refine aw_exit ?_) | (refine aw_region ?_) | (refine aw_drawn (id := 2) [(0, 0), (1, 0), (2, 0), (3, 0), (4, 0), (5, 0), (6, 0), (7, 0), (8, 0), (9, 0), (10, 0), (11, 0), (12, 0), (13, 0), (14, 0), (15, 0), (16, 0), (17, 2)] mixed (by kernel_rfl) ?_) | (refine aw_drawn (id := 2) [(0, 0), (1, 0), (2, 0), (3, 0), (4, 0), (5, 0), (6, 0), (7, 0), (8, 0), (9, 0), (10, 0), (11, 0), (12, 0), (13, 0), (14, 0), (15, 0), (16, 0), (17, 1)] mixed (by kernel_rfl) ?_) | (refine aw_drawn (id := 3) [(0, 0), (1, 0), (2, 0), (3, 0), (4, 0), (5, 0), (6, 0), (7, 0), (8, 0), (9, 0), (10, 0), (11, 0)] mixed (by kernel_rfl) ?_) | (refine zco ?_ ?_ <;> intro hg <;> first | exact absurd hg (by decide) | ((try replace hg := HG.out hg); (try dsimp only at hg); (try rw [fromB_one] at hg); (try rw [withinB_iff] at hg); (try rw [withinB_no] at hg); (try (have _h : True := hg; clear _h hg)); first | (exfalso; omega) | skip))))
  all_goals first
    | exact bad 2 (e2 (by omega)) (by decide)
    | exact bad 6 (e6 (by omega) (by omega)) (by decide)
    | exact bad 83 (e83 (by omega) (by omega) (by assumption)) (by decide)
    | skip
  rename_i hr1 hr2 hr3 hr4
  refine aw_for a.n.toNat (fun _ => True) (fun k => [(0, .ptr 4 0 0 0), (2, vu8 st), (6, .sl 2 2 (0 + a.item.toNat + 0) (a.n.toNat - 0)), (47, vi ((a.n.toNat - 0 : Nat) : Int)), (48, vi k)]) (fun k => [.arr 4 1 (fun _ => stoV 0 s), LB 5 Itm.enc s.items, .arr 2 s.prints.length (fun j => (stateAt s.prints (0 + a.item.toNat + 0) k st j).enc), mapE vi p]) trivial ?_ ?_
  · (refine sub_to [some 0, some 1, some 2, some 3] [] rfl ?_ ?_ <;> (repeat' (first | exact trivial | refine ⟨⟨_, rfl, ?_⟩, ?_⟩ | refine ⟨bsub_snoc rfl rfl (fun _ => rfl) ?_, ?_⟩ | refine ⟨bsub_one rfl rfl ?_, ?_⟩ | refine ⟨bsub_all rfl rfl (fun _ _ => rfl) (fun _ => rfl), ?_⟩ | refine ⟨bsub_updL rfl rfl ?_ (fun _ _ _ => rfl) (fun _ => rfl), ?_⟩ | refine ⟨.inl ⟨_, _, rfl, rfl, ?_⟩, ?_⟩ | exact ⟨.inr ⟨rfl, rfl⟩, trivial⟩ | refine ⟨.inr ⟨rfl, rfl⟩, ?_⟩ | (intro _ _) | exact vz1 | (first | exact VSub.of_eq (congrArg Prt.enc (state_zero _ _ _ _).symm) rfl | refine ⟨bsub_mapE rfl rfl (fun _ => rfl), ?_⟩ | exact VSub.aggL ⟨.closed rfl, .sl rfl, .sl rfl, .map rfl, trivial⟩) | exact vz2 | fail)))
  intro k hk _
  by_cases hlt : k < a.n.toNat
  · 
    (repeat' (first | (refine ar_isq ?_; first | refine zmv ?_ | refine zas ?_ | (refine is_load ?_; first | refine zlp ?_ | refine zlr ?_) | (refine is_binOp ?_; first | refine zlss ?_ | refine zgtr ?_ | refine zadd ?_ | refine zsub ?_) | (refine is_fieldAddr ?_; first | refine zfp ?_ | refine zfr ?_) | (refine is_indexAddr ?_; first | refine zil ?_ | refine zis ?_ | refine zit ?_ | refine zia ?_ | refine zir ?_ | refine zil (j := k) ?_ | refine zis (j := k) ?_ | refine zit (j := k) ?_ | (refine zxl ?_; intro _ _ _) | (refine zxs ?_; intro _ _ _)) | (refine is_call ?_; first | refine zll ?_ | refine zls ?_ | refine zln ?_ | refine zle ?_) | (refine is_pick ?_; first | refine zpt ?_ | refine zpf ?_) | refine znt ?_ | refine zncp ?_ | refine zncr ?_) | (refine zcl ?_) | (refine zcs ?_) | (refine zbx ?_) | (refine zb1 ?_) | (refine zb0 ?_) | (refine zsvs ?_) | (refine zsva ?_) | (refine zses ?_) | (refine zsea ?_) | (refine zg ?_ ?_ <;> intro hg <;> first | exact absurd hg (by decide) | ((try replace hg := HG.out hg); (try dsimp only at hg); (try (have _h : True := hg; clear _h hg)); first | (exfalso; omega) | skip)) | (refine zgu ?_) | (refine ar_nil ?_) | (refine aw_seq ?_) | (refine aw_skip ?_) | (refine aw_block ?_) | (refine aw_exit ?_) | (refine aw_region ?_) | (refine aw_drawn (id := 2) [(0, 0), (1, 0), (2, 0), (3, 0), (4, 0), (5, 0), (6, 0), (7, 0), (8, 0), (9, 0), (10, 0), (11, 0), (12, 0), (13, 0), (14, 0), (15, 0), (16, 0), (17, 2)] mixed (by kernel_rfl) ?_) | (refine aw_drawn (id := 2) [(0, 0), (1, 0), (2, 0), (3, 0), (4, 0), (5, 0), (6, 0), (7, 0), (8, 0), (9, 0), (10, 0), (11, 0), (12, 0), (13, 0), (14, 0), (15, 0), (16, 0), (17, 1)] mixed (by kernel_rfl) ?_) | (refine aw_drawn (id := 3) [(0, 0), (1, 0), (2, 0), (3, 0), (4, 0), (5, 0), (6, 0), (7, 0), (8, 0), (9, 0), (10, 0), (11, 0)] mixed (by kernel_rfl) ?_) | (refine zco ?_ ?_ <;> intro hg <;> first | exact absurd hg (by decide) | ((try replace hg := HG.out hg); (try dsimp only at hg); (try (have _h : True := hg; clear _h hg)); first | (exfalso; omega) | skip))))
    all_goals first
      | (exfalso; omega)
      | ((first | refine loop_next (by omega) ?_ ?_ | refine (show _ ∧ _ ∧ SubOf _ _ _ _ _ _ from And.intro (by omega) (And.intro ?_ ?_))); (focus ((trivial); done)); (focus ((refine sub_to [some 0, some 1, some 2, some 3] [] rfl ?_ ?_ <;> (repeat' (first | exact trivial | refine ⟨⟨_, rfl, ?_⟩, ?_⟩ | refine ⟨bsub_snoc rfl rfl (fun _ => rfl) ?_, ?_⟩ | refine ⟨bsub_one rfl rfl ?_, ?_⟩ | refine ⟨bsub_all rfl rfl (fun _ _ => rfl) (fun _ => rfl), ?_⟩ | refine ⟨bsub_updL rfl rfl ?_ (fun _ _ _ => rfl) (fun _ => rfl), ?_⟩ | refine ⟨.inl ⟨_, _, rfl, rfl, ?_⟩, ?_⟩ | exact ⟨.inr ⟨rfl, rfl⟩, trivial⟩ | refine ⟨.inr ⟨rfl, rfl⟩, ?_⟩ | (intro _ _) | exact vz1 | (first | exact state_sub (by unfold stateAt; rw [if_neg (by omega)]; rfl) | refine ⟨bsub_mapE rfl rfl (fun _ => rfl), ?_⟩ | exact VSub.aggL ⟨.closed rfl, .sl rfl, .sl rfl, .map rfl, trivial⟩) | exact vz2 | fail))); done)))
      | trace_state
  · obtain rfl : k = a.n.toNat := by omega
    (repeat' (first | (refine ar_isq ?_; first | refine zmv ?_ | refine zas ?_ | (refine is_load ?_; first | refine zlp ?_ | refine zlr ?_) | (refine is_binOp ?_; first | refine zlss ?_ | refine zgtr ?_ | refine zadd ?_ | refine zsub ?_) | (refine is_fieldAddr ?_; first | refine zfp ?_ | refine zfr ?_) | (refine is_indexAddr ?_; first | refine zil ?_ | refine zis ?_ | refine zit ?_ | refine zia ?_ | refine zir ?_ | (refine zxl ?_; intro _ _ _) | (refine zxs ?_; intro _ _ _)) | (refine is_call ?_; first | refine zll ?_ | refine zls ?_ | refine zln ?_ | refine zle ?_) | (refine is_pick ?_; first | refine zpt ?_ | refine zpf ?_) | refine znt ?_ | refine zncp ?_ | refine zncr ?_) | (refine zcl ?_) | (refine zcs ?_) | (refine zbx ?_) | (refine zb1 ?_) | (refine zb0 ?_) | (refine zsvs ?_) | (refine zsva ?_) | (refine zses ?_) | (refine zsea ?_) | (refine zg ?_ ?_ <;> intro hg <;> first | exact absurd hg (by decide) | ((try replace hg := HG.out hg); (try dsimp only at hg); (try (have _h : True := hg; clear _h hg)); first | (exfalso; omega) | skip)) | (refine zgu ?_) | (refine ar_nil ?_) | (refine aw_seq ?_) | (refine aw_skip ?_) | (refine aw_block ?_) | (refine aw_exit ?_) | (refine aw_region ?_) | (refine aw_drawn (id := 2) [(0, 0), (1, 0), (2, 0), (3, 0), (4, 0), (5, 0), (6, 0), (7, 0), (8, 0), (9, 0), (10, 0), (11, 0), (12, 0), (13, 0), (14, 0), (15, 0), (16, 0), (17, 2)] mixed (by kernel_rfl) ?_) | (refine aw_drawn (id := 2) [(0, 0), (1, 0), (2, 0), (3, 0), (4, 0), (5, 0), (6, 0), (7, 0), (8, 0), (9, 0), (10, 0), (11, 0), (12, 0), (13, 0), (14, 0), (15, 0), (16, 0), (17, 1)] mixed (by kernel_rfl) ?_) | (refine aw_drawn (id := 3) [(0, 0), (1, 0), (2, 0), (3, 0), (4, 0), (5, 0), (6, 0), (7, 0), (8, 0), (9, 0), (10, 0), (11, 0)] mixed (by kernel_rfl) ?_) | (refine zco ?_ ?_ <;> intro hg <;> first | exact absurd hg (by decide) | ((try replace hg := HG.out hg); (try dsimp only at hg); (try (have _h : True := hg; clear _h hg)); first | (exfalso; omega) | skip))))
    all_goals first
      | (exfalso; omega)
      | ((refine subq_n [] [.arr 4 1 (fun _ => stoV 0 (spendF s a.item a.n st)), LB 5 Itm.enc s.items, LB 2 Prt.enc (spendF s a.item a.n st).prints, mapE vi p] ?_ ?_; (focus ((refine sub_to [some 0, some 1, some 2, some 3] [] rfl ?_ ?_ <;> (repeat' (first | exact trivial | refine ⟨⟨_, rfl, ?_⟩, ?_⟩ | refine ⟨bsub_snoc rfl rfl (fun _ => rfl) ?_, ?_⟩ | refine ⟨bsub_one rfl rfl ?_, ?_⟩ | refine ⟨bsub_all rfl rfl (fun _ _ => rfl) (fun _ => rfl), ?_⟩ | refine ⟨bsub_updL rfl rfl ?_ (fun _ _ _ => rfl) (fun _ => rfl), ?_⟩ | refine ⟨.inl ⟨_, _, rfl, rfl, ?_⟩, ?_⟩ | exact ⟨.inr ⟨rfl, rfl⟩, trivial⟩ | refine ⟨.inr ⟨rfl, rfl⟩, ?_⟩ | (intro _ _) | exact vz1 | (first | refine ⟨bsub_len rfl rfl (spendF_len _ _ _ _) (fun j hj => by rw [spendF_el hj, Nat.zero_add, Nat.add_zero]) (fun _ => rfl), ?_⟩ | refine ⟨bsub_mapE rfl rfl (fun _ => rfl), ?_⟩ | exact VSub.aggL ⟨.closed rfl, .sl rfl, slEq rfl (spendF_len _ _ _ _).symm, .map rfl, trivial⟩) | exact vz2 | fail))); done)))
         exact bq0n ⟨e0 (by omega) (by omega) (by assumption), rfl, rfl⟩)
      | trace_state
section
variable {r : Option Nat} {m nt i d : Nat} {Q : Post} {env : Env} {H : Heap} {ops : Array Oper} {L : List Stp} {ty : TypeId} {pos : String} {after : Array Edge} {ats : Array TypeId} {x y z : Operand} {p : List (Int × Int)}
theorem ar_spend (s : Sto) (a : Deed) (st : Int) (hV : Valid s) (h1 : spendE s a.item a.n = 0 → AR Try.prog r m nt ops Q L ((d, .tup []) :: env) ((H.set 0 (.arr 4 1 (fun _ => stoV 0 (spendF s a.item a.n st)))).set 2 (LB 2 Prt.enc (spendF s a.item a.n st).prints))) (h2 : spendE s a.item a.n ≠ 0 → ∀ H', Q (.panic (errV (spendE s a.item a.n))) [] H') (hx : eo env x = some (.ptr 4 0 0 0)) (hy : eo env y = some a.enc) (hz : eo env z = some (vu8 st))
    (b0 : H[0]? = some (.arr 4 1 (fun _ => stoV 0 s))) (b1 : H[1]? = some (LB 5 Itm.enc s.items)) (b2 : H[2]? = some (LB 2 Prt.enc s.prints)) (b3 : H[3]? = some (mapE vi p)) (hl : 4 ≤ H.length) (hd : d < nt) :
    AR Try.prog r m nt ops Q (.l i ⟨some d, .call ⟨.value (.func 118), #[x, y, z], ats⟩, ty, pos, after, none⟩ false :: L) env H := by
  refine ar_gcall (H0 := stoB 0 s p) [0, 1, 2, 3] [] (args := [x, y, z]) (vs := [.ptr 4 0 0 0, a.enc, vu8 st]) (first := []) (cap := []) fn118 rfl (by rw [List.mapM_cons, List.mapM_cons, List.mapM_cons, List.mapM_nil, hx, hy, hz]; rfl) (xs := [.ptr 4 0 0 0, a.enc, vu8 st]) ⟨.ptr rfl, .closed rfl, .closed rfl, trivial⟩ rfl (by decide) (fun _ h => by cases h) (hsub4 b0 b1 b2 b3) stoB_live (spend_p s p a st hV) hd ?_ ?_
  · rintro _ _ ⟨hh, rfl, rfl⟩
    rw [show stoB 0 (spendF s a.item a.n st) p = [.arr 4 1 (fun _ => stoV 0 (spendF s a.item a.n st)), LB 5 Itm.enc s.items, LB 2 Prt.enc (spendF s a.item a.n st).prints, mapE vi p] from rfl, join4 hl, mapE_ren]
    have e1 : (H.set 0 ((Blk.arr 4 1 (fun _ => stoV 0 (spendF s a.item a.n st))).ren (rn [0, 1, 2, 3] H.length))).set 1 ((LB 5 Itm.enc s.items).ren (rn [0, 1, 2, 3] H.length)) = H.set 0 (.arr 4 1 (fun _ => stoV 0 (spendF s a.item a.n st))) := set_same (by rw [List.getElem?_set_ne (by decide)]; exact b1)
    rw [e1, set_same (by rw [List.getElem?_set_ne (by decide), List.getElem?_set_ne (by decide)]; exact b3), List.map_nil, List.append_nil]
    exact h1 hh
  · rintro _ _ ⟨hh, rfl⟩
    exact h2 hh _
end
theorem issue_p (s : Sto) (p : List (Int × Int)) (a : Deed) (hV : Valid s) : ACalls Try.prog 108 [.ptr 4 0 0 0, a.enc] (stoB 0 s p)
    (fun v H => spendE s a.item a.n = 0 ∧ v = .tup [] ∧ H = stoB 0 (spendF s a.item a.n 1) p) (fun v _ => spendE s a.item a.n ≠ 0 ∧ v = errV (spendE s a.item a.n)) := by
  refine acalls_of_aw Try.func108 rfl (Nat.le_of_ble_eq_true rfl) ?_; refine aw_post ?_
  (repeat' (first | (refine ar_isq ?_; first | refine zmv ?_ | (refine is_load ?_; first | refine zlp ?_ | refine zlr ?_)) | (refine ar_spend s a 1 hV ?_ ?_ rfl rfl rfl rfl rfl rfl rfl (dc rfl) (dc rfl) <;> intro hrf) | (refine zbx ?_) | (refine ar_nil ?_) | (refine aw_seq ?_) | (refine aw_skip ?_) | (refine aw_block ?_) | (refine aw_exit ?_) | (refine aw_region ?_) | (refine zco ?_ ?_ <;> intro hg <;> first | exact absurd hg (by decide) | ((try replace hg := HG.out hg); (try dsimp only at hg); (try (have _h : True := hg; clear _h hg)); first | (exfalso; omega) | skip))))
  · (refine subq_n [] [.arr 4 1 (fun _ => stoV 0 (spendF s a.item a.n 1)), LB 5 Itm.enc s.items, LB 2 Prt.enc (spendF s a.item a.n 1).prints, mapE vi p] ?_ ?_; (focus ((refine sub_to [some 0, some 1, some 2, some 3] [] rfl ?_ ?_ <;> (repeat' (first | exact trivial | refine ⟨⟨_, rfl, ?_⟩, ?_⟩ | refine ⟨bsub_snoc rfl rfl (fun _ => rfl) ?_, ?_⟩ | refine ⟨bsub_one rfl rfl ?_, ?_⟩ | refine ⟨bsub_all rfl rfl (fun _ _ => rfl) (fun _ => rfl), ?_⟩ | refine ⟨bsub_updL rfl rfl ?_ (fun _ _ _ => rfl) (fun _ => rfl), ?_⟩ | refine ⟨.inl ⟨_, _, rfl, rfl, ?_⟩, ?_⟩ | exact ⟨.inr ⟨rfl, rfl⟩, trivial⟩ | refine ⟨.inr ⟨rfl, rfl⟩, ?_⟩ | (intro _ _) | exact vz1 | (first | refine ⟨bsub_mapE rfl rfl (fun _ => rfl), ?_⟩ | exact VSub.aggL ⟨.closed rfl, .sl rfl, .sl rfl, .map rfl, trivial⟩) | exact vz2 | fail))); done)))
    exact bq0n ⟨hrf, rfl, rfl⟩
  · intro H'; exact (⟨hrf, rfl⟩ : spendE s a.item a.n ≠ 0 ∧ errV (spendE s a.item a.n) = errV (spendE s a.item a.n))
theorem spoil_p (s : Sto) (p : List (Int × Int)) (a : Deed) (hV : Valid s) : ACalls Try.prog 109 [.ptr 4 0 0 0, a.enc] (stoB 0 s p)
    (fun v H => spendE s a.item a.n = 0 ∧ v = .tup [] ∧ H = stoB 0 (spendF s a.item a.n 2) p) (fun v _ => spendE s a.item a.n ≠ 0 ∧ v = errV (spendE s a.item a.n)) := by
  refine acalls_of_aw Try.func109 rfl (Nat.le_of_ble_eq_true rfl) ?_; refine aw_post ?_
  (repeat' (first | (refine ar_isq ?_; first | refine zmv ?_ | (refine is_load ?_; first | refine zlp ?_ | refine zlr ?_)) | (refine ar_spend s a 2 hV ?_ ?_ rfl rfl rfl rfl rfl rfl rfl (dc rfl) (dc rfl) <;> intro hrf) | (refine zbx ?_) | (refine ar_nil ?_) | (refine aw_seq ?_) | (refine aw_skip ?_) | (refine aw_block ?_) | (refine aw_exit ?_) | (refine aw_region ?_) | (refine zco ?_ ?_ <;> intro hg <;> first | exact absurd hg (by decide) | ((try replace hg := HG.out hg); (try dsimp only at hg); (try (have _h : True := hg; clear _h hg)); first | (exfalso; omega) | skip))))
  · (refine subq_n [] [.arr 4 1 (fun _ => stoV 0 (spendF s a.item a.n 2)), LB 5 Itm.enc s.items, LB 2 Prt.enc (spendF s a.item a.n 2).prints, mapE vi p] ?_ ?_; (focus ((refine sub_to [some 0, some 1, some 2, some 3] [] rfl ?_ ?_ <;> (repeat' (first | exact trivial | refine ⟨⟨_, rfl, ?_⟩, ?_⟩ | refine ⟨bsub_snoc rfl rfl (fun _ => rfl) ?_, ?_⟩ | refine ⟨bsub_one rfl rfl ?_, ?_⟩ | refine ⟨bsub_all rfl rfl (fun _ _ => rfl) (fun _ => rfl), ?_⟩ | refine ⟨bsub_updL rfl rfl ?_ (fun _ _ _ => rfl) (fun _ => rfl), ?_⟩ | refine ⟨.inl ⟨_, _, rfl, rfl, ?_⟩, ?_⟩ | exact ⟨.inr ⟨rfl, rfl⟩, trivial⟩ | refine ⟨.inr ⟨rfl, rfl⟩, ?_⟩ | (intro _ _) | exact vz1 | (first | refine ⟨bsub_mapE rfl rfl (fun _ => rfl), ?_⟩ | exact VSub.aggL ⟨.closed rfl, .sl rfl, .sl rfl, .map rfl, trivial⟩) | exact vz2 | fail))); done)))
    exact bq0n ⟨hrf, rfl, rfl⟩
  · intro H'; exact (⟨hrf, rfl⟩ : spendE s a.item a.n ≠ 0 ∧ errV (spendE s a.item a.n) = errV (spendE s a.item a.n))
end Go.Proofs.Ythpbjihnikapoaa
namespace Go.Proofs.Ythpbjihnikapoaa
open Go.RowKit
section
variable {P : Program} {ops : Array Oper} {r : Option Nat} {Q Q' : Exit → Act → World → Prop}
theorem drawn_go1 (hsel : Region.noSelect ops = true) (hQ : ∀ (i : Nat) (o : Oper), ops[i]? = some o → ∀ c a v w, Q (.panic c) (a.put o.dst v) w → Q (.panic c) a w) :
    ∀ (l : List Stp) (listed : Array Bool) (S : World → Prop) (a : Act) (w : World), (∀ s ∈ l, s.flat = true → ops[s.idx]? = some s.oper) → ShutL ops listed → planOk0 ops listed l = true → S w →
      runP0 P r ops Q l S a w → wpAnyS P r ops Q S (phaseEnd ops.size l) l.length listed a w
  | [], listed, S, a, w, _, _, hok, _, h => ⟨by simpa [planOk0] using hok, h⟩
  | .q i o :: l, listed, S, a, w, hn, hsh, hok, hS, h => by
    simp only [planOk0, Bool.and_eq_true] at hok
    obtain ⟨⟨⟨⟨⟨hp, hr⟩, hf⟩, hl⟩, him⟩, hok'⟩ := hok
    have hi : ops[i]? = some o := hn (.q i o) (by simp) rfl
    simp only [runP0] at h
    have hn' : ∀ s ∈ l, s.flat = true → ops[s.idx]? = some s.oper := fun s hs => hn s (by simp [hs])
    show wpAnyS P r ops Q S (phaseEnd ops.size l) (l.length + 1) listed a w
    rw [Bool.or_eq_true] at hl
    have hri : i ∈ Region.ready .any ops listed := by simpa using hr
    rcases hl with hl | hl
    · cases hw : Region.wanted o (yielded ops a.tmps)
      · exact first_S (v := undef) hp hi hsel (fun c a w => hQ i o hi c a undef w) (awaits_of hl) (by simpa using him) l.length listed a w (Region.free_spec hi hf) hsh hri (.inr ⟨hw, rfl⟩) hS
          (drawn_go1 hsel hQ l _ S _ w hn' (hsh.set hri) hok' hS (h.2 hw))
      · obtain ⟨u, h1, h2⟩ := h.1 hw
        exact first_S (v := u) hp hi hsel (fun c a w => hQ i o hi c a u w) (awaits_of hl) (by simpa using him) l.length listed a w (Region.free_spec hi hf) hsh hri (.inl ⟨hw, h1⟩) hS
          (drawn_go1 hsel hQ l _ S _ w hn' (hsh.set hri) hok' hS h2)
    · cases hw : Region.wanted o (yielded ops a.tmps)
      · exact first_still (v := undef) hp hi hsel (fun c a w => hQ i o hi c a undef w) (by simpa using him) l.length listed a w (Region.free_spec hi hf) hsh hri (.inr ⟨hw, rfl⟩) hS
          (drawn_go1 hsel hQ l _ S _ w hn' (hsh.set hri) hok' hS (h.2 hw))
      · obtain ⟨u, h1, h2⟩ := h.1 hw
        exact first_still (v := u) hp hi hsel (fun c a w => hQ i o hi c a u w) (by simpa using him) l.length listed a w (Region.free_spec hi hf) hsh hri (.inl ⟨hw, fun w' _ => still_all hl (h1 w hS) w'⟩) hS
          (drawn_go1 hsel hQ l _ S _ w hn' (hsh.set hri) hok' hS h2)
  | .l i o keep :: l, listed, S, a, w, hn, hsh, hok, hS, h => by
    simp only [planOk0, Bool.and_eq_true, beq_iff_eq] at hok
    obtain ⟨⟨hr, hk⟩, hok'⟩ := hok
    have hi : ops[i]? = some o := hn (.l i o keep) (by simp) rfl
    have hn' : ∀ s ∈ l, s.flat = true → ops[s.idx]? = some s.oper := fun s hs => hn s (by simp [hs])
    refine ⟨fun h0 => (by rw [hr] at h0; cases h0), fun j hj => ?_⟩
    have hj0 := hj
    rw [hr] at hj
    obtain rfl : j = i := by simpa using hj
    exact head_ok (R := runP0 P r ops Q l) hi hS (fun e => by rw [e] at hk; simpa using hk) (fun S' a' w' h1 h3 => drawn_go1 hsel hQ l _ S' a' w' hn' (hsh.set hj0) hok' h1 h3) h
/-- A plan without forks. -/
theorem region_drawn1 {l : List Oper} {id : Nat} {a : Act} {w : World} (ps : List (Nat × Nat)) (S : World → Prop) (hm : P.follows .mixedOrders = true) (hB : (ps.all (fun x => decide (x.1 < l.length)) && Region.noSelect l.toArray && planOk0 l.toArray (Array.replicate l.toArray.size false) (numPlan l ps) && (ps.length == l.length)) = true)
    (hQ : ∀ (i : Nat) (o : Oper), l.toArray[i]? = some o → ∀ c a v w, Q (.panic c) (a.put o.dst v) w → Q (.panic c) a w)
    (hS : S { w with drawn := w.drawn + 1 }) (h : runP0 P r l.toArray Q (numPlan l ps) S a { w with drawn := w.drawn + 1 }) : (Code.region id l.toArray true).wpIn (Fw r) 0 P Q a w := by
  simp only [Bool.and_eq_true, beq_iff_eq, List.all_eq_true, decide_eq_true_eq] at hB
  obtain ⟨⟨⟨hn, hsel⟩, hok⟩, hlen⟩ := hB
  refine wpIn_region_any hm ?_
  have := any_of_S _ _ _ _ (drawn_go1 hsel hQ (numPlan l ps) _ S a _ (fun s hs _ => by
    simp only [numPlan, List.mem_map] at hs
    obtain ⟨x, hx, rfl⟩ := hs
    have := opAt_get l x.1 (hn x hx)
    split <;> simpa [Stp.idx, Stp.oper] using this) (fun j oj _ hl => by exfalso; rw [Array.getD_eq_getD_getElem?, Array.getElem?_replicate] at hl; split at hl <;> simp at hl) hok hS h)
  rw [show (numPlan l ps).length = l.toArray.size by simp [numPlan, hlen]] at this
  exact this
/-- The register (and, if asked, the deferred calls) are avs they were. -/
structure Pin where
  t : Nat
  u : Value
  ds : Option (List Deferred)
def Pin.Ok (p : Pin) (a : Act) : Prop := a.tmps.getD p.t undef = p.u ∧ ∀ ds, p.ds = some ds → a.defers = ds
def PinQ (p : Pin) (Q : Exit → Act → World → Prop) : Exit → Act → World → Prop
  | .outgrown, a, w => Q .outgrown a w
  | e, a, w => Q e a w ∧ p.Ok a
/-- An operation of which one sees that it defers nothing. -/
def calmOp : Op → Bool
  | .move _ | .assign _ | .pick .. | .load .. | .binOp .. | .unOp .. | .convert .. | .fieldAddr .. | .field .. | .indexAddr .. | .index .. | .slice .. | .lookup .. | .extract .. | .build .. | .makeInterface .. | .makeFunc .. | .typeAssert .. | .store .. | .panic _ => true
  | _ => false
def opKeeps (t : Nat) (pd : Bool) (o : Oper) : Bool := !(o.dst == some t) && (!pd || calmOp o.op)
theorem op_dst {t : Nat} {pd : Bool} {o : Oper} (h : opKeeps t pd o = true) : o.dst ≠ some t := by
  unfold opKeeps at h
  simp only [Bool.and_eq_true] at h
  exact fun e => by rw [e] at h; simp at h
theorem op_calm {t : Nat} {o : Oper} (h : opKeeps t true o = true) : calmOp o.op = true := by
  unfold opKeeps at h
  simp only [Bool.and_eq_true] at h
  simpa using h.2
theorem val_no {s : Sem Value} {w w' : World} {d : Deferred} (h : ((do let x ← s; pure (Next.value x)) : Sem Next).run P w = .ok (.defer d) w') : False := by
  rw [Sem.run_bind] at h
  cases hs : s.run P w <;> rw [hs] at h <;> simp at h
theorem skip_no {s : Sem Unit} {w w' : World} {d : Deferred} (h : ((do s; pure Next.skip) : Sem Next).run P w = .ok (.defer d) w') : False := by
  rw [Sem.run_bind] at h
  cases hs : s.run P w <;> rw [hs] at h <;> simp at h
theorem calm_no {o : Oper} {r : Option Nat} {a : Act} {w w' : World} {d : Deferred} (ho : calmOp o.op = true) (h : (o.semAt (Fw r).round a.eval).run P w = .ok (.defer d) w') : False := by
  rw [Oper.semAt_eq _ _ _ (fun c e => by rw [e] at ho; cases ho)] at h
  unfold execOp at h
  cases hop : o.op <;> rw [hop] at h ho <;> first | (cases ho; done) | exact val_no h | exact skip_no h | (simp at h; done) | skip
  rename_i c x y
  simp only [Sem.run_bind] at h
  cases hs : (asBool (a.eval c)).run P w <;> rw [hs] at h <;> simp at h
theorem put_pin {p : Pin} {a : Act} (h : p.Ok a) {d : Option Tmp} (hd : d ≠ some p.t) (v : Value) : p.Ok (a.put d v) := by
  cases d with
  | none => exact h
  | some d =>
    have : d ≠ p.t := fun e => hd (by rw [e])
    exact ⟨by simpa [Act.put, Array.getElem?_setIfInBounds_ne this] using h.1, h.2⟩
theorem pin_put {p : Pin} {a : Act} {d : Option Tmp} (hd : d ≠ some p.t) {v : Value} (h : p.Ok (a.put d v)) : p.Ok a := by
  cases d with
  | none => exact h
  | some d =>
    have : d ≠ p.t := fun e => hd (by rw [e])
    exact ⟨by simpa [Act.put, Array.getElem?_setIfInBounds_ne this] using h.1, h.2⟩
theorem wpIn_pin {p : Pin} {o : Oper} {a : Act} {w : World} {next next' : Act → World → Prop} (hk : opKeeps p.t p.ds.isSome o = true) (ha : p.Ok a) (hn : ∀ a' w', p.Ok a' → next a' w' → next' a' w')
    (h : o.wpIn (Fw r) 0 P a w next Q) : o.wpIn (Fw r) 0 P a w next' (PinQ p Q) := by
  have hd := op_dst hk
  refine ⟨h.1, ?_⟩
  have h2 := h.2
  revert h2
  generalize hres : (o.semAt (Fw r).round a.eval).run P w = res
  intro h2
  cases res
  case ok x w' =>
    cases x
    case value v => exact hn _ _ (put_pin ha hd v) h2
    case skip => exact hn _ _ (put_pin ha hd undef) h2
    case defer d =>
      cases hds : p.ds with
      | some ds => rw [hds] at hk; exact (calm_no (op_calm hk) hres).elim
      | none => exact hn _ _ (put_pin (a := { a with defers := d :: a.defers }) ⟨ha.1, fun ds e => by rw [hds] at e; cases e⟩ hd undef) h2
    case enter f args =>
      refine ⟨h2.1, h2.2.mono fun e w'' he => ?_⟩
      cases e
      case returned v => exact hn _ _ (put_pin ha hd v) he
      case panicked c => exact ⟨he, ha⟩
      all_goals exact he
    case row row args => exact ⟨h2.1, h2.2.mono fun v w'' he => hn _ _ (put_pin ha hd v) he⟩
    case round l f tmps args body =>
      refine ⟨h2.1, h2.2.mono fun e w'' he => ?_⟩
      cases e
      case returned v => exact hn _ _ (put_pin ha hd v) he
      case panicked c => exact ⟨he, ha⟩
      all_goals exact he
    all_goals exact h2.elim
  case halt x w' =>
    cases x
    case panic v => exact ⟨h2, ha⟩
    all_goals exact h2.elim
theorem runP0_pin {p : Pin} : ∀ {l : List Stp} {S : World → Prop} {a : Act} {w : World}, (∀ s ∈ l, s.flat = true ∧ opKeeps p.t p.ds.isSome s.oper = true) → p.Ok a → runP0 P r ops Q l S a w → runP0 P r ops (PinQ p Q) l S a w
  | [], _, _, _, _, ha, h => ⟨h, ha⟩
  | .q i o :: l, S, a, w, hf, ha, h => by
    have hf' : ∀ s ∈ l, s.flat = true ∧ opKeeps p.t p.ds.isSome s.oper = true := fun s hs => hf s (by simp [hs])
    have hd : o.dst ≠ some p.t := op_dst (hf (.q i o) (by simp)).2
    refine ⟨fun hw => ?_, fun hw => runP0_pin hf' (put_pin ha hd _) (h.2 hw)⟩
    obtain ⟨v, h1, h2⟩ := h.1 hw
    exact ⟨v, h1, runP0_pin hf' (put_pin ha hd _) h2⟩
  | .l i o keep :: l, S, a, w, hf, ha, h => by
    have hf' : ∀ s ∈ l, s.flat = true ∧ opKeeps p.t p.ds.isSome s.oper = true := fun s hs => hf s (by simp [hs])
    have hk := (hf (.l i o keep) (by simp)).2
    refine ⟨fun hw => wpIn_pin hk ha ?_ (h.1 hw), fun hw => runP0_pin hf' (put_pin ha (op_dst hk) _) (h.2 hw)⟩
    rintro a' w' ha' ⟨S', h1, h2, h3⟩
    exact ⟨S', h1, h2, runP0_pin hf' ha' h3⟩
  | .fork ps :: l, S, a, w, hf, _, _ => by have := (hf (.fork ps) (by simp)).1; cases this
theorem runP_pin {p : Pin} : ∀ {l : List Stp} {S : World → Prop} {a : Act} {w : World}, (∀ s ∈ l, s.flat = true ∧ opKeeps p.t p.ds.isSome s.oper = true) → p.Ok a → runP P r ops Q l S a w → runP P r ops (PinQ p Q) l S a w
  | [], _, _, _, _, ha, h => ⟨h, ha⟩
  | .q i o :: l, S, a, w, hf, ha, h => by
    have hf' : ∀ s ∈ l, s.flat = true ∧ opKeeps p.t p.ds.isSome s.oper = true := fun s hs => hf s (by simp [hs])
    have hd : o.dst ≠ some p.t := op_dst (hf (.q i o) (by simp)).2
    refine ⟨fun hw => ?_, fun hw => runP_pin hf' (put_pin ha hd _) (h.2 hw)⟩
    obtain ⟨v, h1, h2⟩ := h.1 hw
    exact ⟨v, h1, runP_pin hf' (put_pin ha hd _) h2⟩
  | .l i o keep :: l, S, a, w, hf, ha, h => by
    have hf' : ∀ s ∈ l, s.flat = true ∧ opKeeps p.t p.ds.isSome s.oper = true := fun s hs => hf s (by simp [hs])
    have hk := (hf (.l i o keep) (by simp)).2
    refine ⟨fun hw => wpIn_pin hk ha ?_ (h.1 hw), fun hw => runP_pin hf' (put_pin ha (op_dst hk) _) (h.2 hw)⟩
    rintro a' w' ha' ⟨S', h1, h2, h3⟩
    exact ⟨S', h1, h2, runP_pin hf' ha' h3⟩
  | .fork ps :: l, S, a, w, hf, _, _ => by have := (hf (.fork ps) (by simp)).1; cases this
end
namespace Pn
/-- The walk of a piece of code that keeps register t and defers nothing. -/
structure AW (t : Nat) (pd : Bool) (P : Program) (r : Option Nat) (m nt : Nat) (c : Code) (Q : Post) (env : Env) (H : Heap) : Prop where
  out : ∀ X I ρ a w (p : Pin), p.t = t → p.ds.isSome = pd → X.ρ.length = m → St X nt env H I ρ a w → p.Ok a → c.wpIn (Fw r) 0 P (PinQ p (Lift X nt Q)) a w
section
variable {t : Nat} {pd : Bool} {P : Program} {r : Option Nat} {m nt : Nat} {Q Q' : Post} {env env' : Env} {H H' : Heap}
theorem aw_skip (h : Q .normal env H) : AW t pd P r m nt .skip Q env H := .mk fun _ I ρ _ _ _ _ _ _ hs ha => wpIn_skip ⟨⟨env, H, I, ρ, hs, h⟩, ha⟩
theorem aw_exit {id : Nat} (h : Q (.exit id) env H) : AW t pd P r m nt (.exit id) Q env H := .mk fun _ I ρ _ _ _ _ _ _ hs ha => wpIn_exit ⟨⟨env, H, I, ρ, hs, h⟩, ha⟩
theorem aw_ret (h : Q .ret env H) : AW t pd P r m nt .ret Q env H := .mk fun _ I ρ _ _ _ _ _ _ hs ha => wpIn_ret ⟨⟨env, H, I, ρ, hs, h⟩, ha⟩
theorem aw_seq {x y : Code} (h : AW t pd P r m nt x (AE.then (AW t pd P r m nt y Q) Q) env H) : AW t pd P r m nt (.seq x y) Q env H := .mk
  fun X I ρ a w p hp hq0 hX hs ha => wpIn_seq (wpIn_mono (h.1 X I ρ a w p hp hq0 hX hs ha) fun e a' w' hl => by
    cases e with
    | normal => obtain ⟨⟨env', H', I', ρ', hs', hq⟩, ha'⟩ := hl; exact hq.1 X I' ρ' a' w' p hp hq0 hX hs' ha'
    | exit _ => exact hl
    | goto _ => exact hl
    | ret => exact hl
    | panic _ => exact hl
    | outgrown => exact hl)
theorem aw_cond {c : Operand} {x y : Code} {b : Bool} (hc : eo env c = some (.s (.bool b))) (ht : b = true → AW t pd P r m nt x Q env H) (hf : b = false → AW t pd P r m nt y Q env H) : AW t pd P r m nt (.cond c x y) Q env H := .mk
  fun X I ρ a w p hp hq hX hs ha => wpIn_cond_split (eo_bool hs.1 hc) (fun e => (ht e).1 X I ρ a w p hp hq hX hs ha) (fun e => (hf e).1 X I ρ a w p hp hq hX hs ha)
theorem aw_block {id : Nat} {c : Code} (h : AW t pd P r m nt c (AE.inBlock id Q) env H) : AW t pd P r m nt (.block id c) Q env H := .mk
  fun X I ρ a w p hp hq hX hs ha => wpIn_block (wpIn_mono (h.1 X I ρ a w p hp hq hX hs ha) fun e a w h => by
    cases e with
    | exit id' =>
      obtain ⟨⟨env, H, I, ρ, hs, hq⟩, ha⟩ := h
      simp only [AE.inBlock] at hq
      simp only [Exit.inBlock]
      cases hb : Nat.beq id' id
      · rw [hb] at hq
        rw [if_neg (fun e => by rw [e, Nat.beq_refl] at hb; cases hb)]
        exact ⟨⟨env, H, I, ρ, hs, hq⟩, ha⟩
      · rw [hb] at hq
        rw [if_pos (Nat.eq_of_beq_eq_true hb)]
        exact ⟨⟨env, H, I, ρ, hs, hq⟩, ha⟩
    | normal => exact h
    | goto _ => exact h
    | ret => exact h
    | panic _ => exact h
    | outgrown => exact h)
theorem aw_region {l : List Oper} {id : Nat} (h : AR P r m nt l.toArray Q (textPlan l 0) env H) (hk : l.all (opKeeps t pd) = true := by rfl) : AW t pd P r m nt (.region id l.toArray false) Q env H := .mk fun X I ρ a w p hp hq hX hs ha => by
  subst hp hq
  exact region_text (Keeps I ρ H w) (Keeps.refl hs.2.1) (runP_pin (fun s hs => ⟨textPlan_flat l 0 s hs, (by
    have key : ∀ (l : List Oper) (n : Nat), l.all (opKeeps p.t p.ds.isSome) = true → ∀ s ∈ textPlan l n, opKeeps p.t p.ds.isSome s.oper = true := fun l => by
      induction l with
      | nil => intro n _ s hs; simp [textPlan] at hs
      | cons o l ih =>
        intro n hl s hs
        simp only [List.all_cons, Bool.and_eq_true] at hl
        unfold textPlan at hs
        rcases List.mem_cons.1 hs with h | h
        · rw [h]; cases plainOp o.op <;> exact hl.1
        · exact ih _ hl.2 s h
    exact key l 0 hk s hs)⟩) ha (h.1 X I ρ a w hX hs))
theorem aw_drawn {l : List Oper} {id : Nat} (ps : List (Nat × Nat)) (hm : P.follows .mixedOrders = true) (_hB : drawnOk l ps = true) (h : AR P r m nt l.toArray Q (numPlan l ps) env H)
    (hB0 : (ps.all (fun x => decide (x.1 < l.length)) && Region.noSelect l.toArray && planOk0 l.toArray (Array.replicate l.toArray.size false) (numPlan l ps) && (ps.length == l.length)) = true := by kernel_rfl) (hk : l.all (opKeeps t pd) = true := by kernel_rfl) :
    AW t pd P r m nt (.region id l.toArray true) Q env H := .mk fun X I ρ a w p hp hq hX hs ha => by
  subst hp hq
  have hdl : ∀ o ∈ l, opKeeps p.t p.ds.isSome o = true := List.all_eq_true.1 hk
  refine region_drawn1 ps (Keeps I ρ H w) hm hB0 (fun i o hi c a' v w' hp => ⟨lift_put c a' o.dst v w' hp.1, pin_put (op_dst (hdl o (List.mem_of_getElem? (show l[i]? = some o by simpa using hi)))) hp.2⟩) (Keeps.refl (X := X) hs.2.1.drew) ?_
  refine runP0_pin (fun s hs' => ⟨numPlan_flat l ps s hs', ?_⟩) ha (run0 (numPlan_flat l ps) (h.1 X I ρ a _ hX ⟨hs.1, hs.2.1.drew, hs.2.2⟩))
  simp only [Bool.and_eq_true, List.all_eq_true, decide_eq_true_eq] at hB0
  unfold numPlan at hs'
  obtain ⟨x, hx, rfl⟩ := List.mem_map.1 hs'
  have := hdl _ (List.mem_of_getElem? (opAt_get l x.1 (hB0.1.1.1 x hx)))
  split <;> exact this
theorem aw_sub {c : Code} (hs : SubOf m nt env H env' H') (h : AW t pd P r m nt c Q env' H') : AW t pd P r m nt c Q env H := .mk fun X I ρ a w p hp hq hX h1 ha => by
  obtain ⟨I', ρ', _, h2⟩ := hs.1 X I ρ a w hX h1
  exact h.1 X I' ρ' a w p hp hq hX h2 ha
end
end Pn
theorem qs_build_arr {P : Program} {nt n : Nat} {env : Env} {H : Heap} {T E : TypeId} {d de : TyD} {dst : Option Tmp} {ty : TypeId} {pos : String} {after : Array Edge} {guard : Option (Nat × Bool)} {parts : Array (Nat × Operand)} {vs : List (Nat × V)} {ds : List V} (ht : TyIs P T d) (hk : d.tk = .array n E) (he : TyIs P E de) (hz : (constV d.zero).ok = true)
    (hv : parts.toList.mapM (fun p => (eo env p.2).map fun v => (p.1, v)) = some vs) (hb : BuildR (fun k => some (k * de.size, de.size)) (constV d.zero).cells vs ds) :
    QS P nt env H ⟨dst, .build T parts, ty, pos, after, guard⟩ (.agg ds) := .mk fun X I ρ a w h hw => by
  obtain ⟨e1, e2⟩ := evals2 h hv
  obtain ⟨out, h1, h2⟩ := fill_rel (I := I) (ρ := ρ) hb e1 e2 ((constV_rel I ρ d.zero).cells (V.ok_ne hz))
  refine ⟨.agg out, .agg h2.1 h2.2, fun w' _ => ?_⟩
  have h1' : Instr.fill (fun i => some (i * de.size, de.size)) d.zero.cells (parts.map fun p => (p.1, a.eval p.2)).toList = some out := by
    rw [← h1]
    simp
  simp only [execOp, Instr.build, Sem.run_bind, ht.zeroV, Result.andThen_ok, run_underlying (ht.arr hk), he.sizeOf]
  rw [h1']
  rfl
end Go.Proofs.Ythpbjihnikapoaa
namespace Go.Proofs.Ythpbjihnikapoaa
open Go.RowKit
section
variable {P : Program} {r : Option Nat} {m nt : Nat} {Q : Post} {env : Env} {H : Heap} {T T' : TypeId} {d : TyD} {x : Operand} {v : V} {dst : Option Tmp} {ty : TypeId} {pos : String} {after : Array Edge} {guard : Option (Nat × Bool)}
theorem TyIs.ifacek {b : Bool} (h : TyIs P T d) (hk : d.tk = .iface b) : ∃ ms, P.underlying T = some (.interface ms) := by
  obtain ⟨t, ht, hk'⟩ := h.desc
  rw [hk] at hk'
  cases t <;> simp [TK.of] at hk'
  exact ⟨_, ht⟩
theorem TyIs.funck (h : TyIs P T d) (hk : d.tk = .func) : ∃ a b c, P.underlying T = some (.func a b c) := by
  obtain ⟨t, ht, hk'⟩ := h.desc
  rw [hk] at hk'
  cases t <;> simp [TK.of] at hk'
  exact ⟨_, _, _, ht⟩
theorem eq_nn (d : Nat) {ms : Array (String × TypeId)} (w : World) (h : P.underlying T = some (.interface ms)) : (Op.equalIn (d + 1) T .nilIface .nilIface).run P w = .ok true w := by simp [Op.equalIn, run_underlying h]
theorem eq_in (d : Nat) {ms : Array (String × TypeId)} {t : TypeId} {u : Value} (w : World) (h : P.underlying T = some (.interface ms)) : (Op.equalIn (d + 1) T (.iface t u) .nilIface).run P w = .ok false w := by simp [Op.equalIn, run_underlying h]
theorem eq_ff (d : Nat) {a : Array TypeId} {b : Array TypeId} {c : Bool} (w : World) (h : P.underlying T = some (.func a b c)) : (Op.equalIn (d + 1) T .nilFunc .nilFunc).run P w = .ok true w := by simp [Op.equalIn, run_underlying h]
theorem eq_fn (d : Nat) {a : Array TypeId} {b : Array TypeId} {c : Bool} {g : Fn} {fs cs : Array Value} (w : World) (h : P.underlying T = some (.func a b c)) : (Op.equalIn (d + 1) T (.func g fs cs) .nilFunc).run P w = .ok false w := by simp [Op.equalIn, run_underlying h]
theorem qs_nilIsNil {b : Bool} (ht : TyIs P T d) (hk : d.tk = .iface b) (hx : eo env x = some (.s .nilIface)) : QS P nt env H ⟨dst, .binOp .eql T x (.const .nilIface) T', ty, pos, after, guard⟩ (.s (.bool true)) := .mk fun X I ρ a w h hw => by
  obtain ⟨ms, hu⟩ := ht.ifacek hk
  refine ⟨_, .s _, fun w' _ => ?_⟩
  have e : (Op.equal T .nilIface .nilIface).run P w' = .ok true w' := eq_nn 9999 w' hu
  have h2 : a.eval (.const .nilIface) = .nilIface := rfl
  simp [execOp, sval h hx, h2, eqGuard, binOp, e]
theorem qs_ifaceIsNil {b : Bool} {t : TypeId} (ht : TyIs P T d) (hk : d.tk = .iface b) (hx : eo env x = some (.iface t v)) : QS P nt env H ⟨dst, .binOp .eql T x (.const .nilIface) T', ty, pos, after, guard⟩ (.s (.bool false)) := .mk fun X I ρ a w h hw => by
  obtain ⟨ms, hu⟩ := ht.ifacek hk
  have h1 := eo_rel h hx
  cases h1' : a.eval x <;> rw [h1'] at h1 <;> cases h1
  rename_i u hu'
  refine ⟨_, .s _, fun w' _ => ?_⟩
  have e : (Op.equal T (.iface t u) .nilIface).run P w' = .ok false w' := eq_in 9999 w' hu
  have h2 : a.eval (.const .nilIface) = .nilIface := rfl
  simp [execOp, h1', h2, eqGuard, binOp, e]
theorem qs_nilFuncIsNil (ht : TyIs P T d) (hk : d.tk = .func) (hx : eo env x = some (.s .nilFunc)) : QS P nt env H ⟨dst, .binOp .eql T x (.const .nilFunc) T', ty, pos, after, guard⟩ (.s (.bool true)) := .mk fun X I ρ a w h hw => by
  obtain ⟨_, _, _, hu⟩ := ht.funck hk
  refine ⟨_, .s _, fun w' _ => ?_⟩
  have e : (Op.equal T .nilFunc .nilFunc).run P w' = .ok true w' := eq_ff 9999 w' hu
  have h2 : a.eval (.const .nilFunc) = .nilFunc := rfl
  simp [execOp, sval h hx, h2, eqGuard, binOp, e]
theorem qs_funcIsNil {g : Fn} {vs us : List V} (ht : TyIs P T d) (hk : d.tk = .func) (hx : eo env x = some (.fn g vs us)) : QS P nt env H ⟨dst, .binOp .eql T x (.const .nilFunc) T', ty, pos, after, guard⟩ (.s (.bool false)) := .mk fun X I ρ a w h hw => by
  obtain ⟨_, _, _, hu⟩ := ht.funck hk
  have h1 := eo_rel h hx
  cases h1' : a.eval x <;> rw [h1'] at h1 <;> cases h1
  rename_i fs cs _ _ _ _
  refine ⟨_, .s _, fun w' _ => ?_⟩
  have e : (Op.equal T (.func g fs cs) .nilFunc).run P w' = .ok false w' := eq_fn 9999 w' hu
  have h2 : a.eval (.const .nilFunc) = .nilFunc := rfl
  simp [execOp, h1', h2, eqGuard, binOp, e]
theorem qs_assert {k : IntKind} {B : TypeId} (ht : TyIs P T d) (hk : d.tk = .int k) (hx : eo env x = some (.iface T v)) : QS P nt env H ⟨dst, .typeAssert x B T true, ty, pos, after, guard⟩ (.tup [v, .s (.bool true)]) := .mk fun X I ρ a w h hw => by
  have h1 := eo_rel h hx
  cases h1' : a.eval x <;> rw [h1'] at h1 <;> cases h1
  rename_i u hu
  refine ⟨.tuple #[u, .bool true], .tup rfl (fun j v' u' h h' => ?_), fun w' _ => ?_⟩
  · match j with
    | 0 => simp at h h'; subst h h'; exact hu
    | 1 => simp at h h'; subst h h'; exact .s _
    | j + 2 => simp at h
  · simp [execOp, h1', Instr.typeAssert, run_underlying (ht.intk hk)]
end
/-- How the frame below goes: plainly, or with a panic. -/
def ModeRel (I : Imm) (ρ : List (Option (Nat × Nat))) : Option V → FrameMode → Prop
  | none, u => u = .returning
  | some v, u => ∃ y, VRel I ρ v y ∧ u = .panicking [{ v := y, recovered := false }]
/-- A deferred call that ends whatever panic there is. -/
structure DCalls (P : Program) (g : FuncId) (args : List V) (H : Heap) (pan : Option V) (R : Heap → Prop) : Prop where
  out : ∀ X I ρ w us u, WOk X I ρ H w → VRels I ρ args us → ModeRel I ρ pan u → CallsDIn Fence.wide 0 P g us u w fun e u' w' => ∃ x I' ρ' H', I.le I' ∧ Pre ρ ρ' ∧ WOk X I' ρ' H' w' ∧ e = .returned x ∧ settle u' = .returning ∧ R H'
def DQ (R : Heap → Prop) : Post
  | .normal, _, H => R H
  | .ret, _, H => R H
  | _, _, _ => False
section
variable {P : Program} {r : Option Nat} {m nt : Nat} {Q : Post} {env : Env} {H : Heap} {v : V} {ty : TypeId} {pos : String} {after : Array Edge}
theorem rec_ops {o : Oper} {y : Value} {cs cs' : List Frame} {a : Act} {w : World} {Q : Exit → Act → List Frame → World → Prop} (hg : o.guard = none) (he : (execOp a.eval o).run P w = .ok .recover w) (hr : (recoverD cs = some (y, cs')) ∨ (recoverD cs = none ∧ y = .nilIface ∧ cs' = cs))
    (h : Q .normal (a.put o.dst y) cs' w) : wpOpsSIn Fence.wide 0 P #[o] Q (List.range 1) a cs w := by
  show wpOpsSIn Fence.wide 0 P #[o] Q [0] a cs w
  have h0 : (#[o] : Array Oper)[0]? = some o := rfl
  simp only [wpOpsSIn, h0]
  refine ⟨fun _ _ => trivial, ?_⟩
  rw [if_pos (wanted_none hg)]
  simp only [he]
  rcases hr with h1 | ⟨h1, rfl, rfl⟩
  · simp only [h1]
    exact h
  · simp only [h1]
    exact h
theorem dcalls_of_aw {g : FuncId} {fn : Func} {id k : Nat} {c : Code} {args : List V} {pan : Option V} {R : Heap → Prop} (ats : Array TypeId) (hf : P.funcs[g]? = some fn)
    (hb : fn.body = some (.seq (.region id #[⟨some k, .call ⟨.builtin .recover, #[], ats⟩, ty, pos, after, none⟩] false) c)) (hn : args.length ≤ fn.ntmps) (hk : k < fn.ntmps) (hr : fn.results = #[]) (hp : ∀ v, pan = some v → ∃ t y, v = .iface t y)
    (h : Pn.AW fn.ntmps true P none H.length fn.ntmps c (DQ R) ((k, pan.getD (.s .nilIface)) :: argEnv args 0) H) : DCalls P g args H pan R := by
  refine ⟨fun X I ρ w us u hw hv hm => callsDIn_of_wpSIn hf hb trivial fun c₀ cs hu => wpSIn_seq (wpSIn_region ?_)⟩
  have key : ∃ y u1, VRel I ρ (pan.getD (.s .nilIface)) y ∧ settle u1 = .returning ∧ ((recoverD (c₀ :: cs) = some (y, { c₀ with mode := u1 } :: cs)) ∨ (recoverD (c₀ :: cs) = none ∧ y = .nilIface ∧ u1 = c₀.mode)) := by
    cases pan with
    | none =>
      have hu0 : c₀.mode = .returning := hu.trans hm
      exact ⟨.nilIface, .returning, .s _, rfl, .inr ⟨by simp [recoverD, hu0], rfl, hu0.symm⟩⟩
    | some v =>
      obtain ⟨y, hy, hu1⟩ := hm
      have hu0 := hu.trans hu1
      exact ⟨y, .panicking [{ v := y, recovered := true }], hy, by simp [settle], .inl (by simp [recoverD, hu0])⟩
  obtain ⟨y, u1, hy, hs1, hrec⟩ := key
  let a0 : Act := { tmps := us ++ Array.replicate (fn.ntmps - us.size) undef, defers := [] }
  refine rec_ops (y := y) (cs' := { c₀ with mode := u1 } :: cs) rfl (by simp [execOp, resolve, invoke, builtin]) ?_ ?_
  · rcases hrec with h1 | ⟨h1, h2, h3⟩
    · exact .inl h1
    · exact .inr ⟨h1, h2, by rw [h3]⟩
  refine wpSIn_of_wpIn rfl ?_
  have hsz : us.size ≤ fn.ntmps := by rw [hv.1]; exact hn
  have hst : St (Ctx.self w ρ H I) fn.ntmps ((k, pan.getD (.s .nilIface)) :: argEnv args 0) H I ρ (a0.put (some k) y) w := ⟨(argEnv_ok hv hsz).put hy hk, hw.self, DOk.nil rfl⟩
  have hpin : (⟨fn.ntmps, undef, some []⟩ : Pin).Ok (a0.put (some k) y) := by
    refine ⟨?_, fun ds e => by cases e; rfl⟩
    have hsz2 : (a0.put (some k) y).tmps.size = fn.ntmps := hst.1.1
    simp [Array.getD, hsz2]
  refine wpIn_mono (h.1 (Ctx.self w ρ H I) I ρ _ w _ rfl rfl hw.len hst hpin) fun e a' w' hl => ?_
  have fin : ∀ env' H' I' ρ', St (Ctx.self w ρ H I) fn.ntmps env' H' I' ρ' a' w' → (⟨fn.ntmps, undef, some []⟩ : Pin).Ok a' → R H' → a'.defers = [] ∧ ∃ u', ({ c₀ with mode := u1 } :: cs : List Frame) = { c₀ with mode := u' } :: cs ∧ ∃ v, (results fn a'.tmps).run P w' = .ok v w' ∧ (∃ x I' ρ' H', I.le I' ∧ Pre ρ ρ' ∧ WOk X I' ρ' H' w' ∧ Ending.returned v = .returned x ∧ settle u' = .returning ∧ R H') := by
    intro env' H' I' ρ' hs ha hR
    refine ⟨ha.2 [] rfl, u1, rfl, .tuple #[], ?_, .tuple #[], I', ρ', H', hs.2.1.le, hs.2.1.pre, hw.trans hs.2.1, rfl, hs1, hR⟩
    unfold results
    rw [hr]
    simp
  cases e with
  | normal => obtain ⟨⟨env', H', I', ρ', hs, hq⟩, ha⟩ := hl; exact fin env' H' I' ρ' hs ha hq
  | ret => obtain ⟨⟨env', H', I', ρ', hs, hq⟩, ha⟩ := hl; exact fin env' H' I' ρ' hs ha hq
  | exit id => obtain ⟨⟨env', H', I', ρ', hs, hq⟩, ha⟩ := hl; exact hq.elim
  | goto id => obtain ⟨⟨env', H', I', ρ', hs, hq⟩, ha⟩ := hl; exact hq.elim
  | panic ch => obtain ⟨⟨v, u, H', I', ρ', _, _, _, _, hq⟩, ha⟩ := hl; exact hq.elim
  | outgrown => exact hl.elim
end
theorem leaves_marksB {P : Program} {fn : Func} {tmps : Array Value} {R : Ending → World → Prop} {u : FrameMode} {rest : List Deferred} (hu : u ≠ .run) : ∀ (Ds : List Nat) (w : World), Ds.Nodup → (∀ D ∈ Ds, w.heap[D]? = some (.deferred (some []))) →
    LeavesInM Fence.wide 0 P fn tmps R rest u (taken Ds w) → LeavesInM Fence.wide 0 P fn tmps R (Ds.map mark ++ rest) u w
  | [], _, _, _, h => h
  | D :: Ds, w, hn, hD, h => by
    rw [List.nodup_cons] at hn
    refine ⟨hu, .inl ⟨D, _, rfl, run_takeDeferred (hD D (by simp)), leaves_marksB hu Ds _ hn.2 (fun D' h' => ?_) h⟩⟩
    rw [World.putObj_heap_other (fun e => hn.1 (by rw [← e]; exact h'))]
    exact hD D' (by simp [h'])
theorem WOk.rebase {X : Ctx} {I : Imm} {ρ : List (Option (Nat × Nat))} {H : Heap} {w : World} {B : List Deferred} (h : WOk X I ρ H w) : WOk { X with base := B } I ρ H w :=
  ⟨h.len, h.inj, h.imm, h.apart, h.size, h.none, h.arr, h.map, h.mine, h.news, h.le, h.pre, h.os, h.tape, h.out, h.grow, h.keep⟩
theorem WOk.unbase {X : Ctx} {I : Imm} {ρ : List (Option (Nat × Nat))} {H : Heap} {w : World} {B : List Deferred} (h : WOk { X with base := B } I ρ H w) : WOk X I ρ H w :=
  ⟨h.len, h.inj, h.imm, h.apart, h.size, h.none, h.arr, h.map, h.mine, h.news, h.le, h.pre, h.os, h.tape, h.out, h.grow, h.keep⟩
def closD (g : FuncId) (pu : Value) : Deferred := { target := .fn (.func g) #[pu], args := #[] }
theorem wp_defer1 {P : Program} {Q : Exit → Act → World → Prop} {g : FuncId} {tf tc id : Nat} {a : Act} {w : World} {T1 T2 : TypeId} {p1 p2 : String} {e1 e2 : Array Edge} (htf : tf < a.tmps.size)
    (h : Q .normal { tmps := a.tmps.setIfInBounds tf (.func (.func g) #[] #[a.tmps.getD tc undef]), defers := closD g (a.tmps.getD tc undef) :: a.defers } w) :
    (Code.region id #[⟨some tf, .makeFunc (.func g) #[] #[.tmp tc], T1, p1, e1, none⟩, ⟨none, .defer ⟨.value (.tmp tf), #[], #[]⟩, T2, p2, e2, none⟩] false).wpIn (Fw none) 0 P Q a w := by
  refine region_text (l := [⟨some tf, .makeFunc (.func g) #[] #[.tmp tc], T1, p1, e1, none⟩, ⟨none, .defer ⟨.value (.tmp tf), #[], #[]⟩, T2, p2, e2, none⟩]) (fun _ => True) trivial ?_
  obtain ⟨pu, hpu⟩ : ∃ pu, a.tmps.getD tc undef = pu := ⟨_, rfl⟩
  rw [hpu] at h
  have hev0 : a.eval (.tmp tc) = pu := hpu
  refine ⟨fun _ => ⟨.func (.func g) #[] #[pu], fun w' _ => by simp [execOp, Instr.makeFunc, hev0], ?_⟩, fun hw => by rw [wanted_none rfl] at hw; cases hw⟩
  refine ⟨fun _ => ?_, fun hw => by rw [wanted_none rfl] at hw; cases hw⟩
  refine ⟨fun _ _ => trivial, ?_⟩
  have hev : (a.put (some tf) (.func (.func g) #[] #[pu])).eval (.tmp tf) = .func (.func g) #[] #[pu] := by simp [Act.eval, Act.put, htf]
  have e : ((⟨none, .defer ⟨.value (.tmp tf), #[], #[]⟩, T2, p2, e2, none⟩ : Oper).semAt (Fw none).round (a.put (some tf) (.func (.func g) #[] #[pu])).eval).run P w = .ok (.defer (closD g pu)) w := by
    rw [show (Fw none).round = none from rfl, Oper.semAt_none]
    simp [execOp, resolve, hev, Deferred.ofValue, closD]
  rw [e]
  exact ⟨fun _ => True, trivial, fun _ _ _ => trivial, h⟩
def TryQ (P : Program) (rs : Array ResultVar) (g : FuncId) (tc : Nat) (p : V) (R : V → Heap → Prop) : Post
  | .normal, _, H => DCalls P g [p] H none fun H' => ∃ v, ResV P [(tc, p)] H' rs v ∧ R v H'
  | .ret, _, H => DCalls P g [p] H none fun H' => ∃ v, ResV P [(tc, p)] H' rs v ∧ R v H'
  | .panic x, _, H => DCalls P g [p] H (some x) fun H' => ∃ v, ResV P [(tc, p)] H' rs v ∧ R v H'
  | _, _, _ => False
def NoQ : Post := fun _ _ _ => False
theorem acalls_of_try {P : Program} {f g : FuncId} {fn gn : Func} {id0 id1 tc tf : Nat} {l0 : List Oper} {c cg : Code} {args : List V} {H : Heap} {R : V → Heap → Prop} {T1 T2 : TypeId} {p1 p2 : String} {e1 e2 : Array Edge} (hf : P.funcs[f]? = some fn)
    (hb : fn.body = some (.seq (.region id0 l0.toArray false) (.seq (.region id1 #[⟨some tf, .makeFunc (.func g) #[] #[.tmp tc], T1, p1, e1, none⟩, ⟨none, .defer ⟨.value (.tmp tf), #[], #[]⟩, T2, p2, e2, none⟩] false) c)))
    (hg : P.funcs[g]? = some gn) (hgb : gn.body = some cg) (hgn : (gn.name == "runtime.NumGoroutine") = false) (hn : args.length ≤ fn.ntmps) (htf : tf < fn.ntmps) (htc : tf ≠ tc)
    (h : AW P none H.length fn.ntmps (.region id0 l0.toArray false) (AE.then (fun env1 H1 => ∃ sz b i off, look env1 tc = some (.ptr sz b i off) ∧ Pn.AW tc false P none H1.length fn.ntmps c (TryQ P fn.results g tc (.ptr sz b i off) R) ((tf, .fn (.func g) [] [.ptr sz b i off]) :: env1) H1) NoQ) (argEnv args 0) H) :
    ACalls P f args H R NoP := by
  refine ⟨fun X I ρ w us hw hv => (callsIn_wide (n := 0)).1 (callsIn_of_wp_marks hf hb trivial ?_ rfl)⟩
  have h1 := h.1 (Ctx.self w ρ H I) I ρ { tmps := us ++ Array.replicate (fn.ntmps - us.size) undef, defers := [] } w hw.len ⟨argEnv_ok hv (by rw [hv.1]; exact hn), hw.self, DOk.nil rfl⟩
  refine wpIn_seq (wpIn_mono h1 fun e a1 w1 hl => ?_)
  cases e with
  | exit _ => obtain ⟨_, _, _, _, _, hq⟩ := hl; exact hq.elim
  | goto _ => obtain ⟨_, _, _, _, _, hq⟩ := hl; exact hq.elim
  | ret => obtain ⟨_, _, _, _, _, hq⟩ := hl; exact hq.elim
  | panic _ => obtain ⟨_, _, _, _, _, _, _, _, _, hq⟩ := hl; exact hq.elim
  | outgrown => exact hl.elim
  | normal =>
  obtain ⟨env1, H1, I1, ρ1, hs1, sz, b, i, off, hp, hc⟩ := hl
  obtain ⟨htc1, hpu⟩ := hs1.1.2 tc _ hp
  obtain ⟨pu, hpu0⟩ : ∃ pu, pu = a1.tmps.getD tc undef := ⟨_, rfl⟩
  rw [← hpu0] at hpu
  refine wpIn_seq (wp_defer1 (by rw [hs1.1.1]; exact htf) ?_)
  show Code.wpIn _ _ _ _ _ _ _
  rw [← hpu0]
  obtain ⟨Ds0, b1, b2, b3⟩ := hs1.2.2
  have b2 : a1.defers = Ds0.map mark := by rw [b2]; exact List.append_nil _
  let X1 : Ctx := { Ctx.self w1 ρ1 H1 I1 with base := closD g pu :: a1.defers }
  have hw1 : WOk X1 I1 ρ1 H1 w1 := hs1.2.1.self.rebase
  let a2 : Act := { tmps := a1.tmps.setIfInBounds tf (.func (.func g) #[] #[pu]), defers := closD g pu :: a1.defers }
  have hfn : VRel I1 ρ1 (.fn (.func g) [] [.ptr sz b i off]) (.func (.func g) #[] #[pu]) := .fn rfl (fun j v u h => by simp at h) rfl (fun j v u h h' => by
    match j with
    | 0 => simp at h h'; subst h h'; exact hpu
    | j + 1 => simp at h)
  have hs2 : St X1 fn.ntmps ((tf, .fn (.func g) [] [.ptr sz b i off]) :: env1) H1 I1 ρ1 a2 w1 := ⟨hs1.1.put hfn htf, hw1, ⟨[], List.nodup_nil, rfl, fun D hD => by simp at hD⟩⟩
  have hpin : (⟨tc, pu, none⟩ : Pin).Ok a2 := ⟨by show (a1.tmps.setIfInBounds tf _).getD tc undef = pu; rw [hpu0]; simp [Array.getElem?_setIfInBounds_ne htc], fun ds e => by cases e⟩
  refine wpIn_mono (hc.1 X1 I1 ρ1 a2 w1 ⟨tc, pu, none⟩ rfl rfl hs1.2.1.len hs2 hpin) fun e a' w' hl => ?_
  let RR : Ending → World → Prop := fun e w' => ∃ v u I' ρ' H', I.le I' ∧ Pre ρ ρ' ∧ WOk X I' ρ' H' w' ∧ VRel I' ρ' v u ∧ ((e = .returned u ∧ R v H') ∨ (e = .panicked [{ v := u, recovered := false }] ∧ NoP v H'))
  show bodyPostM Fence.wide 0 P fn RR e a' w'
  have hXI : ∀ b o, (Ctx.self w ρ H I).I b = some o → b < (Ctx.self w ρ H I).w.heap.size := fun b o h => (Array.getElem?_eq_some_iff.1 (hw.imm b o h)).1
  have hXI1 : ∀ b o, X1.I b = some o → b < X1.w.heap.size := fun b o h => (Array.getElem?_eq_some_iff.1 (hs1.2.1.imm b o h)).1
  have cuts : ∀ {I' : Imm} {Ds : List Nat} {n : Nat}, (∀ D ∈ Ds, n ≤ D ∧ I' D = some (.deferred (some []))) → ∀ b cs ty fz, I' b = some (.cells cs ty fz) → I'.without Ds b = some (.cells cs ty fz) := fun hD b cs ty fz h => by
    rw [Imm.without_out]
    · exact h
    · intro hb; rw [(hD b hb).2] at h; cases h
  have fin : ∀ pan u H' I' ρ', u ≠ .run → WOk X1 I' ρ' H' w' → DOk X1 I' a' → (⟨tc, pu, none⟩ : Pin).Ok a' → ModeRel I' ρ' pan u → DCalls P g [.ptr sz b i off] H' pan (fun H' => ∃ v, ResV P [(tc, .ptr sz b i off)] H' fn.results v ∧ R v H') → LeavesInM Fence.wide 0 P fn a'.tmps RR a'.defers u w' := by
    rintro pan u H' I' ρ' hu hw' ⟨Ds, d1, d2, d3⟩ ha hm hd
    rw [d2]
    refine leaves_marksB hu Ds w' d1 (fun D hD => hw'.imm D _ (d3 D hD).2) ?_
    have hw2 := hw'.taken hXI1 d3
    have hm2 : ModeRel (I'.without Ds) ρ' pan u := by
      cases pan with
      | none => exact hm
      | some x => obtain ⟨y, h1, h2⟩ := hm; exact ⟨y, h1.cut (cuts d3), h2⟩
    have hpu2 : VRel (I'.without Ds) ρ' (.ptr sz b i off) pu := (hpu.mono hw'.le hw'.pre).cut (cuts d3)
    have hcall := hd.1 X1 _ ρ' _ #[pu] u hw2 ⟨rfl, fun j v u h h' => by
      match j with
      | 0 => simp at h h'; subst h h'; exact hpu2
      | j + 1 => simp at h⟩ hm2
    refine ⟨hu, .inr ⟨fun h => (by cases h), .func g, #[pu], g, #[pu], rfl, ?_, fun _ _ => trivial, hcall.mono fun e u' w3 hq => ?_⟩⟩
    · exact fnOk hg hgb hgn #[pu] _
    · obtain ⟨x, I3, ρ3, H3, l3, q3, hw3, rfl, hset, v, hv3, hR⟩ := hq
      show LeavesInM Fence.wide 0 P fn a'.tmps RR a1.defers (settle u') w3
      rw [hset, b2]
      have hD0 : ∀ D ∈ Ds0, (Ctx.self w ρ H I).w.heap.size ≤ D ∧ I3 D = some (.deferred (some [])) := fun D hD => ⟨(b3 D hD).1, hw3.le D _ (b3 D hD).2⟩
      rw [← List.append_nil (Ds0.map mark)]
      refine leaves_marksB (by simp) Ds0 w3 b1 (fun D hD => hw3.imm D _ (hD0 D hD).2) ?_
      have hw4 : WOk (Ctx.self w ρ H I) I3 ρ3 H3 w3 := hs1.2.1.trans hw3.unbase
      have hw5 := hw4.taken hXI hD0
      have hpu3 : VRel (I3.without Ds0) ρ3 (.ptr sz b i off) pu := (hpu.mono hw3.le hw3.pre).cut (cuts hD0)
      have hlt : tc < a'.tmps.size := by
        rcases Nat.lt_or_ge tc a'.tmps.size with h | h
        · exact h
        · exfalso
          have e : a'.tmps.getD tc undef = undef := by simp [Array.getElem?_eq_none h]
          have e2 : pu = undef := (show a'.tmps.getD tc undef = pu from ha.1).symm.trans e
          rw [e2] at hpu
          cases hpu
      obtain ⟨u5, h5, h6⟩ := resV_run (nt := a'.tmps.size) (a := a') (env := [(tc, .ptr sz b i off)]) ⟨rfl, fun t v ht => by
        rw [look_cons] at ht
        split at ht
        · rename_i e; subst e; cases ht; exact ⟨hlt, by rw [show a'.tmps.getD tc undef = pu from ha.1]; exact hpu3⟩
        · simp [look] at ht⟩ hw5 hv3
      exact ⟨u5, h6, v, u5, _, ρ3, H3, hw5.le, hw5.pre, hw.trans hw5, h5, .inl ⟨rfl, hR⟩⟩
  cases e with
  | normal => obtain ⟨⟨env', H', I', ρ', hs, hq⟩, ha⟩ := hl; exact fin none .returning H' I' ρ' (by simp) hs.2.1 hs.2.2 ha rfl hq
  | ret => obtain ⟨⟨env', H', I', ρ', hs, hq⟩, ha⟩ := hl; exact fin none .returning H' I' ρ' (by simp) hs.2.1 hs.2.2 ha rfl hq
  | exit id => obtain ⟨⟨env', H', I', ρ', hs, hq⟩, ha⟩ := hl; exact hq.elim
  | goto id => obtain ⟨⟨env', H', I', ρ', hs, hq⟩, ha⟩ := hl; exact hq.elim
  | panic ch =>
    obtain ⟨⟨v, u, H', I', ρ', rfl, h2, h3, h4, hq⟩, ha⟩ := hl
    exact fin (some v) _ H' I' ρ' (by simp) h3 h4 ha ⟨u, h2, rfl⟩ hq
  | outgrown => exact hl.elim
end Go.Proofs.Ythpbjihnikapoaa
namespace Go.Proofs.Ythpbjihnikapoaa
open Go.RowKit
theorem acalls_sub {P : Program} {f : FuncId} {args : List V} {H : Heap} {R R' Rp Rp' : V → Heap → Prop} (h : ACalls P f args H R Rp) (hs : ∀ v H', R v H' → ∃ v' H'', SubOf H.length 1 [(0, v)] H' [(0, v')] H'' ∧ R' v' H'')
    (hp : ∀ v H', Rp v H' → ∃ v' H'', SubOf H.length 1 [(0, v)] H' [(0, v')] H'' ∧ Rp' v' H'') : ACalls P f args H R' Rp' := by
  refine ⟨fun X I ρ w us hw hv => (h.1 (Ctx.self w ρ H I) I ρ w us hw.self hv).mono ?_⟩
  rintro e w' ⟨v, u, I', ρ', H', h1, h2, h3, h4, h5⟩
  have key : ∀ v' H'', SubOf H.length 1 [(0, v)] H' [(0, v')] H'' → ∃ I2 ρ2, I.le I2 ∧ Pre ρ ρ2 ∧ WOk X I2 ρ2 H'' w' ∧ VRel I2 ρ2 v' u := by
    intro v' H'' hsub
    obtain ⟨I2, ρ2, k1, k2⟩ := hsub.1 (Ctx.self w ρ H I) I' ρ' { tmps := #[u], defers := [] } w' hw.len ⟨⟨rfl, fun t x hx => by
      rw [look_cons] at hx
      split at hx
      · rename_i e; subst e; cases hx; exact ⟨by decide, h4⟩
      · simp [look] at hx⟩, h3, DOk.nil rfl⟩
    exact ⟨I2, ρ2, k2.2.1.le, k2.2.1.pre, hw.trans k2.2.1, (k2.1.2 0 v' rfl).2⟩
  rcases h5 with ⟨rfl, hR⟩ | ⟨rfl, hR⟩
  · obtain ⟨v', H'', s1, s2⟩ := hs v H' hR
    obtain ⟨I2, ρ2, a, b, c, d⟩ := key v' H'' s1
    exact ⟨v', u, I2, ρ2, H'', a, b, c, d, .inl ⟨rfl, s2⟩⟩
  · obtain ⟨v', H'', s1, s2⟩ := hp v H' hR
    obtain ⟨I2, ρ2, a, b, c, d⟩ := key v' H'' s1
    exact ⟨v', u, I2, ρ2, H'', a, b, c, d, .inr ⟨rfl, s2⟩⟩
theorem DCalls.mono {P : Program} {g : FuncId} {args : List V} {H : Heap} {pan : Option V} {R R' : Heap → Prop} (h : DCalls P g args H pan R) (hr : ∀ H', R H' → R' H') : DCalls P g args H pan R' :=
  ⟨fun X I ρ w us u a b c => (h.1 X I ρ w us u a b c).mono fun _ _ _ ⟨x, I', ρ', H', a, b, c, d, e, f⟩ => ⟨x, I', ρ', H', a, b, c, d, e, hr _ f⟩⟩
namespace Pn
theorem zco {t : Nat} {pd : Bool} {r : Option Nat} {m nt : Nat} {Q : Post} {env : Env} {H : Heap} {x : Operand} {c1 c2 : Code} {b : Bool} (hy : b = true → AW t pd Try.prog r m nt c1 Q env H) (hn : b = false → AW t pd Try.prog r m nt c2 Q env H) (hc : eo env x = some (.s (.bool b)) := by exact rfl) : AW t pd Try.prog r m nt (.cond x c1 c2) Q env H := aw_cond hc hy hn
/-- Nothing to end. -/
theorem do1_ret (H : Heap) (p : V) : DCalls Try.prog 85 [p] H none (fun H' => H' = H) := by
  refine dcalls_of_aw #[] Try.func85 rfl (dc rfl) (dc rfl) rfl (fun v h => by cases h) ?_
  show AW _ true _ _ _ _ _ _ ((4, .s .nilIface) :: _) _
  (repeat' (first | (refine ar_isq ?_; first | refine zmv ?_ | refine zas ?_ | refine zeql ?_ | refine zex ?_) | (refine ar_q (qs_nilIsNil (ty rfl) rfl rfl) (dc rfl) ?_) | (refine zsvs ?_) | (refine zsva ?_) | (refine zses ?_) | (refine zsea ?_) | (refine ar_nil ?_) | (refine aw_seq ?_) | (refine aw_skip ?_) | (refine aw_block ?_) | (refine aw_exit ?_) | (refine aw_region ?_) | (refine zco ?_ ?_ <;> intro hg <;> first | exact absurd hg (by decide) | ((try replace hg := HG.out hg); (try dsimp only at hg); (try (have _h : True := hg; clear _h hg)); first | (exfalso; omega) | skip))))
  all_goals exact (rfl : H = H)
theorem do1_pan (H : Heap) (k : Nat) (e z : Int) (hH : H[k]? = some (.arr 1 1 (fun _ => vi z))) : DCalls Try.prog 85 [.ptr 1 k 0 0] H (some (errV e)) (fun H' => H' = H.set k (.arr 1 1 (fun _ => vi e))) := by
  refine dcalls_of_aw #[] Try.func85 rfl (dc rfl) (dc rfl) rfl (fun v h => by cases h; exact ⟨_, _, rfl⟩) ?_
  show AW _ true _ _ _ _ _ _ ((4, errV e) :: _) _
  (repeat' (first | (refine ar_isq ?_; first | refine zmv ?_ | refine zas ?_ | refine zeql ?_ | refine zex ?_) | (refine ar_q (qs_ifaceIsNil (ty rfl) rfl rfl) (dc rfl) ?_) | (refine ar_q (qs_assert (ty rfl) rfl rfl) (dc rfl) ?_) | (refine ar_store_var (ty rfl) rfl rfl hH rfl rfl rfl (dc rfl) (.inr ⟨rfl, rfl, rfl, fun _ h => by cases h⟩) ?_) | (refine zsvs ?_) | (refine zsva ?_) | (refine zses ?_) | (refine zsea ?_) | (refine ar_nil ?_) | (refine aw_seq ?_) | (refine aw_skip ?_) | (refine aw_block ?_) | (refine aw_exit ?_) | (refine aw_region ?_) | (refine zco ?_ ?_ <;> intro hg <;> first | exact absurd hg (by decide) | ((try replace hg := HG.out hg); (try dsimp only at hg); (try (have _h : True := hg; clear _h hg)); first | (exfalso; omega) | skip))))
  all_goals exact (rfl : H.set k (.arr 1 1 (fun _ => vi e)) = H.set k (.arr 1 1 (fun _ => vi e)))
end Pn
def doersL : List V := [.s .nilFunc, .fn (.func 104) [] [], .fn (.func 105) [] [], .fn (.func 106) [] [], .fn (.func 107) [] [], .fn (.func 108) [] [], .fn (.func 109) [] [], .fn (.func 110) [] []]
def doersV : V := .agg doersL
theorem doers_p : PCalls Try.prog 86 [] (· = doersV) := by
  refine pcalls_of_aw Try.func86 rfl (Nat.le_of_ble_eq_true rfl) ?_
  (repeat' (first | (refine ar_isq ?_; first | (refine ar_buildT ?_ (by exact ty rfl) (by exact rfl) (by exact sizes rfl) (by exact rfl) (by exact rfl) (by exact build rfl) (by exact dc rfl); intro _ hds; (try dsimp only [List.toList_toArray, cells_s, cells_emp, cells_agg, cells_list, cells_sl, cells_ptr, cells_ref, cells_fn, cells_vi, cells_vb, cells_vnil, constV, List.map_cons, List.map_nil, List.take_succ_cons, List.take_zero, List.drop_succ_cons, List.drop_zero, List.cons_append, List.nil_append, List.append_nil, LV_cells] at hds); (try dsimp only [cells_s, cells_emp, cells_agg, cells_list, cells_sl, cells_ptr, cells_ref, cells_fn, cells_vi, cells_vb, cells_vnil, constV, List.map_cons, List.map_nil, List.take_succ_cons, List.take_zero, List.drop_succ_cons, List.drop_zero, List.cons_append, List.nil_append, List.append_nil, LV_cells] at hds); subst hds)) | (refine ar_q (qs_build_arr (ds := doersL) (ty rfl) rfl (ty rfl) rfl rfl (build rfl)) (dc rfl) ?_) | (refine zal ?_) | (refine zsvs ?_) | (refine zsva ?_) | (refine zses ?_) | (refine zsea ?_) | (refine ar_nil ?_) | (refine aw_seq ?_) | (refine aw_skip ?_) | (refine aw_block ?_) | (refine aw_exit ?_) | (refine aw_region ?_) | (refine zco ?_ ?_ <;> intro hg <;> first | exact absurd hg (by decide) | ((try replace hg := HG.out hg); (try dsimp only at hg); (try (have _h : True := hg; clear _h hg)); first | (exfalso; omega) | skip))))
  refine aw_ret (bq1c (ty rfl) rfl rfl Nat.one_pos rfl ⟨rfl, rfl⟩)
end Go.Proofs.Ythpbjihnikapoaa
