/- THE STATEMENT PlateWhere: no item changes its place by itself. No condition. -/
import Derived.Test.YthpbjihnikapoaaKPf11
namespace Go.Proofs.Ythpbjihnikapoaa
open Go.RowKit
theorem place_eq {s : Sto} {i : Int} : placeOf s i = if (0 ≤ i ∧ i < (s.items.length : Int)) ∧ (el s.items i.toNat).gone = false then (el s.items i.toNat).place else -1 := rfl
def seenAt (x : Itm) : Int := if x.gone = false then x.place else -1
theorem place_set {s t : Sto} {j : Nat} {x : Itm} {i : Int} (hj : j < s.items.length) (ht : t.items = s.items.set j x) : placeOf t i = if i = (j : Int) then seenAt x else placeOf s i := by
  rw [place_eq, place_eq, ht, List.length_set]
  by_cases hi : i = (j : Int)
  · subst hi
    rw [if_pos rfl, Int.toNat_natCast, el_setI hj, if_pos rfl]
    unfold seenAt
    by_cases hg : x.gone = false
    · rw [if_pos hg, if_pos ⟨by omega, hg⟩]
    · rw [if_neg hg, if_neg (fun h => hg h.2)]
  · rw [if_neg hi]
    by_cases h0 : 0 ≤ i
    · rw [el_setI hj, show (if i.toNat = j then x else el s.items i.toNat) = el s.items i.toNat from if_neg (by omega)]
    · rw [if_neg (fun h => h0 h.1.1), if_neg (fun h => h0 h.1.1)]
theorem place_add {s t : Sto} {x : Itm} {i : Int} (ht : t.items = s.items ++ [x]) : placeOf t i = if i = (s.items.length : Int) then seenAt x else placeOf s i := by
  rw [place_eq, place_eq, ht, List.length_append, List.length_singleton]
  by_cases hi : i = (s.items.length : Int)
  · subst hi
    rw [if_pos rfl, Int.toNat_natCast, el_snoc]
    unfold seenAt
    by_cases hg : x.gone = false
    · rw [if_pos hg, if_pos ⟨by omega, hg⟩]
    · rw [if_neg hg, if_neg (fun h => hg h.2)]
  · rw [if_neg hi]
    by_cases h0 : 0 ≤ i ∧ i < (s.items.length : Int)
    · rw [el_app_lt (by omega)]
      by_cases hg : (el s.items i.toNat).gone = false
      · rw [if_pos ⟨by omega, hg⟩, if_pos ⟨h0, hg⟩]
      · rw [if_neg (fun h => hg h.2), if_neg (fun h => hg h.2)]
    · rw [if_neg (fun h => h0 (by omega)), if_neg (fun h => h0 h.1)]
theorem place_out {s : Sto} {i : Int} (h : ¬ (0 ≤ i ∧ i < (s.items.length : Int))) : placeOf s i = -1 := by rw [place_eq, if_neg fun h2 => h h2.1]
theorem place_here {s : Sto} {i : Int} (h : hereB s i) : placeOf s i = (el s.items i.toNat).place := if_pos h
theorem here_trans {s : Sto} {i : Int} (h : transE s i = 0) : hereB s i := Classical.byContradiction fun hn => by unfold transE at h; rw [if_neg hn] at h; omega
theorem here_move {s : Sto} {i d : Int} (h : moveE s i d = 0) : hereB s i := Classical.byContradiction fun hn => by unfold moveE at h; rw [if_neg hn] at h; omega
theorem here_print {s : Sto} {i n : Int} (h : printE s i n = 0) : hereB s i := Classical.byContradiction fun hn => by unfold printE at h; rw [if_neg hn] at h; omega
theorem here_dest {s : Sto} {i : Int} (h : destE s i = 0) : hereB s i := Classical.byContradiction fun hn => by unfold destE at h; rw [if_neg hn] at h; omega
theorem place_step {s : Sto} {a : Deed} (h : actE s a = 0) (i : Int) : placeOf (actF s a) i = placeOf s i ∨ (a.kind = 3 ∧ a.item = i ∧ placeOf (actF s a) i = a.dest) ∨ (placeOf s i = -1 ∧ ((a.kind = 1 ∧ placeOf (actF s a) i = 0) ∨ (a.kind = 2 ∧ placeOf (actF s a) i = 1))) ∨ (a.kind = 7 ∧ a.item = i ∧ placeOf (actF s a) i = -1) := by
  rcases act_kind h with k | k | k | k | k | k | k
  · rw [actF_1 k, place_add (s := s) (x := newDie) rfl]
    by_cases hi : i = (s.items.length : Int)
    · rw [if_pos hi]
      exact .inr (.inr (.inl ⟨place_out (by omega), .inl ⟨k, rfl⟩⟩))
    · rw [if_neg hi]
      exact .inl rfl
  · rw [actE_2 k] at h
    have hh := here_trans h
    have hj : a.item.toNat < s.items.length := by have := hh.1; omega
    rw [actF_2 k, place_add (s := setS s a.item.toNat (used1 (el s.items a.item.toNat) 1)) rfl, place_set (s := s) hj rfl, show (setS s a.item.toNat (used1 (el s.items a.item.toNat) 1)).items.length = s.items.length from List.length_set]
    by_cases hi : i = (s.items.length : Int)
    · rw [if_pos hi]
      exact .inr (.inr (.inl ⟨place_out (by omega), .inr ⟨k, rfl⟩⟩))
    · rw [if_neg hi]
      by_cases hi2 : i = (a.item.toNat : Int)
      · rw [if_pos hi2]
        have e : i = a.item := by have := hh.1; omega
        refine .inl ?_
        rw [e, place_here hh]
        exact if_pos hh.2
      · rw [if_neg hi2]
        exact .inl rfl
  · rw [actE_3 k] at h
    have hh := here_move h
    have hj : a.item.toNat < s.items.length := by have := hh.1; omega
    rw [actF_3 k, show moveF s a.item a.dest = setS s a.item.toNat (place1 (el s.items a.item.toNat) a.dest) from rfl, place_set (s := s) hj rfl]
    by_cases hi2 : i = (a.item.toNat : Int)
    · rw [if_pos hi2]
      have e : i = a.item := by have := hh.1; omega
      exact .inr (.inl ⟨k, e.symm, if_pos hh.2⟩)
    · rw [if_neg hi2]
      exact .inl rfl
  · rw [actE_4 k] at h
    have hh := here_print h
    have hj : a.item.toNat < s.items.length := by have := hh.1; omega
    rw [actF_4 k, place_set (s := s) (t := printF s a.item a.n) hj rfl]
    by_cases hi2 : i = (a.item.toNat : Int)
    · rw [if_pos hi2]
      have e : i = a.item := by have := hh.1; omega
      refine .inl ?_
      rw [e, place_here hh]
      exact if_pos hh.2
    · rw [if_neg hi2]
      exact .inl rfl
  · rw [actF_5 k]
    exact .inl rfl
  · rw [actF_6 k]
    exact .inl rfl
  · rw [actE_7 k] at h
    have hh := here_dest h
    have hj : a.item.toNat < s.items.length := by have := hh.1; omega
    rw [actF_7 k, show destF s a.item = setS s a.item.toNat (gone1 (el s.items a.item.toNat)) from rfl, place_set (s := s) hj rfl]
    by_cases hi2 : i = (a.item.toNat : Int)
    · rw [if_pos hi2]
      have e : i = a.item := by have := hh.1; omega
      exact .inr (.inr (.inr ⟨k, e.symm, rfl⟩))
    · rw [if_neg hi2]
      exact .inl rfl
theorem place_bnd {s : Sto} (hV : Valid s) (i : Int) : -1 ≤ placeOf s i ∧ placeOf s i ≤ 9 := by
  rw [place_eq]
  split
  · rename_i h
    have hp := (hV.2.2.1 i.toNat (by omega)).1
    omega
  · omega
theorem place_apart {s : Sto} (hV : Valid s) {i k : Int} (hik : i ≠ k) (h2 : 2 ≤ placeOf s i) : placeOf s i ≠ placeOf s k := by
  by_cases hi : hereB s i
  · rw [place_here hi] at h2 ⊢
    have hi1 := hi.1
    by_cases hk : hereB s k
    · rw [place_here hk]
      have hk1 := hk.1
      have hp := (hV.2.2.1 i.toNat (by omega)).2.2 h2
      exact fun e => hp.2 k.toNat (by omega) (by omega) e.symm
    · have : placeOf s k = -1 := if_neg hk
      omega
  · have : placeOf s i = -1 := if_neg hi
    omega
theorem outTo_el {life : Int} {bk : List Deed} {i : Int} {n k : Nat} (h : k < n) : el (outTo life bk i n) k = placeOf (stoAt life bk (k + 1)) i := by
  simp [outTo, el, h]
end Go.Proofs.Ythpbjihnikapoaa
namespace Go.Proofs.Ythpbjihnikapoaa
open Go.RowKit

set_option maxRecDepth 20000 in
set_option maxHeartbeats 1000000 in
theorem where_bad (life : Int) (bk : List Deed) (i k e f g x : Int) (l m : List Int) (F : Sto) (h : (g ≠ 0 ∧ e = g ∧ f = g) ∨ (g = 0 ∧ (e = 0 ∨ e = 6) ∧ (f = 0 ∨ f = 6))) (hef : ¬ (e = 0 ∧ f = 0)) (hl : PCalls Try.prog 42 [vi life, encDeeds bk, vi i] (· = .tup [encInts l, vi e])) (hm : PCalls Try.prog 42 [vi life, encDeeds bk, vi k] (· = .tup [encInts m, vi f]))
    (hp : PCalls Try.prog 40 [vi life, encDeeds bk] (· = .tup [F.enc, vi x, vi g])) : PCalls Try.prog 8 [vi life, encDeeds bk, vi i, vi k] (· = vb true) := by
  have hlen : bk.length ≤ maxLen ∨ ¬ bk.length ≤ maxLen := by omega
  refine pcalls_of_aw Try.func8 rfl (Nat.le_of_ble_eq_true rfl) ?_
  (repeat' (first | (refine ar_isq ?_; first | refine zmv ?_ | refine zas ?_ | (refine is_load ?_; first | refine zlp ?_ | refine zlr ?_) | (refine is_binOp ?_; first | refine zlss ?_ | refine zgtr ?_ | refine zgeq ?_ | refine zeql ?_ | refine zneq ?_ | refine zadd ?_) | (refine is_fieldAddr ?_; first | refine zfp ?_ | refine zfr ?_) | (refine is_indexAddr ?_; first | refine zil ?_ | refine zis ?_ | refine zit ?_ | refine zia ?_ | refine zir ?_ | (refine zxl ?_; intro _ _ _) | (refine zxs ?_; intro _ _ _)) | (refine is_call ?_; first | refine zll ?_ | refine zls ?_ | refine zln ?_ | refine zle ?_) | (refine is_pick ?_; first | refine zpt ?_ | refine zpf ?_) | refine zex ?_ | refine znt ?_) | (refine ar_pcall (own := false) fn44 rfl rfl .nil (alive_p) (by simp) (dc rfl) ?_; intro _ hv; subst hv) | (refine ar_pcall (own := false) fn42 rfl rfl (.cons (.closed rfl) (.cons (.ext (fun _ _ => rfl)) (.cons (.closed rfl) .nil))) (hl) (by simp) (dc rfl) ?_; intro _ hv; subst hv) | (refine ar_pcall (own := false) fn42 rfl rfl (.cons (.closed rfl) (.cons (.ext (fun _ _ => rfl)) (.cons (.closed rfl) .nil))) (hm) (by simp) (dc rfl) ?_; intro _ hv; subst hv) | (refine ar_pcall (own := false) fn40 rfl rfl (.cons (.closed rfl) (.cons (.ext (fun _ _ => rfl)) .nil)) (hp) (by simp) (dc rfl) ?_; intro _ hv; subst hv) | (refine zal ?_) | (refine zsvs ?_) | (refine zsva ?_) | (refine zses ?_) | (refine zsea ?_) | (refine zg ?_ ?_ <;> intro hg <;> first | exact absurd hg (by decide) | ((try replace hg := HG.out hg); (try dsimp only at hg); (try (have _h : True := hg; clear _h hg)); first | (exfalso; omega) | skip)) | (refine zgu ?_) | (refine ar_nil ?_) | (refine aw_seq ?_) | (refine aw_skip ?_) | (refine aw_block ?_) | (refine aw_exit ?_) | (refine aw_region ?_) | (refine zco ?_ ?_ <;> intro hg <;> first | exact absurd hg (by decide) | ((try replace hg := HG.out hg); (try dsimp only at hg); (try (have _h : True := hg; clear _h hg)); first | (exfalso; omega) | skip))))
  all_goals first
    | (exfalso; omega)
    | ((refine aw_ret ?_; (repeat (first | refine ret_then ?_ | refine ret_block ?_)); refine bq1 rfl ⟨?_, rfl⟩); rfl)
    | ((refine aw_ret ?_; (repeat (first | refine ret_then ?_ | refine ret_block ?_)); refine bq1 rfl ⟨?_, rfl⟩); refine congrArg vb ?_; first | rfl | exact decide_eq_true (by omega))
    | trace_state
set_option maxRecDepth 20000 in
set_option maxHeartbeats 2000000 in
theorem where_good (life : Int) (bk : List Deed) (i k : Int) (F : Sto) (l m : List Int) (P : Nat → Int) (Q : Nat → Int) (hlen : l.length = bk.length) (hml : m.length = bk.length) (hl : PCalls Try.prog 42 [vi life, encDeeds bk, vi i] (· = .tup [encInts l, vi 0])) (hm : PCalls Try.prog 42 [vi life, encDeeds bk, vi k] (· = .tup [encInts m, vi 0]))
    (hp : PCalls Try.prog 40 [vi life, encDeeds bk] (· = .tup [F.enc, vi 0, vi 0])) (hi : 0 ≤ i ∧ i < (F.items.length : Int)) (hk : 0 ≤ k ∧ k < (F.items.length : Int)) (h0 : P 0 = -1) (hP : ∀ n, n < bk.length → el l n = P (n + 1)) (hQ : ∀ n, n < bk.length → el m n = Q (n + 1))
    (hstep : ∀ n, n < bk.length → P (n + 1) = P n ∨ ((el bk n).kind = 3 ∧ (el bk n).item = i ∧ P (n + 1) = (el bk n).dest) ∨ (P n = -1 ∧ (((el bk n).kind = 1 ∧ P (n + 1) = 0) ∨ ((el bk n).kind = 2 ∧ P (n + 1) = 1))) ∨ ((el bk n).kind = 7 ∧ (el bk n).item = i ∧ P (n + 1) = -1)) (hbnd : ∀ n, n < bk.length → -1 ≤ P (n + 1) ∧ P (n + 1) ≤ 9) (hap : ∀ n, n < bk.length → i ≠ k → 2 ≤ P (n + 1) → P (n + 1) ≠ Q (n + 1))
    (hend : ((el F.items i.toNat).gone = true ∧ P bk.length = -1) ∨ ((el F.items i.toNat).gone = false ∧ P bk.length = (el F.items i.toNat).place)) : PCalls Try.prog 8 [vi life, encDeeds bk, vi i, vi k] (· = vb true) := by
  have hml : bk.length ≤ maxLen ∨ ¬ bk.length ≤ maxLen := by omega
  refine pcalls_of_aw Try.func8 rfl (Nat.le_of_ble_eq_true rfl) ?_
  (repeat' (first | (refine ar_isq ?_; first | refine zmv ?_ | refine zas ?_ | (refine is_load ?_; first | refine zlp ?_ | refine zlr ?_) | (refine is_binOp ?_; first | refine zlss ?_ | refine zgtr ?_ | refine zgeq ?_ | refine zeql ?_ | refine zneq ?_ | refine zadd ?_) | (refine is_fieldAddr ?_; first | refine zfp ?_ | refine zfr ?_) | (refine is_indexAddr ?_; first | refine zil ?_ | refine zis ?_ | refine zit ?_ | refine zia ?_ | refine zir ?_ | (refine zxl ?_; intro _ _ _) | (refine zxs ?_; intro _ _ _)) | (refine is_call ?_; first | refine zll ?_ | refine zls ?_ | refine zln ?_ | refine zle ?_) | (refine is_pick ?_; first | refine zpt ?_ | refine zpf ?_) | refine zex ?_ | refine znt ?_) | (refine ar_pcall (own := false) fn44 rfl rfl .nil (alive_p) (by simp) (dc rfl) ?_; intro _ hv; subst hv) | (refine ar_pcall (own := false) fn42 rfl rfl (.cons (.closed rfl) (.cons (.ext (fun _ _ => rfl)) (.cons (.closed rfl) .nil))) (hl) (by simp) (dc rfl) ?_; intro _ hv; subst hv) | (refine ar_pcall (own := false) fn42 rfl rfl (.cons (.closed rfl) (.cons (.ext (fun _ _ => rfl)) (.cons (.closed rfl) .nil))) (hm) (by simp) (dc rfl) ?_; intro _ hv; subst hv) | (refine ar_pcall (own := false) fn40 rfl rfl (.cons (.closed rfl) (.cons (.ext (fun _ _ => rfl)) .nil)) (hp) (by simp) (dc rfl) ?_; intro _ hv; subst hv) | (refine zal ?_) | (refine zsvs ?_) | (refine zsva ?_) | (refine zses ?_) | (refine zsea ?_) | (refine zg ?_ ?_ <;> intro hg <;> first | exact absurd hg (by decide) | ((try replace hg := HG.out hg); (try dsimp only at hg); (try (have _h : True := hg; clear _h hg)); first | (exfalso; omega) | skip)) | (refine zgu ?_) | (refine ar_nil ?_) | (refine aw_seq ?_) | (refine aw_skip ?_) | (refine aw_block ?_) | (refine aw_exit ?_) | (refine aw_region ?_) | (refine zco ?_ ?_ <;> intro hg <;> first | exact absurd hg (by decide) | ((try replace hg := HG.out hg); (try dsimp only at hg); (try (have _h : True := hg; clear _h hg)); first | (exfalso; omega) | skip))))
  all_goals (try (exfalso; omega))
  all_goals (try ((refine aw_ret ?_; (repeat (first | refine ret_then ?_ | refine ret_block ?_)); refine bq1 rfl ⟨?_, rfl⟩); rfl; done))
  refine aw_for bk.length (fun _ => True) (fun n => [(1, encDeeds bk), (2, vi i), (3, vi k), (9, vb true), (12, encInts m), (14, .ptr 3 0 0 0), (17, vi (P n)), (134, encInts l), (135, vi bk.length), (136, vi n)]) (fun _ => [.arr 3 1 (fun _ => F.enc)]) trivial ?_ ?_
  · (refine sub_to [some 0] [] rfl ?_ ?_ <;> (repeat' (first | exact trivial | refine ⟨⟨_, rfl, ?_⟩, ?_⟩ | refine ⟨bsub_snoc rfl rfl (fun _ => rfl) ?_, ?_⟩ | refine ⟨bsub_one rfl rfl ?_, ?_⟩ | refine ⟨bsub_all rfl rfl (fun _ _ => rfl) (fun _ => rfl), ?_⟩ | refine ⟨bsub_updL rfl rfl ?_ (fun _ _ _ => rfl) (fun _ => rfl), ?_⟩ | refine ⟨.inl ⟨_, _, rfl, rfl, ?_⟩, ?_⟩ | exact ⟨.inr ⟨rfl, rfl⟩, trivial⟩ | refine ⟨.inr ⟨rfl, rfl⟩, ?_⟩ | (intro _ _) | exact .closed rfl | exact .sl rfl | exact .ptr rfl | exact .map rfl | exact .nil rfl | exact .emp rfl | exact .nilList | exact .empList | exact frzPtr' (by simp; done) rfl (by omega) rfl rfl | exact frzLB (by simp; done) rfl (fun _ => rfl) rfl | exact frz_all (by simp; done) rfl (fun _ _ => rfl) (fun _ => rfl) rfl | exact .frz (by simp; done) rfl (by omega) (fun _ _ => rfl) (fun _ _ => rfl) | exact slEq rfl (by first | (simp; done) | (simp; omega)) | exact siEq (by omega) | exact .of_eq (by refine (show V.agg _ = V.agg _ from ?_); (try dsimp only); congr <;> first | rfl | omega) rfl | exact .closed (by simp [V.closed, V.closed.all, *]; done) | fail)))
  intro n hn _
  by_cases hlt : n < bk.length
  · have h1 := hP n hlt
    have h2 := hQ n hlt
    have h3 := hstep n hlt
    have h4 := hbnd n hlt
    have h5 := hap n hlt
    generalize P (n + 1) = p at *
    generalize Q (n + 1) = q at *
    (repeat' (first | (refine ar_isq ?_; first | refine zmv ?_ | refine zas ?_ | (refine is_load ?_; first | refine zlp ?_ | refine zlr ?_) | (refine is_binOp ?_; first | refine zlss ?_ | refine zgtr ?_ | refine zgeq ?_ | refine zeql ?_ | refine zneq ?_ | refine zadd ?_) | (refine is_fieldAddr ?_; first | refine zfp ?_ | refine zfr ?_) | (refine is_indexAddr ?_; first | refine zil ?_ | refine zis ?_ | refine zit ?_ | refine zia ?_ | refine zir ?_ | refine zil (j := n) ?_ | refine zis (j := n) ?_ | refine zit (j := n) ?_ | (refine zxl ?_; intro _ _ _) | (refine zxs ?_; intro _ _ _)) | (refine is_call ?_; first | refine zll ?_ | refine zls ?_ | refine zln ?_ | refine zle ?_) | (refine is_pick ?_; first | refine zpt ?_ | refine zpf ?_) | refine zex ?_ | refine znt ?_) | (refine zal ?_) | (refine zsvs ?_) | (refine zsva ?_) | (refine zses ?_) | (refine zsea ?_) | (refine zg ?_ ?_ <;> intro hg <;> first | exact absurd hg (by decide) | ((try replace hg := HG.out hg); (try dsimp only at hg); (try (have _h : True := hg; clear _h hg)); first | (exfalso; omega) | skip)) | (refine zgu ?_) | (refine ar_nil ?_) | (refine aw_seq ?_) | (refine aw_skip ?_) | (refine aw_block ?_) | (refine aw_exit ?_) | (refine aw_region ?_) | (refine zco ?_ ?_ <;> intro hg <;> first | exact absurd hg (by decide) | ((try replace hg := HG.out hg); (try dsimp only at hg); (try (have _h : True := hg; clear _h hg)); first | (exfalso; omega) | skip))))
    all_goals first
      | (exfalso; omega)
      | ((first | refine loop_next (by omega) ?_ ?_ | refine (show _ ∧ _ ∧ SubOf _ _ _ _ _ _ from And.intro (by omega) (And.intro ?_ ?_))); (focus ((trivial); done)); (focus ((refine sub_to [some 0] [] rfl ?_ ?_ <;> (repeat' (first | exact trivial | refine ⟨⟨_, rfl, ?_⟩, ?_⟩ | refine ⟨bsub_snoc rfl rfl (fun _ => rfl) ?_, ?_⟩ | refine ⟨bsub_one rfl rfl ?_, ?_⟩ | refine ⟨bsub_all rfl rfl (fun _ _ => rfl) (fun _ => rfl), ?_⟩ | refine ⟨bsub_updL rfl rfl ?_ (fun _ _ _ => rfl) (fun _ => rfl), ?_⟩ | refine ⟨.inl ⟨_, _, rfl, rfl, ?_⟩, ?_⟩ | exact ⟨.inr ⟨rfl, rfl⟩, trivial⟩ | refine ⟨.inr ⟨rfl, rfl⟩, ?_⟩ | (intro _ _) | exact .closed rfl | exact .sl rfl | exact .ptr rfl | exact .map rfl | exact .nil rfl | exact .emp rfl | exact .nilList | exact .empList | exact frzPtr' (by simp; done) rfl (by omega) rfl rfl | exact frzLB (by simp; done) rfl (fun _ => rfl) rfl | exact frz_all (by simp; done) rfl (fun _ _ => rfl) (fun _ => rfl) rfl | exact .frz (by simp; done) rfl (by omega) (fun _ _ => rfl) (fun _ _ => rfl) | exact slEq rfl (by first | (simp; done) | (simp; omega)) | exact siEq (by omega) | exact .of_eq (by refine (show V.agg _ = V.agg _ from ?_); (try dsimp only); congr <;> first | rfl | omega) rfl | exact .closed (by simp [V.closed, V.closed.all, *]; done) | fail))); done)))
      | trace_state
  · obtain rfl : n = bk.length := by omega
    rcases hend with ⟨hgone, he⟩ | ⟨hgone, he⟩
    · (repeat' (first | (refine ar_isq ?_; first | refine zmv ?_ | refine zas ?_ | (refine is_load ?_; first | refine zlp ?_ | refine zlr ?_) | (refine is_binOp ?_; first | refine zlss ?_ | refine zgtr ?_ | refine zgeq ?_ | refine zeql ?_ | refine zneq ?_ | refine zadd ?_) | (refine is_fieldAddr ?_; first | refine zfp ?_ | refine zfr ?_) | (refine is_indexAddr ?_; first | refine zil ?_ | refine zis ?_ | refine zit ?_ | refine zia ?_ | refine zir ?_ | refine zil (j := i.toNat) ?_ | refine zis (j := i.toNat) ?_ | refine zit (j := i.toNat) ?_ | (refine zxl ?_; intro _ _ _) | (refine zxs ?_; intro _ _ _)) | (refine is_call ?_; first | refine zll ?_ | refine zls ?_ | refine zln ?_ | refine zle ?_) | (refine is_pick ?_; first | refine zpt ?_ | refine zpf ?_) | refine zex ?_ | refine znt ?_) | (refine zal ?_) | (refine zsvs ?_) | (refine zsva ?_) | (refine zses ?_) | (refine zsea ?_) | (refine zg ?_ ?_ <;> intro hg <;> first | exact absurd hg (by decide) | ((try replace hg := HG.out hg); (try dsimp only at hg); (try (have _h : True := hg; clear _h hg)); first | (exfalso; omega) | skip)) | (refine zgu ?_) | (refine ar_nil ?_) | (refine aw_seq ?_) | (refine aw_skip ?_) | (refine aw_block ?_) | (refine aw_exit ?_) | (refine aw_region ?_) | (refine zco ?_ ?_ <;> intro hg <;> first | exact absurd hg (by decide) | ((try replace hg := HG.out hg); (try dsimp only at hg); (try (have _h : True := hg; clear _h hg)); first | (exfalso; omega) | skip))))
      all_goals first
        | (exfalso; omega)
        | ((refine aw_ret ?_; (repeat (first | refine ret_then ?_ | refine ret_block ?_)); refine bq1 rfl ⟨?_, rfl⟩); rfl)
        | (exfalso; exact absurd (hgone.symm.trans (show (el F.items i.toNat).gone = false by assumption)) (by decide))
        | ((refine aw_ret ?_; (repeat (first | refine ret_then ?_ | refine ret_block ?_)); refine bq1 rfl ⟨?_, rfl⟩); refine congrArg vb ?_; first | rfl | exact decide_eq_true he)
        | trace_state
    · (repeat' (first | (refine ar_isq ?_; first | refine zmv ?_ | refine zas ?_ | (refine is_load ?_; first | refine zlp ?_ | refine zlr ?_) | (refine is_binOp ?_; first | refine zlss ?_ | refine zgtr ?_ | refine zgeq ?_ | refine zeql ?_ | refine zneq ?_ | refine zadd ?_) | (refine is_fieldAddr ?_; first | refine zfp ?_ | refine zfr ?_) | (refine is_indexAddr ?_; first | refine zil ?_ | refine zis ?_ | refine zit ?_ | refine zia ?_ | refine zir ?_ | refine zil (j := i.toNat) ?_ | refine zis (j := i.toNat) ?_ | refine zit (j := i.toNat) ?_ | (refine zxl ?_; intro _ _ _) | (refine zxs ?_; intro _ _ _)) | (refine is_call ?_; first | refine zll ?_ | refine zls ?_ | refine zln ?_ | refine zle ?_) | (refine is_pick ?_; first | refine zpt ?_ | refine zpf ?_) | refine zex ?_ | refine znt ?_) | (refine zal ?_) | (refine zsvs ?_) | (refine zsva ?_) | (refine zses ?_) | (refine zsea ?_) | (refine zg ?_ ?_ <;> intro hg <;> first | exact absurd hg (by decide) | ((try replace hg := HG.out hg); (try dsimp only at hg); (try (have _h : True := hg; clear _h hg)); first | (exfalso; omega) | skip)) | (refine zgu ?_) | (refine ar_nil ?_) | (refine aw_seq ?_) | (refine aw_skip ?_) | (refine aw_block ?_) | (refine aw_exit ?_) | (refine aw_region ?_) | (refine zco ?_ ?_ <;> intro hg <;> first | exact absurd hg (by decide) | ((try replace hg := HG.out hg); (try dsimp only at hg); (try (have _h : True := hg; clear _h hg)); first | (exfalso; omega) | skip))))
      all_goals first
        | (exfalso; omega)
        | ((refine aw_ret ?_; (repeat (first | refine ret_then ?_ | refine ret_block ?_)); refine bq1 rfl ⟨?_, rfl⟩); rfl)
        | (exfalso; exact absurd (hgone.symm.trans (show (el F.items i.toNat).gone = true by assumption)) (by decide))
        | ((refine aw_ret ?_; (repeat (first | refine ret_then ?_ | refine ret_block ?_)); refine bq1 rfl ⟨?_, rfl⟩); refine congrArg vb ?_; first | rfl | exact decide_eq_true he)
        | trace_state
theorem whereE_cases (life : Int) (bk : List Deed) (i k : Int) : ((playX life bk).2 ≠ 0 ∧ whereE life bk i = (playX life bk).2 ∧ whereE life bk k = (playX life bk).2) ∨ ((playX life bk).2 = 0 ∧ (whereE life bk i = 0 ∨ whereE life bk i = 6) ∧ (whereE life bk k = 0 ∨ whereE life bk k = 6)) := by
  by_cases h : (playX life bk).2 = 0
  · have hc : ∀ j, whereE life bk j = 0 ∨ whereE life bk j = 6 := fun j => by
      by_cases hj : 0 ≤ j ∧ j < ((stoAt life bk bk.length).items.length : Int)
      · exact .inl (whereE_ok h hj)
      · exact .inr (whereE_none h hj)
    exact .inr ⟨h, hc i, hc k⟩
  · exact .inl ⟨h, whereE_play h, whereE_play h⟩
theorem whereE_in {life : Int} {bk : List Deed} {i : Int} (h : whereE life bk i = 0) : 0 ≤ i ∧ i < ((stoAt life bk bk.length).items.length : Int) := Classical.byContradiction fun hn => by
  by_cases hp : (playX life bk).2 = 0
  · rw [whereE_none hp hn] at h; omega
  · rw [whereE_play hp] at h; exact hp h
theorem plateWhere_p (life : Int) (h1 : i64ok life) (bk : List Deed) (hw : ∀ x, x ∈ bk → x.wf) (i : Int) (h2 : i64ok i) (k : Int) (h3 : i64ok k) : PCalls Try.prog 8 [vi life, encDeeds bk, vi i, vi k] (· = vb true) := by
  have hu := deeds_u8 hw
  have hc := whereE_cases life bk i k
  by_cases hb : whereE life bk i = 0 ∧ whereE life bk k = 0
  · have hp0 : (playX life bk).2 = 0 := by omega
    have hX := playX_zero hp0
    obtain ⟨hn, hl, hJ⟩ := playX_all hX
    have hv := valid0.2 hl
    have hV : ∀ n, n ≤ bk.length → Valid (stoAt life bk n) := fun n hn => (stoAt_ok hv fun j hj => hJ j (by omega)).1
    refine where_good life bk i k (stoAt life bk bk.length) (outTo life bk i bk.length) (outTo life bk k bk.length) (fun n => placeOf (stoAt life bk n) i) (fun n => placeOf (stoAt life bk n) k) outTo_len outTo_len
      ((pWhere_p life bk i hu).mono fun v h => by rw [h, hb.1, whereF_ok hb.1]) ((pWhere_p life bk k hu).mono fun v h => by rw [h, hb.2, whereF_ok hb.2]) ((pPlay_p life bk hu).mono fun v h => by rw [h, playF_ok hp0, hX]) (whereE_in hb.1) (whereE_in hb.2) ?_ (fun n hn => outTo_el hn) (fun n hn => outTo_el hn) (fun n hn => place_step (hJ n hn) i) (fun n hn => place_bnd (hV _ (by omega)) i) (fun n hn hik h2 => place_apart (hV _ (by omega)) hik h2) ?_
    · exact place_out (by simp [stoAt, sto0])
    · have hin := whereE_in hb.1
      cases hg : (el (stoAt life bk bk.length).items i.toNat).gone
      · exact .inr ⟨rfl, place_here ⟨hin, hg⟩⟩
      · exact .inl ⟨rfl, if_neg fun hh => by have := hh.2; rw [hg] at this; cases this⟩
  · exact where_bad life bk i k _ _ _ _ _ _ _ hc hb (pWhere_p life bk i hu) (pWhere_p life bk k hu) (pPlay_p life bk hu)
end Go.Proofs.Ythpbjihnikapoaa
namespace Go.Proofs.Ythpbjihnikapoaa
open Go.ChangeShapes Go.WideShapes Go.ChangeAt Go.RowKit Go.Deep
set_option maxRecDepth 100000 in
theorem plateWhere_lifted (os : Os) (started : os.Started) (H : Type) (enc : TypeId × Value → H) :
    ReturnsInHanded {} Try.checked os 8 .any (Rows.plateWhereSpec.pre6 enc Try.prog Try.f8 Rows.plateWhereRow.domain false) (Rows.plateWhereSpec.post enc Try.prog Try.f8 false true false false) := by
  refine returnsInHanded_of_change (C := Try.checked) own_knob started (by kernel_rfl) Try.func8
    (ChangeSpec.witness6 (enc := enc) (C := Try.checked) false ⟨#[], #[.int .i64 0, .slice none 0 0, .int .i64 0, .int .i64 0], []⟩ 8 (by kernel_rfl) (by kernel_rfl) (by kernel_rfl) (by kernel_rfl)) ?_
  intro W base args ds gs before hval0 hW _ _
  have hval : ∀ (j : Nat) t v, Try.f8.params[j]? = some t → args[j]? = some v → Value.okWide Try.prog W .any base t v := hval0
  have hW' := hW
  obtain ⟨p, q, hA0, hV, rfl, _, _⟩ := hW
  have hA : DataW.TrodAll enc Try.prog W 0 (fun _ => true) true Try.f8.params.toList args.toList ds p := hA0
  rw [Try.params8] at hA hval
  obtain ⟨v0, vs0, d0, ds0, p0, q0, hargs, rfl, rfl, h0, r0⟩ := trodAll_cons hA
  obtain ⟨v1, vs1, d1, ds1, p1, q1, rfl, rfl, rfl, h1, r1⟩ := trodAll_cons r0
  obtain ⟨v2, vs2, d2, ds2, p2, q2, rfl, rfl, rfl, h2, r2⟩ := trodAll_cons r1
  obtain ⟨v3, vs3, d3, ds3, p3, q3, rfl, rfl, rfl, h3, r3⟩ := trodAll_cons r2
  obtain ⟨rfl, rfl, rfl⟩ := trodAll_nil r3
  obtain rfl : args = #[v0, v1, v2, v3] := by cases args; simp_all
  obtain ⟨rfl, rfl⟩ := trodVars_none hV
  have k0 := h0
  have lt0 : ∀ x ∈ p0, x.block < W.heap.size := by obtain ⟨m, hm⟩ := k0; exact DataW.trod_lt m _ _ _ hm
  obtain ⟨a0, o0, e0⟩ := arg_int Try.underlying3 (hval 0 3 v0 rfl rfl) h0
  have k1 := h1
  have lt1 : ∀ x ∈ p1, x.block < W.heap.size := by obtain ⟨m, hm⟩ := k1; exact DataW.trod_lt m _ _ _ hm
  obtain ⟨a1, o1, e1⟩ := arg_list Try.underlying82 rv_deed (hval 1 82 v1 rfl rfl) h1
  have k2 := h2
  have lt2 : ∀ x ∈ p2, x.block < W.heap.size := by obtain ⟨m, hm⟩ := k2; exact DataW.trod_lt m _ _ _ hm
  obtain ⟨a2, o2, e2⟩ := arg_int Try.underlying3 (hval 2 3 v2 rfl rfl) h2
  have k3 := h3
  have lt3 : ∀ x ∈ p3, x.block < W.heap.size := by obtain ⟨m, hm⟩ := k3; exact DataW.trod_lt m _ _ _ hm
  obtain ⟨a3, o3, e3⟩ := arg_int Try.underlying3 (hval 3 3 v3 rfl rfl) h3
  clear hA0 hval0
  refine ((plateWhere_p a0 o0 a1 o1 a2 o2 a3 o3).1 (snap W) W _ (fun b o h => h) (rels_cons e0 (rels_cons e1 (rels_cons e2 (rels_cons e3 rels_nil))))).mono fun e W' ⟨v, u, I', hR, he, hv, _, _, _, bel⟩ => ?_
  subst hR
  cases hv
  subst he
  exact ⟨_, rfl, _, _, _, [], _, [], hW', trodAll_mk1 (shut_bool Try.underlying4 _), (trodAll_cons_mk (Below.trod laid_out (by kernel_rfl) (of_decide_eq_true (by kernel_rfl)) k0 bel lt0) (trodAll_cons_mk (Below.trod laid_out (by kernel_rfl) (of_decide_eq_true (by kernel_rfl)) k1 bel lt1) (trodAll_cons_mk (Below.trod laid_out (by kernel_rfl) (of_decide_eq_true (by kernel_rfl)) k2 bel lt2) (trodAll_cons_mk (Below.trod laid_out (by kernel_rfl) (of_decide_eq_true (by kernel_rfl)) k3 bel lt3) trodAll_mk0)))), rfl, bel.frame _, fun h => by cases h⟩

/-- THE STATEMENT: for every input the law returns true, and each argument reads behind the call as it read before. -/
theorem plateWhere_holds : Rows.PlateWhereSaid :=
  OpenClaim.holds_of_wide 8 Try.f8 rfl rfl rfl rfl rfl rfl rfl ⟨rfl, rfl, rfl, rfl, rfl⟩ rfl rfl rfl rfl rfl (by kernel_rfl) Try.func8 (by kernel_rfl)
    (of_decide_eq_true (by kernel_rfl)) (by unfold Func.isWrapper; first | (rw [if_pos (by decide +kernel)]; kernel_rfl) | (rw [if_neg (by decide +kernel)]; exact ⟨rfl, rfl⟩))
    (fun os started H enc _ => plateWhere_lifted os started H enc)
#print axioms plateWhere_holds
end Go.Proofs.Ythpbjihnikapoaa
