/- Parts of the proof: a layer of values over the model, and contracts of functions. No condition. -/
import Derived.Test.YthpbjihnikapoaaKPq10
namespace Go.Proofs.Ythpbjihnikapoaa
open Go.RowKit
structure Sound (s : Sto) : Prop where
  valid : Valid s
  states : ∀ j, j < s.prints.length → u8ok (el s.prints j).state
theorem lookup_at {l : List (Int × Int)} {q v : Int} (h : getE l q = some v) : getD0 l q = v := by unfold getD0; rw [h]; rfl
theorem lookup_no {l : List (Int × Int)} {q : Int} (h : getE l q = none) : getD0 l q = 0 := by unfold getD0; rw [h]; rfl
section
variable {r : Option Nat} {m nt : Nat} {Q : Post} {env : Env} {H : Heap} {ops : Array Oper} {L : List Stp} {ty : TypeId} {pos : String} {after : Array Edge} {T K E : TypeId} {d dk de : TyD} {x y : Operand}
theorem ar_lookupD {i f b : Nat} {l : List (Int × Int)} {a : Int} (ht : TyIs Try.prog T d) (hk : d.tk = .map K E) (hK : TyIs Try.prog K dk) (hkk : dk.tk = .int .i64) (hE : TyIs Try.prog E de) (hx : eo env x = some (.map b)) (hy : eo env y = some (.s (.int .i64 a))) (hH : H[b]? = some (mapE vi l)) (hz : constV de.zero = vi 0) (hd : f < nt)
    (h : AR Try.prog r m nt ops Q L ((f, vi (getD0 l a)) :: env) H) : AR Try.prog r m nt ops Q (.q i ⟨some f, .lookup T x y false, ty, pos, after, none⟩ :: L) env H := by
  refine ar_lookup (e := vi) ht hk hK hkk hE hx hy hH hd (fun v hv => ?_) (fun hv => ?_)
  · rw [lookup_at hv] at h; exact h
  · rw [lookup_no hv] at h; rw [hz]; exact h
theorem ar_lookupUD {i f b : Nat} {l : List (Int × Int)} {a : Int} (ht : TyIs Try.prog T d) (hk : d.tk = .map K E) (hK : TyIs Try.prog K dk) (hkk : dk.tk = .int .u8) (hE : TyIs Try.prog E de) (hx : eo env x = some (.map b)) (hy : eo env y = some (.s (.int .u8 a))) (hH : H[b]? = some (mapU vi l)) (hz : constV de.zero = vi 0) (hd : f < nt)
    (h : AR Try.prog r m nt ops Q L ((f, vi (getD0 l a)) :: env) H) : AR Try.prog r m nt ops Q (.q i ⟨some f, .lookup T x y false, ty, pos, after, none⟩ :: L) env H := by
  refine ar_lookupU (e := vi) ht hk hK hkk hE hx hy hH hd (fun v hv => ?_) (fun hv => ?_)
  · rw [lookup_at hv] at h; exact h
  · rw [lookup_no hv] at h; rw [hz]; exact h
theorem ar_lookupN {i f b : Nat} {l : List (Int × Bool)} {a : Int} (hn : getE l a = none) (ht : TyIs Try.prog T d) (hk : d.tk = .map K E) (hK : TyIs Try.prog K dk) (hkk : dk.tk = .int .i64) (hE : TyIs Try.prog E de) (hx : eo env x = some (.map b)) (hy : eo env y = some (.s (.int .i64 a))) (hH : H[b]? = some (mapE vb l)) (hd : f < nt)
    (h : AR Try.prog r m nt ops Q L ((f, constV de.zero) :: env) H) : AR Try.prog r m nt ops Q (.q i ⟨some f, .lookup T x y false, ty, pos, after, none⟩ :: L) env H := by
  refine ar_lookup (e := vb) ht hk hK hkk hE hx hy hH hd (fun v hv => ?_) (fun _ => h)
  rw [hn] at hv; cases hv
end
theorem pressFor_yes {l : List Itm} {k : Nat} (h : 2 ≤ (el l k).place) : pressFor l (k + 1) = putE (pressFor l k) (el l k).place true := by
  show (if _ then _ else _) = _
  rw [if_pos h]
theorem pressFor_no {l : List Itm} {k : Nat} (h : ¬ 2 ≤ (el l k).place) : pressFor l (k + 1) = pressFor l k := by
  show (if _ then _ else _) = _
  rw [if_neg h]
theorem sumP_yes {l : List Itm} {f : Nat → Int} {k : Nat} (h : (el l k).kind = 3) : sumP l f (k + 1) = sumP l f k + f k := by simp only [sumP]; rw [if_pos h]
theorem sumP_no {l : List Itm} {f : Nat → Int} {k : Nat} (h : ¬ (el l k).kind = 3) : sumP l f (k + 1) = sumP l f k := by simp only [sumP]; rw [if_neg h]; omega
set_option maxRecDepth 20000 in
set_option maxHeartbeats 1000000 in
theorem accounted_p (s : Sto) (h : Sound s) : PCalls Try.prog 47 [s.enc] (· = vb true) := by
  have hV := h.valid
  have hfew := hV.1
  unfold Few at hfew
  have hc := pCountsU_p s h.states
  have hst := states_all (l := s.prints) (k := s.prints.length) fun j hj => ⟨(h.states j hj).1, (hV.2.2.2.1 j hj).2.2⟩
  have hsum := sum_uses hV
  rw [cntV_ok hV, cntV_ok hV, cntV_ok hV, show validE s = 0 from if_pos hV] at hc
  have hu : ∀ q k, getD0 (tallyTo (·.plate) s.prints k) q = usedP s.prints q k := fun q k => tally_cnt _ _ _ _
  have hs : ∀ q k, getD0 (tallyTo (·.state) s.prints k) q = cntS s.prints q k := fun q k => tally_cnt _ _ _ _
  refine pcalls_of_aw Try.func47 rfl (Nat.le_of_ble_eq_true rfl) ?_
  (repeat' (first | (refine ar_isq ?_; first | refine zmv ?_ | refine zas ?_ | (refine is_load ?_; first | refine zlp ?_ | refine zlr ?_) | (refine is_binOp ?_; first | refine zlss ?_ | refine zgeq ?_ | refine zeql ?_ | refine zneq ?_ | refine zadd ?_) | (refine is_fieldAddr ?_; first | refine zfp ?_ | refine zfr ?_) | (refine is_indexAddr ?_; first | refine zil ?_ | refine zis ?_ | refine zit ?_ | refine zia ?_ | refine zir ?_ | (refine zxl ?_; intro _ _ _) | (refine zxs ?_; intro _ _ _)) | (refine is_call ?_; first | refine zll ?_ | refine zls ?_ | refine zln ?_ | refine zle ?_) | (refine is_pick ?_; first | refine zpt ?_ | refine zpf ?_) | refine zex ?_) | (refine ar_pcall (own := false) fn27 rfl rfl (.cons (.closed rfl) .nil) (hc) (by simp) (dc rfl) ?_; intro _ hv; subst hv) | (refine ar_makeMap (dc rfl) ?_) | (refine zbx ?_) | (refine zal ?_) | (refine zsvs ?_) | (refine zsva ?_) | (refine zses ?_) | (refine zsea ?_) | (refine zg ?_ ?_ <;> intro hg <;> first | exact absurd hg (by decide) | ((try replace hg := HG.out hg); (try dsimp only at hg); (try (have _h : True := hg; clear _h hg)); first | (exfalso; omega) | skip)) | (refine zgu ?_) | (refine ar_nil ?_) | (refine aw_seq ?_) | (refine aw_skip ?_) | (refine aw_block ?_) | (refine aw_exit ?_) | (refine aw_region ?_) | (refine zco ?_ ?_ <;> intro hg <;> first | exact absurd hg (by decide) | ((try replace hg := HG.out hg); (try dsimp only at hg); (try (have _h : True := hg; clear _h hg)); first | (exfalso; omega) | skip))))
  refine aw_for s.prints.length (fun _ => True) (fun k => [(1, .ptr 3 0 0 0), (3, vi (cntS s.prints 0 s.prints.length)), (4, vi (cntS s.prints 1 s.prints.length)), (5, vi (cntS s.prints 2 s.prints.length)), (6, vi 0), (7, .map 1), (8, .map 2), (25, encPrints s.prints), (26, vi s.prints.length), (27, vi k)]) (fun k => [.arr 3 1 (fun _ => s.enc), mapE vi (tallyTo (·.plate) s.prints k), mapU vi (tallyTo (·.state) s.prints k)]) trivial ?_ ?_
  · (refine sub_to [some 0, some 1, some 2] [] rfl ?_ ?_ <;> (repeat' (first | exact trivial | refine ⟨⟨_, rfl, ?_⟩, ?_⟩ | refine ⟨bsub_snoc rfl rfl (fun _ => rfl) ?_, ?_⟩ | refine ⟨bsub_one rfl rfl ?_, ?_⟩ | refine ⟨bsub_all rfl rfl (fun _ _ => rfl) (fun _ => rfl), ?_⟩ | refine ⟨bsub_updL rfl rfl ?_ (fun _ _ _ => rfl) (fun _ => rfl), ?_⟩ | refine ⟨.inl ⟨_, _, rfl, rfl, ?_⟩, ?_⟩ | exact ⟨.inr ⟨rfl, rfl⟩, trivial⟩ | refine ⟨.inr ⟨rfl, rfl⟩, ?_⟩ | (intro _ _) | exact vz1 | (first | refine ⟨bsub_mapE rfl rfl (fun _ => rfl), ?_⟩ | refine ⟨bsub_mapU rfl rfl (fun _ => rfl), ?_⟩) | exact vz2 | fail)))
  intro k hk _
  by_cases hlt : k < s.prints.length
  · have b1 := usedP_bnd s.prints (el s.prints k).plate k
    have b2 := cntS_bnd s.prints (el s.prints k).state k
    have e1 := hu (el s.prints k).plate k
    have e2 := hs (el s.prints k).state k
    (repeat' (first | (refine ar_isq ?_; first | refine zmv ?_ | refine zas ?_ | (refine is_load ?_; first | refine zlp ?_ | refine zlr ?_) | (refine is_binOp ?_; first | refine zlss ?_ | refine zgeq ?_ | refine zeql ?_ | refine zneq ?_ | refine zadd ?_) | (refine is_fieldAddr ?_; first | refine zfp ?_ | refine zfr ?_) | (refine is_indexAddr ?_; first | refine zil ?_ | refine zis ?_ | refine zit ?_ | refine zia ?_ | refine zir ?_ | refine zil (j := k) ?_ | refine zis (j := k) ?_ | refine zit (j := k) ?_ | (refine zxl ?_; intro _ _ _) | (refine zxs ?_; intro _ _ _)) | (refine is_call ?_; first | refine zll ?_ | refine zls ?_ | refine zln ?_ | refine zle ?_) | (refine is_pick ?_; first | refine zpt ?_ | refine zpf ?_) | refine zex ?_) | (refine ar_lookupD (ty rfl) rfl (ty rfl) rfl (ty rfl) rfl rfl rfl rfl (dc rfl) ?_) | (refine ar_lookupUD (ty rfl) rfl (ty rfl) rfl (ty rfl) rfl rfl rfl rfl (dc rfl) ?_) | (refine ar_mapUpdate (e := vi) (v := getD0 (tallyTo (·.plate) s.prints k) (el s.prints k).plate + 1) (ty rfl) rfl (ty rfl) rfl rfl rfl rfl rfl ?_) | (refine ar_mapUpdateU (e := vi) (v := getD0 (tallyTo (·.state) s.prints k) (el s.prints k).state + 1) (ty rfl) rfl (ty rfl) rfl rfl rfl rfl rfl ?_) | (refine zbx ?_) | (refine zal ?_) | (refine zsvs ?_) | (refine zsva ?_) | (refine zses ?_) | (refine zsea ?_) | (refine zg ?_ ?_ <;> intro hg <;> first | exact absurd hg (by decide) | ((try replace hg := HG.out hg); (try dsimp only at hg); (try (have _h : True := hg; clear _h hg)); first | (exfalso; omega) | skip)) | (refine zgu ?_) | (refine ar_nil ?_) | (refine aw_seq ?_) | (refine aw_skip ?_) | (refine aw_block ?_) | (refine aw_exit ?_) | (refine aw_region ?_) | (refine zco ?_ ?_ <;> intro hg <;> first | exact absurd hg (by decide) | ((try replace hg := HG.out hg); (try dsimp only at hg); (try (have _h : True := hg; clear _h hg)); first | (exfalso; omega) | skip))))
    all_goals first
      | ((first | refine loop_next (by omega) ?_ ?_ | refine (show _ ∧ _ ∧ SubOf _ _ _ _ _ _ from And.intro (by omega) (And.intro ?_ ?_))); (focus ((trivial); done)); (focus ((refine sub_to [some 0, some 1, some 2] [] rfl ?_ ?_ <;> (repeat' (first | exact trivial | refine ⟨⟨_, rfl, ?_⟩, ?_⟩ | refine ⟨bsub_snoc rfl rfl (fun _ => rfl) ?_, ?_⟩ | refine ⟨bsub_one rfl rfl ?_, ?_⟩ | refine ⟨bsub_all rfl rfl (fun _ _ => rfl) (fun _ => rfl), ?_⟩ | refine ⟨bsub_updL rfl rfl ?_ (fun _ _ _ => rfl) (fun _ => rfl), ?_⟩ | refine ⟨.inl ⟨_, _, rfl, rfl, ?_⟩, ?_⟩ | exact ⟨.inr ⟨rfl, rfl⟩, trivial⟩ | refine ⟨.inr ⟨rfl, rfl⟩, ?_⟩ | (intro _ _) | exact vz1 | (first | refine ⟨bsub_mapE rfl rfl (fun _ => rfl), ?_⟩ | refine ⟨bsub_mapU rfl rfl (fun _ => rfl), ?_⟩) | exact vz2 | fail))); done)))
      | trace_state
  · obtain rfl : k = s.prints.length := by omega
    (repeat' (first | (refine ar_isq ?_; first | refine zmv ?_ | refine zas ?_ | (refine is_load ?_; first | refine zlp ?_ | refine zlr ?_) | (refine is_binOp ?_; first | refine zlss ?_ | refine zgeq ?_ | refine zeql ?_ | refine zneq ?_ | refine zadd ?_) | (refine is_fieldAddr ?_; first | refine zfp ?_ | refine zfr ?_) | (refine is_indexAddr ?_; first | refine zil ?_ | refine zis ?_ | refine zit ?_ | refine zia ?_ | refine zir ?_ | (refine zxl ?_; intro _ _ _) | (refine zxs ?_; intro _ _ _)) | (refine is_call ?_; first | refine zll ?_ | refine zls ?_ | refine zln ?_ | refine zle ?_) | (refine is_pick ?_; first | refine zpt ?_ | refine zpf ?_) | refine zex ?_) | (refine ar_makeMap (dc rfl) ?_) | (refine zbx ?_) | (refine zal ?_) | (refine zsvs ?_) | (refine zsva ?_) | (refine zses ?_) | (refine zsea ?_) | (refine zg ?_ ?_ <;> intro hg <;> first | exact absurd hg (by decide) | ((try replace hg := HG.out hg); (try dsimp only at hg); (try (have _h : True := hg; clear _h hg)); first | (exfalso; omega) | skip)) | (refine zgu ?_) | (refine ar_nil ?_) | (refine aw_seq ?_) | (refine aw_skip ?_) | (refine aw_block ?_) | (refine aw_exit ?_) | (refine aw_region ?_) | (refine zco ?_ ?_ <;> intro hg <;> first | exact absurd hg (by decide) | ((try replace hg := HG.out hg); (try dsimp only at hg); (try (have _h : True := hg; clear _h hg)); first | (exfalso; omega) | skip))))
    refine aw_for s.items.length (fun _ => True) (fun k => [(1, .ptr 3 0 0 0), (3, vi (cntS s.prints 0 s.prints.length)), (4, vi (cntS s.prints 1 s.prints.length)), (5, vi (cntS s.prints 2 s.prints.length)), (6, vi 0), (7, .map 1), (8, .map 2), (11, vi (sumP s.items (fun i => (el s.items i).uses) k)), (12, .map 3), (44, encItems s.items), (45, vi s.items.length), (46, vi k)]) (fun k => [.arr 3 1 (fun _ => s.enc), mapE vi (tallyTo (·.plate) s.prints s.prints.length), mapU vi (tallyTo (·.state) s.prints s.prints.length), mapE vb (pressFor s.items k)]) trivial ?_ ?_
    · (refine sub_to [some 0, some 1, some 2, some 3] [] rfl ?_ ?_ <;> (repeat' (first | exact trivial | refine ⟨⟨_, rfl, ?_⟩, ?_⟩ | refine ⟨bsub_snoc rfl rfl (fun _ => rfl) ?_, ?_⟩ | refine ⟨bsub_one rfl rfl ?_, ?_⟩ | refine ⟨bsub_all rfl rfl (fun _ _ => rfl) (fun _ => rfl), ?_⟩ | refine ⟨bsub_updL rfl rfl ?_ (fun _ _ _ => rfl) (fun _ => rfl), ?_⟩ | refine ⟨.inl ⟨_, _, rfl, rfl, ?_⟩, ?_⟩ | exact ⟨.inr ⟨rfl, rfl⟩, trivial⟩ | refine ⟨.inr ⟨rfl, rfl⟩, ?_⟩ | (intro _ _) | exact vz1 | (first | refine ⟨bsub_mapE rfl rfl (fun _ => rfl), ?_⟩ | refine ⟨bsub_mapU rfl rfl (fun _ => rfl), ?_⟩) | exact vz2 | fail)))
    intro k hk _
    by_cases hlt : k < s.items.length
    · have hpl := hV.2.2.1 k hlt
      have hp1 := hpl.1
      have hp2 := hpl.2.1
      have hp3 := hpl.2.2
      have hpn : 2 ≤ (el s.items k).place → getE (pressFor s.items k) (el s.items k).place = none := fun h2 => pressFor_free fun j hj _ => (hp3 h2).2 j (by omega) (by omega)
      have huse : (el s.items k).kind = 3 → getD0 (tallyTo (·.plate) s.prints s.prints.length) (k : Int) = (el s.items k).uses := fun h3 => (hu _ _).trans (plate_uses hV hlt h3).symm
      have hsb := sumP_bnd (l := s.items) (f := fun i => (el s.items i).uses) (M := 400) (by omega) (k := k) (fun i hi h3 => by
        have := plate_uses hV (show i < s.items.length by omega) h3
        have hb := usedP_bnd s.prints (i : Int) s.prints.length
        show 0 ≤ (el s.items i).uses ∧ (el s.items i).uses ≤ 400
        omega)
      have hub : (el s.items k).kind = 3 → 0 ≤ (el s.items k).uses ∧ (el s.items k).uses ≤ 400 := fun h3 => by
        have := plate_uses hV hlt h3
        have hb := usedP_bnd s.prints (k : Int) s.prints.length
        omega
      by_cases h3 : (el s.items k).kind = 3
      · have e1 := huse h3
        have e2 := hub h3
        have e3 := sumP_yes (f := fun i => (el s.items i).uses) h3
        by_cases h2 : 2 ≤ (el s.items k).place
        · have e4 := hpn h2
          have e5 : (el s.items k).gone = false := by
            cases hg : (el s.items k).gone
            · rfl
            · have := hp2 hg; omega
          have e6 := pressFor_yes h2
          (repeat' (first | (refine ar_isq ?_; first | refine zmv ?_ | refine zas ?_ | (refine is_load ?_; first | refine zlp ?_ | refine zlr ?_) | (refine is_binOp ?_; first | refine zlss ?_ | refine zgeq ?_ | refine zeql ?_ | refine zneq ?_ | refine zadd ?_) | (refine is_fieldAddr ?_; first | refine zfp ?_ | refine zfr ?_) | (refine is_indexAddr ?_; first | refine zil ?_ | refine zis ?_ | refine zit ?_ | refine zia ?_ | refine zir ?_ | refine zil (j := k) ?_ | refine zis (j := k) ?_ | refine zit (j := k) ?_ | (refine zxl ?_; intro _ _ _) | (refine zxs ?_; intro _ _ _)) | (refine is_call ?_; first | refine zll ?_ | refine zls ?_ | refine zln ?_ | refine zle ?_) | (refine is_pick ?_; first | refine zpt ?_ | refine zpf ?_) | refine zex ?_) | (refine ar_lookupD (ty rfl) rfl (ty rfl) rfl (ty rfl) rfl rfl rfl rfl (dc rfl) ?_) | (refine ar_lookupN e4 (ty rfl) rfl (ty rfl) rfl (ty rfl) rfl rfl rfl (dc rfl) ?_) | (refine ar_mapUpdate (e := vb) (v := true) (ty rfl) rfl (ty rfl) rfl rfl rfl rfl rfl ?_) | (refine zbx ?_) | (refine zal ?_) | (refine zsvs ?_) | (refine zsva ?_) | (refine zses ?_) | (refine zsea ?_) | (refine zg ?_ ?_ <;> intro hg <;> first | exact absurd hg (by decide) | ((try replace hg := HG.out hg); (try dsimp only at hg); (try (have _h : True := hg; clear _h hg)); first | (exfalso; omega) | skip)) | (refine zgu ?_) | (refine ar_nil ?_) | (refine aw_seq ?_) | (refine aw_skip ?_) | (refine aw_block ?_) | (refine aw_exit ?_) | (refine aw_region ?_) | (refine zco ?_ ?_ <;> intro hg <;> first | exact absurd hg (by decide) | ((try replace hg := HG.out hg); (try dsimp only at hg); (try (have _h : True := hg; clear _h hg)); first | (exfalso; omega) | skip))))
          all_goals first
            | (exfalso; omega)
            | (exfalso; exact absurd (e5.symm.trans (show (el s.items k).gone = true by assumption)) (by decide))
            | ((first | refine loop_next (by omega) ?_ ?_ | refine (show _ ∧ _ ∧ SubOf _ _ _ _ _ _ from And.intro (by omega) (And.intro ?_ ?_))); (focus ((trivial); done)); (focus ((refine sub_to [some 0, some 1, some 2, some 3] [] rfl ?_ ?_ <;> (repeat' (first | exact trivial | refine ⟨⟨_, rfl, ?_⟩, ?_⟩ | refine ⟨bsub_snoc rfl rfl (fun _ => rfl) ?_, ?_⟩ | refine ⟨bsub_one rfl rfl ?_, ?_⟩ | refine ⟨bsub_all rfl rfl (fun _ _ => rfl) (fun _ => rfl), ?_⟩ | refine ⟨bsub_updL rfl rfl ?_ (fun _ _ _ => rfl) (fun _ => rfl), ?_⟩ | refine ⟨.inl ⟨_, _, rfl, rfl, ?_⟩, ?_⟩ | exact ⟨.inr ⟨rfl, rfl⟩, trivial⟩ | refine ⟨.inr ⟨rfl, rfl⟩, ?_⟩ | (intro _ _) | exact vz1 | (first | refine ⟨bsub_mapE' rfl rfl e6 (fun _ => rfl), ?_⟩ | refine ⟨bsub_mapE rfl rfl (fun _ => rfl), ?_⟩ | refine ⟨bsub_mapU rfl rfl (fun _ => rfl), ?_⟩ | exact siEq (by rw [e3])) | exact vz2 | fail))); done)))
            | trace_state
        · have e6 := pressFor_no h2
          (repeat' (first | (refine ar_isq ?_; first | refine zmv ?_ | refine zas ?_ | (refine is_load ?_; first | refine zlp ?_ | refine zlr ?_) | (refine is_binOp ?_; first | refine zlss ?_ | refine zgeq ?_ | refine zeql ?_ | refine zneq ?_ | refine zadd ?_) | (refine is_fieldAddr ?_; first | refine zfp ?_ | refine zfr ?_) | (refine is_indexAddr ?_; first | refine zil ?_ | refine zis ?_ | refine zit ?_ | refine zia ?_ | refine zir ?_ | refine zil (j := k) ?_ | refine zis (j := k) ?_ | refine zit (j := k) ?_ | (refine zxl ?_; intro _ _ _) | (refine zxs ?_; intro _ _ _)) | (refine is_call ?_; first | refine zll ?_ | refine zls ?_ | refine zln ?_ | refine zle ?_) | (refine is_pick ?_; first | refine zpt ?_ | refine zpf ?_) | refine zex ?_) | (refine ar_lookupD (ty rfl) rfl (ty rfl) rfl (ty rfl) rfl rfl rfl rfl (dc rfl) ?_) | (refine zbx ?_) | (refine zal ?_) | (refine zsvs ?_) | (refine zsva ?_) | (refine zses ?_) | (refine zsea ?_) | (refine zg ?_ ?_ <;> intro hg <;> first | exact absurd hg (by decide) | ((try replace hg := HG.out hg); (try dsimp only at hg); (try (have _h : True := hg; clear _h hg)); first | (exfalso; omega) | skip)) | (refine zgu ?_) | (refine ar_nil ?_) | (refine aw_seq ?_) | (refine aw_skip ?_) | (refine aw_block ?_) | (refine aw_exit ?_) | (refine aw_region ?_) | (refine zco ?_ ?_ <;> intro hg <;> first | exact absurd hg (by decide) | ((try replace hg := HG.out hg); (try dsimp only at hg); (try (have _h : True := hg; clear _h hg)); first | (exfalso; omega) | skip))))
          all_goals first
            | (exfalso; omega)
            | ((first | refine loop_next (by omega) ?_ ?_ | refine (show _ ∧ _ ∧ SubOf _ _ _ _ _ _ from And.intro (by omega) (And.intro ?_ ?_))); (focus ((trivial); done)); (focus ((refine sub_to [some 0, some 1, some 2, some 3] [] rfl ?_ ?_ <;> (repeat' (first | exact trivial | refine ⟨⟨_, rfl, ?_⟩, ?_⟩ | refine ⟨bsub_snoc rfl rfl (fun _ => rfl) ?_, ?_⟩ | refine ⟨bsub_one rfl rfl ?_, ?_⟩ | refine ⟨bsub_all rfl rfl (fun _ _ => rfl) (fun _ => rfl), ?_⟩ | refine ⟨bsub_updL rfl rfl ?_ (fun _ _ _ => rfl) (fun _ => rfl), ?_⟩ | refine ⟨.inl ⟨_, _, rfl, rfl, ?_⟩, ?_⟩ | exact ⟨.inr ⟨rfl, rfl⟩, trivial⟩ | refine ⟨.inr ⟨rfl, rfl⟩, ?_⟩ | (intro _ _) | exact vz1 | (first | refine ⟨bsub_mapE' rfl rfl e6 (fun _ => rfl), ?_⟩ | refine ⟨bsub_mapE rfl rfl (fun _ => rfl), ?_⟩ | refine ⟨bsub_mapU rfl rfl (fun _ => rfl), ?_⟩ | exact siEq (by rw [e3])) | exact vz2 | fail))); done)))
            | trace_state
      · have e3 := sumP_no (f := fun i => (el s.items i).uses) h3
        have h2 : ¬ 2 ≤ (el s.items k).place := fun h2 => h3 (hp3 h2).1
        have e6 := pressFor_no h2
        (repeat' (first | (refine ar_isq ?_; first | refine zmv ?_ | refine zas ?_ | (refine is_load ?_; first | refine zlp ?_ | refine zlr ?_) | (refine is_binOp ?_; first | refine zlss ?_ | refine zgeq ?_ | refine zeql ?_ | refine zneq ?_ | refine zadd ?_) | (refine is_fieldAddr ?_; first | refine zfp ?_ | refine zfr ?_) | (refine is_indexAddr ?_; first | refine zil ?_ | refine zis ?_ | refine zit ?_ | refine zia ?_ | refine zir ?_ | refine zil (j := k) ?_ | refine zis (j := k) ?_ | refine zit (j := k) ?_ | (refine zxl ?_; intro _ _ _) | (refine zxs ?_; intro _ _ _)) | (refine is_call ?_; first | refine zll ?_ | refine zls ?_ | refine zln ?_ | refine zle ?_) | (refine is_pick ?_; first | refine zpt ?_ | refine zpf ?_) | refine zex ?_) | (refine ar_lookupD (ty rfl) rfl (ty rfl) rfl (ty rfl) rfl rfl rfl rfl (dc rfl) ?_) | (refine zbx ?_) | (refine zal ?_) | (refine zsvs ?_) | (refine zsva ?_) | (refine zses ?_) | (refine zsea ?_) | (refine zg ?_ ?_ <;> intro hg <;> first | exact absurd hg (by decide) | ((try replace hg := HG.out hg); (try dsimp only at hg); (try (have _h : True := hg; clear _h hg)); first | (exfalso; omega) | skip)) | (refine zgu ?_) | (refine ar_nil ?_) | (refine aw_seq ?_) | (refine aw_skip ?_) | (refine aw_block ?_) | (refine aw_exit ?_) | (refine aw_region ?_) | (refine zco ?_ ?_ <;> intro hg <;> first | exact absurd hg (by decide) | ((try replace hg := HG.out hg); (try dsimp only at hg); (try (have _h : True := hg; clear _h hg)); first | (exfalso; omega) | skip))))
        all_goals first
          | (exfalso; omega)
          | ((first | refine loop_next (by omega) ?_ ?_ | refine (show _ ∧ _ ∧ SubOf _ _ _ _ _ _ from And.intro (by omega) (And.intro ?_ ?_))); (focus ((trivial); done)); (focus ((refine sub_to [some 0, some 1, some 2, some 3] [] rfl ?_ ?_ <;> (repeat' (first | exact trivial | refine ⟨⟨_, rfl, ?_⟩, ?_⟩ | refine ⟨bsub_snoc rfl rfl (fun _ => rfl) ?_, ?_⟩ | refine ⟨bsub_one rfl rfl ?_, ?_⟩ | refine ⟨bsub_all rfl rfl (fun _ _ => rfl) (fun _ => rfl), ?_⟩ | refine ⟨bsub_updL rfl rfl ?_ (fun _ _ _ => rfl) (fun _ => rfl), ?_⟩ | refine ⟨.inl ⟨_, _, rfl, rfl, ?_⟩, ?_⟩ | exact ⟨.inr ⟨rfl, rfl⟩, trivial⟩ | refine ⟨.inr ⟨rfl, rfl⟩, ?_⟩ | (intro _ _) | exact vz1 | (first | refine ⟨bsub_mapE' rfl rfl e6 (fun _ => rfl), ?_⟩ | refine ⟨bsub_mapE rfl rfl (fun _ => rfl), ?_⟩ | refine ⟨bsub_mapU rfl rfl (fun _ => rfl), ?_⟩ | exact siEq (by rw [e3])) | exact vz2 | fail))); done)))
          | trace_state
    · obtain rfl : k = s.items.length := by omega
      have c0 := hs 0 s.prints.length
      have c1 := hs 1 s.prints.length
      have c2 := hs 2 s.prints.length
      have n0 := cntS_bnd s.prints 0 s.prints.length
      have n1 := cntS_bnd s.prints 1 s.prints.length
      have n2 := cntS_bnd s.prints 2 s.prints.length
      (repeat' (first | (refine ar_isq ?_; first | refine zmv ?_ | refine zas ?_ | (refine is_load ?_; first | refine zlp ?_ | refine zlr ?_) | (refine is_binOp ?_; first | refine zlss ?_ | refine zgeq ?_ | refine zeql ?_ | refine zneq ?_ | refine zadd ?_) | (refine is_fieldAddr ?_; first | refine zfp ?_ | refine zfr ?_) | (refine is_indexAddr ?_; first | refine zil ?_ | refine zis ?_ | refine zit ?_ | refine zia ?_ | refine zir ?_ | (refine zxl ?_; intro _ _ _) | (refine zxs ?_; intro _ _ _)) | (refine is_call ?_; first | refine zll ?_ | refine zls ?_ | refine zln ?_ | refine zle ?_) | (refine is_pick ?_; first | refine zpt ?_ | refine zpf ?_) | refine zex ?_) | (refine ar_lookupUD (ty rfl) rfl (ty rfl) rfl (ty rfl) rfl rfl rfl rfl (dc rfl) ?_) | (refine zbx ?_) | (refine zal ?_) | (refine zsvs ?_) | (refine zsva ?_) | (refine zses ?_) | (refine zsea ?_) | (refine zg ?_ ?_ <;> intro hg <;> first | exact absurd hg (by decide) | ((try replace hg := HG.out hg); (try dsimp only at hg); (try (have _h : True := hg; clear _h hg)); first | (exfalso; omega) | skip)) | (refine zgu ?_) | (refine ar_nil ?_) | (refine aw_seq ?_) | (refine aw_skip ?_) | (refine aw_block ?_) | (refine aw_exit ?_) | (refine aw_region ?_) | (refine zco ?_ ?_ <;> intro hg <;> first | exact absurd hg (by decide) | ((try replace hg := HG.out hg); (try dsimp only at hg); (try (have _h : True := hg; clear _h hg)); first | (exfalso; omega) | skip))))
      all_goals first
        | (exfalso; omega)
        | ((refine aw_ret ?_; (repeat (first | refine ret_then ?_ | refine ret_block ?_)); refine bq1 rfl ⟨?_, rfl⟩); rfl)
        | ((refine aw_ret ?_; (repeat (first | refine ret_then ?_ | refine ret_block ?_)); refine bq1 rfl ⟨?_, rfl⟩); exact congrArg vb (decide_eq_true (by omega)))
        | trace_state
end Go.Proofs.Ythpbjihnikapoaa
namespace Go.Proofs.Ythpbjihnikapoaa
open Go.RowKit
theorem deeds_u8 {bk : List Deed} (h : ∀ x, x ∈ bk → x.wf) : ∀ j, j < bk.length → u8ok (el bk j).kind := fun j hj => (h _ (by rw [show el bk j = bk[j] by simp [el, hj]]; exact List.getElem_mem hj)).1
end Go.Proofs.Ythpbjihnikapoaa
namespace Go.Proofs.Ythpbjihnikapoaa
open Go.RowKit
theorem states_act {s : Sto} {a : Deed} (h : ∀ j, j < s.prints.length → u8ok (el s.prints j).state) (he : actE s a = 0) : ∀ j, j < (actF s a).prints.length → u8ok (el (actF s a).prints j).state := by
  have hst : ∀ (first n st : Int), u8ok st → ∀ j, j < (spendF s first n st).prints.length → u8ok (el (spendF s first n st).prints j).state := fun first n st hs j hj => by
    rw [spendF_len] at hj
    rw [spendF_el hj]
    unfold stateAt
    split
    · exact hs
    · exact h j hj
  rcases act_kind he with k | k | k | k | k | k | k
  · rw [actF_1 k]; exact h
  · rw [actF_2 k]; exact h
  · rw [actF_3 k]; exact h
  · rw [actF_4 k]
    intro j hj
    by_cases hlt : j < s.prints.length
    · rw [show (printF s a.item a.n).prints = s.prints ++ List.replicate a.n.toNat ⟨a.item, 0⟩ from rfl, el_app_lt hlt]
      exact h j hlt
    · have hj2 : j < s.prints.length + a.n.toNat := by simpa [printF] using hj
      rw [show (printF s a.item a.n).prints = s.prints ++ List.replicate a.n.toNat ⟨a.item, 0⟩ from rfl]
      have : el (s.prints ++ List.replicate a.n.toNat (⟨a.item, 0⟩ : Prt)) j = ⟨a.item, 0⟩ := by
        rw [el_eq (show j < (s.prints ++ List.replicate a.n.toNat (⟨a.item, 0⟩ : Prt)).length by simp; omega), List.getElem_append_right (by omega), List.getElem_replicate]
      rw [this]
      exact ⟨Int.le_refl 0, by show (0 : Int) ≤ 255; omega⟩
  · rw [actF_5 k]; exact hst _ _ _ ⟨by decide, by decide⟩
  · rw [actF_6 k]; exact hst _ _ _ ⟨by decide, by decide⟩
  · rw [actF_7 k]; exact h
theorem sound_act {s : Sto} {a : Deed} (h : Sound s) (he : actE s a = 0) : Sound (actF s a) := ⟨valid_act h.valid he, states_act h.states he⟩
theorem sound_at {life : Int} {bk : List Deed} (h0 : 1 ≤ life ∧ life ≤ 1000) : ∀ {k : Nat}, (∀ j, j < k → errAt life bk j = 0) → Sound (stoAt life bk k)
  | 0, _ => ⟨valid0.2 h0, fun j hj => by simp [stoAt, sto0] at hj⟩
  | k + 1, h => sound_act (sound_at h0 (k := k) fun j hj => h j (by omega)) (h k (by omega))
theorem stoAt_take {life : Int} {bk : List Deed} {c : Nat} : ∀ {k : Nat}, k ≤ c → stoAt life (bk.take c) k = stoAt life bk k
  | 0, _ => rfl
  | k + 1, h => by
    simp only [stoAt]
    rw [stoAt_take (k := k) (by omega), el_take (by omega)]
theorem errAt_take {life : Int} {bk : List Deed} {c k : Nat} (h : k < c) : errAt life (bk.take c) k = errAt life bk k := by
  unfold errAt
  rw [stoAt_take (by omega), el_take h]
theorem cut_bad {life : Int} {bk : List Deed} {c : Nat} (hc : c ≤ bk.length) (h : (playX life (bk.take c)).2 ≠ 0) : playX life bk = playX life (bk.take c) ∨ (200 < bk.length ∧ playX life bk = (0, 4)) := by
  by_cases hn : 200 < bk.length
  · exact .inr ⟨hn, playX_many hn⟩
  · have hl : (bk.take c).length = c := by rw [List.length_take]; omega
    have hn2 : ¬ 200 < (bk.take c).length := by omega
    refine .inl ?_
    by_cases hlf : 1 ≤ life ∧ life ≤ 1000
    · have hex : ∃ j, j < (bk.take c).length ∧ errAt life (bk.take c) j ≠ 0 := Classical.byContradiction fun hno => by
        rw [playX_ok hn2 hlf fun j hj => Classical.byContradiction fun he => hno ⟨j, hj, he⟩] at h
        exact h rfl
      obtain ⟨j, hj, he⟩ := hex
      obtain ⟨m, hm, hb, hne⟩ := first_bad hj he
      rw [playX_bad hn2 hlf hb hm hne, playX_bad hn hlf (fun q hq => by rw [← errAt_take (c := c) (by omega)]; exact hb q hq) (show m < bk.length by omega) (by rw [← errAt_take (c := c) (by omega)]; exact hne), errAt_take (by omega)]
    · rw [playX_life hn2 hlf, playX_life hn hlf]
theorem cutD_sub {H : Heap} {σ : List (Option Nat)} {fr : Nat → Prop} {L : List Deed} {n : Nat} (h : n ≤ L.length) : VSub H σ fr (.list 4 (n - 0) (fun k => Deed.enc (el L (0 + k)))) (encDeeds (L.take n)) := by
  have e : n - 0 = (L.take n).length := by rw [List.length_take]; omega
  rw [e]
  exact .ext fun k hk => by rw [List.length_take] at hk; rw [Nat.zero_add, el_take (by omega)]
end Go.Proofs.Ythpbjihnikapoaa
namespace Go.Proofs.Ythpbjihnikapoaa
open Go.RowKit
theorem place_eq {s : Sto} {i : Int} : placeOf s i = if (0 ≤ i ∧ i < (s.items.length : Int)) ∧ (el s.items i.toNat).gone = false then (el s.items i.toNat).place else -1 := rfl
def seenAt (x : Itm) : Int := if x.gone = false then x.place else -1
theorem place_set {s t : Sto} {j : Nat} {x : Itm} {i : Int} (hj : j < s.items.length) (ht : t.items = s.items.set j x) : placeOf t i = if i = (j : Int) then seenAt x else placeOf s i := by
  rw [place_eq, place_eq, ht, List.length_set]
  by_cases hi : i = (j : Int)
  · subst hi
    rw [if_pos rfl, Int.toNat_natCast, el_setI hj, if_pos rfl]
    unfold seenAt
    by_cases hg : x.gone = false
    · rw [if_pos hg, if_pos ⟨by omega, hg⟩]
    · rw [if_neg hg, if_neg (fun h => hg h.2)]
  · rw [if_neg hi]
    by_cases h0 : 0 ≤ i
    · rw [el_setI hj, show (if i.toNat = j then x else el s.items i.toNat) = el s.items i.toNat from if_neg (by omega)]
    · rw [if_neg (fun h => h0 h.1.1), if_neg (fun h => h0 h.1.1)]
theorem place_add {s t : Sto} {x : Itm} {i : Int} (ht : t.items = s.items ++ [x]) : placeOf t i = if i = (s.items.length : Int) then seenAt x else placeOf s i := by
  rw [place_eq, place_eq, ht, List.length_append, List.length_singleton]
  by_cases hi : i = (s.items.length : Int)
  · subst hi
    rw [if_pos rfl, Int.toNat_natCast, el_snoc]
    unfold seenAt
    by_cases hg : x.gone = false
    · rw [if_pos hg, if_pos ⟨by omega, hg⟩]
    · rw [if_neg hg, if_neg (fun h => hg h.2)]
  · rw [if_neg hi]
    by_cases h0 : 0 ≤ i ∧ i < (s.items.length : Int)
    · rw [el_app_lt (by omega)]
      by_cases hg : (el s.items i.toNat).gone = false
      · rw [if_pos ⟨by omega, hg⟩, if_pos ⟨h0, hg⟩]
      · rw [if_neg (fun h => hg h.2), if_neg (fun h => hg h.2)]
    · rw [if_neg (fun h => h0 (by omega)), if_neg (fun h => h0 h.1)]
theorem place_out {s : Sto} {i : Int} (h : ¬ (0 ≤ i ∧ i < (s.items.length : Int))) : placeOf s i = -1 := by rw [place_eq, if_neg fun h2 => h h2.1]
theorem place_here {s : Sto} {i : Int} (h : hereB s i) : placeOf s i = (el s.items i.toNat).place := if_pos h
theorem here_trans {s : Sto} {i : Int} (h : transE s i = 0) : hereB s i := Classical.byContradiction fun hn => by unfold transE at h; rw [if_neg hn] at h; omega
theorem here_move {s : Sto} {i d : Int} (h : moveE s i d = 0) : hereB s i := Classical.byContradiction fun hn => by unfold moveE at h; rw [if_neg hn] at h; omega
theorem here_print {s : Sto} {i n : Int} (h : printE s i n = 0) : hereB s i := Classical.byContradiction fun hn => by unfold printE at h; rw [if_neg hn] at h; omega
theorem here_dest {s : Sto} {i : Int} (h : destE s i = 0) : hereB s i := Classical.byContradiction fun hn => by unfold destE at h; rw [if_neg hn] at h; omega
theorem place_step {s : Sto} {a : Deed} (h : actE s a = 0) (i : Int) : placeOf (actF s a) i = placeOf s i ∨ (a.kind = 3 ∧ a.item = i ∧ placeOf (actF s a) i = a.dest) ∨ (placeOf s i = -1 ∧ ((a.kind = 1 ∧ placeOf (actF s a) i = 0) ∨ (a.kind = 2 ∧ placeOf (actF s a) i = 1))) ∨ (a.kind = 7 ∧ a.item = i ∧ placeOf (actF s a) i = -1) := by
  rcases act_kind h with k | k | k | k | k | k | k
  · rw [actF_1 k, place_add (s := s) (x := newDie) rfl]
    by_cases hi : i = (s.items.length : Int)
    · rw [if_pos hi]
      exact .inr (.inr (.inl ⟨place_out (by omega), .inl ⟨k, rfl⟩⟩))
    · rw [if_neg hi]
      exact .inl rfl
  · rw [actE_2 k] at h
    have hh := here_trans h
    have hj : a.item.toNat < s.items.length := by have := hh.1; omega
    rw [actF_2 k, place_add (s := setS s a.item.toNat (used1 (el s.items a.item.toNat) 1)) rfl, place_set (s := s) hj rfl, show (setS s a.item.toNat (used1 (el s.items a.item.toNat) 1)).items.length = s.items.length from List.length_set]
    by_cases hi : i = (s.items.length : Int)
    · rw [if_pos hi]
      exact .inr (.inr (.inl ⟨place_out (by omega), .inr ⟨k, rfl⟩⟩))
    · rw [if_neg hi]
      by_cases hi2 : i = (a.item.toNat : Int)
      · rw [if_pos hi2]
        have e : i = a.item := by have := hh.1; omega
        refine .inl ?_
        rw [e, place_here hh]
        exact if_pos hh.2
      · rw [if_neg hi2]
        exact .inl rfl
  · rw [actE_3 k] at h
    have hh := here_move h
    have hj : a.item.toNat < s.items.length := by have := hh.1; omega
    rw [actF_3 k, show moveF s a.item a.dest = setS s a.item.toNat (place1 (el s.items a.item.toNat) a.dest) from rfl, place_set (s := s) hj rfl]
    by_cases hi2 : i = (a.item.toNat : Int)
    · rw [if_pos hi2]
      have e : i = a.item := by have := hh.1; omega
      exact .inr (.inl ⟨k, e.symm, if_pos hh.2⟩)
    · rw [if_neg hi2]
      exact .inl rfl
  · rw [actE_4 k] at h
    have hh := here_print h
    have hj : a.item.toNat < s.items.length := by have := hh.1; omega
    rw [actF_4 k, place_set (s := s) (t := printF s a.item a.n) hj rfl]
    by_cases hi2 : i = (a.item.toNat : Int)
    · rw [if_pos hi2]
      have e : i = a.item := by have := hh.1; omega
      refine .inl ?_
      rw [e, place_here hh]
      exact if_pos hh.2
    · rw [if_neg hi2]
      exact .inl rfl
  · rw [actF_5 k]
    exact .inl rfl
  · rw [actF_6 k]
    exact .inl rfl
  · rw [actE_7 k] at h
    have hh := here_dest h
    have hj : a.item.toNat < s.items.length := by have := hh.1; omega
    rw [actF_7 k, show destF s a.item = setS s a.item.toNat (gone1 (el s.items a.item.toNat)) from rfl, place_set (s := s) hj rfl]
    by_cases hi2 : i = (a.item.toNat : Int)
    · rw [if_pos hi2]
      have e : i = a.item := by have := hh.1; omega
      exact .inr (.inr (.inr ⟨k, e.symm, rfl⟩))
    · rw [if_neg hi2]
      exact .inl rfl
theorem place_bnd {s : Sto} (hV : Valid s) (i : Int) : -1 ≤ placeOf s i ∧ placeOf s i ≤ 9 := by
  rw [place_eq]
  split
  · rename_i h
    have hp := (hV.2.2.1 i.toNat (by omega)).1
    omega
  · omega
theorem place_apart {s : Sto} (hV : Valid s) {i k : Int} (hik : i ≠ k) (h2 : 2 ≤ placeOf s i) : placeOf s i ≠ placeOf s k := by
  by_cases hi : hereB s i
  · rw [place_here hi] at h2 ⊢
    have hi1 := hi.1
    by_cases hk : hereB s k
    · rw [place_here hk]
      have hk1 := hk.1
      have hp := (hV.2.2.1 i.toNat (by omega)).2.2 h2
      exact fun e => hp.2 k.toNat (by omega) (by omega) e.symm
    · have : placeOf s k = -1 := if_neg hk
      omega
  · have : placeOf s i = -1 := if_neg hi
    omega
theorem outTo_el {life : Int} {bk : List Deed} {i : Int} {n k : Nat} (h : k < n) : el (outTo life bk i n) k = placeOf (stoAt life bk (k + 1)) i := by
  simp [outTo, el, h]
end Go.Proofs.Ythpbjihnikapoaa
namespace Go.Proofs.Ythpbjihnikapoaa
open Go.RowKit
abbrev inBx (b : Bx) (x y : Int) : Prop := b.lx ≤ x ∧ x ≤ b.hx ∧ b.ly ≤ y ∧ y ≤ b.hy
theorem in_meet {a b : Bx} {x y : Int} : inBx (meetB a b) x y ↔ inBx a x y ∧ inBx b x y := by
  show (max a.lx b.lx ≤ x ∧ x ≤ min a.hx b.hx ∧ max a.ly b.ly ≤ y ∧ y ≤ min a.hy b.hy) ↔ (a.lx ≤ x ∧ x ≤ a.hx ∧ a.ly ≤ y ∧ y ≤ a.hy) ∧ (b.lx ≤ x ∧ x ≤ b.hx ∧ b.ly ≤ y ∧ y ≤ b.hy)
  omega
section
variable {want seen : List Mk} {tol : Int}
theorem boxAt_one : boxAt want seen tol 1 = meetB (oneB want seen tol 0) (oneB want seen tol 0) := by
  show meetB (if (0 : Nat) = 0 then _ else _) _ = _
  rw [if_pos rfl]
theorem boxAt_next {k : Nat} : boxAt want seen tol (k + 2) = meetB (boxAt want seen tol (k + 1)) (oneB want seen tol (k + 1)) := by
  show meetB (if k + 1 = 0 then _ else _) _ = _
  rw [if_neg (by omega)]
theorem in_box {x y : Int} : ∀ {k : Nat}, inBx (boxAt want seen tol (k + 1)) x y ↔ ∀ j, j < k + 1 → inBx (oneB want seen tol j) x y
  | 0 => by
    rw [boxAt_one, in_meet]
    exact ⟨fun h j hj => by rw [show j = 0 by omega]; exact h.1, fun h => ⟨h 0 (by omega), h 0 (by omega)⟩⟩
  | k + 1 => by
    rw [boxAt_next, in_meet, in_box]
    constructor
    · intro h j hj
      by_cases e : j = k + 1
      · rw [e]; exact h.2
      · exact h.1 j (by omega)
    · intro h
      exact ⟨fun j hj => h j (by omega), h (k + 1) (by omega)⟩
abbrev Brings (want seen : List Mk) (tol x y : Int) : Prop := ∀ j, j < seen.length → inBx (oneB want seen tol j) x y
abbrev boxEmpty (b : Bx) : Prop := b.lx > b.hx ∨ b.ly > b.hy
structure RegOk (want seen : List Mk) (tol : Int) : Prop where
  few : 1 ≤ want.length ∧ want.length ≤ 20
  same : seen.length = want.length
  tol : 0 ≤ tol ∧ tol ≤ 1000
  near : ∀ j, j < seen.length → pairB want seen j
theorem regE_cases (want seen : List Mk) (tol : Int) : (regE want seen tol = 0 ∧ RegOk want seen tol ∧ ¬ boxEmpty (boxAt want seen tol seen.length)) ∨ (regE want seen tol = 6 ∧ RegOk want seen tol ∧ boxEmpty (boxAt want seen tol seen.length)) ∨ ((regE want seen tol = 2 ∨ regE want seen tol = 4) ∧ ¬ RegOk want seen tol) := by
  by_cases h1 : 1 ≤ want.length ∧ want.length ≤ 20
  · by_cases h2 : seen.length ≠ want.length ∨ ¬ (0 ≤ tol ∧ tol ≤ 1000)
    · exact .inr (.inr ⟨.inl (regE_arg h1 h2), fun h => by have := h.same; have := h.tol; omega⟩)
    · by_cases h4 : ∀ j, j < seen.length → pairB want seen j
      · by_cases h5 : boxEmpty (boxAt want seen tol seen.length)
        · exact .inr (.inl ⟨regE_none h1 (by omega) (by omega) h4 h5, ⟨h1, by omega, by omega, h4⟩, h5⟩)
        · exact .inl ⟨regE_ok h1 (by omega) (by omega) h4 h5, ⟨h1, by omega, by omega, h4⟩, h5⟩
      · exact .inr (.inr ⟨.inl (regE_far h1 (by omega) (by omega) h4), fun h => h4 h.near⟩)
  · exact .inr (.inr ⟨.inr (regE_many h1), fun h => h1 h.few⟩)
theorem in_all {x y : Int} (h : 1 ≤ seen.length) : inBx (boxAt want seen tol seen.length) x y ↔ Brings want seen tol x y := by
  obtain ⟨k, hk⟩ : ∃ k, seen.length = k + 1 := ⟨seen.length - 1, by omega⟩
  unfold Brings
  rw [hk]
  exact in_box
theorem one_wide {tol more x y : Int} {j : Nat} (h : tol ≤ more) (hi : inBx (oneB want seen tol j) x y) : inBx (oneB want seen more j) x y := by
  have h1 : (el want j).x - (el seen j).x - tol ≤ x := hi.1
  have h2 : x ≤ (el want j).x - (el seen j).x + tol := hi.2.1
  have h3 : (el want j).y - (el seen j).y - tol ≤ y := hi.2.2.1
  have h4 : y ≤ (el want j).y - (el seen j).y + tol := hi.2.2.2
  exact ⟨show (el want j).x - (el seen j).x - more ≤ x by omega, show x ≤ (el want j).x - (el seen j).x + more by omega, show (el want j).y - (el seen j).y - more ≤ y by omega, show y ≤ (el want j).y - (el seen j).y + more by omega⟩
/-- A greater tolerance allows all shifts that a lesser one allows. -/
theorem box_wide {tol more : Int} (h : tol ≤ more) (hn : 1 ≤ seen.length) (he : ¬ boxEmpty (boxAt want seen tol seen.length)) :
    (boxAt want seen more seen.length).lx ≤ (boxAt want seen tol seen.length).lx ∧ (boxAt want seen tol seen.length).hx ≤ (boxAt want seen more seen.length).hx ∧ (boxAt want seen more seen.length).ly ≤ (boxAt want seen tol seen.length).ly ∧ (boxAt want seen tol seen.length).hy ≤ (boxAt want seen more seen.length).hy := by
  have hw : ∀ x y, inBx (boxAt want seen tol seen.length) x y → inBx (boxAt want seen more seen.length) x y := fun x y hi => (in_all hn).2 fun j hj => one_wide h ((in_all hn).1 hi j hj)
  have a := hw (boxAt want seen tol seen.length).lx (boxAt want seen tol seen.length).ly ⟨by omega, by omega, by omega, by omega⟩
  have b := hw (boxAt want seen tol seen.length).hx (boxAt want seen tol seen.length).hy ⟨by omega, by omega, by omega, by omega⟩
  exact ⟨a.1, b.2.1, a.2.2.1, b.2.2.2⟩
end
def movedTo (want : List Mk) (x y : Int) : List Mk := want.map fun m => ⟨m.x + x, m.y + y⟩
theorem moved_len {want : List Mk} {x y : Int} : (movedTo want x y).length = want.length := by simp [movedTo]
theorem moved_el {want : List Mk} {x y : Int} {j : Nat} (h : j < want.length) : el (movedTo want x y) j = ⟨(el want j).x + x, (el want j).y + y⟩ := by
  simp [movedTo, el, h]
theorem moved_box {want : List Mk} {x y : Int} : ∀ {k : Nat}, k < want.length → boxAt want (movedTo want x y) 0 (k + 1) = ⟨-x, -y, -x, -y⟩
  | 0, hk => by
    have h1 : oneB want (movedTo want x y) 0 0 = ⟨-x, -y, -x, -y⟩ := by
      unfold oneB
      rw [moved_el hk]
      congr 1 <;> dsimp only <;> omega
    rw [boxAt_one, h1]
    unfold meetB
    congr 1 <;> dsimp only <;> omega
  | k + 1, hk => by
    have h1 : oneB want (movedTo want x y) 0 (k + 1) = ⟨-x, -y, -x, -y⟩ := by
      unfold oneB
      rw [moved_el hk]
      congr 1 <;> dsimp only <;> omega
    rw [boxAt_next, h1, moved_box (by omega)]
    unfold meetB
    congr 1 <;> dsimp only <;> omega
/-- Marks that were moved are brought back. -/
theorem moved_back (want : List Mk) (x y : Int) : regE want (movedTo want x y) 0 ≠ 6 ∧ (regE want (movedTo want x y) 0 = 0 → regF want (movedTo want x y) 0 = ⟨-x, -y, -x, -y⟩) := by
  have hb : RegOk want (movedTo want x y) 0 → boxAt want (movedTo want x y) 0 (movedTo want x y).length = ⟨-x, -y, -x, -y⟩ := fun h => by
    have := h.few
    rw [moved_len, show want.length = want.length - 1 + 1 by omega]
    exact moved_box (by omega)
  rcases regE_cases want (movedTo want x y) 0 with ⟨h, hr, _⟩ | ⟨h, hr, he⟩ | ⟨h, _⟩
  · exact ⟨by omega, fun _ => by rw [regF_ok h, hb hr]⟩
  · exfalso
    rw [hb hr] at he
    have he : -x > -x ∨ -y > -y := he
    omega
  · exact ⟨by omega, fun h2 => by omega⟩
end Go.Proofs.Ythpbjihnikapoaa
namespace Go.Proofs.Ythpbjihnikapoaa
open Go.RowKit
theorem one_in {want seen : List Mk} {tol x y : Int} {j : Nat} : inBx (oneB want seen tol j) x y ↔ (max ((el seen j).x + x - (el want j).x) (-((el seen j).x + x - (el want j).x)) ≤ tol ∧ max ((el seen j).y + y - (el want j).y) (-((el seen j).y + y - (el want j).y)) ≤ tol) := by
  show ((el want j).x - (el seen j).x - tol ≤ x ∧ x ≤ (el want j).x - (el seen j).x + tol ∧ (el want j).y - (el seen j).y - tol ≤ y ∧ y ≤ (el want j).y - (el seen j).y + tol) ↔ _
  omega
set_option maxHeartbeats 4000000 in
theorem brings_p (want seen : List Mk) (tol x y : Int) (h : RegOk want seen tol) (hx : -50000 ≤ x ∧ x ≤ 50000) (hy : -50000 ≤ y ∧ y ≤ 50000) : PCalls Try.prog 45 [encMarks want, encMarks seen, vi tol, vi x, vi y] (· = vb (decide (Brings want seen tol x y))) := by
  have hfew := h.few
  have hsame := h.same
  have htol := h.tol
  refine pcalls_of_aw Try.func45 rfl (Nat.le_of_ble_eq_true rfl) ?_
  (repeat' (first | (refine ar_isq ?_; first | refine zmv ?_ | refine zas ?_ | (refine is_load ?_; first | refine zlp ?_ | refine zlr ?_) | (refine is_binOp ?_; first | refine zlss ?_ | refine zgtr ?_ | refine zadd ?_ | refine zsub ?_) | (refine is_fieldAddr ?_; first | refine zfp ?_ | refine zfr ?_) | (refine is_indexAddr ?_; first | refine zil ?_ | refine zis ?_ | refine zit ?_ | refine zia ?_ | refine zir ?_ | (refine zxl ?_; intro _ _ _) | (refine zxs ?_; intro _ _ _)) | (refine is_call ?_; first | refine zll ?_ | refine zls ?_ | refine zln ?_ | refine zle ?_ | refine zmax ?_) | (refine is_pick ?_; first | refine zpt ?_ | refine zpf ?_) | refine zng ?_) | (refine zal ?_) | (refine zsvs ?_) | (refine zsva ?_) | (refine zses ?_) | (refine zsea ?_) | (refine zg ?_ ?_ <;> intro hg <;> first | exact absurd hg (by decide) | ((try replace hg := HG.out hg); (try dsimp only at hg); (try (have _h : True := hg; clear _h hg)); first | (exfalso; omega) | skip)) | (refine zgu ?_) | (refine ar_nil ?_) | (refine aw_seq ?_) | (refine aw_skip ?_) | (refine aw_block ?_) | (refine aw_exit ?_) | (refine aw_region ?_) | (refine aw_drawn (id := 4) [(0, 0), (1, 0), (2, 0), (3, 0), (4, 0), (5, 0), (6, 0), (7, 0), (8, 0), (9, 0), (10, 0), (11, 0), (12, 0), (13, 0), (14, 0), (15, 0), (16, 0), (17, 0), (18, 0), (19, 0), (20, 0), (21, 0)] mixed (by kernel_rfl) ?_) | (refine zco ?_ ?_ <;> intro hg <;> first | exact absurd hg (by decide) | ((try replace hg := HG.out hg); (try dsimp only at hg); (try (have _h : True := hg; clear _h hg)); first | (exfalso; omega) | skip))))
  refine aw_for seen.length (fun k => ∀ j, j < k → inBx (oneB want seen tol j) x y) (fun k => [(0, encMarks want), (1, encMarks seen), (2, vi tol), (3, vi x), (4, vi y), (15, encMarks seen), (16, vi seen.length), (17, vi k)]) (fun k => []) (fun j hj => by omega) ?_ ?_
  · (refine sub_to [] [] rfl ?_ ?_ <;> (repeat' (first | exact trivial | refine ⟨⟨_, rfl, ?_⟩, ?_⟩ | refine ⟨bsub_snoc rfl rfl (fun _ => rfl) ?_, ?_⟩ | refine ⟨bsub_one rfl rfl ?_, ?_⟩ | refine ⟨bsub_all rfl rfl (fun _ _ => rfl) (fun _ => rfl), ?_⟩ | refine ⟨bsub_updL rfl rfl ?_ (fun _ _ _ => rfl) (fun _ => rfl), ?_⟩ | refine ⟨.inl ⟨_, _, rfl, rfl, ?_⟩, ?_⟩ | exact ⟨.inr ⟨rfl, rfl⟩, trivial⟩ | refine ⟨.inr ⟨rfl, rfl⟩, ?_⟩ | (intro _ _) | exact vz1 | exact vz2 | fail)))
  intro k hk hJ
  by_cases hlt : k < seen.length
  · obtain ⟨⟨h1, h2⟩, ⟨h3, h4⟩, ⟨h5, h6⟩, h7, h8⟩ := h.near k hlt
    (repeat' (first | (refine ar_isq ?_; first | refine zmv ?_ | refine zas ?_ | (refine is_load ?_; first | refine zlp ?_ | refine zlr ?_) | (refine is_binOp ?_; first | refine zlss ?_ | refine zgtr ?_ | refine zadd ?_ | refine zsub ?_) | (refine is_fieldAddr ?_; first | refine zfp ?_ | refine zfr ?_) | (refine is_indexAddr ?_; first | refine zil ?_ | refine zis ?_ | refine zit ?_ | refine zia ?_ | refine zir ?_ | refine zil (j := k) ?_ | refine zis (j := k) ?_ | refine zit (j := k) ?_ | (refine zxl ?_; intro _ _ _) | (refine zxs ?_; intro _ _ _)) | (refine is_call ?_; first | refine zll ?_ | refine zls ?_ | refine zln ?_ | refine zle ?_ | refine zmax ?_) | (refine is_pick ?_; first | refine zpt ?_ | refine zpf ?_) | refine zng ?_) | (refine zal ?_) | (refine zsvs ?_) | (refine zsva ?_) | (refine zses ?_) | (refine zsea ?_) | (refine zg ?_ ?_ <;> intro hg <;> first | exact absurd hg (by decide) | ((try replace hg := HG.out hg); (try dsimp only at hg); (try (have _h : True := hg; clear _h hg)); first | (exfalso; omega) | skip)) | (refine zgu ?_) | (refine ar_nil ?_) | (refine aw_seq ?_) | (refine aw_skip ?_) | (refine aw_block ?_) | (refine aw_exit ?_) | (refine aw_region ?_) | (refine aw_drawn (id := 4) [(0, 0), (1, 0), (2, 0), (3, 0), (4, 0), (5, 0), (6, 0), (7, 0), (8, 0), (9, 0), (10, 0), (11, 0), (12, 0), (13, 0), (14, 0), (15, 0), (16, 0), (17, 0), (18, 0), (19, 0), (20, 0), (21, 0)] mixed (by kernel_rfl) ?_) | (refine zco ?_ ?_ <;> intro hg <;> first | exact absurd hg (by decide) | ((try replace hg := HG.out hg); (try dsimp only at hg); (try (have _h : True := hg; clear _h hg)); first | (exfalso; omega) | skip))))
    all_goals first
      | ((refine aw_ret ?_; (repeat (first | refine ret_then ?_ | refine ret_block ?_)); refine bq1 rfl ⟨?_, rfl⟩); exact congrArg vb (decide_eq_false fun hb => by have := one_in.1 (hb k hlt); omega).symm)
      | ((first | refine loop_next (by omega) ?_ ?_ | refine (show _ ∧ _ ∧ SubOf _ _ _ _ _ _ from And.intro (by omega) (And.intro ?_ ?_))); (focus (((exact all_step hJ (one_in.2 ⟨by omega, by omega⟩))); done)); (focus ((refine sub_to [] [] rfl ?_ ?_ <;> (repeat' (first | exact trivial | refine ⟨⟨_, rfl, ?_⟩, ?_⟩ | refine ⟨bsub_snoc rfl rfl (fun _ => rfl) ?_, ?_⟩ | refine ⟨bsub_one rfl rfl ?_, ?_⟩ | refine ⟨bsub_all rfl rfl (fun _ _ => rfl) (fun _ => rfl), ?_⟩ | refine ⟨bsub_updL rfl rfl ?_ (fun _ _ _ => rfl) (fun _ => rfl), ?_⟩ | refine ⟨.inl ⟨_, _, rfl, rfl, ?_⟩, ?_⟩ | exact ⟨.inr ⟨rfl, rfl⟩, trivial⟩ | refine ⟨.inr ⟨rfl, rfl⟩, ?_⟩ | (intro _ _) | exact vz1 | exact vz2 | fail))); done)))
      | trace_state
  · obtain rfl : k = seen.length := by omega
    (repeat' (first | (refine ar_isq ?_; first | refine zmv ?_ | refine zas ?_ | (refine is_load ?_; first | refine zlp ?_ | refine zlr ?_) | (refine is_binOp ?_; first | refine zlss ?_ | refine zgtr ?_ | refine zadd ?_ | refine zsub ?_) | (refine is_fieldAddr ?_; first | refine zfp ?_ | refine zfr ?_) | (refine is_indexAddr ?_; first | refine zil ?_ | refine zis ?_ | refine zit ?_ | refine zia ?_ | refine zir ?_ | (refine zxl ?_; intro _ _ _) | (refine zxs ?_; intro _ _ _)) | (refine is_call ?_; first | refine zll ?_ | refine zls ?_ | refine zln ?_ | refine zle ?_ | refine zmax ?_) | (refine is_pick ?_; first | refine zpt ?_ | refine zpf ?_) | refine zng ?_) | (refine zal ?_) | (refine zsvs ?_) | (refine zsva ?_) | (refine zses ?_) | (refine zsea ?_) | (refine zg ?_ ?_ <;> intro hg <;> first | exact absurd hg (by decide) | ((try replace hg := HG.out hg); (try dsimp only at hg); (try (have _h : True := hg; clear _h hg)); first | (exfalso; omega) | skip)) | (refine zgu ?_) | (refine ar_nil ?_) | (refine aw_seq ?_) | (refine aw_skip ?_) | (refine aw_block ?_) | (refine aw_exit ?_) | (refine aw_region ?_) | (refine aw_drawn (id := 4) [(0, 0), (1, 0), (2, 0), (3, 0), (4, 0), (5, 0), (6, 0), (7, 0), (8, 0), (9, 0), (10, 0), (11, 0), (12, 0), (13, 0), (14, 0), (15, 0), (16, 0), (17, 0), (18, 0), (19, 0), (20, 0), (21, 0)] mixed (by kernel_rfl) ?_) | (refine zco ?_ ?_ <;> intro hg <;> first | exact absurd hg (by decide) | ((try replace hg := HG.out hg); (try dsimp only at hg); (try (have _h : True := hg; clear _h hg)); first | (exfalso; omega) | skip))))
    all_goals first
      | (exfalso; omega)
      | ((refine aw_ret ?_; (repeat (first | refine ret_then ?_ | refine ret_block ?_)); refine bq1 rfl ⟨?_, rfl⟩); exact congrArg vb (decide_eq_true fun j hj => hJ j hj).symm)
      | trace_state
end Go.Proofs.Ythpbjihnikapoaa
