/- Parts of the proof: a layer of values over the model, and contracts of functions. No condition. -/
import Derived.Test.YtbilpbabdgfblaaKXu10
set_option linter.unusedSimpArgs false
set_option linter.unusedVariables false
-- k3
namespace Go.Proofs.Ytbilpbabdgfblaa
open Go.RowKit
section
variable (h : Hse)
theorem smallB_of {b : List (List Int)} (h1 : b.length ≤ 20) (h2 : ∀ l, l ∈ b → l.length ≤ 60) : SmallB b := ⟨by omega, fun l hl => by have := h2 l hl; omega⟩
set_option maxHeartbeats 4000000 in
theorem rgreat_p : PCalls Try.prog 5 [h.enc] (fun v => v = vb true ∨ v = vb false ∧ HSmall h) := by
  refine pcalls_of_aw Try.func5 rfl (Nat.le_of_ble_eq_true rfl) ?_
  (repeat' (first | (refine ar_isq ?_; first | refine zmv ?_ | refine zas ?_ | (refine is_load ?_; first | refine zlp ?_ | refine zlr ?_) | (refine is_binOp ?_; first | refine zlss ?_ | refine zgtr ?_ | refine zadd ?_) | (refine is_fieldAddr ?_; first | refine zfp ?_ | refine zfr ?_) | (refine is_indexAddr ?_; first | refine zil ?_ | refine zis ?_ | refine zit ?_ | refine zia ?_ | refine zir ?_ | (refine zxl ?_; intro _ _ _) | (refine zxs ?_; intro _ _ _)) | (refine is_call ?_; first | refine zll ?_ | refine zls ?_ | refine zln ?_ | refine zle ?_) | (refine is_pick ?_; first | refine zpt ?_ | refine zpf ?_)) | (refine ar_pcall (own := false) fn17 rfl rfl (.cons (.closed rfl) .nil) (great8_p h.store) (by simp) (dc rfl) ?_; rintro _ (rfl | ⟨rfl, g40, g500⟩)) | (refine zbx ?_) | (refine zg ?_ ?_ <;> intro hg <;> first | exact absurd hg (by decide) | ((try replace hg := HG.out hg); (try dsimp only at hg); (try (have _h : True := hg; clear _h hg)); first | (exfalso; omega) | skip)) | (refine zgu ?_) | (refine ar_nil ?_) | (refine aw_seq ?_) | (refine aw_skip ?_) | (refine aw_block ?_) | (refine aw_exit ?_) | (refine aw_region ?_) | (refine zco ?_ ?_ <;> intro hg <;> first | exact absurd hg (by decide) | ((try replace hg := HG.out hg); (try dsimp only at hg); (try (have _h : True := hg; clear _h hg)); first | (exfalso; omega) | skip))))
  all_goals first
    | ((refine aw_ret ?_; (repeat (first | refine ret_then ?_ | refine ret_block ?_)); refine bq1 rfl ?_); exact ⟨.inl rfl, rfl⟩)
    | skip
  refine aw_for h.designs.length (fun k => ∀ j, j < k → SmallB (el h.designs j).band) (fun k => [(1, .ptr 10 0 0 0), (3, vi k)]) (fun _ => [.arr 10 1 (fun _ => h.enc)]) (fun q hq => by omega) ?_ ?_
  · (refine sub_to [some 0] [] rfl ?_ ?_ <;> (repeat' (first | exact trivial | refine ⟨⟨_, rfl, ?_⟩, ?_⟩ | refine ⟨bsub_snoc rfl rfl (fun _ => rfl) ?_, ?_⟩ | refine ⟨bsub_one rfl rfl ?_, ?_⟩ | refine ⟨bsub_all rfl rfl (fun _ _ => rfl) (fun _ => rfl), ?_⟩ | refine ⟨bsub_updL rfl rfl ?_ (fun _ _ _ => rfl) (fun _ => rfl), ?_⟩ | refine ⟨.inl ⟨_, _, rfl, rfl, ?_⟩, ?_⟩ | exact ⟨.inr ⟨rfl, rfl⟩, trivial⟩ | refine ⟨.inr ⟨rfl, rfl⟩, ?_⟩ | (intro _ _) | exact vz1 | exact vz2 | fail)))
  intro k hk hJ
  by_cases hlt : k < h.designs.length
  · (repeat' (first | (refine ar_isq ?_; first | refine zmv ?_ | refine zas ?_ | (refine is_load ?_; first | refine zlp ?_ | refine zlr ?_) | (refine is_binOp ?_; first | refine zlss ?_ | refine zgtr ?_ | refine zadd ?_) | (refine is_fieldAddr ?_; first | refine zfp ?_ | refine zfr ?_) | (refine is_indexAddr ?_; first | refine zil ?_ | refine zis ?_ | refine zit ?_ | refine zia ?_ | refine zir ?_ | refine zil (j := k) ?_ | refine zis (j := k) ?_ | refine zit (j := k) ?_ | (refine zxl ?_; intro _ _ _) | (refine zxs ?_; intro _ _ _)) | (refine is_call ?_; first | refine zll ?_ | refine zls ?_ | refine zln ?_ | refine zle ?_) | (refine is_pick ?_; first | refine zpt ?_ | refine zpf ?_)) | (refine ar_pcall (own := false) fn18 rfl rfl (.cons (.closed rfl) .nil) (great_p (el h.designs k).band) (by simp) (dc rfl) ?_; rintro _ (rfl | ⟨rfl, h20, h60⟩)) | (refine zbx ?_) | (refine zg ?_ ?_ <;> intro hg <;> first | exact absurd hg (by decide) | ((try replace hg := HG.out hg); (try dsimp only at hg); (try (have _h : True := hg; clear _h hg)); first | (exfalso; omega) | skip)) | (refine zgu ?_) | (refine ar_nil ?_) | (refine aw_seq ?_) | (refine aw_skip ?_) | (refine aw_block ?_) | (refine aw_exit ?_) | (refine aw_region ?_) | (refine zco ?_ ?_ <;> intro hg <;> first | exact absurd hg (by decide) | ((try replace hg := HG.out hg); (try dsimp only at hg); (try (have _h : True := hg; clear _h hg)); first | (exfalso; omega) | skip))))
    all_goals first
      | (exfalso; omega)
      | ((refine aw_ret ?_; (repeat (first | refine ret_then ?_ | refine ret_block ?_)); refine bq1 rfl ?_); exact ⟨.inl rfl, rfl⟩)
      | ((first | refine loop_next (by omega) ?_ ?_ | refine (show _ ∧ _ ∧ SubOf _ _ _ _ _ _ from And.intro (by omega) (And.intro ?_ ?_))); (focus ((exact all_step hJ (smallB_of h20 h60)); done)); (focus ((refine sub_to [some 0] [] rfl ?_ ?_ <;> (repeat' (first | exact trivial | refine ⟨⟨_, rfl, ?_⟩, ?_⟩ | refine ⟨bsub_snoc rfl rfl (fun _ => rfl) ?_, ?_⟩ | refine ⟨bsub_one rfl rfl ?_, ?_⟩ | refine ⟨bsub_all rfl rfl (fun _ _ => rfl) (fun _ => rfl), ?_⟩ | refine ⟨bsub_updL rfl rfl ?_ (fun _ _ _ => rfl) (fun _ => rfl), ?_⟩ | refine ⟨.inl ⟨_, _, rfl, rfl, ?_⟩, ?_⟩ | exact ⟨.inr ⟨rfl, rfl⟩, trivial⟩ | refine ⟨.inr ⟨rfl, rfl⟩, ?_⟩ | (intro _ _) | exact vz1 | exact vz2 | fail))); done)))
      | trace_state
  · obtain rfl : k = h.designs.length := by omega
    (repeat' (first | (refine ar_isq ?_; first | refine zmv ?_ | refine zas ?_ | (refine is_load ?_; first | refine zlp ?_ | refine zlr ?_) | (refine is_binOp ?_; first | refine zlss ?_ | refine zgtr ?_ | refine zadd ?_) | (refine is_fieldAddr ?_; first | refine zfp ?_ | refine zfr ?_) | (refine is_indexAddr ?_; first | refine zil ?_ | refine zis ?_ | refine zit ?_ | refine zia ?_ | refine zir ?_ | (refine zxl ?_; intro _ _ _) | (refine zxs ?_; intro _ _ _)) | (refine is_call ?_; first | refine zll ?_ | refine zls ?_ | refine zln ?_ | refine zle ?_) | (refine is_pick ?_; first | refine zpt ?_ | refine zpf ?_)) | (refine zbx ?_) | (refine zg ?_ ?_ <;> intro hg <;> first | exact absurd hg (by decide) | ((try replace hg := HG.out hg); (try dsimp only at hg); (try (have _h : True := hg; clear _h hg)); first | (exfalso; omega) | skip)) | (refine zgu ?_) | (refine ar_nil ?_) | (refine aw_seq ?_) | (refine aw_skip ?_) | (refine aw_block ?_) | (refine aw_exit ?_) | (refine aw_region ?_) | (refine zco ?_ ?_ <;> intro hg <;> first | exact absurd hg (by decide) | ((try replace hg := HG.out hg); (try dsimp only at hg); (try (have _h : True := hg; clear _h hg)); first | (exfalso; omega) | skip))))
    all_goals first
      | (exfalso; omega)
      | ((refine aw_ret ?_; (repeat (first | refine ret_then ?_ | refine ret_block ?_)); refine bq1 rfl ?_); exact ⟨.inr ⟨rfl, by omega, by omega, by omega, by omega, by omega, by omega, by omega, fun d hd => by obtain ⟨i, hi, rfl⟩ := List.getElem_of_mem hd; rw [← show el h.designs i = h.designs[i] by simp [el, hi]]; exact hJ i hi⟩, rfl⟩)
      | trace_state
end
end Go.Proofs.Ytbilpbabdgfblaa
namespace Go.Proofs.Ytbilpbabdgfblaa
open Go.ChangeShapes Go.WideShapes Go.ChangeAt Go.RowKit Go.Deep
def Sheet.wf (s : Sheet) : Prop := i64ok s.cols ∧ i64ok s.rows ∧ i64ok s.weight ∧ i64ok s.clear ∧ i64ok s.lean
def Dsn.wf (d : Dsn) : Prop := i64ok d.owner ∧ d.sheet.wf ∧ ∀ l, l ∈ d.band → ∀ y, y ∈ l → i64ok y
def Lic.wf (l : Lic) : Prop := i64ok l.design ∧ i64ok l.client ∧ i64ok l.til ∧ i64ok l.left
def Ordr.wf (o : Ordr) : Prop := i64ok o.client ∧ i64ok o.design ∧ i64ok o.need
def Hse.wf (h : Hse) : Prop := i64ok h.per ∧ i64ok h.day ∧ h.store.wf ∧ (∀ x, x ∈ h.designs → x.wf) ∧ (∀ x, x ∈ h.lics → x.wf) ∧ (∀ x, x ∈ h.orders → x.wf) ∧ (∀ y, y ∈ h.made → i64ok y) ∧ ∀ y, y ∈ h.fors → i64ok y
def Job.wf (j : Job) : Prop := u8ok j.kind ∧ i64ok j.client ∧ i64ok j.design ∧ i64ok j.order ∧ i64ok j.n ∧ i64ok j.til ∧ j.act.wf ∧ j.sheet.wf ∧ ∀ l, l ∈ j.band → ∀ y, y ∈ l → i64ok y
theorem stOk_wf {s : Sto} (h : s.wf) : StOk s := fun j hj => (h.2.2 _ (el_mem hj)).2.1
theorem rv_Rows : ReadsV Try.prog 64 encRows (fun b => ∀ l, l ∈ b → ∀ y, y ∈ l → i64ok y) 1 := rv_list Try.underlying64 (by kernel_rfl) rv_ints
set_option maxRecDepth 100000 in
theorem rv_design : ReadsV Try.prog 66 Dsn.enc Dsn.wf 7 :=
  ⟨by kernel_rfl, by omega, fun {_ _ _ _ _ _ _ cs _} h => by
    have hlen := struct_len Try.underlying66 h
    rw [show Try.prog.cellsOf 66 = 7 by kernel_rfl] at hlen
    obtain ⟨k0, o0, l0, e0⟩ := struct_part Try.underlying66 h 0 rfl rv_Int
    obtain ⟨k1, o1, l1, e1⟩ := struct_part Try.underlying66 h 1 rfl rv_sheet
    obtain ⟨k2, o2, l2, e2⟩ := struct_part Try.underlying66 h 2 rfl rv_Rows
    refine ⟨⟨k0, k1, k2⟩, ⟨o0, o1, o2⟩, hlen, hlen.symm, fun j x u hx hu => ?_⟩
    match j, hx with
    | 0, hx => cases hx; exact cells_one e0 rfl hu
    | 1, hx => cases hx; exact e1.2 0 _ u rfl (by simpa using hu)
    | 2, hx => cases hx; exact e1.2 1 _ u rfl (by simpa using hu)
    | 3, hx => cases hx; exact e1.2 2 _ u rfl (by simpa using hu)
    | 4, hx => cases hx; exact e1.2 3 _ u rfl (by simpa using hu)
    | 5, hx => cases hx; exact e1.2 4 _ u rfl (by simpa using hu)
    | 6, hx => cases hx; exact cells_one e2 rfl hu
    | j + 7, hx => simp [Dsn.enc, cells_agg] at hx⟩
set_option maxRecDepth 100000 in
theorem rv_licence : ReadsV Try.prog 112 Lic.enc Lic.wf 4 :=
  ⟨by kernel_rfl, by omega, fun {_ _ _ _ _ _ _ cs _} h => by
    have hlen := struct_len Try.underlying112 h
    rw [show Try.prog.cellsOf 112 = 4 by kernel_rfl] at hlen
    obtain ⟨k0, o0, l0, e0⟩ := struct_part Try.underlying112 h 0 rfl rv_Int
    obtain ⟨k1, o1, l1, e1⟩ := struct_part Try.underlying112 h 1 rfl rv_Int
    obtain ⟨k2, o2, l2, e2⟩ := struct_part Try.underlying112 h 2 rfl rv_Int
    obtain ⟨k3, o3, l3, e3⟩ := struct_part Try.underlying112 h 3 rfl rv_Int
    refine ⟨⟨k0, k1, k2, k3⟩, ⟨o0, o1, o2, o3⟩, hlen, hlen.symm, fun j x u hx hu => ?_⟩
    match j, hx with
    | 0, hx => cases hx; exact cells_one e0 rfl hu
    | 1, hx => cases hx; exact cells_one e1 rfl hu
    | 2, hx => cases hx; exact cells_one e2 rfl hu
    | 3, hx => cases hx; exact cells_one e3 rfl hu
    | j + 4, hx => simp [Lic.enc, cells_agg] at hx⟩
set_option maxRecDepth 100000 in
theorem rv_order : ReadsV Try.prog 91 Ordr.enc Ordr.wf 4 :=
  ⟨by kernel_rfl, by omega, fun {_ _ _ _ _ _ _ cs _} h => by
    have hlen := struct_len Try.underlying91 h
    rw [show Try.prog.cellsOf 91 = 4 by kernel_rfl] at hlen
    obtain ⟨k0, o0, l0, e0⟩ := struct_part Try.underlying91 h 0 rfl rv_Int
    obtain ⟨k1, o1, l1, e1⟩ := struct_part Try.underlying91 h 1 rfl rv_Int
    obtain ⟨k2, o2, l2, e2⟩ := struct_part Try.underlying91 h 2 rfl rv_Int
    obtain ⟨k3, o3, l3, e3⟩ := struct_part Try.underlying91 h 3 rfl rv_Bool
    refine ⟨⟨k0, k1, k2, k3⟩, ⟨o0, o1, o2⟩, hlen, hlen.symm, fun j x u hx hu => ?_⟩
    match j, hx with
    | 0, hx => cases hx; exact cells_one e0 rfl hu
    | 1, hx => cases hx; exact cells_one e1 rfl hu
    | 2, hx => cases hx; exact cells_one e2 rfl hu
    | 3, hx => cases hx; exact cells_one e3 rfl hu
    | j + 4, hx => simp [Ordr.enc, cells_agg] at hx⟩
theorem rv_designs : ReadsV Try.prog 26 (LV 7 Dsn.enc) (fun l => ∀ y, y ∈ l → y.wf) 1 := rv_list Try.underlying26 (by kernel_rfl) rv_design
theorem rv_licences : ReadsV Try.prog 27 (LV 4 Lic.enc) (fun l => ∀ y, y ∈ l → y.wf) 1 := rv_list Try.underlying27 (by kernel_rfl) rv_licence
theorem rv_orders : ReadsV Try.prog 28 (LV 4 Ordr.enc) (fun l => ∀ y, y ∈ l → y.wf) 1 := rv_list Try.underlying28 (by kernel_rfl) rv_order
set_option maxRecDepth 100000 in
theorem rv_house : ReadsV Try.prog 31 Hse.enc Hse.wf 10 :=
  ⟨by kernel_rfl, by omega, fun {_ _ _ _ _ _ _ cs _} h => by
    have hlen := struct_len Try.underlying31 h
    rw [show Try.prog.cellsOf 31 = 10 by kernel_rfl] at hlen
    obtain ⟨k0, o0, l0, e0⟩ := struct_part Try.underlying31 h 0 rfl rv_Int
    obtain ⟨k1, o1, l1, e1⟩ := struct_part Try.underlying31 h 1 rfl rv_Int
    obtain ⟨k2, o2, l2, e2⟩ := struct_part Try.underlying31 h 2 rfl rv_store
    obtain ⟨k3, o3, l3, e3⟩ := struct_part Try.underlying31 h 3 rfl rv_designs
    obtain ⟨k4, o4, l4, e4⟩ := struct_part Try.underlying31 h 4 rfl rv_licences
    obtain ⟨k5, o5, l5, e5⟩ := struct_part Try.underlying31 h 5 rfl rv_orders
    obtain ⟨k6, o6, l6, e6⟩ := struct_part Try.underlying31 h 6 rfl rv_ints
    obtain ⟨k7, o7, l7, e7⟩ := struct_part Try.underlying31 h 7 rfl rv_ints
    refine ⟨⟨k0, k1, k2, k3, k4, k5, k6, k7⟩, ⟨o0, o1, o2, o3, o4, o5, o6, o7⟩, hlen, hlen.symm, fun j x u hx hu => ?_⟩
    match j, hx with
    | 0, hx => cases hx; exact cells_one e0 rfl hu
    | 1, hx => cases hx; exact cells_one e1 rfl hu
    | 2, hx => cases hx; exact e2.2 0 _ u rfl (by simpa using hu)
    | 3, hx => cases hx; exact e2.2 1 _ u rfl (by simpa using hu)
    | 4, hx => cases hx; exact e2.2 2 _ u rfl (by simpa using hu)
    | 5, hx => cases hx; exact cells_one e3 rfl hu
    | 6, hx => cases hx; exact cells_one e4 rfl hu
    | 7, hx => cases hx; exact cells_one e5 rfl hu
    | 8, hx => cases hx; exact cells_one e6 rfl hu
    | 9, hx => cases hx; exact cells_one e7 rfl hu
    | j + 10, hx => simp [Hse.enc, cells_agg] at hx⟩
section
variable {H : Type} {enc : TypeId × Value → H} {w : World} {base : Nat} {spare : Nat → Bool} {held : Bool} {r : Reach} {b0 : Nat} {v : Value} {d : DataW H} {p : List MemPlace}
set_option maxRecDepth 100000 in
theorem arg_house (hv : Value.okWide Try.prog w r b0 31 v) (h : DataW.Trod enc Try.prog w base spare held 31 v d p) : ∃ s : Hse, s.wf ∧ VRel (snap w) [] s.enc v := arg_struct Try.underlying31 rv_house (fun _ => rfl) hv h
end
end Go.Proofs.Ytbilpbabdgfblaa
