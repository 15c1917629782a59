/- PlateRegisters. -/
import Derived.Test.YthpbjihnikapoaaOpenP
namespace Go.Proofs.Ythpbjihnikapoaa
open Go.ChangeShapes Go.WideShapes Go.ChangeAt Go.RowKit Go.Deep

set_option maxHeartbeats 1600000 in
theorem plateRegisters_walk (w : World) (A : Option Addr) (c : Nat) (want : List Spot) (h : Arr w w.heap.size A c want) (A' : Option Addr) (c' : Nat) (seen : List Spot) (h' : Arr w w.heap.size A' c' seen) (n : Int) (hn : -9223372036854775808 ≤ n ∧ n ≤ 9223372036854775807) :
    Calls Try.prog 3 #[.slice A want.length c, .slice A' seen.length c', .int .i64 n] w fun e w' => e = .returned (.bool true) ∧ Ext w w' := by
  clear hn
  have hle := h.le
  have hle' := h'.le
  by_cases h1 : (30 : Int) < (want.length : Int)
  · go_enter Try.func3, Try.ntmps3
    go_wp2
    go_ret
    exact ⟨rfl, (by repeat (first | exact Ext.refl _ | exact Ext.draws _ _ _ | refine Ext.plus ?_ _ | refine Ext.alloc ?_ _ | refine Ext.drew ?_ | refine Ext.drewN ?_ _))⟩
  · by_cases h2 : (30 : Int) < (seen.length : Int)
    · go_enter Try.func3, Try.ntmps3
      go_wp2
      go_ret
      exact ⟨rfl, (by repeat (first | exact Ext.refl _ | exact Ext.draws _ _ _ | refine Ext.plus ?_ _ | refine Ext.alloc ?_ _ | refine Ext.drew ?_ | refine Ext.drewN ?_ _))⟩
    · go_enter Try.func3, Try.ntmps3
      go_wp2_with fail
      refine (register_c A A' c c' want seen n _ (h.up (by repeat (first | exact Ext.refl _ | exact Ext.draws _ _ _ | refine Ext.plus ?_ _ | refine Ext.alloc ?_ _ | refine Ext.drew ?_ | refine Ext.drewN ?_ _))) (h'.up (by repeat (first | exact Ext.refl _ | exact Ext.draws _ _ _ | refine Ext.plus ?_ _ | refine Ext.alloc ?_ _ | refine Ext.drew ?_ | refine Ext.drewN ?_ _)))).mono ?_
      rintro e w1 ⟨rfl, g1, rfl⟩
      go_wp2_with fail
      refine (refreg_c A A' c c' want seen n _ (h.up (by repeat (first | exact Ext.refl _ | exact Ext.draws _ _ _ | refine Ext.plus ?_ _ | refine Ext.alloc ?_ _ | refine Ext.drew ?_ | refine Ext.drewN ?_ _))) (h'.up (by repeat (first | exact Ext.refl _ | exact Ext.draws _ _ _ | refine Ext.plus ?_ _ | refine Ext.alloc ?_ _ | refine Ext.drew ?_ | refine Ext.drewN ?_ _)))).mono ?_
      rintro e w1 ⟨rfl, g2, rfl⟩
      go_wp2
      go_ret
      exact ⟨rfl, (by repeat (first | exact Ext.refl _ | exact Ext.draws _ _ _ | refine Ext.plus ?_ _ | refine Ext.alloc ?_ _ | refine Ext.drew ?_ | refine Ext.drewN ?_ _))⟩

set_option maxRecDepth 100000 in
theorem plateRegisters_lifted (os : Os) (started : os.Started) (H : Type) (enc : TypeId × Value → H) :
    ReturnsInHanded {} Try.checked os 3 .any (Rows.plateRegistersSpec.pre6 enc Try.prog Try.f3 Rows.plateRegistersRow.domain false) (Rows.plateRegistersSpec.post enc Try.prog Try.f3 false true false false) := by
  refine returnsInHanded_of_change (C := Try.checked) own_knob started (by kernel_rfl) Try.func3
    (ChangeSpec.witness6 (enc := enc) (C := Try.checked) false ⟨#[], #[.slice none 0 0, .slice none 0 0, .int .i64 0], []⟩ 8 (by kernel_rfl) (by kernel_rfl) (by kernel_rfl) (by kernel_rfl)) ?_
  intro W base args ds gs before hval0 hW _ _
  have hval : ∀ (j : Nat) t v, Try.f3.params[j]? = some t → args[j]? = some v → Value.okWide Try.prog W .any base t v := hval0
  have hW' := hW
  obtain ⟨p, q, hA0, hV, rfl, _, _⟩ := hW
  have hA : DataW.TrodAll enc Try.prog W 0 (fun _ => true) true Try.f3.params.toList args.toList ds p := hA0
  rw [Try.params3] at hA hval
  obtain ⟨v0, vs0, d0, ds0, p0, q0, hargs, rfl, rfl, h0, r0⟩ := trodAll_cons hA
  obtain ⟨v1, vs1, d1, ds1, p1, q1, rfl, rfl, rfl, h1, r1⟩ := trodAll_cons r0
  obtain ⟨v2, vs2, d2, ds2, p2, q2, rfl, rfl, rfl, h2, r2⟩ := trodAll_cons r1
  obtain ⟨rfl, rfl, rfl⟩ := trodAll_nil r2
  obtain rfl : args = #[v0, v1, v2] := by cases args; simp_all
  obtain ⟨rfl, rfl⟩ := trodVars_none hV
  have k0 := h0
  have lt0 : ∀ x ∈ p0, x.block < W.heap.size := by obtain ⟨m, hm⟩ := k0; exact DataW.trod_lt m _ _ _ hm
  obtain ⟨l0, A0, c0, rfl, R0⟩ := open_spots (hval 0 22 v0 rfl rfl) h0
  have k1 := h1
  have lt1 : ∀ x ∈ p1, x.block < W.heap.size := by obtain ⟨m, hm⟩ := k1; exact DataW.trod_lt m _ _ _ hm
  obtain ⟨l1, A1, c1, rfl, R1⟩ := open_spots (hval 1 22 v1 rfl rfl) h1
  have k2 := h2
  have lt2 : ∀ x ∈ p2, x.block < W.heap.size := by obtain ⟨m, hm⟩ := k2; exact DataW.trod_lt m _ _ _ hm
  obtain ⟨n2, rfl, B2⟩ := open_int' (hval 2 3 v2 rfl rfl) h2
  clear hA0 hval0
  refine (plateRegisters_walk W A0 c0 l0 R0 A1 c1 l1 R1 n2 B2).mono fun e W' ⟨he, hx⟩ => ?_
  have bel := hx.below
  subst he
  exact ⟨_, rfl, _, _, _, [], _, [], hW', trodAll_mk1 (shut_bool Try.underlying4 _), (trodAll_cons_mk (Below.trod laid_out (by kernel_rfl) (of_decide_eq_true (by kernel_rfl)) k0 bel lt0) (trodAll_cons_mk (Below.trod laid_out (by kernel_rfl) (of_decide_eq_true (by kernel_rfl)) k1 bel lt1) (trodAll_cons_mk (Below.trod laid_out (by kernel_rfl) (of_decide_eq_true (by kernel_rfl)) k2 bel lt2) trodAll_mk0))), rfl, bel.frame _, fun h => by cases h⟩

/-- THE STATEMENT: for every input the law returns true, and each argument reads behind the call as it read before. -/
theorem plateRegisters_holds : Rows.PlateRegistersSaid :=
  OpenClaim.holds_of_wide 3 Try.f3 rfl rfl rfl rfl rfl rfl rfl ⟨rfl, rfl, rfl, rfl, rfl⟩ rfl rfl rfl rfl rfl (by kernel_rfl) Try.func3 (by kernel_rfl)
    (of_decide_eq_true (by kernel_rfl)) (by unfold Func.isWrapper; first | (rw [if_pos (by decide +kernel)]; kernel_rfl) | (rw [if_neg (by decide +kernel)]; exact ⟨rfl, rfl⟩))
    (fun os started H enc _ => plateRegisters_lifted os started H enc)
end Go.Proofs.Ythpbjihnikapoaa
