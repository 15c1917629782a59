/- LatheEven: lines between two others, and how many fit, or the errors, are as the reference says. No condition. -/
import Derived.Test.YtccidiflnmchiaaT10
import Derived.Test.YtccidiflnmchiaaOpenL
namespace Go.Proofs.Ytccidiflnmchiaa
open Go.ChangeShapes Go.WideShapes Go.ChangeAt Go.RowKit

set_option maxHeartbeats 1600000 in
theorem latheEven_walk (w : World) (s : Sheet) (A : Option Addr) (c : Nat) (top : List Int) (h : Arr w w.heap.size A c top) (A' : Option Addr) (c' : Nat) (bottom : List Int) (h' : Arr w w.heap.size A' c' bottom) (n : Int) (hn : -9223372036854775808 ≤ n ∧ n ≤ 9223372036854775807) :
    Calls Try.prog 3 #[.agg #[.int .i64 s.cols, .int .i64 s.rows, .int .i64 s.weight, .int .i64 s.clear, .int .i64 s.lean], .slice A top.length c, .slice A' bottom.length c', .int .i64 n] w fun e w' => e = .returned (.bool true) ∧ Ext w w' := by
  clear hn
  have hle := h.le
  have hle' := h'.le
  by_cases h1 : (60 : Int) < (top.length : Int)
  · go_enter Try.func3, Try.ntmps3
    go_wp2
    go_ret
    exact ⟨rfl, (by repeat (first | exact Ext.refl _ | refine Ext.plus ?_ _ | refine Ext.alloc ?_ _ | refine Ext.drew ?_ | refine Ext.drewN ?_ _))⟩
  · by_cases h2 : (60 : Int) < (bottom.length : Int)
    · go_enter Try.func3, Try.ntmps3
      go_wp2
      go_ret
      exact ⟨rfl, (by repeat (first | exact Ext.refl _ | refine Ext.plus ?_ _ | refine Ext.alloc ?_ _ | refine Ext.drew ?_ | refine Ext.drewN ?_ _))⟩
    · go_enter Try.func3, Try.ntmps3
      go_wp2_with fail
      refine (between_c s A A' c c' top bottom n _ (h.up (by repeat (first | exact Ext.refl _ | refine Ext.plus ?_ _ | refine Ext.alloc ?_ _ | refine Ext.drew ?_ | refine Ext.drewN ?_ _))) (h'.up (by repeat (first | exact Ext.refl _ | refine Ext.plus ?_ _ | refine Ext.alloc ?_ _ | refine Ext.drew ?_ | refine Ext.drewN ?_ _)))).mono ?_
      rintro e w1 ⟨⟨g1, rfl⟩, B, d, rfl, hB⟩
      go_wp2_with fail
      refine (rbetween_c s A A' c c' top bottom n _ (h.up (by repeat (first | exact Ext.refl _ | refine Ext.plus ?_ _ | refine Ext.alloc ?_ _ | refine Ext.drew ?_ | refine Ext.drewN ?_ _))) (h'.up (by repeat (first | exact Ext.refl _ | refine Ext.plus ?_ _ | refine Ext.alloc ?_ _ | refine Ext.drew ?_ | refine Ext.drewN ?_ _)))).mono ?_
      rintro e w1 ⟨⟨g2, rfl⟩, B', d', rfl, hB'⟩
      go_wp2_with fail
      refine (most_c s A A' c c' top bottom _ (h.up (by repeat (first | exact Ext.refl _ | refine Ext.plus ?_ _ | refine Ext.alloc ?_ _ | refine Ext.drew ?_ | refine Ext.drewN ?_ _))) (h'.up (by repeat (first | exact Ext.refl _ | refine Ext.plus ?_ _ | refine Ext.alloc ?_ _ | refine Ext.drew ?_ | refine Ext.drewN ?_ _)))).mono ?_
      rintro e w1 ⟨rfl, g3, rfl⟩
      go_wp2_with fail
      refine (rmost_c s A A' c c' top bottom _ (h.up (by repeat (first | exact Ext.refl _ | refine Ext.plus ?_ _ | refine Ext.alloc ?_ _ | refine Ext.drew ?_ | refine Ext.drewN ?_ _))) (h'.up (by repeat (first | exact Ext.refl _ | refine Ext.plus ?_ _ | refine Ext.alloc ?_ _ | refine Ext.drew ?_ | refine Ext.drewN ?_ _)))).mono ?_
      rintro e w1 ⟨rfl, g4, rfl⟩
      go_wp2_with fail
      refine (sameBand_c B B' d d' _ _ _ (hB.up (by repeat (first | exact Ext.refl _ | refine Ext.plus ?_ _ | refine Ext.alloc ?_ _ | refine Ext.drew ?_ | refine Ext.drewN ?_ _))) (hB'.up (by repeat (first | exact Ext.refl _ | refine Ext.plus ?_ _ | refine Ext.alloc ?_ _ | refine Ext.drew ?_ | refine Ext.drewN ?_ _)))).mono ?_
      rintro e w1 ⟨rfl, g5, rfl⟩
      go_wp2
      go_ret
      exact ⟨rfl, (by repeat (first | exact Ext.refl _ | refine Ext.plus ?_ _ | refine Ext.alloc ?_ _ | refine Ext.drew ?_ | refine Ext.drewN ?_ _))⟩

set_option maxRecDepth 100000 in
theorem latheEven_lifted (os : Os) (started : os.Started) (H : Type) (enc : TypeId × Value → H) :
    ReturnsInHanded {} Try.checked os 3 .any (Rows.latheEvenSpec.pre6 enc Try.prog Try.f3 Rows.latheEvenRow.domain false) (Rows.latheEvenSpec.post enc Try.prog Try.f3 false true false false) := by
  refine returnsInHanded_of_change (C := Try.checked) own_knob started (by kernel_rfl) Try.func3
    (ChangeSpec.witness6 (enc := enc) (C := Try.checked) false ⟨#[], #[.agg #[.int .i64 0, .int .i64 0, .int .i64 0, .int .i64 0, .int .i64 0], .slice none 0 0, .slice none 0 0, .int .i64 0], []⟩ 8 (by kernel_rfl) (by kernel_rfl) (by kernel_rfl) (by kernel_rfl)) ?_
  intro W base args ds gs before hval0 hW _ _
  have hval : ∀ (j : Nat) t v, Try.f3.params[j]? = some t → args[j]? = some v → Value.okWide Try.prog W .any base t v := hval0
  have hW' := hW
  obtain ⟨p, q, hA0, hV, rfl, _, _⟩ := hW
  have hA : DataW.TrodAll enc Try.prog W 0 (fun _ => true) true Try.f3.params.toList args.toList ds p := hA0
  rw [Try.params3] at hA hval
  obtain ⟨v0, vs0, d0, ds0, p0, q0, hargs, rfl, rfl, h0, r0⟩ := trodAll_cons hA
  obtain ⟨v1, vs1, d1, ds1, p1, q1, rfl, rfl, rfl, h1, r1⟩ := trodAll_cons r0
  obtain ⟨v2, vs2, d2, ds2, p2, q2, rfl, rfl, rfl, h2, r2⟩ := trodAll_cons r1
  obtain ⟨v3, vs3, d3, ds3, p3, q3, rfl, rfl, rfl, h3, r3⟩ := trodAll_cons r2
  obtain ⟨rfl, rfl, rfl⟩ := trodAll_nil r3
  obtain rfl : args = #[v0, v1, v2, v3] := by cases args; simp_all
  obtain ⟨rfl, rfl⟩ := trodVars_none hV
  have k0 := h0
  have lt0 : ∀ x ∈ p0, x.block < W.heap.size := by obtain ⟨m, hm⟩ := k0; exact DataW.trod_lt m _ _ _ hm
  obtain ⟨s0, rfl⟩ := open_sheet (hval 0 23 v0 rfl rfl) h0
  have k1 := h1
  have lt1 : ∀ x ∈ p1, x.block < W.heap.size := by obtain ⟨m, hm⟩ := k1; exact DataW.trod_lt m _ _ _ hm
  obtain ⟨l1, A1, c1, rfl, R1⟩ := open_ints' (hval 1 24 v1 rfl rfl) h1
  have k2 := h2
  have lt2 : ∀ x ∈ p2, x.block < W.heap.size := by obtain ⟨m, hm⟩ := k2; exact DataW.trod_lt m _ _ _ hm
  obtain ⟨l2, A2, c2, rfl, R2⟩ := open_ints' (hval 2 24 v2 rfl rfl) h2
  have k3 := h3
  have lt3 : ∀ x ∈ p3, x.block < W.heap.size := by obtain ⟨m, hm⟩ := k3; exact DataW.trod_lt m _ _ _ hm
  obtain ⟨n3, rfl, B3⟩ := open_int' (hval 3 3 v3 rfl rfl) h3
  clear hA0 hval0
  refine (latheEven_walk W s0 A1 c1 l1 R1 A2 c2 l2 R2 n3 B3).mono fun e W' ⟨he, hx⟩ => ?_
  have bel := hx.below
  subst he
  exact ⟨_, rfl, _, _, _, [], _, [], hW', trodAll_mk1 (shut_bool Try.underlying4 _), (trodAll_cons_mk (Below.trod laid_out (by kernel_rfl) (of_decide_eq_true (by kernel_rfl)) k0 bel lt0) (trodAll_cons_mk (Below.trod laid_out (by kernel_rfl) (of_decide_eq_true (by kernel_rfl)) k1 bel lt1) (trodAll_cons_mk (Below.trod laid_out (by kernel_rfl) (of_decide_eq_true (by kernel_rfl)) k2 bel lt2) (trodAll_cons_mk (Below.trod laid_out (by kernel_rfl) (of_decide_eq_true (by kernel_rfl)) k3 bel lt3) trodAll_mk0)))), rfl, bel.frame _, fun h => by cases h⟩

/-- THE STATEMENT: for every input the law returns true, and each argument reads behind the call as it read before. -/
theorem latheEven_holds : Rows.LatheEvenSaid :=
  OpenClaim.holds_of_wide 3 Try.f3 rfl rfl rfl rfl rfl rfl rfl ⟨rfl, rfl, rfl, rfl, rfl⟩ rfl rfl rfl rfl rfl (by kernel_rfl) Try.func3 (by kernel_rfl)
    (of_decide_eq_true (by kernel_rfl)) (by unfold Func.isWrapper; first | (rw [if_pos (by decide +kernel)]; kernel_rfl) | (rw [if_neg (by decide +kernel)]; exact ⟨rfl, rfl⟩))
    (fun os started H enc _ => latheEven_lifted os started H enc)
end Go.Proofs.Ytccidiflnmchiaa
