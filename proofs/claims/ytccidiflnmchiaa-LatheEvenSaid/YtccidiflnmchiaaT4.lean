import Derived.Test.YtccidiflnmchiaaT3
import Derived.Test.YtccidiflnmchiaaOwn
import Derived.Laws.MakeOwn
namespace Go.Proofs.Ytccidiflnmchiaa
open Go.RowKit

theorem info_int : (Try.prog.info? 3).map (fun i => (i.zero, i.size, i.bytes)) = some (some (.int .i64 0), 1, 8) := by kernel_rfl
theorem info_bool : (Try.prog.info? 4).map (fun i => (i.zero, i.size, i.bytes)) = some (some (.bool false), 1, 1) := by kernel_rfl
theorem info_ints : (Try.prog.info? 24).map (fun i => (i.zero, i.size, i.bytes)) = some (some (.slice none 0 0), 1, 24) := by kernel_rfl

/-- 'm' times 'z'. -/
def fills (m : Nat) (z : Value) : Array Value := Array.replicate m z
theorem fills_size (m : Nat) (z : Value) : (fills m z).size = m := by simp [fills]
theorem fills_at (m : Nat) (z : Value) (i : Nat) (h : i < m) : (fills m z)[i]? = some z := by simp [fills, h]
theorem make_at {P : Program} (t e : TypeId) (i : TypeInfo) (z : Value) (bytes : Nat) (ht : P.underlying t = some (.slice e)) (hi : P.info? e = some i) (hz : i.zero = some z) (hz1 : z.cells = #[z]) (hs : i.size = 1) (hby : i.bytes = bytes) (hb : bytes ≤ 24)
    (m : Nat) (hm : m ≤ 100000) (w : World) : (Instr.makeSlice t (.int .i64 (m : Int)) (.int .i64 (m : Int))).run P w = .ok (.slice (some ⟨w.heap.size, 0, none⟩) m m) (w.alloc (.cells (fills m z) e)) := by
  have hb' : (i.bytes : Int) * (m : Int) ≤ 281474976710656 := by
    have : i.bytes * m ≤ 24 * 100000 := Nat.mul_le_mul (by omega) hm
    have h2 : ((i.bytes * m : Nat) : Int) ≤ 2400000 := by omega
    rw [Int.natCast_mul] at h2
    omega
  have hr := run_make (P := P) w t e i z ht hi hz .i64 .i64 m m (by omega) (by omega) hb' (by omega)
  simp only [Int.toNat_natCast] at hr
  rw [hr]
  congr 3
  rw [hz1, hs, Nat.mul_one]
  unfold madeCells fills
  apply Array.ext
  · simp
  · intro k h1 h2
    simp
    simp [Nat.mod_one]

def mostErr (s : Sheet) (top bottom : List Int) : Int := if curvesErr s top bottom = 0 then (if fitTo s top bottom bottom.length < 2 then 71 else 0) else curvesErr s top bottom
def mostVal (s : Sheet) (top bottom : List Int) : Int := if mostErr s top bottom = 0 then fitTo s top bottom bottom.length else 0
theorem curves_ok {s : Sheet} {top bottom : List Int} (h : curvesErr s top bottom = 0) : s.ok = true ∧ isLineB s top = true ∧ isLineB s bottom = true ∧ geB top bottom = true := by
  unfold curvesErr at h
  split at h
  · split at h
    · rename_i h1 h2
      simp only [Bool.and_eq_true] at h2
      exact ⟨h1, h2.1.1, h2.1.2, h2.2⟩
    · omega
  · omega

set_option maxHeartbeats 800000 in
theorem most_c (s : Sheet) (A A' : Option Addr) (c c' : Nat) (top bottom : List Int) (w : World) (h : Arr w w.heap.size A c top) (h' : Arr w w.heap.size A' c' bottom) :
    Calls Try.prog 19 #[.agg #[.int .i64 s.cols, .int .i64 s.rows, .int .i64 s.weight, .int .i64 s.clear, .int .i64 s.lean], .slice A top.length c, .slice A' bottom.length c'] w fun e w' => e = .returned (.tuple #[.int .i64 (mostVal s top bottom), .int .i64 (mostErr s top bottom)]) ∧ Ext w w' := by
  by_cases he : curvesErr s top bottom = 0
  · obtain ⟨hs, h1, h2, h3⟩ := curves_ok he
    have hm : mostErr s top bottom = if fitTo s top bottom bottom.length < 2 then 71 else 0 := by unfold mostErr; rw [if_pos he]
    have Hm : Hid _ := hm
    clear hm
    go_enter Try.func19, Try.ntmps19
    go_wp2_with fail
    refine (curves_c s A A' c c' top bottom _ (h.up (by repeat (first | exact Ext.refl _ | refine Ext.plus ?_ _ | refine Ext.alloc ?_ _ | refine Ext.drew ?_ | refine Ext.drewN ?_ _))) (h'.up (by repeat (first | exact Ext.refl _ | refine Ext.plus ?_ _ | refine Ext.alloc ?_ _ | refine Ext.drew ?_ | refine Ext.drewN ?_ _)))).mono ?_
    rintro e w1 ⟨rfl, g1, rfl⟩
    go_wp2_with fail
    have H1 : Hid _ := h1
    have H2 : Hid _ := h2
    have H3 : Hid _ := h3
    clear he h1 h2 h3
    refine (fit_c s hs A A' c c' top bottom _ (h.up (by repeat (first | exact Ext.refl _ | refine Ext.plus ?_ _ | refine Ext.alloc ?_ _ | refine Ext.drew ?_ | refine Ext.drewN ?_ _))) (h'.up (by repeat (first | exact Ext.refl _ | refine Ext.plus ?_ _ | refine Ext.alloc ?_ _ | refine Ext.drew ?_ | refine Ext.drewN ?_ _))) H1.out H2.out H3.out).mono ?_
    rintro e w1 ⟨rfl, g2, rfl⟩
    by_cases hf : fitTo s top bottom bottom.length < 2
    · go_wp2
      go_ret2
      have e1 : mostErr s top bottom = 71 := by rw [Hm.out, if_pos (by omega)]
      have e0 : mostVal s top bottom = 0 := by unfold mostVal; rw [if_neg (by rw [e1]; decide)]
      exact ⟨by rw [e0, e1]; rfl, (by repeat (first | exact Ext.refl _ | refine Ext.plus ?_ _ | refine Ext.alloc ?_ _ | refine Ext.drew ?_ | refine Ext.drewN ?_ _))⟩
    · go_wp2
      go_ret2
      have e1 : mostErr s top bottom = 0 := by rw [Hm.out, if_neg (by omega)]
      have e0 : mostVal s top bottom = fitTo s top bottom bottom.length := by unfold mostVal; rw [if_pos e1]
      exact ⟨by rw [e0, e1]; rfl, (by repeat (first | exact Ext.refl _ | refine Ext.plus ?_ _ | refine Ext.alloc ?_ _ | refine Ext.drew ?_ | refine Ext.drewN ?_ _))⟩
  · have hm : mostErr s top bottom = curvesErr s top bottom := by unfold mostErr; rw [if_neg he]
    have e0 : mostVal s top bottom = 0 := by unfold mostVal; rw [if_neg (by rw [hm]; exact he)]
    have Hm : Hid _ := hm
    have H0 : Hid _ := e0
    clear hm e0
    go_enter Try.func19, Try.ntmps19
    go_wp2_with fail
    refine (curves_c s A A' c c' top bottom _ (h.up (by repeat (first | exact Ext.refl _ | refine Ext.plus ?_ _ | refine Ext.alloc ?_ _ | refine Ext.drew ?_ | refine Ext.drewN ?_ _))) (h'.up (by repeat (first | exact Ext.refl _ | refine Ext.plus ?_ _ | refine Ext.alloc ?_ _ | refine Ext.drew ?_ | refine Ext.drewN ?_ _)))).mono ?_
    rintro e w1 ⟨rfl, g1, rfl⟩
    go_wp2
    go_ret2
    exact ⟨by rw [Hm.out, H0.out]; rfl, (by repeat (first | exact Ext.refl _ | refine Ext.plus ?_ _ | refine Ext.alloc ?_ _ | refine Ext.drew ?_ | refine Ext.drewN ?_ _))⟩
end Go.Proofs.Ytccidiflnmchiaa
