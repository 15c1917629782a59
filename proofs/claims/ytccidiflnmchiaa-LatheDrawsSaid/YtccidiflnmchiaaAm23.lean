/- append of so many zeros to nothing; the room of nothing. No condition. -/
import Derived.Test.YtccidiflnmchiaaAm22
namespace Go.Proofs.Ytccidiflnmchiaa
open Go.RowKit
section
variable {P : Program} {r : Option Nat} {m nt : Nat} {Q : Post} {env : Env} {H : Heap} {ops : Array Oper} {l : List Stp} {ty : TypeId} {pos : String} {after : Array Edge} {guard : Option (Nat × Bool)} {dst : Option Tmp} {T T2 E : TypeId} {d de : TyD} {x y : Operand} {keep : Bool}
theorem append_zeros_run {w : World} {i : TypeInfo} {z : Value} {n : Nat} (ht : P.underlying T = some (.slice E)) (ht2 : P.underlying T2 = some (.int .i64)) (hi : P.info? E = some i) (hz : i.zero = some z) (h0 : 0 < n) (hn : n ≤ 1000000) (hby : i.bytes ≤ 1024) (hs : i.size ≠ 0) :
    (Builtin.append_ #[T, T2] ty #[.slice none 0 0, .int .i64 (n : Int)]).run P w =
      .ok (.slice (some ⟨w.heap.size, 0, none⟩) n (grownCap w n 0 E)) (w.drew.alloc (.cells (Builtin.zeroCells z.cells n ++ Builtin.zeroCells z.cells (grownCap w n 0 E - n)) E)) := by
  have hb : n * i.bytes ≤ 1000000 * 1024 := Nat.mul_le_mul hn hby
  have hfit := growslice_fits (need := n) (old := 0) (bytes := i.bytes) h0 (by omega)
  have hn' : ¬ (n ≤ 0) := by omega
  have h63' : ¬ (9223372036854775807 < (n : Int)) := by omega
  have h48' : ¬ (281474976710656 < Builtin.nextslicecap n 0 * i.bytes) := by omega
  have hwr : IntKind.i64.wrap (n : Int) = n := wrap64 (by omega)
  have hneg : ¬ ((n : Int) < 0) := by omega
  have hbig : ¬ (281474976710656 < (n : Int) * (i.bytes : Int)) := by rw [← Int.natCast_mul]; omega
  have hn0 : ¬ n = 0 := by omega
  have hns : ¬ n * i.size = 0 := Nat.mul_ne_zero hn0 hs
  simp [Builtin.append_, run_underlying ht, run_underlying ht2, sizeOf, typeInfo, zeroValue, hi, hz, asInt, asIntOf, hwr, hneg, hbig, hn', h63', h48', hn0, hns, hs, Question.forced, newRow, grownCap, Builtin.firstCells, loadCells, loadCellsFrom]
theorem ar_append_zeros {i e n : Nat} {v : Int} (ht : TyIs P T d) (hk : d.tk = .slice E) (ht2 : P.underlying T2 = some (.int .i64)) (he : TyIs P E de) (hz : de.zero.cells.size = de.size) (hsz : de.size ≠ 0) (hby : de.bytes ≤ 1024) (hx : eo env x = some (.s (.slice none 0 0))) (hy : eo env y = some (.s (.int .i64 v))) (hv : v = (n : Int)) (h0 : 0 < n) (hn : n ≤ 1000000) (hd : e < nt)
    (h : AR P r m nt ops Q l ((e, .sl de.size H.length 0 n) :: env) (H ++ [.arr de.size 0 (fun _ => vnil)])) : AR P r m nt ops Q (.l i ⟨some e, .call ⟨.builtin .append, #[x, y], #[T, T2]⟩, ty, pos, after, none⟩ keep :: l) env H :=
  ar_l (R := fun u H' => u = .sl de.size H.length 0 n ∧ H' = H ++ [.arr de.size 0 (fun _ => vnil)]) (Rp := NoP) (.mk fun X I ρ a w next Qx hX hS hK hp => by
    obtain ⟨hE, hw, hdf⟩ := hS
    subst hv
    have hu := sval hE hx
    have hv := sval hE hy
    obtain ⟨ii, hi, hs1, hby1, hz0⟩ := he.inf
    have hrun := append_zeros_run (P := P) (w := w) (ty := ty) (ht.slice hk) ht2 hi hz0 h0 hn (by omega) (by omega)
    refine wpIn_of_run (by simp) (res := .ok (.value (.slice (some ⟨w.heap.size, 0, none⟩) n (grownCap w n 0 E))) (w.drew.alloc (.cells (Builtin.zeroCells de.zero.cells n ++ Builtin.zeroCells de.zero.cells (grownCap w n 0 E - n)) E))) (by simp [execOp, resolve, invoke, builtin, hu, hv, hrun]) ?_
    have hge := grownCap_ge w n 0 E
    have hcm := grownCap_le_maxLen w n 0 E (by unfold maxLen; omega)
    have hcs : (Builtin.zeroCells de.zero.cells n ++ Builtin.zeroCells de.zero.cells (grownCap w n 0 E - n)).size = grownCap w n 0 E * de.size := by
      rw [Array.size_append, size_zeroCells, size_zeroCells, hz, ← Nat.add_mul]
      congr 1
      omega
    have ok := WOk.alloc (w' := w.drew.alloc (.cells (Builtin.zeroCells de.zero.cells n ++ Builtin.zeroCells de.zero.cells (grownCap w n 0 E - n)) E)) (ty := E) (sz := de.size) (n := 0) (f := fun _ => vnil) hw.drew (cs := Builtin.zeroCells de.zero.cells n ++ Builtin.zeroCells de.zero.cells (grownCap w n 0 E - n)) (by simp) (fun i hi => by omega) (fun i j v hi => by omega) rfl rfl rfl rfl
    rw [hcs] at ok
    refine hK I _ _ _ _ _ ⟨rfl, rfl⟩ (Imm.le_refl _) (pre_append _) ok ?_ (fun _ => keeps_alloc hw fun b hb => Below.heap_alloc w.drew _ b hb)
    have := VRel.sl (I := I) (ρ := ρ ++ [some (w.heap.size, grownCap w n 0 E * de.size)]) (sz := de.size) (b := H.length) (i := 0) (n := n) (cb := w.heap.size) (z := grownCap w n 0 E * de.size) (c := grownCap w n 0 E) (by rw [← hw.len]; simp) (by omega) hcm (by simp)
    simpa using this) hd (fun v H' ⟨a, b⟩ => by subst a; subst b; exact h) (fun _ _ h => h.elim)
theorem qs_cap_nil {ats : Array TypeId} (ht : TyIs P T d) (hk : d.tk = .slice E) (h0 : ats[0]? = some T) (hx : eo env x = some (.s (.slice none 0 0))) : QS P nt env H ⟨dst, .call ⟨.builtin .cap, #[x], ats⟩, ty, pos, after, guard⟩ (.s (.int .i64 0)) := .mk
  fun _ I ρ a w h hw => ⟨_, .s _, fun w' _ => by simp [execOp, resolve, invoke, builtin, Builtin.cap_, sval h hx, h0, run_underlying (ht.slice hk), goInt]⟩
theorem qs_slice_nil {hi : Operand} {k : IntKind} (ht : TyIs P T d) (hk : d.tk = .slice E) (he : TyIs P E de) (hx : eo env x = some (.s (.slice none 0 0))) (hh : eo env hi = some (.s (.int k 0))) : QS P nt env H ⟨dst, .slice T x none (some hi) none, ty, pos, after, guard⟩ (.s (.slice none 0 0)) := .mk
  fun _ I ρ a w h hw => ⟨_, .s _, fun w' _ => by
    have := slice_run (P := P) (w := w') (A := none) (n := 0) (cap := 0) (l := 0) (h := 0) (m := 0) (lo := none) (hi := some (a.eval hi)) (mx := none) ht hk he rfl ⟨k, by rw [sval h hh]; rfl⟩ rfl (Nat.le_refl _) (Nat.le_refl _) (Nat.le_refl _)
    simp only [execOp, sval h hx, Sem.run_bind, Option.map_some, Option.map_none, this, Result.andThen_ok]
    rfl⟩
end
end Go.Proofs.Ytccidiflnmchiaa
