/- Arithmetic for the walk: whole numbers of other kinds, division, masks. No condition. -/
import Derived.Test.YtccidiflnmchiaaAm16
namespace Go.Proofs.Ytccidiflnmchiaa
open Go.RowKit
theorem wrapU {n : Int} (h : 0 ≤ n ∧ n ≤ 18446744073709551615) : IntKind.u64.wrap n = n := by
  simp only [IntKind.wrap, IntKind.bits, IntKind.signed]
  simp
  omega
theorem wrapU32 {n : Int} (h : 0 ≤ n ∧ n ≤ 4294967295) : IntKind.u32.wrap n = n := by
  simp only [IntKind.wrap, IntKind.bits, IntKind.signed]
  simp
  omega
theorem quo64 {m n : Int} (hm : 0 ≤ m ∧ m ≤ 9223372036854775807) (hn : 0 < n) : IntKind.i64.wrap (m.tdiv n) = m / n := by
  rw [Int.tdiv_eq_ediv_of_nonneg hm.1]
  have h1 : 0 ≤ m / n := Int.ediv_nonneg hm.1 (by omega)
  have h2 : m / n ≤ m := Int.ediv_le_self _ hm.1
  exact wrap64 (by omega)
theorem rem64 {m n : Int} (hm : 0 ≤ m) : m.tmod n = m % n := Int.tmod_eq_emod_of_nonneg hm
theorem shr0 {m : Int} (h : 0 ≤ m ∧ m ≤ 4294967295) : m.fdiv (2 ^ (min (32 : Int).toNat IntKind.u64.bits)) = 0 := by
  have e : (2 : Int) ^ (min (32 : Int).toNat IntKind.u64.bits) = 4294967296 := by decide
  rw [e, Int.fdiv_eq_ediv_of_nonneg _ (by omega)]
  omega
theorem andMask {m : Int} (h : 0 ≤ m ∧ m ≤ 4294967295) : IntKind.u64.wrap ((BitVec.ofInt IntKind.u64.bits m &&& BitVec.ofInt IntKind.u64.bits 4294967295).toNat : Int) = m := by
  obtain ⟨k, rfl⟩ := Int.eq_ofNat_of_zero_le h.1
  have hk : k < 2 ^ 32 := by omega
  have e : ((BitVec.ofInt IntKind.u64.bits (k : Int) &&& BitVec.ofInt IntKind.u64.bits 4294967295).toNat) = k := by
    show ((BitVec.ofInt 64 (k : Int) &&& BitVec.ofInt 64 4294967295).toNat) = k
    rw [BitVec.toNat_and]
    have h1 : (BitVec.ofInt 64 (k : Int)).toNat = k := by simp; omega
    have h2 : (BitVec.ofInt 64 4294967295).toNat = 2 ^ 32 - 1 := by decide
    rw [h1, h2, Nat.and_two_pow_sub_one_eq_mod]
    omega
  rw [e]
  exact wrapU (by omega)
theorem bnd_some {env : Env} {x : Operand} {k : IntKind} {v : Int} {d l : Nat} (hx : eo env x = some (.s (.int k v))) (h : v = (l : Int)) : bnd env (some x) d l := ⟨k, by rw [hx, h]⟩
end Go.Proofs.Ytccidiflnmchiaa
