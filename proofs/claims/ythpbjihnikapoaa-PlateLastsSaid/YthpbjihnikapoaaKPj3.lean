/- Parts of the proof: a layer of values over the model, and contracts of functions. No condition. -/
import Derived.Test.YthpbjihnikapoaaKPj2
namespace Go.Proofs.Ythpbjihnikapoaa
open Go.RowKit
def copyF (f : Nat → V) (i m : Nat) (g : Nat → V) : Nat → V := fun j => bif Nat.ble i j && Nat.blt j (i + m) then g (j - i) else f j
theorem copyF_in {f g : Nat → V} {i m j : Nat} (h1 : i ≤ j) (h2 : j < i + m) : copyF f i m g j = g (j - i) := by
  have e1 : Nat.ble i j = true := Nat.ble_eq_true_of_le h1
  have e2 : Nat.blt j (i + m) = true := by rw [Nat.blt_eq]; exact h2
  simp [copyF, e1, e2]
theorem copyF_out {f g : Nat → V} {i m j : Nat} (h : j < i ∨ i + m ≤ j) : copyF f i m g j = f j := by
  unfold copyF
  rcases h with h | h
  · have : Nat.ble i j = false := by cases e : Nat.ble i j with | false => rfl | true => have := Nat.le_of_ble_eq_true e; omega
    rw [this]; rfl
  · have : Nat.blt j (i + m) = false := by cases e : Nat.blt j (i + m) with | false => rfl | true => rw [Nat.blt_eq] at e; omega
    rw [this, Bool.and_false]; rfl
section
variable {P : Program} {r : Option Nat} {m nt : Nat} {Q : Post} {env : Env} {H : Heap} {ops : Array Oper} {l : List Stp} {ty : TypeId} {pos : String} {after : Array Edge} {x y : Operand} {T T2 E : TypeId} {d de : TyD} {dst : Option Tmp} {guard : Option (Nat × Bool)}
/-- copy into an own row of elements of one cell. -/
theorem ls_copy {yv : V} {b i n N k : Nat} {f g : Nat → V} (ht : TyIs P T d) (hk : d.tk = .slice E) (he : TyIs P E de) (hs1 : de.size = 1) (hx : eo env x = some (.sl 1 b i n)) (hH : H[b]? = some (.arr 1 N f)) (hN : i + n ≤ N) (hy : eo env y = some yv) (hs : Src H yv 1 k g)
    (hone : ∀ j, j < k → (g j).cells.all V.one = true) :
    LS P r m nt false env H ⟨dst, .call ⟨.builtin .copy, #[x, y], #[T, T2]⟩, ty, pos, after, guard⟩ (fun u H' => u = vi (Nat.min k n) ∧ H' = H.set b (.arr 1 N (copyF f i (Nat.min k n) g))) NoP := .mk
  fun X I ρ a w next Qx hX hS hK hp => by
    obtain ⟨hE, hw, hdf⟩ := hS
    have hu := eo_rel hE hx
    have hv := eo_rel hE hy
    obtain ⟨ii, hi, hsz, hby, hz0⟩ := he.inf
    have hinf : (P.info? E).map (·.size) = some 1 := by rw [hi]; simp [hsz, hs1]
    obtain ⟨B, cap, news, ey, hnl, hnc, hgsz, hgr⟩ := src_cells hw hs hv
    have hex : ∀ {res : Value} {w' : World}, (Builtin.copy_ #[T, T2] ty #[a.eval x, a.eval y]).run P w = .ok res w' → (execOp a.eval ⟨dst, .call ⟨.builtin .copy, #[x, y], #[T, T2]⟩, ty, pos, after, guard⟩).run P w = .ok (.value res) w' := fun h => by
      simp [execOp, resolve, invoke, builtin, h]
    by_cases h0 : Nat.min k n = 0
    · have hset : H.set b (.arr 1 N (copyF f i (Nat.min k n) g)) = H := by
        rw [h0, show copyF f i 0 g = f from funext fun j => copyF_out (by omega)]
        obtain ⟨hb, e⟩ := List.getElem?_eq_some_iff.1 hH
        rw [← e, List.set_getElem_self]
      obtain ⟨A, c, ex⟩ : ∃ A c, a.eval x = .slice A n c := by
        rcases hu.sl_inv with ⟨cb, z, c, e, _⟩ | ⟨A, e, _, _, rfl⟩
        · exact ⟨_, _, e⟩
        · exact ⟨_, _, e⟩
      have hr := run_copy_none (P := P) w T T2 ty E A B n c k cap (ht.slice hk) hinf h0
      rw [← ex, ← ey] at hr
      refine wpIn_of_run (by simp) (hex hr) ?_
      exact hK I ρ _ (vi 0) _ _ ⟨by rw [h0]; rfl, rfl⟩ (Imm.le_refl _) (Pre.refl _) (by rw [hset]; exact hw) (.s _) (by simp)
    · rcases hu.sl_inv with ⟨cb, z, c, ex, hb, hnc', hcm, hz'⟩ | ⟨A, _, _, _, rfl⟩
      · have hk0 : 0 < k := by have : Nat.min k n ≤ k := Nat.min_le_left _ _; omega
        have hmk : Nat.min k n ≤ k := Nat.min_le_left _ _
        have hmn : Nat.min k n ≤ n := Nat.min_le_right _ _
        obtain ⟨ad, rfl, hspot, hcell⟩ := hnc hk0
        obtain ⟨cs, t, hcs, hz, hn, hr⟩ := hw.arr _ _ _ _ _ _ hH hb
        have hgl := hw.size _ _ _ _ hH
        have hcl : (news.take (Nat.min k n)).length = Nat.min k n := by rw [List.length_take]; omega
        have hnews : ∀ j, j < k → ∃ q, news[j]? = some q ∧ ∃ v, (g j).cells = [v] ∧ VRel I ρ v q := fun j hj => by
          have h1 := hgsz j hj
          match hc : (g j).cells, h1 with
          | [v], _ =>
            obtain ⟨q, h2, h3⟩ := hgr j 0 v hj (by rw [hc]; rfl)
            exact ⟨q, by simpa using h2, v, rfl, h3⟩
        have hones : ∀ u ∈ news.take (Nat.min k n), u.oneCell' = true := fun u hu => by
          obtain ⟨j, hj, rfl⟩ := List.getElem_of_mem hu
          obtain ⟨q, h1, v, h2, h3⟩ := hnews j (by omega)
          have h4 := hone j (by omega)
          rw [h2] at h4
          have : (news.take (Nat.min k n))[j] = q := by
            rw [List.getElem_take]
            rw [List.getElem?_eq_getElem (by rw [hnl]; omega)] at h1
            exact Option.some.inj h1
          rw [this]
          exact h3.one (by simpa using h4)
        have hfit : i * 1 + (news.take (Nat.min k n)).length ≤ cs.size := by rw [hcl]; omega
        have hrun := run_copy_row (P := P) w T T2 ty E cb (i * 1) n c ad k cap cs t (news.take (Nat.min k n)) (ht.slice hk) hinf hcs (by rw [hcl]) (fun j v hj => by
          refine hcell w rfl j v ?_
          rw [List.getElem?_take] at hj
          split at hj
          · exact hj
          · cases hj) hfit hones
        rw [← ex, ← ey] at hrun
        refine wpIn_of_run (by simp) (hex hrun) ?_
        obtain ⟨s1, s2, s3⟩ := setRow_facts (new := (cs.toList.take (i * 1) ++ news.take (Nat.min k n) ++ cs.toList.drop (i * 1 + (news.take (Nat.min k n)).length)).toArray) hcs
        refine hK I ρ _ _ _ _ ⟨by rw [hcl]; rfl, rfl⟩ (Imm.le_refl _) (Pre.refl _) (hw.write hH hb (by simp; simp at hfit; omega) (fun j hj => ?_) ?_ s1 s2 s3 rfl rfl rfl) (.s _) (by simp)
        · by_cases h1 : i ≤ j ∧ j < i + Nat.min k n
          · rw [copyF_in h1.1 h1.2]; exact hgsz _ (by omega)
          · rw [copyF_out (by omega)]; exact hgl j hj
        · intro j l v hj hv
          simp only [List.getElem?_toArray]
          rw [splice_get (by simpa using hfit), hcl]
          by_cases h1 : i ≤ j ∧ j < i + Nat.min k n
          · rw [copyF_in h1.1 h1.2] at hv
            obtain ⟨q, h2, v', h3, h4⟩ := hnews (j - i) (by omega)
            rw [h3] at hv
            cases l with
            | succ l => simp at hv
            | zero =>
              simp at hv
              subst hv
              refine ⟨q, ?_, h4⟩
              rw [if_pos (by omega), List.getElem?_take, if_pos (by omega), ← h2]
              congr 1
              omega
          · rw [copyF_out (by omega)] at hv
            have hl0 : l = 0 := by have := (List.getElem?_eq_some_iff.1 hv).1; rw [hgl j hj] at this; omega
            subst hl0
            obtain ⟨q, h2, h3⟩ := hr j 0 v hj hv
            refine ⟨q, ?_, h3⟩
            rw [if_neg (by omega)]
            simpa using h2
      · exact (h0 (by simp)).elim
theorem ar_copy {yv : V} {b i n N k e : Nat} {f g : Nat → V} {j : Nat} (ht : TyIs P T d) (hk : d.tk = .slice E) (he : TyIs P E de) (hs1 : de.size = 1) (hx : eo env x = some (.sl 1 b i n)) (hH : H[b]? = some (.arr 1 N f)) (hN : i + n ≤ N) (hy : eo env y = some yv) (hs : Src H yv 1 k g)
    (hone : ∀ j, j < k → (g j).cells.all V.one = true) (hd : e < nt) (h : AR P r m nt ops Q l ((e, vi (Nat.min k n)) :: env) (H.set b (.arr 1 N (copyF f i (Nat.min k n) g)))) :
    AR P r m nt ops Q (.l j ⟨some e, .call ⟨.builtin .copy, #[x, y], #[T, T2]⟩, ty, pos, after, none⟩ false :: l) env H :=
  ar_l (ls_copy ht hk he hs1 hx hH hN hy hs hone) hd (fun v H' ⟨a, b⟩ => by subst a; subst b; exact h) (fun _ _ h => h.elim)
/-- A cut of an own row. -/
theorem qs_slice_sl {sz b i n l h : Nat} {lo hi : Option Operand} (ht : TyIs P T d) (hk : d.tk = .slice E) (he : TyIs P E de) (hs : de.size = sz) (hx : eo env x = some (.sl sz b i n)) (hl : bnd env lo 0 l) (hh : bnd env hi n h) (h1 : l ≤ h) (h2 : h ≤ n) (h3 : l < n ∨ l = 0) :
    QS P nt env H ⟨dst, .slice T x lo hi none, ty, pos, after, guard⟩ (.sl sz b (i + l) (h - l)) := .mk
  fun _ I ρ a w hE hw => by
    have hr := eo_rel hE hx
    have bl := bnd_val hE hl
    have bh := bnd_val hE hh
    subst hs
    rcases hr.sl_inv with ⟨cb, z, c, ex, hb, hnc, hcm, hz⟩ | ⟨A, ex, hb, rfl, rfl⟩
    · refine ⟨.slice (some ⟨cb, (i + l) * de.size, none⟩) (h - l) (c - l), .sl hb (by omega) (by omega) (by rw [show i + l + (c - l) = i + c by omega]; exact hz), fun w' _ => ?_⟩
      have := slice_run (P := P) (w := w') (A := some ⟨cb, i * de.size, none⟩) (n := n) (cap := c) (l := l) (h := h) (m := c) (lo := lo.map a.eval) (hi := hi.map a.eval) (mx := none) ht hk he rfl (by
        cases hi with
        | none => exact ⟨bh, rfl⟩
        | some u => exact bh) bl h1 (by omega) (Nat.le_refl _)
      have e : (if c = l then (some ⟨cb, i * de.size, none⟩ : Option Addr) else (some ⟨cb, i * de.size, none⟩ : Option Addr).map (·.add (l * de.size))) = some ⟨cb, (i + l) * de.size, none⟩ := by
        rw [Nat.add_mul]
        split
        · have : l = 0 := by omega
          subst this; simp
        · simp only [Option.map_some, Addr.add]
          split
          · rename_i h0; rw [h0]; rfl
          · rfl
      rw [e] at this
      simp only [execOp, ex, Sem.run_bind, Option.map_none, this, Result.andThen_ok]
      rfl
    · obtain rfl : h = 0 := by omega
      obtain rfl : l = 0 := by omega
      refine ⟨.slice A 0 0, .slNone A hb, fun w' _ => ?_⟩
      have := slice_run (P := P) (w := w') (A := A) (n := 0) (cap := 0) (l := 0) (h := 0) (m := 0) (lo := lo.map a.eval) (hi := hi.map a.eval) (mx := none) ht hk he rfl (by
        cases hi with
        | none => exact ⟨bh, rfl⟩
        | some u => exact bh) bl (Nat.le_refl _) (Nat.le_refl _) (Nat.le_refl _)
      simp only [execOp, ex, Sem.run_bind, Option.map_none, this, Result.andThen_ok]
      rfl
end
end Go.Proofs.Ythpbjihnikapoaa
namespace Go.Proofs.Ythpbjihnikapoaa
open Go.RowKit
theorem wrapU {n : Int} (h : 0 ≤ n ∧ n ≤ 18446744073709551615) : IntKind.u64.wrap n = n := by
  simp only [IntKind.wrap, IntKind.bits, IntKind.signed]
  simp
  omega
theorem wrapU32 {n : Int} (h : 0 ≤ n ∧ n ≤ 4294967295) : IntKind.u32.wrap n = n := by
  simp only [IntKind.wrap, IntKind.bits, IntKind.signed]
  simp
  omega
theorem quo64 {m n : Int} (hm : 0 ≤ m ∧ m ≤ 9223372036854775807) (hn : 0 < n) : IntKind.i64.wrap (m.tdiv n) = m / n := by
  rw [Int.tdiv_eq_ediv_of_nonneg hm.1]
  have h1 : 0 ≤ m / n := Int.ediv_nonneg hm.1 (by omega)
  have h2 : m / n ≤ m := Int.ediv_le_self _ hm.1
  exact wrap64 (by omega)
theorem shr0 {m : Int} (h : 0 ≤ m ∧ m ≤ 4294967295) : m.fdiv (2 ^ (min (32 : Int).toNat IntKind.u64.bits)) = 0 := by
  have e : (2 : Int) ^ (min (32 : Int).toNat IntKind.u64.bits) = 4294967296 := by decide
  rw [e, Int.fdiv_eq_ediv_of_nonneg _ (by omega)]
  omega
theorem andMask {m : Int} (h : 0 ≤ m ∧ m ≤ 4294967295) : IntKind.u64.wrap ((BitVec.ofInt IntKind.u64.bits m &&& BitVec.ofInt IntKind.u64.bits 4294967295).toNat : Int) = m := by
  obtain ⟨k, rfl⟩ := Int.eq_ofNat_of_zero_le h.1
  have hk : k < 2 ^ 32 := by omega
  have e : ((BitVec.ofInt IntKind.u64.bits (k : Int) &&& BitVec.ofInt IntKind.u64.bits 4294967295).toNat) = k := by
    show ((BitVec.ofInt 64 (k : Int) &&& BitVec.ofInt 64 4294967295).toNat) = k
    rw [BitVec.toNat_and]
    have h1 : (BitVec.ofInt 64 (k : Int)).toNat = k := by simp; omega
    have h2 : (BitVec.ofInt 64 4294967295).toNat = 2 ^ 32 - 1 := by decide
    rw [h1, h2, Nat.and_two_pow_sub_one_eq_mod]
    omega
  rw [e]
  exact wrapU (by omega)
theorem bnd_some {env : Env} {x : Operand} {k : IntKind} {v : Int} {d l : Nat} (hx : eo env x = some (.s (.int k v))) (h : v = (l : Int)) : bnd env (some x) d l := ⟨k, by rw [hx, h]⟩
section
variable {P : Program} {nt : Nat} {env : Env} {H : Heap} {dst : Option Tmp} {ty : TypeId} {pos : String} {after : Array Edge} {guard : Option (Nat × Bool)} {x : Operand}
theorem qs_nck_ptr {sz b i off : Nat} (hx : eo env x = some (.ptr sz b i off)) : QS P nt env H ⟨dst, .nilCheck x, ty, pos, after, guard⟩ (.ptr sz b i off) := .mk
  fun _ I ρ a w h hw => by
    have h1 := eo_rel h hx
    obtain ⟨cb, z, h1', hb⟩ := h1.ptr_inv
    exact ⟨_, h1, fun w' _ => by simp [execOp, h1']⟩
theorem qs_nck_ref {v : V} {off : Nat} (hx : eo env x = some (.ref v off)) : QS P nt env H ⟨dst, .nilCheck x, ty, pos, after, guard⟩ (.ref v off) := .mk
  fun _ I ρ a w h hw => by
    have h1 := eo_rel h hx
    cases h1' : a.eval x <;> rw [h1'] at h1 <;> first | (cases h1; done) | skip
    rename_i A
    cases A with
    | none => cases h1
    | some A => exact ⟨_, h1, fun w' _ => by simp [execOp, h1']⟩
end
end Go.Proofs.Ythpbjihnikapoaa
namespace Go.Proofs.Ythpbjihnikapoaa
open Go.RowKit
theorem ty1 : TyIs Try.prog 1 ⟨.func, 1, 8, .nilFunc⟩ := ⟨by kernel_rfl, by kernel_rfl⟩
theorem ty2 : TyIs Try.prog 2 ⟨.int .i64, 1, 8, .int .i64 0⟩ := ⟨by kernel_rfl, by kernel_rfl⟩
theorem ty3 : TyIs Try.prog 3 ⟨.int .i64, 1, 8, .int .i64 0⟩ := ⟨by kernel_rfl, by kernel_rfl⟩
theorem ty4 : TyIs Try.prog 4 ⟨.bool, 1, 1, .bool false⟩ := ⟨by kernel_rfl, by kernel_rfl⟩
theorem ty5 : TyIs Try.prog 5 ⟨.int .u8, 1, 1, .int .u8 0⟩ := ⟨by kernel_rfl, by kernel_rfl⟩
theorem ty6 : TyIs Try.prog 6 ⟨.int .u8, 1, 1, .int .u8 0⟩ := ⟨by kernel_rfl, by kernel_rfl⟩
theorem ty7 : TyIs Try.prog 7 ⟨.struct [(2, 0), (3, 1), (4, 2), (6, 3)], 4, 24, .agg #[.int .i64 0, .int .i64 0, .bool false, .int .u8 0]⟩ := ⟨by kernel_rfl, by kernel_rfl⟩
theorem ty8 : TyIs Try.prog 8 ⟨.struct [(2, 0), (3, 1), (4, 2), (6, 3)], 4, 24, .agg #[.int .i64 0, .int .i64 0, .bool false, .int .u8 0]⟩ := ⟨by kernel_rfl, by kernel_rfl⟩
theorem ty12 : TyIs Try.prog 12 ⟨.int .u64, 1, 8, .int .u64 0⟩ := ⟨by kernel_rfl, by kernel_rfl⟩
theorem ty15 : TyIs Try.prog 15 ⟨.ptr 179, 1, 8, .pointer none⟩ := ⟨by kernel_rfl, by kernel_rfl⟩
theorem ty16 : TyIs Try.prog 16 ⟨.ptr 182, 1, 8, .pointer none⟩ := ⟨by kernel_rfl, by kernel_rfl⟩
theorem ty17 : TyIs Try.prog 17 ⟨.ptr 191, 1, 8, .pointer none⟩ := ⟨by kernel_rfl, by kernel_rfl⟩
theorem ty18 : TyIs Try.prog 18 ⟨.struct [(17, 0)], 1, 8, .agg #[.pointer none]⟩ := ⟨by kernel_rfl, by kernel_rfl⟩
theorem ty19 : TyIs Try.prog 19 ⟨.struct [(17, 0)], 1, 8, .agg #[.pointer none]⟩ := ⟨by kernel_rfl, by kernel_rfl⟩
theorem ty20 : TyIs Try.prog 20 ⟨.iface true, 1, 16, .nilIface⟩ := ⟨by kernel_rfl, by kernel_rfl⟩
theorem ty21 : TyIs Try.prog 21 ⟨.int .i32, 1, 4, .int .i32 0⟩ := ⟨by kernel_rfl, by kernel_rfl⟩
theorem ty22 : TyIs Try.prog 22 ⟨.slice 24, 1, 24, .slice none 0 0⟩ := ⟨by kernel_rfl, by kernel_rfl⟩
theorem ty23 : TyIs Try.prog 23 ⟨.struct [(3, 0), (3, 1)], 2, 16, .agg #[.int .i64 0, .int .i64 0]⟩ := ⟨by kernel_rfl, by kernel_rfl⟩
theorem ty24 : TyIs Try.prog 24 ⟨.struct [(3, 0), (3, 1)], 2, 16, .agg #[.int .i64 0, .int .i64 0]⟩ := ⟨by kernel_rfl, by kernel_rfl⟩
theorem ty25 : TyIs Try.prog 25 ⟨.struct [(24, 0), (24, 2)], 4, 32, .agg #[.int .i64 0, .int .i64 0, .int .i64 0, .int .i64 0]⟩ := ⟨by kernel_rfl, by kernel_rfl⟩
theorem ty26 : TyIs Try.prog 26 ⟨.struct [(24, 0), (24, 2)], 4, 32, .agg #[.int .i64 0, .int .i64 0, .int .i64 0, .int .i64 0]⟩ := ⟨by kernel_rfl, by kernel_rfl⟩
theorem ty27 : TyIs Try.prog 27 ⟨.int .i64, 1, 8, .int .i64 0⟩ := ⟨by kernel_rfl, by kernel_rfl⟩
theorem ty29 : TyIs Try.prog 29 ⟨.func, 1, 8, .nilFunc⟩ := ⟨by kernel_rfl, by kernel_rfl⟩
theorem ty31 : TyIs Try.prog 31 ⟨.func, 1, 8, .nilFunc⟩ := ⟨by kernel_rfl, by kernel_rfl⟩
theorem ty32 : TyIs Try.prog 32 ⟨.func, 1, 8, .nilFunc⟩ := ⟨by kernel_rfl, by kernel_rfl⟩
theorem ty33 : TyIs Try.prog 33 ⟨.struct [(3, 0), (3, 1), (3, 2), (3, 3), (3, 4)], 5, 40, .agg #[.int .i64 0, .int .i64 0, .int .i64 0, .int .i64 0, .int .i64 0]⟩ := ⟨by kernel_rfl, by kernel_rfl⟩
theorem ty34 : TyIs Try.prog 34 ⟨.struct [(3, 0), (3, 1), (3, 2), (3, 3), (3, 4)], 5, 40, .agg #[.int .i64 0, .int .i64 0, .int .i64 0, .int .i64 0, .int .i64 0]⟩ := ⟨by kernel_rfl, by kernel_rfl⟩
theorem ty35 : TyIs Try.prog 35 ⟨.slice 60, 1, 24, .slice none 0 0⟩ := ⟨by kernel_rfl, by kernel_rfl⟩
theorem ty36 : TyIs Try.prog 36 ⟨.slice 60, 1, 24, .slice none 0 0⟩ := ⟨by kernel_rfl, by kernel_rfl⟩
theorem ty37 : TyIs Try.prog 37 ⟨.func, 1, 8, .nilFunc⟩ := ⟨by kernel_rfl, by kernel_rfl⟩
theorem ty38 : TyIs Try.prog 38 ⟨.slice 4, 1, 24, .slice none 0 0⟩ := ⟨by kernel_rfl, by kernel_rfl⟩
theorem ty40 : TyIs Try.prog 40 ⟨.func, 1, 8, .nilFunc⟩ := ⟨by kernel_rfl, by kernel_rfl⟩
theorem ty42 : TyIs Try.prog 42 ⟨.func, 1, 8, .nilFunc⟩ := ⟨by kernel_rfl, by kernel_rfl⟩
theorem ty44 : TyIs Try.prog 44 ⟨.func, 1, 8, .nilFunc⟩ := ⟨by kernel_rfl, by kernel_rfl⟩
theorem ty46 : TyIs Try.prog 46 ⟨.func, 1, 8, .nilFunc⟩ := ⟨by kernel_rfl, by kernel_rfl⟩
theorem ty47 : TyIs Try.prog 47 ⟨.func, 1, 8, .nilFunc⟩ := ⟨by kernel_rfl, by kernel_rfl⟩
theorem ty48 : TyIs Try.prog 48 ⟨.func, 1, 8, .nilFunc⟩ := ⟨by kernel_rfl, by kernel_rfl⟩
theorem ty49 : TyIs Try.prog 49 ⟨.func, 1, 8, .nilFunc⟩ := ⟨by kernel_rfl, by kernel_rfl⟩
theorem ty50 : TyIs Try.prog 50 ⟨.func, 1, 8, .nilFunc⟩ := ⟨by kernel_rfl, by kernel_rfl⟩
theorem ty51 : TyIs Try.prog 51 ⟨.slice 92, 1, 24, .slice none 0 0⟩ := ⟨by kernel_rfl, by kernel_rfl⟩
theorem ty52 : TyIs Try.prog 52 ⟨.slice 99, 1, 24, .slice none 0 0⟩ := ⟨by kernel_rfl, by kernel_rfl⟩
theorem ty53 : TyIs Try.prog 53 ⟨.struct [(3, 0), (51, 1), (52, 2)], 3, 56, .agg #[.int .i64 0, .slice none 0 0, .slice none 0 0]⟩ := ⟨by kernel_rfl, by kernel_rfl⟩
theorem ty54 : TyIs Try.prog 54 ⟨.struct [(3, 0), (51, 1), (52, 2)], 3, 56, .agg #[.int .i64 0, .slice none 0 0, .slice none 0 0]⟩ := ⟨by kernel_rfl, by kernel_rfl⟩
theorem ty55 : TyIs Try.prog 55 ⟨.func, 1, 8, .nilFunc⟩ := ⟨by kernel_rfl, by kernel_rfl⟩
theorem ty57 : TyIs Try.prog 57 ⟨.func, 1, 8, .nilFunc⟩ := ⟨by kernel_rfl, by kernel_rfl⟩
theorem ty59 : TyIs Try.prog 59 ⟨.func, 1, 8, .nilFunc⟩ := ⟨by kernel_rfl, by kernel_rfl⟩
theorem ty60 : TyIs Try.prog 60 ⟨.slice 3, 1, 24, .slice none 0 0⟩ := ⟨by kernel_rfl, by kernel_rfl⟩
theorem ty62 : TyIs Try.prog 62 ⟨.func, 1, 8, .nilFunc⟩ := ⟨by kernel_rfl, by kernel_rfl⟩
theorem ty64 : TyIs Try.prog 64 ⟨.func, 1, 8, .nilFunc⟩ := ⟨by kernel_rfl, by kernel_rfl⟩
theorem ty66 : TyIs Try.prog 66 ⟨.func, 1, 8, .nilFunc⟩ := ⟨by kernel_rfl, by kernel_rfl⟩
theorem ty68 : TyIs Try.prog 68 ⟨.func, 1, 8, .nilFunc⟩ := ⟨by kernel_rfl, by kernel_rfl⟩
theorem ty69 : TyIs Try.prog 69 ⟨.func, 1, 8, .nilFunc⟩ := ⟨by kernel_rfl, by kernel_rfl⟩
theorem ty70 : TyIs Try.prog 70 ⟨.func, 1, 8, .nilFunc⟩ := ⟨by kernel_rfl, by kernel_rfl⟩
theorem ty71 : TyIs Try.prog 71 ⟨.struct [(5, 0), (3, 1), (3, 2), (3, 3)], 4, 32, .agg #[.int .u8 0, .int .i64 0, .int .i64 0, .int .i64 0]⟩ := ⟨by kernel_rfl, by kernel_rfl⟩
theorem ty72 : TyIs Try.prog 72 ⟨.struct [(5, 0), (3, 1), (3, 2), (3, 3)], 4, 32, .agg #[.int .u8 0, .int .i64 0, .int .i64 0, .int .i64 0]⟩ := ⟨by kernel_rfl, by kernel_rfl⟩
theorem ty73 : TyIs Try.prog 73 ⟨.func, 1, 8, .nilFunc⟩ := ⟨by kernel_rfl, by kernel_rfl⟩
theorem ty75 : TyIs Try.prog 75 ⟨.func, 1, 8, .nilFunc⟩ := ⟨by kernel_rfl, by kernel_rfl⟩
theorem ty77 : TyIs Try.prog 77 ⟨.func, 1, 8, .nilFunc⟩ := ⟨by kernel_rfl, by kernel_rfl⟩
theorem ty78 : TyIs Try.prog 78 ⟨.func, 1, 8, .nilFunc⟩ := ⟨by kernel_rfl, by kernel_rfl⟩
theorem ty79 : TyIs Try.prog 79 ⟨.func, 1, 8, .nilFunc⟩ := ⟨by kernel_rfl, by kernel_rfl⟩
theorem ty80 : TyIs Try.prog 80 ⟨.func, 1, 8, .nilFunc⟩ := ⟨by kernel_rfl, by kernel_rfl⟩
theorem ty81 : TyIs Try.prog 81 ⟨.func, 1, 8, .nilFunc⟩ := ⟨by kernel_rfl, by kernel_rfl⟩
theorem ty82 : TyIs Try.prog 82 ⟨.slice 72, 1, 24, .slice none 0 0⟩ := ⟨by kernel_rfl, by kernel_rfl⟩
theorem ty84 : TyIs Try.prog 84 ⟨.func, 1, 8, .nilFunc⟩ := ⟨by kernel_rfl, by kernel_rfl⟩
theorem ty86 : TyIs Try.prog 86 ⟨.func, 1, 8, .nilFunc⟩ := ⟨by kernel_rfl, by kernel_rfl⟩
theorem ty87 : TyIs Try.prog 87 ⟨.func, 1, 8, .nilFunc⟩ := ⟨by kernel_rfl, by kernel_rfl⟩
theorem ty88 : TyIs Try.prog 88 ⟨.func, 1, 8, .nilFunc⟩ := ⟨by kernel_rfl, by kernel_rfl⟩
theorem ty89 : TyIs Try.prog 89 ⟨.func, 1, 8, .nilFunc⟩ := ⟨by kernel_rfl, by kernel_rfl⟩
theorem ty90 : TyIs Try.prog 90 ⟨.func, 1, 8, .nilFunc⟩ := ⟨by kernel_rfl, by kernel_rfl⟩
theorem ty91 : TyIs Try.prog 91 ⟨.struct [(5, 0), (3, 1), (3, 2), (3, 3), (4, 4)], 5, 40, .agg #[.int .u8 0, .int .i64 0, .int .i64 0, .int .i64 0, .bool false]⟩ := ⟨by kernel_rfl, by kernel_rfl⟩
theorem ty92 : TyIs Try.prog 92 ⟨.struct [(5, 0), (3, 1), (3, 2), (3, 3), (4, 4)], 5, 40, .agg #[.int .u8 0, .int .i64 0, .int .i64 0, .int .i64 0, .bool false]⟩ := ⟨by kernel_rfl, by kernel_rfl⟩
theorem ty93 : TyIs Try.prog 93 ⟨.func, 1, 8, .nilFunc⟩ := ⟨by kernel_rfl, by kernel_rfl⟩
theorem ty94 : TyIs Try.prog 94 ⟨.func, 1, 8, .nilFunc⟩ := ⟨by kernel_rfl, by kernel_rfl⟩
theorem ty95 : TyIs Try.prog 95 ⟨.func, 1, 8, .nilFunc⟩ := ⟨by kernel_rfl, by kernel_rfl⟩
theorem ty96 : TyIs Try.prog 96 ⟨.func, 1, 8, .nilFunc⟩ := ⟨by kernel_rfl, by kernel_rfl⟩
theorem ty97 : TyIs Try.prog 97 ⟨.func, 1, 8, .nilFunc⟩ := ⟨by kernel_rfl, by kernel_rfl⟩
theorem ty98 : TyIs Try.prog 98 ⟨.struct [(3, 0), (5, 1)], 2, 16, .agg #[.int .i64 0, .int .u8 0]⟩ := ⟨by kernel_rfl, by kernel_rfl⟩
theorem ty99 : TyIs Try.prog 99 ⟨.struct [(3, 0), (5, 1)], 2, 16, .agg #[.int .i64 0, .int .u8 0]⟩ := ⟨by kernel_rfl, by kernel_rfl⟩
theorem ty100 : TyIs Try.prog 100 ⟨.func, 1, 8, .nilFunc⟩ := ⟨by kernel_rfl, by kernel_rfl⟩
theorem ty101 : TyIs Try.prog 101 ⟨.func, 1, 8, .nilFunc⟩ := ⟨by kernel_rfl, by kernel_rfl⟩
theorem ty102 : TyIs Try.prog 102 ⟨.func, 1, 8, .nilFunc⟩ := ⟨by kernel_rfl, by kernel_rfl⟩
theorem ty103 : TyIs Try.prog 103 ⟨.func, 1, 8, .nilFunc⟩ := ⟨by kernel_rfl, by kernel_rfl⟩
theorem ty104 : TyIs Try.prog 104 ⟨.func, 1, 8, .nilFunc⟩ := ⟨by kernel_rfl, by kernel_rfl⟩
theorem ty105 : TyIs Try.prog 105 ⟨.func, 1, 8, .nilFunc⟩ := ⟨by kernel_rfl, by kernel_rfl⟩
theorem ty106 : TyIs Try.prog 106 ⟨.func, 1, 8, .nilFunc⟩ := ⟨by kernel_rfl, by kernel_rfl⟩
theorem ty107 : TyIs Try.prog 107 ⟨.func, 1, 8, .nilFunc⟩ := ⟨by kernel_rfl, by kernel_rfl⟩
theorem ty108 : TyIs Try.prog 108 ⟨.func, 1, 8, .nilFunc⟩ := ⟨by kernel_rfl, by kernel_rfl⟩
theorem ty109 : TyIs Try.prog 109 ⟨.func, 1, 8, .nilFunc⟩ := ⟨by kernel_rfl, by kernel_rfl⟩
theorem ty110 : TyIs Try.prog 110 ⟨.ptr 116, 1, 8, .pointer none⟩ := ⟨by kernel_rfl, by kernel_rfl⟩
theorem ty112 : TyIs Try.prog 112 ⟨.func, 1, 8, .nilFunc⟩ := ⟨by kernel_rfl, by kernel_rfl⟩
theorem ty113 : TyIs Try.prog 113 ⟨.array 3 3, 3, 24, .agg #[.int .i64 0, .int .i64 0, .int .i64 0]⟩ := ⟨by kernel_rfl, by kernel_rfl⟩
theorem ty114 : TyIs Try.prog 114 ⟨.map 3 3, 1, 8, .map none⟩ := ⟨by kernel_rfl, by kernel_rfl⟩
theorem ty115 : TyIs Try.prog 115 ⟨.struct [(54, 0), (114, 3)], 4, 64, .agg #[.int .i64 0, .slice none 0 0, .slice none 0 0, .map none]⟩ := ⟨by kernel_rfl, by kernel_rfl⟩
theorem ty116 : TyIs Try.prog 116 ⟨.struct [(54, 0), (114, 3)], 4, 64, .agg #[.int .i64 0, .slice none 0 0, .slice none 0 0, .map none]⟩ := ⟨by kernel_rfl, by kernel_rfl⟩
theorem ty117 : TyIs Try.prog 117 ⟨.func, 1, 8, .nilFunc⟩ := ⟨by kernel_rfl, by kernel_rfl⟩
theorem ty118 : TyIs Try.prog 118 ⟨.func, 1, 8, .nilFunc⟩ := ⟨by kernel_rfl, by kernel_rfl⟩
theorem ty119 : TyIs Try.prog 119 ⟨.func, 1, 8, .nilFunc⟩ := ⟨by kernel_rfl, by kernel_rfl⟩
theorem ty120 : TyIs Try.prog 120 ⟨.func, 1, 8, .nilFunc⟩ := ⟨by kernel_rfl, by kernel_rfl⟩
theorem ty121 : TyIs Try.prog 121 ⟨.func, 1, 8, .nilFunc⟩ := ⟨by kernel_rfl, by kernel_rfl⟩
theorem ty123 : TyIs Try.prog 123 ⟨.func, 1, 8, .nilFunc⟩ := ⟨by kernel_rfl, by kernel_rfl⟩
theorem ty124 : TyIs Try.prog 124 ⟨.func, 1, 8, .nilFunc⟩ := ⟨by kernel_rfl, by kernel_rfl⟩
theorem ty125 : TyIs Try.prog 125 ⟨.func, 1, 8, .nilFunc⟩ := ⟨by kernel_rfl, by kernel_rfl⟩
theorem ty126 : TyIs Try.prog 126 ⟨.map 5 3, 1, 8, .map none⟩ := ⟨by kernel_rfl, by kernel_rfl⟩
theorem ty127 : TyIs Try.prog 127 ⟨.map 3 4, 1, 8, .map none⟩ := ⟨by kernel_rfl, by kernel_rfl⟩
theorem ty128 : TyIs Try.prog 128 ⟨.slice 38, 1, 24, .slice none 0 0⟩ := ⟨by kernel_rfl, by kernel_rfl⟩
theorem ty129 : TyIs Try.prog 129 ⟨.func, 1, 8, .nilFunc⟩ := ⟨by kernel_rfl, by kernel_rfl⟩
theorem ty130 : TyIs Try.prog 130 ⟨.func, 1, 8, .nilFunc⟩ := ⟨by kernel_rfl, by kernel_rfl⟩
theorem ty131 : TyIs Try.prog 131 ⟨.func, 1, 8, .nilFunc⟩ := ⟨by kernel_rfl, by kernel_rfl⟩
theorem ty132 : TyIs Try.prog 132 ⟨.func, 1, 8, .nilFunc⟩ := ⟨by kernel_rfl, by kernel_rfl⟩
theorem ty133 : TyIs Try.prog 133 ⟨.func, 1, 8, .nilFunc⟩ := ⟨by kernel_rfl, by kernel_rfl⟩
theorem ty134 : TyIs Try.prog 134 ⟨.slice 152, 1, 24, .slice none 0 0⟩ := ⟨by kernel_rfl, by kernel_rfl⟩
theorem ty135 : TyIs Try.prog 135 ⟨.func, 1, 8, .nilFunc⟩ := ⟨by kernel_rfl, by kernel_rfl⟩
theorem ty136 : TyIs Try.prog 136 ⟨.func, 1, 8, .nilFunc⟩ := ⟨by kernel_rfl, by kernel_rfl⟩
theorem ty137 : TyIs Try.prog 137 ⟨.func, 1, 8, .nilFunc⟩ := ⟨by kernel_rfl, by kernel_rfl⟩
theorem ty138 : TyIs Try.prog 138 ⟨.func, 1, 8, .nilFunc⟩ := ⟨by kernel_rfl, by kernel_rfl⟩
theorem ty139 : TyIs Try.prog 139 ⟨.int .i64, 1, 8, .int .i64 0⟩ := ⟨by kernel_rfl, by kernel_rfl⟩
theorem ty140 : TyIs Try.prog 140 ⟨.func, 1, 8, .nilFunc⟩ := ⟨by kernel_rfl, by kernel_rfl⟩
theorem ty141 : TyIs Try.prog 141 ⟨.array 8 140, 8, 64, .agg #[.nilFunc, .nilFunc, .nilFunc, .nilFunc, .nilFunc, .nilFunc, .nilFunc, .nilFunc]⟩ := ⟨by kernel_rfl, by kernel_rfl⟩
theorem ty142 : TyIs Try.prog 142 ⟨.func, 1, 8, .nilFunc⟩ := ⟨by kernel_rfl, by kernel_rfl⟩
theorem ty143 : TyIs Try.prog 143 ⟨.func, 1, 8, .nilFunc⟩ := ⟨by kernel_rfl, by kernel_rfl⟩
theorem ty144 : TyIs Try.prog 144 ⟨.func, 1, 8, .nilFunc⟩ := ⟨by kernel_rfl, by kernel_rfl⟩
theorem ty145 : TyIs Try.prog 145 ⟨.func, 1, 8, .nilFunc⟩ := ⟨by kernel_rfl, by kernel_rfl⟩
theorem ty146 : TyIs Try.prog 146 ⟨.func, 1, 8, .nilFunc⟩ := ⟨by kernel_rfl, by kernel_rfl⟩
theorem ty147 : TyIs Try.prog 147 ⟨.func, 1, 8, .nilFunc⟩ := ⟨by kernel_rfl, by kernel_rfl⟩
theorem ty148 : TyIs Try.prog 148 ⟨.func, 1, 8, .nilFunc⟩ := ⟨by kernel_rfl, by kernel_rfl⟩
theorem ty149 : TyIs Try.prog 149 ⟨.func, 1, 8, .nilFunc⟩ := ⟨by kernel_rfl, by kernel_rfl⟩
theorem ty150 : TyIs Try.prog 150 ⟨.func, 1, 8, .nilFunc⟩ := ⟨by kernel_rfl, by kernel_rfl⟩
theorem ty151 : TyIs Try.prog 151 ⟨.struct [(3, 0), (3, 1), (3, 2)], 3, 24, .agg #[.int .i64 0, .int .i64 0, .int .i64 0]⟩ := ⟨by kernel_rfl, by kernel_rfl⟩
theorem ty152 : TyIs Try.prog 152 ⟨.struct [(3, 0), (3, 1), (3, 2)], 3, 24, .agg #[.int .i64 0, .int .i64 0, .int .i64 0]⟩ := ⟨by kernel_rfl, by kernel_rfl⟩
theorem ty153 : TyIs Try.prog 153 ⟨.func, 1, 8, .nilFunc⟩ := ⟨by kernel_rfl, by kernel_rfl⟩
theorem ty154 : TyIs Try.prog 154 ⟨.func, 1, 8, .nilFunc⟩ := ⟨by kernel_rfl, by kernel_rfl⟩
theorem ty155 : TyIs Try.prog 155 ⟨.func, 1, 8, .nilFunc⟩ := ⟨by kernel_rfl, by kernel_rfl⟩
theorem ty157 : TyIs Try.prog 157 ⟨.func, 1, 8, .nilFunc⟩ := ⟨by kernel_rfl, by kernel_rfl⟩
theorem ty158 : TyIs Try.prog 158 ⟨.int .u64, 1, 8, .int .u64 0⟩ := ⟨by kernel_rfl, by kernel_rfl⟩
theorem ty160 : TyIs Try.prog 160 ⟨.func, 1, 8, .nilFunc⟩ := ⟨by kernel_rfl, by kernel_rfl⟩
theorem ty161 : TyIs Try.prog 161 ⟨.func, 1, 8, .nilFunc⟩ := ⟨by kernel_rfl, by kernel_rfl⟩
theorem ty162 : TyIs Try.prog 162 ⟨.func, 1, 8, .nilFunc⟩ := ⟨by kernel_rfl, by kernel_rfl⟩
theorem ty163 : TyIs Try.prog 163 ⟨.ptr 92, 1, 8, .pointer none⟩ := ⟨by kernel_rfl, by kernel_rfl⟩
theorem ty164 : TyIs Try.prog 164 ⟨.func, 1, 8, .nilFunc⟩ := ⟨by kernel_rfl, by kernel_rfl⟩
theorem ty165 : TyIs Try.prog 165 ⟨.func, 1, 8, .nilFunc⟩ := ⟨by kernel_rfl, by kernel_rfl⟩
theorem ty166 : TyIs Try.prog 166 ⟨.func, 1, 8, .nilFunc⟩ := ⟨by kernel_rfl, by kernel_rfl⟩
theorem ty167 : TyIs Try.prog 167 ⟨.func, 1, 8, .nilFunc⟩ := ⟨by kernel_rfl, by kernel_rfl⟩
theorem ty168 : TyIs Try.prog 168 ⟨.int .u32, 1, 4, .int .u32 0⟩ := ⟨by kernel_rfl, by kernel_rfl⟩
theorem ty170 : TyIs Try.prog 170 ⟨.func, 1, 8, .nilFunc⟩ := ⟨by kernel_rfl, by kernel_rfl⟩
theorem ty171 : TyIs Try.prog 171 ⟨.int .u64, 1, 8, .int .u64 0⟩ := ⟨by kernel_rfl, by kernel_rfl⟩
theorem ty173 : TyIs Try.prog 173 ⟨.func, 1, 8, .nilFunc⟩ := ⟨by kernel_rfl, by kernel_rfl⟩
theorem ty174 : TyIs Try.prog 174 ⟨.func, 1, 8, .nilFunc⟩ := ⟨by kernel_rfl, by kernel_rfl⟩
theorem ty175 : TyIs Try.prog 175 ⟨.func, 1, 8, .nilFunc⟩ := ⟨by kernel_rfl, by kernel_rfl⟩
theorem ty176 : TyIs Try.prog 176 ⟨.func, 1, 8, .nilFunc⟩ := ⟨by kernel_rfl, by kernel_rfl⟩
theorem ty177 : TyIs Try.prog 177 ⟨.func, 1, 8, .nilFunc⟩ := ⟨by kernel_rfl, by kernel_rfl⟩
theorem ty183 : TyIs Try.prog 183 ⟨.func, 1, 8, .nilFunc⟩ := ⟨by kernel_rfl, by kernel_rfl⟩
theorem ty184 : TyIs Try.prog 184 ⟨.int .u8, 1, 1, .int .u8 0⟩ := ⟨by kernel_rfl, by kernel_rfl⟩
theorem ty185 : TyIs Try.prog 185 ⟨.int .u8, 1, 1, .int .u8 0⟩ := ⟨by kernel_rfl, by kernel_rfl⟩
theorem ty186 : TyIs Try.prog 186 ⟨.func, 1, 8, .nilFunc⟩ := ⟨by kernel_rfl, by kernel_rfl⟩
theorem ty187 : TyIs Try.prog 187 ⟨.ptr 5, 1, 8, .pointer none⟩ := ⟨by kernel_rfl, by kernel_rfl⟩
theorem ty188 : TyIs Try.prog 188 ⟨.int .i32, 1, 4, .int .i32 0⟩ := ⟨by kernel_rfl, by kernel_rfl⟩
theorem ty189 : TyIs Try.prog 189 ⟨.int .i32, 1, 4, .int .i32 0⟩ := ⟨by kernel_rfl, by kernel_rfl⟩
theorem ty190 : TyIs Try.prog 190 ⟨.struct [(12, 0), (12, 1), (168, 2), (184, 3), (5, 4), (5, 5), (185, 6), (186, 7), (187, 8), (188, 9), (189, 10)], 11, 48, .agg #[.int .u64 0, .int .u64 0, .int .u32 0, .int .u8 0, .int .u8 0, .int .u8 0, .int .u8 0, .nilFunc, .pointer none, .int .i32 0, .int .i32 0]⟩ := ⟨by kernel_rfl, by kernel_rfl⟩
theorem ty191 : TyIs Try.prog 191 ⟨.struct [(12, 0), (12, 1), (168, 2), (184, 3), (5, 4), (5, 5), (185, 6), (186, 7), (187, 8), (188, 9), (189, 10)], 11, 48, .agg #[.int .u64 0, .int .u64 0, .int .u32 0, .int .u8 0, .int .u8 0, .int .u8 0, .int .u8 0, .nilFunc, .pointer none, .int .i32 0, .int .i32 0]⟩ := ⟨by kernel_rfl, by kernel_rfl⟩
theorem sq7 : SeqOk Try.prog 7 [(2, 0, false), (3, 1, false), (4, 2, false), (6, 3, false)] := ⟨by kernel_rfl, by kernel_rfl, by kernel_rfl, by kernel_rfl⟩
theorem sq8 : SeqOk Try.prog 8 [(2, 0, false), (3, 1, false), (4, 2, false), (6, 3, false)] := ⟨by kernel_rfl, by kernel_rfl, by kernel_rfl, by kernel_rfl⟩
theorem sq23 : SeqOk Try.prog 23 [(3, 0, false), (3, 1, false)] := ⟨by kernel_rfl, by kernel_rfl, by kernel_rfl, by kernel_rfl⟩
theorem sq24 : SeqOk Try.prog 24 [(3, 0, false), (3, 1, false)] := ⟨by kernel_rfl, by kernel_rfl, by kernel_rfl, by kernel_rfl⟩
theorem sq33 : SeqOk Try.prog 33 [(3, 0, false), (3, 1, false), (3, 2, false), (3, 3, false), (3, 4, false)] := ⟨by kernel_rfl, by kernel_rfl, by kernel_rfl, by kernel_rfl⟩
theorem sq34 : SeqOk Try.prog 34 [(3, 0, false), (3, 1, false), (3, 2, false), (3, 3, false), (3, 4, false)] := ⟨by kernel_rfl, by kernel_rfl, by kernel_rfl, by kernel_rfl⟩
theorem sq71 : SeqOk Try.prog 71 [(5, 0, false), (3, 1, false), (3, 2, false), (3, 3, false)] := ⟨by kernel_rfl, by kernel_rfl, by kernel_rfl, by kernel_rfl⟩
theorem sq72 : SeqOk Try.prog 72 [(5, 0, false), (3, 1, false), (3, 2, false), (3, 3, false)] := ⟨by kernel_rfl, by kernel_rfl, by kernel_rfl, by kernel_rfl⟩
theorem sq91 : SeqOk Try.prog 91 [(5, 0, false), (3, 1, false), (3, 2, false), (3, 3, false), (4, 4, false)] := ⟨by kernel_rfl, by kernel_rfl, by kernel_rfl, by kernel_rfl⟩
theorem sq92 : SeqOk Try.prog 92 [(5, 0, false), (3, 1, false), (3, 2, false), (3, 3, false), (4, 4, false)] := ⟨by kernel_rfl, by kernel_rfl, by kernel_rfl, by kernel_rfl⟩
theorem sq98 : SeqOk Try.prog 98 [(3, 0, false), (5, 1, false)] := ⟨by kernel_rfl, by kernel_rfl, by kernel_rfl, by kernel_rfl⟩
theorem sq99 : SeqOk Try.prog 99 [(3, 0, false), (5, 1, false)] := ⟨by kernel_rfl, by kernel_rfl, by kernel_rfl, by kernel_rfl⟩
theorem sq151 : SeqOk Try.prog 151 [(3, 0, false), (3, 1, false), (3, 2, false)] := ⟨by kernel_rfl, by kernel_rfl, by kernel_rfl, by kernel_rfl⟩
theorem sq152 : SeqOk Try.prog 152 [(3, 0, false), (3, 1, false), (3, 2, false)] := ⟨by kernel_rfl, by kernel_rfl, by kernel_rfl, by kernel_rfl⟩
def tyL : List (Nat × TyD) := [(1, ⟨.func, 1, 8, .nilFunc⟩), (2, ⟨.int .i64, 1, 8, .int .i64 0⟩), (3, ⟨.int .i64, 1, 8, .int .i64 0⟩), (4, ⟨.bool, 1, 1, .bool false⟩), (5, ⟨.int .u8, 1, 1, .int .u8 0⟩), (6, ⟨.int .u8, 1, 1, .int .u8 0⟩), (7, ⟨.struct [(2, 0), (3, 1), (4, 2), (6, 3)], 4, 24, .agg #[.int .i64 0, .int .i64 0, .bool false, .int .u8 0]⟩), (8, ⟨.struct [(2, 0), (3, 1), (4, 2), (6, 3)], 4, 24, .agg #[.int .i64 0, .int .i64 0, .bool false, .int .u8 0]⟩), (12, ⟨.int .u64, 1, 8, .int .u64 0⟩), (15, ⟨.ptr 179, 1, 8, .pointer none⟩), (16, ⟨.ptr 182, 1, 8, .pointer none⟩), (17, ⟨.ptr 191, 1, 8, .pointer none⟩), (18, ⟨.struct [(17, 0)], 1, 8, .agg #[.pointer none]⟩), (19, ⟨.struct [(17, 0)], 1, 8, .agg #[.pointer none]⟩), (20, ⟨.iface true, 1, 16, .nilIface⟩), (21, ⟨.int .i32, 1, 4, .int .i32 0⟩), (22, ⟨.slice 24, 1, 24, .slice none 0 0⟩), (23, ⟨.struct [(3, 0), (3, 1)], 2, 16, .agg #[.int .i64 0, .int .i64 0]⟩), (24, ⟨.struct [(3, 0), (3, 1)], 2, 16, .agg #[.int .i64 0, .int .i64 0]⟩), (25, ⟨.struct [(24, 0), (24, 2)], 4, 32, .agg #[.int .i64 0, .int .i64 0, .int .i64 0, .int .i64 0]⟩), (26, ⟨.struct [(24, 0), (24, 2)], 4, 32, .agg #[.int .i64 0, .int .i64 0, .int .i64 0, .int .i64 0]⟩), (27, ⟨.int .i64, 1, 8, .int .i64 0⟩), (29, ⟨.func, 1, 8, .nilFunc⟩), (31, ⟨.func, 1, 8, .nilFunc⟩), (32, ⟨.func, 1, 8, .nilFunc⟩), (33, ⟨.struct [(3, 0), (3, 1), (3, 2), (3, 3), (3, 4)], 5, 40, .agg #[.int .i64 0, .int .i64 0, .int .i64 0, .int .i64 0, .int .i64 0]⟩), (34, ⟨.struct [(3, 0), (3, 1), (3, 2), (3, 3), (3, 4)], 5, 40, .agg #[.int .i64 0, .int .i64 0, .int .i64 0, .int .i64 0, .int .i64 0]⟩), (35, ⟨.slice 60, 1, 24, .slice none 0 0⟩), (36, ⟨.slice 60, 1, 24, .slice none 0 0⟩), (37, ⟨.func, 1, 8, .nilFunc⟩), (38, ⟨.slice 4, 1, 24, .slice none 0 0⟩), (40, ⟨.func, 1, 8, .nilFunc⟩), (42, ⟨.func, 1, 8, .nilFunc⟩), (44, ⟨.func, 1, 8, .nilFunc⟩), (46, ⟨.func, 1, 8, .nilFunc⟩), (47, ⟨.func, 1, 8, .nilFunc⟩), (48, ⟨.func, 1, 8, .nilFunc⟩), (49, ⟨.func, 1, 8, .nilFunc⟩), (50, ⟨.func, 1, 8, .nilFunc⟩), (51, ⟨.slice 92, 1, 24, .slice none 0 0⟩), (52, ⟨.slice 99, 1, 24, .slice none 0 0⟩), (53, ⟨.struct [(3, 0), (51, 1), (52, 2)], 3, 56, .agg #[.int .i64 0, .slice none 0 0, .slice none 0 0]⟩), (54, ⟨.struct [(3, 0), (51, 1), (52, 2)], 3, 56, .agg #[.int .i64 0, .slice none 0 0, .slice none 0 0]⟩), (55, ⟨.func, 1, 8, .nilFunc⟩), (57, ⟨.func, 1, 8, .nilFunc⟩), (59, ⟨.func, 1, 8, .nilFunc⟩), (60, ⟨.slice 3, 1, 24, .slice none 0 0⟩), (62, ⟨.func, 1, 8, .nilFunc⟩), (64, ⟨.func, 1, 8, .nilFunc⟩), (66, ⟨.func, 1, 8, .nilFunc⟩), (68, ⟨.func, 1, 8, .nilFunc⟩), (69, ⟨.func, 1, 8, .nilFunc⟩), (70, ⟨.func, 1, 8, .nilFunc⟩), (71, ⟨.struct [(5, 0), (3, 1), (3, 2), (3, 3)], 4, 32, .agg #[.int .u8 0, .int .i64 0, .int .i64 0, .int .i64 0]⟩), (72, ⟨.struct [(5, 0), (3, 1), (3, 2), (3, 3)], 4, 32, .agg #[.int .u8 0, .int .i64 0, .int .i64 0, .int .i64 0]⟩), (73, ⟨.func, 1, 8, .nilFunc⟩), (75, ⟨.func, 1, 8, .nilFunc⟩), (77, ⟨.func, 1, 8, .nilFunc⟩), (78, ⟨.func, 1, 8, .nilFunc⟩), (79, ⟨.func, 1, 8, .nilFunc⟩), (80, ⟨.func, 1, 8, .nilFunc⟩), (81, ⟨.func, 1, 8, .nilFunc⟩), (82, ⟨.slice 72, 1, 24, .slice none 0 0⟩), (84, ⟨.func, 1, 8, .nilFunc⟩), (86, ⟨.func, 1, 8, .nilFunc⟩), (87, ⟨.func, 1, 8, .nilFunc⟩), (88, ⟨.func, 1, 8, .nilFunc⟩), (89, ⟨.func, 1, 8, .nilFunc⟩), (90, ⟨.func, 1, 8, .nilFunc⟩), (91, ⟨.struct [(5, 0), (3, 1), (3, 2), (3, 3), (4, 4)], 5, 40, .agg #[.int .u8 0, .int .i64 0, .int .i64 0, .int .i64 0, .bool false]⟩), (92, ⟨.struct [(5, 0), (3, 1), (3, 2), (3, 3), (4, 4)], 5, 40, .agg #[.int .u8 0, .int .i64 0, .int .i64 0, .int .i64 0, .bool false]⟩), (93, ⟨.func, 1, 8, .nilFunc⟩), (94, ⟨.func, 1, 8, .nilFunc⟩), (95, ⟨.func, 1, 8, .nilFunc⟩), (96, ⟨.func, 1, 8, .nilFunc⟩), (97, ⟨.func, 1, 8, .nilFunc⟩), (98, ⟨.struct [(3, 0), (5, 1)], 2, 16, .agg #[.int .i64 0, .int .u8 0]⟩), (99, ⟨.struct [(3, 0), (5, 1)], 2, 16, .agg #[.int .i64 0, .int .u8 0]⟩), (100, ⟨.func, 1, 8, .nilFunc⟩), (101, ⟨.func, 1, 8, .nilFunc⟩), (102, ⟨.func, 1, 8, .nilFunc⟩), (103, ⟨.func, 1, 8, .nilFunc⟩), (104, ⟨.func, 1, 8, .nilFunc⟩), (105, ⟨.func, 1, 8, .nilFunc⟩), (106, ⟨.func, 1, 8, .nilFunc⟩), (107, ⟨.func, 1, 8, .nilFunc⟩), (108, ⟨.func, 1, 8, .nilFunc⟩), (109, ⟨.func, 1, 8, .nilFunc⟩), (110, ⟨.ptr 116, 1, 8, .pointer none⟩), (112, ⟨.func, 1, 8, .nilFunc⟩), (113, ⟨.array 3 3, 3, 24, .agg #[.int .i64 0, .int .i64 0, .int .i64 0]⟩), (114, ⟨.map 3 3, 1, 8, .map none⟩), (115, ⟨.struct [(54, 0), (114, 3)], 4, 64, .agg #[.int .i64 0, .slice none 0 0, .slice none 0 0, .map none]⟩), (116, ⟨.struct [(54, 0), (114, 3)], 4, 64, .agg #[.int .i64 0, .slice none 0 0, .slice none 0 0, .map none]⟩), (117, ⟨.func, 1, 8, .nilFunc⟩), (118, ⟨.func, 1, 8, .nilFunc⟩), (119, ⟨.func, 1, 8, .nilFunc⟩), (120, ⟨.func, 1, 8, .nilFunc⟩), (121, ⟨.func, 1, 8, .nilFunc⟩), (123, ⟨.func, 1, 8, .nilFunc⟩), (124, ⟨.func, 1, 8, .nilFunc⟩), (125, ⟨.func, 1, 8, .nilFunc⟩), (126, ⟨.map 5 3, 1, 8, .map none⟩), (127, ⟨.map 3 4, 1, 8, .map none⟩), (128, ⟨.slice 38, 1, 24, .slice none 0 0⟩), (129, ⟨.func, 1, 8, .nilFunc⟩), (130, ⟨.func, 1, 8, .nilFunc⟩), (131, ⟨.func, 1, 8, .nilFunc⟩), (132, ⟨.func, 1, 8, .nilFunc⟩), (133, ⟨.func, 1, 8, .nilFunc⟩), (134, ⟨.slice 152, 1, 24, .slice none 0 0⟩), (135, ⟨.func, 1, 8, .nilFunc⟩), (136, ⟨.func, 1, 8, .nilFunc⟩), (137, ⟨.func, 1, 8, .nilFunc⟩), (138, ⟨.func, 1, 8, .nilFunc⟩), (139, ⟨.int .i64, 1, 8, .int .i64 0⟩), (140, ⟨.func, 1, 8, .nilFunc⟩), (141, ⟨.array 8 140, 8, 64, .agg #[.nilFunc, .nilFunc, .nilFunc, .nilFunc, .nilFunc, .nilFunc, .nilFunc, .nilFunc]⟩), (142, ⟨.func, 1, 8, .nilFunc⟩), (143, ⟨.func, 1, 8, .nilFunc⟩), (144, ⟨.func, 1, 8, .nilFunc⟩), (145, ⟨.func, 1, 8, .nilFunc⟩), (146, ⟨.func, 1, 8, .nilFunc⟩), (147, ⟨.func, 1, 8, .nilFunc⟩), (148, ⟨.func, 1, 8, .nilFunc⟩), (149, ⟨.func, 1, 8, .nilFunc⟩), (150, ⟨.func, 1, 8, .nilFunc⟩), (151, ⟨.struct [(3, 0), (3, 1), (3, 2)], 3, 24, .agg #[.int .i64 0, .int .i64 0, .int .i64 0]⟩), (152, ⟨.struct [(3, 0), (3, 1), (3, 2)], 3, 24, .agg #[.int .i64 0, .int .i64 0, .int .i64 0]⟩), (153, ⟨.func, 1, 8, .nilFunc⟩), (154, ⟨.func, 1, 8, .nilFunc⟩), (155, ⟨.func, 1, 8, .nilFunc⟩), (157, ⟨.func, 1, 8, .nilFunc⟩), (158, ⟨.int .u64, 1, 8, .int .u64 0⟩), (160, ⟨.func, 1, 8, .nilFunc⟩), (161, ⟨.func, 1, 8, .nilFunc⟩), (162, ⟨.func, 1, 8, .nilFunc⟩), (163, ⟨.ptr 92, 1, 8, .pointer none⟩), (164, ⟨.func, 1, 8, .nilFunc⟩), (165, ⟨.func, 1, 8, .nilFunc⟩), (166, ⟨.func, 1, 8, .nilFunc⟩), (167, ⟨.func, 1, 8, .nilFunc⟩), (168, ⟨.int .u32, 1, 4, .int .u32 0⟩), (170, ⟨.func, 1, 8, .nilFunc⟩), (171, ⟨.int .u64, 1, 8, .int .u64 0⟩), (173, ⟨.func, 1, 8, .nilFunc⟩), (174, ⟨.func, 1, 8, .nilFunc⟩), (175, ⟨.func, 1, 8, .nilFunc⟩), (176, ⟨.func, 1, 8, .nilFunc⟩), (177, ⟨.func, 1, 8, .nilFunc⟩), (183, ⟨.func, 1, 8, .nilFunc⟩), (184, ⟨.int .u8, 1, 1, .int .u8 0⟩), (185, ⟨.int .u8, 1, 1, .int .u8 0⟩), (186, ⟨.func, 1, 8, .nilFunc⟩), (187, ⟨.ptr 5, 1, 8, .pointer none⟩), (188, ⟨.int .i32, 1, 4, .int .i32 0⟩), (189, ⟨.int .i32, 1, 4, .int .i32 0⟩), (190, ⟨.struct [(12, 0), (12, 1), (168, 2), (184, 3), (5, 4), (5, 5), (185, 6), (186, 7), (187, 8), (188, 9), (189, 10)], 11, 48, .agg #[.int .u64 0, .int .u64 0, .int .u32 0, .int .u8 0, .int .u8 0, .int .u8 0, .int .u8 0, .nilFunc, .pointer none, .int .i32 0, .int .i32 0]⟩), (191, ⟨.struct [(12, 0), (12, 1), (168, 2), (184, 3), (5, 4), (5, 5), (185, 6), (186, 7), (187, 8), (188, 9), (189, 10)], 11, 48, .agg #[.int .u64 0, .int .u64 0, .int .u32 0, .int .u8 0, .int .u8 0, .int .u8 0, .int .u8 0, .nilFunc, .pointer none, .int .i32 0, .int .i32 0]⟩)]
def lookT : List (Nat × TyD) → Nat → Option TyD
  | [], _ => none
  | (k, v) :: e, t => bif Nat.beq k t then some v else lookT e t
def AllTy (P : Program) : List (Nat × TyD) → Prop
  | [] => True
  | (k, v) :: e => TyIs P k v ∧ AllTy P e
theorem allTy_look {P : Program} : ∀ {l : List (Nat × TyD)} {T : Nat} {d : TyD}, AllTy P l → lookT l T = some d → TyIs P T d
  | [], _, _, _, h => by cases h
  | (k, v) :: e, T, d, ha, h => by
    simp only [lookT] at h
    cases hb : Nat.beq k T
    · rw [hb] at h; exact allTy_look ha.2 h
    · rw [hb] at h; cases h; rw [← Nat.eq_of_beq_eq_true hb]; exact ha.1
theorem tyL_ok : AllTy Try.prog tyL := ⟨ty1, ty2, ty3, ty4, ty5, ty6, ty7, ty8, ty12, ty15, ty16, ty17, ty18, ty19, ty20, ty21, ty22, ty23, ty24, ty25, ty26, ty27, ty29, ty31, ty32, ty33, ty34, ty35, ty36, ty37, ty38, ty40, ty42, ty44, ty46, ty47, ty48, ty49, ty50, ty51, ty52, ty53, ty54, ty55, ty57, ty59, ty60, ty62, ty64, ty66, ty68, ty69, ty70, ty71, ty72, ty73, ty75, ty77, ty78, ty79, ty80, ty81, ty82, ty84, ty86, ty87, ty88, ty89, ty90, ty91, ty92, ty93, ty94, ty95, ty96, ty97, ty98, ty99, ty100, ty101, ty102, ty103, ty104, ty105, ty106, ty107, ty108, ty109, ty110, ty112, ty113, ty114, ty115, ty116, ty117, ty118, ty119, ty120, ty121, ty123, ty124, ty125, ty126, ty127, ty128, ty129, ty130, ty131, ty132, ty133, ty134, ty135, ty136, ty137, ty138, ty139, ty140, ty141, ty142, ty143, ty144, ty145, ty146, ty147, ty148, ty149, ty150, ty151, ty152, ty153, ty154, ty155, ty157, ty158, ty160, ty161, ty162, ty163, ty164, ty165, ty166, ty167, ty168, ty170, ty171, ty173, ty174, ty175, ty176, ty177, ty183, ty184, ty185, ty186, ty187, ty188, ty189, ty190, ty191, trivial⟩
def sizesL : List (TypeId × Nat) → Option (List Nat)
  | [] => some []
  | (E, _) :: fs => match lookT tyL E, sizesL fs with
    | some d, some ns => some (d.size :: ns)
    | _, _ => none
theorem sizes : ∀ {fs : List (TypeId × Nat)} {ns : List Nat}, sizesL fs = some ns → SizesAre Try.prog fs ns
  | [], ns, h => by cases h; trivial
  | (E, _) :: fs, ns, h => by
    simp only [sizesL] at h
    cases h1 : lookT tyL E with
    | none => rw [h1] at h; cases h
    | some d =>
      cases h2 : sizesL fs with
      | none => rw [h1, h2] at h; cases h
      | some ms => rw [h1, h2] at h; cases h; exact ⟨⟨d, allTy_look tyL_ok h1, rfl⟩, sizes h2⟩
theorem ty {T : TypeId} {d : TyD} (h : lookT tyL T = some d) : TyIs Try.prog T d := allTy_look tyL_ok h
def seqL : List (Nat × List (TypeId × Nat × Bool)) := [(7, [(2, 0, false), (3, 1, false), (4, 2, false), (6, 3, false)]), (8, [(2, 0, false), (3, 1, false), (4, 2, false), (6, 3, false)]), (23, [(3, 0, false), (3, 1, false)]), (24, [(3, 0, false), (3, 1, false)]), (33, [(3, 0, false), (3, 1, false), (3, 2, false), (3, 3, false), (3, 4, false)]), (34, [(3, 0, false), (3, 1, false), (3, 2, false), (3, 3, false), (3, 4, false)]), (71, [(5, 0, false), (3, 1, false), (3, 2, false), (3, 3, false)]), (72, [(5, 0, false), (3, 1, false), (3, 2, false), (3, 3, false)]), (91, [(5, 0, false), (3, 1, false), (3, 2, false), (3, 3, false), (4, 4, false)]), (92, [(5, 0, false), (3, 1, false), (3, 2, false), (3, 3, false), (4, 4, false)]), (98, [(3, 0, false), (5, 1, false)]), (99, [(3, 0, false), (5, 1, false)]), (151, [(3, 0, false), (3, 1, false), (3, 2, false)]), (152, [(3, 0, false), (3, 1, false), (3, 2, false)])]
def lookS : List (Nat × List (TypeId × Nat × Bool)) → Nat → Option (List (TypeId × Nat × Bool))
  | [], _ => none
  | (k, v) :: e, t => bif Nat.beq k t then some v else lookS e t
def AllSeq (P : Program) : List (Nat × List (TypeId × Nat × Bool)) → Prop
  | [] => True
  | (k, v) :: e => SeqOk P k v ∧ AllSeq P e
theorem allSeq_look {P : Program} : ∀ {l : List (Nat × List (TypeId × Nat × Bool))} {T : Nat} {d : List (TypeId × Nat × Bool)}, AllSeq P l → lookS l T = some d → SeqOk P T d
  | [], _, _, _, h => by cases h
  | (k, v) :: e, T, d, ha, h => by
    simp only [lookS] at h
    cases hb : Nat.beq k T
    · rw [hb] at h; exact allSeq_look ha.2 h
    · rw [hb] at h; cases h; rw [← Nat.eq_of_beq_eq_true hb]; exact ha.1
theorem seqL_ok : AllSeq Try.prog seqL := ⟨sq7, sq8, sq23, sq24, sq33, sq34, sq71, sq72, sq91, sq92, sq98, sq99, sq151, sq152, trivial⟩
theorem seq {T : TypeId} {d : List (TypeId × Nat × Bool)} (h : lookS seqL T = some d) : SeqOk Try.prog T d := allSeq_look seqL_ok h
theorem fn16 : FnOk Try.prog 16 := fnOk Try.func16 rfl (by kernel_rfl)
theorem fn18 : FnOk Try.prog 18 := fnOk Try.func18 rfl (by kernel_rfl)
theorem fn19 : FnOk Try.prog 19 := fnOk Try.func19 rfl (by kernel_rfl)
theorem fn21 : FnOk Try.prog 21 := fnOk Try.func21 rfl (by kernel_rfl)
theorem fn23 : FnOk Try.prog 23 := fnOk Try.func23 rfl (by kernel_rfl)
theorem fn29 : FnOk Try.prog 29 := fnOk Try.func29 rfl (by kernel_rfl)
theorem fn33 : FnOk Try.prog 33 := fnOk Try.func33 rfl (by kernel_rfl)
theorem fn39 : FnOk Try.prog 39 := fnOk Try.func39 rfl (by kernel_rfl)
theorem fn40 : FnOk Try.prog 40 := fnOk Try.func40 rfl (by kernel_rfl)
theorem fn42 : FnOk Try.prog 42 := fnOk Try.func42 rfl (by kernel_rfl)
theorem fn44 : FnOk Try.prog 44 := fnOk Try.func44 rfl (by kernel_rfl)
theorem fn46 : FnOk Try.prog 46 := fnOk Try.func46 rfl (by kernel_rfl)
theorem fn48 : FnOk Try.prog 48 := fnOk Try.func48 rfl (by kernel_rfl)
theorem fn50 : FnOk Try.prog 50 := fnOk Try.func50 rfl (by kernel_rfl)
theorem fn51 : FnOk Try.prog 51 := fnOk Try.func51 rfl (by kernel_rfl)
theorem fn53 : FnOk Try.prog 53 := fnOk Try.func53 rfl (by kernel_rfl)
theorem fn57 : FnOk Try.prog 57 := fnOk Try.func57 rfl (by kernel_rfl)
theorem fn58 : FnOk Try.prog 58 := fnOk Try.func58 rfl (by kernel_rfl)
theorem fn59 : FnOk Try.prog 59 := fnOk Try.func59 rfl (by kernel_rfl)
theorem fn60 : FnOk Try.prog 60 := fnOk Try.func60 rfl (by kernel_rfl)
theorem fn61 : FnOk Try.prog 61 := fnOk Try.func61 rfl (by kernel_rfl)
theorem fn62 : FnOk Try.prog 62 := fnOk Try.func62 rfl (by kernel_rfl)
theorem fn63 : FnOk Try.prog 63 := fnOk Try.func63 rfl (by kernel_rfl)
theorem fn64 : FnOk Try.prog 64 := fnOk Try.func64 rfl (by kernel_rfl)
theorem fn66 : FnOk Try.prog 66 := fnOk Try.func66 rfl (by kernel_rfl)
theorem fn67 : FnOk Try.prog 67 := fnOk Try.func67 rfl (by kernel_rfl)
theorem fn69 : FnOk Try.prog 69 := fnOk Try.func69 rfl (by kernel_rfl)
theorem fn70 : FnOk Try.prog 70 := fnOk Try.func70 rfl (by kernel_rfl)
theorem fn72 : FnOk Try.prog 72 := fnOk Try.func72 rfl (by kernel_rfl)
theorem fn73 : FnOk Try.prog 73 := fnOk Try.func73 rfl (by kernel_rfl)
theorem fn74 : FnOk Try.prog 74 := fnOk Try.func74 rfl (by kernel_rfl)
theorem fn78 : FnOk Try.prog 78 := fnOk Try.func78 rfl (by kernel_rfl)
theorem fn79 : FnOk Try.prog 79 := fnOk Try.func79 rfl (by kernel_rfl)
theorem fn80 : FnOk Try.prog 80 := fnOk Try.func80 rfl (by kernel_rfl)
theorem fn81 : FnOk Try.prog 81 := fnOk Try.func81 rfl (by kernel_rfl)
theorem fn82 : FnOk Try.prog 82 := fnOk Try.func82 rfl (by kernel_rfl)
theorem fn86 : FnOk Try.prog 86 := fnOk Try.func86 rfl (by kernel_rfl)
theorem fn87 : FnOk Try.prog 87 := fnOk Try.func87 rfl (by kernel_rfl)
theorem fn88 : FnOk Try.prog 88 := fnOk Try.func88 rfl (by kernel_rfl)
theorem fn89 : FnOk Try.prog 89 := fnOk Try.func89 rfl (by kernel_rfl)
theorem fn90 : FnOk Try.prog 90 := fnOk Try.func90 rfl (by kernel_rfl)
theorem fn91 : FnOk Try.prog 91 := fnOk Try.func91 rfl (by kernel_rfl)
theorem fn93 : FnOk Try.prog 93 := fnOk Try.func93 rfl (by kernel_rfl)
theorem fn94 : FnOk Try.prog 94 := fnOk Try.func94 rfl (by kernel_rfl)
theorem fn95 : FnOk Try.prog 95 := fnOk Try.func95 rfl (by kernel_rfl)
theorem fn96 : FnOk Try.prog 96 := fnOk Try.func96 rfl (by kernel_rfl)
theorem fn97 : FnOk Try.prog 97 := fnOk Try.func97 rfl (by kernel_rfl)
theorem fn101 : FnOk Try.prog 101 := fnOk Try.func101 rfl (by kernel_rfl)
theorem fn102 : FnOk Try.prog 102 := fnOk Try.func102 rfl (by kernel_rfl)
theorem fn104 : FnOk Try.prog 104 := fnOk Try.func104 rfl (by kernel_rfl)
theorem fn105 : FnOk Try.prog 105 := fnOk Try.func105 rfl (by kernel_rfl)
theorem fn106 : FnOk Try.prog 106 := fnOk Try.func106 rfl (by kernel_rfl)
theorem fn107 : FnOk Try.prog 107 := fnOk Try.func107 rfl (by kernel_rfl)
theorem fn108 : FnOk Try.prog 108 := fnOk Try.func108 rfl (by kernel_rfl)
theorem fn109 : FnOk Try.prog 109 := fnOk Try.func109 rfl (by kernel_rfl)
theorem fn110 : FnOk Try.prog 110 := fnOk Try.func110 rfl (by kernel_rfl)
theorem fn111 : FnOk Try.prog 111 := fnOk Try.func111 rfl (by kernel_rfl)
theorem fn114 : FnOk Try.prog 114 := fnOk Try.func114 rfl (by kernel_rfl)
theorem fn115 : FnOk Try.prog 115 := fnOk Try.func115 rfl (by kernel_rfl)
theorem fn116 : FnOk Try.prog 116 := fnOk Try.func116 rfl (by kernel_rfl)
theorem fn117 : FnOk Try.prog 117 := fnOk Try.func117 rfl (by kernel_rfl)
theorem fn118 : FnOk Try.prog 118 := fnOk Try.func118 rfl (by kernel_rfl)
theorem fn120 : FnOk Try.prog 120 := fnOk Try.func120 rfl (by kernel_rfl)
theorem fn121 : FnOk Try.prog 121 := fnOk Try.func121 rfl (by kernel_rfl)
theorem fn122 : FnOk Try.prog 122 := fnOk Try.func122 rfl (by kernel_rfl)
theorem fn123 : FnOk Try.prog 123 := fnOk Try.func123 rfl (by kernel_rfl)
theorem mixed : Try.prog.follows .mixedOrders = true := by kernel_rfl
end Go.Proofs.Ythpbjihnikapoaa
namespace Go.Proofs.Ythpbjihnikapoaa
open Go.ChangeShapes Go.WideShapes Go.ChangeAt Go.RowKit Go.Deep
theorem own_knob : ownKnob Try.prog.godebug = none := by kernel_rfl
theorem laid_out : laidOutB Try.prog = true := by kernel_rfl
/-- All memory avs it stands. -/
def snap (w : World) : Imm := fun b => w.heap[b]?
/-- The cells of a value. -/
def CellsAre (I : Imm) (v : V) (cs : List Value) : Prop := v.cells.length = cs.length ∧ ∀ (j : Nat) x u, v.cells[j]? = some x → cs[j]? = some u → VRel I [] x u
/-- A type whose values, read avs data, are elements of 'α'. -/
structure ReadsV (P : Program) (t : TypeId) {α : Type} (e : α → V) (ok : α → Prop) (sz : Nat) : Prop where
  cells : P.cellsOf t = sz
  pos : 0 < sz
  read : ∀ {H : Type} {enc : TypeId × Value → H} {w : World} {base : Nat} {spare : Nat → Bool} {held : Bool} {fuel : Nat} {cs : List Value} {x : DataW H × List MemPlace},
    DataW.trod enc P w base spare held fuel t cs = some x → ∃ a : α, ok a ∧ cs.length = sz ∧ CellsAre (snap w) (e a) cs
def i64ok (n : Int) : Prop := -9223372036854775808 ≤ n ∧ n ≤ 9223372036854775807
theorem rv_int {P : Program} {t : TypeId} (ht : P.underlying t = some (.int .i64)) (hc : P.cellsOf t = 1) : ReadsV P t vi i64ok 1 :=
  ⟨hc, by omega, fun h => by
    obtain ⟨n, rfl, _, hw⟩ := DataW.trod_int ht h
    exact ⟨n, bounds_i64 hw, rfl, rfl, fun j x u hx hu => by
      cases j with
      | zero => simp [cells_vi] at hx hu; subst hx hu; exact .s _
      | succ j => simp at hu⟩⟩
theorem cell_block {w : World} {b i : Nat} {sp : Option Nat} {v : Value} (h : w.cell? ⟨b, i, sp⟩ = some v) : ∃ cs ty fz, w.heap[b]? = some (.cells cs ty fz) ∧ cs[i]? = some v := by
  unfold World.cell? at h
  simp only at h
  split at h
  · rename_i c ty fz hb
    split at h
    · cases h
    · exact ⟨c, ty, fz, hb, h⟩
  · cases h
theorem add_none (b off n : Nat) : (⟨b, off, none⟩ : Addr).add n = ⟨b, off + n, none⟩ := by
  unfold Addr.add
  split
  · rename_i h; subst h; rfl
  · rfl
theorem read_list {α : Type} [Inhabited α] {P : Program} {t e : TypeId} {ea : α → V} {ok : α → Prop} {sz : Nat} (ht : P.underlying t = some (.slice e)) (R : ReadsV P e ea ok sz)
    {H : Type} {enc : TypeId × Value → H} {w : World} {base : Nat} {spare : Nat → Bool} {held : Bool} {fuel : Nat} {cs : List Value} {x : DataW H × List MemPlace}
    (h : DataW.trod enc P w base spare held fuel t cs = some x) : ∃ (l : List α) (u : Value), (∀ y, y ∈ l → ok y) ∧ cs = [u] ∧ VRel (snap w) [] (LV sz ea l) u := by
  rcases open_slice ht h with ⟨rfl, _⟩ | ⟨a, len, cap, m, n, D, Pl, rfl, _, hl, hc, hm, _, hi⟩
  · exact ⟨[], _, (fun y hy => by cases hy), rfl, VRel.none_list none⟩
  · have hml : len ≤ m := by rw [hm]; split <;> omega
    have hex : ∀ i : Fin len, ∃ y : α, ∃ cs', w.cells? base (a.add (i * P.cellsOf e)) (P.cellsOf e) = some cs' ∧ ok y ∧ cs'.length = sz ∧ CellsAre (snap w) (ea y) cs' := fun i => by
      obtain ⟨cs', h1, h2⟩ := hi i (by omega)
      obtain ⟨y, hy⟩ := R.read h2
      exact ⟨y, cs', h1, hy⟩
    obtain ⟨f, hf⟩ := Classical.skolem.1 hex
    obtain ⟨g, hg⟩ := Classical.skolem.1 hf
    have hel : ∀ i (hi : i < len), el (List.ofFn f) i = f ⟨i, hi⟩ := fun i hi => by rw [el_eq (by simpa using hi)]; simp
    refine ⟨List.ofFn f, _, fun y hy => ?_, rfl, ?_⟩
    · obtain ⟨k, hk, rfl⟩ := mem_el hy
      rw [hel k (by simpa using hk)]
      exact (hg _).2.1
    obtain ⟨b, off, sp⟩ := a
    have hspot : 0 < len → sp = none := fun h0 => by
      obtain ⟨h1, _, h3, _⟩ := hg ⟨0, h0⟩
      obtain ⟨_, hcl, hat⟩ := World.cells?_some h1
      have hpos := R.pos
      have h5 := hat 0 (by rw [R.cells]; exact hpos)
      rw [List.getElem?_eq_getElem (by omega)] at h5
      simpa [Addr.add] using World.cell?_spot h5
    have hcell : ∀ (i : Nat) (hi : i < len) (j : Nat), j < sz → ∃ cs' ty fz, w.heap[b]? = some (.cells cs' ty fz) ∧ sp = none ∧ cs'[off + i * sz + j]? = some ((g ⟨i, hi⟩).getD j undef) := by
      intro i hi j hj
      obtain ⟨h1, _, h3, _⟩ := hg ⟨i, hi⟩
      obtain ⟨_, hcl, hat⟩ := World.cells?_some h1
      have hu : (g ⟨i, hi⟩)[j]? = some ((g ⟨i, hi⟩).getD j undef) := by simp [show j < (g ⟨i, hi⟩).length by omega]
      have h5 := hat j (by rw [R.cells]; exact hj)
      rw [hu] at h5
      have hsp : sp = none := hspot (by omega)
      subst hsp
      rw [add_none, add_none, R.cells] at h5
      obtain ⟨cs', ty, fz, h6, h7⟩ := cell_block h5
      exact ⟨cs', ty, fz, h6, rfl, h7⟩
    have hsz : ∀ i (hi : i < len), (ea (el (List.ofFn f) i)).cells.length = sz := fun i hi => by
      rw [hel i hi]
      obtain ⟨_, _, h3, h4⟩ := hg ⟨i, hi⟩
      rw [h4.1, h3]
    have hlen : (List.ofFn f).length = len := by simp
    show VRel (snap w) [] (.list sz (List.ofFn f).length fun i => ea (el (List.ofFn f) i)) _
    rw [hlen]
    refine .list (us := fun i j => if hi : i < len then (g ⟨i, hi⟩).getD j undef else undef) hl (by first | exact hc | (have h : cap ≤ 2 ^ 63 - 1 := hc; show cap ≤ maxLen; unfold maxLen; omega)) (fun h0 => ?_) (fun i hi => hsz i hi) (fun i j v hi hj => ?_)
    · obtain ⟨cs', ty, fz, h6, rfl, _⟩ := hcell 0 h0 0 R.pos
      refine ⟨b, off, rfl, fun i hi => ⟨cs', ty, fz, h6, fun j hj => ?_⟩⟩
      obtain ⟨cs2, ty2, fz2, h8, _, h9⟩ := hcell i hi j hj
      rw [h6] at h8
      cases h8
      simpa [hi] using h9
    · obtain ⟨_, _, h3, h4⟩ := hg ⟨i, hi⟩
      have hj2 := (List.getElem?_eq_some_iff.1 hj).1
      rw [hsz i hi] at hj2
      rw [hel i hi] at hj
      have := h4.2 j v ((g ⟨i, hi⟩).getD j undef) hj (by simp [show j < (g ⟨i, hi⟩).length by omega])
      simpa [hi] using this
theorem rv_list {α : Type} [Inhabited α] {P : Program} {t e : TypeId} {ea : α → V} {ok : α → Prop} {sz : Nat} (ht : P.underlying t = some (.slice e)) (hc : P.cellsOf t = 1) (R : ReadsV P e ea ok sz) : ReadsV P t (LV sz ea) (fun l => ∀ y, y ∈ l → ok y) 1 :=
  ⟨hc, by omega, fun h => by
    obtain ⟨l, u, h1, rfl, h2⟩ := read_list ht R h
    exact ⟨l, h1, rfl, rfl, fun j x u' hx hu => by
      cases j with
      | zero => simp [LV_cells] at hx hu; subst hx hu; exact h2
      | succ j => simp at hu⟩⟩
section
variable {P : Program} {H : Type} {enc : TypeId × Value → H} {w : World} {base : Nat} {spare : Nat → Bool} {held : Bool} {r : Reach} {b0 : Nat} {v : Value} {d : DataW H} {p : List MemPlace} {t e : TypeId}
theorem arg_list {α : Type} [Inhabited α] {ea : α → V} {ok : α → Prop} {sz : Nat} (ht : P.underlying t = some (.slice e)) (R : ReadsV P e ea ok sz) (hv : Value.okWide P w r b0 t v) (h : DataW.Trod enc P w base spare held t v d p) : ∃ l : List α, (∀ y, y ∈ l → ok y) ∧ VRel (snap w) [] (LV sz ea l) v := by
  obtain ⟨a, len, cap, rfl⟩ := okWide_slice ht hv
  obtain ⟨fuel, hf⟩ := h
  obtain ⟨l, u, h1, h2, h3⟩ := read_list ht R hf
  simp only [Value.cells, List.cons.injEq, and_true] at h2
  exact ⟨l, h1, h2 ▸ h3⟩
theorem arg_int (ht : P.underlying t = some (.int .i64)) (hv : Value.okWide P w r b0 t v) (h : DataW.Trod enc P w base spare held t v d p) : ∃ n : Int, i64ok n ∧ VRel (snap w) [] (vi n) v := by
  obtain ⟨n, rfl, _, _, hw⟩ := open_int ht hv h
  exact ⟨n, bounds_i64 hw, .s _⟩
/-- A struct: its cells are those of 'e a'. -/
theorem arg_struct {α : Type} {ea : α → V} {ok : α → Prop} {sz : Nat} {fs : Array Field} (ht : P.underlying t = some (.struct fs)) (R : ReadsV P t ea ok sz) (hagg : ∀ a, ea a = .agg (ea a).cells) (hv : Value.okWide P w r b0 t v) (h : DataW.Trod enc P w base spare held t v d p) : ∃ a : α, ok a ∧ VRel (snap w) [] (ea a) v := by
  obtain ⟨cs, rfl, _⟩ := okWide_struct ht hv
  obtain ⟨fuel, hf⟩ := h
  obtain ⟨a, h1, h2, h3⟩ := R.read (by simpa [Value.cells] using hf)
  refine ⟨a, h1, ?_⟩
  rw [hagg a]
  exact .agg (by rw [h3.1]; simp) fun j x u hx hu => h3.2 j x u hx (by simpa using hu)
theorem rels_nil {I : Imm} : VRels I [] [] #[] := ⟨rfl, fun j v u h => by simp at h⟩
theorem rels_cons {I : Imm} {x : V} {u : Value} {vs : List V} {us : List Value} (h : VRel I [] x u) (k : VRels I [] vs us.toArray) : VRels I [] (x :: vs) (u :: us).toArray := by
  refine ⟨by have := k.1; simpa using this, fun j v y hj hu => ?_⟩
  cases j with
  | zero => simp at hj hu; subst hj hu; exact h
  | succ j => exact k.2 j v y (by simpa using hj) (by simpa using hu)
end
/-- A part of a struct. -/
theorem struct_part {P : Program} {t : TypeId} {fs : Array Field} (ht : P.underlying t = some (.struct fs))
    {H : Type} {enc : TypeId × Value → H} {w : World} {base : Nat} {spare : Nat → Bool} {held : Bool} {fuel : Nat} {cs : List Value} {x : DataW H × List MemPlace}
    (h : DataW.trod enc P w base spare held fuel t cs = some x) {α : Type} {ea : α → V} {ok : α → Prop} {sz : Nat} (i : Nat) {f : Field} (hfi : fs[i]? = some f) (R : ReadsV P f.type ea ok sz) :
    ∃ a : α, ok a ∧ ((cs.drop f.offset).take sz).length = sz ∧ CellsAre (snap w) (ea a) ((cs.drop f.offset).take sz) := by
  obtain ⟨xs, n, _, _, _, hxl, hg⟩ := DataW.trod_struct ht h
  have h3 := hg i f hfi
  have hi : i < fs.size := (Array.getElem?_eq_some_iff.1 hfi).1
  obtain ⟨a, h1, h2, h4⟩ := R.read (h3.trans (List.getElem?_eq_getElem (by omega)))
  rw [R.cells] at h2 h4
  exact ⟨a, h1, h2, h4⟩
theorem struct_len {P : Program} {t : TypeId} {fs : Array Field} (ht : P.underlying t = some (.struct fs))
    {H : Type} {enc : TypeId × Value → H} {w : World} {base : Nat} {spare : Nat → Bool} {held : Bool} {fuel : Nat} {cs : List Value} {x : DataW H × List MemPlace}
    (h : DataW.trod enc P w base spare held fuel t cs = some x) : cs.length = P.cellsOf t := by
  obtain ⟨_, _, _, _, hlen, _, _⟩ := DataW.trod_struct ht h
  exact hlen
theorem cells_one {I : Imm} {v : V} {cs : List Value} {o : Nat} {u : Value} (h : CellsAre I v ((cs.drop o).take 1)) (hv : v.cells = [v]) (hu : cs[o]? = some u) : VRel I [] v u :=
  h.2 0 v u (by rw [hv]; rfl) (by simp [hu])
end Go.Proofs.Ythpbjihnikapoaa
namespace Go.Proofs.Ythpbjihnikapoaa
open Go.RowKit
/-- What a test tells. -/
class HG (p : Prop) (q : outParam Prop) : Prop where
  out : p → q
instance hgi1 {p : Prop} [Decidable p] : HG (decide p = true) p := ⟨of_decide_eq_true⟩
instance hgi2 {p : Prop} [Decidable p] : HG (decide p = false) (¬ p) := ⟨of_decide_eq_false⟩
instance hgi3 {p : Prop} [Decidable p] : HG ((!decide p) = true) (¬ p) := ⟨hgNT⟩
instance hgi4 {p : Prop} [Decidable p] : HG ((!decide p) = false) p := ⟨hgNF⟩
instance hgi5 {p : Prop} [Decidable p] : HG (decide p = !false) p := ⟨of_decide_eq_true⟩
instance hgi6 {p : Prop} [Decidable p] : HG (decide p = !true) (¬ p) := ⟨of_decide_eq_false⟩
instance hgi7 {p : Prop} [Decidable p] : HG ((!decide p) = !false) (¬ p) := ⟨hgNT⟩
instance hgi8 {p : Prop} [Decidable p] : HG ((!decide p) = !true) p := ⟨hgNF⟩
instance (priority := low) hgj1 {b : Bool} : HG ((!b) = true) (b = false) := ⟨hgBT⟩
instance (priority := low) hgj2 {b : Bool} : HG ((!b) = false) (b = true) := ⟨hgBF⟩
instance (priority := low) hgj3 {b : Bool} : HG ((!b) = !false) (b = false) := ⟨hgBT⟩
instance (priority := low) hgj4 {b : Bool} : HG ((!b) = !true) (b = true) := ⟨hgBF⟩
instance (priority := low) hgj5 {b : Bool} : HG (b = !true) (b = false) := ⟨fun h => h⟩
instance (priority := low) hgj6 {b : Bool} : HG (b = !false) (b = true) := ⟨fun h => h⟩
variable {r : Option Nat} {m nt i e : Nat} {Q : Post} {env : Env} {H : Heap} {ops : Array Oper} {l : List Stp} {ty : TypeId} {pos : String} {after : Array Edge} {x y c : Operand} {T T2 E : TypeId} {d de : TyD} {v : V} {keep : Bool}
theorem zmv  (hk : AR Try.prog r m nt ops Q l ((e, v) :: env) H) (hx : eo env x = some v := by exact rfl) (hd : e < nt := by exact dc rfl) :
    AR Try.prog r m nt ops Q (.q i ⟨some e, .move x, ty, pos, after, none⟩ :: l) env H := ar_q (qs_move hx) hd hk
theorem zas  (hk : AR Try.prog r m nt ops Q l ((e, v) :: env) H) (hx : eo env x = some v := by exact rfl) (hd : e < nt := by exact dc rfl) :
    AR Try.prog r m nt ops Q (.q i ⟨some e, .assign x, ty, pos, after, none⟩ :: l) env H := ar_q (qs_assign hx) hd hk
theorem zlp {sz b j off n : Nat} {f : Nat → V} (hk : AR Try.prog r m nt ops Q l ((e, v) :: env) H) (ht : TyIs Try.prog T d := by exact ty rfl) (hx : eo env x = some (.ptr sz b j off) := by exact rfl) (hH : H[b]? = some (.arr sz n f) := by exact rfl) (hi : j < n := by first | exact Nat.one_pos | assumption | omega) (hv : partV d.tk.agg (f j).cells off d.size = some v := by exact rfl) (hd : e < nt := by exact dc rfl) :
    AR Try.prog r m nt ops Q (.q i ⟨some e, .load T x, ty, pos, after, none⟩ :: l) env H := ar_q (qs_load_ptr ht hx hH hi hv) hd hk
theorem zlr {w : V} {off : Nat} (hk : AR Try.prog r m nt ops Q l ((e, v) :: env) H) (ht : TyIs Try.prog T d := by exact ty rfl) (hx : eo env x = some (.ref w off) := by exact rfl) (hv : partV d.tk.agg w.cells off d.size = some v := by exact rfl) (hd : e < nt := by exact dc rfl) :
    AR Try.prog r m nt ops Q (.q i ⟨some e, .load T x, ty, pos, after, none⟩ :: l) env H := ar_q (qs_load_ref ht hx hv) hd hk
theorem zlss {k : IntKind} {a b : Int} (hk : AR Try.prog r m nt ops Q l ((e, .s (.bool (decide (a < b)))) :: env) H) (hx : eo env x = some (.s (.int k a)) := by exact rfl) (hy : eo env y = some (.s (.int k b)) := by exact rfl) (hd : e < nt := by exact dc rfl) :
    AR Try.prog r m nt ops Q (.q i ⟨some e, .binOp .lss T x y T2, ty, pos, after, none⟩ :: l) env H := ar_q (qs_lss hx hy) hd hk
theorem zleq {k : IntKind} {a b : Int} (hk : AR Try.prog r m nt ops Q l ((e, .s (.bool (decide (a ≤ b)))) :: env) H) (hx : eo env x = some (.s (.int k a)) := by exact rfl) (hy : eo env y = some (.s (.int k b)) := by exact rfl) (hd : e < nt := by exact dc rfl) :
    AR Try.prog r m nt ops Q (.q i ⟨some e, .binOp .leq T x y T2, ty, pos, after, none⟩ :: l) env H := ar_q (qs_leq hx hy) hd hk
theorem zgtr {k : IntKind} {a b : Int} (hk : AR Try.prog r m nt ops Q l ((e, .s (.bool (decide (b < a)))) :: env) H) (hx : eo env x = some (.s (.int k a)) := by exact rfl) (hy : eo env y = some (.s (.int k b)) := by exact rfl) (hd : e < nt := by exact dc rfl) :
    AR Try.prog r m nt ops Q (.q i ⟨some e, .binOp .gtr T x y T2, ty, pos, after, none⟩ :: l) env H := ar_q (qs_gtr hx hy) hd hk
theorem zgeq {k : IntKind} {a b : Int} (hk : AR Try.prog r m nt ops Q l ((e, .s (.bool (decide (b ≤ a)))) :: env) H) (hx : eo env x = some (.s (.int k a)) := by exact rfl) (hy : eo env y = some (.s (.int k b)) := by exact rfl) (hd : e < nt := by exact dc rfl) :
    AR Try.prog r m nt ops Q (.q i ⟨some e, .binOp .geq T x y T2, ty, pos, after, none⟩ :: l) env H := ar_q (qs_geq hx hy) hd hk
theorem zeql {k : IntKind} {a b : Int} (hk : AR Try.prog r m nt ops Q l ((e, .s (.bool (decide (a = b)))) :: env) H) (hx : eo env x = some (.s (.int k a)) := by exact rfl) (hy : eo env y = some (.s (.int k b)) := by exact rfl) (hd : e < nt := by exact dc rfl) :
    AR Try.prog r m nt ops Q (.q i ⟨some e, .binOp .eql T x y T2, ty, pos, after, none⟩ :: l) env H := ar_q (qs_eql hx hy) hd hk
theorem zneq {k : IntKind} {a b : Int} (hk : AR Try.prog r m nt ops Q l ((e, .s (.bool (!decide (a = b)))) :: env) H) (hx : eo env x = some (.s (.int k a)) := by exact rfl) (hy : eo env y = some (.s (.int k b)) := by exact rfl) (hd : e < nt := by exact dc rfl) :
    AR Try.prog r m nt ops Q (.q i ⟨some e, .binOp .neq T x y T2, ty, pos, after, none⟩ :: l) env H := ar_q (qs_neq hx hy) hd hk
theorem zadd {a b c : Int} (hk : AR Try.prog r m nt ops Q l ((e, .s (.int .i64 c)) :: env) H) (hx : eo env x = some (.s (.int .i64 a)) := by exact rfl) (hy : eo env y = some (.s (.int .i64 b)) := by exact rfl) (hr : IntKind.i64.wrap (a + b) = c := by exact wrap64 (by omega)) (hd : e < nt := by exact dc rfl) :
    AR Try.prog r m nt ops Q (.q i ⟨some e, .binOp .add T x y T2, ty, pos, after, none⟩ :: l) env H := ar_q (qs_add hx hy hr) hd hk
theorem zsub {a b c : Int} (hk : AR Try.prog r m nt ops Q l ((e, .s (.int .i64 c)) :: env) H) (hx : eo env x = some (.s (.int .i64 a)) := by exact rfl) (hy : eo env y = some (.s (.int .i64 b)) := by exact rfl) (hr : IntKind.i64.wrap (a - b) = c := by exact wrap64 (by omega)) (hd : e < nt := by exact dc rfl) :
    AR Try.prog r m nt ops Q (.q i ⟨some e, .binOp .sub T x y T2, ty, pos, after, none⟩ :: l) env H := ar_q (qs_sub hx hy hr) hd hk
theorem zmul {a b c : Int} (hk : AR Try.prog r m nt ops Q l ((e, .s (.int .i64 c)) :: env) H) (hx : eo env x = some (.s (.int .i64 a)) := by exact rfl) (hy : eo env y = some (.s (.int .i64 b)) := by exact rfl) (hr : IntKind.i64.wrap (a * b) = c := by exact wrap64 (by omega)) (hd : e < nt := by exact dc rfl) :
    AR Try.prog r m nt ops Q (.q i ⟨some e, .binOp .mul T x y T2, ty, pos, after, none⟩ :: l) env H := ar_q (qs_mul hx hy hr) hd hk
theorem zaddu8 {a b c : Int} (hk : AR Try.prog r m nt ops Q l ((e, .s (.int .u8 c)) :: env) H) (hx : eo env x = some (.s (.int .u8 a)) := by exact rfl) (hy : eo env y = some (.s (.int .u8 b)) := by exact rfl) (hr : IntKind.u8.wrap (a + b) = c := by exact wrap8 (by omega)) (hd : e < nt := by exact dc rfl) :
    AR Try.prog r m nt ops Q (.q i ⟨some e, .binOp .add T x y T2, ty, pos, after, none⟩ :: l) env H := ar_q (qs_add hx hy hr) hd hk
theorem zsubu8 {a b c : Int} (hk : AR Try.prog r m nt ops Q l ((e, .s (.int .u8 c)) :: env) H) (hx : eo env x = some (.s (.int .u8 a)) := by exact rfl) (hy : eo env y = some (.s (.int .u8 b)) := by exact rfl) (hr : IntKind.u8.wrap (a - b) = c := by exact wrap8 (by omega)) (hd : e < nt := by exact dc rfl) :
    AR Try.prog r m nt ops Q (.q i ⟨some e, .binOp .sub T x y T2, ty, pos, after, none⟩ :: l) env H := ar_q (qs_sub hx hy hr) hd hk
theorem zaddu64 {a b c : Int} (hk : AR Try.prog r m nt ops Q l ((e, .s (.int .u64 c)) :: env) H) (hx : eo env x = some (.s (.int .u64 a)) := by exact rfl) (hy : eo env y = some (.s (.int .u64 b)) := by exact rfl) (hr : IntKind.u64.wrap (a + b) = c := by exact wrapU (by omega)) (hd : e < nt := by exact dc rfl) :
    AR Try.prog r m nt ops Q (.q i ⟨some e, .binOp .add T x y T2, ty, pos, after, none⟩ :: l) env H := ar_q (qs_add hx hy hr) hd hk
theorem zmulu64 {a b c : Int} (hk : AR Try.prog r m nt ops Q l ((e, .s (.int .u64 c)) :: env) H) (hx : eo env x = some (.s (.int .u64 a)) := by exact rfl) (hy : eo env y = some (.s (.int .u64 b)) := by exact rfl) (hr : IntKind.u64.wrap (a * b) = c := by exact wrapU (by omega)) (hd : e < nt := by exact dc rfl) :
    AR Try.prog r m nt ops Q (.q i ⟨some e, .binOp .mul T x y T2, ty, pos, after, none⟩ :: l) env H := ar_q (qs_mul hx hy hr) hd hk
theorem zquo {a b c : Int} (hk : AR Try.prog r m nt ops Q l ((e, .s (.int .i64 c)) :: env) H) (hx : eo env x = some (.s (.int .i64 a)) := by exact rfl) (hy : eo env y = some (.s (.int .i64 b)) := by exact rfl) (hn : b ≠ 0 := by omega) (hr : IntKind.i64.wrap (a.tdiv b) = c := by exact quo64 (by omega) (by omega)) (hd : e < nt := by exact dc rfl) :
    AR Try.prog r m nt ops Q (.q i ⟨some e, .binOp .quo T x y T2, ty, pos, after, none⟩ :: l) env H := ar_q (qs_quo hx hy hn hr) hd hk
theorem zfp {fs : List (TypeId × Nat)} {k o : Nat} {sz b j off : Nat} (hk : AR Try.prog r m nt ops Q l ((e, .ptr sz b j (off + o)) :: env) H) (ht : TyIs Try.prog T d := by exact ty rfl) (hk1 : d.tk = .struct fs := by exact rfl) (hf : fs[k]? = some (E, o) := by exact rfl) (he : TyIs Try.prog E de := by exact ty rfl) (hz : de.size ≠ 0 := by exact Nat.succ_ne_zero _) (hx : eo env x = some (.ptr sz b j off) := by exact rfl) (hd : e < nt := by exact dc rfl) :
    AR Try.prog r m nt ops Q (.q i ⟨some e, .fieldAddr T x k, ty, pos, after, none⟩ :: l) env H := ar_q (qs_faddr_ptr ht hk1 hf he hz hx) hd hk
theorem zfr {fs : List (TypeId × Nat)} {k o : Nat} {w : V} {off : Nat} (hk : AR Try.prog r m nt ops Q l ((e, .ref w (off + o)) :: env) H) (ht : TyIs Try.prog T d := by exact ty rfl) (hk1 : d.tk = .struct fs := by exact rfl) (hf : fs[k]? = some (E, o) := by exact rfl) (he : TyIs Try.prog E de := by exact ty rfl) (hz : de.size ≠ 0 := by exact Nat.succ_ne_zero _) (hx : eo env x = some (.ref w off) := by exact rfl) (hd : e < nt := by exact dc rfl) :
    AR Try.prog r m nt ops Q (.q i ⟨some e, .fieldAddr T x k, ty, pos, after, none⟩ :: l) env H := ar_q (qs_faddr_ref ht hk1 hf he hz hx) hd hk
theorem zil {sz n j : Nat} {f : Nat → V} {k : IntKind} {a : Int} (hk : AR Try.prog r m nt ops Q l ((e, .ref (f j) 0) :: env) H) (ht : TyIs Try.prog T d := by exact ty rfl) (hk1 : d.tk = .slice E := by exact rfl) (he : TyIs Try.prog E de := by exact ty rfl) (hs : de.size = sz := by exact rfl) (hx : eo env x = some (.list sz n f) := by exact rfl) (hy : eo env y = some (.s (.int k a)) := by exact rfl) (hm : a = (j : Int) := by first | exact rfl | omega) (hj : j < n := by omega) (hd : e < nt := by exact dc rfl) :
    AR Try.prog r m nt ops Q (.q i ⟨some e, .indexAddr T x y, ty, pos, after, none⟩ :: l) env H := ar_q (qs_iaddr_list ht hk1 he hs hx hy hm hj) hd hk
theorem zis {sz b n j : Nat} {k : IntKind} {a : Int} (hk : AR Try.prog r m nt ops Q l ((e, .ptr sz b j 0) :: env) H) (ht : TyIs Try.prog T d := by exact ty rfl) (hk1 : d.tk = .slice E := by exact rfl) (he : TyIs Try.prog E de := by exact ty rfl) (hs : de.size = sz := by exact rfl) (hx : eo env x = some (.sl sz b 0 n) := by exact rfl) (hy : eo env y = some (.s (.int k a)) := by exact rfl) (hm : a = (j : Int) := by first | exact rfl | omega) (hj : j < n := by omega) (hd : e < nt := by exact dc rfl) :
    AR Try.prog r m nt ops Q (.q i ⟨some e, .indexAddr T x y, ty, pos, after, none⟩ :: l) env H := ar_q (qs_iaddr_sl0 ht hk1 he hs hx hy hm hj) hd hk
theorem zit {sz b o n j : Nat} {k : IntKind} {a : Int} (hk : AR Try.prog r m nt ops Q l ((e, .ptr sz b (o + j) 0) :: env) H) (ht : TyIs Try.prog T d := by exact ty rfl) (hk1 : d.tk = .slice E := by exact rfl) (he : TyIs Try.prog E de := by exact ty rfl) (hs : de.size = sz := by exact rfl) (hx : eo env x = some (.sl sz b o n) := by exact rfl) (hy : eo env y = some (.s (.int k a)) := by exact rfl) (hm : a = (j : Int) := by first | exact rfl | omega) (hj : j < n := by omega) (hd : e < nt := by exact dc rfl) :
    AR Try.prog r m nt ops Q (.q i ⟨some e, .indexAddr T x y, ty, pos, after, none⟩ :: l) env H := ar_q (qs_iaddr_sl ht hk1 he hs hx hy hm hj) hd hk
theorem zia {sz b o off n j : Nat} {k : IntKind} {a : Int} (hk : AR Try.prog r m nt ops Q l ((e, .ptr sz b o (off + j * de.size)) :: env) H) (ht : TyIs Try.prog T d := by exact ty rfl) (hk1 : d.tk = .array n E := by exact rfl) (he : TyIs Try.prog E de := by exact ty rfl) (hx : eo env x = some (.ptr sz b o off) := by exact rfl) (hy : eo env y = some (.s (.int k a)) := by exact rfl) (hm : a = (j : Int) := by first | exact rfl | omega) (hj : j < n := by omega) (hd : e < nt := by exact dc rfl) :
    AR Try.prog r m nt ops Q (.q i ⟨some e, .indexAddr T x y, ty, pos, after, none⟩ :: l) env H := ar_q (qs_iaddr_aptr ht hk1 he hx hy hm hj) hd hk
theorem zir {w : V} {off n j : Nat} {k : IntKind} {a : Int} (hk : AR Try.prog r m nt ops Q l ((e, .ref w (off + j * de.size)) :: env) H) (ht : TyIs Try.prog T d := by exact ty rfl) (hk1 : d.tk = .array n E := by exact rfl) (he : TyIs Try.prog E de := by exact ty rfl) (hx : eo env x = some (.ref w off) := by exact rfl) (hy : eo env y = some (.s (.int k a)) := by exact rfl) (hm : a = (j : Int) := by first | exact rfl | omega) (hj : j < n := by omega) (hd : e < nt := by exact dc rfl) :
    AR Try.prog r m nt ops Q (.q i ⟨some e, .indexAddr T x y, ty, pos, after, none⟩ :: l) env H := ar_q (qs_iaddr_aref ht hk1 he hx hy hm hj) hd hk
theorem zxl {sz n : Nat} {f : Nat → V} {k : IntKind} {a : Int} (h : ∀ j : Nat, a = (j : Int) → j < n → AR Try.prog r m nt ops Q l ((e, .ref (f j) 0) :: env) H) (ht : TyIs Try.prog T d := by exact ty rfl) (hk1 : d.tk = .slice E := by exact rfl) (he : TyIs Try.prog E de := by exact ty rfl) (hs : de.size = sz := by exact rfl) (hx : eo env x = some (.list sz n f) := by exact rfl) (hy : eo env y = some (.s (.int k a)) := by exact rfl) (h0 : 0 ≤ a ∧ a < (n : Int) := by omega) (hd : e < nt := by exact dc rfl) :
    AR Try.prog r m nt ops Q (.q i ⟨some e, .indexAddr T x y, ty, pos, after, none⟩ :: l) env H := ar_idx_list ht hk1 he hs hx hy hd h0 h
theorem zxs {sz b o n : Nat} {k : IntKind} {a : Int} (h : ∀ j : Nat, a = (j : Int) → j < n → AR Try.prog r m nt ops Q l ((e, .ptr sz b (o + j) 0) :: env) H) (ht : TyIs Try.prog T d := by exact ty rfl) (hk1 : d.tk = .slice E := by exact rfl) (he : TyIs Try.prog E de := by exact ty rfl) (hs : de.size = sz := by exact rfl) (hx : eo env x = some (.sl sz b o n) := by exact rfl) (hy : eo env y = some (.s (.int k a)) := by exact rfl) (h0 : 0 ≤ a ∧ a < (n : Int) := by omega) (hd : e < nt := by exact dc rfl) :
    AR Try.prog r m nt ops Q (.q i ⟨some e, .indexAddr T x y, ty, pos, after, none⟩ :: l) env H := ar_idx_sl ht hk1 he hs hx hy hd h0 h
theorem zll {sz n : Nat} {f : Nat → V} {ats : Array TypeId} (hk : AR Try.prog r m nt ops Q l ((e, .s (.int .i64 (n : Int))) :: env) H) (h0 : ats[0]? = some T := by exact rfl) (ht : TyIs Try.prog T d := by exact ty rfl) (hk1 : d.tk = .slice E := by exact rfl) (hx : eo env x = some (.list sz n f) := by exact rfl) (hd : e < nt := by exact dc rfl) :
    AR Try.prog r m nt ops Q (.q i ⟨some e, .call ⟨.builtin .len, #[x], ats⟩, ty, pos, after, none⟩ :: l) env H := ar_q (qs_len_list ht hk1 h0 hx) hd hk
theorem zls {sz b o n : Nat} {ats : Array TypeId} (hk : AR Try.prog r m nt ops Q l ((e, .s (.int .i64 (n : Int))) :: env) H) (h0 : ats[0]? = some T := by exact rfl) (ht : TyIs Try.prog T d := by exact ty rfl) (hk1 : d.tk = .slice E := by exact rfl) (hx : eo env x = some (.sl sz b o n) := by exact rfl) (hd : e < nt := by exact dc rfl) :
    AR Try.prog r m nt ops Q (.q i ⟨some e, .call ⟨.builtin .len, #[x], ats⟩, ty, pos, after, none⟩ :: l) env H := ar_q (qs_len_sl ht hk1 h0 hx) hd hk
theorem zln  {ats : Array TypeId} (hk : AR Try.prog r m nt ops Q l ((e, .s (.int .i64 0)) :: env) H) (h0 : ats[0]? = some T := by exact rfl) (ht : TyIs Try.prog T d := by exact ty rfl) (hk1 : d.tk = .slice E := by exact rfl) (hx : eo env x = some (.s (.slice none 0 0)) := by exact rfl) (hd : e < nt := by exact dc rfl) :
    AR Try.prog r m nt ops Q (.q i ⟨some e, .call ⟨.builtin .len, #[x], ats⟩, ty, pos, after, none⟩ :: l) env H := ar_q (qs_len_nil ht hk1 h0 hx) hd hk
theorem zle  {ats : Array TypeId} (hk : AR Try.prog r m nt ops Q l ((e, .s (.int .i64 0)) :: env) H) (h0 : ats[0]? = some T := by exact rfl) (ht : TyIs Try.prog T d := by exact ty rfl) (hk1 : d.tk = .slice E := by exact rfl) (hx : eo env x = some (.emp) := by exact rfl) (hd : e < nt := by exact dc rfl) :
    AR Try.prog r m nt ops Q (.q i ⟨some e, .call ⟨.builtin .len, #[x], ats⟩, ty, pos, after, none⟩ :: l) env H := ar_q (qs_len_emp ht hk1 h0 hx) hd hk
theorem zmin {k : IntKind} {a b : Int} {ats : Array TypeId} (hk : AR Try.prog r m nt ops Q l ((e, .s (.int k (min a b))) :: env) H) (hx : eo env x = some (.s (.int k a)) := by exact rfl) (hy : eo env y = some (.s (.int k b)) := by exact rfl) (hd : e < nt := by exact dc rfl) :
    AR Try.prog r m nt ops Q (.q i ⟨some e, .call ⟨.builtin .min, #[x, y], ats⟩, ty, pos, after, none⟩ :: l) env H := ar_q (qs_min hx hy) hd hk
theorem zmax {k : IntKind} {a b : Int} {ats : Array TypeId} (hk : AR Try.prog r m nt ops Q l ((e, .s (.int k (max a b))) :: env) H) (hx : eo env x = some (.s (.int k a)) := by exact rfl) (hy : eo env y = some (.s (.int k b)) := by exact rfl) (hd : e < nt := by exact dc rfl) :
    AR Try.prog r m nt ops Q (.q i ⟨some e, .call ⟨.builtin .max, #[x, y], ats⟩, ty, pos, after, none⟩ :: l) env H := ar_q (qs_max hx hy) hd hk
theorem zpt  (hk : AR Try.prog r m nt ops Q l ((e, v) :: env) H) (hc : eo env c = some (.s (.bool true)) := by exact rfl) (hx : eo env x = some v := by exact rfl) (hd : e < nt := by exact dc rfl) :
    AR Try.prog r m nt ops Q (.q i ⟨some e, .pick c x y, ty, pos, after, none⟩ :: l) env H := ar_q (qs_pick_t hc hx) hd hk
theorem zpf  (hk : AR Try.prog r m nt ops Q l ((e, v) :: env) H) (hc : eo env c = some (.s (.bool false)) := by exact rfl) (hx : eo env y = some v := by exact rfl) (hd : e < nt := by exact dc rfl) :
    AR Try.prog r m nt ops Q (.q i ⟨some e, .pick c x y, ty, pos, after, none⟩ :: l) env H := ar_q (qs_pick_f hc hx) hd hk
theorem zex {cs : List V} {k : Nat} (hk : AR Try.prog r m nt ops Q l ((e, v) :: env) H) (hx : eo env x = some (.tup cs) := by exact rfl) (hv : cs[k]? = some v := by exact rfl) (hd : e < nt := by exact dc rfl) :
    AR Try.prog r m nt ops Q (.q i ⟨some e, .extract x k, ty, pos, after, none⟩ :: l) env H := ar_q (qs_extract hx hv) hd hk
theorem znt {b : Bool} (hk : AR Try.prog r m nt ops Q l ((e, .s (.bool !b)) :: env) H) (hx : eo env x = some (.s (.bool b)) := by exact rfl) (hd : e < nt := by exact dc rfl) :
    AR Try.prog r m nt ops Q (.q i ⟨some e, .unOp .not T x, ty, pos, after, none⟩ :: l) env H := ar_q (qs_not hx) hd hk
theorem zng {a b : Int} (hk : AR Try.prog r m nt ops Q l ((e, .s (.int .i64 b)) :: env) H) (hx : eo env x = some (.s (.int .i64 a)) := by exact rfl) (hr : IntKind.i64.wrap (0 - a) = b := by exact wrap64n (by omega)) (hd : e < nt := by exact dc rfl) :
    AR Try.prog r m nt ops Q (.q i ⟨some e, .unOp .neg T x, ty, pos, after, none⟩ :: l) env H := ar_q (qs_neg hx hr) hd hk
theorem zncp {sz b j off : Nat} (hk : AR Try.prog r m nt ops Q l ((e, .ptr sz b j off) :: env) H) (hx : eo env x = some (.ptr sz b j off) := by exact rfl) (hd : e < nt := by exact dc rfl) :
    AR Try.prog r m nt ops Q (.q i ⟨some e, .nilCheck x, ty, pos, after, none⟩ :: l) env H := ar_q (qs_nck_ptr hx) hd hk
theorem zncr {w : V} {off : Nat} (hk : AR Try.prog r m nt ops Q l ((e, .ref w off) :: env) H) (hx : eo env x = some (.ref w off) := by exact rfl) (hd : e < nt := by exact dc rfl) :
    AR Try.prog r m nt ops Q (.q i ⟨some e, .nilCheck x, ty, pos, after, none⟩ :: l) env H := ar_q (qs_nck_ref hx) hd hk
theorem zmf {g : Fn} {us ws : Array Operand} {vs vs2 : List V} (hk : AR Try.prog r m nt ops Q l ((e, .fn g vs vs2) :: env) H) (h1 : us.toList.mapM (eo env) = some vs := by exact rfl) (h2 : ws.toList.mapM (eo env) = some vs2 := by exact rfl) (hd : e < nt := by exact dc rfl) :
    AR Try.prog r m nt ops Q (.q i ⟨some e, .makeFunc g us ws, ty, pos, after, none⟩ :: l) env H := ar_q (qs_makeFunc h1 h2) hd hk
theorem zcv {k : IntKind} {a b : Int} (hk : AR Try.prog r m nt ops Q l ((e, .s (.int .i64 b)) :: env) H) (ht : TyIs Try.prog T d := by exact ty rfl) (hk0 : d.tk = .int k := by exact rfl) (he : TyIs Try.prog E de := by exact ty rfl) (hk1 : de.tk = .int .i64 := by exact rfl) (hx : eo env x = some (.s (.int k a)) := by exact rfl) (hr : IntKind.i64.wrap a = b := by exact wrap64 (by omega)) (hd : e < nt := by exact dc rfl) :
    AR Try.prog r m nt ops Q (.q i ⟨some e, .convert T E x, ty, pos, after, none⟩ :: l) env H := ar_q (qs_conv ht hk0 he hk1 hx hr) hd hk
theorem zcvu64 {k : IntKind} {a b : Int} (hk : AR Try.prog r m nt ops Q l ((e, .s (.int .u64 b)) :: env) H) (ht : TyIs Try.prog T d := by exact ty rfl) (hk0 : d.tk = .int k := by exact rfl) (he : TyIs Try.prog E de := by exact ty rfl) (hk1 : de.tk = .int .u64 := by exact rfl) (hx : eo env x = some (.s (.int k a)) := by exact rfl) (hr : IntKind.u64.wrap a = b := by exact wrapU (by omega)) (hd : e < nt := by exact dc rfl) :
    AR Try.prog r m nt ops Q (.q i ⟨some e, .convert T E x, ty, pos, after, none⟩ :: l) env H := ar_q (qs_conv ht hk0 he hk1 hx hr) hd hk
theorem zcvu32 {k : IntKind} {a b : Int} (hk : AR Try.prog r m nt ops Q l ((e, .s (.int .u32 b)) :: env) H) (ht : TyIs Try.prog T d := by exact ty rfl) (hk0 : d.tk = .int k := by exact rfl) (he : TyIs Try.prog E de := by exact ty rfl) (hk1 : de.tk = .int .u32 := by exact rfl) (hx : eo env x = some (.s (.int k a)) := by exact rfl) (hr : IntKind.u32.wrap a = b := by exact wrapU32 (by omega)) (hd : e < nt := by exact dc rfl) :
    AR Try.prog r m nt ops Q (.q i ⟨some e, .convert T E x, ty, pos, after, none⟩ :: l) env H := ar_q (qs_conv ht hk0 he hk1 hx hr) hd hk
theorem zcl {sz n a b : Nat} {f : Nat → V} {lo hi : Option Operand} (hk : AR Try.prog r m nt ops Q l ((e, .list sz (b - a) (fun k => f (a + k))) :: env) H) (ht : TyIs Try.prog T d := by exact ty rfl) (hk1 : d.tk = .slice E := by exact rfl) (he : TyIs Try.prog E de := by exact ty rfl) (hs : de.size = sz := by exact rfl) (hx : eo env x = some (.list sz n f) := by exact rfl) (hl : bnd env lo 0 a := by first | exact rfl | exact ⟨_, rfl⟩ | exact bnd_some rfl (by omega)) (hh : bnd env hi n b := by first | exact rfl | exact ⟨_, rfl⟩ | exact bnd_some rfl (by omega)) (h1 : a ≤ b := by omega) (h2 : b ≤ n := by omega) (hd : e < nt := by exact dc rfl) :
    AR Try.prog r m nt ops Q (.q i ⟨some e, .slice T x lo hi none, ty, pos, after, none⟩ :: l) env H := ar_q (qs_slice_list ht hk1 he hs hx hl hh h1 h2) hd hk
theorem zcs {sz g o n a b : Nat} {lo hi : Option Operand} (hk : AR Try.prog r m nt ops Q l ((e, .sl sz g (o + a) (b - a)) :: env) H) (ht : TyIs Try.prog T d := by exact ty rfl) (hk1 : d.tk = .slice E := by exact rfl) (he : TyIs Try.prog E de := by exact ty rfl) (hs : de.size = sz := by exact rfl) (hx : eo env x = some (.sl sz g o n) := by exact rfl) (hl : bnd env lo 0 a := by first | exact rfl | exact ⟨_, rfl⟩ | exact bnd_some rfl (by omega)) (hh : bnd env hi n b := by first | exact rfl | exact ⟨_, rfl⟩ | exact bnd_some rfl (by omega)) (h1 : a ≤ b := by omega) (h2 : b ≤ n := by omega) (h3 : a < n ∨ a = 0 := by omega) (hd : e < nt := by exact dc rfl) :
    AR Try.prog r m nt ops Q (.q i ⟨some e, .slice T x lo hi none, ty, pos, after, none⟩ :: l) env H := ar_q (qs_slice_sl ht hk1 he hs hx hl hh h1 h2 h3) hd hk
theorem zbx  (h : AR Try.prog r m nt ops Q l ((e, .ptr v.cells.length H.length 0 0) :: env) (H ++ [.arr v.cells.length 1 (fun _ => v)])) (hx : eo env x = some v := by exact rfl) (hok : v.ok = true := by exact rfl) (hd : e < nt := by exact dc rfl) :
    AR Try.prog r m nt ops Q (.l i ⟨some e, .box T x, ty, pos, after, none⟩ keep :: l) env H := ar_boxf hx hok hd h
theorem zal  (h : AR Try.prog r m nt ops Q l ((e, .ptr (constV d.zero).cells.length H.length 0 0) :: env) (H ++ [.arr (constV d.zero).cells.length 1 (fun _ => constV d.zero)])) (ht : TyIs Try.prog T d := by exact ty rfl) (hok : (constV d.zero).ok = true := by exact rfl) (hd : e < nt := by exact dc rfl) :
    AR Try.prog r m nt ops Q (.l i ⟨some e, .alloc T, ty, pos, after, none⟩ keep :: l) env H := ar_alloc ht hok hd h
theorem zb1  (h : AR Try.prog r m nt ops Q l ((e, .sl de.size H.length 0 1) :: env) (H ++ [.arr de.size 1 (fun _ => v)])) (ht : TyIs Try.prog T d := by exact ty rfl) (hk1 : d.tk = .slice E := by exact rfl) (he : TyIs Try.prog E de := by exact ty rfl) (hx : eo env x = some v := by exact rfl) (hz : (constV de.zero).ok = true := by exact rfl) (hzs : de.zero.cells.size = de.size := by exact rfl) (hn : 1 * de.size ≤ 16777216 := by exact Nat.le_of_ble_eq_true rfl) (hs : v.cells.length = de.size := by exact rfl) (hok : v.ok = true := by exact rfl) (hd : e < nt := by exact dc rfl) :
    AR Try.prog r m nt ops Q (.l i ⟨some e, .buildSlice T 1 #[(0, x)], ty, pos, after, none⟩ keep :: l) env H := ar_build1 ht hk1 he hx hz hzs hn hs hok hd h
theorem zb0  (h : AR Try.prog r m nt ops Q l ((e, .emp) :: env) H) (ht : TyIs Try.prog T d := by exact ty rfl) (hk1 : d.tk = .slice E := by exact rfl) (he : TyIs Try.prog E de := by exact ty rfl) (hd : e < nt := by exact dc rfl) :
    AR Try.prog r m nt ops Q (.l i ⟨some e, .buildSlice T 0 #[], ty, pos, after, none⟩ keep :: l) env H := ar_build0 ht hk1 he hd h
theorem zapoo {dv yv : V} {sz n k : Nat} {f g : Nat → V} {H0 : Heap} (h : AR Try.prog r m nt ops Q l ((e, .sl sz H.length 0 (n + k)) :: env) (H0 ++ [.arr sz (n + k) (appF n f g)])) (ht : TyIs Try.prog T d := by exact ty rfl) (hk1 : d.tk = .slice E := by exact rfl) (he : TyIs Try.prog E de := by exact ty rfl) (hs : de.size = sz := by exact rfl) (hpos : 0 < sz := by exact Nat.succ_pos _) (hz : de.zero.cells.size = sz := by exact rfl) (hx : eo env x = some dv := by exact rfl) (hy : eo env y = some yv := by exact rfl) (hg : Grow H dv sz n f H0 := by exact (.inr (.inr ⟨_, rfl, rfl, rfl⟩))) (hsr : Src H yv sz k g := by exact (.inr (.inl ⟨_, _, _, _, rfl, rfl, (by omega), rfl⟩))) (hone : ∀ j, j < k → (g j).cells.all V.one = true := by exact fun _ _ => rfl) (hm : n + k ≤ maxLen := by first | exact maxLen_ok (by omega) | (unfold maxLen; omega)) (hb : (n + k) * de.bytes ≤ 140737488355328 := by (dsimp only; omega)) (hd : e < nt := by exact dc rfl) :
    AR Try.prog r m nt ops Q (.l i ⟨some e, .call ⟨.builtin .append, #[x, y], #[T, T]⟩, ty, pos, after, none⟩ keep :: l) env H := ar_append ht hk1 he hs hpos hz hx hy hg hsr hd hone hm hb h
theorem zapol {dv yv : V} {sz n k : Nat} {f g : Nat → V} {H0 : Heap} (h : AR Try.prog r m nt ops Q l ((e, .sl sz H.length 0 (n + k)) :: env) (H0 ++ [.arr sz (n + k) (appF n f g)])) (ht : TyIs Try.prog T d := by exact ty rfl) (hk1 : d.tk = .slice E := by exact rfl) (he : TyIs Try.prog E de := by exact ty rfl) (hs : de.size = sz := by exact rfl) (hpos : 0 < sz := by exact Nat.succ_pos _) (hz : de.zero.cells.size = sz := by exact rfl) (hx : eo env x = some dv := by exact rfl) (hy : eo env y = some yv := by exact rfl) (hg : Grow H dv sz n f H0 := by exact (.inr (.inr ⟨_, rfl, rfl, rfl⟩))) (hsr : Src H yv sz k g := by exact (.inl rfl)) (hone : ∀ j, j < k → (g j).cells.all V.one = true := by exact fun _ _ => rfl) (hm : n + k ≤ maxLen := by first | exact maxLen_ok (by omega) | (unfold maxLen; omega)) (hb : (n + k) * de.bytes ≤ 140737488355328 := by (dsimp only; omega)) (hd : e < nt := by exact dc rfl) :
    AR Try.prog r m nt ops Q (.l i ⟨some e, .call ⟨.builtin .append, #[x, y], #[T, T]⟩, ty, pos, after, none⟩ keep :: l) env H := ar_append ht hk1 he hs hpos hz hx hy hg hsr hd hone hm hb h
theorem zapno {dv yv : V} {sz n k : Nat} {g : Nat → V} {H0 : Heap} (h : AR Try.prog r m nt ops Q l ((e, .sl sz H.length 0 (n + k)) :: env) (H0 ++ [.arr sz (n + k) (appF n (fun _ => vnil) g)])) (ht : TyIs Try.prog T d := by exact ty rfl) (hk1 : d.tk = .slice E := by exact rfl) (he : TyIs Try.prog E de := by exact ty rfl) (hs : de.size = sz := by exact rfl) (hpos : 0 < sz := by exact Nat.succ_pos _) (hz : de.zero.cells.size = sz := by exact rfl) (hx : eo env x = some dv := by exact rfl) (hy : eo env y = some yv := by exact rfl) (hg : Grow H dv sz n (fun _ => vnil) H0 := by exact (.inl ⟨rfl, rfl, rfl⟩)) (hsr : Src H yv sz k g := by exact (.inr (.inl ⟨_, _, _, _, rfl, rfl, (by omega), rfl⟩))) (hone : ∀ j, j < k → (g j).cells.all V.one = true := by exact fun _ _ => rfl) (hm : n + k ≤ maxLen := by first | exact maxLen_ok (by omega) | (unfold maxLen; omega)) (hb : (n + k) * de.bytes ≤ 140737488355328 := by (dsimp only; omega)) (hd : e < nt := by exact dc rfl) :
    AR Try.prog r m nt ops Q (.l i ⟨some e, .call ⟨.builtin .append, #[x, y], #[T, T]⟩, ty, pos, after, none⟩ keep :: l) env H := ar_append ht hk1 he hs hpos hz hx hy hg hsr hd hone hm hb h
theorem zapnl {dv yv : V} {sz n k : Nat} {g : Nat → V} {H0 : Heap} (h : AR Try.prog r m nt ops Q l ((e, .sl sz H.length 0 (n + k)) :: env) (H0 ++ [.arr sz (n + k) (appF n (fun _ => vnil) g)])) (ht : TyIs Try.prog T d := by exact ty rfl) (hk1 : d.tk = .slice E := by exact rfl) (he : TyIs Try.prog E de := by exact ty rfl) (hs : de.size = sz := by exact rfl) (hpos : 0 < sz := by exact Nat.succ_pos _) (hz : de.zero.cells.size = sz := by exact rfl) (hx : eo env x = some dv := by exact rfl) (hy : eo env y = some yv := by exact rfl) (hg : Grow H dv sz n (fun _ => vnil) H0 := by exact (.inl ⟨rfl, rfl, rfl⟩)) (hsr : Src H yv sz k g := by exact (.inl rfl)) (hone : ∀ j, j < k → (g j).cells.all V.one = true := by exact fun _ _ => rfl) (hm : n + k ≤ maxLen := by first | exact maxLen_ok (by omega) | (unfold maxLen; omega)) (hb : (n + k) * de.bytes ≤ 140737488355328 := by (dsimp only; omega)) (hd : e < nt := by exact dc rfl) :
    AR Try.prog r m nt ops Q (.l i ⟨some e, .call ⟨.builtin .append, #[x, y], #[T, T]⟩, ty, pos, after, none⟩ keep :: l) env H := ar_append ht hk1 he hs hpos hz hx hy hg hsr hd hone hm hb h
theorem zapeo {dv yv : V} {sz n k : Nat} {g : Nat → V} {H0 : Heap} (h : AR Try.prog r m nt ops Q l ((e, .sl sz H.length 0 (n + k)) :: env) (H0 ++ [.arr sz (n + k) (appF n (fun _ => vnil) g)])) (ht : TyIs Try.prog T d := by exact ty rfl) (hk1 : d.tk = .slice E := by exact rfl) (he : TyIs Try.prog E de := by exact ty rfl) (hs : de.size = sz := by exact rfl) (hpos : 0 < sz := by exact Nat.succ_pos _) (hz : de.zero.cells.size = sz := by exact rfl) (hx : eo env x = some dv := by exact rfl) (hy : eo env y = some yv := by exact rfl) (hg : Grow H dv sz n (fun _ => vnil) H0 := by exact (.inr (.inl ⟨rfl, rfl, rfl⟩))) (hsr : Src H yv sz k g := by exact (.inr (.inl ⟨_, _, _, _, rfl, rfl, (by omega), rfl⟩))) (hone : ∀ j, j < k → (g j).cells.all V.one = true := by exact fun _ _ => rfl) (hm : n + k ≤ maxLen := by first | exact maxLen_ok (by omega) | (unfold maxLen; omega)) (hb : (n + k) * de.bytes ≤ 140737488355328 := by (dsimp only; omega)) (hd : e < nt := by exact dc rfl) :
    AR Try.prog r m nt ops Q (.l i ⟨some e, .call ⟨.builtin .append, #[x, y], #[T, T]⟩, ty, pos, after, none⟩ keep :: l) env H := ar_append ht hk1 he hs hpos hz hx hy hg hsr hd hone hm hb h
theorem zapel {dv yv : V} {sz n k : Nat} {g : Nat → V} {H0 : Heap} (h : AR Try.prog r m nt ops Q l ((e, .sl sz H.length 0 (n + k)) :: env) (H0 ++ [.arr sz (n + k) (appF n (fun _ => vnil) g)])) (ht : TyIs Try.prog T d := by exact ty rfl) (hk1 : d.tk = .slice E := by exact rfl) (he : TyIs Try.prog E de := by exact ty rfl) (hs : de.size = sz := by exact rfl) (hpos : 0 < sz := by exact Nat.succ_pos _) (hz : de.zero.cells.size = sz := by exact rfl) (hx : eo env x = some dv := by exact rfl) (hy : eo env y = some yv := by exact rfl) (hg : Grow H dv sz n (fun _ => vnil) H0 := by exact (.inr (.inl ⟨rfl, rfl, rfl⟩))) (hsr : Src H yv sz k g := by exact (.inl rfl)) (hone : ∀ j, j < k → (g j).cells.all V.one = true := by exact fun _ _ => rfl) (hm : n + k ≤ maxLen := by first | exact maxLen_ok (by omega) | (unfold maxLen; omega)) (hb : (n + k) * de.bytes ≤ 140737488355328 := by (dsimp only; omega)) (hd : e < nt := by exact dc rfl) :
    AR Try.prog r m nt ops Q (.l i ⟨some e, .call ⟨.builtin .append, #[x, y], #[T, T]⟩, ty, pos, after, none⟩ keep :: l) env H := ar_append ht hk1 he hs hpos hz hx hy hg hsr hd hone hm hb h
theorem zsvs {sz b off : Nat} {f : Nat → V} (h : AR Try.prog r m nt ops Q l env (H.set b (.arr sz 1 (fun _ => putPart (f 0) off v)))) (ht : TyIs Try.prog T d := by exact ty rfl) (hx : eo env x = some (.ptr sz b 0 off) := by exact rfl) (hy : eo env y = some v := by exact rfl) (hH : H[b]? = some (.arr sz 1 f) := by exact rfl) (hok : v.ok = true := by exact rfl) (hone : v.cells.all V.one = true := by exact rfl) (hsz : v.cells.length = d.size := by exact rfl) (hoff : off + d.size ≤ sz := by first | (dsimp only; omega) | exact dc rfl) (ha : (∃ cs, f 0 = .agg cs) ∨ (off = 0 ∧ v.cells.length = 1 ∧ (f 0).cells.length = 1 ∧ ∀ cs, v ≠ .agg cs) := by exact (.inr ⟨rfl, rfl, rfl, fun _ h => by cases h⟩))  :
    AR Try.prog r m nt ops Q (.l i ⟨none, .store T x y, ty, pos, after, none⟩ false :: l) env H := ar_store_var ht hx hy hH hok hone hsz hoff ha h
theorem zses {sz b j off n : Nat} {f : Nat → V} (h : AR Try.prog r m nt ops Q l env (H.set b (.arr sz n (upd f j (putPart (f j) off v))))) (ht : TyIs Try.prog T d := by exact ty rfl) (hx : eo env x = some (.ptr sz b j off) := by exact rfl) (hy : eo env y = some v := by exact rfl) (hH : H[b]? = some (.arr sz n f) := by exact rfl) (hok : v.ok = true := by exact rfl) (hone : v.cells.all V.one = true := by exact rfl) (hsz : v.cells.length = d.size := by exact rfl) (hi : j < n := by first | exact Nat.one_pos | assumption | omega) (hoff : off + d.size ≤ sz := by first | (dsimp only; omega) | exact dc rfl) (ha : (∃ cs, f j = .agg cs) ∨ (off = 0 ∧ v.cells.length = 1 ∧ (f j).cells.length = 1 ∧ ∀ cs, v ≠ .agg cs) := by exact (.inr ⟨rfl, rfl, rfl, fun _ h => by cases h⟩))  :
    AR Try.prog r m nt ops Q (.l i ⟨none, .store T x y, ty, pos, after, none⟩ false :: l) env H := ar_store_elt ht hx hy hH hok hone hsz hi hoff ha h
theorem zsva {sz b off : Nat} {f : Nat → V} (h : AR Try.prog r m nt ops Q l env (H.set b (.arr sz 1 (fun _ => putPart (f 0) off v)))) (ht : TyIs Try.prog T d := by exact ty rfl) (hx : eo env x = some (.ptr sz b 0 off) := by exact rfl) (hy : eo env y = some v := by exact rfl) (hH : H[b]? = some (.arr sz 1 f) := by exact rfl) (hok : v.ok = true := by exact rfl) (hone : v.cells.all V.one = true := by exact rfl) (hsz : v.cells.length = d.size := by exact rfl) (hoff : off + d.size ≤ sz := by first | (dsimp only; omega) | exact dc rfl) (ha : (∃ cs, f 0 = .agg cs) ∨ (off = 0 ∧ v.cells.length = 1 ∧ (f 0).cells.length = 1 ∧ ∀ cs, v ≠ .agg cs) := by exact (.inl ⟨_, rfl⟩))  :
    AR Try.prog r m nt ops Q (.l i ⟨none, .store T x y, ty, pos, after, none⟩ false :: l) env H := ar_store_var ht hx hy hH hok hone hsz hoff ha h
theorem zsea {sz b j off n : Nat} {f : Nat → V} (h : AR Try.prog r m nt ops Q l env (H.set b (.arr sz n (upd f j (putPart (f j) off v))))) (ht : TyIs Try.prog T d := by exact ty rfl) (hx : eo env x = some (.ptr sz b j off) := by exact rfl) (hy : eo env y = some v := by exact rfl) (hH : H[b]? = some (.arr sz n f) := by exact rfl) (hok : v.ok = true := by exact rfl) (hone : v.cells.all V.one = true := by exact rfl) (hsz : v.cells.length = d.size := by exact rfl) (hi : j < n := by first | exact Nat.one_pos | assumption | omega) (hoff : off + d.size ≤ sz := by first | (dsimp only; omega) | exact dc rfl) (ha : (∃ cs, f j = .agg cs) ∨ (off = 0 ∧ v.cells.length = 1 ∧ (f j).cells.length = 1 ∧ ∀ cs, v ≠ .agg cs) := by exact (.inl ⟨_, rfl⟩))  :
    AR Try.prog r m nt ops Q (.l i ⟨none, .store T x y, ty, pos, after, none⟩ false :: l) env H := ar_store_elt ht hx hy hH hok hone hsz hi hoff ha h
theorem zcpl {yv : V} {b o n N k : Nat} {f g : Nat → V} {T2 : TypeId} (h : AR Try.prog r m nt ops Q l ((e, vi (Nat.min k n)) :: env) (H.set b (.arr 1 N (copyF f o (Nat.min k n) g)))) (ht : TyIs Try.prog T d := by exact ty rfl) (hk1 : d.tk = .slice E := by exact rfl) (he : TyIs Try.prog E de := by exact ty rfl) (hs1 : de.size = 1 := by exact rfl) (hx : eo env x = some (.sl 1 b o n) := by exact rfl) (hH : H[b]? = some (.arr 1 N f) := by exact rfl) (hN : o + n ≤ N := by omega) (hy : eo env y = some yv := by exact rfl) (hsr : Src H yv 1 k g := by exact (.inl rfl)) (hone : ∀ j, j < k → (g j).cells.all V.one = true := by exact fun _ _ => rfl) (hd : e < nt := by exact dc rfl) :
    AR Try.prog r m nt ops Q (.l i ⟨some e, .call ⟨.builtin .copy, #[x, y], #[T, T2]⟩, ty, pos, after, none⟩ false :: l) env H := ar_copy ht hk1 he hs1 hx hH hN hy hsr hone hd h
theorem zcpo {yv : V} {b o n N k : Nat} {f g : Nat → V} {T2 : TypeId} (h : AR Try.prog r m nt ops Q l ((e, vi (Nat.min k n)) :: env) (H.set b (.arr 1 N (copyF f o (Nat.min k n) g)))) (ht : TyIs Try.prog T d := by exact ty rfl) (hk1 : d.tk = .slice E := by exact rfl) (he : TyIs Try.prog E de := by exact ty rfl) (hs1 : de.size = 1 := by exact rfl) (hx : eo env x = some (.sl 1 b o n) := by exact rfl) (hH : H[b]? = some (.arr 1 N f) := by exact rfl) (hN : o + n ≤ N := by omega) (hy : eo env y = some yv := by exact rfl) (hsr : Src H yv 1 k g := by exact (.inr (.inl ⟨_, _, _, _, rfl, rfl, (by omega), rfl⟩))) (hone : ∀ j, j < k → (g j).cells.all V.one = true := by exact fun _ _ => rfl) (hd : e < nt := by exact dc rfl) :
    AR Try.prog r m nt ops Q (.l i ⟨some e, .call ⟨.builtin .copy, #[x, y], #[T, T2]⟩, ty, pos, after, none⟩ false :: l) env H := ar_copy ht hk1 he hs1 hx hH hN hy hsr hone hd h
theorem zgu {s : Stp} {g t : Nat} {want : Bool} (h : AR Try.prog r m nt ops Q l ((e, .s undef) :: env) H) (hg : s.oper.guard = some (g, want) := by exact rfl) (ht : (ops[g]?).bind (·.dst) = some t := by exact rfl) (hd : s.oper.dst = some e := by exact rfl) (hb : look env t = some (.s undef) := by exact rfl) (hdn : e < nt := by exact dc rfl) : AR Try.prog r m nt ops Q (s :: l) env H := ar_guard_u hg ht hd hb hdn h
theorem zg {s : Stp} {g t : Nat} {b want : Bool} (hy : b = want → AR Try.prog r m nt ops Q (s.bare :: l) ((t, .s (.bool want)) :: env) H) (hn : b = !want → AR Try.prog r m nt ops Q l ((e, .s undef) :: (t, .s (.bool !want)) :: env) H) (hg : s.oper.guard = some (g, want) := by exact rfl) (ht : (ops[g]?).bind (·.dst) = some t := by exact rfl) (hb : look env t = some (.s (.bool b)) := by exact rfl) (hd : s.oper.dst = some e := by exact rfl) (hdn : e < nt := by exact dc rfl) : AR Try.prog r m nt ops Q (s :: l) env H := ar_guard hg ht hb hd hdn hy hn
theorem zco {x : Operand} {c1 c2 : Code} {b : Bool} (hy : b = true → AW Try.prog r m nt c1 Q env H) (hn : b = false → AW Try.prog r m nt c2 Q env H) (hc : eo env x = some (.s (.bool b)) := by exact rfl) : AW Try.prog r m nt (.cond x c1 c2) Q env H := aw_cond hc hy hn
end Go.Proofs.Ythpbjihnikapoaa
namespace Go.Proofs.Ythpbjihnikapoaa
open Go.RowKit
abbrev encInts (l : List Int) : V := LV 1 vi l
abbrev encBools (l : List Bool) : V := LV 1 vb l
abbrev encRows (b : List (List Int)) : V := LV 1 encInts b
structure Sheet where
  cols : Int
  rows : Int
  weight : Int
  clear : Int
  lean : Int
def Sheet.enc (s : Sheet) : V := .agg [vi s.cols, vi s.rows, vi s.weight, vi s.clear, vi s.lean]
def withinB (n lo hi : Int) : Bool := decide (lo ≤ n) && decide (n ≤ hi)
theorem withinB_iff {n lo hi : Int} : withinB n lo hi = true ↔ lo ≤ n ∧ n ≤ hi := by simp [withinB]
theorem withinB_no {n lo hi : Int} : withinB n lo hi = false ↔ ¬ (lo ≤ n ∧ n ≤ hi) := by rw [← withinB_iff]; simp
def Sheet.ok (s : Sheet) : Bool := withinB s.cols 1 40 && withinB s.rows 1 60 && withinB s.weight 1 8 && withinB s.clear 0 20 && withinB s.lean 0 8
def Sheet.err (s : Sheet) : Int := if s.ok then 0 else 70
theorem Sheet.bounds {s : Sheet} (h : s.ok = true) : 1 ≤ s.cols ∧ s.cols ≤ 40 ∧ 1 ≤ s.rows ∧ s.rows ≤ 60 ∧ 1 ≤ s.weight ∧ s.weight ≤ 8 ∧ 0 ≤ s.clear ∧ s.clear ≤ 20 ∧ 0 ≤ s.lean ∧ s.lean ≤ 8 := by
  simp only [Sheet.ok, Bool.and_eq_true, withinB_iff] at h
  omega
def lineAt (s : Sheet) (l : List Int) (k : Nat) : Bool := withinB (el l k) 0 (s.rows - s.weight) && (decide (k = 0) || withinB (el l k - el l (k - 1)) (-s.lean) s.lean)
def isLineB (s : Sheet) (l : List Int) : Bool := decide ((l.length : Int) = s.cols) && (List.range l.length).all (lineAt s l)
set_option maxHeartbeats 400000 in
theorem within_p (n lo hi : Int) : PCalls Try.prog 94 [vi n, vi lo, vi hi] (· = vb (withinB n lo hi)) := by
  refine pcalls_of_aw Try.func94 rfl (Nat.le_of_ble_eq_true rfl) ?_
  (repeat' (first | (refine ar_isq ?_; first | refine zmv ?_ | refine zas ?_ | (refine is_binOp ?_; first | refine zleq ?_ | refine zgeq ?_) | (refine is_pick ?_; first | refine zpt ?_ | refine zpf ?_)) | (refine zg ?_ ?_ <;> intro hg <;> first | exact absurd hg (by decide) | ((try replace hg := HG.out hg); (try dsimp only at hg); (try (have _h : True := hg; clear _h hg)); first | (exfalso; omega) | skip)) | (refine zgu ?_) | (refine ar_nil ?_) | (refine aw_seq ?_) | (refine aw_skip ?_) | (refine aw_block ?_) | (refine aw_exit ?_) | (refine aw_region ?_) | (refine zco ?_ ?_ <;> intro hg <;> first | exact absurd hg (by decide) | ((try replace hg := HG.out hg); (try dsimp only at hg); (try (have _h : True := hg; clear _h hg)); first | (exfalso; omega) | skip))))
  all_goals (refine aw_ret ?_; (repeat (first | refine ret_then ?_ | refine ret_block ?_)); refine bq1 rfl ⟨?_, rfl⟩)
  all_goals (simp only [vb, constV, withinB]; congr 2; simp; try omega)
set_option maxHeartbeats 400000 in
theorem checkSheet_p (s : Sheet) : PCalls Try.prog 72 [s.enc] (· = vi s.err) := by
  refine pcalls_of_aw Try.func72 rfl (Nat.le_of_ble_eq_true rfl) ?_
  (repeat' (first | (refine ar_isq ?_; first | refine zmv ?_ | refine zas ?_ | (refine is_load ?_; first | refine zlp ?_ | refine zlr ?_) | (refine is_fieldAddr ?_; first | refine zfp ?_ | refine zfr ?_) | (refine is_pick ?_; first | refine zpt ?_ | refine zpf ?_) | refine znt ?_) | (refine ar_pcall (own := false) fn94 rfl rfl (.cons (.closed rfl) (.cons (.closed rfl) (.cons (.closed rfl) .nil))) (within_p _ _ _) (by simp) (dc rfl) ?_; intro _ hv; subst hv) | (refine zbx ?_) | (refine zg ?_ ?_ <;> intro hg <;> first | exact absurd hg (by decide) | ((try replace hg := HG.out hg); (try dsimp only at hg); (try (have _h : True := hg; clear _h hg)); first | (exfalso; omega) | skip)) | (refine zgu ?_) | (refine ar_nil ?_) | (refine aw_seq ?_) | (refine aw_skip ?_) | (refine aw_block ?_) | (refine aw_exit ?_) | (refine aw_region ?_) | (refine zco ?_ ?_ <;> intro hg <;> first | exact absurd hg (by decide) | ((try replace hg := HG.out hg); (try dsimp only at hg); (try (have _h : True := hg; clear _h hg)); first | (exfalso; omega) | skip))))
  all_goals (refine aw_ret ?_; (repeat (first | refine ret_then ?_ | refine ret_block ?_)); refine bq1 rfl ⟨?_, rfl⟩)
  all_goals (simp only [vi, constV, Sheet.err, Sheet.ok]; simp_all)
end Go.Proofs.Ythpbjihnikapoaa
namespace Go.Proofs.Ythpbjihnikapoaa
open Go.ChangeShapes Go.WideShapes Go.ChangeAt Go.RowKit Go.Deep
structure Screen where
  period : Int
  phase : Int
def Screen.enc (s : Screen) : V := .agg [vi s.period, vi s.phase]
theorem rv_Int : ReadsV Try.prog 3 vi i64ok 1 := rv_int Try.underlying3 (by kernel_rfl)
theorem rv_ints : ReadsV Try.prog 60 (LV 1 vi) (fun l => ∀ y, y ∈ l → i64ok y) 1 := rv_list Try.underlying60 (by kernel_rfl) rv_Int
set_option maxRecDepth 100000 in
theorem rv_sheet : ReadsV Try.prog 34 Sheet.enc (fun s => i64ok s.cols ∧ i64ok s.rows ∧ i64ok s.weight ∧ i64ok s.clear ∧ i64ok s.lean) 5 :=
  ⟨by kernel_rfl, by omega, fun {_ _ _ _ _ _ _ cs _} h => by
    have hlen := struct_len Try.underlying34 h
    rw [show Try.prog.cellsOf 34 = 5 by kernel_rfl] at hlen
    obtain ⟨k0, o0, l0, e0⟩ := struct_part Try.underlying34 h 0 rfl rv_Int
    obtain ⟨k1, o1, l1, e1⟩ := struct_part Try.underlying34 h 1 rfl rv_Int
    obtain ⟨k2, o2, l2, e2⟩ := struct_part Try.underlying34 h 2 rfl rv_Int
    obtain ⟨k3, o3, l3, e3⟩ := struct_part Try.underlying34 h 3 rfl rv_Int
    obtain ⟨k4, o4, l4, e4⟩ := struct_part Try.underlying34 h 4 rfl rv_Int
    refine ⟨⟨k0, k1, k2, k3, k4⟩, ⟨o0, o1, o2, o3, o4⟩, hlen, hlen.symm, fun j x u hx hu => ?_⟩
    match j, hx with
    | 0, hx => cases hx; exact cells_one e0 rfl hu
    | 1, hx => cases hx; exact cells_one e1 rfl hu
    | 2, hx => cases hx; exact cells_one e2 rfl hu
    | 3, hx => cases hx; exact cells_one e3 rfl hu
    | 4, hx => cases hx; exact cells_one e4 rfl hu
    | j + 5, hx => simp [Sheet.enc, cells_agg] at hx⟩
section
variable {H : Type} {enc : TypeId × Value → H} {w : World} {base : Nat} {spare : Nat → Bool} {held : Bool} {r : Reach} {b0 : Nat} {v : Value} {d : DataW H} {p : List MemPlace}
set_option maxRecDepth 100000 in
theorem arg_sheet (hv : Value.okWide Try.prog w r b0 34 v) (h : DataW.Trod enc Try.prog w base spare held 34 v d p) : ∃ s : Sheet, (i64ok s.cols ∧ i64ok s.rows ∧ i64ok s.weight ∧ i64ok s.clear ∧ i64ok s.lean) ∧ VRel (snap w) [] s.enc v := arg_struct Try.underlying34 rv_sheet (fun _ => rfl) hv h
end
end Go.Proofs.Ythpbjihnikapoaa
namespace Go.Proofs.Ythpbjihnikapoaa
open Go.RowKit
section
variable {H : Heap} {σ : List (Option Nat)} {fr : Nat → Prop} {α : Type} [Inhabited α]
theorem frz_as {b sz n N : Nat} {e : α → V} {l : List α} {f : Nat → V} (hf : fr b) (hb : H[b]? = some (.arr sz N f)) (hn : n = N) (hl : l.length = N) (hg : ∀ i, i < N → f i = e (el l i)) (hc : ∀ y, V.closed.all (e y).cells = true) : VSub H σ fr (.sl sz b 0 n) (LV sz e l) := by
  subst hn hl
  exact .frz hf hb (by omega) (fun i hi => by rw [hg i hi]; exact hc _) (fun i hi => by rw [Nat.zero_add]; exact (hg i hi).symm)
end
theorem upd_same {f : Nat → V} {i : Nat} {v : V} : upd f i v i = v := by rw [upd_at, if_pos rfl]
theorem upd_other {f : Nat → V} {i j : Nat} {v : V} (h : j ≠ i) : upd f i v j = f j := by rw [upd_at, if_neg h]
section
variable {P : Program} {r : Option Nat} {m nt : Nat} {Q : Post} {env : Env} {H : Heap} {ops : Array Oper} {l : List Stp} {ty : TypeId} {pos : String} {after : Array Edge} {x y : Operand} {T E : TypeId} {d de : TyD} {i dst : Nat} {keep : Bool}
theorem ar_make_v {n : Nat} {kl kc : IntKind} {v v' : Int} (ht : TyIs P T d) (hk : d.tk = .slice E) (he : TyIs P E de) (hx : eo env x = some (.s (.int kl v))) (hy : eo env y = some (.s (.int kc v'))) (hv : v = (n : Int)) (hv' : v' = (n : Int)) (hd : dst < nt) (hok : (constV de.zero).ok = true) (hz : (constV de.zero).cells.length = de.size) (hb : de.bytes * n ≤ 281474976710656) (hm : n ≤ maxLen)
    (h : AR P r m nt ops Q l ((dst, .sl de.size H.length 0 n) :: env) (H ++ [.arr de.size n (fun _ => constV de.zero)])) : AR P r m nt ops Q (.l i ⟨some dst, .makeSlice T x y, ty, pos, after, none⟩ keep :: l) env H := by
  subst hv hv'
  exact ar_make ht hk he hx hy hd hok hz hb hm h
end
section
variable {P : Program} {r : Option Nat} {m nt : Nat} {Q : Post} {env env' : Env} {H H' : Heap} {ops : Array Oper} {l : List Stp} {ty : TypeId} {pos : String} {after : Array Edge} {i dst : Nat} {op : Op}
/-- Other words for what is known, ahead of an operation behind which nothing need stand avs it stood. -/
theorem ar_sub_l (hs : SubOf m nt env H env' H') (h : AR P r m nt ops Q (.l i ⟨some dst, op, ty, pos, after, none⟩ false :: l) env' H') : AR P r m nt ops Q (.l i ⟨some dst, op, ty, pos, after, none⟩ false :: l) env H := .mk fun X I ρ a w hX hst => by
  obtain ⟨I', ρ', _, h2⟩ := hs.1 X I ρ a w hX hst
  have h3 := h.1 X I' ρ' a w hX h2
  refine ⟨fun hw => ?_, fun hw => by rw [wanted_none rfl] at hw; cases hw⟩
  refine Oper.wpIn_mono (fun a' w' ⟨S', h4, _, h5⟩ => ⟨S', h4, (fun h => by cases h), h5⟩) (h3.1 hw)
end
section
variable {P : Program} {r : Option Nat} {m nt : Nat} {Q : Post} {env : Env} {H : Heap} {ops : Array Oper} {l : List Stp} {ty : TypeId} {pos : String} {after : Array Edge} {i : Nat} {T : TypeId} {d : TyD} {x y : Operand}
theorem putPart_one {x v : V} (h : ∀ cs, x ≠ .agg cs) : putPart x 0 v = v := by
  unfold putPart
  split
  · exact (h _ rfl).elim
  · rfl
/-- A store of a whole element of one cell, the row said in new words. -/
theorem ar_store_as {v : V} {sz b j n : Nat} {f : Nat → V} (g : Nat → V) (ht : TyIs P T d) (hx : eo env x = some (.ptr sz b j 0)) (hy : eo env y = some v) (hH : H[b]? = some (.arr sz n f)) (hok : v.ok = true) (hone : v.cells.all V.one = true)
    (hsz : v.cells.length = d.size) (hi : j < n) (hoff : 0 + d.size ≤ sz) (hv : ∀ cs, v ≠ .agg cs) (hv1 : v.cells.length = 1) (hf1 : (f j).cells.length = 1) (hf : ∀ cs, f j ≠ .agg cs) (hgj : g j = v) (hg : ∀ i, i < n → i ≠ j → g i = f i) (h : AR P r m nt ops Q l env (H.set b (.arr sz n g))) :
    AR P r m nt ops Q (.l i ⟨none, .store T x y, ty, pos, after, none⟩ false :: l) env H :=
  ar_l0 (ls_store_g ht hx hy hok hone hH hi hsz hoff (.inr ⟨rfl, hv1, hf1, hv⟩) (by rw [putPart_one hf, hgj]) hg) (fun v H' a => by subst a; exact h) (fun _ _ h => h.elim)
end
end Go.Proofs.Ythpbjihnikapoaa
namespace Go.Proofs.Ythpbjihnikapoaa
open Go.RowKit
section
variable {X : Ctx} {I J K : Imm} {ρ : List (Option (Nat × Nat))} {H : Heap} {w w' : World}
theorem WOk.grown {row : Option Nat} (h : WOk X I ρ H w) (hg : w.grownBy w' row) (hrow : ∀ r, row = some r → X.w.heap.size ≤ r ∧ I r = Option.none ∧ ∃ o : Obj, w.heap[r]? = some o ∧ o.isCells = false) (hm : ∀ (k : Nat) m, H[k]? ≠ some (.map m)) : WOk X I ρ H w' := by
  have blk : ∀ b o, w.heap[b]? = some o → (row ≠ some b) → w'.heap[b]? = some o := fun b o hb hr => (hg.block b (Array.getElem?_eq_some_iff.1 hb).1 (Ne.symm hr)).trans hb
  exact { len := h.len, inj := h.inj
          imm := fun b o hb => blk b o (h.imm b o hb) fun e => by rw [(hrow b e).2.1] at hb; cases hb
          apart := h.apart, size := h.size, none := h.none
          arr := fun k sz n f b z hk hρ => by
            obtain ⟨cs, ty, h1, h2⟩ := h.arr k sz n f b z hk hρ
            exact ⟨cs, ty, blk b _ h1 (fun e => by obtain ⟨_, _, o, h3, h4⟩ := hrow b e; rw [h1] at h3; cases h3; cases h4), h2⟩
          map := fun k m hk => (hm k m hk).elim
          mine := h.mine, news := h.news, le := h.le, pre := h.pre, os := hg.os.trans h.os, tape := hg.tape.trans h.tape, out := hg.output.trans h.out, grow := Nat.le_trans h.grow hg.size
          keep := fun b hb hl => (hg.block b (Nat.lt_of_lt_of_le hb h.grow) fun e => by have := (hrow b e.symm).1; omega).trans (h.keep b hb hl) }
theorem WOk.cut (h : WOk X I ρ H w) (hJ : J.le I) (hX : X.I.le J) (hc : ∀ b cs ty fz, I b = some (.cells cs ty fz) → J b = some (.cells cs ty fz)) : WOk X J ρ H w :=
  { len := h.len, inj := h.inj, imm := fun b o hb => h.imm b o (hJ b o hb)
    apart := fun b hb => by
      cases e : J b with
      | none => rfl
      | some o => have := hJ b o e; rw [h.apart b hb] at this; cases this
    size := h.size, none := h.none
    arr := fun k sz n f b z hk hρ => by
      obtain ⟨cs, ty, h1, h2, h3, h4⟩ := h.arr k sz n f b z hk hρ
      exact ⟨cs, ty, h1, h2, h3, fun i j v hi hv => by obtain ⟨u, h5, h6⟩ := h4 i j v hi hv; exact ⟨u, h5, h6.cut hc⟩⟩
    map := fun k m hk => by
      obtain ⟨b, h1, es, clk, h2, h3, h4⟩ := h.map k m hk
      exact ⟨b, h1, es, clk, h2, h3, fun i e x he hx => ⟨(h4 i e x he hx).1, (h4 i e x he hx).2.cut hc⟩⟩
    mine := h.mine
    news := fun b hb => h.news b fun e => by
      cases e' : J b with
      | none => exact hb e'
      | some o => rw [hJ b o e'] at e; cases e
    le := hX, pre := h.pre, os := h.os, tape := h.tape, out := h.out, grow := h.grow, keep := h.keep }
theorem WOk.more (h : WOk X I ρ H w) (hI : I.le J) (hJ : ∀ b o, J b = some o → w.heap[b]? = some o) (hn : ∀ b, J b ≠ Option.none → I b ≠ Option.none ∨ (X.w.heap.size ≤ b ∧ ¬ Live H ρ b)) : WOk X J ρ H w :=
  { len := h.len, inj := h.inj, imm := hJ
    apart := fun b hb => by
      cases e : J b with
      | none => rfl
      | some o =>
        rcases hn b (by rw [e]; simp) with h1 | h1
        · exact (h1 (h.apart b hb)).elim
        · exact (h1.2 hb).elim
    size := h.size, none := h.none
    arr := fun k sz n f b z hk hρ => (h.arr k sz n f b z hk hρ).mono hI (Pre.refl _) rfl
    map := fun k m hk => by
      obtain ⟨b, h1, h2⟩ := h.map k m hk
      exact ⟨b, h1, h2.mono hI (Pre.refl _) rfl⟩
    mine := h.mine
    news := fun b hb => by
      rcases hn b hb with h1 | h1
      · exact h.news b h1
      · exact .inr (.inl h1.1)
    le := Imm.le_trans h.le hI, pre := h.pre, os := h.os, tape := h.tape, out := h.out, grow := h.grow, keep := h.keep }
theorem WOk.ctx (h : WOk X I ρ H w) : WOk ⟨X.w, X.ρ, X.H, I, X.base⟩ I ρ H w :=
  { h with news := fun _ hb => .inl hb, le := Imm.le_refl _ }
theorem WOk.unctx (h : WOk ⟨X.w, X.ρ, X.H, K, X.base⟩ I ρ H w) (hX : X.I.le K) (hn : ∀ b, K b ≠ Option.none → X.I b ≠ Option.none ∨ X.w.heap.size ≤ b ∨ Live X.H X.ρ b) : WOk X I ρ H w :=
  { h with le := Imm.le_trans hX h.le
           news := fun b hb => by
            rcases h.news b hb with h1 | h1
            · exact hn b h1
            · exact .inr h1 }
end
def setsE : List (Nat × Value) → Env → Env
  | [], env => env
  | (p, v) :: l, env => setsE l ((p, .s v) :: env)
def movesE (nt : Nat) : List Oper → Env → Option Env
  | [], env => some env
  | o :: l, env => match o.op, o.dst, o.guard with
    | .move x, some d, none => bif Nat.blt d nt then (eo env x).bind fun v => movesE nt l ((d, v) :: env) else none
    | .assign x, some d, none => bif Nat.blt d nt then (eo env x).bind fun v => movesE nt l ((d, v) :: env) else none
    | _, _, _ => none
def movesC (nt : Nat) : Code → Env → Option Env
  | .skip, env => some env
  | .region _ ops false, env => movesE nt ops.toList env
  | .seq x y, env => (movesC nt x env).bind (movesC nt y)
  | _, _ => none
section
variable {P : Program} {r : Option Nat} {I : Imm} {ρ : List (Option (Nat × Nat))} {nt : Nat} {env env' : Env} {a : Act} {w : World} {ops : Array Oper} {Q : Exit → Act → World → Prop}
theorem env_sets : ∀ (l : List (Nat × Value)) (env : Env) (t : Array Value), EnvOk I ρ nt env { tmps := t, defers := [] } → (∀ p ∈ l, p.1 < nt) → EnvOk I ρ nt (setsE l env) { tmps := l.foldl (fun t pv => t.setIfInBounds pv.1 pv.2) t, defers := [] }
  | [], _, _, h, _ => h
  | (p, v) :: l, _, _, h, hp => env_sets l _ _ (h.put (d := p) (.s v) (hp (p, v) List.mem_cons_self)) (fun q hq => hp q (List.mem_cons_of_mem _ hq))
theorem runP_moves : ∀ (l : List Oper) (i : Nat) (env : Env) (a : Act), movesE nt l env = some env' → EnvOk I ρ nt env a → (∀ a', EnvOk I ρ nt env' a' → a'.defers = a.defers → Q .normal a' w) → runP P r ops Q (textPlan l i) (fun _ => True) a w
  | [], _, _, a, h, he, hk => by cases h; exact hk a he rfl
  | o :: l, i, env, a, h, he, hk => by
    have step : ∀ (x : Operand) (d : Nat) (v : V), o.dst = some d → o.guard = none → plainOp o.op = true → (∀ w', (execOp a.eval o).run P w' = .ok (.value (a.eval x)) w') → d < nt → eo env x = some v → movesE nt l ((d, v) :: env) = some env' → runP P r ops Q (textPlan (o :: l) i) (fun _ => True) a w := by
      intro x d v hd hg hp hr hlt hx hm
      simp only [textPlan, hp, cond_true]
      refine ⟨fun _ => ⟨a.eval x, fun w' _ => hr w', ?_⟩, fun hw => by rw [wanted_none hg] at hw; cases hw⟩
      rw [hd]
      exact runP_moves l (i + 1) _ _ hm (he.put (eo_rel he hx) hlt) hk
    simp only [movesE] at h
    split at h
    · rename_i x d ho hd hg
      cases hb : Nat.blt d nt <;> rw [hb] at h
      · cases h
      · obtain ⟨v, hv, hm⟩ := Option.bind_eq_some_iff.1 h
        exact step x d v hd hg (by rw [ho]; rfl) (fun w' => by simp [execOp, ho]) (by rwa [Nat.blt_eq] at hb) hv hm
    · rename_i x d ho hd hg
      cases hb : Nat.blt d nt <;> rw [hb] at h
      · cases h
      · obtain ⟨v, hv, hm⟩ := Option.bind_eq_some_iff.1 h
        exact step x d v hd hg (by rw [ho]; rfl) (fun w' => by simp [execOp, ho]) (by rwa [Nat.blt_eq] at hb) hv hm
    · cases h
theorem wp_moves {c : Code} (h : movesC nt c env = some env') (he : EnvOk I ρ nt env a) (hk : ∀ a', EnvOk I ρ nt env' a' → a'.defers = a.defers → Q .normal a' w) : c.wpIn (Fw r) 0 P Q a w := by
  induction c generalizing env env' a Q with
  | skip => cases h; exact wpIn_skip (hk a he rfl)
  | region id ops b =>
    cases b with
    | true => cases h
    | false =>
      rw [show ops = ops.toList.toArray from (Array.toArray_toList).symm]
      exact region_text (fun _ => True) trivial (runP_moves ops.toList 0 env a h he hk)
  | seq x y ihx ihy =>
    obtain ⟨e1, h1, h2⟩ := Option.bind_eq_some_iff.1 h
    exact wpIn_seq (ihx h1 he fun a1 ha1 hd1 => ihy h2 ha1 fun a' ha' hd' => hk a' ha' (hd'.trans hd1))
  | _ => cases h
end
def KpI (I : Imm) (W W' : World) : Prop := ∀ b o, I b = some o → W.heap[b]? = some o → W'.heap[b]? = some o
/-- An iterator whose closure holds 'vs': it hands over 'el 0', 'el 1', .. 'el (N - 1)', avs long avs the loop goes on. -/
structure Iter (P : Program) (gf : FuncId) (vs : List V) (N : Nat) (el : Nat → List Value) : Prop where
  out : ∀ (I : Imm) us (l : Nat) (J : Nat → World → Prop) (W : World), (∀ b o, I b = some o → W.heap[b]? = some o) → VRels I [] vs us → (∀ k W W', J k W → W.grownBy W' none → J k W') →
    (∀ k W1, J k W1 → k < N → YieldAt Fence.wide 0 P l (el k).toArray W1 fun e W' => e = .returned (.bool true) ∧ J (k + 1) W' ∧ KpI I W1 W') → J 0 W →
    CallsIn Fence.wide 1 P gf (#[.func (.yield l) #[] #[]] ++ us) W fun e W' => (∃ v, e = .returned v) ∧ J N W'
def RangeQ (m nt : Nat) (G' : Heap) : Post
  | .normal, env, H => SubOf m nt env H [] G'
  | _, _, _ => False
set_option maxHeartbeats 1000000 in
theorem aw_range {P : Program} {m nt : Nat} {Q : Post} {env : Env} {H : Heap} {g : Operand} {ps : Array Tmp} {assign body : Code} {gf : FuncId} {vs : List V} {N : Nat} {el : Nat → List Value} (G : Nat → Heap) (E1 : Nat → Env)
    (hg : eo env g = some (.fn (.func gf) [] vs)) (hvs : V.closed.all vs = true) (hfn : FnOk P gf) (hit : Iter P gf vs N el) (hps : ∀ k, k < N → (el k).length = ps.size) (hpn : ∀ p ∈ ps.toList, p < nt)
    (hmv : ∀ k, k < N → movesC nt assign (setsE (ps.toList.zip (el k)) env) = some (E1 k)) (hmaps : ∀ (k b : Nat) ms, (G k)[b]? ≠ some (.map ms)) (h0 : SubOf H.length nt env H [] (G 0))
    (round : ∀ k lp, k < N → AW P (some lp) H.length nt body (RangeQ H.length nt (G (k + 1))) (E1 k) (G k)) (hdone : Q .normal env (G N)) : AW P none m nt (.rangeFunc g ps assign body) Q env H := by
  classical
  refine ⟨fun X I ρ a w hX hst => ?_⟩
  obtain ⟨hE, hw, hD⟩ := hst
  refine (wpIn_wide (n := 0)).2 ((wpIn_wide (n := 2)).1 (wpIn_rangeFunc (F := Fence.wide) ?_))
  intro fn hfn'
  have hIlt : ∀ b o, I b = some o → b < w.heap.size := fun b o hb => (Array.getElem?_eq_some_iff.1 (hw.imm b o hb)).1
  -- the iterator's value
  have hgv := eo_rel hE hg
  obtain ⟨lb, hev, hrel⟩ : ∃ lb, a.eval g = .func (.func gf) #[] lb ∧ VRels I [] vs lb := by
    cases e : a.eval g <;> rw [e] at hgv <;> cases hgv
    rename_i us ws h1 h2 h3 h4
    have : us = #[] := by cases us; simp at h1; simp [h1]
    subst this
    exact ⟨ws, rfl, h3, fun j v u hj hu => (h4 j v u hj hu).close (closed_all hvs hj)⟩
  obtain ⟨rec, hrec⟩ : ∃ rec : LoopState → Option Code → Loop, rec = fun st pe => { state := st, pending := pe, fn, tmps := a.tmps, params := ps, assign, body, defers := w.heap.size } := ⟨_, rfl⟩
  obtain ⟨W1, hW1⟩ : ∃ W1, (w.alloc (.deferred (some []))).alloc (.loop (rec .ready none)) = W1 := ⟨_, rfl⟩
  have hL1 : W1.heap[w.heap.size + 1]? = some (.loop (rec .ready none)) := by
    rw [← hW1]; have := World.alloc_heap_new (w.alloc (.deferred (some []))) (.loop (rec .ready none)); rwa [World.size_alloc] at this
  have hK1 : W1.heap[w.heap.size]? = some (.deferred (some [])) := by
    rw [← hW1]; exact (Below.heap_alloc _ _ _ (by simp)).trans (World.alloc_heap_new w _)
  -- between two rounds
  let Inv : Nat → World → Prop := fun k W => ∃ I' ρ', WOk (Ctx.self w ρ H I) I' ρ' (G k) W ∧ ∀ b o, I' b = some o → I b = some o ∨ o.isCells = true
  have invGrow : ∀ k W W' row, Inv k W → W.grownBy W' row → (∀ r, row = some r → w.heap.size ≤ r ∧ ∃ o : Obj, W.heap[r]? = some o ∧ o.isCells = false) → Inv k W' := by
    rintro k W W' row ⟨I', ρ', h1, h2⟩ hg hr
    refine ⟨I', ρ', h1.grown hg (fun r e => ?_) (hmaps k), h2⟩
    obtain ⟨h3, o, h4, h5⟩ := hr r e
    refine ⟨h3, ?_, o, h4, h5⟩
    cases e' : I' r with
    | none => rfl
    | some o' =>
      have h6 := h1.imm r o' e'
      rw [h4] at h6; cases h6
      rcases h2 r _ e' with h7 | h7
      · have := hIlt r _ h7; omega
      · rw [h5] at h7; cases h7
  have cutInv : ∀ k W I' ρ', WOk (Ctx.self w ρ H I) I' ρ' (G k) W → Inv k W := fun k W I' ρ' h1 => by
    let I4 : Imm := fun b => if I b = none ∧ (∀ o, I' b = some o → o.isCells = false) then none else I' b
    refine ⟨I4, ρ', h1.cut (fun b o hb => ?_) (fun b o hb => ?_) (fun b cs ty fz hb => ?_), fun b o hb => ?_⟩
    · have hb : (if I b = none ∧ (∀ o, I' b = some o → o.isCells = false) then none else I' b) = some o := hb
      split at hb
      · cases hb
      · exact hb
    · show (if I b = none ∧ (∀ o, I' b = some o → o.isCells = false) then none else I' b) = some o
      have hb' : I b = some o := hb
      rw [if_neg (fun h => by rw [hb'] at h; cases h.1)]
      exact h1.le b o hb
    · show (if I b = none ∧ (∀ o, I' b = some o → o.isCells = false) then none else I' b) = _
      rw [if_neg (fun h => by have := h.2 _ hb; cases this)]
      exact hb
    · have hb : (if I b = none ∧ (∀ o, I' b = some o → o.isCells = false) then none else I' b) = some o := hb
      split at hb
      · cases hb
      · rename_i hno
        cases hI : I b with
        | none =>
          right
          cases ho : o.isCells with
          | true => rfl
          | false => exact (hno ⟨hI, fun o' ho' => by rw [hb] at ho'; cases ho'; exact ho⟩).elim
        | some o2 =>
          have := h1.le b o2 hI
          rw [hb] at this; cases this
          exact .inl rfl
  have hInv0 : Inv 0 W1 := by
    have hself : St (Ctx.self w ρ H I) nt env H I ρ { a with defers := [] } w := ⟨hE, hw.self, DOk.nil rfl⟩
    obtain ⟨I1, ρ1, hle, h2⟩ := h0.1 (Ctx.self w ρ H I) I ρ _ w hw.len hself
    have h3 := cutInv 0 w I1 ρ1 h2.2.1
    rw [← hW1]
    refine invGrow 0 _ _ none (invGrow 0 _ _ none h3 (World.grownBy_alloc _ _ none) (fun r e => by cases e)) (World.grownBy_alloc _ _ none) (fun r e => by cases e)
  refine ⟨w.heap.size + 1, [{ target := .collected w.heap.size, args := #[] }], W1, { target := .fn (.func gf) lb, args := #[.func (.yield (w.heap.size + 1)) #[] #[]] }, W1, gf,
    #[.func (.yield (w.heap.size + 1)) #[] #[]] ++ lb, W1, ?_, ?_, ?_, ?_, fun _ => by omega, ?_⟩
  · rw [← hW1, hrec]; exact run_enterLoop_outer _ _ _ _ _
  · simp only [resolve, hev]
    simp [go_sem]
  · intro f' hf'; simp [Target.leads] at hf'; subst hf'; exact trivial
  · have := hfn
    simp only [FnOk] at this
    simp [invoke, go_sem, this]
  · refine (hit.out I lb (w.heap.size + 1) (fun k W => Inv k W ∧ W.heap[w.heap.size + 1]? = some (.loop (rec .ready none)) ∧ W.heap[w.heap.size]? = some (.deferred (some []))) W1 ?_ hrel ?_ ?_ ⟨hInv0, hL1, hK1⟩).mono ?_
    · intro b o hb
      have hlt := hIlt b o hb
      rw [← hW1]
      exact (Below.heap_alloc _ _ _ (by simp; omega)).trans ((Below.heap_alloc _ _ _ hlt).trans (hw.imm b o hb))
    · rintro k W W' ⟨h1, h2, h3⟩ hg
      refine ⟨invGrow k W W' none h1 hg (fun r e => by cases e), ?_, ?_⟩
      · exact (hg.block _ (Array.getElem?_eq_some_iff.1 h2).1 (by simp)).trans h2
      · exact (hg.block _ (Array.getElem?_eq_some_iff.1 h3).1 (by simp)).trans h3
    · -- one round
      rintro k W ⟨hi, hl, hk⟩ hlen
      have hlt : w.heap.size + 1 < W.heap.size := (Array.getElem?_eq_some_iff.1 hl).1
      have hy := run_yield (P := P) (args := (el k).toArray) hl (by rw [hrec]; simpa using hps k hlen)
      rw [hrec] at hy
      refine ⟨fn, _, assign, body, hy, roundIn_of_wpIn hfn' ?_⟩
      have hE1 : EnvOk I ρ nt (setsE (ps.toList.zip (el k)) env) { tmps := (ps.toList.zip (el k)).foldl (fun t pv => t.setIfInBounds pv.1 pv.2) a.tmps, defers := [] } :=
        env_sets _ _ _ hE fun p hp => hpn p.1 (List.of_mem_zip hp).1
      have etmps : (ps.zip (el k).toArray).foldl (fun t (p, v) => t.setIfInBounds p v) a.tmps = (ps.toList.zip (el k)).foldl (fun t pv => t.setIfInBounds pv.1 pv.2) a.tmps := by
        rw [← Array.foldl_toList, Array.toList_zip]
      refine wp_moves (r := some (w.heap.size + 1)) (I := I) (ρ := ρ) (hmv k hlen) (by rw [← etmps] at hE1; exact hE1) fun a' ha' hd' => ?_
      refine ⟨_, run_beginRound hl (by rw [hrec]), ?_⟩
      obtain ⟨W2, hW2⟩ : ∃ W2, W.putObj (w.heap.size + 1) (.loop { rec .ready none with state := .busy }) = W2 := ⟨_, rfl⟩
      rw [hW2]
      have hl2 : W2.heap[w.heap.size + 1]? = some (.loop { rec .ready none with state := .busy }) := by rw [← hW2]; exact World.putObj_heap_same hlt
      have hk2 : W2.heap[w.heap.size]? = some (.deferred (some [])) := by rw [← hW2]; exact (World.putObj_heap_other (by omega)).trans hk
      obtain ⟨I', ρ', hwk, hcells⟩ : Inv k W2 := by
        rw [← hW2]
        exact invGrow k W _ (some (w.heap.size + 1)) hi (grownBy_putObj' W _ _) (fun r e => by cases e; exact ⟨by omega, _, hl, rfl⟩)
      let I2 : Imm := fun b => if I' b = none ∧ w.heap.size ≤ b ∧ (∃ o, W2.heap[b]? = some o ∧ o.isCells = false) then W2.heap[b]? else I' b
      have hle2 : I'.le I2 := fun b o hb => by
        show (if I' b = none ∧ w.heap.size ≤ b ∧ (∃ o, W2.heap[b]? = some o ∧ o.isCells = false) then W2.heap[b]? else I' b) = some o
        rw [if_neg (fun h => by rw [hb] at h; cases h.1)]
        exact hb
      have notLive : ∀ b o, W2.heap[b]? = some o → o.isCells = false → ¬ Live (G k) ρ' b := by
        rintro b o hb ho ⟨j, blk, h1, h2, z, h3⟩
        cases blk with
        | dead => exact h2 rfl
        | map ms => exact hmaps k j ms h1
        | arr sz n f =>
          obtain ⟨cs, ty, h4, _⟩ := hwk.arr _ _ _ _ _ _ h1 h3
          rw [hb] at h4; cases h4; cases ho
      have hwk2 : WOk (Ctx.self w ρ H I) I2 ρ' (G k) W2 := hwk.more hle2 (fun b o hb => by
          have hb : (if I' b = none ∧ w.heap.size ≤ b ∧ (∃ o, W2.heap[b]? = some o ∧ o.isCells = false) then W2.heap[b]? else I' b) = some o := hb
          split at hb
          · exact hb
          · exact hwk.imm b o hb) (fun b hb => by
          have hb : (if I' b = none ∧ w.heap.size ≤ b ∧ (∃ o, W2.heap[b]? = some o ∧ o.isCells = false) then W2.heap[b]? else I' b) ≠ none := hb
          split at hb
          · rename_i h
            obtain ⟨_, h1, o, h2, h3⟩ := h
            exact .inr ⟨h1, notLive b o h2 h3⟩
          · exact .inl hb)
      have inI2 : ∀ b o, w.heap.size ≤ b → W2.heap[b]? = some o → o.isCells = false → I2 b = some o := fun b o h1 h2 h3 => by
        show (if I' b = none ∧ w.heap.size ≤ b ∧ (∃ o, W2.heap[b]? = some o ∧ o.isCells = false) then W2.heap[b]? else I' b) = some o
        split
        · exact h2
        · rename_i hno
          cases e : I' b with
          | none => exact (hno ⟨e, h1, o, h2, h3⟩).elim
          | some o' => have := hwk.imm b o' e; rw [h2] at this; cases this; rfl
      have hbody := (round k (w.heap.size + 1) hlen).1 ⟨w, ρ, H, I2, []⟩ I2 ρ' a' W2 hw.len ⟨(ha'.mono hwk.le hwk.pre).mono hle2 (Pre.refl _), hwk2.ctx, DOk.nil hd'⟩
      refine wpIn_mono hbody fun e a3 W3 hq => ?_
      cases e with
      | normal =>
        obtain ⟨env3, H3, I3, ρ3, hst3, hsub⟩ := hq
        obtain ⟨I4, ρ4, _, hst4⟩ := hsub.1 ⟨w, ρ, H, I2, []⟩ I3 ρ3 a3 W3 hw.len hst3
        have hw4 := hst4.2.1
        have hl3 : W3.heap[w.heap.size + 1]? = some (.loop { rec .ready none with state := .busy }) := hw4.imm _ _ (hw4.le _ _ (inI2 _ _ (by omega) hl2 rfl))
        have hk3 : W3.heap[w.heap.size]? = some (.deferred (some [])) := hw4.imm _ _ (hw4.le _ _ (inI2 _ _ (Nat.le_refl _) hk2 rfl))
        have hw5 : WOk (Ctx.self w ρ H I) I4 ρ4 (G (k + 1)) W3 := WOk.unctx (X := Ctx.self w ρ H I) (K := I2) hw4 (Imm.le_trans hwk.le hle2) fun b hb => hwk2.news b hb
        have hinv := cutInv (k + 1) W3 I4 ρ4 hw5
        have hend := run_endRound (P := P) none hl3
        rw [hrec] at hend
        have hlt3 := (Array.getElem?_eq_some_iff.1 hl3).1
        refine ⟨_, _, hend, rfl, ⟨?_, ?_, ?_⟩, ?_⟩
        · exact invGrow (k + 1) W3 _ (some (w.heap.size + 1)) hinv (grownBy_putObj' W3 _ _) (fun r e => by cases e; exact ⟨by omega, _, hl3, rfl⟩)
        · rw [hrec]; exact World.putObj_heap_same hlt3
        · exact (World.putObj_heap_other (by omega)).trans hk3
        · intro b o hb hWb
          have hlt := hIlt b o hb
          refine (World.putObj_heap_other (by omega)).trans (hw5.imm b o (hw5.le b o hb))
      | exit id => obtain ⟨_, _, _, _, _, h⟩ := hq; exact h.elim
      | goto t => obtain ⟨_, _, _, _, _, h⟩ := hq; exact h.elim
      | ret => obtain ⟨_, _, _, _, _, h⟩ := hq; exact h.elim
      | panic c => obtain ⟨_, _, _, _, _, _, _, _, _, h⟩ := hq; exact h.elim
      | outgrown => exact hq.elim
    · -- behind the iterator
      rintro e W2 ⟨⟨v, rfl⟩, hi, hl, hk⟩
      have hend := run_endLoop (P := P) hl (by rw [hrec]; simp)
      rw [hrec] at hend
      obtain ⟨o4, hend4⟩ : ∃ o4, (Instr.endLoop (w.heap.size + 1)).run P W2 = .ok none (W2.putObj (w.heap.size + 1) o4) := ⟨_, hend⟩
      refine ⟨none, _, hend4, ?_⟩
      obtain ⟨I', ρ', h1, h2⟩ := invGrow N W2 _ (some (w.heap.size + 1)) hi (grownBy_putObj' W2 _ o4) (fun r e => by cases e; exact ⟨by omega, _, hl, rfl⟩)
      have hkk : (W2.putObj (w.heap.size + 1) o4).heap[w.heap.size]? = some (.deferred (some [])) := (World.putObj_heap_other (by omega)).trans hk
      let I2 : Imm := fun b => if b = w.heap.size then some (.deferred (some [])) else I' b
      have hIn : I' w.heap.size = none := by
        cases e : I' w.heap.size with
        | none => rfl
        | some o =>
          have h3 := h1.imm _ o e
          rw [hkk] at h3; cases h3
          rcases h2 _ _ e with h4 | h4
          · have := hIlt _ _ h4; omega
          · cases h4
      have hle2 : I'.le I2 := fun b o hb => by
        show (if b = w.heap.size then some (.deferred (some [])) else I' b) = some o
        rw [if_neg (fun e => by subst e; rw [hIn] at hb; cases hb)]
        exact hb
      have h3 := h1.more hle2 (fun b o hb => by
        have hb' : (if b = w.heap.size then some (.deferred (some [])) else I' b) = some o := hb
        clear hb
        split at hb'
        · rename_i e; rw [e, ← hb']; exact hkk
        · exact h1.imm b o hb') (fun b hb => by
        have hb : (if b = w.heap.size then some (Obj.deferred (some [])) else I' b) ≠ none := hb
        split at hb
        · rename_i e
          subst e
          refine .inr ⟨Nat.le_refl _, ?_⟩
          rintro ⟨j, blk, g1, g2, z, g3⟩
          cases blk with
          | dead => exact g2 rfl
          | map ms => exact hmaps N j ms g1
          | arr sz n f =>
            obtain ⟨cs, ty, g4, _⟩ := h1.arr _ _ _ _ _ _ g1 g3
            rw [hkk] at g4; cases g4
        · exact .inl hb)
      obtain ⟨Ds, d1, d2, d3⟩ := hD
      refine ⟨env, G N, I2, ρ', ⟨hE.mono (Imm.le_trans h1.le hle2) h1.pre, hw.trans h3, w.heap.size :: Ds, ?_, ?_, ?_⟩, hdone⟩
      · rw [List.nodup_cons]
        exact ⟨fun hd => by have := hIlt _ _ (d3 _ hd).2; omega, d1⟩
      · show [_] ++ a.defers = _
        rw [d2]; rfl
      · intro D hD
        rcases List.mem_cons.1 hD with e | e
        · subst e
          refine ⟨hw.grow, ?_⟩
          show (if w.heap.size = w.heap.size then some (Obj.deferred (some [])) else _) = _
          rw [if_pos rfl]
        · exact ⟨(d3 D e).1, hle2 _ _ (h1.le _ _ (d3 D e).2)⟩
end Go.Proofs.Ythpbjihnikapoaa
