/- Parts of the proof: a layer of values over the model, and contracts of functions. No condition. -/
import Derived.Test.YtccidiflnmchiaaKOd2
namespace Go.Proofs.Ytccidiflnmchiaa
open Go.RowKit
def copyF (f : Nat → V) (i m : Nat) (g : Nat → V) : Nat → V := fun j => bif Nat.ble i j && Nat.blt j (i + m) then g (j - i) else f j
theorem copyF_in {f g : Nat → V} {i m j : Nat} (h1 : i ≤ j) (h2 : j < i + m) : copyF f i m g j = g (j - i) := by
  have e1 : Nat.ble i j = true := Nat.ble_eq_true_of_le h1
  have e2 : Nat.blt j (i + m) = true := by rw [Nat.blt_eq]; exact h2
  simp [copyF, e1, e2]
theorem copyF_out {f g : Nat → V} {i m j : Nat} (h : j < i ∨ i + m ≤ j) : copyF f i m g j = f j := by
  unfold copyF
  rcases h with h | h
  · have : Nat.ble i j = false := by cases e : Nat.ble i j with | false => rfl | true => have := Nat.le_of_ble_eq_true e; omega
    rw [this]; rfl
  · have : Nat.blt j (i + m) = false := by cases e : Nat.blt j (i + m) with | false => rfl | true => rw [Nat.blt_eq] at e; omega
    rw [this, Bool.and_false]; rfl
section
variable {P : Program} {r : Option Nat} {m nt : Nat} {Q : Post} {env : Env} {H : Heap} {ops : Array Oper} {l : List Stp} {ty : TypeId} {pos : String} {after : Array Edge} {x y : Operand} {T T2 E : TypeId} {d de : TyD} {dst : Option Tmp} {guard : Option (Nat × Bool)}
/-- copy into an own row of elements of one cell. -/
theorem ls_copy {yv : V} {b i n N k : Nat} {f g : Nat → V} (ht : TyIs P T d) (hk : d.tk = .slice E) (he : TyIs P E de) (hs1 : de.size = 1) (hx : eo env x = some (.sl 1 b i n)) (hH : H[b]? = some (.arr 1 N f)) (hN : i + n ≤ N) (hy : eo env y = some yv) (hs : Src H yv 1 k g)
    (hone : ∀ j, j < k → (g j).cells.all V.one = true) :
    LS P r m nt false env H ⟨dst, .call ⟨.builtin .copy, #[x, y], #[T, T2]⟩, ty, pos, after, guard⟩ (fun u H' => u = vi (Nat.min k n) ∧ H' = H.set b (.arr 1 N (copyF f i (Nat.min k n) g))) NoP := .mk
  fun X I ρ a w next Qx hX hS hK hp => by
    obtain ⟨hE, hw, hdf⟩ := hS
    have hu := eo_rel hE hx
    have hv := eo_rel hE hy
    obtain ⟨ii, hi, hsz, hby, hz0⟩ := he.inf
    have hinf : (P.info? E).map (·.size) = some 1 := by rw [hi]; simp [hsz, hs1]
    obtain ⟨B, cap, news, ey, hnl, hnc, hgsz, hgr⟩ := src_cells hw hs hv
    have hex : ∀ {res : Value} {w' : World}, (Builtin.copy_ #[T, T2] ty #[a.eval x, a.eval y]).run P w = .ok res w' → (execOp a.eval ⟨dst, .call ⟨.builtin .copy, #[x, y], #[T, T2]⟩, ty, pos, after, guard⟩).run P w = .ok (.value res) w' := fun h => by
      simp [execOp, resolve, invoke, builtin, h]
    by_cases h0 : Nat.min k n = 0
    · have hset : H.set b (.arr 1 N (copyF f i (Nat.min k n) g)) = H := by
        rw [h0, show copyF f i 0 g = f from funext fun j => copyF_out (by omega)]
        obtain ⟨hb, e⟩ := List.getElem?_eq_some_iff.1 hH
        rw [← e, List.set_getElem_self]
      obtain ⟨A, c, ex⟩ : ∃ A c, a.eval x = .slice A n c := by
        rcases hu.sl_inv with ⟨cb, z, c, e, _⟩ | ⟨A, e, _, _, rfl⟩
        · exact ⟨_, _, e⟩
        · exact ⟨_, _, e⟩
      have hr := run_copy_none (P := P) w T T2 ty E A B n c k cap (ht.slice hk) hinf h0
      rw [← ex, ← ey] at hr
      refine wpIn_of_run (by simp) (hex hr) ?_
      exact hK I ρ _ (vi 0) _ _ ⟨by rw [h0]; rfl, rfl⟩ (Imm.le_refl _) (Pre.refl _) (by rw [hset]; exact hw) (.s _) (by simp)
    · rcases hu.sl_inv with ⟨cb, z, c, ex, hb, hnc', hcm, hz'⟩ | ⟨A, _, _, _, rfl⟩
      · have hk0 : 0 < k := by have : Nat.min k n ≤ k := Nat.min_le_left _ _; omega
        have hmk : Nat.min k n ≤ k := Nat.min_le_left _ _
        have hmn : Nat.min k n ≤ n := Nat.min_le_right _ _
        obtain ⟨ad, rfl, hspot, hcell⟩ := hnc hk0
        obtain ⟨cs, t, hcs, hz, hn, hr⟩ := hw.arr _ _ _ _ _ _ hH hb
        have hgl := hw.size _ _ _ _ hH
        have hcl : (news.take (Nat.min k n)).length = Nat.min k n := by rw [List.length_take]; omega
        have hnews : ∀ j, j < k → ∃ q, news[j]? = some q ∧ ∃ v, (g j).cells = [v] ∧ VRel I ρ v q := fun j hj => by
          have h1 := hgsz j hj
          match hc : (g j).cells, h1 with
          | [v], _ =>
            obtain ⟨q, h2, h3⟩ := hgr j 0 v hj (by rw [hc]; rfl)
            exact ⟨q, by simpa using h2, v, rfl, h3⟩
        have hones : ∀ u ∈ news.take (Nat.min k n), u.oneCell' = true := fun u hu => by
          obtain ⟨j, hj, rfl⟩ := List.getElem_of_mem hu
          obtain ⟨q, h1, v, h2, h3⟩ := hnews j (by omega)
          have h4 := hone j (by omega)
          rw [h2] at h4
          have : (news.take (Nat.min k n))[j] = q := by
            rw [List.getElem_take]
            rw [List.getElem?_eq_getElem (by rw [hnl]; omega)] at h1
            exact Option.some.inj h1
          rw [this]
          exact h3.one (by simpa using h4)
        have hfit : i * 1 + (news.take (Nat.min k n)).length ≤ cs.size := by rw [hcl]; omega
        have hrun := run_copy_row (P := P) w T T2 ty E cb (i * 1) n c ad k cap cs t (news.take (Nat.min k n)) (ht.slice hk) hinf hcs (by rw [hcl]) (fun j v hj => by
          refine hcell w rfl j v ?_
          rw [List.getElem?_take] at hj
          split at hj
          · exact hj
          · cases hj) hfit hones
        rw [← ex, ← ey] at hrun
        refine wpIn_of_run (by simp) (hex hrun) ?_
        obtain ⟨s1, s2, s3⟩ := setRow_facts (new := (cs.toList.take (i * 1) ++ news.take (Nat.min k n) ++ cs.toList.drop (i * 1 + (news.take (Nat.min k n)).length)).toArray) hcs
        refine hK I ρ _ _ _ _ ⟨by rw [hcl]; rfl, rfl⟩ (Imm.le_refl _) (Pre.refl _) (hw.write hH hb (by simp; simp at hfit; omega) (fun j hj => ?_) ?_ s1 s2 s3 rfl rfl rfl) (.s _) (by simp)
        · by_cases h1 : i ≤ j ∧ j < i + Nat.min k n
          · rw [copyF_in h1.1 h1.2]; exact hgsz _ (by omega)
          · rw [copyF_out (by omega)]; exact hgl j hj
        · intro j l v hj hv
          simp only [List.getElem?_toArray]
          rw [splice_get (by simpa using hfit), hcl]
          by_cases h1 : i ≤ j ∧ j < i + Nat.min k n
          · rw [copyF_in h1.1 h1.2] at hv
            obtain ⟨q, h2, v', h3, h4⟩ := hnews (j - i) (by omega)
            rw [h3] at hv
            cases l with
            | succ l => simp at hv
            | zero =>
              simp at hv
              subst hv
              refine ⟨q, ?_, h4⟩
              rw [if_pos (by omega), List.getElem?_take, if_pos (by omega), ← h2]
              congr 1
              omega
          · rw [copyF_out (by omega)] at hv
            have hl0 : l = 0 := by have := (List.getElem?_eq_some_iff.1 hv).1; rw [hgl j hj] at this; omega
            subst hl0
            obtain ⟨q, h2, h3⟩ := hr j 0 v hj hv
            refine ⟨q, ?_, h3⟩
            rw [if_neg (by omega)]
            simpa using h2
      · exact (h0 (by simp)).elim
theorem ar_copy {yv : V} {b i n N k e : Nat} {f g : Nat → V} {j : Nat} (ht : TyIs P T d) (hk : d.tk = .slice E) (he : TyIs P E de) (hs1 : de.size = 1) (hx : eo env x = some (.sl 1 b i n)) (hH : H[b]? = some (.arr 1 N f)) (hN : i + n ≤ N) (hy : eo env y = some yv) (hs : Src H yv 1 k g)
    (hone : ∀ j, j < k → (g j).cells.all V.one = true) (hd : e < nt) (h : AR P r m nt ops Q l ((e, vi (Nat.min k n)) :: env) (H.set b (.arr 1 N (copyF f i (Nat.min k n) g)))) :
    AR P r m nt ops Q (.l j ⟨some e, .call ⟨.builtin .copy, #[x, y], #[T, T2]⟩, ty, pos, after, none⟩ false :: l) env H :=
  ar_l (ls_copy ht hk he hs1 hx hH hN hy hs hone) hd (fun v H' ⟨a, b⟩ => by subst a; subst b; exact h) (fun _ _ h => h.elim)
/-- A cut of an own row. -/
theorem qs_slice_sl {sz b i n l h : Nat} {lo hi : Option Operand} (ht : TyIs P T d) (hk : d.tk = .slice E) (he : TyIs P E de) (hs : de.size = sz) (hx : eo env x = some (.sl sz b i n)) (hl : bnd env lo 0 l) (hh : bnd env hi n h) (h1 : l ≤ h) (h2 : h ≤ n) (h3 : l < n ∨ l = 0) :
    QS P nt env H ⟨dst, .slice T x lo hi none, ty, pos, after, guard⟩ (.sl sz b (i + l) (h - l)) := .mk
  fun _ I ρ a w hE hw => by
    have hr := eo_rel hE hx
    have bl := bnd_val hE hl
    have bh := bnd_val hE hh
    subst hs
    rcases hr.sl_inv with ⟨cb, z, c, ex, hb, hnc, hcm, hz⟩ | ⟨A, ex, hb, rfl, rfl⟩
    · refine ⟨.slice (some ⟨cb, (i + l) * de.size, none⟩) (h - l) (c - l), .sl hb (by omega) (by omega) (by rw [show i + l + (c - l) = i + c by omega]; exact hz), fun w' _ => ?_⟩
      have := slice_run (P := P) (w := w') (A := some ⟨cb, i * de.size, none⟩) (n := n) (cap := c) (l := l) (h := h) (m := c) (lo := lo.map a.eval) (hi := hi.map a.eval) (mx := none) ht hk he rfl (by
        cases hi with
        | none => exact ⟨bh, rfl⟩
        | some u => exact bh) bl h1 (by omega) (Nat.le_refl _)
      have e : (if c = l then (some ⟨cb, i * de.size, none⟩ : Option Addr) else (some ⟨cb, i * de.size, none⟩ : Option Addr).map (·.add (l * de.size))) = some ⟨cb, (i + l) * de.size, none⟩ := by
        rw [Nat.add_mul]
        split
        · have : l = 0 := by omega
          subst this; simp
        · simp only [Option.map_some, Addr.add]
          split
          · rename_i h0; rw [h0]; rfl
          · rfl
      rw [e] at this
      simp only [execOp, ex, Sem.run_bind, Option.map_none, this, Result.andThen_ok]
      rfl
    · obtain rfl : h = 0 := by omega
      obtain rfl : l = 0 := by omega
      refine ⟨.slice A 0 0, .slNone A hb, fun w' _ => ?_⟩
      have := slice_run (P := P) (w := w') (A := A) (n := 0) (cap := 0) (l := 0) (h := 0) (m := 0) (lo := lo.map a.eval) (hi := hi.map a.eval) (mx := none) ht hk he rfl (by
        cases hi with
        | none => exact ⟨bh, rfl⟩
        | some u => exact bh) bl (Nat.le_refl _) (Nat.le_refl _) (Nat.le_refl _)
      simp only [execOp, ex, Sem.run_bind, Option.map_none, this, Result.andThen_ok]
      rfl
end
end Go.Proofs.Ytccidiflnmchiaa
namespace Go.Proofs.Ytccidiflnmchiaa
open Go.RowKit
theorem wrapU {n : Int} (h : 0 ≤ n ∧ n ≤ 18446744073709551615) : IntKind.u64.wrap n = n := by
  simp only [IntKind.wrap, IntKind.bits, IntKind.signed]
  simp
  omega
theorem wrapU32 {n : Int} (h : 0 ≤ n ∧ n ≤ 4294967295) : IntKind.u32.wrap n = n := by
  simp only [IntKind.wrap, IntKind.bits, IntKind.signed]
  simp
  omega
theorem quo64 {m n : Int} (hm : 0 ≤ m ∧ m ≤ 9223372036854775807) (hn : 0 < n) : IntKind.i64.wrap (m.tdiv n) = m / n := by
  rw [Int.tdiv_eq_ediv_of_nonneg hm.1]
  have h1 : 0 ≤ m / n := Int.ediv_nonneg hm.1 (by omega)
  have h2 : m / n ≤ m := Int.ediv_le_self _ hm.1
  exact wrap64 (by omega)
theorem shr0 {m : Int} (h : 0 ≤ m ∧ m ≤ 4294967295) : m.fdiv (2 ^ (min (32 : Int).toNat IntKind.u64.bits)) = 0 := by
  have e : (2 : Int) ^ (min (32 : Int).toNat IntKind.u64.bits) = 4294967296 := by decide
  rw [e, Int.fdiv_eq_ediv_of_nonneg _ (by omega)]
  omega
theorem andMask {m : Int} (h : 0 ≤ m ∧ m ≤ 4294967295) : IntKind.u64.wrap ((BitVec.ofInt IntKind.u64.bits m &&& BitVec.ofInt IntKind.u64.bits 4294967295).toNat : Int) = m := by
  obtain ⟨k, rfl⟩ := Int.eq_ofNat_of_zero_le h.1
  have hk : k < 2 ^ 32 := by omega
  have e : ((BitVec.ofInt IntKind.u64.bits (k : Int) &&& BitVec.ofInt IntKind.u64.bits 4294967295).toNat) = k := by
    show ((BitVec.ofInt 64 (k : Int) &&& BitVec.ofInt 64 4294967295).toNat) = k
    rw [BitVec.toNat_and]
    have h1 : (BitVec.ofInt 64 (k : Int)).toNat = k := by simp; omega
    have h2 : (BitVec.ofInt 64 4294967295).toNat = 2 ^ 32 - 1 := by decide
    rw [h1, h2, Nat.and_two_pow_sub_one_eq_mod]
    omega
  rw [e]
  exact wrapU (by omega)
theorem bnd_some {env : Env} {x : Operand} {k : IntKind} {v : Int} {d l : Nat} (hx : eo env x = some (.s (.int k v))) (h : v = (l : Int)) : bnd env (some x) d l := ⟨k, by rw [hx, h]⟩
end Go.Proofs.Ytccidiflnmchiaa
namespace Go.Proofs.Ytccidiflnmchiaa
open Go.RowKit
theorem ty1 : TyIs Try.prog 1 ⟨.func, 1, 8, .nilFunc⟩ := ⟨by kernel_rfl, by kernel_rfl⟩
theorem ty2 : TyIs Try.prog 2 ⟨.int .i64, 1, 8, .int .i64 0⟩ := ⟨by kernel_rfl, by kernel_rfl⟩
theorem ty3 : TyIs Try.prog 3 ⟨.int .i64, 1, 8, .int .i64 0⟩ := ⟨by kernel_rfl, by kernel_rfl⟩
theorem ty4 : TyIs Try.prog 4 ⟨.bool, 1, 1, .bool false⟩ := ⟨by kernel_rfl, by kernel_rfl⟩
theorem ty5 : TyIs Try.prog 5 ⟨.int .u8, 1, 1, .int .u8 0⟩ := ⟨by kernel_rfl, by kernel_rfl⟩
theorem ty6 : TyIs Try.prog 6 ⟨.int .u8, 1, 1, .int .u8 0⟩ := ⟨by kernel_rfl, by kernel_rfl⟩
theorem ty7 : TyIs Try.prog 7 ⟨.struct [(2, 0), (3, 1), (4, 2), (6, 3)], 4, 24, .agg #[.int .i64 0, .int .i64 0, .bool false, .int .u8 0]⟩ := ⟨by kernel_rfl, by kernel_rfl⟩
theorem ty8 : TyIs Try.prog 8 ⟨.struct [(2, 0), (3, 1), (4, 2), (6, 3)], 4, 24, .agg #[.int .i64 0, .int .i64 0, .bool false, .int .u8 0]⟩ := ⟨by kernel_rfl, by kernel_rfl⟩
theorem ty12 : TyIs Try.prog 12 ⟨.int .u64, 1, 8, .int .u64 0⟩ := ⟨by kernel_rfl, by kernel_rfl⟩
theorem ty15 : TyIs Try.prog 15 ⟨.ptr 146, 1, 8, .pointer none⟩ := ⟨by kernel_rfl, by kernel_rfl⟩
theorem ty16 : TyIs Try.prog 16 ⟨.ptr 149, 1, 8, .pointer none⟩ := ⟨by kernel_rfl, by kernel_rfl⟩
theorem ty17 : TyIs Try.prog 17 ⟨.ptr 157, 1, 8, .pointer none⟩ := ⟨by kernel_rfl, by kernel_rfl⟩
theorem ty18 : TyIs Try.prog 18 ⟨.struct [(17, 0)], 1, 8, .agg #[.pointer none]⟩ := ⟨by kernel_rfl, by kernel_rfl⟩
theorem ty19 : TyIs Try.prog 19 ⟨.struct [(17, 0)], 1, 8, .agg #[.pointer none]⟩ := ⟨by kernel_rfl, by kernel_rfl⟩
theorem ty20 : TyIs Try.prog 20 ⟨.iface true, 1, 16, .nilIface⟩ := ⟨by kernel_rfl, by kernel_rfl⟩
theorem ty21 : TyIs Try.prog 21 ⟨.int .i32, 1, 4, .int .i32 0⟩ := ⟨by kernel_rfl, by kernel_rfl⟩
theorem ty22 : TyIs Try.prog 22 ⟨.struct [(3, 0), (3, 1), (3, 2), (3, 3), (3, 4)], 5, 40, .agg #[.int .i64 0, .int .i64 0, .int .i64 0, .int .i64 0, .int .i64 0]⟩ := ⟨by kernel_rfl, by kernel_rfl⟩
theorem ty23 : TyIs Try.prog 23 ⟨.struct [(3, 0), (3, 1), (3, 2), (3, 3), (3, 4)], 5, 40, .agg #[.int .i64 0, .int .i64 0, .int .i64 0, .int .i64 0, .int .i64 0]⟩ := ⟨by kernel_rfl, by kernel_rfl⟩
theorem ty24 : TyIs Try.prog 24 ⟨.slice 3, 1, 24, .slice none 0 0⟩ := ⟨by kernel_rfl, by kernel_rfl⟩
theorem ty25 : TyIs Try.prog 25 ⟨.slice 24, 1, 24, .slice none 0 0⟩ := ⟨by kernel_rfl, by kernel_rfl⟩
theorem ty26 : TyIs Try.prog 26 ⟨.slice 24, 1, 24, .slice none 0 0⟩ := ⟨by kernel_rfl, by kernel_rfl⟩
theorem ty27 : TyIs Try.prog 27 ⟨.int .i64, 1, 8, .int .i64 0⟩ := ⟨by kernel_rfl, by kernel_rfl⟩
theorem ty29 : TyIs Try.prog 29 ⟨.func, 1, 8, .nilFunc⟩ := ⟨by kernel_rfl, by kernel_rfl⟩
theorem ty31 : TyIs Try.prog 31 ⟨.func, 1, 8, .nilFunc⟩ := ⟨by kernel_rfl, by kernel_rfl⟩
theorem ty33 : TyIs Try.prog 33 ⟨.func, 1, 8, .nilFunc⟩ := ⟨by kernel_rfl, by kernel_rfl⟩
theorem ty35 : TyIs Try.prog 35 ⟨.func, 1, 8, .nilFunc⟩ := ⟨by kernel_rfl, by kernel_rfl⟩
theorem ty36 : TyIs Try.prog 36 ⟨.func, 1, 8, .nilFunc⟩ := ⟨by kernel_rfl, by kernel_rfl⟩
theorem ty37 : TyIs Try.prog 37 ⟨.func, 1, 8, .nilFunc⟩ := ⟨by kernel_rfl, by kernel_rfl⟩
theorem ty38 : TyIs Try.prog 38 ⟨.func, 1, 8, .nilFunc⟩ := ⟨by kernel_rfl, by kernel_rfl⟩
theorem ty39 : TyIs Try.prog 39 ⟨.func, 1, 8, .nilFunc⟩ := ⟨by kernel_rfl, by kernel_rfl⟩
theorem ty40 : TyIs Try.prog 40 ⟨.slice 89, 1, 24, .slice none 0 0⟩ := ⟨by kernel_rfl, by kernel_rfl⟩
theorem ty42 : TyIs Try.prog 42 ⟨.func, 1, 8, .nilFunc⟩ := ⟨by kernel_rfl, by kernel_rfl⟩
theorem ty44 : TyIs Try.prog 44 ⟨.func, 1, 8, .nilFunc⟩ := ⟨by kernel_rfl, by kernel_rfl⟩
theorem ty45 : TyIs Try.prog 45 ⟨.slice 4, 1, 24, .slice none 0 0⟩ := ⟨by kernel_rfl, by kernel_rfl⟩
theorem ty47 : TyIs Try.prog 47 ⟨.func, 1, 8, .nilFunc⟩ := ⟨by kernel_rfl, by kernel_rfl⟩
theorem ty49 : TyIs Try.prog 49 ⟨.func, 1, 8, .nilFunc⟩ := ⟨by kernel_rfl, by kernel_rfl⟩
theorem ty50 : TyIs Try.prog 50 ⟨.func, 1, 8, .nilFunc⟩ := ⟨by kernel_rfl, by kernel_rfl⟩
theorem ty51 : TyIs Try.prog 51 ⟨.func, 1, 8, .nilFunc⟩ := ⟨by kernel_rfl, by kernel_rfl⟩
theorem ty52 : TyIs Try.prog 52 ⟨.func, 1, 8, .nilFunc⟩ := ⟨by kernel_rfl, by kernel_rfl⟩
theorem ty53 : TyIs Try.prog 53 ⟨.func, 1, 8, .nilFunc⟩ := ⟨by kernel_rfl, by kernel_rfl⟩
theorem ty54 : TyIs Try.prog 54 ⟨.func, 1, 8, .nilFunc⟩ := ⟨by kernel_rfl, by kernel_rfl⟩
theorem ty55 : TyIs Try.prog 55 ⟨.func, 1, 8, .nilFunc⟩ := ⟨by kernel_rfl, by kernel_rfl⟩
theorem ty56 : TyIs Try.prog 56 ⟨.func, 1, 8, .nilFunc⟩ := ⟨by kernel_rfl, by kernel_rfl⟩
theorem ty57 : TyIs Try.prog 57 ⟨.slice 45, 1, 24, .slice none 0 0⟩ := ⟨by kernel_rfl, by kernel_rfl⟩
theorem ty58 : TyIs Try.prog 58 ⟨.func, 1, 8, .nilFunc⟩ := ⟨by kernel_rfl, by kernel_rfl⟩
theorem ty60 : TyIs Try.prog 60 ⟨.func, 1, 8, .nilFunc⟩ := ⟨by kernel_rfl, by kernel_rfl⟩
theorem ty62 : TyIs Try.prog 62 ⟨.func, 1, 8, .nilFunc⟩ := ⟨by kernel_rfl, by kernel_rfl⟩
theorem ty64 : TyIs Try.prog 64 ⟨.func, 1, 8, .nilFunc⟩ := ⟨by kernel_rfl, by kernel_rfl⟩
theorem ty66 : TyIs Try.prog 66 ⟨.func, 1, 8, .nilFunc⟩ := ⟨by kernel_rfl, by kernel_rfl⟩
theorem ty67 : TyIs Try.prog 67 ⟨.func, 1, 8, .nilFunc⟩ := ⟨by kernel_rfl, by kernel_rfl⟩
theorem ty68 : TyIs Try.prog 68 ⟨.func, 1, 8, .nilFunc⟩ := ⟨by kernel_rfl, by kernel_rfl⟩
theorem ty69 : TyIs Try.prog 69 ⟨.func, 1, 8, .nilFunc⟩ := ⟨by kernel_rfl, by kernel_rfl⟩
theorem ty70 : TyIs Try.prog 70 ⟨.struct [(3, 0), (3, 1)], 2, 16, .agg #[.int .i64 0, .int .i64 0]⟩ := ⟨by kernel_rfl, by kernel_rfl⟩
theorem ty71 : TyIs Try.prog 71 ⟨.struct [(3, 0), (3, 1)], 2, 16, .agg #[.int .i64 0, .int .i64 0]⟩ := ⟨by kernel_rfl, by kernel_rfl⟩
theorem ty72 : TyIs Try.prog 72 ⟨.func, 1, 8, .nilFunc⟩ := ⟨by kernel_rfl, by kernel_rfl⟩
theorem ty73 : TyIs Try.prog 73 ⟨.func, 1, 8, .nilFunc⟩ := ⟨by kernel_rfl, by kernel_rfl⟩
theorem ty74 : TyIs Try.prog 74 ⟨.func, 1, 8, .nilFunc⟩ := ⟨by kernel_rfl, by kernel_rfl⟩
theorem ty76 : TyIs Try.prog 76 ⟨.func, 1, 8, .nilFunc⟩ := ⟨by kernel_rfl, by kernel_rfl⟩
theorem ty78 : TyIs Try.prog 78 ⟨.func, 1, 8, .nilFunc⟩ := ⟨by kernel_rfl, by kernel_rfl⟩
theorem ty79 : TyIs Try.prog 79 ⟨.func, 1, 8, .nilFunc⟩ := ⟨by kernel_rfl, by kernel_rfl⟩
theorem ty80 : TyIs Try.prog 80 ⟨.func, 1, 8, .nilFunc⟩ := ⟨by kernel_rfl, by kernel_rfl⟩
theorem ty81 : TyIs Try.prog 81 ⟨.func, 1, 8, .nilFunc⟩ := ⟨by kernel_rfl, by kernel_rfl⟩
theorem ty82 : TyIs Try.prog 82 ⟨.func, 1, 8, .nilFunc⟩ := ⟨by kernel_rfl, by kernel_rfl⟩
theorem ty83 : TyIs Try.prog 83 ⟨.func, 1, 8, .nilFunc⟩ := ⟨by kernel_rfl, by kernel_rfl⟩
theorem ty84 : TyIs Try.prog 84 ⟨.func, 1, 8, .nilFunc⟩ := ⟨by kernel_rfl, by kernel_rfl⟩
theorem ty85 : TyIs Try.prog 85 ⟨.func, 1, 8, .nilFunc⟩ := ⟨by kernel_rfl, by kernel_rfl⟩
theorem ty86 : TyIs Try.prog 86 ⟨.func, 1, 8, .nilFunc⟩ := ⟨by kernel_rfl, by kernel_rfl⟩
theorem ty87 : TyIs Try.prog 87 ⟨.func, 1, 8, .nilFunc⟩ := ⟨by kernel_rfl, by kernel_rfl⟩
theorem ty88 : TyIs Try.prog 88 ⟨.struct [(3, 0), (3, 1), (3, 2)], 3, 24, .agg #[.int .i64 0, .int .i64 0, .int .i64 0]⟩ := ⟨by kernel_rfl, by kernel_rfl⟩
theorem ty89 : TyIs Try.prog 89 ⟨.struct [(3, 0), (3, 1), (3, 2)], 3, 24, .agg #[.int .i64 0, .int .i64 0, .int .i64 0]⟩ := ⟨by kernel_rfl, by kernel_rfl⟩
theorem ty90 : TyIs Try.prog 90 ⟨.func, 1, 8, .nilFunc⟩ := ⟨by kernel_rfl, by kernel_rfl⟩
theorem ty91 : TyIs Try.prog 91 ⟨.func, 1, 8, .nilFunc⟩ := ⟨by kernel_rfl, by kernel_rfl⟩
theorem ty92 : TyIs Try.prog 92 ⟨.func, 1, 8, .nilFunc⟩ := ⟨by kernel_rfl, by kernel_rfl⟩
theorem ty93 : TyIs Try.prog 93 ⟨.func, 1, 8, .nilFunc⟩ := ⟨by kernel_rfl, by kernel_rfl⟩
theorem ty94 : TyIs Try.prog 94 ⟨.func, 1, 8, .nilFunc⟩ := ⟨by kernel_rfl, by kernel_rfl⟩
theorem ty95 : TyIs Try.prog 95 ⟨.func, 1, 8, .nilFunc⟩ := ⟨by kernel_rfl, by kernel_rfl⟩
theorem ty96 : TyIs Try.prog 96 ⟨.slice 26, 1, 24, .slice none 0 0⟩ := ⟨by kernel_rfl, by kernel_rfl⟩
theorem ty97 : TyIs Try.prog 97 ⟨.slice 27, 1, 24, .slice none 0 0⟩ := ⟨by kernel_rfl, by kernel_rfl⟩
theorem ty98 : TyIs Try.prog 98 ⟨.func, 1, 8, .nilFunc⟩ := ⟨by kernel_rfl, by kernel_rfl⟩
theorem ty99 : TyIs Try.prog 99 ⟨.func, 1, 8, .nilFunc⟩ := ⟨by kernel_rfl, by kernel_rfl⟩
theorem ty100 : TyIs Try.prog 100 ⟨.func, 1, 8, .nilFunc⟩ := ⟨by kernel_rfl, by kernel_rfl⟩
theorem ty101 : TyIs Try.prog 101 ⟨.func, 1, 8, .nilFunc⟩ := ⟨by kernel_rfl, by kernel_rfl⟩
theorem ty102 : TyIs Try.prog 102 ⟨.func, 1, 8, .nilFunc⟩ := ⟨by kernel_rfl, by kernel_rfl⟩
theorem ty103 : TyIs Try.prog 103 ⟨.func, 1, 8, .nilFunc⟩ := ⟨by kernel_rfl, by kernel_rfl⟩
theorem ty104 : TyIs Try.prog 104 ⟨.func, 1, 8, .nilFunc⟩ := ⟨by kernel_rfl, by kernel_rfl⟩
theorem ty105 : TyIs Try.prog 105 ⟨.func, 1, 8, .nilFunc⟩ := ⟨by kernel_rfl, by kernel_rfl⟩
theorem ty106 : TyIs Try.prog 106 ⟨.func, 1, 8, .nilFunc⟩ := ⟨by kernel_rfl, by kernel_rfl⟩
theorem ty107 : TyIs Try.prog 107 ⟨.func, 1, 8, .nilFunc⟩ := ⟨by kernel_rfl, by kernel_rfl⟩
theorem ty108 : TyIs Try.prog 108 ⟨.func, 1, 8, .nilFunc⟩ := ⟨by kernel_rfl, by kernel_rfl⟩
theorem ty109 : TyIs Try.prog 109 ⟨.func, 1, 8, .nilFunc⟩ := ⟨by kernel_rfl, by kernel_rfl⟩
theorem ty110 : TyIs Try.prog 110 ⟨.func, 1, 8, .nilFunc⟩ := ⟨by kernel_rfl, by kernel_rfl⟩
theorem ty111 : TyIs Try.prog 111 ⟨.array 3 4, 3, 3, .agg #[.bool false, .bool false, .bool false]⟩ := ⟨by kernel_rfl, by kernel_rfl⟩
theorem ty112 : TyIs Try.prog 112 ⟨.array 5 111, 15, 15, .agg #[.bool false, .bool false, .bool false, .bool false, .bool false, .bool false, .bool false, .bool false, .bool false, .bool false, .bool false, .bool false, .bool false, .bool false, .bool false]⟩ := ⟨by kernel_rfl, by kernel_rfl⟩
theorem ty113 : TyIs Try.prog 113 ⟨.array 5 111, 15, 15, .agg #[.bool false, .bool false, .bool false, .bool false, .bool false, .bool false, .bool false, .bool false, .bool false, .bool false, .bool false, .bool false, .bool false, .bool false, .bool false]⟩ := ⟨by kernel_rfl, by kernel_rfl⟩
theorem ty114 : TyIs Try.prog 114 ⟨.func, 1, 8, .nilFunc⟩ := ⟨by kernel_rfl, by kernel_rfl⟩
theorem ty115 : TyIs Try.prog 115 ⟨.func, 1, 8, .nilFunc⟩ := ⟨by kernel_rfl, by kernel_rfl⟩
theorem ty116 : TyIs Try.prog 116 ⟨.func, 1, 8, .nilFunc⟩ := ⟨by kernel_rfl, by kernel_rfl⟩
theorem ty117 : TyIs Try.prog 117 ⟨.func, 1, 8, .nilFunc⟩ := ⟨by kernel_rfl, by kernel_rfl⟩
theorem ty118 : TyIs Try.prog 118 ⟨.func, 1, 8, .nilFunc⟩ := ⟨by kernel_rfl, by kernel_rfl⟩
theorem ty119 : TyIs Try.prog 119 ⟨.func, 1, 8, .nilFunc⟩ := ⟨by kernel_rfl, by kernel_rfl⟩
theorem ty120 : TyIs Try.prog 120 ⟨.func, 1, 8, .nilFunc⟩ := ⟨by kernel_rfl, by kernel_rfl⟩
theorem ty121 : TyIs Try.prog 121 ⟨.func, 1, 8, .nilFunc⟩ := ⟨by kernel_rfl, by kernel_rfl⟩
theorem ty122 : TyIs Try.prog 122 ⟨.func, 1, 8, .nilFunc⟩ := ⟨by kernel_rfl, by kernel_rfl⟩
theorem ty123 : TyIs Try.prog 123 ⟨.func, 1, 8, .nilFunc⟩ := ⟨by kernel_rfl, by kernel_rfl⟩
theorem ty124 : TyIs Try.prog 124 ⟨.func, 1, 8, .nilFunc⟩ := ⟨by kernel_rfl, by kernel_rfl⟩
theorem ty125 : TyIs Try.prog 125 ⟨.func, 1, 8, .nilFunc⟩ := ⟨by kernel_rfl, by kernel_rfl⟩
theorem ty126 : TyIs Try.prog 126 ⟨.func, 1, 8, .nilFunc⟩ := ⟨by kernel_rfl, by kernel_rfl⟩
theorem ty127 : TyIs Try.prog 127 ⟨.func, 1, 8, .nilFunc⟩ := ⟨by kernel_rfl, by kernel_rfl⟩
theorem ty128 : TyIs Try.prog 128 ⟨.func, 1, 8, .nilFunc⟩ := ⟨by kernel_rfl, by kernel_rfl⟩
theorem ty129 : TyIs Try.prog 129 ⟨.func, 1, 8, .nilFunc⟩ := ⟨by kernel_rfl, by kernel_rfl⟩
theorem ty130 : TyIs Try.prog 130 ⟨.int .u64, 1, 8, .int .u64 0⟩ := ⟨by kernel_rfl, by kernel_rfl⟩
theorem ty132 : TyIs Try.prog 132 ⟨.func, 1, 8, .nilFunc⟩ := ⟨by kernel_rfl, by kernel_rfl⟩
theorem ty133 : TyIs Try.prog 133 ⟨.func, 1, 8, .nilFunc⟩ := ⟨by kernel_rfl, by kernel_rfl⟩
theorem ty134 : TyIs Try.prog 134 ⟨.func, 1, 8, .nilFunc⟩ := ⟨by kernel_rfl, by kernel_rfl⟩
theorem ty135 : TyIs Try.prog 135 ⟨.func, 1, 8, .nilFunc⟩ := ⟨by kernel_rfl, by kernel_rfl⟩
theorem ty136 : TyIs Try.prog 136 ⟨.int .u32, 1, 4, .int .u32 0⟩ := ⟨by kernel_rfl, by kernel_rfl⟩
theorem ty138 : TyIs Try.prog 138 ⟨.func, 1, 8, .nilFunc⟩ := ⟨by kernel_rfl, by kernel_rfl⟩
theorem ty139 : TyIs Try.prog 139 ⟨.int .u64, 1, 8, .int .u64 0⟩ := ⟨by kernel_rfl, by kernel_rfl⟩
theorem ty141 : TyIs Try.prog 141 ⟨.func, 1, 8, .nilFunc⟩ := ⟨by kernel_rfl, by kernel_rfl⟩
theorem ty142 : TyIs Try.prog 142 ⟨.func, 1, 8, .nilFunc⟩ := ⟨by kernel_rfl, by kernel_rfl⟩
theorem ty143 : TyIs Try.prog 143 ⟨.func, 1, 8, .nilFunc⟩ := ⟨by kernel_rfl, by kernel_rfl⟩
theorem ty144 : TyIs Try.prog 144 ⟨.func, 1, 8, .nilFunc⟩ := ⟨by kernel_rfl, by kernel_rfl⟩
theorem ty150 : TyIs Try.prog 150 ⟨.int .u8, 1, 1, .int .u8 0⟩ := ⟨by kernel_rfl, by kernel_rfl⟩
theorem ty151 : TyIs Try.prog 151 ⟨.int .u8, 1, 1, .int .u8 0⟩ := ⟨by kernel_rfl, by kernel_rfl⟩
theorem ty152 : TyIs Try.prog 152 ⟨.func, 1, 8, .nilFunc⟩ := ⟨by kernel_rfl, by kernel_rfl⟩
theorem ty153 : TyIs Try.prog 153 ⟨.ptr 5, 1, 8, .pointer none⟩ := ⟨by kernel_rfl, by kernel_rfl⟩
theorem ty154 : TyIs Try.prog 154 ⟨.int .i32, 1, 4, .int .i32 0⟩ := ⟨by kernel_rfl, by kernel_rfl⟩
theorem ty155 : TyIs Try.prog 155 ⟨.int .i32, 1, 4, .int .i32 0⟩ := ⟨by kernel_rfl, by kernel_rfl⟩
theorem ty156 : TyIs Try.prog 156 ⟨.struct [(12, 0), (12, 1), (136, 2), (150, 3), (5, 4), (5, 5), (151, 6), (152, 7), (153, 8), (154, 9), (155, 10)], 11, 48, .agg #[.int .u64 0, .int .u64 0, .int .u32 0, .int .u8 0, .int .u8 0, .int .u8 0, .int .u8 0, .nilFunc, .pointer none, .int .i32 0, .int .i32 0]⟩ := ⟨by kernel_rfl, by kernel_rfl⟩
theorem ty157 : TyIs Try.prog 157 ⟨.struct [(12, 0), (12, 1), (136, 2), (150, 3), (5, 4), (5, 5), (151, 6), (152, 7), (153, 8), (154, 9), (155, 10)], 11, 48, .agg #[.int .u64 0, .int .u64 0, .int .u32 0, .int .u8 0, .int .u8 0, .int .u8 0, .int .u8 0, .nilFunc, .pointer none, .int .i32 0, .int .i32 0]⟩ := ⟨by kernel_rfl, by kernel_rfl⟩
theorem sq7 : SeqOk Try.prog 7 [(2, 0, false), (3, 1, false), (4, 2, false), (6, 3, false)] := ⟨by kernel_rfl, by kernel_rfl, by kernel_rfl, by kernel_rfl⟩
theorem sq8 : SeqOk Try.prog 8 [(2, 0, false), (3, 1, false), (4, 2, false), (6, 3, false)] := ⟨by kernel_rfl, by kernel_rfl, by kernel_rfl, by kernel_rfl⟩
theorem sq22 : SeqOk Try.prog 22 [(3, 0, false), (3, 1, false), (3, 2, false), (3, 3, false), (3, 4, false)] := ⟨by kernel_rfl, by kernel_rfl, by kernel_rfl, by kernel_rfl⟩
theorem sq23 : SeqOk Try.prog 23 [(3, 0, false), (3, 1, false), (3, 2, false), (3, 3, false), (3, 4, false)] := ⟨by kernel_rfl, by kernel_rfl, by kernel_rfl, by kernel_rfl⟩
theorem sq70 : SeqOk Try.prog 70 [(3, 0, false), (3, 1, false)] := ⟨by kernel_rfl, by kernel_rfl, by kernel_rfl, by kernel_rfl⟩
theorem sq71 : SeqOk Try.prog 71 [(3, 0, false), (3, 1, false)] := ⟨by kernel_rfl, by kernel_rfl, by kernel_rfl, by kernel_rfl⟩
theorem sq88 : SeqOk Try.prog 88 [(3, 0, false), (3, 1, false), (3, 2, false)] := ⟨by kernel_rfl, by kernel_rfl, by kernel_rfl, by kernel_rfl⟩
theorem sq89 : SeqOk Try.prog 89 [(3, 0, false), (3, 1, false), (3, 2, false)] := ⟨by kernel_rfl, by kernel_rfl, by kernel_rfl, by kernel_rfl⟩
def tyL : List (Nat × TyD) := [(1, ⟨.func, 1, 8, .nilFunc⟩), (2, ⟨.int .i64, 1, 8, .int .i64 0⟩), (3, ⟨.int .i64, 1, 8, .int .i64 0⟩), (4, ⟨.bool, 1, 1, .bool false⟩), (5, ⟨.int .u8, 1, 1, .int .u8 0⟩), (6, ⟨.int .u8, 1, 1, .int .u8 0⟩), (7, ⟨.struct [(2, 0), (3, 1), (4, 2), (6, 3)], 4, 24, .agg #[.int .i64 0, .int .i64 0, .bool false, .int .u8 0]⟩), (8, ⟨.struct [(2, 0), (3, 1), (4, 2), (6, 3)], 4, 24, .agg #[.int .i64 0, .int .i64 0, .bool false, .int .u8 0]⟩), (12, ⟨.int .u64, 1, 8, .int .u64 0⟩), (15, ⟨.ptr 146, 1, 8, .pointer none⟩), (16, ⟨.ptr 149, 1, 8, .pointer none⟩), (17, ⟨.ptr 157, 1, 8, .pointer none⟩), (18, ⟨.struct [(17, 0)], 1, 8, .agg #[.pointer none]⟩), (19, ⟨.struct [(17, 0)], 1, 8, .agg #[.pointer none]⟩), (20, ⟨.iface true, 1, 16, .nilIface⟩), (21, ⟨.int .i32, 1, 4, .int .i32 0⟩), (22, ⟨.struct [(3, 0), (3, 1), (3, 2), (3, 3), (3, 4)], 5, 40, .agg #[.int .i64 0, .int .i64 0, .int .i64 0, .int .i64 0, .int .i64 0]⟩), (23, ⟨.struct [(3, 0), (3, 1), (3, 2), (3, 3), (3, 4)], 5, 40, .agg #[.int .i64 0, .int .i64 0, .int .i64 0, .int .i64 0, .int .i64 0]⟩), (24, ⟨.slice 3, 1, 24, .slice none 0 0⟩), (25, ⟨.slice 24, 1, 24, .slice none 0 0⟩), (26, ⟨.slice 24, 1, 24, .slice none 0 0⟩), (27, ⟨.int .i64, 1, 8, .int .i64 0⟩), (29, ⟨.func, 1, 8, .nilFunc⟩), (31, ⟨.func, 1, 8, .nilFunc⟩), (33, ⟨.func, 1, 8, .nilFunc⟩), (35, ⟨.func, 1, 8, .nilFunc⟩), (36, ⟨.func, 1, 8, .nilFunc⟩), (37, ⟨.func, 1, 8, .nilFunc⟩), (38, ⟨.func, 1, 8, .nilFunc⟩), (39, ⟨.func, 1, 8, .nilFunc⟩), (40, ⟨.slice 89, 1, 24, .slice none 0 0⟩), (42, ⟨.func, 1, 8, .nilFunc⟩), (44, ⟨.func, 1, 8, .nilFunc⟩), (45, ⟨.slice 4, 1, 24, .slice none 0 0⟩), (47, ⟨.func, 1, 8, .nilFunc⟩), (49, ⟨.func, 1, 8, .nilFunc⟩), (50, ⟨.func, 1, 8, .nilFunc⟩), (51, ⟨.func, 1, 8, .nilFunc⟩), (52, ⟨.func, 1, 8, .nilFunc⟩), (53, ⟨.func, 1, 8, .nilFunc⟩), (54, ⟨.func, 1, 8, .nilFunc⟩), (55, ⟨.func, 1, 8, .nilFunc⟩), (56, ⟨.func, 1, 8, .nilFunc⟩), (57, ⟨.slice 45, 1, 24, .slice none 0 0⟩), (58, ⟨.func, 1, 8, .nilFunc⟩), (60, ⟨.func, 1, 8, .nilFunc⟩), (62, ⟨.func, 1, 8, .nilFunc⟩), (64, ⟨.func, 1, 8, .nilFunc⟩), (66, ⟨.func, 1, 8, .nilFunc⟩), (67, ⟨.func, 1, 8, .nilFunc⟩), (68, ⟨.func, 1, 8, .nilFunc⟩), (69, ⟨.func, 1, 8, .nilFunc⟩), (70, ⟨.struct [(3, 0), (3, 1)], 2, 16, .agg #[.int .i64 0, .int .i64 0]⟩), (71, ⟨.struct [(3, 0), (3, 1)], 2, 16, .agg #[.int .i64 0, .int .i64 0]⟩), (72, ⟨.func, 1, 8, .nilFunc⟩), (73, ⟨.func, 1, 8, .nilFunc⟩), (74, ⟨.func, 1, 8, .nilFunc⟩), (76, ⟨.func, 1, 8, .nilFunc⟩), (78, ⟨.func, 1, 8, .nilFunc⟩), (79, ⟨.func, 1, 8, .nilFunc⟩), (80, ⟨.func, 1, 8, .nilFunc⟩), (81, ⟨.func, 1, 8, .nilFunc⟩), (82, ⟨.func, 1, 8, .nilFunc⟩), (83, ⟨.func, 1, 8, .nilFunc⟩), (84, ⟨.func, 1, 8, .nilFunc⟩), (85, ⟨.func, 1, 8, .nilFunc⟩), (86, ⟨.func, 1, 8, .nilFunc⟩), (87, ⟨.func, 1, 8, .nilFunc⟩), (88, ⟨.struct [(3, 0), (3, 1), (3, 2)], 3, 24, .agg #[.int .i64 0, .int .i64 0, .int .i64 0]⟩), (89, ⟨.struct [(3, 0), (3, 1), (3, 2)], 3, 24, .agg #[.int .i64 0, .int .i64 0, .int .i64 0]⟩), (90, ⟨.func, 1, 8, .nilFunc⟩), (91, ⟨.func, 1, 8, .nilFunc⟩), (92, ⟨.func, 1, 8, .nilFunc⟩), (93, ⟨.func, 1, 8, .nilFunc⟩), (94, ⟨.func, 1, 8, .nilFunc⟩), (95, ⟨.func, 1, 8, .nilFunc⟩), (96, ⟨.slice 26, 1, 24, .slice none 0 0⟩), (97, ⟨.slice 27, 1, 24, .slice none 0 0⟩), (98, ⟨.func, 1, 8, .nilFunc⟩), (99, ⟨.func, 1, 8, .nilFunc⟩), (100, ⟨.func, 1, 8, .nilFunc⟩), (101, ⟨.func, 1, 8, .nilFunc⟩), (102, ⟨.func, 1, 8, .nilFunc⟩), (103, ⟨.func, 1, 8, .nilFunc⟩), (104, ⟨.func, 1, 8, .nilFunc⟩), (105, ⟨.func, 1, 8, .nilFunc⟩), (106, ⟨.func, 1, 8, .nilFunc⟩), (107, ⟨.func, 1, 8, .nilFunc⟩), (108, ⟨.func, 1, 8, .nilFunc⟩), (109, ⟨.func, 1, 8, .nilFunc⟩), (110, ⟨.func, 1, 8, .nilFunc⟩), (111, ⟨.array 3 4, 3, 3, .agg #[.bool false, .bool false, .bool false]⟩), (112, ⟨.array 5 111, 15, 15, .agg #[.bool false, .bool false, .bool false, .bool false, .bool false, .bool false, .bool false, .bool false, .bool false, .bool false, .bool false, .bool false, .bool false, .bool false, .bool false]⟩), (113, ⟨.array 5 111, 15, 15, .agg #[.bool false, .bool false, .bool false, .bool false, .bool false, .bool false, .bool false, .bool false, .bool false, .bool false, .bool false, .bool false, .bool false, .bool false, .bool false]⟩), (114, ⟨.func, 1, 8, .nilFunc⟩), (115, ⟨.func, 1, 8, .nilFunc⟩), (116, ⟨.func, 1, 8, .nilFunc⟩), (117, ⟨.func, 1, 8, .nilFunc⟩), (118, ⟨.func, 1, 8, .nilFunc⟩), (119, ⟨.func, 1, 8, .nilFunc⟩), (120, ⟨.func, 1, 8, .nilFunc⟩), (121, ⟨.func, 1, 8, .nilFunc⟩), (122, ⟨.func, 1, 8, .nilFunc⟩), (123, ⟨.func, 1, 8, .nilFunc⟩), (124, ⟨.func, 1, 8, .nilFunc⟩), (125, ⟨.func, 1, 8, .nilFunc⟩), (126, ⟨.func, 1, 8, .nilFunc⟩), (127, ⟨.func, 1, 8, .nilFunc⟩), (128, ⟨.func, 1, 8, .nilFunc⟩), (129, ⟨.func, 1, 8, .nilFunc⟩), (130, ⟨.int .u64, 1, 8, .int .u64 0⟩), (132, ⟨.func, 1, 8, .nilFunc⟩), (133, ⟨.func, 1, 8, .nilFunc⟩), (134, ⟨.func, 1, 8, .nilFunc⟩), (135, ⟨.func, 1, 8, .nilFunc⟩), (136, ⟨.int .u32, 1, 4, .int .u32 0⟩), (138, ⟨.func, 1, 8, .nilFunc⟩), (139, ⟨.int .u64, 1, 8, .int .u64 0⟩), (141, ⟨.func, 1, 8, .nilFunc⟩), (142, ⟨.func, 1, 8, .nilFunc⟩), (143, ⟨.func, 1, 8, .nilFunc⟩), (144, ⟨.func, 1, 8, .nilFunc⟩), (150, ⟨.int .u8, 1, 1, .int .u8 0⟩), (151, ⟨.int .u8, 1, 1, .int .u8 0⟩), (152, ⟨.func, 1, 8, .nilFunc⟩), (153, ⟨.ptr 5, 1, 8, .pointer none⟩), (154, ⟨.int .i32, 1, 4, .int .i32 0⟩), (155, ⟨.int .i32, 1, 4, .int .i32 0⟩), (156, ⟨.struct [(12, 0), (12, 1), (136, 2), (150, 3), (5, 4), (5, 5), (151, 6), (152, 7), (153, 8), (154, 9), (155, 10)], 11, 48, .agg #[.int .u64 0, .int .u64 0, .int .u32 0, .int .u8 0, .int .u8 0, .int .u8 0, .int .u8 0, .nilFunc, .pointer none, .int .i32 0, .int .i32 0]⟩), (157, ⟨.struct [(12, 0), (12, 1), (136, 2), (150, 3), (5, 4), (5, 5), (151, 6), (152, 7), (153, 8), (154, 9), (155, 10)], 11, 48, .agg #[.int .u64 0, .int .u64 0, .int .u32 0, .int .u8 0, .int .u8 0, .int .u8 0, .int .u8 0, .nilFunc, .pointer none, .int .i32 0, .int .i32 0]⟩)]
def lookT : List (Nat × TyD) → Nat → Option TyD
  | [], _ => none
  | (k, v) :: e, t => bif Nat.beq k t then some v else lookT e t
def AllTy (P : Program) : List (Nat × TyD) → Prop
  | [] => True
  | (k, v) :: e => TyIs P k v ∧ AllTy P e
theorem allTy_look {P : Program} : ∀ {l : List (Nat × TyD)} {T : Nat} {d : TyD}, AllTy P l → lookT l T = some d → TyIs P T d
  | [], _, _, _, h => by cases h
  | (k, v) :: e, T, d, ha, h => by
    simp only [lookT] at h
    cases hb : Nat.beq k T
    · rw [hb] at h; exact allTy_look ha.2 h
    · rw [hb] at h; cases h; rw [← Nat.eq_of_beq_eq_true hb]; exact ha.1
theorem tyL_ok : AllTy Try.prog tyL := ⟨ty1, ty2, ty3, ty4, ty5, ty6, ty7, ty8, ty12, ty15, ty16, ty17, ty18, ty19, ty20, ty21, ty22, ty23, ty24, ty25, ty26, ty27, ty29, ty31, ty33, ty35, ty36, ty37, ty38, ty39, ty40, ty42, ty44, ty45, ty47, ty49, ty50, ty51, ty52, ty53, ty54, ty55, ty56, ty57, ty58, ty60, ty62, ty64, ty66, ty67, ty68, ty69, ty70, ty71, ty72, ty73, ty74, ty76, ty78, ty79, ty80, ty81, ty82, ty83, ty84, ty85, ty86, ty87, ty88, ty89, ty90, ty91, ty92, ty93, ty94, ty95, ty96, ty97, ty98, ty99, ty100, ty101, ty102, ty103, ty104, ty105, ty106, ty107, ty108, ty109, ty110, ty111, ty112, ty113, ty114, ty115, ty116, ty117, ty118, ty119, ty120, ty121, ty122, ty123, ty124, ty125, ty126, ty127, ty128, ty129, ty130, ty132, ty133, ty134, ty135, ty136, ty138, ty139, ty141, ty142, ty143, ty144, ty150, ty151, ty152, ty153, ty154, ty155, ty156, ty157, trivial⟩
def sizesL : List (TypeId × Nat) → Option (List Nat)
  | [] => some []
  | (E, _) :: fs => match lookT tyL E, sizesL fs with
    | some d, some ns => some (d.size :: ns)
    | _, _ => none
theorem sizes : ∀ {fs : List (TypeId × Nat)} {ns : List Nat}, sizesL fs = some ns → SizesAre Try.prog fs ns
  | [], ns, h => by cases h; trivial
  | (E, _) :: fs, ns, h => by
    simp only [sizesL] at h
    cases h1 : lookT tyL E with
    | none => rw [h1] at h; cases h
    | some d =>
      cases h2 : sizesL fs with
      | none => rw [h1, h2] at h; cases h
      | some ms => rw [h1, h2] at h; cases h; exact ⟨⟨d, allTy_look tyL_ok h1, rfl⟩, sizes h2⟩
theorem ty {T : TypeId} {d : TyD} (h : lookT tyL T = some d) : TyIs Try.prog T d := allTy_look tyL_ok h
def seqL : List (Nat × List (TypeId × Nat × Bool)) := [(7, [(2, 0, false), (3, 1, false), (4, 2, false), (6, 3, false)]), (8, [(2, 0, false), (3, 1, false), (4, 2, false), (6, 3, false)]), (22, [(3, 0, false), (3, 1, false), (3, 2, false), (3, 3, false), (3, 4, false)]), (23, [(3, 0, false), (3, 1, false), (3, 2, false), (3, 3, false), (3, 4, false)]), (70, [(3, 0, false), (3, 1, false)]), (71, [(3, 0, false), (3, 1, false)]), (88, [(3, 0, false), (3, 1, false), (3, 2, false)]), (89, [(3, 0, false), (3, 1, false), (3, 2, false)])]
def lookS : List (Nat × List (TypeId × Nat × Bool)) → Nat → Option (List (TypeId × Nat × Bool))
  | [], _ => none
  | (k, v) :: e, t => bif Nat.beq k t then some v else lookS e t
def AllSeq (P : Program) : List (Nat × List (TypeId × Nat × Bool)) → Prop
  | [] => True
  | (k, v) :: e => SeqOk P k v ∧ AllSeq P e
theorem allSeq_look {P : Program} : ∀ {l : List (Nat × List (TypeId × Nat × Bool))} {T : Nat} {d : List (TypeId × Nat × Bool)}, AllSeq P l → lookS l T = some d → SeqOk P T d
  | [], _, _, _, h => by cases h
  | (k, v) :: e, T, d, ha, h => by
    simp only [lookS] at h
    cases hb : Nat.beq k T
    · rw [hb] at h; exact allSeq_look ha.2 h
    · rw [hb] at h; cases h; rw [← Nat.eq_of_beq_eq_true hb]; exact ha.1
theorem seqL_ok : AllSeq Try.prog seqL := ⟨sq7, sq8, sq22, sq23, sq70, sq71, sq88, sq89, trivial⟩
theorem seq {T : TypeId} {d : List (TypeId × Nat × Bool)} (h : lookS seqL T = some d) : SeqOk Try.prog T d := allSeq_look seqL_ok h
theorem fn17 : FnOk Try.prog 17 := fnOk Try.func17 rfl (by kernel_rfl)
theorem fn19 : FnOk Try.prog 19 := fnOk Try.func19 rfl (by kernel_rfl)
theorem fn21 : FnOk Try.prog 21 := fnOk Try.func21 rfl (by kernel_rfl)
theorem fn24 : FnOk Try.prog 24 := fnOk Try.func24 rfl (by kernel_rfl)
theorem fn26 : FnOk Try.prog 26 := fnOk Try.func26 rfl (by kernel_rfl)
theorem fn28 : FnOk Try.prog 28 := fnOk Try.func28 rfl (by kernel_rfl)
theorem fn30 : FnOk Try.prog 30 := fnOk Try.func30 rfl (by kernel_rfl)
theorem fn32 : FnOk Try.prog 32 := fnOk Try.func32 rfl (by kernel_rfl)
theorem fn35 : FnOk Try.prog 35 := fnOk Try.func35 rfl (by kernel_rfl)
theorem fn37 : FnOk Try.prog 37 := fnOk Try.func37 rfl (by kernel_rfl)
theorem fn39 : FnOk Try.prog 39 := fnOk Try.func39 rfl (by kernel_rfl)
theorem fn40 : FnOk Try.prog 40 := fnOk Try.func40 rfl (by kernel_rfl)
theorem fn41 : FnOk Try.prog 41 := fnOk Try.func41 rfl (by kernel_rfl)
theorem fn43 : FnOk Try.prog 43 := fnOk Try.func43 rfl (by kernel_rfl)
theorem fn47 : FnOk Try.prog 47 := fnOk Try.func47 rfl (by kernel_rfl)
theorem fn49 : FnOk Try.prog 49 := fnOk Try.func49 rfl (by kernel_rfl)
theorem fn51 : FnOk Try.prog 51 := fnOk Try.func51 rfl (by kernel_rfl)
theorem fn52 : FnOk Try.prog 52 := fnOk Try.func52 rfl (by kernel_rfl)
theorem fn53 : FnOk Try.prog 53 := fnOk Try.func53 rfl (by kernel_rfl)
theorem fn54 : FnOk Try.prog 54 := fnOk Try.func54 rfl (by kernel_rfl)
theorem fn56 : FnOk Try.prog 56 := fnOk Try.func56 rfl (by kernel_rfl)
theorem fn57 : FnOk Try.prog 57 := fnOk Try.func57 rfl (by kernel_rfl)
theorem fn58 : FnOk Try.prog 58 := fnOk Try.func58 rfl (by kernel_rfl)
theorem fn64 : FnOk Try.prog 64 := fnOk Try.func64 rfl (by kernel_rfl)
theorem fn65 : FnOk Try.prog 65 := fnOk Try.func65 rfl (by kernel_rfl)
theorem fn68 : FnOk Try.prog 68 := fnOk Try.func68 rfl (by kernel_rfl)
theorem fn70 : FnOk Try.prog 70 := fnOk Try.func70 rfl (by kernel_rfl)
theorem fn71 : FnOk Try.prog 71 := fnOk Try.func71 rfl (by kernel_rfl)
theorem fn72 : FnOk Try.prog 72 := fnOk Try.func72 rfl (by kernel_rfl)
theorem fn73 : FnOk Try.prog 73 := fnOk Try.func73 rfl (by kernel_rfl)
theorem fn74 : FnOk Try.prog 74 := fnOk Try.func74 rfl (by kernel_rfl)
theorem fn76 : FnOk Try.prog 76 := fnOk Try.func76 rfl (by kernel_rfl)
theorem fn77 : FnOk Try.prog 77 := fnOk Try.func77 rfl (by kernel_rfl)
theorem fn78 : FnOk Try.prog 78 := fnOk Try.func78 rfl (by kernel_rfl)
theorem fn79 : FnOk Try.prog 79 := fnOk Try.func79 rfl (by kernel_rfl)
theorem fn80 : FnOk Try.prog 80 := fnOk Try.func80 rfl (by kernel_rfl)
theorem fn86 : FnOk Try.prog 86 := fnOk Try.func86 rfl (by kernel_rfl)
theorem fn88 : FnOk Try.prog 88 := fnOk Try.func88 rfl (by kernel_rfl)
theorem fn89 : FnOk Try.prog 89 := fnOk Try.func89 rfl (by kernel_rfl)
theorem fn91 : FnOk Try.prog 91 := fnOk Try.func91 rfl (by kernel_rfl)
theorem fn92 : FnOk Try.prog 92 := fnOk Try.func92 rfl (by kernel_rfl)
theorem fn93 : FnOk Try.prog 93 := fnOk Try.func93 rfl (by kernel_rfl)
theorem fn94 : FnOk Try.prog 94 := fnOk Try.func94 rfl (by kernel_rfl)
theorem fn97 : FnOk Try.prog 97 := fnOk Try.func97 rfl (by kernel_rfl)
theorem fn98 : FnOk Try.prog 98 := fnOk Try.func98 rfl (by kernel_rfl)
theorem fn100 : FnOk Try.prog 100 := fnOk Try.func100 rfl (by kernel_rfl)
theorem fn101 : FnOk Try.prog 101 := fnOk Try.func101 rfl (by kernel_rfl)
theorem fn102 : FnOk Try.prog 102 := fnOk Try.func102 rfl (by kernel_rfl)
theorem mixed : Try.prog.follows .mixedOrders = true := by kernel_rfl
end Go.Proofs.Ytccidiflnmchiaa
namespace Go.Proofs.Ytccidiflnmchiaa
open Go.RowKit
/-- What a test tells. -/
class HG (p : Prop) (q : outParam Prop) : Prop where
  out : p → q
instance hgi1 {p : Prop} [Decidable p] : HG (decide p = true) p := ⟨of_decide_eq_true⟩
instance hgi2 {p : Prop} [Decidable p] : HG (decide p = false) (¬ p) := ⟨of_decide_eq_false⟩
instance hgi3 {p : Prop} [Decidable p] : HG ((!decide p) = true) (¬ p) := ⟨hgNT⟩
instance hgi4 {p : Prop} [Decidable p] : HG ((!decide p) = false) p := ⟨hgNF⟩
instance hgi5 {p : Prop} [Decidable p] : HG (decide p = !false) p := ⟨of_decide_eq_true⟩
instance hgi6 {p : Prop} [Decidable p] : HG (decide p = !true) (¬ p) := ⟨of_decide_eq_false⟩
instance hgi7 {p : Prop} [Decidable p] : HG ((!decide p) = !false) (¬ p) := ⟨hgNT⟩
instance hgi8 {p : Prop} [Decidable p] : HG ((!decide p) = !true) p := ⟨hgNF⟩
instance (priority := low) hgj1 {b : Bool} : HG ((!b) = true) (b = false) := ⟨hgBT⟩
instance (priority := low) hgj2 {b : Bool} : HG ((!b) = false) (b = true) := ⟨hgBF⟩
instance (priority := low) hgj3 {b : Bool} : HG ((!b) = !false) (b = false) := ⟨hgBT⟩
instance (priority := low) hgj4 {b : Bool} : HG ((!b) = !true) (b = true) := ⟨hgBF⟩
instance (priority := low) hgj5 {b : Bool} : HG (b = !true) (b = false) := ⟨fun h => h⟩
instance (priority := low) hgj6 {b : Bool} : HG (b = !false) (b = true) := ⟨fun h => h⟩
variable {r : Option Nat} {m nt i e : Nat} {Q : Post} {env : Env} {H : Heap} {ops : Array Oper} {l : List Stp} {ty : TypeId} {pos : String} {after : Array Edge} {x y c : Operand} {T T2 E : TypeId} {d de : TyD} {v : V} {keep : Bool}
theorem zmv  (hk : AR Try.prog r m nt ops Q l ((e, v) :: env) H) (hx : eo env x = some v := by exact rfl) (hd : e < nt := by exact dc rfl) :
    AR Try.prog r m nt ops Q (.q i ⟨some e, .move x, ty, pos, after, none⟩ :: l) env H := ar_q (qs_move hx) hd hk
theorem zas  (hk : AR Try.prog r m nt ops Q l ((e, v) :: env) H) (hx : eo env x = some v := by exact rfl) (hd : e < nt := by exact dc rfl) :
    AR Try.prog r m nt ops Q (.q i ⟨some e, .assign x, ty, pos, after, none⟩ :: l) env H := ar_q (qs_assign hx) hd hk
theorem zlp {sz b j off n : Nat} {f : Nat → V} (hk : AR Try.prog r m nt ops Q l ((e, v) :: env) H) (ht : TyIs Try.prog T d := by exact ty rfl) (hx : eo env x = some (.ptr sz b j off) := by exact rfl) (hH : H[b]? = some (.arr sz n f) := by exact rfl) (hi : j < n := by first | exact Nat.one_pos | assumption | omega) (hv : partV d.tk.agg (f j).cells off d.size = some v := by exact rfl) (hd : e < nt := by exact dc rfl) :
    AR Try.prog r m nt ops Q (.q i ⟨some e, .load T x, ty, pos, after, none⟩ :: l) env H := ar_q (qs_load_ptr ht hx hH hi hv) hd hk
theorem zlr {w : V} {off : Nat} (hk : AR Try.prog r m nt ops Q l ((e, v) :: env) H) (ht : TyIs Try.prog T d := by exact ty rfl) (hx : eo env x = some (.ref w off) := by exact rfl) (hv : partV d.tk.agg w.cells off d.size = some v := by exact rfl) (hd : e < nt := by exact dc rfl) :
    AR Try.prog r m nt ops Q (.q i ⟨some e, .load T x, ty, pos, after, none⟩ :: l) env H := ar_q (qs_load_ref ht hx hv) hd hk
theorem zlss {k : IntKind} {a b : Int} (hk : AR Try.prog r m nt ops Q l ((e, .s (.bool (decide (a < b)))) :: env) H) (hx : eo env x = some (.s (.int k a)) := by exact rfl) (hy : eo env y = some (.s (.int k b)) := by exact rfl) (hd : e < nt := by exact dc rfl) :
    AR Try.prog r m nt ops Q (.q i ⟨some e, .binOp .lss T x y T2, ty, pos, after, none⟩ :: l) env H := ar_q (qs_lss hx hy) hd hk
theorem zleq {k : IntKind} {a b : Int} (hk : AR Try.prog r m nt ops Q l ((e, .s (.bool (decide (a ≤ b)))) :: env) H) (hx : eo env x = some (.s (.int k a)) := by exact rfl) (hy : eo env y = some (.s (.int k b)) := by exact rfl) (hd : e < nt := by exact dc rfl) :
    AR Try.prog r m nt ops Q (.q i ⟨some e, .binOp .leq T x y T2, ty, pos, after, none⟩ :: l) env H := ar_q (qs_leq hx hy) hd hk
theorem zgtr {k : IntKind} {a b : Int} (hk : AR Try.prog r m nt ops Q l ((e, .s (.bool (decide (b < a)))) :: env) H) (hx : eo env x = some (.s (.int k a)) := by exact rfl) (hy : eo env y = some (.s (.int k b)) := by exact rfl) (hd : e < nt := by exact dc rfl) :
    AR Try.prog r m nt ops Q (.q i ⟨some e, .binOp .gtr T x y T2, ty, pos, after, none⟩ :: l) env H := ar_q (qs_gtr hx hy) hd hk
theorem zgeq {k : IntKind} {a b : Int} (hk : AR Try.prog r m nt ops Q l ((e, .s (.bool (decide (b ≤ a)))) :: env) H) (hx : eo env x = some (.s (.int k a)) := by exact rfl) (hy : eo env y = some (.s (.int k b)) := by exact rfl) (hd : e < nt := by exact dc rfl) :
    AR Try.prog r m nt ops Q (.q i ⟨some e, .binOp .geq T x y T2, ty, pos, after, none⟩ :: l) env H := ar_q (qs_geq hx hy) hd hk
theorem zeql {k : IntKind} {a b : Int} (hk : AR Try.prog r m nt ops Q l ((e, .s (.bool (decide (a = b)))) :: env) H) (hx : eo env x = some (.s (.int k a)) := by exact rfl) (hy : eo env y = some (.s (.int k b)) := by exact rfl) (hd : e < nt := by exact dc rfl) :
    AR Try.prog r m nt ops Q (.q i ⟨some e, .binOp .eql T x y T2, ty, pos, after, none⟩ :: l) env H := ar_q (qs_eql hx hy) hd hk
theorem zneq {k : IntKind} {a b : Int} (hk : AR Try.prog r m nt ops Q l ((e, .s (.bool (!decide (a = b)))) :: env) H) (hx : eo env x = some (.s (.int k a)) := by exact rfl) (hy : eo env y = some (.s (.int k b)) := by exact rfl) (hd : e < nt := by exact dc rfl) :
    AR Try.prog r m nt ops Q (.q i ⟨some e, .binOp .neq T x y T2, ty, pos, after, none⟩ :: l) env H := ar_q (qs_neq hx hy) hd hk
theorem zadd {a b c : Int} (hk : AR Try.prog r m nt ops Q l ((e, .s (.int .i64 c)) :: env) H) (hx : eo env x = some (.s (.int .i64 a)) := by exact rfl) (hy : eo env y = some (.s (.int .i64 b)) := by exact rfl) (hr : IntKind.i64.wrap (a + b) = c := by exact wrap64 (by omega)) (hd : e < nt := by exact dc rfl) :
    AR Try.prog r m nt ops Q (.q i ⟨some e, .binOp .add T x y T2, ty, pos, after, none⟩ :: l) env H := ar_q (qs_add hx hy hr) hd hk
theorem zsub {a b c : Int} (hk : AR Try.prog r m nt ops Q l ((e, .s (.int .i64 c)) :: env) H) (hx : eo env x = some (.s (.int .i64 a)) := by exact rfl) (hy : eo env y = some (.s (.int .i64 b)) := by exact rfl) (hr : IntKind.i64.wrap (a - b) = c := by exact wrap64 (by omega)) (hd : e < nt := by exact dc rfl) :
    AR Try.prog r m nt ops Q (.q i ⟨some e, .binOp .sub T x y T2, ty, pos, after, none⟩ :: l) env H := ar_q (qs_sub hx hy hr) hd hk
theorem zmul {a b c : Int} (hk : AR Try.prog r m nt ops Q l ((e, .s (.int .i64 c)) :: env) H) (hx : eo env x = some (.s (.int .i64 a)) := by exact rfl) (hy : eo env y = some (.s (.int .i64 b)) := by exact rfl) (hr : IntKind.i64.wrap (a * b) = c := by exact wrap64 (by omega)) (hd : e < nt := by exact dc rfl) :
    AR Try.prog r m nt ops Q (.q i ⟨some e, .binOp .mul T x y T2, ty, pos, after, none⟩ :: l) env H := ar_q (qs_mul hx hy hr) hd hk
theorem zaddu64 {a b c : Int} (hk : AR Try.prog r m nt ops Q l ((e, .s (.int .u64 c)) :: env) H) (hx : eo env x = some (.s (.int .u64 a)) := by exact rfl) (hy : eo env y = some (.s (.int .u64 b)) := by exact rfl) (hr : IntKind.u64.wrap (a + b) = c := by exact wrapU (by omega)) (hd : e < nt := by exact dc rfl) :
    AR Try.prog r m nt ops Q (.q i ⟨some e, .binOp .add T x y T2, ty, pos, after, none⟩ :: l) env H := ar_q (qs_add hx hy hr) hd hk
theorem zmulu64 {a b c : Int} (hk : AR Try.prog r m nt ops Q l ((e, .s (.int .u64 c)) :: env) H) (hx : eo env x = some (.s (.int .u64 a)) := by exact rfl) (hy : eo env y = some (.s (.int .u64 b)) := by exact rfl) (hr : IntKind.u64.wrap (a * b) = c := by exact wrapU (by omega)) (hd : e < nt := by exact dc rfl) :
    AR Try.prog r m nt ops Q (.q i ⟨some e, .binOp .mul T x y T2, ty, pos, after, none⟩ :: l) env H := ar_q (qs_mul hx hy hr) hd hk
theorem zbneq {a b : Bool} (hk : AR Try.prog r m nt ops Q l ((e, .s (.bool (!(a == b)))) :: env) H) (ht : TyIs Try.prog T d := by exact ty rfl) (hk1 : d.tk = .bool := by exact rfl) (hx : eo env x = some (.s (.bool a)) := by exact rfl) (hy : eo env y = some (.s (.bool b)) := by exact rfl) (hd : e < nt := by exact dc rfl) :
    AR Try.prog r m nt ops Q (.q i ⟨some e, .binOp .neq T x y T2, ty, pos, after, none⟩ :: l) env H := ar_q (qs_bneq ht hk1 hx hy) hd hk
theorem zquo {a b c : Int} (hk : AR Try.prog r m nt ops Q l ((e, .s (.int .i64 c)) :: env) H) (hx : eo env x = some (.s (.int .i64 a)) := by exact rfl) (hy : eo env y = some (.s (.int .i64 b)) := by exact rfl) (hn : b ≠ 0 := by omega) (hr : IntKind.i64.wrap (a.tdiv b) = c := by exact quo64 (by omega) (by omega)) (hd : e < nt := by exact dc rfl) :
    AR Try.prog r m nt ops Q (.q i ⟨some e, .binOp .quo T x y T2, ty, pos, after, none⟩ :: l) env H := ar_q (qs_quo hx hy hn hr) hd hk
theorem zfp {fs : List (TypeId × Nat)} {k o : Nat} {sz b j off : Nat} (hk : AR Try.prog r m nt ops Q l ((e, .ptr sz b j (off + o)) :: env) H) (ht : TyIs Try.prog T d := by exact ty rfl) (hk1 : d.tk = .struct fs := by exact rfl) (hf : fs[k]? = some (E, o) := by exact rfl) (he : TyIs Try.prog E de := by exact ty rfl) (hz : de.size ≠ 0 := by exact Nat.succ_ne_zero _) (hx : eo env x = some (.ptr sz b j off) := by exact rfl) (hd : e < nt := by exact dc rfl) :
    AR Try.prog r m nt ops Q (.q i ⟨some e, .fieldAddr T x k, ty, pos, after, none⟩ :: l) env H := ar_q (qs_faddr_ptr ht hk1 hf he hz hx) hd hk
theorem zfr {fs : List (TypeId × Nat)} {k o : Nat} {w : V} {off : Nat} (hk : AR Try.prog r m nt ops Q l ((e, .ref w (off + o)) :: env) H) (ht : TyIs Try.prog T d := by exact ty rfl) (hk1 : d.tk = .struct fs := by exact rfl) (hf : fs[k]? = some (E, o) := by exact rfl) (he : TyIs Try.prog E de := by exact ty rfl) (hz : de.size ≠ 0 := by exact Nat.succ_ne_zero _) (hx : eo env x = some (.ref w off) := by exact rfl) (hd : e < nt := by exact dc rfl) :
    AR Try.prog r m nt ops Q (.q i ⟨some e, .fieldAddr T x k, ty, pos, after, none⟩ :: l) env H := ar_q (qs_faddr_ref ht hk1 hf he hz hx) hd hk
theorem zil {sz n j : Nat} {f : Nat → V} {k : IntKind} {a : Int} (hk : AR Try.prog r m nt ops Q l ((e, .ref (f j) 0) :: env) H) (ht : TyIs Try.prog T d := by exact ty rfl) (hk1 : d.tk = .slice E := by exact rfl) (he : TyIs Try.prog E de := by exact ty rfl) (hs : de.size = sz := by exact rfl) (hx : eo env x = some (.list sz n f) := by exact rfl) (hy : eo env y = some (.s (.int k a)) := by exact rfl) (hm : a = (j : Int) := by first | exact rfl | omega) (hj : j < n := by omega) (hd : e < nt := by exact dc rfl) :
    AR Try.prog r m nt ops Q (.q i ⟨some e, .indexAddr T x y, ty, pos, after, none⟩ :: l) env H := ar_q (qs_iaddr_list ht hk1 he hs hx hy hm hj) hd hk
theorem zis {sz b n j : Nat} {k : IntKind} {a : Int} (hk : AR Try.prog r m nt ops Q l ((e, .ptr sz b j 0) :: env) H) (ht : TyIs Try.prog T d := by exact ty rfl) (hk1 : d.tk = .slice E := by exact rfl) (he : TyIs Try.prog E de := by exact ty rfl) (hs : de.size = sz := by exact rfl) (hx : eo env x = some (.sl sz b 0 n) := by exact rfl) (hy : eo env y = some (.s (.int k a)) := by exact rfl) (hm : a = (j : Int) := by first | exact rfl | omega) (hj : j < n := by omega) (hd : e < nt := by exact dc rfl) :
    AR Try.prog r m nt ops Q (.q i ⟨some e, .indexAddr T x y, ty, pos, after, none⟩ :: l) env H := ar_q (qs_iaddr_sl0 ht hk1 he hs hx hy hm hj) hd hk
theorem zit {sz b o n j : Nat} {k : IntKind} {a : Int} (hk : AR Try.prog r m nt ops Q l ((e, .ptr sz b (o + j) 0) :: env) H) (ht : TyIs Try.prog T d := by exact ty rfl) (hk1 : d.tk = .slice E := by exact rfl) (he : TyIs Try.prog E de := by exact ty rfl) (hs : de.size = sz := by exact rfl) (hx : eo env x = some (.sl sz b o n) := by exact rfl) (hy : eo env y = some (.s (.int k a)) := by exact rfl) (hm : a = (j : Int) := by first | exact rfl | omega) (hj : j < n := by omega) (hd : e < nt := by exact dc rfl) :
    AR Try.prog r m nt ops Q (.q i ⟨some e, .indexAddr T x y, ty, pos, after, none⟩ :: l) env H := ar_q (qs_iaddr_sl ht hk1 he hs hx hy hm hj) hd hk
theorem zia {sz b o off n j : Nat} {k : IntKind} {a : Int} (hk : AR Try.prog r m nt ops Q l ((e, .ptr sz b o (off + j * de.size)) :: env) H) (ht : TyIs Try.prog T d := by exact ty rfl) (hk1 : d.tk = .array n E := by exact rfl) (he : TyIs Try.prog E de := by exact ty rfl) (hx : eo env x = some (.ptr sz b o off) := by exact rfl) (hy : eo env y = some (.s (.int k a)) := by exact rfl) (hm : a = (j : Int) := by first | exact rfl | omega) (hj : j < n := by omega) (hd : e < nt := by exact dc rfl) :
    AR Try.prog r m nt ops Q (.q i ⟨some e, .indexAddr T x y, ty, pos, after, none⟩ :: l) env H := ar_q (qs_iaddr_aptr ht hk1 he hx hy hm hj) hd hk
theorem zir {w : V} {off n j : Nat} {k : IntKind} {a : Int} (hk : AR Try.prog r m nt ops Q l ((e, .ref w (off + j * de.size)) :: env) H) (ht : TyIs Try.prog T d := by exact ty rfl) (hk1 : d.tk = .array n E := by exact rfl) (he : TyIs Try.prog E de := by exact ty rfl) (hx : eo env x = some (.ref w off) := by exact rfl) (hy : eo env y = some (.s (.int k a)) := by exact rfl) (hm : a = (j : Int) := by first | exact rfl | omega) (hj : j < n := by omega) (hd : e < nt := by exact dc rfl) :
    AR Try.prog r m nt ops Q (.q i ⟨some e, .indexAddr T x y, ty, pos, after, none⟩ :: l) env H := ar_q (qs_iaddr_aref ht hk1 he hx hy hm hj) hd hk
theorem zxl {sz n : Nat} {f : Nat → V} {k : IntKind} {a : Int} (h : ∀ j : Nat, a = (j : Int) → j < n → AR Try.prog r m nt ops Q l ((e, .ref (f j) 0) :: env) H) (ht : TyIs Try.prog T d := by exact ty rfl) (hk1 : d.tk = .slice E := by exact rfl) (he : TyIs Try.prog E de := by exact ty rfl) (hs : de.size = sz := by exact rfl) (hx : eo env x = some (.list sz n f) := by exact rfl) (hy : eo env y = some (.s (.int k a)) := by exact rfl) (h0 : 0 ≤ a ∧ a < (n : Int) := by omega) (hd : e < nt := by exact dc rfl) :
    AR Try.prog r m nt ops Q (.q i ⟨some e, .indexAddr T x y, ty, pos, after, none⟩ :: l) env H := ar_idx_list ht hk1 he hs hx hy hd h0 h
theorem zxs {sz b o n : Nat} {k : IntKind} {a : Int} (h : ∀ j : Nat, a = (j : Int) → j < n → AR Try.prog r m nt ops Q l ((e, .ptr sz b (o + j) 0) :: env) H) (ht : TyIs Try.prog T d := by exact ty rfl) (hk1 : d.tk = .slice E := by exact rfl) (he : TyIs Try.prog E de := by exact ty rfl) (hs : de.size = sz := by exact rfl) (hx : eo env x = some (.sl sz b o n) := by exact rfl) (hy : eo env y = some (.s (.int k a)) := by exact rfl) (h0 : 0 ≤ a ∧ a < (n : Int) := by omega) (hd : e < nt := by exact dc rfl) :
    AR Try.prog r m nt ops Q (.q i ⟨some e, .indexAddr T x y, ty, pos, after, none⟩ :: l) env H := ar_idx_sl ht hk1 he hs hx hy hd h0 h
theorem zll {sz n : Nat} {f : Nat → V} {ats : Array TypeId} (hk : AR Try.prog r m nt ops Q l ((e, .s (.int .i64 (n : Int))) :: env) H) (h0 : ats[0]? = some T := by exact rfl) (ht : TyIs Try.prog T d := by exact ty rfl) (hk1 : d.tk = .slice E := by exact rfl) (hx : eo env x = some (.list sz n f) := by exact rfl) (hd : e < nt := by exact dc rfl) :
    AR Try.prog r m nt ops Q (.q i ⟨some e, .call ⟨.builtin .len, #[x], ats⟩, ty, pos, after, none⟩ :: l) env H := ar_q (qs_len_list ht hk1 h0 hx) hd hk
theorem zls {sz b o n : Nat} {ats : Array TypeId} (hk : AR Try.prog r m nt ops Q l ((e, .s (.int .i64 (n : Int))) :: env) H) (h0 : ats[0]? = some T := by exact rfl) (ht : TyIs Try.prog T d := by exact ty rfl) (hk1 : d.tk = .slice E := by exact rfl) (hx : eo env x = some (.sl sz b o n) := by exact rfl) (hd : e < nt := by exact dc rfl) :
    AR Try.prog r m nt ops Q (.q i ⟨some e, .call ⟨.builtin .len, #[x], ats⟩, ty, pos, after, none⟩ :: l) env H := ar_q (qs_len_sl ht hk1 h0 hx) hd hk
theorem zln  {ats : Array TypeId} (hk : AR Try.prog r m nt ops Q l ((e, .s (.int .i64 0)) :: env) H) (h0 : ats[0]? = some T := by exact rfl) (ht : TyIs Try.prog T d := by exact ty rfl) (hk1 : d.tk = .slice E := by exact rfl) (hx : eo env x = some (.s (.slice none 0 0)) := by exact rfl) (hd : e < nt := by exact dc rfl) :
    AR Try.prog r m nt ops Q (.q i ⟨some e, .call ⟨.builtin .len, #[x], ats⟩, ty, pos, after, none⟩ :: l) env H := ar_q (qs_len_nil ht hk1 h0 hx) hd hk
theorem zle  {ats : Array TypeId} (hk : AR Try.prog r m nt ops Q l ((e, .s (.int .i64 0)) :: env) H) (h0 : ats[0]? = some T := by exact rfl) (ht : TyIs Try.prog T d := by exact ty rfl) (hk1 : d.tk = .slice E := by exact rfl) (hx : eo env x = some (.emp) := by exact rfl) (hd : e < nt := by exact dc rfl) :
    AR Try.prog r m nt ops Q (.q i ⟨some e, .call ⟨.builtin .len, #[x], ats⟩, ty, pos, after, none⟩ :: l) env H := ar_q (qs_len_emp ht hk1 h0 hx) hd hk
theorem zmin {k : IntKind} {a b : Int} {ats : Array TypeId} (hk : AR Try.prog r m nt ops Q l ((e, .s (.int k (min a b))) :: env) H) (hx : eo env x = some (.s (.int k a)) := by exact rfl) (hy : eo env y = some (.s (.int k b)) := by exact rfl) (hd : e < nt := by exact dc rfl) :
    AR Try.prog r m nt ops Q (.q i ⟨some e, .call ⟨.builtin .min, #[x, y], ats⟩, ty, pos, after, none⟩ :: l) env H := ar_q (qs_min hx hy) hd hk
theorem zpt  (hk : AR Try.prog r m nt ops Q l ((e, v) :: env) H) (hc : eo env c = some (.s (.bool true)) := by exact rfl) (hx : eo env x = some v := by exact rfl) (hd : e < nt := by exact dc rfl) :
    AR Try.prog r m nt ops Q (.q i ⟨some e, .pick c x y, ty, pos, after, none⟩ :: l) env H := ar_q (qs_pick_t hc hx) hd hk
theorem zpf  (hk : AR Try.prog r m nt ops Q l ((e, v) :: env) H) (hc : eo env c = some (.s (.bool false)) := by exact rfl) (hx : eo env y = some v := by exact rfl) (hd : e < nt := by exact dc rfl) :
    AR Try.prog r m nt ops Q (.q i ⟨some e, .pick c x y, ty, pos, after, none⟩ :: l) env H := ar_q (qs_pick_f hc hx) hd hk
theorem zex {cs : List V} {k : Nat} (hk : AR Try.prog r m nt ops Q l ((e, v) :: env) H) (hx : eo env x = some (.tup cs) := by exact rfl) (hv : cs[k]? = some v := by exact rfl) (hd : e < nt := by exact dc rfl) :
    AR Try.prog r m nt ops Q (.q i ⟨some e, .extract x k, ty, pos, after, none⟩ :: l) env H := ar_q (qs_extract hx hv) hd hk
theorem znt {b : Bool} (hk : AR Try.prog r m nt ops Q l ((e, .s (.bool !b)) :: env) H) (hx : eo env x = some (.s (.bool b)) := by exact rfl) (hd : e < nt := by exact dc rfl) :
    AR Try.prog r m nt ops Q (.q i ⟨some e, .unOp .not T x, ty, pos, after, none⟩ :: l) env H := ar_q (qs_not hx) hd hk
theorem zng {a b : Int} (hk : AR Try.prog r m nt ops Q l ((e, .s (.int .i64 b)) :: env) H) (hx : eo env x = some (.s (.int .i64 a)) := by exact rfl) (hr : IntKind.i64.wrap (0 - a) = b := by exact wrap64n (by omega)) (hd : e < nt := by exact dc rfl) :
    AR Try.prog r m nt ops Q (.q i ⟨some e, .unOp .neg T x, ty, pos, after, none⟩ :: l) env H := ar_q (qs_neg hx hr) hd hk
theorem zmf {g : Fn} {us ws : Array Operand} {vs vs2 : List V} (hk : AR Try.prog r m nt ops Q l ((e, .fn g vs vs2) :: env) H) (h1 : us.toList.mapM (eo env) = some vs := by exact rfl) (h2 : ws.toList.mapM (eo env) = some vs2 := by exact rfl) (hd : e < nt := by exact dc rfl) :
    AR Try.prog r m nt ops Q (.q i ⟨some e, .makeFunc g us ws, ty, pos, after, none⟩ :: l) env H := ar_q (qs_makeFunc h1 h2) hd hk
theorem zix {cs : List V} {n j : Nat} {k : IntKind} {a : Int} (hk : AR Try.prog r m nt ops Q l ((e, v) :: env) H) (ht : TyIs Try.prog T d := by exact ty rfl) (hk1 : d.tk = .array n E := by exact rfl) (he : TyIs Try.prog E de := by exact ty rfl) (hx : eo env x = some (.agg cs) := by exact rfl) (hy : eo env y = some (.s (.int k a)) := by exact rfl) (hm : a = (j : Int) := by first | exact rfl | omega) (hj : j < n := by omega) (hv : partV de.tk.agg cs (j * de.size) de.size = some v := by exact rfl) (hd : e < nt := by exact dc rfl) :
    AR Try.prog r m nt ops Q (.q i ⟨some e, .index T x y, ty, pos, after, none⟩ :: l) env H := ar_q (qs_index ht hk1 he hx hy hm hj hv) hd hk
theorem zcv {k : IntKind} {a b : Int} (hk : AR Try.prog r m nt ops Q l ((e, .s (.int .i64 b)) :: env) H) (ht : TyIs Try.prog T d := by exact ty rfl) (hk0 : d.tk = .int k := by exact rfl) (he : TyIs Try.prog E de := by exact ty rfl) (hk1 : de.tk = .int .i64 := by exact rfl) (hx : eo env x = some (.s (.int k a)) := by exact rfl) (hr : IntKind.i64.wrap a = b := by exact wrap64 (by omega)) (hd : e < nt := by exact dc rfl) :
    AR Try.prog r m nt ops Q (.q i ⟨some e, .convert T E x, ty, pos, after, none⟩ :: l) env H := ar_q (qs_conv ht hk0 he hk1 hx hr) hd hk
theorem zcvu64 {k : IntKind} {a b : Int} (hk : AR Try.prog r m nt ops Q l ((e, .s (.int .u64 b)) :: env) H) (ht : TyIs Try.prog T d := by exact ty rfl) (hk0 : d.tk = .int k := by exact rfl) (he : TyIs Try.prog E de := by exact ty rfl) (hk1 : de.tk = .int .u64 := by exact rfl) (hx : eo env x = some (.s (.int k a)) := by exact rfl) (hr : IntKind.u64.wrap a = b := by exact wrapU (by omega)) (hd : e < nt := by exact dc rfl) :
    AR Try.prog r m nt ops Q (.q i ⟨some e, .convert T E x, ty, pos, after, none⟩ :: l) env H := ar_q (qs_conv ht hk0 he hk1 hx hr) hd hk
theorem zcvu32 {k : IntKind} {a b : Int} (hk : AR Try.prog r m nt ops Q l ((e, .s (.int .u32 b)) :: env) H) (ht : TyIs Try.prog T d := by exact ty rfl) (hk0 : d.tk = .int k := by exact rfl) (he : TyIs Try.prog E de := by exact ty rfl) (hk1 : de.tk = .int .u32 := by exact rfl) (hx : eo env x = some (.s (.int k a)) := by exact rfl) (hr : IntKind.u32.wrap a = b := by exact wrapU32 (by omega)) (hd : e < nt := by exact dc rfl) :
    AR Try.prog r m nt ops Q (.q i ⟨some e, .convert T E x, ty, pos, after, none⟩ :: l) env H := ar_q (qs_conv ht hk0 he hk1 hx hr) hd hk
theorem zcl {sz n a b : Nat} {f : Nat → V} {lo hi : Option Operand} (hk : AR Try.prog r m nt ops Q l ((e, .list sz (b - a) (fun k => f (a + k))) :: env) H) (ht : TyIs Try.prog T d := by exact ty rfl) (hk1 : d.tk = .slice E := by exact rfl) (he : TyIs Try.prog E de := by exact ty rfl) (hs : de.size = sz := by exact rfl) (hx : eo env x = some (.list sz n f) := by exact rfl) (hl : bnd env lo 0 a := by first | exact rfl | exact ⟨_, rfl⟩ | exact bnd_some rfl (by omega)) (hh : bnd env hi n b := by first | exact rfl | exact ⟨_, rfl⟩ | exact bnd_some rfl (by omega)) (h1 : a ≤ b := by omega) (h2 : b ≤ n := by omega) (hd : e < nt := by exact dc rfl) :
    AR Try.prog r m nt ops Q (.q i ⟨some e, .slice T x lo hi none, ty, pos, after, none⟩ :: l) env H := ar_q (qs_slice_list ht hk1 he hs hx hl hh h1 h2) hd hk
theorem zcs {sz g o n a b : Nat} {lo hi : Option Operand} (hk : AR Try.prog r m nt ops Q l ((e, .sl sz g (o + a) (b - a)) :: env) H) (ht : TyIs Try.prog T d := by exact ty rfl) (hk1 : d.tk = .slice E := by exact rfl) (he : TyIs Try.prog E de := by exact ty rfl) (hs : de.size = sz := by exact rfl) (hx : eo env x = some (.sl sz g o n) := by exact rfl) (hl : bnd env lo 0 a := by first | exact rfl | exact ⟨_, rfl⟩ | exact bnd_some rfl (by omega)) (hh : bnd env hi n b := by first | exact rfl | exact ⟨_, rfl⟩ | exact bnd_some rfl (by omega)) (h1 : a ≤ b := by omega) (h2 : b ≤ n := by omega) (h3 : a < n ∨ a = 0 := by omega) (hd : e < nt := by exact dc rfl) :
    AR Try.prog r m nt ops Q (.q i ⟨some e, .slice T x lo hi none, ty, pos, after, none⟩ :: l) env H := ar_q (qs_slice_sl ht hk1 he hs hx hl hh h1 h2 h3) hd hk
theorem zbx  (h : AR Try.prog r m nt ops Q l ((e, .ptr v.cells.length H.length 0 0) :: env) (H ++ [.arr v.cells.length 1 (fun _ => v)])) (hx : eo env x = some v := by exact rfl) (hok : v.ok = true := by exact rfl) (hd : e < nt := by exact dc rfl) :
    AR Try.prog r m nt ops Q (.l i ⟨some e, .box T x, ty, pos, after, none⟩ keep :: l) env H := ar_boxf hx hok hd h
theorem zal  (h : AR Try.prog r m nt ops Q l ((e, .ptr (constV d.zero).cells.length H.length 0 0) :: env) (H ++ [.arr (constV d.zero).cells.length 1 (fun _ => constV d.zero)])) (ht : TyIs Try.prog T d := by exact ty rfl) (hok : (constV d.zero).ok = true := by exact rfl) (hd : e < nt := by exact dc rfl) :
    AR Try.prog r m nt ops Q (.l i ⟨some e, .alloc T, ty, pos, after, none⟩ keep :: l) env H := ar_alloc ht hok hd h
theorem zb1  (h : AR Try.prog r m nt ops Q l ((e, .sl de.size H.length 0 1) :: env) (H ++ [.arr de.size 1 (fun _ => v)])) (ht : TyIs Try.prog T d := by exact ty rfl) (hk1 : d.tk = .slice E := by exact rfl) (he : TyIs Try.prog E de := by exact ty rfl) (hx : eo env x = some v := by exact rfl) (hz : (constV de.zero).ok = true := by exact rfl) (hzs : de.zero.cells.size = de.size := by exact rfl) (hn : 1 * de.size ≤ 16777216 := by exact Nat.le_of_ble_eq_true rfl) (hs : v.cells.length = de.size := by exact rfl) (hok : v.ok = true := by exact rfl) (hd : e < nt := by exact dc rfl) :
    AR Try.prog r m nt ops Q (.l i ⟨some e, .buildSlice T 1 #[(0, x)], ty, pos, after, none⟩ keep :: l) env H := ar_build1 ht hk1 he hx hz hzs hn hs hok hd h
theorem zb0  (h : AR Try.prog r m nt ops Q l ((e, .emp) :: env) H) (ht : TyIs Try.prog T d := by exact ty rfl) (hk1 : d.tk = .slice E := by exact rfl) (he : TyIs Try.prog E de := by exact ty rfl) (hd : e < nt := by exact dc rfl) :
    AR Try.prog r m nt ops Q (.l i ⟨some e, .buildSlice T 0 #[], ty, pos, after, none⟩ keep :: l) env H := ar_build0 ht hk1 he hd h
theorem zapoo {dv yv : V} {sz n k : Nat} {f g : Nat → V} {H0 : Heap} (h : AR Try.prog r m nt ops Q l ((e, .sl sz H.length 0 (n + k)) :: env) (H0 ++ [.arr sz (n + k) (appF n f g)])) (ht : TyIs Try.prog T d := by exact ty rfl) (hk1 : d.tk = .slice E := by exact rfl) (he : TyIs Try.prog E de := by exact ty rfl) (hs : de.size = sz := by exact rfl) (hpos : 0 < sz := by exact Nat.succ_pos _) (hz : de.zero.cells.size = sz := by exact rfl) (hx : eo env x = some dv := by exact rfl) (hy : eo env y = some yv := by exact rfl) (hg : Grow H dv sz n f H0 := by exact (.inr (.inr ⟨_, rfl, rfl, rfl⟩))) (hsr : Src H yv sz k g := by exact (.inr (.inl ⟨_, _, _, _, rfl, rfl, (by omega), rfl⟩))) (hone : ∀ j, j < k → (g j).cells.all V.one = true := by exact fun _ _ => rfl) (hm : n + k ≤ maxLen := by first | exact maxLen_ok (by omega) | (unfold maxLen; omega)) (hb : (n + k) * de.bytes ≤ 140737488355328 := by (dsimp only; omega)) (hd : e < nt := by exact dc rfl) :
    AR Try.prog r m nt ops Q (.l i ⟨some e, .call ⟨.builtin .append, #[x, y], #[T, T]⟩, ty, pos, after, none⟩ keep :: l) env H := ar_append ht hk1 he hs hpos hz hx hy hg hsr hd hone hm hb h
theorem zapol {dv yv : V} {sz n k : Nat} {f g : Nat → V} {H0 : Heap} (h : AR Try.prog r m nt ops Q l ((e, .sl sz H.length 0 (n + k)) :: env) (H0 ++ [.arr sz (n + k) (appF n f g)])) (ht : TyIs Try.prog T d := by exact ty rfl) (hk1 : d.tk = .slice E := by exact rfl) (he : TyIs Try.prog E de := by exact ty rfl) (hs : de.size = sz := by exact rfl) (hpos : 0 < sz := by exact Nat.succ_pos _) (hz : de.zero.cells.size = sz := by exact rfl) (hx : eo env x = some dv := by exact rfl) (hy : eo env y = some yv := by exact rfl) (hg : Grow H dv sz n f H0 := by exact (.inr (.inr ⟨_, rfl, rfl, rfl⟩))) (hsr : Src H yv sz k g := by exact (.inl rfl)) (hone : ∀ j, j < k → (g j).cells.all V.one = true := by exact fun _ _ => rfl) (hm : n + k ≤ maxLen := by first | exact maxLen_ok (by omega) | (unfold maxLen; omega)) (hb : (n + k) * de.bytes ≤ 140737488355328 := by (dsimp only; omega)) (hd : e < nt := by exact dc rfl) :
    AR Try.prog r m nt ops Q (.l i ⟨some e, .call ⟨.builtin .append, #[x, y], #[T, T]⟩, ty, pos, after, none⟩ keep :: l) env H := ar_append ht hk1 he hs hpos hz hx hy hg hsr hd hone hm hb h
theorem zapno {dv yv : V} {sz n k : Nat} {g : Nat → V} {H0 : Heap} (h : AR Try.prog r m nt ops Q l ((e, .sl sz H.length 0 (n + k)) :: env) (H0 ++ [.arr sz (n + k) (appF n (fun _ => vnil) g)])) (ht : TyIs Try.prog T d := by exact ty rfl) (hk1 : d.tk = .slice E := by exact rfl) (he : TyIs Try.prog E de := by exact ty rfl) (hs : de.size = sz := by exact rfl) (hpos : 0 < sz := by exact Nat.succ_pos _) (hz : de.zero.cells.size = sz := by exact rfl) (hx : eo env x = some dv := by exact rfl) (hy : eo env y = some yv := by exact rfl) (hg : Grow H dv sz n (fun _ => vnil) H0 := by exact (.inl ⟨rfl, rfl, rfl⟩)) (hsr : Src H yv sz k g := by exact (.inr (.inl ⟨_, _, _, _, rfl, rfl, (by omega), rfl⟩))) (hone : ∀ j, j < k → (g j).cells.all V.one = true := by exact fun _ _ => rfl) (hm : n + k ≤ maxLen := by first | exact maxLen_ok (by omega) | (unfold maxLen; omega)) (hb : (n + k) * de.bytes ≤ 140737488355328 := by (dsimp only; omega)) (hd : e < nt := by exact dc rfl) :
    AR Try.prog r m nt ops Q (.l i ⟨some e, .call ⟨.builtin .append, #[x, y], #[T, T]⟩, ty, pos, after, none⟩ keep :: l) env H := ar_append ht hk1 he hs hpos hz hx hy hg hsr hd hone hm hb h
theorem zapnl {dv yv : V} {sz n k : Nat} {g : Nat → V} {H0 : Heap} (h : AR Try.prog r m nt ops Q l ((e, .sl sz H.length 0 (n + k)) :: env) (H0 ++ [.arr sz (n + k) (appF n (fun _ => vnil) g)])) (ht : TyIs Try.prog T d := by exact ty rfl) (hk1 : d.tk = .slice E := by exact rfl) (he : TyIs Try.prog E de := by exact ty rfl) (hs : de.size = sz := by exact rfl) (hpos : 0 < sz := by exact Nat.succ_pos _) (hz : de.zero.cells.size = sz := by exact rfl) (hx : eo env x = some dv := by exact rfl) (hy : eo env y = some yv := by exact rfl) (hg : Grow H dv sz n (fun _ => vnil) H0 := by exact (.inl ⟨rfl, rfl, rfl⟩)) (hsr : Src H yv sz k g := by exact (.inl rfl)) (hone : ∀ j, j < k → (g j).cells.all V.one = true := by exact fun _ _ => rfl) (hm : n + k ≤ maxLen := by first | exact maxLen_ok (by omega) | (unfold maxLen; omega)) (hb : (n + k) * de.bytes ≤ 140737488355328 := by (dsimp only; omega)) (hd : e < nt := by exact dc rfl) :
    AR Try.prog r m nt ops Q (.l i ⟨some e, .call ⟨.builtin .append, #[x, y], #[T, T]⟩, ty, pos, after, none⟩ keep :: l) env H := ar_append ht hk1 he hs hpos hz hx hy hg hsr hd hone hm hb h
theorem zapeo {dv yv : V} {sz n k : Nat} {g : Nat → V} {H0 : Heap} (h : AR Try.prog r m nt ops Q l ((e, .sl sz H.length 0 (n + k)) :: env) (H0 ++ [.arr sz (n + k) (appF n (fun _ => vnil) g)])) (ht : TyIs Try.prog T d := by exact ty rfl) (hk1 : d.tk = .slice E := by exact rfl) (he : TyIs Try.prog E de := by exact ty rfl) (hs : de.size = sz := by exact rfl) (hpos : 0 < sz := by exact Nat.succ_pos _) (hz : de.zero.cells.size = sz := by exact rfl) (hx : eo env x = some dv := by exact rfl) (hy : eo env y = some yv := by exact rfl) (hg : Grow H dv sz n (fun _ => vnil) H0 := by exact (.inr (.inl ⟨rfl, rfl, rfl⟩))) (hsr : Src H yv sz k g := by exact (.inr (.inl ⟨_, _, _, _, rfl, rfl, (by omega), rfl⟩))) (hone : ∀ j, j < k → (g j).cells.all V.one = true := by exact fun _ _ => rfl) (hm : n + k ≤ maxLen := by first | exact maxLen_ok (by omega) | (unfold maxLen; omega)) (hb : (n + k) * de.bytes ≤ 140737488355328 := by (dsimp only; omega)) (hd : e < nt := by exact dc rfl) :
    AR Try.prog r m nt ops Q (.l i ⟨some e, .call ⟨.builtin .append, #[x, y], #[T, T]⟩, ty, pos, after, none⟩ keep :: l) env H := ar_append ht hk1 he hs hpos hz hx hy hg hsr hd hone hm hb h
theorem zapel {dv yv : V} {sz n k : Nat} {g : Nat → V} {H0 : Heap} (h : AR Try.prog r m nt ops Q l ((e, .sl sz H.length 0 (n + k)) :: env) (H0 ++ [.arr sz (n + k) (appF n (fun _ => vnil) g)])) (ht : TyIs Try.prog T d := by exact ty rfl) (hk1 : d.tk = .slice E := by exact rfl) (he : TyIs Try.prog E de := by exact ty rfl) (hs : de.size = sz := by exact rfl) (hpos : 0 < sz := by exact Nat.succ_pos _) (hz : de.zero.cells.size = sz := by exact rfl) (hx : eo env x = some dv := by exact rfl) (hy : eo env y = some yv := by exact rfl) (hg : Grow H dv sz n (fun _ => vnil) H0 := by exact (.inr (.inl ⟨rfl, rfl, rfl⟩))) (hsr : Src H yv sz k g := by exact (.inl rfl)) (hone : ∀ j, j < k → (g j).cells.all V.one = true := by exact fun _ _ => rfl) (hm : n + k ≤ maxLen := by first | exact maxLen_ok (by omega) | (unfold maxLen; omega)) (hb : (n + k) * de.bytes ≤ 140737488355328 := by (dsimp only; omega)) (hd : e < nt := by exact dc rfl) :
    AR Try.prog r m nt ops Q (.l i ⟨some e, .call ⟨.builtin .append, #[x, y], #[T, T]⟩, ty, pos, after, none⟩ keep :: l) env H := ar_append ht hk1 he hs hpos hz hx hy hg hsr hd hone hm hb h
theorem zsvs {sz b off : Nat} {f : Nat → V} (h : AR Try.prog r m nt ops Q l env (H.set b (.arr sz 1 (fun _ => putPart (f 0) off v)))) (ht : TyIs Try.prog T d := by exact ty rfl) (hx : eo env x = some (.ptr sz b 0 off) := by exact rfl) (hy : eo env y = some v := by exact rfl) (hH : H[b]? = some (.arr sz 1 f) := by exact rfl) (hok : v.ok = true := by exact rfl) (hone : v.cells.all V.one = true := by exact rfl) (hsz : v.cells.length = d.size := by exact rfl) (hoff : off + d.size ≤ sz := by first | (dsimp only; omega) | exact dc rfl) (ha : (∃ cs, f 0 = .agg cs) ∨ (off = 0 ∧ v.cells.length = 1 ∧ (f 0).cells.length = 1 ∧ ∀ cs, v ≠ .agg cs) := by exact (.inr ⟨rfl, rfl, rfl, fun _ h => by cases h⟩))  :
    AR Try.prog r m nt ops Q (.l i ⟨none, .store T x y, ty, pos, after, none⟩ false :: l) env H := ar_store_var ht hx hy hH hok hone hsz hoff ha h
theorem zses {sz b j off n : Nat} {f : Nat → V} (h : AR Try.prog r m nt ops Q l env (H.set b (.arr sz n (upd f j (putPart (f j) off v))))) (ht : TyIs Try.prog T d := by exact ty rfl) (hx : eo env x = some (.ptr sz b j off) := by exact rfl) (hy : eo env y = some v := by exact rfl) (hH : H[b]? = some (.arr sz n f) := by exact rfl) (hok : v.ok = true := by exact rfl) (hone : v.cells.all V.one = true := by exact rfl) (hsz : v.cells.length = d.size := by exact rfl) (hi : j < n := by first | exact Nat.one_pos | assumption | omega) (hoff : off + d.size ≤ sz := by first | (dsimp only; omega) | exact dc rfl) (ha : (∃ cs, f j = .agg cs) ∨ (off = 0 ∧ v.cells.length = 1 ∧ (f j).cells.length = 1 ∧ ∀ cs, v ≠ .agg cs) := by exact (.inr ⟨rfl, rfl, rfl, fun _ h => by cases h⟩))  :
    AR Try.prog r m nt ops Q (.l i ⟨none, .store T x y, ty, pos, after, none⟩ false :: l) env H := ar_store_elt ht hx hy hH hok hone hsz hi hoff ha h
theorem zsva {sz b off : Nat} {f : Nat → V} (h : AR Try.prog r m nt ops Q l env (H.set b (.arr sz 1 (fun _ => putPart (f 0) off v)))) (ht : TyIs Try.prog T d := by exact ty rfl) (hx : eo env x = some (.ptr sz b 0 off) := by exact rfl) (hy : eo env y = some v := by exact rfl) (hH : H[b]? = some (.arr sz 1 f) := by exact rfl) (hok : v.ok = true := by exact rfl) (hone : v.cells.all V.one = true := by exact rfl) (hsz : v.cells.length = d.size := by exact rfl) (hoff : off + d.size ≤ sz := by first | (dsimp only; omega) | exact dc rfl) (ha : (∃ cs, f 0 = .agg cs) ∨ (off = 0 ∧ v.cells.length = 1 ∧ (f 0).cells.length = 1 ∧ ∀ cs, v ≠ .agg cs) := by exact (.inl ⟨_, rfl⟩))  :
    AR Try.prog r m nt ops Q (.l i ⟨none, .store T x y, ty, pos, after, none⟩ false :: l) env H := ar_store_var ht hx hy hH hok hone hsz hoff ha h
theorem zsea {sz b j off n : Nat} {f : Nat → V} (h : AR Try.prog r m nt ops Q l env (H.set b (.arr sz n (upd f j (putPart (f j) off v))))) (ht : TyIs Try.prog T d := by exact ty rfl) (hx : eo env x = some (.ptr sz b j off) := by exact rfl) (hy : eo env y = some v := by exact rfl) (hH : H[b]? = some (.arr sz n f) := by exact rfl) (hok : v.ok = true := by exact rfl) (hone : v.cells.all V.one = true := by exact rfl) (hsz : v.cells.length = d.size := by exact rfl) (hi : j < n := by first | exact Nat.one_pos | assumption | omega) (hoff : off + d.size ≤ sz := by first | (dsimp only; omega) | exact dc rfl) (ha : (∃ cs, f j = .agg cs) ∨ (off = 0 ∧ v.cells.length = 1 ∧ (f j).cells.length = 1 ∧ ∀ cs, v ≠ .agg cs) := by exact (.inl ⟨_, rfl⟩))  :
    AR Try.prog r m nt ops Q (.l i ⟨none, .store T x y, ty, pos, after, none⟩ false :: l) env H := ar_store_elt ht hx hy hH hok hone hsz hi hoff ha h
theorem zcpl {yv : V} {b o n N k : Nat} {f g : Nat → V} {T2 : TypeId} (h : AR Try.prog r m nt ops Q l ((e, vi (Nat.min k n)) :: env) (H.set b (.arr 1 N (copyF f o (Nat.min k n) g)))) (ht : TyIs Try.prog T d := by exact ty rfl) (hk1 : d.tk = .slice E := by exact rfl) (he : TyIs Try.prog E de := by exact ty rfl) (hs1 : de.size = 1 := by exact rfl) (hx : eo env x = some (.sl 1 b o n) := by exact rfl) (hH : H[b]? = some (.arr 1 N f) := by exact rfl) (hN : o + n ≤ N := by omega) (hy : eo env y = some yv := by exact rfl) (hsr : Src H yv 1 k g := by exact (.inl rfl)) (hone : ∀ j, j < k → (g j).cells.all V.one = true := by exact fun _ _ => rfl) (hd : e < nt := by exact dc rfl) :
    AR Try.prog r m nt ops Q (.l i ⟨some e, .call ⟨.builtin .copy, #[x, y], #[T, T2]⟩, ty, pos, after, none⟩ false :: l) env H := ar_copy ht hk1 he hs1 hx hH hN hy hsr hone hd h
theorem zcpo {yv : V} {b o n N k : Nat} {f g : Nat → V} {T2 : TypeId} (h : AR Try.prog r m nt ops Q l ((e, vi (Nat.min k n)) :: env) (H.set b (.arr 1 N (copyF f o (Nat.min k n) g)))) (ht : TyIs Try.prog T d := by exact ty rfl) (hk1 : d.tk = .slice E := by exact rfl) (he : TyIs Try.prog E de := by exact ty rfl) (hs1 : de.size = 1 := by exact rfl) (hx : eo env x = some (.sl 1 b o n) := by exact rfl) (hH : H[b]? = some (.arr 1 N f) := by exact rfl) (hN : o + n ≤ N := by omega) (hy : eo env y = some yv := by exact rfl) (hsr : Src H yv 1 k g := by exact (.inr (.inl ⟨_, _, _, _, rfl, rfl, (by omega), rfl⟩))) (hone : ∀ j, j < k → (g j).cells.all V.one = true := by exact fun _ _ => rfl) (hd : e < nt := by exact dc rfl) :
    AR Try.prog r m nt ops Q (.l i ⟨some e, .call ⟨.builtin .copy, #[x, y], #[T, T2]⟩, ty, pos, after, none⟩ false :: l) env H := ar_copy ht hk1 he hs1 hx hH hN hy hsr hone hd h
theorem zgu {s : Stp} {g t : Nat} {want : Bool} (h : AR Try.prog r m nt ops Q l ((e, .s undef) :: env) H) (hg : s.oper.guard = some (g, want) := by exact rfl) (ht : (ops[g]?).bind (·.dst) = some t := by exact rfl) (hd : s.oper.dst = some e := by exact rfl) (hb : look env t = some (.s undef) := by exact rfl) (hdn : e < nt := by exact dc rfl) : AR Try.prog r m nt ops Q (s :: l) env H := ar_guard_u hg ht hd hb hdn h
theorem zg {s : Stp} {g t : Nat} {b want : Bool} (hy : b = want → AR Try.prog r m nt ops Q (s.bare :: l) ((t, .s (.bool want)) :: env) H) (hn : b = !want → AR Try.prog r m nt ops Q l ((e, .s undef) :: (t, .s (.bool !want)) :: env) H) (hg : s.oper.guard = some (g, want) := by exact rfl) (ht : (ops[g]?).bind (·.dst) = some t := by exact rfl) (hb : look env t = some (.s (.bool b)) := by exact rfl) (hd : s.oper.dst = some e := by exact rfl) (hdn : e < nt := by exact dc rfl) : AR Try.prog r m nt ops Q (s :: l) env H := ar_guard hg ht hb hd hdn hy hn
theorem zco {x : Operand} {c1 c2 : Code} {b : Bool} (hy : b = true → AW Try.prog r m nt c1 Q env H) (hn : b = false → AW Try.prog r m nt c2 Q env H) (hc : eo env x = some (.s (.bool b)) := by exact rfl) : AW Try.prog r m nt (.cond x c1 c2) Q env H := aw_cond hc hy hn
end Go.Proofs.Ytccidiflnmchiaa
namespace Go.Proofs.Ytccidiflnmchiaa
open Go.RowKit
theorem hgK {a b : Bool} (h : (a == b) = true) : a = b := by simpa using h
theorem hgK' {a b : Bool} (h : (a == b) = false) : ¬ a = b := by simpa using h
theorem hgKN {a b : Bool} (h : (!(a == b)) = true) : ¬ a = b := by simpa using h
theorem hgKN' {a b : Bool} (h : (!(a == b)) = false) : a = b := by simpa using h
instance hgk1 {a b : Bool} : HG ((a == b) = true) (a = b) := ⟨hgK⟩
instance hgk2 {a b : Bool} : HG ((a == b) = false) (¬ a = b) := ⟨hgK'⟩
instance hgk3 {a b : Bool} : HG ((!(a == b)) = true) (¬ a = b) := ⟨hgKN⟩
instance hgk4 {a b : Bool} : HG ((!(a == b)) = false) (a = b) := ⟨hgKN'⟩
instance hgk5 {a b : Bool} : HG ((a == b) = !false) (a = b) := ⟨hgK⟩
instance hgk6 {a b : Bool} : HG ((a == b) = !true) (¬ a = b) := ⟨hgK'⟩
instance hgk7 {a b : Bool} : HG ((!(a == b)) = !false) (¬ a = b) := ⟨hgKN⟩
instance hgk8 {a b : Bool} : HG ((!(a == b)) = !true) (a = b) := ⟨hgKN'⟩
end Go.Proofs.Ytccidiflnmchiaa
namespace Go.Proofs.Ytccidiflnmchiaa
open Go.RowKit
abbrev encInts (l : List Int) : V := LV 1 vi l
abbrev encBools (l : List Bool) : V := LV 1 vb l
abbrev encRows (b : List (List Int)) : V := LV 1 encInts b
abbrev encMask (b : List (List Bool)) : V := LV 1 encBools b
structure Sheet where
  cols : Int
  rows : Int
  weight : Int
  clear : Int
  lean : Int
def Sheet.enc (s : Sheet) : V := .agg [vi s.cols, vi s.rows, vi s.weight, vi s.clear, vi s.lean]
def withinB (n lo hi : Int) : Bool := decide (lo ≤ n) && decide (n ≤ hi)
theorem withinB_iff {n lo hi : Int} : withinB n lo hi = true ↔ lo ≤ n ∧ n ≤ hi := by simp [withinB]
theorem withinB_no {n lo hi : Int} : withinB n lo hi = false ↔ ¬ (lo ≤ n ∧ n ≤ hi) := by rw [← withinB_iff]; simp
def Sheet.ok (s : Sheet) : Bool := withinB s.cols 1 40 && withinB s.rows 1 60 && withinB s.weight 1 8 && withinB s.clear 0 20 && withinB s.lean 0 8
def Sheet.err (s : Sheet) : Int := if s.ok then 0 else 70
theorem Sheet.bounds {s : Sheet} (h : s.ok = true) : 1 ≤ s.cols ∧ s.cols ≤ 40 ∧ 1 ≤ s.rows ∧ s.rows ≤ 60 ∧ 1 ≤ s.weight ∧ s.weight ≤ 8 ∧ 0 ≤ s.clear ∧ s.clear ≤ 20 ∧ 0 ≤ s.lean ∧ s.lean ≤ 8 := by
  simp only [Sheet.ok, Bool.and_eq_true, withinB_iff] at h
  omega
def lineAt (s : Sheet) (l : List Int) (k : Nat) : Bool := withinB (el l k) 0 (s.rows - s.weight) && (decide (k = 0) || withinB (el l k - el l (k - 1)) (-s.lean) s.lean)
def isLineB (s : Sheet) (l : List Int) : Bool := decide ((l.length : Int) = s.cols) && (List.range l.length).all (lineAt s l)
set_option maxHeartbeats 400000 in
theorem within_p (n lo hi : Int) : PCalls Try.prog 57 [vi n, vi lo, vi hi] (· = vb (withinB n lo hi)) := by
  refine pcalls_of_aw Try.func57 rfl (Nat.le_of_ble_eq_true rfl) ?_
  (repeat' (first | (refine ar_isq ?_; first | refine zmv ?_ | refine zas ?_ | (refine is_binOp ?_; first | refine zleq ?_ | refine zgeq ?_) | (refine is_pick ?_; first | refine zpt ?_ | refine zpf ?_)) | (refine zg ?_ ?_ <;> intro hg <;> first | exact absurd hg (by decide) | ((try replace hg := HG.out hg); (try dsimp only at hg); (try (have _h : True := hg; clear _h hg)); first | (exfalso; omega) | skip)) | (refine zgu ?_) | (refine ar_nil ?_) | (refine aw_seq ?_) | (refine aw_skip ?_) | (refine aw_block ?_) | (refine aw_exit ?_) | (refine aw_region ?_) | (refine zco ?_ ?_ <;> intro hg <;> first | exact absurd hg (by decide) | ((try replace hg := HG.out hg); (try dsimp only at hg); (try (have _h : True := hg; clear _h hg)); first | (exfalso; omega) | skip))))
  all_goals (refine aw_ret ?_; (repeat (first | refine ret_then ?_ | refine ret_block ?_)); refine bq1 rfl ⟨?_, rfl⟩)
  all_goals (simp only [vb, constV, withinB]; congr 2; simp; try omega)
set_option maxHeartbeats 400000 in
theorem checkSheet_p (s : Sheet) : PCalls Try.prog 28 [s.enc] (· = vi s.err) := by
  refine pcalls_of_aw Try.func28 rfl (Nat.le_of_ble_eq_true rfl) ?_
  (repeat' (first | (refine ar_isq ?_; first | refine zmv ?_ | refine zas ?_ | (refine is_load ?_; first | refine zlp ?_ | refine zlr ?_) | (refine is_fieldAddr ?_; first | refine zfp ?_ | refine zfr ?_) | (refine is_pick ?_; first | refine zpt ?_ | refine zpf ?_) | refine znt ?_) | (refine ar_pcall (own := false) fn57 rfl rfl (.cons (.closed rfl) (.cons (.closed rfl) (.cons (.closed rfl) .nil))) (within_p _ _ _) (by simp) (dc rfl) ?_; intro _ hv; subst hv) | (refine zbx ?_) | (refine zg ?_ ?_ <;> intro hg <;> first | exact absurd hg (by decide) | ((try replace hg := HG.out hg); (try dsimp only at hg); (try (have _h : True := hg; clear _h hg)); first | (exfalso; omega) | skip)) | (refine zgu ?_) | (refine ar_nil ?_) | (refine aw_seq ?_) | (refine aw_skip ?_) | (refine aw_block ?_) | (refine aw_exit ?_) | (refine aw_region ?_) | (refine zco ?_ ?_ <;> intro hg <;> first | exact absurd hg (by decide) | ((try replace hg := HG.out hg); (try dsimp only at hg); (try (have _h : True := hg; clear _h hg)); first | (exfalso; omega) | skip))))
  all_goals (refine aw_ret ?_; (repeat (first | refine ret_then ?_ | refine ret_block ?_)); refine bq1 rfl ⟨?_, rfl⟩)
  all_goals (simp only [vi, constV, Sheet.err, Sheet.ok]; simp_all)
end Go.Proofs.Ytccidiflnmchiaa
namespace Go.Proofs.Ytccidiflnmchiaa
open Go.RowKit
theorem lineAt_iff {s : Sheet} {l : List Int} {k : Nat} : lineAt s l k = true ↔ (0 ≤ el l k ∧ el l k ≤ s.rows - s.weight) ∧ (k = 0 ∨ (-s.lean ≤ el l k - el l (k - 1) ∧ el l k - el l (k - 1) ≤ s.lean)) := by
  simp [lineAt, withinB_iff]
theorem isLineB_iff {s : Sheet} {l : List Int} : isLineB s l = true ↔ (l.length : Int) = s.cols ∧ ∀ j, j < l.length → lineAt s l j = true := by
  simp [isLineB, List.all_eq_true]
theorem isLine_no {s : Sheet} {l : List Int} {k : Nat} (hk : k < l.length) (h : lineAt s l k = false) : isLineB s l = false := by
  cases e : isLineB s l with
  | false => rfl
  | true => have := (isLineB_iff.1 e).2 k hk; rw [h] at this; cases this
theorem isLine_yes {s : Sheet} {l : List Int} (h : ∀ j, j < l.length → lineAt s l j = true) : isLineB s l = decide ((l.length : Int) = s.cols) := by
  rw [Bool.eq_iff_iff, isLineB_iff, decide_eq_true_eq]
  exact ⟨fun h => h.1, fun e => ⟨e, h⟩⟩
set_option maxHeartbeats 1000000 in
theorem isLine_p (s : Sheet) (hs : s.ok = true) (l : List Int) : PCalls Try.prog 89 [s.enc, encInts l] (· = vb (isLineB s l)) := by
  (refine pcalls_know (fun I us h => rel_len (rel_arg h (j := 1) rfl)) fun hlen1 => ?_)
  have hb := Sheet.bounds hs
  refine pcalls_of_aw Try.func89 rfl (Nat.le_of_ble_eq_true rfl) ?_
  (repeat' (first | (refine ar_isq ?_; first | refine zmv ?_ | refine zas ?_ | (refine is_load ?_; first | refine zlp ?_ | refine zlr ?_) | (refine is_binOp ?_; first | refine zlss ?_ | refine zgtr ?_ | refine zeql ?_ | refine zadd ?_ | refine zsub ?_) | (refine is_fieldAddr ?_; first | refine zfp ?_ | refine zfr ?_) | (refine is_indexAddr ?_; first | refine zil ?_ | refine zis ?_ | refine zit ?_ | refine zia ?_ | refine zir ?_ | (refine zxl ?_; intro _ _ _) | (refine zxs ?_; intro _ _ _)) | (refine is_call ?_; first | refine zll ?_ | refine zls ?_ | refine zln ?_ | refine zle ?_) | (refine is_pick ?_; first | refine zpt ?_ | refine zpf ?_) | (refine is_unOp ?_; first | refine znt ?_ | refine zng ?_)) | (refine zbx ?_) | (refine zg ?_ ?_ <;> intro hg <;> first | exact absurd hg (by decide) | ((try replace hg := HG.out hg); (try dsimp only at hg); (try rw [withinB_iff] at hg); (try rw [withinB_no] at hg); (try (have _h : True := hg; clear _h hg)); first | (exfalso; omega) | skip)) | (refine zgu ?_) | (refine ar_nil ?_) | (refine aw_seq ?_) | (refine aw_skip ?_) | (refine aw_block ?_) | (refine aw_exit ?_) | (refine aw_region ?_) | (refine aw_drawn (id := 4) [(0, 0), (1, 0), (2, 0), (3, 0), (4, 0), (5, 0), (6, 1), (7, 0), (8, 0), (9, 0), (10, 0), (11, 0), (12, 0), (13, 0), (14, 0), (15, 0), (16, 0), (17, 0), (18, 0), (19, 0), (20, 0), (21, 0), (22, 0), (23, 0), (24, 1), (25, 0), (26, 0), (27, 0)] mixed (by kernel_rfl) ?_) | (refine aw_drawn (id := 4) [(0, 0), (1, 0), (2, 0), (3, 0), (4, 0), (5, 0), (6, 2), (7, 0), (8, 0), (9, 0), (10, 0), (11, 0), (12, 0), (13, 0), (14, 0), (15, 0), (16, 0), (17, 0), (18, 0), (19, 0), (20, 0), (21, 0), (22, 0), (23, 0), (24, 2), (25, 0), (26, 0), (27, 0)] mixed (by kernel_rfl) ?_) | (refine zco ?_ ?_ <;> intro hg <;> first | exact absurd hg (by decide) | ((try replace hg := HG.out hg); (try dsimp only at hg); (try rw [withinB_iff] at hg); (try rw [withinB_no] at hg); (try (have _h : True := hg; clear _h hg)); first | (exfalso; omega) | skip))))
  refine aw_for l.length (fun k => ∀ j, j < k → lineAt s l j = true) (fun k => [(0, s.enc), (1, encInts l), (2, .ptr 5 0 0 0), (7, encInts l), (8, vi l.length), (9, vi k)]) (fun _ => [.arr 5 1 (fun _ => s.enc)]) (fun j hj => by omega) ?_ ?_
  · (refine sub_to [some 0] [] rfl ?_ ?_ <;> (repeat' (first | exact trivial | refine ⟨⟨_, rfl, ?_⟩, ?_⟩ | refine ⟨bsub_snoc rfl rfl (fun _ => rfl) ?_, ?_⟩ | refine ⟨bsub_one rfl rfl ?_, ?_⟩ | refine ⟨bsub_all rfl rfl (fun _ _ => rfl) (fun _ => rfl), ?_⟩ | refine ⟨bsub_updL rfl rfl ?_ (fun _ _ _ => rfl) (fun _ => rfl), ?_⟩ | refine ⟨.inl ⟨_, _, rfl, rfl, ?_⟩, ?_⟩ | exact ⟨.inr ⟨rfl, rfl⟩, trivial⟩ | refine ⟨.inr ⟨rfl, rfl⟩, ?_⟩ | (intro _ _) | exact .closed rfl | exact .sl rfl | exact .ptr rfl | exact .map rfl | exact .nil rfl | exact .emp rfl | exact .nilList | exact .empList | exact frzPtr' (by simp; done) rfl (by omega) rfl rfl | exact frzLB (by simp; done) rfl (fun _ => rfl) rfl | exact frz_all (by simp; done) rfl (fun _ _ => rfl) (fun _ => rfl) rfl | exact .frz (by simp; done) rfl (by omega) (fun _ _ => rfl) (fun _ _ => rfl) | exact slEq rfl (by first | (simp; done) | (simp; omega)) | exact siEq (by omega) | exact .of_eq (by refine (show V.agg _ = V.agg _ from ?_); (try dsimp only); congr <;> first | rfl | omega) rfl | exact .closed (by simp [V.closed, V.closed.all, *]; done) | fail)))
  intro k hk hJ
  have hp := fun h : 0 < k => lineAt_iff.1 (hJ (k - 1) (by omega))
  by_cases h0 : 0 < k
  · have hp := hp h0
    (repeat' (first | (refine ar_isq ?_; first | refine zmv ?_ | refine zas ?_ | (refine is_load ?_; first | refine zlp ?_ | refine zlr ?_) | (refine is_binOp ?_; first | refine zlss ?_ | refine zgtr ?_ | refine zeql ?_ | refine zadd ?_ | refine zsub ?_) | (refine is_fieldAddr ?_; first | refine zfp ?_ | refine zfr ?_) | (refine is_indexAddr ?_; first | refine zil ?_ | refine zis ?_ | refine zit ?_ | refine zia ?_ | refine zir ?_ | refine zil (j := k - 1) ?_ | refine zis (j := k - 1) ?_ | refine zit (j := k - 1) ?_ | (refine zxl ?_; intro _ _ _) | (refine zxs ?_; intro _ _ _)) | (refine is_call ?_; first | refine zll ?_ | refine zls ?_ | refine zln ?_ | refine zle ?_) | (refine is_pick ?_; first | refine zpt ?_ | refine zpf ?_) | (refine is_unOp ?_; first | refine znt ?_ | refine zng ?_)) | (refine ar_pcall (own := false) fn57 rfl rfl (.cons (.closed rfl) (.cons (.closed rfl) (.cons (.closed rfl) .nil))) (within_p _ _ _) (by simp) (dc rfl) ?_; intro _ hv; subst hv) | (refine zbx ?_) | (refine zg ?_ ?_ <;> intro hg <;> first | exact absurd hg (by decide) | ((try replace hg := HG.out hg); (try dsimp only at hg); (try rw [withinB_iff] at hg); (try rw [withinB_no] at hg); (try (have _h : True := hg; clear _h hg)); first | (exfalso; omega) | skip)) | (refine zgu ?_) | (refine ar_nil ?_) | (refine aw_seq ?_) | (refine aw_skip ?_) | (refine aw_block ?_) | (refine aw_exit ?_) | (refine aw_region ?_) | (refine aw_drawn (id := 4) [(0, 0), (1, 0), (2, 0), (3, 0), (4, 0), (5, 0), (6, 1), (7, 0), (8, 0), (9, 0), (10, 0), (11, 0), (12, 0), (13, 0), (14, 0), (15, 0), (16, 0), (17, 0), (18, 0), (19, 0), (20, 0), (21, 0), (22, 0), (23, 0), (24, 1), (25, 0), (26, 0), (27, 0)] mixed (by kernel_rfl) ?_) | (refine aw_drawn (id := 4) [(0, 0), (1, 0), (2, 0), (3, 0), (4, 0), (5, 0), (6, 2), (7, 0), (8, 0), (9, 0), (10, 0), (11, 0), (12, 0), (13, 0), (14, 0), (15, 0), (16, 0), (17, 0), (18, 0), (19, 0), (20, 0), (21, 0), (22, 0), (23, 0), (24, 2), (25, 0), (26, 0), (27, 0)] mixed (by kernel_rfl) ?_) | (refine zco ?_ ?_ <;> intro hg <;> first | exact absurd hg (by decide) | ((try replace hg := HG.out hg); (try dsimp only at hg); (try rw [withinB_iff] at hg); (try rw [withinB_no] at hg); (try (have _h : True := hg; clear _h hg)); first | (exfalso; omega) | skip))))
    all_goals first
      | (((first | refine loop_next (by omega) ?_ ?_ | refine (show _ ∧ _ ∧ SubOf _ _ _ _ _ _ from And.intro (by omega) (And.intro ?_ ?_))); (focus (((exact all_step hJ (lineAt_iff.2 (by omega)))); done)); (focus ((refine sub_to [some 0] [] rfl ?_ ?_ <;> (repeat' (first | exact trivial | refine ⟨⟨_, rfl, ?_⟩, ?_⟩ | refine ⟨bsub_snoc rfl rfl (fun _ => rfl) ?_, ?_⟩ | refine ⟨bsub_one rfl rfl ?_, ?_⟩ | refine ⟨bsub_all rfl rfl (fun _ _ => rfl) (fun _ => rfl), ?_⟩ | refine ⟨bsub_updL rfl rfl ?_ (fun _ _ _ => rfl) (fun _ => rfl), ?_⟩ | refine ⟨.inl ⟨_, _, rfl, rfl, ?_⟩, ?_⟩ | exact ⟨.inr ⟨rfl, rfl⟩, trivial⟩ | refine ⟨.inr ⟨rfl, rfl⟩, ?_⟩ | (intro _ _) | exact .closed rfl | exact .sl rfl | exact .ptr rfl | exact .map rfl | exact .nil rfl | exact .emp rfl | exact .nilList | exact .empList | exact frzPtr' (by simp; done) rfl (by omega) rfl rfl | exact frzLB (by simp; done) rfl (fun _ => rfl) rfl | exact frz_all (by simp; done) rfl (fun _ _ => rfl) (fun _ => rfl) rfl | exact .frz (by simp; done) rfl (by omega) (fun _ _ => rfl) (fun _ _ => rfl) | exact slEq rfl (by first | (simp; done) | (simp; omega)) | exact siEq (by omega) | exact .of_eq (by refine (show V.agg _ = V.agg _ from ?_); (try dsimp only); congr <;> first | rfl | omega) rfl | exact .closed (by simp [V.closed, V.closed.all, *]; done) | fail))); done))))
      | ((refine aw_ret ?_; (repeat (first | refine ret_then ?_ | refine ret_block ?_)); refine bq1 rfl ⟨?_, rfl⟩); first | (rw [isLine_no (k := k) (by omega) (by rw [← Bool.not_eq_true, lineAt_iff]; omega)]; rfl) | (obtain rfl : k = l.length := (by omega); rw [isLine_yes hJ]; rfl))
  · (repeat' (first | (refine ar_isq ?_; first | refine zmv ?_ | refine zas ?_ | (refine is_load ?_; first | refine zlp ?_ | refine zlr ?_) | (refine is_binOp ?_; first | refine zlss ?_ | refine zgtr ?_ | refine zeql ?_ | refine zadd ?_ | refine zsub ?_) | (refine is_fieldAddr ?_; first | refine zfp ?_ | refine zfr ?_) | (refine is_indexAddr ?_; first | refine zil ?_ | refine zis ?_ | refine zit ?_ | refine zia ?_ | refine zir ?_ | refine zil (j := k - 1) ?_ | refine zis (j := k - 1) ?_ | refine zit (j := k - 1) ?_ | (refine zxl ?_; intro _ _ _) | (refine zxs ?_; intro _ _ _)) | (refine is_call ?_; first | refine zll ?_ | refine zls ?_ | refine zln ?_ | refine zle ?_) | (refine is_pick ?_; first | refine zpt ?_ | refine zpf ?_) | (refine is_unOp ?_; first | refine znt ?_ | refine zng ?_)) | (refine ar_pcall (own := false) fn57 rfl rfl (.cons (.closed rfl) (.cons (.closed rfl) (.cons (.closed rfl) .nil))) (within_p _ _ _) (by simp) (dc rfl) ?_; intro _ hv; subst hv) | (refine zbx ?_) | (refine zg ?_ ?_ <;> intro hg <;> first | exact absurd hg (by decide) | ((try replace hg := HG.out hg); (try dsimp only at hg); (try rw [withinB_iff] at hg); (try rw [withinB_no] at hg); (try (have _h : True := hg; clear _h hg)); first | (exfalso; omega) | skip)) | (refine zgu ?_) | (refine ar_nil ?_) | (refine aw_seq ?_) | (refine aw_skip ?_) | (refine aw_block ?_) | (refine aw_exit ?_) | (refine aw_region ?_) | (refine aw_drawn (id := 4) [(0, 0), (1, 0), (2, 0), (3, 0), (4, 0), (5, 0), (6, 1), (7, 0), (8, 0), (9, 0), (10, 0), (11, 0), (12, 0), (13, 0), (14, 0), (15, 0), (16, 0), (17, 0), (18, 0), (19, 0), (20, 0), (21, 0), (22, 0), (23, 0), (24, 1), (25, 0), (26, 0), (27, 0)] mixed (by kernel_rfl) ?_) | (refine aw_drawn (id := 4) [(0, 0), (1, 0), (2, 0), (3, 0), (4, 0), (5, 0), (6, 2), (7, 0), (8, 0), (9, 0), (10, 0), (11, 0), (12, 0), (13, 0), (14, 0), (15, 0), (16, 0), (17, 0), (18, 0), (19, 0), (20, 0), (21, 0), (22, 0), (23, 0), (24, 2), (25, 0), (26, 0), (27, 0)] mixed (by kernel_rfl) ?_) | (refine zco ?_ ?_ <;> intro hg <;> first | exact absurd hg (by decide) | ((try replace hg := HG.out hg); (try dsimp only at hg); (try rw [withinB_iff] at hg); (try rw [withinB_no] at hg); (try (have _h : True := hg; clear _h hg)); first | (exfalso; omega) | skip))))
    all_goals first
      | (((first | refine loop_next (by omega) ?_ ?_ | refine (show _ ∧ _ ∧ SubOf _ _ _ _ _ _ from And.intro (by omega) (And.intro ?_ ?_))); (focus (((exact all_step hJ (lineAt_iff.2 (by omega)))); done)); (focus ((refine sub_to [some 0] [] rfl ?_ ?_ <;> (repeat' (first | exact trivial | refine ⟨⟨_, rfl, ?_⟩, ?_⟩ | refine ⟨bsub_snoc rfl rfl (fun _ => rfl) ?_, ?_⟩ | refine ⟨bsub_one rfl rfl ?_, ?_⟩ | refine ⟨bsub_all rfl rfl (fun _ _ => rfl) (fun _ => rfl), ?_⟩ | refine ⟨bsub_updL rfl rfl ?_ (fun _ _ _ => rfl) (fun _ => rfl), ?_⟩ | refine ⟨.inl ⟨_, _, rfl, rfl, ?_⟩, ?_⟩ | exact ⟨.inr ⟨rfl, rfl⟩, trivial⟩ | refine ⟨.inr ⟨rfl, rfl⟩, ?_⟩ | (intro _ _) | exact .closed rfl | exact .sl rfl | exact .ptr rfl | exact .map rfl | exact .nil rfl | exact .emp rfl | exact .nilList | exact .empList | exact frzPtr' (by simp; done) rfl (by omega) rfl rfl | exact frzLB (by simp; done) rfl (fun _ => rfl) rfl | exact frz_all (by simp; done) rfl (fun _ _ => rfl) (fun _ => rfl) rfl | exact .frz (by simp; done) rfl (by omega) (fun _ _ => rfl) (fun _ _ => rfl) | exact slEq rfl (by first | (simp; done) | (simp; omega)) | exact siEq (by omega) | exact .of_eq (by refine (show V.agg _ = V.agg _ from ?_); (try dsimp only); congr <;> first | rfl | omega) rfl | exact .closed (by simp [V.closed, V.closed.all, *]; done) | fail))); done))))
      | ((refine aw_ret ?_; (repeat (first | refine ret_then ?_ | refine ret_block ?_)); refine bq1 rfl ⟨?_, rfl⟩); first | (rw [isLine_no (k := k) (by omega) (by rw [← Bool.not_eq_true, lineAt_iff]; omega)]; rfl) | (obtain rfl : k = l.length := (by omega); rw [isLine_yes hJ]; rfl))
end Go.Proofs.Ytccidiflnmchiaa
namespace Go.Proofs.Ytccidiflnmchiaa
open Go.RowKit
set_option maxHeartbeats 1000000 in
theorem everyRows_p (b : List (List Int)) {g : FuncId} {cap : List V} (hfn : FnOk Try.prog g) (hcap : V.closed.all cap = true) (p : List Int → Bool) (hc : ∀ l, l ∈ b → PCalls Try.prog g (encInts l :: cap) (· = vb (p l))) :
    PCalls Try.prog 91 [encRows b, .fn (.func g) [] cap] (· = vb (b.all p)) := by
  (refine pcalls_know (fun I us h => rel_len (rel_arg h (j := 0) rfl)) fun hlen0 => ?_)
  refine pcalls_of_aw Try.func91 rfl (Nat.le_of_ble_eq_true rfl) ?_
  (repeat' (first | (refine ar_isq ?_; first | refine zmv ?_ | refine zas ?_ | (refine is_load ?_; first | refine zlp ?_ | refine zlr ?_) | (refine is_binOp ?_; first | refine zlss ?_ | refine zadd ?_) | (refine is_indexAddr ?_; first | refine zil ?_ | refine zis ?_ | refine zit ?_ | refine zia ?_ | refine zir ?_ | (refine zxl ?_; intro _ _ _) | (refine zxs ?_; intro _ _ _)) | (refine is_call ?_; first | refine zll ?_ | refine zls ?_ | refine zln ?_ | refine zle ?_) | refine znt ?_) | (refine ar_nil ?_) | (refine aw_seq ?_) | (refine aw_skip ?_) | (refine aw_block ?_) | (refine aw_exit ?_) | (refine aw_region ?_) | (refine zco ?_ ?_ <;> intro hg <;> first | exact absurd hg (by decide) | ((try replace hg := HG.out hg); (try dsimp only at hg); (try rw [withinB_iff] at hg); (try rw [withinB_no] at hg); (try (have _h : True := hg; clear _h hg)); first | (exfalso; omega) | skip))))
  refine aw_for b.length (fun k => ∀ j, j < k → p (el b j) = true) (fun k => [(1, .fn (.func g) [] cap), (7, encRows b), (8, vi b.length), (9, vi k)]) (fun _ => []) (fun j hj => by omega) ?_ ?_
  · (refine sub_to [] [] rfl ?_ ?_ <;> (repeat' (first | exact trivial | refine ⟨⟨_, rfl, ?_⟩, ?_⟩ | refine ⟨bsub_snoc rfl rfl (fun _ => rfl) ?_, ?_⟩ | refine ⟨bsub_one rfl rfl ?_, ?_⟩ | refine ⟨bsub_all rfl rfl (fun _ _ => rfl) (fun _ => rfl), ?_⟩ | refine ⟨bsub_updL rfl rfl ?_ (fun _ _ _ => rfl) (fun _ => rfl), ?_⟩ | refine ⟨.inl ⟨_, _, rfl, rfl, ?_⟩, ?_⟩ | exact ⟨.inr ⟨rfl, rfl⟩, trivial⟩ | refine ⟨.inr ⟨rfl, rfl⟩, ?_⟩ | (intro _ _) | exact .closed rfl | exact .sl rfl | exact .ptr rfl | exact .map rfl | exact .nil rfl | exact .emp rfl | exact .nilList | exact .empList | exact frzPtr' (by simp; done) rfl (by omega) rfl rfl | exact frzLB (by simp; done) rfl (fun _ => rfl) rfl | exact frz_all (by simp; done) rfl (fun _ _ => rfl) (fun _ => rfl) rfl | exact .frz (by simp; done) rfl (by omega) (fun _ _ => rfl) (fun _ _ => rfl) | exact slEq rfl (by first | (simp; done) | (simp; omega)) | exact siEq (by omega) | exact .of_eq (by refine (show V.agg _ = V.agg _ from ?_); (try dsimp only); congr <;> first | rfl | omega) rfl | exact .closed (by simp [V.closed, V.closed.all, *]; done) | fail)))
  intro k hk hJ
  by_cases hkn : k < b.length
  · (repeat' (first | (refine ar_isq ?_; first | refine zmv ?_ | refine zas ?_ | (refine is_load ?_; first | refine zlp ?_ | refine zlr ?_) | (refine is_binOp ?_; first | refine zlss ?_ | refine zadd ?_) | (refine is_indexAddr ?_; first | refine zil ?_ | refine zis ?_ | refine zit ?_ | refine zia ?_ | refine zir ?_ | (refine zxl ?_; intro _ _ _) | (refine zxs ?_; intro _ _ _)) | (refine is_call ?_; first | refine zll ?_ | refine zls ?_ | refine zln ?_ | refine zle ?_) | refine znt ?_) | (refine ar_pcall (own := false) hfn rfl rfl (args_closed hcap) (hc _ (el_mem hkn)) (by simp) (dc rfl) ?_; intro _ hv; subst hv) | (refine ar_nil ?_) | (refine aw_seq ?_) | (refine aw_skip ?_) | (refine aw_block ?_) | (refine aw_exit ?_) | (refine aw_region ?_) | (refine zco ?_ ?_ <;> intro hg <;> first | exact absurd hg (by decide) | ((try replace hg := HG.out hg); (try dsimp only at hg); (try rw [withinB_iff] at hg); (try rw [withinB_no] at hg); (try (have _h : True := hg; clear _h hg)); first | (exfalso; omega) | skip))))
    all_goals first
      | (exfalso; omega)
      | ((first | refine loop_next (by omega) ?_ ?_ | refine (show _ ∧ _ ∧ SubOf _ _ _ _ _ _ from And.intro (by omega) (And.intro ?_ ?_))); (focus ((exact all_step hJ (by assumption)); done)); (focus ((refine sub_to [] [] rfl ?_ ?_ <;> (repeat' (first | exact trivial | refine ⟨⟨_, rfl, ?_⟩, ?_⟩ | refine ⟨bsub_snoc rfl rfl (fun _ => rfl) ?_, ?_⟩ | refine ⟨bsub_one rfl rfl ?_, ?_⟩ | refine ⟨bsub_all rfl rfl (fun _ _ => rfl) (fun _ => rfl), ?_⟩ | refine ⟨bsub_updL rfl rfl ?_ (fun _ _ _ => rfl) (fun _ => rfl), ?_⟩ | refine ⟨.inl ⟨_, _, rfl, rfl, ?_⟩, ?_⟩ | exact ⟨.inr ⟨rfl, rfl⟩, trivial⟩ | refine ⟨.inr ⟨rfl, rfl⟩, ?_⟩ | (intro _ _) | exact .closed rfl | exact .sl rfl | exact .ptr rfl | exact .map rfl | exact .nil rfl | exact .emp rfl | exact .nilList | exact .empList | exact frzPtr' (by simp; done) rfl (by omega) rfl rfl | exact frzLB (by simp; done) rfl (fun _ => rfl) rfl | exact frz_all (by simp; done) rfl (fun _ _ => rfl) (fun _ => rfl) rfl | exact .frz (by simp; done) rfl (by omega) (fun _ _ => rfl) (fun _ _ => rfl) | exact slEq rfl (by first | (simp; done) | (simp; omega)) | exact siEq (by omega) | exact .of_eq (by refine (show V.agg _ = V.agg _ from ?_); (try dsimp only); congr <;> first | rfl | omega) rfl | exact .closed (by simp [V.closed, V.closed.all, *]; done) | fail))); done)))
      | ((refine aw_ret ?_; (repeat (first | refine ret_then ?_ | refine ret_block ?_)); refine bq1 rfl ⟨?_, rfl⟩); rw [not_all_el hkn (by simp_all)]; rfl)
  · (repeat' (first | (refine ar_isq ?_; first | refine zmv ?_ | refine zas ?_ | (refine is_load ?_; first | refine zlp ?_ | refine zlr ?_) | (refine is_binOp ?_; first | refine zlss ?_ | refine zadd ?_) | (refine is_indexAddr ?_; first | refine zil ?_ | refine zis ?_ | refine zit ?_ | refine zia ?_ | refine zir ?_ | (refine zxl ?_; intro _ _ _) | (refine zxs ?_; intro _ _ _)) | (refine is_call ?_; first | refine zll ?_ | refine zls ?_ | refine zln ?_ | refine zle ?_) | refine znt ?_) | (refine ar_nil ?_) | (refine aw_seq ?_) | (refine aw_skip ?_) | (refine aw_block ?_) | (refine aw_exit ?_) | (refine aw_region ?_) | (refine zco ?_ ?_ <;> intro hg <;> first | exact absurd hg (by decide) | ((try replace hg := HG.out hg); (try dsimp only at hg); (try rw [withinB_iff] at hg); (try rw [withinB_no] at hg); (try (have _h : True := hg; clear _h hg)); first | (exfalso; omega) | skip))))
    all_goals first | omega | ((refine aw_ret ?_; (repeat (first | refine ret_then ?_ | refine ret_block ?_)); refine bq1 rfl ⟨?_, rfl⟩); rw [all_el (fun j hj => hJ j (by omega))]; rfl)
theorem lines_p (s : Sheet) (hs : s.ok = true) (b : List (List Int)) : PCalls Try.prog 64 [s.enc, encRows b] (· = vb (b.all (isLineB s))) := by
  have h1 : ∀ l, l ∈ b → PCalls Try.prog 92 (encInts l :: [.ref s.enc 0]) (· = vb (isLineB s l)) := fun l hm => by
    refine pcalls_of_aw Try.func92 rfl (Nat.le_of_ble_eq_true rfl) ?_
    (repeat' (first | (refine ar_isq ?_; first | refine zmv ?_ | refine zas ?_ | (refine is_load ?_; first | refine zlp ?_ | refine zlr ?_)) | (refine ar_pcall (own := false) fn89 rfl rfl (.cons (.closed rfl) (.cons (.closed rfl) .nil)) (isLine_p s hs l) (by simp) (dc rfl) ?_; intro _ hv; subst hv) | (refine ar_nil ?_) | (refine aw_seq ?_) | (refine aw_skip ?_) | (refine aw_block ?_) | (refine aw_exit ?_) | (refine aw_region ?_) | (refine zco ?_ ?_ <;> intro hg <;> first | exact absurd hg (by decide) | ((try replace hg := HG.out hg); (try dsimp only at hg); (try rw [withinB_iff] at hg); (try rw [withinB_no] at hg); (try (have _h : True := hg; clear _h hg)); first | (exfalso; omega) | skip))))
    (refine aw_ret ?_; (repeat (first | refine ret_then ?_ | refine ret_block ?_)); refine bq1 rfl ⟨?_, rfl⟩)
    rfl
  refine pcalls_of_aw Try.func64 rfl (Nat.le_of_ble_eq_true rfl) ?_
  ((repeat refine aw_seq ?_); (first | (refine aw_region ?_)); (repeat' (first | (refine ar_isq ?_; first | refine zmv ?_ | refine zas ?_ | refine zmf ?_) | (refine zbx ?_) | (refine ar_nil ?_))))
  (refine aw_mono_r (env' := [(0, s.enc), (1, encRows b), (2, .ref s.enc 0)]) (H' := []) ?_ ?_; (focus ((refine sub_to [] [0] rfl ?_ ?_ <;> (repeat' (first | exact trivial | refine ⟨⟨_, rfl, ?_⟩, ?_⟩ | refine ⟨bsub_snoc rfl rfl (fun _ => rfl) ?_, ?_⟩ | refine ⟨bsub_one rfl rfl ?_, ?_⟩ | refine ⟨bsub_all rfl rfl (fun _ _ => rfl) (fun _ => rfl), ?_⟩ | refine ⟨bsub_updL rfl rfl ?_ (fun _ _ _ => rfl) (fun _ => rfl), ?_⟩ | refine ⟨.inl ⟨_, _, rfl, rfl, ?_⟩, ?_⟩ | exact ⟨.inr ⟨rfl, rfl⟩, trivial⟩ | refine ⟨.inr ⟨rfl, rfl⟩, ?_⟩ | (intro _ _) | exact .closed rfl | exact .sl rfl | exact .ptr rfl | exact .map rfl | exact .nil rfl | exact .emp rfl | exact .nilList | exact .empList | exact frzPtr' (by simp; done) rfl (by omega) rfl rfl | exact frzLB (by simp; done) rfl (fun _ => rfl) rfl | exact frz_all (by simp; done) rfl (fun _ _ => rfl) (fun _ => rfl) rfl | exact .frz (by simp; done) rfl (by omega) (fun _ _ => rfl) (fun _ _ => rfl) | exact slEq rfl (by first | (simp; done) | (simp; omega)) | exact siEq (by omega) | exact .of_eq (by refine (show V.agg _ = V.agg _ from ?_); (try dsimp only); congr <;> first | rfl | omega) rfl | exact .closed (by simp [V.closed, V.closed.all, *]; done) | fail))); done)))
  (repeat' (first | (refine ar_isq ?_; first | refine zmv ?_ | refine zas ?_ | refine zmf ?_) | (refine ar_pcall (own := false) fn91 rfl rfl (.cons (.closed rfl) (.cons (.closed rfl) .nil)) (everyRows_p b fn92 rfl _ h1) (by simp) (dc rfl) ?_; intro _ hv; subst hv) | (refine zbx ?_) | (refine ar_nil ?_) | (refine aw_seq ?_) | (refine aw_skip ?_) | (refine aw_block ?_) | (refine aw_exit ?_) | (refine aw_region ?_) | (refine zco ?_ ?_ <;> intro hg <;> first | exact absurd hg (by decide) | ((try replace hg := HG.out hg); (try dsimp only at hg); (try rw [withinB_iff] at hg); (try rw [withinB_no] at hg); (try (have _h : True := hg; clear _h hg)); first | (exfalso; omega) | skip))))
  (refine aw_ret ?_; (repeat (first | refine ret_then ?_ | refine ret_block ?_)); refine bq1 rfl ⟨?_, rfl⟩)
  rfl
end Go.Proofs.Ytccidiflnmchiaa
namespace Go.Proofs.Ytccidiflnmchiaa
open Go.RowKit
structure Clash where
  upper : Int
  lower : Int
  col : Int
instance : Inhabited Clash := ⟨⟨0, 0, 0⟩⟩
def Clash.enc (x : Clash) : V := .agg [vi x.upper, vi x.lower, vi x.col]
abbrev encClashes (l : List Clash) : V := LV 3 Clash.enc l
def nearAt (s : Sheet) (a b : List Int) (j : Nat) : Bool := decide (el b j - el a j < s.weight + s.clear)
def clashF (s : Sheet) (a b : List Int) : Int := match (List.range s.cols.toNat).find? (nearAt s a b) with | some j => (j : Int) | none => -1
theorem clashF_at {s : Sheet} {a b : List Int} {k : Nat} (hk : (k : Int) < s.cols) (h0 : ∀ j, j < k → nearAt s a b j = false) (h : nearAt s a b k = true) : clashF s a b = k := by
  have : (List.range s.cols.toNat).find? (nearAt s a b) = some k := by
    rw [List.find?_range_eq_some]
    exact ⟨h, by simp; omega, fun j hj => by simp [h0 j hj]⟩
  unfold clashF
  rw [this]
theorem clashF_none {s : Sheet} {a b : List Int} (h0 : ∀ j : Nat, (j : Int) < s.cols → nearAt s a b j = false) : clashF s a b = -1 := by
  have : (List.range s.cols.toNat).find? (nearAt s a b) = none := by
    rw [List.find?_eq_none]
    intro j hj
    rw [List.mem_range] at hj
    simp [h0 j (by omega)]
  unfold clashF
  rw [this]
def clashAt (s : Sheet) (b : List (List Int)) (i : Nat) : List Clash := if clashF s (el b i) (el b (i + 1)) < 0 then [] else [⟨i, (i : Int) + 1, clashF s (el b i) (el b (i + 1))⟩]
def clashesTo (s : Sheet) (b : List (List Int)) (k : Nat) : List Clash := (List.range k).flatMap (clashAt s b)
theorem clashesTo_succ (s : Sheet) (b : List (List Int)) (k : Nat) : clashesTo s b (k + 1) = clashesTo s b k ++ clashAt s b k := by simp [clashesTo, List.range_succ]
theorem clashesTo_len (s : Sheet) (b : List (List Int)) : ∀ k, (clashesTo s b k).length ≤ k
  | 0 => by simp [clashesTo]
  | k + 1 => by
    rw [clashesTo_succ, List.length_append]
    have := clashesTo_len s b k
    have : (clashAt s b k).length ≤ 1 := by unfold clashAt; split <;> simp
    omega
def clashesF (s : Sheet) (b : List (List Int)) : List Clash := clashesTo s b (b.length - 1)
theorem clashesTo_yes {s : Sheet} {b : List (List Int)} {k x : Nat} (hx : (x : Int) < s.cols) (h0 : ∀ j, j < x → nearAt s (el b k) (el b (k + 1)) j = false) (h : nearAt s (el b k) (el b (k + 1)) x = true) : clashesTo s b (k + 1) = clashesTo s b k ++ [⟨k, (k : Int) + 1, x⟩] := by
  have e := clashF_at hx h0 h
  rw [clashesTo_succ, clashAt, if_neg (by omega), e]
theorem clashesTo_no {s : Sheet} {b : List (List Int)} {k : Nat} (h0 : ∀ j : Nat, (j : Int) < s.cols → nearAt s (el b k) (el b (k + 1)) j = false) : clashesTo s b (k + 1) = clashesTo s b k := by
  have e := clashF_none h0
  rw [clashesTo_succ, clashAt, if_pos (by omega), List.append_nil]
theorem isLine_len {s : Sheet} {l : List Int} (h : isLineB s l = true) : (l.length : Int) = s.cols := (isLineB_iff.1 h).1
theorem isLine_at {s : Sheet} {l : List Int} (h : isLineB s l = true) {j : Nat} (hj : j < l.length) : 0 ≤ el l j ∧ el l j ≤ s.rows - s.weight := (lineAt_iff.1 ((isLineB_iff.1 h).2 j hj)).1
set_option maxHeartbeats 1000000 in
theorem clashes_p (s : Sheet) (hs : s.ok = true) (b : List (List Int)) (hl : b.all (isLineB s) = true) (h12 : b.length ≤ 12) : PCalls Try.prog 65 [s.enc, encRows b] (· = encClashes (clashesF s b)) := by
  have hb := Sheet.bounds hs
  refine pcalls_of_aw Try.func65 rfl (Nat.le_of_ble_eq_true rfl) ?_
  (repeat' (first | (refine ar_isq ?_; first | refine zmv ?_ | refine zas ?_ | (refine is_load ?_; first | refine zlp ?_ | refine zlr ?_) | (refine is_binOp ?_; first | refine zlss ?_ | refine zadd ?_ | refine zsub ?_) | (refine is_fieldAddr ?_; first | refine zfp ?_ | refine zfr ?_) | (refine is_indexAddr ?_; first | refine zil ?_ | refine zis ?_ | refine zit ?_ | refine zia ?_ | refine zir ?_ | (refine zxl ?_; intro _ _ _) | (refine zxs ?_; intro _ _ _)) | (refine is_call ?_; first | refine zll ?_ | refine zls ?_ | refine zln ?_ | refine zle ?_) | (refine ar_buildS (ds := ?ds) (by exact ty rfl) (by exact rfl) (by exact sizes rfl) (by exact rfl) (by exact rfl) (by exact build rfl) (by exact dc rfl) ?hn ?h; (case hn => (dsimp only [cells_s, cells_emp, cells_agg, cells_list, cells_sl, cells_ptr, cells_ref, cells_fn, cells_vi, cells_vb, cells_vnil, constV, List.map_cons, List.map_nil, List.take_succ_cons, List.take_zero, List.drop_succ_cons, List.drop_zero, List.cons_append, List.nil_append, List.append_nil, LV_cells]; exact rfl)))) | (refine zbx ?_) | (refine zb1 ?_) | (refine zb0 ?_) | (refine zapoo ?_) | (refine zapol ?_) | (refine zapno ?_) | (refine zapnl ?_) | (refine zapeo ?_) | (refine zapel ?_) | (refine ar_nil ?_) | (refine aw_seq ?_) | (refine aw_skip ?_) | (refine aw_block ?_) | (refine aw_exit ?_) | (refine aw_region ?_) | (refine aw_drawn (id := 8) [(0, 0), (1, 0), (2, 0), (3, 0), (4, 0), (5, 0), (6, 0), (7, 0), (8, 0), (9, 0), (10, 0), (11, 0), (12, 0), (13, 0), (14, 0), (15, 0)] mixed (by kernel_rfl) ?_) | (refine zco ?_ ?_ <;> intro hg <;> first | exact absurd hg (by decide) | ((try replace hg := HG.out hg); (try dsimp only at hg); (try (have _h : True := hg; clear _h hg)); first | (exfalso; omega) | skip))))
  refine aw_for (b.length - 1) (fun _ => True) (fun k => [(1, encRows b), (2, .ptr 5 0 0 0), (5, .sl 3 1 0 (clashesTo s b k).length), (6, vi (k + 1))]) (fun k => [.arr 5 1 (fun _ => s.enc), LB 3 Clash.enc (clashesTo s b k)]) trivial ?_ ?_
  · (refine sub_to [some 0, none] [] rfl ?_ ?_ <;> (repeat' (first | exact trivial | refine ⟨⟨_, rfl, ?_⟩, ?_⟩ | refine ⟨bsub_snoc rfl rfl (fun _ => rfl) ?_, ?_⟩ | refine ⟨bsub_one rfl rfl ?_, ?_⟩ | refine ⟨bsub_all rfl rfl (fun _ _ => rfl) (fun _ => rfl), ?_⟩ | refine ⟨bsub_updL rfl rfl ?_ (fun _ _ _ => rfl) (fun _ => rfl), ?_⟩ | refine ⟨.inl ⟨_, _, rfl, rfl, ?_⟩, ?_⟩ | exact ⟨.inr ⟨rfl, rfl⟩, trivial⟩ | refine ⟨.inr ⟨rfl, rfl⟩, ?_⟩ | (intro _ _) | exact .closed rfl | exact .sl rfl | exact .ptr rfl | exact .map rfl | exact .nil rfl | exact .emp rfl | exact .nilList | exact .empList | exact frzPtr' (by simp; done) rfl (by omega) rfl rfl | exact frzLB (by simp; done) rfl (fun _ => rfl) rfl | exact frz_all (by simp; done) rfl (fun _ _ => rfl) (fun _ => rfl) rfl | exact .frz (by simp; done) rfl (by omega) (fun _ _ => rfl) (fun _ _ => rfl) | exact slEq rfl (by first | (simp; done) | (simp; omega)) | exact siEq (by omega) | exact .of_eq (by refine (show V.agg _ = V.agg _ from ?_); (try dsimp only); congr <;> first | rfl | omega) rfl | exact .closed (by simp [V.closed, V.closed.all, *]; done) | fail)))
  intro k hk _
  by_cases hlt : k + 1 < b.length
  · have hli := isLine_len (of_all_el hl hlt)
    have hlj := isLine_len (of_all_el hl (k := k) (by omega))
    have hle := clashesTo_len s b k
    (repeat' (first | (refine ar_isq ?_; first | refine zmv ?_ | refine zas ?_ | (refine is_load ?_; first | refine zlp ?_ | refine zlr ?_) | (refine is_binOp ?_; first | refine zlss ?_ | refine zadd ?_ | refine zsub ?_) | (refine is_fieldAddr ?_; first | refine zfp ?_ | refine zfr ?_) | (refine is_indexAddr ?_; first | refine zil ?_ | refine zis ?_ | refine zit ?_ | refine zia ?_ | refine zir ?_ | refine zil (j := k + 1) ?_ | refine zis (j := k + 1) ?_ | refine zit (j := k + 1) ?_ | refine zil (j := k) ?_ | refine zis (j := k) ?_ | refine zit (j := k) ?_ | (refine zxl ?_; intro _ _ _) | (refine zxs ?_; intro _ _ _)) | (refine is_call ?_; first | refine zll ?_ | refine zls ?_ | refine zln ?_ | refine zle ?_) | (refine ar_buildS (ds := ?ds) (by exact ty rfl) (by exact rfl) (by exact sizes rfl) (by exact rfl) (by exact rfl) (by exact build rfl) (by exact dc rfl) ?hn ?h; (case hn => (dsimp only [cells_s, cells_emp, cells_agg, cells_list, cells_sl, cells_ptr, cells_ref, cells_fn, cells_vi, cells_vb, cells_vnil, constV, List.map_cons, List.map_nil, List.take_succ_cons, List.take_zero, List.drop_succ_cons, List.drop_zero, List.cons_append, List.nil_append, List.append_nil, LV_cells]; exact rfl)))) | (refine zbx ?_) | (refine zb1 ?_) | (refine zb0 ?_) | (refine zapoo ?_) | (refine zapol ?_) | (refine zapno ?_) | (refine zapnl ?_) | (refine zapeo ?_) | (refine zapel ?_) | (refine ar_nil ?_) | (refine aw_seq ?_) | (refine aw_skip ?_) | (refine aw_block ?_) | (refine aw_exit ?_) | (refine aw_region ?_) | (refine aw_drawn (id := 8) [(0, 0), (1, 0), (2, 0), (3, 0), (4, 0), (5, 0), (6, 0), (7, 0), (8, 0), (9, 0), (10, 0), (11, 0), (12, 0), (13, 0), (14, 0), (15, 0)] mixed (by kernel_rfl) ?_) | (refine zco ?_ ?_ <;> intro hg <;> first | exact absurd hg (by decide) | ((try replace hg := HG.out hg); (try dsimp only at hg); (try (have _h : True := hg; clear _h hg)); first | (exfalso; omega) | skip))))
    all_goals (try (exfalso; omega))
    refine aw_for (el b (k + 1)).length (fun x => ∀ j, j < x → nearAt s (el b k) (el b (k + 1)) j = false) (fun x => [(1, encRows b), (2, .ptr 5 0 0 0), (5, .sl 3 1 0 (clashesTo s b k).length), (6, vi (k + 1)), (18, encInts (el b (k + 1))), (19, vi (el b (k + 1)).length), (20, vi x)]) (fun _ => [.arr 5 1 (fun _ => s.enc), LB 3 Clash.enc (clashesTo s b k)]) (fun j hj => by omega) ?_ ?_
    · (refine sub_to [some 0, some 1] [] rfl ?_ ?_ <;> (repeat' (first | exact trivial | refine ⟨⟨_, rfl, ?_⟩, ?_⟩ | refine ⟨bsub_snoc rfl rfl (fun _ => rfl) ?_, ?_⟩ | refine ⟨bsub_one rfl rfl ?_, ?_⟩ | refine ⟨bsub_all rfl rfl (fun _ _ => rfl) (fun _ => rfl), ?_⟩ | refine ⟨bsub_updL rfl rfl ?_ (fun _ _ _ => rfl) (fun _ => rfl), ?_⟩ | refine ⟨.inl ⟨_, _, rfl, rfl, ?_⟩, ?_⟩ | exact ⟨.inr ⟨rfl, rfl⟩, trivial⟩ | refine ⟨.inr ⟨rfl, rfl⟩, ?_⟩ | (intro _ _) | exact .closed rfl | exact .sl rfl | exact .ptr rfl | exact .map rfl | exact .nil rfl | exact .emp rfl | exact .nilList | exact .empList | exact frzPtr' (by simp; done) rfl (by omega) rfl rfl | exact frzLB (by simp; done) rfl (fun _ => rfl) rfl | exact frz_all (by simp; done) rfl (fun _ _ => rfl) (fun _ => rfl) rfl | exact .frz (by simp; done) rfl (by omega) (fun _ _ => rfl) (fun _ _ => rfl) | exact slEq rfl (by first | (simp; done) | (simp; omega)) | exact siEq (by omega) | exact .of_eq (by refine (show V.agg _ = V.agg _ from ?_); (try dsimp only); congr <;> first | rfl | omega) rfl | exact .closed (by simp [V.closed, V.closed.all, *]; done) | fail)))
    intro x hx hN
    by_cases hltx : x < (el b (k + 1)).length
    · have h1 := isLine_at (of_all_el hl hlt) (j := x) (by omega)
      have h2 := isLine_at (of_all_el hl (k := k) (by omega)) (j := x) (by omega)
      (repeat' (first | (refine ar_isq ?_; first | refine zmv ?_ | refine zas ?_ | (refine is_load ?_; first | refine zlp ?_ | refine zlr ?_) | (refine is_binOp ?_; first | refine zlss ?_ | refine zadd ?_ | refine zsub ?_) | (refine is_fieldAddr ?_; first | refine zfp ?_ | refine zfr ?_) | (refine is_indexAddr ?_; first | refine zil ?_ | refine zis ?_ | refine zit ?_ | refine zia ?_ | refine zir ?_ | refine zil (j := k) ?_ | refine zis (j := k) ?_ | refine zit (j := k) ?_ | refine zil (j := x) ?_ | refine zis (j := x) ?_ | refine zit (j := x) ?_ | (refine zxl ?_; intro _ _ _) | (refine zxs ?_; intro _ _ _)) | (refine is_call ?_; first | refine zll ?_ | refine zls ?_ | refine zln ?_ | refine zle ?_) | (refine ar_buildS (ds := ?ds) (by exact ty rfl) (by exact rfl) (by exact sizes rfl) (by exact rfl) (by exact rfl) (by exact build rfl) (by exact dc rfl) ?hn ?h; (case hn => (dsimp only [cells_s, cells_emp, cells_agg, cells_list, cells_sl, cells_ptr, cells_ref, cells_fn, cells_vi, cells_vb, cells_vnil, constV, List.map_cons, List.map_nil, List.take_succ_cons, List.take_zero, List.drop_succ_cons, List.drop_zero, List.cons_append, List.nil_append, List.append_nil, LV_cells]; exact rfl)))) | (refine zbx ?_) | (refine zb1 ?_) | (refine zb0 ?_) | (refine zapoo ?_) | (refine zapol ?_) | (refine zapno ?_) | (refine zapnl ?_) | (refine zapeo ?_) | (refine zapel ?_) | (refine ar_nil ?_) | (refine aw_seq ?_) | (refine aw_skip ?_) | (refine aw_block ?_) | (refine aw_exit ?_) | (refine aw_region ?_) | (refine aw_drawn (id := 8) [(0, 0), (1, 0), (2, 0), (3, 0), (4, 0), (5, 0), (6, 0), (7, 0), (8, 0), (9, 0), (10, 0), (11, 0), (12, 0), (13, 0), (14, 0), (15, 0)] mixed (by kernel_rfl) ?_) | (refine zco ?_ ?_ <;> intro hg <;> first | exact absurd hg (by decide) | ((try replace hg := HG.out hg); (try dsimp only at hg); (try (have _h : True := hg; clear _h hg)); first | (exfalso; omega) | skip))))
      all_goals first
        | (exfalso; omega)
        | (((first | refine loop_next (by omega) ?_ ?_ | refine (show _ ∧ _ ∧ SubOf _ _ _ _ _ _ from And.intro (by omega) (And.intro ?_ ?_))); (focus ((exact all_step hN (by simp [nearAt]; omega)); done)); (focus ((refine sub_to [some 0, some 1] [] rfl ?_ ?_ <;> (repeat' (first | exact trivial | refine ⟨⟨_, rfl, ?_⟩, ?_⟩ | refine ⟨bsub_snoc rfl rfl (fun _ => rfl) ?_, ?_⟩ | refine ⟨bsub_one rfl rfl ?_, ?_⟩ | refine ⟨bsub_all rfl rfl (fun _ _ => rfl) (fun _ => rfl), ?_⟩ | refine ⟨bsub_updL rfl rfl ?_ (fun _ _ _ => rfl) (fun _ => rfl), ?_⟩ | refine ⟨.inl ⟨_, _, rfl, rfl, ?_⟩, ?_⟩ | exact ⟨.inr ⟨rfl, rfl⟩, trivial⟩ | refine ⟨.inr ⟨rfl, rfl⟩, ?_⟩ | (intro _ _) | exact .closed rfl | exact .sl rfl | exact .ptr rfl | exact .map rfl | exact .nil rfl | exact .emp rfl | exact .nilList | exact .empList | exact frzPtr' (by simp; done) rfl (by omega) rfl rfl | exact frzLB (by simp; done) rfl (fun _ => rfl) rfl | exact frz_all (by simp; done) rfl (fun _ _ => rfl) (fun _ => rfl) rfl | exact .frz (by simp; done) rfl (by omega) (fun _ _ => rfl) (fun _ _ => rfl) | exact slEq rfl (by first | (simp; done) | (simp; omega)) | exact siEq (by omega) | exact .of_eq (by refine (show V.agg _ = V.agg _ from ?_); (try dsimp only); congr <;> first | rfl | omega) rfl | exact .closed (by simp [V.closed, V.closed.all, *]; done) | fail))); done))))
        | (rw [clashesTo_yes (x := x) (by omega) hN (by simp [nearAt]; omega)]; ((first | refine loop_next (by omega) ?_ ?_ | refine (show _ ∧ _ ∧ SubOf _ _ _ _ _ _ from And.intro (by omega) (And.intro ?_ ?_))); (focus ((trivial); done)); (focus ((refine sub_to [some 0, some 3] [] rfl ?_ ?_ <;> (repeat' (first | exact trivial | refine ⟨⟨_, rfl, ?_⟩, ?_⟩ | refine ⟨bsub_snoc rfl rfl (fun _ => rfl) ?_, ?_⟩ | refine ⟨bsub_one rfl rfl ?_, ?_⟩ | refine ⟨bsub_all rfl rfl (fun _ _ => rfl) (fun _ => rfl), ?_⟩ | refine ⟨bsub_updL rfl rfl ?_ (fun _ _ _ => rfl) (fun _ => rfl), ?_⟩ | refine ⟨.inl ⟨_, _, rfl, rfl, ?_⟩, ?_⟩ | exact ⟨.inr ⟨rfl, rfl⟩, trivial⟩ | refine ⟨.inr ⟨rfl, rfl⟩, ?_⟩ | (intro _ _) | exact .closed rfl | exact .sl rfl | exact .ptr rfl | exact .map rfl | exact .nil rfl | exact .emp rfl | exact .nilList | exact .empList | exact frzPtr' (by simp; done) rfl (by omega) rfl rfl | exact frzLB (by simp; done) rfl (fun _ => rfl) rfl | exact frz_all (by simp; done) rfl (fun _ _ => rfl) (fun _ => rfl) rfl | exact .frz (by simp; done) rfl (by omega) (fun _ _ => rfl) (fun _ _ => rfl) | exact slEq rfl (by first | (simp; done) | (simp; omega)) | exact siEq (by omega) | exact .of_eq (by refine (show V.agg _ = V.agg _ from ?_); (try dsimp only); congr <;> first | rfl | omega) rfl | exact .closed (by simp [V.closed, V.closed.all, *]; done) | fail))); done))))
    · (repeat' (first | (refine ar_isq ?_; first | refine zmv ?_ | refine zas ?_ | (refine is_load ?_; first | refine zlp ?_ | refine zlr ?_) | (refine is_binOp ?_; first | refine zlss ?_ | refine zadd ?_ | refine zsub ?_) | (refine is_fieldAddr ?_; first | refine zfp ?_ | refine zfr ?_) | (refine is_indexAddr ?_; first | refine zil ?_ | refine zis ?_ | refine zit ?_ | refine zia ?_ | refine zir ?_ | (refine zxl ?_; intro _ _ _) | (refine zxs ?_; intro _ _ _)) | (refine is_call ?_; first | refine zll ?_ | refine zls ?_ | refine zln ?_ | refine zle ?_) | (refine ar_buildS (ds := ?ds) (by exact ty rfl) (by exact rfl) (by exact sizes rfl) (by exact rfl) (by exact rfl) (by exact build rfl) (by exact dc rfl) ?hn ?h; (case hn => (dsimp only [cells_s, cells_emp, cells_agg, cells_list, cells_sl, cells_ptr, cells_ref, cells_fn, cells_vi, cells_vb, cells_vnil, constV, List.map_cons, List.map_nil, List.take_succ_cons, List.take_zero, List.drop_succ_cons, List.drop_zero, List.cons_append, List.nil_append, List.append_nil, LV_cells]; exact rfl)))) | (refine zbx ?_) | (refine zb1 ?_) | (refine zb0 ?_) | (refine zapoo ?_) | (refine zapol ?_) | (refine zapno ?_) | (refine zapnl ?_) | (refine zapeo ?_) | (refine zapel ?_) | (refine ar_nil ?_) | (refine aw_seq ?_) | (refine aw_skip ?_) | (refine aw_block ?_) | (refine aw_exit ?_) | (refine aw_region ?_) | (refine aw_drawn (id := 8) [(0, 0), (1, 0), (2, 0), (3, 0), (4, 0), (5, 0), (6, 0), (7, 0), (8, 0), (9, 0), (10, 0), (11, 0), (12, 0), (13, 0), (14, 0), (15, 0)] mixed (by kernel_rfl) ?_) | (refine zco ?_ ?_ <;> intro hg <;> first | exact absurd hg (by decide) | ((try replace hg := HG.out hg); (try dsimp only at hg); (try (have _h : True := hg; clear _h hg)); first | (exfalso; omega) | skip))))
      all_goals first
        | (exfalso; omega)
        | (rw [clashesTo_no (k := k) fun j hj => hN j (by omega)]; ((first | refine loop_next (by omega) ?_ ?_ | refine (show _ ∧ _ ∧ SubOf _ _ _ _ _ _ from And.intro (by omega) (And.intro ?_ ?_))); (focus ((trivial); done)); (focus ((refine sub_to [some 0, some 1] [] rfl ?_ ?_ <;> (repeat' (first | exact trivial | refine ⟨⟨_, rfl, ?_⟩, ?_⟩ | refine ⟨bsub_snoc rfl rfl (fun _ => rfl) ?_, ?_⟩ | refine ⟨bsub_one rfl rfl ?_, ?_⟩ | refine ⟨bsub_all rfl rfl (fun _ _ => rfl) (fun _ => rfl), ?_⟩ | refine ⟨bsub_updL rfl rfl ?_ (fun _ _ _ => rfl) (fun _ => rfl), ?_⟩ | refine ⟨.inl ⟨_, _, rfl, rfl, ?_⟩, ?_⟩ | exact ⟨.inr ⟨rfl, rfl⟩, trivial⟩ | refine ⟨.inr ⟨rfl, rfl⟩, ?_⟩ | (intro _ _) | exact .closed rfl | exact .sl rfl | exact .ptr rfl | exact .map rfl | exact .nil rfl | exact .emp rfl | exact .nilList | exact .empList | exact frzPtr' (by simp; done) rfl (by omega) rfl rfl | exact frzLB (by simp; done) rfl (fun _ => rfl) rfl | exact frz_all (by simp; done) rfl (fun _ _ => rfl) (fun _ => rfl) rfl | exact .frz (by simp; done) rfl (by omega) (fun _ _ => rfl) (fun _ _ => rfl) | exact slEq rfl (by first | (simp; done) | (simp; omega)) | exact siEq (by omega) | exact .of_eq (by refine (show V.agg _ = V.agg _ from ?_); (try dsimp only); congr <;> first | rfl | omega) rfl | exact .closed (by simp [V.closed, V.closed.all, *]; done) | fail))); done))))
  · (repeat' (first | (refine ar_isq ?_; first | refine zmv ?_ | refine zas ?_ | (refine is_load ?_; first | refine zlp ?_ | refine zlr ?_) | (refine is_binOp ?_; first | refine zlss ?_ | refine zadd ?_ | refine zsub ?_) | (refine is_fieldAddr ?_; first | refine zfp ?_ | refine zfr ?_) | (refine is_indexAddr ?_; first | refine zil ?_ | refine zis ?_ | refine zit ?_ | refine zia ?_ | refine zir ?_ | (refine zxl ?_; intro _ _ _) | (refine zxs ?_; intro _ _ _)) | (refine is_call ?_; first | refine zll ?_ | refine zls ?_ | refine zln ?_ | refine zle ?_) | (refine ar_buildS (ds := ?ds) (by exact ty rfl) (by exact rfl) (by exact sizes rfl) (by exact rfl) (by exact rfl) (by exact build rfl) (by exact dc rfl) ?hn ?h; (case hn => (dsimp only [cells_s, cells_emp, cells_agg, cells_list, cells_sl, cells_ptr, cells_ref, cells_fn, cells_vi, cells_vb, cells_vnil, constV, List.map_cons, List.map_nil, List.take_succ_cons, List.take_zero, List.drop_succ_cons, List.drop_zero, List.cons_append, List.nil_append, List.append_nil, LV_cells]; exact rfl)))) | (refine zbx ?_) | (refine zb1 ?_) | (refine zb0 ?_) | (refine zapoo ?_) | (refine zapol ?_) | (refine zapno ?_) | (refine zapnl ?_) | (refine zapeo ?_) | (refine zapel ?_) | (refine ar_nil ?_) | (refine aw_seq ?_) | (refine aw_skip ?_) | (refine aw_block ?_) | (refine aw_exit ?_) | (refine aw_region ?_) | (refine aw_drawn (id := 8) [(0, 0), (1, 0), (2, 0), (3, 0), (4, 0), (5, 0), (6, 0), (7, 0), (8, 0), (9, 0), (10, 0), (11, 0), (12, 0), (13, 0), (14, 0), (15, 0)] mixed (by kernel_rfl) ?_) | (refine zco ?_ ?_ <;> intro hg <;> first | exact absurd hg (by decide) | ((try replace hg := HG.out hg); (try dsimp only at hg); (try (have _h : True := hg; clear _h hg)); first | (exfalso; omega) | skip))))
    all_goals first
      | (exfalso; omega)
      | ((refine aw_mono_r (env' := [(4, encClashes (clashesTo s b k))]) (H' := []) ?_ ?_; (focus ((refine sub_to [] [1] rfl ?_ ?_ <;> (repeat' (first | exact trivial | refine ⟨⟨_, rfl, ?_⟩, ?_⟩ | refine ⟨bsub_snoc rfl rfl (fun _ => rfl) ?_, ?_⟩ | refine ⟨bsub_one rfl rfl ?_, ?_⟩ | refine ⟨bsub_all rfl rfl (fun _ _ => rfl) (fun _ => rfl), ?_⟩ | refine ⟨bsub_updL rfl rfl ?_ (fun _ _ _ => rfl) (fun _ => rfl), ?_⟩ | refine ⟨.inl ⟨_, _, rfl, rfl, ?_⟩, ?_⟩ | exact ⟨.inr ⟨rfl, rfl⟩, trivial⟩ | refine ⟨.inr ⟨rfl, rfl⟩, ?_⟩ | (intro _ _) | exact .closed rfl | exact .sl rfl | exact .ptr rfl | exact .map rfl | exact .nil rfl | exact .emp rfl | exact .nilList | exact .empList | exact frzPtr' (by simp; done) rfl (by omega) rfl rfl | exact frzLB (by simp; done) rfl (fun _ => rfl) rfl | exact frz_all (by simp; done) rfl (fun _ _ => rfl) (fun _ => rfl) rfl | exact .frz (by simp; done) rfl (by omega) (fun _ _ => rfl) (fun _ _ => rfl) | exact slEq rfl (by first | (simp; done) | (simp; omega)) | exact siEq (by omega) | exact .of_eq (by refine (show V.agg _ = V.agg _ from ?_); (try dsimp only); congr <;> first | rfl | omega) rfl | exact .closed (by simp [V.closed, V.closed.all, *]; done) | fail))); done))); (refine aw_ret ?_; (repeat (first | refine ret_then ?_ | refine ret_block ?_)); refine bq1 rfl ⟨?_, rfl⟩); rw [show k = b.length - 1 by omega]; rfl)
end Go.Proofs.Ytccidiflnmchiaa
namespace Go.Proofs.Ytccidiflnmchiaa
open Go.RowKit
def linesB (s : Sheet) (b : List (List Int)) : Bool := b.all (isLineB s)
def bandB (s : Sheet) (b : List (List Int)) : Bool := decide (b.length ≤ 12) && linesB s b && (List.range (b.length - 1)).all fun i => decide (clashF s (el b i) (el b (i + 1)) < 0)
theorem err_ok {s : Sheet} (h : s.ok = true) : s.err = 0 := by simp [Sheet.err, h]
theorem err_bad {s : Sheet} (h : s.ok = false) : s.err = 70 := by simp [Sheet.err, h]
theorem clashes_nil {s : Sheet} {b : List (List Int)} : (clashesF s b).length = 0 ↔ ((List.range (b.length - 1)).all fun i => decide (clashF s (el b i) (el b (i + 1)) < 0)) = true := by
  rw [List.length_eq_zero_iff, clashesF, clashesTo, List.flatMap_eq_nil_iff, List.all_eq_true]
  refine forall_congr' fun i => forall_congr' fun hi => ?_
  unfold clashAt
  split
  · rename_i h; simp [h]
  · rename_i h; simp [h]
def checkErr (s : Sheet) (b : List (List Int)) : Int := if s.ok then (if bandB s b then 0 else 71) else 70
def clErr (s : Sheet) (b : List (List Int)) : Int := if s.ok then (if b.length ≤ 12 then (if linesB s b then 0 else 2) else 4) else 70
def clF (s : Sheet) (b : List (List Int)) : List Clash := if clErr s b = 0 then clashesF s b else []
theorem checkErr_eq {s : Sheet} {b : List (List Int)} (hs : s.ok = true) : checkErr s b = if b.length ≤ 12 ∧ linesB s b = true ∧ (clashesF s b).length = 0 then 0 else 71 := by
  unfold checkErr bandB
  rw [if_pos hs]
  simp only [Bool.and_eq_true, decide_eq_true_eq, and_assoc, clashes_nil]
theorem band_of_check {s : Sheet} {b : List (List Int)} (h : checkErr s b = 0) : s.ok = true ∧ b.length ≤ 12 ∧ linesB s b = true := by
  unfold checkErr at h
  cases hs : s.ok
  · rw [hs] at h; simp at h
  · have h' : checkErr s b = 0 := h
    rw [checkErr_eq hs] at h'
    split at h'
    · rename_i h2; exact ⟨rfl, h2.1, h2.2.1⟩
    · simp at h'
set_option maxHeartbeats 1000000 in
theorem check_p (s : Sheet) (b : List (List Int)) : PCalls Try.prog 30 [s.enc, encRows b] (· = vi (checkErr s b)) := by
  cases hs : s.ok
  · have he := err_bad hs
    refine pcalls_of_aw Try.func30 rfl (Nat.le_of_ble_eq_true rfl) ?_
    (repeat' (first | (refine ar_isq ?_; first | refine zmv ?_ | refine zas ?_ | (refine is_load ?_; first | refine zlp ?_ | refine zlr ?_) | (refine is_binOp ?_; first | refine zgtr ?_ | refine zneq ?_) | (refine is_call ?_; first | refine zll ?_ | refine zls ?_ | refine zln ?_ | refine zle ?_) | (refine is_pick ?_; first | refine zpt ?_ | refine zpf ?_) | refine znt ?_) | (refine ar_pcall (own := false) fn28 rfl rfl (.cons (.closed rfl) .nil) (checkSheet_p _) (by simp) (dc rfl) ?_; intro _ hv; subst hv) | (refine zbx ?_) | (refine zg ?_ ?_ <;> intro hg <;> first | exact absurd hg (by decide) | ((try replace hg := HG.out hg); (try dsimp only at hg); (try (have _h : True := hg; clear _h hg)); first | (exfalso; omega) | skip)) | (refine zgu ?_) | (refine ar_nil ?_) | (refine aw_seq ?_) | (refine aw_skip ?_) | (refine aw_block ?_) | (refine aw_exit ?_) | (refine aw_region ?_) | (refine zco ?_ ?_ <;> intro hg <;> first | exact absurd hg (by decide) | ((try replace hg := HG.out hg); (try dsimp only at hg); (try (have _h : True := hg; clear _h hg)); first | (exfalso; omega) | skip))))
    all_goals first
      | (exfalso; omega)
      | ((refine aw_ret ?_; (repeat (first | refine ret_then ?_ | refine ret_block ?_)); refine bq1 rfl ⟨?_, rfl⟩); simp [vi, checkErr, hs, he])
  · have he := err_ok hs
    refine pcalls_of_aw Try.func30 rfl (Nat.le_of_ble_eq_true rfl) ?_
    (repeat' (first | (refine ar_isq ?_; first | refine zmv ?_ | refine zas ?_ | (refine is_load ?_; first | refine zlp ?_ | refine zlr ?_) | (refine is_binOp ?_; first | refine zgtr ?_ | refine zneq ?_) | (refine is_call ?_; first | refine zll ?_ | refine zls ?_ | refine zln ?_ | refine zle ?_) | (refine is_pick ?_; first | refine zpt ?_ | refine zpf ?_) | refine znt ?_) | (refine ar_pcall (own := false) fn28 rfl rfl (.cons (.closed rfl) .nil) (checkSheet_p _) (by simp) (dc rfl) ?_; intro _ hv; subst hv) | (refine ar_pcall (own := false) fn64 rfl rfl (.cons (.closed rfl) (.cons (.closed rfl) .nil)) (lines_p s hs b) (by simp) (dc rfl) ?_; intro _ hv; subst hv) | (refine ar_pcall (own := false) fn65 rfl rfl (.cons (.closed rfl) (.cons (.closed rfl) .nil)) (clashes_p s hs b (by assumption) (by omega)) (by simp) (dc rfl) ?_; intro _ hv; subst hv) | (refine zbx ?_) | (refine zg ?_ ?_ <;> intro hg <;> first | exact absurd hg (by decide) | ((try replace hg := HG.out hg); (try dsimp only at hg); (try (have _h : True := hg; clear _h hg)); first | (exfalso; omega) | skip)) | (refine zgu ?_) | (refine ar_nil ?_) | (refine aw_seq ?_) | (refine aw_skip ?_) | (refine aw_block ?_) | (refine aw_exit ?_) | (refine aw_region ?_) | (refine zco ?_ ?_ <;> intro hg <;> first | exact absurd hg (by decide) | ((try replace hg := HG.out hg); (try dsimp only at hg); (try (have _h : True := hg; clear _h hg)); first | (exfalso; omega) | skip))))
    all_goals first
      | (exfalso; omega)
      | ((refine aw_ret ?_; (repeat (first | refine ret_then ?_ | refine ret_block ?_)); refine bq1 rfl ⟨?_, rfl⟩); rw [checkErr_eq hs]; first
          | (rw [if_pos ⟨by omega, (show b.all (isLineB s) = true by assumption), by omega⟩]; rfl)
          | (rw [if_neg (fun h => by obtain ⟨h1, h2, h3⟩ := h; first | omega | (have h4 : b.all (isLineB s) = true := h2; simp_all))]; rfl))
end Go.Proofs.Ytccidiflnmchiaa
