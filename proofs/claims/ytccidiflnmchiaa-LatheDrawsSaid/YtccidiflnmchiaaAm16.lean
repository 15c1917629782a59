/- copy. No condition. -/
import Derived.Test.YtccidiflnmchiaaAm15
import Derived.Laws.CopyOwn
namespace Go.Proofs.Ytccidiflnmchiaa
open Go.RowKit
def copyF (f : Nat → V) (i m : Nat) (g : Nat → V) : Nat → V := fun j => bif Nat.ble i j && Nat.blt j (i + m) then g (j - i) else f j
theorem copyF_in {f g : Nat → V} {i m j : Nat} (h1 : i ≤ j) (h2 : j < i + m) : copyF f i m g j = g (j - i) := by
  have e1 : Nat.ble i j = true := Nat.ble_eq_true_of_le h1
  have e2 : Nat.blt j (i + m) = true := by rw [Nat.blt_eq]; exact h2
  simp [copyF, e1, e2]
theorem copyF_out {f g : Nat → V} {i m j : Nat} (h : j < i ∨ i + m ≤ j) : copyF f i m g j = f j := by
  unfold copyF
  rcases h with h | h
  · have : Nat.ble i j = false := by cases e : Nat.ble i j with | false => rfl | true => have := Nat.le_of_ble_eq_true e; omega
    rw [this]; rfl
  · have : Nat.blt j (i + m) = false := by cases e : Nat.blt j (i + m) with | false => rfl | true => rw [Nat.blt_eq] at e; omega
    rw [this, Bool.and_false]; rfl
section
variable {P : Program} {r : Option Nat} {m nt : Nat} {Q : Post} {env : Env} {H : Heap} {ops : Array Oper} {l : List Stp} {ty : TypeId} {pos : String} {after : Array Edge} {x y : Operand} {T T2 E : TypeId} {d de : TyD} {dst : Option Tmp} {guard : Option (Nat × Bool)}
/-- copy into an own row of elements of one cell. -/
theorem ls_copy {yv : V} {b i n N k : Nat} {f g : Nat → V} (ht : TyIs P T d) (hk : d.tk = .slice E) (he : TyIs P E de) (hs1 : de.size = 1) (hx : eo env x = some (.sl 1 b i n)) (hH : H[b]? = some (.arr 1 N f)) (hN : i + n ≤ N) (hy : eo env y = some yv) (hs : Src H yv 1 k g)
    (hone : ∀ j, j < k → (g j).cells.all V.one = true) :
    LS P r m nt false env H ⟨dst, .call ⟨.builtin .copy, #[x, y], #[T, T2]⟩, ty, pos, after, guard⟩ (fun u H' => u = vi (Nat.min k n) ∧ H' = H.set b (.arr 1 N (copyF f i (Nat.min k n) g))) NoP := .mk
  fun X I ρ a w next Qx hX hS hK hp => by
    obtain ⟨hE, hw, hdf⟩ := hS
    have hu := eo_rel hE hx
    have hv := eo_rel hE hy
    obtain ⟨ii, hi, hsz, hby, hz0⟩ := he.inf
    have hinf : (P.info? E).map (·.size) = some 1 := by rw [hi]; simp [hsz, hs1]
    obtain ⟨B, cap, news, ey, hnl, hnc, hgsz, hgr⟩ := src_cells hw hs hv
    have hex : ∀ {res : Value} {w' : World}, (Builtin.copy_ #[T, T2] ty #[a.eval x, a.eval y]).run P w = .ok res w' → (execOp a.eval ⟨dst, .call ⟨.builtin .copy, #[x, y], #[T, T2]⟩, ty, pos, after, guard⟩).run P w = .ok (.value res) w' := fun h => by
      simp [execOp, resolve, invoke, builtin, h]
    by_cases h0 : Nat.min k n = 0
    · have hset : H.set b (.arr 1 N (copyF f i (Nat.min k n) g)) = H := by
        rw [h0, show copyF f i 0 g = f from funext fun j => copyF_out (by omega)]
        obtain ⟨hb, e⟩ := List.getElem?_eq_some_iff.1 hH
        rw [← e, List.set_getElem_self]
      obtain ⟨A, c, ex⟩ : ∃ A c, a.eval x = .slice A n c := by
        rcases hu.sl_inv with ⟨cb, z, c, e, _⟩ | ⟨A, e, _, _, rfl⟩
        · exact ⟨_, _, e⟩
        · exact ⟨_, _, e⟩
      have hr := run_copy_none (P := P) w T T2 ty E A B n c k cap (ht.slice hk) hinf h0
      rw [← ex, ← ey] at hr
      refine wpIn_of_run (by simp) (hex hr) ?_
      exact hK I ρ _ (vi 0) _ _ ⟨by rw [h0]; rfl, rfl⟩ (Imm.le_refl _) (Pre.refl _) (by rw [hset]; exact hw) (.s _) (by simp)
    · rcases hu.sl_inv with ⟨cb, z, c, ex, hb, hnc', hcm, hz'⟩ | ⟨A, _, _, _, rfl⟩
      · have hk0 : 0 < k := by have : Nat.min k n ≤ k := Nat.min_le_left _ _; omega
        have hmk : Nat.min k n ≤ k := Nat.min_le_left _ _
        have hmn : Nat.min k n ≤ n := Nat.min_le_right _ _
        obtain ⟨ad, rfl, hspot, hcell⟩ := hnc hk0
        obtain ⟨cs, t, hcs, hz, hn, hr⟩ := hw.arr _ _ _ _ _ _ hH hb
        have hgl := hw.size _ _ _ _ hH
        have hcl : (news.take (Nat.min k n)).length = Nat.min k n := by rw [List.length_take]; omega
        have hnews : ∀ j, j < k → ∃ q, news[j]? = some q ∧ ∃ v, (g j).cells = [v] ∧ VRel I ρ v q := fun j hj => by
          have h1 := hgsz j hj
          match hc : (g j).cells, h1 with
          | [v], _ =>
            obtain ⟨q, h2, h3⟩ := hgr j 0 v hj (by rw [hc]; rfl)
            exact ⟨q, by simpa using h2, v, rfl, h3⟩
        have hones : ∀ u ∈ news.take (Nat.min k n), u.oneCell' = true := fun u hu => by
          obtain ⟨j, hj, rfl⟩ := List.getElem_of_mem hu
          obtain ⟨q, h1, v, h2, h3⟩ := hnews j (by omega)
          have h4 := hone j (by omega)
          rw [h2] at h4
          have : (news.take (Nat.min k n))[j] = q := by
            rw [List.getElem_take]
            rw [List.getElem?_eq_getElem (by rw [hnl]; omega)] at h1
            exact Option.some.inj h1
          rw [this]
          exact h3.one (by simpa using h4)
        have hfit : i * 1 + (news.take (Nat.min k n)).length ≤ cs.size := by rw [hcl]; omega
        have hrun := run_copy_row (P := P) w T T2 ty E cb (i * 1) n c ad k cap cs t (news.take (Nat.min k n)) (ht.slice hk) hinf hcs (by rw [hcl]) (fun j v hj => by
          refine hcell w rfl j v ?_
          rw [List.getElem?_take] at hj
          split at hj
          · exact hj
          · cases hj) hfit hones
        rw [← ex, ← ey] at hrun
        refine wpIn_of_run (by simp) (hex hrun) ?_
        obtain ⟨s1, s2, s3⟩ := setRow_facts (new := (cs.toList.take (i * 1) ++ news.take (Nat.min k n) ++ cs.toList.drop (i * 1 + (news.take (Nat.min k n)).length)).toArray) hcs
        refine hK I ρ _ _ _ _ ⟨by rw [hcl]; rfl, rfl⟩ (Imm.le_refl _) (Pre.refl _) (hw.write hH hb (by simp; simp at hfit; omega) (fun j hj => ?_) ?_ s1 s2 s3 rfl rfl rfl) (.s _) (by simp)
        · by_cases h1 : i ≤ j ∧ j < i + Nat.min k n
          · rw [copyF_in h1.1 h1.2]; exact hgsz _ (by omega)
          · rw [copyF_out (by omega)]; exact hgl j hj
        · intro j l v hj hv
          simp only [List.getElem?_toArray]
          rw [splice_get (by simpa using hfit), hcl]
          by_cases h1 : i ≤ j ∧ j < i + Nat.min k n
          · rw [copyF_in h1.1 h1.2] at hv
            obtain ⟨q, h2, v', h3, h4⟩ := hnews (j - i) (by omega)
            rw [h3] at hv
            cases l with
            | succ l => simp at hv
            | zero =>
              simp at hv
              subst hv
              refine ⟨q, ?_, h4⟩
              rw [if_pos (by omega), List.getElem?_take, if_pos (by omega), ← h2]
              congr 1
              omega
          · rw [copyF_out (by omega)] at hv
            have hl0 : l = 0 := by have := (List.getElem?_eq_some_iff.1 hv).1; rw [hgl j hj] at this; omega
            subst hl0
            obtain ⟨q, h2, h3⟩ := hr j 0 v hj hv
            refine ⟨q, ?_, h3⟩
            rw [if_neg (by omega)]
            simpa using h2
      · exact (h0 (by simp)).elim
theorem ar_copy {yv : V} {b i n N k e : Nat} {f g : Nat → V} {j : Nat} (ht : TyIs P T d) (hk : d.tk = .slice E) (he : TyIs P E de) (hs1 : de.size = 1) (hx : eo env x = some (.sl 1 b i n)) (hH : H[b]? = some (.arr 1 N f)) (hN : i + n ≤ N) (hy : eo env y = some yv) (hs : Src H yv 1 k g)
    (hone : ∀ j, j < k → (g j).cells.all V.one = true) (hd : e < nt) (h : AR P r m nt ops Q l ((e, vi (Nat.min k n)) :: env) (H.set b (.arr 1 N (copyF f i (Nat.min k n) g)))) :
    AR P r m nt ops Q (.l j ⟨some e, .call ⟨.builtin .copy, #[x, y], #[T, T2]⟩, ty, pos, after, none⟩ false :: l) env H :=
  ar_l (ls_copy ht hk he hs1 hx hH hN hy hs hone) hd (fun v H' ⟨a, b⟩ => by subst a; subst b; exact h) (fun _ _ h => h.elim)
/-- A cut of an own row. -/
theorem qs_slice_sl {sz b i n l h : Nat} {lo hi : Option Operand} (ht : TyIs P T d) (hk : d.tk = .slice E) (he : TyIs P E de) (hs : de.size = sz) (hx : eo env x = some (.sl sz b i n)) (hl : bnd env lo 0 l) (hh : bnd env hi n h) (h1 : l ≤ h) (h2 : h ≤ n) (h3 : l < n ∨ l = 0) :
    QS P nt env H ⟨dst, .slice T x lo hi none, ty, pos, after, guard⟩ (.sl sz b (i + l) (h - l)) := .mk
  fun _ I ρ a w hE hw => by
    have hr := eo_rel hE hx
    have bl := bnd_val hE hl
    have bh := bnd_val hE hh
    subst hs
    rcases hr.sl_inv with ⟨cb, z, c, ex, hb, hnc, hcm, hz⟩ | ⟨A, ex, hb, rfl, rfl⟩
    · refine ⟨.slice (some ⟨cb, (i + l) * de.size, none⟩) (h - l) (c - l), .sl hb (by omega) (by omega) (by rw [show i + l + (c - l) = i + c by omega]; exact hz), fun w' _ => ?_⟩
      have := slice_run (P := P) (w := w') (A := some ⟨cb, i * de.size, none⟩) (n := n) (cap := c) (l := l) (h := h) (m := c) (lo := lo.map a.eval) (hi := hi.map a.eval) (mx := none) ht hk he rfl (by
        cases hi with
        | none => exact ⟨bh, rfl⟩
        | some u => exact bh) bl h1 (by omega) (Nat.le_refl _)
      have e : (if c = l then (some ⟨cb, i * de.size, none⟩ : Option Addr) else (some ⟨cb, i * de.size, none⟩ : Option Addr).map (·.add (l * de.size))) = some ⟨cb, (i + l) * de.size, none⟩ := by
        rw [Nat.add_mul]
        split
        · have : l = 0 := by omega
          subst this; simp
        · simp only [Option.map_some, Addr.add]
          split
          · rename_i h0; rw [h0]; rfl
          · rfl
      rw [e] at this
      simp only [execOp, ex, Sem.run_bind, Option.map_none, this, Result.andThen_ok]
      rfl
    · obtain rfl : h = 0 := by omega
      obtain rfl : l = 0 := by omega
      refine ⟨.slice A 0 0, .slNone A hb, fun w' _ => ?_⟩
      have := slice_run (P := P) (w := w') (A := A) (n := 0) (cap := 0) (l := 0) (h := 0) (m := 0) (lo := lo.map a.eval) (hi := hi.map a.eval) (mx := none) ht hk he rfl (by
        cases hi with
        | none => exact ⟨bh, rfl⟩
        | some u => exact bh) bl (Nat.le_refl _) (Nat.le_refl _) (Nat.le_refl _)
      simp only [execOp, ex, Sem.run_bind, Option.map_none, this, Result.andThen_ok]
      rfl
end
end Go.Proofs.Ytccidiflnmchiaa
