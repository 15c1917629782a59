/- Stores, makes, appends. No condition. -/
import Derived.Test.YtccidiflnmchiaaAm6
namespace Go.Proofs.Ytccidiflnmchiaa
open Go.RowKit
section
variable {P : Program} {r : Option Nat} {m nt : Nat} {env : Env} {H : Heap} {dst : Option Tmp} {ty : TypeId} {pos : String} {after : Array Edge} {guard : Option (Nat × Bool)} {x y c : Operand} {T E : TypeId} {d de : TyD} {v : V} {keep : Bool}

theorem setRow_facts {w : World} {b : Nat} {cs new : Array Value} {t : TypeId} (h : w.heap[b]? = some (.cells cs t (0, 0))) :
    (w.setRow b new).heap[b]? = some (.cells new t (0, 0)) ∧ (∀ c, c ≠ b → (w.setRow b new).heap[c]? = w.heap[c]?) ∧ (w.setRow b new).heap.size = w.heap.size :=
  ⟨setRow_heap w b cs new t (0, 0) h, fun c hc => setRow_other w b c new hc, by simp [World.setRow]⟩
/-- What a cell of the new contents is. -/
theorem splice_get {cs : List Value} {off : Nat} {us : List Value} (h : off + us.length ≤ cs.length) (k : Nat) :
    (cs.take off ++ us ++ cs.drop (off + us.length))[k]? = if off ≤ k ∧ k < off + us.length then us[k - off]? else cs[k]? := by
  by_cases h1 : k < off
  · rw [if_neg (by omega), List.append_assoc, List.getElem?_append_left (by simp; omega), List.getElem?_take, if_pos h1]
  · by_cases h2 : k < off + us.length
    · rw [if_pos (by omega), List.getElem?_append_left (by simp; omega), List.getElem?_append_right (by simp; omega)]
      congr 1
      simp; omega
    · rw [if_neg (by omega), List.getElem?_append_right (by simp; omega), List.getElem?_drop]
      congr 1
      simp; omega
theorem ls_store_g {sz b i off n : Nat} {f g : Nat → V} (ht : TyIs P T d) (hx : eo env x = some (.ptr sz b i off)) (hy : eo env y = some v) (hok : v.ok = true) (hone : v.cells.all V.one = true) (hH : H[b]? = some (.arr sz n f)) (hi : i < n)
    (hsz : v.cells.length = d.size) (hoff : off + d.size ≤ sz) (ha : (∃ cs, f i = .agg cs) ∨ (off = 0 ∧ v.cells.length = 1 ∧ (f i).cells.length = 1 ∧ ∀ cs, v ≠ .agg cs)) (hgi : g i = putPart (f i) off v) (hg : ∀ j, j < n → j ≠ i → g j = f j) :
    LS P r m nt false env H ⟨dst, .store T x y, ty, pos, after, guard⟩ (fun _ H' => H' = H.set b (.arr sz n g)) NoP := .mk
  fun X I ρ a w next Qx hX hs hk hp => by
    obtain ⟨he, hw, hdf⟩ := hs
    have h1 := eo_rel he hx
    have h2 := eo_rel he hy
    obtain ⟨cb, z, h1', hb⟩ := h1.ptr_inv
    obtain ⟨hc1, hc2⟩ := h2.cells (V.ok_ne hok)
    obtain ⟨cs, t, hcs, hz, hn, hr⟩ := hw.arr _ _ _ _ _ _ hH hb
    have hlen := hw.size _ _ _ _ hH i hi
    have hlt : i * sz + sz ≤ n * sz := by rw [← Nat.succ_mul]; exact Nat.mul_le_mul_right _ hi
    have hfit : i * sz + off + (a.eval y).cells.toList.length ≤ cs.size := by simp [hc1]; omega
    have hones : ∀ u ∈ (a.eval y).cells.toList, u.oneCell' = true := fun u hu => by
      obtain ⟨j, hj, rfl⟩ := List.getElem_of_mem hu
      have hj' : j < v.cells.length := by simp at hj; omega
      have := List.all_eq_true.1 hone v.cells[j] (List.getElem_mem _)
      exact (hc2 j v.cells[j] _ (by simp [hj']) (by simp at hj; simp [hj])).one this
    have hst := run_storeCells_at P cb (i * sz + off) t (a.eval y).cells.toList 0 cs w hcs (by simpa using hfit) hones
    rw [Nat.add_zero] at hst
    have hrun : (execOp a.eval ⟨dst, .store T x y, ty, pos, after, guard⟩).run P w = .ok .skip (w.setRow cb (cs.toList.take (i * sz + off) ++ (a.eval y).cells.toList ++ cs.toList.drop (i * sz + off + (a.eval y).cells.toList.length)).toArray) := by
      have hst' := hst
      simp [hc1, hsz] at hst'
      simp [execOp, h1', Instr.storeAt, Instr.sureAddr, storeVar, ht.sizeOf, hc1, hsz, hst']
    obtain ⟨s1, s2, s3⟩ := setRow_facts (new := (cs.toList.take (i * sz + off) ++ (a.eval y).cells.toList ++ cs.toList.drop (i * sz + off + (a.eval y).cells.toList.length)).toArray) hcs
    have hcell := cells_put (x := f i) (v := v) (off := off) (by omega) ha
    have hgsz : ∀ j, j < n → (g j).cells.length = sz := fun j hj => by
      by_cases e : j = i
      · subst e; rw [hgi, hcell]; simp; omega
      · rw [hg j hj e]; exact hw.size _ _ _ _ hH j hj
    refine wpIn_of_run (by simp) hrun ?_
    refine hk I ρ _ _ undef _ rfl (Imm.le_refl _) (Pre.refl _) (hw.write hH hb (by simp; simp at hfit; omega) hgsz ?_ s1 s2 s3 rfl rfl rfl) (VRel.s undef) (by simp)
    intro j k u hj hu
    simp only [List.getElem?_toArray]
    rw [splice_get (by simpa using hfit)]
    by_cases e : j = i
    · subst e
      rw [hgi, hcell] at hu
      have hk' : k < sz := by have := (List.getElem?_eq_some_iff.1 hu).1; simp at this; omega
      by_cases hin : off ≤ k ∧ k < off + v.cells.length
      · rw [if_pos (by simp [hc1]; omega)]
        rw [List.append_assoc, List.getElem?_append_right (by simp; omega), List.getElem?_append_left (by simp; omega)] at hu
        have e2 : k - (List.take off (f j).cells).length = k - off := by simp; omega
        rw [e2] at hu
        have hlt2 : k - off < (a.eval y).cells.size := by rw [hc1]; omega
        refine ⟨(a.eval y).cells[k - off], ?_, hc2 _ _ _ hu (by simp [hlt2])⟩
        rw [show j * sz + k - (j * sz + off) = k - off by omega]
        simp [hlt2]
      · rw [if_neg (by simp [hc1]; omega)]
        have : (f j).cells[k]? = some u := by
          by_cases hlo : k < off
          · rw [List.append_assoc, List.getElem?_append_left (by simp; omega), List.getElem?_take, if_pos hlo] at hu; exact hu
          · rw [List.getElem?_append_right (by simp; omega), List.getElem?_drop] at hu
            rw [← hu]; congr 1; simp; omega
        simpa using hr j k u hj this
    · rw [hg j hj e] at hu
      have hk' : k < sz := by have := (List.getElem?_eq_some_iff.1 hu).1; rw [hw.size _ _ _ _ hH j hj] at this; exact this
      rw [if_neg ?_]
      · simpa using hr j k u hj hu
      · rintro ⟨q1, q2⟩
        simp [hc1] at q2
        rcases Nat.lt_or_gt_of_ne e with hlt' | hgt'
        · have : j * sz + sz ≤ i * sz := by rw [← Nat.succ_mul]; exact Nat.mul_le_mul_right _ hlt'
          omega
        · have : i * sz + sz ≤ j * sz := by rw [← Nat.succ_mul]; exact Nat.mul_le_mul_right _ hgt'
          omega
/-- Into a variable of ours. -/
theorem ls_store_var {sz b off : Nat} {f : Nat → V} (ht : TyIs P T d) (hx : eo env x = some (.ptr sz b 0 off)) (hy : eo env y = some v) (hok : v.ok = true) (hone : v.cells.all V.one = true) (hH : H[b]? = some (.arr sz 1 f))
    (hsz : v.cells.length = d.size) (hoff : off + d.size ≤ sz) (ha : (∃ cs, f 0 = .agg cs) ∨ (off = 0 ∧ v.cells.length = 1 ∧ (f 0).cells.length = 1 ∧ ∀ cs, v ≠ .agg cs)) :
    LS P r m nt false env H ⟨dst, .store T x y, ty, pos, after, guard⟩ (fun _ H' => H' = H.set b (.arr sz 1 (fun _ => putPart (f 0) off v))) NoP :=
  ls_store_g ht hx hy hok hone hH (by omega) hsz hoff ha rfl (fun j h1 h2 => by omega)
theorem ls_store_elt {sz b i off n : Nat} {f : Nat → V} (ht : TyIs P T d) (hx : eo env x = some (.ptr sz b i off)) (hy : eo env y = some v) (hok : v.ok = true) (hone : v.cells.all V.one = true) (hH : H[b]? = some (.arr sz n f)) (hi : i < n)
    (hsz : v.cells.length = d.size) (hoff : off + d.size ≤ sz) (ha : (∃ cs, f i = .agg cs) ∨ (off = 0 ∧ v.cells.length = 1 ∧ (f i).cells.length = 1 ∧ ∀ cs, v ≠ .agg cs)) :
    LS P r m nt false env H ⟨dst, .store T x y, ty, pos, after, guard⟩ (fun _ H' => H' = H.set b (.arr sz n (upd f i (putPart (f i) off v)))) NoP :=
  ls_store_g ht hx hy hok hone hH hi hsz hoff ha (by rw [upd_at, if_pos rfl]) (fun j _ h => by rw [upd_at, if_neg h])

/-! ### make -/
theorem ls_make {l : Nat} {kl kc : IntKind} (ht : TyIs P T d) (hk : d.tk = .slice E) (he : TyIs P E de) (hx : eo env x = some (.s (.int kl (l : Int)))) (hy : eo env y = some (.s (.int kc (l : Int)))) (hb : de.bytes * l ≤ 281474976710656) (hm : l ≤ maxLen) (hok : (constV de.zero).ok = true) (hz : (constV de.zero).cells.length = de.size) :
    LS P r m nt true env H ⟨dst, .makeSlice T x y, ty, pos, after, guard⟩ (fun u H' => u = .sl de.size H.length 0 l ∧ H' = H ++ [.arr de.size l (fun _ => constV de.zero)]) NoP := .mk
  fun X I ρ a w next Qx hX hs hk' hp => by
    obtain ⟨hE, hw, hdf⟩ := hs
    have h1 := int1 hE hx
    have h2 := int1 hE hy
    obtain ⟨i, hi, hsz, hby, hz0⟩ := he.inf
    have hm' := hm
    unfold maxLen at hm'
    have hb' : (de.bytes : Int) * (l : Int) ≤ 281474976710656 := by rw [← Int.natCast_mul]; omega
    have hr := run_make (P := P) w T E i de.zero (ht.slice hk) hi hz0 kl kc (l : Int) (l : Int) (by omega) (Int.le_refl _) (by rw [hby]; exact hb') (by omega)
    simp only [Int.toNat_natCast] at hr
    refine wpIn_of_run (by simp) (res := .ok (.value (.slice (some ⟨w.heap.size, 0, none⟩) l l)) (w.alloc (.cells (madeCells de.zero.cells (l * i.size)) E))) (by simp only [execOp, h1, h2, Sem.run_bind, hr, Result.andThen_ok]; rfl) ?_
    have hrel := (constV_rel I ρ de.zero).cells (V.ok_ne hok)
    have hzsz : de.zero.cells.size = de.size := by rw [hrel.1, hz]
    have hcs : (madeCells de.zero.cells (l * i.size)).size = l * de.size := by rw [size_madeCells, hsz]
    have ok := hw.alloc (w' := w.alloc (.cells (madeCells de.zero.cells (l * i.size)) E)) (cs := madeCells de.zero.cells (l * i.size)) (ty := E) (sz := de.size) (n := l) (f := fun _ => constV de.zero) (by omega) (fun _ _ => hz) (fun j k u hj hu => by
      have hk2 : k < de.size := by have := (List.getElem?_eq_some_iff.1 hu).1; omega
      have hlt : j * de.size + k < l * i.size := by
        rw [hsz]
        have : j * de.size + de.size ≤ l * de.size := by rw [← Nat.succ_mul]; exact Nat.mul_le_mul_right _ hj
        omega
      have hzk : k < de.zero.cells.size := by omega
      refine ⟨de.zero.cells[k], ?_, hrel.2 k u _ hu (by simp [hzk])⟩
      have hmod : (j * de.size + k) % de.zero.cells.size = k := by rw [hzsz, Nat.mul_comm, Nat.mul_add_mod, Nat.mod_eq_of_lt hk2]
      simp [madeCells, hlt, hmod, hzk]) rfl rfl rfl rfl
    rw [hcs] at ok
    refine hk' I _ _ _ _ _ ⟨rfl, rfl⟩ (Imm.le_refl _) (pre_append _) ok ?_ (fun _ => keeps_alloc hw fun b hb => Below.heap_alloc w _ b hb)
    have := VRel.sl (I := I) (ρ := ρ ++ [some (w.heap.size, l * de.size)]) (sz := de.size) (b := H.length) (i := 0) (n := l) (cb := w.heap.size) (z := l * de.size) (c := l) (by rw [← hw.len]; simp) (Nat.le_refl _) hm (by simp)
    simpa using this
end
end Go.Proofs.Ytccidiflnmchiaa
