/- Literals: structs, slices. No condition. -/
import Derived.Test.YtccidiflnmchiaaAm11
namespace Go.Proofs.Ytccidiflnmchiaa
open Go.RowKit
section
variable {P : Program} {I : Imm} {ρ : List (Option (Nat × Nat))}
def CellsRel (I : Imm) (ρ : List (Option (Nat × Nat))) (cs : List V) (us : Array Value) : Prop := us.size = cs.length ∧ ∀ (j : Nat) v u, cs[j]? = some v → us[j]? = some u → VRel I ρ v u
/-- Parts, one after the other, into cells. -/
inductive BuildR (place : Nat → Option (Nat × Nat)) : List V → List (Nat × V) → List V → Prop
  | nil {cs} : BuildR place cs [] cs
  | cons {cs k v l ds o n} (hp : place k = some (o, n)) (hs : v.cells.length = n) (hok : v.ok = true) (hl : o + n ≤ cs.length) (h : BuildR place (cs.take o ++ v.cells ++ cs.drop (o + n)) l ds) : BuildR place cs ((k, v) :: l) ds
theorem foldl_set (off : Nat) : ∀ (l : List Value) (s : Nat) (cs : Array Value), off + s + l.length ≤ cs.size →
    ((l.zipIdx s).foldl (fun cs (p : Value × Nat) => cs.setIfInBounds (off + p.2) p.1) cs).toList = cs.toList.take (off + s) ++ l ++ cs.toList.drop (off + s + l.length)
  | [], s, cs, _ => by simp
  | u :: l, s, cs, h => by
    simp only [List.zipIdx_cons, List.foldl_cons]
    simp only [List.length_cons] at h
    rw [foldl_set off l (s + 1) _ (by simp; omega)]
    apply List.ext_getElem?
    intro k
    have e1 : off + (s + 1) + l.length = off + s + (l.length + 1) := by omega
    rw [show cs.toList.take (off + s) ++ u :: l ++ cs.toList.drop (off + s + (u :: l).length) = cs.toList.take (off + s) ++ (u :: l) ++ cs.toList.drop (off + s + (u :: l).length) from rfl,
      splice_get (by simp; omega), splice_get (by simp; omega)]
    simp only [List.length_cons, Array.toList_setIfInBounds, List.getElem?_set]
    by_cases h1 : k = off + s
    · subst h1
      rw [if_neg (by omega), if_pos rfl, if_pos (by simp; omega), if_pos (by omega)]
      simp
    · by_cases h2 : off + s ≤ k ∧ k < off + s + (l.length + 1)
      · rw [if_pos (by omega), if_pos h2, show k - (off + s) = (k - (off + (s + 1))) + 1 by omega]
        simp
      · rw [if_neg (by omega), if_neg h2, if_neg (by omega)]
theorem fill_rel {place : Nat → Option (Nat × Nat)} : ∀ {vs : List (Nat × V)} {ps : List (Nat × Value)} {cs ds : List V} {us : Array Value}, BuildR place cs vs ds → ps.length = vs.length → (∀ (j : Nat) x p, vs[j]? = some x → ps[j]? = some p → p.1 = x.1 ∧ VRel I ρ x.2 p.2) → CellsRel I ρ cs us →
    ∃ out, Instr.fill place us ps = some out ∧ CellsRel I ρ ds out
  | [], ps, cs, ds, us, hb, hl, _, hc => by
    cases hb
    have : ps = [] := List.eq_nil_of_length_eq_zero (by simpa using hl)
    subst this
    exact ⟨us, rfl, hc⟩
  | (k, v) :: vs, ps, cs, ds, us, .cons hp hs hok hlt hb, hl, hr, hc => by
    cases ps with
    | nil => simp at hl
    | cons p ps =>
      obtain ⟨k', u⟩ := p
      obtain ⟨e1, e2⟩ := hr 0 (k, v) (k', u) rfl rfl
      simp only at e1 e2
      subst e1
      rename_i o n
      obtain ⟨c1, c2⟩ := e2.cells (V.ok_ne hok)
      have hus := hc.1
      have key : CellsRel I ρ (cs.take o ++ v.cells ++ cs.drop (o + n)) (u.cells.zipIdx.foldl (fun cs (p : Value × Nat) => cs.setIfInBounds (o + p.2) p.1) us) := by
        have e3 : (u.cells.zipIdx.foldl (fun cs (p : Value × Nat) => cs.setIfInBounds (o + p.2) p.1) us).toList = us.toList.take o ++ u.cells.toList ++ us.toList.drop (o + u.cells.toList.length) := by
          rw [← Array.foldl_toList, Array.toList_zipIdx]
          have := foldl_set o u.cells.toList 0 us (by simp; omega)
          simpa using this
        have e4 : (u.cells.zipIdx.foldl (fun cs (p : Value × Nat) => cs.setIfInBounds (o + p.2) p.1) us).size = us.size := by
          rw [← Array.length_toList, e3]; simp; omega
        refine ⟨by rw [e4, hus]; simp; omega, fun j x q hx hq => ?_⟩
        rw [← Array.getElem?_toList, e3, splice_get (by simp; omega)] at hq
        subst hs
        rw [splice_get2 (by omega)] at hx
        by_cases h1 : o ≤ j ∧ j < o + v.cells.length
        · rw [if_pos h1] at hx
          rw [if_pos (by simp [c1]; exact h1)] at hq
          exact c2 _ x q hx (by simpa using hq)
        · rw [if_neg h1] at hx
          rw [if_neg (by simp [c1]; omega)] at hq
          exact hc.2 j x q hx (by simpa using hq)
      obtain ⟨out, h1, h2⟩ := fill_rel hb (by simpa using hl) (fun j x p hj hp => hr (j + 1) x p (by simpa using hj) (by simpa using hp)) key
      refine ⟨out, ?_, h2⟩
      simp only [Instr.fill, hp]
      rw [if_neg (by simp [c1, hs, hus]; omega)]
      exact h1
where
  splice_get2 {cs us : List V} {off : Nat} (h : off + us.length ≤ cs.length) {k : Nat} : (cs.take off ++ us ++ cs.drop (off + us.length))[k]? = if off ≤ k ∧ k < off + us.length then us[k - off]? else cs[k]? := by
    by_cases h1 : k < off
    · rw [if_neg (by omega), List.append_assoc, List.getElem?_append_left (by simp; omega), List.getElem?_take, if_pos h1]
    · by_cases h2 : k < off + us.length
      · rw [if_pos (by omega), List.getElem?_append_left (by simp; omega), List.getElem?_append_right (by simp; omega)]
        congr 1
        simp; omega
      · rw [if_neg (by omega), List.getElem?_append_right (by simp; omega), List.getElem?_drop]
        congr 1
        simp; omega
end
section
variable {P : Program} {r : Option Nat} {m nt : Nat} {Q : Post} {env : Env} {H : Heap} {ops : Array Oper} {l : List Stp} {ty : TypeId} {pos : String} {after : Array Edge} {T E : TypeId} {d de : TyD} {i dst : Nat} {keep : Bool}
theorem evals2 {I : Imm} {ρ : List (Option (Nat × Nat))} {a : Act} (he : EnvOk I ρ nt env a) : ∀ {l : List (Nat × Operand)} {vs : List (Nat × V)}, l.mapM (fun p => (eo env p.2).map fun v => (p.1, v)) = some vs →
    (l.map fun p => (p.1, a.eval p.2)).length = vs.length ∧ ∀ (j : Nat) x p, vs[j]? = some x → (l.map fun p => (p.1, a.eval p.2))[j]? = some p → p.1 = x.1 ∧ VRel I ρ x.2 p.2
  | [], vs, h => by simp at h; subst h; exact ⟨rfl, fun j v u h => by simp at h⟩
  | x :: l, vs, h => by
    simp only [List.mapM_cons, Option.pure_def, Option.bind_eq_bind, Option.bind_eq_some_iff] at h
    obtain ⟨v0, hv0, vs', hvs, h'⟩ := h
    cases h'
    simp only [Option.map_eq_some_iff] at hv0
    obtain ⟨v1, hv1, rfl⟩ := hv0
    obtain ⟨e1, e2⟩ := evals2 he hvs
    refine ⟨by simpa using e1, fun j v u hj hu => ?_⟩
    cases j with
    | zero => simp at hj hu; subst hj hu; exact ⟨rfl, eo_rel he hv1⟩
    | succ j => exact e2 j v u (by simpa using hj) (by simpa using hu)
/-- The places of a struct's fields. -/
def SizesAre (P : Program) : List (TypeId × Nat) → List Nat → Prop
  | [], [] => True
  | (E, _) :: fs, n :: ns => (∃ d, TyIs P E d ∧ d.size = n) ∧ SizesAre P fs ns
  | _, _ => False
theorem places_run {w : World} : ∀ {fields : List Field} {fs : List (TypeId × Nat)} {ns : List Nat}, fields.map (fun f => (f.type, f.offset)) = fs → SizesAre P fs ns →
    (fields.mapM (fun (f : Field) => (do pure (f.offset, ← sizeOf f.type) : Sem (Nat × Nat)))).run P w = .ok (List.zip (fs.map (·.2)) ns) w
  | [], _, ns, rfl, h => by cases ns <;> simp_all [SizesAre]
  | f :: fields, _, ns, rfl, h => by
    cases ns with
    | nil => exact h.elim
    | cons n ns =>
      obtain ⟨⟨d, h1, h2⟩, h3⟩ := h
      have ih := places_run (w := w) (fields := fields) rfl h3
      simp only [List.mapM_cons, Sem.run_bind, h1.sizeOf, h2, Result.andThen_ok, Sem.run_pure, ih]
      simp
theorem qs_build_struct {dst : Option Tmp} {guard : Option (Nat × Bool)} {parts : Array (Nat × Operand)} {fs : List (TypeId × Nat)} {ns : List Nat} {vs : List (Nat × V)} {ds : List V} (ht : TyIs P T d) (hk : d.tk = .struct fs) (hs : SizesAre P fs ns) (hz : (constV d.zero).ok = true)
    (hv : parts.toList.mapM (fun p => (eo env p.2).map fun v => (p.1, v)) = some vs) (hb : BuildR (fun k => (List.zip (fs.map (·.2)) ns)[k]?) (constV d.zero).cells vs ds) :
    QS P nt env H ⟨dst, .build T parts, ty, pos, after, guard⟩ (.agg ds) := .mk fun X I ρ a w he hw => by
  obtain ⟨t, hu, hk'⟩ := ht.desc
  rw [hk] at hk'
  cases t <;> simp [TK.of] at hk'
  rename_i fields
  obtain ⟨e1, e2⟩ := evals2 he hv
  obtain ⟨out, h1, h2⟩ := fill_rel (I := I) (ρ := ρ) hb e1 e2 ((constV_rel I ρ d.zero).cells (V.ok_ne hz))
  refine ⟨.agg out, .agg h2.1 h2.2, fun w' _ => ?_⟩
  have hp := places_run (w := w') (P := P) (fields := fields.toList) hk' hs
  have hp' : (fields.mapM (fun (f : Field) => (do pure (f.offset, ← sizeOf f.type) : Sem (Nat × Nat)))).run P w' = .ok (List.zip (fs.map (·.2)) ns).toArray w' := by
    rw [← Array.toArray_toList (xs := fields), List.mapM_toArray, Sem.run_map, hp]
    rfl
  have h1' : Instr.fill (fun x => (List.zip (fs.map (·.2)) ns).toArray[x]?) d.zero.cells (parts.map fun p => (p.1, a.eval p.2)).toList = some out := by
    rw [← h1]
    simp
  simp only [execOp, Instr.build, Sem.run_bind, ht.zeroV, Result.andThen_ok, run_underlying hu, hp']
  rw [h1']
  rfl
/-- A slice that is written out. -/
theorem ls_buildSlice {dst : Option Tmp} {guard : Option (Nat × Bool)} {n : Nat} {parts : Array (Nat × Operand)} {vs : List (Nat × V)} {ds : List V} {f : Nat → V} (ht : TyIs P T d) (hk : d.tk = .slice E) (he : TyIs P E de) (hz : (constV de.zero).ok = true) (hzs : de.zero.cells.size = de.size) (hn : n * de.size ≤ 16777216)
    (hv : parts.toList.mapM (fun p => (eo env p.2).map fun v => (p.1, v)) = some vs) (hb : BuildR (fun k => some (k * de.size, de.size)) ((List.range (n * de.size)).map fun j => ((constV de.zero).cells)[j % de.size]!) vs ds) (hf : ∀ i, i < n → (f i).cells.length = de.size ∧ ∀ (j : Nat) v, (f i).cells[j]? = some v → ds[i * de.size + j]? = some v) (hm : n ≤ maxLen) :
    LS P r m nt true env H ⟨dst, .buildSlice T n parts, ty, pos, after, guard⟩ (fun u H' => u = .sl de.size H.length 0 n ∧ H' = H ++ [.arr de.size n f]) NoP := .mk fun X I ρ a w next Qx hX hs hk' hp => by
  obtain ⟨hE, hw, hdf⟩ := hs
  obtain ⟨e1, e2⟩ := evals2 hE hv
  have hzr := (constV_rel I ρ de.zero).cells (V.ok_ne hz)
  have hc0 : CellsRel I ρ ((List.range (n * de.size)).map fun j => ((constV de.zero).cells)[j % de.size]!) ((Array.range (n * de.size)).map (de.zero.cells[· % de.zero.cells.size]!)) := by
    refine ⟨by simp, fun j v u hv hu => ?_⟩
    have hj : j < n * de.size := by have := (List.getElem?_eq_some_iff.1 hv).1; simpa using this
    have hpos : 0 < de.size := Nat.pos_of_ne_zero fun e => by rw [e] at hj; simp at hj
    have hlt := Nat.mod_lt j hpos
    have hl2 : j % de.size < (constV de.zero).cells.length := by rw [← hzr.1, hzs]; exact hlt
    rw [List.getElem?_map, List.getElem?_range hj] at hv
    rw [Array.getElem?_map, Array.getElem?_range, if_pos hj] at hu
    have h3 : j % de.size < de.zero.cells.size := by omega
    simp only [Option.map_some, Option.some.injEq, hzs] at hv hu
    rw [getElem!_pos (constV de.zero).cells (j % de.size) hl2] at hv
    rw [getElem!_pos de.zero.cells (j % de.size) h3] at hu
    subst hv hu
    exact hzr.2 _ _ _ (List.getElem?_eq_getElem hl2) (Array.getElem?_eq_getElem h3)
  obtain ⟨out, h1, h2⟩ := fill_rel (I := I) (ρ := ρ) hb e1 e2 hc0
  have h1' : Instr.fill (fun i => some (i * de.size, de.size)) ((Array.range (n * de.size)).map (de.zero.cells[· % de.zero.cells.size]!)) (parts.map fun p => (p.1, a.eval p.2)).toList = some out := by
    rw [← h1]; simp
  have hdl : ∀ {place : Nat → Option (Nat × Nat)} {cs : List V} {vs : List (Nat × V)} {ds : List V}, BuildR place cs vs ds → ds.length = cs.length := fun h => by
    induction h with
    | nil => rfl
    | cons hp hs hok hl h ih => rw [ih]; simp; omega
  have hsz : out.size = n * de.size := by rw [h2.1, hdl hb]; simp
  have hrun : (execOp a.eval ⟨dst, .buildSlice T n parts, ty, pos, after, guard⟩).run P w = .ok (.value (.slice (some ⟨w.heap.size, 0, none⟩) n n)) { w with heap := w.heap.push (.cells out E) } := by
    simp only [execOp, Instr.buildSlice, Sem.run_bind, run_underlying (ht.slice hk), Result.andThen_ok, he.sizeOf]
    rw [if_neg (by omega)]
    by_cases h0 : n * de.size = 0
    · have hz0 : (Array.range (n * de.size)).map (fun x => (#[] : Array Value)[x % (#[] : Array Value).size]!) = (Array.range (n * de.size)).map (de.zero.cells[· % de.zero.cells.size]!) := by rw [h0]; simp [Array.range]
      rw [if_pos h0]
      simp only [Sem.run_pure, Result.andThen_ok, Sem.run_bind]
      rw [hz0, h1']
      simp [newRow]
    · rw [if_neg h0]
      simp only [Sem.run_bind, he.zeroV, Sem.run_pure, Result.andThen_ok]
      rw [h1']
      simp [newRow]
  refine wpIn_of_run (by simp) hrun ?_
  have ok := hw.alloc (w' := { w with heap := w.heap.push (.cells out E) }) (cs := out) (ty := E) (sz := de.size) (n := n) (f := f) (by omega) (fun i hi => (hf i hi).1) (fun i j v hi hj => by
    have h3 := (hf i hi).2 j v hj
    have h4 : i * de.size + j < out.size := by rw [h2.1]; exact (List.getElem?_eq_some_iff.1 h3).1
    exact ⟨out[i * de.size + j], by simp [h4], h2.2 _ _ _ h3 (by simp [h4])⟩) rfl rfl rfl rfl
  rw [hsz] at ok
  refine hk' I _ _ _ _ _ ⟨rfl, rfl⟩ (Imm.le_refl _) (pre_append _) ok ?_ (fun _ => keeps_alloc hw fun b hb => by simp [Array.getElem?_push, show b ≠ w.heap.size by omega])
  have := VRel.sl (I := I) (ρ := ρ ++ [some (w.heap.size, n * de.size)]) (sz := de.size) (b := H.length) (i := 0) (n := n) (cb := w.heap.size) (z := n * de.size) (c := n) (by rw [← hw.len]; simp) (Nat.le_refl _) hm (by simp)
  simpa using this
theorem ar_buildSlice {n : Nat} {parts : Array (Nat × Operand)} {vs : List (Nat × V)} {ds : List V} (f : Nat → V) (ht : TyIs P T d) (hk : d.tk = .slice E) (he : TyIs P E de) (hz : (constV de.zero).ok = true) (hzs : de.zero.cells.size = de.size) (hn : n * de.size ≤ 16777216)
    (hv : parts.toList.mapM (fun p => (eo env p.2).map fun v => (p.1, v)) = some vs) (hb : BuildR (fun k => some (k * de.size, de.size)) ((List.range (n * de.size)).map fun j => ((constV de.zero).cells)[j % de.size]!) vs ds) (hf : ∀ i, i < n → (f i).cells.length = de.size ∧ ∀ (j : Nat) v, (f i).cells[j]? = some v → ds[i * de.size + j]? = some v) (hm : n ≤ maxLen) (hd : dst < nt)
    (h : AR P r m nt ops Q l ((dst, .sl de.size H.length 0 n) :: env) (H ++ [.arr de.size n f])) : AR P r m nt ops Q (.l i ⟨some dst, .buildSlice T n parts, ty, pos, after, none⟩ keep :: l) env H :=
  ar_l (ls_buildSlice ht hk he hz hzs hn hv hb hf hm).loose hd (fun v H' ⟨a, b⟩ => by subst a; subst b; exact h) (fun _ _ h => h.elim)
theorem one_cells {v : V} {n : Nat} {cs : List V} (hs : v.cells.length = n) (hc : cs.length = 1 * n) : cs.take (0 * n) ++ v.cells ++ cs.drop (0 * n + n) = v.cells := by
  rw [Nat.zero_mul, Nat.zero_add, List.drop_of_length_le (by omega)]
  simp
/-- A slice of one element, written out (as append makes one). -/
theorem ar_build1 {x : Operand} {v : V} (ht : TyIs P T d) (hk : d.tk = .slice E) (he : TyIs P E de) (hx : eo env x = some v) (hz : (constV de.zero).ok = true) (hzs : de.zero.cells.size = de.size) (hn : 1 * de.size ≤ 16777216) (hs : v.cells.length = de.size) (hok : v.ok = true) (hd : dst < nt)
    (h : AR P r m nt ops Q l ((dst, .sl de.size H.length 0 1) :: env) (H ++ [.arr de.size 1 (fun _ => v)])) : AR P r m nt ops Q (.l i ⟨some dst, .buildSlice T 1 #[(0, x)], ty, pos, after, none⟩ keep :: l) env H :=
  ar_buildSlice (vs := [(0, v)]) (ds := v.cells) (fun _ => v) ht hk he hz hzs hn (by simp [hx])
    (.cons rfl hs hok (by simp) (by rw [one_cells hs (by simp)]; exact .nil)) (fun i hi => by
      obtain rfl : i = 0 := by omega
      exact ⟨hs, fun j v hj => by simpa using hj⟩) (by unfold maxLen; omega) hd h
theorem ls_build0 {dst : Option Tmp} {guard : Option (Nat × Bool)} (ht : TyIs P T d) (hk : d.tk = .slice E) (he : TyIs P E de) :
    LS P r m nt true env H ⟨dst, .buildSlice T 0 #[], ty, pos, after, guard⟩ (fun u H' => u = .emp ∧ H' = H) NoP := .mk fun X I ρ a w next Qx hX hs hk' hp => by
  have hrun : (execOp a.eval ⟨dst, .buildSlice T 0 #[], ty, pos, after, guard⟩).run P w = .ok (.value (.slice (some ⟨w.heap.size, 0, none⟩) 0 0)) { w with heap := w.heap.push (.cells #[] E) } := by
    simp only [execOp, Instr.buildSlice, Sem.run_bind, run_underlying (ht.slice hk), Result.andThen_ok, he.sizeOf]
    rw [if_neg (by omega), if_pos (by omega)]
    have e0 : (Array.range (0 * de.size)).map (fun x => (#[] : Array Value)[x % (#[] : Array Value).size]!) = #[] := by simp
    simp only [Sem.run_pure, Result.andThen_ok, Sem.run_bind]
    rw [e0]
    simp [Instr.fill, newRow]
  have hb : Below w.heap.size w { w with heap := w.heap.push (.cells #[] E) } := ⟨rfl, rfl, rfl, by simp, fun k hk => by simp [Array.getElem?_push, show k ≠ w.heap.size by omega]⟩
  have hI : ∀ b o, I b = some o → (w.heap.push (.cells #[] E))[b]? = some o := fun b o h => by
    have := hs.2.1.imm b o h
    rw [Array.getElem?_push, if_neg (by have := (Array.getElem?_eq_some_iff.1 this).1; omega)]
    exact this
  refine wpIn_of_run (by simp) hrun ?_
  exact hk' I ρ H .emp _ _ ⟨rfl, rfl⟩ (Imm.le_refl _) (Pre.refl _) (hs.2.1.pure (Imm.le_refl _) hI (fun _ h => .inl h) hb) (.emp _) (fun _ => keeps_pure hs.2.1 (Imm.le_refl _) hb)
theorem ar_build0 (ht : TyIs P T d) (hk : d.tk = .slice E) (he : TyIs P E de) (hd : dst < nt) (h : AR P r m nt ops Q l ((dst, .emp) :: env) H) : AR P r m nt ops Q (.l i ⟨some dst, .buildSlice T 0 #[], ty, pos, after, none⟩ keep :: l) env H :=
  ar_l (ls_build0 ht hk he).loose hd (fun v H' ⟨a, b⟩ => by subst a; subst b; exact h) (fun _ _ h => h.elim)
/-! ### Computed -/
def buildL (place : Nat → Option (Nat × Nat)) : List V → List (Nat × V) → Option (List V)
  | cs, [] => some cs
  | cs, (k, v) :: l => match place k with
    | some (o, n) => bif Nat.beq v.cells.length n && v.ok && Nat.ble (o + n) cs.length then buildL place (cs.take o ++ v.cells ++ cs.drop (o + n)) l else none
    | none => none
theorem build {place : Nat → Option (Nat × Nat)} : ∀ {cs : List V} {vs : List (Nat × V)} {ds : List V}, buildL place cs vs = some ds → BuildR place cs vs ds
  | cs, [], ds, h => by cases h; exact .nil
  | cs, (k, v) :: l, ds, h => by
    simp only [buildL] at h
    cases hp : place k with
    | none => rw [hp] at h; cases h
    | some q =>
      obtain ⟨o, n⟩ := q
      rw [hp] at h
      simp only at h
      cases hc : (Nat.beq v.cells.length n && v.ok && Nat.ble (o + n) cs.length)
      · rw [hc] at h; cases h
      · rw [hc] at h
        simp only [Bool.and_eq_true] at hc
        exact .cons hp (Nat.eq_of_beq_eq_true hc.1.1) hc.1.2 (Nat.le_of_ble_eq_true hc.2) (build h)
theorem ar_buildS {parts : Array (Nat × Operand)} {fs : List (TypeId × Nat)} {ns : List Nat} {vs : List (Nat × V)} {ds0 ds : List V} (ht : TyIs P T d) (hk : d.tk = .struct fs) (hs : SizesAre P fs ns) (hz : (constV d.zero).ok = true)
    (hv : parts.toList.mapM (fun p => (eo env p.2).map fun v => (p.1, v)) = some vs) (hb : BuildR (fun k => (List.zip (fs.map (·.2)) ns)[k]?) (constV d.zero).cells vs ds0) (hd : dst < nt) (hn : ds0 = ds) (h : AR P r m nt ops Q l ((dst, .agg ds) :: env) H) : AR P r m nt ops Q (.q i ⟨some dst, .build T parts, ty, pos, after, none⟩ :: l) env H := by
  subst hn
  exact ar_q (qs_build_struct ht hk hs hz hv hb) hd h
end
end Go.Proofs.Ytccidiflnmchiaa
