/- The operations that only look. No condition. -/
import Derived.Test.YtccidiflnmchiaaAm1
namespace Go.Proofs.Ytccidiflnmchiaa
open Go.RowKit

/-- What a type is. -/
inductive TK where
  | int (k : IntKind)
  | bool
  | slice (e : TypeId)
  | array (n : Nat) (e : TypeId)
  | struct (fs : List (TypeId × Nat))
  | ptr (e : TypeId)
  | map (k e : TypeId)
  | iface (bare : Bool)
  | func
  | other
def TK.of : TypeDesc → TK
  | .int k => .int k
  | .bool => .bool
  | .slice e => .slice e
  | .array n e => .array n e
  | .struct fs => .struct (fs.toList.map fun f => (f.type, f.offset))
  | .pointer e => .ptr e
  | .map k e => .map k e
  | .interface ms => .iface ms.isEmpty
  | .func _ _ _ => .func
  | _ => .other
def TK.agg : TK → Bool
  | .array _ _ => true
  | .struct _ => true
  | _ => false
structure TyD where
  tk : TK
  size : Nat
  bytes : Nat
  zero : Value
structure TyIs (P : Program) (T : TypeId) (d : TyD) : Prop where
  und : (P.underlying T).map TK.of = some d.tk
  info : (P.info? T).map (fun i => (i.size, i.bytes, i.zero)) = some (d.size, d.bytes, some d.zero)

section
variable {P : Program} {T : TypeId} {d : TyD} {w : World}
theorem TyIs.desc (h : TyIs P T d) : ∃ t, P.underlying T = some t ∧ TK.of t = d.tk := by
  have := h.und
  cases hu : P.underlying T with
  | none => rw [hu] at this; cases this
  | some t => rw [hu] at this; exact ⟨t, rfl, by simpa using this⟩
theorem TyIs.inf (h : TyIs P T d) : ∃ i, P.info? T = some i ∧ i.size = d.size ∧ i.bytes = d.bytes ∧ i.zero = some d.zero := by
  have := h.info
  cases hu : P.info? T with
  | none => rw [hu] at this; cases this
  | some i => rw [hu] at this; simp only [Option.map_some, Option.some.injEq, Prod.mk.injEq] at this; exact ⟨i, rfl, this.1, this.2.1, this.2.2⟩
theorem run_underlying {t : TypeDesc} (h : P.underlying T = some t) : (underlying T).run P w = .ok t w := by simp [underlying, h]
theorem TyIs.sizeOf (h : TyIs P T d) : (Go.sizeOf T).run P w = .ok d.size w := by
  obtain ⟨i, hi, hs, _⟩ := h.inf
  simp [Go.sizeOf, typeInfo, hi, hs]
theorem TyIs.isAgg (h : TyIs P T d) : (Go.isAgg T).run P w = .ok d.tk.agg w := by
  obtain ⟨t, ht, hk⟩ := h.desc
  simp only [Go.isAgg, Sem.run_bind, run_underlying ht, Result.andThen_ok]
  rw [← hk]
  cases t <;> rfl
theorem TyIs.zeroV (h : TyIs P T d) : (zeroValue T).run P w = .ok d.zero w := by
  obtain ⟨i, hi, _, _, hz⟩ := h.inf
  simp [zeroValue, typeInfo, hi, hz]
theorem TyIs.slice {e : TypeId} (h : TyIs P T d) (hk : d.tk = .slice e) : P.underlying T = some (.slice e) := by
  obtain ⟨t, ht, hk'⟩ := h.desc
  rw [hk] at hk'
  cases t <;> simp [TK.of] at hk'
  rw [ht, hk']
theorem TyIs.arr {n : Nat} {e : TypeId} (h : TyIs P T d) (hk : d.tk = .array n e) : P.underlying T = some (.array n e) := by
  obtain ⟨t, ht, hk'⟩ := h.desc
  rw [hk] at hk'
  cases t <;> simp [TK.of] at hk'
  rw [ht, hk'.1, hk'.2]
theorem TyIs.map {k e : TypeId} (h : TyIs P T d) (hk : d.tk = .map k e) : P.underlying T = some (.map k e) := by
  obtain ⟨t, ht, hk'⟩ := h.desc
  rw [hk] at hk'
  cases t <;> simp [TK.of] at hk'
  rw [ht, hk'.1, hk'.2]
theorem TyIs.intk {k : IntKind} (h : TyIs P T d) (hk : d.tk = .int k) : P.underlying T = some (.int k) := by
  obtain ⟨t, ht, hk'⟩ := h.desc
  rw [hk] at hk'
  cases t <;> simp [TK.of] at hk'
  rw [ht, hk']
theorem TyIs.boolk (h : TyIs P T d) (hk : d.tk = .bool) : P.underlying T = some .bool := by
  obtain ⟨t, ht, hk'⟩ := h.desc
  rw [hk] at hk'
  cases t <;> simp [TK.of] at hk'
  exact ht
theorem TyIs.ptrk {e : TypeId} (h : TyIs P T d) (hk : d.tk = .ptr e) : P.underlying T = some (.pointer e) := by
  obtain ⟨t, ht, hk'⟩ := h.desc
  rw [hk] at hk'
  cases t <;> simp [TK.of] at hk'
  rw [ht, hk']
theorem TyIs.field {fs : List (TypeId × Nat)} {k o : Nat} {E : TypeId} (h : TyIs P T d) (hk : d.tk = .struct fs) (hf : fs[k]? = some (E, o)) :
    ∃ (fields : Array Field) (f : Field), P.underlying T = some (.struct fields) ∧ fields[k]? = some f ∧ f.type = E ∧ f.offset = o := by
  obtain ⟨t, ht, hk'⟩ := h.desc
  rw [hk] at hk'
  cases t <;> simp [TK.of] at hk'
  rename_i fields
  subst hk'
  simp only [List.getElem?_map, Array.getElem?_toList] at hf
  cases hg : fields[k]? with
  | none => rw [hg] at hf; cases hf
  | some f =>
    rw [hg] at hf
    simp only [Option.map_some, Option.some.injEq, Prod.mk.injEq] at hf
    exact ⟨fields, f, ht, hg, hf.1, hf.2⟩

/-! ### Loading cells -/
theorem loadCellsFrom_run {a : Addr} : ∀ (n i : Nat) (acc : Array Value) (us : Nat → Value), (∀ j, j < n → w.cell? (a.add (i + j)) = some (us j)) →
    (loadCellsFrom a i n acc).run P w = .ok (acc ++ ((List.range n).map us).toArray) w
  | 0, i, acc, us, _ => by simp [loadCellsFrom]
  | n + 1, i, acc, us, h => by
    have h0 := h 0 (by omega)
    have ih := loadCellsFrom_run n (i + 1) (acc.push (us 0)) (fun j => us (j + 1)) (fun j hj => by have := h (j + 1) (by omega); rwa [show i + 1 + j = i + (j + 1) by omega])
    simp only [loadCellsFrom, Sem.run_bind, run_load]
    rw [Nat.add_zero] at h0
    simp only [h0, Result.andThen_ok, ih]
    congr 1
    rw [List.range_succ_eq_map]
    have e : ∀ (l : List Value), acc.push (us 0) ++ l.toArray = acc ++ (us 0 :: l).toArray := fun l => by
      apply Array.ext_getElem?
      intro k
      simp only [Array.getElem?_append, Array.size_push, Array.getElem?_push]
      by_cases h1 : k < acc.size
      · simp [h1, show k < acc.size + 1 by omega, show k ≠ acc.size by omega]
      · by_cases h2 : k = acc.size
        · subst h2; simp
        · rw [if_neg (by omega), if_neg (by omega), show k - acc.size = (k - (acc.size + 1)) + 1 by omega]; simp
    simp only [List.map_cons, List.map_map]
    rw [e]
    rfl
theorem loadCells_run {a : Addr} {n : Nat} {us : Nat → Value} (h : ∀ j, j < n → w.cell? (a.add j) = some (us j)) : (loadCells a n).run P w = .ok ((List.range n).map us).toArray w := by
  unfold loadCells
  rw [loadCellsFrom_run n 0 #[] us (fun j hj => by rw [Nat.zero_add]; exact h j hj)]
  simp

/-- The value that lies in some cells. -/
def partV (agg : Bool) (cs : List V) (off size : Nat) : Option V :=
  match agg with
  | true => bif Nat.ble (off + size) cs.length then some (.agg ((cs.drop off).take size)) else none
  | false => cs[off]?

/-- What is loaded. -/
theorem loadAt_run {I : Imm} {ρ : List (Option (Nat × Nat))} (h : TyIs P T d) {cs : List V} {us : Nat → Value} (hr : ∀ (j : Nat) x, cs[j]? = some x → VRel I ρ x (us j)) {off : Nat} {v : V} (hv : partV d.tk.agg cs off d.size = some v) (b o : Nat) :
    ∃ u, VRel I ρ v u ∧ ∀ w : World, (∀ j, j < cs.length → w.cell? ⟨b, o + j, none⟩ = some (us j)) → (Instr.loadAt T (.pointer (some ⟨b, o + off, none⟩))).run P w = .ok u w := by
  cases ha : d.tk.agg
  · rw [ha] at hv
    have hv' : cs[off]? = some v := hv
    refine ⟨us off, hr _ _ hv', fun w hw => ?_⟩
    simp only [Instr.loadAt, Instr.sureAddr, loadVar, Sem.run_bind, Sem.run_pure, Result.andThen_ok, h.isAgg, ha, Bool.false_eq_true, if_false, run_load]
    rw [hw off (List.getElem?_eq_some_iff.1 hv').1]
  · rw [ha] at hv
    simp only [partV] at hv
    cases hb : Nat.ble (off + d.size) cs.length
    · rw [hb] at hv; cases hv
    · rw [hb] at hv
      have hle := Nat.le_of_ble_eq_true hb
      simp only [cond_true, Option.some.injEq] at hv
      subst hv
      refine ⟨.agg ((List.range d.size).map fun j => us (off + j)).toArray, .agg (by simp; omega) fun j x u hx hu => ?_, fun w hw => ?_⟩
      · simp only [List.getElem?_take, List.getElem?_drop] at hx
        by_cases hj : j < d.size
        · rw [if_pos hj] at hx
          have := hr _ _ hx
          simp [hj] at hu
          rwa [← hu]
        · rw [if_neg hj] at hx; cases hx
      · simp only [Instr.loadAt, Instr.sureAddr, loadVar, Sem.run_bind, Sem.run_pure, Result.andThen_ok, h.isAgg, ha, if_true, h.sizeOf]
        rw [loadCells_run (us := fun j => us (off + j)) fun j hj => by
          have := hw (off + j) (by omega)
          by_cases h0 : j = 0
          · subst h0; simpa [Addr.add] using this
          · simpa [Addr.add, Nat.add_assoc, h0] using this]
        simp

end

section
variable {P : Program} {nt : Nat} {env : Env} {H : Heap} {dst : Option Tmp} {ty : TypeId} {pos : String} {after : Array Edge} {guard : Option (Nat × Bool)} {x y c : Operand} {T : TypeId} {d : TyD} {v : V}
theorem qs_move (h : eo env x = some v) : QS P nt env H ⟨dst, .move x, ty, pos, after, guard⟩ v := .mk
  fun _ _ _ a _ he _ => ⟨a.eval x, eo_rel he h, fun _ _ => rfl⟩
theorem qs_assign (h : eo env x = some v) : QS P nt env H ⟨dst, .assign x, ty, pos, after, guard⟩ v := .mk
  fun _ _ _ a _ he _ => ⟨a.eval x, eo_rel he h, fun _ _ => rfl⟩
theorem qs_pick_t (hc : eo env c = some (.s (.bool true))) (h : eo env x = some v) : QS P nt env H ⟨dst, .pick c x y, ty, pos, after, guard⟩ v := .mk
  fun _ _ _ a _ he _ => by
    have h1 := eo_rel he hc
    have h2 := eo_rel he h
    cases h1' : a.eval c <;> rw [h1'] at h1 <;> cases h1
    exact ⟨_, h2, fun w' _ => by simp [execOp, h1', asBool]⟩
theorem qs_pick_f (hc : eo env c = some (.s (.bool false))) (h : eo env y = some v) : QS P nt env H ⟨dst, .pick c x y, ty, pos, after, guard⟩ v := .mk
  fun _ _ _ a _ he _ => by
    have h1 := eo_rel he hc
    have h2 := eo_rel he h
    cases h1' : a.eval c <;> rw [h1'] at h1 <;> cases h1
    exact ⟨_, h2, fun w' _ => by simp [execOp, h1', asBool]⟩
theorem cell_of {w : World} {b : Nat} {cs : Array Value} {ty : TypeId} {fz : Nat × Nat} (h : w.heap[b]? = some (.cells cs ty fz)) (o : Nat) : w.cell? ⟨b, o, none⟩ = cs[o]? := by
  simp [World.cell?, h]
theorem qs_load_ref {r : V} {off : Nat} (ht : TyIs P T d) (hx : eo env x = some (.ref r off)) (hv : partV d.tk.agg r.cells off d.size = some v) : QS P nt env H ⟨dst, .load T x, ty, pos, after, guard⟩ v := .mk
  fun _ I ρ a w he hw => by
    have h1 := eo_rel he hx
    cases h1' : a.eval x <;> rw [h1'] at h1 <;> cases h1
    rename_i b o us hl hr
    obtain ⟨u, hu, hrun⟩ := loadAt_run (I := I) (ρ := ρ) ht (fun j x hj => (hr j x hj).closed) hv b o
    refine ⟨u, hu, fun w' hk => ?_⟩
    obtain ⟨cs, ty, fz, hI, hc⟩ := hl
    have := hrun w' (fun j hj => by rw [cell_of (hk.1 _ _ hI)]; exact hc j hj)
    simp [execOp, h1', this]
theorem qs_load_ptr {sz b i off n : Nat} {f : Nat → V} (ht : TyIs P T d) (hx : eo env x = some (.ptr sz b i off)) (hH : H[b]? = some (.arr sz n f)) (hi : i < n) (hv : partV d.tk.agg (f i).cells off d.size = some v) :
    QS P nt env H ⟨dst, .load T x, ty, pos, after, guard⟩ v := .mk
  fun _ I ρ a w he hw => by
    have h1 := eo_rel he hx
    obtain ⟨cb, z, h1', hb⟩ := h1.ptr_inv
    obtain ⟨cs, ty, hc, hz, hn, hr⟩ := hw.arr _ _ _ _ _ _ hH hb
    have hs := hw.size _ _ _ _ hH i hi
    have hlt : i * sz + sz ≤ n * sz := by rw [← Nat.succ_mul]; exact Nat.mul_le_mul_right _ hi
    obtain ⟨u, hu, hrun⟩ := loadAt_run (I := I) (ρ := ρ) (us := fun j => cs.getD (i * sz + j) undef) ht (fun j x hj => by
      obtain ⟨u, h2, h3⟩ := hr i j x hi hj
      rw [show cs.getD (i * sz + j) undef = u by simp [h2]]
      exact h3) hv cb (i * sz)
    refine ⟨u, hu, fun w' hk => ?_⟩
    have := hrun w' (fun j hj => by
      rw [hk.2.1 _ _ _ _ _ _ hH hb _ (by rw [hs] at hj; omega), cell_of hc]
      have : i * sz + j < cs.size := by rw [hs] at hj; omega
      simp [this])
    simp [execOp, h1', this]

theorem addr_add (b o k : Nat) : (⟨b, o, none⟩ : Addr).add k = ⟨b, o + k, none⟩ := by
  unfold Addr.add
  split <;> simp_all
theorem fieldPlace_run {f : Field} {w : World} {b o : Nat} {d : TyD} (h : TyIs P f.type d) (hs : d.size ≠ 0) : (fieldPlace ⟨b, o, none⟩ f).run P w = .ok ⟨b, o + f.offset, none⟩ w := by
  simp [fieldPlace, h.sizeOf, hs, addr_add]
theorem qs_faddr_ref {r : V} {off k o : Nat} {fs : List (TypeId × Nat)} {E : TypeId} {de : TyD} (ht : TyIs P T d) (hk : d.tk = .struct fs) (hf : fs[k]? = some (E, o)) (he : TyIs P E de) (hz : de.size ≠ 0) (hx : eo env x = some (.ref r off)) :
    QS P nt env H ⟨dst, .fieldAddr T x k, ty, pos, after, guard⟩ (.ref r (off + o)) := .mk
  fun _ I ρ a w h hw => by
    have h1 := eo_rel h hx
    cases h1' : a.eval x <;> rw [h1'] at h1 <;> cases h1
    rename_i b o' us hl hr
    obtain ⟨fields, f, hu, hg, rfl, rfl⟩ := ht.field hk hf
    refine ⟨.pointer (some ⟨b, o' + (off + f.offset), none⟩), .ref hl hr, fun w' _ => ?_⟩
    simp [execOp, h1', Instr.fieldAt, run_underlying hu, hg, Instr.sureAddr, fieldPlace_run he hz, Nat.add_assoc]
theorem qs_faddr_ptr {sz b i off k o : Nat} {fs : List (TypeId × Nat)} {E : TypeId} {de : TyD} (ht : TyIs P T d) (hk : d.tk = .struct fs) (hf : fs[k]? = some (E, o)) (he : TyIs P E de) (hz : de.size ≠ 0) (hx : eo env x = some (.ptr sz b i off)) :
    QS P nt env H ⟨dst, .fieldAddr T x k, ty, pos, after, guard⟩ (.ptr sz b i (off + o)) := .mk
  fun _ I ρ a w h hw => by
    have h1 := eo_rel h hx
    obtain ⟨cb, z, h1', hb⟩ := h1.ptr_inv
    obtain ⟨fields, f, hu, hg, rfl, rfl⟩ := ht.field hk hf
    refine ⟨.pointer (some ⟨cb, i * sz + (off + f.offset), none⟩), .ptr hb, fun w' _ => ?_⟩
    simp [execOp, h1', Instr.fieldAt, run_underlying hu, hg, Instr.sureAddr, fieldPlace_run he hz, Nat.add_assoc]

theorem part_run {I : Imm} {ρ : List (Option (Nat × Nat))} {cs : List V} {us : Array Value} (ht : TyIs P T d) (hs : us.size = cs.length) (hr : ∀ (j : Nat) x u, cs[j]? = some x → us[j]? = some u → VRel I ρ x u) {off : Nat} (hv : partV d.tk.agg cs off d.size = some v) :
    ∃ u, VRel I ρ v u ∧ ∀ w : World, (part T us off).run P w = .ok u w := by
  cases ha : d.tk.agg
  · rw [ha] at hv
    have hv' : cs[off]? = some v := hv
    have hlt : off < us.size := by rw [hs]; exact (List.getElem?_eq_some_iff.1 hv').1
    refine ⟨us[off], hr _ _ _ hv' (by simp [hlt]), fun w => ?_⟩
    simp [part, ht.isAgg, ha, hlt]
  · rw [ha] at hv
    simp only [partV] at hv
    cases hb : Nat.ble (off + d.size) cs.length
    · rw [hb] at hv; cases hv
    · rw [hb] at hv
      have hle := Nat.le_of_ble_eq_true hb
      simp only [cond_true, Option.some.injEq] at hv
      subst hv
      refine ⟨.agg (us.extract off (off + d.size)), .agg (by simp; omega) fun j x u hx hu => ?_, fun w => ?_⟩
      · simp only [List.getElem?_take, List.getElem?_drop] at hx
        by_cases hj : j < d.size
        · rw [if_pos hj] at hx
          refine hr _ _ _ hx ?_
          rw [Array.getElem?_extract] at hu
          simpa [show j < min (off + d.size) us.size - off by omega] using hu
        · rw [if_neg hj] at hx; cases hx
      · simp [part, ht.isAgg, ha, ht.sizeOf]
theorem qs_field {cs : List V} {k o : Nat} {fs : List (TypeId × Nat)} {E : TypeId} {de : TyD} (ht : TyIs P T d) (hk : d.tk = .struct fs) (hf : fs[k]? = some (E, o)) (he : TyIs P E de) (hx : eo env x = some (.agg cs)) (hv : partV de.tk.agg cs o de.size = some v) :
    QS P nt env H ⟨dst, .field T x k, ty, pos, after, guard⟩ v := .mk
  fun _ I ρ a w h hw => by
    have h1 := eo_rel h hx
    cases h1' : a.eval x <;> rw [h1'] at h1 <;> cases h1
    rename_i us hs hr
    obtain ⟨fields, f, hu, hg, rfl, rfl⟩ := ht.field hk hf
    obtain ⟨u, h2, h3⟩ := part_run he hs hr hv
    exact ⟨u, h2, fun w' _ => by simp [execOp, h1', Instr.field, run_underlying hu, hg, asAgg, h3]⟩
theorem qs_extract {cs : List V} {k : Nat} (hx : eo env x = some (.tup cs)) (hv : cs[k]? = some v) : QS P nt env H ⟨dst, .extract x k, ty, pos, after, guard⟩ v := .mk
  fun _ I ρ a w h hw => by
    have h1 := eo_rel h hx
    cases h1' : a.eval x <;> rw [h1'] at h1 <;> cases h1
    rename_i us hs hr
    have hlt : k < us.size := by rw [hs]; exact (List.getElem?_eq_some_iff.1 hv).1
    exact ⟨us[k], hr _ _ _ hv (by simp [hlt]), fun w' _ => by simp [execOp, h1', Instr.extract, hlt]⟩
theorem qs_not {b : Bool} (hx : eo env x = some (.s (.bool b))) : QS P nt env H ⟨dst, .unOp .not T x, ty, pos, after, guard⟩ (.s (.bool !b)) := .mk
  fun _ I ρ a w h hw => by
    have h1 := eo_rel h hx
    cases h1' : a.eval x <;> rw [h1'] at h1 <;> cases h1
    exact ⟨_, .s _, fun w' _ => by simp [execOp, h1', Op.unary]⟩
theorem qs_neg {k : IntKind} {n r : Int} (hx : eo env x = some (.s (.int k n))) (hr : k.wrap (0 - n) = r) : QS P nt env H ⟨dst, .unOp .neg T x, ty, pos, after, guard⟩ (.s (.int k r)) := .mk
  fun _ I ρ a w h hw => by
    have h1 := eo_rel h hx
    cases h1' : a.eval x <;> rw [h1'] at h1 <;> cases h1
    exact ⟨_, .s _, fun w' _ => by simp [execOp, h1', Op.unary, Op.intArith, ← hr]⟩

/-- Two numbers. -/
theorem int2 {I : Imm} {ρ : List (Option (Nat × Nat))} {a : Act} {k k' : IntKind} {m n : Int} (h : EnvOk I ρ nt env a) (hx : eo env x = some (.s (.int k m))) (hy : eo env y = some (.s (.int k' n))) : a.eval x = .int k m ∧ a.eval y = .int k' n := by
  have h1 := eo_rel h hx
  have h2 := eo_rel h hy
  cases h1' : a.eval x <;> rw [h1'] at h1 <;> cases h1
  cases h2' : a.eval y <;> rw [h2'] at h2 <;> cases h2
  exact ⟨rfl, rfl⟩
variable {k : IntKind} {m n r : Int} {T' : TypeId}
theorem qs_add (hx : eo env x = some (.s (.int k m))) (hy : eo env y = some (.s (.int k n))) (hr : k.wrap (m + n) = r) : QS P nt env H ⟨dst, .binOp .add T x y T', ty, pos, after, guard⟩ (.s (.int k r)) := .mk
  fun _ I ρ a w h hw => by
    obtain ⟨h1, h2⟩ := int2 h hx hy
    exact ⟨_, .s _, fun w' _ => by simp [execOp, h1, h2, eqGuard, binOp, Op.intArith, ← hr]⟩
theorem qs_sub (hx : eo env x = some (.s (.int k m))) (hy : eo env y = some (.s (.int k n))) (hr : k.wrap (m - n) = r) : QS P nt env H ⟨dst, .binOp .sub T x y T', ty, pos, after, guard⟩ (.s (.int k r)) := .mk
  fun _ I ρ a w h hw => by
    obtain ⟨h1, h2⟩ := int2 h hx hy
    exact ⟨_, .s _, fun w' _ => by simp [execOp, h1, h2, eqGuard, binOp, Op.intArith, ← hr]⟩
theorem qs_mul (hx : eo env x = some (.s (.int k m))) (hy : eo env y = some (.s (.int k n))) (hr : k.wrap (m * n) = r) : QS P nt env H ⟨dst, .binOp .mul T x y T', ty, pos, after, guard⟩ (.s (.int k r)) := .mk
  fun _ I ρ a w h hw => by
    obtain ⟨h1, h2⟩ := int2 h hx hy
    exact ⟨_, .s _, fun w' _ => by simp [execOp, h1, h2, eqGuard, binOp, Op.intArith, ← hr]⟩
theorem qs_quo (hx : eo env x = some (.s (.int k m))) (hy : eo env y = some (.s (.int k n))) (hn : n ≠ 0) (hr : k.wrap (m.tdiv n) = r) : QS P nt env H ⟨dst, .binOp .quo T x y T', ty, pos, after, guard⟩ (.s (.int k r)) := .mk
  fun _ I ρ a w h hw => by
    obtain ⟨h1, h2⟩ := int2 h hx hy
    exact ⟨_, .s _, fun w' _ => by simp [execOp, h1, h2, eqGuard, binOp, Op.intDiv, hn, ← hr]⟩
theorem qs_rem (hx : eo env x = some (.s (.int k m))) (hy : eo env y = some (.s (.int k n))) (hn : n ≠ 0) (hr : m.tmod n = r) : QS P nt env H ⟨dst, .binOp .rem T x y T', ty, pos, after, guard⟩ (.s (.int k r)) := .mk
  fun _ I ρ a w h hw => by
    obtain ⟨h1, h2⟩ := int2 h hx hy
    exact ⟨_, .s _, fun w' _ => by simp [execOp, h1, h2, eqGuard, binOp, Op.intDiv, hn, ← hr]⟩
theorem qs_and (hx : eo env x = some (.s (.int k m))) (hy : eo env y = some (.s (.int k n))) (hr : k.wrap ((BitVec.ofInt k.bits m &&& BitVec.ofInt k.bits n).toNat : Int) = r) : QS P nt env H ⟨dst, .binOp .and T x y T', ty, pos, after, guard⟩ (.s (.int k r)) := .mk
  fun _ I ρ a w h hw => by
    obtain ⟨h1, h2⟩ := int2 h hx hy
    refine ⟨_, .s _, fun w' _ => ?_⟩
    subst hr
    simp [execOp, h1, h2, eqGuard, binOp, Op.intBits]
theorem qs_or (hx : eo env x = some (.s (.int k m))) (hy : eo env y = some (.s (.int k n))) (hr : k.wrap ((BitVec.ofInt k.bits m ||| BitVec.ofInt k.bits n).toNat : Int) = r) : QS P nt env H ⟨dst, .binOp .or T x y T', ty, pos, after, guard⟩ (.s (.int k r)) := .mk
  fun _ I ρ a w h hw => by
    obtain ⟨h1, h2⟩ := int2 h hx hy
    refine ⟨_, .s _, fun w' _ => ?_⟩
    subst hr
    simp [execOp, h1, h2, eqGuard, binOp, Op.intBits]
theorem qs_shl {k' : IntKind} (hx : eo env x = some (.s (.int k m))) (hy : eo env y = some (.s (.int k' n))) (hn : 0 ≤ n) (hr : k.wrap (m * 2 ^ (min n.toNat k.bits)) = r) : QS P nt env H ⟨dst, .binOp .shl T x y T', ty, pos, after, guard⟩ (.s (.int k r)) := .mk
  fun _ I ρ a w h hw => by
    obtain ⟨h1, h2⟩ := int2 h hx hy
    refine ⟨_, .s _, fun w' _ => ?_⟩
    subst hr
    simp [execOp, h1, h2, eqGuard, binOp, Op.shift, show ¬ n < 0 by omega]
theorem qs_shr {k' : IntKind} (hx : eo env x = some (.s (.int k m))) (hy : eo env y = some (.s (.int k' n))) (hn : 0 ≤ n) (hr : m.fdiv (2 ^ (min n.toNat k.bits)) = r) : QS P nt env H ⟨dst, .binOp .shr T x y T', ty, pos, after, guard⟩ (.s (.int k r)) := .mk
  fun _ I ρ a w h hw => by
    obtain ⟨h1, h2⟩ := int2 h hx hy
    refine ⟨_, .s _, fun w' _ => ?_⟩
    subst hr
    simp [execOp, h1, h2, eqGuard, binOp, Op.shift, show ¬ n < 0 by omega]
theorem qs_eql (hx : eo env x = some (.s (.int k m))) (hy : eo env y = some (.s (.int k n))) : QS P nt env H ⟨dst, .binOp .eql T x y T', ty, pos, after, guard⟩ (.s (.bool (decide (m = n)))) := .mk
  fun _ I ρ a w h hw => by
    obtain ⟨h1, h2⟩ := int2 h hx hy
    exact ⟨_, .s _, fun w' _ => by simp [execOp, h1, h2, eqGuard, binOp, Op.intCmp]; rfl⟩
theorem qs_neq (hx : eo env x = some (.s (.int k m))) (hy : eo env y = some (.s (.int k n))) : QS P nt env H ⟨dst, .binOp .neq T x y T', ty, pos, after, guard⟩ (.s (.bool (!decide (m = n)))) := .mk
  fun _ I ρ a w h hw => by
    obtain ⟨h1, h2⟩ := int2 h hx hy
    exact ⟨_, .s _, fun w' _ => by simp [execOp, h1, h2, eqGuard, binOp, Op.intCmp]; rfl⟩
theorem qs_lss (hx : eo env x = some (.s (.int k m))) (hy : eo env y = some (.s (.int k n))) : QS P nt env H ⟨dst, .binOp .lss T x y T', ty, pos, after, guard⟩ (.s (.bool (decide (m < n)))) := .mk
  fun _ I ρ a w h hw => by
    obtain ⟨h1, h2⟩ := int2 h hx hy
    exact ⟨_, .s _, fun w' _ => by simp [execOp, h1, h2, eqGuard, binOp, Op.intCmp]⟩
theorem qs_leq (hx : eo env x = some (.s (.int k m))) (hy : eo env y = some (.s (.int k n))) : QS P nt env H ⟨dst, .binOp .leq T x y T', ty, pos, after, guard⟩ (.s (.bool (decide (m ≤ n)))) := .mk
  fun _ I ρ a w h hw => by
    obtain ⟨h1, h2⟩ := int2 h hx hy
    exact ⟨_, .s _, fun w' _ => by simp [execOp, h1, h2, eqGuard, binOp, Op.intCmp]⟩
theorem qs_gtr (hx : eo env x = some (.s (.int k m))) (hy : eo env y = some (.s (.int k n))) : QS P nt env H ⟨dst, .binOp .gtr T x y T', ty, pos, after, guard⟩ (.s (.bool (decide (n < m)))) := .mk
  fun _ I ρ a w h hw => by
    obtain ⟨h1, h2⟩ := int2 h hx hy
    exact ⟨_, .s _, fun w' _ => by simp [execOp, h1, h2, eqGuard, binOp, Op.intCmp]⟩
theorem qs_geq (hx : eo env x = some (.s (.int k m))) (hy : eo env y = some (.s (.int k n))) : QS P nt env H ⟨dst, .binOp .geq T x y T', ty, pos, after, guard⟩ (.s (.bool (decide (n ≤ m)))) := .mk
  fun _ I ρ a w h hw => by
    obtain ⟨h1, h2⟩ := int2 h hx hy
    exact ⟨_, .s _, fun w' _ => by simp [execOp, h1, h2, eqGuard, binOp, Op.intCmp]⟩
theorem qs_conv {k' : IntKind} {D : TypeId} {dd : TyD} {ds : TyD} (hs : TyIs P T ds) (hsk : ds.tk = .int k') (ht : TyIs P D dd) (hk : dd.tk = .int k) (hx : eo env x = some (.s (.int k' m))) (hr : k.wrap m = r) : QS P nt env H ⟨dst, .convert T D x, ty, pos, after, guard⟩ (.s (.int k r)) := .mk
  fun _ I ρ a w h hw => by
    have h1 := eo_rel h hx
    cases h1' : a.eval x <;> rw [h1'] at h1 <;> cases h1
    exact ⟨_, .s _, fun w' _ => by simp [execOp, h1', convert, run_underlying (ht.intk hk), run_underlying (hs.intk hsk), Conv.intToInt, ← hr]⟩
theorem qs_min (hx : eo env x = some (.s (.int k m))) (hy : eo env y = some (.s (.int k n))) {ats : Array TypeId} : QS P nt env H ⟨dst, .call ⟨.builtin .min, #[x, y], ats⟩, ty, pos, after, guard⟩ (.s (.int k (min m n))) := .mk
  fun _ I ρ a w h hw => by
    obtain ⟨h1, h2⟩ := int2 h hx hy
    refine ⟨_, .s _, fun w' _ => ?_⟩
    have e : min m n = if n < m then n else m := by split <;> omega
    rw [e]
    simp [execOp, resolve, invoke, builtin, Builtin.min_, Builtin.min2, h1, h2]
theorem qs_max (hx : eo env x = some (.s (.int k m))) (hy : eo env y = some (.s (.int k n))) {ats : Array TypeId} : QS P nt env H ⟨dst, .call ⟨.builtin .max, #[x, y], ats⟩, ty, pos, after, guard⟩ (.s (.int k (max m n))) := .mk
  fun _ I ρ a w h hw => by
    obtain ⟨h1, h2⟩ := int2 h hx hy
    refine ⟨_, .s _, fun w' _ => ?_⟩
    have e : max m n = if n > m then n else m := by split <;> omega
    rw [e]
    simp [execOp, resolve, invoke, builtin, Builtin.max_, Builtin.max2, h1, h2]
end
end Go.Proofs.Ytccidiflnmchiaa
