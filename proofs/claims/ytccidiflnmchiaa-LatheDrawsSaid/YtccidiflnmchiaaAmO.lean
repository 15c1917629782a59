/- The arguments of a statement, read as data. No condition. -/
import Derived.Test.YtccidiflnmchiaaRows
import Derived.Test.YtccidiflnmchiaaAmT
import Derived.ProofKit
import Derived.OpenShut
import Derived.ChangeOld
import Derived.Deep.Slices
namespace Go.Proofs.Ytccidiflnmchiaa
open Go.ChangeShapes Go.WideShapes Go.ChangeAt Go.RowKit Go.Deep
theorem own_knob : ownKnob Try.prog.godebug = none := by kernel_rfl
theorem laid_out : laidOutB Try.prog = true := by kernel_rfl
/-- All memory as it stands. -/
def snap (w : World) : Imm := fun b => w.heap[b]?
/-- The cells of a value. -/
def CellsAre (I : Imm) (v : V) (cs : List Value) : Prop := v.cells.length = cs.length ∧ ∀ (j : Nat) x u, v.cells[j]? = some x → cs[j]? = some u → VRel I [] x u
/-- A type whose values, read as data, are elements of 'α'. -/
structure ReadsV (P : Program) (t : TypeId) {α : Type} (e : α → V) (ok : α → Prop) (sz : Nat) : Prop where
  cells : P.cellsOf t = sz
  pos : 0 < sz
  read : ∀ {H : Type} {enc : TypeId × Value → H} {w : World} {base : Nat} {spare : Nat → Bool} {held : Bool} {fuel : Nat} {cs : List Value} {x : DataW H × List MemPlace},
    DataW.trod enc P w base spare held fuel t cs = some x → ∃ a : α, ok a ∧ cs.length = sz ∧ CellsAre (snap w) (e a) cs
def i64ok (n : Int) : Prop := -9223372036854775808 ≤ n ∧ n ≤ 9223372036854775807
theorem rv_int {P : Program} {t : TypeId} (ht : P.underlying t = some (.int .i64)) (hc : P.cellsOf t = 1) : ReadsV P t vi i64ok 1 :=
  ⟨hc, by omega, fun h => by
    obtain ⟨n, rfl, _, hw⟩ := DataW.trod_int ht h
    exact ⟨n, bounds_i64 hw, rfl, rfl, fun j x u hx hu => by
      cases j with
      | zero => simp [cells_vi] at hx hu; subst hx hu; exact .s _
      | succ j => simp at hu⟩⟩
theorem rv_bool {P : Program} {t : TypeId} (ht : P.underlying t = some .bool) (hc : P.cellsOf t = 1) : ReadsV P t vb (fun _ => True) 1 :=
  ⟨hc, by omega, fun h => by
    obtain ⟨n, rfl, _⟩ := DataW.trod_bool ht h
    exact ⟨n, trivial, rfl, rfl, fun j x u hx hu => by
      cases j with
      | zero => simp [cells_vb] at hx hu; subst hx hu; exact .s _
      | succ j => simp at hu⟩⟩
theorem cell_block {w : World} {b i : Nat} {sp : Option Nat} {v : Value} (h : w.cell? ⟨b, i, sp⟩ = some v) : ∃ cs ty fz, w.heap[b]? = some (.cells cs ty fz) ∧ cs[i]? = some v := by
  unfold World.cell? at h
  simp only at h
  split at h
  · rename_i c ty fz hb
    split at h
    · cases h
    · exact ⟨c, ty, fz, hb, h⟩
  · cases h
theorem add_none (b off n : Nat) : (⟨b, off, none⟩ : Addr).add n = ⟨b, off + n, none⟩ := by
  unfold Addr.add
  split
  · rename_i h; subst h; rfl
  · rfl
theorem read_list {α : Type} [Inhabited α] {P : Program} {t e : TypeId} {ea : α → V} {ok : α → Prop} {sz : Nat} (ht : P.underlying t = some (.slice e)) (R : ReadsV P e ea ok sz)
    {H : Type} {enc : TypeId × Value → H} {w : World} {base : Nat} {spare : Nat → Bool} {held : Bool} {fuel : Nat} {cs : List Value} {x : DataW H × List MemPlace}
    (h : DataW.trod enc P w base spare held fuel t cs = some x) : ∃ (l : List α) (u : Value), (∀ y, y ∈ l → ok y) ∧ cs = [u] ∧ VRel (snap w) [] (LV sz ea l) u := by
  rcases open_slice ht h with ⟨rfl, _⟩ | ⟨a, len, cap, m, n, D, Pl, rfl, _, hl, hc, hm, _, hi⟩
  · exact ⟨[], _, (fun y hy => by cases hy), rfl, VRel.none_list none⟩
  · have hml : len ≤ m := by rw [hm]; split <;> omega
    have hex : ∀ i : Fin len, ∃ y : α, ∃ cs', w.cells? base (a.add (i * P.cellsOf e)) (P.cellsOf e) = some cs' ∧ ok y ∧ cs'.length = sz ∧ CellsAre (snap w) (ea y) cs' := fun i => by
      obtain ⟨cs', h1, h2⟩ := hi i (by omega)
      obtain ⟨y, hy⟩ := R.read h2
      exact ⟨y, cs', h1, hy⟩
    obtain ⟨f, hf⟩ := Classical.skolem.1 hex
    obtain ⟨g, hg⟩ := Classical.skolem.1 hf
    have hel : ∀ i (hi : i < len), el (List.ofFn f) i = f ⟨i, hi⟩ := fun i hi => by rw [el_eq (by simpa using hi)]; simp
    refine ⟨List.ofFn f, _, fun y hy => ?_, rfl, ?_⟩
    · obtain ⟨k, hk, rfl⟩ := mem_el hy
      rw [hel k (by simpa using hk)]
      exact (hg _).2.1
    obtain ⟨b, off, sp⟩ := a
    have hspot : 0 < len → sp = none := fun h0 => by
      obtain ⟨h1, _, h3, _⟩ := hg ⟨0, h0⟩
      obtain ⟨_, hcl, hat⟩ := World.cells?_some h1
      have hpos := R.pos
      have h5 := hat 0 (by rw [R.cells]; exact hpos)
      rw [List.getElem?_eq_getElem (by omega)] at h5
      simpa [Addr.add] using World.cell?_spot h5
    have hcell : ∀ (i : Nat) (hi : i < len) (j : Nat), j < sz → ∃ cs' ty fz, w.heap[b]? = some (.cells cs' ty fz) ∧ sp = none ∧ cs'[off + i * sz + j]? = some ((g ⟨i, hi⟩).getD j undef) := by
      intro i hi j hj
      obtain ⟨h1, _, h3, _⟩ := hg ⟨i, hi⟩
      obtain ⟨_, hcl, hat⟩ := World.cells?_some h1
      have hu : (g ⟨i, hi⟩)[j]? = some ((g ⟨i, hi⟩).getD j undef) := by simp [show j < (g ⟨i, hi⟩).length by omega]
      have h5 := hat j (by rw [R.cells]; exact hj)
      rw [hu] at h5
      have hsp : sp = none := hspot (by omega)
      subst hsp
      rw [add_none, add_none, R.cells] at h5
      obtain ⟨cs', ty, fz, h6, h7⟩ := cell_block h5
      exact ⟨cs', ty, fz, h6, rfl, h7⟩
    have hsz : ∀ i (hi : i < len), (ea (el (List.ofFn f) i)).cells.length = sz := fun i hi => by
      rw [hel i hi]
      obtain ⟨_, _, h3, h4⟩ := hg ⟨i, hi⟩
      rw [h4.1, h3]
    have hlen : (List.ofFn f).length = len := by simp
    show VRel (snap w) [] (.list sz (List.ofFn f).length fun i => ea (el (List.ofFn f) i)) _
    rw [hlen]
    refine .list (us := fun i j => if hi : i < len then (g ⟨i, hi⟩).getD j undef else undef) hl (by first | exact hc | (have h : cap ≤ 2 ^ 63 - 1 := hc; show cap ≤ maxLen; unfold maxLen; omega)) (fun h0 => ?_) (fun i hi => hsz i hi) (fun i j v hi hj => ?_)
    · obtain ⟨cs', ty, fz, h6, rfl, _⟩ := hcell 0 h0 0 R.pos
      refine ⟨b, off, rfl, fun i hi => ⟨cs', ty, fz, h6, fun j hj => ?_⟩⟩
      obtain ⟨cs2, ty2, fz2, h8, _, h9⟩ := hcell i hi j hj
      rw [h6] at h8
      cases h8
      simpa [hi] using h9
    · obtain ⟨_, _, h3, h4⟩ := hg ⟨i, hi⟩
      have hj2 := (List.getElem?_eq_some_iff.1 hj).1
      rw [hsz i hi] at hj2
      rw [hel i hi] at hj
      have := h4.2 j v ((g ⟨i, hi⟩).getD j undef) hj (by simp [show j < (g ⟨i, hi⟩).length by omega])
      simpa [hi] using this
theorem rv_list {α : Type} [Inhabited α] {P : Program} {t e : TypeId} {ea : α → V} {ok : α → Prop} {sz : Nat} (ht : P.underlying t = some (.slice e)) (hc : P.cellsOf t = 1) (R : ReadsV P e ea ok sz) : ReadsV P t (LV sz ea) (fun l => ∀ y, y ∈ l → ok y) 1 :=
  ⟨hc, by omega, fun h => by
    obtain ⟨l, u, h1, rfl, h2⟩ := read_list ht R h
    exact ⟨l, h1, rfl, rfl, fun j x u' hx hu => by
      cases j with
      | zero => simp [LV_cells] at hx hu; subst hx hu; exact h2
      | succ j => simp at hu⟩⟩
/-! ### Arguments -/
section
variable {P : Program} {H : Type} {enc : TypeId × Value → H} {w : World} {base : Nat} {spare : Nat → Bool} {held : Bool} {r : Reach} {b0 : Nat} {v : Value} {d : DataW H} {p : List MemPlace} {t e : TypeId}
theorem arg_list {α : Type} [Inhabited α] {ea : α → V} {ok : α → Prop} {sz : Nat} (ht : P.underlying t = some (.slice e)) (R : ReadsV P e ea ok sz) (hv : Value.okWide P w r b0 t v) (h : DataW.Trod enc P w base spare held t v d p) : ∃ l : List α, (∀ y, y ∈ l → ok y) ∧ VRel (snap w) [] (LV sz ea l) v := by
  obtain ⟨a, len, cap, rfl⟩ := okWide_slice ht hv
  obtain ⟨fuel, hf⟩ := h
  obtain ⟨l, u, h1, h2, h3⟩ := read_list ht R hf
  simp only [Value.cells, List.cons.injEq, and_true] at h2
  exact ⟨l, h1, h2 ▸ h3⟩
theorem arg_int (ht : P.underlying t = some (.int .i64)) (hv : Value.okWide P w r b0 t v) (h : DataW.Trod enc P w base spare held t v d p) : ∃ n : Int, i64ok n ∧ VRel (snap w) [] (vi n) v := by
  obtain ⟨n, rfl, _, _, hw⟩ := open_int ht hv h
  exact ⟨n, bounds_i64 hw, .s _⟩
/-- A struct: its cells are those of 'e a'. -/
theorem arg_struct {α : Type} {ea : α → V} {ok : α → Prop} {sz : Nat} {fs : Array Field} (ht : P.underlying t = some (.struct fs)) (R : ReadsV P t ea ok sz) (hagg : ∀ a, ea a = .agg (ea a).cells) (hv : Value.okWide P w r b0 t v) (h : DataW.Trod enc P w base spare held t v d p) : ∃ a : α, ok a ∧ VRel (snap w) [] (ea a) v := by
  obtain ⟨cs, rfl, _⟩ := okWide_struct ht hv
  obtain ⟨fuel, hf⟩ := h
  obtain ⟨a, h1, h2, h3⟩ := R.read (by simpa [Value.cells] using hf)
  refine ⟨a, h1, ?_⟩
  rw [hagg a]
  exact .agg (by rw [h3.1]; simp) fun j x u hx hu => h3.2 j x u hx (by simpa using hu)
theorem rels_nil {I : Imm} : VRels I [] [] #[] := ⟨rfl, fun j v u h => by simp at h⟩
theorem rels_cons {I : Imm} {x : V} {u : Value} {vs : List V} {us : List Value} (h : VRel I [] x u) (k : VRels I [] vs us.toArray) : VRels I [] (x :: vs) (u :: us).toArray := by
  refine ⟨by have := k.1; simpa using this, fun j v y hj hu => ?_⟩
  cases j with
  | zero => simp at hj hu; subst hj hu; exact h
  | succ j => exact k.2 j v y (by simpa using hj) (by simpa using hu)
end
/-- A part of a struct. -/
theorem struct_part {P : Program} {t : TypeId} {fs : Array Field} (ht : P.underlying t = some (.struct fs))
    {H : Type} {enc : TypeId × Value → H} {w : World} {base : Nat} {spare : Nat → Bool} {held : Bool} {fuel : Nat} {cs : List Value} {x : DataW H × List MemPlace}
    (h : DataW.trod enc P w base spare held fuel t cs = some x) {α : Type} {ea : α → V} {ok : α → Prop} {sz : Nat} (i : Nat) {f : Field} (hfi : fs[i]? = some f) (R : ReadsV P f.type ea ok sz) :
    ∃ a : α, ok a ∧ ((cs.drop f.offset).take sz).length = sz ∧ CellsAre (snap w) (ea a) ((cs.drop f.offset).take sz) := by
  obtain ⟨xs, n, _, _, _, hxl, hg⟩ := DataW.trod_struct ht h
  have h3 := hg i f hfi
  have hi : i < fs.size := (Array.getElem?_eq_some_iff.1 hfi).1
  obtain ⟨a, h1, h2, h4⟩ := R.read (h3.trans (List.getElem?_eq_getElem (by omega)))
  rw [R.cells] at h2 h4
  exact ⟨a, h1, h2, h4⟩
theorem struct_len {P : Program} {t : TypeId} {fs : Array Field} (ht : P.underlying t = some (.struct fs))
    {H : Type} {enc : TypeId × Value → H} {w : World} {base : Nat} {spare : Nat → Bool} {held : Bool} {fuel : Nat} {cs : List Value} {x : DataW H × List MemPlace}
    (h : DataW.trod enc P w base spare held fuel t cs = some x) : cs.length = P.cellsOf t := by
  obtain ⟨_, _, _, _, hlen, _, _⟩ := DataW.trod_struct ht h
  exact hlen
theorem cells_one {I : Imm} {v : V} {cs : List Value} {o : Nat} {u : Value} (h : CellsAre I v ((cs.drop o).take 1)) (hv : v.cells = [v]) (hu : cs[o]? = some u) : VRel I [] v u :=
  h.2 0 v u (by rw [hv]; rfl) (by simp [hu])
end Go.Proofs.Ytccidiflnmchiaa
