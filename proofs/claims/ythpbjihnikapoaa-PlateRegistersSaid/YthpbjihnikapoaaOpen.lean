/- What an argument that can be read as data looks like in memory. No condition. -/
import Derived.Test.YthpbjihnikapoaaRows
import Derived.Test.YthpbjihnikapoaaOwn
import Derived.ProofKit
import Derived.OpenShut
import Derived.ChangeOld
import Derived.Deep.Slices
namespace Go.Proofs.Ythpbjihnikapoaa
open Go.ChangeShapes Go.WideShapes Go.ChangeAt Go.RowKit Go.Deep

theorem own_knob : ownKnob Try.prog.godebug = none := by kernel_rfl
theorem laid_out : laidOutB Try.prog = true := by kernel_rfl

/-- A type whose values, read as data, are elements of 'α'. -/
class Reads (α : Type) [Cells α] (P : Program) (t : TypeId) : Prop where
  cells : P.cellsOf t = Cells.size α
  pos : 0 < Cells.size α
  read : ∀ {H : Type} {enc : TypeId × Value → H} {w : World} {base : Nat} {spare : Nat → Bool} {held : Bool} {fuel : Nat} {cs : List Value} {x : DataW H × List MemPlace},
    DataW.trod enc P w base spare held fuel t cs = some x → ∃ a : α, Cells.rep w w.heap.size a cs

theorem cell_lt {w : World} {b i : Nat} {sp : Option Nat} {v : Value} (h : w.cell? ⟨b, i, sp⟩ = some v) : b < w.heap.size := by
  rcases Nat.lt_or_ge b w.heap.size with h1 | h1
  · exact h1
  · unfold World.cell? at h
    simp only at h
    rw [Array.getElem?_eq_none h1] at h
    cases h

theorem add_none (b off n : Nat) : (⟨b, off, none⟩ : Addr).add n = ⟨b, off + n, none⟩ := by
  unfold Addr.add
  split
  · rename_i h; subst h; rfl
  · rfl

theorem read_slice {α : Type} [Cells α] {P : Program} {t e : TypeId} (ht : P.underlying t = some (.slice e)) [R : Reads α P e]
    {H : Type} {enc : TypeId × Value → H} {w : World} {base : Nat} {spare : Nat → Bool} {held : Bool} {fuel : Nat} {cs : List Value} {x : DataW H × List MemPlace}
    (h : DataW.trod enc P w base spare held fuel t cs = some x) : ∃ l : List α, Cells.rep w w.heap.size l cs := by
  rcases open_slice ht h with ⟨rfl, _⟩ | ⟨a, len, cap, m, n, D, Pl, rfl, _, hl, hc, hm, _, hi⟩
  · exact ⟨[], none, 0, rfl, Arr.nil _ _⟩
  · have hml : len ≤ m := by rw [hm]; split <;> omega
    have hex : ∀ i : Fin len, ∃ y : α, ∃ cs', w.cells? base (a.add (i * P.cellsOf e)) (P.cellsOf e) = some cs' ∧ Cells.rep w w.heap.size y cs' := fun i => by
      obtain ⟨cs', h1, h2⟩ := hi i (by omega)
      obtain ⟨y, hy⟩ := R.read h2
      exact ⟨y, cs', h1, hy⟩
    obtain ⟨f, hf⟩ := Classical.skolem.1 hex
    refine ⟨List.ofFn f, some a, cap, by simp, by simpa using hl, hc, fun h0 => ?_⟩
    have h0' : 0 < len := by simpa using h0
    obtain ⟨b, off, sp⟩ := a
    have hcell : ∀ (i : Nat) (hi : i < len), ∃ us, Cells.rep w w.heap.size (f ⟨i, hi⟩) us ∧ ∀ j u, us[j]? = some u → w.cell? (((⟨b, off, sp⟩ : Addr).add (i * P.cellsOf e)).add j) = some u := by
      intro i hi
      obtain ⟨cs', h1, h2⟩ := hf ⟨i, hi⟩
      refine ⟨cs', h2, fun j u hu => ?_⟩
      obtain ⟨_, hcl, hat⟩ := World.cells?_some h1
      have hj : j < P.cellsOf e := by
        rcases Nat.lt_or_ge j cs'.length with h | h
        · omega
        · rw [List.getElem?_eq_none h] at hu; cases hu
      rw [hat j hj, hu]
    obtain ⟨us, hr, hu⟩ := hcell 0 h0'
    have hlen := Cells.len hr
    have hpos := R.pos
    have hu0 := hu 0 (us[0]'(by omega)) (List.getElem?_eq_getElem (by omega))
    have hsp : sp = none := by simpa [Addr.add] using World.cell?_spot hu0
    subst hsp
    rw [add_none, add_none] at hu0
    refine ⟨b, off, rfl, cell_lt hu0, fun i y hy => ?_⟩
    have hi : i < len := by
      rcases Nat.lt_or_ge i (List.ofFn f).length with h | h
      · simpa using h
      · rw [List.getElem?_eq_none h] at hy; cases hy
    have hy' : y = f ⟨i, hi⟩ := by
      rw [List.getElem?_eq_getElem (by simpa using hi)] at hy
      simpa using hy.symm
    obtain ⟨us, hr, hu⟩ := hcell i hi
    refine ⟨us, hy' ▸ hr, fun j u hj => ?_⟩
    have := hu j u hj
    rw [add_none, add_none, R.cells] at this
    exact this
theorem reads_list {α : Type} [Cells α] {P : Program} {t e : TypeId} (ht : P.underlying t = some (.slice e)) (hc : P.cellsOf t = 1) (R : Reads α P e) : Reads (List α) P t :=
  ⟨hc, by show 0 < 1; omega, fun h => read_slice ht h⟩
theorem reads_int {P : Program} {t : TypeId} (ht : P.underlying t = some (.int .i64)) (hc : P.cellsOf t = 1) : Reads Int P t :=
  ⟨hc, by show 0 < 1; omega, fun h => let ⟨n, h1, _⟩ := DataW.trod_int ht h; ⟨n, h1⟩⟩
theorem reads_bool {P : Program} {t : TypeId} (ht : P.underlying t = some .bool) (hc : P.cellsOf t = 1) : Reads Bool P t :=
  ⟨hc, by show 0 < 1; omega, fun h => let ⟨n, h1, _⟩ := DataW.trod_bool ht h; ⟨n, h1⟩⟩
/-- An argument that is a slice. -/
theorem open_list {α : Type} [Cells α] {P : Program} {t e : TypeId} (ht : P.underlying t = some (.slice e)) (R : Reads α P e)
    {H : Type} {enc : TypeId × Value → H} {w : World} {base : Nat} {spare : Nat → Bool} {held : Bool} {r : Reach} {b0 : Nat} {v : Value} {d : DataW H} {p : List MemPlace}
    (hv : Value.okWide P w r b0 t v) (h : DataW.Trod enc P w base spare held t v d p) : ∃ (l : List α) (A : Option Addr) (c : Nat), v = .slice A l.length c ∧ Arr w w.heap.size A c l := by
  obtain ⟨a, len, cap, rfl⟩ := okWide_slice ht hv
  obtain ⟨fuel, hf⟩ := h
  obtain ⟨l, A, c, h1, h2⟩ := read_slice (α := α) ht (R := R) hf
  simp only [Value.cells, List.cons.injEq, and_true] at h1
  exact ⟨l, A, c, h1, h2⟩
/-- An argument that is a struct. -/
theorem open_struct {P : Program} {t : TypeId} {fs : Array Field} (ht : P.underlying t = some (.struct fs))
    {H : Type} {enc : TypeId × Value → H} {w : World} {base : Nat} {spare : Nat → Bool} {held : Bool} {r : Reach} {b0 : Nat} {v : Value} {d : DataW H} {p : List MemPlace}
    (hv : Value.okWide P w r b0 t v) (h : DataW.Trod enc P w base spare held t v d p) : ∃ (cs : List Value) (fuel : Nat) (x : DataW H × List MemPlace), v = .agg cs.toArray ∧ DataW.trod enc P w base spare held fuel t cs = some x := by
  obtain ⟨cs, rfl, _⟩ := okWide_struct ht hv
  obtain ⟨fuel, hf⟩ := h
  exact ⟨cs.toList, fuel, _, by simp, by simpa [Value.cells] using hf⟩
theorem struct_len {P : Program} {t : TypeId} {fs : Array Field} (ht : P.underlying t = some (.struct fs))
    {H : Type} {enc : TypeId × Value → H} {w : World} {base : Nat} {spare : Nat → Bool} {held : Bool} {fuel : Nat} {cs : List Value} {x : DataW H × List MemPlace}
    (h : DataW.trod enc P w base spare held fuel t cs = some x) : cs.length = P.cellsOf t := by
  obtain ⟨_, _, _, _, hlen, _, _⟩ := DataW.trod_struct ht h
  exact hlen
theorem struct_part {P : Program} {t : TypeId} {fs : Array Field} (ht : P.underlying t = some (.struct fs))
    {H : Type} {enc : TypeId × Value → H} {w : World} {base : Nat} {spare : Nat → Bool} {held : Bool} {fuel : Nat} {cs : List Value} {x : DataW H × List MemPlace}
    (h : DataW.trod enc P w base spare held fuel t cs = some x) (i : Nat) {f : Field} (hfi : fs[i]? = some f) :
    ∃ n y, DataW.trod enc P w base spare held n f.type ((cs.drop f.offset).take (P.cellsOf f.type)) = some y := by
  obtain ⟨xs, n, _, _, _, hxl, hg⟩ := DataW.trod_struct ht h
  have h3 := hg i f hfi
  have hi : i < fs.size := (Array.getElem?_eq_some_iff.1 hfi).1
  exact ⟨n, _, h3.trans (List.getElem?_eq_getElem (by omega))⟩
theorem take_one {cs : List Value} {i : Nat} (h : i < cs.length) : (cs.drop i).take 1 = [cs[i]] := by
  rw [List.drop_eq_getElem_cons h]; rfl
theorem struct_int {P : Program} {t : TypeId} {fs : Array Field} (ht : P.underlying t = some (.struct fs))
    {H : Type} {enc : TypeId × Value → H} {w : World} {base : Nat} {spare : Nat → Bool} {held : Bool} {fuel : Nat} {cs : List Value} {x : DataW H × List MemPlace}
    (h : DataW.trod enc P w base spare held fuel t cs = some x) (i : Nat) {f : Field} (hfi : fs[i]? = some f) {k : IntKind} (hu : P.underlying f.type = some (.int k)) (hc : P.cellsOf f.type = 1) (hl : f.offset < cs.length) :
    ∃ n, cs[f.offset]? = some (.int k n) ∧ (Lit.int k n).wf = true := by
  obtain ⟨n, y, h1⟩ := struct_part ht h i hfi
  rw [hc, take_one hl] at h1
  obtain ⟨m, h2, _, h3⟩ := DataW.trod_int hu h1
  refine ⟨m, ?_, h3⟩
  rw [List.getElem?_eq_getElem hl]
  simpa using h2
theorem struct_bool {P : Program} {t : TypeId} {fs : Array Field} (ht : P.underlying t = some (.struct fs))
    {H : Type} {enc : TypeId × Value → H} {w : World} {base : Nat} {spare : Nat → Bool} {held : Bool} {fuel : Nat} {cs : List Value} {x : DataW H × List MemPlace}
    (h : DataW.trod enc P w base spare held fuel t cs = some x) (i : Nat) {f : Field} (hfi : fs[i]? = some f) (hu : P.underlying f.type = some .bool) (hc : P.cellsOf f.type = 1) (hl : f.offset < cs.length) :
    ∃ n, cs[f.offset]? = some (.bool n) := by
  obtain ⟨n, y, h1⟩ := struct_part ht h i hfi
  rw [hc, take_one hl] at h1
  obtain ⟨m, h2, _⟩ := DataW.trod_bool hu h1
  refine ⟨m, ?_⟩
  rw [List.getElem?_eq_getElem hl]
  simpa using h2
end Go.Proofs.Ythpbjihnikapoaa
