/- Rows of structs, and functions handed to 'every'. No condition. -/
import Derived.Test.YthpbjihnikapoaaOwn
namespace Go.Proofs.Ythpbjihnikapoaa
open Go.RowKit

/-- A struct of cells that lead nowhere. -/
class Flat (α : Type) where
  enc : α → List Value
  width : Nat
  wide : ∀ x : α, (enc x).length = width
instance flatCells {α : Type} [Flat α] : Cells α := ⟨Flat.width α, fun _ _ x us => us = Flat.enc x, fun h => by subst h; exact Flat.wide _, fun h _ _ => h⟩
/-- All cells of a list of structs. -/
def encs {α : Type} [Flat α] (l : List α) : List Value := (l.map Flat.enc).flatten
theorem encs_snoc {α : Type} [Flat α] (l : List α) (x : α) : encs (l ++ [x]) = encs l ++ Flat.enc x := by simp [encs]
theorem own_flat {α : Type} [Flat α] {w : World} {base e : Nat} {v : Value} {l : List α} (h : w.ownsRow base e (Flat.width α) v l.length (encs l)) : ∃ A c, v = .slice A l.length c ∧ Arr w w.heap.size A c l :=
  own_arr (l.map Flat.enc) (by simp) (fun i x u hx hu => by simp [hx] at hu; exact hu.symm) h
/-- The cells of element i. -/
theorem Arr.flat {α : Type} [Flat α] {w : World} {B : Nat} {A : Option Addr} {c : Nat} {l : List α} (h : Arr w B A c l) (h0 : 0 < l.length) :
    ∃ b off, A = some ⟨b, off, none⟩ ∧ b < B ∧ ∀ i (hi : i < l.length) j u, (Flat.enc l[i])[j]? = some u → w.cell? ⟨b, off + i * Flat.width α + j, none⟩ = some u := by
  obtain ⟨_, _, h3⟩ := h
  obtain ⟨b, off, hA, hb, hc⟩ := h3 h0
  refine ⟨b, off, hA, hb, fun i hi j u hj => ?_⟩
  obtain ⟨us, hr, hu⟩ := hc i l[i] (by simp [hi])
  subst hr
  exact hu j u hj

section
variable {P : Program} {ops : Array Oper} {rest : List Oper} {o : Oper} {a : Act} {Q : Exit → Act → World → Prop} {W w : World}
/-- 'out = append(out, x)', x a struct: its cells lie in the last block. -/
theorem appS {g : Grow} (hgd : o.guard = none) (s x : Operand) (t : TypeId)
    (ho : o.op = .call { callee := .builtin .append, args := #[s, x], argTypes := #[t, t] })
    (e : TypeId) (i : TypeInfo) (z : Value) (bytes : Nat) (ht : P.underlying t = some (.slice e)) (hi : P.info? e = some i) (hz : i.zero = some z)
    (us : List Value) (hsize : i.size = us.length) (hby : i.bytes = bytes) (hzs : z.cells.size = us.length) (hpos : 0 < us.length)
    (v : Value) (n : Nat) (xs : List Value) (hs : a.eval s = v) (hx : a.eval x = .slice (some ⟨(more W g).heap.size, 0, none⟩) 1 1)
    (base : Nat) (hown : (more W g).ownsRow base e us.length v n xs) (hb : W.heap.size ≤ base) (hb' : base ≤ (more W g).heap.size) (h1 : ∀ u ∈ us, u.oneCell' = true)
    (h63 : n + 1 ≤ maxLen) (hbytes : (n + 1) * bytes ≤ 140737488355328)
    (h : ∀ gb cap g', (more W g').ownsRow base e us.length (.slice (some ⟨gb, 0, none⟩) (n + 1) cap) (n + 1) (xs ++ us) → (∀ {b2 e2 s2 n2 : Nat} {v2 : Value} {xs2 : List Value}, (more W g).ownsRow b2 e2 s2 v2 n2 xs2 → e2 ≠ e → (more W g').ownsRow b2 e2 s2 v2 n2 xs2) → wpList P ops Q rest (a.put o.dst (.slice (some ⟨gb, 0, none⟩) (n + 1) cap)) (more W g')) :
    wpList P ops Q (o :: rest) a ((more W g).alloc (.cells us.toArray e)) := by
  refine wpList_append_own ((more W g).alloc (.cells us.toArray e)) hgd s x t ho base e i z us.length bytes ht hi hz hsize hby hzs hpos v n xs hs (hown.alloc _) ⟨(more W g).heap.size, 0, none⟩ 1 1 us hx (by simp) ?_ h1 h63 hbytes ?_ ?_
  · intro j y hj
    have e0 : (⟨(more W g).heap.size, 0, none⟩ : Addr).add j = ⟨(more W g).heap.size, j, none⟩ := by
      unfold Addr.add
      split
      · rename_i h; subst h; rfl
      · simp
    rw [e0, World.cell?_alloc_new]
    simpa using hj
  · simp; omega
  · intro v' w' hown' hgr _
    have hw' : Ext W w' := ((Ext.of_more W g).alloc _).grown hgr (fun k hk => by
      rcases hown.2 with ⟨rfl, _⟩ | ⟨g, cap, cur, rfl, hg, _⟩
      · simp [Value.ownBlock] at hk
      · simp [Value.ownBlock] at hk; omega)
    have hkeep : ∀ {b2 e2 s2 n2 : Nat} {v2 : Value} {xs2 : List Value}, (more W g).ownsRow b2 e2 s2 v2 n2 xs2 → e2 ≠ e → w'.ownsRow b2 e2 s2 v2 n2 xs2 :=
      fun h2 hne => (h2.alloc _).kept hgr (own_apart h2 hown hne)
    obtain ⟨g1, rfl⟩ := hw'
    rcases hown'.2 with ⟨_, h0⟩ | ⟨gb, cap, cur, rfl, _⟩
    · omega
    · exact h gb cap g1 hown' hkeep
end
theorem own_formS {w : World} {base e size n : Nat} {v : Value} {xs : List Value} (h : w.ownsRow base e size v n xs) : ∃ A c, v = .slice A n c := by
  rcases h.2 with ⟨rfl, h0⟩ | ⟨g, cap, _, rfl, _⟩
  · exact ⟨none, 0, by rw [h0]⟩
  · exact ⟨_, _, rfl⟩
end Go.Proofs.Ythpbjihnikapoaa
