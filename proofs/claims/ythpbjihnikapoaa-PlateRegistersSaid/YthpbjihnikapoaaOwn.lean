/- Rows that a call makes itself: what they read as, and appending to them. No condition. -/
import Derived.Test.YthpbjihnikapoaaMix
import Derived.Laws.OwnMore
namespace Go.Proofs.Ythpbjihnikapoaa
open Go.RowKit

section
variable {w w' : World} {base e size n : Nat} {v : Value} {xs : List Value}
theorem own_ext (h : w.ownsRow base e size v n xs) (he : Ext w w') : w'.ownsRow base e size v n xs := by
  obtain ⟨h1, h2⟩ := h
  refine ⟨h1, ?_⟩
  rcases h2 with h2 | ⟨g, cap, cur, hv, hg, hh, r⟩
  · exact .inl h2
  · refine .inr ⟨g, cap, cur, hv, hg, ?_, r⟩
    have hlt : g < w.heap.size := by
      rcases Nat.lt_or_ge g w.heap.size with h | h
      · exact h
      · rw [Array.getElem?_eq_none h] at hh; cases hh
    rw [he.heap hlt]; exact hh
theorem own_base {base' : Nat} (h : w.ownsRow base e size v n xs) (hb : base' ≤ base) : w.ownsRow base' e size v n xs := by
  obtain ⟨h1, h2⟩ := h
  refine ⟨h1, ?_⟩
  rcases h2 with h2 | ⟨g, cap, cur, hv, hg, hh, r⟩
  · exact .inl h2
  · exact .inr ⟨g, cap, cur, hv, by omega, hh, r⟩
/-- Two rows of different element types do not share a block. -/
theorem own_apart {base' e' size' n' : Nat} {v' : Value} {xs' : List Value} (h : w.ownsRow base e size v n xs) (h' : w.ownsRow base' e' size' v' n' xs') (hne : e ≠ e') : v.ownBlock = none ∨ v.ownBlock ≠ v'.ownBlock := by
  rcases h.2 with ⟨rfl, _⟩ | ⟨g, cap, cur, rfl, _, hh, _⟩
  · exact .inl rfl
  · rcases h'.2 with ⟨rfl, _⟩ | ⟨g', cap', cur', rfl, _, hh', _⟩
    · exact .inr (by simp [Value.ownBlock])
    · refine .inr fun hg => ?_
      have : g = g' := by simpa [Value.ownBlock] using hg
      subst this
      rw [hh] at hh'
      injection hh' with hh'
      injection hh' with _ ht
      exact hne ht
end

theorem flat_len {us : List (List Value)} {k : Nat} (h : ∀ u ∈ us, u.length = k) : us.flatten.length = us.length * k := by
  induction us with
  | nil => simp
  | cons u us ih =>
    simp only [List.flatten_cons, List.length_append, List.length_cons]
    rw [ih (fun x hx => h x (by simp [hx])), h u (by simp), Nat.add_mul, Nat.one_mul, Nat.add_comm]
theorem flat_at {us : List (List Value)} {k : Nat} (h : ∀ u ∈ us, u.length = k) {i j : Nat} {u : List Value} (hu : us[i]? = some u) (hj : j < k) : us.flatten[i * k + j]? = u[j]? := by
  induction us generalizing i with
  | nil => simp at hu
  | cons x us ih =>
    have hx := h x (by simp)
    cases i with
    | zero =>
      simp only [List.getElem?_cons_zero, Option.some.injEq] at hu
      subst hu
      rw [List.flatten_cons, List.getElem?_append_left (by omega)]
      simp
    | succ i =>
      simp only [List.getElem?_cons_succ] at hu
      have := ih (fun y hy => h y (by simp [hy])) hu
      rw [List.flatten_cons, List.getElem?_append_right (by rw [hx, Nat.add_mul]; omega), ← this]
      congr 1
      rw [hx, Nat.add_mul]
      omega

theorem own_arr {α : Type} [Cells α] {w : World} {base e : Nat} {v : Value} {l : List α} (us : List (List Value)) (hlen : us.length = l.length)
    (hr : ∀ (i : Nat) x u, l[i]? = some x → us[i]? = some u → Cells.rep w w.heap.size x u) (h : w.ownsRow base e (Cells.size α) v l.length us.flatten) :
    ∃ A c, v = .slice A l.length c ∧ Arr w w.heap.size A c l := by
  have hall : ∀ u ∈ us, u.length = Cells.size α := by
    intro u hu
    obtain ⟨i, hi, rfl⟩ := List.getElem_of_mem hu
    exact Cells.len (hr i l[i] us[i] (by simp [hlen ▸ hi]) (by simp [hi]))
  obtain ⟨h1, h2⟩ := h
  rcases h2 with ⟨rfl, h0⟩ | ⟨g, cap, cur, rfl, hg, hh, hn, hc, hs, ht⟩
  · exact ⟨none, 0, by rw [h0], by omega, by unfold maxLen; omega, fun hp => by omega⟩
  · have hlt : g < w.heap.size := by
      rcases Nat.lt_or_ge g w.heap.size with h | h
      · exact h
      · rw [Array.getElem?_eq_none h] at hh; cases hh
    refine ⟨some ⟨g, 0, none⟩, cap, rfl, hn, hc, fun hp => ⟨g, 0, rfl, hlt, fun i x hx => ?_⟩⟩
    have hi : i < l.length := by
      rcases Nat.lt_or_ge i l.length with h | h
      · exact h
      · rw [List.getElem?_eq_none h] at hx; cases hx
    have hiu : us[i]? = some (us[i]'(by omega)) := List.getElem?_eq_getElem (by omega)
    refine ⟨us[i]'(by omega), hr i x _ hx hiu, fun j u hu => ?_⟩
    have hlu := hall (us[i]'(by omega)) (List.getElem_mem _)
    have hj : j < Cells.size α := by
      rcases Nat.lt_or_ge j (us[i]'(by omega)).length with h | h
      · omega
      · rw [List.getElem?_eq_none h] at hu; cases hu
    have hf := flat_at hall hiu hj
    rw [hu, ← ht, List.getElem?_take] at hf
    split at hf
    · unfold World.cell?
      simp only [hh, Option.isSome_none, Bool.false_eq_true, if_false, Nat.zero_add]
      rw [← Array.getElem?_toList]
      exact hf
    · cases hf

theorem flatten_single {α : Type} (f : α → Value) (l : List α) : (l.map fun x => [f x]).flatten = l.map f := by
  induction l with
  | nil => rfl
  | cons x l ih => simp [ih]
theorem own_ints {w : World} {base e : Nat} {v : Value} {l : List Int} (h : w.ownsRow base e 1 v l.length (l.map (Value.int .i64))) : ∃ A c, v = .slice A l.length c ∧ Arr w w.heap.size A c l :=
  own_arr (l.map fun x => [Value.int .i64 x]) (by simp) (fun i x u hx hu => by simp [hx] at hu; exact hu.symm) (by rw [flatten_single]; exact h)
theorem own_bools {w : World} {base e : Nat} {v : Value} {l : List Bool} (h : w.ownsRow base e 1 v l.length (l.map Value.bool)) : ∃ A c, v = .slice A l.length c ∧ Arr w w.heap.size A c l :=
  own_arr (l.map fun x => [Value.bool x]) (by simp) (fun i x u hx hu => by simp [hx] at hu; exact hu.symm) (by rw [flatten_single]; exact h)

theorem Arr.nil {α : Type} [Cells α] (w : World) (B : Nat) : Arr w B none 0 ([] : List α) := ⟨by simp, by unfold maxLen; omega, fun h => by simp at h⟩

theorem own_high {w w' : World} {base e size n : Nat} {v : Value} {xs : List Value} (h : w.ownsRow base e size v n xs) (hk : ∀ b, base ≤ b → w'.heap[b]? = w.heap[b]?) : w'.ownsRow base e size v n xs := by
  obtain ⟨h1, h2⟩ := h
  refine ⟨h1, ?_⟩
  rcases h2 with h2 | ⟨g, cap, cur, hv, hg, hh, r⟩
  · exact .inl h2
  · exact .inr ⟨g, cap, cur, hv, hg, by rw [hk g hg]; exact hh, r⟩
theorem heap_swap {X : World} {o o' : Obj} {g : Grow} {b : Nat} (hb : b ≠ X.heap.size) : (more (X.alloc o) g).heap[b]? = (more (X.alloc o') g).heap[b]? := by
  simp only [more, World.alloc, Array.getElem?_append, Array.getElem?_push, Array.size_push]
  simp [hb]
theorem heap_new (w : World) (o : Obj) : (w.alloc o).heap[w.heap.size]? = some o := by
  unfold World.alloc
  simp
theorem heap_last {X : World} {o : Obj} {g : Grow} : (more (X.alloc o) g).heap[X.heap.size]? = some o := by
  unfold more World.alloc
  simp [Array.getElem?_append, Array.getElem?_push]
theorem own_swap {X : World} {o o' : Obj} {g : Grow} {base e size n : Nat} {v : Value} {xs : List Value} (h : (more (X.alloc o) g).ownsRow base e size v n xs) (hb : X.heap.size < base) : (more (X.alloc o') g).ownsRow base e size v n xs :=
  own_high h fun _ hk => heap_swap (by omega)
theorem own_swap2 {X : World} {o o' : Obj} {g g' : Grow} {base e size n : Nat} {v : Value} {xs : List Value} (h : (more (more (X.alloc o) g) g').ownsRow base e size v n xs) (hb : X.heap.size < base) : (more (more (X.alloc o') g) g').ownsRow base e size v n xs := by
  rw [more_more] at h ⊢
  exact own_swap h hb
theorem arr_rows {α : Type} [Cells α] {w : World} {b : Nat} {cs : Array Value} {t : TypeId} {l : List (List α)} {m : Nat} (hb : w.heap[b]? = some (.cells cs t (0, 0))) (hm : l.length = m) (hc : m ≤ maxLen)
    (h : ∀ (j : Nat) x, l[j]? = some x → ∃ (A : Option Addr) (c : Nat), cs[j]? = some (Value.slice A x.length c) ∧ Arr w w.heap.size A c x) : Arr w w.heap.size (some ⟨b, 0, none⟩) m l := by
  have hlt : b < w.heap.size := by
    rcases Nat.lt_or_ge b w.heap.size with h | h
    · exact h
    · rw [Array.getElem?_eq_none h] at hb; cases hb
  refine ⟨by omega, hc, fun _ => ⟨b, 0, rfl, hlt, fun i x hx => ?_⟩⟩
  obtain ⟨A, c, h1, h2⟩ := h i x hx
  refine ⟨[.slice A x.length c], ⟨A, c, rfl, h2⟩, fun j u hj => ?_⟩
  cases j with
  | zero =>
    have : u = .slice A x.length c := by simpa using hj.symm
    subst this
    have h3 : w.cell? ⟨b, i, none⟩ = cs[i]? := cell_of_row w b i cs t (0, 0) hb
    rw [h1] at h3
    simpa [Cells.size] using h3
  | succ j => simp at hj

/-- A matrix that the call makes itself: a row of rows, all of them its own. -/
def OwnMat {α : Type} (f : α → Value) (w : World) (base e er : Nat) (v : Value) (rows : List (List α)) : Prop :=
  ∃ vs : List Value, w.ownsRow base er 1 v rows.length vs ∧ ∀ (i : Nat) x, rows[i]? = some x → ∃ u, vs[i]? = some u ∧ w.ownsRow base e 1 u x.length (x.map f)
section
variable {α : Type} {f : α → Value} {w w' : World} {base e er : Nat} {v : Value} {rows : List (List α)}
theorem OwnMat.nil (w : World) (base e er : Nat) : OwnMat f w base e er (.slice none 0 0) [] := ⟨[], World.ownsRow_nil _ _ _ _, fun i x h => by simp at h⟩
theorem OwnMat.ext (h : OwnMat f w base e er v rows) (he : Ext w w') : OwnMat f w' base e er v rows := by
  obtain ⟨vs, h1, h2⟩ := h
  exact ⟨vs, own_ext h1 he, fun i x hx => let ⟨u, hu, ho⟩ := h2 i x hx; ⟨u, hu, own_ext ho he⟩⟩
theorem OwnMat.le {base' : Nat} (h : OwnMat f w base e er v rows) (hb : base' ≤ base) : OwnMat f w base' e er v rows := by
  obtain ⟨vs, h1, h2⟩ := h
  exact ⟨vs, own_base h1 hb, fun i x hx => let ⟨u, hu, ho⟩ := h2 i x hx; ⟨u, hu, own_base ho hb⟩⟩
theorem OwnMat.push {vs : List Value} {v' u : Value} {x : List α} (h2 : ∀ (i : Nat) x, rows[i]? = some x → ∃ u, vs[i]? = some u ∧ w.ownsRow base e 1 u x.length (x.map f)) (hl : vs.length = rows.length)
    (hu : w.ownsRow base e 1 u x.length (x.map f)) (hne : e ≠ er) (hk : ∀ {b2 e2 s2 n2 : Nat} {v2 : Value} {xs2 : List Value}, w.ownsRow b2 e2 s2 v2 n2 xs2 → e2 ≠ er → w'.ownsRow b2 e2 s2 v2 n2 xs2)
    (h' : w'.ownsRow base er 1 v' (rows.length + 1) (vs ++ [u])) : OwnMat f w' base e er v' (rows ++ [x]) := by
  refine ⟨vs ++ [u], by rw [List.length_append]; exact h', fun i y hy => ?_⟩
  rcases Nat.lt_or_ge i rows.length with hi | hi
  · rw [List.getElem?_append_left hi] at hy
    obtain ⟨u', hu', ho⟩ := h2 i y hy
    exact ⟨u', by rw [List.getElem?_append_left (by omega)]; exact hu', hk ho hne⟩
  · rw [List.getElem?_append_right hi] at hy
    have h0 : i - rows.length = 0 := by
      rcases Nat.eq_zero_or_pos (i - rows.length) with h | h
      · exact h
      · rw [List.getElem?_eq_none (show [x].length ≤ _ from h)] at hy; cases hy
    rw [h0] at hy
    have : y = x := by simpa using hy.symm
    subst this
    refine ⟨u, ?_, hk hu hne⟩
    rw [List.getElem?_append_right (by omega), show i - vs.length = 0 by omega]
    rfl
theorem OwnMat.arr [Cells α] (hs : ∀ {w : World} {base e : Nat} {v : Value} {l : List α}, w.ownsRow base e 1 v l.length (l.map f) → ∃ A c, v = .slice A l.length c ∧ Arr w w.heap.size A c l)
    (h : OwnMat f w base e er v rows) : ∃ A c, v = .slice A rows.length c ∧ Arr w w.heap.size A c rows := by
  obtain ⟨vs, h1, h2⟩ := h
  have hlen : vs.length = rows.length := by have := h1.1; omega
  refine own_arr (vs.map fun u => [u]) (by simp [hlen]) (fun i x u hx hu => ?_) (by rw [flatten_single (fun u => u)]; simpa [Cells.size] using h1)
  obtain ⟨u', hu', ho⟩ := h2 i x hx
  simp only [List.getElem?_map, hu', Option.map_some, Option.some.injEq] at hu
  subst hu
  obtain ⟨A, c, rfl, hA⟩ := hs ho
  exact ⟨A, c, rfl, hA⟩
end
theorem OwnMat.ints {w : World} {base e er : Nat} {v : Value} {rows : List (List Int)} (h : OwnMat (Value.int .i64) w base e er v rows) : ∃ A c, v = .slice A rows.length c ∧ Arr w w.heap.size A c rows := h.arr own_ints
theorem OwnMat.bools {w : World} {base e er : Nat} {v : Value} {rows : List (List Bool)} (h : OwnMat Value.bool w base e er v rows) : ∃ A c, v = .slice A rows.length c ∧ Arr w w.heap.size A c rows := h.arr own_bools
theorem own_form {w : World} {base e n : Nat} {v : Value} {xs : List Value} (h : w.ownsRow base e 1 v n xs) : (n = 0 ∧ v = .slice none 0 0) ∨ ∃ g c, v = .slice (some ⟨g, 0, none⟩) n c := by
  rcases h.2 with ⟨rfl, h0⟩ | ⟨g, cap, _, rfl, _⟩
  · exact .inl ⟨h0, rfl⟩
  · exact .inr ⟨g, cap, rfl⟩
theorem own_slice {w : World} {base e n : Nat} {v : Value} {xs : List Value} (h : w.ownsRow base e 1 v n xs) : ∃ A c, v = .slice A n c := by
  rcases own_form h with ⟨rfl, rfl⟩ | ⟨g, c, rfl⟩
  · exact ⟨none, 0, rfl⟩
  · exact ⟨_, _, rfl⟩

/-! ### append, in the words of 'more' -/
section
variable {P : Program} {ops : Array Oper} {rest : List Oper} {o : Oper} {a : Act} {Q : Exit → Act → World → Prop} {W w : World}

/-- 'out = append(out, x)': 'x' lies in the last block. -/
theorem app1 {g : Grow} (hgd : o.guard = none) (s x : Operand) (t : TypeId)
    (ho : o.op = .call { callee := .builtin .append, args := #[s, x], argTypes := #[t, t] })
    (e : TypeId) (i : TypeInfo) (z : Value) (bytes : Nat) (ht : P.underlying t = some (.slice e)) (hi : P.info? e = some i) (hz : i.zero = some z)
    (hsize : i.size = 1) (hby : i.bytes = bytes) (hzs : z.cells.size = 1)
    (v : Value) (n : Nat) (xs : List Value) (hs : a.eval s = v) (u : Value) (hx : a.eval x = .slice (some ⟨(more W g).heap.size, 0, none⟩) 1 1)
    (base : Nat) (hown : (more W g).ownsRow base e 1 v n xs) (hb : W.heap.size ≤ base) (hb' : base ≤ (more W g).heap.size) (h1 : u.oneCell' = true)
    (h63 : n + 1 ≤ maxLen) (hbytes : (n + 1) * bytes ≤ 140737488355328)
    (h : ∀ gb cap g', (more W g').ownsRow base e 1 (.slice (some ⟨gb, 0, none⟩) (n + 1) cap) (n + 1) (xs ++ [u]) → (∀ {b2 e2 s2 n2 : Nat} {v2 : Value} {xs2 : List Value}, (more W g).ownsRow b2 e2 s2 v2 n2 xs2 → e2 ≠ e → (more W g').ownsRow b2 e2 s2 v2 n2 xs2) → wpList P ops Q rest (a.put o.dst (.slice (some ⟨gb, 0, none⟩) (n + 1) cap)) (more W g')) : wpList P ops Q (o :: rest) a ((more W g).alloc (.cells #[u] e)) := by
  refine wpList_append_own ((more W g).alloc (.cells #[u] e)) hgd s x t ho base e i z 1 bytes ht hi hz hsize hby hzs (by omega) v n xs hs (hown.alloc _) ⟨(more W g).heap.size, 0, none⟩ 1 1 [u] hx (by simp) ?_ (by simpa using h1) h63 hbytes ?_ ?_
  · intro j y hj
    cases j with
    | zero =>
      have : y = u := by simpa using hj.symm
      subst this
      simp [Addr.add]
    | succ j => simp at hj
  · simp; omega
  · intro v' w' hown' hgr _
    have hw' : Ext W w' := ((Ext.of_more W g).alloc _).grown hgr (fun k hk => by
      rcases hown.2 with ⟨rfl, _⟩ | ⟨g, cap, cur, rfl, hg, _⟩
      · simp [Value.ownBlock] at hk
      · simp [Value.ownBlock] at hk; omega)
    have hkeep : ∀ {b2 e2 s2 n2 : Nat} {v2 : Value} {xs2 : List Value}, (more W g).ownsRow b2 e2 s2 v2 n2 xs2 → e2 ≠ e → w'.ownsRow b2 e2 s2 v2 n2 xs2 :=
      fun h2 hne => (h2.alloc _).kept hgr (own_apart h2 hown hne)
    obtain ⟨g1, rfl⟩ := hw'
    rcases hown'.2 with ⟨_, h0⟩ | ⟨gb, cap, cur, rfl, _⟩
    · omega
    · exact h gb cap g1 hown' hkeep
end
end Go.Proofs.Ythpbjihnikapoaa
