/- Lists as values and as own rows. No condition. -/
import Derived.Test.YtccidiflnmchiaaAm12
namespace Go.Proofs.Ytccidiflnmchiaa
open Go.RowKit
def vi (n : Int) : V := .s (.int .i64 n)
def vb (b : Bool) : V := .s (.bool b)
def vnil : V := .s (.slice none 0 0)
/-- An element. -/
def el {α : Type} [Inhabited α] (l : List α) (i : Nat) : α := l.getD i default
/-- A list as a slice that nobody writes, and as an own row. -/
def LV {α : Type} [Inhabited α] (sz : Nat) (e : α → V) (l : List α) : V := .list sz l.length fun i => e (el l i)
def LB {α : Type} [Inhabited α] (sz : Nat) (e : α → V) (l : List α) : Blk := .arr sz l.length fun i => e (el l i)
theorem cells_s {v : Value} : (V.s v).cells = [V.s v] := rfl
theorem cells_emp : V.emp.cells = [V.emp] := rfl
theorem cells_agg {cs : List V} : (V.agg cs).cells = cs := rfl
theorem cells_list {sz n : Nat} {f : Nat → V} : (V.list sz n f).cells = [V.list sz n f] := rfl
theorem cells_sl {sz b i n : Nat} : (V.sl sz b i n).cells = [V.sl sz b i n] := rfl
theorem cells_ptr {sz b i n : Nat} : (V.ptr sz b i n).cells = [V.ptr sz b i n] := rfl
theorem cells_ref {v : V} {n : Nat} : (V.ref v n).cells = [V.ref v n] := rfl
theorem cells_fn {f : Fn} {a b : List V} : (V.fn f a b).cells = [V.fn f a b] := rfl
theorem cells_vi {n : Int} : (vi n).cells = [vi n] := rfl
theorem cells_vb {b : Bool} : (vb b).cells = [vb b] := rfl
theorem cells_vnil : vnil.cells = [vnil] := rfl
theorem LV_cells {α : Type} [Inhabited α] {sz : Nat} {e : α → V} {l : List α} : (LV sz e l).cells = [LV sz e l] := rfl
section
variable {α β : Type} [Inhabited α] [Inhabited β]
theorem el_eq {l : List α} {i : Nat} (h : i < l.length) : el l i = l[i] := by simp [el, h]
theorem el_mem {l : List α} {k : Nat} (h : k < l.length) : el l k ∈ l := by rw [el_eq h]; exact List.getElem_mem h
theorem mem_el {l : List α} {x : α} (h : x ∈ l) : ∃ k, k < l.length ∧ el l k = x := by
  obtain ⟨j, hj, rfl⟩ := List.getElem_of_mem h
  exact ⟨j, hj, el_eq hj⟩
theorem el_app_lt {l l' : List α} {i : Nat} (h : i < l.length) : el (l ++ l') i = el l i := by simp [el, List.getElem?_append_left h]
theorem el_app_ge {l l' : List α} {i : Nat} (h : l.length ≤ i) : el (l ++ l') i = el l' (i - l.length) := by simp [el, List.getElem?_append_right h]
theorem el_snoc {l : List α} {x : α} : el (l ++ [x]) l.length = x := by simp [el]
theorem el_map {l : List α} {f : α → β} {i : Nat} (h : i < l.length) : el (l.map f) i = f (el l i) := by simp [el, h]
theorem el_map_range {f : Nat → α} {n i : Nat} (h : i < n) : el ((List.range n).map f) i = f i := by simp [el, h]
theorem el_replicate {x : α} {n i : Nat} (h : i < n) : el (List.replicate n x) i = x := by simp [el, h]
theorem el_take {l : List α} {n i : Nat} (h : i < n) : el (l.take n) i = el l i := by simp [el, List.getElem?_take, h]
theorem el_drop {l : List α} {n i : Nat} : el (l.drop n) i = el l (n + i) := by simp [el]
theorem ext_el {l l' : List α} (h : l.length = l'.length) (he : ∀ i, i < l.length → el l i = el l' i) : l = l' := by
  refine List.ext_getElem h fun i h1 h2 => ?_
  have := he i h1
  rwa [el_eq h1, el_eq h2] at this
theorem all_el {l : List α} {p : α → Bool} (h : ∀ j, j < l.length → p (el l j) = true) : l.all p = true := by
  rw [List.all_eq_true]
  intro x hx
  obtain ⟨j, hj, rfl⟩ := mem_el hx
  exact h j hj
theorem not_all_el {l : List α} {p : α → Bool} {k : Nat} (hk : k < l.length) (h : p (el l k) = false) : l.all p = false := by
  cases e : l.all p with
  | false => rfl
  | true => rw [List.all_eq_true.1 e _ (el_mem hk)] at h; cases h
theorem of_all_el {l : List α} {p : α → Bool} (h : l.all p = true) {k : Nat} (hk : k < l.length) : p (el l k) = true := List.all_eq_true.1 h _ (el_mem hk)
theorem all_step {p : Nat → Prop} {k : Nat} (h : ∀ j, j < k → p j) (hk : p k) : ∀ j, j < k + 1 → p j := fun j hj => by
  by_cases e : j = k
  · subst e; exact hk
  · exact h j (by omega)
end
section
variable {H : Heap} {σ : List (Option Nat)} {fr : Nat → Prop}
theorem VSub.of_eq {v x : V} (h : v = x) (hc : x.closed = true) : VSub H σ fr v x := by subst h; exact .closed hc
theorem slEq {sz b b0 i n n' : Nat} (h : σ[b0]? = some (some b)) (e : n = n') : VSub H σ fr (.sl sz b i n) (.sl sz b0 i n') := by subst e; exact .sl h
theorem nilEq {sz b0 n : Nat} (h : σ[b0]? = some none) (e : n = 0) : VSub H σ fr (.s (.slice none 0 0)) (.sl sz b0 0 n) := by subst e; exact .nil h
theorem siEq {k : IntKind} {n n' : Int} (e : n = n') : VSub H σ fr (.s (.int k n)) (.s (.int k n')) := by subst e; exact .closed rfl
variable {α : Type} [Inhabited α]
theorem frzLB {sz b n : Nat} {e : α → V} {l : List α} (hf : fr b) (hb : H[b]? = some (.arr sz l.length fun i => e (el l i))) (hc : ∀ y, V.closed.all (e y).cells = true) (hn : n = l.length) : VSub H σ fr (.sl sz b 0 n) (LV sz e l) := by
  subst hn
  exact .frz hf hb (by omega) (fun _ _ => hc _) (fun i _ => by rw [Nat.zero_add])
/-- A row of a list, longer. -/
theorem bsub_app {k b sz m n : Nat} {e : α → V} {l l' : List α} {f g : Nat → V} (h : σ[k]? = some (some b)) (hb : H[b]? = some (.arr sz (n + m) (appF n f g))) (hn : l.length = n) (hm : l'.length = m) (hf : ∀ i, i < n → f i = e (el l i)) (hc : ∀ y, (e y).closed = true) (hv : ∀ j, j < m → VSub H σ fr (g j) (e (el l' j))) : BSub H σ fr k (LB sz e (l ++ l')) := by
  subst hn hm
  refine .inl ⟨b, _, h, by rw [hb, List.length_append], fun i hi => ?_⟩
  rw [List.length_append] at hi
  show VSub H σ fr _ (e (el (l ++ l') i))
  by_cases h1 : i < l.length
  · rw [appF_lt h1, hf i h1, ← el_app_lt (l' := l') h1]
    exact .closed (hc _)
  · rw [appF_ge (by omega), el_app_ge (by omega)]
    exact hv _ (by omega)
theorem bsub_snoc {k b sz : Nat} {e : α → V} {l : List α} {x : α} {g : Nat → V} (h : σ[k]? = some (some b)) (hb : H[b]? = some (.arr sz (l.length + 1) (appF l.length (fun i => e (el l i)) g))) (hc : ∀ y, (e y).closed = true) (hv : VSub H σ fr (g 0) (e x)) : BSub H σ fr k (LB sz e (l ++ [x])) :=
  bsub_app h hb rfl rfl (fun _ _ => rfl) hc fun j hj => by
    obtain rfl : j = 0 := by omega
    exact hv
/-- The first element. -/
theorem bsub_one {k b sz : Nat} {e : α → V} {x : α} {f g : Nat → V} (h : σ[k]? = some (some b)) (hb : H[b]? = some (.arr sz (0 + 1) (appF 0 f g))) (hv : VSub H σ fr (g 0) (e x)) : BSub H σ fr k (LB sz e [x]) := by
  refine .inl ⟨b, _, h, hb, fun i hi => ?_⟩
  obtain rfl : i = 0 := by simpa using hi
  rw [appF_ge (Nat.le_refl _)]
  exact hv
/-- The same row. -/
theorem bsub_same {k b sz n : Nat} {f g : Nat → V} (h : σ[k]? = some (some b)) (hb : H[b]? = some (.arr sz n f)) (hv : ∀ i, i < n → f i = g i) (hc : ∀ i, i < n → (g i).closed = true) : BSub H σ fr k (.arr sz n g) :=
  .inl ⟨b, f, h, hb, fun i hi => .of_eq (hv i hi) (hc i hi)⟩
end
/-! ### What the arguments themselves tell -/
theorem pcalls_know {P : Program} {f : FuncId} {args : List V} {R : V → Prop} {Φ : Prop} (hΦ : ∀ I us, VRels I [] args us → Φ) (h : Φ → PCalls P f args R) : PCalls P f args R := .mk fun I w us a b => (h (hΦ I us b)).1 I w us a b
theorem rel_arg {I : Imm} {ρ : List (Option (Nat × Nat))} {args : List V} {us : Array Value} (h : VRels I ρ args us) {j : Nat} {v : V} (hj : args[j]? = some v) : ∃ u, VRel I ρ v u := by
  have hlt := (List.getElem?_eq_some_iff.1 hj).1
  exact ⟨us[j]'(by rw [h.1]; exact hlt), h.2 j v _ hj (by simp [h.1, hlt])⟩
section
variable {α : Type} [Inhabited α] {I : Imm} {ρ : List (Option (Nat × Nat))}
theorem rel_len {sz : Nat} {e : α → V} {l : List α} (h : ∃ u, VRel I ρ (LV sz e l) u) : l.length ≤ 9223372036854775807 := by
  obtain ⟨u, h⟩ := h
  obtain ⟨A, c, us, rfl, hc, hm, _⟩ := h.list_inv
  cases A with
  | none => simp only [capMax] at hm; omega
  | some _ => simp only [capMax, maxLen] at hm; omega
theorem rel_el {sz : Nat} {e : α → V} {l : List α} (h : ∃ u, VRel I ρ (LV sz e l) u) (he : ∀ x, (e x).cells = [e x]) {x : α} (hx : x ∈ l) : ∃ u, VRel I [] (e x) u := by
  obtain ⟨u, h⟩ := h
  obtain ⟨A, c, us, rfl, hc, hm, hl, hsz, hv⟩ := h.list_inv
  obtain ⟨k, hk, rfl⟩ := mem_el hx
  exact ⟨_, hv k 0 _ hk (by rw [he]; rfl)⟩
end
end Go.Proofs.Ytccidiflnmchiaa
