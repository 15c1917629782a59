/- Words for memory: a world with more blocks, and what it keeps. No condition. -/
import Derived.WalkKit
import Derived.WalkSpells
import Derived.WalkLawsBesides
import Derived.Deep.QuietTactic
import Derived.BigQuiet
import Derived.LoopTactic
import Derived.Outline
import Derived.Deep.Light
namespace Go.Proofs.Ythpbjihnikapoaa
open Go.RowKit

/-- More blocks, and the count of draws. -/
structure Grow where
  blocks : Array Obj
  drawn : Nat
instance : Inhabited Grow := ⟨⟨#[], 0⟩⟩
instance : Nonempty Grow := ⟨⟨#[], 0⟩⟩
def Grow.and (g h : Grow) : Grow := ⟨g.blocks ++ h.blocks, h.drawn⟩
def Grow.draws (g : Grow) (n : Nat) : Grow := ⟨g.blocks, g.drawn + n⟩
def Grow.count (g : Grow) : Nat := g.blocks.size
/-- The world 'w' with more blocks, the count of draws as 'g' says. -/
def more (w : World) (g : Grow) : World := { w with heap := w.heap ++ g.blocks, drawn := g.drawn }
/-- 'w'' is 'w' with more blocks. -/
def Ext (w w' : World) : Prop := ∃ g, w' = more w g

section
variable {w w' w'' : World} {g h : Grow} {b i n : Nat}
theorem more_more : more (more w g) h = more w (g.and h) := by
  simp [more, Grow.and, Array.append_assoc]
@[go_sem] theorem more_size : (more w g).heap.size = w.heap.size + g.count := by simp [more, Grow.count]
theorem more_heap (hb : b < w.heap.size) : (more w g).heap[b]? = w.heap[b]? := by
  simp [more, Array.getElem?_append, hb]
@[go_sem] theorem more_cell (hb : b < w.heap.size) : (more w g).cell? ⟨b, i, none⟩ = w.cell? ⟨b, i, none⟩ :=
  World.cell?_of_block (a := ⟨b, i, none⟩) (more_heap hb)
@[go_sem] theorem more_frozen (hb : b < w.heap.size) : (more w g).frozen? ⟨b, i, none⟩ = w.frozen? ⟨b, i, none⟩ :=
  World.frozen?_of_block (a := ⟨b, i, none⟩) (more_heap hb)
@[go_sem] theorem more_drew : (more w g).drew = more w (g.draws 1) := rfl
@[go_sem] theorem more_drewN : (more w g).drewN n = more w (g.draws n) := rfl
@[go_sem] theorem more_setCell (hb : b < w.heap.size) (v : Value) : (more w g).setCell ⟨b, i, none⟩ v = more (w.setCell ⟨b, i, none⟩ v) g := by
  unfold World.setCell more
  simp only [World.mk.injEq, and_true]
  apply Array.ext_getElem?
  intro k
  simp only [Array.getElem?_modify, Array.getElem?_append, Array.size_modify]
  by_cases hk : k < w.heap.size
  · simp [hk]
  · have : b ≠ k := by omega
    simp [hk, this]
@[go_sem] theorem le_of_lt_of {a m : Nat} (h : a < m) : a ≤ m := by omega
@[go_sem] theorem lt_add_1 {a m k1 : Nat} (h : a < m) : a < m + k1 := by omega
@[go_sem] theorem le_add_1 {a m k1 : Nat} (h : a < m) : a ≤ m + k1 := by omega
@[go_sem] theorem le_self_1 {a k1 : Nat} : a ≤ a + k1 := by omega
@[go_sem] theorem lt_self_1 {a k1 : Nat} : a < a + 1 + k1 := by omega
@[go_sem] theorem lt_add_2 {a m k1 k2 : Nat} (h : a < m) : a < m + k1 + k2 := by omega
@[go_sem] theorem le_add_2 {a m k1 k2 : Nat} (h : a < m) : a ≤ m + k1 + k2 := by omega
@[go_sem] theorem le_self_2 {a k1 k2 : Nat} : a ≤ a + k1 + k2 := by omega
@[go_sem] theorem lt_self_2 {a k1 k2 : Nat} : a < a + 1 + k1 + k2 := by omega
@[go_sem] theorem lt_add_3 {a m k1 k2 k3 : Nat} (h : a < m) : a < m + k1 + k2 + k3 := by omega
@[go_sem] theorem le_add_3 {a m k1 k2 k3 : Nat} (h : a < m) : a ≤ m + k1 + k2 + k3 := by omega
@[go_sem] theorem le_self_3 {a k1 k2 k3 : Nat} : a ≤ a + k1 + k2 + k3 := by omega
@[go_sem] theorem lt_self_3 {a k1 k2 k3 : Nat} : a < a + 1 + k1 + k2 + k3 := by omega
@[go_sem] theorem lt_add_4 {a m k1 k2 k3 k4 : Nat} (h : a < m) : a < m + k1 + k2 + k3 + k4 := by omega
@[go_sem] theorem le_add_4 {a m k1 k2 k3 k4 : Nat} (h : a < m) : a ≤ m + k1 + k2 + k3 + k4 := by omega
@[go_sem] theorem le_self_4 {a k1 k2 k3 k4 : Nat} : a ≤ a + k1 + k2 + k3 + k4 := by omega
@[go_sem] theorem lt_self_4 {a k1 k2 k3 k4 : Nat} : a < a + 1 + k1 + k2 + k3 + k4 := by omega
@[go_sem] theorem lt_add_5 {a m k1 k2 k3 k4 k5 : Nat} (h : a < m) : a < m + k1 + k2 + k3 + k4 + k5 := by omega
@[go_sem] theorem le_add_5 {a m k1 k2 k3 k4 k5 : Nat} (h : a < m) : a ≤ m + k1 + k2 + k3 + k4 + k5 := by omega
@[go_sem] theorem le_self_5 {a k1 k2 k3 k4 k5 : Nat} : a ≤ a + k1 + k2 + k3 + k4 + k5 := by omega
@[go_sem] theorem lt_self_5 {a k1 k2 k3 k4 k5 : Nat} : a < a + 1 + k1 + k2 + k3 + k4 + k5 := by omega
@[go_sem] theorem lt_add_6 {a m k1 k2 k3 k4 k5 k6 : Nat} (h : a < m) : a < m + k1 + k2 + k3 + k4 + k5 + k6 := by omega
@[go_sem] theorem le_add_6 {a m k1 k2 k3 k4 k5 k6 : Nat} (h : a < m) : a ≤ m + k1 + k2 + k3 + k4 + k5 + k6 := by omega
@[go_sem] theorem le_self_6 {a k1 k2 k3 k4 k5 k6 : Nat} : a ≤ a + k1 + k2 + k3 + k4 + k5 + k6 := by omega
@[go_sem] theorem lt_self_6 {a k1 k2 k3 k4 k5 k6 : Nat} : a < a + 1 + k1 + k2 + k3 + k4 + k5 + k6 := by omega
@[go_sem] theorem lt_add_7 {a m k1 k2 k3 k4 k5 k6 k7 : Nat} (h : a < m) : a < m + k1 + k2 + k3 + k4 + k5 + k6 + k7 := by omega
@[go_sem] theorem le_add_7 {a m k1 k2 k3 k4 k5 k6 k7 : Nat} (h : a < m) : a ≤ m + k1 + k2 + k3 + k4 + k5 + k6 + k7 := by omega
@[go_sem] theorem le_self_7 {a k1 k2 k3 k4 k5 k6 k7 : Nat} : a ≤ a + k1 + k2 + k3 + k4 + k5 + k6 + k7 := by omega
@[go_sem] theorem lt_self_7 {a k1 k2 k3 k4 k5 k6 k7 : Nat} : a < a + 1 + k1 + k2 + k3 + k4 + k5 + k6 + k7 := by omega
@[go_sem] theorem lt_add_8 {a m k1 k2 k3 k4 k5 k6 k7 k8 : Nat} (h : a < m) : a < m + k1 + k2 + k3 + k4 + k5 + k6 + k7 + k8 := by omega
@[go_sem] theorem le_add_8 {a m k1 k2 k3 k4 k5 k6 k7 k8 : Nat} (h : a < m) : a ≤ m + k1 + k2 + k3 + k4 + k5 + k6 + k7 + k8 := by omega
@[go_sem] theorem le_self_8 {a k1 k2 k3 k4 k5 k6 k7 k8 : Nat} : a ≤ a + k1 + k2 + k3 + k4 + k5 + k6 + k7 + k8 := by omega
@[go_sem] theorem lt_self_8 {a k1 k2 k3 k4 k5 k6 k7 k8 : Nat} : a < a + 1 + k1 + k2 + k3 + k4 + k5 + k6 + k7 + k8 := by omega

@[go_sem] theorem lt_add_9 {a m k1 k2 k3 k4 k5 k6 k7 k8 k9 : Nat} (h : a < m) : a < m + k1 + k2 + k3 + k4 + k5 + k6 + k7 + k8 + k9 := by omega
@[go_sem] theorem le_add_9 {a m k1 k2 k3 k4 k5 k6 k7 k8 k9 : Nat} (h : a < m) : a ≤ m + k1 + k2 + k3 + k4 + k5 + k6 + k7 + k8 + k9 := by omega
@[go_sem] theorem le_self_9 {a k1 k2 k3 k4 k5 k6 k7 k8 k9 : Nat} : a ≤ a + k1 + k2 + k3 + k4 + k5 + k6 + k7 + k8 + k9 := by omega
@[go_sem] theorem lt_self_9 {a k1 k2 k3 k4 k5 k6 k7 k8 k9 : Nat} : a < a + 1 + k1 + k2 + k3 + k4 + k5 + k6 + k7 + k8 + k9 := by omega
@[go_sem] theorem lt_add_10 {a m k1 k2 k3 k4 k5 k6 k7 k8 k9 k10 : Nat} (h : a < m) : a < m + k1 + k2 + k3 + k4 + k5 + k6 + k7 + k8 + k9 + k10 := by omega
@[go_sem] theorem le_add_10 {a m k1 k2 k3 k4 k5 k6 k7 k8 k9 k10 : Nat} (h : a < m) : a ≤ m + k1 + k2 + k3 + k4 + k5 + k6 + k7 + k8 + k9 + k10 := by omega
@[go_sem] theorem le_self_10 {a k1 k2 k3 k4 k5 k6 k7 k8 k9 k10 : Nat} : a ≤ a + k1 + k2 + k3 + k4 + k5 + k6 + k7 + k8 + k9 + k10 := by omega
@[go_sem] theorem lt_self_10 {a k1 k2 k3 k4 k5 k6 k7 k8 k9 k10 : Nat} : a < a + 1 + k1 + k2 + k3 + k4 + k5 + k6 + k7 + k8 + k9 + k10 := by omega
@[go_sem] theorem lt_add_11 {a m k1 k2 k3 k4 k5 k6 k7 k8 k9 k10 k11 : Nat} (h : a < m) : a < m + k1 + k2 + k3 + k4 + k5 + k6 + k7 + k8 + k9 + k10 + k11 := by omega
@[go_sem] theorem le_add_11 {a m k1 k2 k3 k4 k5 k6 k7 k8 k9 k10 k11 : Nat} (h : a < m) : a ≤ m + k1 + k2 + k3 + k4 + k5 + k6 + k7 + k8 + k9 + k10 + k11 := by omega
@[go_sem] theorem le_self_11 {a k1 k2 k3 k4 k5 k6 k7 k8 k9 k10 k11 : Nat} : a ≤ a + k1 + k2 + k3 + k4 + k5 + k6 + k7 + k8 + k9 + k10 + k11 := by omega
@[go_sem] theorem lt_self_11 {a k1 k2 k3 k4 k5 k6 k7 k8 k9 k10 k11 : Nat} : a < a + 1 + k1 + k2 + k3 + k4 + k5 + k6 + k7 + k8 + k9 + k10 + k11 := by omega
@[go_sem] theorem lt_add_12 {a m k1 k2 k3 k4 k5 k6 k7 k8 k9 k10 k11 k12 : Nat} (h : a < m) : a < m + k1 + k2 + k3 + k4 + k5 + k6 + k7 + k8 + k9 + k10 + k11 + k12 := by omega
@[go_sem] theorem le_add_12 {a m k1 k2 k3 k4 k5 k6 k7 k8 k9 k10 k11 k12 : Nat} (h : a < m) : a ≤ m + k1 + k2 + k3 + k4 + k5 + k6 + k7 + k8 + k9 + k10 + k11 + k12 := by omega
@[go_sem] theorem le_self_12 {a k1 k2 k3 k4 k5 k6 k7 k8 k9 k10 k11 k12 : Nat} : a ≤ a + k1 + k2 + k3 + k4 + k5 + k6 + k7 + k8 + k9 + k10 + k11 + k12 := by omega
@[go_sem] theorem lt_self_12 {a k1 k2 k3 k4 k5 k6 k7 k8 k9 k10 k11 k12 : Nat} : a < a + 1 + k1 + k2 + k3 + k4 + k5 + k6 + k7 + k8 + k9 + k10 + k11 + k12 := by omega
@[go_sem] theorem lt_add_13 {a m k1 k2 k3 k4 k5 k6 k7 k8 k9 k10 k11 k12 k13 : Nat} (h : a < m) : a < m + k1 + k2 + k3 + k4 + k5 + k6 + k7 + k8 + k9 + k10 + k11 + k12 + k13 := by omega
@[go_sem] theorem le_add_13 {a m k1 k2 k3 k4 k5 k6 k7 k8 k9 k10 k11 k12 k13 : Nat} (h : a < m) : a ≤ m + k1 + k2 + k3 + k4 + k5 + k6 + k7 + k8 + k9 + k10 + k11 + k12 + k13 := by omega
@[go_sem] theorem le_self_13 {a k1 k2 k3 k4 k5 k6 k7 k8 k9 k10 k11 k12 k13 : Nat} : a ≤ a + k1 + k2 + k3 + k4 + k5 + k6 + k7 + k8 + k9 + k10 + k11 + k12 + k13 := by omega
@[go_sem] theorem lt_self_13 {a k1 k2 k3 k4 k5 k6 k7 k8 k9 k10 k11 k12 k13 : Nat} : a < a + 1 + k1 + k2 + k3 + k4 + k5 + k6 + k7 + k8 + k9 + k10 + k11 + k12 + k13 := by omega
@[go_sem] theorem lt_add_14 {a m k1 k2 k3 k4 k5 k6 k7 k8 k9 k10 k11 k12 k13 k14 : Nat} (h : a < m) : a < m + k1 + k2 + k3 + k4 + k5 + k6 + k7 + k8 + k9 + k10 + k11 + k12 + k13 + k14 := by omega
@[go_sem] theorem le_add_14 {a m k1 k2 k3 k4 k5 k6 k7 k8 k9 k10 k11 k12 k13 k14 : Nat} (h : a < m) : a ≤ m + k1 + k2 + k3 + k4 + k5 + k6 + k7 + k8 + k9 + k10 + k11 + k12 + k13 + k14 := by omega
@[go_sem] theorem le_self_14 {a k1 k2 k3 k4 k5 k6 k7 k8 k9 k10 k11 k12 k13 k14 : Nat} : a ≤ a + k1 + k2 + k3 + k4 + k5 + k6 + k7 + k8 + k9 + k10 + k11 + k12 + k13 + k14 := by omega
@[go_sem] theorem lt_self_14 {a k1 k2 k3 k4 k5 k6 k7 k8 k9 k10 k11 k12 k13 k14 : Nat} : a < a + 1 + k1 + k2 + k3 + k4 + k5 + k6 + k7 + k8 + k9 + k10 + k11 + k12 + k13 + k14 := by omega
theorem Ext.refl (w : World) : Ext w w := ⟨⟨#[], w.drawn⟩, by simp [more]⟩
theorem Ext.of_more (w : World) (g : Grow) : Ext w (more w g) := ⟨g, rfl⟩
theorem Ext.trans (h : Ext w w') (k : Ext w' w'') : Ext w w'' := by
  obtain ⟨g, rfl⟩ := h
  obtain ⟨g', rfl⟩ := k
  exact ⟨g.and g', more_more⟩
theorem Ext.alloc (h : Ext w w') (o : Obj) : Ext w (w'.alloc o) := h.trans ⟨⟨#[o], w'.drawn⟩, by unfold more World.alloc; simp⟩
theorem Ext.drew (h : Ext w w') : Ext w w'.drew := h.trans ⟨⟨#[], w'.drawn + 1⟩, by unfold more World.drew; simp⟩
theorem Ext.drewN (h : Ext w w') (n : Nat) : Ext w (w'.drewN n) := h.trans ⟨⟨#[], w'.drawn + n⟩, by unfold more World.drewN; simp⟩
theorem Ext.plus (h : Ext w w') (g : Grow) : Ext w (more w' g) := h.trans ⟨g, rfl⟩
theorem Ext.draws (w : World) (g : Grow) (n : Nat) : Ext (more w g) (more w (g.draws n)) := (Ext.refl (more w g)).drewN n
theorem Ext.size (h : Ext w w') : w.heap.size ≤ w'.heap.size := by
  obtain ⟨g, rfl⟩ := h; rw [more_size]; omega
theorem Ext.heap (h : Ext w w') (hb : b < w.heap.size) : w'.heap[b]? = w.heap[b]? := by
  obtain ⟨g, rfl⟩ := h; exact more_heap hb
theorem Ext.cell (h : Ext w w') (hb : b < w.heap.size) : w'.cell? ⟨b, i, none⟩ = w.cell? ⟨b, i, none⟩ := by
  obtain ⟨g, rfl⟩ := h; exact more_cell hb
theorem Ext.below (h : Ext w w') : Below w.heap.size w w' := by
  obtain ⟨g, rfl⟩ := h
  exact ⟨rfl, rfl, rfl, by rw [more_size]; omega, fun k hk => more_heap hk⟩
theorem Ext.of_below (h : Below w.heap.size w w') : Ext w w' := by
  refine ⟨⟨w'.heap.extract w.heap.size w'.heap.size, w'.drawn⟩, ?_⟩
  have h1 : w'.heap = w.heap ++ w'.heap.extract w.heap.size w'.heap.size := by
    apply Array.ext_getElem?
    intro k
    rw [Array.getElem?_append]
    by_cases hk : k < w.heap.size
    · rw [if_pos hk]; exact h.block k hk
    · rw [if_neg hk]
      have := h.size
      simp only [Array.getElem?_extract]
      by_cases hk2 : k < w'.heap.size
      · rw [if_pos (by omega)]; congr 1; omega
      · rw [if_neg (by omega)]; exact Array.getElem?_eq_none (by omega)
  unfold more
  simp only
  rw [← h1]
  cases w'
  simp [h.os.symm, h.tape.symm, h.output.symm]
/-- A store into a block that 'w' does not have. -/
theorem Ext.setCell (h : Ext w w') {a : Addr} (ha : w.heap.size ≤ a.block) (v : Value) : Ext w (w'.setCell a v) :=
  .of_below (h.below.setCell ha v)
theorem Ext.grown {row : Option Nat} (h : Ext w w') (hg : w'.grownBy w'' row) (hr : ∀ k, row = some k → w.heap.size ≤ k) : Ext w w'' :=
  .of_below (h.below.grown hg h.size hr)
theorem ret_bool {a b : Bool} (h : a = b) : Ending.returned (.bool a) = .returned (.bool b) := by rw [h]
theorem ret_int {k : IntKind} {a b : Int} (h : a = b) : Ending.returned (.int k a) = .returned (.int k b) := by rw [h]
/-- A callee's contract, met behind a draw in a region. -/
theorem in_more {P : Program} {f : FuncId} {args : Array Value} {v : Value}
    (h : Calls P f args (more w g) fun e w' => e = .returned v ∧ Ext (more w g) w') : Calls P f args (more w g) fun e w'' => e = .returned v ∧ ∃ h, w'' = more w h :=
  h.mono fun _ _ ⟨he, g1, hw⟩ => ⟨he, g.and g1, by rw [hw, more_more]⟩
theorem Grow.and_and (g h k : Grow) : (g.and h).and k = g.and (h.and k) := by simp [Grow.and, Array.append_assoc]
theorem in_more2 {P : Program} {f : FuncId} {args : Array Value} {v : Value}
    (h' : Calls P f args (more w (g.and h)) fun e w' => e = .returned v ∧ Ext (more w (g.and h)) w') : Calls P f args (more w (g.and h)) fun e w'' => e = .returned v ∧ ∃ h, w'' = more w (g.and h) :=
  h'.mono fun _ _ ⟨he, g1, hw⟩ => ⟨he, h.and g1, by rw [hw, more_more, Grow.and_and]⟩
theorem region_more {P : Program} {l : List Oper} {id : Nat} {Q : Exit → Act → World → Prop} {a : Act} (hm : P.follows .mixedOrders = true) (hB : Region.lexB .any l.toArray = true)
    (h : wpQuiet P l.toArray (fun w' => ∃ g, w' = more w g) (fun a' => ∀ w', (∃ g, w' = more w g) → Q .normal a' w') l a) : (Code.region id l.toArray true).wp P Q a w :=
  wp_region_quiet (C := fun w' => ∃ g, w' = more w g) hm hB ⟨⟨#[], w.drawn + 1⟩, by simp [more]⟩ (by simpa using h)
end

/-- The data of one element: 'size' cells, in blocks below 'B'. -/
class Cells (α : Type) where
  size : Nat
  rep : World → Nat → α → List Value → Prop
  len : ∀ {w : World} {B : Nat} {x : α} {us : List Value}, rep w B x us → us.length = size
  keep : ∀ {w w' : World} {B B' : Nat} {x : α} {us : List Value}, rep w B x us → (∀ b, b < B → w'.heap[b]? = w.heap[b]?) → B ≤ B' → rep w' B' x us

instance : Cells Int := ⟨1, fun _ _ x us => us = [.int .i64 x], fun h => by subst h; rfl, fun h _ _ => h⟩
instance : Cells Bool := ⟨1, fun _ _ x us => us = [.bool x], fun h => by subst h; rfl, fun h _ _ => h⟩

/-- The slice '.slice A l.length c' reads as the list l; all of it lies in blocks below 'B'. -/
def Arr {α : Type} [Cells α] (w : World) (B : Nat) (A : Option Addr) (c : Nat) (l : List α) : Prop :=
  l.length ≤ c ∧ c ≤ maxLen ∧ (0 < l.length → ∃ b off, A = some ⟨b, off, none⟩ ∧ b < B ∧
    ∀ i x, l[i]? = some x → ∃ us, Cells.rep w B x us ∧ ∀ j u, us[j]? = some u → w.cell? ⟨b, off + i * Cells.size α + j, none⟩ = some u)

theorem Arr.keep {α : Type} [Cells α] {w w' : World} {B B' : Nat} {A : Option Addr} {c : Nat} {l : List α} (h : Arr w B A c l) (hk : ∀ b, b < B → w'.heap[b]? = w.heap[b]?) (hB : B ≤ B') : Arr w' B' A c l := by
  obtain ⟨h1, h2, h3⟩ := h
  refine ⟨h1, h2, fun h0 => ?_⟩
  obtain ⟨b, off, hA, hb, hc⟩ := h3 h0
  refine ⟨b, off, hA, by omega, fun i x hx => ?_⟩
  obtain ⟨us, hr, hu⟩ := hc i x hx
  exact ⟨us, Cells.keep hr hk hB, fun j u hj => (World.cell?_of_block (a := ⟨b, _, none⟩) (hk b hb)).trans (hu j u hj)⟩

instance {α : Type} [Cells α] : Cells (List α) :=
  ⟨1, fun w B l us => ∃ A c, us = [.slice A l.length c] ∧ Arr w B A c l, fun ⟨_, _, h, _⟩ => by subst h; rfl, fun ⟨A, c, h, k⟩ hk hB => ⟨A, c, h, k.keep hk hB⟩⟩

section
variable {α : Type} [Cells α] {w w' : World} {B B' : Nat} {A : Option Addr} {c : Nat} {l : List α}
theorem Arr.ext (h : Arr w B A c l) (hB : B ≤ w.heap.size) (he : Ext w w') : Arr w' w'.heap.size A c l :=
  h.keep (fun b hb => he.heap (by omega)) (by have := he.size; omega)
theorem Arr.up (h : Arr w w.heap.size A c l) (he : Ext w w') : Arr w' w'.heap.size A c l := h.ext (Nat.le_refl _) he
theorem Arr.same (h : Arr w B A c l) (hB : B ≤ w.heap.size) (he : Ext w w') : Arr w' B A c l :=
  h.keep (fun b hb => he.heap (by omega)) (Nat.le_refl _)
theorem Arr.le (h : Arr w B A c l) : l.length ≤ 9223372036854775807 := by have := h.1; have := h.2.1; unfold maxLen at *; omega
end

/-- Element number i of a list of numbers. -/
def nth (l : List Int) (i : Nat) : Int := l.getD i 0
def bth (l : List Bool) (i : Nat) : Bool := l.getD i false
def row {α : Type} (l : List (List α)) (i : Nat) : List α := l.getD i []

section
variable {w : World} {B : Nat} {A : Option Addr} {c : Nat}
theorem Arr.int {l : List Int} (h : Arr w B A c l) (h0 : 0 < l.length) : ∃ b off, A = some ⟨b, off, none⟩ ∧ b < B ∧ ∀ i, i < l.length → w.cell? ⟨b, off + i, none⟩ = some (.int .i64 (nth l i)) := by
  obtain ⟨_, _, h3⟩ := h
  obtain ⟨b, off, hA, hb, hc⟩ := h3 h0
  refine ⟨b, off, hA, hb, fun i hi => ?_⟩
  obtain ⟨us, hr, hu⟩ := hc i l[i] (by simp [hi])
  subst hr
  have := hu 0 (.int .i64 l[i]) rfl
  simpa [Cells.size, nth, hi] using this
theorem Arr.bool {l : List Bool} (h : Arr w B A c l) (h0 : 0 < l.length) : ∃ b off, A = some ⟨b, off, none⟩ ∧ b < B ∧ ∀ i, i < l.length → w.cell? ⟨b, off + i, none⟩ = some (.bool (bth l i)) := by
  obtain ⟨_, _, h3⟩ := h
  obtain ⟨b, off, hA, hb, hc⟩ := h3 h0
  refine ⟨b, off, hA, hb, fun i hi => ?_⟩
  obtain ⟨us, hr, hu⟩ := hc i l[i] (by simp [hi])
  subst hr
  have := hu 0 (.bool l[i]) rfl
  simpa [Cells.size, bth, hi] using this
theorem Arr.rows {α : Type} [Cells α] {l : List (List α)} (h : Arr w B A c l) (h0 : 0 < l.length) : ∃ b off, A = some ⟨b, off, none⟩ ∧ b < B ∧ ∀ i, i < l.length → ∃ Ai ci, w.cell? ⟨b, off + i, none⟩ = some (.slice Ai (row l i).length ci) ∧ Arr w B Ai ci (row l i) := by
  obtain ⟨_, _, h3⟩ := h
  obtain ⟨b, off, hA, hb, hc⟩ := h3 h0
  refine ⟨b, off, hA, hb, fun i hi => ?_⟩
  obtain ⟨us, ⟨Ai, ci, hus, hr⟩, hu⟩ := hc i l[i] (by simp [hi])
  subst hus
  have := hu 0 _ rfl
  have hrow : row l i = l[i] := by simp [row, hi]
  rw [hrow]
  exact ⟨Ai, ci, by simpa [Cells.size] using this, hr⟩
end
end Go.Proofs.Ythpbjihnikapoaa
