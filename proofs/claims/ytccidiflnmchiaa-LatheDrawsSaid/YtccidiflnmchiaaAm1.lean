/- Values without memory: what a Go value says, whatever block it lies in; and a heap of own blocks by their own numbers. No condition. -/
import Derived.WalkKit
import Derived.OrdersIn
import Derived.RangeFuncIn
import Derived.RangeFuncLeaves
import Derived.RangeFuncNested
import Derived.Below
namespace Go.Proofs.Ytccidiflnmchiaa
open Go.RowKit

/-- A value by what it says: a scalar as it is; a slice that nobody writes as its elements; memory of our own by its number. -/
inductive V where
  | s (v : Value)
  | emp
  | agg (cs : List V)
  | tup (cs : List V)
  | list (sz n : Nat) (f : Nat → V)
  | sl (sz b i n : Nat)
  | ptr (sz b i off : Nat)
  | ref (v : V) (off : Nat)
  | fn (f : Fn) (first cap : List V)
  | iface (t : TypeId) (v : V)
  | map (b : Nat)
instance : Inhabited V := ⟨.emp⟩

def V.cells : V → List V
  | .agg cs => cs
  | v => [v]

def capMax : Option Addr → Nat
  | none => 0
  | some _ => maxLen
theorem capMax_le (A : Option Addr) : capMax A ≤ maxLen := by cases A <;> simp [capMax]

/-- Blocks that nobody writes any more, as they are. -/
abbrev Imm := Nat → Option Obj
def Imm.le (I J : Imm) : Prop := ∀ b o, I b = some o → J b = some o

def Pre (ρ σ : List (Option (Nat × Nat))) : Prop := ∀ (k : Nat) x, ρ[k]? = some x → σ[k]? = some x
theorem Pre.refl (ρ : List (Option (Nat × Nat))) : Pre ρ ρ := fun _ _ h => h
theorem Pre.trans {ρ σ τ : List (Option (Nat × Nat))} (h : Pre ρ σ) (k : Pre σ τ) : Pre ρ τ := fun i x a => k i x (h i x a)
theorem Imm.le_refl (I : Imm) : I.le I := fun _ _ h => h
theorem Imm.le_trans {I J K : Imm} (h : I.le J) (k : J.le K) : I.le K := fun b o a => k b o (h b o a)
/-- In a row of cells: the cells from 'off' on. -/
def Lies (I : Imm) (b off n : Nat) (us : Nat → Value) : Prop := ∃ cs ty fz, I b = some (.cells cs ty fz) ∧ ∀ j, j < n → cs[off + j]? = some (us j)

/-- A value of Go's and what it says. 'ρ': where our own blocks lie ('none': nowhere yet). -/
inductive VRel (I : Imm) : List (Option (Nat × Nat)) → V → Value → Prop
  | s {ρ} (v : Value) : VRel I ρ (.s v) v
  | emp {ρ} (A : Option Addr) : VRel I ρ .emp (.slice A 0 0)
  | agg {ρ} {cs : List V} {us : Array Value} (h : us.size = cs.length) (hv : ∀ (j : Nat) v u, cs[j]? = some v → us[j]? = some u → VRel I ρ v u) : VRel I ρ (.agg cs) (.agg us)
  | tup {ρ} {cs : List V} {us : Array Value} (h : us.size = cs.length) (hv : ∀ (j : Nat) v u, cs[j]? = some v → us[j]? = some u → VRel I ρ v u) : VRel I ρ (.tup cs) (.tuple us)
  | list {ρ} {sz n : Nat} {f : Nat → V} {A : Option Addr} {c : Nat} {us : Nat → Nat → Value} (hc : n ≤ c) (hm : c ≤ capMax A)
      (hl : 0 < n → ∃ b off, A = some ⟨b, off, none⟩ ∧ ∀ i, i < n → Lies I b (off + i * sz) sz (us i))
      (hsz : ∀ i, i < n → (f i).cells.length = sz) (hv : ∀ (i j : Nat) v, i < n → (f i).cells[j]? = some v → VRel I [] v (us i j)) : VRel I ρ (.list sz n f) (.slice A n c)
  | sl {ρ} {sz b i n cb z c : Nat} (hb : ρ[b]? = some (some (cb, z))) (hc : n ≤ c) (hm : c ≤ maxLen) (hz : (i + c) * sz ≤ z) : VRel I ρ (.sl sz b i n) (.slice (some ⟨cb, i * sz, none⟩) n c)
  | slNone {ρ} {sz b : Nat} (A : Option Addr) (hb : ρ[b]? = some none) : VRel I ρ (.sl sz b 0 0) (.slice A 0 0)
  | ptr {ρ} {sz b i off cb z : Nat} (hb : ρ[b]? = some (some (cb, z))) : VRel I ρ (.ptr sz b i off) (.pointer (some ⟨cb, i * sz + off, none⟩))
  | ref {ρ} {v : V} {off b o : Nat} {us : Nat → Value} (hl : Lies I b o v.cells.length us) (hv : ∀ (j : Nat) x, v.cells[j]? = some x → VRel I [] x (us j)) : VRel I ρ (.ref v off) (.pointer (some ⟨b, o + off, none⟩))
  | fn {ρ} {f : Fn} {first cap : List V} {us vs : Array Value} (h : us.size = first.length) (hv : ∀ (j : Nat) v u, first[j]? = some v → us[j]? = some u → VRel I ρ v u)
      (h' : vs.size = cap.length) (hv' : ∀ (j : Nat) v u, cap[j]? = some v → vs[j]? = some u → VRel I ρ v u) : VRel I ρ (.fn f first cap) (.func f us vs)
  | iface {ρ} {t : TypeId} {v : V} {u : Value} (h : VRel I ρ v u) : VRel I ρ (.iface t v) (.iface t u)
  | map {ρ} {b cb z : Nat} (hb : ρ[b]? = some (some (cb, z))) : VRel I ρ (.map b) (.map (some cb))

theorem Lies.mono {I J : Imm} {b off n : Nat} {us : Nat → Value} (h : Lies I b off n us) (hI : I.le J) : Lies J b off n us := by
  obtain ⟨cs, ty, fz, h1, h2⟩ := h
  exact ⟨cs, ty, fz, hI _ _ h1, h2⟩

/-- What we know may grow: more blocks that nobody writes, more own blocks. -/
theorem VRel.mono {I J : Imm} {ρ σ : List (Option (Nat × Nat))} {v : V} {u : Value} (h : VRel I ρ v u) (hI : I.le J) (hρ : Pre ρ σ) : VRel J σ v u := by
  induction h generalizing σ with
  | s v => exact .s v
  | emp A => exact .emp A
  | agg h _ ih => exact .agg h fun j v u a b => ih j v u a b hρ
  | tup h _ ih => exact .tup h fun j v u a b => ih j v u a b hρ
  | list hc hm hl hsz _ ih =>
    refine .list hc hm (fun h0 => ?_) hsz fun i j v a b => ih i j v a b (Pre.refl _)
    obtain ⟨b, off, e, k⟩ := hl h0
    exact ⟨b, off, e, fun i hi => (k i hi).mono hI⟩
  | sl hb hc hm hz => exact .sl (hρ _ _ hb) hc hm hz
  | slNone A hb => exact .slNone A (hρ _ _ hb)
  | ptr hb => exact .ptr (hρ _ _ hb)
  | ref hl _ ih => exact .ref (hl.mono hI) fun j x a => ih j x a (Pre.refl _)
  | fn h _ h' _ ih ih' => exact .fn h (fun j v u a b => ih j v u a b hρ) h' (fun j v u a b => ih' j v u a b hρ)
  | iface _ ih => exact .iface (ih hρ)
  | map hb => exact .map (hρ _ _ hb)

theorem VRel.closed {I : Imm} {ρ : List (Option (Nat × Nat))} {v : V} {u : Value} (h : VRel I [] v u) : VRel I ρ v u := h.mono (Imm.le_refl _) (fun k x h => by simp at h)

theorem VRel.list_inv {I : Imm} {ρ : List (Option (Nat × Nat))} {sz n : Nat} {f : Nat → V} {u : Value} (h : VRel I ρ (.list sz n f) u) :
    ∃ (A : Option Addr) (c : Nat) (us : Nat → Nat → Value), u = .slice A n c ∧ n ≤ c ∧ c ≤ capMax A ∧ (0 < n → ∃ b off, A = some ⟨b, off, none⟩ ∧ ∀ i, i < n → Lies I b (off + i * sz) sz (us i)) ∧
      (∀ i, i < n → (f i).cells.length = sz) ∧ ∀ (i j : Nat) v, i < n → (f i).cells[j]? = some v → VRel I [] v (us i j) := by
  cases h with
  | list hc hm hl hsz hv => exact ⟨_, _, _, rfl, hc, hm, hl, hsz, hv⟩

theorem VRel.ptr_inv {I : Imm} {ρ : List (Option (Nat × Nat))} {sz b i off : Nat} {u : Value} (h : VRel I ρ (.ptr sz b i off) u) : ∃ cb z, u = .pointer (some ⟨cb, i * sz + off, none⟩) ∧ ρ[b]? = some (some (cb, z)) := by
  cases h with
  | ptr hb => exact ⟨_, _, rfl, hb⟩
theorem VRel.sl_inv {I : Imm} {ρ : List (Option (Nat × Nat))} {sz b i n : Nat} {u : Value} (h : VRel I ρ (.sl sz b i n) u) :
    (∃ cb z c, u = .slice (some ⟨cb, i * sz, none⟩) n c ∧ ρ[b]? = some (some (cb, z)) ∧ n ≤ c ∧ c ≤ maxLen ∧ (i + c) * sz ≤ z) ∨ (∃ A, u = .slice A 0 0 ∧ ρ[b]? = some none ∧ i = 0 ∧ n = 0) := by
  cases h with
  | sl hb hc hm hz => exact .inl ⟨_, _, _, rfl, hb, hc, hm, hz⟩
  | slNone A hb => exact .inr ⟨A, rfl, hb, rfl, rfl⟩

/-- The cells of a value. -/
theorem VRel.cells {I : Imm} {ρ : List (Option (Nat × Nat))} {v : V} {u : Value} (h : VRel I ρ v u) (hn : ∀ cs, v = .s (.agg cs) → False) :
    u.cells.size = v.cells.length ∧ ∀ (j : Nat) x y, v.cells[j]? = some x → u.cells[j]? = some y → VRel I ρ x y := by
  cases h with
  | agg h hv => exact ⟨h, hv⟩
  | s =>
    have : u.cells = #[u] := by cases u <;> first | rfl | exact (hn _ rfl).elim
    rw [this]
    refine ⟨rfl, fun j x y hx hy => ?_⟩
    cases j with
    | zero => simp [V.cells] at hx hy; subst hx hy; exact .s _
    | succ j => simp [V.cells] at hx
  | emp A => refine ⟨rfl, fun j x y hx hy => ?_⟩; cases j <;> simp [V.cells, Value.cells] at hx hy; subst hx hy; exact .emp A
  | tup h hv => refine ⟨rfl, fun j x y hx hy => ?_⟩; cases j <;> simp [V.cells, Value.cells] at hx hy; subst hx hy; exact .tup h hv
  | list a b c d e => refine ⟨rfl, fun j x y hx hy => ?_⟩; cases j <;> simp [V.cells, Value.cells] at hx hy; subst hx hy; exact .list a b c d e
  | sl a b c d => refine ⟨rfl, fun j x y hx hy => ?_⟩; cases j <;> simp [V.cells, Value.cells] at hx hy; subst hx hy; exact .sl a b c d
  | slNone A a => refine ⟨rfl, fun j x y hx hy => ?_⟩; cases j <;> simp [V.cells, Value.cells] at hx hy; subst hx hy; exact .slNone A a
  | ptr a => refine ⟨rfl, fun j x y hx hy => ?_⟩; cases j <;> simp [V.cells, Value.cells] at hx hy; subst hx hy; exact .ptr a
  | ref a b => refine ⟨rfl, fun j x y hx hy => ?_⟩; cases j <;> simp [V.cells, Value.cells] at hx hy; subst hx hy; exact .ref a b
  | fn a b c d => refine ⟨rfl, fun j x y hx hy => ?_⟩; cases j <;> simp [V.cells, Value.cells] at hx hy; subst hx hy; exact .fn a b c d
  | iface a => refine ⟨rfl, fun j x y hx hy => ?_⟩; cases j <;> simp [V.cells, Value.cells] at hx hy; subst hx hy; exact .iface a
  | map a => refine ⟨rfl, fun j x y hx hy => ?_⟩; cases j <;> simp [V.cells, Value.cells] at hx hy; subst hx hy; exact .map a

/-- A block of our own. -/
inductive Blk where
  | arr (sz n : Nat) (f : Nat → V)
  | map (m : List (Value × V))
  | dead
instance : Inhabited Blk := ⟨.dead⟩
abbrev Heap := List Blk
abbrev Env := List (Nat × V)
def look : Env → Nat → Option V
  | [], _ => none
  | (k, v) :: e, t => bif Nat.beq k t then some v else look e t
theorem look_cons (k : Nat) (v : V) (e : Env) (t : Nat) : look ((k, v) :: e) t = if k = t then some v else look e t := by
  simp only [look]
  by_cases h : k = t
  · subst h; simp
  · have : Nat.beq k t = false := by cases e : Nat.beq k t with | false => rfl | true => exact (h (Nat.eq_of_beq_eq_true e)).elim
    simp [this, h]

/-- What a call began with: the world, its own blocks then, what is known of the others. -/
structure Ctx where
  w : World
  ρ : List (Option (Nat × Nat))
  H : Heap
  I : Imm
def Live (H : Heap) (ρ : List (Option (Nat × Nat))) (b : Nat) : Prop := ∃ (k : Nat) (blk : Blk), H[k]? = some blk ∧ blk ≠ .dead ∧ ∃ z, ρ[k]? = some (some (b, z))

def ArrRel (I : Imm) (ρ : List (Option (Nat × Nat))) (w : World) (b z sz n : Nat) (f : Nat → V) : Prop :=
  ∃ cs ty, w.heap[b]? = some (.cells cs ty (0, 0)) ∧ cs.size = z ∧ n * sz ≤ z ∧ ∀ (i j : Nat) v, i < n → (f i).cells[j]? = some v → ∃ u, cs[i * sz + j]? = some u ∧ VRel I ρ v u
def MapRel (I : Imm) (ρ : List (Option (Nat × Nat))) (w : World) (b : Nat) (m : List (Value × V)) : Prop :=
  ∃ es clock, w.heap[b]? = some (.map es clock) ∧ es.size = m.length ∧ ∀ (i : Nat) e x, es[i]? = some e → m[i]? = some x → e.key = x.1 ∧ VRel I ρ x.2 e.val

/-- The world is as we know it. -/
structure WOk (X : Ctx) (I : Imm) (ρ : List (Option (Nat × Nat))) (H : Heap) (w : World) : Prop where
  len : ρ.length = H.length
  inj : ∀ (i j b : Nat), (∃ x : Blk, H[i]? = some x ∧ x ≠ .dead) → (∃ x : Blk, H[j]? = some x ∧ x ≠ .dead) → ∀ y z, ρ[i]? = some (some (b, y)) → ρ[j]? = some (some (b, z)) → i = j
  imm : ∀ b o, I b = some o → w.heap[b]? = some o
  apart : ∀ b, Live H ρ b → I b = none
  size : ∀ (k sz n : Nat) (f : Nat → V), H[k]? = some (.arr sz n f) → ∀ i : Nat, i < n → (f i).cells.length = sz
  none : ∀ (k sz n : Nat) (f : Nat → V), H[k]? = some (.arr sz n f) → ρ[k]? = some none → n = 0
  arr : ∀ (k sz n : Nat) (f : Nat → V) (b z : Nat), H[k]? = some (.arr sz n f) → ρ[k]? = some (some (b, z)) → ArrRel I ρ w b z sz n f
  map : ∀ (k : Nat) (m : List (Value × V)), H[k]? = some (.map m) → ∃ b, ρ[k]? = some (some (b, 0)) ∧ MapRel I ρ w b m
  mine : ∀ b, Live H ρ b → X.w.heap.size ≤ b ∨ Live X.H X.ρ b
  news : ∀ b, I b ≠ Option.none → X.I b ≠ Option.none ∨ X.w.heap.size ≤ b ∨ Live X.H X.ρ b
  le : X.I.le I
  pre : Pre X.ρ ρ
  os : w.os = X.w.os
  tape : w.tape = X.w.tape
  out : w.output = X.w.output
  grow : X.w.heap.size ≤ w.heap.size
  keep : ∀ b, b < X.w.heap.size → ¬ Live X.H X.ρ b → w.heap[b]? = X.w.heap[b]?

def EnvOk (I : Imm) (ρ : List (Option (Nat × Nat))) (nt : Nat) (env : Env) (a : Act) : Prop :=
  a.tmps.size = nt ∧ ∀ t v, look env t = some v → t < nt ∧ VRel I ρ v (a.tmps.getD t undef)

theorem EnvOk.mono {I J : Imm} {ρ σ : List (Option (Nat × Nat))} {nt : Nat} {env : Env} {a : Act} (h : EnvOk I ρ nt env a) (hI : I.le J) (hρ : Pre ρ σ) : EnvOk J σ nt env a :=
  ⟨h.1, fun t v hv => ⟨(h.2 t v hv).1, (h.2 t v hv).2.mono hI hρ⟩⟩
theorem EnvOk.put {I : Imm} {ρ : List (Option (Nat × Nat))} {nt : Nat} {env : Env} {a : Act} (h : EnvOk I ρ nt env a) {d : Nat} {v : V} {u : Value} (hv : VRel I ρ v u) (hd : d < nt) : EnvOk I ρ nt ((d, v) :: env) (a.put (some d) u) := by
  refine ⟨by simp [Act.put, h.1], fun t x hx => ?_⟩
  rw [look_cons] at hx
  by_cases e : d = t
  · subst e
    rw [if_pos rfl] at hx
    cases hx
    have : d < a.tmps.size := by rw [h.1]; exact hd
    exact ⟨hd, by simpa [Act.put, this] using hv⟩
  · rw [if_neg e] at hx
    obtain ⟨h1, h2⟩ := h.2 t x hx
    refine ⟨h1, ?_⟩
    have e1 : (a.put (some d) u).tmps.getD t undef = a.tmps.getD t undef := by simp [Act.put, Array.getElem?_setIfInBounds_ne e]
    rw [e1]
    exact h2

/-- Operands. -/
def constV : Value → V
  | .agg cs => .agg (cs.toList.map .s)
  | v => .s v
def eo (env : Env) : Operand → Option V
  | .tmp t => look env t
  | .const v => some (constV v)
  | .func f => some (.fn (.func f) [] [])
  | .global _ => none
theorem constV_rel (I : Imm) (ρ : List (Option (Nat × Nat))) (v : Value) : VRel I ρ (constV v) v := by
  cases v <;> first | exact .s _ | skip
  rename_i cs
  refine .agg (by simp) fun j x u hx hu => ?_
  simp only [List.getElem?_map, Array.getElem?_toList] at hx
  rw [hu] at hx
  cases hx
  exact .s _
theorem eo_rel {I : Imm} {ρ : List (Option (Nat × Nat))} {nt : Nat} {env : Env} {a : Act} (h : EnvOk I ρ nt env a) {x : Operand} {v : V} (hx : eo env x = some v) : VRel I ρ v (a.eval x) := by
  cases x with
  | tmp t => exact (h.2 t v hx).2
  | const c => cases hx; exact constV_rel _ _ _
  | func f => cases hx; exact .fn rfl (fun _ _ _ a => by simp at a) rfl (fun _ _ _ a => by simp at a)
  | global g => cases hx

/-- Another world in which all that we know still stands. -/
def Keeps (I : Imm) (ρ : List (Option (Nat × Nat))) (H : Heap) (w w' : World) : Prop :=
  (∀ b o, I b = some o → w'.heap[b]? = some o) ∧
  (∀ (k sz n : Nat) (f : Nat → V) (b z : Nat), H[k]? = some (.arr sz n f) → ρ[k]? = some (some (b, z)) → ∀ o, o < n * sz → w'.cell? ⟨b, o, none⟩ = w.cell? ⟨b, o, none⟩) ∧
  (∀ (k : Nat) (m : List (Value × V)) (b z : Nat), H[k]? = some (.map m) → ρ[k]? = some (some (b, z)) → w'.heap[b]? = w.heap[b]?)
theorem Keeps.refl {X : Ctx} {I : Imm} {ρ : List (Option (Nat × Nat))} {H : Heap} {w : World} (h : WOk X I ρ H w) : Keeps I ρ H w w := ⟨h.imm, fun _ _ _ _ _ _ _ _ _ _ => rfl, fun _ _ _ _ _ _ => rfl⟩

/-- An operation that only looks: one value, in each world in which all that we know stands. -/
structure QS (P : Program) (nt : Nat) (env : Env) (H : Heap) (o : Oper) (v : V) : Prop where
  out : ∀ X I ρ a w, EnvOk I ρ nt env a → WOk X I ρ H w → ∃ u, VRel I ρ v u ∧ ∀ w', Keeps I ρ H w w' → (execOp a.eval o).run P w' = .ok (.value u) w'
end Go.Proofs.Ytccidiflnmchiaa
