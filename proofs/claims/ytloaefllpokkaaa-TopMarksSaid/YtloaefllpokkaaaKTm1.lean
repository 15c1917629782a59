/- Parts of the proof: contracts of functions. No condition. -/
import Derived.WalkKit
import Derived.OrdersIn
import Derived.RangeFuncIn
import Derived.RangeFuncLeaves
import Derived.RangeFuncNested
import Derived.Below
import Derived.Laws.AppendOwn
import Derived.Laws.MakeOwn
import Derived.Laws.CopyRow
import Derived.Laws.StructEq
import Derived.Laws.CopyOwn
import Derived.Test.YtloaefllpokkaaaChecked
import Derived.KernelRfl
import Derived.RecoverIn
import Derived.Laws.Cover3
import Derived.Test.YtloaefllpokkaaaRows
import Derived.ProofKit
import Derived.OpenShut
import Derived.ChangeOld
import Derived.Deep.Slices
set_option linter.unusedSimpArgs false
set_option linter.unusedVariables false
namespace Go.Proofs.Ytloaefllpokkaaa
open Go.RowKit
/-- A value by what it says: a scalar avs it is; a slice that nobody writes avs its elements; memory of our own by its number. -/
inductive V where
  | s (v : Value)
  | emp
  | agg (cs : List V)
  | tup (cs : List V)
  | list (sz n : Nat) (f : Nat → V)
  | sl (sz b i n : Nat)
  | ptr (sz b i off : Nat)
  | ref (v : V) (off : Nat)
  | fn (f : Fn) (first cap : List V)
  | iface (t : TypeId) (v : V)
  | map (b : Nat)
instance : Inhabited V := ⟨.emp⟩
def V.cells : V → List V
  | .agg cs => cs
  | v => [v]
def capMax : Option Addr → Nat
  | none => 0
  | some _ => maxLen
/-- Blocks that nobody writes any more, avs they are. -/
abbrev Imm := Nat → Option Obj
def Imm.le (I J : Imm) : Prop := ∀ b o, I b = some o → J b = some o
def Pre (ρ σ : List (Option (Nat × Nat))) : Prop := ∀ (k : Nat) x, ρ[k]? = some x → σ[k]? = some x
theorem Pre.refl (ρ : List (Option (Nat × Nat))) : Pre ρ ρ := fun _ _ h => h
theorem Pre.trans {ρ σ τ : List (Option (Nat × Nat))} (h : Pre ρ σ) (k : Pre σ τ) : Pre ρ τ := fun i x a => k i x (h i x a)
theorem Imm.le_refl (I : Imm) : I.le I := fun _ _ h => h
theorem Imm.le_trans {I J K : Imm} (h : I.le J) (k : J.le K) : I.le K := fun b o a => k b o (h b o a)
/-- In a row of cells: the cells from 'off' on. -/
def Lies (I : Imm) (b off n : Nat) (us : Nat → Value) : Prop := ∃ cs ty fz, I b = some (.cells cs ty fz) ∧ ∀ j, j < n → cs[off + j]? = some (us j)
/-- A value of Go's and what it says. 'ρ': where our own blocks lie ('none': nowhere yet). -/
inductive VRel (I : Imm) : List (Option (Nat × Nat)) → V → Value → Prop
  | s {ρ} (v : Value) : VRel I ρ (.s v) v
  | emp {ρ} (A : Option Addr) : VRel I ρ .emp (.slice A 0 0)
  | agg {ρ} {cs : List V} {us : Array Value} (h : us.size = cs.length) (hv : ∀ (j : Nat) v u, cs[j]? = some v → us[j]? = some u → VRel I ρ v u) : VRel I ρ (.agg cs) (.agg us)
  | tup {ρ} {cs : List V} {us : Array Value} (h : us.size = cs.length) (hv : ∀ (j : Nat) v u, cs[j]? = some v → us[j]? = some u → VRel I ρ v u) : VRel I ρ (.tup cs) (.tuple us)
  | list {ρ} {sz n : Nat} {f : Nat → V} {A : Option Addr} {c : Nat} {us : Nat → Nat → Value} (hc : n ≤ c) (hm : c ≤ capMax A)
      (hl : 0 < n → ∃ b off, A = some ⟨b, off, none⟩ ∧ ∀ i, i < n → Lies I b (off + i * sz) sz (us i))
      (hsz : ∀ i, i < n → (f i).cells.length = sz) (hv : ∀ (i j : Nat) v, i < n → (f i).cells[j]? = some v → VRel I [] v (us i j)) : VRel I ρ (.list sz n f) (.slice A n c)
  | sl {ρ} {sz b i n cb z c : Nat} (hb : ρ[b]? = some (some (cb, z))) (hc : n ≤ c) (hm : c ≤ maxLen) (hz : (i + c) * sz ≤ z) : VRel I ρ (.sl sz b i n) (.slice (some ⟨cb, i * sz, none⟩) n c)
  | slNone {ρ} {sz b : Nat} (A : Option Addr) (hb : ρ[b]? = some none) : VRel I ρ (.sl sz b 0 0) (.slice A 0 0)
  | ptr {ρ} {sz b i off cb z : Nat} (hb : ρ[b]? = some (some (cb, z))) : VRel I ρ (.ptr sz b i off) (.pointer (some ⟨cb, i * sz + off, none⟩))
  | ref {ρ} {v : V} {off b o : Nat} {us : Nat → Value} (hl : Lies I b o v.cells.length us) (hv : ∀ (j : Nat) x, v.cells[j]? = some x → VRel I [] x (us j)) : VRel I ρ (.ref v off) (.pointer (some ⟨b, o + off, none⟩))
  | fn {ρ} {f : Fn} {first cap : List V} {us vs : Array Value} (h : us.size = first.length) (hv : ∀ (j : Nat) v u, first[j]? = some v → us[j]? = some u → VRel I ρ v u)
      (h' : vs.size = cap.length) (hv' : ∀ (j : Nat) v u, cap[j]? = some v → vs[j]? = some u → VRel I ρ v u) : VRel I ρ (.fn f first cap) (.func f us vs)
  | iface {ρ} {t : TypeId} {v : V} {u : Value} (h : VRel I ρ v u) : VRel I ρ (.iface t v) (.iface t u)
  | map {ρ} {b cb z : Nat} (hb : ρ[b]? = some (some (cb, z))) : VRel I ρ (.map b) (.map (some cb))
theorem Lies.mono {I J : Imm} {b off n : Nat} {us : Nat → Value} (h : Lies I b off n us) (hI : I.le J) : Lies J b off n us := by
  obtain ⟨cs, ty, fz, h1, h2⟩ := h
  exact ⟨cs, ty, fz, hI _ _ h1, h2⟩
/-- What we know may grow: more blocks that nobody writes, more own blocks. -/
theorem VRel.mono {I J : Imm} {ρ σ : List (Option (Nat × Nat))} {v : V} {u : Value} (h : VRel I ρ v u) (hI : I.le J) (hρ : Pre ρ σ) : VRel J σ v u := by
  induction h generalizing σ with
  | s v => exact .s v
  | emp A => exact .emp A
  | agg h _ ih => exact .agg h fun j v u a b => ih j v u a b hρ
  | tup h _ ih => exact .tup h fun j v u a b => ih j v u a b hρ
  | list hc hm hl hsz _ ih =>
    refine .list hc hm (fun h0 => ?_) hsz fun i j v a b => ih i j v a b (Pre.refl _)
    obtain ⟨b, off, e, k⟩ := hl h0
    exact ⟨b, off, e, fun i hi => (k i hi).mono hI⟩
  | sl hb hc hm hz => exact .sl (hρ _ _ hb) hc hm hz
  | slNone A hb => exact .slNone A (hρ _ _ hb)
  | ptr hb => exact .ptr (hρ _ _ hb)
  | ref hl _ ih => exact .ref (hl.mono hI) fun j x a => ih j x a (Pre.refl _)
  | fn h _ h' _ ih ih' => exact .fn h (fun j v u a b => ih j v u a b hρ) h' (fun j v u a b => ih' j v u a b hρ)
  | iface _ ih => exact .iface (ih hρ)
  | map hb => exact .map (hρ _ _ hb)
theorem VRel.closed {I : Imm} {ρ : List (Option (Nat × Nat))} {v : V} {u : Value} (h : VRel I [] v u) : VRel I ρ v u := h.mono (Imm.le_refl _) (fun k x h => by simp at h)
theorem VRel.list_inv {I : Imm} {ρ : List (Option (Nat × Nat))} {sz n : Nat} {f : Nat → V} {u : Value} (h : VRel I ρ (.list sz n f) u) :
    ∃ (A : Option Addr) (c : Nat) (us : Nat → Nat → Value), u = .slice A n c ∧ n ≤ c ∧ c ≤ capMax A ∧ (0 < n → ∃ b off, A = some ⟨b, off, none⟩ ∧ ∀ i, i < n → Lies I b (off + i * sz) sz (us i)) ∧
      (∀ i, i < n → (f i).cells.length = sz) ∧ ∀ (i j : Nat) v, i < n → (f i).cells[j]? = some v → VRel I [] v (us i j) := by
  cases h with
  | list hc hm hl hsz hv => exact ⟨_, _, _, rfl, hc, hm, hl, hsz, hv⟩
theorem VRel.ptr_inv {I : Imm} {ρ : List (Option (Nat × Nat))} {sz b i off : Nat} {u : Value} (h : VRel I ρ (.ptr sz b i off) u) : ∃ cb z, u = .pointer (some ⟨cb, i * sz + off, none⟩) ∧ ρ[b]? = some (some (cb, z)) := by
  cases h with
  | ptr hb => exact ⟨_, _, rfl, hb⟩
theorem VRel.sl_inv {I : Imm} {ρ : List (Option (Nat × Nat))} {sz b i n : Nat} {u : Value} (h : VRel I ρ (.sl sz b i n) u) :
    (∃ cb z c, u = .slice (some ⟨cb, i * sz, none⟩) n c ∧ ρ[b]? = some (some (cb, z)) ∧ n ≤ c ∧ c ≤ maxLen ∧ (i + c) * sz ≤ z) ∨ (∃ A, u = .slice A 0 0 ∧ ρ[b]? = some none ∧ i = 0 ∧ n = 0) := by
  cases h with
  | sl hb hc hm hz => exact .inl ⟨_, _, _, rfl, hb, hc, hm, hz⟩
  | slNone A hb => exact .inr ⟨A, rfl, hb, rfl, rfl⟩
/-- The cells of a value. -/
theorem VRel.cells {I : Imm} {ρ : List (Option (Nat × Nat))} {v : V} {u : Value} (h : VRel I ρ v u) (hn : ∀ cs, v = .s (.agg cs) → False) :
    u.cells.size = v.cells.length ∧ ∀ (j : Nat) x y, v.cells[j]? = some x → u.cells[j]? = some y → VRel I ρ x y := by
  cases h with
  | agg h hv => exact ⟨h, hv⟩
  | s =>
    have : u.cells = #[u] := by cases u <;> first | rfl | exact (hn _ rfl).elim
    rw [this]
    refine ⟨rfl, fun j x y hx hy => ?_⟩
    cases j with
    | zero => simp [V.cells] at hx hy; subst hx hy; exact .s _
    | succ j => simp [V.cells] at hx
  | emp A => refine ⟨rfl, fun j x y hx hy => ?_⟩; cases j <;> simp [V.cells, Value.cells] at hx hy; subst hx hy; exact .emp A
  | tup h hv => refine ⟨rfl, fun j x y hx hy => ?_⟩; cases j <;> simp [V.cells, Value.cells] at hx hy; subst hx hy; exact .tup h hv
  | list a b c d e => refine ⟨rfl, fun j x y hx hy => ?_⟩; cases j <;> simp [V.cells, Value.cells] at hx hy; subst hx hy; exact .list a b c d e
  | sl a b c d => refine ⟨rfl, fun j x y hx hy => ?_⟩; cases j <;> simp [V.cells, Value.cells] at hx hy; subst hx hy; exact .sl a b c d
  | slNone A a => refine ⟨rfl, fun j x y hx hy => ?_⟩; cases j <;> simp [V.cells, Value.cells] at hx hy; subst hx hy; exact .slNone A a
  | ptr a => refine ⟨rfl, fun j x y hx hy => ?_⟩; cases j <;> simp [V.cells, Value.cells] at hx hy; subst hx hy; exact .ptr a
  | ref a b => refine ⟨rfl, fun j x y hx hy => ?_⟩; cases j <;> simp [V.cells, Value.cells] at hx hy; subst hx hy; exact .ref a b
  | fn a b c d => refine ⟨rfl, fun j x y hx hy => ?_⟩; cases j <;> simp [V.cells, Value.cells] at hx hy; subst hx hy; exact .fn a b c d
  | iface a => refine ⟨rfl, fun j x y hx hy => ?_⟩; cases j <;> simp [V.cells, Value.cells] at hx hy; subst hx hy; exact .iface a
  | map a => refine ⟨rfl, fun j x y hx hy => ?_⟩; cases j <;> simp [V.cells, Value.cells] at hx hy; subst hx hy; exact .map a
/-- A block of our own. -/
inductive Blk where
  | arr (sz n : Nat) (f : Nat → V)
  | map (m : List (Value × V))
  | dead
instance : Inhabited Blk := ⟨.dead⟩
abbrev Heap := List Blk
abbrev Env := List (Nat × V)
def look : Env → Nat → Option V
  | [], _ => none
  | (k, v) :: e, t => bif Nat.beq k t then some v else look e t
theorem look_cons (k : Nat) (v : V) (e : Env) (t : Nat) : look ((k, v) :: e) t = if k = t then some v else look e t := by
  simp only [look]
  by_cases h : k = t
  · subst h; simp
  · have : Nat.beq k t = false := by cases e : Nat.beq k t with | false => rfl | true => exact (h (Nat.eq_of_beq_eq_true e)).elim
    simp [this, h]
/-- What a call began with: the world, its own blocks then, what is known of the others. -/
structure Ctx where
  w : World
  ρ : List (Option (Nat × Nat))
  H : Heap
  I : Imm
  base : List Deferred
def Live (H : Heap) (ρ : List (Option (Nat × Nat))) (b : Nat) : Prop := ∃ (k : Nat) (blk : Blk), H[k]? = some blk ∧ blk ≠ .dead ∧ ∃ z, ρ[k]? = some (some (b, z))
def ArrRel (I : Imm) (ρ : List (Option (Nat × Nat))) (w : World) (b z sz n : Nat) (f : Nat → V) : Prop :=
  ∃ cs ty, w.heap[b]? = some (.cells cs ty (0, 0)) ∧ cs.size = z ∧ n * sz ≤ z ∧ ∀ (i j : Nat) v, i < n → (f i).cells[j]? = some v → ∃ u, cs[i * sz + j]? = some u ∧ VRel I ρ v u
/-- No two entries of a map are stamped alike, and none avs the next one will be. -/
def Born (es : Array MapEntry) (clock : Nat) : Prop := (∀ (i : Nat) e, es[i]? = some e → e.born < clock) ∧ ∀ (i j : Nat) e f, es[i]? = some e → es[j]? = some f → e.born = f.born → i = j
structure SizedB (es : Array MapEntry) (clock n : Nat) : Prop where
  size : es.size = n
  born : Born es clock
def MapRel (I : Imm) (ρ : List (Option (Nat × Nat))) (w : World) (b : Nat) (m : List (Value × V)) : Prop :=
  ∃ es clock, w.heap[b]? = some (.map es clock) ∧ SizedB es clock m.length ∧ ∀ (i : Nat) e x, es[i]? = some e → m[i]? = some x → e.key = x.1 ∧ VRel I ρ x.2 e.val
/-- The world is avs we know it. -/
structure WOk (X : Ctx) (I : Imm) (ρ : List (Option (Nat × Nat))) (H : Heap) (w : World) : Prop where
  len : ρ.length = H.length
  inj : ∀ (i j b : Nat), (∃ x : Blk, H[i]? = some x ∧ x ≠ .dead) → (∃ x : Blk, H[j]? = some x ∧ x ≠ .dead) → ∀ y z, ρ[i]? = some (some (b, y)) → ρ[j]? = some (some (b, z)) → i = j
  imm : ∀ b o, I b = some o → w.heap[b]? = some o
  apart : ∀ b, Live H ρ b → I b = none
  size : ∀ (k sz n : Nat) (f : Nat → V), H[k]? = some (.arr sz n f) → ∀ i : Nat, i < n → (f i).cells.length = sz
  none : ∀ (k sz n : Nat) (f : Nat → V), H[k]? = some (.arr sz n f) → ρ[k]? = some none → n = 0
  arr : ∀ (k sz n : Nat) (f : Nat → V) (b z : Nat), H[k]? = some (.arr sz n f) → ρ[k]? = some (some (b, z)) → ArrRel I ρ w b z sz n f
  map : ∀ (k : Nat) (m : List (Value × V)), H[k]? = some (.map m) → ∃ b, ρ[k]? = some (some (b, 0)) ∧ MapRel I ρ w b m
  mine : ∀ b, Live H ρ b → X.w.heap.size ≤ b ∨ Live X.H X.ρ b
  news : ∀ b, I b ≠ Option.none → X.I b ≠ Option.none ∨ X.w.heap.size ≤ b ∨ Live X.H X.ρ b
  le : X.I.le I
  pre : Pre X.ρ ρ
  os : w.os = X.w.os
  tape : w.tape = X.w.tape
  out : w.output = X.w.output
  grow : X.w.heap.size ≤ w.heap.size
  keep : ∀ b, b < X.w.heap.size → ¬ Live X.H X.ρ b → w.heap[b]? = X.w.heap[b]?
def EnvOk (I : Imm) (ρ : List (Option (Nat × Nat))) (nt : Nat) (env : Env) (a : Act) : Prop :=
  a.tmps.size = nt ∧ ∀ t v, look env t = some v → t < nt ∧ VRel I ρ v (a.tmps.getD t undef)
theorem EnvOk.mono {I J : Imm} {ρ σ : List (Option (Nat × Nat))} {nt : Nat} {env : Env} {a : Act} (h : EnvOk I ρ nt env a) (hI : I.le J) (hρ : Pre ρ σ) : EnvOk J σ nt env a :=
  ⟨h.1, fun t v hv => ⟨(h.2 t v hv).1, (h.2 t v hv).2.mono hI hρ⟩⟩
theorem EnvOk.put {I : Imm} {ρ : List (Option (Nat × Nat))} {nt : Nat} {env : Env} {a : Act} (h : EnvOk I ρ nt env a) {d : Nat} {v : V} {u : Value} (hv : VRel I ρ v u) (hd : d < nt) : EnvOk I ρ nt ((d, v) :: env) (a.put (some d) u) := by
  refine ⟨by simp [Act.put, h.1], fun t x hx => ?_⟩
  rw [look_cons] at hx
  by_cases e : d = t
  · subst e
    rw [if_pos rfl] at hx
    cases hx
    have : d < a.tmps.size := by rw [h.1]; exact hd
    exact ⟨hd, by simpa [Act.put, this] using hv⟩
  · rw [if_neg e] at hx
    obtain ⟨h1, h2⟩ := h.2 t x hx
    refine ⟨h1, ?_⟩
    have e1 : (a.put (some d) u).tmps.getD t undef = a.tmps.getD t undef := by simp [Act.put, Array.getElem?_setIfInBounds_ne e]
    rw [e1]
    exact h2
/-- Operands. -/
def constV : Value → V
  | .agg cs => .agg (cs.toList.map .s)
  | v => .s v
def eo (env : Env) : Operand → Option V
  | .tmp t => look env t
  | .const v => some (constV v)
  | .func f => some (.fn (.func f) [] [])
  | .global _ => none
theorem constV_rel (I : Imm) (ρ : List (Option (Nat × Nat))) (v : Value) : VRel I ρ (constV v) v := by
  cases v <;> first | exact .s _ | skip
  rename_i cs
  refine .agg (by simp) fun j x u hx hu => ?_
  simp only [List.getElem?_map, Array.getElem?_toList] at hx
  rw [hu] at hx
  cases hx
  exact .s _
theorem eo_rel {I : Imm} {ρ : List (Option (Nat × Nat))} {nt : Nat} {env : Env} {a : Act} (h : EnvOk I ρ nt env a) {x : Operand} {v : V} (hx : eo env x = some v) : VRel I ρ v (a.eval x) := by
  cases x with
  | tmp t => exact (h.2 t v hx).2
  | const c => cases hx; exact constV_rel _ _ _
  | func f => cases hx; exact .fn rfl (fun _ _ _ a => by simp at a) rfl (fun _ _ _ a => by simp at a)
  | global g => cases hx
/-- Another world in which all that we know still stands. -/
def Keeps (I : Imm) (ρ : List (Option (Nat × Nat))) (H : Heap) (w w' : World) : Prop :=
  (∀ b o, I b = some o → w'.heap[b]? = some o) ∧
  (∀ (k sz n : Nat) (f : Nat → V) (b z : Nat), H[k]? = some (.arr sz n f) → ρ[k]? = some (some (b, z)) → ∀ o, o < n * sz → w'.cell? ⟨b, o, none⟩ = w.cell? ⟨b, o, none⟩) ∧
  (∀ (k : Nat) (m : List (Value × V)) (b z : Nat), H[k]? = some (.map m) → ρ[k]? = some (some (b, z)) → w'.heap[b]? = w.heap[b]?)
theorem Keeps.refl {X : Ctx} {I : Imm} {ρ : List (Option (Nat × Nat))} {H : Heap} {w : World} (h : WOk X I ρ H w) : Keeps I ρ H w w := ⟨h.imm, fun _ _ _ _ _ _ _ _ _ _ => rfl, fun _ _ _ _ _ _ => rfl⟩
/-- An operation that only looks: one value, in each world in which all that we know stands. -/
structure QS (P : Program) (nt : Nat) (env : Env) (H : Heap) (o : Oper) (v : V) : Prop where
  out : ∀ X I ρ a w, EnvOk I ρ nt env a → WOk X I ρ H w → ∃ u, VRel I ρ v u ∧ ∀ w', Keeps I ρ H w w' → (execOp a.eval o).run P w' = .ok (.value u) w'
end Go.Proofs.Ytloaefllpokkaaa
namespace Go.Proofs.Ytloaefllpokkaaa
open Go.RowKit
/-- What a type is. -/
inductive TK where
  | int (k : IntKind)
  | bool
  | slice (e : TypeId)
  | array (n : Nat) (e : TypeId)
  | struct (fs : List (TypeId × Nat))
  | ptr (e : TypeId)
  | map (k e : TypeId)
  | iface (bare : Bool)
  | func
  | other
def TK.of : TypeDesc → TK
  | .int k => .int k
  | .bool => .bool
  | .slice e => .slice e
  | .array n e => .array n e
  | .struct fs => .struct (fs.toList.map fun f => (f.type, f.offset))
  | .pointer e => .ptr e
  | .map k e => .map k e
  | .interface ms => .iface ms.isEmpty
  | .func _ _ _ => .func
  | _ => .other
def TK.agg : TK → Bool
  | .array _ _ => true
  | .struct _ => true
  | _ => false
structure TyD where
  tk : TK
  size : Nat
  bytes : Nat
  zero : Value
structure TyIs (P : Program) (T : TypeId) (d : TyD) : Prop where
  und : (P.underlying T).map TK.of = some d.tk
  info : (P.info? T).map (fun i => (i.size, i.bytes, i.zero)) = some (d.size, d.bytes, some d.zero)
section
variable {P : Program} {T : TypeId} {d : TyD} {w : World}
theorem TyIs.desc (h : TyIs P T d) : ∃ t, P.underlying T = some t ∧ TK.of t = d.tk := by
  have := h.und
  cases hu : P.underlying T with
  | none => rw [hu] at this; cases this
  | some t => rw [hu] at this; exact ⟨t, rfl, by simpa using this⟩
theorem TyIs.inf (h : TyIs P T d) : ∃ i, P.info? T = some i ∧ i.size = d.size ∧ i.bytes = d.bytes ∧ i.zero = some d.zero := by
  have := h.info
  cases hu : P.info? T with
  | none => rw [hu] at this; cases this
  | some i => rw [hu] at this; simp only [Option.map_some, Option.some.injEq, Prod.mk.injEq] at this; exact ⟨i, rfl, this.1, this.2.1, this.2.2⟩
theorem run_underlying {t : TypeDesc} (h : P.underlying T = some t) : (underlying T).run P w = .ok t w := by simp [underlying, h]
theorem TyIs.sizeOf (h : TyIs P T d) : (Go.sizeOf T).run P w = .ok d.size w := by
  obtain ⟨i, hi, hs, _⟩ := h.inf
  simp [Go.sizeOf, typeInfo, hi, hs]
theorem TyIs.isAgg (h : TyIs P T d) : (Go.isAgg T).run P w = .ok d.tk.agg w := by
  obtain ⟨t, ht, hk⟩ := h.desc
  simp only [Go.isAgg, Sem.run_bind, run_underlying ht, Result.andThen_ok]
  rw [← hk]
  cases t <;> rfl
theorem TyIs.zeroV (h : TyIs P T d) : (zeroValue T).run P w = .ok d.zero w := by
  obtain ⟨i, hi, _, _, hz⟩ := h.inf
  simp [zeroValue, typeInfo, hi, hz]
theorem TyIs.slice {e : TypeId} (h : TyIs P T d) (hk : d.tk = .slice e) : P.underlying T = some (.slice e) := by
  obtain ⟨t, ht, hk'⟩ := h.desc
  rw [hk] at hk'
  cases t <;> simp [TK.of] at hk'
  rw [ht, hk']
theorem TyIs.arr {n : Nat} {e : TypeId} (h : TyIs P T d) (hk : d.tk = .array n e) : P.underlying T = some (.array n e) := by
  obtain ⟨t, ht, hk'⟩ := h.desc
  rw [hk] at hk'
  cases t <;> simp [TK.of] at hk'
  rw [ht, hk'.1, hk'.2]
theorem TyIs.map {k e : TypeId} (h : TyIs P T d) (hk : d.tk = .map k e) : P.underlying T = some (.map k e) := by
  obtain ⟨t, ht, hk'⟩ := h.desc
  rw [hk] at hk'
  cases t <;> simp [TK.of] at hk'
  rw [ht, hk'.1, hk'.2]
theorem TyIs.intk {k : IntKind} (h : TyIs P T d) (hk : d.tk = .int k) : P.underlying T = some (.int k) := by
  obtain ⟨t, ht, hk'⟩ := h.desc
  rw [hk] at hk'
  cases t <;> simp [TK.of] at hk'
  rw [ht, hk']
theorem TyIs.boolk (h : TyIs P T d) (hk : d.tk = .bool) : P.underlying T = some .bool := by
  obtain ⟨t, ht, hk'⟩ := h.desc
  rw [hk] at hk'
  cases t <;> simp [TK.of] at hk'
  exact ht
theorem TyIs.field {fs : List (TypeId × Nat)} {k o : Nat} {E : TypeId} (h : TyIs P T d) (hk : d.tk = .struct fs) (hf : fs[k]? = some (E, o)) :
    ∃ (fields : Array Field) (f : Field), P.underlying T = some (.struct fields) ∧ fields[k]? = some f ∧ f.type = E ∧ f.offset = o := by
  obtain ⟨t, ht, hk'⟩ := h.desc
  rw [hk] at hk'
  cases t <;> simp [TK.of] at hk'
  rename_i fields
  subst hk'
  simp only [List.getElem?_map, Array.getElem?_toList] at hf
  cases hg : fields[k]? with
  | none => rw [hg] at hf; cases hf
  | some f =>
    rw [hg] at hf
    simp only [Option.map_some, Option.some.injEq, Prod.mk.injEq] at hf
    exact ⟨fields, f, ht, hg, hf.1, hf.2⟩
theorem loadCellsFrom_run {a : Addr} : ∀ (n i : Nat) (acc : Array Value) (us : Nat → Value), (∀ j, j < n → w.cell? (a.add (i + j)) = some (us j)) →
    (loadCellsFrom a i n acc).run P w = .ok (acc ++ ((List.range n).map us).toArray) w
  | 0, i, acc, us, _ => by simp [loadCellsFrom]
  | n + 1, i, acc, us, h => by
    have h0 := h 0 (by omega)
    have ih := loadCellsFrom_run n (i + 1) (acc.push (us 0)) (fun j => us (j + 1)) (fun j hj => by have := h (j + 1) (by omega); rwa [show i + 1 + j = i + (j + 1) by omega])
    simp only [loadCellsFrom, Sem.run_bind, run_load]
    rw [Nat.add_zero] at h0
    simp only [h0, Result.andThen_ok, ih]
    congr 1
    rw [List.range_succ_eq_map]
    have e : ∀ (l : List Value), acc.push (us 0) ++ l.toArray = acc ++ (us 0 :: l).toArray := fun l => by
      apply Array.ext_getElem?
      intro k
      simp only [Array.getElem?_append, Array.size_push, Array.getElem?_push]
      by_cases h1 : k < acc.size
      · simp [h1, show k < acc.size + 1 by omega, show k ≠ acc.size by omega]
      · by_cases h2 : k = acc.size
        · subst h2; simp
        · rw [if_neg (by omega), if_neg (by omega), show k - acc.size = (k - (acc.size + 1)) + 1 by omega]; simp
    simp only [List.map_cons, List.map_map]
    rw [e]
    rfl
theorem loadCells_run {a : Addr} {n : Nat} {us : Nat → Value} (h : ∀ j, j < n → w.cell? (a.add j) = some (us j)) : (loadCells a n).run P w = .ok ((List.range n).map us).toArray w := by
  unfold loadCells
  rw [loadCellsFrom_run n 0 #[] us (fun j hj => by rw [Nat.zero_add]; exact h j hj)]
  simp
/-- The value that lies in some cells. -/
def partV (agg : Bool) (cs : List V) (off size : Nat) : Option V :=
  match agg with
  | true => bif Nat.ble (off + size) cs.length then some (.agg ((cs.drop off).take size)) else none
  | false => cs[off]?
/-- What is loaded. -/
theorem loadAt_run {I : Imm} {ρ : List (Option (Nat × Nat))} (h : TyIs P T d) {cs : List V} {us : Nat → Value} (hr : ∀ (j : Nat) x, cs[j]? = some x → VRel I ρ x (us j)) {off : Nat} {v : V} (hv : partV d.tk.agg cs off d.size = some v) (b o : Nat) :
    ∃ u, VRel I ρ v u ∧ ∀ w : World, (∀ j, j < cs.length → w.cell? ⟨b, o + j, none⟩ = some (us j)) → (Instr.loadAt T (.pointer (some ⟨b, o + off, none⟩))).run P w = .ok u w := by
  cases ha : d.tk.agg
  · rw [ha] at hv
    have hv' : cs[off]? = some v := hv
    refine ⟨us off, hr _ _ hv', fun w hw => ?_⟩
    simp only [Instr.loadAt, Instr.sureAddr, loadVar, Sem.run_bind, Sem.run_pure, Result.andThen_ok, h.isAgg, ha, Bool.false_eq_true, if_false, run_load]
    rw [hw off (List.getElem?_eq_some_iff.1 hv').1]
  · rw [ha] at hv
    simp only [partV] at hv
    cases hb : Nat.ble (off + d.size) cs.length
    · rw [hb] at hv; cases hv
    · rw [hb] at hv
      have hle := Nat.le_of_ble_eq_true hb
      simp only [cond_true, Option.some.injEq] at hv
      subst hv
      refine ⟨.agg ((List.range d.size).map fun j => us (off + j)).toArray, .agg (by simp; omega) fun j x u hx hu => ?_, fun w hw => ?_⟩
      · simp only [List.getElem?_take, List.getElem?_drop] at hx
        by_cases hj : j < d.size
        · rw [if_pos hj] at hx
          have := hr _ _ hx
          simp [hj] at hu
          rwa [← hu]
        · rw [if_neg hj] at hx; cases hx
      · simp only [Instr.loadAt, Instr.sureAddr, loadVar, Sem.run_bind, Sem.run_pure, Result.andThen_ok, h.isAgg, ha, if_true, h.sizeOf]
        rw [loadCells_run (us := fun j => us (off + j)) fun j hj => by
          have := hw (off + j) (by omega)
          by_cases h0 : j = 0
          · subst h0; simpa [Addr.add] using this
          · simpa [Addr.add, Nat.add_assoc, h0] using this]
        simp
end
section
variable {P : Program} {nt : Nat} {env : Env} {H : Heap} {dst : Option Tmp} {ty : TypeId} {pos : String} {after : Array Edge} {guard : Option (Nat × Bool)} {x y c : Operand} {T : TypeId} {d : TyD} {v : V}
theorem qs_move (h : eo env x = some v) : QS P nt env H ⟨dst, .move x, ty, pos, after, guard⟩ v := .mk
  fun _ _ _ a _ he _ => ⟨a.eval x, eo_rel he h, fun _ _ => rfl⟩
theorem qs_assign (h : eo env x = some v) : QS P nt env H ⟨dst, .assign x, ty, pos, after, guard⟩ v := .mk
  fun _ _ _ a _ he _ => ⟨a.eval x, eo_rel he h, fun _ _ => rfl⟩
theorem qs_pick_t (hc : eo env c = some (.s (.bool true))) (h : eo env x = some v) : QS P nt env H ⟨dst, .pick c x y, ty, pos, after, guard⟩ v := .mk
  fun _ _ _ a _ he _ => by
    have h1 := eo_rel he hc
    have h2 := eo_rel he h
    cases h1' : a.eval c <;> rw [h1'] at h1 <;> cases h1
    exact ⟨_, h2, fun w' _ => by simp [execOp, h1', asBool]⟩
theorem qs_pick_f (hc : eo env c = some (.s (.bool false))) (h : eo env y = some v) : QS P nt env H ⟨dst, .pick c x y, ty, pos, after, guard⟩ v := .mk
  fun _ _ _ a _ he _ => by
    have h1 := eo_rel he hc
    have h2 := eo_rel he h
    cases h1' : a.eval c <;> rw [h1'] at h1 <;> cases h1
    exact ⟨_, h2, fun w' _ => by simp [execOp, h1', asBool]⟩
theorem cell_of {w : World} {b : Nat} {cs : Array Value} {ty : TypeId} {fz : Nat × Nat} (h : w.heap[b]? = some (.cells cs ty fz)) (o : Nat) : w.cell? ⟨b, o, none⟩ = cs[o]? := by
  simp [World.cell?, h]
theorem qs_load_ref {r : V} {off : Nat} (ht : TyIs P T d) (hx : eo env x = some (.ref r off)) (hv : partV d.tk.agg r.cells off d.size = some v) : QS P nt env H ⟨dst, .load T x, ty, pos, after, guard⟩ v := .mk
  fun _ I ρ a w he hw => by
    have h1 := eo_rel he hx
    cases h1' : a.eval x <;> rw [h1'] at h1 <;> cases h1
    rename_i b o us hl hr
    obtain ⟨u, hu, hrun⟩ := loadAt_run (I := I) (ρ := ρ) ht (fun j x hj => (hr j x hj).closed) hv b o
    refine ⟨u, hu, fun w' hk => ?_⟩
    obtain ⟨cs, ty, fz, hI, hc⟩ := hl
    have := hrun w' (fun j hj => by rw [cell_of (hk.1 _ _ hI)]; exact hc j hj)
    simp [execOp, h1', this]
theorem qs_load_ptr {sz b i off n : Nat} {f : Nat → V} (ht : TyIs P T d) (hx : eo env x = some (.ptr sz b i off)) (hH : H[b]? = some (.arr sz n f)) (hi : i < n) (hv : partV d.tk.agg (f i).cells off d.size = some v) :
    QS P nt env H ⟨dst, .load T x, ty, pos, after, guard⟩ v := .mk
  fun _ I ρ a w he hw => by
    have h1 := eo_rel he hx
    obtain ⟨cb, z, h1', hb⟩ := h1.ptr_inv
    obtain ⟨cs, ty, hc, hz, hn, hr⟩ := hw.arr _ _ _ _ _ _ hH hb
    have hs := hw.size _ _ _ _ hH i hi
    have hlt : i * sz + sz ≤ n * sz := by rw [← Nat.succ_mul]; exact Nat.mul_le_mul_right _ hi
    obtain ⟨u, hu, hrun⟩ := loadAt_run (I := I) (ρ := ρ) (us := fun j => cs.getD (i * sz + j) undef) ht (fun j x hj => by
      obtain ⟨u, h2, h3⟩ := hr i j x hi hj
      rw [show cs.getD (i * sz + j) undef = u by simp [h2]]
      exact h3) hv cb (i * sz)
    refine ⟨u, hu, fun w' hk => ?_⟩
    have := hrun w' (fun j hj => by
      rw [hk.2.1 _ _ _ _ _ _ hH hb _ (by rw [hs] at hj; omega), cell_of hc]
      have : i * sz + j < cs.size := by rw [hs] at hj; omega
      simp [this])
    simp [execOp, h1', this]
theorem addr_add (b o k : Nat) : (⟨b, o, none⟩ : Addr).add k = ⟨b, o + k, none⟩ := by
  unfold Addr.add
  split <;> simp_all
theorem fieldPlace_run {f : Field} {w : World} {b o : Nat} {d : TyD} (h : TyIs P f.type d) (hs : d.size ≠ 0) : (fieldPlace ⟨b, o, none⟩ f).run P w = .ok ⟨b, o + f.offset, none⟩ w := by
  simp [fieldPlace, h.sizeOf, hs, addr_add]
theorem qs_faddr_ref {r : V} {off k o : Nat} {fs : List (TypeId × Nat)} {E : TypeId} {de : TyD} (ht : TyIs P T d) (hk : d.tk = .struct fs) (hf : fs[k]? = some (E, o)) (he : TyIs P E de) (hz : de.size ≠ 0) (hx : eo env x = some (.ref r off)) :
    QS P nt env H ⟨dst, .fieldAddr T x k, ty, pos, after, guard⟩ (.ref r (off + o)) := .mk
  fun _ I ρ a w h hw => by
    have h1 := eo_rel h hx
    cases h1' : a.eval x <;> rw [h1'] at h1 <;> cases h1
    rename_i b o' us hl hr
    obtain ⟨fields, f, hu, hg, rfl, rfl⟩ := ht.field hk hf
    refine ⟨.pointer (some ⟨b, o' + (off + f.offset), none⟩), .ref hl hr, fun w' _ => ?_⟩
    simp [execOp, h1', Instr.fieldAt, run_underlying hu, hg, Instr.sureAddr, fieldPlace_run he hz, Nat.add_assoc]
theorem qs_faddr_ptr {sz b i off k o : Nat} {fs : List (TypeId × Nat)} {E : TypeId} {de : TyD} (ht : TyIs P T d) (hk : d.tk = .struct fs) (hf : fs[k]? = some (E, o)) (he : TyIs P E de) (hz : de.size ≠ 0) (hx : eo env x = some (.ptr sz b i off)) :
    QS P nt env H ⟨dst, .fieldAddr T x k, ty, pos, after, guard⟩ (.ptr sz b i (off + o)) := .mk
  fun _ I ρ a w h hw => by
    have h1 := eo_rel h hx
    obtain ⟨cb, z, h1', hb⟩ := h1.ptr_inv
    obtain ⟨fields, f, hu, hg, rfl, rfl⟩ := ht.field hk hf
    refine ⟨.pointer (some ⟨cb, i * sz + (off + f.offset), none⟩), .ptr hb, fun w' _ => ?_⟩
    simp [execOp, h1', Instr.fieldAt, run_underlying hu, hg, Instr.sureAddr, fieldPlace_run he hz, Nat.add_assoc]
theorem part_run {I : Imm} {ρ : List (Option (Nat × Nat))} {cs : List V} {us : Array Value} (ht : TyIs P T d) (hs : us.size = cs.length) (hr : ∀ (j : Nat) x u, cs[j]? = some x → us[j]? = some u → VRel I ρ x u) {off : Nat} (hv : partV d.tk.agg cs off d.size = some v) :
    ∃ u, VRel I ρ v u ∧ ∀ w : World, (part T us off).run P w = .ok u w := by
  cases ha : d.tk.agg
  · rw [ha] at hv
    have hv' : cs[off]? = some v := hv
    have hlt : off < us.size := by rw [hs]; exact (List.getElem?_eq_some_iff.1 hv').1
    refine ⟨us[off], hr _ _ _ hv' (by simp [hlt]), fun w => ?_⟩
    simp [part, ht.isAgg, ha, hlt]
  · rw [ha] at hv
    simp only [partV] at hv
    cases hb : Nat.ble (off + d.size) cs.length
    · rw [hb] at hv; cases hv
    · rw [hb] at hv
      have hle := Nat.le_of_ble_eq_true hb
      simp only [cond_true, Option.some.injEq] at hv
      subst hv
      refine ⟨.agg (us.extract off (off + d.size)), .agg (by simp; omega) fun j x u hx hu => ?_, fun w => ?_⟩
      · simp only [List.getElem?_take, List.getElem?_drop] at hx
        by_cases hj : j < d.size
        · rw [if_pos hj] at hx
          refine hr _ _ _ hx ?_
          rw [Array.getElem?_extract] at hu
          simpa [show j < min (off + d.size) us.size - off by omega] using hu
        · rw [if_neg hj] at hx; cases hx
      · simp [part, ht.isAgg, ha, ht.sizeOf]
theorem qs_extract {cs : List V} {k : Nat} (hx : eo env x = some (.tup cs)) (hv : cs[k]? = some v) : QS P nt env H ⟨dst, .extract x k, ty, pos, after, guard⟩ v := .mk
  fun _ I ρ a w h hw => by
    have h1 := eo_rel h hx
    cases h1' : a.eval x <;> rw [h1'] at h1 <;> cases h1
    rename_i us hs hr
    have hlt : k < us.size := by rw [hs]; exact (List.getElem?_eq_some_iff.1 hv).1
    exact ⟨us[k], hr _ _ _ hv (by simp [hlt]), fun w' _ => by simp [execOp, h1', Instr.extract, hlt]⟩
theorem qs_not {b : Bool} (hx : eo env x = some (.s (.bool b))) : QS P nt env H ⟨dst, .unOp .not T x, ty, pos, after, guard⟩ (.s (.bool !b)) := .mk
  fun _ I ρ a w h hw => by
    have h1 := eo_rel h hx
    cases h1' : a.eval x <;> rw [h1'] at h1 <;> cases h1
    exact ⟨_, .s _, fun w' _ => by simp [execOp, h1', Op.unary]⟩
theorem qs_neg {k : IntKind} {n r : Int} (hx : eo env x = some (.s (.int k n))) (hr : k.wrap (0 - n) = r) : QS P nt env H ⟨dst, .unOp .neg T x, ty, pos, after, guard⟩ (.s (.int k r)) := .mk
  fun _ I ρ a w h hw => by
    have h1 := eo_rel h hx
    cases h1' : a.eval x <;> rw [h1'] at h1 <;> cases h1
    exact ⟨_, .s _, fun w' _ => by simp [execOp, h1', Op.unary, Op.intArith, ← hr]⟩
/-- Two numbers. -/
theorem int2 {I : Imm} {ρ : List (Option (Nat × Nat))} {a : Act} {k k' : IntKind} {m n : Int} (h : EnvOk I ρ nt env a) (hx : eo env x = some (.s (.int k m))) (hy : eo env y = some (.s (.int k' n))) : a.eval x = .int k m ∧ a.eval y = .int k' n := by
  have h1 := eo_rel h hx
  have h2 := eo_rel h hy
  cases h1' : a.eval x <;> rw [h1'] at h1 <;> cases h1
  cases h2' : a.eval y <;> rw [h2'] at h2 <;> cases h2
  exact ⟨rfl, rfl⟩
variable {k : IntKind} {m n r : Int} {T' : TypeId}
theorem qs_add (hx : eo env x = some (.s (.int k m))) (hy : eo env y = some (.s (.int k n))) (hr : k.wrap (m + n) = r) : QS P nt env H ⟨dst, .binOp .add T x y T', ty, pos, after, guard⟩ (.s (.int k r)) := .mk
  fun _ I ρ a w h hw => by
    obtain ⟨h1, h2⟩ := int2 h hx hy
    exact ⟨_, .s _, fun w' _ => by simp [execOp, h1, h2, eqGuard, binOp, Op.intArith, ← hr]⟩
theorem qs_sub (hx : eo env x = some (.s (.int k m))) (hy : eo env y = some (.s (.int k n))) (hr : k.wrap (m - n) = r) : QS P nt env H ⟨dst, .binOp .sub T x y T', ty, pos, after, guard⟩ (.s (.int k r)) := .mk
  fun _ I ρ a w h hw => by
    obtain ⟨h1, h2⟩ := int2 h hx hy
    exact ⟨_, .s _, fun w' _ => by simp [execOp, h1, h2, eqGuard, binOp, Op.intArith, ← hr]⟩
theorem qs_mul (hx : eo env x = some (.s (.int k m))) (hy : eo env y = some (.s (.int k n))) (hr : k.wrap (m * n) = r) : QS P nt env H ⟨dst, .binOp .mul T x y T', ty, pos, after, guard⟩ (.s (.int k r)) := .mk
  fun _ I ρ a w h hw => by
    obtain ⟨h1, h2⟩ := int2 h hx hy
    exact ⟨_, .s _, fun w' _ => by simp [execOp, h1, h2, eqGuard, binOp, Op.intArith, ← hr]⟩
theorem qs_quo (hx : eo env x = some (.s (.int k m))) (hy : eo env y = some (.s (.int k n))) (hn : n ≠ 0) (hr : k.wrap (m.tdiv n) = r) : QS P nt env H ⟨dst, .binOp .quo T x y T', ty, pos, after, guard⟩ (.s (.int k r)) := .mk
  fun _ I ρ a w h hw => by
    obtain ⟨h1, h2⟩ := int2 h hx hy
    exact ⟨_, .s _, fun w' _ => by simp [execOp, h1, h2, eqGuard, binOp, Op.intDiv, hn, ← hr]⟩
theorem qs_rem (hx : eo env x = some (.s (.int k m))) (hy : eo env y = some (.s (.int k n))) (hn : n ≠ 0) (hr : m.tmod n = r) : QS P nt env H ⟨dst, .binOp .rem T x y T', ty, pos, after, guard⟩ (.s (.int k r)) := .mk
  fun _ I ρ a w h hw => by
    obtain ⟨h1, h2⟩ := int2 h hx hy
    exact ⟨_, .s _, fun w' _ => by simp [execOp, h1, h2, eqGuard, binOp, Op.intDiv, hn, ← hr]⟩
theorem qs_and (hx : eo env x = some (.s (.int k m))) (hy : eo env y = some (.s (.int k n))) (hr : k.wrap ((BitVec.ofInt k.bits m &&& BitVec.ofInt k.bits n).toNat : Int) = r) : QS P nt env H ⟨dst, .binOp .and T x y T', ty, pos, after, guard⟩ (.s (.int k r)) := .mk
  fun _ I ρ a w h hw => by
    obtain ⟨h1, h2⟩ := int2 h hx hy
    refine ⟨_, .s _, fun w' _ => ?_⟩
    subst hr
    simp [execOp, h1, h2, eqGuard, binOp, Op.intBits]
theorem qs_shr {k' : IntKind} (hx : eo env x = some (.s (.int k m))) (hy : eo env y = some (.s (.int k' n))) (hn : 0 ≤ n) (hr : m.fdiv (2 ^ (min n.toNat k.bits)) = r) : QS P nt env H ⟨dst, .binOp .shr T x y T', ty, pos, after, guard⟩ (.s (.int k r)) := .mk
  fun _ I ρ a w h hw => by
    obtain ⟨h1, h2⟩ := int2 h hx hy
    refine ⟨_, .s _, fun w' _ => ?_⟩
    subst hr
    simp [execOp, h1, h2, eqGuard, binOp, Op.shift, show ¬ n < 0 by omega]
theorem qs_eql (hx : eo env x = some (.s (.int k m))) (hy : eo env y = some (.s (.int k n))) : QS P nt env H ⟨dst, .binOp .eql T x y T', ty, pos, after, guard⟩ (.s (.bool (decide (m = n)))) := .mk
  fun _ I ρ a w h hw => by
    obtain ⟨h1, h2⟩ := int2 h hx hy
    exact ⟨_, .s _, fun w' _ => by simp [execOp, h1, h2, eqGuard, binOp, Op.intCmp]; rfl⟩
theorem qs_neq (hx : eo env x = some (.s (.int k m))) (hy : eo env y = some (.s (.int k n))) : QS P nt env H ⟨dst, .binOp .neq T x y T', ty, pos, after, guard⟩ (.s (.bool (!decide (m = n)))) := .mk
  fun _ I ρ a w h hw => by
    obtain ⟨h1, h2⟩ := int2 h hx hy
    exact ⟨_, .s _, fun w' _ => by simp [execOp, h1, h2, eqGuard, binOp, Op.intCmp]; rfl⟩
theorem qs_lss (hx : eo env x = some (.s (.int k m))) (hy : eo env y = some (.s (.int k n))) : QS P nt env H ⟨dst, .binOp .lss T x y T', ty, pos, after, guard⟩ (.s (.bool (decide (m < n)))) := .mk
  fun _ I ρ a w h hw => by
    obtain ⟨h1, h2⟩ := int2 h hx hy
    exact ⟨_, .s _, fun w' _ => by simp [execOp, h1, h2, eqGuard, binOp, Op.intCmp]⟩
theorem qs_leq (hx : eo env x = some (.s (.int k m))) (hy : eo env y = some (.s (.int k n))) : QS P nt env H ⟨dst, .binOp .leq T x y T', ty, pos, after, guard⟩ (.s (.bool (decide (m ≤ n)))) := .mk
  fun _ I ρ a w h hw => by
    obtain ⟨h1, h2⟩ := int2 h hx hy
    exact ⟨_, .s _, fun w' _ => by simp [execOp, h1, h2, eqGuard, binOp, Op.intCmp]⟩
theorem qs_gtr (hx : eo env x = some (.s (.int k m))) (hy : eo env y = some (.s (.int k n))) : QS P nt env H ⟨dst, .binOp .gtr T x y T', ty, pos, after, guard⟩ (.s (.bool (decide (n < m)))) := .mk
  fun _ I ρ a w h hw => by
    obtain ⟨h1, h2⟩ := int2 h hx hy
    exact ⟨_, .s _, fun w' _ => by simp [execOp, h1, h2, eqGuard, binOp, Op.intCmp]⟩
theorem qs_geq (hx : eo env x = some (.s (.int k m))) (hy : eo env y = some (.s (.int k n))) : QS P nt env H ⟨dst, .binOp .geq T x y T', ty, pos, after, guard⟩ (.s (.bool (decide (n ≤ m)))) := .mk
  fun _ I ρ a w h hw => by
    obtain ⟨h1, h2⟩ := int2 h hx hy
    exact ⟨_, .s _, fun w' _ => by simp [execOp, h1, h2, eqGuard, binOp, Op.intCmp]⟩
theorem qs_conv {k' : IntKind} {D : TypeId} {dd : TyD} {ds : TyD} (hs : TyIs P T ds) (hsk : ds.tk = .int k') (ht : TyIs P D dd) (hk : dd.tk = .int k) (hx : eo env x = some (.s (.int k' m))) (hr : k.wrap m = r) : QS P nt env H ⟨dst, .convert T D x, ty, pos, after, guard⟩ (.s (.int k r)) := .mk
  fun _ I ρ a w h hw => by
    have h1 := eo_rel h hx
    cases h1' : a.eval x <;> rw [h1'] at h1 <;> cases h1
    exact ⟨_, .s _, fun w' _ => by simp [execOp, h1', convert, run_underlying (ht.intk hk), run_underlying (hs.intk hsk), Conv.intToInt, ← hr]⟩
theorem qs_min (hx : eo env x = some (.s (.int k m))) (hy : eo env y = some (.s (.int k n))) {ats : Array TypeId} : QS P nt env H ⟨dst, .call ⟨.builtin .min, #[x, y], ats⟩, ty, pos, after, guard⟩ (.s (.int k (min m n))) := .mk
  fun _ I ρ a w h hw => by
    obtain ⟨h1, h2⟩ := int2 h hx hy
    refine ⟨_, .s _, fun w' _ => ?_⟩
    have e : min m n = if n < m then n else m := by split <;> omega
    rw [e]
    simp [execOp, resolve, invoke, builtin, Builtin.min_, Builtin.min2, h1, h2]
theorem qs_max (hx : eo env x = some (.s (.int k m))) (hy : eo env y = some (.s (.int k n))) {ats : Array TypeId} : QS P nt env H ⟨dst, .call ⟨.builtin .max, #[x, y], ats⟩, ty, pos, after, guard⟩ (.s (.int k (max m n))) := .mk
  fun _ I ρ a w h hw => by
    obtain ⟨h1, h2⟩ := int2 h hx hy
    refine ⟨_, .s _, fun w' _ => ?_⟩
    have e : max m n = if n > m then n else m := by split <;> omega
    rw [e]
    simp [execOp, resolve, invoke, builtin, Builtin.max_, Builtin.max2, h1, h2]
end
end Go.Proofs.Ytloaefllpokkaaa
namespace Go.Proofs.Ytloaefllpokkaaa
open Go.RowKit
section
variable {P : Program} {nt : Nat} {env : Env} {H : Heap} {dst : Option Tmp} {ty : TypeId} {pos : String} {after : Array Edge} {guard : Option (Nat × Bool)} {x y c : Operand} {T E : TypeId} {d de : TyD} {v : V}
theorem int1 {I : Imm} {ρ : List (Option (Nat × Nat))} {a : Act} {k : IntKind} {m : Int} (h : EnvOk I ρ nt env a) (hx : eo env x = some (.s (.int k m))) : a.eval x = .int k m := by
  have h1 := eo_rel h hx
  cases h1' : a.eval x <;> rw [h1'] at h1 <;> cases h1
  rfl
theorem indexAt_run {w : World} {A : Option Addr} {b off n cap j : Nat} {k : IntKind} (ht : TyIs P T d) (hk : d.tk = .slice E) (he : TyIs P E de) (hA : A = some ⟨b, off, none⟩) (hj : j < n) :
    (Instr.indexAt T (.slice A n cap) (.int k (j : Int))).run P w = .ok (.pointer (some ⟨b, off + j * de.size, none⟩)) w := by
  subst hA
  simp [Instr.indexAt, asIntOf, run_underlying (ht.slice hk), he.sizeOf, addr_add, hj]
theorem qs_iaddr_list {sz n j : Nat} {f : Nat → V} {k : IntKind} {m : Int} (ht : TyIs P T d) (hk : d.tk = .slice E) (he : TyIs P E de) (hs : de.size = sz) (hx : eo env x = some (.list sz n f)) (hy : eo env y = some (.s (.int k m))) (hm : m = (j : Int)) (hj : j < n) :
    QS P nt env H ⟨dst, .indexAddr T x y, ty, pos, after, guard⟩ (.ref (f j) 0) := .mk
  fun _ I ρ a w h hw => by
    have h1 := eo_rel h hx
    have h2 := int1 h hy
    subst hm
    obtain ⟨A, c, us, h1', hc, hm, hl, hsz, hv⟩ := h1.list_inv
    obtain ⟨b, off, hA, hL⟩ := hl (by omega)
    have hLj : Lies I b (off + j * sz) (f j).cells.length (us j) := by rw [hsz j hj]; exact hL j hj
    refine ⟨.pointer (some ⟨b, off + j * sz + 0, none⟩), .ref hLj fun i x hx => hv j i x hj hx, fun w' _ => ?_⟩
    simp [execOp, h1', h2, indexAt_run ht hk he hA hj, hs]
theorem qs_iaddr_sl {sz b i n j : Nat} {k : IntKind} {m : Int} (ht : TyIs P T d) (hk : d.tk = .slice E) (he : TyIs P E de) (hs : de.size = sz) (hx : eo env x = some (.sl sz b i n)) (hy : eo env y = some (.s (.int k m))) (hm : m = (j : Int)) (hj : j < n) :
    QS P nt env H ⟨dst, .indexAddr T x y, ty, pos, after, guard⟩ (.ptr sz b (i + j) 0) := .mk
  fun _ I ρ a w h hw => by
    have h1 := eo_rel h hx
    have h2 := int1 h hy
    subst hm
    rcases h1.sl_inv with ⟨cb, z, c, h1', hb, hc, hm, hz⟩ | ⟨_, _, _, _, rfl⟩
    · refine ⟨.pointer (some ⟨cb, (i + j) * sz + 0, none⟩), .ptr hb, fun w' _ => ?_⟩
      simp [execOp, h1', h2, indexAt_run ht hk he rfl hj , hs, Nat.add_mul]
    · omega
theorem qs_iaddr_aref {r : V} {off n j : Nat} {k : IntKind} {m : Int} (ht : TyIs P T d) (hk : d.tk = .array n E) (he : TyIs P E de) (hx : eo env x = some (.ref r off)) (hy : eo env y = some (.s (.int k m))) (hm : m = (j : Int)) (hj : j < n) :
    QS P nt env H ⟨dst, .indexAddr T x y, ty, pos, after, guard⟩ (.ref r (off + j * de.size)) := .mk
  fun _ I ρ a w h hw => by
    have h1 := eo_rel h hx
    have h2 := int1 h hy
    subst hm
    cases h1' : a.eval x <;> rw [h1'] at h1 <;> cases h1
    rename_i b o us hl hr
    refine ⟨.pointer (some ⟨b, o + (off + j * de.size), none⟩), .ref hl hr, fun w' _ => ?_⟩
    simp [execOp, h1', h2, Instr.indexAt, asIntOf, run_underlying (ht.arr hk), he.sizeOf, addr_add, hj, Instr.sureAddr, Nat.add_assoc]
theorem qs_iaddr_aptr {sz b i off n j : Nat} {k : IntKind} {m : Int} (ht : TyIs P T d) (hk : d.tk = .array n E) (he : TyIs P E de) (hx : eo env x = some (.ptr sz b i off)) (hy : eo env y = some (.s (.int k m))) (hm : m = (j : Int)) (hj : j < n) :
    QS P nt env H ⟨dst, .indexAddr T x y, ty, pos, after, guard⟩ (.ptr sz b i (off + j * de.size)) := .mk
  fun _ I ρ a w h hw => by
    have h1 := eo_rel h hx
    have h2 := int1 h hy
    subst hm
    obtain ⟨cb, z, h1', hb⟩ := h1.ptr_inv
    refine ⟨.pointer (some ⟨cb, i * sz + (off + j * de.size), none⟩), .ptr hb, fun w' _ => ?_⟩
    simp [execOp, h1', h2, Instr.indexAt, asIntOf, run_underlying (ht.arr hk), he.sizeOf, addr_add, hj, Instr.sureAddr, Nat.add_assoc]
theorem qs_index {cs : List V} {n j : Nat} {k : IntKind} {m : Int} (ht : TyIs P T d) (hk : d.tk = .array n E) (he : TyIs P E de) (hx : eo env x = some (.agg cs)) (hy : eo env y = some (.s (.int k m))) (hm : m = (j : Int)) (hj : j < n) (hv : partV de.tk.agg cs (j * de.size) de.size = some v) :
    QS P nt env H ⟨dst, .index T x y, ty, pos, after, guard⟩ v := .mk
  fun _ I ρ a w h hw => by
    have h1 := eo_rel h hx
    have h2 := int1 h hy
    subst hm
    cases h1' : a.eval x <;> rw [h1'] at h1 <;> cases h1
    rename_i us hs hr
    obtain ⟨u, h3, h4⟩ := part_run he hs hr hv
    exact ⟨u, h3, fun w' _ => by simp [execOp, h1', h2, Instr.index, asIntOf, run_underlying (ht.arr hk), he.sizeOf, hj, h4]⟩
def bnd (env : Env) (o : Option Operand) (dflt : Nat) (n : Nat) : Prop :=
  match o with
  | none => n = dflt
  | some x => ∃ k, eo env x = some (.s (.int k (n : Int)))
theorem slice_run {w : World} {A : Option Addr} {n cap l h m : Nat} {lo hi mx : Option Value} (ht : TyIs P T d) (hk : d.tk = .slice E) (he : TyIs P E de)
    (hm : match mx with | none => m = cap | some v => ∃ k, v = .int k (m : Int)) (hh : match hi with | none => h = n ∧ mx = none | some v => ∃ k, v = .int k (h : Int)) (hl : match lo with | none => l = 0 | some v => ∃ k, v = .int k (l : Int))
    (h1 : l ≤ h) (h2 : h ≤ m) (h3 : m ≤ cap) :
    (Instr.sliceAt T (.slice A n cap) lo hi mx).run P w = .ok (.slice (if m = l then A else A.map (·.add (l * de.size))) (h - l) (m - l)) w := by
  have e1 : Instr.sliceAt T (.slice A n cap) lo hi mx = (do match ← underlying T with
    | .array n elem =>
      let a ← Instr.sureAddr (.slice A n cap)
      let (l, h, m) ← Instr.sliceBounds false n n lo hi mx
      let size ← sizeOf elem
      pure (.slice (some (if m = l then a else a.add (l * size))) (h - l) (m - l))
    | _ => Instr.slice T (.slice A n cap) lo hi mx) := rfl
  rw [e1]
  simp only [Sem.run_bind, run_underlying (ht.slice hk), Result.andThen_ok, Instr.slice]
  have hb : (Instr.sliceBounds true n cap lo hi mx).run P w = .ok (l, h, m) w := by
    cases mx with
    | none =>
      simp only at hm
      subst hm
      cases hi with
      | none =>
        obtain ⟨rfl, _⟩ := hh
        cases lo with
        | none => simp only at hl; subst hl; simp [Instr.sliceBounds]
        | some v => obtain ⟨k, rfl⟩ := hl; simp [Instr.sliceBounds, Instr.sliceBound, asIntOf, h1]
      | some u =>
        obtain ⟨k', rfl⟩ := hh
        cases lo with
        | none => simp only at hl; subst hl; simp [Instr.sliceBounds, Instr.sliceBound, asIntOf, h2]
        | some v => obtain ⟨k, rfl⟩ := hl; simp [Instr.sliceBounds, Instr.sliceBound, asIntOf, h1, h2]
    | some q =>
      obtain ⟨kq, rfl⟩ := hm
      cases hi with
      | none => obtain ⟨_, h0⟩ := hh; cases h0
      | some u =>
        obtain ⟨k', rfl⟩ := hh
        cases lo with
        | none => simp only at hl; subst hl; simp [Instr.sliceBounds, Instr.sliceBound, asIntOf, h2, h3]
        | some v => obtain ⟨k, rfl⟩ := hl; simp [Instr.sliceBounds, Instr.sliceBound, asIntOf, h1, h2, h3]
  simp [hb, he.sizeOf]
theorem bnd_val {I : Imm} {ρ : List (Option (Nat × Nat))} {a : Act} (he : EnvOk I ρ nt env a) {o : Option Operand} {dflt n : Nat} (h : bnd env o dflt n) :
    match o.map a.eval with | none => n = dflt | some v => ∃ k, v = .int k (n : Int) := by
  cases o with
  | none => exact h
  | some x => obtain ⟨k, hk⟩ := h; exact ⟨k, int1 he hk⟩
theorem VRel.sub {I : Imm} {ρ : List (Option (Nat × Nat))} {sz n l h m c : Nat} {f : Nat → V} {A : Option Addr} (hr : VRel I ρ (.list sz n f) (.slice A n c)) (h1 : l ≤ h) (h2 : h ≤ m) (h3 : m ≤ c) (hn : h ≤ n) :
    VRel I ρ (.list sz (h - l) (fun k => f (l + k))) (.slice (if m = l then A else A.map (·.add (l * sz))) (h - l) (m - l)) := by
  cases hr with
  | list hc hm hl hsz hv =>
    rename_i us
    refine .list (us := fun i j => us (l + i) j) (by omega) ?_ (fun h0 => ?_) (fun i hi => hsz _ (by omega)) (fun i j v hi => hv _ j v (by omega))
    · split
      · omega
      · cases A <;> simp [capMax] at hm ⊢ <;> omega
    · obtain ⟨b, off, rfl, hL⟩ := hl (by omega)
      refine ⟨b, off + l * sz, by rw [if_neg (by omega)]; simp [addr_add], fun i hi => ?_⟩
      have := hL (l + i) (by omega)
      rwa [Nat.add_mul, ← Nat.add_assoc] at this
theorem qs_slice_list {sz n l h : Nat} {f : Nat → V} {lo hi : Option Operand} (ht : TyIs P T d) (hk : d.tk = .slice E) (he : TyIs P E de) (hs : de.size = sz) (hx : eo env x = some (.list sz n f)) (hl : bnd env lo 0 l) (hh : bnd env hi n h) (h1 : l ≤ h) (h2 : h ≤ n) :
    QS P nt env H ⟨dst, .slice T x lo hi none, ty, pos, after, guard⟩ (.list sz (h - l) (fun k => f (l + k))) := .mk
  fun _ I ρ a w hE hw => by
    have hr := eo_rel hE hx
    have bl := bnd_val hE hl
    have bh := bnd_val hE hh
    cases h1' : a.eval x <;> rw [h1'] at hr <;> first | (exfalso; cases hr; done) | skip
    rename_i A n' c
    obtain ⟨rfl, hc⟩ : n' = n ∧ n ≤ c := by cases hr; exact ⟨rfl, by assumption⟩
    refine ⟨_, hr.sub (m := c) h1 (by omega) (Nat.le_refl _) h2, fun w' _ => ?_⟩
    subst hs
    have := slice_run (P := P) (w := w') (A := A) (n := n') (cap := c) (l := l) (h := h) (m := c) (lo := lo.map a.eval) (hi := hi.map a.eval) (mx := none) ht hk he rfl (by
      cases hi with
      | none => exact ⟨bh, rfl⟩
      | some u => exact bh) bl h1 (by omega) (Nat.le_refl _)
    simp only [execOp, h1', Sem.run_bind, Option.map_none, this, Result.andThen_ok]
    rfl
theorem qs_makeFunc {f : Fn} {first cap : Array Operand} {vs us : List V} (h1 : first.toList.mapM (eo env) = some vs) (h2 : cap.toList.mapM (eo env) = some us) : QS P nt env H ⟨dst, .makeFunc f first cap, ty, pos, after, guard⟩ (.fn f vs us) := by
  have key : ∀ (I : Imm) (ρ : List (Option (Nat × Nat))) (a : Act), EnvOk I ρ nt env a → ∀ (l : List Operand) (vs : List V), l.mapM (eo env) = some vs → l.length = vs.length ∧ ∀ (j : Nat) v u, vs[j]? = some v → (l.map a.eval)[j]? = some u → VRel I ρ v u := by
    intro I ρ a he l
    induction l with
    | nil => intro vs h; simp at h; subst h; exact ⟨rfl, fun j v u h => by simp at h⟩
    | cons x l ih =>
      intro vs h
      simp only [List.mapM_cons, Option.pure_def, Option.bind_eq_bind, Option.bind_eq_some_iff] at h
      obtain ⟨v0, hv0, vs', hvs, h'⟩ := h
      cases h'
      obtain ⟨e1, e2⟩ := ih vs' hvs
      refine ⟨by simp [e1], fun j v u hj hu => ?_⟩
      cases j with
      | zero => simp at hj hu; subst hj hu; exact eo_rel he hv0
      | succ j => exact e2 j v u (by simpa using hj) (by simpa using hu)
  refine ⟨?_⟩
  intro X I ρ a w he hw
  obtain ⟨a1, a2⟩ := key I ρ a he _ _ h1
  obtain ⟨b1, b2⟩ := key I ρ a he _ _ h2
  refine ⟨.func f (first.map a.eval) (cap.map a.eval), .fn (by simpa using a1) (fun j v u hj hu => a2 j v u hj (by simpa using hu)) (by simpa using b1) (fun j v u hj hu => b2 j v u hj (by simpa using hu)), fun w' _ => rfl⟩
theorem qs_len_list {sz n : Nat} {f : Nat → V} {ats : Array TypeId} (ht : TyIs P T d) (hk : d.tk = .slice E) (h0 : ats[0]? = some T) (hx : eo env x = some (.list sz n f)) : QS P nt env H ⟨dst, .call ⟨.builtin .len, #[x], ats⟩, ty, pos, after, guard⟩ (.s (.int .i64 (n : Int))) := .mk
  fun _ I ρ a w h hw => by
    have h1 := eo_rel h hx
    cases h1' : a.eval x <;> rw [h1'] at h1 <;> cases h1
    exact ⟨_, .s _, fun w' _ => by simp [execOp, resolve, invoke, builtin, Builtin.len_, h1', h0, run_underlying (ht.slice hk), goInt]⟩
theorem qs_len_sl {sz b i n : Nat} {ats : Array TypeId} (ht : TyIs P T d) (hk : d.tk = .slice E) (h0 : ats[0]? = some T) (hx : eo env x = some (.sl sz b i n)) : QS P nt env H ⟨dst, .call ⟨.builtin .len, #[x], ats⟩, ty, pos, after, guard⟩ (.s (.int .i64 (n : Int))) := .mk
  fun _ I ρ a w h hw => by
    have h1 := eo_rel h hx
    cases h1' : a.eval x <;> rw [h1'] at h1 <;> cases h1 <;>
    exact ⟨_, .s _, fun w' _ => by simp [execOp, resolve, invoke, builtin, Builtin.len_, h1', h0, run_underlying (ht.slice hk), goInt]⟩
theorem qs_len_emp {ats : Array TypeId} (ht : TyIs P T d) (hk : d.tk = .slice E) (h0 : ats[0]? = some T) (hx : eo env x = some .emp) : QS P nt env H ⟨dst, .call ⟨.builtin .len, #[x], ats⟩, ty, pos, after, guard⟩ (.s (.int .i64 0)) := .mk
  fun _ I ρ a w h hw => by
    have h1 := eo_rel h hx
    cases h1' : a.eval x <;> rw [h1'] at h1 <;> cases h1
    exact ⟨_, .s _, fun w' _ => by simp [execOp, resolve, invoke, builtin, Builtin.len_, h1', h0, run_underlying (ht.slice hk), goInt]⟩
theorem qs_len_nil {ats : Array TypeId} (ht : TyIs P T d) (hk : d.tk = .slice E) (h0 : ats[0]? = some T) (hx : eo env x = some (.s (.slice none 0 0))) : QS P nt env H ⟨dst, .call ⟨.builtin .len, #[x], ats⟩, ty, pos, after, guard⟩ (.s (.int .i64 0)) := .mk
  fun _ I ρ a w h hw => by
    have h1 := eo_rel h hx
    cases h1' : a.eval x <;> rw [h1'] at h1 <;> cases h1
    exact ⟨_, .s _, fun w' _ => by simp [execOp, resolve, invoke, builtin, Builtin.len_, h1', h0, run_underlying (ht.slice hk), goInt]⟩
end
end Go.Proofs.Ytloaefllpokkaaa
namespace Go.Proofs.Ytloaefllpokkaaa
open Go.RowKit
/-- A fence that lets all in. -/
def Fw (r : Option Nat) : Fence := { Fence.wide with round := r }
@[simp] theorem Fw_fn (r : Option Nat) (f : FuncId) : (Fw r).fn f := trivial
@[simp] theorem Fw_round (r : Option Nat) : (Fw r).round = r := rfl
def plainOp : Op → Bool
  | .move _ | .assign _ | .nilCheck _ | .pick .. | .load .. | .binOp .. | .unOp .. | .convert .. | .fieldAddr .. | .field .. | .indexAddr .. | .index .. | .slice .. | .lookup .. | .extract .. | .build .. | .makeInterface .. | .makeFunc .. | .typeAssert .. => true
  | .call c => match c.callee with
    | .builtin .len | .builtin .cap | .builtin .min | .builtin .max => true
    | _ => false
  | _ => false
theorem semAt_plain {o : Oper} (h : plainOp o.op = true) (r : Option Nat) (ρ : Operand → Value) : o.semAt r ρ = execOp ρ o :=
  Oper.semAt_eq r ρ o fun c hc => by rw [hc] at h; cases h
section
variable {P : Program} {ops : Array Oper} {r : Option Nat} {Q : Exit → Act → World → Prop}
theorem semAt_put (o : Oper) (hs : ∀ cs b, o.op ≠ .select cs b) (a : Act) (dst : Option Tmp) (v : Value) (h : ∀ d, dst = some d → d ∉ o.looksAt ops) :
    o.semAt r (a.put dst v).eval = o.semAt r a.eval := by
  unfold Oper.semAt
  cases r with
  | none => exact execOp_put o hs a dst v h
  | some l =>
    cases ho : o.op <;> first | (simp only []; exact execOp_put o hs a dst v h) | skip
    rename_i c
    simp only
    rw [resolve_congr c o.type fun x hx => Act.eval_put fun d hd hxd => h d hd (by
      subst hxd
      exact List.mem_append_left _ (List.mem_filterMap.2 ⟨.tmp d, by rw [ho]; simpa [Op.operands] using hx, rfl⟩))]
/-- In each world that meets S the operation yields 'v'. -/
def YI (P : Program) (ops : Array Oper) (S : World → Prop) (o : Oper) (v : Value) (a : Act) : Prop :=
  (Region.wanted o (yielded ops a.tmps) = true ∧ ∀ w, S w → (execOp a.eval o).run P w = .ok (.value v) w) ∨ (Region.wanted o (yielded ops a.tmps) = false ∧ v = undef)
theorem YI.of_same {S : World → Prop} {o : Oper} {v : Value} {a a' : Act} (hy : YI P ops S o v a) (he : execOp a'.eval o = execOp a.eval o)
    (hw : Region.wanted o (yielded ops a'.tmps) = Region.wanted o (yielded ops a.tmps)) : YI P ops S o v a' := by
  unfold YI at *
  rw [he, hw]
  exact hy
theorem YI.op {S : World → Prop} {i : Nat} {o : Oper} {v : Value} {a : Act} (hp : plainOp o.op = true) (hi : ops[i]? = some o) (hy : YI P ops S o v a) {K : Act → World → Prop} {w : World} (hS : S w) (h : K (a.put o.dst v) w) :
    wpOpIn (Fw r) 0 P ops Q i K a w := by
  unfold wpOpIn
  simp only [hi]
  rcases hy with ⟨hw, hv⟩ | ⟨hw, rfl⟩
  · simp only [hw, if_true, Oper.wpIn, semAt_plain hp, hv w hS, Oper.uponIn]; exact ⟨fun _ _ => trivial, h⟩
  · simp only [hw, Bool.false_eq_true, if_false]; exact ⟨fun _ _ => trivial, h⟩
theorem op_putI {S : World → Prop} {j : Nat} {oi oj : Oper} {v : Value} (hj : ops[j]? = some oj) (hap : oi.apart ops oj = true)
    (hsi : ∀ cs b, oi.op ≠ .select cs b) (hsj : ∀ cs b, oj.op ≠ .select cs b)
    (hQ : ∀ c a w, Q (.panic c) (a.put oi.dst v) w → Q (.panic c) a w) {K : Act → World → Prop} {a : Act} {w : World}
    (hy : YI P ops S oi v a) (h : wpOpIn (Fw r) 0 P ops Q j K (a.put oi.dst v) w) :
    wpOpIn (Fw r) 0 P ops Q j (fun a' w' => YI P ops S oi v a' ∧ K (a'.put oi.dst v) w') a w := by
  obtain ⟨h1, h2, h3⟩ := Oper.apart_spec hap
  have keep : ∀ (a : Act), YI P ops S oi v a → ∀ u, YI P ops S oi v (a.put oj.dst u) := fun a hy u =>
    hy.of_same (execOp_put oi hsi a oj.dst u h3) (wanted_put oi a oj.dst u h3)
  have keepD : ∀ d, YI P ops S oi v { a with defers := d :: a.defers } := fun d => hy.of_same rfl rfl
  unfold wpOpIn at *
  simp only [hj] at *
  rw [wanted_put oj a oi.dst v h1] at h
  split
  · rename_i hw
    simp only [hw, if_true] at h
    unfold Oper.wpIn at *
    refine ⟨fun _ _ => trivial, ?_⟩
    have h := h.2
    rw [semAt_put oj hsj a oi.dst v h1] at h
    generalize (oj.semAt (Fw r).round a.eval).run P w = res at *
    cases res with
    | ok n w' =>
      cases n <;> simp only [Oper.uponIn] at h ⊢
      case value u => exact ⟨keep a hy u, by rw [← Act.put_comm a v u h2]; exact h⟩
      case skip => exact ⟨keep a hy _, by rw [← Act.put_comm a v undef h2]; exact h⟩
      case defer d =>
        refine ⟨keep _ (keepD d) _, ?_⟩
        rw [← Act.put_comm _ v undef h2, ← Act.put_defers]
        exact h
      case enter f args =>
        refine ⟨h.1, CallsIn.mono h.2 fun e w'' he => ?_⟩
        cases e with
        | returned u => exact ⟨keep a hy u, by rw [← Act.put_comm a v u h2]; exact he⟩
        | panicked c => exact hQ _ _ _ he
        | outgrown => exact he
      case row row args => exact ⟨h.1, RowsIn.mono h.2 fun u w'' he => ⟨keep a hy u, by rw [← Act.put_comm a v u h2]; exact he⟩⟩
      case round l f tmps asg body =>
        refine ⟨h.1, RoundIn.mono h.2 fun e w'' he => ?_⟩
        cases e with
        | returned u => exact ⟨keep a hy u, by rw [← Act.put_comm a v u h2]; exact he⟩
        | panicked c => exact hQ _ _ _ he
        | outgrown => exact he
    | halt x w' =>
      cases x <;> simp only [Oper.uponIn] at h ⊢
      case panic u => exact hQ _ _ _ h
  · rename_i hw
    simp only [hw] at h
    exact ⟨fun _ _ => trivial, keep a hy _, by rw [← Act.put_comm a v undef h2]; exact h.2⟩
/-- Whatever order is taken from here on; until operation number 'm' has come up the world meets S. -/
def wpAnyS (P : Program) (r : Option Nat) (ops : Array Oper) (Q : Exit → Act → World → Prop) (S : World → Prop) (m : Nat) : Nat → Array Bool → Act → World → Prop
  | 0, listed, a, w => Region.ready .any ops listed = [] ∧ Q .normal a w
  | fuel + 1, listed, a, w =>
    (Region.ready .any ops listed = [] → Q .normal a w) ∧
    ∀ i ∈ Region.ready .any ops listed, wpOpIn (Fw r) 0 P ops Q i (fun a' w' => if i = m then wpAnyIn (Fw r) 0 P .any ops Q fuel (listed.setIfInBounds i true) a' w' else S w' ∧ wpAnyS P r ops Q S m fuel (listed.setIfInBounds i true) a' w') a w
theorem any_of_S {S : World → Prop} {m : Nat} : ∀ (fuel : Nat) (listed : Array Bool) (a : Act) (w : World), wpAnyS P r ops Q S m fuel listed a w → wpAnyIn (Fw r) 0 P .any ops Q fuel listed a w
  | 0, _, _, _, h => h
  | fuel + 1, _, _, _, h => ⟨h.1, fun i hi => wpOpIn_mono (fun a' w' h' => by
      split at h'
      · exact h'
      · exact any_of_S fuel _ a' w' h'.2) (h.2 i hi)⟩
theorem anyS_mono {S S' : World → Prop} {m : Nat} (hS : ∀ w, S' w → S w) : ∀ (fuel : Nat) (listed : Array Bool) (a : Act) (w : World), wpAnyS P r ops Q S' m fuel listed a w → wpAnyS P r ops Q S m fuel listed a w
  | 0, _, _, _, h => h
  | fuel + 1, _, _, _, h => ⟨h.1, fun i hi => wpOpIn_mono (fun a' w' h' => by
      split at h'
      · rename_i e; rw [if_pos e]; exact h'
      · rename_i e; rw [if_neg e]; exact ⟨hS _ h'.1, anyS_mono hS fuel _ a' w' h'.2⟩) (h.2 i hi)⟩
/-- What is listed has all before it that it waits for. -/
def ShutL (ops : Array Oper) (listed : Array Bool) : Prop := ∀ j oj, ops[j]? = some oj → listed.getD j false = true → ∀ e ∈ oj.after, Region.binds .any e = true → listed.getD e.on false = true
theorem getD_set_true {listed : Array Bool} {i j : Nat} (h : listed.getD j false = true) : (listed.setIfInBounds i true).getD j false = true := by
  by_cases e : i = j
  · subst e
    have hlt : i < listed.size := by
      rcases Nat.lt_or_ge i listed.size with h' | h'
      · exact h'
      · simp [Array.getElem?_eq_none h'] at h
    simp [hlt]
  · simpa [Array.getElem?_setIfInBounds_ne e] using h
theorem ShutL.set {listed : Array Bool} {i : Nat} (h : ShutL ops listed) (hi : i ∈ Region.ready .any ops listed) : ShutL ops (listed.setIfInBounds i true) := by
  intro j oj hj hl e he hb
  by_cases hji : i = j
  · subst hji
    obtain ⟨_, o, ho, hall⟩ := mem_ready.1 hi
    rw [hj] at ho; cases ho
    exact getD_set_true (hall e he hb)
  · refine getD_set_true (h j oj hj ?_ e he hb)
    simpa [Array.getElem?_setIfInBounds_ne hji] using hl
def Awaits (ops : Array Oper) (m i : Nat) : Prop := m = ops.size ∨ ∀ listed, ShutL ops listed → m ∈ Region.ready .any ops listed → listed.getD i false = true
def waitsFor (ops : Array Oper) (last i : Nat) : Bool :=
  match ops[last]? with
  | some o => o.after.any fun e => Region.binds .any e && e.on == i
  | none => false
theorem first_S {S : World → Prop} {m i : Nat} {oi : Oper} {v : Value} (hp : plainOp oi.op = true) (hi : ops[i]? = some oi) (hsel : Region.noSelect ops = true)
    (hQ : ∀ c a w, Q (.panic c) (a.put oi.dst v) w → Q (.panic c) a w) (hl : Awaits ops m i) (him : i ≠ m) :
    ∀ (fuel : Nat) (listed : Array Bool) (a : Act) (w : World),
      (∀ j oj, ops[j]? = some oj → j ≠ i → listed.getD j true = false → (∀ e ∈ oj.after, Region.binds .any e = true → e.on ≠ i) → oi.apart ops oj = true) →
      ShutL ops listed → i ∈ Region.ready .any ops listed → YI P ops S oi v a → S w →
      wpAnyS P r ops Q S m fuel (listed.setIfInBounds i true) (a.put oi.dst v) w → wpAnyS P r ops Q S m (fuel + 1) listed a w := by
  intro fuel
  induction fuel with
  | zero =>
    intro listed a w _ hsh hr hy hS H
    refine ⟨fun h => (by rw [h] at hr; cases hr), fun j hj => ?_⟩
    by_cases hji : j = i
    · subst hji; exact hy.op hp hi hS (by rw [if_neg him]; exact ⟨hS, H⟩)
    · have := ready_mono hj hji
      rw [H.1] at this
      cases this
  | succ fuel ih =>
    intro listed a w hfree hsh hr hy hS H
    refine ⟨fun h => (by rw [h] at hr; cases hr), fun j hj => ?_⟩
    by_cases hji : j = i
    · subst hji; exact hy.op hp hi hS (by rw [if_neg him]; exact ⟨hS, H⟩)
    · have h1 := H.2 j (ready_mono hj hji)
      obtain ⟨hjun, oj, hoj, hall⟩ := mem_ready.1 hj
      have hnot : ∀ e ∈ oj.after, Region.binds .any e = true → e.on ≠ i := fun e he hb heq => by
        have h1 := hall e he hb
        have h0 := (mem_ready.1 hr).1
        rw [heq] at h1
        rcases Nat.lt_or_ge i listed.size with h' | h'
        · simp [h'] at h0 h1; rw [h0] at h1; cases h1
        · simp [Array.getElem?_eq_none h'] at h1
      have hjl : j ≠ m := by
        rintro rfl
        have hjs : j < ops.size := (Array.getElem?_eq_some_iff.1 hoj).1
        rcases hl with hl | hl
        · omega
        · have h1 := hl listed hsh hj
          have h0 := (mem_ready.1 hr).1
          rcases Nat.lt_or_ge i listed.size with h' | h'
          · simp [h'] at h0 h1; rw [h0] at h1; cases h1
          · simp [Array.getElem?_eq_none h'] at h1
      have h2 := op_putI hoj (hfree j oj hoj hji hjun hnot) (fun cs b => Region.noSelect_spec hsel i oi cs b hi) (fun cs b => Region.noSelect_spec hsel j oj cs b hoj) hQ hy h1
      have hfree' : ∀ k ok, ops[k]? = some ok → k ≠ i → (listed.setIfInBounds j true).getD k true = false →
          (∀ e ∈ ok.after, Region.binds .any e = true → e.on ≠ i) → oi.apart ops ok = true := fun k ok hk hki hun hno => by
        refine hfree k ok hk hki ?_ hno
        by_cases hjk : j = k
        · subst hjk; exact hjun
        · rw [getD_set_ne true hjk] at hun; exact hun
      refine wpOpIn_mono (fun a' w' h3 => ?_) h2
      rw [if_neg hjl] at h3 ⊢
      refine ⟨h3.2.1, ih (listed.setIfInBounds j true) a' w' hfree' (hsh.set hj) (ready_mono hr (Ne.symm hji)) h3.1 h3.2.1 ?_⟩
      rw [Array.setIfInBounds_comm _ _ hji]
      exact h3.2.2
/-- Reads registers only: the same in every world. -/
def stillOp : Op → Bool
  | .move _ => true
  | .extract .. => true
  | _ => false
theorem still_all {o : Oper} (h : stillOp o.op = true) {a : Act} {w : World} {v : Value} (hv : (execOp a.eval o).run P w = .ok (.value v) w) (w' : World) : (execOp a.eval o).run P w' = .ok (.value v) w' := by
  unfold stillOp at h
  split at h
  · rename_i x ho
    simp only [execOp, ho] at hv ⊢
    simpa using hv
  · rename_i x k ho
    simp only [execOp, ho] at hv ⊢
    revert hv
    unfold Instr.extract
    split
    · split
      · simp
      · simp
    · simp
  · cases h
theorem S_of_any {m : Nat} (hm : ops.size ≤ m) : ∀ (fuel : Nat) (listed : Array Bool) (a : Act) (w : World), wpAnyIn (Fw r) 0 P .any ops Q fuel listed a w → wpAnyS P r ops Q (fun _ => True) m fuel listed a w
  | 0, _, _, _, h => h
  | fuel + 1, _, _, _, h => ⟨h.1, fun i hi => wpOpIn_mono (fun a' w' h' => by
      obtain ⟨_, oi, hoi, _⟩ := mem_ready.1 hi
      have := (Array.getElem?_eq_some_iff.1 hoi).1
      rw [if_neg (by omega)]
      exact ⟨trivial, S_of_any hm fuel _ a' w' h'⟩) (h.2 i hi)⟩
/-- An operation that reads registers only need not be waited for by the operation that ends the phase. -/
theorem first_still {S : World → Prop} {m i : Nat} {oi : Oper} {v : Value} (hp : plainOp oi.op = true) (hi : ops[i]? = some oi) (hsel : Region.noSelect ops = true)
    (hQ : ∀ c a w, Q (.panic c) (a.put oi.dst v) w → Q (.panic c) a w) (him : i ≠ m) :
    ∀ (fuel : Nat) (listed : Array Bool) (a : Act) (w : World),
      (∀ j oj, ops[j]? = some oj → j ≠ i → listed.getD j true = false → (∀ e ∈ oj.after, Region.binds .any e = true → e.on ≠ i) → oi.apart ops oj = true) →
      ShutL ops listed → i ∈ Region.ready .any ops listed → YI P ops (fun _ => True) oi v a → S w →
      wpAnyS P r ops Q S m fuel (listed.setIfInBounds i true) (a.put oi.dst v) w → wpAnyS P r ops Q S m (fuel + 1) listed a w := by
  intro fuel
  induction fuel with
  | zero =>
    intro listed a w _ hsh hr hy hS H
    refine ⟨fun h => (by rw [h] at hr; cases hr), fun j hj => ?_⟩
    by_cases hji : j = i
    · subst hji; exact hy.op hp hi trivial (by rw [if_neg him]; exact ⟨hS, H⟩)
    · have := ready_mono hj hji
      rw [H.1] at this
      cases this
  | succ fuel ih =>
    intro listed a w hfree hsh hr hy hS H
    refine ⟨fun h => (by rw [h] at hr; cases hr), fun j hj => ?_⟩
    by_cases hji : j = i
    · subst hji; exact hy.op hp hi trivial (by rw [if_neg him]; exact ⟨hS, H⟩)
    · have h1 := H.2 j (ready_mono hj hji)
      obtain ⟨hjun, oj, hoj, hall⟩ := mem_ready.1 hj
      have hnot : ∀ e ∈ oj.after, Region.binds .any e = true → e.on ≠ i := fun e he hb heq => by
        have h1 := hall e he hb
        have h0 := (mem_ready.1 hr).1
        rw [heq] at h1
        rcases Nat.lt_or_ge i listed.size with h' | h'
        · simp [h'] at h0 h1; rw [h0] at h1; cases h1
        · simp [Array.getElem?_eq_none h'] at h1
      have h2 := op_putI hoj (hfree j oj hoj hji hjun hnot) (fun cs b => Region.noSelect_spec hsel i oi cs b hi) (fun cs b => Region.noSelect_spec hsel j oj cs b hoj) hQ hy h1
      have hfree' : ∀ k ok, ops[k]? = some ok → k ≠ i → (listed.setIfInBounds j true).getD k true = false →
          (∀ e ∈ ok.after, Region.binds .any e = true → e.on ≠ i) → oi.apart ops ok = true := fun k ok hk hki hun hno => by
        refine hfree k ok hk hki ?_ hno
        by_cases hjk : j = k
        · subst hjk; exact hjun
        · rw [getD_set_ne true hjk] at hun; exact hun
      have his : i < ops.size := (Array.getElem?_eq_some_iff.1 hi).1
      refine wpOpIn_mono (fun a' w' h3 => ?_) h2
      by_cases hjm : j = m
      · rw [if_pos hjm] at h3 ⊢
        refine any_of_S _ _ _ _ (first_S (m := ops.size) hp hi hsel hQ (.inl rfl) (by omega) fuel (listed.setIfInBounds j true) a' w' hfree' (hsh.set hj) (ready_mono hr (Ne.symm hji)) h3.1 trivial ?_)
        rw [Array.setIfInBounds_comm _ _ hji]
        exact S_of_any (Nat.le_refl _) _ _ _ _ h3.2
      · rw [if_neg hjm] at h3 ⊢
        refine ⟨h3.2.1, ih (listed.setIfInBounds j true) a' w' hfree' (hsh.set hj) (ready_mono hr (Ne.symm hji)) h3.1 h3.2.1 ?_⟩
        rw [Array.setIfInBounds_comm _ _ hji]
        exact h3.2.2
/-- A step of a plan. 'fork': the orders that take another operation first here, by numbers (0: one that only looks; 1: another one, behind which all stands that stood before; 2: another one). -/
inductive Stp where
  | q (i : Nat) (o : Oper)
  | l (i : Nat) (o : Oper) (keep : Bool)
  | fork (ps : List (Nat × Nat))
def Stp.idx : Stp → Nat
  | .q i _ => i
  | .l i _ _ => i
  | .fork _ => 0
def Stp.oper : Stp → Oper
  | .q _ o => o
  | .l _ o _ => o
  | .fork _ => default
def Stp.flat : Stp → Bool
  | .fork _ => false
  | _ => true
end
def opAt : List Oper → Nat → Oper
  | [], _ => default
  | o :: _, 0 => o
  | _ :: l, n + 1 => opAt l n
theorem opAt_get (l : List Oper) : ∀ i, i < l.length → l[i]? = some (opAt l i) := by
  induction l with
  | nil => intro i h; simp at h
  | cons o l ih =>
    intro i h
    cases i with
    | zero => rfl
    | succ i => simpa [opAt] using ih i (by simpa using h)
/-- A plan by numbers: 0: one that only looks; 1: another one, behind which all stands that stood before; 2: another one. -/
def numPlan (l : List Oper) (ps : List (Nat × Nat)) : List Stp := ps.map fun x => match x.2 with | 0 => .q x.1 (opAt l x.1) | 1 => .l x.1 (opAt l x.1) true | _ => .l x.1 (opAt l x.1) false
section
variable {P : Program} {ops : Array Oper} {r : Option Nat} {Q : Exit → Act → World → Prop}
/-- One order. -/
def runP0 (P : Program) (r : Option Nat) (ops : Array Oper) (Q : Exit → Act → World → Prop) : List Stp → (World → Prop) → Act → World → Prop
  | [], _, a, w => Q .normal a w
  | .q _ o :: rest, S, a, w =>
    (Region.wanted o (yielded ops a.tmps) = true → ∃ u, (∀ w', S w' → (execOp a.eval o).run P w' = .ok (.value u) w') ∧ runP0 P r ops Q rest S (a.put o.dst u) w) ∧
    (Region.wanted o (yielded ops a.tmps) = false → runP0 P r ops Q rest S (a.put o.dst undef) w)
  | .l _ o keep :: rest, S, a, w =>
    (Region.wanted o (yielded ops a.tmps) = true → o.wpIn (Fw r) 0 P a w (fun a' w' => ∃ S' : World → Prop, S' w' ∧ (keep = true → ∀ x, S' x → S x) ∧ runP0 P r ops Q rest S' a' w') Q) ∧
    (Region.wanted o (yielded ops a.tmps) = false → runP0 P r ops Q rest S (a.put o.dst undef) w)
  | .fork _ :: rest, S, a, w => runP0 P r ops Q rest S a w
/-- The region's operations avs the plan takes them. -/
def runP (P : Program) (r : Option Nat) (ops : Array Oper) (Q : Exit → Act → World → Prop) : List Stp → (World → Prop) → Act → World → Prop
  | [], _, a, w => Q .normal a w
  | .q _ o :: rest, S, a, w =>
    (Region.wanted o (yielded ops a.tmps) = true → ∃ u, (∀ w', S w' → (execOp a.eval o).run P w' = .ok (.value u) w') ∧ runP P r ops Q rest S (a.put o.dst u) w) ∧
    (Region.wanted o (yielded ops a.tmps) = false → runP P r ops Q rest S (a.put o.dst undef) w)
  | .l _ o keep :: rest, S, a, w =>
    (Region.wanted o (yielded ops a.tmps) = true → o.wpIn (Fw r) 0 P a w (fun a' w' => ∃ S' : World → Prop, S' w' ∧ (keep = true → ∀ x, S' x → S x) ∧ runP P r ops Q rest S' a' w') Q) ∧
    (Region.wanted o (yielded ops a.tmps) = false → runP P r ops Q rest S (a.put o.dst undef) w)
  | .fork ps :: rest, S, a, w => runP P r ops Q rest S a w ∧ runP0 P r ops Q (numPlan ops.toList ps) S a w
theorem run0 : ∀ {l : List Stp} {S : World → Prop} {a : Act} {w : World}, (∀ s ∈ l, s.flat = true) → runP P r ops Q l S a w → runP0 P r ops Q l S a w
  | [], _, _, _, _, h => h
  | .q i o :: l, S, a, w, hf, h => by
    have hf' : ∀ s ∈ l, s.flat = true := fun s hs => hf s (by simp [hs])
    refine ⟨fun hw => ?_, fun hw => run0 hf' (h.2 hw)⟩
    obtain ⟨u, h1, h2⟩ := h.1 hw
    exact ⟨u, h1, run0 hf' h2⟩
  | .l i o keep :: l, S, a, w, hf, h => by
    have hf' : ∀ s ∈ l, s.flat = true := fun s hs => hf s (by simp [hs])
    exact ⟨fun hw => Oper.wpIn_mono (fun a' w' ⟨S', h1, h2, h3⟩ => ⟨S', h1, h2, run0 hf' h3⟩) (h.1 hw), fun hw => run0 hf' (h.2 hw)⟩
  | .fork ps :: l, S, a, w, hf, h => by have := hf (.fork ps) (by simp); cases this
theorem numPlan_flat (l : List Oper) (ps : List (Nat × Nat)) : ∀ s ∈ numPlan l ps, s.flat = true := fun s hs => by
  unfold numPlan at hs
  obtain ⟨x, _, rfl⟩ := List.mem_map.1 hs
  split <;> rfl
theorem plain_go {l : List Stp} : ∀ (k : Nat) (S : World → Prop) (a : Act) (w : World), (∀ j s, l[j]? = some s → ops[k + j]? = some s.oper) → (∀ s ∈ l, s.flat = true ∧ ∀ i o, s = .q i o → plainOp o.op = true) → S w → runP P r ops Q l S a w →
    wpOpsIn (Fw r) 0 P ops Q (List.range' k l.length) a w := by
  induction l with
  | nil => intro k S a w _ _ _ h; exact h
  | cons s l ih =>
    intro k S a w hn hp hS h
    have h0 : ops[k]? = some s.oper := by simpa using hn 0 s rfl
    have hn' : ∀ j s, l[j]? = some s → ops[k + 1 + j]? = some s.oper := fun j s hj => by
      have := hn (j + 1) s (by simpa using hj)
      rwa [show k + 1 + j = k + (j + 1) by omega]
    have hp' : ∀ s ∈ l, s.flat = true ∧ ∀ i o, s = .q i o → plainOp o.op = true := fun s hs => hp s (by simp [hs])
    rw [List.length_cons, List.range'_succ, wpOpsIn_cons]
    unfold wpOpIn
    simp only [h0]
    cases s with
    | q i o =>
      simp only [runP] at h
      cases hw : Region.wanted o (yielded ops a.tmps)
      · have hw' : Region.wanted (Stp.q i o).oper (yielded ops a.tmps) = false := hw
        rw [hw']
        exact ⟨fun _ _ => trivial, ih (k + 1) S _ w hn' hp' hS (h.2 hw)⟩
      · have hw' : Region.wanted (Stp.q i o).oper (yielded ops a.tmps) = true := hw
        rw [hw']
        obtain ⟨u, h1, h2⟩ := h.1 hw
        simp only [if_true, Oper.wpIn]
        refine ⟨fun _ _ => trivial, ?_⟩
        show (Oper.uponIn (Fw r) 0 P o a _ Q ((o.semAt (Fw r).round a.eval).run P w))
        rw [semAt_plain ((hp _ (by simp)).2 i o rfl), h1 w hS]
        exact ih (k + 1) S _ w hn' hp' hS h2
    | l i o keep =>
      simp only [runP] at h
      cases hw : Region.wanted o (yielded ops a.tmps)
      · have hw' : Region.wanted (Stp.l i o keep).oper (yielded ops a.tmps) = false := hw
        rw [hw']
        exact ⟨fun _ _ => trivial, ih (k + 1) S _ w hn' hp' hS (h.2 hw)⟩
      · have hw' : Region.wanted (Stp.l i o keep).oper (yielded ops a.tmps) = true := hw
        rw [hw']
        simp only [if_true]
        exact Oper.wpIn_mono (fun a' w' ⟨S', h1, _, h3⟩ => ih (k + 1) S' a' w' hn' hp' h1 h3) (h.1 hw)
    | fork ps => have := (hp (.fork ps) (by simp)).1; cases this
/-- The operation that ends a phase. -/
def phaseEnd (n : Nat) : List Stp → Nat
  | [] => n
  | .q _ _ :: l => phaseEnd n l
  | .l i _ keep :: l => bif keep then phaseEnd n l else i
  | .fork _ :: l => phaseEnd n l
def befores (ops : Array Oper) (i : Nat) : List Nat := match ops[i]? with | some o => (o.after.toList.filter (Region.binds .any)).map (·.on) | none => []
/-- All that the end of the phase waits for, directly or through others. -/
def needs (ops : Array Oper) : List Stp → List Nat
  | [] => []
  | .q i _ :: l => bif (needs ops l).contains i then befores ops i ++ needs ops l else needs ops l
  | .l i _ keep :: l => bif keep then (bif (needs ops l).contains i then befores ops i ++ needs ops l else needs ops l) else befores ops i
  | .fork _ :: l => needs ops l
theorem befores_listed {ops : Array Oper} {listed : Array Bool} (hs : ShutL ops listed) {i : Nat} (hi : listed.getD i false = true ∨ i ∈ Region.ready .any ops listed) : ∀ x ∈ befores ops i, listed.getD x false = true := by
  intro x hx
  unfold befores at hx
  split at hx
  · rename_i o ho
    simp only [List.mem_map, List.mem_filter, Array.mem_toList_iff] at hx
    obtain ⟨e, ⟨he, hb⟩, rfl⟩ := hx
    rcases hi with hi | hi
    · exact hs i o ho hi e he hb
    · obtain ⟨_, o', ho', hall⟩ := mem_ready.1 hi
      rw [ho] at ho'; cases ho'
      exact hall e he hb
  · simp at hx
theorem needs_listed {ops : Array Oper} {listed : Array Bool} (hs : ShutL ops listed) : ∀ (l : List Stp), phaseEnd ops.size l ∈ Region.ready .any ops listed → ∀ x ∈ needs ops l, listed.getD x false = true
  | [], _, x, hx => by simp [needs] at hx
  | .q i o :: l, hm, x, hx => by
    have ih := needs_listed hs l hm
    simp only [needs] at hx
    cases hc : (needs ops l).contains i
    · rw [hc] at hx; exact ih x hx
    · rw [hc] at hx
      rcases List.mem_append.1 hx with h | h
      · exact befores_listed hs (.inl (ih i (by simpa using hc))) x h
      · exact ih x h
  | .l i o keep :: l, hm, x, hx => by
    cases keep with
    | false => exact befores_listed hs (.inr (by simpa [phaseEnd] using hm)) x (by simpa [needs] using hx)
    | true =>
      have ih := needs_listed hs l (by simpa [phaseEnd] using hm)
      simp only [needs] at hx
      cases hc : (needs ops l).contains i
      · rw [hc] at hx; exact ih x hx
      · rw [hc] at hx
        rcases List.mem_append.1 hx with h | h
        · exact befores_listed hs (.inl (ih i (by simpa using hc))) x h
        · exact ih x h
  | .fork _ :: l, hm, x, hx => needs_listed hs l hm x hx
theorem awaits_of {ops : Array Oper} {l : List Stp} {i : Nat} (h : ((waitsFor ops (phaseEnd ops.size l) i || phaseEnd ops.size l == ops.size) || (needs ops l).contains i) = true) : Awaits ops (phaseEnd ops.size l) i := by
  simp only [Bool.or_eq_true, beq_iff_eq] at h
  rcases h with (h | h) | h
  · refine .inr fun listed hs hm => ?_
    obtain ⟨_, o, ho, hall⟩ := mem_ready.1 hm
    simp only [waitsFor, ho, Array.any_eq_true', Bool.and_eq_true, beq_iff_eq] at h
    obtain ⟨e, he, hb, hon⟩ := h
    rw [← hon]
    exact hall e he hb
  · exact .inl h
  · exact .inr fun listed hs hm => needs_listed hs l hm i (by simpa using h)
def planOk0 (ops : Array Oper) : Array Bool → List Stp → Bool
  | listed, [] => (Region.ready .any ops listed).isEmpty
  | listed, .q i o :: l => plainOp o.op && (Region.ready .any ops listed).contains i && Region.free .any ops listed i && (((waitsFor ops (phaseEnd ops.size l) i || phaseEnd ops.size l == ops.size) || (needs ops l).contains i) || stillOp o.op) && i != phaseEnd ops.size l && planOk0 ops (listed.setIfInBounds i true) l
  | listed, .l i _ keep :: l => (Region.ready .any ops listed == [i]) && (!keep || i != phaseEnd ops.size l) && planOk0 ops (listed.setIfInBounds i true) l
  | _, .fork _ :: _ => false
/-- The step that is taken first, and what follows. -/
def HeadOk (P : Program) (r : Option Nat) (ops : Array Oper) (Q : Exit → Act → World → Prop) (S : World → Prop) (m fuel : Nat) (listed : Array Bool) (a : Act) (w : World) (j : Nat) : Prop :=
  wpOpIn (Fw r) 0 P ops Q j (fun a' w' => if j = m then wpAnyIn (Fw r) 0 P .any ops Q fuel (listed.setIfInBounds j true) a' w' else S w' ∧ wpAnyS P r ops Q S m fuel (listed.setIfInBounds j true) a' w') a w
theorem head_ok {listed : Array Bool} {S : World → Prop} {a : Act} {w : World} {i : Nat} {o : Oper} {keep : Bool} {n fuel : Nat} {R : (World → Prop) → Act → World → Prop} (hi : ops[i]? = some o) (hS : S w) (hk : keep = true → i ≠ n)
    (ih : ∀ (S' : World → Prop) a' w', S' w' → R S' a' w' → wpAnyS P r ops Q S' n fuel (listed.setIfInBounds i true) a' w')
    (h : (Region.wanted o (yielded ops a.tmps) = true → o.wpIn (Fw r) 0 P a w (fun a' w' => ∃ S' : World → Prop, S' w' ∧ (keep = true → ∀ x, S' x → S x) ∧ R S' a' w') Q) ∧ (Region.wanted o (yielded ops a.tmps) = false → R S (a.put o.dst undef) w)) :
    HeadOk P r ops Q S (bif keep then n else i) fuel listed a w i := by
  have step : ∀ (S' : World → Prop) a' w', S' w' → (keep = true → ∀ x, S' x → S x) → R S' a' w' →
      (if i = (bif keep then n else i) then wpAnyIn (Fw r) 0 P .any ops Q fuel (listed.setIfInBounds i true) a' w' else S w' ∧ wpAnyS P r ops Q S (bif keep then n else i) fuel (listed.setIfInBounds i true) a' w') := by
    intro S' a' w' h1 h2 h3
    have := ih S' a' w' h1 h3
    cases keep with
    | false =>
      show (if i = i then _ else _)
      rw [if_pos rfl]; exact any_of_S _ _ _ _ this
    | true =>
      show (if i = n then _ else _)
      rw [if_neg (hk rfl)]
      exact ⟨h2 rfl _ h1, anyS_mono (h2 rfl) _ _ _ _ this⟩
  unfold HeadOk wpOpIn
  simp only [hi]
  cases hw : Region.wanted o (yielded ops a.tmps)
  · rw [if_neg (by simp)]
    exact ⟨fun _ _ => trivial, step S _ w hS (fun _ _ h => h) (h.2 hw)⟩
  · rw [if_pos rfl]
    exact Oper.wpIn_mono (fun a' w' ⟨S', h1, h2, h3⟩ => step S' a' w' h1 h2 h3) (h.1 hw)
theorem drawn_go0 (hsel : Region.noSelect ops = true) (hQ : ∀ c a d v w, Q (.panic c) (a.put d v) w → Q (.panic c) a w) :
    ∀ (l : List Stp) (listed : Array Bool) (S : World → Prop) (a : Act) (w : World), (∀ s ∈ l, s.flat = true → ops[s.idx]? = some s.oper) → ShutL ops listed → planOk0 ops listed l = true → S w →
      runP0 P r ops Q l S a w → wpAnyS P r ops Q S (phaseEnd ops.size l) l.length listed a w
  | [], listed, S, a, w, _, _, hok, _, h => ⟨by simpa [planOk0] using hok, h⟩
  | .q i o :: l, listed, S, a, w, hn, hsh, hok, hS, h => by
    simp only [planOk0, Bool.and_eq_true] at hok
    obtain ⟨⟨⟨⟨⟨hp, hr⟩, hf⟩, hl⟩, him⟩, hok'⟩ := hok
    have hi : ops[i]? = some o := hn (.q i o) (by simp) rfl
    simp only [runP0] at h
    have hn' : ∀ s ∈ l, s.flat = true → ops[s.idx]? = some s.oper := fun s hs => hn s (by simp [hs])
    show wpAnyS P r ops Q S (phaseEnd ops.size l) (l.length + 1) listed a w
    rw [Bool.or_eq_true] at hl
    have hri : i ∈ Region.ready .any ops listed := by simpa using hr
    rcases hl with hl | hl
    · cases hw : Region.wanted o (yielded ops a.tmps)
      · exact first_S (v := undef) hp hi hsel (fun c a w => hQ c a o.dst undef w) (awaits_of hl) (by simpa using him) l.length listed a w (Region.free_spec hi hf) hsh hri (.inr ⟨hw, rfl⟩) hS
          (drawn_go0 hsel hQ l _ S _ w hn' (hsh.set hri) hok' hS (h.2 hw))
      · obtain ⟨u, h1, h2⟩ := h.1 hw
        exact first_S (v := u) hp hi hsel (fun c a w => hQ c a o.dst u w) (awaits_of hl) (by simpa using him) l.length listed a w (Region.free_spec hi hf) hsh hri (.inl ⟨hw, h1⟩) hS
          (drawn_go0 hsel hQ l _ S _ w hn' (hsh.set hri) hok' hS h2)
    · cases hw : Region.wanted o (yielded ops a.tmps)
      · exact first_still (v := undef) hp hi hsel (fun c a w => hQ c a o.dst undef w) (by simpa using him) l.length listed a w (Region.free_spec hi hf) hsh hri (.inr ⟨hw, rfl⟩) hS
          (drawn_go0 hsel hQ l _ S _ w hn' (hsh.set hri) hok' hS (h.2 hw))
      · obtain ⟨u, h1, h2⟩ := h.1 hw
        exact first_still (v := u) hp hi hsel (fun c a w => hQ c a o.dst u w) (by simpa using him) l.length listed a w (Region.free_spec hi hf) hsh hri (.inl ⟨hw, fun w' _ => still_all hl (h1 w hS) w'⟩) hS
          (drawn_go0 hsel hQ l _ S _ w hn' (hsh.set hri) hok' hS h2)
  | .l i o keep :: l, listed, S, a, w, hn, hsh, hok, hS, h => by
    simp only [planOk0, Bool.and_eq_true, beq_iff_eq] at hok
    obtain ⟨⟨hr, hk⟩, hok'⟩ := hok
    have hi : ops[i]? = some o := hn (.l i o keep) (by simp) rfl
    have hn' : ∀ s ∈ l, s.flat = true → ops[s.idx]? = some s.oper := fun s hs => hn s (by simp [hs])
    refine ⟨fun h0 => (by rw [hr] at h0; cases h0), fun j hj => ?_⟩
    have hj0 := hj
    rw [hr] at hj
    obtain rfl : j = i := by simpa using hj
    exact head_ok (R := runP0 P r ops Q l) hi hS (fun e => by rw [e] at hk; simpa using hk) (fun S' a' w' h1 h3 => drawn_go0 hsel hQ l _ S' a' w' hn' (hsh.set hj0) hok' h1 h3) h
/-- How many operations a plan takes. -/
def cntP : List Stp → Nat
  | [] => 0
  | .fork _ :: l => cntP l
  | .q _ _ :: l => cntP l + 1
  | .l _ _ _ :: l => cntP l + 1
def headP (n : Nat) : List Stp → Option (Nat × Bool × List Stp)
  | .l j _ keep :: l => bif !keep || j != phaseEnd n l then some (j, keep, l) else none
  | _ => none
def planOk (ops : Array Oper) : List Nat → Array Bool → List Stp → Bool
  | hs, listed, [] => hs.isEmpty && (Region.ready .any ops listed).isEmpty
  | hs, listed, .q i o :: l => hs.isEmpty && (plainOp o.op && (Region.ready .any ops listed).contains i && Region.free .any ops listed i && (((waitsFor ops (phaseEnd ops.size l) i || phaseEnd ops.size l == ops.size) || (needs ops l).contains i) || stillOp o.op) && i != phaseEnd ops.size l && planOk ops [] (listed.setIfInBounds i true) l)
  | hs, listed, .l i _ keep :: l => ((Region.ready .any ops listed).contains i && (Region.ready .any ops listed).all fun x => x == i || hs.contains x) && (!keep || i != phaseEnd ops.size l) && planOk ops [] (listed.setIfInBounds i true) l
  | hs, listed, .fork ps :: l => (match headP ops.size (numPlan ops.toList ps) with
    | some (j, _, l') => (phaseEnd ops.size (numPlan ops.toList ps) == phaseEnd ops.size l) && (Region.ready .any ops listed).contains j && planOk0 ops (listed.setIfInBounds j true) l' && (cntP l == l'.length + 1) && ps.all (fun x => decide (x.1 < ops.size)) && planOk ops (j :: hs) listed l
    | none => false)
theorem headP_some {n : Nat} {l l' : List Stp} {j : Nat} {keep : Bool} (h : headP n l = some (j, keep, l')) : ∃ o, l = .l j o keep :: l' ∧ (keep = true → j ≠ phaseEnd n l') := by
  cases l with
  | nil => cases h
  | cons s l =>
    cases s with
    | q => cases h
    | fork => cases h
    | l i o k =>
      simp only [headP] at h
      cases hc : (!k || i != phaseEnd n l)
      · rw [hc] at h; cases h
      · rw [hc] at h
        cases h
        exact ⟨o, rfl, fun e => by rw [e] at hc; simpa using hc⟩
theorem numPlan_get {ops : Array Oper} {ps : List (Nat × Nat)} (hps : ps.all (fun x => decide (x.1 < ops.size)) = true) : ∀ s ∈ numPlan ops.toList ps, ops[s.idx]? = some s.oper := fun s hs => by
  simp only [List.all_eq_true, decide_eq_true_eq] at hps
  simp only [numPlan, List.mem_map] at hs
  obtain ⟨x, hx, rfl⟩ := hs
  have := opAt_get ops.toList x.1 (by simpa using hps x hx)
  split <;> simpa [Stp.idx, Stp.oper] using this
theorem drawn_go (hsel : Region.noSelect ops = true) (hQ : ∀ c a d v w, Q (.panic c) (a.put d v) w → Q (.panic c) a w) :
    ∀ (l : List Stp) (hs : List Nat) (listed : Array Bool) (S : World → Prop) (a : Act) (w : World), (∀ s ∈ l, s.flat = true → ops[s.idx]? = some s.oper) → ShutL ops listed → planOk ops hs listed l = true → S w →
      (∀ j ∈ hs, HeadOk P r ops Q S (phaseEnd ops.size l) (cntP l - 1) listed a w j) → runP P r ops Q l S a w → wpAnyS P r ops Q S (phaseEnd ops.size l) (cntP l) listed a w
  | [], hs, listed, S, a, w, _, _, hok, _, _, h => by
    simp only [planOk, Bool.and_eq_true] at hok
    exact ⟨by simpa using hok.2, h⟩
  | .q i o :: l, hs, listed, S, a, w, hn, hsh, hok, hS, _, h => by
    simp only [planOk, Bool.and_eq_true] at hok
    obtain ⟨_, ⟨⟨⟨⟨⟨hp, hr⟩, hf⟩, hl⟩, him⟩, hok'⟩⟩ := hok
    have hi : ops[i]? = some o := hn (.q i o) (by simp) rfl
    simp only [runP] at h
    have hn' : ∀ s ∈ l, s.flat = true → ops[s.idx]? = some s.oper := fun s hs => hn s (by simp [hs])
    show wpAnyS P r ops Q S (phaseEnd ops.size l) (cntP l + 1) listed a w
    rw [Bool.or_eq_true] at hl
    have hri : i ∈ Region.ready .any ops listed := by simpa using hr
    rcases hl with hl | hl
    · cases hw : Region.wanted o (yielded ops a.tmps)
      · exact first_S (v := undef) hp hi hsel (fun c a w => hQ c a o.dst undef w) (awaits_of hl) (by simpa using him) (cntP l) listed a w (Region.free_spec hi hf) hsh hri (.inr ⟨hw, rfl⟩) hS
          (drawn_go hsel hQ l [] _ S _ w hn' (hsh.set hri) hok' hS (fun j hj => by simp at hj) (h.2 hw))
      · obtain ⟨u, h1, h2⟩ := h.1 hw
        exact first_S (v := u) hp hi hsel (fun c a w => hQ c a o.dst u w) (awaits_of hl) (by simpa using him) (cntP l) listed a w (Region.free_spec hi hf) hsh hri (.inl ⟨hw, h1⟩) hS
          (drawn_go hsel hQ l [] _ S _ w hn' (hsh.set hri) hok' hS (fun j hj => by simp at hj) h2)
    · cases hw : Region.wanted o (yielded ops a.tmps)
      · exact first_still (v := undef) hp hi hsel (fun c a w => hQ c a o.dst undef w) (by simpa using him) (cntP l) listed a w (Region.free_spec hi hf) hsh hri (.inr ⟨hw, rfl⟩) hS
          (drawn_go hsel hQ l [] _ S _ w hn' (hsh.set hri) hok' hS (fun j hj => by simp at hj) (h.2 hw))
      · obtain ⟨u, h1, h2⟩ := h.1 hw
        exact first_still (v := u) hp hi hsel (fun c a w => hQ c a o.dst u w) (by simpa using him) (cntP l) listed a w (Region.free_spec hi hf) hsh hri (.inl ⟨hw, fun w' _ => still_all hl (h1 w hS) w'⟩) hS
          (drawn_go hsel hQ l [] _ S _ w hn' (hsh.set hri) hok' hS (fun j hj => by simp at hj) h2)
  | .l i o keep :: l, hs, listed, S, a, w, hn, hsh, hok, hS, hh, h => by
    simp only [planOk, Bool.and_eq_true] at hok
    obtain ⟨⟨⟨hr, hall⟩, hk⟩, hok'⟩ := hok
    have hi : ops[i]? = some o := hn (.l i o keep) (by simp) rfl
    have hn' : ∀ s ∈ l, s.flat = true → ops[s.idx]? = some s.oper := fun s hs => hn s (by simp [hs])
    have hri : i ∈ Region.ready .any ops listed := by simpa using hr
    show wpAnyS P r ops Q S (phaseEnd ops.size (.l i o keep :: l)) (cntP l + 1) listed a w
    refine ⟨fun h0 => (by rw [h0] at hri; cases hri), fun j hj => ?_⟩
    by_cases hji : j = i
    · subst hji
      exact head_ok (R := runP P r ops Q l) hi hS (fun e => by rw [e] at hk; simpa using hk) (fun S' a' w' h1 h3 => drawn_go hsel hQ l [] _ S' a' w' hn' (hsh.set hj) hok' h1 (fun j hj => by simp at hj) h3) h
    · rw [List.all_eq_true] at hall
      have h1 := hall j hj
      exact hh j (by simpa [hji] using h1)
  | .fork ps :: l, hs, listed, S, a, w, hn, hsh, hok, hS, hh, h => by
    simp only [planOk] at hok
    have hn' : ∀ s ∈ l, s.flat = true → ops[s.idx]? = some s.oper := fun s hs => hn s (by simp [hs])
    cases hp : headP ops.size (numPlan ops.toList ps) with
    | none => rw [hp] at hok; cases hok
    | some x =>
      obtain ⟨j, keep, l'⟩ := x
      rw [hp] at hok
      simp only [Bool.and_eq_true, beq_iff_eq] at hok
      obtain ⟨⟨⟨⟨⟨hm, hr⟩, hok0⟩, hc⟩, hps⟩, hok'⟩ := hok
      obtain ⟨o, e, hk⟩ := headP_some hp
      have hget := numPlan_get hps
      rw [e] at hget hm
      have hrj : j ∈ Region.ready .any ops listed := by simpa using hr
      refine drawn_go hsel hQ l (j :: hs) listed S a w hn' hsh hok' hS (fun x hx => ?_) h.1
      rcases List.mem_cons.1 hx with rfl | hx
      · have h2 := h.2
        rw [e] at h2
        have hm' : phaseEnd ops.size l = bif keep then phaseEnd ops.size l' else x := by rw [← hm]; rfl
        rw [hm', hc, Nat.add_sub_cancel]
        exact head_ok (R := runP0 P r ops Q l') (show ops[x]? = some o from hget (.l x o keep) (by simp)) hS hk (fun S' a' w' h1 h3 => drawn_go0 hsel hQ l' _ S' a' w' (fun s hs _ => hget s (by simp [hs])) (hsh.set hrj) hok0 h1 h3) h2
      · exact hh x hx
end
/-- In the order of the text. -/
def textPlan : List Oper → Nat → List Stp
  | [], _ => []
  | o :: l, i => (bif plainOp o.op then .q i o else .l i o false) :: textPlan l (i + 1)
def drawnOk (l : List Oper) (ps : List (Nat × Nat)) : Bool :=
  ps.all (fun x => decide (x.1 < l.length)) && Region.noSelect l.toArray && planOk l.toArray [] (Array.replicate l.toArray.size false) (numPlan l ps) && (ps.length == l.length)
/-- A plan with forks: kind 3: the fork of that number. -/
def forkPlan (l : List Oper) (fs : List (List (Nat × Nat))) (ps : List (Nat × Nat)) : List Stp := ps.map fun x => match x.2 with | 0 => .q x.1 (opAt l x.1) | 1 => .l x.1 (opAt l x.1) true | 2 => .l x.1 (opAt l x.1) false | _ => .fork (fs.getD x.1 [])
section
variable {P : Program} {r : Option Nat} {Q : Exit → Act → World → Prop} {l : List Oper} {id : Nat} {a : Act} {w : World}
theorem textPlan_get : ∀ (l : List Oper) (i j : Nat) (s : Stp), (textPlan l i)[j]? = some s → l[j]? = some s.oper
  | [], _, j, s, h => by simp [textPlan] at h
  | o :: l, i, j, s, h => by
    cases j with
    | zero =>
      simp only [textPlan, List.getElem?_cons_zero, Option.some.injEq] at h ⊢
      rw [← h]
      cases plainOp o.op <;> rfl
    | succ j => simp only [textPlan, List.getElem?_cons_succ] at h ⊢; exact textPlan_get l (i + 1) j s h
theorem textPlan_plain : ∀ (l : List Oper) (i : Nat), ∀ s ∈ textPlan l i, ∀ k o, s = .q k o → plainOp o.op = true
  | [], _, s, h, _, _, _ => by simp [textPlan] at h
  | o :: l, i, s, h, k, o', e => by
    simp only [textPlan, List.mem_cons] at h
    rcases h with h | h
    · rw [e] at h
      cases hp : plainOp o.op <;> rw [hp] at h <;> cases h
      exact hp
    · exact textPlan_plain l (i + 1) s h k o' e
theorem textPlan_flat : ∀ (l : List Oper) (i : Nat), ∀ s ∈ textPlan l i, s.flat = true
  | [], _, s, h => by simp [textPlan] at h
  | o :: l, i, s, h => by
    simp only [textPlan, List.mem_cons] at h
    rcases h with h | h
    · rw [h]; cases plainOp o.op <;> rfl
    · exact textPlan_flat l (i + 1) s h
theorem textPlan_len : ∀ (l : List Oper) (i : Nat), (textPlan l i).length = l.length
  | [], _ => rfl
  | o :: l, i => by simp [textPlan, textPlan_len l (i + 1)]
theorem region_text (S : World → Prop) (hS : S w) (h : runP P r l.toArray Q (textPlan l 0) S a w) : (Code.region id l.toArray false).wpIn (Fw r) 0 P Q a w := by
  refine wpIn_region ?_
  have := plain_go (ops := l.toArray) (l := textPlan l 0) 0 S a w (fun j s hj => by simpa using textPlan_get l 0 j s hj) (fun s hs => ⟨textPlan_flat l 0 s hs, textPlan_plain l 0 s hs⟩) hS h
  rw [textPlan_len] at this
  rwa [List.range_eq_range']
theorem cnt_num (l : List Oper) : ∀ ps : List (Nat × Nat), cntP (numPlan l ps) = ps.length
  | [] => rfl
  | x :: ps => by
    have ih := cnt_num l ps
    unfold numPlan at ih ⊢
    rw [List.map_cons, List.length_cons]
    split <;> exact congrArg (· + 1) ih
theorem region_drawn (ps : List (Nat × Nat)) (S : World → Prop) (hm : P.follows .mixedOrders = true) (hB : drawnOk l ps = true) (hQ : ∀ c a d v w, Q (.panic c) (a.put d v) w → Q (.panic c) a w)
    (hS : S { w with drawn := w.drawn + 1 }) (h : runP P r l.toArray Q (numPlan l ps) S a { w with drawn := w.drawn + 1 }) : (Code.region id l.toArray true).wpIn (Fw r) 0 P Q a w := by
  simp only [drawnOk, Bool.and_eq_true, beq_iff_eq, List.all_eq_true, decide_eq_true_eq] at hB
  obtain ⟨⟨⟨hn, hsel⟩, hok⟩, hlen⟩ := hB
  refine wpIn_region_any hm ?_
  have := any_of_S _ _ _ _ (drawn_go hsel hQ (numPlan l ps) [] _ S a _ (fun s hs _ => by
    simp only [numPlan, List.mem_map] at hs
    obtain ⟨x, hx, rfl⟩ := hs
    have := opAt_get l x.1 (hn x hx)
    split <;> simpa [Stp.idx, Stp.oper] using this) (fun j oj _ hl => by exfalso; rw [Array.getD_eq_getD_getElem?, Array.getElem?_replicate] at hl; split at hl <;> simp at hl) hok hS (fun j hj => by simp at hj) h)
  rw [show cntP (numPlan l ps) = l.toArray.size by rw [cnt_num, hlen]; simp] at this
  exact this
end
end Go.Proofs.Ytloaefllpokkaaa
namespace Go.Proofs.Ytloaefllpokkaaa
open Go.RowKit
inductive AE where
  | normal
  | exit (id : Nat)
  | goto (l : Nat)
  | ret
  | panic (v : V)
abbrev Post := AE → Env → Heap → Prop
/-- The marks that loops over functions leave: no call is deferred. -/
def mark (D : Nat) : Deferred := { target := .collected D, args := #[] }
def DOk (X : Ctx) (I : Imm) (a : Act) : Prop := ∃ Ds : List Nat, Ds.Nodup ∧ a.defers = Ds.map mark ++ X.base ∧ ∀ D ∈ Ds, X.w.heap.size ≤ D ∧ I D = some (.deferred (some []))
theorem DOk.nil {X : Ctx} {I : Imm} {a : Act} (h : a.defers = []) (hb : X.base = [] := by rfl) : DOk X I a := ⟨[], List.nodup_nil, by rw [h, hb]; rfl, fun D hD => by simp at hD⟩
theorem DOk.mono {X : Ctx} {I J : Imm} {a : Act} (h : DOk X I a) (hI : I.le J) : DOk X J a := by
  obtain ⟨Ds, h1, h2, h3⟩ := h
  exact ⟨Ds, h1, h2, fun D hD => ⟨(h3 D hD).1, hI _ _ (h3 D hD).2⟩⟩
def St (X : Ctx) (nt : Nat) (env : Env) (H : Heap) (I : Imm) (ρ : List (Option (Nat × Nat))) (a : Act) (w : World) : Prop := EnvOk I ρ nt env a ∧ WOk X I ρ H w ∧ DOk X I a
def Lift (X : Ctx) (nt : Nat) (Q : Post) : Exit → Act → World → Prop
  | .normal, a, w => ∃ env H I ρ, St X nt env H I ρ a w ∧ Q .normal env H
  | .exit id, a, w => ∃ env H I ρ, St X nt env H I ρ a w ∧ Q (.exit id) env H
  | .goto l, a, w => ∃ env H I ρ, St X nt env H I ρ a w ∧ Q (.goto l) env H
  | .ret, a, w => ∃ env H I ρ, St X nt env H I ρ a w ∧ Q .ret env H
  | .panic ch, a, w => ∃ v u H I ρ, ch = [{ v := u, recovered := false }] ∧ VRel I ρ v u ∧ WOk X I ρ H w ∧ DOk X I a ∧ Q (.panic v) [] H
  | .outgrown, _, _ => False
/-- The walk of a piece of code. 'm': how many own blocks there were when the call began. -/
structure AW (P : Program) (r : Option Nat) (m nt : Nat) (c : Code) (Q : Post) (env : Env) (H : Heap) : Prop where
  out : ∀ X I ρ a w, X.ρ.length = m → St X nt env H I ρ a w → c.wpIn (Fw r) 0 P (Lift X nt Q) a w
/-- The walk of a region's plan. -/
structure AR (P : Program) (r : Option Nat) (m nt : Nat) (ops : Array Oper) (Q : Post) (l : List Stp) (env : Env) (H : Heap) : Prop where
  out : ∀ X I ρ a w, X.ρ.length = m → St X nt env H I ρ a w → runP P r ops (Lift X nt Q) l (Keeps I ρ H w) a w
def AE.then (next : Env → Heap → Prop) (Q : Post) : Post
  | .normal, env, H => next env H
  | e, env, H => Q e env H
def AE.inBlock (id : Nat) (Q : Post) : Post
  | .exit id', env, H => bif Nat.beq id' id then Q .normal env H else Q (.exit id') env H
  | e, env, H => Q e env H
section
variable {P : Program} {r : Option Nat} {m nt : Nat} {Q Q' : Post} {env env' : Env} {H H' : Heap} {X : Ctx}
theorem Lift.mono (h : ∀ e env H, Q e env H → Q' e env H) : ∀ e a w, Lift X nt Q e a w → Lift X nt Q' e a w
  | .normal, _, _, ⟨a, b, c, d, e, f⟩ => ⟨a, b, c, d, e, h _ _ _ f⟩
  | .exit _, _, _, ⟨a, b, c, d, e, f⟩ => ⟨a, b, c, d, e, h _ _ _ f⟩
  | .goto _, _, _, ⟨a, b, c, d, e, f⟩ => ⟨a, b, c, d, e, h _ _ _ f⟩
  | .ret, _, _, ⟨a, b, c, d, e, f⟩ => ⟨a, b, c, d, e, h _ _ _ f⟩
  | .panic _, _, _, ⟨a, b, c, d, e, f, g, k, l, z⟩ => ⟨a, b, c, d, e, f, g, k, l, h _ _ _ z⟩
theorem aw_mono {c : Code} (h : AW P r m nt c Q env H) (hq : ∀ e env H, Q e env H → Q' e env H) : AW P r m nt c Q' env H := .mk
  fun X I ρ a w hX hs => wpIn_mono (h.1 X I ρ a w hX hs) (Lift.mono hq)
theorem aw_skip (h : Q .normal env H) : AW P r m nt .skip Q env H := .mk fun _ I ρ _ _ _ hs => wpIn_skip ⟨env, H, I, ρ, hs, h⟩
theorem aw_exit {id : Nat} (h : Q (.exit id) env H) : AW P r m nt (.exit id) Q env H := .mk fun _ I ρ _ _ _ hs => wpIn_exit ⟨env, H, I, ρ, hs, h⟩
theorem aw_ret (h : Q .ret env H) : AW P r m nt .ret Q env H := .mk fun _ I ρ _ _ _ hs => wpIn_ret ⟨env, H, I, ρ, hs, h⟩
theorem lift_then {nxt : Env → Heap → Prop} {K : Act → World → Prop} (h : ∀ env H I ρ a w, St X nt env H I ρ a w → nxt env H → K a w) : ∀ e a w, Lift X nt (AE.then nxt Q) e a w → Exit.then K (Lift X nt Q) e a w
  | .normal, _, _, ⟨_, _, _, _, e, f⟩ => h _ _ _ _ _ _ e f
  | .exit _, _, _, h => h
  | .goto _, _, _, h => h
  | .ret, _, _, h => h
  | .panic _, _, _, h => h
theorem aw_seq {x y : Code} (h : AW P r m nt x (AE.then (AW P r m nt y Q) Q) env H) : AW P r m nt (.seq x y) Q env H := .mk
  fun X I ρ a w hX hs => wpIn_seq (wpIn_mono (h.1 X I ρ a w hX hs) (lift_then fun _ _ I ρ a w hs h => h.1 X I ρ a w hX hs))
theorem eo_bool {I : Imm} {ρ : List (Option (Nat × Nat))} {a : Act} {b : Bool} {x : Operand} (h : EnvOk I ρ nt env a) (hx : eo env x = some (.s (.bool b))) : a.eval x = .bool b := by
  have h1 := eo_rel h hx
  cases h1' : a.eval x <;> rw [h1'] at h1 <;> cases h1
  rfl
theorem aw_cond {c : Operand} {x y : Code} {b : Bool} (hc : eo env c = some (.s (.bool b))) (ht : b = true → AW P r m nt x Q env H) (hf : b = false → AW P r m nt y Q env H) : AW P r m nt (.cond c x y) Q env H := .mk
  fun X I ρ a w hX hs => wpIn_cond_split (eo_bool hs.1 hc) (fun e => (ht e).1 X I ρ a w hX hs) (fun e => (hf e).1 X I ρ a w hX hs)
theorem aw_block {id : Nat} {c : Code} (h : AW P r m nt c (AE.inBlock id Q) env H) : AW P r m nt (.block id c) Q env H := .mk
  fun X I ρ a w hX hs => wpIn_block (wpIn_mono (h.1 X I ρ a w hX hs) fun e a w h => by
    cases e with
    | exit id' =>
      obtain ⟨env, H, I, ρ, hs, hq⟩ := h
      simp only [AE.inBlock] at hq
      simp only [Exit.inBlock]
      cases hb : Nat.beq id' id
      · rw [hb] at hq
        rw [if_neg (fun e => by rw [e, Nat.beq_refl] at hb; cases hb)]
        exact ⟨env, H, I, ρ, hs, hq⟩
      · rw [hb] at hq
        rw [if_pos (Nat.eq_of_beq_eq_true hb)]
        exact ⟨env, H, I, ρ, hs, hq⟩
    | normal => exact h
    | goto _ => exact h
    | ret => exact h
    | panic _ => exact h
    | outgrown => exact h)
/-- What is known of memory may be told in less, or other, words. 'm' own blocks stay what they were. -/
structure SubOf (m nt : Nat) (env : Env) (H : Heap) (env' : Env) (H' : Heap) : Prop where
  out : ∀ X I ρ a w, X.ρ.length = m → St X nt env H I ρ a w → ∃ I' ρ', I.le I' ∧ St X nt env' H' I' ρ' a w
theorem SubOf.refl (m nt : Nat) (env : Env) (H : Heap) : SubOf m nt env H env H := .mk fun _ I ρ _ _ _ h => ⟨I, ρ, Imm.le_refl I, h⟩
theorem SubOf.trans {env'' : Env} {H'' : Heap} (h : SubOf m nt env H env' H') (k : SubOf m nt env' H' env'' H'') : SubOf m nt env H env'' H'' := .mk fun X I ρ a w hX hs => by
  obtain ⟨I1, ρ1, h1, h2⟩ := h.1 X I ρ a w hX hs
  obtain ⟨I2, ρ2, h3, h4⟩ := k.1 X I1 ρ1 a w hX h2
  exact ⟨I2, ρ2, Imm.le_trans h1 h3, h4⟩
theorem aw_sub {c : Code} (hs : SubOf m nt env H env' H') (h : AW P r m nt c Q env' H') : AW P r m nt c Q env H := .mk fun X I ρ a w hX h1 => by
  obtain ⟨I', ρ', _, h2⟩ := hs.1 X I ρ a w hX h1
  exact h.1 X I' ρ' a w hX h2
theorem wpIn_loopN {F : Fence} {c : Code} {Q : Exit → Act → World → Prop} {a : Act} {w : World} (K : Nat → Act → World → Prop) (j : Nat) (h₀ : K j a w)
    (round : ∀ j a w, K j a w → c.wpIn F 0 P (Exit.then (fun a' w' => ∃ j', j' < j ∧ K j' a' w') Q) a w) : (Code.loop c).wpIn F 0 P Q a w := by
  intro b k cs hro hb hr
  have key : ∀ j a w, K j a w →
      ∃ e a' w', Q e a' w' ∧ ArrivesIn (Machine.fenced P F) P (lone (b.atR a (.code c :: .inLoop c :: k)) cs w) b k cs e a' w' := by
    intro j
    induction j using Nat.strongRecOn with
    | _ j ih =>
      intro a w hI
      obtain ⟨e, a₁, w₁, hq, harr⟩ := round j a w hI b (.inLoop c :: k) cs hro hb hr
      cases e with
      | normal =>
        obtain ⟨j', hlt, hI₁⟩ := hq
        obtain ⟨e₂, a₂, w₂, hq₂, harr₂⟩ := ih j' hlt a₁ w₁ hI₁
        exact ⟨e₂, a₂, w₂, hq₂, .of_steps (StepsIn.trans harr (.one (fenced_calm hb hr rfl) stepR_inLoop)) harr₂⟩
      | exit id => exact ⟨_, a₁, w₁, hq, .pass (x := .inLoop c) rfl (fun _ _ => .inl (by simp)) harr⟩
      | goto l => exact ⟨_, a₁, w₁, hq, .pass (x := .inLoop c) rfl (fun _ _ => .inl (by simp)) harr⟩
      | ret => exact ⟨_, a₁, w₁, hq, .pass (x := .inLoop c) rfl (fun _ _ => .inl (by simp)) harr⟩
      | panic ch => exact ⟨_, a₁, w₁, hq, .pass (x := .inLoop c) rfl (fun _ _ => .inl (by simp)) harr⟩
      | outgrown => exact ⟨_, a₁, w₁, hq, .pass (x := .inLoop c) rfl (fun _ _ => .inl (by simp)) harr⟩
  obtain ⟨e, a', w', hq, harr⟩ := key _ a w h₀
  exact ⟨e, a', w', hq, .of_steps (.one (fenced_calm hb hr rfl) stepR_loop) harr⟩
/-- A loop: 'J n': at the head of a round, 'n' going down. -/
theorem aw_loop {c : Code} (J : Nat → Env → Heap → Prop) (h0 : ∃ n, J n env H) (round : ∀ n env H, J n env H → AW P r m nt c (AE.then (fun env' H' => ∃ n', n' < n ∧ J n' env' H') Q) env H) : AW P r m nt (.loop c) Q env H := by
  refine ⟨?_⟩
  intro X I ρ a w hX hs
  obtain ⟨n, hn⟩ := h0
  exact wpIn_loopN (fun n a w => ∃ env H I ρ, St X nt env H I ρ a w ∧ J n env H) n ⟨env, H, I, ρ, hs, hn⟩ fun n a w ⟨env, H, I, ρ, hs, hJ⟩ =>
    wpIn_mono ((round _ env H hJ).1 X I ρ a w hX hs) (lift_then fun env' H' I' ρ' a' w' hs' ⟨n', hlt, hJ'⟩ => ⟨n', hlt, env', H', I', ρ', hs', hJ'⟩)
/-- A loop that counts: 'E k', 'G k': what stands at the head of round k, where 'J k' holds. -/
theorem aw_for {c : Code} (N : Nat) (J : Nat → Prop) (E : Nat → Env) (G : Nat → Heap) (hJ : J 0) (h0 : SubOf m nt env H (E 0) (G 0))
    (round : ∀ k, k ≤ N → J k → AW P r m nt c (AE.then (fun env' H' => k < N ∧ J (k + 1) ∧ SubOf m nt env' H' (E (k + 1)) (G (k + 1))) Q) (E k) (G k)) : AW P r m nt (.loop c) Q env H := by
  refine aw_loop (fun n env H => ∃ k, k ≤ N ∧ n = N - k ∧ J k ∧ SubOf m nt env H (E k) (G k)) ⟨N, 0, by omega, by omega, hJ, h0⟩ ?_
  rintro n env H ⟨k, hk, rfl, hj, hs⟩
  refine aw_sub hs (aw_mono (round k hk hj) fun e env' H' h => ?_)
  cases e <;> first | exact h | skip
  exact ⟨N - (k + 1), by have := h.1; omega, k + 1, h.1, rfl, h.2.1, h.2.2⟩
variable {ops : Array Oper} {l : List Stp}
theorem Keeps.drew {I : Imm} {ρ : List (Option (Nat × Nat))} {w w' : World} : Keeps I ρ H { w with drawn := w.drawn + 1 } w' ↔ Keeps I ρ H w w' := Iff.rfl
theorem WOk.drew {I : Imm} {ρ : List (Option (Nat × Nat))} {w : World} (h : WOk X I ρ H w) : WOk X I ρ H { w with drawn := w.drawn + 1 } :=
  ⟨h.len, h.inj, h.imm, h.apart, h.size, h.none, h.arr, h.map, h.mine, h.news, h.le, h.pre, h.os, h.tape, h.out, h.grow, h.keep⟩
theorem aw_region {l : List Oper} {id : Nat} (h : AR P r m nt l.toArray Q (textPlan l 0) env H) : AW P r m nt (.region id l.toArray false) Q env H := .mk
  fun X I ρ a w hX hs => region_text (Keeps I ρ H w) (Keeps.refl hs.2.1) (h.1 X I ρ a w hX hs)
theorem lift_put : ∀ (c : List PanicEntry) (a : Act) (d : Option Tmp) (v : Value) (w : World), Lift X nt Q (.panic c) (a.put d v) w → Lift X nt Q (.panic c) a w := by
  rintro c a d v w ⟨x, u, H, I, ρ, h1, h2, h3, h4, h5⟩
  refine ⟨x, u, H, I, ρ, h1, h2, h3, ?_, h5⟩
  cases d <;> exact h4
theorem aw_drawn {l : List Oper} {id : Nat} (ps : List (Nat × Nat)) (hm : P.follows .mixedOrders = true) (hB : drawnOk l ps = true) (h : AR P r m nt l.toArray Q (numPlan l ps) env H) : AW P r m nt (.region id l.toArray true) Q env H := .mk
  fun X I ρ a w hX hs => region_drawn ps (Keeps I ρ H w) hm hB lift_put (Keeps.refl (X := X) hs.2.1.drew) (h.1 X I ρ a { w with drawn := w.drawn + 1 } hX ⟨hs.1, hs.2.1.drew, hs.2.2⟩)
theorem ar_nil (h : Q .normal env H) : AR P r m nt ops Q [] env H := .mk fun _ I ρ _ _ _ hs => ⟨env, H, I, ρ, hs, h⟩
theorem wanted_none {o : Oper} {y : Nat → Option Bool} (h : o.guard = none) : Region.wanted o y = true := by simp [Region.wanted, h]
theorem ar_q {i d : Nat} {op : Op} {ty : TypeId} {pos : String} {after : Array Edge} {v : V} (h : QS P nt env H ⟨some d, op, ty, pos, after, none⟩ v) (hd : d < nt) (hk : AR P r m nt ops Q l ((d, v) :: env) H) :
    AR P r m nt ops Q (.q i ⟨some d, op, ty, pos, after, none⟩ :: l) env H := .mk fun X I ρ a w hX hs => by
  refine ⟨fun _ => ?_, fun hw => by rw [wanted_none rfl] at hw; cases hw⟩
  obtain ⟨u, h1, h2⟩ := h.1 X I ρ a w hs.1 hs.2.1
  refine ⟨u, h2, hk.1 X I ρ _ w hX ⟨hs.1.put h1 hd, hs.2.1, ?_⟩⟩
  exact hs.2.2
def Stp.bare : Stp → Stp
  | .q i o => .q i { o with guard := none }
  | .l i o k => .l i { o with guard := none } k
  | .fork ps => .fork ps
theorem ar_guard {s : Stp} {g t d : Nat} {b want : Bool} (hg : s.oper.guard = some (g, want)) (ht : (ops[g]?).bind (·.dst) = some t) (hb : look env t = some (.s (.bool b))) (hd : s.oper.dst = some d) (hdn : d < nt)
    (hy : b = want → AR P r m nt ops Q (s.bare :: l) ((t, .s (.bool want)) :: env) H) (hn : b = !want → AR P r m nt ops Q l ((d, .s undef) :: (t, .s (.bool !want)) :: env) H) : AR P r m nt ops Q (s :: l) env H := .mk fun X I ρ a w hX hs => by
  obtain ⟨h1, h2⟩ := hs.1.2 t _ hb
  have ev : a.tmps.getD t undef = .bool b := by cases h2' : a.tmps.getD t undef <;> rw [h2'] at h2 <;> cases h2; rfl
  have ey : yielded ops a.tmps g = some b := by
    unfold yielded
    have hlt : t < a.tmps.size := by rw [hs.1.1]; exact h1
    simp only [ht, Option.bind_some]
    simp [hlt] at ev
    simp [hlt, ev]
  have hw : Region.wanted s.oper (yielded ops a.tmps) = (b == want) := by
    unfold Region.wanted
    rw [hg]
    simp only [ey]
    cases b <;> cases want <;> rfl
  have sub : ∀ b', b = b' → EnvOk I ρ nt ((t, .s (.bool b')) :: env) a := fun b' e => by
    subst e
    refine ⟨hs.1.1, fun t' v' h' => ?_⟩
    rw [look_cons] at h'
    split at h'
    · rename_i e; subst e; cases h'; exact ⟨h1, h2⟩
    · exact hs.1.2 t' v' h'
  by_cases e : b = want
  · have ih := (hy e).1 X I ρ a w hX ⟨sub _ e, hs.2⟩
    clear hy hn
    have hwt : Region.wanted s.oper (yielded ops a.tmps) = true := by rw [hw, e]; simp
    cases s with
    | q i o =>
      have ih : (Region.wanted { o with guard := none } (yielded ops a.tmps) = true → _) ∧ _ := ih
      exact ⟨fun _ => ih.1 (wanted_none rfl), fun h' => absurd (h'.symm.trans hwt) (by decide)⟩
    | l i o k =>
      have ih : (Region.wanted { o with guard := none } (yielded ops a.tmps) = true → _) ∧ _ := ih
      exact ⟨fun _ => ih.1 (wanted_none rfl), fun h' => absurd (h'.symm.trans hwt) (by decide)⟩
    | fork ps => cases hg
  · have e' : b = !want := by cases b <;> cases want <;> simp_all
    have hwf : Region.wanted s.oper (yielded ops a.tmps) = false := by rw [hw, e']; cases want <;> rfl
    have ih : runP P r ops (Lift X nt Q) l (Keeps I ρ H w) (a.put (some d) undef) w := (hn e').1 X I ρ _ w hX ⟨(sub _ e').put (.s _) hdn, hs.2.1, hs.2.2⟩
    rw [← hd] at ih
    cases s with
    | q i o => exact ⟨fun h' => absurd (h'.symm.trans hwf) (by decide), fun _ => ih⟩
    | l i o k => exact ⟨fun h' => absurd (h'.symm.trans hwf) (by decide), fun _ => ih⟩
    | fork ps => cases hg
structure LS (P : Program) (r : Option Nat) (m nt : Nat) (keep : Bool) (env : Env) (H : Heap) (o : Oper) (R Rp : V → Heap → Prop) : Prop where
  out : ∀ X I ρ a w next Qx, X.ρ.length = m → St X nt env H I ρ a w →
    (∀ I' ρ' H' v u w', R v H' → I.le I' → Pre ρ ρ' → WOk X I' ρ' H' w' → VRel I' ρ' v u → (keep = true → ∀ x, Keeps I' ρ' H' w' x → Keeps I ρ H w x) → next (a.put o.dst u) w') →
    (∀ I' ρ' H' v u w', Rp v H' → I.le I' → WOk X I' ρ' H' w' → VRel I' ρ' v u → Qx (.panic [{ v := u, recovered := false }]) a w') →
    o.wpIn (Fw r) 0 P a w next Qx
def NoP : V → Heap → Prop := fun _ _ => False
theorem ar_l {i d : Nat} {op : Op} {ty : TypeId} {pos : String} {after : Array Edge} {keep : Bool} {R Rp : V → Heap → Prop} (h : LS P r m nt keep env H ⟨some d, op, ty, pos, after, none⟩ R Rp) (hd : d < nt)
    (hk : ∀ v H', R v H' → AR P r m nt ops Q l ((d, v) :: env) H') (hp : ∀ v H', Rp v H' → Q (.panic v) [] H') : AR P r m nt ops Q (.l i ⟨some d, op, ty, pos, after, none⟩ keep :: l) env H := .mk fun X I ρ a w hX hs => by
  refine ⟨fun _ => ?_, fun hw => by rw [wanted_none rfl] at hw; cases hw⟩
  refine h.1 X I ρ a w _ _ hX hs (fun I' ρ' H' v u w' hR hI hρ hw hv hK => ?_) (fun I' ρ' H' v u w' hR hI hw hv => ⟨v, u, H', I', ρ', rfl, hv, hw, hs.2.2.mono hI, hp v H' hR⟩)
  exact ⟨Keeps I' ρ' H' w', Keeps.refl hw, hK, (hk v H' hR).1 X I' ρ' _ w' hX ⟨(hs.1.mono hI hρ).put hv hd, hw, hs.2.2.mono hI⟩⟩
theorem ar_l0 {i : Nat} {op : Op} {ty : TypeId} {pos : String} {after : Array Edge} {keep : Bool} {R Rp : V → Heap → Prop} (h : LS P r m nt keep env H ⟨none, op, ty, pos, after, none⟩ R Rp)
    (hk : ∀ v H', R v H' → AR P r m nt ops Q l env H') (hp : ∀ v H', Rp v H' → Q (.panic v) [] H') : AR P r m nt ops Q (.l i ⟨none, op, ty, pos, after, none⟩ keep :: l) env H := .mk fun X I ρ a w hX hs => by
  refine ⟨fun _ => ?_, fun hw => by rw [wanted_none rfl] at hw; cases hw⟩
  refine h.1 X I ρ a w _ _ hX hs (fun I' ρ' H' v u w' hR hI hρ hw hv hK => ?_) (fun I' ρ' H' v u w' hR hI hw hv => ⟨v, u, H', I', ρ', rfl, hv, hw, hs.2.2.mono hI, hp v H' hR⟩)
  exact ⟨Keeps I' ρ' H' w', Keeps.refl hw, hK, (hk v H' hR).1 X I' ρ' _ w' hX ⟨hs.1.mono hI hρ, hw, hs.2.2.mono hI⟩⟩
end
end Go.Proofs.Ytloaefllpokkaaa
namespace Go.Proofs.Ytloaefllpokkaaa
open Go.RowKit
section
variable {X : Ctx} {I I' : Imm} {ρ ρ' : List (Option (Nat × Nat))} {H H' : Heap} {w w' : World}
def Ctx.self (w : World) (ρ : List (Option (Nat × Nat))) (H : Heap) (I : Imm) : Ctx := ⟨w, ρ, H, I, []⟩
theorem WOk.lt (h : WOk X I ρ H w) {b : Nat} (hb : Live H ρ b) : b < w.heap.size := by
  obtain ⟨k, blk, h1, h2, z, h3⟩ := hb
  cases blk with
  | dead => exact (h2 rfl).elim
  | arr sz n f =>
    obtain ⟨cs, ty, h4, _⟩ := h.arr _ _ _ _ _ _ h1 h3
    exact (Array.getElem?_eq_some_iff.1 h4).1
  | map m =>
    obtain ⟨b', h5, es, clk, h6, _⟩ := h.map _ _ h1
    rw [h3] at h5
    cases h5
    exact (Array.getElem?_eq_some_iff.1 h6).1
theorem WOk.self (h : WOk X I ρ H w) : WOk (Ctx.self w ρ H I) I ρ H w :=
  ⟨h.len, h.inj, h.imm, h.apart, h.size, h.none, h.arr, h.map, fun _ hb => .inr hb, fun _ hb => .inl hb, Imm.le_refl _, Pre.refl _, rfl, rfl, rfl, Nat.le_refl _, fun _ _ _ => rfl⟩
theorem WOk.trans (h : WOk X I ρ H w) (k : WOk (Ctx.self w ρ H I) I' ρ' H' w') : WOk X I' ρ' H' w' where
  len := k.len
  inj := k.inj
  imm := k.imm
  apart := k.apart
  size := k.size
  none := k.none
  arr := k.arr
  map := k.map
  mine := fun b hb => by
    rcases k.mine b hb with h1 | h1
    · exact .inl (Nat.le_trans h.grow h1)
    · exact h.mine b h1
  news := fun b hb => by
    rcases k.news b hb with h1 | h1 | h1
    · exact h.news b h1
    · exact .inr (.inl (Nat.le_trans h.grow h1))
    · exact .inr (h.mine b h1)
  le := Imm.le_trans h.le k.le
  pre := h.pre.trans k.pre
  os := k.os.trans h.os
  tape := k.tape.trans h.tape
  out := k.out.trans h.out
  grow := Nat.le_trans h.grow k.grow
  keep := fun b hb hl => by
    have h1 : ¬ Live H ρ b := fun hL => by
      rcases h.mine b hL with h2 | h2
      · omega
      · exact hl h2
    exact (k.keep b (Nat.lt_of_lt_of_le hb h.grow) h1).trans (h.keep b hb hl)
theorem ArrRel.mono {b z sz n : Nat} {f : Nat → V} (h : ArrRel I ρ w b z sz n f) (hI : I.le I') (hρ : Pre ρ ρ') (hw : w'.heap[b]? = w.heap[b]?) : ArrRel I' ρ' w' b z sz n f := by
  obtain ⟨cs, ty, h1, h2, h3, h4⟩ := h
  refine ⟨cs, ty, hw.trans h1, h2, h3, fun i j v hi hj => ?_⟩
  obtain ⟨u, h5, h6⟩ := h4 i j v hi hj
  exact ⟨u, h5, h6.mono hI hρ⟩
theorem MapRel.mono {b : Nat} {m : List (Value × V)} (h : MapRel I ρ w b m) (hI : I.le I') (hρ : Pre ρ ρ') (hw : w'.heap[b]? = w.heap[b]?) : MapRel I' ρ' w' b m := by
  obtain ⟨es, clk, h1, h2, h3⟩ := h
  refine ⟨es, clk, hw.trans h1, h2, fun i e x hi hx => ?_⟩
  obtain ⟨h4, h5⟩ := h3 i e x hi hx
  exact ⟨h4, h5.mono hI hρ⟩
theorem pre_append (x : Option (Nat × Nat)) : Pre ρ (ρ ++ [x]) := fun k y h => by
  rw [List.getElem?_append_left (List.getElem?_eq_some_iff.1 h).1]; exact h
theorem live_append (hlen : ρ.length = H.length) {blk : Blk} {x : Option (Nat × Nat)} {b : Nat} (h : Live (H ++ [blk]) (ρ ++ [x]) b) : Live H ρ b ∨ ∃ z, x = some (b, z) ∧ blk ≠ .dead := by
  obtain ⟨k, bl, h1, h2, z, h3⟩ := h
  by_cases hk : k < H.length
  · rw [List.getElem?_append_left hk] at h1
    rw [List.getElem?_append_left (by omega)] at h3
    exact .inl ⟨k, bl, h1, h2, z, h3⟩
  · have : k = H.length := by
      have := (List.getElem?_eq_some_iff.1 h1).1
      simp at this
      omega
    subst this
    simp at h1
    rw [← hlen] at h3
    simp at h3
    exact .inr ⟨z, h3, by rw [h1]; exact h2⟩
theorem get_append_lt {α : Type} {l : List α} {x y : α} {k : Nat} (h : (l ++ [x])[k]? = some y) : (k < l.length ∧ l[k]? = some y) ∨ (k = l.length ∧ x = y) := by
  by_cases hk : k < l.length
  · rw [List.getElem?_append_left hk] at h; exact .inl ⟨hk, h⟩
  · have := (List.getElem?_eq_some_iff.1 h).1
    simp at this
    have e : k = l.length := by omega
    subst e
    simp at h
    exact .inr ⟨rfl, h⟩
/-- A block that becomes ours. -/
theorem WOk.adopt (h : WOk X I ρ H w) {cb : Nat} {cs : Array Value} {ty : TypeId} {sz n : Nat} {f : Nat → V} (hL : ¬ Live H ρ cb) (hI : I cb = Option.none) (hm : X.w.heap.size ≤ cb ∨ Live X.H X.ρ cb) (hn : n * sz ≤ cs.size) (hs : ∀ i, i < n → (f i).cells.length = sz)
    (hr : ∀ (i j : Nat) v, i < n → (f i).cells[j]? = some v → ∃ u, cs[i * sz + j]? = some u ∧ VRel I ρ v u) (hnew : w'.heap[cb]? = some (.cells cs ty (0, 0))) (hold : ∀ c, c ≠ cb → c < w.heap.size → w'.heap[c]? = w.heap[c]?) (hsize : w.heap.size ≤ w'.heap.size)
    (ho : w'.os = w.os) (ht : w'.tape = w.tape) (hout : w'.output = w.output) :
    WOk X I (ρ ++ [some (cb, cs.size)]) (H ++ [.arr sz n f]) w' := by
  have old : ∀ b, Live H ρ b → w'.heap[b]? = w.heap[b]? := fun b hb => hold b (fun e => hL (e ▸ hb)) (h.lt hb)
  refine { len := by simp [h.len], inj := ?_, imm := ?_, apart := ?_, size := ?_, none := ?_, arr := ?_, map := ?_, mine := ?_, news := h.news, le := h.le, pre := h.pre.trans (pre_append _), os := ho.trans h.os, tape := ht.trans h.tape, out := hout.trans h.out, grow := Nat.le_trans h.grow hsize, keep := ?_ }
  · rintro i j b ⟨x, hx, hx'⟩ ⟨y, hy, hy'⟩ z1 z2 h1 h2
    rcases get_append_lt hx with ⟨a1, a2⟩ | ⟨a1, a2⟩ <;> rcases get_append_lt hy with ⟨b1, b2⟩ | ⟨b1, b2⟩
    · rw [List.getElem?_append_left (by rw [h.len]; exact a1)] at h1
      rw [List.getElem?_append_left (by rw [h.len]; exact b1)] at h2
      exact h.inj i j b ⟨x, a2, hx'⟩ ⟨y, b2, hy'⟩ z1 z2 h1 h2
    · rw [List.getElem?_append_left (by rw [h.len]; exact a1)] at h1
      rw [b1, ← h.len] at h2
      simp at h2
      exact (hL ⟨i, x, a2, hx', z1, by rw [h2.1]; exact h1⟩).elim
    · rw [List.getElem?_append_left (by rw [h.len]; exact b1)] at h2
      rw [a1, ← h.len] at h1
      simp at h1
      exact (hL ⟨j, y, b2, hy', z2, by rw [h1.1]; exact h2⟩).elim
    · omega
  · intro b o hb
    have := h.imm b o hb
    rw [hold b (fun e => by subst e; rw [hI] at hb; cases hb) (Array.getElem?_eq_some_iff.1 this).1]
    exact this
  · intro b hb
    rcases live_append h.len hb with h1 | ⟨z, h1, _⟩
    · exact h.apart b h1
    · simp at h1; rw [← h1.1]; exact hI
  · intro k sz' n' f' hk
    rcases get_append_lt hk with ⟨_, a2⟩ | ⟨_, a2⟩
    · exact h.size k sz' n' f' a2
    · cases a2; exact hs
  · intro k sz' n' f' hk hρ
    rcases get_append_lt hk with ⟨a1, a2⟩ | ⟨a1, a2⟩
    · rw [List.getElem?_append_left (by rw [h.len]; exact a1)] at hρ
      exact h.none k sz' n' f' a2 hρ
    · rw [a1, ← h.len] at hρ; simp at hρ
  · intro k sz' n' f' b z hk hρ
    rcases get_append_lt hk with ⟨a1, a2⟩ | ⟨a1, a2⟩
    · rw [List.getElem?_append_left (by rw [h.len]; exact a1)] at hρ
      exact (h.arr k sz' n' f' b z a2 hρ).mono (Imm.le_refl _) (pre_append _) (old b ⟨k, _, a2, by simp, z, hρ⟩)
    · rw [a1, ← h.len] at hρ
      simp at hρ
      obtain ⟨rfl, rfl⟩ := hρ
      cases a2
      refine ⟨cs, ty, hnew, rfl, hn, fun i j v hi hj => ?_⟩
      obtain ⟨u, h5, h6⟩ := hr i j v hi hj
      exact ⟨u, h5, h6.mono (Imm.le_refl _) (pre_append _)⟩
  · intro k m hk
    rcases get_append_lt hk with ⟨a1, a2⟩ | ⟨a1, a2⟩
    · obtain ⟨b, h1, h2⟩ := h.map k m a2
      exact ⟨b, by rw [List.getElem?_append_left (by rw [h.len]; exact a1)]; exact h1, h2.mono (Imm.le_refl _) (pre_append _) (old b ⟨k, _, a2, by simp, 0, h1⟩)⟩
    · cases a2
  · intro b hb
    rcases live_append h.len hb with h1 | ⟨z, h1, _⟩
    · exact h.mine b h1
    · simp at h1; rw [← h1.1]; exact hm
  · intro b hb hl
    have hb' : b < w.heap.size := Nat.lt_of_lt_of_le hb h.grow
    rw [hold b (fun e => by
      subst e
      rcases hm with h1 | h1
      · omega
      · exact hl h1) hb']
    exact h.keep b hb hl
/-- A new block, ours. -/
theorem WOk.alloc (h : WOk X I ρ H w) {cs : Array Value} {ty : TypeId} {sz n : Nat} {f : Nat → V} (hn : n * sz ≤ cs.size) (hs : ∀ i, i < n → (f i).cells.length = sz)
    (hr : ∀ (i j : Nat) v, i < n → (f i).cells[j]? = some v → ∃ u, cs[i * sz + j]? = some u ∧ VRel I ρ v u) (hd : w'.heap = w.heap.push (.cells cs ty)) (ho : w'.os = w.os) (ht : w'.tape = w.tape) (hout : w'.output = w.output) :
    WOk X I (ρ ++ [some (w.heap.size, cs.size)]) (H ++ [.arr sz n f]) w' :=
  h.adopt (fun hb => by have := h.lt hb; omega) (by
    cases hI : I w.heap.size with
    | none => rfl
    | some o =>
      have := (Array.getElem?_eq_some_iff.1 (h.imm _ o hI)).1
      omega) (.inl h.grow) hn hs hr (ty := ty) (by rw [hd]; simp) (fun c hc hlt => by rw [hd, Array.getElem?_push]; simp [hc]) (by rw [hd]; simp) ho ht hout
/-- A block that is let go. -/
theorem WOk.kill (h : WOk X I ρ H w) (k : Nat) : WOk X I ρ (H.set k .dead) w := by
  have get : ∀ (j : Nat) blk, (H.set k .dead)[j]? = some blk → blk ≠ .dead → j ≠ k ∧ H[j]? = some blk := fun j blk hj hd => by
    rw [List.getElem?_set] at hj
    by_cases e : k = j
    · subst e
      rw [if_pos rfl] at hj
      split at hj
      · cases hj; exact (hd rfl).elim
      · cases hj
    · rw [if_neg e] at hj; exact ⟨fun x => e x.symm, hj⟩
  have alive : ∀ (j : Nat), (∃ x : Blk, (H.set k .dead)[j]? = some x ∧ x ≠ .dead) → ∃ x : Blk, H[j]? = some x ∧ x ≠ .dead := fun j ⟨x, hx, hx'⟩ => ⟨x, (get j x hx hx').2, hx'⟩
  have live : ∀ c, Live (H.set k .dead) ρ c → Live H ρ c := fun c ⟨j, x, h1, h2, z', h3⟩ => ⟨j, x, (get j x h1 h2).2, h2, z', h3⟩
  exact { len := by simp [h.len], inj := fun i j c hi hj => h.inj i j c (alive i hi) (alive j hj), imm := h.imm, apart := fun c hc => h.apart c (live c hc), size := fun j sz n f hj => h.size j sz n f (get j _ hj (by simp)).2, none := fun j sz n f hj => h.none j sz n f (get j _ hj (by simp)).2, arr := fun j sz n f b z hj => h.arr j sz n f b z (get j _ hj (by simp)).2, map := fun j m hj => h.map j m (get j _ hj (by simp)).2, mine := fun c hc => h.mine c (live c hc), news := h.news, le := h.le, pre := h.pre, os := h.os, tape := h.tape, out := h.out, grow := h.grow, keep := h.keep }
theorem not_live_kill (h : WOk X I ρ H w) {k : Nat} {blk : Blk} {b z : Nat} (hk : H[k]? = some blk) (hd : blk ≠ .dead) (hb : ρ[k]? = some (some (b, z))) : ¬ Live (H.set k .dead) ρ b := by
  rintro ⟨j, x, h1, h2, z', h3⟩
  rw [List.getElem?_set] at h1
  by_cases e : k = j
  · subst e
    rw [if_pos rfl] at h1
    split at h1
    · cases h1; exact h2 rfl
    · cases h1
  · rw [if_neg e] at h1
    exact e (h.inj k j b ⟨_, hk, hd⟩ ⟨_, h1, h2⟩ z z' hb h3)
/-- A row of nothing, nowhere yet. -/
theorem WOk.virtual (h : WOk X I ρ H w) {sz : Nat} {f : Nat → V} : WOk X I (ρ ++ [Option.none]) (H ++ [.arr sz 0 f]) w := by
  have live : ∀ c, Live (H ++ [.arr sz 0 f]) (ρ ++ [Option.none]) c → Live H ρ c := fun c hc => by
    rcases live_append h.len hc with h1 | ⟨z, h1, _⟩
    · exact h1
    · cases h1
  have back : ∀ (j : Nat) blk b z, (H ++ [.arr sz 0 f])[j]? = some blk → (ρ ++ [Option.none])[j]? = some (some (b, z)) → H[j]? = some blk ∧ ρ[j]? = some (some (b, z)) := fun j blk b z h1 h2 => by
    rcases get_append_lt h1 with ⟨a1, a2⟩ | ⟨a1, a2⟩
    · rw [List.getElem?_append_left (by rw [h.len]; exact a1)] at h2; exact ⟨a2, h2⟩
    · rw [a1, ← h.len] at h2; simp at h2
  refine { len := by simp [h.len], inj := ?_, imm := h.imm, apart := fun c hc => h.apart c (live c hc), size := ?_, none := ?_, arr := ?_, map := ?_, mine := fun c hc => h.mine c (live c hc), news := h.news, le := h.le, pre := h.pre.trans (pre_append _), os := h.os, tape := h.tape, out := h.out, grow := h.grow, keep := h.keep }
  · rintro i j b ⟨x, hx, hx'⟩ ⟨y, hy, hy'⟩ z1 z2 h1 h2
    obtain ⟨a1, a2⟩ := back i x b z1 hx h1
    obtain ⟨b1, b2⟩ := back j y b z2 hy h2
    exact h.inj i j b ⟨x, a1, hx'⟩ ⟨y, b1, hy'⟩ z1 z2 a2 b2
  · intro k sz' n' f' hk
    rcases get_append_lt hk with ⟨_, a2⟩ | ⟨_, a2⟩
    · exact h.size k sz' n' f' a2
    · cases a2; intro i hi; omega
  · intro k sz' n' f' hk hρ
    rcases get_append_lt hk with ⟨a1, a2⟩ | ⟨a1, a2⟩
    · rw [List.getElem?_append_left (by rw [h.len]; exact a1)] at hρ
      exact h.none k sz' n' f' a2 hρ
    · cases a2; rfl
  · intro k sz' n' f' b z hk hρ
    obtain ⟨a1, a2⟩ := back k _ b z hk hρ
    exact (h.arr k sz' n' f' b z a1 a2).mono (Imm.le_refl _) (pre_append _) rfl
  · intro k m hk
    rcases get_append_lt hk with ⟨a1, a2⟩ | ⟨a1, a2⟩
    · obtain ⟨b, h1, h2⟩ := h.map k m a2
      exact ⟨b, by rw [List.getElem?_append_left (by rw [h.len]; exact a1)]; exact h1, h2.mono (Imm.le_refl _) (pre_append _) rfl⟩
    · cases a2
theorem keeps_alloc (h : WOk X I ρ H w) {x : Option (Nat × Nat)} {blk : Blk} (old : ∀ b, b < w.heap.size → w'.heap[b]? = w.heap[b]?) : ∀ y, Keeps I (ρ ++ [x]) (H ++ [blk]) w' y → Keeps I ρ H w y := fun y hy => by
  refine ⟨hy.1, fun k sz n f b z hk hρ o ho => ?_, fun k m b z hk hρ => ?_⟩
  · have := hy.2.1 k sz n f b z (by rw [List.getElem?_append_left (List.getElem?_eq_some_iff.1 hk).1]; exact hk) (by rw [List.getElem?_append_left (List.getElem?_eq_some_iff.1 hρ).1]; exact hρ) o ho
    rw [this]
    exact World.cell?_of_block (a := ⟨b, o, none⟩) (old b (h.lt ⟨k, _, hk, by simp, z, hρ⟩))
  · have := hy.2.2 k m b z (by rw [List.getElem?_append_left (List.getElem?_eq_some_iff.1 hk).1]; exact hk) (by rw [List.getElem?_append_left (List.getElem?_eq_some_iff.1 hρ).1]; exact hρ)
    rw [this]
    exact old b (h.lt ⟨k, _, hk, by simp, z, hρ⟩)
/-- Other contents in a block of ours. -/
theorem WOk.write (h : WOk X I ρ H w) {k sz n b z : Nat} {f g : Nat → V} (hk : H[k]? = some (.arr sz n f)) (hb : ρ[k]? = some (some (b, z))) {cs : Array Value} {ty : TypeId} (hsz : cs.size = z) (hs : ∀ i, i < n → (g i).cells.length = sz)
    (hr : ∀ (i j : Nat) v, i < n → (g i).cells[j]? = some v → ∃ u, cs[i * sz + j]? = some u ∧ VRel I ρ v u) (hnew : w'.heap[b]? = some (.cells cs ty (0, 0))) (hold : ∀ c, c ≠ b → w'.heap[c]? = w.heap[c]?) (hsize : w'.heap.size = w.heap.size)
    (ho : w'.os = w.os) (ht : w'.tape = w.tape) (hout : w'.output = w.output) : WOk X I ρ (H.set k (.arr sz n g)) w' := by
  have hL : Live H ρ b := ⟨k, _, hk, by simp, z, hb⟩
  have hkl : k < H.length := (List.getElem?_eq_some_iff.1 hk).1
  have get : ∀ (j : Nat) blk, (H.set k (.arr sz n g))[j]? = some blk → (j = k ∧ blk = .arr sz n g) ∨ (j ≠ k ∧ H[j]? = some blk) := fun j blk hj => by
    rw [List.getElem?_set] at hj
    by_cases e : k = j
    · subst e; rw [if_pos rfl, if_pos hkl] at hj; cases hj; exact .inl ⟨rfl, rfl⟩
    · rw [if_neg e] at hj; exact .inr ⟨fun x => e x.symm, hj⟩
  have alive : ∀ (j : Nat), (∃ x : Blk, (H.set k (.arr sz n g))[j]? = some x ∧ x ≠ .dead) → ∃ x : Blk, H[j]? = some x ∧ x ≠ .dead := fun j ⟨x, hx, hx'⟩ => by
    rcases get j x hx with ⟨rfl, _⟩ | ⟨_, h1⟩
    · exact ⟨_, hk, by simp⟩
    · exact ⟨x, h1, hx'⟩
  have live : ∀ c, Live (H.set k (.arr sz n g)) ρ c → Live H ρ c := fun c ⟨j, x, h1, h2, z', h3⟩ => by
    obtain ⟨y, h4, h5⟩ := alive j ⟨x, h1, h2⟩
    exact ⟨j, y, h4, h5, z', h3⟩
  have other : ∀ (j c : Nat) z', (∃ x : Blk, H[j]? = some x ∧ x ≠ .dead) → j ≠ k → ρ[j]? = some (some (c, z')) → w'.heap[c]? = w.heap[c]? := fun j c z' hx hj hc => by
    refine hold c fun e => hj ?_
    subst e
    exact h.inj j k c hx ⟨_, hk, by simp⟩ z' z hc hb
  refine h.trans { len := by simp [h.len], inj := fun i j c hi hj => h.inj i j c (alive i hi) (alive j hj), imm := ?_, apart := fun c hc => h.apart c (live c hc), size := ?_, none := ?_, arr := ?_, map := ?_, mine := fun c hc => .inr (live c hc), news := fun _ hb => .inl hb, le := Imm.le_refl _, pre := Pre.refl _, os := ho, tape := ht, out := hout, grow := by show w.heap.size ≤ _; omega, keep := ?_ }
  · intro c o hc
    have : c ≠ b := fun e => by subst e; rw [h.apart c hL] at hc; cases hc
    rw [hold c this]
    exact h.imm c o hc
  · intro j sz' n' f' hj
    rcases get j _ hj with ⟨_, h1⟩ | ⟨_, h1⟩
    · cases h1; exact hs
    · exact h.size j sz' n' f' h1
  · intro j sz' n' f' hj hρ
    rcases get j _ hj with ⟨rfl, h1⟩ | ⟨_, h1⟩
    · rw [hb] at hρ; cases hρ
    · exact h.none j sz' n' f' h1 hρ
  · intro j sz' n' f' c z' hj hρ
    rcases get j _ hj with ⟨rfl, h1⟩ | ⟨hne, h1⟩
    · rw [hb] at hρ
      cases hρ
      cases h1
      obtain ⟨_, _, _, _, hn, _⟩ := h.arr _ _ _ _ _ _ hk hb
      exact ⟨cs, ty, hnew, hsz, hn, hr⟩
    · exact (h.arr j sz' n' f' c z' h1 hρ).mono (Imm.le_refl _) (Pre.refl _) (other j c z' ⟨_, h1, by simp⟩ hne hρ)
  · intro j m hj
    rcases get j _ hj with ⟨_, h1⟩ | ⟨hne, h1⟩
    · cases h1
    · obtain ⟨c, h2, h3⟩ := h.map j m h1
      exact ⟨c, h2, h3.mono (Imm.le_refl _) (Pre.refl _) (other j c 0 ⟨_, h1, by simp⟩ hne h2)⟩
  · intro c hc hl
    exact hold c fun e => hl (by subst e; exact hL)
end
section
variable {P : Program} {r : Option Nat} {m nt : Nat} {env : Env} {H : Heap} {dst : Option Tmp} {ty : TypeId} {pos : String} {after : Array Edge} {guard : Option (Nat × Bool)} {x y c : Operand} {T E : TypeId} {d de : TyD} {v : V} {keep : Bool}
theorem wpIn_of_run {o : Oper} {a : Act} {w : World} {next : Act → World → Prop} {Q : Exit → Act → World → Prop} {res : Result Next} (hnd : ∀ c, o.op ≠ .defer c) (h : (execOp a.eval o).run P w = res) (k : o.uponIn (Fw r) 0 P a next Q res) : o.wpIn (Fw r) 0 P a w next Q := by
  refine ⟨fun _ _ => trivial, ?_⟩
  rw [Oper.semAt_eq _ _ _ hnd, h]
  exact k
/-- A value that is none of Go's aggregates avs they are. -/
def V.ok : V → Bool
  | .s (.agg _) => false
  | _ => true
theorem V.ok_ne (h : v.ok = true) : ∀ cs, v = .s (.agg cs) → False := fun cs e => by subst e; cases h
theorem ptr_new {I : Imm} {ρ : List (Option (Nat × Nat))} {b z sz : Nat} (hl : ρ.length = H.length) : VRel I (ρ ++ [some (b, z)]) (.ptr sz H.length 0 0) (.pointer (some ⟨b, 0, none⟩)) := by
  have := VRel.ptr (I := I) (ρ := ρ ++ [some (b, z)]) (sz := sz) (b := H.length) (i := 0) (off := 0) (cb := b) (z := z) (by rw [← hl]; simp)
  simpa using this
theorem alloc_core {X : Ctx} {I : Imm} {ρ : List (Option (Nat × Nat))} {w : World} (hw : WOk X I ρ H w) {u : Value} (hv : VRel I ρ v u) (hok : v.ok = true) (T : TypeId) :
    WOk X I (ρ ++ [some (w.heap.size, u.cells.size)]) (H ++ [.arr v.cells.length 1 (fun _ => v)]) { w with heap := w.heap.push (.cells u.cells T) } := by
  obtain ⟨h1, h2⟩ := hv.cells (V.ok_ne hok)
  refine hw.alloc (by simp [h1]) (fun _ _ => rfl) (fun i j x hi hj => ?_) rfl rfl rfl rfl
  obtain rfl : i = 0 := by omega
  have hlt : j < u.cells.size := by rw [h1]; exact (List.getElem?_eq_some_iff.1 hj).1
  exact ⟨u.cells[j], by simp [hlt], h2 j x _ hj (by simp [hlt])⟩
theorem ls_box (hx : eo env x = some v) (hok : v.ok = true) :
    LS P r m nt true env H ⟨dst, .box T x, ty, pos, after, guard⟩ (fun u H' => u = .ptr v.cells.length H.length 0 0 ∧ H' = H ++ [.arr v.cells.length 1 (fun _ => v)]) NoP := .mk
  fun X I ρ a w next Qx hX hs hk hp => by
    have hv := eo_rel hs.1 hx
    refine wpIn_of_run (by simp) (res := .ok (.value (.pointer (some ⟨w.heap.size, 0, none⟩))) { w with heap := w.heap.push (.cells (a.eval x).cells T) }) (by simp [execOp, Instr.box, newVar, newRow]) ?_
    exact hk I _ _ _ _ _ ⟨rfl, rfl⟩ (Imm.le_refl _) (pre_append _) (alloc_core hs.2.1 hv hok T) (ptr_new hs.2.1.len)
      (fun _ => keeps_alloc hs.2.1 fun b hb => by simp [Array.getElem?_push, show b ≠ w.heap.size by omega])
theorem ls_alloc (ht : TyIs P T d) (hok : (constV d.zero).ok = true) :
    LS P r m nt true env H ⟨dst, .alloc T, ty, pos, after, guard⟩ (fun u H' => u = .ptr (constV d.zero).cells.length H.length 0 0 ∧ H' = H ++ [.arr (constV d.zero).cells.length 1 (fun _ => constV d.zero)]) NoP := .mk
  fun X I ρ a w next Qx hX hs hk hp => by
    refine wpIn_of_run (by simp) (res := .ok (.value (.pointer (some ⟨w.heap.size, 0, none⟩))) { w with heap := w.heap.push (.cells d.zero.cells T) }) (by simp [execOp, Instr.alloc, ht.zeroV, newVar, newRow]) ?_
    exact hk I _ _ _ _ _ ⟨rfl, rfl⟩ (Imm.le_refl _) (pre_append _) (alloc_core hs.2.1 (constV_rel I ρ d.zero) hok T) (ptr_new hs.2.1.len)
      (fun _ => keeps_alloc hs.2.1 fun b hb => by simp [Array.getElem?_push, show b ≠ w.heap.size by omega])
def V.one : V → Bool
  | .agg _ => false
  | .tup _ => false
  | .s v => v.oneCell'
  | _ => true
theorem VRel.one {I : Imm} {ρ : List (Option (Nat × Nat))} {v : V} {u : Value} (h : VRel I ρ v u) (ho : v.one = true) : u.oneCell' = true := by
  cases h <;> first | rfl | exact ho | (cases ho; done)
/-- A value into a part of another one. -/
def putPart (x : V) (off : Nat) (v : V) : V :=
  match x with
  | .agg cs => .agg (cs.take off ++ v.cells ++ cs.drop (off + v.cells.length))
  | _ => v
def upd (f : Nat → V) (i : Nat) (v : V) : Nat → V := fun j => bif Nat.beq j i then v else f j
theorem upd_at (f : Nat → V) (i j : Nat) (v : V) : upd f i v j = if j = i then v else f j := by
  unfold upd
  by_cases h : j = i
  · subst h; simp
  · have : Nat.beq j i = false := by cases e : Nat.beq j i with | false => rfl | true => exact (h (Nat.eq_of_beq_eq_true e)).elim
    simp [this, h]
theorem cells_put {x v : V} {off : Nat} (h : off + v.cells.length ≤ x.cells.length) (ha : (∃ cs, x = .agg cs) ∨ (off = 0 ∧ v.cells.length = 1 ∧ x.cells.length = 1 ∧ ∀ cs, v ≠ .agg cs)) :
    (putPart x off v).cells = x.cells.take off ++ v.cells ++ x.cells.drop (off + v.cells.length) := by
  rcases ha with ⟨cs, rfl⟩ | ⟨rfl, h1, h2, h3⟩
  · rfl
  · cases x <;> first | rfl | (simp [putPart, V.cells] at h2 ⊢)
    all_goals (cases v <;> first | (simp [V.cells]; done) | exact (h3 _ rfl).elim)
end
end Go.Proofs.Ytloaefllpokkaaa
