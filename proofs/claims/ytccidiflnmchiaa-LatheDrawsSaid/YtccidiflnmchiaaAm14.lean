/- Equality of bools and of structs of numbers. No condition. -/
import Derived.Test.YtccidiflnmchiaaAm13
import Derived.Laws.StructEq
namespace Go.Proofs.Ytccidiflnmchiaa
open Go.RowKit
section
variable {P : Program} {nt : Nat} {env : Env} {H : Heap} {dst : Option Tmp} {ty T T' : TypeId} {pos : String} {after : Array Edge} {guard : Option (Nat × Bool)} {x y : Operand} {d : TyD}
theorem sval {I : Imm} {ρ : List (Option (Nat × Nat))} {a : Act} (he : EnvOk I ρ nt env a) {x : Operand} {v : Value} (hx : eo env x = some (.s v)) : a.eval x = v := by
  have h := eo_rel he hx
  generalize a.eval x = u at h
  cases h
  rfl
theorem qs_beq {p q : Bool} (ht : TyIs P T d) (hk : d.tk = .bool) (hx : eo env x = some (.s (.bool p))) (hy : eo env y = some (.s (.bool q))) : QS P nt env H ⟨dst, .binOp .eql T x y T', ty, pos, after, guard⟩ (.s (.bool (p == q))) := .mk
  fun _ I ρ a w h hw => ⟨_, .s _, fun w' _ => by simp [execOp, sval h hx, sval h hy, eqGuard, binOp, run_equal_bool w' T p q (ht.boolk hk)]⟩
theorem qs_bneq {p q : Bool} (ht : TyIs P T d) (hk : d.tk = .bool) (hx : eo env x = some (.s (.bool p))) (hy : eo env y = some (.s (.bool q))) : QS P nt env H ⟨dst, .binOp .neq T x y T', ty, pos, after, guard⟩ (.s (.bool (!(p == q)))) := .mk
  fun _ I ρ a w h hw => ⟨_, .s _, fun w' _ => by simp [execOp, sval h hx, sval h hy, eqGuard, binOp, run_equal_bool w' T p q (ht.boolk hk)]⟩
/-- A struct whose fields are numbers and bools. -/
structure SeqOk (P : Program) (T : TypeId) (l : List (TypeId × Nat × Bool)) : Prop where
  und : P.underlying T = some (.struct (P.fieldsOf T))
  stood : P.stoodInHeld T = false
  guard : P.eqGuardType P.depth T = false
  fields : (P.fieldsOf T).toList.map (fun f => (f.type, f.offset, f.name == "_")) = l
/-- Two structs of numbers and bools, compared field by field. -/
inductive EqOk (P : Program) (cs ds : List V) : List (TypeId × Nat × Bool) → Bool → Prop
  | nil : EqOk P cs ds [] true
  | int {T o k k' a b l r d} (ht : TyIs P T d) (hk : d.tk = .int k) (hs : d.size = 1) (h1 : cs[o]? = some (.s (.int k' a))) (h2 : ds[o]? = some (.s (.int k' b))) (h : EqOk P cs ds l r) : EqOk P cs ds ((T, o, false) :: l) (decide (a = b) && r)
  | bool {T o a b l r d} (ht : TyIs P T d) (hk : d.tk = .bool) (hs : d.size = 1) (h1 : cs[o]? = some (.s (.bool a))) (h2 : ds[o]? = some (.s (.bool b))) (h : EqOk P cs ds l r) : EqOk P cs ds ((T, o, false) :: l) ((a == b) && r)
theorem part1_run {I : Imm} {ρ : List (Option (Nat × Nat))} {cs : List V} {us : Array Value} (ht : TyIs P T d) (hk : d.tk.agg = false) (hs : d.size = 1) (h1 : us.size = cs.length) (hr : ∀ (j : Nat) x u, cs[j]? = some x → us[j]? = some u → VRel I ρ x u) {o : Nat} {v : Value} (hv : cs[o]? = some (.s v)) (w : World) : (part T us o).run P w = .ok v w := by
  obtain ⟨u, hu, hrun⟩ := part_run (I := I) (ρ := ρ) ht h1 hr (off := o) (v := .s v) (by simp [partV, hk, hv])
  cases hu
  exact hrun w
theorem eqFields_run {I : Imm} {ρ : List (Option (Nat × Nat))} {cs ds : List V} {us vs : Array Value} (h1 : us.size = cs.length) (hr : ∀ (j : Nat) x u, cs[j]? = some x → us[j]? = some u → VRel I ρ x u) (h2 : vs.size = ds.length) (hr2 : ∀ (j : Nat) x u, ds[j]? = some x → vs[j]? = some u → VRel I ρ x u) (e : Nat) (w : World) :
    ∀ {fs : List Field} {l : List (TypeId × Nat × Bool)} {r : Bool}, fs.map (fun f => (f.type, f.offset, f.name == "_")) = l → EqOk P cs ds l r → (Op.eqFields (e + 1) us vs fs).run P w = .ok r w
  | [], _, _, rfl, .nil => by simp [Op.eqFields]
  | f :: fs, l, r, hm, hq => by
    simp only [List.map_cons] at hm
    cases hq with
    | nil => cases hm
    | int ht hk hs a1 a2 hq =>
      simp only [List.cons.injEq, Prod.mk.injEq] at hm
      obtain ⟨⟨rfl, rfl, hn⟩, hm⟩ := hm
      have ih := eqFields_run h1 hr h2 hr2 e w hm hq
      have p1 := part1_run (I := I) (ρ := ρ) ht (by rw [hk]; rfl) hs h1 hr a1 w
      have p2 := part1_run (I := I) (ρ := ρ) ht (by rw [hk]; rfl) hs h2 hr2 a2 w
      have hn' : f.name ≠ "_" := by simpa using hn
      simp only [Op.eqFields, hn', ne_eq, not_false_eq_true, if_true, Sem.run_bind, p1, p2, Result.andThen_ok, run_equalIn_int w e _ _ _ _ _ (ht.intk hk)]
      rename_i a b _ _ _
      by_cases hab : a = b
      · subst hab; simpa using ih
      · simp [hab]
    | bool ht hk hs a1 a2 hq =>
      simp only [List.cons.injEq, Prod.mk.injEq] at hm
      obtain ⟨⟨rfl, rfl, hn⟩, hm⟩ := hm
      have ih := eqFields_run h1 hr h2 hr2 e w hm hq
      have p1 := part1_run (I := I) (ρ := ρ) ht (by rw [hk]; rfl) hs h1 hr a1 w
      have p2 := part1_run (I := I) (ρ := ρ) ht (by rw [hk]; rfl) hs h2 hr2 a2 w
      have hn' : f.name ≠ "_" := by simpa using hn
      simp only [Op.eqFields, hn', ne_eq, not_false_eq_true, if_true, Sem.run_bind, p1, p2, Result.andThen_ok, run_equalIn_bool w e _ _ _ (ht.boolk hk)]
      rename_i a b _ _ _
      by_cases hab : a = b
      · subst hab; simpa using ih
      · simp [hab]
theorem agg_inv {I : Imm} {ρ : List (Option (Nat × Nat))} {cs : List V} {u : Value} (h : VRel I ρ (.agg cs) u) : ∃ us, u = .agg us ∧ us.size = cs.length ∧ ∀ (j : Nat) x u, cs[j]? = some x → us[j]? = some u → VRel I ρ x u := by
  cases h with
  | agg h1 h2 => exact ⟨_, rfl, h1, h2⟩
section
variable {cs ds : List V} {l : List (TypeId × Nat × Bool)} {r : Bool}
theorem qs_seq (hS : SeqOk P T l) (hx : eo env x = some (.agg cs)) (hy : eo env y = some (.agg ds)) (hq : EqOk P cs ds l r) :
    QS P nt env H ⟨dst, .binOp .eql T x y T', ty, pos, after, guard⟩ (.s (.bool r)) := .mk
  fun _ I ρ a w h hw => by
    obtain ⟨us, e1, h1, hr⟩ := agg_inv (eo_rel h hx)
    obtain ⟨vs, e2, h2, hr2⟩ := agg_inv (eo_rel h hy)
    exact ⟨_, .s _, fun w' _ => by
      simp only [execOp, e1, e2, Sem.run_bind, run_eqGuard_agg w' _ T x y us vs hS.guard, Result.andThen_ok, run_eql_struct, run_equalIn_struct w' 9999 T us vs hS.und hS.stood, eqFields_run h1 hr h2 hr2 9998 w' hS.fields hq]
      rfl⟩
theorem qs_sneq (hS : SeqOk P T l) (hx : eo env x = some (.agg cs)) (hy : eo env y = some (.agg ds)) (hq : EqOk P cs ds l r) :
    QS P nt env H ⟨dst, .binOp .neq T x y T', ty, pos, after, guard⟩ (.s (.bool (!r))) := .mk
  fun _ I ρ a w h hw => by
    obtain ⟨us, e1, h1, hr⟩ := agg_inv (eo_rel h hx)
    obtain ⟨vs, e2, h2, hr2⟩ := agg_inv (eo_rel h hy)
    exact ⟨_, .s _, fun w' _ => by
      simp only [execOp, e1, e2, Sem.run_bind, run_eqGuard_agg w' _ T x y us vs hS.guard, Result.andThen_ok, run_neq_struct, run_equalIn_struct w' 9999 T us vs hS.und hS.stood, eqFields_run h1 hr h2 hr2 9998 w' hS.fields hq]
      rfl⟩
end
end
end Go.Proofs.Ytccidiflnmchiaa
