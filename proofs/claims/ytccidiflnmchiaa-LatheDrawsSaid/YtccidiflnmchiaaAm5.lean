/- A walk over values: the rules of code, regions and calls. No condition. -/
import Derived.Test.YtccidiflnmchiaaAm4
namespace Go.Proofs.Ytccidiflnmchiaa
open Go.RowKit

inductive AE where
  | normal
  | exit (id : Nat)
  | goto (l : Nat)
  | ret
  | panic (v : V)
abbrev Post := AE → Env → Heap → Prop
/-- The marks that loops over functions leave: no call is deferred. -/
def mark (D : Nat) : Deferred := { target := .collected D, args := #[] }
def DOk (X : Ctx) (I : Imm) (a : Act) : Prop := ∃ Ds : List Nat, Ds.Nodup ∧ a.defers = Ds.map mark ∧ ∀ D ∈ Ds, X.w.heap.size ≤ D ∧ I D = some (.deferred (some []))
theorem DOk.nil {X : Ctx} {I : Imm} {a : Act} (h : a.defers = []) : DOk X I a := ⟨[], List.nodup_nil, h, fun D hD => by simp at hD⟩
theorem DOk.mono {X : Ctx} {I J : Imm} {a : Act} (h : DOk X I a) (hI : I.le J) : DOk X J a := by
  obtain ⟨Ds, h1, h2, h3⟩ := h
  exact ⟨Ds, h1, h2, fun D hD => ⟨(h3 D hD).1, hI _ _ (h3 D hD).2⟩⟩
def St (X : Ctx) (nt : Nat) (env : Env) (H : Heap) (I : Imm) (ρ : List (Option (Nat × Nat))) (a : Act) (w : World) : Prop := EnvOk I ρ nt env a ∧ WOk X I ρ H w ∧ DOk X I a
def Lift (X : Ctx) (nt : Nat) (Q : Post) : Exit → Act → World → Prop
  | .normal, a, w => ∃ env H I ρ, St X nt env H I ρ a w ∧ Q .normal env H
  | .exit id, a, w => ∃ env H I ρ, St X nt env H I ρ a w ∧ Q (.exit id) env H
  | .goto l, a, w => ∃ env H I ρ, St X nt env H I ρ a w ∧ Q (.goto l) env H
  | .ret, a, w => ∃ env H I ρ, St X nt env H I ρ a w ∧ Q .ret env H
  | .panic ch, a, w => ∃ v u H I ρ, ch = [{ v := u, recovered := false }] ∧ VRel I ρ v u ∧ WOk X I ρ H w ∧ DOk X I a ∧ Q (.panic v) [] H
  | .outgrown, _, _ => False
/-- The walk of a piece of code. 'm': how many own blocks there were when the call began. -/
structure AW (P : Program) (r : Option Nat) (m nt : Nat) (c : Code) (Q : Post) (env : Env) (H : Heap) : Prop where
  out : ∀ X I ρ a w, X.ρ.length = m → St X nt env H I ρ a w → c.wpIn (Fw r) 0 P (Lift X nt Q) a w
/-- The walk of a region's plan. -/
structure AR (P : Program) (r : Option Nat) (m nt : Nat) (ops : Array Oper) (Q : Post) (l : List Stp) (env : Env) (H : Heap) : Prop where
  out : ∀ X I ρ a w, X.ρ.length = m → St X nt env H I ρ a w → runP P r ops (Lift X nt Q) l (Keeps I ρ H w) a w
def AE.then (next : Env → Heap → Prop) (Q : Post) : Post
  | .normal, env, H => next env H
  | e, env, H => Q e env H
def AE.inBlock (id : Nat) (Q : Post) : Post
  | .exit id', env, H => bif Nat.beq id' id then Q .normal env H else Q (.exit id') env H
  | e, env, H => Q e env H

section
variable {P : Program} {r : Option Nat} {m nt : Nat} {Q Q' : Post} {env env' : Env} {H H' : Heap} {X : Ctx}
theorem Lift.mono (h : ∀ e env H, Q e env H → Q' e env H) : ∀ e a w, Lift X nt Q e a w → Lift X nt Q' e a w
  | .normal, _, _, ⟨a, b, c, d, e, f⟩ => ⟨a, b, c, d, e, h _ _ _ f⟩
  | .exit _, _, _, ⟨a, b, c, d, e, f⟩ => ⟨a, b, c, d, e, h _ _ _ f⟩
  | .goto _, _, _, ⟨a, b, c, d, e, f⟩ => ⟨a, b, c, d, e, h _ _ _ f⟩
  | .ret, _, _, ⟨a, b, c, d, e, f⟩ => ⟨a, b, c, d, e, h _ _ _ f⟩
  | .panic _, _, _, ⟨a, b, c, d, e, f, g, k, l, z⟩ => ⟨a, b, c, d, e, f, g, k, l, h _ _ _ z⟩
theorem aw_mono {c : Code} (h : AW P r m nt c Q env H) (hq : ∀ e env H, Q e env H → Q' e env H) : AW P r m nt c Q' env H := .mk
  fun X I ρ a w hX hs => wpIn_mono (h.1 X I ρ a w hX hs) (Lift.mono hq)
theorem aw_skip (h : Q .normal env H) : AW P r m nt .skip Q env H := .mk fun _ I ρ _ _ _ hs => wpIn_skip ⟨env, H, I, ρ, hs, h⟩
theorem aw_exit {id : Nat} (h : Q (.exit id) env H) : AW P r m nt (.exit id) Q env H := .mk fun _ I ρ _ _ _ hs => wpIn_exit ⟨env, H, I, ρ, hs, h⟩
theorem aw_ret (h : Q .ret env H) : AW P r m nt .ret Q env H := .mk fun _ I ρ _ _ _ hs => wpIn_ret ⟨env, H, I, ρ, hs, h⟩
theorem lift_then {nxt : Env → Heap → Prop} {K : Act → World → Prop} (h : ∀ env H I ρ a w, St X nt env H I ρ a w → nxt env H → K a w) : ∀ e a w, Lift X nt (AE.then nxt Q) e a w → Exit.then K (Lift X nt Q) e a w
  | .normal, _, _, ⟨a, b, c, d, e, f⟩ => h _ _ _ _ _ _ e f
  | .exit _, _, _, h => h
  | .goto _, _, _, h => h
  | .ret, _, _, h => h
  | .panic _, _, _, h => h
theorem aw_seq {x y : Code} (h : AW P r m nt x (AE.then (AW P r m nt y Q) Q) env H) : AW P r m nt (.seq x y) Q env H := .mk
  fun X I ρ a w hX hs => wpIn_seq (wpIn_mono (h.1 X I ρ a w hX hs) (lift_then fun env H I ρ a w hs h => h.1 X I ρ a w hX hs))
theorem eo_bool {I : Imm} {ρ : List (Option (Nat × Nat))} {a : Act} {b : Bool} {x : Operand} (h : EnvOk I ρ nt env a) (hx : eo env x = some (.s (.bool b))) : a.eval x = .bool b := by
  have h1 := eo_rel h hx
  cases h1' : a.eval x <;> rw [h1'] at h1 <;> cases h1
  rfl
theorem aw_cond {c : Operand} {x y : Code} {b : Bool} (hc : eo env c = some (.s (.bool b))) (ht : b = true → AW P r m nt x Q env H) (hf : b = false → AW P r m nt y Q env H) : AW P r m nt (.cond c x y) Q env H := .mk
  fun X I ρ a w hX hs => wpIn_cond_split (eo_bool hs.1 hc) (fun e => (ht e).1 X I ρ a w hX hs) (fun e => (hf e).1 X I ρ a w hX hs)
theorem aw_cond_t {c : Operand} {x y : Code} (hc : eo env c = some (.s (.bool true))) (h : AW P r m nt x Q env H) : AW P r m nt (.cond c x y) Q env H := aw_cond hc (fun _ => h) (fun e => by cases e)
theorem aw_cond_f {c : Operand} {x y : Code} (hc : eo env c = some (.s (.bool false))) (h : AW P r m nt y Q env H) : AW P r m nt (.cond c x y) Q env H := aw_cond hc (fun e => by cases e) (fun _ => h)
theorem aw_block {id : Nat} {c : Code} (h : AW P r m nt c (AE.inBlock id Q) env H) : AW P r m nt (.block id c) Q env H := .mk
  fun X I ρ a w hX hs => wpIn_block (wpIn_mono (h.1 X I ρ a w hX hs) fun e a w h => by
    cases e with
    | exit id' =>
      obtain ⟨env, H, I, ρ, hs, hq⟩ := h
      simp only [AE.inBlock] at hq
      simp only [Exit.inBlock]
      cases hb : Nat.beq id' id
      · rw [hb] at hq
        rw [if_neg (fun e => by rw [e, Nat.beq_refl] at hb; cases hb)]
        exact ⟨env, H, I, ρ, hs, hq⟩
      · rw [hb] at hq
        rw [if_pos (Nat.eq_of_beq_eq_true hb)]
        exact ⟨env, H, I, ρ, hs, hq⟩
    | normal => exact h
    | goto _ => exact h
    | ret => exact h
    | panic _ => exact h
    | outgrown => exact h)

/-- What is known of memory may be told in less, or other, words. 'm' own blocks stay what they were. -/
structure SubOf (m nt : Nat) (env : Env) (H : Heap) (env' : Env) (H' : Heap) : Prop where
  out : ∀ X I ρ a w, X.ρ.length = m → St X nt env H I ρ a w → ∃ I' ρ', I.le I' ∧ St X nt env' H' I' ρ' a w
theorem SubOf.refl (m nt : Nat) (env : Env) (H : Heap) : SubOf m nt env H env H := .mk fun _ I ρ _ _ _ h => ⟨I, ρ, Imm.le_refl I, h⟩
theorem SubOf.trans {env'' : Env} {H'' : Heap} (h : SubOf m nt env H env' H') (k : SubOf m nt env' H' env'' H'') : SubOf m nt env H env'' H'' := .mk fun X I ρ a w hX hs => by
  obtain ⟨I1, ρ1, h1, h2⟩ := h.1 X I ρ a w hX hs
  obtain ⟨I2, ρ2, h3, h4⟩ := k.1 X I1 ρ1 a w hX h2
  exact ⟨I2, ρ2, Imm.le_trans h1 h3, h4⟩
theorem aw_sub {c : Code} (hs : SubOf m nt env H env' H') (h : AW P r m nt c Q env' H') : AW P r m nt c Q env H := .mk fun X I ρ a w hX h1 => by
  obtain ⟨I', ρ', _, h2⟩ := hs.1 X I ρ a w hX h1
  exact h.1 X I' ρ' a w hX h2

theorem wpIn_loopN {F : Fence} {c : Code} {Q : Exit → Act → World → Prop} {a : Act} {w : World} (K : Nat → Act → World → Prop) (j : Nat) (h₀ : K j a w)
    (round : ∀ j a w, K j a w → c.wpIn F 0 P (Exit.then (fun a' w' => ∃ j', j' < j ∧ K j' a' w') Q) a w) : (Code.loop c).wpIn F 0 P Q a w := by
  intro b k cs hro hb hr
  have key : ∀ j a w, K j a w →
      ∃ e a' w', Q e a' w' ∧ ArrivesIn (Machine.fenced P F) P (lone (b.atR a (.code c :: .inLoop c :: k)) cs w) b k cs e a' w' := by
    intro j
    induction j using Nat.strongRecOn with
    | _ j ih =>
      intro a w hI
      obtain ⟨e, a₁, w₁, hq, harr⟩ := round j a w hI b (.inLoop c :: k) cs hro hb hr
      cases e with
      | normal =>
        obtain ⟨j', hlt, hI₁⟩ := hq
        obtain ⟨e₂, a₂, w₂, hq₂, harr₂⟩ := ih j' hlt a₁ w₁ hI₁
        exact ⟨e₂, a₂, w₂, hq₂, .of_steps (StepsIn.trans harr (.one (fenced_calm hb hr rfl) stepR_inLoop)) harr₂⟩
      | exit id => exact ⟨_, a₁, w₁, hq, .pass (x := .inLoop c) rfl (fun _ _ => .inl (by simp)) harr⟩
      | goto l => exact ⟨_, a₁, w₁, hq, .pass (x := .inLoop c) rfl (fun _ _ => .inl (by simp)) harr⟩
      | ret => exact ⟨_, a₁, w₁, hq, .pass (x := .inLoop c) rfl (fun _ _ => .inl (by simp)) harr⟩
      | panic ch => exact ⟨_, a₁, w₁, hq, .pass (x := .inLoop c) rfl (fun _ _ => .inl (by simp)) harr⟩
      | outgrown => exact ⟨_, a₁, w₁, hq, .pass (x := .inLoop c) rfl (fun _ _ => .inl (by simp)) harr⟩
  obtain ⟨e, a', w', hq, harr⟩ := key _ a w h₀
  exact ⟨e, a', w', hq, .of_steps (.one (fenced_calm hb hr rfl) stepR_loop) harr⟩
/-- A loop: 'J n': at the head of a round, 'n' going down. -/
theorem aw_loop {c : Code} (J : Nat → Env → Heap → Prop) (h0 : ∃ n, J n env H) (round : ∀ n env H, J n env H → AW P r m nt c (AE.then (fun env' H' => ∃ n', n' < n ∧ J n' env' H') Q) env H) : AW P r m nt (.loop c) Q env H := by
  refine ⟨?_⟩
  intro X I ρ a w hX hs
  obtain ⟨n, hn⟩ := h0
  exact wpIn_loopN (fun n a w => ∃ env H I ρ, St X nt env H I ρ a w ∧ J n env H) n ⟨env, H, I, ρ, hs, hn⟩ fun n a w ⟨env, H, I, ρ, hs, hJ⟩ =>
    wpIn_mono ((round _ env H hJ).1 X I ρ a w hX hs) (lift_then fun env' H' I' ρ' a' w' hs' ⟨n', hlt, hJ'⟩ => ⟨n', hlt, env', H', I', ρ', hs', hJ'⟩)
/-- A loop that counts: 'E k', 'G k': what stands at the head of round k, where 'J k' holds. -/
theorem aw_for {c : Code} (N : Nat) (J : Nat → Prop) (E : Nat → Env) (G : Nat → Heap) (hJ : J 0) (h0 : SubOf m nt env H (E 0) (G 0))
    (round : ∀ k, k ≤ N → J k → AW P r m nt c (AE.then (fun env' H' => k < N ∧ J (k + 1) ∧ SubOf m nt env' H' (E (k + 1)) (G (k + 1))) Q) (E k) (G k)) : AW P r m nt (.loop c) Q env H := by
  refine aw_loop (fun n env H => ∃ k, k ≤ N ∧ n = N - k ∧ J k ∧ SubOf m nt env H (E k) (G k)) ⟨N, 0, by omega, by omega, hJ, h0⟩ ?_
  rintro n env H ⟨k, hk, rfl, hj, hs⟩
  refine aw_sub hs (aw_mono (round k hk hj) fun e env' H' h => ?_)
  cases e <;> first | exact h | skip
  exact ⟨N - (k + 1), by have := h.1; omega, k + 1, h.1, rfl, h.2.1, h.2.2⟩

/-! ### Regions -/
variable {ops : Array Oper} {l : List Stp}
theorem Keeps.drew {I : Imm} {ρ : List (Option (Nat × Nat))} {w w' : World} : Keeps I ρ H { w with drawn := w.drawn + 1 } w' ↔ Keeps I ρ H w w' := Iff.rfl
theorem WOk.drew {I : Imm} {ρ : List (Option (Nat × Nat))} {w : World} (h : WOk X I ρ H w) : WOk X I ρ H { w with drawn := w.drawn + 1 } :=
  ⟨h.len, h.inj, h.imm, h.apart, h.size, h.none, h.arr, h.map, h.mine, h.news, h.le, h.pre, h.os, h.tape, h.out, h.grow, h.keep⟩
theorem aw_region {l : List Oper} {id : Nat} (h : AR P r m nt l.toArray Q (textPlan l 0) env H) : AW P r m nt (.region id l.toArray false) Q env H := .mk
  fun X I ρ a w hX hs => region_text (Keeps I ρ H w) (Keeps.refl hs.2.1) (h.1 X I ρ a w hX hs)
theorem lift_put : ∀ (c : List PanicEntry) (a : Act) (d : Option Tmp) (v : Value) (w : World), Lift X nt Q (.panic c) (a.put d v) w → Lift X nt Q (.panic c) a w := by
  rintro c a d v w ⟨x, u, H, I, ρ, h1, h2, h3, h4, h5⟩
  refine ⟨x, u, H, I, ρ, h1, h2, h3, ?_, h5⟩
  cases d <;> exact h4
theorem aw_drawn {l : List Oper} {id : Nat} (ps : List (Nat × Nat)) (hm : P.follows .mixedOrders = true) (hB : drawnOk l ps = true) (h : AR P r m nt l.toArray Q (numPlan l ps) env H) : AW P r m nt (.region id l.toArray true) Q env H := .mk
  fun X I ρ a w hX hs => region_drawn ps (Keeps I ρ H w) hm hB lift_put (Keeps.refl (X := X) hs.2.1.drew) (h.1 X I ρ a { w with drawn := w.drawn + 1 } hX ⟨hs.1, hs.2.1.drew, hs.2.2⟩)

theorem ar_nil (h : Q .normal env H) : AR P r m nt ops Q [] env H := .mk fun _ I ρ _ _ _ hs => ⟨env, H, I, ρ, hs, h⟩
theorem wanted_none {o : Oper} {y : Nat → Option Bool} (h : o.guard = none) : Region.wanted o y = true := by simp [Region.wanted, h]
theorem ar_q {i d : Nat} {op : Op} {ty : TypeId} {pos : String} {after : Array Edge} {v : V} (h : QS P nt env H ⟨some d, op, ty, pos, after, none⟩ v) (hd : d < nt) (hk : AR P r m nt ops Q l ((d, v) :: env) H) :
    AR P r m nt ops Q (.q i ⟨some d, op, ty, pos, after, none⟩ :: l) env H := .mk fun X I ρ a w hX hs => by
  refine ⟨fun _ => ?_, fun hw => by rw [wanted_none rfl] at hw; cases hw⟩
  obtain ⟨u, h1, h2⟩ := h.1 X I ρ a w hs.1 hs.2.1
  refine ⟨u, h2, hk.1 X I ρ _ w hX ⟨hs.1.put h1 hd, hs.2.1, ?_⟩⟩
  exact hs.2.2
/-- 'x == nil' of a slice that nobody writes: true only if it is empty. -/
theorem ar_q_any {i d : Nat} {op : Op} {ty : TypeId} {pos : String} {after : Array Edge} {C : V → Prop} (h : ∀ X I ρ a w, EnvOk I ρ nt env a → WOk X I ρ H w → ∃ v, C v ∧ ∃ u, VRel I ρ v u ∧ ∀ w', Keeps I ρ H w w' → (execOp a.eval ⟨some d, op, ty, pos, after, none⟩).run P w' = .ok (.value u) w') (hd : d < nt)
    (hk : ∀ v, C v → AR P r m nt ops Q l ((d, v) :: env) H) : AR P r m nt ops Q (.q i ⟨some d, op, ty, pos, after, none⟩ :: l) env H := .mk fun X I ρ a w hX hs => by
  refine ⟨fun _ => ?_, fun hw => by rw [wanted_none rfl] at hw; cases hw⟩
  obtain ⟨v, hC, u, h1, h2⟩ := h X I ρ a w hs.1 hs.2.1
  refine ⟨u, h2, (hk v hC).1 X I ρ _ w hX ⟨hs.1.put h1 hd, hs.2.1, ?_⟩⟩
  exact hs.2.2

/-! ### Guards -/
def Stp.bare : Stp → Stp
  | .q i o => .q i { o with guard := none }
  | .l i o k => .l i { o with guard := none } k
theorem ar_guard {s : Stp} {g t d : Nat} {b want : Bool} (hg : s.oper.guard = some (g, want)) (ht : (ops[g]?).bind (·.dst) = some t) (hb : look env t = some (.s (.bool b))) (hd : s.oper.dst = some d) (hdn : d < nt)
    (hy : b = want → AR P r m nt ops Q (s.bare :: l) ((t, .s (.bool want)) :: env) H) (hn : b = !want → AR P r m nt ops Q l ((d, .s undef) :: (t, .s (.bool !want)) :: env) H) : AR P r m nt ops Q (s :: l) env H := .mk fun X I ρ a w hX hs => by
  obtain ⟨h1, h2⟩ := hs.1.2 t _ hb
  have ev : a.tmps.getD t undef = .bool b := by cases h2' : a.tmps.getD t undef <;> rw [h2'] at h2 <;> cases h2; rfl
  have ey : yielded ops a.tmps g = some b := by
    unfold yielded
    have hlt : t < a.tmps.size := by rw [hs.1.1]; exact h1
    simp only [ht, Option.bind_some]
    simp [hlt] at ev
    simp [hlt, ev]
  have hw : Region.wanted s.oper (yielded ops a.tmps) = (b == want) := by
    unfold Region.wanted
    rw [hg]
    simp only [ey]
    cases b <;> cases want <;> rfl
  have sub : ∀ b', b = b' → EnvOk I ρ nt ((t, .s (.bool b')) :: env) a := fun b' e => by
    subst e
    refine ⟨hs.1.1, fun t' v' h' => ?_⟩
    rw [look_cons] at h'
    split at h'
    · rename_i e; subst e; cases h'; exact ⟨h1, h2⟩
    · exact hs.1.2 t' v' h'
  by_cases e : b = want
  · have ih := (hy e).1 X I ρ a w hX ⟨sub _ e, hs.2⟩
    clear hy hn
    have hwt : Region.wanted s.oper (yielded ops a.tmps) = true := by rw [hw, e]; simp
    cases s with
    | q i o =>
      have ih : (Region.wanted { o with guard := none } (yielded ops a.tmps) = true → _) ∧ _ := ih
      exact ⟨fun _ => ih.1 (wanted_none rfl), fun h' => absurd (h'.symm.trans hwt) (by decide)⟩
    | l i o k =>
      have ih : (Region.wanted { o with guard := none } (yielded ops a.tmps) = true → _) ∧ _ := ih
      exact ⟨fun _ => ih.1 (wanted_none rfl), fun h' => absurd (h'.symm.trans hwt) (by decide)⟩
  · have e' : b = !want := by cases b <;> cases want <;> simp_all
    have hwf : Region.wanted s.oper (yielded ops a.tmps) = false := by rw [hw, e']; cases want <;> rfl
    have ih : runP P r ops (Lift X nt Q) l (Keeps I ρ H w) (a.put (some d) undef) w := (hn e').1 X I ρ _ w hX ⟨(sub _ e').put (.s _) hdn, hs.2.1, hs.2.2⟩
    rw [← hd] at ih
    cases s with
    | q i o => exact ⟨fun h' => absurd (h'.symm.trans hwf) (by decide), fun _ => ih⟩
    | l i o k => exact ⟨fun h' => absurd (h'.symm.trans hwf) (by decide), fun _ => ih⟩

/-! ### Operations that do something -/
structure LS (P : Program) (r : Option Nat) (m nt : Nat) (keep : Bool) (env : Env) (H : Heap) (o : Oper) (R Rp : V → Heap → Prop) : Prop where
  out : ∀ X I ρ a w next Qx, X.ρ.length = m → St X nt env H I ρ a w →
    (∀ I' ρ' H' v u w', R v H' → I.le I' → Pre ρ ρ' → WOk X I' ρ' H' w' → VRel I' ρ' v u → (keep = true → ∀ x, Keeps I' ρ' H' w' x → Keeps I ρ H w x) → next (a.put o.dst u) w') →
    (∀ I' ρ' H' v u w', Rp v H' → I.le I' → WOk X I' ρ' H' w' → VRel I' ρ' v u → Qx (.panic [{ v := u, recovered := false }]) a w') →
    o.wpIn (Fw r) 0 P a w next Qx
def NoP : V → Heap → Prop := fun _ _ => False
theorem ar_l {i d : Nat} {op : Op} {ty : TypeId} {pos : String} {after : Array Edge} {keep : Bool} {R Rp : V → Heap → Prop} (h : LS P r m nt keep env H ⟨some d, op, ty, pos, after, none⟩ R Rp) (hd : d < nt)
    (hk : ∀ v H', R v H' → AR P r m nt ops Q l ((d, v) :: env) H') (hp : ∀ v H', Rp v H' → Q (.panic v) [] H') : AR P r m nt ops Q (.l i ⟨some d, op, ty, pos, after, none⟩ keep :: l) env H := .mk fun X I ρ a w hX hs => by
  refine ⟨fun _ => ?_, fun hw => by rw [wanted_none rfl] at hw; cases hw⟩
  refine h.1 X I ρ a w _ _ hX hs (fun I' ρ' H' v u w' hR hI hρ hw hv hK => ?_) (fun I' ρ' H' v u w' hR hI hw hv => ⟨v, u, H', I', ρ', rfl, hv, hw, hs.2.2.mono hI, hp v H' hR⟩)
  exact ⟨Keeps I' ρ' H' w', Keeps.refl hw, hK, (hk v H' hR).1 X I' ρ' _ w' hX ⟨(hs.1.mono hI hρ).put hv hd, hw, hs.2.2.mono hI⟩⟩
theorem ar_l0 {i : Nat} {op : Op} {ty : TypeId} {pos : String} {after : Array Edge} {keep : Bool} {R Rp : V → Heap → Prop} (h : LS P r m nt keep env H ⟨none, op, ty, pos, after, none⟩ R Rp)
    (hk : ∀ v H', R v H' → AR P r m nt ops Q l env H') (hp : ∀ v H', Rp v H' → Q (.panic v) [] H') : AR P r m nt ops Q (.l i ⟨none, op, ty, pos, after, none⟩ keep :: l) env H := .mk fun X I ρ a w hX hs => by
  refine ⟨fun _ => ?_, fun hw => by rw [wanted_none rfl] at hw; cases hw⟩
  refine h.1 X I ρ a w _ _ hX hs (fun I' ρ' H' v u w' hR hI hρ hw hv hK => ?_) (fun I' ρ' H' v u w' hR hI hw hv => ⟨v, u, H', I', ρ', rfl, hv, hw, hs.2.2.mono hI, hp v H' hR⟩)
  exact ⟨Keeps I' ρ' H' w', Keeps.refl hw, hK, (hk v H' hR).1 X I' ρ' _ w' hX ⟨hs.1.mono hI hρ, hw, hs.2.2.mono hI⟩⟩
end
end Go.Proofs.Ytccidiflnmchiaa
