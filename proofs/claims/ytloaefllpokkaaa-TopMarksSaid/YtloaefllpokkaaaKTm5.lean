/- Parts of the proof: contracts of functions. No condition. -/
import Derived.Test.YtloaefllpokkaaaKTm4
set_option linter.unusedSimpArgs false
set_option linter.unusedVariables false
namespace Go.Proofs.Ytloaefllpokkaaa.Im
open Go.RowKit
/-- What an iterator is handed: the loop, and what a round makes true. -/
structure Cx (P : Program) where
  l : Nat
  I : Imm
  J : Option Nat → World → Prop
  B : Nat
  N : Nat
  el : Nat → List Value
  stable : ∀ k W1 W2 row, J (some k) W1 → W1.grownBy W2 row → RowMap B W1 row → J (some k) W2
  round : ∀ k W1, J (some k) W1 → k < N → YieldAt Fence.wide 0 P l (el k).toArray W1 fun e W' => ((e = .returned (.bool true) ∧ J (some (k + 1)) W') ∨ (e = .returned (.bool false) ∧ J none W')) ∧ KpI I W1 W' ∧ KpW B W1 W'
abbrev Post := AE → Env → Heap → Option Nat → Prop
def Own (B : Nat) (ρ : List (Option (Nat × Nat))) : Prop := ∀ (j b z : Nat), ρ[j]? = some (some (b, z)) → B ≤ b
/-- Nothing but one map. -/
def OnlyMap (H : Heap) : Prop := H.length ≤ 1 ∧ ∀ blk ∈ H, ∃ m, blk = .map m
theorem only_nil : OnlyMap [] := ⟨by simp, fun blk h => by simp at h⟩
section
variable {P : Program} (C : Cx P)
def St (nt : Nat) (env : Env) (H : Heap) (k : Option Nat) (ρ : List (Option (Nat × Nat))) (a : Act) (w : World) : Prop := EnvOk C.I ρ nt env a ∧ WOk (Ctx.self w ρ H C.I) C.I ρ H w ∧ Own C.B ρ ∧ a.defers = [] ∧ C.J k w ∧ (k = some 0 → H = [] → C.B ≤ w.heap.size)
def Lift (nt : Nat) (Q : Post) : Exit → Act → World → Prop
  | .normal, a, w => ∃ env H k ρ, St C nt env H k ρ a w ∧ Q .normal env H k
  | .exit id, a, w => ∃ env H k ρ, St C nt env H k ρ a w ∧ Q (.exit id) env H k
  | .goto l, a, w => ∃ env H k ρ, St C nt env H k ρ a w ∧ Q (.goto l) env H k
  | .ret, a, w => ∃ env H k ρ, St C nt env H k ρ a w ∧ Q .ret env H k
  | .panic _, _, _ => False
  | .outgrown, _, _ => False
structure AW (nt : Nat) (c : Code) (Q : Post) (env : Env) (H : Heap) (k : Option Nat) : Prop where
  out : ∀ ρ a w, St C nt env H k ρ a w → c.wpIn (Fw none) 0 P (Lift C nt Q) a w
structure AR (nt : Nat) (ops : Array Oper) (Q : Post) (l : List Stp) (env : Env) (H : Heap) (k : Option Nat) : Prop where
  out : ∀ ρ a w, St C nt env H k ρ a w → runP P none ops (Lift C nt Q) l (Keeps C.I ρ H w) a w
end
def thenP (next : Env → Heap → Option Nat → Prop) (Q : Post) : Post
  | .normal, env, H, k => next env H k
  | e, env, H, k => Q e env H k
def inBlockP (id : Nat) (Q : Post) : Post
  | .exit id', env, H, k => bif Nat.beq id' id then Q .normal env H k else Q (.exit id') env H k
  | e, env, H, k => Q e env H k
def Has (env : Env) : Env → Prop
  | [] => True
  | (t, v) :: l => look env t = some v ∧ Has env l
theorem has_look {env : Env} : ∀ {e : Env} {t : Nat} {v : V}, Has env e → look e t = some v → look env t = some v
  | [], _, _, _, h => by simp [look] at h
  | (k, y) :: l, t, v, hs, h => by
    rw [look_cons] at h
    split at h
    · rename_i e; subst e; cases h; exact hs.1
    · exact has_look hs.2 h
structure LSI (P : Program) (nt : Nat) (env : Env) (H : Heap) (o : Oper) (R : V → Heap → Prop) : Prop where
  out : ∀ I ρ a w next Qx, EnvOk I ρ nt env a → WOk (Ctx.self w ρ H I) I ρ H w → (∀ ρ' H' v u w', R v H' → Pre ρ ρ' → WOk (Ctx.self w ρ H I) I ρ' H' w' → VRel I ρ' v u → next (a.put o.dst u) w') → o.wpIn (Fw none) 0 P a w next Qx
theorem grown_of {w w' : World} {B : Nat} {I I' : Imm} {ρ ρ' : List (Option (Nat × Nat))} {H H' : Heap} (hw : WOk (Ctx.self w ρ H I) I ρ H w) (h : WOk (Ctx.self w ρ H I) I' ρ' H' w') (o1 : Own B ρ) (hM : OnlyMap H) : ∃ row, w.grownBy w' row ∧ RowMap B w row := by
  obtain ⟨o2, o3⟩ := hM
  match H, o2 with
  | [], _ => exact ⟨none, ⟨h.os, h.tape, h.out, h.grow, fun k hk _ => h.keep k hk fun ⟨j, blk, h1, _⟩ => by simp [Ctx.self] at h1⟩, fun r e => by cases e⟩
  | [b], _ =>
    obtain ⟨m, rfl⟩ := o3 b (by simp)
    obtain ⟨cb, h1, es, clk, h2, _⟩ := hw.map 0 m rfl
    refine ⟨some cb, ⟨h.os, h.tape, h.out, h.grow, fun k hk hne => h.keep k hk fun ⟨j, blk, h3, _, z, h4⟩ => ?_⟩, fun r e => ?_⟩
    · have hj : j = 0 := by
        have : j < [Blk.map m].length := (List.getElem?_eq_some_iff.1 h3).1
        simp at this; exact this
      subst hj
      have h4 : ρ[0]? = some (some (k, z)) := h4
      rw [h1] at h4; cases h4
      exact hne rfl
    · cases e
      exact ⟨o1 0 cb 0 h1, es, clk, h2⟩
  | _ :: _ :: _, h => simp at h
section
variable {P : Program} {C : Cx P} {nt : Nat} {Q Q' : Post} {env env' : Env} {H H' : Heap} {k : Option Nat} {ops : Array Oper} {l : List Stp} {dst : Nat} {ty : TypeId} {pos : String} {after : Array Edge} {ρ : List (Option (Nat × Nat))}
theorem St.has {a : Act} {w : World} (h : St C nt env H k ρ a w) (he : Has env env') : St C nt env' H k ρ a w := ⟨⟨h.1.1, fun t v ht => h.1.2 t v (has_look he ht)⟩, h.2⟩
theorem aw_skip (h : Q .normal env H k) : AW C nt .skip Q env H k := .mk fun ρ _ _ hs => wpIn_skip ⟨env, H, k, ρ, hs, h⟩
theorem aw_exit {id : Nat} (h : Q (.exit id) env H k) : AW C nt (.exit id) Q env H k := .mk fun ρ _ _ hs => wpIn_exit ⟨env, H, k, ρ, hs, h⟩
theorem aw_ret (h : Q .ret env H k) : AW C nt .ret Q env H k := .mk fun ρ _ _ hs => wpIn_ret ⟨env, H, k, ρ, hs, h⟩
theorem lift_then {nxt : Env → Heap → Option Nat → Prop} {K : Act → World → Prop} (h : ∀ env H k ρ a w, St C nt env H k ρ a w → nxt env H k → K a w) : ∀ e a w, Lift C nt (thenP nxt Q) e a w → Exit.then K (Lift C nt Q) e a w
  | .normal, _, _, ⟨_, _, _, _, c, d⟩ => h _ _ _ _ _ _ c d
  | .exit _, _, _, h => h
  | .goto _, _, _, h => h
  | .ret, _, _, h => h
  | .panic _, _, _, h => h
  | .outgrown, _, _, h => h
theorem aw_seq {x y : Code} (h : AW C nt x (thenP (AW C nt y Q) Q) env H k) : AW C nt (.seq x y) Q env H k := .mk
  fun ρ a w hs => wpIn_seq (wpIn_mono (h.1 ρ a w hs) (lift_then fun _ _ _ ρ a w hs h => h.1 ρ a w hs))
theorem aw_cond {c : Operand} {x y : Code} {b : Bool} (hc : eo env c = some (.s (.bool b))) (ht : b = true → AW C nt x Q env H k) (hf : b = false → AW C nt y Q env H k) : AW C nt (.cond c x y) Q env H k := .mk
  fun ρ a w hs => wpIn_cond_split (eo_bool hs.1 hc) (fun e => (ht e).1 ρ a w hs) (fun e => (hf e).1 ρ a w hs)
theorem aw_block {id : Nat} {c : Code} (h : AW C nt c (inBlockP id Q) env H k) : AW C nt (.block id c) Q env H k := .mk
  fun ρ a w hs => wpIn_block (wpIn_mono (h.1 ρ a w hs) fun e a w h => by
    cases e with
    | exit id' =>
      obtain ⟨env, H, k, ρ, hs, hq⟩ := h
      simp only [inBlockP] at hq
      simp only [Exit.inBlock]
      cases hb : Nat.beq id' id
      · rw [hb] at hq
        rw [if_neg (fun e => by rw [e, Nat.beq_refl] at hb; cases hb)]
        exact ⟨env, H, k, ρ, hs, hq⟩
      · rw [hb] at hq
        rw [if_pos (Nat.eq_of_beq_eq_true hb)]
        exact ⟨env, H, k, ρ, hs, hq⟩
    | normal => exact h
    | goto _ => exact h
    | ret => exact h
    | panic _ => exact h
    | outgrown => exact h)
/-- A loop that hands over one element in each round. -/
theorem aw_for {c : Code} (M : Nat) (E : Nat → Env) (F : Nat → Heap) (h0 : Has env (E 0)) (hF : H = F 0) (round : ∀ j, j ≤ M → AW C nt c (thenP (fun env' H' k' => j < M ∧ k' = some (j + 1) ∧ H' = F (j + 1) ∧ Has env' (E (j + 1))) Q) (E j) (F j) (some j)) : AW C nt (.loop c) Q env H (some 0) := .mk fun ρ a w hs =>
  wpIn_loopN (fun n a w => ∃ j ρ, j ≤ M ∧ n = M - j ∧ St C nt (E j) (F j) (some j) ρ a w) M ⟨0, ρ, Nat.zero_le _, rfl, by rw [← hF]; exact hs.has h0⟩ fun n a w ⟨j, ρ, hj, hn, hs⟩ =>
    wpIn_mono ((round j hj).1 ρ a w hs) (lift_then fun env' H' k' ρ' a' w' hs' h => by
      obtain ⟨h1, rfl, rfl, h3⟩ := h
      exact ⟨M - (j + 1), by omega, j + 1, ρ', h1, rfl, hs'.has h3⟩)
theorem aw_region {l : List Oper} {id : Nat} (h : AR C nt l.toArray Q (textPlan l 0) env H k) : AW C nt (.region id l.toArray false) Q env H k := .mk
  fun ρ a w hs => region_text (Keeps C.I ρ H w) (Keeps.refl hs.2.1) (h.1 ρ a w hs)
theorem ar_nil (h : Q .normal env H k) : AR C nt ops Q [] env H k := .mk fun ρ _ _ hs => ⟨env, H, k, ρ, hs, h⟩
theorem ar_q {i d : Nat} {op : Op} {v : V} (h : QS P nt env H ⟨some d, op, ty, pos, after, none⟩ v) (hd : d < nt) (hk : AR C nt ops Q l ((d, v) :: env) H k) :
    AR C nt ops Q (.q i ⟨some d, op, ty, pos, after, none⟩ :: l) env H k := .mk fun ρ a w hs => by
  refine ⟨fun _ => ?_, fun hw => by rw [wanted_none rfl] at hw; cases hw⟩
  obtain ⟨u, h1, h2⟩ := h.1 _ C.I ρ a w hs.1 hs.2.1
  exact ⟨u, h2, hk.1 ρ _ w ⟨hs.1.put h1 hd, hs.2⟩⟩
theorem own_next {w w' : World} {B : Nat} {I I' : Imm} {ρ' : List (Option (Nat × Nat))} (hw : WOk (Ctx.self w ρ H I) I ρ H w) (h : WOk (Ctx.self w ρ H I) I' ρ' H' w') (ho : Own B ρ) (hM : OnlyMap H) (hB : H = [] → B ≤ w.heap.size) (hH : ∀ blk ∈ H', blk ≠ .dead) : Own B ρ' := by
  have hB' : B ≤ w.heap.size := by
    match H, hB, hM, hw with
    | [], hB, _, _ => exact hB rfl
    | b :: L, _, ⟨_, o3⟩, hw =>
      obtain ⟨m, rfl⟩ := o3 b (by simp)
      obtain ⟨cb, h1, es, clk, h2, _⟩ := hw.map 0 m rfl
      have := ho 0 cb 0 h1
      have := (Array.getElem?_eq_some_iff.1 h2).1
      omega
  refine fun j b z hj => ?_
  have hlt : j < H'.length := by rw [← h.len]; exact (List.getElem?_eq_some_iff.1 hj).1
  have hb : H'[j]? = some H'[j] := by simp [hlt]
  rcases h.mine b ⟨j, _, hb, hH _ (List.getElem_mem hlt), z, hj⟩ with h1 | ⟨q, blk, h1, h2, z', h3⟩
  · have : w.heap.size ≤ b := h1
    omega
  · exact ho q b z' h3
theorem ar_l {i d q : Nat} {op : Op} {keep : Bool} {R : V → Heap → Prop} (h : LSI P nt env H ⟨some d, op, ty, pos, after, none⟩ R) (hd : d < nt) (hq : H = [] → q = 0) (hH : ∀ v H', R v H' → H' ≠ [] ∧ ∀ blk ∈ H', blk ≠ .dead)
    (hM : OnlyMap H) (hkp : keep = false) (hk : ∀ v H', R v H' → AR C nt ops Q l ((d, v) :: env) H' (some q)) : AR C nt ops Q (.l i ⟨some d, op, ty, pos, after, none⟩ keep :: l) env H (some q) := .mk fun ρ a w hs => by
  subst hkp
  refine ⟨fun _ => ?_, fun hw => by rw [wanted_none rfl] at hw; cases hw⟩
  refine h.1 C.I ρ a w _ _ hs.1 hs.2.1 fun ρ' H' v u w' hR hρ hw hv => ?_
  obtain ⟨row, g1, g2⟩ := grown_of hs.2.1 hw hs.2.2.1 hM
  obtain ⟨n1, n2⟩ := hH v H' hR
  exact ⟨Keeps C.I ρ' H' w', Keeps.refl hw, (fun h => by cases h), (hk v H' hR).1 ρ' _ w' ⟨(hs.1.mono (Imm.le_refl _) hρ).put hv hd, hw.self, own_next hs.2.1 hw hs.2.2.1 hM (fun e => hs.2.2.2.2.2 (by rw [hq e]) e) n2, hs.2.2.2.1, C.stable q w w' row hs.2.2.2.2.1 g1 g2, fun _ e => (n1 e).elim⟩⟩
theorem ar_l0 {i q : Nat} {op : Op} {keep : Bool} {R : V → Heap → Prop} (h : LSI P nt env H ⟨none, op, ty, pos, after, none⟩ R) (hq : H = [] → q = 0) (hH : ∀ v H', R v H' → H' ≠ [] ∧ ∀ blk ∈ H', blk ≠ .dead)
    (hM : OnlyMap H) (hkp : keep = false) (hk : ∀ v H', R v H' → AR C nt ops Q l env H' (some q)) : AR C nt ops Q (.l i ⟨none, op, ty, pos, after, none⟩ keep :: l) env H (some q) := .mk fun ρ a w hs => by
  subst hkp
  refine ⟨fun _ => ?_, fun hw => by rw [wanted_none rfl] at hw; cases hw⟩
  refine h.1 C.I ρ a w _ _ hs.1 hs.2.1 fun ρ' H' v u w' hR hρ hw hv => ?_
  obtain ⟨row, g1, g2⟩ := grown_of hs.2.1 hw hs.2.2.1 hM
  obtain ⟨n1, n2⟩ := hH v H' hR
  exact ⟨Keeps C.I ρ' H' w', Keeps.refl hw, (fun h => by cases h), (hk v H' hR).1 ρ' _ w' ⟨hs.1.mono (Imm.le_refl _) hρ, hw.self, own_next hs.2.1 hw hs.2.2.1 hM (fun e => hs.2.2.2.2.2 (by rw [hq e]) e) n2, hs.2.2.2.1, C.stable q w w' row hs.2.2.2.2.1 g1 g2, fun _ e => (n1 e).elim⟩⟩
theorem evals_s {I : Imm} {a : Act} (he : EnvOk I ρ nt env a) : ∀ {xs : List Operand} {us : List Value}, xs.mapM (eo env) = some (us.map V.s) → xs.map a.eval = us
  | [], us, h => by cases us <;> simp at h; rfl
  | x :: xs, us, h => by
    simp only [List.mapM_cons, Option.pure_def, Option.bind_eq_bind, Option.bind_eq_some_iff] at h
    obtain ⟨v0, hv0, vs', hvs, h'⟩ := h
    cases us with
    | nil => simp at h'
    | cons u us =>
      simp at h'
      obtain ⟨rfl, rfl⟩ := h'
      rw [List.map_cons, evals_s he hvs]
      have := eo_rel he hv0
      generalize a.eval x = y at this ⊢
      cases this
      rfl
/-- yield. -/
theorem ar_yield {i d q : Nat} {fo : Operand} {args : List Operand} {ats : Array TypeId} {us : List Value} (hf : eo env fo = some (.s (.func (.yield C.l) #[] #[]))) (hargs : args.mapM (eo env) = some (us.map V.s)) (hk : q < C.N) (hel : C.el q = us) (hd : d < nt) (hM : OnlyMap H)
    (h : AR C nt ops Q l ((d, .s (.bool true)) :: env) H (some (q + 1))) (h' : AR C nt ops Q l ((d, .s (.bool false)) :: env) H none) : AR C nt ops Q (.l i ⟨some d, .call ⟨.value fo, args.toArray, ats⟩, ty, pos, after, none⟩ false :: l) env H (some q) := .mk fun ρ a w hs => by
  refine ⟨fun _ => ?_, fun hw => by rw [wanted_none rfl] at hw; cases hw⟩
  have h1 := eo_rel hs.1 hf
  have ev : a.eval fo = .func (.yield C.l) #[] #[] := by generalize a.eval fo = y at h1; cases h1; rfl
  obtain ⟨fn, tmps, assign, body, hy, hR⟩ := C.round q w hs.2.2.2.2.1 hk
  rw [hel, ← evals_s hs.1 hargs] at hy
  refine wpIn_of_run (by simp) (It.yield_run ev hy) ⟨fun h => by simp [Fw, Fence.wide] at h, ?_⟩
  refine RoundIn.mono hR fun e w' ⟨he, hK, hMp⟩ => ?_
  have hw := hs.2.1
  have o1 := hs.2.2.1
  obtain ⟨o2, o3⟩ := hM
  have noArr : ∀ (k sz n : Nat) (f : Nat → V), H[k]? ≠ some (.arr sz n f) := fun k sz n f e => by
    obtain ⟨m, hm⟩ := o3 _ (List.mem_of_getElem? e)
    cases hm
  have hw' : WOk (Ctx.self w' ρ H C.I) C.I ρ H w' :=
    { len := hw.len, inj := hw.inj, imm := fun b o hb => hK b o hb (hw.imm b o hb), apart := hw.apart, size := fun k sz n f e => (noArr k sz n f e).elim, none := fun k sz n f e => (noArr k sz n f e).elim, arr := fun k sz n f b z e => (noArr k sz n f e).elim
      map := fun k m e => by
        obtain ⟨b, h1, es, clk, h2, h3, h4⟩ := hw.map k m e
        exact ⟨b, h1, es, clk, hMp b es clk (o1 k b 0 h1) h2, h3, h4⟩
      mine := fun b hb => .inr hb, news := fun b hb => .inl hb, le := Imm.le_refl _, pre := Pre.refl _, os := rfl, tape := rfl, out := rfl, grow := Nat.le_refl _, keep := fun _ _ _ => rfl }
  rcases he with ⟨he, hJ⟩ | ⟨he, hJ⟩
  · subst he
    exact ⟨Keeps C.I ρ H w', Keeps.refl hw', (fun h => by cases h), h.1 ρ _ w' ⟨hs.1.put (.s _) hd, hw', o1, hs.2.2.2.1, hJ, fun e => by cases e⟩⟩
  · subst he
    exact ⟨Keeps C.I ρ H w', Keeps.refl hw', (fun h => by cases h), h'.1 ρ _ w' ⟨hs.1.put (.s _) hd, hw', o1, hs.2.2.2.1, hJ, fun e => by cases e⟩⟩
theorem ar_guard {s : Stp} {g t d : Nat} {b want : Bool} (hg : s.oper.guard = some (g, want)) (ht : (ops[g]?).bind (·.dst) = some t) (hb : look env t = some (.s (.bool b))) (hd : s.oper.dst = some d) (hdn : d < nt)
    (hy : b = want → AR C nt ops Q (s.bare :: l) ((t, .s (.bool want)) :: env) H k) (hn : b = !want → AR C nt ops Q l ((d, .s undef) :: (t, .s (.bool !want)) :: env) H k) : AR C nt ops Q (s :: l) env H k := .mk fun ρ a w hs => by
  obtain ⟨h1, h2⟩ := hs.1.2 t _ hb
  have ev : a.tmps.getD t undef = .bool b := by cases h2' : a.tmps.getD t undef <;> rw [h2'] at h2 <;> cases h2; rfl
  have ey : yielded ops a.tmps g = some b := by
    unfold yielded
    have hlt : t < a.tmps.size := by rw [hs.1.1]; exact h1
    simp only [ht, Option.bind_some]
    simp [hlt] at ev
    simp [hlt, ev]
  have hw : Region.wanted s.oper (yielded ops a.tmps) = (b == want) := by
    unfold Region.wanted
    rw [hg]
    simp only [ey]
    cases b <;> cases want <;> rfl
  have sub : ∀ b', b = b' → EnvOk C.I ρ nt ((t, .s (.bool b')) :: env) a := fun b' e => by
    subst e
    refine ⟨hs.1.1, fun t' v' h' => ?_⟩
    rw [look_cons] at h'
    split at h'
    · rename_i e; subst e; cases h'; exact ⟨h1, h2⟩
    · exact hs.1.2 t' v' h'
  by_cases e : b = want
  · have ih := (hy e).1 ρ a w ⟨sub _ e, hs.2⟩
    clear hy hn
    have hwt : Region.wanted s.oper (yielded ops a.tmps) = true := by rw [hw, e]; simp
    cases s with
    | q i o =>
      have ih : (Region.wanted { o with guard := none } (yielded ops a.tmps) = true → _) ∧ _ := ih
      exact ⟨fun _ => ih.1 (wanted_none rfl), fun h' => absurd (h'.symm.trans hwt) (by decide)⟩
    | l i o k =>
      have ih : (Region.wanted { o with guard := none } (yielded ops a.tmps) = true → _) ∧ _ := ih
      exact ⟨fun _ => ih.1 (wanted_none rfl), fun h' => absurd (h'.symm.trans hwt) (by decide)⟩
    | fork ps => cases hg
  · have e' : b = !want := by cases b <;> cases want <;> simp_all
    have hwf : Region.wanted s.oper (yielded ops a.tmps) = false := by rw [hw, e']; cases want <;> rfl
    have ih : runP P none ops (Lift C nt Q) l (Keeps C.I ρ H w) (a.put (some d) undef) w := (hn e').1 ρ _ w ⟨(sub _ e').put (.s _) hdn, hs.2⟩
    rw [← hd] at ih
    cases s with
    | q i o => exact ⟨fun h' => absurd (h'.symm.trans hwf) (by decide), fun _ => ih⟩
    | l i o k => exact ⟨fun h' => absurd (h'.symm.trans hwf) (by decide), fun _ => ih⟩
    | fork ps => cases hg
theorem ar_guard_u {s : Stp} {g t e : Nat} {want : Bool} (hg : s.oper.guard = some (g, want)) (ht : (ops[g]?).bind (·.dst) = some t) (hd : s.oper.dst = some e) (hb : look env t = some (.s undef)) (hdn : e < nt) (h : AR C nt ops Q l ((e, .s undef) :: env) H k) : AR C nt ops Q (s :: l) env H k := .mk fun ρ a w hs => by
  obtain ⟨h1, h2⟩ := hs.1.2 t _ hb
  have ev : a.tmps.getD t undef = undef := by generalize a.tmps.getD t undef = u at h2; cases h2; rfl
  have hwf : Region.wanted s.oper (yielded ops a.tmps) = false := by
    unfold Region.wanted
    rw [hg]
    have : yielded ops a.tmps g = none := by
      unfold yielded
      have hlt : t < a.tmps.size := by rw [hs.1.1]; exact h1
      simp only [ht, Option.bind_some]
      simp [hlt] at ev
      simp [hlt, ev, undef]
    simp only [this]
    cases want <;> rfl
  have ih : runP P none ops (Lift C nt Q) l (Keeps C.I ρ H w) (a.put (some e) undef) w := h.1 ρ _ w ⟨hs.1.put (.s _) hdn, hs.2⟩
  rw [← hd] at ih
  cases s with
  | q i o => exact ⟨fun h' => absurd (h'.symm.trans hwf) (by decide), fun _ => ih⟩
  | l i o k => exact ⟨fun h' => absurd (h'.symm.trans hwf) (by decide), fun _ => ih⟩
  | fork ps => cases hg
theorem aw_drawn {l : List Oper} {id q : Nat} (ps : List (Nat × Nat)) (hm : P.follows .mixedOrders = true) (hB : drawnOk l ps = true) (h : AR C nt l.toArray Q (numPlan l ps) env H (some q)) : AW C nt (.region id l.toArray true) Q env H (some q) := .mk
  fun ρ a w hs => region_drawn ps (Keeps C.I ρ H w) hm hB (fun _ _ _ _ _ h => h.elim) (Keeps.refl hs.2.1.drew) (h.1 ρ a { w with drawn := w.drawn + 1 } ⟨hs.1, hs.2.1.drew.self, hs.2.2.1, hs.2.2.2.1, C.stable q w _ none hs.2.2.2.2.1 ⟨rfl, rfl, rfl, Nat.le_refl _, fun _ _ _ => rfl⟩ (fun r e => by cases e), hs.2.2.2.2.2⟩)
theorem ar_isq {i d : Nat} {op : Op} (h : AR C nt ops Q (.q i ⟨some d, op, ty, pos, after, none⟩ :: l) env H k) : AR C nt ops Q (.q i ⟨some d, op, ty, pos, after, none⟩ :: l) env H k := h
theorem is_load {i d : Nat} {T : TypeId} {x : Operand} (h : AR C nt ops Q (.q i ⟨some d, .load T x, ty, pos, after, none⟩ :: l) env H k) : AR C nt ops Q (.q i ⟨some d, .load T x, ty, pos, after, none⟩ :: l) env H k := h
theorem is_binOp {i d : Nat} {o : BinOp} {T : TypeId} {x y : Operand} {T2 : TypeId} (h : AR C nt ops Q (.q i ⟨some d, .binOp o T x y T2, ty, pos, after, none⟩ :: l) env H k) : AR C nt ops Q (.q i ⟨some d, .binOp o T x y T2, ty, pos, after, none⟩ :: l) env H k := h
theorem is_fieldAddr {i d : Nat} {T : TypeId} {x : Operand} {j : Nat} (h : AR C nt ops Q (.q i ⟨some d, .fieldAddr T x j, ty, pos, after, none⟩ :: l) env H k) : AR C nt ops Q (.q i ⟨some d, .fieldAddr T x j, ty, pos, after, none⟩ :: l) env H k := h
theorem is_indexAddr {i d : Nat} {T : TypeId} {x y : Operand} (h : AR C nt ops Q (.q i ⟨some d, .indexAddr T x y, ty, pos, after, none⟩ :: l) env H k) : AR C nt ops Q (.q i ⟨some d, .indexAddr T x y, ty, pos, after, none⟩ :: l) env H k := h
theorem is_call {i d : Nat} {c : Call} (h : AR C nt ops Q (.q i ⟨some d, .call c, ty, pos, after, none⟩ :: l) env H k) : AR C nt ops Q (.q i ⟨some d, .call c, ty, pos, after, none⟩ :: l) env H k := h
theorem is_pick {i d : Nat} {c x y : Operand} (h : AR C nt ops Q (.q i ⟨some d, .pick c x y, ty, pos, after, none⟩ :: l) env H k) : AR C nt ops Q (.q i ⟨some d, .pick c x y, ty, pos, after, none⟩ :: l) env H k := h
theorem ret_then {K : Env → Heap → Option Nat → Prop} (h : Q .ret env H k) : thenP K Q .ret env H k := h
theorem ret_block {id : Nat} (h : Q .ret env H k) : inBlockP id Q .ret env H k := h
theorem loop_next {N j : Nat} {E : Env} {G : Heap} (h1 : j < N) (h2 : k = some (j + 1)) (hH : H = G) (h3 : Has env E) : thenP (fun env' H' k' => j < N ∧ k' = some (j + 1) ∧ H' = G ∧ Has env' E) Q .normal env H k := ⟨h1, h2, hH, h3⟩
end
/-- All has come, or the loop was left. -/
def EndQ (N : Nat) : Post
  | .normal, _, _, k => k = some N ∨ k = none
  | .ret, _, _, k => k = some N ∨ k = none
  | _, _, _, _ => False
theorem iter_of_aw {P : Program} {gf : FuncId} {fn : Func} {c : Code} {vs : List V} {N : Nat} {el : Nat → List Value} (hf : P.funcs[gf]? = some fn) (hb : fn.body = some c) (hn : vs.length + 1 ≤ fn.ntmps) (hres : fn.results = #[])
    (h : ∀ C : Cx P, C.N = N → C.el = el → AW C fn.ntmps c (EndQ N) (argEnv (.s (.func (.yield C.l) #[] #[]) :: vs) 0) [] (some 0)) : IterX P gf vs N el := by
  refine ⟨fun I us l J K W hI hv hst hY h0 => ?_⟩
  refine callsIn_wide.2 ((callsIn_wide (n := 0)).1 (callsIn_of_wp hf hb trivial ?_ rfl))
  have hrel : VRels I [] (.s (.func (.yield l) #[] #[]) :: vs) (#[.func (.yield l) #[] #[]] ++ us) := by
    refine ⟨by simp [hv.1]; omega, fun j v u hj hu => ?_⟩
    cases j with
    | zero =>
      rw [Array.getElem?_append_left (by simp)] at hu
      simp at hj hu; subst hj hu; exact .s _
    | succ j =>
      rw [List.getElem?_cons_succ] at hj
      rw [Array.getElem?_append_right (by simp)] at hu
      exact hv.2 j v u hj (by simpa using hu)
  have h1 := (h ⟨l, I, fun | some k => J k | none => K, W.heap.size, N, el, hst, hY⟩ rfl rfl).1 [] _ W ⟨argEnv_ok hrel (by rw [hrel.1]; simpa using hn), WOk.begin hI, (fun j b z h => by simp at h), rfl, h0, fun _ _ => Nat.le_refl _⟩
  refine wpIn_mono h1 fun e a' w' hl => ?_
  have hr : (results fn a'.tmps).run P w' = .ok (.tuple #[]) w' := by
    unfold results
    rw [hres]
    simp
  have fin : ∀ {k : Option Nat} {env : Env} {H : Heap} {ρ : List (Option (Nat × Nat))}, St ⟨l, I, fun | some k => J k | none => K, W.heap.size, N, el, hst, hY⟩ fn.ntmps env H k ρ a' w' → (k = some N ∨ k = none) → J N w' ∨ K w' := fun hs hk => by
    rcases hk with rfl | rfl
    · exact .inl hs.2.2.2.2.1
    · exact .inr hs.2.2.2.2.1
  cases e with
  | normal => obtain ⟨_, _, k, ρ, hs, hk⟩ := hl; exact ⟨hs.2.2.2.1, _, hr, ⟨_, rfl⟩, fin hs hk⟩
  | ret => obtain ⟨_, _, k, ρ, hs, hk⟩ := hl; exact ⟨hs.2.2.2.1, _, hr, ⟨_, rfl⟩, fin hs hk⟩
  | exit id => obtain ⟨_, _, _, _, _, h⟩ := hl; exact h.elim
  | goto id => obtain ⟨_, _, _, _, _, h⟩ := hl; exact h.elim
  | panic ch => exact hl.elim
  | outgrown => exact hl.elim
end Go.Proofs.Ytloaefllpokkaaa.Im
-- old go
namespace Go.Proofs.Ytloaefllpokkaaa
open Go.RowKit
abbrev encSpts (l : List Spt) : V := LV 2 Spt.enc l
def segEl (l : List Spt) (k : Nat) : List Value := [spv (segA l k), spv (segB l k)]
end Go.Proofs.Ytloaefllpokkaaa
namespace Go.Proofs.Ytloaefllpokkaaa.Im
open Go.RowKit
section
variable {P : Program} {C : Cx P} {nt : Nat} {Q : Post} {env : Env} {H : Heap} {k : Option Nat} {ops : Array Oper} {l : List Stp}
/-- A pair of numbers avs one value. -/
theorem ar_flatY {t : Nat} {s : Spt} (h : look env t = some s.enc) (hk : AR C nt ops Q l ((t, .s (spv s)) :: env) H k) : AR C nt ops Q l env H k := .mk fun ρ a w hs => by
  refine hk.1 ρ a w ⟨⟨hs.1.1, fun j v hj => ?_⟩, hs.2⟩
  rw [look_cons] at hj
  split at hj
  · rename_i e; subst e; cases hj
    exact ⟨(hs.1.2 _ _ h).1, flat_rel (hs.1.2 _ _ h).2⟩
  · exact hs.1.2 j v hj
/-- A loop that is left at once. -/
theorem aw_loop0 {c : Code} (h : AW C nt c (thenP (fun _ _ _ => False) Q) env H k) : AW C nt (.loop c) Q env H k := .mk fun ρ a w hs =>
  wpIn_loopN (fun n a w => ∃ ρ, n = 0 ∧ St C nt env H k ρ a w) 0 ⟨ρ, rfl, hs⟩ fun n a w ⟨ρ, hn, hs⟩ =>
    wpIn_mono (h.1 ρ a w hs) (lift_then fun _ _ _ _ _ _ _ h => h.elim)
end
set_option maxHeartbeats 2000000 in
theorem segs_iter (l : List Spt) (h1 : 1 ≤ l.length) (hb : l.length ≤ 12) : IterX Try.prog 71 [.ref (encSpts l) 0] (segN l) (segEl l) := by
  refine iter_of_aw Try.func71 rfl (dc rfl) rfl fun C hN hel => ?_
  by_cases hl : l.length = 1
  · have e1 : segN l = 1 := by unfold segN; rw [if_pos hl]
    have e2 : segB l 0 = el l 0 := by unfold segB; rw [if_pos hl]
    have e3 : segEl l 0 = [spv (el l 0), spv (el l 0)] := by unfold segEl; rw [e2]; rfl
    (repeat' (first | (refine ar_isq ?_; first | refine ar_q (qs_move rfl) (dc rfl) ?_ | refine ar_q (qs_assign rfl) (dc rfl) ?_ | (refine is_load ?_; first | refine ar_q (qs_load_ptr (ty rfl) rfl rfl (by first | exact Nat.one_pos | assumption | omega) rfl) (dc rfl) ?_ | refine ar_q (qs_load_ref (ty rfl) rfl rfl) (dc rfl) ?_) | (refine is_binOp ?_; first | refine ar_q (qs_lss rfl rfl) (dc rfl) ?_ | refine ar_q (qs_eql rfl rfl) (dc rfl) ?_ | refine ar_q (qs_add rfl rfl (wrap64 (by omega))) (dc rfl) ?_) | (refine is_indexAddr ?_; first | refine ar_q (qs_iaddr_list (ty rfl) rfl (ty rfl) rfl rfl rfl rfl (by omega)) (dc rfl) ?_ | refine ar_q (qs_iaddr_sl0 (ty rfl) rfl (ty rfl) rfl rfl rfl rfl (by omega)) (dc rfl) ?_ | refine ar_q (qs_iaddr_sl (ty rfl) rfl (ty rfl) rfl rfl rfl rfl (by omega)) (dc rfl) ?_ | refine ar_q (qs_iaddr_aptr (ty rfl) rfl (ty rfl) rfl rfl rfl (by omega)) (dc rfl) ?_ | refine ar_q (qs_iaddr_aref (ty rfl) rfl (ty rfl) rfl rfl rfl (by omega)) (dc rfl) ?_ | refine ar_q (qs_iaddr_list (j := 0) (ty rfl) rfl (ty rfl) rfl rfl rfl (by omega) (by omega)) (dc rfl) ?_ | refine ar_q (qs_iaddr_sl0 (j := 0) (ty rfl) rfl (ty rfl) rfl rfl rfl (by omega) (by omega)) (dc rfl) ?_ | refine ar_q (qs_iaddr_sl (j := 0) (ty rfl) rfl (ty rfl) rfl rfl rfl (by omega) (by omega)) (dc rfl) ?_ | (refine ar_idx_list (ty rfl) rfl (ty rfl) rfl rfl rfl (dc rfl) (by omega) ?_; intro _ _ _) | (refine ar_idx_sl (ty rfl) rfl (ty rfl) rfl rfl rfl (dc rfl) (by omega) ?_; intro _ _ _)) | (refine is_call ?_; first | refine ar_q (qs_len_list (ty rfl) rfl rfl rfl) (dc rfl) ?_ | refine ar_q (qs_len_sl (ty rfl) rfl rfl rfl) (dc rfl) ?_ | refine ar_q (qs_len_nil (ty rfl) rfl rfl rfl) (dc rfl) ?_ | refine ar_q (qs_len_emp (ty rfl) rfl rfl rfl) (dc rfl) ?_) | refine ar_q (qs_not rfl) (dc rfl) ?_) | (refine aw_drawn (id := 1) [(0, 0), (1, 0), (2, 0), (3, 0), (4, 0), (5, 0), (6, 0), (7, 2)] mixed (by kernel_rfl) ?_) | ((refine ar_flatY (t := 10) (s := el l 0) rfl ?_; refine ar_flatY (t := 13) (s := el l 0) rfl ?_; refine ar_yield (us := [spv (el l 0), spv (el l 0)]) rfl rfl (by rw [hN, e1]; exact Nat.one_pos) (by rw [hel, e3]) (dc rfl) only_nil ?_ ?_)) | (refine ar_q (qs_slice_list (l := 1) (h := l.length) (ty rfl) rfl (ty rfl) rfl rfl (by first | exact rfl | exact ⟨_, rfl⟩ | exact bnd_some rfl (by omega)) (by first | exact rfl | exact ⟨_, rfl⟩ | exact bnd_some rfl (by omega)) (by omega) (by omega)) (dc rfl) ?_) | (refine ar_q (qs_slice_sl (l := 1) (h := l.length) (ty rfl) rfl (ty rfl) rfl rfl (by first | exact rfl | exact ⟨_, rfl⟩ | exact bnd_some rfl (by omega)) (by first | exact rfl | exact ⟨_, rfl⟩ | exact bnd_some rfl (by omega)) (by omega) (by omega) (by omega)) (dc rfl) ?_) | (refine ar_nil ?_) | (refine aw_seq ?_) | (refine aw_skip ?_) | (refine aw_block ?_) | (refine aw_exit ?_) | (refine aw_region ?_) | (refine aw_drawn (id := 1) [(0, 0), (1, 0), (2, 0), (3, 0), (4, 0), (5, 0), (6, 0), (7, 1)] mixed (by kernel_rfl) ?_) | (refine aw_drawn (id := 1) [(0, 0), (1, 0), (2, 0), (3, 0), (4, 0), (5, 0), (6, 0), (7, 2)] mixed (by kernel_rfl) ?_) | (refine aw_drawn (id := 5) [(0, 0), (1, 0), (2, 0), (3, 0), (4, 0), (5, 0), (6, 0), (7, 0), (8, 0), (9, 0), (10, 1), (11, 0)] mixed (by kernel_rfl) ?_) | (refine aw_drawn (id := 5) [(0, 0), (1, 0), (2, 0), (3, 0), (4, 0), (5, 0), (6, 0), (7, 0), (8, 0), (9, 0), (10, 2), (11, 0)] mixed (by kernel_rfl) ?_) | (refine aw_cond rfl ?_ ?_ <;> intro hg <;> first | exact absurd hg (by decide) | ((first | replace hg := hgT hg | replace hg := hgF hg | replace hg := hgNT hg | replace hg := hgNF hg | replace hg := hgBT hg | replace hg := hgBF hg | replace hg := hgV hg | replace hg := hgW hg | skip); (try dsimp only at hg); (try (have _h : True := hg; clear _h hg)); first | (exfalso; omega) | skip))))
    all_goals
      refine aw_loop0 ?_
      (repeat' (first | (refine ar_isq ?_; first | refine ar_q (qs_move rfl) (dc rfl) ?_ | refine ar_q (qs_assign rfl) (dc rfl) ?_ | (refine is_load ?_; first | refine ar_q (qs_load_ptr (ty rfl) rfl rfl (by first | exact Nat.one_pos | assumption | omega) rfl) (dc rfl) ?_ | refine ar_q (qs_load_ref (ty rfl) rfl rfl) (dc rfl) ?_) | (refine is_binOp ?_; first | refine ar_q (qs_lss rfl rfl) (dc rfl) ?_ | refine ar_q (qs_eql rfl rfl) (dc rfl) ?_ | refine ar_q (qs_add rfl rfl (wrap64 (by omega))) (dc rfl) ?_) | (refine is_indexAddr ?_; first | refine ar_q (qs_iaddr_list (ty rfl) rfl (ty rfl) rfl rfl rfl rfl (by omega)) (dc rfl) ?_ | refine ar_q (qs_iaddr_sl0 (ty rfl) rfl (ty rfl) rfl rfl rfl rfl (by omega)) (dc rfl) ?_ | refine ar_q (qs_iaddr_sl (ty rfl) rfl (ty rfl) rfl rfl rfl rfl (by omega)) (dc rfl) ?_ | refine ar_q (qs_iaddr_aptr (ty rfl) rfl (ty rfl) rfl rfl rfl (by omega)) (dc rfl) ?_ | refine ar_q (qs_iaddr_aref (ty rfl) rfl (ty rfl) rfl rfl rfl (by omega)) (dc rfl) ?_ | (refine ar_idx_list (ty rfl) rfl (ty rfl) rfl rfl rfl (dc rfl) (by omega) ?_; intro _ _ _) | (refine ar_idx_sl (ty rfl) rfl (ty rfl) rfl rfl rfl (dc rfl) (by omega) ?_; intro _ _ _)) | (refine is_call ?_; first | refine ar_q (qs_len_list (ty rfl) rfl rfl rfl) (dc rfl) ?_ | refine ar_q (qs_len_sl (ty rfl) rfl rfl rfl) (dc rfl) ?_ | refine ar_q (qs_len_nil (ty rfl) rfl rfl rfl) (dc rfl) ?_ | refine ar_q (qs_len_emp (ty rfl) rfl rfl rfl) (dc rfl) ?_) | refine ar_q (qs_not rfl) (dc rfl) ?_) | (refine ar_q (qs_slice_list (ty rfl) rfl (ty rfl) rfl rfl (by first | exact rfl | exact ⟨_, rfl⟩ | exact bnd_some rfl (by omega)) (by first | exact rfl | exact ⟨_, rfl⟩ | exact bnd_some rfl (by omega)) (by omega) (by omega)) (dc rfl) ?_) | (refine ar_q (qs_slice_sl (ty rfl) rfl (ty rfl) rfl rfl (by first | exact rfl | exact ⟨_, rfl⟩ | exact bnd_some rfl (by omega)) (by first | exact rfl | exact ⟨_, rfl⟩ | exact bnd_some rfl (by omega)) (by omega) (by omega) (by omega)) (dc rfl) ?_) | (refine ar_nil ?_) | (refine aw_seq ?_) | (refine aw_skip ?_) | (refine aw_block ?_) | (refine aw_exit ?_) | (refine aw_region ?_) | (refine aw_drawn (id := 1) [(0, 0), (1, 0), (2, 0), (3, 0), (4, 0), (5, 0), (6, 0), (7, 1)] mixed (by kernel_rfl) ?_) | (refine aw_drawn (id := 1) [(0, 0), (1, 0), (2, 0), (3, 0), (4, 0), (5, 0), (6, 0), (7, 2)] mixed (by kernel_rfl) ?_) | (refine aw_drawn (id := 5) [(0, 0), (1, 0), (2, 0), (3, 0), (4, 0), (5, 0), (6, 0), (7, 0), (8, 0), (9, 0), (10, 1), (11, 0)] mixed (by kernel_rfl) ?_) | (refine aw_drawn (id := 5) [(0, 0), (1, 0), (2, 0), (3, 0), (4, 0), (5, 0), (6, 0), (7, 0), (8, 0), (9, 0), (10, 2), (11, 0)] mixed (by kernel_rfl) ?_) | (refine aw_cond rfl ?_ ?_ <;> intro hg <;> first | exact absurd hg (by decide) | ((first | replace hg := hgT hg | replace hg := hgF hg | replace hg := hgNT hg | replace hg := hgNF hg | replace hg := hgBT hg | replace hg := hgBF hg | replace hg := hgV hg | replace hg := hgW hg | skip); (try dsimp only at hg); (try (have _h : True := hg; clear _h hg)); first | (exfalso; omega) | skip))))
    all_goals first
      | (exfalso; omega)
      | exact .inr rfl
      | exact aw_ret (.inr rfl)
      | exact .inl (congrArg some e1.symm)
      | exact aw_ret (.inl (congrArg some e1.symm))
      | trace_state
  · have e1 : segN l = l.length - 1 := by unfold segN; rw [if_neg hl]
    (repeat' (first | (refine ar_isq ?_; first | refine ar_q (qs_move rfl) (dc rfl) ?_ | refine ar_q (qs_assign rfl) (dc rfl) ?_ | (refine is_load ?_; first | refine ar_q (qs_load_ptr (ty rfl) rfl rfl (by first | exact Nat.one_pos | assumption | omega) rfl) (dc rfl) ?_ | refine ar_q (qs_load_ref (ty rfl) rfl rfl) (dc rfl) ?_) | (refine is_binOp ?_; first | refine ar_q (qs_lss rfl rfl) (dc rfl) ?_ | refine ar_q (qs_eql rfl rfl) (dc rfl) ?_ | refine ar_q (qs_add rfl rfl (wrap64 (by omega))) (dc rfl) ?_) | (refine is_indexAddr ?_; first | refine ar_q (qs_iaddr_list (ty rfl) rfl (ty rfl) rfl rfl rfl rfl (by omega)) (dc rfl) ?_ | refine ar_q (qs_iaddr_sl0 (ty rfl) rfl (ty rfl) rfl rfl rfl rfl (by omega)) (dc rfl) ?_ | refine ar_q (qs_iaddr_sl (ty rfl) rfl (ty rfl) rfl rfl rfl rfl (by omega)) (dc rfl) ?_ | refine ar_q (qs_iaddr_aptr (ty rfl) rfl (ty rfl) rfl rfl rfl (by omega)) (dc rfl) ?_ | refine ar_q (qs_iaddr_aref (ty rfl) rfl (ty rfl) rfl rfl rfl (by omega)) (dc rfl) ?_ | (refine ar_idx_list (ty rfl) rfl (ty rfl) rfl rfl rfl (dc rfl) (by omega) ?_; intro _ _ _) | (refine ar_idx_sl (ty rfl) rfl (ty rfl) rfl rfl rfl (dc rfl) (by omega) ?_; intro _ _ _)) | (refine is_call ?_; first | refine ar_q (qs_len_list (ty rfl) rfl rfl rfl) (dc rfl) ?_ | refine ar_q (qs_len_sl (ty rfl) rfl rfl rfl) (dc rfl) ?_ | refine ar_q (qs_len_nil (ty rfl) rfl rfl rfl) (dc rfl) ?_ | refine ar_q (qs_len_emp (ty rfl) rfl rfl rfl) (dc rfl) ?_) | refine ar_q (qs_not rfl) (dc rfl) ?_) | (refine ar_q (qs_slice_list (l := 1) (h := l.length) (ty rfl) rfl (ty rfl) rfl rfl (by first | exact rfl | exact ⟨_, rfl⟩ | exact bnd_some rfl (by omega)) (by first | exact rfl | exact ⟨_, rfl⟩ | exact bnd_some rfl (by omega)) (by omega) (by omega)) (dc rfl) ?_) | (refine ar_q (qs_slice_sl (l := 1) (h := l.length) (ty rfl) rfl (ty rfl) rfl rfl (by first | exact rfl | exact ⟨_, rfl⟩ | exact bnd_some rfl (by omega)) (by first | exact rfl | exact ⟨_, rfl⟩ | exact bnd_some rfl (by omega)) (by omega) (by omega) (by omega)) (dc rfl) ?_) | (refine ar_nil ?_) | (refine aw_seq ?_) | (refine aw_skip ?_) | (refine aw_block ?_) | (refine aw_exit ?_) | (refine aw_region ?_) | (refine aw_drawn (id := 1) [(0, 0), (1, 0), (2, 0), (3, 0), (4, 0), (5, 0), (6, 0), (7, 1)] mixed (by kernel_rfl) ?_) | (refine aw_drawn (id := 1) [(0, 0), (1, 0), (2, 0), (3, 0), (4, 0), (5, 0), (6, 0), (7, 2)] mixed (by kernel_rfl) ?_) | (refine aw_drawn (id := 5) [(0, 0), (1, 0), (2, 0), (3, 0), (4, 0), (5, 0), (6, 0), (7, 0), (8, 0), (9, 0), (10, 1), (11, 0)] mixed (by kernel_rfl) ?_) | (refine aw_drawn (id := 5) [(0, 0), (1, 0), (2, 0), (3, 0), (4, 0), (5, 0), (6, 0), (7, 0), (8, 0), (9, 0), (10, 2), (11, 0)] mixed (by kernel_rfl) ?_) | (refine aw_cond rfl ?_ ?_ <;> intro hg <;> first | exact absurd hg (by decide) | ((first | replace hg := hgT hg | replace hg := hgF hg | replace hg := hgNT hg | replace hg := hgNF hg | replace hg := hgBT hg | replace hg := hgBF hg | replace hg := hgV hg | replace hg := hgW hg | skip); (try dsimp only at hg); (try (have _h : True := hg; clear _h hg)); first | (exfalso; omega) | skip))))
    refine aw_for (l.length - 1) (fun k => [(0, .s (.func (.yield C.l) #[] #[])), (1, .ref (encSpts l) 0), (17, vi (l.length - 1 : Nat)), (18, vi k)]) (fun _ => []) ⟨rfl, rfl, rfl, rfl, trivial⟩ rfl ?_
    intro k hk
    by_cases hlt : k < l.length - 1
    · have e2 : segB l k = el l (k + 1) := by unfold segB; rw [if_neg hl]
      have e3 : segEl l k = [spv (el l k), spv (el l (k + 1))] := by unfold segEl; rw [e2]; rfl
      (repeat' (first | (refine ar_isq ?_; first | refine ar_q (qs_move rfl) (dc rfl) ?_ | refine ar_q (qs_assign rfl) (dc rfl) ?_ | (refine is_load ?_; first | refine ar_q (qs_load_ptr (ty rfl) rfl rfl (by first | exact Nat.one_pos | assumption | omega) rfl) (dc rfl) ?_ | refine ar_q (qs_load_ref (ty rfl) rfl rfl) (dc rfl) ?_) | (refine is_binOp ?_; first | refine ar_q (qs_lss rfl rfl) (dc rfl) ?_ | refine ar_q (qs_eql rfl rfl) (dc rfl) ?_ | refine ar_q (qs_add rfl rfl (wrap64 (by omega))) (dc rfl) ?_) | (refine is_indexAddr ?_; first | refine ar_q (qs_iaddr_list (ty rfl) rfl (ty rfl) rfl rfl rfl rfl (by omega)) (dc rfl) ?_ | refine ar_q (qs_iaddr_sl0 (ty rfl) rfl (ty rfl) rfl rfl rfl rfl (by omega)) (dc rfl) ?_ | refine ar_q (qs_iaddr_sl (ty rfl) rfl (ty rfl) rfl rfl rfl rfl (by omega)) (dc rfl) ?_ | refine ar_q (qs_iaddr_aptr (ty rfl) rfl (ty rfl) rfl rfl rfl (by omega)) (dc rfl) ?_ | refine ar_q (qs_iaddr_aref (ty rfl) rfl (ty rfl) rfl rfl rfl (by omega)) (dc rfl) ?_ | refine ar_q (qs_iaddr_list (j := k) (ty rfl) rfl (ty rfl) rfl rfl rfl (by omega) (by omega)) (dc rfl) ?_ | refine ar_q (qs_iaddr_sl0 (j := k) (ty rfl) rfl (ty rfl) rfl rfl rfl (by omega) (by omega)) (dc rfl) ?_ | refine ar_q (qs_iaddr_sl (j := k) (ty rfl) rfl (ty rfl) rfl rfl rfl (by omega) (by omega)) (dc rfl) ?_ | refine ar_q (qs_iaddr_list (j := k + 1) (ty rfl) rfl (ty rfl) rfl rfl rfl (by omega) (by omega)) (dc rfl) ?_ | refine ar_q (qs_iaddr_sl0 (j := k + 1) (ty rfl) rfl (ty rfl) rfl rfl rfl (by omega) (by omega)) (dc rfl) ?_ | refine ar_q (qs_iaddr_sl (j := k + 1) (ty rfl) rfl (ty rfl) rfl rfl rfl (by omega) (by omega)) (dc rfl) ?_ | (refine ar_idx_list (ty rfl) rfl (ty rfl) rfl rfl rfl (dc rfl) (by omega) ?_; intro _ _ _) | (refine ar_idx_sl (ty rfl) rfl (ty rfl) rfl rfl rfl (dc rfl) (by omega) ?_; intro _ _ _)) | (refine is_call ?_; first | refine ar_q (qs_len_list (ty rfl) rfl rfl rfl) (dc rfl) ?_ | refine ar_q (qs_len_sl (ty rfl) rfl rfl rfl) (dc rfl) ?_ | refine ar_q (qs_len_nil (ty rfl) rfl rfl rfl) (dc rfl) ?_ | refine ar_q (qs_len_emp (ty rfl) rfl rfl rfl) (dc rfl) ?_) | refine ar_q (qs_not rfl) (dc rfl) ?_) | (refine aw_drawn (id := 5) [(0, 0), (1, 0), (2, 0), (3, 0), (4, 0), (5, 0), (6, 0), (7, 0), (8, 0), (9, 0), (10, 2), (11, 0)] mixed (by kernel_rfl) ?_) | ((refine ar_flatY (t := 25) (s := el l k) rfl ?_; refine ar_flatY (t := 30) (s := el l (k + 1)) rfl ?_; refine ar_yield (us := [spv (el l k), spv (el l (k + 1))]) rfl rfl (by rw [hN, e1]; exact hlt) (by rw [hel, e3]) (dc rfl) only_nil ?_ ?_)) | (refine ar_q (qs_slice_list (ty rfl) rfl (ty rfl) rfl rfl (by first | exact rfl | exact ⟨_, rfl⟩ | exact bnd_some rfl (by omega)) (by first | exact rfl | exact ⟨_, rfl⟩ | exact bnd_some rfl (by omega)) (by omega) (by omega)) (dc rfl) ?_) | (refine ar_q (qs_slice_sl (ty rfl) rfl (ty rfl) rfl rfl (by first | exact rfl | exact ⟨_, rfl⟩ | exact bnd_some rfl (by omega)) (by first | exact rfl | exact ⟨_, rfl⟩ | exact bnd_some rfl (by omega)) (by omega) (by omega) (by omega)) (dc rfl) ?_) | (refine ar_nil ?_) | (refine aw_seq ?_) | (refine aw_skip ?_) | (refine aw_block ?_) | (refine aw_exit ?_) | (refine aw_region ?_) | (refine aw_drawn (id := 1) [(0, 0), (1, 0), (2, 0), (3, 0), (4, 0), (5, 0), (6, 0), (7, 1)] mixed (by kernel_rfl) ?_) | (refine aw_drawn (id := 1) [(0, 0), (1, 0), (2, 0), (3, 0), (4, 0), (5, 0), (6, 0), (7, 2)] mixed (by kernel_rfl) ?_) | (refine aw_drawn (id := 5) [(0, 0), (1, 0), (2, 0), (3, 0), (4, 0), (5, 0), (6, 0), (7, 0), (8, 0), (9, 0), (10, 1), (11, 0)] mixed (by kernel_rfl) ?_) | (refine aw_drawn (id := 5) [(0, 0), (1, 0), (2, 0), (3, 0), (4, 0), (5, 0), (6, 0), (7, 0), (8, 0), (9, 0), (10, 2), (11, 0)] mixed (by kernel_rfl) ?_) | (refine aw_cond rfl ?_ ?_ <;> intro hg <;> first | exact absurd hg (by decide) | ((first | replace hg := hgT hg | replace hg := hgF hg | replace hg := hgNT hg | replace hg := hgNF hg | replace hg := hgBT hg | replace hg := hgBF hg | replace hg := hgV hg | replace hg := hgW hg | skip); (try dsimp only at hg); (try (have _h : True := hg; clear _h hg)); first | (exfalso; omega) | skip))))
      all_goals first
        | (exfalso; omega)
        | exact loop_next hlt rfl rfl ⟨rfl, rfl, rfl, rfl, trivial⟩
        | exact aw_ret (.inr rfl)
        | trace_state
    · obtain rfl : k = l.length - 1 := by omega
      (repeat' (first | (refine ar_isq ?_; first | refine ar_q (qs_move rfl) (dc rfl) ?_ | refine ar_q (qs_assign rfl) (dc rfl) ?_ | (refine is_load ?_; first | refine ar_q (qs_load_ptr (ty rfl) rfl rfl (by first | exact Nat.one_pos | assumption | omega) rfl) (dc rfl) ?_ | refine ar_q (qs_load_ref (ty rfl) rfl rfl) (dc rfl) ?_) | (refine is_binOp ?_; first | refine ar_q (qs_lss rfl rfl) (dc rfl) ?_ | refine ar_q (qs_eql rfl rfl) (dc rfl) ?_ | refine ar_q (qs_add rfl rfl (wrap64 (by omega))) (dc rfl) ?_) | (refine is_indexAddr ?_; first | refine ar_q (qs_iaddr_list (ty rfl) rfl (ty rfl) rfl rfl rfl rfl (by omega)) (dc rfl) ?_ | refine ar_q (qs_iaddr_sl0 (ty rfl) rfl (ty rfl) rfl rfl rfl rfl (by omega)) (dc rfl) ?_ | refine ar_q (qs_iaddr_sl (ty rfl) rfl (ty rfl) rfl rfl rfl rfl (by omega)) (dc rfl) ?_ | refine ar_q (qs_iaddr_aptr (ty rfl) rfl (ty rfl) rfl rfl rfl (by omega)) (dc rfl) ?_ | refine ar_q (qs_iaddr_aref (ty rfl) rfl (ty rfl) rfl rfl rfl (by omega)) (dc rfl) ?_ | (refine ar_idx_list (ty rfl) rfl (ty rfl) rfl rfl rfl (dc rfl) (by omega) ?_; intro _ _ _) | (refine ar_idx_sl (ty rfl) rfl (ty rfl) rfl rfl rfl (dc rfl) (by omega) ?_; intro _ _ _)) | (refine is_call ?_; first | refine ar_q (qs_len_list (ty rfl) rfl rfl rfl) (dc rfl) ?_ | refine ar_q (qs_len_sl (ty rfl) rfl rfl rfl) (dc rfl) ?_ | refine ar_q (qs_len_nil (ty rfl) rfl rfl rfl) (dc rfl) ?_ | refine ar_q (qs_len_emp (ty rfl) rfl rfl rfl) (dc rfl) ?_) | refine ar_q (qs_not rfl) (dc rfl) ?_) | (refine ar_q (qs_slice_list (ty rfl) rfl (ty rfl) rfl rfl (by first | exact rfl | exact ⟨_, rfl⟩ | exact bnd_some rfl (by omega)) (by first | exact rfl | exact ⟨_, rfl⟩ | exact bnd_some rfl (by omega)) (by omega) (by omega)) (dc rfl) ?_) | (refine ar_q (qs_slice_sl (ty rfl) rfl (ty rfl) rfl rfl (by first | exact rfl | exact ⟨_, rfl⟩ | exact bnd_some rfl (by omega)) (by first | exact rfl | exact ⟨_, rfl⟩ | exact bnd_some rfl (by omega)) (by omega) (by omega) (by omega)) (dc rfl) ?_) | (refine ar_nil ?_) | (refine aw_seq ?_) | (refine aw_skip ?_) | (refine aw_block ?_) | (refine aw_exit ?_) | (refine aw_region ?_) | (refine aw_drawn (id := 1) [(0, 0), (1, 0), (2, 0), (3, 0), (4, 0), (5, 0), (6, 0), (7, 1)] mixed (by kernel_rfl) ?_) | (refine aw_drawn (id := 1) [(0, 0), (1, 0), (2, 0), (3, 0), (4, 0), (5, 0), (6, 0), (7, 2)] mixed (by kernel_rfl) ?_) | (refine aw_drawn (id := 5) [(0, 0), (1, 0), (2, 0), (3, 0), (4, 0), (5, 0), (6, 0), (7, 0), (8, 0), (9, 0), (10, 1), (11, 0)] mixed (by kernel_rfl) ?_) | (refine aw_drawn (id := 5) [(0, 0), (1, 0), (2, 0), (3, 0), (4, 0), (5, 0), (6, 0), (7, 0), (8, 0), (9, 0), (10, 2), (11, 0)] mixed (by kernel_rfl) ?_) | (refine aw_cond rfl ?_ ?_ <;> intro hg <;> first | exact absurd hg (by decide) | ((first | replace hg := hgT hg | replace hg := hgF hg | replace hg := hgNT hg | replace hg := hgNF hg | replace hg := hgBT hg | replace hg := hgBF hg | replace hg := hgV hg | replace hg := hgW hg | skip); (try dsimp only at hg); (try (have _h : True := hg; clear _h hg)); first | (exfalso; omega) | skip))))
      all_goals first
        | (exfalso; omega)
        | exact .inl (congrArg some e1.symm)
        | exact aw_ret (.inl (congrArg some e1.symm))
        | trace_state
end Go.Proofs.Ytloaefllpokkaaa.Im
namespace Go.Proofs.Ytloaefllpokkaaa
open Go.RowKit
theorem fn1_subW {H : Heap} {σ : List (Option Nat)} {fr : Nat → Prop} {f : Fn} {a a' : V} (ha : VSub H σ fr a a') : VSub H σ fr (.fn f [] [a]) (.fn f [] [a']) :=
  .fn rfl (fun j v x h _ => by simp at h) rfl fun j v x h h' => match j, h, h' with
    | 0, h, h' => by cases h; cases h'; exact ha
    | j + 1, h, _ => by simp at h
theorem segs_p (l : List Spt) : PCalls Try.prog 50 [encSpts l] (· = .fn (.func 71) [] [.ref (encSpts l) 0]) := by
  refine pcalls_of_aw Try.func50 rfl (Nat.le_of_ble_eq_true rfl) ?_
  (repeat' (first | (refine ar_isq ?_; first | refine zas ?_ | refine zmf ?_) | (refine zbx ?_) | (refine ar_nil ?_) | (refine aw_seq ?_) | (refine aw_skip ?_) | (refine aw_block ?_) | (refine aw_exit ?_) | (refine aw_region ?_) | (refine zco ?_ ?_ <;> intro hg <;> first | exact absurd hg (by decide) | ((try replace hg := HG.out hg); (try dsimp only at hg); (try (have _h : True := hg; clear _h hg)); first | (exfalso; omega) | skip))))
  (refine aw_mono_r (env' := [(2, .fn (.func 71) [] [.ref (encSpts l) 0])]) (H' := []) ?_ ?_; (focus ((refine sub_to [] [0] rfl ?_ ?_ <;> (repeat' (first | exact trivial | refine ⟨⟨_, rfl, ?_⟩, ?_⟩ | refine ⟨bsub_snoc rfl rfl (fun _ => rfl) ?_, ?_⟩ | refine ⟨bsub_one rfl rfl ?_, ?_⟩ | refine ⟨bsub_all rfl rfl (fun _ _ => rfl) (fun _ => rfl), ?_⟩ | refine ⟨bsub_updL rfl rfl ?_ (fun _ _ _ => rfl) (fun _ => rfl), ?_⟩ | refine ⟨.inl ⟨_, _, rfl, rfl, ?_⟩, ?_⟩ | exact ⟨.inr ⟨rfl, rfl⟩, trivial⟩ | refine ⟨.inr ⟨rfl, rfl⟩, ?_⟩ | (intro _ _) | exact vz1 | (exact fn1_subW (frzPtr' (by simp) rfl (by omega) rfl rfl)) | exact vz2 | fail))); done)))
  (refine aw_ret ?_; (repeat (first | refine ret_then ?_ | refine ret_block ?_)); refine bq1 rfl ⟨?_, rfl⟩)
  rfl
def lessV : V := .fn (.func 49) [] []
/-- Lines of so few spots, so near, that no number gets too great. -/
structure FarOk (p q : List Spt) (N D : Int) : Prop where
  lp : 1 ≤ p.length ∧ p.length ≤ 12
  lq : 1 ≤ q.length ∧ q.length ≤ 12
  hN : 0 ≤ N ∧ N ≤ 1099511627775
  hD : 1 ≤ D ∧ D ≤ 4294967295
  hND : N * D ≤ 9223372036854775807
  sp : ∀ i, i < segN p → SpOk (segA p i) ∧ SpOk (segB p i)
  sq : ∀ j, j < segN q → SpOk (segA q j) ∧ SpOk (segB q j)
  low : ∀ i j, i < segN p → j < segN q → Cand (fun s => s.1 ≤ N ∧ s.2 ≤ D) (segA p i) (segB p i) (segA q j) (segB q j)
  cross : ∀ i j, i < segN p → j < segN q → (crossB (segA p i) (segB p i) (segA q j) (segB q j) && crossB (segA q j) (segB q j) (segA p i) (segB p i)) = false
/-- The four candidates of two segments. -/
def candK (a b c d : Spt) (k : Nat) : Int × Int := if k = 0 then spotF a c d else if k = 1 then spotF b c d else if k = 2 then spotF c a b else spotF d a b
def takeK (l : Int × Int) (a b c d : Spt) : Nat → Int × Int
  | 0 => l
  | k + 1 => takeF (takeK l a b c d k) (candK a b c d k)
theorem takeK_yes {l : Int × Int} {a b c d : Spt} {k : Nat} (h : (takeK l a b c d k).2 = 0 ∨ (candK a b c d k).1 * (takeK l a b c d k).2 < (takeK l a b c d k).1 * (candK a b c d k).2) : takeK l a b c d (k + 1) = candK a b c d k := if_pos h
theorem takeK_no {l : Int × Int} {a b c d : Spt} {k : Nat} (h1 : ¬ (takeK l a b c d k).2 = 0) (h2 : ¬ (candK a b c d k).1 * (takeK l a b c d k).2 < (takeK l a b c d k).1 * (candK a b c d k).2) : takeK l a b c d (k + 1) = takeK l a b c d k := if_neg (fun h => h.elim h1 h2)
theorem takeK_all (l : Int × Int) (a b c d : Spt) : takeK l a b c d 4 = take4 l a b c d := rfl
def Mid (N D : Int) (s : Int × Int) : Prop := (0 ≤ s.1 ∧ s.1 ≤ N) ∧ (0 ≤ s.2 ∧ s.2 ≤ D)
section
variable {N D : Int} {l s : Int × Int} {a b c d : Spt} {p q : List Spt}
theorem mid_cand (h : Cand (fun s => s.1 ≤ N ∧ s.2 ≤ D) a b c d) {k : Nat} : Mid N D (candK a b c d k) := by
  obtain ⟨h0, h1, h2, h3⟩ := h
  unfold candK Mid
  split
  · have := spot_den a c d; omega
  · split
    · have := spot_den b c d; omega
    · split
      · have := spot_den c a b; omega
      · have := spot_den d a b; omega
theorem mid_take (hl : Mid N D l) (hs : Mid N D s) : Mid N D (takeF l s) := by unfold takeF; split; exact hs; exact hl
theorem mid_takeK (hl : Mid N D l) (h : Cand (fun s => s.1 ≤ N ∧ s.2 ≤ D) a b c d) : ∀ k, Mid N D (takeK l a b c d k)
  | 0 => hl
  | k + 1 => mid_take (mid_takeK hl h k) (mid_cand h)
theorem mid_farJ (hl : Mid N D l) : ∀ n, (∀ j, j < n → Cand (fun s => s.1 ≤ N ∧ s.2 ≤ D) a b (segA q j) (segB q j)) → Mid N D (dfarJ q a b l n)
  | 0, _ => hl
  | n + 1, h => by
    have := mid_takeK (mid_farJ hl n fun j hj => h j (by omega)) (h n (by omega)) 4
    rwa [takeK_all] at this
theorem mid_farI (h1 : Mid N D (1, 0)) : ∀ n, (∀ i j, i < n → j < segN q → Cand (fun s => s.1 ≤ N ∧ s.2 ≤ D) (segA p i) (segB p i) (segA q j) (segB q j)) → Mid N D (dfarI p q n)
  | 0, _ => h1
  | n + 1, h => mid_farJ (mid_farI h1 n fun i j hi hj => h i j (by omega) hj) _ fun j hj => h n j (by omega) hj
end
def noMapsB (H : Heap) : Bool := H.all fun b => match b with | .map _ => false | _ => true
theorem nomaps_of {H : Heap} (h : noMapsB H = true) : NoMaps H := fun b ms hb => by
  have := List.all_eq_true.1 h _ (List.mem_of_getElem? hb)
  cases this
theorem awn_sub {P : Program} {lp m nt : Nat} {c : Code} {Q : Post} {env env' : Env} {H H' : Heap} (hs : SubOf m nt env H env' H') (h : AWN P lp m nt c Q env' H') : AWN P lp m nt c Q env H := .mk fun X I ρ a w hX hR h1 => by
  obtain ⟨I', ρ', _, h2⟩ := hs.1 X I ρ a w hX h1
  exact h.1 X I' ρ' a w hX hR h2
theorem less_mid {N D : Int} {s t : Int × Int} (hN : 0 ≤ N ∧ N ≤ 1099511627775) (hD : 1 ≤ D ∧ D ≤ 4294967295) (hND : N * D ≤ 9223372036854775807) (hs : Mid N D s) (ht : Mid N D t) : PCalls Try.prog 49 [sqV s, sqV t] (· = vb (decide (s.1 * t.2 < t.1 * s.2))) := by
  unfold Mid at hs ht
  have h1 := Int.mul_le_mul hs.1.2 ht.2.2 ht.2.1 hN.1
  have h2 := Int.mul_le_mul ht.1.2 hs.2.2 hs.2.1 hN.1
  exact less_p s t (by omega) (by omega) (by omega) (by omega) (by omega) (by omega)
set_option maxRecDepth 20000 in
set_option maxHeartbeats 8000000 in
theorem far_p (p q : List Spt) (N D : Int) (h : FarOk p q N D) (hN1 : 1 ≤ N) : PCalls Try.prog 32 [encSpts p, encSpts q] (· = sqV (dfarF p q)) := by
  have hsp := Im.segs_iter p h.lp.1 h.lp.2
  have hsq := Im.segs_iter q h.lq.1 h.lq.2
  have hND := h.hND
  have hNN := h.hN
  have hDD := h.hD
  refine pcalls_of_aw Try.func32 rfl (Nat.le_of_ble_eq_true rfl) ?_
  (repeat' (first | (refine ar_isq ?_; first | refine zmv ?_ | (refine is_load ?_; first | refine zlp ?_ | refine zlr ?_) | (refine is_binOp ?_; first | refine zlss ?_ | refine zeql ?_ | refine zadd ?_) | (refine is_fieldAddr ?_; first | refine zfp ?_ | refine zfr ?_) | (refine is_pick ?_; first | refine zpt ?_ | refine zpf ?_) | (refine ar_buildS (ds := ?ds) (by exact ty rfl) (by exact rfl) (by exact sizes rfl) (by exact rfl) (by exact rfl) (by exact build rfl) (by exact dc rfl) ?hn ?h; (case hn => (dsimp only [cells_s, cells_emp, cells_agg, cells_list, cells_sl, cells_ptr, cells_ref, cells_fn, cells_vi, cells_vb, cells_vnil, constV, List.map_cons, List.map_nil, List.take_succ_cons, List.take_zero, List.drop_succ_cons, List.drop_zero, List.cons_append, List.nil_append, List.append_nil, LV_cells]; exact rfl))) | refine zix ?_) | (refine ar_pcall (own := false) fn50 rfl rfl (.cons (.closed rfl) .nil) (segs_p p) (by simp) (dc rfl) ?_; intro _ hv; subst hv) | ((refine ar_buildT ?_ (by exact ty rfl) (by exact rfl) (by exact sizes rfl) (by exact rfl) (by exact rfl) (by exact build rfl) (by exact dc rfl); intro _ hds; (try dsimp only [List.toList_toArray, cells_s, cells_emp, cells_agg, cells_list, cells_sl, cells_ptr, cells_ref, cells_fn, cells_vi, cells_vb, cells_vnil, constV, List.map_cons, List.map_nil, List.take_succ_cons, List.take_zero, List.drop_succ_cons, List.drop_zero, List.cons_append, List.nil_append, List.append_nil, LV_cells] at hds); (try dsimp only [cells_s, cells_emp, cells_agg, cells_list, cells_sl, cells_ptr, cells_ref, cells_fn, cells_vi, cells_vb, cells_vnil, constV, List.map_cons, List.map_nil, List.take_succ_cons, List.take_zero, List.drop_succ_cons, List.drop_zero, List.cons_append, List.nil_append, List.append_nil, LV_cells] at hds); subst hds)) | (refine zbx ?_) | (refine zal ?_) | (refine zsvs ?_) | (refine zsva ?_) | (refine zses ?_) | (refine zsea ?_) | (refine zg ?_ ?_ <;> intro hg <;> first | exact absurd hg (by decide) | ((try replace hg := HG.out hg); (try dsimp only at hg); (try (have _h : True := hg; clear _h hg)); first | (exfalso; omega) | skip)) | (refine zgu ?_) | (refine ar_nil ?_) | (refine aw_seq ?_) | (refine aw_skip ?_) | (refine aw_block ?_) | (refine aw_exit ?_) | (refine aw_region ?_) | (refine aw_drawn (id := 11) [(0, 0), (1, 0), (2, 0), (4, 0), (5, 0), (6, 0), (8, 0), (9, 0), (10, 0), (12, 0), (13, 0), (14, 0), (17, 0), (3, 1), (7, 1), (11, 1), (15, 1), (16, 0)] mixed (by kernel_rfl) ?_) | (refine zco ?_ ?_ <;> intro hg <;> first | exact absurd hg (by decide) | ((try replace hg := HG.out hg); (try dsimp only at hg); (try (have _h : True := hg; clear _h hg)); first | (exfalso; omega) | skip))))
  (refine aw_mono_r (env' := [(3, .ptr 1 0 0 0), (4, .ptr 2 1 0 0), (5, .ptr 2 2 0 0), (6, .ptr 1 3 0 0), (15, .fn (.func 71) [] [.ref (encSpts p) 0])]) (H' := [.arr 1 1 (fun _ => encSpts q), .arr 2 1 (fun _ => sqV (0, 0)), .arr 2 1 (fun _ => sqV (1, 0)), .arr 1 1 (fun _ => lessV)]) ?_ ?_; (focus ((refine sub_to [some 0, some 1, some 2, some 3] [] rfl ?_ ?_ <;> (repeat' (first | exact trivial | refine ⟨⟨_, rfl, ?_⟩, ?_⟩ | refine ⟨bsub_snoc rfl rfl (fun _ => rfl) ?_, ?_⟩ | refine ⟨bsub_one rfl rfl ?_, ?_⟩ | refine ⟨bsub_all rfl rfl (fun _ _ => rfl) (fun _ => rfl), ?_⟩ | refine ⟨bsub_updL rfl rfl ?_ (fun _ _ _ => rfl) (fun _ => rfl), ?_⟩ | refine ⟨.inl ⟨_, _, rfl, rfl, ?_⟩, ?_⟩ | exact ⟨.inr ⟨rfl, rfl⟩, trivial⟩ | refine ⟨.inr ⟨rfl, rfl⟩, ?_⟩ | (intro _ _) | exact vz1 | exact vz2 | fail))); done)))
  refine aw_rangeXN (N := segN p) (el := segEl p) (fun k => [.arr 1 1 (fun _ => encSpts q), .arr 2 1 (fun _ => sqV (0, 0)), .arr 2 1 (fun _ => sqV (dfarI p q k)), .arr 1 1 (fun _ => lessV)]) rfl rfl fn71 hsp (fun _ _ => rfl) (by decide) (fun k => nomaps_of rfl) ?start ?round ?done
  case start => (refine sub_to [some 0, some 1, some 2, some 3] [] rfl ?_ ?_ <;> (repeat' (first | exact trivial | refine ⟨⟨_, rfl, ?_⟩, ?_⟩ | refine ⟨bsub_snoc rfl rfl (fun _ => rfl) ?_, ?_⟩ | refine ⟨bsub_one rfl rfl ?_, ?_⟩ | refine ⟨bsub_all rfl rfl (fun _ _ => rfl) (fun _ => rfl), ?_⟩ | refine ⟨bsub_updL rfl rfl ?_ (fun _ _ _ => rfl) (fun _ => rfl), ?_⟩ | refine ⟨.inl ⟨_, _, rfl, rfl, ?_⟩, ?_⟩ | exact ⟨.inr ⟨rfl, rfl⟩, trivial⟩ | refine ⟨.inr ⟨rfl, rfl⟩, ?_⟩ | (intro _ _) | exact vz1 | exact vz2 | fail)))
  case done =>
    refine (show AW Try.prog none 0 _ _ _ _ _ from ?_)
    (repeat' (first | (refine ar_isq ?_; first | refine zmv ?_ | (refine is_load ?_; first | refine zlp ?_ | refine zlr ?_) | (refine is_binOp ?_; first | refine zlss ?_ | refine zeql ?_ | refine zadd ?_) | (refine is_fieldAddr ?_; first | refine zfp ?_ | refine zfr ?_) | (refine is_pick ?_; first | refine zpt ?_ | refine zpf ?_) | (refine ar_buildS (ds := ?ds) (by exact ty rfl) (by exact rfl) (by exact sizes rfl) (by exact rfl) (by exact rfl) (by exact build rfl) (by exact dc rfl) ?hn ?h; (case hn => (dsimp only [cells_s, cells_emp, cells_agg, cells_list, cells_sl, cells_ptr, cells_ref, cells_fn, cells_vi, cells_vb, cells_vnil, constV, List.map_cons, List.map_nil, List.take_succ_cons, List.take_zero, List.drop_succ_cons, List.drop_zero, List.cons_append, List.nil_append, List.append_nil, LV_cells]; exact rfl))) | refine zix ?_) | (refine zbx ?_) | (refine zal ?_) | (refine zsvs ?_) | (refine zsva ?_) | (refine zses ?_) | (refine zsea ?_) | (refine zg ?_ ?_ <;> intro hg <;> first | exact absurd hg (by decide) | ((try replace hg := HG.out hg); (try dsimp only at hg); (try (have _h : True := hg; clear _h hg)); first | (exfalso; omega) | skip)) | (refine zgu ?_) | (refine ar_nil ?_) | (refine aw_seq ?_) | (refine aw_skip ?_) | (refine aw_block ?_) | (refine aw_exit ?_) | (refine aw_region ?_) | (refine aw_drawn (id := 11) [(0, 0), (1, 0), (2, 0), (4, 0), (5, 0), (6, 0), (8, 0), (9, 0), (10, 0), (12, 0), (13, 0), (14, 0), (17, 0), (3, 1), (7, 1), (11, 1), (15, 1), (16, 0)] mixed (by kernel_rfl) ?_) | (refine zco ?_ ?_ <;> intro hg <;> first | exact absurd hg (by decide) | ((try replace hg := HG.out hg); (try dsimp only at hg); (try (have _h : True := hg; clear _h hg)); first | (exfalso; omega) | skip))))
    refine (show AW Try.prog none 0 _ _ _ _ _ from ?_)
    (refine aw_mono_r (env' := [(4, .ptr 2 0 0 0)]) (H' := [.arr 2 1 (fun _ => sqV (dfarF p q))]) ?_ ?_; (focus ((refine sub_to [some 1] [] rfl ?_ ?_ <;> (repeat' (first | exact trivial | refine ⟨⟨_, rfl, ?_⟩, ?_⟩ | refine ⟨bsub_snoc rfl rfl (fun _ => rfl) ?_, ?_⟩ | refine ⟨bsub_one rfl rfl ?_, ?_⟩ | refine ⟨bsub_all rfl rfl (fun _ _ => rfl) (fun _ => rfl), ?_⟩ | refine ⟨bsub_updL rfl rfl ?_ (fun _ _ _ => rfl) (fun _ => rfl), ?_⟩ | refine ⟨.inl ⟨_, _, rfl, rfl, ?_⟩, ?_⟩ | exact ⟨.inr ⟨rfl, rfl⟩, trivial⟩ | refine ⟨.inr ⟨rfl, rfl⟩, ?_⟩ | (intro _ _) | exact vz1 | exact vz2 | fail))); done)))
    refine aw_ret ?_; (repeat (first | refine ret_then ?_ | refine ret_block ?_)); exact bq1c (f := fun _ => sqV (dfarF p q)) (v := sqV (dfarF p q)) (ty rfl) rfl rfl Nat.one_pos rfl ⟨rfl, rfl⟩
  case round =>
    intro k lp hk
    obtain ⟨sa, sb⟩ := h.sp k hk
    have hm0 := mid_farI (p := p) (q := q) (N := N) (D := D) (show Mid N D (1, 0) by unfold Mid; omega) k fun i j hi hj => h.low i j (by omega) hj
    refine aw_mono_r (sub_unflat (t := 16) (s := segA p k) rfl) ?_
    refine aw_mono_r (sub_unflat (t := 17) (s := segB p k) rfl) ?_
    (repeat' (first | (refine ar_isq ?_; first | refine zmv ?_ | (refine is_load ?_; first | refine zlp ?_ | refine zlr ?_) | (refine is_binOp ?_; first | refine zlss ?_ | refine zeql ?_ | refine zadd ?_) | (refine is_fieldAddr ?_; first | refine zfp ?_ | refine zfr ?_) | (refine is_pick ?_; first | refine zpt ?_ | refine zpf ?_) | (refine ar_buildS (ds := ?ds) (by exact ty rfl) (by exact rfl) (by exact sizes rfl) (by exact rfl) (by exact rfl) (by exact build rfl) (by exact dc rfl) ?hn ?h; (case hn => (dsimp only [cells_s, cells_emp, cells_agg, cells_list, cells_sl, cells_ptr, cells_ref, cells_fn, cells_vi, cells_vb, cells_vnil, constV, List.map_cons, List.map_nil, List.take_succ_cons, List.take_zero, List.drop_succ_cons, List.drop_zero, List.cons_append, List.nil_append, List.append_nil, LV_cells]; exact rfl))) | refine zix ?_) | (refine zbx ?_) | (refine zal ?_) | (refine zsvs ?_) | (refine zsva ?_) | (refine zses ?_) | (refine zsea ?_) | (refine zg ?_ ?_ <;> intro hg <;> first | exact absurd hg (by decide) | ((try replace hg := HG.out hg); (try dsimp only at hg); (try (have _h : True := hg; clear _h hg)); first | (exfalso; omega) | skip)) | (refine zgu ?_) | (refine ar_nil ?_) | (refine aw_seq ?_) | (refine aw_skip ?_) | (refine aw_block ?_) | (refine aw_exit ?_) | (refine aw_region ?_) | (refine aw_drawn (id := 11) [(0, 0), (1, 0), (2, 0), (4, 0), (5, 0), (6, 0), (8, 0), (9, 0), (10, 0), (12, 0), (13, 0), (14, 0), (17, 0), (3, 1), (7, 1), (11, 1), (15, 1), (16, 0)] mixed (by kernel_rfl) ?_) | (refine zco ?_ ?_ <;> intro hg <;> first | exact absurd hg (by decide) | ((try replace hg := HG.out hg); (try dsimp only at hg); (try (have _h : True := hg; clear _h hg)); first | (exfalso; omega) | skip))))
    refine ⟨nomaps_of rfl, ?_⟩
    refine awn_sub (env' := [(3, .ptr 1 0 0 0), (4, .ptr 2 1 0 0), (5, .ptr 2 2 0 0), (6, .ptr 1 3 0 0), (7, .ptr 2 4 0 0), (8, .ptr 2 5 0 0)]) (H' := [.arr 1 1 (fun _ => encSpts q), .arr 2 1 (fun _ => sqV (0, 0)), .arr 2 1 (fun _ => sqV (dfarI p q k)), .arr 1 1 (fun _ => lessV), .arr 2 1 (fun _ => (segA p k).enc), .arr 2 1 (fun _ => (segB p k).enc)]) ?_ ?_
    · (refine sub_to [some 0, some 1, some 2, some 3, some 4, some 5] [] rfl ?_ ?_ <;> (repeat' (first | exact trivial | refine ⟨⟨_, rfl, ?_⟩, ?_⟩ | refine ⟨bsub_snoc rfl rfl (fun _ => rfl) ?_, ?_⟩ | refine ⟨bsub_one rfl rfl ?_, ?_⟩ | refine ⟨bsub_all rfl rfl (fun _ _ => rfl) (fun _ => rfl), ?_⟩ | refine ⟨bsub_updL rfl rfl ?_ (fun _ _ _ => rfl) (fun _ => rfl), ?_⟩ | refine ⟨.inl ⟨_, _, rfl, rfl, ?_⟩, ?_⟩ | exact ⟨.inr ⟨rfl, rfl⟩, trivial⟩ | refine ⟨.inr ⟨rfl, rfl⟩, ?_⟩ | (intro _ _) | exact vz1 | exact vz2 | fail)))
    refine awn_block ?_
    refine awn_seq ?_
    (repeat' (first | (refine ar_isq ?_; first | refine zmv ?_ | (refine is_load ?_; first | refine zlp ?_ | refine zlr ?_) | (refine is_binOp ?_; first | refine zlss ?_ | refine zeql ?_ | refine zadd ?_) | (refine is_fieldAddr ?_; first | refine zfp ?_ | refine zfr ?_) | (refine is_pick ?_; first | refine zpt ?_ | refine zpf ?_) | (refine ar_buildS (ds := ?ds) (by exact ty rfl) (by exact rfl) (by exact sizes rfl) (by exact rfl) (by exact rfl) (by exact build rfl) (by exact dc rfl) ?hn ?h; (case hn => (dsimp only [cells_s, cells_emp, cells_agg, cells_list, cells_sl, cells_ptr, cells_ref, cells_fn, cells_vi, cells_vb, cells_vnil, constV, List.map_cons, List.map_nil, List.take_succ_cons, List.take_zero, List.drop_succ_cons, List.drop_zero, List.cons_append, List.nil_append, List.append_nil, LV_cells]; exact rfl))) | refine zix ?_) | (refine ar_pcall (own := false) fn50 rfl rfl (.cons (.closed rfl) .nil) (segs_p q) (by simp) (dc rfl) ?_; intro _ hv; subst hv) | (refine zbx ?_) | (refine zal ?_) | (refine zsvs ?_) | (refine zsva ?_) | (refine zses ?_) | (refine zsea ?_) | (refine zg ?_ ?_ <;> intro hg <;> first | exact absurd hg (by decide) | ((try replace hg := HG.out hg); (try dsimp only at hg); (try (have _h : True := hg; clear _h hg)); first | (exfalso; omega) | skip)) | (refine zgu ?_) | (refine ar_nil ?_) | (refine aw_seq ?_) | (refine aw_skip ?_) | (refine aw_block ?_) | (refine aw_exit ?_) | (refine aw_region ?_) | (refine aw_drawn (id := 11) [(0, 0), (1, 0), (2, 0), (4, 0), (5, 0), (6, 0), (8, 0), (9, 0), (10, 0), (12, 0), (13, 0), (14, 0), (17, 0), (3, 1), (7, 1), (11, 1), (15, 1), (16, 0)] mixed (by kernel_rfl) ?_) | (refine zco ?_ ?_ <;> intro hg <;> first | exact absurd hg (by decide) | ((try replace hg := HG.out hg); (try dsimp only at hg); (try (have _h : True := hg; clear _h hg)); first | (exfalso; omega) | skip))))
    refine awn_sub (env' := [(3, .ptr 1 0 0 0), (4, .ptr 2 1 0 0), (5, .ptr 2 2 0 0), (6, .ptr 1 3 0 0), (7, .ptr 2 4 0 0), (8, .ptr 2 5 0 0), (19, .fn (.func 71) [] [.ref (encSpts q) 0])]) (H' := [.arr 1 1 (fun _ => encSpts q), .arr 2 1 (fun _ => sqV (0, 0)), .arr 2 1 (fun _ => sqV (dfarI p q k)), .arr 1 1 (fun _ => lessV), .arr 2 1 (fun _ => (segA p k).enc), .arr 2 1 (fun _ => (segB p k).enc)]) ?_ ?_
    · (refine sub_to [some 0, some 1, some 2, some 3, some 4, some 5] [] rfl ?_ ?_ <;> (repeat' (first | exact trivial | refine ⟨⟨_, rfl, ?_⟩, ?_⟩ | refine ⟨bsub_snoc rfl rfl (fun _ => rfl) ?_, ?_⟩ | refine ⟨bsub_one rfl rfl ?_, ?_⟩ | refine ⟨bsub_all rfl rfl (fun _ _ => rfl) (fun _ => rfl), ?_⟩ | refine ⟨bsub_updL rfl rfl ?_ (fun _ _ _ => rfl) (fun _ => rfl), ?_⟩ | refine ⟨.inl ⟨_, _, rfl, rfl, ?_⟩, ?_⟩ | exact ⟨.inr ⟨rfl, rfl⟩, trivial⟩ | refine ⟨.inr ⟨rfl, rfl⟩, ?_⟩ | (intro _ _) | exact vz1 | exact vz2 | fail)))
    refine awn_block ?_
    refine awn_range (N := segN q) (el := segEl q) (fun j => [.arr 1 1 (fun _ => encSpts q), .arr 2 1 (fun _ => sqV (0, 0)), .arr 2 1 (fun _ => sqV (dfarJ q (segA p k) (segB p k) (dfarI p q k) j)), .arr 1 1 (fun _ => lessV), .arr 2 1 (fun _ => (segA p k).enc), .arr 2 1 (fun _ => (segB p k).enc)]) rfl rfl fn71 hsq (fun _ _ => rfl) (by decide) (fun k => nomaps_of rfl) ?start ?round ?done
    case start => (refine sub_to [some 0, some 1, some 2, some 3, some 4, some 5] [] rfl ?_ ?_ <;> (repeat' (first | exact trivial | refine ⟨⟨_, rfl, ?_⟩, ?_⟩ | refine ⟨bsub_snoc rfl rfl (fun _ => rfl) ?_, ?_⟩ | refine ⟨bsub_one rfl rfl ?_, ?_⟩ | refine ⟨bsub_all rfl rfl (fun _ _ => rfl) (fun _ => rfl), ?_⟩ | refine ⟨bsub_updL rfl rfl ?_ (fun _ _ _ => rfl) (fun _ => rfl), ?_⟩ | refine ⟨.inl ⟨_, _, rfl, rfl, ?_⟩, ?_⟩ | exact ⟨.inr ⟨rfl, rfl⟩, trivial⟩ | refine ⟨.inr ⟨rfl, rfl⟩, ?_⟩ | (intro _ _) | exact vz1 | exact vz2 | fail)))
    case done =>
      refine (show SubOf _ _ _ _ _ _ from ?_)
      (refine sub_to [some 0, some 1, some 2, some 3] [] rfl ?_ ?_ <;> (repeat' (first | exact trivial | refine ⟨⟨_, rfl, ?_⟩, ?_⟩ | refine ⟨bsub_snoc rfl rfl (fun _ => rfl) ?_, ?_⟩ | refine ⟨bsub_one rfl rfl ?_, ?_⟩ | refine ⟨bsub_all rfl rfl (fun _ _ => rfl) (fun _ => rfl), ?_⟩ | refine ⟨bsub_updL rfl rfl ?_ (fun _ _ _ => rfl) (fun _ => rfl), ?_⟩ | refine ⟨.inl ⟨_, _, rfl, rfl, ?_⟩, ?_⟩ | exact ⟨.inr ⟨rfl, rfl⟩, trivial⟩ | refine ⟨.inr ⟨rfl, rfl⟩, ?_⟩ | (intro _ _) | exact vz1 | exact vz2 | fail)))
    case round =>
      intro j lp2 hj
      obtain ⟨sc, sd⟩ := h.sq j hj
      have hcr := h.cross k j hk hj
      have hlo := h.low k j hk hj
      have hmJ := mid_farJ (a := segA p k) (b := segB p k) (q := q) hm0 j fun j' hj' => h.low k j' hk (by omega)
      refine aw_mono_r (sub_unflat (t := 20) (s := segA q j) rfl) ?_
      refine aw_mono_r (sub_unflat (t := 21) (s := segB q j) rfl) ?_
      (repeat' (first | (refine ar_isq ?_; first | refine zmv ?_ | (refine is_load ?_; first | refine zlp ?_ | refine zlr ?_) | (refine is_binOp ?_; first | refine zlss ?_ | refine zeql ?_ | refine zadd ?_) | (refine is_fieldAddr ?_; first | refine zfp ?_ | refine zfr ?_) | (refine is_pick ?_; first | refine zpt ?_ | refine zpf ?_) | (refine ar_buildS (ds := ?ds) (by exact ty rfl) (by exact rfl) (by exact sizes rfl) (by exact rfl) (by exact rfl) (by exact build rfl) (by exact dc rfl) ?hn ?h; (case hn => (dsimp only [cells_s, cells_emp, cells_agg, cells_list, cells_sl, cells_ptr, cells_ref, cells_fn, cells_vi, cells_vb, cells_vnil, constV, List.map_cons, List.map_nil, List.take_succ_cons, List.take_zero, List.drop_succ_cons, List.drop_zero, List.cons_append, List.nil_append, List.append_nil, LV_cells]; exact rfl))) | refine zix ?_) | (refine zbx ?_) | (refine zal ?_) | (refine zsvs ?_) | (refine zsva ?_) | (refine zses ?_) | (refine zsea ?_) | (refine zg ?_ ?_ <;> intro hg <;> first | exact absurd hg (by decide) | ((try replace hg := HG.out hg); (try dsimp only at hg); (try (have _h : True := hg; clear _h hg)); first | (exfalso; omega) | skip)) | (refine zgu ?_) | (refine ar_nil ?_) | (refine aw_seq ?_) | (refine aw_skip ?_) | (refine aw_block ?_) | (refine aw_exit ?_) | (refine aw_region ?_) | (refine aw_drawn (id := 11) [(0, 0), (1, 0), (2, 0), (4, 0), (5, 0), (6, 0), (8, 0), (9, 0), (10, 0), (12, 0), (13, 0), (14, 0), (17, 0), (3, 1), (7, 1), (11, 1), (15, 1), (16, 0)] mixed (by kernel_rfl) ?_) | (refine zco ?_ ?_ <;> intro hg <;> first | exact absurd hg (by decide) | ((try replace hg := HG.out hg); (try dsimp only at hg); (try (have _h : True := hg; clear _h hg)); first | (exfalso; omega) | skip))))
      refine ⟨nomaps_of rfl, ?_⟩
      refine awn_of ?_
      (refine aw_mono_r (env' := [(3, .ptr 1 0 0 0), (4, .ptr 2 1 0 0), (5, .ptr 2 2 0 0), (6, .ptr 1 3 0 0), (7, .ptr 2 4 0 0), (8, .ptr 2 5 0 0), (9, .ptr 2 6 0 0), (10, .ptr 2 7 0 0)]) (H' := [.arr 1 1 (fun _ => encSpts q), .arr 2 1 (fun _ => sqV (0, 0)), .arr 2 1 (fun _ => sqV (dfarJ q (segA p k) (segB p k) (dfarI p q k) j)), .arr 1 1 (fun _ => lessV), .arr 2 1 (fun _ => (segA p k).enc), .arr 2 1 (fun _ => (segB p k).enc), .arr 2 1 (fun _ => (segA q j).enc), .arr 2 1 (fun _ => (segB q j).enc)]) ?_ ?_; (focus ((refine sub_to [some 0, some 1, some 2, some 3, some 4, some 5, some 6, some 7] [] rfl ?_ ?_ <;> (repeat' (first | exact trivial | refine ⟨⟨_, rfl, ?_⟩, ?_⟩ | refine ⟨bsub_snoc rfl rfl (fun _ => rfl) ?_, ?_⟩ | refine ⟨bsub_one rfl rfl ?_, ?_⟩ | refine ⟨bsub_all rfl rfl (fun _ _ => rfl) (fun _ => rfl), ?_⟩ | refine ⟨bsub_updL rfl rfl ?_ (fun _ _ _ => rfl) (fun _ => rfl), ?_⟩ | refine ⟨.inl ⟨_, _, rfl, rfl, ?_⟩, ?_⟩ | exact ⟨.inr ⟨rfl, rfl⟩, trivial⟩ | refine ⟨.inr ⟨rfl, rfl⟩, ?_⟩ | (intro _ _) | exact vz1 | exact vz2 | fail))); done)))
      have ap1 := apart_p (segA p k) (segB p k) (segA q j) (segB q j) sa sb sc sd
      have ap2 := apart_p (segA q j) (segB q j) (segA p k) (segB p k) sc sd sa sb
      have s1 := spot_p (segA p k) (segA q j) (segB q j) sa sc sd
      have s2 := spot_p (segB p k) (segA q j) (segB q j) sb sc sd
      have s3 := spot_p (segA q j) (segA p k) (segB p k) sc sa sb
      have s4 := spot_p (segB q j) (segA p k) (segB p k) sd sa sb
      apply shareW
      · intro key
        (repeat' (first | (refine ar_isq ?_; first | refine zmv ?_ | (refine is_load ?_; first | refine zlp ?_ | refine zlr ?_) | (refine is_binOp ?_; first | refine zlss ?_ | refine zeql ?_ | refine zadd ?_) | (refine is_fieldAddr ?_; first | refine zfp ?_ | refine zfr ?_) | (refine is_pick ?_; first | refine zpt ?_ | refine zpf ?_) | (refine ar_buildS (ds := ?ds) (by exact ty rfl) (by exact rfl) (by exact sizes rfl) (by exact rfl) (by exact rfl) (by exact build rfl) (by exact dc rfl) ?hn ?h; (case hn => (dsimp only [cells_s, cells_emp, cells_agg, cells_list, cells_sl, cells_ptr, cells_ref, cells_fn, cells_vi, cells_vb, cells_vnil, constV, List.map_cons, List.map_nil, List.take_succ_cons, List.take_zero, List.drop_succ_cons, List.drop_zero, List.cons_append, List.nil_append, List.append_nil, LV_cells]; exact rfl))) | refine zix ?_) | ((refine ar_buildT ?_ (by exact ty rfl) (by exact rfl) (by exact sizes rfl) (by exact rfl) (by exact rfl) (by exact build rfl) (by exact dc rfl); intro _ hds; (try dsimp only [List.toList_toArray, cells_s, cells_emp, cells_agg, cells_list, cells_sl, cells_ptr, cells_ref, cells_fn, cells_vi, cells_vb, cells_vnil, constV, List.map_cons, List.map_nil, List.take_succ_cons, List.take_zero, List.drop_succ_cons, List.drop_zero, List.cons_append, List.nil_append, List.append_nil, LV_cells] at hds); (try dsimp only [cells_s, cells_emp, cells_agg, cells_list, cells_sl, cells_ptr, cells_ref, cells_fn, cells_vi, cells_vb, cells_vnil, constV, List.map_cons, List.map_nil, List.take_succ_cons, List.take_zero, List.drop_succ_cons, List.drop_zero, List.cons_append, List.nil_append, List.append_nil, LV_cells] at hds); subst hds)) | (refine ar_pcall (own := false) fn51 rfl rfl (.cons (.closed rfl) (.cons (.closed rfl) (.cons (.closed rfl) (.cons (.closed rfl) .nil)))) (ap1) (by simp) (dc rfl) ?_; intro _ hv; subst hv) | (refine ar_pcall (own := false) fn51 rfl rfl (.cons (.closed rfl) (.cons (.closed rfl) (.cons (.closed rfl) (.cons (.closed rfl) .nil)))) (ap2) (by simp) (dc rfl) ?_; intro _ hv; subst hv) | (refine ar_pcall (own := false) fn52 rfl rfl (.cons (.closed rfl) (.cons (.closed rfl) (.cons (.closed rfl) .nil))) (s1) (by simp) (dc rfl) ?_; intro _ hv; subst hv) | (refine ar_pcall (own := false) fn52 rfl rfl (.cons (.closed rfl) (.cons (.closed rfl) (.cons (.closed rfl) .nil))) (s2) (by simp) (dc rfl) ?_; intro _ hv; subst hv) | (refine ar_pcall (own := false) fn52 rfl rfl (.cons (.closed rfl) (.cons (.closed rfl) (.cons (.closed rfl) .nil))) (s3) (by simp) (dc rfl) ?_; intro _ hv; subst hv) | (refine ar_pcall (own := false) fn52 rfl rfl (.cons (.closed rfl) (.cons (.closed rfl) (.cons (.closed rfl) .nil))) (s4) (by simp) (dc rfl) ?_; intro _ hv; subst hv) | (refine aw_drawn (id := 11) [(0, 0), (1, 0), (2, 0), (4, 0), (5, 0), (6, 0), (8, 0), (9, 0), (10, 0), (12, 0), (13, 0), (14, 0), (17, 0), (3, 1), (7, 1), (11, 1), (15, 1), (16, 0)] mixed (by kernel_rfl) ?_) | (refine ar_q (qs_build_arr (vs := [(0, sqV (spotF (segA p k) (segA q j) (segB q j))), (1, sqV (spotF (segB p k) (segA q j) (segB q j))), (2, sqV (spotF (segA q j) (segA p k) (segB p k))), (3, sqV (spotF (segB q j) (segA p k) (segB p k)))]) (ty rfl) rfl (ty rfl) rfl rfl (build rfl)) (dc rfl) ?_) | (refine zbx ?_) | (refine zal ?_) | (refine zsvs ?_) | (refine zsva ?_) | (refine zses ?_) | (refine zsea ?_) | (refine zg ?_ ?_ <;> intro hg <;> first | exact absurd hg (by decide) | ((try replace hg := HG.out hg); (try dsimp only at hg); (try (have _h : True := hg; clear _h hg)); first | (exfalso; omega) | skip)) | (refine zgu ?_) | (refine ar_nil ?_) | (refine aw_seq ?_) | (refine aw_skip ?_) | (refine aw_block ?_) | (refine aw_exit ?_) | (refine aw_region ?_) | (refine aw_drawn (id := 11) [(0, 0), (1, 0), (2, 0), (4, 0), (5, 0), (6, 0), (8, 0), (9, 0), (10, 0), (12, 0), (13, 0), (14, 0), (17, 0), (3, 1), (7, 1), (11, 1), (15, 1), (16, 0)] mixed (by kernel_rfl) ?_) | (refine zco ?_ ?_ <;> intro hg <;> first | exact absurd hg (by decide) | ((try replace hg := HG.out hg); (try dsimp only at hg); (try (have _h : True := hg; clear _h hg)); first | (exfalso; omega) | skip))))
        all_goals first
          | (exfalso; simp_all; done)
          | ((refine aw_mono_r (env' := [(3, .ptr 1 0 0 0), (4, .ptr 2 1 0 0), (5, .ptr 2 2 0 0), (6, .ptr 1 3 0 0), (51, .agg [vi (spotF (segA p k) (segA q j) (segB q j)).1, vi (spotF (segA p k) (segA q j) (segB q j)).2, vi (spotF (segB p k) (segA q j) (segB q j)).1, vi (spotF (segB p k) (segA q j) (segB q j)).2, vi (spotF (segA q j) (segA p k) (segB p k)).1, vi (spotF (segA q j) (segA p k) (segB p k)).2, vi (spotF (segB q j) (segA p k) (segB p k)).1, vi (spotF (segB q j) (segA p k) (segB p k)).2]), (52, vi 0)]) (H' := [.arr 1 1 (fun _ => encSpts q), .arr 2 1 (fun _ => sqV (0, 0)), .arr 2 1 (fun _ => sqV (dfarJ q (segA p k) (segB p k) (dfarI p q k) j)), .arr 1 1 (fun _ => lessV), .arr 2 1 (fun _ => (segA p k).enc), .arr 2 1 (fun _ => (segB p k).enc)]) ?_ ?_; (focus ((refine sub_to [some 0, some 1, some 2, some 3, some 4, some 5] [] rfl ?_ ?_ <;> (repeat' (first | exact trivial | refine ⟨⟨_, rfl, ?_⟩, ?_⟩ | refine ⟨bsub_snoc rfl rfl (fun _ => rfl) ?_, ?_⟩ | refine ⟨bsub_one rfl rfl ?_, ?_⟩ | refine ⟨bsub_all rfl rfl (fun _ _ => rfl) (fun _ => rfl), ?_⟩ | refine ⟨bsub_updL rfl rfl ?_ (fun _ _ _ => rfl) (fun _ => rfl), ?_⟩ | refine ⟨.inl ⟨_, _, rfl, rfl, ?_⟩, ?_⟩ | exact ⟨.inr ⟨rfl, rfl⟩, trivial⟩ | refine ⟨.inr ⟨rfl, rfl⟩, ?_⟩ | (intro _ _) | exact vz1 | exact vz2 | fail))); done))); exact key.fits)
          | trace_state
      · refine (show AW Try.prog (some lp2) _ _ _ _ _ _ from ?_)
        refine aw_for 4 (fun _ => True) (fun n => [(3, .ptr 1 0 0 0), (4, .ptr 2 1 0 0), (5, .ptr 2 2 0 0), (6, .ptr 1 3 0 0), (51, .agg [vi (spotF (segA p k) (segA q j) (segB q j)).1, vi (spotF (segA p k) (segA q j) (segB q j)).2, vi (spotF (segB p k) (segA q j) (segB q j)).1, vi (spotF (segB p k) (segA q j) (segB q j)).2, vi (spotF (segA q j) (segA p k) (segB p k)).1, vi (spotF (segA q j) (segA p k) (segB p k)).2, vi (spotF (segB q j) (segA p k) (segB p k)).1, vi (spotF (segB q j) (segA p k) (segB p k)).2]), (52, vi n)]) (fun n => [.arr 1 1 (fun _ => encSpts q), .arr 2 1 (fun _ => sqV (0, 0)), .arr 2 1 (fun _ => sqV (takeK (dfarJ q (segA p k) (segB p k) (dfarI p q k) j) (segA p k) (segB p k) (segA q j) (segB q j) n)), .arr 1 1 (fun _ => lessV), .arr 2 1 (fun _ => (segA p k).enc), .arr 2 1 (fun _ => (segB p k).enc)]) trivial ?_ ?_
        · (refine sub_to [some 0, some 1, some 2, some 3, some 4, some 5] [] rfl ?_ ?_ <;> (repeat' (first | exact trivial | refine ⟨⟨_, rfl, ?_⟩, ?_⟩ | refine ⟨bsub_snoc rfl rfl (fun _ => rfl) ?_, ?_⟩ | refine ⟨bsub_one rfl rfl ?_, ?_⟩ | refine ⟨bsub_all rfl rfl (fun _ _ => rfl) (fun _ => rfl), ?_⟩ | refine ⟨bsub_updL rfl rfl ?_ (fun _ _ _ => rfl) (fun _ => rfl), ?_⟩ | refine ⟨.inl ⟨_, _, rfl, rfl, ?_⟩, ?_⟩ | exact ⟨.inr ⟨rfl, rfl⟩, trivial⟩ | refine ⟨.inr ⟨rfl, rfl⟩, ?_⟩ | (intro _ _) | exact vz1 | exact vz2 | fail)))
        intro n hn _
        have hl := less_mid hNN hDD hND (mid_cand hlo (k := n)) (mid_takeK hmJ hlo n)
        obtain rfl | rfl | rfl | rfl | rfl : n = 0 ∨ n = 1 ∨ n = 2 ∨ n = 3 ∨ n = 4 := by omega
        all_goals (repeat' (first | (refine ar_isq ?_; first | refine zmv ?_ | (refine is_load ?_; first | refine zlp ?_ | refine zlr ?_) | (refine is_binOp ?_; first | refine zlss ?_ | refine zeql ?_ | refine zadd ?_) | (refine is_fieldAddr ?_; first | refine zfp ?_ | refine zfr ?_) | (refine is_pick ?_; first | refine zpt ?_ | refine zpf ?_) | (refine ar_buildS (ds := ?ds) (by exact ty rfl) (by exact rfl) (by exact sizes rfl) (by exact rfl) (by exact rfl) (by exact build rfl) (by exact dc rfl) ?hn ?h; (case hn => (dsimp only [cells_s, cells_emp, cells_agg, cells_list, cells_sl, cells_ptr, cells_ref, cells_fn, cells_vi, cells_vb, cells_vnil, constV, List.map_cons, List.map_nil, List.take_succ_cons, List.take_zero, List.drop_succ_cons, List.drop_zero, List.cons_append, List.nil_append, List.append_nil, LV_cells]; exact rfl))) | refine zix ?_) | ((refine ar_buildT ?_ (by exact ty rfl) (by exact rfl) (by exact sizes rfl) (by exact rfl) (by exact rfl) (by exact build rfl) (by exact dc rfl); intro _ hds; (try dsimp only [List.toList_toArray, cells_s, cells_emp, cells_agg, cells_list, cells_sl, cells_ptr, cells_ref, cells_fn, cells_vi, cells_vb, cells_vnil, constV, List.map_cons, List.map_nil, List.take_succ_cons, List.take_zero, List.drop_succ_cons, List.drop_zero, List.cons_append, List.nil_append, List.append_nil, LV_cells] at hds); (try dsimp only [cells_s, cells_emp, cells_agg, cells_list, cells_sl, cells_ptr, cells_ref, cells_fn, cells_vi, cells_vb, cells_vnil, constV, List.map_cons, List.map_nil, List.take_succ_cons, List.take_zero, List.drop_succ_cons, List.drop_zero, List.cons_append, List.nil_append, List.append_nil, LV_cells] at hds); subst hds)) | ((refine ar_q (qs_index (j := 0) (ty rfl) rfl (ty rfl) rfl rfl rfl (by decide) rfl) (dc rfl) ?_)) | ((refine ar_q (qs_index (j := 1) (ty rfl) rfl (ty rfl) rfl rfl rfl (by decide) rfl) (dc rfl) ?_)) | ((refine ar_q (qs_index (j := 2) (ty rfl) rfl (ty rfl) rfl rfl rfl (by decide) rfl) (dc rfl) ?_)) | ((refine ar_q (qs_index (j := 3) (ty rfl) rfl (ty rfl) rfl rfl rfl (by decide) rfl) (dc rfl) ?_)) | (refine ar_pcall (own := false) fn49 rfl rfl (.cons (.closed rfl) (.cons (.closed rfl) .nil)) (hl) (by simp) (dc rfl) ?_; intro _ hv; subst hv) | (refine zbx ?_) | (refine zal ?_) | (refine zsvs ?_) | (refine zsva ?_) | (refine zses ?_) | (refine zsea ?_) | (refine zg ?_ ?_ <;> intro hg <;> first | exact absurd hg (by decide) | ((try replace hg := HG.out hg); (try dsimp only at hg); (try (have _h : True := hg; clear _h hg)); first | (exfalso; omega) | skip)) | (refine zgu ?_) | (refine ar_nil ?_) | (refine aw_seq ?_) | (refine aw_skip ?_) | (refine aw_block ?_) | (refine aw_exit ?_) | (refine aw_region ?_) | (refine aw_drawn (id := 11) [(0, 0), (1, 0), (2, 0), (4, 0), (5, 0), (6, 0), (8, 0), (9, 0), (10, 0), (12, 0), (13, 0), (14, 0), (17, 0), (3, 1), (7, 1), (11, 1), (15, 1), (16, 0)] mixed (by kernel_rfl) ?_) | (refine zco ?_ ?_ <;> intro hg <;> first | exact absurd hg (by decide) | ((try replace hg := HG.out hg); (try dsimp only at hg); (try (have _h : True := hg; clear _h hg)); first | (exfalso; omega) | skip))))
        all_goals first
          | (refine loop_next (by decide) trivial ?_
             rw [show takeK (dfarJ q (segA p k) (segB p k) (dfarI p q k) j) (segA p k) (segB p k) (segA q j) (segB q j) (0 + 1) = candK (segA p k) (segB p k) (segA q j) (segB q j) 0 from takeK_yes (by first | exact .inl (by assumption) | exact .inr (by assumption))]
             (refine sub_to [some 0, some 1, some 2, some 3, some 4, some 5] [] rfl ?_ ?_ <;> (repeat' (first | exact trivial | refine ⟨⟨_, rfl, ?_⟩, ?_⟩ | refine ⟨bsub_snoc rfl rfl (fun _ => rfl) ?_, ?_⟩ | refine ⟨bsub_one rfl rfl ?_, ?_⟩ | refine ⟨bsub_all rfl rfl (fun _ _ => rfl) (fun _ => rfl), ?_⟩ | refine ⟨bsub_updL rfl rfl ?_ (fun _ _ _ => rfl) (fun _ => rfl), ?_⟩ | refine ⟨.inl ⟨_, _, rfl, rfl, ?_⟩, ?_⟩ | exact ⟨.inr ⟨rfl, rfl⟩, trivial⟩ | refine ⟨.inr ⟨rfl, rfl⟩, ?_⟩ | (intro _ _) | exact vz1 | exact vz2 | fail))))
          | (refine loop_next (by decide) trivial ?_
             rw [show takeK (dfarJ q (segA p k) (segB p k) (dfarI p q k) j) (segA p k) (segB p k) (segA q j) (segB q j) (1 + 1) = candK (segA p k) (segB p k) (segA q j) (segB q j) 1 from takeK_yes (by first | exact .inl (by assumption) | exact .inr (by assumption))]
             (refine sub_to [some 0, some 1, some 2, some 3, some 4, some 5] [] rfl ?_ ?_ <;> (repeat' (first | exact trivial | refine ⟨⟨_, rfl, ?_⟩, ?_⟩ | refine ⟨bsub_snoc rfl rfl (fun _ => rfl) ?_, ?_⟩ | refine ⟨bsub_one rfl rfl ?_, ?_⟩ | refine ⟨bsub_all rfl rfl (fun _ _ => rfl) (fun _ => rfl), ?_⟩ | refine ⟨bsub_updL rfl rfl ?_ (fun _ _ _ => rfl) (fun _ => rfl), ?_⟩ | refine ⟨.inl ⟨_, _, rfl, rfl, ?_⟩, ?_⟩ | exact ⟨.inr ⟨rfl, rfl⟩, trivial⟩ | refine ⟨.inr ⟨rfl, rfl⟩, ?_⟩ | (intro _ _) | exact vz1 | exact vz2 | fail))))
          | (refine loop_next (by decide) trivial ?_
             rw [show takeK (dfarJ q (segA p k) (segB p k) (dfarI p q k) j) (segA p k) (segB p k) (segA q j) (segB q j) (2 + 1) = candK (segA p k) (segB p k) (segA q j) (segB q j) 2 from takeK_yes (by first | exact .inl (by assumption) | exact .inr (by assumption))]
             (refine sub_to [some 0, some 1, some 2, some 3, some 4, some 5] [] rfl ?_ ?_ <;> (repeat' (first | exact trivial | refine ⟨⟨_, rfl, ?_⟩, ?_⟩ | refine ⟨bsub_snoc rfl rfl (fun _ => rfl) ?_, ?_⟩ | refine ⟨bsub_one rfl rfl ?_, ?_⟩ | refine ⟨bsub_all rfl rfl (fun _ _ => rfl) (fun _ => rfl), ?_⟩ | refine ⟨bsub_updL rfl rfl ?_ (fun _ _ _ => rfl) (fun _ => rfl), ?_⟩ | refine ⟨.inl ⟨_, _, rfl, rfl, ?_⟩, ?_⟩ | exact ⟨.inr ⟨rfl, rfl⟩, trivial⟩ | refine ⟨.inr ⟨rfl, rfl⟩, ?_⟩ | (intro _ _) | exact vz1 | exact vz2 | fail))))
          | (refine loop_next (by decide) trivial ?_
             rw [show takeK (dfarJ q (segA p k) (segB p k) (dfarI p q k) j) (segA p k) (segB p k) (segA q j) (segB q j) (3 + 1) = candK (segA p k) (segB p k) (segA q j) (segB q j) 3 from takeK_yes (by first | exact .inl (by assumption) | exact .inr (by assumption))]
             (refine sub_to [some 0, some 1, some 2, some 3, some 4, some 5] [] rfl ?_ ?_ <;> (repeat' (first | exact trivial | refine ⟨⟨_, rfl, ?_⟩, ?_⟩ | refine ⟨bsub_snoc rfl rfl (fun _ => rfl) ?_, ?_⟩ | refine ⟨bsub_one rfl rfl ?_, ?_⟩ | refine ⟨bsub_all rfl rfl (fun _ _ => rfl) (fun _ => rfl), ?_⟩ | refine ⟨bsub_updL rfl rfl ?_ (fun _ _ _ => rfl) (fun _ => rfl), ?_⟩ | refine ⟨.inl ⟨_, _, rfl, rfl, ?_⟩, ?_⟩ | exact ⟨.inr ⟨rfl, rfl⟩, trivial⟩ | refine ⟨.inr ⟨rfl, rfl⟩, ?_⟩ | (intro _ _) | exact vz1 | exact vz2 | fail))))
          | (refine loop_next (by decide) trivial ?_
             rw [takeK_no (k := 0) (by assumption) (by assumption)]
             (refine sub_to [some 0, some 1, some 2, some 3, some 4, some 5] [] rfl ?_ ?_ <;> (repeat' (first | exact trivial | refine ⟨⟨_, rfl, ?_⟩, ?_⟩ | refine ⟨bsub_snoc rfl rfl (fun _ => rfl) ?_, ?_⟩ | refine ⟨bsub_one rfl rfl ?_, ?_⟩ | refine ⟨bsub_all rfl rfl (fun _ _ => rfl) (fun _ => rfl), ?_⟩ | refine ⟨bsub_updL rfl rfl ?_ (fun _ _ _ => rfl) (fun _ => rfl), ?_⟩ | refine ⟨.inl ⟨_, _, rfl, rfl, ?_⟩, ?_⟩ | exact ⟨.inr ⟨rfl, rfl⟩, trivial⟩ | refine ⟨.inr ⟨rfl, rfl⟩, ?_⟩ | (intro _ _) | exact vz1 | exact vz2 | fail))))
          | (refine loop_next (by decide) trivial ?_
             rw [takeK_no (k := 1) (by assumption) (by assumption)]
             (refine sub_to [some 0, some 1, some 2, some 3, some 4, some 5] [] rfl ?_ ?_ <;> (repeat' (first | exact trivial | refine ⟨⟨_, rfl, ?_⟩, ?_⟩ | refine ⟨bsub_snoc rfl rfl (fun _ => rfl) ?_, ?_⟩ | refine ⟨bsub_one rfl rfl ?_, ?_⟩ | refine ⟨bsub_all rfl rfl (fun _ _ => rfl) (fun _ => rfl), ?_⟩ | refine ⟨bsub_updL rfl rfl ?_ (fun _ _ _ => rfl) (fun _ => rfl), ?_⟩ | refine ⟨.inl ⟨_, _, rfl, rfl, ?_⟩, ?_⟩ | exact ⟨.inr ⟨rfl, rfl⟩, trivial⟩ | refine ⟨.inr ⟨rfl, rfl⟩, ?_⟩ | (intro _ _) | exact vz1 | exact vz2 | fail))))
          | (refine loop_next (by decide) trivial ?_
             rw [takeK_no (k := 2) (by assumption) (by assumption)]
             (refine sub_to [some 0, some 1, some 2, some 3, some 4, some 5] [] rfl ?_ ?_ <;> (repeat' (first | exact trivial | refine ⟨⟨_, rfl, ?_⟩, ?_⟩ | refine ⟨bsub_snoc rfl rfl (fun _ => rfl) ?_, ?_⟩ | refine ⟨bsub_one rfl rfl ?_, ?_⟩ | refine ⟨bsub_all rfl rfl (fun _ _ => rfl) (fun _ => rfl), ?_⟩ | refine ⟨bsub_updL rfl rfl ?_ (fun _ _ _ => rfl) (fun _ => rfl), ?_⟩ | refine ⟨.inl ⟨_, _, rfl, rfl, ?_⟩, ?_⟩ | exact ⟨.inr ⟨rfl, rfl⟩, trivial⟩ | refine ⟨.inr ⟨rfl, rfl⟩, ?_⟩ | (intro _ _) | exact vz1 | exact vz2 | fail))))
          | (refine loop_next (by decide) trivial ?_
             rw [takeK_no (k := 3) (by assumption) (by assumption)]
             (refine sub_to [some 0, some 1, some 2, some 3, some 4, some 5] [] rfl ?_ ?_ <;> (repeat' (first | exact trivial | refine ⟨⟨_, rfl, ?_⟩, ?_⟩ | refine ⟨bsub_snoc rfl rfl (fun _ => rfl) ?_, ?_⟩ | refine ⟨bsub_one rfl rfl ?_, ?_⟩ | refine ⟨bsub_all rfl rfl (fun _ _ => rfl) (fun _ => rfl), ?_⟩ | refine ⟨bsub_updL rfl rfl ?_ (fun _ _ _ => rfl) (fun _ => rfl), ?_⟩ | refine ⟨.inl ⟨_, _, rfl, rfl, ?_⟩, ?_⟩ | exact ⟨.inr ⟨rfl, rfl⟩, trivial⟩ | refine ⟨.inr ⟨rfl, rfl⟩, ?_⟩ | (intro _ _) | exact vz1 | exact vz2 | fail))))
          | (refine (show SubOf _ _ _ _ _ _ from ?_)
             (refine sub_to [some 0, some 1, some 2, some 3, some 4, some 5] [] rfl ?_ ?_ <;> (repeat' (first | exact trivial | refine ⟨⟨_, rfl, ?_⟩, ?_⟩ | refine ⟨bsub_snoc rfl rfl (fun _ => rfl) ?_, ?_⟩ | refine ⟨bsub_one rfl rfl ?_, ?_⟩ | refine ⟨bsub_all rfl rfl (fun _ _ => rfl) (fun _ => rfl), ?_⟩ | refine ⟨bsub_updL rfl rfl ?_ (fun _ _ _ => rfl) (fun _ => rfl), ?_⟩ | refine ⟨.inl ⟨_, _, rfl, rfl, ?_⟩, ?_⟩ | exact ⟨.inr ⟨rfl, rfl⟩, trivial⟩ | refine ⟨.inr ⟨rfl, rfl⟩, ?_⟩ | (intro _ _) | exact vz1 | exact vz2 | fail))))
          | trace_state
end Go.Proofs.Ytloaefllpokkaaa
namespace Go.Proofs.Ytloaefllpokkaaa
open Go.RowKit
structure Pat where
  ros : List Int
  rub : List Int
  start : Int
  throw : Int
  adv : Int
  shifts : List Int
instance : Inhabited Pat := ⟨⟨[], [], 0, 0, 0, []⟩⟩
abbrev Pat.enc (p : Pat) : V := .agg [encInts p.ros, encInts p.rub, vi p.start, vi p.throw, vi p.adv, encInts p.shifts]
/-- No height. -/
def oddB (n : Int) : Bool := decide (n < 0) || decide (n > 10000)
theorem oddB_iff {n : Int} : oddB n = true ↔ n < 0 ∨ n > 10000 := by simp [oddB]
theorem oddB_no {n : Int} : oddB n = false ↔ 0 ≤ n ∧ n ≤ 10000 := by simp [oddB]
def rosE (f : List Int) : Int := if f.length < 3 ∨ 96 < f.length ∨ f.any oddB = true then 30 else 0
def rubE (b : List Int) (n : Int) : Int := if b.length % 2 = 0 ∨ n < b.length ∨ 31 < b.length ∨ b.any oddB = true ∨ 0 < el b (b.length / 2) then 31 else 0
def liftX (f b : List Int) (p k : Nat) : Int := el f ((p + f.length + k - b.length / 2) % f.length) - el b k
def liftTo (f b : List Int) (p : Nat) : Nat → Int
  | 0 => 0
  | k + 1 => if k = 0 then liftX f b p 0 else max (liftTo f b p k) (liftX f b p k)
/-- The lift of a rosette. -/
def liftF (f b : List Int) : List Int := (List.range f.length).map fun p => liftTo f b p b.length
def turnF (f : List Int) (s : Nat) : List Int := f.drop (f.length - s) ++ f.take (f.length - s)
def symB (f : List Int) (s : Nat) : Bool := decide (turnF f s = f)
def symL (f : List Int) (k : Nat) : List Nat := (List.range k).filter (symB f)
/-- The period. -/
def perF (f : List Int) : Nat := f.length / (symL f f.length).length
def sumS (l : List Int) : Nat → Int
  | 0 => 0
  | k + 1 => sumS l k + el l k
/-- A program's lift, period, phases, cuts. -/
def Pat.lift (p : Pat) : List Int := liftF p.ros p.rub
def Pat.per (p : Pat) : Nat := perF p.lift
def Pat.phase (p : Pat) (j : Int) : Int := (j / p.shifts.length * sumS p.shifts p.shifts.length + sumS p.shifts (j % p.shifts.length).toNat) % p.ros.length
def Pat.at (p : Pat) (i : Int) : Int := el p.lift (i % p.ros.length).toNat
def Pat.cut (p : Pat) (j : Int) : List Int := (List.range p.ros.length).map fun (i : Nat) => p.start + j * p.adv + p.throw * p.at ((i : Int) - p.phase j)
def shiftB (n : Nat) (s : Int) : Bool := !withinB s 0 ((n : Int) - 1)
def Pat.err (p : Pat) : Int := if rosE p.ros ≠ 0 then 30 else if rubE p.rub p.ros.length ≠ 0 then 31 else
  if withinB p.start 0 10000 = true ∧ withinB p.throw 1 16 = true ∧ withinB p.adv (-1000) 1000 = true ∧ withinB p.shifts.length 1 12 = true ∧ p.shifts.any (shiftB p.ros.length) = false then 0 else 40
/-- One of the numbers of which the gap is the least. -/
def Pat.dif (p : Pat) (s : Int) (i : Nat) : Int := p.adv + p.throw * (p.at (i - s) - el p.lift i)
theorem rosE_zero {f : List Int} : rosE f = 0 ↔ 3 ≤ f.length ∧ f.length ≤ 96 ∧ f.any oddB = false := by
  unfold rosE
  split
  · rename_i h
    refine ⟨fun e => by omega, fun ⟨h1, h2, h3⟩ => ?_⟩
    rw [h3] at h
    simp at h
    omega
  · rename_i h
    refine ⟨fun _ => ⟨by omega, by omega, ?_⟩, fun _ => rfl⟩
    rw [← Bool.not_eq_true]
    exact fun e => h (.inr (.inr e))
theorem rosE_or (f : List Int) : rosE f = 0 ∨ rosE f = 30 := by unfold rosE; split <;> simp
theorem rubE_or (b : List Int) (n : Int) : rubE b n = 0 ∨ rubE b n = 31 := by unfold rubE; split <;> simp
theorem rubE_zero {b : List Int} {n : Int} : rubE b n = 0 ↔ b.length % 2 = 1 ∧ (b.length : Int) ≤ n ∧ b.length ≤ 31 ∧ b.any oddB = false ∧ el b (b.length / 2) ≤ 0 := by
  unfold rubE
  split
  · rename_i h
    refine ⟨fun e => by omega, fun ⟨h1, h2, h3, h4, h5⟩ => ?_⟩
    rw [h4] at h
    simp at h
    omega
  · rename_i h
    refine ⟨fun _ => ⟨by omega, by omega, by omega, ?_, by omega⟩, fun _ => rfl⟩
    rw [← Bool.not_eq_true]
    exact fun e => h (.inr (.inr (.inr (.inl e))))
theorem odd_el {l : List Int} (h : l.any oddB = false) {k : Nat} (hk : k < l.length) : 0 ≤ el l k ∧ el l k ≤ 10000 := by
  rw [← oddB_no, ← Bool.not_eq_true]
  intro e
  rw [List.any_eq_true.2 ⟨_, el_mem hk, e⟩] at h
  cases h
theorem lift_len (f b : List Int) : (liftF f b).length = f.length := by simp [liftF]
theorem lift_el {f b : List Int} {i : Nat} (h : i < f.length) : el (liftF f b) i = liftTo f b i b.length := el_map_range h
theorem liftX_bnd {f b : List Int} (hf : rosE f = 0) (hb : rubE b f.length = 0) {p k : Nat} (hk : k < b.length) : liftX f b p k ≤ 10000 := by
  obtain ⟨f1, f2, f3⟩ := rosE_zero.1 hf
  obtain ⟨b1, b2, b3, b4, b5⟩ := rubE_zero.1 hb
  have h1 := odd_el f3 (Nat.mod_lt (p + f.length + k - b.length / 2) (show 0 < f.length by omega))
  have h2 := odd_el b4 hk
  unfold liftX
  omega
theorem liftTo_le {f b : List Int} (hf : rosE f = 0) (hb : rubE b f.length = 0) {p : Nat} : ∀ k, k ≤ b.length → liftTo f b p k ≤ 10000
  | 0, _ => by unfold liftTo; omega
  | k + 1, h => by
    have h1 := liftX_bnd hf hb (p := p) (k := k) (by omega)
    have h2 := liftTo_le hf hb (p := p) k (by omega)
    unfold liftTo
    split
    · rename_i e; subst e; exact h1
    · omega
theorem liftTo_ge {f b : List Int} {p j : Nat} : ∀ k, j < k → liftX f b p j ≤ liftTo f b p k
  | 0, h => by omega
  | k + 1, h => by
    unfold liftTo
    by_cases e : j = k
    · subst e
      split
      · rename_i e; subst e; exact Int.le_refl _
      · omega
    · have := liftTo_ge (f := f) (b := b) (p := p) (j := j) k (by omega)
      split
      · omega
      · omega
theorem lift_bnd {f b : List Int} (hf : rosE f = 0) (hb : rubE b f.length = 0) {i : Nat} (hi : i < f.length) : 0 ≤ el (liftF f b) i ∧ el (liftF f b) i ≤ 10000 := by
  obtain ⟨f1, f2, f3⟩ := rosE_zero.1 hf
  obtain ⟨b1, b2, b3, b4, b5⟩ := rubE_zero.1 hb
  rw [lift_el hi]
  refine ⟨?_, liftTo_le hf hb _ (Nat.le_refl _)⟩
  refine Int.le_trans ?_ (liftTo_ge (j := b.length / 2) _ (by omega))
  have h1 := odd_el f3 (Nat.mod_lt (i + f.length + b.length / 2 - b.length / 2) (show 0 < f.length by omega))
  unfold liftX
  omega
theorem lift_rosE {f b : List Int} (hf : rosE f = 0) (hb : rubE b f.length = 0) : rosE (liftF f b) = 0 := by
  obtain ⟨f1, f2, f3⟩ := rosE_zero.1 hf
  refine rosE_zero.2 ⟨by rw [lift_len]; exact f1, by rw [lift_len]; exact f2, ?_⟩
  rw [← Bool.not_eq_true]
  intro e
  obtain ⟨x, hx, h⟩ := List.any_eq_true.1 e
  obtain ⟨k, hk, rfl⟩ := mem_el hx
  rw [lift_len] at hk
  have := lift_bnd hf hb hk
  rw [oddB_iff] at h
  omega
theorem mod_add_l (a b n : Int) : (a % n + b) % n = (a + b) % n := by rw [Int.add_emod, Int.emod_emod_of_dvd _ (Int.dvd_refl n), ← Int.add_emod]
theorem mod_sub_l (a b n : Int) : (a % n - b) % n = (a - b) % n := by rw [Int.sub_emod, Int.emod_emod_of_dvd _ (Int.dvd_refl n), ← Int.sub_emod]
theorem mod_sub_r (a b n : Int) : (a - b % n) % n = (a - b) % n := by rw [Int.sub_emod, Int.emod_emod_of_dvd _ (Int.dvd_refl n), ← Int.sub_emod]
theorem mod_unique {a b q r : Int} (hb : 0 < b) (h : r + b * q = a) (h0 : 0 ≤ r) (h1 : r < b) : a / b = q ∧ a % b = r := (Int.ediv_emod_unique hb).2 ⟨h, h0, h1⟩
theorem tmod_gt (a : Int) {n : Int} (hn : 0 < n) : -n < a.tmod n := by
  rcases Int.le_total 0 a with h | h
  · have := Int.tmod_nonneg n h; omega
  · have h4 := Int.tmod_lt_of_pos (-a) hn
    rw [Int.neg_tmod] at h4
    omega
/-- Go's remainder, made right. -/
theorem tmod_mod (a : Int) {n : Int} (hn : 0 < n) : a % n = if a.tmod n < 0 then a.tmod n + n else a.tmod n := by
  have h1 := Int.tmod_add_mul_tdiv a n
  have h2 := Int.tmod_lt_of_pos a hn
  have h3 : -n < a.tmod n := by
    rcases Int.le_total 0 a with h | h
    · have := Int.tmod_nonneg n h; omega
    · have h4 := Int.tmod_lt_of_pos (-a) hn
      rw [Int.neg_tmod] at h4
      omega
  split
  · refine (mod_unique hn (q := a.tdiv n - 1) ?_ (by omega) (by omega)).2
    rw [Int.mul_sub, Int.mul_one]
    omega
  · exact (mod_unique hn h1 (by omega) h2).2
section
variable {p : Pat}
theorem phase_bnd (j : Int) (hn : 0 < p.ros.length) : 0 ≤ p.phase j ∧ p.phase j < p.ros.length := ⟨Int.emod_nonneg _ (by omega), Int.emod_lt_of_pos _ (by omega)⟩
theorem phase_succ (j : Int) (hc : 0 < p.shifts.length) : p.phase (j + 1) = (p.phase j + el p.shifts (j % p.shifts.length).toNat) % p.ros.length := by
  have hc' : (0 : Int) < p.shifts.length := by omega
  have h1 := Int.emod_nonneg j (show (p.shifts.length : Int) ≠ 0 by omega)
  have h2 := Int.emod_lt_of_pos j hc'
  have h3 := Int.emod_add_mul_ediv j p.shifts.length
  have e : p.phase (j + 1) = (j / p.shifts.length * sumS p.shifts p.shifts.length + (sumS p.shifts (j % p.shifts.length).toNat + el p.shifts (j % p.shifts.length).toNat)) % p.ros.length := by
    unfold Pat.phase
    by_cases h : j % p.shifts.length + 1 < p.shifts.length
    · obtain ⟨g1, g2⟩ := mod_unique (a := j + 1) hc' (q := j / p.shifts.length) (r := j % p.shifts.length + 1) (by omega) (by omega) h
      rw [g1, g2, show (j % p.shifts.length + 1).toNat = (j % p.shifts.length).toNat + 1 by omega, sumS]
    · obtain ⟨g1, g2⟩ := mod_unique (a := j + 1) hc' (q := j / p.shifts.length + 1) (r := 0) (by rw [Int.mul_add, Int.mul_one]; omega) (by omega) hc'
      have e : p.shifts.length = (j % p.shifts.length).toNat + 1 := by omega
      have e2 : sumS p.shifts p.shifts.length = sumS p.shifts (j % p.shifts.length).toNat + el p.shifts (j % p.shifts.length).toNat := by
        have : ∀ m, m = (j % p.shifts.length).toNat + 1 → sumS p.shifts m = sumS p.shifts (j % p.shifts.length).toNat + el p.shifts (j % p.shifts.length).toNat := fun m hm => by rw [hm, sumS]
        exact this _ e
      rw [g1, g2, Int.add_mul, Int.one_mul, show sumS p.shifts (0 : Int).toNat = 0 from rfl, Int.add_zero, e2]
  rw [e, Pat.phase, mod_add_l, Int.add_assoc]
theorem at_mod (i : Int) : p.at (i % p.ros.length) = p.at i := by
  unfold Pat.at
  rw [Int.emod_emod_of_dvd _ (Int.dvd_refl _)]
theorem at_nat {i : Nat} (h : i < p.ros.length) : p.at i = el p.lift i := by
  unfold Pat.at
  rw [Int.emod_eq_of_lt (by omega) (by omega)]
  rfl
theorem cut_len (j : Int) : (p.cut j).length = p.ros.length := by simp [Pat.cut]
theorem cut_el {j : Int} {i : Nat} (h : i < p.ros.length) : el (p.cut j) i = p.start + j * p.adv + p.throw * p.at (i - p.phase j) := el_map_range h
/-- From a cut to the next one: one of the numbers of which the gap is the least. -/
theorem cut_dif {j : Int} {i : Nat} (hc : 0 < p.shifts.length) (hi : i < p.ros.length) :
    el (p.cut (j + 1)) i - el (p.cut j) i = p.dif (el p.shifts (j % p.shifts.length).toNat) (((i : Int) - p.phase j) % p.ros.length).toNat := by
  have hn : (0 : Int) < p.ros.length := by omega
  have g1 := Int.emod_nonneg ((i : Int) - p.phase j) (show (p.ros.length : Int) ≠ 0 by omega)
  have g2 := Int.emod_lt_of_pos ((i : Int) - p.phase j) hn
  rw [cut_el hi, cut_el hi, Pat.dif, ← at_nat (p := p) (i := (((i : Int) - p.phase j) % p.ros.length).toNat) (by omega), Int.toNat_of_nonneg g1, at_mod]
  have e : p.at (i - p.phase (j + 1)) = p.at ((((i : Int) - p.phase j) % p.ros.length) - el p.shifts (j % p.shifts.length).toNat) := by
    rw [phase_succ j hc, ← at_mod, ← at_mod (((i : Int) - p.phase j) % p.ros.length - _), mod_sub_r, mod_sub_l, Int.sub_sub]
  rw [e, Int.add_mul, Int.one_mul, Int.mul_sub]
  omega
/-- All numbers of which the gap is the least. -/
def Pat.difs (p : Pat) : List Int := p.shifts.flatMap fun s => (List.range p.ros.length).map (p.dif s)
theorem dif_mem {k i : Nat} (hk : k < p.shifts.length) (hi : i < p.ros.length) : p.dif (el p.shifts k) i ∈ p.difs :=
  List.mem_flatMap.2 ⟨_, el_mem hk, List.mem_map.2 ⟨i, List.mem_range.2 hi, rfl⟩⟩
end
/-- The least of a list. -/
def minTo (l : List Int) : Nat → Int
  | 0 => el l 0
  | k + 1 => min (minTo l k) (el l k)
theorem minTo_le {l : List Int} {j : Nat} : ∀ k, j < k → minTo l k ≤ el l j
  | 0, h => by omega
  | k + 1, h => by
    unfold minTo
    by_cases e : j = k
    · subst e; omega
    · have := minTo_le (l := l) (j := j) k (by omega)
      omega
def minF (l : List Int) : Int := minTo l l.length
theorem minF_le {l : List Int} {x : Int} (h : x ∈ l) : minF l ≤ x := by
  obtain ⟨k, hk, rfl⟩ := mem_el h
  exact minTo_le _ hk
def Pat.gap (p : Pat) : Int := minF p.difs
section
variable {p : Pat}
theorem gap_le {j : Int} {i : Nat} (hc : 0 < p.shifts.length) (hi : i < p.ros.length) : p.gap ≤ el (p.cut (j + 1)) i - el (p.cut j) i := by
  have h1 := Int.emod_nonneg j (show (p.shifts.length : Int) ≠ 0 by omega)
  have h2 := Int.emod_lt_of_pos j (show (0 : Int) < p.shifts.length by omega)
  have g1 := Int.emod_nonneg ((i : Int) - p.phase j) (show (p.ros.length : Int) ≠ 0 by omega)
  have g2 := Int.emod_lt_of_pos ((i : Int) - p.phase j) (show (0 : Int) < p.ros.length by omega)
  rw [cut_dif hc hi]
  exact minF_le (dif_mem (by omega) (by omega))
end
end Go.Proofs.Ytloaefllpokkaaa
namespace Go.Proofs.Ytloaefllpokkaaa
open Go.RowKit
theorem turn_len {f : List Int} {s : Nat} (hs : s ≤ f.length) : (turnF f s).length = f.length := by unfold turnF; rw [List.length_append, List.length_drop, List.length_take]; omega
theorem el_turn {f : List Int} {s i : Nat} (hs : s ≤ f.length) (hi : i < f.length) : el (turnF f s) i = el f ((i + (f.length - s)) % f.length) := by
  have hd : (f.drop (f.length - s)).length = s := by rw [List.length_drop]; omega
  unfold turnF
  by_cases h : i < s
  · rw [el_app_lt (by omega), el_drop, Nat.mod_eq_of_lt (by omega), Nat.add_comm]
  · rw [el_app_ge (by omega), hd, el_take (by omega), show i + (f.length - s) = i - s + f.length by omega, Nat.add_mod_right, Nat.mod_eq_of_lt (by omega)]
/-- Turned by t, the list is the same. -/
def PerB (f : List Int) (t : Nat) : Prop := ∀ i, i < f.length → el f ((i + t) % f.length) = el f i
theorem sym_iff {f : List Int} {s : Nat} (hs : s ≤ f.length) : symB f s = true ↔ PerB f (f.length - s) := by
  unfold symB
  rw [decide_eq_true_iff]
  refine ⟨fun h i hi => ?_, fun h => ext_el (turn_len hs) fun i hi => ?_⟩
  · rw [← el_turn hs hi, h]
  · rw [turn_len hs] at hi
    rw [el_turn hs hi, h i hi]
section
variable {f : List Int} {t u : Nat}
theorem per_n : PerB f f.length := fun i hi => by rw [Nat.add_mod_right, Nat.mod_eq_of_lt hi]
theorem per_add (ht : PerB f t) (hu : PerB f u) : PerB f (t + u) := fun i hi => by
  rw [← Nat.add_assoc, ← Nat.mod_add_mod, hu _ (Nat.mod_lt _ (by omega)), ht i hi]
theorem per_sub (hs : PerB f (t + u)) (ht : PerB f t) : PerB f u := fun i hi => by
  have := ht ((i + u) % f.length) (Nat.mod_lt _ (by omega))
  rw [Nat.mod_add_mod, Nat.add_assoc, Nat.add_comm u t, hs i hi] at this
  exact this.symm
theorem per_zero : PerB f 0 := fun i hi => by rw [Nat.add_zero, Nat.mod_eq_of_lt hi]
theorem per_mul (ht : PerB f t) : ∀ q, PerB f (t * q)
  | 0 => per_zero
  | q + 1 => by rw [Nat.mul_succ]; exact per_add (per_mul ht q) ht
end
theorem least_nat {P : Nat → Prop} : ∀ n, P n → ∃ d, P d ∧ d ≤ n ∧ ∀ t, t < d → ¬ P t := by
  intro n
  induction n using Nat.strongRecOn with
  | _ n ih =>
    intro h
    by_cases g : ∃ t, t < n ∧ P t
    · obtain ⟨t, h1, h2⟩ := g
      obtain ⟨d, h3, h4, h5⟩ := ih t h1 h2
      exact ⟨d, h3, by omega, h5⟩
    · exact ⟨n, h, Nat.le_refl _, fun t ht hp => g ⟨t, ht, hp⟩⟩
theorem sym_count {f : List Int} {d : Nat} (hd : 0 < d) (hs : ∀ s, s < f.length → (symB f s = true ↔ s % d = 0)) : ∀ k, k ≤ f.length → (symL f k).length = (k + (d - 1)) / d
  | 0, _ => by
    rw [Nat.zero_add, Nat.div_eq_of_lt (by omega)]; rfl
  | k + 1, h => by
    have ih := sym_count hd hs k (by omega)
    have hk := hs k (by omega)
    have h1 := Nat.div_add_mod k d
    have h2 := Nat.mod_lt k hd
    have e1 : symL f (k + 1) = symL f k ++ (if symB f k = true then [k] else []) := by
      unfold symL
      rw [List.range_succ, List.filter_append, List.filter_cons, List.filter_nil]
    have e2 : (k + 1 + (d - 1)) / d = k / d + 1 := by
      rw [show k + 1 + (d - 1) = k + d by omega, Nat.add_div_right _ hd]
    rw [e1, List.length_append, ih, e2]
    by_cases hz : k % d = 0
    · rw [if_pos (hk.2 hz)]
      have : (k + (d - 1)) / d = k / d := by
        refine Nat.div_eq_of_lt_le ?_ ?_
        · rw [Nat.mul_comm]; omega
        · rw [Nat.succ_mul, Nat.mul_comm]; omega
      rw [this]; rfl
    · rw [if_neg (fun e => hz (hk.1 e))]
      refine Nat.div_eq_of_lt_le ?_ ?_
      · rw [Nat.succ_mul, Nat.mul_comm]; omega
      · rw [Nat.succ_mul, Nat.succ_mul, Nat.mul_comm]; omega
theorem per_spec {f : List Int} (hn : 0 < f.length) : 0 < perF f ∧ perF f ≤ f.length ∧ f.length % perF f = 0 ∧ PerB f (perF f) ∧ 0 < (symL f f.length).length := by
  obtain ⟨d, ⟨h1, h2⟩, h3, h4⟩ := least_nat (P := fun d => 0 < d ∧ PerB f d) f.length ⟨hn, per_n⟩
  have hdv : ∀ t, PerB f t → t % d = 0 := fun t ht => by
    have e := Nat.div_add_mod t d
    have hl := Nat.mod_lt t h1
    rw [← e] at ht
    have hp := per_sub ht (per_mul h2 _)
    have := h4 (t % d) hl
    by_cases hz : t % d = 0
    · exact hz
    · exact (this ⟨by omega, hp⟩).elim
  have hmul : ∀ t, t % d = 0 → PerB f t := fun t ht => by
    have e := Nat.div_add_mod t d
    rw [ht, Nat.add_zero] at e
    rw [← e]
    exact per_mul h2 _
  have hnd := hdv _ (per_n (f := f))
  have hs : ∀ s, s < f.length → (symB f s = true ↔ s % d = 0) := fun s hs => by
    rw [sym_iff (by omega)]
    have e1 := Nat.div_add_mod f.length d
    have e2 := Nat.div_add_mod s d
    refine ⟨fun h => ?_, fun h => ?_⟩
    · have hp : PerB f s := per_sub (t := f.length - s) (by rw [show f.length - s + s = f.length by omega]; exact per_n) h
      exact hdv _ hp
    · exact per_sub (t := s) (by rw [show s + (f.length - s) = f.length by omega]; exact per_n) (hmul _ h)
  have hq := Nat.div_add_mod f.length d
  rw [hnd, Nat.add_zero] at hq
  have hcnt : (symL f f.length).length = f.length / d := by
    rw [sym_count h1 hs _ (Nat.le_refl _)]
    refine Nat.div_eq_of_lt_le ?_ ?_
    · rw [Nat.mul_comm, hq]; omega
    · rw [Nat.succ_mul, Nat.mul_comm, hq]; omega
  have hpos : 0 < f.length / d := Nat.div_pos h3 h1
  have hp : perF f = d := by
    unfold perF
    rw [hcnt]
    refine Nat.div_eq_of_lt_le ?_ ?_
    · exact Nat.le_of_eq hq
    · rw [Nat.succ_mul, hq]; omega
  rw [hp, hcnt]
  exact ⟨h1, h3, hnd, h2, hpos⟩
section
variable {p : Pat}
theorem lift_plen : p.lift.length = p.ros.length := lift_len _ _
end
end Go.Proofs.Ytloaefllpokkaaa
namespace Go.Proofs.Ytloaefllpokkaaa
open Go.RowKit
structure Clash where
  upper : Int
  lower : Int
  col : Int
instance : Inhabited Clash := ⟨⟨0, 0, 0⟩⟩
def Clash.enc (x : Clash) : V := .agg [vi x.upper, vi x.lower, vi x.col]
end Go.Proofs.Ytloaefllpokkaaa
namespace Go.Proofs.Ytloaefllpokkaaa
open Go.ChangeShapes Go.WideShapes Go.ChangeAt Go.RowKit Go.Deep
theorem own_knob : ownKnob Try.prog.godebug = none := by kernel_rfl
theorem laid_out : laidOutB Try.prog = true := by kernel_rfl
/-- All memory avs it stands. -/
def snap (w : World) : Imm := fun b => w.heap[b]?
/-- The cells of a value. -/
def CellsAre (I : Imm) (v : V) (cs : List Value) : Prop := v.cells.length = cs.length ∧ ∀ (j : Nat) x u, v.cells[j]? = some x → cs[j]? = some u → VRel I [] x u
/-- A type whose values, read avs data, are elements of 'α'. -/
structure ReadsV (P : Program) (t : TypeId) {α : Type} (e : α → V) (ok : α → Prop) (sz : Nat) : Prop where
  cells : P.cellsOf t = sz
  pos : 0 < sz
  read : ∀ {H : Type} {enc : TypeId × Value → H} {w : World} {base : Nat} {spare : Nat → Bool} {held : Bool} {fuel : Nat} {cs : List Value} {x : DataW H × List MemPlace},
    DataW.trod enc P w base spare held fuel t cs = some x → ∃ a : α, ok a ∧ cs.length = sz ∧ CellsAre (snap w) (e a) cs
def i64ok (n : Int) : Prop := -9223372036854775808 ≤ n ∧ n ≤ 9223372036854775807
theorem rv_int {P : Program} {t : TypeId} (ht : P.underlying t = some (.int .i64)) (hc : P.cellsOf t = 1) : ReadsV P t vi i64ok 1 :=
  ⟨hc, by omega, fun h => by
    obtain ⟨n, rfl, _, hw⟩ := DataW.trod_int ht h
    exact ⟨n, bounds_i64 hw, rfl, rfl, fun j x u hx hu => by
      cases j with
      | zero => simp [cells_vi] at hx hu; subst hx hu; exact .s _
      | succ j => simp at hu⟩⟩
theorem cell_block {w : World} {b i : Nat} {sp : Option Nat} {v : Value} (h : w.cell? ⟨b, i, sp⟩ = some v) : ∃ cs ty fz, w.heap[b]? = some (.cells cs ty fz) ∧ cs[i]? = some v := by
  unfold World.cell? at h
  simp only at h
  split at h
  · rename_i c ty fz hb
    split at h
    · cases h
    · exact ⟨c, ty, fz, hb, h⟩
  · cases h
theorem add_none (b off n : Nat) : (⟨b, off, none⟩ : Addr).add n = ⟨b, off + n, none⟩ := by
  unfold Addr.add
  split
  · rename_i h; subst h; rfl
  · rfl
theorem read_list {α : Type} [Inhabited α] {P : Program} {t e : TypeId} {ea : α → V} {ok : α → Prop} {sz : Nat} (ht : P.underlying t = some (.slice e)) (R : ReadsV P e ea ok sz)
    {H : Type} {enc : TypeId × Value → H} {w : World} {base : Nat} {spare : Nat → Bool} {held : Bool} {fuel : Nat} {cs : List Value} {x : DataW H × List MemPlace}
    (h : DataW.trod enc P w base spare held fuel t cs = some x) : ∃ (l : List α) (u : Value), (∀ y, y ∈ l → ok y) ∧ cs = [u] ∧ VRel (snap w) [] (LV sz ea l) u := by
  rcases open_slice ht h with ⟨rfl, _⟩ | ⟨a, len, cap, m, n, D, Pl, rfl, _, hl, hc, hm, _, hi⟩
  · exact ⟨[], _, (fun y hy => by cases hy), rfl, VRel.none_list none⟩
  · have hml : len ≤ m := by rw [hm]; split <;> omega
    have hex : ∀ i : Fin len, ∃ y : α, ∃ cs', w.cells? base (a.add (i * P.cellsOf e)) (P.cellsOf e) = some cs' ∧ ok y ∧ cs'.length = sz ∧ CellsAre (snap w) (ea y) cs' := fun i => by
      obtain ⟨cs', h1, h2⟩ := hi i (by omega)
      obtain ⟨y, hy⟩ := R.read h2
      exact ⟨y, cs', h1, hy⟩
    obtain ⟨f, hf⟩ := Classical.skolem.1 hex
    obtain ⟨g, hg⟩ := Classical.skolem.1 hf
    have hel : ∀ i (hi : i < len), el (List.ofFn f) i = f ⟨i, hi⟩ := fun i hi => by rw [el_eq (by simpa using hi)]; simp
    refine ⟨List.ofFn f, _, fun y hy => ?_, rfl, ?_⟩
    · obtain ⟨k, hk, rfl⟩ := mem_el hy
      rw [hel k (by simpa using hk)]
      exact (hg _).2.1
    obtain ⟨b, off, sp⟩ := a
    have hspot : 0 < len → sp = none := fun h0 => by
      obtain ⟨h1, _, h3, _⟩ := hg ⟨0, h0⟩
      obtain ⟨_, hcl, hat⟩ := World.cells?_some h1
      have hpos := R.pos
      have h5 := hat 0 (by rw [R.cells]; exact hpos)
      rw [List.getElem?_eq_getElem (by omega)] at h5
      simpa [Addr.add] using World.cell?_spot h5
    have hcell : ∀ (i : Nat) (hi : i < len) (j : Nat), j < sz → ∃ cs' ty fz, w.heap[b]? = some (.cells cs' ty fz) ∧ sp = none ∧ cs'[off + i * sz + j]? = some ((g ⟨i, hi⟩).getD j undef) := by
      intro i hi j hj
      obtain ⟨h1, _, h3, _⟩ := hg ⟨i, hi⟩
      obtain ⟨_, hcl, hat⟩ := World.cells?_some h1
      have hu : (g ⟨i, hi⟩)[j]? = some ((g ⟨i, hi⟩).getD j undef) := by simp [show j < (g ⟨i, hi⟩).length by omega]
      have h5 := hat j (by rw [R.cells]; exact hj)
      rw [hu] at h5
      have hsp : sp = none := hspot (by omega)
      subst hsp
      rw [add_none, add_none, R.cells] at h5
      obtain ⟨cs', ty, fz, h6, h7⟩ := cell_block h5
      exact ⟨cs', ty, fz, h6, rfl, h7⟩
    have hsz : ∀ i (hi : i < len), (ea (el (List.ofFn f) i)).cells.length = sz := fun i hi => by
      rw [hel i hi]
      obtain ⟨_, _, h3, h4⟩ := hg ⟨i, hi⟩
      rw [h4.1, h3]
    have hlen : (List.ofFn f).length = len := by simp
    show VRel (snap w) [] (.list sz (List.ofFn f).length fun i => ea (el (List.ofFn f) i)) _
    rw [hlen]
    refine .list (us := fun i j => if hi : i < len then (g ⟨i, hi⟩).getD j undef else undef) hl (by first | exact hc | (have h : cap ≤ 2 ^ 63 - 1 := hc; show cap ≤ maxLen; unfold maxLen; omega)) (fun h0 => ?_) (fun i hi => hsz i hi) (fun i j v hi hj => ?_)
    · obtain ⟨cs', ty, fz, h6, rfl, _⟩ := hcell 0 h0 0 R.pos
      refine ⟨b, off, rfl, fun i hi => ⟨cs', ty, fz, h6, fun j hj => ?_⟩⟩
      obtain ⟨cs2, ty2, fz2, h8, _, h9⟩ := hcell i hi j hj
      rw [h6] at h8
      cases h8
      simpa [hi] using h9
    · obtain ⟨_, _, h3, h4⟩ := hg ⟨i, hi⟩
      have hj2 := (List.getElem?_eq_some_iff.1 hj).1
      rw [hsz i hi] at hj2
      rw [hel i hi] at hj
      have := h4.2 j v ((g ⟨i, hi⟩).getD j undef) hj (by simp [show j < (g ⟨i, hi⟩).length by omega])
      simpa [hi] using this
theorem rv_list {α : Type} [Inhabited α] {P : Program} {t e : TypeId} {ea : α → V} {ok : α → Prop} {sz : Nat} (ht : P.underlying t = some (.slice e)) (hc : P.cellsOf t = 1) (R : ReadsV P e ea ok sz) : ReadsV P t (LV sz ea) (fun l => ∀ y, y ∈ l → ok y) 1 :=
  ⟨hc, by omega, fun h => by
    obtain ⟨l, u, h1, rfl, h2⟩ := read_list ht R h
    exact ⟨l, h1, rfl, rfl, fun j x u' hx hu => by
      cases j with
      | zero => simp [LV_cells] at hx hu; subst hx hu; exact h2
      | succ j => simp at hu⟩⟩
section
variable {P : Program} {H : Type} {enc : TypeId × Value → H} {w : World} {base : Nat} {spare : Nat → Bool} {held : Bool} {r : Reach} {b0 : Nat} {v : Value} {d : DataW H} {p : List MemPlace} {t e : TypeId}
/-- A struct: its cells are those of 'e a'. -/
theorem arg_struct {α : Type} {ea : α → V} {ok : α → Prop} {sz : Nat} {fs : Array Field} (ht : P.underlying t = some (.struct fs)) (R : ReadsV P t ea ok sz) (hagg : ∀ a, ea a = .agg (ea a).cells) (hv : Value.okWide P w r b0 t v) (h : DataW.Trod enc P w base spare held t v d p) : ∃ a : α, ok a ∧ VRel (snap w) [] (ea a) v := by
  obtain ⟨cs, rfl, _⟩ := okWide_struct ht hv
  obtain ⟨fuel, hf⟩ := h
  obtain ⟨a, h1, h2, h3⟩ := R.read (by simpa [Value.cells] using hf)
  refine ⟨a, h1, ?_⟩
  rw [hagg a]
  exact .agg (by rw [h3.1]; simp) fun j x u hx hu => h3.2 j x u hx (by simpa using hu)
theorem rels_nil {I : Imm} : VRels I [] [] #[] := ⟨rfl, fun j v u h => by simp at h⟩
theorem rels_cons {I : Imm} {x : V} {u : Value} {vs : List V} {us : List Value} (h : VRel I [] x u) (k : VRels I [] vs us.toArray) : VRels I [] (x :: vs) (u :: us).toArray := by
  refine ⟨by have := k.1; simpa using this, fun j v y hj hu => ?_⟩
  cases j with
  | zero => simp at hj hu; subst hj hu; exact h
  | succ j => exact k.2 j v y (by simpa using hj) (by simpa using hu)
end
/-- A part of a struct. -/
theorem struct_part {P : Program} {t : TypeId} {fs : Array Field} (ht : P.underlying t = some (.struct fs))
    {H : Type} {enc : TypeId × Value → H} {w : World} {base : Nat} {spare : Nat → Bool} {held : Bool} {fuel : Nat} {cs : List Value} {x : DataW H × List MemPlace}
    (h : DataW.trod enc P w base spare held fuel t cs = some x) {α : Type} {ea : α → V} {ok : α → Prop} {sz : Nat} (i : Nat) {f : Field} (hfi : fs[i]? = some f) (R : ReadsV P f.type ea ok sz) :
    ∃ a : α, ok a ∧ ((cs.drop f.offset).take sz).length = sz ∧ CellsAre (snap w) (ea a) ((cs.drop f.offset).take sz) := by
  obtain ⟨xs, n, _, _, _, hxl, hg⟩ := DataW.trod_struct ht h
  have h3 := hg i f hfi
  have hi : i < fs.size := (Array.getElem?_eq_some_iff.1 hfi).1
  obtain ⟨a, h1, h2, h4⟩ := R.read (h3.trans (List.getElem?_eq_getElem (by omega)))
  rw [R.cells] at h2 h4
  exact ⟨a, h1, h2, h4⟩
theorem struct_len {P : Program} {t : TypeId} {fs : Array Field} (ht : P.underlying t = some (.struct fs))
    {H : Type} {enc : TypeId × Value → H} {w : World} {base : Nat} {spare : Nat → Bool} {held : Bool} {fuel : Nat} {cs : List Value} {x : DataW H × List MemPlace}
    (h : DataW.trod enc P w base spare held fuel t cs = some x) : cs.length = P.cellsOf t := by
  obtain ⟨_, _, _, _, hlen, _, _⟩ := DataW.trod_struct ht h
  exact hlen
theorem cells_one {I : Imm} {v : V} {cs : List Value} {o : Nat} {u : Value} (h : CellsAre I v ((cs.drop o).take 1)) (hv : v.cells = [v]) (hu : cs[o]? = some u) : VRel I [] v u :=
  h.2 0 v u (by rw [hv]; rfl) (by simp [hu])
end Go.Proofs.Ytloaefllpokkaaa
namespace Go.Proofs.Ytloaefllpokkaaa
open Go.ChangeShapes Go.WideShapes Go.ChangeAt Go.RowKit Go.Deep
structure Screen where
  period : Int
  phase : Int
def Screen.enc (s : Screen) : V := .agg [vi s.period, vi s.phase]
theorem rv_Int : ReadsV Try.prog 3 vi i64ok 1 := rv_int Try.underlying3 (by kernel_rfl)
theorem rv_ints : ReadsV Try.prog 22 (LV 1 vi) (fun l => ∀ y, y ∈ l → i64ok y) 1 := rv_list Try.underlying22 (by kernel_rfl) rv_Int
end Go.Proofs.Ytloaefllpokkaaa
-- old go
namespace Go.Proofs.Ytloaefllpokkaaa
open Go.RowKit
def Screen.ok (c : Screen) : Bool := withinB c.period 2 16 && withinB c.phase 0 (c.period - 1)
end Go.Proofs.Ytloaefllpokkaaa
namespace Go.Proofs.Ytloaefllpokkaaa
open Go.RowKit
theorem fn1_subL {H : Heap} {σ : List (Option Nat)} {fr : Nat → Prop} {f : Fn} {a a' : V} (ha : VSub H σ fr a a') : VSub H σ fr (.fn f [] [a]) (.fn f [] [a']) :=
  .fn rfl (fun j v x h _ => by simp at h) rfl fun j v x h h' => match j, h, h' with
    | 0, h, h' => by cases h; cases h'; exact ha
    | j + 1, h, _ => by simp at h
def catTo (b : List (List Int)) (k : Nat) : List Int := (b.take k).flatten
theorem catTo_succ {b : List (List Int)} {k : Nat} (h : k < b.length) : catTo b (k + 1) = catTo b k ++ el b k := by
  unfold catTo
  rw [List.take_succ_eq_append_getElem h, List.flatten_append, el_eq h]
  simp
theorem catTo_all {b : List (List Int)} {k : Nat} (h : b.length ≤ k) : catTo b k = b.flatten := by unfold catTo; rw [List.take_of_length_le h]
set_option maxHeartbeats 1000000 in
theorem grow_p (n : Int) (h0 : 0 ≤ n) (hn : n ≤ 100000) : FCalls Try.prog 87 [vnil, vi n] 1 (fun k _ => k = 0) := by
  refine fcalls_of_aw Try.func87 rfl (dc rfl) ?_
  (repeat' (first | (refine ar_isq ?_; first | refine zmv ?_ | refine zas ?_ | (refine is_binOp ?_; first | refine zlss ?_ | refine zgtr ?_ | refine zsub ?_) | (refine is_call ?_; first | refine zll ?_ | refine zls ?_ | refine zln ?_ | refine zle ?_)) | (refine ar_q (qs_cap_nil (ty rfl) rfl rfl rfl) (dc rfl) ?_) | (refine ar_q (qs_slice_nil (ty rfl) rfl (ty rfl) rfl rfl) (dc rfl) ?_) | (refine ar_append_zeros (n := n.toNat) (ty rfl) rfl Try.underlying3 (ty rfl) rfl (by decide) (by decide) rfl rfl (by omega) (by omega) (by omega) (dc rfl) ?_) | (refine zcl (a := 0) (b := 0) ?_) | (refine zcs (a := 0) (b := 0) ?_) | (refine zapoo ?_) | (refine zapol ?_) | (refine zapno ?_) | (refine zapnl ?_) | (refine zapeo ?_) | (refine zapel ?_) | (refine ar_nil ?_) | (refine aw_seq ?_) | (refine aw_skip ?_) | (refine aw_block ?_) | (refine aw_exit ?_) | (refine aw_region ?_) | (refine zco ?_ ?_ <;> intro hg <;> first | exact absurd hg (by decide) | ((try replace hg := HG.out hg); (try dsimp only at hg); (try (have _h : True := hg; clear _h hg)); first | (exfalso; omega) | skip))))
  all_goals first
    | (exfalso; omega)
    | ((refine aw_mono_r (env' := [(4, .sl 1 0 0 0)]) (H' := [.arr 1 0 (fun _ => vnil)]) ?_ ?_; (focus ((refine sub_to [some 0] [] rfl ?_ ?_ <;> (repeat' (first | exact trivial | refine ⟨⟨_, rfl, ?_⟩, ?_⟩ | refine ⟨bsub_snoc rfl rfl (fun _ => rfl) ?_, ?_⟩ | refine ⟨bsub_one rfl rfl ?_, ?_⟩ | refine ⟨bsub_all rfl rfl (fun _ _ => rfl) (fun _ => rfl), ?_⟩ | refine ⟨bsub_updL rfl rfl ?_ (fun _ _ _ => rfl) (fun _ => rfl), ?_⟩ | refine ⟨.inl ⟨_, _, rfl, rfl, ?_⟩, ?_⟩ | exact ⟨.inr ⟨rfl, rfl⟩, trivial⟩ | refine ⟨.inr ⟨rfl, rfl⟩, ?_⟩ | (intro _ _) | exact vz1 | exact vz2 | fail))); done))); refine aw_ret (bq1 rfl ⟨0, _, rfl, rfl, rfl, fun i hi => by omega⟩))
    | ((refine aw_mono_r (env' := [(4, .sl 1 0 0 0)]) (H' := [.arr 1 0 (fun _ => vnil)]) ?_ ?_; (focus ((refine sub_to [none] [] rfl ?_ ?_ <;> (repeat' (first | exact trivial | refine ⟨⟨_, rfl, ?_⟩, ?_⟩ | refine ⟨bsub_snoc rfl rfl (fun _ => rfl) ?_, ?_⟩ | refine ⟨bsub_one rfl rfl ?_, ?_⟩ | refine ⟨bsub_all rfl rfl (fun _ _ => rfl) (fun _ => rfl), ?_⟩ | refine ⟨bsub_updL rfl rfl ?_ (fun _ _ _ => rfl) (fun _ => rfl), ?_⟩ | refine ⟨.inl ⟨_, _, rfl, rfl, ?_⟩, ?_⟩ | exact ⟨.inr ⟨rfl, rfl⟩, trivial⟩ | refine ⟨.inr ⟨rfl, rfl⟩, ?_⟩ | (intro _ _) | exact vz1 | exact vz2 | fail))); done))); refine aw_ret (bq1 rfl ⟨0, _, rfl, rfl, rfl, fun i hi => by omega⟩))
end Go.Proofs.Ytloaefllpokkaaa
namespace Go.Proofs.Ytloaefllpokkaaa
open Go.RowKit
theorem and1 {k : Nat} (h : k ≤ 9223372036854775807) : IntKind.i64.wrap ((BitVec.ofInt IntKind.i64.bits (k : Int) &&& BitVec.ofInt IntKind.i64.bits 1).toNat : Int) = ((k % 2 : Nat) : Int) := by
  have e : ((BitVec.ofInt IntKind.i64.bits (k : Int) &&& BitVec.ofInt IntKind.i64.bits 1).toNat) = k % 2 := by
    show ((BitVec.ofInt 64 (k : Int) &&& BitVec.ofInt 64 1).toNat) = k % 2
    rw [BitVec.toNat_and]
    have h1 : (BitVec.ofInt 64 (k : Int)).toNat = k := by simp; omega
    have h2 : (BitVec.ofInt 64 1).toNat = 1 := by decide
    rw [h1, h2, Nat.and_one_is_mod]
  rw [e]
  have hk : k % 2 = 0 ∨ k % 2 = 1 := by omega
  rcases hk with h | h <;> rw [h] <;> rfl
set_option maxHeartbeats 1000000 in
theorem rodd_p (n : Int) : PCalls Try.prog 60 [vi n] (· = vb (oddB n)) := by
  refine pcalls_of_aw Try.func60 rfl (Nat.le_of_ble_eq_true rfl) ?_
  (repeat' (first | (refine ar_isq ?_; first | refine zmv ?_ | refine zas ?_ | (refine is_binOp ?_; first | refine zlss ?_ | refine zgtr ?_) | (refine is_pick ?_; first | refine zpt ?_ | refine zpf ?_)) | (refine zg ?_ ?_ <;> intro hg <;> first | exact absurd hg (by decide) | ((try replace hg := HG.out hg); (try dsimp only at hg); (try (have _h : True := hg; clear _h hg)); first | (exfalso; omega) | skip)) | (refine zgu ?_) | (refine ar_nil ?_) | (refine aw_seq ?_) | (refine aw_skip ?_) | (refine aw_block ?_) | (refine aw_exit ?_) | (refine aw_region ?_) | (refine zco ?_ ?_ <;> intro hg <;> first | exact absurd hg (by decide) | ((try replace hg := HG.out hg); (try dsimp only at hg); (try (have _h : True := hg; clear _h hg)); first | (exfalso; omega) | skip))))
  all_goals (refine aw_ret ?_; (repeat (first | refine ret_then ?_ | refine ret_block ?_)); refine bq1 rfl ⟨?_, rfl⟩)
  all_goals (simp only [vb, constV, oddB]; congr 2; simp; try omega)
theorem anyOdd_p (f : List Int) : PCalls Try.prog 44 [encInts f, .fn (.func 60) [] []] (· = vb (f.any oddB)) := containsInts_p f fn60 rfl _ (fun x _ => rodd_p x)
set_option maxHeartbeats 1000000 in
theorem rCheck_p (f : List Int) : PCalls Try.prog 41 [encInts f] (· = vi (rosE f)) := by
  (refine pcalls_know (fun I us h => rel_len (rel_arg h (j := 0) rfl)) fun hlen0 => ?_)
  refine pcalls_of_aw Try.func41 rfl (Nat.le_of_ble_eq_true rfl) ?_
  (repeat' (first | (refine ar_isq ?_; first | refine zmv ?_ | refine zas ?_ | (refine is_binOp ?_; first | refine zlss ?_ | refine zgtr ?_) | (refine is_call ?_; first | refine zll ?_ | refine zls ?_ | refine zln ?_ | refine zle ?_) | (refine is_pick ?_; first | refine zpt ?_ | refine zpf ?_)) | (refine ar_pcall (own := false) fn44 rfl rfl (.cons (.closed rfl) (.cons (.closed rfl) .nil)) (anyOdd_p f) (by simp) (dc rfl) ?_; intro _ hv; subst hv) | (refine zg ?_ ?_ <;> intro hg <;> first | exact absurd hg (by decide) | ((try replace hg := HG.out hg); (try dsimp only at hg); (try (have _h : True := hg; clear _h hg)); first | (exfalso; omega) | skip)) | (refine zgu ?_) | (refine ar_nil ?_) | (refine aw_seq ?_) | (refine aw_skip ?_) | (refine aw_block ?_) | (refine aw_exit ?_) | (refine aw_region ?_) | (refine zco ?_ ?_ <;> intro hg <;> first | exact absurd hg (by decide) | ((try replace hg := HG.out hg); (try dsimp only at hg); (try (have _h : True := hg; clear _h hg)); first | (exfalso; omega) | skip))))
  all_goals (refine aw_ret ?_; (repeat (first | refine ret_then ?_ | refine ret_block ?_)); refine bq1 rfl ⟨?_, rfl⟩)
  all_goals (unfold rosE; first | (rw [if_pos (by first | (left; omega) | (right; left; omega) | (right; right; assumption))]; rfl) | (rw [if_neg (by simp_all; omega)]; rfl))
set_option maxHeartbeats 1000000 in
theorem rRubber_p (b : List Int) (n : Int) : PCalls Try.prog 42 [encInts b, vi n] (· = vi (rubE b n)) := by
  (refine pcalls_know (fun I us h => rel_len (rel_arg h (j := 0) rfl)) fun hlen0 => ?_)
  refine pcalls_of_aw Try.func42 rfl (Nat.le_of_ble_eq_true rfl) ?_
  (repeat' (first | (refine ar_isq ?_; first | refine zmv ?_ | refine zas ?_ | (refine is_load ?_; first | refine zlp ?_ | refine zlr ?_) | (refine is_binOp ?_; first | refine zgtr ?_ | refine zeql ?_ | refine ar_q (qs_and rfl rfl (andMask (by omega))) (dc rfl) ?_ | refine zquo ?_) | (refine is_indexAddr ?_; first | refine zil ?_ | refine zis ?_ | refine zit ?_ | refine zia ?_ | refine zir ?_ | refine zil (j := b.length / 2) ?_ | refine zis (j := b.length / 2) ?_ | refine zit (j := b.length / 2) ?_ | (refine zxl ?_; intro _ _ _) | (refine zxs ?_; intro _ _ _)) | (refine is_call ?_; first | refine zll ?_ | refine zls ?_ | refine zln ?_ | refine zle ?_) | (refine is_pick ?_; first | refine zpt ?_ | refine zpf ?_)) | (refine ar_q (qs_and rfl rfl (and1 (by omega))) (dc rfl) ?_) | (refine ar_pcall (own := false) fn44 rfl rfl (.cons (.closed rfl) (.cons (.closed rfl) .nil)) (anyOdd_p b) (by simp) (dc rfl) ?_; intro _ hv; subst hv) | (refine zg ?_ ?_ <;> intro hg <;> first | exact absurd hg (by decide) | ((try replace hg := HG.out hg); (try dsimp only at hg); (try (have _h : True := hg; clear _h hg)); first | (exfalso; omega) | skip)) | (refine zgu ?_) | (refine ar_nil ?_) | (refine aw_seq ?_) | (refine aw_skip ?_) | (refine aw_block ?_) | (refine aw_exit ?_) | (refine aw_region ?_) | (refine zco ?_ ?_ <;> intro hg <;> first | exact absurd hg (by decide) | ((try replace hg := HG.out hg); (try dsimp only at hg); (try (have _h : True := hg; clear _h hg)); first | (exfalso; omega) | skip))))
  all_goals first
    | (exfalso; omega)
    | ((refine aw_ret ?_; (repeat (first | refine ret_then ?_ | refine ret_block ?_)); refine bq1 rfl ⟨?_, rfl⟩); unfold rubE; rw [if_pos (by first | (left; omega) | (right; left; omega) | (right; right; left; omega) | (right; right; right; left; assumption) | (right; right; right; right; omega))]; rfl)
    | ((refine aw_ret ?_; (repeat (first | refine ret_then ?_ | refine ret_block ?_)); refine bq1 rfl ⟨?_, rfl⟩); unfold rubE; rw [if_neg (by simp_all; omega)]; rfl)
    | trace_state
set_option maxHeartbeats 1000000 in
theorem rBoth_p (f b : List Int) : PCalls Try.prog 77 [encInts f, encInts b] (· = vi (if rosE f = 0 then rubE b f.length else rosE f)) := by
  refine pcalls_of_aw Try.func77 rfl (Nat.le_of_ble_eq_true rfl) ?_
  (repeat' (first | (refine ar_isq ?_; first | refine zmv ?_ | refine zas ?_ | refine zneq ?_ | (refine is_call ?_; first | refine zll ?_ | refine zls ?_ | refine zln ?_ | refine zle ?_)) | (refine ar_pcall (own := false) fn41 rfl rfl (.cons (.closed rfl) .nil) (rCheck_p f) (by simp) (dc rfl) ?_; intro _ hv; subst hv) | (refine ar_pcall (own := false) fn42 rfl rfl (.cons (.closed rfl) (.cons (.closed rfl) .nil)) (rRubber_p b f.length) (by simp) (dc rfl) ?_; intro _ hv; subst hv) | (refine ar_nil ?_) | (refine aw_seq ?_) | (refine aw_skip ?_) | (refine aw_block ?_) | (refine aw_exit ?_) | (refine aw_region ?_) | (refine zco ?_ ?_ <;> intro hg <;> first | exact absurd hg (by decide) | ((try replace hg := HG.out hg); (try dsimp only at hg); (try (have _h : True := hg; clear _h hg)); first | (exfalso; omega) | skip))))
  all_goals (refine aw_ret ?_; (repeat (first | refine ret_then ?_ | refine ret_block ?_)); refine bq1 rfl ⟨?_, rfl⟩)
  · rw [if_neg (by assumption)]
  · rw [if_pos (by assumption)]
set_option maxHeartbeats 1000000 in
theorem raround_p (p n : Int) (hn : 0 < n) (hb : n ≤ 1000) : PCalls Try.prog 84 [vi p, vi n] (· = vi (p % n)) := by
  have ht := tmod_mod p hn
  have hlo := tmod_gt p hn
  have hhi := Int.tmod_lt_of_pos p hn
  refine pcalls_of_aw Try.func84 rfl (Nat.le_of_ble_eq_true rfl) ?_
  (repeat' (first | (refine ar_isq ?_; first | refine zmv ?_ | refine zas ?_ | (refine is_binOp ?_; first | refine zlss ?_ | refine zadd ?_ | refine zrem ?_)) | (refine ar_q (qs_rem rfl rfl (by omega) rfl) (dc rfl) ?_) | (refine ar_nil ?_) | (refine aw_seq ?_) | (refine aw_skip ?_) | (refine aw_block ?_) | (refine aw_exit ?_) | (refine aw_region ?_) | (refine zco ?_ ?_ <;> intro hg <;> first | exact absurd hg (by decide) | ((try replace hg := HG.out hg); (try dsimp only at hg); (try (have _h : True := hg; clear _h hg)); first | (exfalso; omega) | skip))))
  all_goals first
    | (exfalso; omega)
    | ((refine aw_ret ?_; (repeat (first | refine ret_then ?_ | refine ret_block ?_)); refine bq1 rfl ⟨?_, rfl⟩); rw [ht, if_pos (by omega)]; rfl)
    | ((refine aw_ret ?_; (repeat (first | refine ret_then ?_ | refine ret_block ?_)); refine bq1 rfl ⟨?_, rfl⟩); rw [ht, if_neg (by omega)]; rfl)
    | trace_state
theorem rdrop_p (x y : Int) (hx : 0 ≤ x ∧ x ≤ 10000) (hy : 0 ≤ y ∧ y ≤ 10000) : PCalls Try.prog 79 [vi x, vi y] (· = vi (x - y)) := by
  refine pcalls_of_aw Try.func79 rfl (Nat.le_of_ble_eq_true rfl) ?_
  (repeat' (first | (refine ar_isq ?_; first | refine zmv ?_ | refine zas ?_ | refine zsub ?_) | (refine ar_nil ?_) | (refine aw_seq ?_) | (refine aw_skip ?_) | (refine aw_block ?_) | (refine aw_exit ?_) | (refine aw_region ?_) | (refine zco ?_ ?_ <;> intro hg <;> first | exact absurd hg (by decide) | ((try replace hg := HG.out hg); (try dsimp only at hg); (try (have _h : True := hg; clear _h hg)); first | (exfalso; omega) | skip))))
  (refine aw_ret ?_; (repeat (first | refine ret_then ?_ | refine ret_block ?_)); refine bq1 rfl ⟨?_, rfl⟩)
  rfl
theorem rmax_p (x y : Int) : PCalls Try.prog 80 [vi x, vi y] (· = vi (max x y)) := by
  refine pcalls_of_aw Try.func80 rfl (Nat.le_of_ble_eq_true rfl) ?_
  (repeat' (first | (refine ar_isq ?_; first | refine zmv ?_ | refine zas ?_ | refine zmax ?_) | (refine ar_nil ?_) | (refine aw_seq ?_) | (refine aw_skip ?_) | (refine aw_block ?_) | (refine aw_exit ?_) | (refine aw_region ?_) | (refine zco ?_ ?_ <;> intro hg <;> first | exact absurd hg (by decide) | ((try replace hg := HG.out hg); (try dsimp only at hg); (try (have _h : True := hg; clear _h hg)); first | (exfalso; omega) | skip))))
  (refine aw_ret ?_; (repeat (first | refine ret_then ?_ | refine ret_block ?_)); refine bq1 rfl ⟨?_, rfl⟩)
  rfl
theorem offsets_p (b : List Int) : PCalls Try.prog 83 [encInts b] (· = .fn (.func 86) [] [.ref (encInts b) 0]) := by
  refine pcalls_of_aw Try.func83 rfl (Nat.le_of_ble_eq_true rfl) ?_
  (repeat' (first | (refine ar_isq ?_; first | refine zas ?_ | refine zmf ?_) | (refine zbx ?_) | (refine ar_nil ?_) | (refine aw_seq ?_) | (refine aw_skip ?_) | (refine aw_block ?_) | (refine aw_exit ?_) | (refine aw_region ?_) | (refine zco ?_ ?_ <;> intro hg <;> first | exact absurd hg (by decide) | ((try replace hg := HG.out hg); (try dsimp only at hg); (try (have _h : True := hg; clear _h hg)); first | (exfalso; omega) | skip))))
  (refine aw_mono_r (env' := [(2, .fn (.func 86) [] [.ref (encInts b) 0])]) (H' := []) ?_ ?_; (focus ((refine sub_to [] [0] rfl ?_ ?_ <;> (repeat' (first | exact trivial | refine ⟨⟨_, rfl, ?_⟩, ?_⟩ | refine ⟨bsub_snoc rfl rfl (fun _ => rfl) ?_, ?_⟩ | refine ⟨bsub_one rfl rfl ?_, ?_⟩ | refine ⟨bsub_all rfl rfl (fun _ _ => rfl) (fun _ => rfl), ?_⟩ | refine ⟨bsub_updL rfl rfl ?_ (fun _ _ _ => rfl) (fun _ => rfl), ?_⟩ | refine ⟨.inl ⟨_, _, rfl, rfl, ?_⟩, ?_⟩ | exact ⟨.inr ⟨rfl, rfl⟩, trivial⟩ | refine ⟨.inr ⟨rfl, rfl⟩, ?_⟩ | (intro _ _) | exact vz1 | (exact fn1_subL (frzPtr' (by simp) rfl (by omega) rfl rfl)) | exact vz2 | fail))); done)))
  (refine aw_ret ?_; (repeat (first | refine ret_then ?_ | refine ret_block ?_)); refine bq1 rfl ⟨?_, rfl⟩)
  rfl
theorem catTo_lenW {b : List (List Int)} (hb : ∀ l, l ∈ b → l.length ≤ 200) : ∀ k, k ≤ b.length → (catTo b k).length ≤ 200 * k
  | 0, _ => by simp [catTo]
  | k + 1, h => by
    have h1 := catTo_lenW hb k (by omega)
    have h2 := hb _ (el_mem (l := b) (k := k) (by omega))
    rw [catTo_succ (by omega), List.length_append]
    omega
set_option maxHeartbeats 1000000 in
theorem concatW_p (b : List (List Int)) (h20 : b.length ≤ 20) (h60 : ∀ l, l ∈ b → l.length ≤ 200) : PCalls Try.prog 85 [encRows b] (· = encInts b.flatten) := by
  refine pcalls_of_aw Try.func85 rfl (Nat.le_of_ble_eq_true rfl) ?_
  (repeat' (first | (refine ar_isq ?_; first | refine zmv ?_ | refine zas ?_ | (refine is_load ?_; first | refine zlp ?_ | refine zlr ?_) | (refine is_binOp ?_; first | refine zlss ?_ | refine zadd ?_) | (refine is_indexAddr ?_; first | refine zil ?_ | refine zis ?_ | refine zit ?_ | refine zia ?_ | refine zir ?_ | (refine zxl ?_; intro _ _ _) | (refine zxs ?_; intro _ _ _)) | (refine is_call ?_; first | refine zll ?_ | refine zls ?_ | refine zln ?_ | refine zle ?_)) | (refine zapoo ?_) | (refine zapol ?_) | (refine zapno ?_) | (refine zapnl ?_) | (refine zapeo ?_) | (refine zapel ?_) | (refine ar_nil ?_) | (refine aw_seq ?_) | (refine aw_skip ?_) | (refine aw_block ?_) | (refine aw_exit ?_) | (refine aw_region ?_) | (refine zco ?_ ?_ <;> intro hg <;> first | exact absurd hg (by decide) | ((try replace hg := HG.out hg); (try dsimp only at hg); (try (have _h : True := hg; clear _h hg)); first | (exfalso; omega) | skip))))
  refine aw_for b.length (fun _ => True) (fun k => [(0, encRows b), (3, vi (catTo b k).length), (9, encRows b), (10, vi b.length), (11, vi k)]) (fun _ => []) trivial ?_ ?_
  · (refine sub_to [] [] rfl ?_ ?_ <;> (repeat' (first | exact trivial | refine ⟨⟨_, rfl, ?_⟩, ?_⟩ | refine ⟨bsub_snoc rfl rfl (fun _ => rfl) ?_, ?_⟩ | refine ⟨bsub_one rfl rfl ?_, ?_⟩ | refine ⟨bsub_all rfl rfl (fun _ _ => rfl) (fun _ => rfl), ?_⟩ | refine ⟨bsub_updL rfl rfl ?_ (fun _ _ _ => rfl) (fun _ => rfl), ?_⟩ | refine ⟨.inl ⟨_, _, rfl, rfl, ?_⟩, ?_⟩ | exact ⟨.inr ⟨rfl, rfl⟩, trivial⟩ | refine ⟨.inr ⟨rfl, rfl⟩, ?_⟩ | (intro _ _) | exact vz1 | exact vz2 | fail)))
  intro k hk _
  have hcl := catTo_lenW h60 k hk
  by_cases hlt : k < b.length
  · have hel := h60 _ (el_mem hlt)
    (repeat' (first | (refine ar_isq ?_; first | refine zmv ?_ | refine zas ?_ | (refine is_load ?_; first | refine zlp ?_ | refine zlr ?_) | (refine is_binOp ?_; first | refine zlss ?_ | refine zadd ?_) | (refine is_indexAddr ?_; first | refine zil ?_ | refine zis ?_ | refine zit ?_ | refine zia ?_ | refine zir ?_ | (refine zxl ?_; intro _ _ _) | (refine zxs ?_; intro _ _ _)) | (refine is_call ?_; first | refine zll ?_ | refine zls ?_ | refine zln ?_ | refine zle ?_)) | (refine zapoo ?_) | (refine zapol ?_) | (refine zapno ?_) | (refine zapnl ?_) | (refine zapeo ?_) | (refine zapel ?_) | (refine ar_nil ?_) | (refine aw_seq ?_) | (refine aw_skip ?_) | (refine aw_block ?_) | (refine aw_exit ?_) | (refine aw_region ?_) | (refine zco ?_ ?_ <;> intro hg <;> first | exact absurd hg (by decide) | ((try replace hg := HG.out hg); (try dsimp only at hg); (try (have _h : True := hg; clear _h hg)); first | (exfalso; omega) | skip))))
    all_goals first
      | (exfalso; omega)
      | (rw [catTo_succ hlt]; ((first | refine loop_next (by omega) ?_ ?_ | refine (show _ ∧ _ ∧ SubOf _ _ _ _ _ _ from And.intro (by omega) (And.intro ?_ ?_))); (focus ((trivial); done)); (focus ((refine sub_to [] [] rfl ?_ ?_ <;> (repeat' (first | exact trivial | refine ⟨⟨_, rfl, ?_⟩, ?_⟩ | refine ⟨bsub_snoc rfl rfl (fun _ => rfl) ?_, ?_⟩ | refine ⟨bsub_one rfl rfl ?_, ?_⟩ | refine ⟨bsub_all rfl rfl (fun _ _ => rfl) (fun _ => rfl), ?_⟩ | refine ⟨bsub_updL rfl rfl ?_ (fun _ _ _ => rfl) (fun _ => rfl), ?_⟩ | refine ⟨.inl ⟨_, _, rfl, rfl, ?_⟩, ?_⟩ | exact ⟨.inr ⟨rfl, rfl⟩, trivial⟩ | refine ⟨.inr ⟨rfl, rfl⟩, ?_⟩ | (intro _ _) | exact vz1 | (exact siEq (by rw [List.length_append]; omega)) | exact vz2 | fail))); done))))
  · (repeat' (first | (refine ar_isq ?_; first | refine zmv ?_ | refine zas ?_ | (refine is_load ?_; first | refine zlp ?_ | refine zlr ?_) | (refine is_binOp ?_; first | refine zlss ?_ | refine zadd ?_) | (refine is_indexAddr ?_; first | refine zil ?_ | refine zis ?_ | refine zit ?_ | refine zia ?_ | refine zir ?_ | (refine zxl ?_; intro _ _ _) | (refine zxs ?_; intro _ _ _)) | (refine is_call ?_; first | refine zll ?_ | refine zls ?_ | refine zln ?_ | refine zle ?_)) | (refine ar_fcall fn87 rfl rfl (.cons (.closed rfl) (.cons (.closed rfl) .nil)) (grow_p (catTo b k).length (by omega) (by omega)) (dc rfl) ?_; rintro _ g0 rfl) | (refine zapoo ?_) | (refine zapol ?_) | (refine zapno ?_) | (refine zapnl ?_) | (refine zapeo ?_) | (refine zapel ?_) | (refine ar_nil ?_) | (refine aw_seq ?_) | (refine aw_skip ?_) | (refine aw_block ?_) | (refine aw_exit ?_) | (refine aw_region ?_) | (refine zco ?_ ?_ <;> intro hg <;> first | exact absurd hg (by decide) | ((try replace hg := HG.out hg); (try dsimp only at hg); (try (have _h : True := hg; clear _h hg)); first | (exfalso; omega) | skip))))
    all_goals (try (exfalso; omega))
    refine aw_for b.length (fun _ => True) (fun k => [(6, .sl 1 0 0 (catTo b k).length), (25, encRows b), (26, vi b.length), (27, vi k)]) (fun k => [LB 1 vi (catTo b k)]) trivial ?_ ?_
    · (refine sub_to [some 0] [] rfl ?_ ?_ <;> (repeat' (first | exact trivial | refine ⟨⟨_, rfl, ?_⟩, ?_⟩ | refine ⟨bsub_snoc rfl rfl (fun _ => rfl) ?_, ?_⟩ | refine ⟨bsub_one rfl rfl ?_, ?_⟩ | refine ⟨bsub_all rfl rfl (fun _ _ => rfl) (fun _ => rfl), ?_⟩ | refine ⟨bsub_updL rfl rfl ?_ (fun _ _ _ => rfl) (fun _ => rfl), ?_⟩ | refine ⟨.inl ⟨_, _, rfl, rfl, ?_⟩, ?_⟩ | exact ⟨.inr ⟨rfl, rfl⟩, trivial⟩ | refine ⟨.inr ⟨rfl, rfl⟩, ?_⟩ | (intro _ _) | exact vz1 | ((exfalso; rename_i h; exact absurd h (Nat.not_lt_zero _))) | exact vz2 | fail)))
    intro q hq _
    have hcq := catTo_lenW h60 q hq
    by_cases hltq : q < b.length
    · have hel := h60 _ (el_mem hltq)
      (repeat' (first | (refine ar_isq ?_; first | refine zmv ?_ | refine zas ?_ | (refine is_load ?_; first | refine zlp ?_ | refine zlr ?_) | (refine is_binOp ?_; first | refine zlss ?_ | refine zadd ?_) | (refine is_indexAddr ?_; first | refine zil ?_ | refine zis ?_ | refine zit ?_ | refine zia ?_ | refine zir ?_ | (refine zxl ?_; intro _ _ _) | (refine zxs ?_; intro _ _ _)) | (refine is_call ?_; first | refine zll ?_ | refine zls ?_ | refine zln ?_ | refine zle ?_)) | (refine zapoo ?_) | (refine zapol ?_) | (refine zapno ?_) | (refine zapnl ?_) | (refine zapeo ?_) | (refine zapel ?_) | (refine ar_nil ?_) | (refine aw_seq ?_) | (refine aw_skip ?_) | (refine aw_block ?_) | (refine aw_exit ?_) | (refine aw_region ?_) | (refine zco ?_ ?_ <;> intro hg <;> first | exact absurd hg (by decide) | ((try replace hg := HG.out hg); (try dsimp only at hg); (try (have _h : True := hg; clear _h hg)); first | (exfalso; omega) | skip))))
      all_goals first
        | (exfalso; omega)
        | (rw [catTo_succ hltq]; ((first | refine loop_next (by omega) ?_ ?_ | refine (show _ ∧ _ ∧ SubOf _ _ _ _ _ _ from And.intro (by omega) (And.intro ?_ ?_))); (focus ((trivial); done)); (focus ((refine sub_to [some 1] [] rfl ?_ ?_ <;> (repeat' (first | exact trivial | refine ⟨⟨_, rfl, ?_⟩, ?_⟩ | refine ⟨bsub_snoc rfl rfl (fun _ => rfl) ?_, ?_⟩ | refine ⟨bsub_one rfl rfl ?_, ?_⟩ | refine ⟨bsub_all rfl rfl (fun _ _ => rfl) (fun _ => rfl), ?_⟩ | refine ⟨bsub_updL rfl rfl ?_ (fun _ _ _ => rfl) (fun _ => rfl), ?_⟩ | refine ⟨.inl ⟨_, _, rfl, rfl, ?_⟩, ?_⟩ | exact ⟨.inr ⟨rfl, rfl⟩, trivial⟩ | refine ⟨.inr ⟨rfl, rfl⟩, ?_⟩ | (intro _ _) | exact vz1 | (first | exact slEq rfl (by rw [List.length_append]) | refine ⟨bsub_app rfl rfl rfl rfl (fun _ _ => rfl) (fun _ => rfl) (fun _ _ => .closed rfl), ?_⟩) | exact vz2 | fail))); done))))
    · (repeat' (first | (refine ar_isq ?_; first | refine zmv ?_ | refine zas ?_ | (refine is_load ?_; first | refine zlp ?_ | refine zlr ?_) | (refine is_binOp ?_; first | refine zlss ?_ | refine zadd ?_) | (refine is_indexAddr ?_; first | refine zil ?_ | refine zis ?_ | refine zit ?_ | refine zia ?_ | refine zir ?_ | (refine zxl ?_; intro _ _ _) | (refine zxs ?_; intro _ _ _)) | (refine is_call ?_; first | refine zll ?_ | refine zls ?_ | refine zln ?_ | refine zle ?_)) | (refine zapoo ?_) | (refine zapol ?_) | (refine zapno ?_) | (refine zapnl ?_) | (refine zapeo ?_) | (refine zapel ?_) | (refine ar_nil ?_) | (refine aw_seq ?_) | (refine aw_skip ?_) | (refine aw_block ?_) | (refine aw_exit ?_) | (refine aw_region ?_) | (refine zco ?_ ?_ <;> intro hg <;> first | exact absurd hg (by decide) | ((try replace hg := HG.out hg); (try dsimp only at hg); (try (have _h : True := hg; clear _h hg)); first | (exfalso; omega) | skip))))
      all_goals first
        | (exfalso; omega)
        | ((refine aw_mono_r (env' := [(2, encInts (catTo b q))]) (H' := []) ?_ ?_; (focus ((refine sub_to [] [0] rfl ?_ ?_ <;> (repeat' (first | exact trivial | refine ⟨⟨_, rfl, ?_⟩, ?_⟩ | refine ⟨bsub_snoc rfl rfl (fun _ => rfl) ?_, ?_⟩ | refine ⟨bsub_one rfl rfl ?_, ?_⟩ | refine ⟨bsub_all rfl rfl (fun _ _ => rfl) (fun _ => rfl), ?_⟩ | refine ⟨bsub_updL rfl rfl ?_ (fun _ _ _ => rfl) (fun _ => rfl), ?_⟩ | refine ⟨.inl ⟨_, _, rfl, rfl, ?_⟩, ?_⟩ | exact ⟨.inr ⟨rfl, rfl⟩, trivial⟩ | refine ⟨.inr ⟨rfl, rfl⟩, ?_⟩ | (intro _ _) | exact vz1 | exact vz2 | fail))); done))); (refine aw_ret ?_; (repeat (first | refine ret_then ?_ | refine ret_block ?_)); refine bq1 rfl ⟨?_, rfl⟩); rw [catTo_all (by omega)])
end Go.Proofs.Ytloaefllpokkaaa
