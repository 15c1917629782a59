/- An iterator's own side: code that reads what nobody writes, and calls yield. No condition. -/
import Derived.Test.YtccidiflnmchiaaAm19
namespace Go.Proofs.Ytccidiflnmchiaa.It
open Go.RowKit
/-- What an iterator is handed: the loop, and what a round makes true. -/
structure Cx (P : Program) where
  l : Nat
  I : Imm
  J : Nat → World → Prop
  N : Nat
  el : Nat → List Value
  round : ∀ k W1, J k W1 → k < N → YieldAt Fence.wide 0 P l (el k).toArray W1 fun e W' => e = .returned (.bool true) ∧ J (k + 1) W' ∧ KpI I W1 W'
abbrev Post := AE → Env → Nat → Prop
section
variable {P : Program} (C : Cx P)
def St (nt : Nat) (env : Env) (k : Nat) (a : Act) (w : World) : Prop := EnvOk C.I [] nt env a ∧ (∀ b o, C.I b = some o → w.heap[b]? = some o) ∧ a.defers = [] ∧ C.J k w
def Lift (nt : Nat) (Q : Post) : Exit → Act → World → Prop
  | .normal, a, w => ∃ env k, St C nt env k a w ∧ Q .normal env k
  | .exit id, a, w => ∃ env k, St C nt env k a w ∧ Q (.exit id) env k
  | .goto l, a, w => ∃ env k, St C nt env k a w ∧ Q (.goto l) env k
  | .ret, a, w => ∃ env k, St C nt env k a w ∧ Q .ret env k
  | .panic _, _, _ => False
  | .outgrown, _, _ => False
structure AW (nt : Nat) (c : Code) (Q : Post) (env : Env) (k : Nat) : Prop where
  out : ∀ a w, St C nt env k a w → c.wpIn (Fw none) 0 P (Lift C nt Q) a w
structure AR (nt : Nat) (ops : Array Oper) (Q : Post) (l : List Stp) (env : Env) (k : Nat) : Prop where
  out : ∀ a w, St C nt env k a w → runP P none ops (Lift C nt Q) l (Keeps C.I [] [] w) a w
end
def thenP (next : Env → Nat → Prop) (Q : Post) : Post
  | .normal, env, k => next env k
  | e, env, k => Q e env k
def inBlockP (id : Nat) (Q : Post) : Post
  | .exit id', env, k => bif Nat.beq id' id then Q .normal env k else Q (.exit id') env k
  | e, env, k => Q e env k
def Has (env : Env) : Env → Prop
  | [] => True
  | (t, v) :: l => look env t = some v ∧ Has env l
section
variable {P : Program} {C : Cx P} {nt : Nat} {Q Q' : Post} {env env' : Env} {k : Nat} {ops : Array Oper} {l : List Stp} {dst : Nat} {ty : TypeId} {pos : String} {after : Array Edge}
theorem has_look : ∀ {e : Env} {t : Nat} {v : V}, Has env e → look e t = some v → look env t = some v
  | [], _, _, _, h => by simp [look] at h
  | (k, y) :: l, t, v, hs, h => by
    rw [look_cons] at h
    split at h
    · rename_i e; subst e; cases h; exact hs.1
    · exact has_look hs.2 h
theorem St.has {a : Act} {w : World} (h : St C nt env k a w) (he : Has env env') : St C nt env' k a w := ⟨⟨h.1.1, fun t v ht => h.1.2 t v (has_look he ht)⟩, h.2⟩
theorem Lift.mono (h : ∀ e env k, Q e env k → Q' e env k) : ∀ e a w, Lift C nt Q e a w → Lift C nt Q' e a w
  | .normal, _, _, ⟨a, b, c, d⟩ => ⟨a, b, c, h _ _ _ d⟩
  | .exit _, _, _, ⟨a, b, c, d⟩ => ⟨a, b, c, h _ _ _ d⟩
  | .goto _, _, _, ⟨a, b, c, d⟩ => ⟨a, b, c, h _ _ _ d⟩
  | .ret, _, _, ⟨a, b, c, d⟩ => ⟨a, b, c, h _ _ _ d⟩
  | .panic _, _, _, h => h
  | .outgrown, _, _, h => h
theorem aw_skip (h : Q .normal env k) : AW C nt .skip Q env k := .mk fun _ _ hs => wpIn_skip ⟨env, k, hs, h⟩
theorem aw_exit {id : Nat} (h : Q (.exit id) env k) : AW C nt (.exit id) Q env k := .mk fun _ _ hs => wpIn_exit ⟨env, k, hs, h⟩
theorem aw_ret (h : Q .ret env k) : AW C nt .ret Q env k := .mk fun _ _ hs => wpIn_ret ⟨env, k, hs, h⟩
theorem lift_then {nxt : Env → Nat → Prop} {K : Act → World → Prop} (h : ∀ env k a w, St C nt env k a w → nxt env k → K a w) : ∀ e a w, Lift C nt (thenP nxt Q) e a w → Exit.then K (Lift C nt Q) e a w
  | .normal, _, _, ⟨_, _, c, d⟩ => h _ _ _ _ c d
  | .exit _, _, _, h => h
  | .goto _, _, _, h => h
  | .ret, _, _, h => h
  | .panic _, _, _, h => h
  | .outgrown, _, _, h => h
theorem aw_seq {x y : Code} (h : AW C nt x (thenP (AW C nt y Q) Q) env k) : AW C nt (.seq x y) Q env k := .mk
  fun a w hs => wpIn_seq (wpIn_mono (h.1 a w hs) (lift_then fun _ _ a w hs h => h.1 a w hs))
theorem aw_cond {c : Operand} {x y : Code} {b : Bool} (hc : eo env c = some (.s (.bool b))) (ht : b = true → AW C nt x Q env k) (hf : b = false → AW C nt y Q env k) : AW C nt (.cond c x y) Q env k := .mk
  fun a w hs => wpIn_cond_split (eo_bool hs.1 hc) (fun e => (ht e).1 a w hs) (fun e => (hf e).1 a w hs)
theorem aw_block {id : Nat} {c : Code} (h : AW C nt c (inBlockP id Q) env k) : AW C nt (.block id c) Q env k := .mk
  fun a w hs => wpIn_block (wpIn_mono (h.1 a w hs) fun e a w h => by
    cases e with
    | exit id' =>
      obtain ⟨env, k, hs, hq⟩ := h
      simp only [inBlockP] at hq
      simp only [Exit.inBlock]
      cases hb : Nat.beq id' id
      · rw [hb] at hq
        rw [if_neg (fun e => by rw [e, Nat.beq_refl] at hb; cases hb)]
        exact ⟨env, k, hs, hq⟩
      · rw [hb] at hq
        rw [if_pos (Nat.eq_of_beq_eq_true hb)]
        exact ⟨env, k, hs, hq⟩
    | normal => exact h
    | goto _ => exact h
    | ret => exact h
    | panic _ => exact h
    | outgrown => exact h)
/-- A loop that hands over one element in each round. -/
theorem aw_for {c : Code} (M : Nat) (E : Nat → Env) (hk : k ≤ M) (h0 : Has env (E k)) (round : ∀ j, j ≤ M → AW C nt c (thenP (fun env' k' => j < M ∧ k' = j + 1 ∧ Has env' (E (j + 1))) Q) (E j) j) : AW C nt (.loop c) Q env k := .mk fun a w hs =>
  wpIn_loopN (fun n a w => ∃ j, j ≤ M ∧ n = M - j ∧ St C nt (E j) j a w) (M - k) ⟨k, hk, rfl, hs.has h0⟩ fun n a w ⟨j, hj, hn, hs⟩ =>
    wpIn_mono ((round j hj).1 a w hs) (lift_then fun env' k' a' w' hs' h => by
      obtain ⟨h1, rfl, h3⟩ := h
      exact ⟨M - (j + 1), by omega, j + 1, h1, rfl, hs'.has h3⟩)
theorem wok {I : Imm} {w : World} (h : ∀ b o, I b = some o → w.heap[b]? = some o) : WOk (Ctx.self w [] [] I) I [] [] w := WOk.begin h
theorem aw_region {l : List Oper} {id : Nat} (h : AR C nt l.toArray Q (textPlan l 0) env k) : AW C nt (.region id l.toArray false) Q env k := .mk
  fun a w hs => region_text (Keeps C.I [] [] w) (Keeps.refl (wok hs.2.1)) (h.1 a w hs)
theorem ar_nil (h : Q .normal env k) : AR C nt ops Q [] env k := .mk fun _ _ hs => ⟨env, k, hs, h⟩
theorem ar_q {i d : Nat} {op : Op} {v : V} (h : QS P nt env [] ⟨some d, op, ty, pos, after, none⟩ v) (hd : d < nt) (hk : AR C nt ops Q l ((d, v) :: env) k) :
    AR C nt ops Q (.q i ⟨some d, op, ty, pos, after, none⟩ :: l) env k := .mk fun a w hs => by
  refine ⟨fun _ => ?_, fun hw => by rw [wanted_none rfl] at hw; cases hw⟩
  obtain ⟨u, h1, h2⟩ := h.1 _ C.I [] a w hs.1 (wok hs.2.1)
  exact ⟨u, h2, hk.1 _ w ⟨hs.1.put h1 hd, hs.2⟩⟩
theorem ar_guard {s : Stp} {g t d : Nat} {b want : Bool} (hg : s.oper.guard = some (g, want)) (ht : (ops[g]?).bind (·.dst) = some t) (hb : look env t = some (.s (.bool b))) (hd : s.oper.dst = some d) (hdn : d < nt)
    (hy : b = want → AR C nt ops Q (s.bare :: l) ((t, .s (.bool want)) :: env) k) (hn : b = !want → AR C nt ops Q l ((d, .s undef) :: (t, .s (.bool !want)) :: env) k) : AR C nt ops Q (s :: l) env k := .mk fun a w hs => by
  obtain ⟨h1, h2⟩ := hs.1.2 t _ hb
  have ev : a.tmps.getD t undef = .bool b := by cases h2' : a.tmps.getD t undef <;> rw [h2'] at h2 <;> cases h2; rfl
  have ey : yielded ops a.tmps g = some b := by
    unfold yielded
    have hlt : t < a.tmps.size := by rw [hs.1.1]; exact h1
    simp only [ht, Option.bind_some]
    simp [hlt] at ev
    simp [hlt, ev]
  have hw : Region.wanted s.oper (yielded ops a.tmps) = (b == want) := by
    unfold Region.wanted
    rw [hg]
    simp only [ey]
    cases b <;> cases want <;> rfl
  have sub : ∀ b', b = b' → EnvOk C.I [] nt ((t, .s (.bool b')) :: env) a := fun b' e => by
    subst e
    refine ⟨hs.1.1, fun t' v' h' => ?_⟩
    rw [look_cons] at h'
    split at h'
    · rename_i e; subst e; cases h'; exact ⟨h1, h2⟩
    · exact hs.1.2 t' v' h'
  by_cases e : b = want
  · have ih := (hy e).1 a w ⟨sub _ e, hs.2⟩
    clear hy hn
    have hwt : Region.wanted s.oper (yielded ops a.tmps) = true := by rw [hw, e]; simp
    cases s with
    | q i o =>
      have ih : (Region.wanted { o with guard := none } (yielded ops a.tmps) = true → _) ∧ _ := ih
      exact ⟨fun _ => ih.1 (wanted_none rfl), fun h' => absurd (h'.symm.trans hwt) (by decide)⟩
    | l i o k =>
      have ih : (Region.wanted { o with guard := none } (yielded ops a.tmps) = true → _) ∧ _ := ih
      exact ⟨fun _ => ih.1 (wanted_none rfl), fun h' => absurd (h'.symm.trans hwt) (by decide)⟩
  · have e' : b = !want := by cases b <;> cases want <;> simp_all
    have hwf : Region.wanted s.oper (yielded ops a.tmps) = false := by rw [hw, e']; cases want <;> rfl
    have ih : runP P none ops (Lift C nt Q) l (Keeps C.I [] [] w) (a.put (some d) undef) w := (hn e').1 _ w ⟨(sub _ e').put (.s _) hdn, hs.2⟩
    rw [← hd] at ih
    cases s with
    | q i o => exact ⟨fun h' => absurd (h'.symm.trans hwf) (by decide), fun _ => ih⟩
    | l i o k => exact ⟨fun h' => absurd (h'.symm.trans hwf) (by decide), fun _ => ih⟩
theorem ar_guard_u {s : Stp} {g t e : Nat} {want : Bool} (hg : s.oper.guard = some (g, want)) (ht : (ops[g]?).bind (·.dst) = some t) (hd : s.oper.dst = some e) (hb : look env t = some (.s undef)) (hdn : e < nt) (h : AR C nt ops Q l ((e, .s undef) :: env) k) : AR C nt ops Q (s :: l) env k := .mk fun a w hs => by
  obtain ⟨h1, h2⟩ := hs.1.2 t _ hb
  have ev : a.tmps.getD t undef = undef := by generalize a.tmps.getD t undef = u at h2; cases h2; rfl
  have hwf : Region.wanted s.oper (yielded ops a.tmps) = false := by
    unfold Region.wanted
    rw [hg]
    have : yielded ops a.tmps g = none := by
      unfold yielded
      have hlt : t < a.tmps.size := by rw [hs.1.1]; exact h1
      simp only [ht, Option.bind_some]
      simp [hlt] at ev
      simp [hlt, ev, undef]
    simp only [this]
    cases want <;> rfl
  have ih : runP P none ops (Lift C nt Q) l (Keeps C.I [] [] w) (a.put (some e) undef) w := h.1 _ w ⟨hs.1.put (.s _) hdn, hs.2⟩
  rw [← hd] at ih
  cases s with
  | q i o => exact ⟨fun h' => absurd (h'.symm.trans hwf) (by decide), fun _ => ih⟩
  | l i o k => exact ⟨fun h' => absurd (h'.symm.trans hwf) (by decide), fun _ => ih⟩
theorem evals_s {I : Imm} {a : Act} (he : EnvOk I [] nt env a) : ∀ {xs : List Operand} {us : List Value}, xs.mapM (eo env) = some (us.map V.s) → xs.map a.eval = us
  | [], us, h => by cases us <;> simp at h; rfl
  | x :: xs, us, h => by
    simp only [List.mapM_cons, Option.pure_def, Option.bind_eq_bind, Option.bind_eq_some_iff] at h
    obtain ⟨v0, hv0, vs', hvs, h'⟩ := h
    cases us with
    | nil => simp at h'
    | cons u us =>
      simp at h'
      obtain ⟨rfl, rfl⟩ := h'
      rw [List.map_cons, evals_s he hvs]
      have := eo_rel he hv0
      generalize a.eval x = y at this ⊢
      cases this
      rfl
theorem yield_run {fo : Operand} {args : List Operand} {ats : Array TypeId} {lp : Nat} {a : Act} {w : World} {res : Result Next} {d : Option Tmp} {guard : Option (Nat × Bool)} (hv : a.eval fo = .func (.yield lp) #[] #[]) (hr : (Instr.yield lp (args.map a.eval).toArray).run P w = res) :
    (execOp a.eval ⟨d, .call ⟨.value fo, args.toArray, ats⟩, ty, pos, after, guard⟩).run P w = res := by
  simp only [execOp, resolve, Sem.run_bind, hv, Deferred.ofValue, Sem.run_pure, Result.andThen_ok, invoke]
  rw [show (args.toArray.map a.eval) = (args.map a.eval).toArray by simp]
  simpa using hr
/-- yield. -/
theorem ar_yield {i d : Nat} {fo : Operand} {args : List Operand} {ats : Array TypeId} {us : List Value} (hf : eo env fo = some (.s (.func (.yield C.l) #[] #[]))) (hargs : args.mapM (eo env) = some (us.map V.s)) (hk : k < C.N) (hel : C.el k = us) (hd : d < nt)
    (h : AR C nt ops Q l ((d, .s (.bool true)) :: env) (k + 1)) : AR C nt ops Q (.l i ⟨some d, .call ⟨.value fo, args.toArray, ats⟩, ty, pos, after, none⟩ false :: l) env k := .mk fun a w hs => by
  refine ⟨fun _ => ?_, fun hw => by rw [wanted_none rfl] at hw; cases hw⟩
  have h1 := eo_rel hs.1 hf
  have ev : a.eval fo = .func (.yield C.l) #[] #[] := by generalize a.eval fo = y at h1; cases h1; rfl
  obtain ⟨fn, tmps, assign, body, hy, hR⟩ := C.round k w hs.2.2.2 hk
  rw [hel, ← evals_s hs.1 hargs] at hy
  refine wpIn_of_run (by simp) (yield_run ev hy) ⟨fun h => by simp [Fw, Fence.wide] at h, ?_⟩
  refine RoundIn.mono hR fun e w' ⟨he, hJ, hK⟩ => ?_
  subst he
  exact ⟨Keeps C.I [] [] w', Keeps.refl (wok fun b o hb => hK b o hb (hs.2.1 b o hb)), (fun h => by cases h), h.1 _ w' ⟨hs.1.put (.s _) hd, fun b o hb => hK b o hb (hs.2.1 b o hb), hs.2.2.1, hJ⟩⟩
/-! ### For 'go' -/
theorem ar_isq {i d : Nat} {op : Op} (h : AR C nt ops Q (.q i ⟨some d, op, ty, pos, after, none⟩ :: l) env k) : AR C nt ops Q (.q i ⟨some d, op, ty, pos, after, none⟩ :: l) env k := h
theorem is_load {i d : Nat} {T : TypeId} {x : Operand} (h : AR C nt ops Q (.q i ⟨some d, .load T x, ty, pos, after, none⟩ :: l) env k) : AR C nt ops Q (.q i ⟨some d, .load T x, ty, pos, after, none⟩ :: l) env k := h
theorem is_binOp {i d : Nat} {o : BinOp} {T : TypeId} {x y : Operand} {T2 : TypeId} (h : AR C nt ops Q (.q i ⟨some d, .binOp o T x y T2, ty, pos, after, none⟩ :: l) env k) : AR C nt ops Q (.q i ⟨some d, .binOp o T x y T2, ty, pos, after, none⟩ :: l) env k := h
theorem is_fieldAddr {i d : Nat} {T : TypeId} {x : Operand} {j : Nat} (h : AR C nt ops Q (.q i ⟨some d, .fieldAddr T x j, ty, pos, after, none⟩ :: l) env k) : AR C nt ops Q (.q i ⟨some d, .fieldAddr T x j, ty, pos, after, none⟩ :: l) env k := h
theorem is_indexAddr {i d : Nat} {T : TypeId} {x y : Operand} (h : AR C nt ops Q (.q i ⟨some d, .indexAddr T x y, ty, pos, after, none⟩ :: l) env k) : AR C nt ops Q (.q i ⟨some d, .indexAddr T x y, ty, pos, after, none⟩ :: l) env k := h
theorem is_call {i d : Nat} {c : Call} (h : AR C nt ops Q (.q i ⟨some d, .call c, ty, pos, after, none⟩ :: l) env k) : AR C nt ops Q (.q i ⟨some d, .call c, ty, pos, after, none⟩ :: l) env k := h
theorem is_pick {i d : Nat} {c x y : Operand} (h : AR C nt ops Q (.q i ⟨some d, .pick c x y, ty, pos, after, none⟩ :: l) env k) : AR C nt ops Q (.q i ⟨some d, .pick c x y, ty, pos, after, none⟩ :: l) env k := h
theorem is_unOp {i d : Nat} {o : UnOp} {T : TypeId} {x : Operand} (h : AR C nt ops Q (.q i ⟨some d, .unOp o T x, ty, pos, after, none⟩ :: l) env k) : AR C nt ops Q (.q i ⟨some d, .unOp o T x, ty, pos, after, none⟩ :: l) env k := h
theorem ret_then {K : Env → Nat → Prop} (h : Q .ret env k) : thenP K Q .ret env k := h
theorem ret_block {id : Nat} (h : Q .ret env k) : inBlockP id Q .ret env k := h
theorem loop_next {N j : Nat} {E : Env} (h1 : j < N) (h2 : k = j + 1) (h3 : Has env E) : thenP (fun env' k' => j < N ∧ k' = j + 1 ∧ Has env' E) Q .normal env k := ⟨h1, h2, h3⟩
end
/-- All has come. -/
def EndQ (N : Nat) : Post
  | .normal, _, k => k = N
  | .ret, _, k => k = N
  | _, _, _ => False
theorem iter_of_aw {P : Program} {gf : FuncId} {fn : Func} {c : Code} {vs : List V} {N : Nat} {el : Nat → List Value} (hf : P.funcs[gf]? = some fn) (hb : fn.body = some c) (hn : vs.length + 1 ≤ fn.ntmps) (hres : fn.results = #[])
    (h : ∀ C : Cx P, C.N = N → C.el = el → AW C fn.ntmps c (EndQ N) (argEnv (.s (.func (.yield C.l) #[] #[]) :: vs) 0) 0) : Iter P gf vs N el := by
  refine ⟨fun I us l J W hI hv _ hY h0 => ?_⟩
  refine callsIn_wide.2 ((callsIn_wide (n := 0)).1 (callsIn_of_wp hf hb trivial ?_ rfl))
  have hrel : VRels I [] (.s (.func (.yield l) #[] #[]) :: vs) (#[.func (.yield l) #[] #[]] ++ us) := by
    refine ⟨by simp [hv.1]; omega, fun j v u hj hu => ?_⟩
    cases j with
    | zero =>
      rw [Array.getElem?_append_left (by simp)] at hu
      simp at hj hu; subst hj hu; exact .s _
    | succ j =>
      rw [List.getElem?_cons_succ] at hj
      rw [Array.getElem?_append_right (by simp)] at hu
      exact hv.2 j v u hj (by simpa using hu)
  have h1 := (h ⟨l, I, J, N, el, hY⟩ rfl rfl).1 _ W ⟨argEnv_ok hrel (by rw [hrel.1]; simpa using hn), hI, rfl, h0⟩
  refine wpIn_mono h1 fun e a' w' hl => ?_
  have hr : (results fn a'.tmps).run P w' = .ok (.tuple #[]) w' := by
    unfold results
    rw [hres]
    simp
  cases e with
  | normal => obtain ⟨_, k, hs, rfl⟩ := hl; exact ⟨hs.2.2.1, _, hr, ⟨_, rfl⟩, hs.2.2.2⟩
  | ret => obtain ⟨_, k, hs, rfl⟩ := hl; exact ⟨hs.2.2.1, _, hr, ⟨_, rfl⟩, hs.2.2.2⟩
  | exit id => obtain ⟨_, _, _, h⟩ := hl; exact h.elim
  | goto id => obtain ⟨_, _, _, h⟩ := hl; exact h.elim
  | panic ch => exact hl.elim
  | outgrown => exact hl.elim
end Go.Proofs.Ytccidiflnmchiaa.It
