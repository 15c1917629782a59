/- A loop over a function: the caller's side. No condition. -/
import Derived.Test.YtccidiflnmchiaaAm18
namespace Go.Proofs.Ytccidiflnmchiaa
open Go.RowKit
section
variable {X : Ctx} {I J K : Imm} {ρ : List (Option (Nat × Nat))} {H : Heap} {w w' : World}
theorem WOk.grown {row : Option Nat} (h : WOk X I ρ H w) (hg : w.grownBy w' row) (hrow : ∀ r, row = some r → X.w.heap.size ≤ r ∧ I r = Option.none ∧ ∃ o : Obj, w.heap[r]? = some o ∧ o.isCells = false) (hm : ∀ (k : Nat) m, H[k]? ≠ some (.map m)) : WOk X I ρ H w' := by
  have blk : ∀ b o, w.heap[b]? = some o → (row ≠ some b) → w'.heap[b]? = some o := fun b o hb hr => (hg.block b (Array.getElem?_eq_some_iff.1 hb).1 (Ne.symm hr)).trans hb
  exact { len := h.len, inj := h.inj
          imm := fun b o hb => blk b o (h.imm b o hb) fun e => by rw [(hrow b e).2.1] at hb; cases hb
          apart := h.apart, size := h.size, none := h.none
          arr := fun k sz n f b z hk hρ => by
            obtain ⟨cs, ty, h1, h2⟩ := h.arr k sz n f b z hk hρ
            exact ⟨cs, ty, blk b _ h1 (fun e => by obtain ⟨_, _, o, h3, h4⟩ := hrow b e; rw [h1] at h3; cases h3; cases h4), h2⟩
          map := fun k m hk => (hm k m hk).elim
          mine := h.mine, news := h.news, le := h.le, pre := h.pre, os := hg.os.trans h.os, tape := hg.tape.trans h.tape, out := hg.output.trans h.out, grow := Nat.le_trans h.grow hg.size
          keep := fun b hb hl => (hg.block b (Nat.lt_of_lt_of_le hb h.grow) fun e => by have := (hrow b e.symm).1; omega).trans (h.keep b hb hl) }
theorem WOk.cut (h : WOk X I ρ H w) (hJ : J.le I) (hX : X.I.le J) (hc : ∀ b cs ty fz, I b = some (.cells cs ty fz) → J b = some (.cells cs ty fz)) : WOk X J ρ H w :=
  { len := h.len, inj := h.inj, imm := fun b o hb => h.imm b o (hJ b o hb)
    apart := fun b hb => by
      cases e : J b with
      | none => rfl
      | some o => have := hJ b o e; rw [h.apart b hb] at this; cases this
    size := h.size, none := h.none
    arr := fun k sz n f b z hk hρ => by
      obtain ⟨cs, ty, h1, h2, h3, h4⟩ := h.arr k sz n f b z hk hρ
      exact ⟨cs, ty, h1, h2, h3, fun i j v hi hv => by obtain ⟨u, h5, h6⟩ := h4 i j v hi hv; exact ⟨u, h5, h6.cut hc⟩⟩
    map := fun k m hk => by
      obtain ⟨b, h1, es, clk, h2, h3, h4⟩ := h.map k m hk
      exact ⟨b, h1, es, clk, h2, h3, fun i e x he hx => ⟨(h4 i e x he hx).1, (h4 i e x he hx).2.cut hc⟩⟩
    mine := h.mine
    news := fun b hb => h.news b fun e => by
      cases e' : J b with
      | none => exact hb e'
      | some o => rw [hJ b o e'] at e; cases e
    le := hX, pre := h.pre, os := h.os, tape := h.tape, out := h.out, grow := h.grow, keep := h.keep }
theorem WOk.more (h : WOk X I ρ H w) (hI : I.le J) (hJ : ∀ b o, J b = some o → w.heap[b]? = some o) (hn : ∀ b, J b ≠ Option.none → I b ≠ Option.none ∨ (X.w.heap.size ≤ b ∧ ¬ Live H ρ b)) : WOk X J ρ H w :=
  { len := h.len, inj := h.inj, imm := hJ
    apart := fun b hb => by
      cases e : J b with
      | none => rfl
      | some o =>
        rcases hn b (by rw [e]; simp) with h1 | h1
        · exact (h1 (h.apart b hb)).elim
        · exact (h1.2 hb).elim
    size := h.size, none := h.none
    arr := fun k sz n f b z hk hρ => (h.arr k sz n f b z hk hρ).mono hI (Pre.refl _) rfl
    map := fun k m hk => by
      obtain ⟨b, h1, h2⟩ := h.map k m hk
      exact ⟨b, h1, h2.mono hI (Pre.refl _) rfl⟩
    mine := h.mine
    news := fun b hb => by
      rcases hn b hb with h1 | h1
      · exact h.news b h1
      · exact .inr (.inl h1.1)
    le := Imm.le_trans h.le hI, pre := h.pre, os := h.os, tape := h.tape, out := h.out, grow := h.grow, keep := h.keep }
theorem WOk.ctx (h : WOk X I ρ H w) : WOk ⟨X.w, X.ρ, X.H, I⟩ I ρ H w :=
  { h with news := fun b hb => .inl hb, le := Imm.le_refl _ }
theorem WOk.unctx (h : WOk ⟨X.w, X.ρ, X.H, K⟩ I ρ H w) (hX : X.I.le K) (hn : ∀ b, K b ≠ Option.none → X.I b ≠ Option.none ∨ X.w.heap.size ≤ b ∨ Live X.H X.ρ b) : WOk X I ρ H w :=
  { h with le := Imm.le_trans hX h.le
           news := fun b hb => by
            rcases h.news b hb with h1 | h1
            · exact hn b h1
            · exact .inr h1 }
end

/-! ### The assignment to the loop's variables -/
def setsE : List (Nat × Value) → Env → Env
  | [], env => env
  | (p, v) :: l, env => setsE l ((p, .s v) :: env)
def movesE (nt : Nat) : List Oper → Env → Option Env
  | [], env => some env
  | o :: l, env => match o.op, o.dst, o.guard with
    | .move x, some d, none => bif Nat.blt d nt then (eo env x).bind fun v => movesE nt l ((d, v) :: env) else none
    | .assign x, some d, none => bif Nat.blt d nt then (eo env x).bind fun v => movesE nt l ((d, v) :: env) else none
    | _, _, _ => none
def movesC (nt : Nat) : Code → Env → Option Env
  | .skip, env => some env
  | .region _ ops false, env => movesE nt ops.toList env
  | .seq x y, env => (movesC nt x env).bind (movesC nt y)
  | _, _ => none
section
variable {P : Program} {r : Option Nat} {I : Imm} {ρ : List (Option (Nat × Nat))} {nt : Nat} {env env' : Env} {a : Act} {w : World} {ops : Array Oper} {Q : Exit → Act → World → Prop}
theorem env_sets : ∀ (l : List (Nat × Value)) (env : Env) (t : Array Value), EnvOk I ρ nt env { tmps := t, defers := [] } → (∀ p ∈ l, p.1 < nt) → EnvOk I ρ nt (setsE l env) { tmps := l.foldl (fun t pv => t.setIfInBounds pv.1 pv.2) t, defers := [] }
  | [], _, _, h, _ => h
  | (p, v) :: l, _, _, h, hp => env_sets l _ _ (h.put (d := p) (.s v) (hp (p, v) List.mem_cons_self)) (fun q hq => hp q (List.mem_cons_of_mem _ hq))
theorem runP_moves : ∀ (l : List Oper) (i : Nat) (env : Env) (a : Act), movesE nt l env = some env' → EnvOk I ρ nt env a → (∀ a', EnvOk I ρ nt env' a' → a'.defers = a.defers → Q .normal a' w) → runP P r ops Q (textPlan l i) (fun _ => True) a w
  | [], _, _, a, h, he, hk => by cases h; exact hk a he rfl
  | o :: l, i, env, a, h, he, hk => by
    have step : ∀ (x : Operand) (d : Nat) (v : V), o.dst = some d → o.guard = none → plainOp o.op = true → (∀ w', (execOp a.eval o).run P w' = .ok (.value (a.eval x)) w') → d < nt → eo env x = some v → movesE nt l ((d, v) :: env) = some env' → runP P r ops Q (textPlan (o :: l) i) (fun _ => True) a w := by
      intro x d v hd hg hp hr hlt hx hm
      simp only [textPlan, hp, cond_true]
      refine ⟨fun _ => ⟨a.eval x, fun w' _ => hr w', ?_⟩, fun hw => by rw [wanted_none hg] at hw; cases hw⟩
      rw [hd]
      exact runP_moves l (i + 1) _ _ hm (he.put (eo_rel he hx) hlt) hk
    simp only [movesE] at h
    split at h
    · rename_i x d ho hd hg
      cases hb : Nat.blt d nt <;> rw [hb] at h
      · cases h
      · obtain ⟨v, hv, hm⟩ := Option.bind_eq_some_iff.1 h
        exact step x d v hd hg (by rw [ho]; rfl) (fun w' => by simp [execOp, ho]) (by rwa [Nat.blt_eq] at hb) hv hm
    · rename_i x d ho hd hg
      cases hb : Nat.blt d nt <;> rw [hb] at h
      · cases h
      · obtain ⟨v, hv, hm⟩ := Option.bind_eq_some_iff.1 h
        exact step x d v hd hg (by rw [ho]; rfl) (fun w' => by simp [execOp, ho]) (by rwa [Nat.blt_eq] at hb) hv hm
    · cases h
theorem wp_moves {c : Code} (h : movesC nt c env = some env') (he : EnvOk I ρ nt env a) (hk : ∀ a', EnvOk I ρ nt env' a' → a'.defers = a.defers → Q .normal a' w) : c.wpIn (Fw r) 0 P Q a w := by
  induction c generalizing env env' a Q with
  | skip => cases h; exact wpIn_skip (hk a he rfl)
  | region id ops b =>
    cases b with
    | true => cases h
    | false =>
      rw [show ops = ops.toList.toArray from (Array.toArray_toList).symm]
      exact region_text (fun _ => True) trivial (runP_moves ops.toList 0 env a h he hk)
  | seq x y ihx ihy =>
    obtain ⟨e1, h1, h2⟩ := Option.bind_eq_some_iff.1 h
    exact wpIn_seq (ihx h1 he fun a1 ha1 hd1 => ihy h2 ha1 fun a' ha' hd' => hk a' ha' (hd'.trans hd1))
  | _ => cases h
end

/-! ### The iterator, and the loop -/
def KpI (I : Imm) (W W' : World) : Prop := ∀ b o, I b = some o → W.heap[b]? = some o → W'.heap[b]? = some o
/-- An iterator whose closure holds 'vs': it hands over 'el 0', 'el 1', .. 'el (N - 1)', as long as the loop goes on. -/
structure Iter (P : Program) (gf : FuncId) (vs : List V) (N : Nat) (el : Nat → List Value) : Prop where
  out : ∀ (I : Imm) us (l : Nat) (J : Nat → World → Prop) (W : World), (∀ b o, I b = some o → W.heap[b]? = some o) → VRels I [] vs us → (∀ k W W', J k W → W.grownBy W' none → J k W') →
    (∀ k W1, J k W1 → k < N → YieldAt Fence.wide 0 P l (el k).toArray W1 fun e W' => e = .returned (.bool true) ∧ J (k + 1) W' ∧ KpI I W1 W') → J 0 W →
    CallsIn Fence.wide 1 P gf (#[.func (.yield l) #[] #[]] ++ us) W fun e W' => (∃ v, e = .returned v) ∧ J N W'
def RangeQ (m nt : Nat) (G' : Heap) : Post
  | .normal, env, H => SubOf m nt env H [] G'
  | _, _, _ => False
theorem envOk_nil {I : Imm} {ρ : List (Option (Nat × Nat))} {nt : Nat} {env : Env} {a : Act} (h : EnvOk I ρ nt env a) : EnvOk I ρ nt [] a := ⟨h.1, fun t v h => by simp [look] at h⟩

set_option maxHeartbeats 1000000 in
theorem aw_range {P : Program} {m nt : Nat} {Q : Post} {env : Env} {H : Heap} {g : Operand} {ps : Array Tmp} {assign body : Code} {gf : FuncId} {vs : List V} {N : Nat} {el : Nat → List Value} (G : Nat → Heap) (E1 : Nat → Env)
    (hg : eo env g = some (.fn (.func gf) [] vs)) (hvs : V.closed.all vs = true) (hfn : FnOk P gf) (hit : Iter P gf vs N el) (hps : ∀ k, k < N → (el k).length = ps.size) (hpn : ∀ p ∈ ps.toList, p < nt)
    (hmv : ∀ k, k < N → movesC nt assign (setsE (ps.toList.zip (el k)) env) = some (E1 k)) (hmaps : ∀ (k b : Nat) ms, (G k)[b]? ≠ some (.map ms)) (h0 : SubOf H.length nt env H [] (G 0))
    (round : ∀ k lp, k < N → AW P (some lp) H.length nt body (RangeQ H.length nt (G (k + 1))) (E1 k) (G k)) (hdone : Q .normal env (G N)) : AW P none m nt (.rangeFunc g ps assign body) Q env H := by
  classical
  refine ⟨fun X I ρ a w hX hst => ?_⟩
  obtain ⟨hE, hw, hD⟩ := hst
  refine (wpIn_wide (n := 0)).2 ((wpIn_wide (n := 2)).1 (wpIn_rangeFunc (F := Fence.wide) ?_))
  intro fn hfn'
  have hIlt : ∀ b o, I b = some o → b < w.heap.size := fun b o hb => (Array.getElem?_eq_some_iff.1 (hw.imm b o hb)).1
  -- the iterator's value
  have hgv := eo_rel hE hg
  obtain ⟨lb, hev, hrel⟩ : ∃ lb, a.eval g = .func (.func gf) #[] lb ∧ VRels I [] vs lb := by
    cases e : a.eval g <;> rw [e] at hgv <;> cases hgv
    rename_i us ws h1 h2 h3 h4
    have : us = #[] := by cases us; simp at h1; simp [h1]
    subst this
    exact ⟨ws, rfl, h3, fun j v u hj hu => (h4 j v u hj hu).close (closed_all hvs hj)⟩
  obtain ⟨rec, hrec⟩ : ∃ rec : LoopState → Option Code → Loop, rec = fun st pe => { state := st, pending := pe, fn, tmps := a.tmps, params := ps, assign, body, defers := w.heap.size } := ⟨_, rfl⟩
  obtain ⟨W1, hW1⟩ : ∃ W1, (w.alloc (.deferred (some []))).alloc (.loop (rec .ready none)) = W1 := ⟨_, rfl⟩
  have hL1 : W1.heap[w.heap.size + 1]? = some (.loop (rec .ready none)) := by
    rw [← hW1]; have := World.alloc_heap_new (w.alloc (.deferred (some []))) (.loop (rec .ready none)); rwa [World.size_alloc] at this
  have hK1 : W1.heap[w.heap.size]? = some (.deferred (some [])) := by
    rw [← hW1]; exact (Below.heap_alloc _ _ _ (by simp)).trans (World.alloc_heap_new w _)
  -- between two rounds
  let Inv : Nat → World → Prop := fun k W => ∃ I' ρ', WOk (Ctx.self w ρ H I) I' ρ' (G k) W ∧ ∀ b o, I' b = some o → I b = some o ∨ o.isCells = true
  have invGrow : ∀ k W W' row, Inv k W → W.grownBy W' row → (∀ r, row = some r → w.heap.size ≤ r ∧ ∃ o : Obj, W.heap[r]? = some o ∧ o.isCells = false) → Inv k W' := by
    rintro k W W' row ⟨I', ρ', h1, h2⟩ hg hr
    refine ⟨I', ρ', h1.grown hg (fun r e => ?_) (hmaps k), h2⟩
    obtain ⟨h3, o, h4, h5⟩ := hr r e
    refine ⟨h3, ?_, o, h4, h5⟩
    cases e' : I' r with
    | none => rfl
    | some o' =>
      have h6 := h1.imm r o' e'
      rw [h4] at h6; cases h6
      rcases h2 r _ e' with h7 | h7
      · have := hIlt r _ h7; omega
      · rw [h5] at h7; cases h7
  have cutInv : ∀ k W I' ρ', WOk (Ctx.self w ρ H I) I' ρ' (G k) W → Inv k W := fun k W I' ρ' h1 => by
    let I4 : Imm := fun b => if I b = none ∧ (∀ o, I' b = some o → o.isCells = false) then none else I' b
    refine ⟨I4, ρ', h1.cut (fun b o hb => ?_) (fun b o hb => ?_) (fun b cs ty fz hb => ?_), fun b o hb => ?_⟩
    · have hb : (if I b = none ∧ (∀ o, I' b = some o → o.isCells = false) then none else I' b) = some o := hb
      split at hb
      · cases hb
      · exact hb
    · show (if I b = none ∧ (∀ o, I' b = some o → o.isCells = false) then none else I' b) = some o
      have hb' : I b = some o := hb
      rw [if_neg (fun h => by rw [hb'] at h; cases h.1)]
      exact h1.le b o hb
    · show (if I b = none ∧ (∀ o, I' b = some o → o.isCells = false) then none else I' b) = _
      rw [if_neg (fun h => by have := h.2 _ hb; cases this)]
      exact hb
    · have hb : (if I b = none ∧ (∀ o, I' b = some o → o.isCells = false) then none else I' b) = some o := hb
      split at hb
      · cases hb
      · rename_i hno
        cases hI : I b with
        | none =>
          right
          cases ho : o.isCells with
          | true => rfl
          | false => exact (hno ⟨hI, fun o' ho' => by rw [hb] at ho'; cases ho'; exact ho⟩).elim
        | some o2 =>
          have := h1.le b o2 hI
          rw [hb] at this; cases this
          exact .inl rfl
  have hInv0 : Inv 0 W1 := by
    have hself : St (Ctx.self w ρ H I) nt env H I ρ { a with defers := [] } w := ⟨hE, hw.self, DOk.nil rfl⟩
    obtain ⟨I1, ρ1, hle, h2⟩ := h0.1 (Ctx.self w ρ H I) I ρ _ w hw.len hself
    have h3 := cutInv 0 w I1 ρ1 h2.2.1
    rw [← hW1]
    refine invGrow 0 _ _ none (invGrow 0 _ _ none h3 (World.grownBy_alloc _ _ none) (fun r e => by cases e)) (World.grownBy_alloc _ _ none) (fun r e => by cases e)
  refine ⟨w.heap.size + 1, [{ target := .collected w.heap.size, args := #[] }], W1, { target := .fn (.func gf) lb, args := #[.func (.yield (w.heap.size + 1)) #[] #[]] }, W1, gf,
    #[.func (.yield (w.heap.size + 1)) #[] #[]] ++ lb, W1, ?_, ?_, ?_, ?_, fun _ => by omega, ?_⟩
  · rw [← hW1, hrec]; exact run_enterLoop_outer _ _ _ _ _
  · simp only [resolve, hev]
    simp [go_sem]
  · intro f' hf'; simp [Target.leads] at hf'; subst hf'; exact trivial
  · have := hfn
    simp only [FnOk] at this
    simp [invoke, go_sem, this]
  · refine (hit.out I lb (w.heap.size + 1) (fun k W => Inv k W ∧ W.heap[w.heap.size + 1]? = some (.loop (rec .ready none)) ∧ W.heap[w.heap.size]? = some (.deferred (some []))) W1 ?_ hrel ?_ ?_ ⟨hInv0, hL1, hK1⟩).mono ?_
    · intro b o hb
      have hlt := hIlt b o hb
      rw [← hW1]
      exact (Below.heap_alloc _ _ _ (by simp; omega)).trans ((Below.heap_alloc _ _ _ hlt).trans (hw.imm b o hb))
    · rintro k W W' ⟨h1, h2, h3⟩ hg
      refine ⟨invGrow k W W' none h1 hg (fun r e => by cases e), ?_, ?_⟩
      · exact (hg.block _ (Array.getElem?_eq_some_iff.1 h2).1 (by simp)).trans h2
      · exact (hg.block _ (Array.getElem?_eq_some_iff.1 h3).1 (by simp)).trans h3
    · -- one round
      rintro k W ⟨hi, hl, hk⟩ hlen
      have hlt : w.heap.size + 1 < W.heap.size := (Array.getElem?_eq_some_iff.1 hl).1
      have hy := run_yield (P := P) (args := (el k).toArray) hl (by rw [hrec]; simpa using hps k hlen)
      rw [hrec] at hy
      refine ⟨fn, _, assign, body, hy, roundIn_of_wpIn hfn' ?_⟩
      have hE1 : EnvOk I ρ nt (setsE (ps.toList.zip (el k)) env) { tmps := (ps.toList.zip (el k)).foldl (fun t pv => t.setIfInBounds pv.1 pv.2) a.tmps, defers := [] } :=
        env_sets _ _ _ hE fun p hp => hpn p.1 (List.of_mem_zip hp).1
      have etmps : (ps.zip (el k).toArray).foldl (fun t (p, v) => t.setIfInBounds p v) a.tmps = (ps.toList.zip (el k)).foldl (fun t pv => t.setIfInBounds pv.1 pv.2) a.tmps := by
        rw [← Array.foldl_toList, Array.toList_zip]
      refine wp_moves (r := some (w.heap.size + 1)) (I := I) (ρ := ρ) (hmv k hlen) (by rw [← etmps] at hE1; exact hE1) fun a' ha' hd' => ?_
      refine ⟨_, run_beginRound hl (by rw [hrec]), ?_⟩
      obtain ⟨W2, hW2⟩ : ∃ W2, W.putObj (w.heap.size + 1) (.loop { rec .ready none with state := .busy }) = W2 := ⟨_, rfl⟩
      rw [hW2]
      have hl2 : W2.heap[w.heap.size + 1]? = some (.loop { rec .ready none with state := .busy }) := by rw [← hW2]; exact World.putObj_heap_same hlt
      have hk2 : W2.heap[w.heap.size]? = some (.deferred (some [])) := by rw [← hW2]; exact (World.putObj_heap_other (by omega)).trans hk
      obtain ⟨I', ρ', hwk, hcells⟩ : Inv k W2 := by
        rw [← hW2]
        exact invGrow k W _ (some (w.heap.size + 1)) hi (grownBy_putObj' W _ _) (fun r e => by cases e; exact ⟨by omega, _, hl, rfl⟩)
      let I2 : Imm := fun b => if I' b = none ∧ w.heap.size ≤ b ∧ (∃ o, W2.heap[b]? = some o ∧ o.isCells = false) then W2.heap[b]? else I' b
      have hle2 : I'.le I2 := fun b o hb => by
        show (if I' b = none ∧ w.heap.size ≤ b ∧ (∃ o, W2.heap[b]? = some o ∧ o.isCells = false) then W2.heap[b]? else I' b) = some o
        rw [if_neg (fun h => by rw [hb] at h; cases h.1)]
        exact hb
      have notLive : ∀ b o, W2.heap[b]? = some o → o.isCells = false → ¬ Live (G k) ρ' b := by
        rintro b o hb ho ⟨j, blk, h1, h2, z, h3⟩
        cases blk with
        | dead => exact h2 rfl
        | map ms => exact hmaps k j ms h1
        | arr sz n f =>
          obtain ⟨cs, ty, h4, _⟩ := hwk.arr _ _ _ _ _ _ h1 h3
          rw [hb] at h4; cases h4; cases ho
      have hwk2 : WOk (Ctx.self w ρ H I) I2 ρ' (G k) W2 := hwk.more hle2 (fun b o hb => by
          have hb : (if I' b = none ∧ w.heap.size ≤ b ∧ (∃ o, W2.heap[b]? = some o ∧ o.isCells = false) then W2.heap[b]? else I' b) = some o := hb
          split at hb
          · exact hb
          · exact hwk.imm b o hb) (fun b hb => by
          have hb : (if I' b = none ∧ w.heap.size ≤ b ∧ (∃ o, W2.heap[b]? = some o ∧ o.isCells = false) then W2.heap[b]? else I' b) ≠ none := hb
          split at hb
          · rename_i h
            obtain ⟨_, h1, o, h2, h3⟩ := h
            exact .inr ⟨h1, notLive b o h2 h3⟩
          · exact .inl hb)
      have inI2 : ∀ b o, w.heap.size ≤ b → W2.heap[b]? = some o → o.isCells = false → I2 b = some o := fun b o h1 h2 h3 => by
        show (if I' b = none ∧ w.heap.size ≤ b ∧ (∃ o, W2.heap[b]? = some o ∧ o.isCells = false) then W2.heap[b]? else I' b) = some o
        split
        · exact h2
        · rename_i hno
          cases e : I' b with
          | none => exact (hno ⟨e, h1, o, h2, h3⟩).elim
          | some o' => have := hwk.imm b o' e; rw [h2] at this; cases this; rfl
      have hbody := (round k (w.heap.size + 1) hlen).1 ⟨w, ρ, H, I2⟩ I2 ρ' a' W2 hw.len ⟨(ha'.mono hwk.le hwk.pre).mono hle2 (Pre.refl _), hwk2.ctx, DOk.nil hd'⟩
      refine wpIn_mono hbody fun e a3 W3 hq => ?_
      cases e with
      | normal =>
        obtain ⟨env3, H3, I3, ρ3, hst3, hsub⟩ := hq
        obtain ⟨I4, ρ4, _, hst4⟩ := hsub.1 ⟨w, ρ, H, I2⟩ I3 ρ3 a3 W3 hw.len hst3
        have hw4 := hst4.2.1
        have hl3 : W3.heap[w.heap.size + 1]? = some (.loop { rec .ready none with state := .busy }) := hw4.imm _ _ (hw4.le _ _ (inI2 _ _ (by omega) hl2 rfl))
        have hk3 : W3.heap[w.heap.size]? = some (.deferred (some [])) := hw4.imm _ _ (hw4.le _ _ (inI2 _ _ (Nat.le_refl _) hk2 rfl))
        have hw5 : WOk (Ctx.self w ρ H I) I4 ρ4 (G (k + 1)) W3 := WOk.unctx (X := Ctx.self w ρ H I) (K := I2) hw4 (Imm.le_trans hwk.le hle2) fun b hb => hwk2.news b hb
        have hinv := cutInv (k + 1) W3 I4 ρ4 hw5
        have hend := run_endRound (P := P) none hl3
        rw [hrec] at hend
        have hlt3 := (Array.getElem?_eq_some_iff.1 hl3).1
        refine ⟨_, _, hend, rfl, ⟨?_, ?_, ?_⟩, ?_⟩
        · exact invGrow (k + 1) W3 _ (some (w.heap.size + 1)) hinv (grownBy_putObj' W3 _ _) (fun r e => by cases e; exact ⟨by omega, _, hl3, rfl⟩)
        · rw [hrec]; exact World.putObj_heap_same hlt3
        · exact (World.putObj_heap_other (by omega)).trans hk3
        · intro b o hb hWb
          have hlt := hIlt b o hb
          refine (World.putObj_heap_other (by omega)).trans (hw5.imm b o (hw5.le b o hb))
      | exit id => obtain ⟨_, _, _, _, _, h⟩ := hq; exact h.elim
      | goto t => obtain ⟨_, _, _, _, _, h⟩ := hq; exact h.elim
      | ret => obtain ⟨_, _, _, _, _, h⟩ := hq; exact h.elim
      | panic c => obtain ⟨_, _, _, _, _, _, _, _, _, h⟩ := hq; exact h.elim
      | outgrown => exact hq.elim
    · -- behind the iterator
      rintro e W2 ⟨⟨v, rfl⟩, hi, hl, hk⟩
      have hend := run_endLoop (P := P) hl (by rw [hrec]; simp)
      rw [hrec] at hend
      obtain ⟨o4, hend4⟩ : ∃ o4, (Instr.endLoop (w.heap.size + 1)).run P W2 = .ok none (W2.putObj (w.heap.size + 1) o4) := ⟨_, hend⟩
      refine ⟨none, _, hend4, ?_⟩
      obtain ⟨I', ρ', h1, h2⟩ := invGrow N W2 _ (some (w.heap.size + 1)) hi (grownBy_putObj' W2 _ o4) (fun r e => by cases e; exact ⟨by omega, _, hl, rfl⟩)
      have hkk : (W2.putObj (w.heap.size + 1) o4).heap[w.heap.size]? = some (.deferred (some [])) := (World.putObj_heap_other (by omega)).trans hk
      let I2 : Imm := fun b => if b = w.heap.size then some (.deferred (some [])) else I' b
      have hIn : I' w.heap.size = none := by
        cases e : I' w.heap.size with
        | none => rfl
        | some o =>
          have h3 := h1.imm _ o e
          rw [hkk] at h3; cases h3
          rcases h2 _ _ e with h4 | h4
          · have := hIlt _ _ h4; omega
          · cases h4
      have hle2 : I'.le I2 := fun b o hb => by
        show (if b = w.heap.size then some (.deferred (some [])) else I' b) = some o
        rw [if_neg (fun e => by subst e; rw [hIn] at hb; cases hb)]
        exact hb
      have h3 := h1.more hle2 (fun b o hb => by
        have hb' : (if b = w.heap.size then some (.deferred (some [])) else I' b) = some o := hb
        clear hb
        split at hb'
        · rename_i e; rw [e, ← hb']; exact hkk
        · exact h1.imm b o hb') (fun b hb => by
        have hb : (if b = w.heap.size then some (Obj.deferred (some [])) else I' b) ≠ none := hb
        split at hb
        · rename_i e
          subst e
          refine .inr ⟨Nat.le_refl _, ?_⟩
          rintro ⟨j, blk, g1, g2, z, g3⟩
          cases blk with
          | dead => exact g2 rfl
          | map ms => exact hmaps N j ms g1
          | arr sz n f =>
            obtain ⟨cs, ty, g4, _⟩ := h1.arr _ _ _ _ _ _ g1 g3
            rw [hkk] at g4; cases g4
        · exact .inl hb)
      obtain ⟨Ds, d1, d2, d3⟩ := hD
      refine ⟨env, G N, I2, ρ', ⟨hE.mono (Imm.le_trans h1.le hle2) h1.pre, hw.trans h3, w.heap.size :: Ds, ?_, ?_, ?_⟩, hdone⟩
      · rw [List.nodup_cons]
        exact ⟨fun hd => by have := hIlt _ _ (d3 _ hd).2; omega, d1⟩
      · show [_] ++ a.defers = _
        rw [d2]; rfl
      · intro D hD
        rcases List.mem_cons.1 hD with e | e
        · subst e
          refine ⟨hw.grow, ?_⟩
          show (if w.heap.size = w.heap.size then some (Obj.deferred (some [])) else _) = _
          rw [if_pos rfl]
        · exact ⟨(d3 D e).1, hle2 _ _ (h1.le _ _ (d3 D e).2)⟩
end Go.Proofs.Ytccidiflnmchiaa
