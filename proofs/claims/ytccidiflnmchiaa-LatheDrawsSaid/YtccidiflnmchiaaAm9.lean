/- Literals, calls, results. No condition. -/
import Derived.Test.YtccidiflnmchiaaAm8
namespace Go.Proofs.Ytccidiflnmchiaa
open Go.RowKit

section
variable {X : Ctx} {I I' J : Imm} {ρ : List (Option (Nat × Nat))} {H : Heap} {w w' : World}
/-- More memory that is not ours, more known. -/
theorem WOk.pure (h : WOk X I ρ H w) (hI : I.le J) (hJ : ∀ b o, J b = some o → w'.heap[b]? = some o) (hn : ∀ b, J b ≠ Option.none → I b ≠ Option.none ∨ w.heap.size ≤ b) (hb : Below w.heap.size w w') : WOk X J ρ H w' := by
  have old : ∀ b, Live H ρ b → w'.heap[b]? = w.heap[b]? := fun b hl => hb.block b (h.lt hl)
  refine h.trans { len := h.len, inj := h.inj, imm := hJ, apart := ?_, size := h.size, none := h.none, arr := fun k sz n f b z hk hρ => (h.arr k sz n f b z hk hρ).mono hI (Pre.refl _) (old b ⟨k, _, hk, by simp, z, hρ⟩), map := ?_, mine := fun b hb => .inr hb, news := fun b h1 => ?_, le := hI, pre := Pre.refl _, os := hb.os, tape := hb.tape, out := hb.output, grow := hb.size, keep := fun b h1 _ => hb.block b h1 }
  · intro b hl
    cases hj : J b with
    | none => rfl
    | some o =>
      rcases hn b (by rw [hj]; simp) with h1 | h1
      · exact (h1 (h.apart b hl)).elim
      · have := h.lt hl; omega
  · intro k m hk
    obtain ⟨b, h1, h2⟩ := h.map k m hk
    exact ⟨b, h1, h2.mono hI (Pre.refl _) (old b ⟨k, _, hk, by simp, 0, h1⟩)⟩
  · rcases hn b h1 with h2 | h2
    · exact .inl h2
    · exact .inr (.inl h2)
theorem keeps_pure (h : WOk X I ρ H w) (hI : I.le J) (hb : Below w.heap.size w w') : ∀ y, Keeps J ρ H w' y → Keeps I ρ H w y := fun y hy =>
  ⟨fun b o h1 => hy.1 b o (hI b o h1), fun k sz n f b z hk hρ o ho => (hy.2.1 k sz n f b z hk hρ o ho).trans (World.cell?_of_block (a := ⟨b, o, none⟩) (hb.block b (h.lt ⟨k, _, hk, by simp, z, hρ⟩))),
   fun k m b z hk hρ => (hy.2.2 k m b z hk hρ).trans (hb.block b (h.lt ⟨k, _, hk, by simp, z, hρ⟩))⟩

/-- Nothing of ours in it. -/
def V.closed : V → Bool
  | .sl _ _ _ _ => false
  | .ptr _ _ _ _ => false
  | .map _ => false
  | .agg cs => all cs
  | .tup cs => all cs
  | .fn _ a b => all a && all b
  | .iface _ v => v.closed
  | _ => true
where all : List V → Bool
  | [] => true
  | v :: l => v.closed && all l
theorem closed_all {l : List V} (h : V.closed.all l = true) {j : Nat} {v : V} (hj : l[j]? = some v) : v.closed = true := by
  induction l generalizing j with
  | nil => simp at hj
  | cons x l ih =>
    simp only [V.closed.all, Bool.and_eq_true] at h
    cases j with
    | zero => simp at hj; subst hj; exact h.1
    | succ j => exact ih h.2 (by simpa using hj)
theorem VRel.close {v : V} {u : Value} (h : VRel I ρ v u) (hc : v.closed = true) : VRel I [] v u := by
  induction h with
  | s v => exact .s v
  | emp A => exact .emp A
  | agg h _ ih => exact .agg h fun j v u a b => ih j v u a b (closed_all (by simpa [V.closed] using hc) a)
  | tup h _ ih => exact .tup h fun j v u a b => ih j v u a b (closed_all (by simpa [V.closed] using hc) a)
  | list a b c d e => exact .list a b c d e
  | sl => cases hc
  | slNone => cases hc
  | ptr => cases hc
  | ref a b => exact .ref a b
  | fn h _ h' _ ih ih' =>
    simp only [V.closed, Bool.and_eq_true] at hc
    exact .fn h (fun j v u a b => ih j v u a b (closed_all hc.1 a)) h' (fun j v u a b => ih' j v u a b (closed_all hc.2 a))
  | iface _ ih => exact .iface (ih (by simpa [V.closed] using hc))
  | map => cases hc
/-- A value that knows of no memory at all. -/
def V.flat : V → Bool
  | .s _ => true
  | .tup cs => cs.all fun | .s _ => true | _ => false
  | .agg cs => cs.all fun | .s _ => true | _ => false
  | _ => false
theorem VRel.flat {σ : List (Option (Nat × Nat))} {v : V} {u : Value} (h : VRel I ρ v u) (hf : v.flat = true) : VRel J σ v u := by
  cases h with
  | s => exact .s _
  | agg h hv =>
    refine .agg h fun j x u a b => ?_
    have := List.all_eq_true.1 hf x (List.mem_of_getElem? a)
    cases x <;> simp at this
    cases hv j _ u a b
    exact .s _
  | tup h hv =>
    refine .tup h fun j x u a b => ?_
    have := List.all_eq_true.1 hf x (List.mem_of_getElem? a)
    cases x <;> simp at this
    cases hv j _ u a b
    exact .s _
  | _ => cases hf

def VRels (I : Imm) (ρ : List (Option (Nat × Nat))) (vs : List V) (us : Array Value) : Prop := us.size = vs.length ∧ ∀ (j : Nat) v u, vs[j]? = some v → us[j]? = some u → VRel I ρ v u
end

/-! ### Contracts -/
/-- A call with own blocks 'H': what it hands back, and what the own blocks are then. -/
structure ACalls (P : Program) (f : FuncId) (args : List V) (H : Heap) (R Rp : V → Heap → Prop) : Prop where
  out : ∀ X I ρ w us, WOk X I ρ H w → VRels I ρ args us → Calls P f us w fun e w' => ∃ v u I' ρ' H', I.le I' ∧ Pre ρ ρ' ∧ WOk X I' ρ' H' w' ∧ VRel I' ρ' v u ∧
    ((e = .returned u ∧ R v H') ∨ (e = .panicked [{ v := u, recovered := false }] ∧ Rp v H'))
/-- A call that writes nothing that was there; the arguments and the result without own blocks. -/
structure PCalls (P : Program) (f : FuncId) (args : List V) (R : V → Prop) : Prop where
  out : ∀ (I : Imm) w us, (∀ b o, I b = some o → w.heap[b]? = some o) → VRels I [] args us → Calls P f us w fun e w' => ∃ v u I', R v ∧ e = .returned u ∧ VRel I' [] v u ∧ I.le I' ∧ (∀ b o, I' b = some o → w'.heap[b]? = some o) ∧
    (∀ b, I' b ≠ none → I b ≠ none ∨ w.heap.size ≤ b) ∧ Below w.heap.size w w'
theorem PCalls.mono {P : Program} {f : FuncId} {args : List V} {R R' : V → Prop} (h : PCalls P f args R) (hr : ∀ v, R v → R' v) : PCalls P f args R' := .mk
  fun I w us a b => (h.1 I w us a b).mono fun _ _ ⟨v, u, I', c, d⟩ => ⟨v, u, I', hr v c, d⟩

/-- A result variable. -/
def Res1 (P : Program) (env : Env) (H : Heap) : ResultVar → V → Prop
  | .tmp t, v => look env t = some v
  | .cell a T, v => ∃ d sz b i off n f, TyIs P T d ∧ look env a = some (.ptr sz b i off) ∧ H[b]? = some (.arr sz n f) ∧ i < n ∧ partV d.tk.agg (f i).cells off d.size = some v
def ResV (P : Program) (env : Env) (H : Heap) (rs : Array ResultVar) (v : V) : Prop :=
  (∃ a, rs = #[a] ∧ Res1 P env H a v) ∨ (rs = #[] ∧ v = .tup []) ∨ (∃ a b x y, rs = #[a, b] ∧ Res1 P env H a x ∧ Res1 P env H b y ∧ v = .tup [x, y]) ∨
  (∃ a b c x y z, rs = #[a, b, c] ∧ Res1 P env H a x ∧ Res1 P env H b y ∧ Res1 P env H c z ∧ v = .tup [x, y, z]) ∨
  (∃ a b c d x y z t, rs = #[a, b, c, d] ∧ Res1 P env H a x ∧ Res1 P env H b y ∧ Res1 P env H c z ∧ Res1 P env H d t ∧ v = .tup [x, y, z, t])
def BodyQ (P : Program) (rs : Array ResultVar) (R Rp : V → Heap → Prop) : Post
  | .normal, env, H => ∃ v, ResV P env H rs v ∧ R v H
  | .ret, env, H => ∃ v, ResV P env H rs v ∧ R v H
  | .panic v, _, H => Rp v H
  | _, _, _ => False
def argEnv : List V → Nat → Env
  | [], _ => []
  | v :: l, i => (i, v) :: argEnv l (i + 1)

section
variable {P : Program} {X : Ctx} {I I' J : Imm} {ρ : List (Option (Nat × Nat))} {H : Heap} {w w' : World} {env : Env} {nt : Nat} {a : Act}
def readRes (tmps : Array Value) : ResultVar → Sem Value
  | .tmp t => pure (tmps.getD t undef)
  | .cell a t => do loadVar t (← asAddr (tmps.getD a undef))
theorem res1_run (he : EnvOk I ρ nt env a) (hw : WOk X I ρ H w) {r : ResultVar} {v : V} (h : Res1 P env H r v) : ∃ u, VRel I ρ v u ∧ (readRes a.tmps r).run P w = .ok u w := by
  cases r with
  | tmp t => exact ⟨_, (he.2 t v h).2, rfl⟩
  | cell t T =>
    obtain ⟨d, sz, b, i, off, n, f, hT, hl, hH, hi, hv⟩ := h
    obtain ⟨hlt, hr⟩ := he.2 t _ hl
    obtain ⟨cb, z, ex, hb⟩ := hr.ptr_inv
    obtain ⟨cs, ty, hc, hz, hn, hr0⟩ := hw.arr _ _ _ _ _ _ hH hb
    have hs := hw.size _ _ _ _ hH i hi
    have hle : i * sz + sz ≤ n * sz := by rw [← Nat.succ_mul]; exact Nat.mul_le_mul_right _ hi
    obtain ⟨u, hu, hrun⟩ := loadAt_run (I := I) (ρ := ρ) (us := fun j => cs.getD (i * sz + j) undef) hT (fun j x hj => by
      obtain ⟨u, h2, h3⟩ := hr0 i j x hi hj
      rw [show cs.getD (i * sz + j) undef = u by simp [h2]]
      exact h3) hv cb (i * sz)
    refine ⟨u, hu, ?_⟩
    have := hrun w (fun j hj => by
      rw [cell_of hc]
      have : i * sz + j < cs.size := by rw [hs] at hj; omega
      simp [this])
    simp only [Instr.loadAt, Instr.sureAddr, Sem.run_bind, Sem.run_pure, Result.andThen_ok] at this
    simp only [readRes, Sem.run_bind, ex, asAddr, Sem.run_pure, Result.andThen_ok]
    exact this
theorem resV_run (he : EnvOk I ρ nt env a) (hw : WOk X I ρ H w) {fn : Func} {v : V} (h : ResV P env H fn.results v) : ∃ u, VRel I ρ v u ∧ (results fn a.tmps).run P w = .ok u w := by
  have e : results fn a.tmps = (do let vs ← fn.results.mapM (readRes a.tmps); pure (if h : vs.size = 1 then vs[0] else .tuple vs)) := by
    unfold results
    congr 1
  rw [e]
  rcases h with ⟨r1, hr, h1⟩ | ⟨hr, rfl⟩ | ⟨r1, r2, x, y, hr, h1, h2, rfl⟩ | ⟨r1, r2, r3, x, y, z, hr, h1, h2, h3, rfl⟩ | ⟨r1, r2, r3, r4, x, y, z, t, hr, h1, h2, h3, h4, rfl⟩
  · obtain ⟨u, a1, a2⟩ := res1_run he hw h1
    exact ⟨u, a1, by rw [hr]; simp [a2]⟩
  · exact ⟨.tuple #[], .tup rfl (fun j v u h => by simp at h), by rw [hr]; simp⟩
  · obtain ⟨u1, a1, b1⟩ := res1_run he hw h1
    obtain ⟨u2, a2, b2⟩ := res1_run he hw h2
    refine ⟨.tuple #[u1, u2], .tup rfl (fun j v u h h' => ?_), by rw [hr]; simp [b1, b2]⟩
    match j with
    | 0 => simp at h h'; subst h h'; exact a1
    | 1 => simp at h h'; subst h h'; exact a2
    | j + 2 => simp at h
  · obtain ⟨u1, a1, b1⟩ := res1_run he hw h1
    obtain ⟨u2, a2, b2⟩ := res1_run he hw h2
    obtain ⟨u3, a3, b3⟩ := res1_run he hw h3
    refine ⟨.tuple #[u1, u2, u3], .tup rfl (fun j v u h h' => ?_), by rw [hr]; simp [b1, b2, b3]⟩
    match j with
    | 0 => simp at h h'; subst h h'; exact a1
    | 1 => simp at h h'; subst h h'; exact a2
    | 2 => simp at h h'; subst h h'; exact a3
    | j + 3 => simp at h
  · obtain ⟨u1, a1, b1⟩ := res1_run he hw h1
    obtain ⟨u2, a2, b2⟩ := res1_run he hw h2
    obtain ⟨u3, a3, b3⟩ := res1_run he hw h3
    obtain ⟨u4, a4, b4⟩ := res1_run he hw h4
    refine ⟨.tuple #[u1, u2, u3, u4], .tup rfl (fun j v u h h' => ?_), by rw [hr]; simp [b1, b2, b3, b4]⟩
    match j with
    | 0 => simp at h h'; subst h h'; exact a1
    | 1 => simp at h h'; subst h h'; exact a2
    | 2 => simp at h h'; subst h h'; exact a3
    | 3 => simp at h h'; subst h h'; exact a4
    | j + 4 => simp at h
theorem argEnv_look : ∀ (l : List V) (i t : Nat) (v : V), look (argEnv l i) t = some v → i ≤ t ∧ l[t - i]? = some v
  | [], _, _, _, h => by simp [argEnv, look] at h
  | x :: l, i, t, v, h => by
    simp only [argEnv, look_cons] at h
    split at h
    · rename_i e; subst e; cases h; simp
    · obtain ⟨h1, h2⟩ := argEnv_look l (i + 1) t v h
      refine ⟨by omega, ?_⟩
      rw [show t - i = (t - (i + 1)) + 1 by omega]
      simpa using h2
theorem argEnv_ok {vs : List V} {us : Array Value} (h : VRels I ρ vs us) (hn : us.size ≤ nt) : EnvOk I ρ nt (argEnv vs 0) { tmps := us ++ Array.replicate (nt - us.size) undef, defers := [] } := by
  refine ⟨by simp; omega, fun t v ht => ?_⟩
  obtain ⟨_, h1⟩ := argEnv_look vs 0 t v ht
  rw [Nat.sub_zero] at h1
  have hlt : t < us.size := by rw [h.1]; exact (List.getElem?_eq_some_iff.1 h1).1
  refine ⟨by omega, ?_⟩
  have e : (us ++ Array.replicate (nt - us.size) undef).getD t undef = us[t] := by
    simp [Array.getElem?_append, hlt]
  simp only [e]
  exact h.2 t v us[t] h1 (by simp [hlt])
/-- What is known of values lies in rows of cells alone. -/
theorem VRel.cut {v : V} {u : Value} (h : VRel I ρ v u) (hc : ∀ b cs ty fz, I b = some (.cells cs ty fz) → J b = some (.cells cs ty fz)) : VRel J ρ v u := by
  have lies : ∀ {b off n : Nat} {us : Nat → Value}, Lies I b off n us → Lies J b off n us := fun ⟨cs, ty, fz, h1, h2⟩ => ⟨cs, ty, fz, hc _ _ _ _ h1, h2⟩
  induction h with
  | s v => exact .s v
  | emp A => exact .emp A
  | agg h _ ih => exact .agg h fun j v u a b => ih j v u a b
  | tup h _ ih => exact .tup h fun j v u a b => ih j v u a b
  | list hc hm hl hsz _ ih =>
    refine .list hc hm (fun h0 => ?_) hsz fun i j v a b => ih i j v a b
    obtain ⟨b, off, e, k⟩ := hl h0
    exact ⟨b, off, e, fun i hi => lies (k i hi)⟩
  | sl hb hc hm hz => exact .sl hb hc hm hz
  | slNone A hb => exact .slNone A hb
  | ptr hb => exact .ptr hb
  | ref hl _ ih => exact .ref (lies hl) fun j x a => ih j x a
  | fn h _ h' _ ih ih' => exact .fn h (fun j v u a b => ih j v u a b) h' (fun j v u a b => ih' j v u a b)
  | iface _ ih => exact .iface ih
  | map hb => exact .map hb
theorem EnvOk.cut (h : EnvOk I ρ nt env a) (hc : ∀ b cs ty fz, I b = some (.cells cs ty fz) → J b = some (.cells cs ty fz)) : EnvOk J ρ nt env a := ⟨h.1, fun t v hv => ⟨(h.2 t v hv).1, (h.2 t v hv).2.cut hc⟩⟩
/-- The marks' blocks, shut. -/
def taken : List Nat → World → World
  | [], w => w
  | D :: Ds, w => taken Ds (w.putObj D (.deferred none))
theorem taken_out : ∀ (Ds : List Nat) (w : World) (b : Nat), b ∉ Ds → (taken Ds w).heap[b]? = w.heap[b]?
  | [], _, _, _ => rfl
  | D :: Ds, w, b, h => by
    rw [taken, taken_out Ds _ b (by simp at h; exact h.2)]
    exact World.putObj_heap_other (by simp at h; exact h.1)
theorem taken_rest : ∀ (Ds : List Nat) (w : World), (taken Ds w).os = w.os ∧ (taken Ds w).tape = w.tape ∧ (taken Ds w).output = w.output ∧ (taken Ds w).heap.size = w.heap.size
  | [], _ => ⟨rfl, rfl, rfl, rfl⟩
  | D :: Ds, w => by
    obtain ⟨h1, h2, h3, h4⟩ := taken_rest Ds (w.putObj D (.deferred none))
    exact ⟨h1, h2, h3, h4.trans World.putObj_size⟩
def Imm.without (I : Imm) (Ds : List Nat) : Imm := fun b => if b ∈ Ds then none else I b
theorem Imm.without_out {Ds : List Nat} {b : Nat} (h : b ∉ Ds) : I.without Ds b = I b := by simp [Imm.without, h]
theorem Imm.without_some {Ds : List Nat} {b : Nat} {o : Obj} (h : I.without Ds b = some o) : b ∉ Ds ∧ I b = some o := by
  unfold Imm.without at h
  split at h
  · cases h
  · rename_i hb; exact ⟨hb, h⟩
theorem WOk.taken (hw : WOk X I ρ H w) (hX : ∀ b o, X.I b = some o → b < X.w.heap.size) {Ds : List Nat} (hD : ∀ D ∈ Ds, X.w.heap.size ≤ D ∧ I D = some (.deferred (some []))) : WOk X (I.without Ds) ρ H (Go.Proofs.Ytccidiflnmchiaa.taken Ds w) := by
  obtain ⟨t1, t2, t3, t4⟩ := taken_rest Ds w
  have hc : ∀ b cs ty fz, I b = some (.cells cs ty fz) → I.without Ds b = some (.cells cs ty fz) := fun b cs ty fz h => by
    rw [Imm.without_out]
    · exact h
    · intro hb; rw [(hD b hb).2] at h; cases h
  have cell : ∀ {b o}, w.heap[b]? = some o → (∀ x, o ≠ Obj.deferred x) → (Go.Proofs.Ytccidiflnmchiaa.taken Ds w).heap[b]? = some o := fun {b o} h ho => by
    rw [taken_out _ _ _ fun hb => ?_]
    · exact h
    · rw [hw.imm b _ (hD b hb).2] at h; cases h; exact ho _ rfl
  exact { len := hw.len, inj := hw.inj, imm := fun b o h => by obtain ⟨h1, h2⟩ := Imm.without_some h; rw [taken_out _ _ _ h1]; exact hw.imm b o h2
          apart := fun b hb => by
            have := hw.apart b hb
            unfold Imm.without
            split
            · rfl
            · exact this
          size := hw.size, none := hw.none
          arr := fun k sz n f b z h1 h2 => by
            obtain ⟨cs, ty, h3, h4, h5, h6⟩ := hw.arr k sz n f b z h1 h2
            exact ⟨cs, ty, cell h3 (fun _ h => by cases h), h4, h5, fun i j v hi hv => by obtain ⟨u, h7, h8⟩ := h6 i j v hi hv; exact ⟨u, h7, h8.cut hc⟩⟩
          map := fun k m hk => by
            obtain ⟨b, h1, es, clk, h2, h3, h4⟩ := hw.map k m hk
            exact ⟨b, h1, es, clk, cell h2 (fun _ h => by cases h), h3, fun i e x he hx => ⟨(h4 i e x he hx).1, (h4 i e x he hx).2.cut hc⟩⟩
          mine := hw.mine
          news := fun b hb => hw.news b (fun h => hb (by
            unfold Imm.without
            split
            · rfl
            · exact h))
          le := fun b o h => by
            rw [Imm.without_out]
            · exact hw.le b o h
            · intro hb; have := (hD b hb).1; have := hX b o h; omega
          pre := hw.pre, os := t1.trans hw.os, tape := t2.trans hw.tape, out := t3.trans hw.out, grow := by rw [t4]; exact hw.grow
          keep := fun b h1 h2 => by
            rw [taken_out _ _ _ fun hb => ?_]
            · exact hw.keep b h1 h2
            · have := (hD b hb).1; omega }
theorem leaves_marks {fn : Func} {tmps : Array Value} {R : Ending → World → Prop} {u : FrameMode} (hu : u ≠ .run) : ∀ (Ds : List Nat) (w : World), Ds.Nodup → (∀ D ∈ Ds, w.heap[D]? = some (.deferred (some []))) →
    LeavesIn Fence.wide 0 P fn tmps R [] u (Go.Proofs.Ytccidiflnmchiaa.taken Ds w) → LeavesInM Fence.wide 0 P fn tmps R (Ds.map mark) u w
  | [], _, _, _, h => h
  | D :: Ds, w, hn, hD, h => by
    rw [List.nodup_cons] at hn
    refine ⟨hu, .inl ⟨D, _, rfl, run_takeDeferred (hD D (by simp)), leaves_marks hu Ds _ hn.2 (fun D' h' => ?_) h⟩⟩
    rw [World.putObj_heap_other (fun e => hn.1 (by rw [← e]; exact h'))]
    exact hD D' (by simp [h'])
theorem acalls_of_aw {f : FuncId} {fn : Func} {c : Code} {args : List V} {R Rp : V → Heap → Prop} (hf : P.funcs[f]? = some fn) (hb : fn.body = some c) (hn : args.length ≤ fn.ntmps)
    (h : AW P none H.length fn.ntmps c (BodyQ P fn.results R Rp) (argEnv args 0) H) : ACalls P f args H R Rp := by
  refine ⟨?_⟩
  intro X I ρ w us hw hv
  refine (callsIn_wide (n := 0)).1 (callsIn_of_wp_marks hf hb trivial ?_ rfl)
  have h1 := h.1 (Ctx.self w ρ H I) I ρ { tmps := us ++ Array.replicate (fn.ntmps - us.size) undef, defers := [] } w hw.len ⟨argEnv_ok hv (by rw [hv.1]; exact hn), hw.self, DOk.nil rfl⟩
  refine wpIn_mono h1 fun e a' w' hl => ?_
  let RR : Ending → World → Prop := fun e w' => ∃ v u I' ρ' H', I.le I' ∧ Pre ρ ρ' ∧ WOk X I' ρ' H' w' ∧ VRel I' ρ' v u ∧ ((e = .returned u ∧ R v H') ∨ (e = .panicked [{ v := u, recovered := false }] ∧ Rp v H'))
  show bodyPostM Fence.wide 0 P fn RR e a' w'
  have hXI : ∀ b o, (Ctx.self w ρ H I).I b = some o → b < (Ctx.self w ρ H I).w.heap.size := fun b o h => (Array.getElem?_eq_some_iff.1 (hw.imm b o h)).1
  have cuts : ∀ {I' : Imm} {Ds : List Nat}, (∀ D ∈ Ds, (Ctx.self w ρ H I).w.heap.size ≤ D ∧ I' D = some (.deferred (some []))) → ∀ b cs ty fz, I' b = some (.cells cs ty fz) → I'.without Ds b = some (.cells cs ty fz) := fun hD b cs ty fz h => by
    rw [Imm.without_out]
    · exact h
    · intro hb; rw [(hD b hb).2] at h; cases h
  have fin : ∀ env' H' I' ρ', St (Ctx.self w ρ H I) fn.ntmps env' H' I' ρ' a' w' → (∃ v, ResV P env' H' fn.results v ∧ R v H') → LeavesInM Fence.wide 0 P fn a'.tmps RR a'.defers .returning w' := fun env' H' I' ρ' hs ⟨v, hv, hR⟩ => by
    obtain ⟨Ds, d1, d2, d3⟩ := hs.2.2
    rw [d2]
    have hw2 := hs.2.1.taken hXI d3
    obtain ⟨u, h2, h3⟩ := resV_run (hs.1.cut (cuts d3)) hw2 hv
    exact leaves_marks (by simp) Ds w' d1 (fun D hD => hs.2.1.imm D _ (d3 D hD).2) ⟨u, h3, v, u, _, ρ', H', hw2.le, hw2.pre, hw.trans hw2, h2, .inl ⟨rfl, hR⟩⟩
  cases e with
  | normal => obtain ⟨env', H', I', ρ', hs, hq⟩ := hl; exact fin env' H' I' ρ' hs hq
  | ret => obtain ⟨env', H', I', ρ', hs, hq⟩ := hl; exact fin env' H' I' ρ' hs hq
  | exit id => obtain ⟨env', H', I', ρ', hs, hq⟩ := hl; exact hq.elim
  | goto id => obtain ⟨env', H', I', ρ', hs, hq⟩ := hl; exact hq.elim
  | panic ch =>
    obtain ⟨v, u, H', I', ρ', rfl, h2, h3, ⟨Ds, d1, d2, d3⟩, h5⟩ := hl
    show LeavesInM Fence.wide 0 P fn a'.tmps RR a'.defers (.panicking _) w'
    rw [d2]
    have hw2 := h3.taken hXI d3
    exact leaves_marks (by simp) Ds w' d1 (fun D hD => h3.imm D _ (d3 D hD).2) ⟨v, u, _, ρ', H', hw2.le, hw2.pre, hw.trans hw2, h2.cut (cuts d3), .inr ⟨rfl, h5⟩⟩
  | outgrown => exact hl.elim
theorem WOk.begin (hI : ∀ b o, I b = some o → w.heap[b]? = some o) : WOk (Ctx.self w [] [] I) I [] [] w :=
  ⟨rfl, fun i j b h => by obtain ⟨x, h, _⟩ := h; simp at h, hI, fun b h => by obtain ⟨k, x, h, _⟩ := h; simp at h, fun k _ _ _ h => by simp at h, fun k _ _ _ h => by simp at h, fun k _ _ _ _ _ h => by simp at h, fun k _ h => by simp at h,
   fun b h => by obtain ⟨k, x, h, _⟩ := h; simp at h, fun _ hb => .inl hb, Imm.le_refl _, Pre.refl _, rfl, rfl, rfl, Nat.le_refl _, fun _ _ _ => rfl⟩
theorem not_live_nil {b : Nat} : ¬ Live [] [] b := fun ⟨k, x, h, _⟩ => by simp at h
theorem pcalls_of_aw {f : FuncId} {fn : Func} {c : Code} {args : List V} {R : V → Prop} (hf : P.funcs[f]? = some fn) (hb : fn.body = some c) (hn : args.length ≤ fn.ntmps)
    (h : AW P none 0 fn.ntmps c (BodyQ P fn.results (fun v _ => R v ∧ v.closed = true) NoP) (argEnv args 0) []) : PCalls P f args R := by
  refine ⟨?_⟩
  intro I w us hI hv
  have h1 := (acalls_of_aw (H := []) hf hb hn h).1 (Ctx.self w [] [] I) I [] w us (WOk.begin hI) hv
  refine h1.mono fun e w' ⟨v, u, I', ρ', H', hle, hpre, hw', hr, h2⟩ => ?_
  rcases h2 with ⟨rfl, hR, hc⟩ | ⟨_, hno⟩
  · refine ⟨v, u, I', hR, rfl, hr.close hc, hle, hw'.imm, fun b hb => ?_, ⟨hw'.os, hw'.tape, hw'.out, hw'.grow, fun b hb => hw'.keep b hb not_live_nil⟩⟩
    rcases hw'.news b hb with h3 | h3 | h3
    · exact .inl h3
    · exact .inr h3
    · exact (not_live_nil h3).elim
  · exact hno.elim

/-! ### The calls as operations -/
variable {r : Option Nat} {m : Nat} {dst : Option Tmp} {ty : TypeId} {pos : String} {after : Array Edge} {guard : Option (Nat × Bool)} {keep : Bool}
def FnOk (P : Program) (f : FuncId) : Prop := ∀ args w, (callFunc f args).run P w = .ok (.enter f args) w
theorem fnOk {f : FuncId} {fn : Func} {c : Code} (hf : P.funcs[f]? = some fn) (hb : fn.body = some c) (hn : (fn.name == "runtime.NumGoroutine") = false) : FnOk P f := fun args w => by
  simp [callFunc, hf, hb]
  simpa using hn
theorem evals {I : Imm} {ρ : List (Option (Nat × Nat))} {a : Act} (he : EnvOk I ρ nt env a) : ∀ {l : List Operand} {vs : List V}, l.mapM (eo env) = some vs → VRels I ρ vs (l.map a.eval).toArray
  | [], vs, h => by simp at h; subst h; exact ⟨rfl, fun j v u h => by simp at h⟩
  | x :: l, vs, h => by
    simp only [List.mapM_cons, Option.pure_def, Option.bind_eq_bind, Option.bind_eq_some_iff] at h
    obtain ⟨v0, hv0, vs', hvs, h'⟩ := h
    cases h'
    obtain ⟨e1, e2⟩ := evals he hvs
    refine ⟨by simpa using e1, fun j v u hj hu => ?_⟩
    cases j with
    | zero => simp at hj hu; subst hj hu; exact eo_rel he hv0
    | succ j => exact e2 j v u (by simpa using hj) (by simpa using hu)
theorem VRels.append {vs vs' : List V} {us us' : Array Value} (h : VRels I ρ vs us) (h' : VRels I ρ vs' us') : VRels I ρ (vs ++ vs') (us ++ us') := by
  refine ⟨by simp [h.1, h'.1], fun j v u hj hu => ?_⟩
  by_cases hlt : j < vs.length
  · rw [List.getElem?_append_left hlt] at hj
    rw [Array.getElem?_append_left (by rw [h.1]; exact hlt)] at hu
    exact h.2 j v u hj hu
  · rw [List.getElem?_append_right (by omega)] at hj
    rw [Array.getElem?_append_right (by rw [h.1]; omega), h.1] at hu
    exact h'.2 _ v u hj hu
theorem call_run {fo : Operand} {args : List Operand} {ats : Array TypeId} {f : FuncId} {us vs : Array Value} (hfn : FnOk P f) (hv : a.eval fo = .func (.func f) us vs) (w : World) :
    (execOp a.eval ⟨dst, .call ⟨.value fo, args.toArray, ats⟩, ty, pos, after, guard⟩).run P w = .ok (.enter f (us ++ (args.map a.eval).toArray ++ vs)) w := by
  simp only [execOp, resolve, Sem.run_bind, hv, Deferred.ofValue, Sem.run_pure, Result.andThen_ok, invoke]
  rw [show (args.toArray.map a.eval) = (args.map a.eval).toArray by simp]
  exact hfn _ w
theorem callsIn_fw {n : Nat} {f : FuncId} {args : Array Value} {R : Ending → World → Prop} : CallsIn (Fw r) n P f args w R ↔ Calls P f args w R := by
  cases r with
  | none => exact callsIn_wide
  | some l => exact ⟨fun h => callsIn_wide (n := n).1 h, fun h => callsIn_wide (n := n).2 h⟩
theorem ls_call {fo : Operand} {args : List Operand} {ats : Array TypeId} {f : FuncId} {first cap vs : List V} {R Rp : V → Heap → Prop} (hfn : FnOk P f) (hf : eo env fo = some (.fn (.func f) first cap)) (hargs : args.mapM (eo env) = some vs)
    (h : ACalls P f (first ++ vs ++ cap) H R Rp) : LS P r m nt false env H ⟨dst, .call ⟨.value fo, args.toArray, ats⟩, ty, pos, after, guard⟩ R Rp := .mk
  fun X I ρ a w next Qx hX hs hk hp => by
    have h1 := eo_rel hs.1 hf
    cases h1' : a.eval fo <;> rw [h1'] at h1 <;> cases h1
    rename_i us ws e1 e2 e3 e4
    have hrel : VRels I ρ (first ++ vs ++ cap) (us ++ (args.map a.eval).toArray ++ ws) := (VRels.append ⟨e1, e2⟩ (evals hs.1 hargs)).append ⟨e3, e4⟩
    refine wpIn_of_run (by simp) (call_run hfn h1' w) ⟨fun h => by simp [Fw, Fence.wide] at h, callsIn_fw.2 ((h.1 X I ρ w _ hs.2.1 hrel).mono fun e w' ⟨v, u, I', ρ', H', hI, hρ, hw', hr, h2⟩ => ?_)⟩
    rcases h2 with ⟨rfl, hR⟩ | ⟨rfl, hR⟩
    · exact hk I' ρ' H' v u w' hR hI hρ hw' hr (by simp)
    · exact hp I' ρ' H' v u w' hR hI hw' hr
end
end Go.Proofs.Ytccidiflnmchiaa
