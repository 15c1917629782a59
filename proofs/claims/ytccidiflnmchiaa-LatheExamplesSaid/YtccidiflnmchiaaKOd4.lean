/- Parts of the proof: a layer of values over the model, and contracts of functions. No condition. -/
import Derived.Test.YtccidiflnmchiaaKOd3
namespace Go.Proofs.Ytccidiflnmchiaa
open Go.RowKit
def geB (top bottom : List Int) : Bool := (List.range bottom.length).all fun j => decide (el top j ≤ el bottom j)
theorem geB_no {top bottom : List Int} {k : Nat} (hk : k < bottom.length) (h : el bottom k < el top k) : geB top bottom = false := by
  unfold geB
  rw [List.all_eq_false]
  exact ⟨k, by simpa using hk, by simp; omega⟩
theorem geB_yes {top bottom : List Int} (h : ∀ j, j < bottom.length → el top j ≤ el bottom j) : geB top bottom = true := by
  unfold geB
  rw [List.all_eq_true]
  simpa using h
theorem geB_at {top bottom : List Int} (h : geB top bottom = true) (j : Nat) (hj : j < bottom.length) : el top j ≤ el bottom j := by
  simp only [geB, List.all_eq_true, List.mem_range, decide_eq_true_eq] at h
  exact h j hj
def curvesErr (s : Sheet) (top bottom : List Int) : Int :=
  if s.ok then (if isLineB s top && isLineB s bottom && geB top bottom then 0 else 2) else 70
theorem curves_ok {s : Sheet} {top bottom : List Int} (h : curvesErr s top bottom = 0) : s.ok = true ∧ isLineB s top = true ∧ isLineB s bottom = true ∧ geB top bottom = true := by
  unfold curvesErr at h
  split at h
  · split at h
    · rename_i h1 h2
      simp only [Bool.and_eq_true] at h2
      exact ⟨h1, h2.1.1, h2.1.2, h2.2⟩
    · omega
  · omega
theorem curvesErr_sheet {s : Sheet} {top bottom : List Int} (h : s.ok = false) : curvesErr s top bottom = 70 := by unfold curvesErr; rw [h]; rfl
theorem curvesErr_no {s : Sheet} {top bottom : List Int} (h : s.ok = true) (h2 : (isLineB s top && isLineB s bottom && geB top bottom) = false) : curvesErr s top bottom = 2 := by unfold curvesErr; rw [h, h2]; rfl
theorem curvesErr_yes {s : Sheet} {top bottom : List Int} (h : s.ok = true) (h2 : (isLineB s top && isLineB s bottom && geB top bottom) = true) : curvesErr s top bottom = 0 := by unfold curvesErr; rw [h, h2]; rfl
def fitAt (s : Sheet) (top bottom : List Int) (j : Nat) : Int := (el bottom j - el top j) / (s.weight + s.clear) + 1
def fitTo (s : Sheet) (top bottom : List Int) : Nat → Int
  | 0 => 12
  | k + 1 => min (fitTo s top bottom k) (fitAt s top bottom k)
theorem fitTo_le (s : Sheet) (top bottom : List Int) : ∀ k, fitTo s top bottom k ≤ 12
  | 0 => by simp [fitTo]
  | k + 1 => by unfold fitTo; have := fitTo_le s top bottom k; omega
abbrev fitF (s : Sheet) (top bottom : List Int) : Int := fitTo s top bottom bottom.length
def evenAt (top bottom : List Int) (n : Int) (i c : Nat) : Int := el top c + (i : Int) * (el bottom c - el top c) / (n - 1)
def evenRow (top bottom : List Int) (n : Int) (i k : Nat) : List Int := (List.range k).map (evenAt top bottom n i)
def evenRows (top bottom : List Int) (n : Int) (m : Nat) : List (List Int) := (List.range m).map fun i => evenRow top bottom n i top.length
theorem evenRow_succ (top bottom : List Int) (n : Int) (i k : Nat) : evenRow top bottom n i (k + 1) = evenRow top bottom n i k ++ [evenAt top bottom n i k] := by simp [evenRow, List.range_succ]
theorem evenRow_len (top bottom : List Int) (n : Int) (i k : Nat) : (evenRow top bottom n i k).length = k := by simp [evenRow]
theorem evenRows_len (top bottom : List Int) (n : Int) (m : Nat) : (evenRows top bottom n m).length = m := by simp [evenRows]
def betweenErr (s : Sheet) (top bottom : List Int) (n : Int) : Int :=
  if curvesErr s top bottom = 0 then (if withinB n 2 12 then (if fitF s top bottom < n then 71 else 0) else 2) else curvesErr s top bottom
def betweenF (s : Sheet) (top bottom : List Int) (n : Int) : List (List Int) := if betweenErr s top bottom n = 0 then evenRows top bottom n n.toNat else []
theorem between_1 {s : Sheet} {top bottom : List Int} {n : Int} (h : curvesErr s top bottom ≠ 0) : betweenErr s top bottom n = curvesErr s top bottom := by simp [betweenErr, h]
theorem between_2 {s : Sheet} {top bottom : List Int} {n : Int} (h : curvesErr s top bottom = 0) (hw : withinB n 2 12 = false) : betweenErr s top bottom n = 2 := by simp [betweenErr, h, hw]
theorem between_3 {s : Sheet} {top bottom : List Int} {n : Int} (h : curvesErr s top bottom = 0) (hw : withinB n 2 12 = true) (hf : fitF s top bottom < n) : betweenErr s top bottom n = 71 := by simp [betweenErr, h, hw, hf]
theorem between_4 {s : Sheet} {top bottom : List Int} {n : Int} (h : curvesErr s top bottom = 0) (hw : withinB n 2 12 = true) (hf : ¬ fitF s top bottom < n) : betweenErr s top bottom n = 0 := by simp only [betweenErr, h, hw, if_true]; rw [if_neg hf]
theorem betweenF_bad {s : Sheet} {top bottom : List Int} {n : Int} (h : betweenErr s top bottom n ≠ 0) : betweenF s top bottom n = [] := by simp [betweenF, h]
theorem betweenF_ok {s : Sheet} {top bottom : List Int} {n : Int} (h : betweenErr s top bottom n = 0) : betweenF s top bottom n = evenRows top bottom n n.toNat := by simp [betweenF, h]
def mostErr (s : Sheet) (top bottom : List Int) : Int := if curvesErr s top bottom = 0 then (if fitF s top bottom < 2 then 71 else 0) else curvesErr s top bottom
def mostVal (s : Sheet) (top bottom : List Int) : Int := if mostErr s top bottom = 0 then fitF s top bottom else 0
theorem most_1 {s : Sheet} {top bottom : List Int} (h : curvesErr s top bottom ≠ 0) : mostErr s top bottom = curvesErr s top bottom ∧ mostVal s top bottom = 0 := by simp [mostErr, mostVal, h]
theorem most_2 {s : Sheet} {top bottom : List Int} (h : curvesErr s top bottom = 0) (hf : fitF s top bottom < 2) : mostErr s top bottom = 71 ∧ mostVal s top bottom = 0 := by simp [mostErr, mostVal, h, hf]
theorem most_3 {s : Sheet} {top bottom : List Int} (h : curvesErr s top bottom = 0) (hf : ¬ fitF s top bottom < 2) : mostErr s top bottom = 0 ∧ mostVal s top bottom = fitF s top bottom := by
  have h1 : mostErr s top bottom = 0 := by simp only [mostErr, h, if_true]; rw [if_neg hf]
  exact ⟨h1, by simp [mostVal, h1]⟩
theorem el_evenRows (top bottom : List Int) (n : Int) (m i : Nat) (h : i < m) : el (evenRows top bottom n m) i = evenRow top bottom n i top.length := by unfold evenRows; rw [el_map_range h]
end Go.Proofs.Ytccidiflnmchiaa
namespace Go.Proofs.Ytccidiflnmchiaa
open Go.RowKit
section
variable {H : Heap} {σ : List (Option Nat)} {fr : Nat → Prop} {α : Type} [Inhabited α]
theorem frz_as {b sz n N : Nat} {e : α → V} {l : List α} {f : Nat → V} (hf : fr b) (hb : H[b]? = some (.arr sz N f)) (hn : n = N) (hl : l.length = N) (hg : ∀ i, i < N → f i = e (el l i)) (hc : ∀ y, V.closed.all (e y).cells = true) : VSub H σ fr (.sl sz b 0 n) (LV sz e l) := by
  subst hn hl
  exact .frz hf hb (by omega) (fun i hi => by rw [hg i hi]; exact hc _) (fun i hi => by rw [Nat.zero_add]; exact (hg i hi).symm)
end
theorem part_of_eq {agg : Bool} {x v v' : V} {off size : Nat} (h : x = v) (hv : partV agg v.cells off size = some v') : partV agg x.cells off size = some v' := by subst h; exact hv
section
variable {P : Program} {r : Option Nat} {m nt : Nat} {Q : Post} {env : Env} {H : Heap} {ops : Array Oper} {l : List Stp} {ty : TypeId} {pos : String} {after : Array Edge} {x y : Operand} {T E : TypeId} {d de : TyD} {i dst : Nat} {keep : Bool}
theorem ar_make_v {n : Nat} {kl kc : IntKind} {v v' : Int} (ht : TyIs P T d) (hk : d.tk = .slice E) (he : TyIs P E de) (hx : eo env x = some (.s (.int kl v))) (hy : eo env y = some (.s (.int kc v'))) (hv : v = (n : Int)) (hv' : v' = (n : Int)) (hd : dst < nt) (hok : (constV de.zero).ok = true) (hz : (constV de.zero).cells.length = de.size) (hb : de.bytes * n ≤ 281474976710656) (hm : n ≤ maxLen)
    (h : AR P r m nt ops Q l ((dst, .sl de.size H.length 0 n) :: env) (H ++ [.arr de.size n (fun _ => constV de.zero)])) : AR P r m nt ops Q (.l i ⟨some dst, .makeSlice T x y, ty, pos, after, none⟩ keep :: l) env H := by
  subst hv hv'
  exact ar_make ht hk he hx hy hd hok hz hb hm h
end
section
variable {P : Program} {r : Option Nat} {m nt : Nat} {Q : Post} {env env' : Env} {H H' : Heap} {ops : Array Oper} {l : List Stp} {ty : TypeId} {pos : String} {after : Array Edge} {i dst : Nat} {op : Op}
/-- Other words for what is known, ahead of an operation behind which nothing need stand avs it stood. -/
theorem ar_sub_l (hs : SubOf m nt env H env' H') (h : AR P r m nt ops Q (.l i ⟨some dst, op, ty, pos, after, none⟩ false :: l) env' H') : AR P r m nt ops Q (.l i ⟨some dst, op, ty, pos, after, none⟩ false :: l) env H := .mk fun X I ρ a w hX hst => by
  obtain ⟨I', ρ', _, h2⟩ := hs.1 X I ρ a w hX hst
  have h3 := h.1 X I' ρ' a w hX h2
  refine ⟨fun hw => ?_, fun hw => by rw [wanted_none rfl] at hw; cases hw⟩
  refine Oper.wpIn_mono (fun a' w' ⟨S', h4, _, h5⟩ => ⟨S', h4, (fun h => by cases h), h5⟩) (h3.1 hw)
end
section
variable {P : Program} {r : Option Nat} {m nt : Nat} {Q : Post} {env : Env} {H : Heap} {ops : Array Oper} {l : List Stp} {ty : TypeId} {pos : String} {after : Array Edge} {i : Nat} {T : TypeId} {d : TyD} {x y : Operand}
theorem putPart_one {x v : V} (h : ∀ cs, x ≠ .agg cs) : putPart x 0 v = v := by
  unfold putPart
  split
  · exact (h _ rfl).elim
  · rfl
/-- A store of a whole element of one cell, the row said in new words. -/
theorem ar_store_as {v : V} {sz b j n : Nat} {f : Nat → V} (g : Nat → V) (ht : TyIs P T d) (hx : eo env x = some (.ptr sz b j 0)) (hy : eo env y = some v) (hH : H[b]? = some (.arr sz n f)) (hok : v.ok = true) (hone : v.cells.all V.one = true)
    (hsz : v.cells.length = d.size) (hi : j < n) (hoff : 0 + d.size ≤ sz) (hv : ∀ cs, v ≠ .agg cs) (hv1 : v.cells.length = 1) (hf1 : (f j).cells.length = 1) (hf : ∀ cs, f j ≠ .agg cs) (hgj : g j = v) (hg : ∀ i, i < n → i ≠ j → g i = f i) (h : AR P r m nt ops Q l env (H.set b (.arr sz n g))) :
    AR P r m nt ops Q (.l i ⟨none, .store T x y, ty, pos, after, none⟩ false :: l) env H :=
  ar_l0 (ls_store_g ht hx hy hok hone hH hi hsz hoff (.inr ⟨rfl, hv1, hf1, hv⟩) (by rw [putPart_one hf, hgj]) hg) (fun v H' a => by subst a; exact h) (fun _ _ h => h.elim)
end
end Go.Proofs.Ytccidiflnmchiaa
namespace Go.Proofs.Ytccidiflnmchiaa
open Go.RowKit
section
variable {X : Ctx} {I J K : Imm} {ρ : List (Option (Nat × Nat))} {H : Heap} {w w' : World}
theorem WOk.grown {row : Option Nat} (h : WOk X I ρ H w) (hg : w.grownBy w' row) (hrow : ∀ r, row = some r → X.w.heap.size ≤ r ∧ I r = Option.none ∧ ∃ o : Obj, w.heap[r]? = some o ∧ o.isCells = false) (hm : ∀ (k : Nat) m, H[k]? ≠ some (.map m)) : WOk X I ρ H w' := by
  have blk : ∀ b o, w.heap[b]? = some o → (row ≠ some b) → w'.heap[b]? = some o := fun b o hb hr => (hg.block b (Array.getElem?_eq_some_iff.1 hb).1 (Ne.symm hr)).trans hb
  exact { len := h.len, inj := h.inj
          imm := fun b o hb => blk b o (h.imm b o hb) fun e => by rw [(hrow b e).2.1] at hb; cases hb
          apart := h.apart, size := h.size, none := h.none
          arr := fun k sz n f b z hk hρ => by
            obtain ⟨cs, ty, h1, h2⟩ := h.arr k sz n f b z hk hρ
            exact ⟨cs, ty, blk b _ h1 (fun e => by obtain ⟨_, _, o, h3, h4⟩ := hrow b e; rw [h1] at h3; cases h3; cases h4), h2⟩
          map := fun k m hk => (hm k m hk).elim
          mine := h.mine, news := h.news, le := h.le, pre := h.pre, os := hg.os.trans h.os, tape := hg.tape.trans h.tape, out := hg.output.trans h.out, grow := Nat.le_trans h.grow hg.size
          keep := fun b hb hl => (hg.block b (Nat.lt_of_lt_of_le hb h.grow) fun e => by have := (hrow b e.symm).1; omega).trans (h.keep b hb hl) }
theorem WOk.cut (h : WOk X I ρ H w) (hJ : J.le I) (hX : X.I.le J) (hc : ∀ b cs ty fz, I b = some (.cells cs ty fz) → J b = some (.cells cs ty fz)) : WOk X J ρ H w :=
  { len := h.len, inj := h.inj, imm := fun b o hb => h.imm b o (hJ b o hb)
    apart := fun b hb => by
      cases e : J b with
      | none => rfl
      | some o => have := hJ b o e; rw [h.apart b hb] at this; cases this
    size := h.size, none := h.none
    arr := fun k sz n f b z hk hρ => by
      obtain ⟨cs, ty, h1, h2, h3, h4⟩ := h.arr k sz n f b z hk hρ
      exact ⟨cs, ty, h1, h2, h3, fun i j v hi hv => by obtain ⟨u, h5, h6⟩ := h4 i j v hi hv; exact ⟨u, h5, h6.cut hc⟩⟩
    map := fun k m hk => by
      obtain ⟨b, h1, es, clk, h2, h3, h4⟩ := h.map k m hk
      exact ⟨b, h1, es, clk, h2, h3, fun i e x he hx => ⟨(h4 i e x he hx).1, (h4 i e x he hx).2.cut hc⟩⟩
    mine := h.mine
    news := fun b hb => h.news b fun e => by
      cases e' : J b with
      | none => exact hb e'
      | some o => rw [hJ b o e'] at e; cases e
    le := hX, pre := h.pre, os := h.os, tape := h.tape, out := h.out, grow := h.grow, keep := h.keep }
theorem WOk.more (h : WOk X I ρ H w) (hI : I.le J) (hJ : ∀ b o, J b = some o → w.heap[b]? = some o) (hn : ∀ b, J b ≠ Option.none → I b ≠ Option.none ∨ (X.w.heap.size ≤ b ∧ ¬ Live H ρ b)) : WOk X J ρ H w :=
  { len := h.len, inj := h.inj, imm := hJ
    apart := fun b hb => by
      cases e : J b with
      | none => rfl
      | some o =>
        rcases hn b (by rw [e]; simp) with h1 | h1
        · exact (h1 (h.apart b hb)).elim
        · exact (h1.2 hb).elim
    size := h.size, none := h.none
    arr := fun k sz n f b z hk hρ => (h.arr k sz n f b z hk hρ).mono hI (Pre.refl _) rfl
    map := fun k m hk => by
      obtain ⟨b, h1, h2⟩ := h.map k m hk
      exact ⟨b, h1, h2.mono hI (Pre.refl _) rfl⟩
    mine := h.mine
    news := fun b hb => by
      rcases hn b hb with h1 | h1
      · exact h.news b h1
      · exact .inr (.inl h1.1)
    le := Imm.le_trans h.le hI, pre := h.pre, os := h.os, tape := h.tape, out := h.out, grow := h.grow, keep := h.keep }
theorem WOk.ctx (h : WOk X I ρ H w) : WOk ⟨X.w, X.ρ, X.H, I⟩ I ρ H w :=
  { h with news := fun _ hb => .inl hb, le := Imm.le_refl _ }
theorem WOk.unctx (h : WOk ⟨X.w, X.ρ, X.H, K⟩ I ρ H w) (hX : X.I.le K) (hn : ∀ b, K b ≠ Option.none → X.I b ≠ Option.none ∨ X.w.heap.size ≤ b ∨ Live X.H X.ρ b) : WOk X I ρ H w :=
  { h with le := Imm.le_trans hX h.le
           news := fun b hb => by
            rcases h.news b hb with h1 | h1
            · exact hn b h1
            · exact .inr h1 }
end
def setsE : List (Nat × Value) → Env → Env
  | [], env => env
  | (p, v) :: l, env => setsE l ((p, .s v) :: env)
def movesE (nt : Nat) : List Oper → Env → Option Env
  | [], env => some env
  | o :: l, env => match o.op, o.dst, o.guard with
    | .move x, some d, none => bif Nat.blt d nt then (eo env x).bind fun v => movesE nt l ((d, v) :: env) else none
    | .assign x, some d, none => bif Nat.blt d nt then (eo env x).bind fun v => movesE nt l ((d, v) :: env) else none
    | _, _, _ => none
def movesC (nt : Nat) : Code → Env → Option Env
  | .skip, env => some env
  | .region _ ops false, env => movesE nt ops.toList env
  | .seq x y, env => (movesC nt x env).bind (movesC nt y)
  | _, _ => none
section
variable {P : Program} {r : Option Nat} {I : Imm} {ρ : List (Option (Nat × Nat))} {nt : Nat} {env env' : Env} {a : Act} {w : World} {ops : Array Oper} {Q : Exit → Act → World → Prop}
theorem env_sets : ∀ (l : List (Nat × Value)) (env : Env) (t : Array Value), EnvOk I ρ nt env { tmps := t, defers := [] } → (∀ p ∈ l, p.1 < nt) → EnvOk I ρ nt (setsE l env) { tmps := l.foldl (fun t pv => t.setIfInBounds pv.1 pv.2) t, defers := [] }
  | [], _, _, h, _ => h
  | (p, v) :: l, _, _, h, hp => env_sets l _ _ (h.put (d := p) (.s v) (hp (p, v) List.mem_cons_self)) (fun q hq => hp q (List.mem_cons_of_mem _ hq))
theorem runP_moves : ∀ (l : List Oper) (i : Nat) (env : Env) (a : Act), movesE nt l env = some env' → EnvOk I ρ nt env a → (∀ a', EnvOk I ρ nt env' a' → a'.defers = a.defers → Q .normal a' w) → runP P r ops Q (textPlan l i) (fun _ => True) a w
  | [], _, _, a, h, he, hk => by cases h; exact hk a he rfl
  | o :: l, i, env, a, h, he, hk => by
    have step : ∀ (x : Operand) (d : Nat) (v : V), o.dst = some d → o.guard = none → plainOp o.op = true → (∀ w', (execOp a.eval o).run P w' = .ok (.value (a.eval x)) w') → d < nt → eo env x = some v → movesE nt l ((d, v) :: env) = some env' → runP P r ops Q (textPlan (o :: l) i) (fun _ => True) a w := by
      intro x d v hd hg hp hr hlt hx hm
      simp only [textPlan, hp, cond_true]
      refine ⟨fun _ => ⟨a.eval x, fun w' _ => hr w', ?_⟩, fun hw => by rw [wanted_none hg] at hw; cases hw⟩
      rw [hd]
      exact runP_moves l (i + 1) _ _ hm (he.put (eo_rel he hx) hlt) hk
    simp only [movesE] at h
    split at h
    · rename_i x d ho hd hg
      cases hb : Nat.blt d nt <;> rw [hb] at h
      · cases h
      · obtain ⟨v, hv, hm⟩ := Option.bind_eq_some_iff.1 h
        exact step x d v hd hg (by rw [ho]; rfl) (fun w' => by simp [execOp, ho]) (by rwa [Nat.blt_eq] at hb) hv hm
    · rename_i x d ho hd hg
      cases hb : Nat.blt d nt <;> rw [hb] at h
      · cases h
      · obtain ⟨v, hv, hm⟩ := Option.bind_eq_some_iff.1 h
        exact step x d v hd hg (by rw [ho]; rfl) (fun w' => by simp [execOp, ho]) (by rwa [Nat.blt_eq] at hb) hv hm
    · cases h
theorem wp_moves {c : Code} (h : movesC nt c env = some env') (he : EnvOk I ρ nt env a) (hk : ∀ a', EnvOk I ρ nt env' a' → a'.defers = a.defers → Q .normal a' w) : c.wpIn (Fw r) 0 P Q a w := by
  induction c generalizing env env' a Q with
  | skip => cases h; exact wpIn_skip (hk a he rfl)
  | region id ops b =>
    cases b with
    | true => cases h
    | false =>
      rw [show ops = ops.toList.toArray from (Array.toArray_toList).symm]
      exact region_text (fun _ => True) trivial (runP_moves ops.toList 0 env a h he hk)
  | seq x y ihx ihy =>
    obtain ⟨e1, h1, h2⟩ := Option.bind_eq_some_iff.1 h
    exact wpIn_seq (ihx h1 he fun a1 ha1 hd1 => ihy h2 ha1 fun a' ha' hd' => hk a' ha' (hd'.trans hd1))
  | _ => cases h
end
def KpI (I : Imm) (W W' : World) : Prop := ∀ b o, I b = some o → W.heap[b]? = some o → W'.heap[b]? = some o
/-- An iterator whose closure holds 'vs': it hands over 'el 0', 'el 1', .. 'el (N - 1)', avs long avs the loop goes on. -/
structure Iter (P : Program) (gf : FuncId) (vs : List V) (N : Nat) (el : Nat → List Value) : Prop where
  out : ∀ (I : Imm) us (l : Nat) (J : Nat → World → Prop) (W : World), (∀ b o, I b = some o → W.heap[b]? = some o) → VRels I [] vs us → (∀ k W W', J k W → W.grownBy W' none → J k W') →
    (∀ k W1, J k W1 → k < N → YieldAt Fence.wide 0 P l (el k).toArray W1 fun e W' => e = .returned (.bool true) ∧ J (k + 1) W' ∧ KpI I W1 W') → J 0 W →
    CallsIn Fence.wide 1 P gf (#[.func (.yield l) #[] #[]] ++ us) W fun e W' => (∃ v, e = .returned v) ∧ J N W'
def RangeQ (m nt : Nat) (G' : Heap) : Post
  | .normal, env, H => SubOf m nt env H [] G'
  | _, _, _ => False
set_option maxHeartbeats 1000000 in
theorem aw_range {P : Program} {m nt : Nat} {Q : Post} {env : Env} {H : Heap} {g : Operand} {ps : Array Tmp} {assign body : Code} {gf : FuncId} {vs : List V} {N : Nat} {el : Nat → List Value} (G : Nat → Heap) (E1 : Nat → Env)
    (hg : eo env g = some (.fn (.func gf) [] vs)) (hvs : V.closed.all vs = true) (hfn : FnOk P gf) (hit : Iter P gf vs N el) (hps : ∀ k, k < N → (el k).length = ps.size) (hpn : ∀ p ∈ ps.toList, p < nt)
    (hmv : ∀ k, k < N → movesC nt assign (setsE (ps.toList.zip (el k)) env) = some (E1 k)) (hmaps : ∀ (k b : Nat) ms, (G k)[b]? ≠ some (.map ms)) (h0 : SubOf H.length nt env H [] (G 0))
    (round : ∀ k lp, k < N → AW P (some lp) H.length nt body (RangeQ H.length nt (G (k + 1))) (E1 k) (G k)) (hdone : Q .normal env (G N)) : AW P none m nt (.rangeFunc g ps assign body) Q env H := by
  classical
  refine ⟨fun X I ρ a w hX hst => ?_⟩
  obtain ⟨hE, hw, hD⟩ := hst
  refine (wpIn_wide (n := 0)).2 ((wpIn_wide (n := 2)).1 (wpIn_rangeFunc (F := Fence.wide) ?_))
  intro fn hfn'
  have hIlt : ∀ b o, I b = some o → b < w.heap.size := fun b o hb => (Array.getElem?_eq_some_iff.1 (hw.imm b o hb)).1
  -- the iterator's value
  have hgv := eo_rel hE hg
  obtain ⟨lb, hev, hrel⟩ : ∃ lb, a.eval g = .func (.func gf) #[] lb ∧ VRels I [] vs lb := by
    cases e : a.eval g <;> rw [e] at hgv <;> cases hgv
    rename_i us ws h1 h2 h3 h4
    have : us = #[] := by cases us; simp at h1; simp [h1]
    subst this
    exact ⟨ws, rfl, h3, fun j v u hj hu => (h4 j v u hj hu).close (closed_all hvs hj)⟩
  obtain ⟨rec, hrec⟩ : ∃ rec : LoopState → Option Code → Loop, rec = fun st pe => { state := st, pending := pe, fn, tmps := a.tmps, params := ps, assign, body, defers := w.heap.size } := ⟨_, rfl⟩
  obtain ⟨W1, hW1⟩ : ∃ W1, (w.alloc (.deferred (some []))).alloc (.loop (rec .ready none)) = W1 := ⟨_, rfl⟩
  have hL1 : W1.heap[w.heap.size + 1]? = some (.loop (rec .ready none)) := by
    rw [← hW1]; have := World.alloc_heap_new (w.alloc (.deferred (some []))) (.loop (rec .ready none)); rwa [World.size_alloc] at this
  have hK1 : W1.heap[w.heap.size]? = some (.deferred (some [])) := by
    rw [← hW1]; exact (Below.heap_alloc _ _ _ (by simp)).trans (World.alloc_heap_new w _)
  -- between two rounds
  let Inv : Nat → World → Prop := fun k W => ∃ I' ρ', WOk (Ctx.self w ρ H I) I' ρ' (G k) W ∧ ∀ b o, I' b = some o → I b = some o ∨ o.isCells = true
  have invGrow : ∀ k W W' row, Inv k W → W.grownBy W' row → (∀ r, row = some r → w.heap.size ≤ r ∧ ∃ o : Obj, W.heap[r]? = some o ∧ o.isCells = false) → Inv k W' := by
    rintro k W W' row ⟨I', ρ', h1, h2⟩ hg hr
    refine ⟨I', ρ', h1.grown hg (fun r e => ?_) (hmaps k), h2⟩
    obtain ⟨h3, o, h4, h5⟩ := hr r e
    refine ⟨h3, ?_, o, h4, h5⟩
    cases e' : I' r with
    | none => rfl
    | some o' =>
      have h6 := h1.imm r o' e'
      rw [h4] at h6; cases h6
      rcases h2 r _ e' with h7 | h7
      · have := hIlt r _ h7; omega
      · rw [h5] at h7; cases h7
  have cutInv : ∀ k W I' ρ', WOk (Ctx.self w ρ H I) I' ρ' (G k) W → Inv k W := fun k W I' ρ' h1 => by
    let I4 : Imm := fun b => if I b = none ∧ (∀ o, I' b = some o → o.isCells = false) then none else I' b
    refine ⟨I4, ρ', h1.cut (fun b o hb => ?_) (fun b o hb => ?_) (fun b cs ty fz hb => ?_), fun b o hb => ?_⟩
    · have hb : (if I b = none ∧ (∀ o, I' b = some o → o.isCells = false) then none else I' b) = some o := hb
      split at hb
      · cases hb
      · exact hb
    · show (if I b = none ∧ (∀ o, I' b = some o → o.isCells = false) then none else I' b) = some o
      have hb' : I b = some o := hb
      rw [if_neg (fun h => by rw [hb'] at h; cases h.1)]
      exact h1.le b o hb
    · show (if I b = none ∧ (∀ o, I' b = some o → o.isCells = false) then none else I' b) = _
      rw [if_neg (fun h => by have := h.2 _ hb; cases this)]
      exact hb
    · have hb : (if I b = none ∧ (∀ o, I' b = some o → o.isCells = false) then none else I' b) = some o := hb
      split at hb
      · cases hb
      · rename_i hno
        cases hI : I b with
        | none =>
          right
          cases ho : o.isCells with
          | true => rfl
          | false => exact (hno ⟨hI, fun o' ho' => by rw [hb] at ho'; cases ho'; exact ho⟩).elim
        | some o2 =>
          have := h1.le b o2 hI
          rw [hb] at this; cases this
          exact .inl rfl
  have hInv0 : Inv 0 W1 := by
    have hself : St (Ctx.self w ρ H I) nt env H I ρ { a with defers := [] } w := ⟨hE, hw.self, DOk.nil rfl⟩
    obtain ⟨I1, ρ1, hle, h2⟩ := h0.1 (Ctx.self w ρ H I) I ρ _ w hw.len hself
    have h3 := cutInv 0 w I1 ρ1 h2.2.1
    rw [← hW1]
    refine invGrow 0 _ _ none (invGrow 0 _ _ none h3 (World.grownBy_alloc _ _ none) (fun r e => by cases e)) (World.grownBy_alloc _ _ none) (fun r e => by cases e)
  refine ⟨w.heap.size + 1, [{ target := .collected w.heap.size, args := #[] }], W1, { target := .fn (.func gf) lb, args := #[.func (.yield (w.heap.size + 1)) #[] #[]] }, W1, gf,
    #[.func (.yield (w.heap.size + 1)) #[] #[]] ++ lb, W1, ?_, ?_, ?_, ?_, fun _ => by omega, ?_⟩
  · rw [← hW1, hrec]; exact run_enterLoop_outer _ _ _ _ _
  · simp only [resolve, hev]
    simp [go_sem]
  · intro f' hf'; simp [Target.leads] at hf'; subst hf'; exact trivial
  · have := hfn
    simp only [FnOk] at this
    simp [invoke, go_sem, this]
  · refine (hit.out I lb (w.heap.size + 1) (fun k W => Inv k W ∧ W.heap[w.heap.size + 1]? = some (.loop (rec .ready none)) ∧ W.heap[w.heap.size]? = some (.deferred (some []))) W1 ?_ hrel ?_ ?_ ⟨hInv0, hL1, hK1⟩).mono ?_
    · intro b o hb
      have hlt := hIlt b o hb
      rw [← hW1]
      exact (Below.heap_alloc _ _ _ (by simp; omega)).trans ((Below.heap_alloc _ _ _ hlt).trans (hw.imm b o hb))
    · rintro k W W' ⟨h1, h2, h3⟩ hg
      refine ⟨invGrow k W W' none h1 hg (fun r e => by cases e), ?_, ?_⟩
      · exact (hg.block _ (Array.getElem?_eq_some_iff.1 h2).1 (by simp)).trans h2
      · exact (hg.block _ (Array.getElem?_eq_some_iff.1 h3).1 (by simp)).trans h3
    · -- one round
      rintro k W ⟨hi, hl, hk⟩ hlen
      have hlt : w.heap.size + 1 < W.heap.size := (Array.getElem?_eq_some_iff.1 hl).1
      have hy := run_yield (P := P) (args := (el k).toArray) hl (by rw [hrec]; simpa using hps k hlen)
      rw [hrec] at hy
      refine ⟨fn, _, assign, body, hy, roundIn_of_wpIn hfn' ?_⟩
      have hE1 : EnvOk I ρ nt (setsE (ps.toList.zip (el k)) env) { tmps := (ps.toList.zip (el k)).foldl (fun t pv => t.setIfInBounds pv.1 pv.2) a.tmps, defers := [] } :=
        env_sets _ _ _ hE fun p hp => hpn p.1 (List.of_mem_zip hp).1
      have etmps : (ps.zip (el k).toArray).foldl (fun t (p, v) => t.setIfInBounds p v) a.tmps = (ps.toList.zip (el k)).foldl (fun t pv => t.setIfInBounds pv.1 pv.2) a.tmps := by
        rw [← Array.foldl_toList, Array.toList_zip]
      refine wp_moves (r := some (w.heap.size + 1)) (I := I) (ρ := ρ) (hmv k hlen) (by rw [← etmps] at hE1; exact hE1) fun a' ha' hd' => ?_
      refine ⟨_, run_beginRound hl (by rw [hrec]), ?_⟩
      obtain ⟨W2, hW2⟩ : ∃ W2, W.putObj (w.heap.size + 1) (.loop { rec .ready none with state := .busy }) = W2 := ⟨_, rfl⟩
      rw [hW2]
      have hl2 : W2.heap[w.heap.size + 1]? = some (.loop { rec .ready none with state := .busy }) := by rw [← hW2]; exact World.putObj_heap_same hlt
      have hk2 : W2.heap[w.heap.size]? = some (.deferred (some [])) := by rw [← hW2]; exact (World.putObj_heap_other (by omega)).trans hk
      obtain ⟨I', ρ', hwk, hcells⟩ : Inv k W2 := by
        rw [← hW2]
        exact invGrow k W _ (some (w.heap.size + 1)) hi (grownBy_putObj' W _ _) (fun r e => by cases e; exact ⟨by omega, _, hl, rfl⟩)
      let I2 : Imm := fun b => if I' b = none ∧ w.heap.size ≤ b ∧ (∃ o, W2.heap[b]? = some o ∧ o.isCells = false) then W2.heap[b]? else I' b
      have hle2 : I'.le I2 := fun b o hb => by
        show (if I' b = none ∧ w.heap.size ≤ b ∧ (∃ o, W2.heap[b]? = some o ∧ o.isCells = false) then W2.heap[b]? else I' b) = some o
        rw [if_neg (fun h => by rw [hb] at h; cases h.1)]
        exact hb
      have notLive : ∀ b o, W2.heap[b]? = some o → o.isCells = false → ¬ Live (G k) ρ' b := by
        rintro b o hb ho ⟨j, blk, h1, h2, z, h3⟩
        cases blk with
        | dead => exact h2 rfl
        | map ms => exact hmaps k j ms h1
        | arr sz n f =>
          obtain ⟨cs, ty, h4, _⟩ := hwk.arr _ _ _ _ _ _ h1 h3
          rw [hb] at h4; cases h4; cases ho
      have hwk2 : WOk (Ctx.self w ρ H I) I2 ρ' (G k) W2 := hwk.more hle2 (fun b o hb => by
          have hb : (if I' b = none ∧ w.heap.size ≤ b ∧ (∃ o, W2.heap[b]? = some o ∧ o.isCells = false) then W2.heap[b]? else I' b) = some o := hb
          split at hb
          · exact hb
          · exact hwk.imm b o hb) (fun b hb => by
          have hb : (if I' b = none ∧ w.heap.size ≤ b ∧ (∃ o, W2.heap[b]? = some o ∧ o.isCells = false) then W2.heap[b]? else I' b) ≠ none := hb
          split at hb
          · rename_i h
            obtain ⟨_, h1, o, h2, h3⟩ := h
            exact .inr ⟨h1, notLive b o h2 h3⟩
          · exact .inl hb)
      have inI2 : ∀ b o, w.heap.size ≤ b → W2.heap[b]? = some o → o.isCells = false → I2 b = some o := fun b o h1 h2 h3 => by
        show (if I' b = none ∧ w.heap.size ≤ b ∧ (∃ o, W2.heap[b]? = some o ∧ o.isCells = false) then W2.heap[b]? else I' b) = some o
        split
        · exact h2
        · rename_i hno
          cases e : I' b with
          | none => exact (hno ⟨e, h1, o, h2, h3⟩).elim
          | some o' => have := hwk.imm b o' e; rw [h2] at this; cases this; rfl
      have hbody := (round k (w.heap.size + 1) hlen).1 ⟨w, ρ, H, I2⟩ I2 ρ' a' W2 hw.len ⟨(ha'.mono hwk.le hwk.pre).mono hle2 (Pre.refl _), hwk2.ctx, DOk.nil hd'⟩
      refine wpIn_mono hbody fun e a3 W3 hq => ?_
      cases e with
      | normal =>
        obtain ⟨env3, H3, I3, ρ3, hst3, hsub⟩ := hq
        obtain ⟨I4, ρ4, _, hst4⟩ := hsub.1 ⟨w, ρ, H, I2⟩ I3 ρ3 a3 W3 hw.len hst3
        have hw4 := hst4.2.1
        have hl3 : W3.heap[w.heap.size + 1]? = some (.loop { rec .ready none with state := .busy }) := hw4.imm _ _ (hw4.le _ _ (inI2 _ _ (by omega) hl2 rfl))
        have hk3 : W3.heap[w.heap.size]? = some (.deferred (some [])) := hw4.imm _ _ (hw4.le _ _ (inI2 _ _ (Nat.le_refl _) hk2 rfl))
        have hw5 : WOk (Ctx.self w ρ H I) I4 ρ4 (G (k + 1)) W3 := WOk.unctx (X := Ctx.self w ρ H I) (K := I2) hw4 (Imm.le_trans hwk.le hle2) fun b hb => hwk2.news b hb
        have hinv := cutInv (k + 1) W3 I4 ρ4 hw5
        have hend := run_endRound (P := P) none hl3
        rw [hrec] at hend
        have hlt3 := (Array.getElem?_eq_some_iff.1 hl3).1
        refine ⟨_, _, hend, rfl, ⟨?_, ?_, ?_⟩, ?_⟩
        · exact invGrow (k + 1) W3 _ (some (w.heap.size + 1)) hinv (grownBy_putObj' W3 _ _) (fun r e => by cases e; exact ⟨by omega, _, hl3, rfl⟩)
        · rw [hrec]; exact World.putObj_heap_same hlt3
        · exact (World.putObj_heap_other (by omega)).trans hk3
        · intro b o hb hWb
          have hlt := hIlt b o hb
          refine (World.putObj_heap_other (by omega)).trans (hw5.imm b o (hw5.le b o hb))
      | exit id => obtain ⟨_, _, _, _, _, h⟩ := hq; exact h.elim
      | goto t => obtain ⟨_, _, _, _, _, h⟩ := hq; exact h.elim
      | ret => obtain ⟨_, _, _, _, _, h⟩ := hq; exact h.elim
      | panic c => obtain ⟨_, _, _, _, _, _, _, _, _, h⟩ := hq; exact h.elim
      | outgrown => exact hq.elim
    · -- behind the iterator
      rintro e W2 ⟨⟨v, rfl⟩, hi, hl, hk⟩
      have hend := run_endLoop (P := P) hl (by rw [hrec]; simp)
      rw [hrec] at hend
      obtain ⟨o4, hend4⟩ : ∃ o4, (Instr.endLoop (w.heap.size + 1)).run P W2 = .ok none (W2.putObj (w.heap.size + 1) o4) := ⟨_, hend⟩
      refine ⟨none, _, hend4, ?_⟩
      obtain ⟨I', ρ', h1, h2⟩ := invGrow N W2 _ (some (w.heap.size + 1)) hi (grownBy_putObj' W2 _ o4) (fun r e => by cases e; exact ⟨by omega, _, hl, rfl⟩)
      have hkk : (W2.putObj (w.heap.size + 1) o4).heap[w.heap.size]? = some (.deferred (some [])) := (World.putObj_heap_other (by omega)).trans hk
      let I2 : Imm := fun b => if b = w.heap.size then some (.deferred (some [])) else I' b
      have hIn : I' w.heap.size = none := by
        cases e : I' w.heap.size with
        | none => rfl
        | some o =>
          have h3 := h1.imm _ o e
          rw [hkk] at h3; cases h3
          rcases h2 _ _ e with h4 | h4
          · have := hIlt _ _ h4; omega
          · cases h4
      have hle2 : I'.le I2 := fun b o hb => by
        show (if b = w.heap.size then some (.deferred (some [])) else I' b) = some o
        rw [if_neg (fun e => by subst e; rw [hIn] at hb; cases hb)]
        exact hb
      have h3 := h1.more hle2 (fun b o hb => by
        have hb' : (if b = w.heap.size then some (.deferred (some [])) else I' b) = some o := hb
        clear hb
        split at hb'
        · rename_i e; rw [e, ← hb']; exact hkk
        · exact h1.imm b o hb') (fun b hb => by
        have hb : (if b = w.heap.size then some (Obj.deferred (some [])) else I' b) ≠ none := hb
        split at hb
        · rename_i e
          subst e
          refine .inr ⟨Nat.le_refl _, ?_⟩
          rintro ⟨j, blk, g1, g2, z, g3⟩
          cases blk with
          | dead => exact g2 rfl
          | map ms => exact hmaps N j ms g1
          | arr sz n f =>
            obtain ⟨cs, ty, g4, _⟩ := h1.arr _ _ _ _ _ _ g1 g3
            rw [hkk] at g4; cases g4
        · exact .inl hb)
      obtain ⟨Ds, d1, d2, d3⟩ := hD
      refine ⟨env, G N, I2, ρ', ⟨hE.mono (Imm.le_trans h1.le hle2) h1.pre, hw.trans h3, w.heap.size :: Ds, ?_, ?_, ?_⟩, hdone⟩
      · rw [List.nodup_cons]
        exact ⟨fun hd => by have := hIlt _ _ (d3 _ hd).2; omega, d1⟩
      · show [_] ++ a.defers = _
        rw [d2]; rfl
      · intro D hD
        rcases List.mem_cons.1 hD with e | e
        · subst e
          refine ⟨hw.grow, ?_⟩
          show (if w.heap.size = w.heap.size then some (Obj.deferred (some [])) else _) = _
          rw [if_pos rfl]
        · exact ⟨(d3 D e).1, hle2 _ _ (h1.le _ _ (d3 D e).2)⟩
end Go.Proofs.Ytccidiflnmchiaa
namespace Go.Proofs.Ytccidiflnmchiaa.It
open Go.RowKit
/-- What an iterator is handed: the loop, and what a round makes true. -/
structure Cx (P : Program) where
  l : Nat
  I : Imm
  J : Nat → World → Prop
  N : Nat
  el : Nat → List Value
  round : ∀ k W1, J k W1 → k < N → YieldAt Fence.wide 0 P l (el k).toArray W1 fun e W' => e = .returned (.bool true) ∧ J (k + 1) W' ∧ KpI I W1 W'
abbrev Post := AE → Env → Nat → Prop
section
variable {P : Program} (C : Cx P)
def St (nt : Nat) (env : Env) (k : Nat) (a : Act) (w : World) : Prop := EnvOk C.I [] nt env a ∧ (∀ b o, C.I b = some o → w.heap[b]? = some o) ∧ a.defers = [] ∧ C.J k w
def Lift (nt : Nat) (Q : Post) : Exit → Act → World → Prop
  | .normal, a, w => ∃ env k, St C nt env k a w ∧ Q .normal env k
  | .exit id, a, w => ∃ env k, St C nt env k a w ∧ Q (.exit id) env k
  | .goto l, a, w => ∃ env k, St C nt env k a w ∧ Q (.goto l) env k
  | .ret, a, w => ∃ env k, St C nt env k a w ∧ Q .ret env k
  | .panic _, _, _ => False
  | .outgrown, _, _ => False
structure AW (nt : Nat) (c : Code) (Q : Post) (env : Env) (k : Nat) : Prop where
  out : ∀ a w, St C nt env k a w → c.wpIn (Fw none) 0 P (Lift C nt Q) a w
structure AR (nt : Nat) (ops : Array Oper) (Q : Post) (l : List Stp) (env : Env) (k : Nat) : Prop where
  out : ∀ a w, St C nt env k a w → runP P none ops (Lift C nt Q) l (Keeps C.I [] [] w) a w
end
def thenP (next : Env → Nat → Prop) (Q : Post) : Post
  | .normal, env, k => next env k
  | e, env, k => Q e env k
def inBlockP (id : Nat) (Q : Post) : Post
  | .exit id', env, k => bif Nat.beq id' id then Q .normal env k else Q (.exit id') env k
  | e, env, k => Q e env k
def Has (env : Env) : Env → Prop
  | [] => True
  | (t, v) :: l => look env t = some v ∧ Has env l
section
variable {P : Program} {C : Cx P} {nt : Nat} {Q Q' : Post} {env env' : Env} {k : Nat} {ops : Array Oper} {l : List Stp} {dst : Nat} {ty : TypeId} {pos : String} {after : Array Edge}
theorem has_look : ∀ {e : Env} {t : Nat} {v : V}, Has env e → look e t = some v → look env t = some v
  | [], _, _, _, h => by simp [look] at h
  | (k, y) :: l, t, v, hs, h => by
    rw [look_cons] at h
    split at h
    · rename_i e; subst e; cases h; exact hs.1
    · exact has_look hs.2 h
theorem St.has {a : Act} {w : World} (h : St C nt env k a w) (he : Has env env') : St C nt env' k a w := ⟨⟨h.1.1, fun t v ht => h.1.2 t v (has_look he ht)⟩, h.2⟩
theorem Lift.mono (h : ∀ e env k, Q e env k → Q' e env k) : ∀ e a w, Lift C nt Q e a w → Lift C nt Q' e a w
  | .normal, _, _, ⟨a, b, c, d⟩ => ⟨a, b, c, h _ _ _ d⟩
  | .exit _, _, _, ⟨a, b, c, d⟩ => ⟨a, b, c, h _ _ _ d⟩
  | .goto _, _, _, ⟨a, b, c, d⟩ => ⟨a, b, c, h _ _ _ d⟩
  | .ret, _, _, ⟨a, b, c, d⟩ => ⟨a, b, c, h _ _ _ d⟩
  | .panic _, _, _, h => h
  | .outgrown, _, _, h => h
theorem aw_skip (h : Q .normal env k) : AW C nt .skip Q env k := .mk fun _ _ hs => wpIn_skip ⟨env, k, hs, h⟩
theorem aw_exit {id : Nat} (h : Q (.exit id) env k) : AW C nt (.exit id) Q env k := .mk fun _ _ hs => wpIn_exit ⟨env, k, hs, h⟩
theorem aw_ret (h : Q .ret env k) : AW C nt .ret Q env k := .mk fun _ _ hs => wpIn_ret ⟨env, k, hs, h⟩
theorem lift_then {nxt : Env → Nat → Prop} {K : Act → World → Prop} (h : ∀ env k a w, St C nt env k a w → nxt env k → K a w) : ∀ e a w, Lift C nt (thenP nxt Q) e a w → Exit.then K (Lift C nt Q) e a w
  | .normal, _, _, ⟨_, _, c, d⟩ => h _ _ _ _ c d
  | .exit _, _, _, h => h
  | .goto _, _, _, h => h
  | .ret, _, _, h => h
  | .panic _, _, _, h => h
  | .outgrown, _, _, h => h
theorem aw_seq {x y : Code} (h : AW C nt x (thenP (AW C nt y Q) Q) env k) : AW C nt (.seq x y) Q env k := .mk
  fun a w hs => wpIn_seq (wpIn_mono (h.1 a w hs) (lift_then fun _ _ a w hs h => h.1 a w hs))
theorem aw_cond {c : Operand} {x y : Code} {b : Bool} (hc : eo env c = some (.s (.bool b))) (ht : b = true → AW C nt x Q env k) (hf : b = false → AW C nt y Q env k) : AW C nt (.cond c x y) Q env k := .mk
  fun a w hs => wpIn_cond_split (eo_bool hs.1 hc) (fun e => (ht e).1 a w hs) (fun e => (hf e).1 a w hs)
theorem aw_block {id : Nat} {c : Code} (h : AW C nt c (inBlockP id Q) env k) : AW C nt (.block id c) Q env k := .mk
  fun a w hs => wpIn_block (wpIn_mono (h.1 a w hs) fun e a w h => by
    cases e with
    | exit id' =>
      obtain ⟨env, k, hs, hq⟩ := h
      simp only [inBlockP] at hq
      simp only [Exit.inBlock]
      cases hb : Nat.beq id' id
      · rw [hb] at hq
        rw [if_neg (fun e => by rw [e, Nat.beq_refl] at hb; cases hb)]
        exact ⟨env, k, hs, hq⟩
      · rw [hb] at hq
        rw [if_pos (Nat.eq_of_beq_eq_true hb)]
        exact ⟨env, k, hs, hq⟩
    | normal => exact h
    | goto _ => exact h
    | ret => exact h
    | panic _ => exact h
    | outgrown => exact h)
/-- A loop that hands over one element in each round. -/
theorem aw_for {c : Code} (M : Nat) (E : Nat → Env) (hk : k ≤ M) (h0 : Has env (E k)) (round : ∀ j, j ≤ M → AW C nt c (thenP (fun env' k' => j < M ∧ k' = j + 1 ∧ Has env' (E (j + 1))) Q) (E j) j) : AW C nt (.loop c) Q env k := .mk fun a w hs =>
  wpIn_loopN (fun n a w => ∃ j, j ≤ M ∧ n = M - j ∧ St C nt (E j) j a w) (M - k) ⟨k, hk, rfl, hs.has h0⟩ fun n a w ⟨j, hj, hn, hs⟩ =>
    wpIn_mono ((round j hj).1 a w hs) (lift_then fun env' k' a' w' hs' h => by
      obtain ⟨h1, rfl, h3⟩ := h
      exact ⟨M - (j + 1), by omega, j + 1, h1, rfl, hs'.has h3⟩)
theorem wok {I : Imm} {w : World} (h : ∀ b o, I b = some o → w.heap[b]? = some o) : WOk (Ctx.self w [] [] I) I [] [] w := WOk.begin h
theorem aw_region {l : List Oper} {id : Nat} (h : AR C nt l.toArray Q (textPlan l 0) env k) : AW C nt (.region id l.toArray false) Q env k := .mk
  fun a w hs => region_text (Keeps C.I [] [] w) (Keeps.refl (wok hs.2.1)) (h.1 a w hs)
theorem ar_nil (h : Q .normal env k) : AR C nt ops Q [] env k := .mk fun _ _ hs => ⟨env, k, hs, h⟩
theorem ar_q {i d : Nat} {op : Op} {v : V} (h : QS P nt env [] ⟨some d, op, ty, pos, after, none⟩ v) (hd : d < nt) (hk : AR C nt ops Q l ((d, v) :: env) k) :
    AR C nt ops Q (.q i ⟨some d, op, ty, pos, after, none⟩ :: l) env k := .mk fun a w hs => by
  refine ⟨fun _ => ?_, fun hw => by rw [wanted_none rfl] at hw; cases hw⟩
  obtain ⟨u, h1, h2⟩ := h.1 _ C.I [] a w hs.1 (wok hs.2.1)
  exact ⟨u, h2, hk.1 _ w ⟨hs.1.put h1 hd, hs.2⟩⟩
theorem ar_guard {s : Stp} {g t d : Nat} {b want : Bool} (hg : s.oper.guard = some (g, want)) (ht : (ops[g]?).bind (·.dst) = some t) (hb : look env t = some (.s (.bool b))) (hd : s.oper.dst = some d) (hdn : d < nt)
    (hy : b = want → AR C nt ops Q (s.bare :: l) ((t, .s (.bool want)) :: env) k) (hn : b = !want → AR C nt ops Q l ((d, .s undef) :: (t, .s (.bool !want)) :: env) k) : AR C nt ops Q (s :: l) env k := .mk fun a w hs => by
  obtain ⟨h1, h2⟩ := hs.1.2 t _ hb
  have ev : a.tmps.getD t undef = .bool b := by cases h2' : a.tmps.getD t undef <;> rw [h2'] at h2 <;> cases h2; rfl
  have ey : yielded ops a.tmps g = some b := by
    unfold yielded
    have hlt : t < a.tmps.size := by rw [hs.1.1]; exact h1
    simp only [ht, Option.bind_some]
    simp [hlt] at ev
    simp [hlt, ev]
  have hw : Region.wanted s.oper (yielded ops a.tmps) = (b == want) := by
    unfold Region.wanted
    rw [hg]
    simp only [ey]
    cases b <;> cases want <;> rfl
  have sub : ∀ b', b = b' → EnvOk C.I [] nt ((t, .s (.bool b')) :: env) a := fun b' e => by
    subst e
    refine ⟨hs.1.1, fun t' v' h' => ?_⟩
    rw [look_cons] at h'
    split at h'
    · rename_i e; subst e; cases h'; exact ⟨h1, h2⟩
    · exact hs.1.2 t' v' h'
  by_cases e : b = want
  · have ih := (hy e).1 a w ⟨sub _ e, hs.2⟩
    clear hy hn
    have hwt : Region.wanted s.oper (yielded ops a.tmps) = true := by rw [hw, e]; simp
    cases s with
    | q i o =>
      have ih : (Region.wanted { o with guard := none } (yielded ops a.tmps) = true → _) ∧ _ := ih
      exact ⟨fun _ => ih.1 (wanted_none rfl), fun h' => absurd (h'.symm.trans hwt) (by decide)⟩
    | l i o k =>
      have ih : (Region.wanted { o with guard := none } (yielded ops a.tmps) = true → _) ∧ _ := ih
      exact ⟨fun _ => ih.1 (wanted_none rfl), fun h' => absurd (h'.symm.trans hwt) (by decide)⟩
    | fork ps => cases hg
  · have e' : b = !want := by cases b <;> cases want <;> simp_all
    have hwf : Region.wanted s.oper (yielded ops a.tmps) = false := by rw [hw, e']; cases want <;> rfl
    have ih : runP P none ops (Lift C nt Q) l (Keeps C.I [] [] w) (a.put (some d) undef) w := (hn e').1 _ w ⟨(sub _ e').put (.s _) hdn, hs.2⟩
    rw [← hd] at ih
    cases s with
    | q i o => exact ⟨fun h' => absurd (h'.symm.trans hwf) (by decide), fun _ => ih⟩
    | l i o k => exact ⟨fun h' => absurd (h'.symm.trans hwf) (by decide), fun _ => ih⟩
    | fork ps => cases hg
theorem ar_guard_u {s : Stp} {g t e : Nat} {want : Bool} (hg : s.oper.guard = some (g, want)) (ht : (ops[g]?).bind (·.dst) = some t) (hd : s.oper.dst = some e) (hb : look env t = some (.s undef)) (hdn : e < nt) (h : AR C nt ops Q l ((e, .s undef) :: env) k) : AR C nt ops Q (s :: l) env k := .mk fun a w hs => by
  obtain ⟨h1, h2⟩ := hs.1.2 t _ hb
  have ev : a.tmps.getD t undef = undef := by generalize a.tmps.getD t undef = u at h2; cases h2; rfl
  have hwf : Region.wanted s.oper (yielded ops a.tmps) = false := by
    unfold Region.wanted
    rw [hg]
    have : yielded ops a.tmps g = none := by
      unfold yielded
      have hlt : t < a.tmps.size := by rw [hs.1.1]; exact h1
      simp only [ht, Option.bind_some]
      simp [hlt] at ev
      simp [hlt, ev, undef]
    simp only [this]
    cases want <;> rfl
  have ih : runP P none ops (Lift C nt Q) l (Keeps C.I [] [] w) (a.put (some e) undef) w := h.1 _ w ⟨hs.1.put (.s _) hdn, hs.2⟩
  rw [← hd] at ih
  cases s with
  | q i o => exact ⟨fun h' => absurd (h'.symm.trans hwf) (by decide), fun _ => ih⟩
  | l i o k => exact ⟨fun h' => absurd (h'.symm.trans hwf) (by decide), fun _ => ih⟩
  | fork ps => cases hg
theorem evals_s {I : Imm} {a : Act} (he : EnvOk I [] nt env a) : ∀ {xs : List Operand} {us : List Value}, xs.mapM (eo env) = some (us.map V.s) → xs.map a.eval = us
  | [], us, h => by cases us <;> simp at h; rfl
  | x :: xs, us, h => by
    simp only [List.mapM_cons, Option.pure_def, Option.bind_eq_bind, Option.bind_eq_some_iff] at h
    obtain ⟨v0, hv0, vs', hvs, h'⟩ := h
    cases us with
    | nil => simp at h'
    | cons u us =>
      simp at h'
      obtain ⟨rfl, rfl⟩ := h'
      rw [List.map_cons, evals_s he hvs]
      have := eo_rel he hv0
      generalize a.eval x = y at this ⊢
      cases this
      rfl
theorem yield_run {fo : Operand} {args : List Operand} {ats : Array TypeId} {lp : Nat} {a : Act} {w : World} {res : Result Next} {d : Option Tmp} {guard : Option (Nat × Bool)} (hv : a.eval fo = .func (.yield lp) #[] #[]) (hr : (Instr.yield lp (args.map a.eval).toArray).run P w = res) :
    (execOp a.eval ⟨d, .call ⟨.value fo, args.toArray, ats⟩, ty, pos, after, guard⟩).run P w = res := by
  simp only [execOp, resolve, Sem.run_bind, hv, Deferred.ofValue, Sem.run_pure, Result.andThen_ok, invoke]
  rw [show (args.toArray.map a.eval) = (args.map a.eval).toArray by simp]
  simpa using hr
/-- yield. -/
theorem ar_yield {i d : Nat} {fo : Operand} {args : List Operand} {ats : Array TypeId} {us : List Value} (hf : eo env fo = some (.s (.func (.yield C.l) #[] #[]))) (hargs : args.mapM (eo env) = some (us.map V.s)) (hk : k < C.N) (hel : C.el k = us) (hd : d < nt)
    (h : AR C nt ops Q l ((d, .s (.bool true)) :: env) (k + 1)) : AR C nt ops Q (.l i ⟨some d, .call ⟨.value fo, args.toArray, ats⟩, ty, pos, after, none⟩ false :: l) env k := .mk fun a w hs => by
  refine ⟨fun _ => ?_, fun hw => by rw [wanted_none rfl] at hw; cases hw⟩
  have h1 := eo_rel hs.1 hf
  have ev : a.eval fo = .func (.yield C.l) #[] #[] := by generalize a.eval fo = y at h1; cases h1; rfl
  obtain ⟨fn, tmps, assign, body, hy, hR⟩ := C.round k w hs.2.2.2 hk
  rw [hel, ← evals_s hs.1 hargs] at hy
  refine wpIn_of_run (by simp) (yield_run ev hy) ⟨fun h => by simp [Fw, Fence.wide] at h, ?_⟩
  refine RoundIn.mono hR fun e w' ⟨he, hJ, hK⟩ => ?_
  subst he
  exact ⟨Keeps C.I [] [] w', Keeps.refl (wok fun b o hb => hK b o hb (hs.2.1 b o hb)), (fun h => by cases h), h.1 _ w' ⟨hs.1.put (.s _) hd, fun b o hb => hK b o hb (hs.2.1 b o hb), hs.2.2.1, hJ⟩⟩
theorem ar_isq {i d : Nat} {op : Op} (h : AR C nt ops Q (.q i ⟨some d, op, ty, pos, after, none⟩ :: l) env k) : AR C nt ops Q (.q i ⟨some d, op, ty, pos, after, none⟩ :: l) env k := h
theorem is_load {i d : Nat} {T : TypeId} {x : Operand} (h : AR C nt ops Q (.q i ⟨some d, .load T x, ty, pos, after, none⟩ :: l) env k) : AR C nt ops Q (.q i ⟨some d, .load T x, ty, pos, after, none⟩ :: l) env k := h
theorem is_binOp {i d : Nat} {o : BinOp} {T : TypeId} {x y : Operand} {T2 : TypeId} (h : AR C nt ops Q (.q i ⟨some d, .binOp o T x y T2, ty, pos, after, none⟩ :: l) env k) : AR C nt ops Q (.q i ⟨some d, .binOp o T x y T2, ty, pos, after, none⟩ :: l) env k := h
theorem is_fieldAddr {i d : Nat} {T : TypeId} {x : Operand} {j : Nat} (h : AR C nt ops Q (.q i ⟨some d, .fieldAddr T x j, ty, pos, after, none⟩ :: l) env k) : AR C nt ops Q (.q i ⟨some d, .fieldAddr T x j, ty, pos, after, none⟩ :: l) env k := h
theorem is_indexAddr {i d : Nat} {T : TypeId} {x y : Operand} (h : AR C nt ops Q (.q i ⟨some d, .indexAddr T x y, ty, pos, after, none⟩ :: l) env k) : AR C nt ops Q (.q i ⟨some d, .indexAddr T x y, ty, pos, after, none⟩ :: l) env k := h
theorem is_call {i d : Nat} {c : Call} (h : AR C nt ops Q (.q i ⟨some d, .call c, ty, pos, after, none⟩ :: l) env k) : AR C nt ops Q (.q i ⟨some d, .call c, ty, pos, after, none⟩ :: l) env k := h
theorem is_pick {i d : Nat} {c x y : Operand} (h : AR C nt ops Q (.q i ⟨some d, .pick c x y, ty, pos, after, none⟩ :: l) env k) : AR C nt ops Q (.q i ⟨some d, .pick c x y, ty, pos, after, none⟩ :: l) env k := h
theorem is_unOp {i d : Nat} {o : UnOp} {T : TypeId} {x : Operand} (h : AR C nt ops Q (.q i ⟨some d, .unOp o T x, ty, pos, after, none⟩ :: l) env k) : AR C nt ops Q (.q i ⟨some d, .unOp o T x, ty, pos, after, none⟩ :: l) env k := h
theorem ret_then {K : Env → Nat → Prop} (h : Q .ret env k) : thenP K Q .ret env k := h
theorem ret_block {id : Nat} (h : Q .ret env k) : inBlockP id Q .ret env k := h
theorem loop_next {N j : Nat} {E : Env} (h1 : j < N) (h2 : k = j + 1) (h3 : Has env E) : thenP (fun env' k' => j < N ∧ k' = j + 1 ∧ Has env' E) Q .normal env k := ⟨h1, h2, h3⟩
end
/-- All has come. -/
def EndQ (N : Nat) : Post
  | .normal, _, k => k = N
  | .ret, _, k => k = N
  | _, _, _ => False
theorem iter_of_aw {P : Program} {gf : FuncId} {fn : Func} {c : Code} {vs : List V} {N : Nat} {el : Nat → List Value} (hf : P.funcs[gf]? = some fn) (hb : fn.body = some c) (hn : vs.length + 1 ≤ fn.ntmps) (hres : fn.results = #[])
    (h : ∀ C : Cx P, C.N = N → C.el = el → AW C fn.ntmps c (EndQ N) (argEnv (.s (.func (.yield C.l) #[] #[]) :: vs) 0) 0) : Iter P gf vs N el := by
  refine ⟨fun I us l J W hI hv _ hY h0 => ?_⟩
  refine callsIn_wide.2 ((callsIn_wide (n := 0)).1 (callsIn_of_wp hf hb trivial ?_ rfl))
  have hrel : VRels I [] (.s (.func (.yield l) #[] #[]) :: vs) (#[.func (.yield l) #[] #[]] ++ us) := by
    refine ⟨by simp [hv.1]; omega, fun j v u hj hu => ?_⟩
    cases j with
    | zero =>
      rw [Array.getElem?_append_left (by simp)] at hu
      simp at hj hu; subst hj hu; exact .s _
    | succ j =>
      rw [List.getElem?_cons_succ] at hj
      rw [Array.getElem?_append_right (by simp)] at hu
      exact hv.2 j v u hj (by simpa using hu)
  have h1 := (h ⟨l, I, J, N, el, hY⟩ rfl rfl).1 _ W ⟨argEnv_ok hrel (by rw [hrel.1]; simpa using hn), hI, rfl, h0⟩
  refine wpIn_mono h1 fun e a' w' hl => ?_
  have hr : (results fn a'.tmps).run P w' = .ok (.tuple #[]) w' := by
    unfold results
    rw [hres]
    simp
  cases e with
  | normal => obtain ⟨_, k, hs, rfl⟩ := hl; exact ⟨hs.2.2.1, _, hr, ⟨_, rfl⟩, hs.2.2.2⟩
  | ret => obtain ⟨_, k, hs, rfl⟩ := hl; exact ⟨hs.2.2.1, _, hr, ⟨_, rfl⟩, hs.2.2.2⟩
  | exit id => obtain ⟨_, _, _, h⟩ := hl; exact h.elim
  | goto id => obtain ⟨_, _, _, h⟩ := hl; exact h.elim
  | panic ch => exact hl.elim
  | outgrown => exact hl.elim
end Go.Proofs.Ytccidiflnmchiaa.It
namespace Go.Proofs.Ytccidiflnmchiaa
open Go.RowKit
section
variable {P : Program} {r : Option Nat} {m nt : Nat} {Q : Post} {env : Env} {H : Heap} {ops : Array Oper} {l : List Stp} {t : Nat} {v v' : V}
theorem EnvOk.re {I : Imm} {ρ : List (Option (Nat × Nat))} {a : Act} (he : EnvOk I ρ nt env a) (h : look env t = some v) (e : v = v') : EnvOk I ρ nt ((t, v') :: env) a := by
  subst e
  refine ⟨he.1, fun t' x hx => ?_⟩
  rw [look_cons] at hx
  split at hx
  · rename_i e; subst e; cases hx; exact he.2 t v h
  · exact he.2 t' x hx
/-- A value said in other words, within a region. -/
theorem ar_re (h : look env t = some v) (e : v = v') (hk : AR P r m nt ops Q l ((t, v') :: env) H) : AR P r m nt ops Q l env H := .mk fun X I ρ a w hX hs => hk.1 X I ρ a w hX ⟨hs.1.re h e, hs.2⟩
end
section
variable {H : Heap} {σ : List (Option Nat)} {fr : Nat → Prop} {f : Fn} {a b a' b' : V}
theorem fn2_sub (ha : VSub H σ fr a a') (hb : VSub H σ fr b b') : VSub H σ fr (.fn f [] [a, b]) (.fn f [] [a', b']) :=
  .fn rfl (fun j v x h _ => by simp at h) rfl fun j v x h h' => match j, h, h' with
    | 0, h, h' => by cases h; cases h'; exact ha
    | 1, h, h' => by cases h; cases h'; exact hb
    | j + 2, h, _ => by simp at h
end
end Go.Proofs.Ytccidiflnmchiaa
namespace Go.Proofs.Ytccidiflnmchiaa
open Go.RowKit
section
variable {P : Program} {nt : Nat} {Q : Post} {env : Env} {H : Heap} {R Rp : V → Heap → Prop} {a t2 t3 : Nat} {v v2 v3 : V}
theorem bq3c {T : TypeId} {d : TyD} {sz b i off n : Nat} {f : Nat → V} (hT : TyIs P T d) (ha : look env a = some (.ptr sz b i off)) (hH : H[b]? = some (.arr sz n f)) (hi : i < n) (hv : partV d.tk.agg (f i).cells off d.size = some v)
    (h2 : look env t2 = some v2) (h3 : look env t3 = some v3) (hR : R (.tup [v, v2, v3]) H) : BodyQ P #[.cell a T, .tmp t2, .tmp t3] R Rp .ret env H :=
  ⟨_, .inr (.inr (.inr (.inl ⟨_, _, _, _, _, _, rfl, ⟨d, sz, b, i, off, n, f, hT, ha, hH, hi, hv⟩, h2, h3, rfl⟩))), hR⟩
theorem bq1c {T : TypeId} {d : TyD} {sz b i off n : Nat} {f : Nat → V} (hT : TyIs P T d) (ha : look env a = some (.ptr sz b i off)) (hH : H[b]? = some (.arr sz n f)) (hi : i < n) (hv : partV d.tk.agg (f i).cells off d.size = some v)
    (hR : R v H) : BodyQ P #[.cell a T] R Rp .ret env H := ⟨_, .inl ⟨_, rfl, ⟨d, sz, b, i, off, n, f, hT, ha, hH, hi, hv⟩⟩, hR⟩
end
/-- A call that writes nothing that was there, of arguments without own blocks; its result is a new row of our own. -/
structure FCalls (P : Program) (f : FuncId) (args : List V) (sz : Nat) (R : Nat → (Nat → V) → Prop) : Prop where
  out : ∀ (I : Imm) w us, (∀ b o, I b = some o → w.heap[b]? = some o) → VRels I [] args us → Calls P f us w fun e w' => ∃ n g u I' ρ', R n g ∧ (∀ i, i < n → V.closed.all (g i).cells = true) ∧ e = .returned u ∧ VRel I' ρ' (.sl sz 0 0 n) u ∧ WOk (Ctx.self w [] [] I) I' ρ' [.arr sz n g] w'
def FreshQ (sz : Nat) (R : Nat → (Nat → V) → Prop) (v : V) (H : Heap) : Prop := ∃ n g, v = .sl sz 0 0 n ∧ H = [.arr sz n g] ∧ R n g ∧ ∀ i, i < n → V.closed.all (g i).cells = true
theorem fcalls_of_aw {P : Program} {f : FuncId} {fn : Func} {c : Code} {args : List V} {sz : Nat} {R : Nat → (Nat → V) → Prop} (hf : P.funcs[f]? = some fn) (hb : fn.body = some c) (hn : args.length ≤ fn.ntmps)
    (h : AW P none 0 fn.ntmps c (BodyQ P fn.results (FreshQ sz R) NoP) (argEnv args 0) []) : FCalls P f args sz R := by
  refine ⟨fun I w us hI hv => ?_⟩
  refine ((acalls_of_aw (H := []) hf hb hn h).1 (Ctx.self w [] [] I) I [] w us (WOk.begin hI) hv).mono fun e w' ⟨v, u, I', ρ', H', hle, hpre, hw', hr, h2⟩ => ?_
  rcases h2 with ⟨rfl, n, g, rfl, rfl, hR, hc⟩ | ⟨_, hno⟩
  · exact ⟨n, g, u, I', ρ', hR, hc, rfl, hr, hw'⟩
  · exact hno.elim
theorem get_snoc {α : Type} {l : List α} {a x : α} {k : Nat} (h : (l ++ [a])[k]? = some x) : (k < l.length ∧ l[k]? = some x) ∨ (k = l.length ∧ x = a) := by
  rcases Nat.lt_or_ge k l.length with hk | hk
  · exact .inl ⟨hk, by rwa [List.getElem?_append_left hk] at h⟩
  · rw [List.getElem?_append_right hk] at h
    have : k - l.length = 0 := by
      have := (List.getElem?_eq_some_iff.1 h).1
      simp at this
      omega
    rw [this] at h
    simp at h
    exact .inr ⟨by omega, h.symm⟩
theorem WOk.join {X : Ctx} {I J : Imm} {ρ : List (Option (Nat × Nat))} {x : Option (Nat × Nat)} {H : Heap} {w w' : World} {sz n : Nat} {g : Nat → V} (hw : WOk X I ρ H w) (k : WOk (Ctx.self w [] [] I) J [x] [.arr sz n g] w') (hc : ∀ i, i < n → V.closed.all (g i).cells = true) :
    WOk X J (ρ ++ [x]) (H ++ [.arr sz n g]) w' := by
  have hlen := hw.len
  have old : ∀ b, b < w.heap.size → w'.heap[b]? = w.heap[b]? := fun b hb => k.keep b hb not_live_nil
  have nw : ∀ b z, x = some (b, z) → w.heap.size ≤ b := fun b z e => by
    rcases k.mine b ⟨0, _, rfl, by simp, z, by rw [e]; rfl⟩ with h | h
    · exact h
    · exact (not_live_nil h).elim
  have oldLive : ∀ i b y (blk : Blk), H[i]? = some blk → blk ≠ .dead → ρ[i]? = some (some (b, y)) → b < w.heap.size := fun i b y blk h1 h2 h3 => hw.lt ⟨i, blk, h1, h2, y, h3⟩
  have both : ∀ (i : Nat) (blk : Blk) (y : Option (Nat × Nat)), (H ++ [Blk.arr sz n g])[i]? = some blk → (ρ ++ [x])[i]? = some y → (i < H.length ∧ H[i]? = some blk ∧ ρ[i]? = some y) ∨ (i = H.length ∧ blk = .arr sz n g ∧ y = x) := fun i blk y h1 h2 => by
    rcases get_snoc h1 with ⟨a1, a2⟩ | ⟨a1, a2⟩ <;> rcases get_snoc h2 with ⟨b1, b2⟩ | ⟨b1, b2⟩
    · exact .inl ⟨a1, a2, b2⟩
    · omega
    · omega
    · exact .inr ⟨a1, a2, b2⟩
  exact { len := by simp [hlen]
          inj := fun i j b ⟨p, hp, hp'⟩ ⟨q, hq, hq'⟩ y z hy hz => by
            rcases both i p _ hp hy with ⟨_, a2, a3⟩ | ⟨a1, _, a3⟩ <;> rcases both j q _ hq hz with ⟨_, b2, b3⟩ | ⟨b1, _, b3⟩
            · exact hw.inj i j b ⟨p, a2, hp'⟩ ⟨q, b2, hq'⟩ y z a3 b3
            · have h1 := oldLive i b y p a2 hp' a3
              have h2 := nw b z b3.symm
              omega
            · have h1 := oldLive j b z q b2 hq' b3
              have h2 := nw b y a3.symm
              omega
            · omega
          imm := k.imm
          apart := fun b ⟨i, blk, h1, h2, z, h3⟩ => by
            rcases both i blk _ h1 h3 with ⟨_, a2, a3⟩ | ⟨_, _, a3⟩
            · have hlt := oldLive i b z blk a2 h2 a3
              have hI := hw.apart b ⟨i, blk, a2, h2, z, a3⟩
              cases e : J b with
              | none => rfl
              | some o =>
                rcases k.news b (by rw [e]; simp) with h | h | h
                · exact (h hI).elim
                · have : w.heap.size ≤ b := h
                  omega
                · exact (not_live_nil h).elim
            · exact k.apart b ⟨0, _, rfl, by simp, z, by rw [← a3]; rfl⟩
          size := fun i s m f h => by
            rcases get_snoc h with ⟨_, a2⟩ | ⟨_, a2⟩
            · exact hw.size i s m f a2
            · cases a2; exact k.size 0 _ _ _ rfl
          none := fun i s m f h h' => by
            rcases both i _ _ h h' with ⟨_, a2, a3⟩ | ⟨_, a2, a3⟩
            · exact hw.none i s m f a2 a3
            · cases a2; exact k.none 0 _ _ _ rfl (by rw [← a3]; rfl)
          arr := fun i s m f b z h h' => by
            rcases both i _ _ h h' with ⟨_, a2, a3⟩ | ⟨_, a2, a3⟩
            · exact (hw.arr i s m f b z a2 a3).mono k.le (pre_append _) (old b (oldLive i b z _ a2 (by simp) a3))
            · cases a2
              obtain ⟨cs, ty, h1, h2, h3, h4⟩ := k.arr 0 _ _ _ b z rfl (by rw [← a3]; rfl)
              exact ⟨cs, ty, h1, h2, h3, fun i j v hi hv => by obtain ⟨u, h5, h6⟩ := h4 i j v hi hv; exact ⟨u, h5, (h6.close (closed_all (hc i hi) hv)).closed⟩⟩
          map := fun i m h => by
            rcases get_snoc h with ⟨a1, a2⟩ | ⟨_, a2⟩
            · obtain ⟨b, h1, h2⟩ := hw.map i m a2
              refine ⟨b, ?_, h2.mono k.le (pre_append _) (old b (oldLive i b 0 _ a2 (by simp) h1))⟩
              rw [List.getElem?_append_left (by omega)]
              exact h1
            · cases a2
          mine := fun b ⟨i, blk, h1, h2, z, h3⟩ => by
            rcases both i blk _ h1 h3 with ⟨_, a2, a3⟩ | ⟨_, _, a3⟩
            · exact hw.mine b ⟨i, blk, a2, h2, z, a3⟩
            · exact .inl (Nat.le_trans hw.grow (nw b z a3.symm))
          news := fun b hb => by
            rcases k.news b hb with h | h | h
            · exact hw.news b h
            · exact .inr (.inl (Nat.le_trans hw.grow h))
            · exact (not_live_nil h).elim
          le := Imm.le_trans hw.le k.le
          pre := hw.pre.trans (pre_append _)
          os := k.os.trans hw.os, tape := k.tape.trans hw.tape, out := k.out.trans hw.out, grow := Nat.le_trans hw.grow k.grow
          keep := fun b hb hl => (old b (Nat.lt_of_lt_of_le hb hw.grow)).trans (hw.keep b hb hl) }
section
variable {P : Program} {r : Option Nat} {m nt : Nat} {Q : Post} {env : Env} {H : Heap} {ops : Array Oper} {l : List Stp} {dst : Option Tmp} {ty : TypeId} {pos : String} {after : Array Edge} {guard : Option (Nat × Bool)} {keep : Bool}
theorem ls_fcall {fo : Operand} {args : List Operand} {ats : Array TypeId} {f : FuncId} {first cap vs avs : List V} {sz : Nat} {R : Nat → (Nat → V) → Prop} (hfn : FnOk P f) (hf : eo env fo = some (.fn (.func f) first cap)) (hargs : args.mapM (eo env) = some vs)
    (ha : ArgsOk false H (first ++ vs ++ cap) avs) (h : FCalls P f avs sz R) : LS P r m nt keep env H ⟨dst, .call ⟨.value fo, args.toArray, ats⟩, ty, pos, after, guard⟩ (fun v H' => ∃ n g, R n g ∧ v = .sl sz H.length 0 n ∧ H' = H ++ [.arr sz n g]) NoP := .mk
  fun X I ρ a w next Qx hX hs hk hp => by
    have hw := hs.2.1
    have h1 := eo_rel hs.1 hf
    cases h1' : a.eval fo <;> rw [h1'] at h1 <;> cases h1
    rename_i us ws e1 e2 e3 e4
    have hrel : VRels I ρ (first ++ vs ++ cap) (us ++ (args.map a.eval).toArray ++ ws) := (VRels.append ⟨e1, e2⟩ (evals hs.1 hargs)).append ⟨e3, e4⟩
    have hrel' := args_rel (us := (us ++ (args.map a.eval).toArray ++ ws).toList) hw ha (by rw [Array.toArray_toList]; exact hrel)
    rw [Array.toArray_toList] at hrel'
    refine wpIn_of_run (by simp) (call_run hfn h1' w) ⟨fun h => by simp [Fw, Fence.wide] at h, callsIn_fw.2 ?_⟩
    refine (h.1 I w _ hw.imm hrel').mono fun e w' ⟨n, g, u, I', ρ', hR, hc, he, hv, hk'⟩ => ?_
    subst he
    obtain ⟨x, rfl⟩ : ∃ x, ρ' = [x] := by
      have := hk'.len
      match ρ', this with
      | [x], _ => exact ⟨x, rfl⟩
    have hx : (ρ ++ [x])[H.length]? = some x := by rw [← hw.len]; simp
    have hv2 : VRel I' (ρ ++ [x]) (.sl sz H.length 0 n) u := by
      rcases hv.sl_inv with ⟨cb, z, c, rfl, hρ, h2, h3, h4⟩ | ⟨A, rfl, hρ, _, rfl⟩
      · exact .sl (by rw [hx]; simpa using hρ) h2 h3 h4
      · exact .slNone A (by rw [hx]; simpa using hρ)
    exact hk I' (ρ ++ [x]) _ _ u w' ⟨n, g, hR, rfl, rfl⟩ hk'.le (pre_append _) (hw.join hk' hc) hv2 (fun _ y hy => by
      have old : ∀ b, b < w.heap.size → w'.heap[b]? = w.heap[b]? := fun b hb => hk'.keep b hb not_live_nil
      have hlen := hw.len
      refine ⟨fun b o h1 => hy.1 b o (hk'.le b o h1), fun k s' m f b z h1 h2 o ho => ?_, fun k ms b z h1 h2 => ?_⟩
      · have hk1 := (List.getElem?_eq_some_iff.1 h1).1
        exact (hy.2.1 k s' m f b z (by rw [List.getElem?_append_left hk1]; exact h1) (by rw [List.getElem?_append_left (by omega)]; exact h2) o ho).trans (World.cell?_of_block (a := ⟨b, o, none⟩) (old b (hw.lt ⟨k, _, h1, by simp, z, h2⟩)))
      · have hk1 := (List.getElem?_eq_some_iff.1 h1).1
        exact (hy.2.2 k ms b z (by rw [List.getElem?_append_left hk1]; exact h1) (by rw [List.getElem?_append_left (by omega)]; exact h2)).trans (old b (hw.lt ⟨k, _, h1, by simp, z, h2⟩)))
theorem ar_fcall {i d : Nat} {fo : Operand} {args : List Operand} {ats : Array TypeId} {f : FuncId} {first cap vs avs : List V} {sz : Nat} {R : Nat → (Nat → V) → Prop} (hfn : FnOk P f) (hf : eo env fo = some (.fn (.func f) first cap)) (hargs : args.mapM (eo env) = some vs)
    (ha : ArgsOk false H (first ++ vs ++ cap) avs) (h : FCalls P f avs sz R) (hd : d < nt) (hk : ∀ n g, R n g → AR P r m nt ops Q l ((d, .sl sz H.length 0 n) :: env) (H ++ [.arr sz n g])) : AR P r m nt ops Q (.l i ⟨some d, .call ⟨.value fo, args.toArray, ats⟩, ty, pos, after, none⟩ keep :: l) env H :=
  ar_l (ls_fcall hfn hf hargs ha h) hd (fun v H' ⟨n, g, hR, a, b⟩ => by subst a; subst b; exact hk n g hR) (fun _ _ h => h.elim)
end
section
variable {P : Program} {r : Option Nat} {m nt : Nat} {Q : Post} {env : Env} {H : Heap} {ops : Array Oper} {l : List Stp} {ty : TypeId} {pos : String} {after : Array Edge} {T E T' : TypeId} {d : TyD} {x y : Operand}
/-- 's == nil' of a slice that nobody writes: true only if it is empty. -/
theorem ar_eqnil {i e sz n : Nat} {f : Nat → V} (ht : TyIs P T d) (hk : d.tk = .slice E) (hx : eo env x = some (.list sz n f)) (hy : eo env y = some (.s (.slice none 0 0))) (hd : e < nt)
    (h : ∀ b : Bool, (b = true → n = 0) → AR P r m nt ops Q l ((e, .s (.bool b)) :: env) H) : AR P r m nt ops Q (.q i ⟨some e, .binOp .eql T x y T', ty, pos, after, none⟩ :: l) env H := by
  refine ar_q_any (C := fun v => ∃ b : Bool, v = .s (.bool b) ∧ (b = true → n = 0)) (fun X I ρ a w hE hw => ?_) hd (fun v ⟨b, hv, hb⟩ => by subst hv; exact h b hb)
  obtain ⟨A, c, us, h1, hc, hm, _⟩ := (eo_rel hE hx).list_inv
  refine ⟨_, ⟨A.isNone, rfl, fun hn => ?_⟩, _, .s _, fun w' _ => by simp [execOp, h1, sval hE hy, eqGuard, binOp, run_equal_slice_nil w' T E A n c (ht.slice hk)]⟩
  cases A with
  | none => simp only [capMax] at hm; omega
  | some _ => cases hn
end
end Go.Proofs.Ytccidiflnmchiaa
namespace Go.Proofs.Ytccidiflnmchiaa
open Go.RowKit
theorem ofInt_toNat {k : Nat} (h : k < 18446744073709551616) : (BitVec.ofInt IntKind.i64.bits (k : Int)).toNat = k := by
  show (BitVec.ofInt 64 (k : Int)).toNat = k
  simp
  omega
theorem ofInt_one : (BitVec.ofInt IntKind.i64.bits 1).toNat = 1 := by decide
theorem andOne {m : Int} (h : 0 ≤ m ∧ m ≤ 1000000000) : IntKind.i64.wrap ((BitVec.ofInt IntKind.i64.bits m &&& BitVec.ofInt IntKind.i64.bits 1).toNat : Int) = m % 2 := by
  obtain ⟨k, rfl⟩ := Int.eq_ofNat_of_zero_le h.1
  rw [BitVec.toNat_and, ofInt_toNat (by omega), ofInt_one, Nat.and_one_is_mod, wrap64 (by omega)]
  omega
theorem orOne {m : Int} (h : 0 ≤ m ∧ m ≤ 1000000000) (he : m % 2 = 0) : IntKind.i64.wrap ((BitVec.ofInt IntKind.i64.bits m ||| BitVec.ofInt IntKind.i64.bits 1).toNat : Int) = m + 1 := by
  obtain ⟨k, rfl⟩ := Int.eq_ofNat_of_zero_le h.1
  obtain ⟨q, rfl⟩ : ∃ q, k = 2 * q := ⟨k / 2, by omega⟩
  have e : (2 * q) ||| 1 = 2 * q + 1 := by
    have := Nat.two_pow_add_eq_or_of_lt (i := 1) (b := 1) (by decide) q
    simpa using this.symm
  rw [BitVec.toNat_or, ofInt_toNat (by omega), ofInt_one, e, wrap64 (by omega)]
  omega
theorem shrOne {m : Int} (_h : 0 ≤ m) : m.fdiv (2 ^ (min (1 : Int).toNat IntKind.i64.bits)) = m / 2 := by
  have e : (2 : Int) ^ (min (1 : Int).toNat IntKind.i64.bits) = 2 := by decide
  rw [e, Int.fdiv_eq_ediv_of_nonneg _ (by omega)]
theorem shlOne {m : Int} (h : 0 ≤ m ∧ m ≤ 1000000000) : IntKind.i64.wrap (m * 2 ^ (min (1 : Int).toNat IntKind.i64.bits)) = 2 * m := by
  have e : (2 : Int) ^ (min (1 : Int).toNat IntKind.i64.bits) = 2 := by decide
  rw [e, wrap64 (by omega)]
  omega
/-- Before all rows are there. -/
def famTo (L C k : Nat) (F : Nat → Nat → V) : Heap := .arr 1 L (fun r => if r < k then .sl 1 (1 + r) 0 C else vnil) :: (List.range k).map fun r => .arr 1 C (F r)
theorem famTo_len (L C k : Nat) (F : Nat → Nat → V) : (famTo L C k F).length = 1 + k := by simp [famTo, Nat.add_comm]
theorem famTo_snoc {L C k : Nat} {F : Nat → Nat → V} : (famTo L C k F ++ [Blk.arr 1 C (F k)]).set 0 (Blk.arr 1 L (fun r => if r < k + 1 then .sl 1 (1 + r) 0 C else vnil)) = famTo L C (k + 1) F := by
  simp [famTo, List.range_succ]
end Go.Proofs.Ytccidiflnmchiaa
namespace Go.Proofs.Ytccidiflnmchiaa
open Go.RowKit
def famAt (C k r : Nat) : V := if r < k then .sl 1 (1 + r) 0 C else vnil
theorem famAt_one (C k r : Nat) : (famAt C k r).cells.length = 1 := by unfold famAt; split <;> rfl
theorem famAt_na (C k r : Nat) (cs : List V) : famAt C k r ≠ .agg cs := by unfold famAt; split <;> intro h <;> cases h
theorem famAt_lt {C k r : Nat} (h : r < k) : famAt C k r = .sl 1 (1 + r) 0 C := by simp [famAt, h]
theorem famAt_ne {C k r : Nat} (h : r ≠ k) : famAt C (k + 1) r = famAt C k r := by
  unfold famAt
  by_cases h1 : r < k
  · rw [if_pos h1, if_pos (by omega)]
  · rw [if_neg h1, if_neg (by omega)]
section
variable {L C k : Nat} {F G : Nat → Nat → V}
theorem famTo_get0 : (famTo L C k F)[0]? = some (.arr 1 L (famAt C k)) := rfl
theorem famTo_row {r : Nat} (h : r < k) : (famTo L C k F)[1 + r]? = some (.arr 1 C (F r)) := by
  unfold famTo
  rw [Nat.add_comm, List.getElem?_cons_succ]
  simp [h]
theorem famTo_set {r : Nat} (h : r < k) (g : Nat → V) : (famTo L C k F).set (1 + r) (.arr 1 C g) = famTo L C k (fun q => if q = r then g else F q) := by
  unfold famTo
  rw [Nat.add_comm, List.set_cons_succ]
  congr 1
  refine List.ext_getElem? fun i => ?_
  rw [List.getElem?_set]
  by_cases hi : r = i
  · subst hi; simp [h]
  · rw [if_neg hi]
    by_cases hl : i < k
    · simp [hl, Ne.symm hi]
    · simp [hl]
theorem famTo_ext (h : ∀ r, r < k → F r = G r) : famTo L C k F = famTo L C k G := by
  unfold famTo
  congr 1
  refine List.map_congr_left fun r hr => ?_
  rw [h r (List.mem_range.1 hr)]
theorem famTo_set_as {r : Nat} (h : r < k) {g : Nat → V} (h1 : ∀ q, q < k → q ≠ r → F q = G q) (h2 : ∀ c, g c = G r c) : (famTo L C k F).set (1 + r) (.arr 1 C g) = famTo L C k G := by
  rw [famTo_set h]
  refine famTo_ext fun q hq => ?_
  by_cases e : q = r
  · rw [if_pos e, e]; exact funext h2
  · rw [if_neg e]; exact h1 q hq e
end
theorem get_last {H : Heap} {b : Blk} : (H ++ [b])[H.length]? = some b := by simp
theorem set_last {H : Heap} {b b' : Blk} : (H ++ [b]).set H.length b' = H ++ [b'] := by
  rw [List.set_append_right _ _ (Nat.le_refl _), Nat.sub_self]
  rfl
theorem get_old {H : Heap} {b x : Blk} {k : Nat} (h : H[k]? = some x) : (H ++ [b])[k]? = some x := by
  rw [List.getElem?_append_left (List.getElem?_eq_some_iff.1 h).1]
  exact h
def EnvIn (env : Env) : Env → Prop
  | [] => True
  | (t, x) :: l => (∃ v, look env t = some v ∧ v = x) ∧ EnvIn env l
theorem envIn_get {env : Env} : ∀ {l : Env} {t : Nat} {x : V}, EnvIn env l → look l t = some x → look env t = some x
  | [], _, _, _, h => by simp [look] at h
  | (k, y) :: l, t, x, hs, h => by
    rw [look_cons] at h
    split at h
    · rename_i e; subst e; cases h
      obtain ⟨v, h1, rfl⟩ := hs.1
      exact h1
    · exact envIn_get hs.2 h
/-- The heap avs it is, and less known of the registers. -/
theorem sub_same {m nt : Nat} {env env0 : Env} {H H0 : Heap} (hH : H = H0) (he : EnvIn env env0) : SubOf m nt env H env0 H0 := .mk fun X I ρ a w _ h => by
  subst hH
  exact ⟨I, ρ, Imm.le_refl I, ⟨h.1.1, fun t x hx => h.1.2 t x (envIn_get he hx)⟩, h.2⟩
theorem hsub_of {H : Heap} {σ : List (Option Nat)} {fr : Nat → Prop} : ∀ {l : Heap} {k : Nat}, (∀ j b, l[j]? = some b → BSub H σ fr (k + j) b) → HSub H σ fr k l
  | [], _, _ => trivial
  | b :: l, k, h => ⟨h 0 b rfl, hsub_of fun j x hj => by have := h (j + 1) x hj; rwa [show k + (j + 1) = k + 1 + j by omega] at this⟩
def famS (k : Nat) : List (Option Nat) := some 0 :: (List.range k).map fun r => some (1 + r)
theorem famS_len (k : Nat) : (famS k).length = 1 + k := by simp [famS, Nat.add_comm]
theorem famS_at {k r : Nat} (h : r < k) : (famS k)[1 + r]? = some (some (1 + r)) := by
  unfold famS
  rw [Nat.add_comm, List.getElem?_cons_succ]
  simp [h, Nat.add_comm]
theorem famS_inv {k i b : Nat} (h : (famS k)[i]? = some (some b)) : b = i ∧ i < 1 + k := by
  have hlt := (List.getElem?_eq_some_iff.1 h).1
  rw [famS_len] at hlt
  refine ⟨?_, hlt⟩
  cases i with
  | zero => cases h; rfl
  | succ r =>
    rw [Nat.add_comm r 1, famS_at (by omega)] at h
    cases h
    omega
/-- The row beside it is let go. -/
theorem famTo_drop {nt L C k n sz : Nat} {F : Nat → Nat → V} {f : Nat → V} {env env0 : Env} (hF : ∀ r c, (F r c).closed = true) (he : EnvSub (famTo L C k F ++ [.arr sz n f]) (famS k) (· ∈ [(famTo L C k F).length]) env env0) : SubOf 0 nt env (famTo L C k F ++ [.arr sz n f]) env0 (famTo L C k F) := by
  refine sub_gen (famS k) [(famTo L C k F).length] ?_ (fun k h => by omega) (fun i j b h1 h2 => (famS_inv h1).1.symm.trans (famS_inv h2).1) (fun b hb hm => ?_) he ?_
  · rw [famS_len, famTo_len]
  · obtain rfl : b = (famTo L C k F).length := by simpa using hb
    obtain ⟨i, hi⟩ := List.getElem?_of_mem hm
    have := famS_inv hi
    rw [famTo_len] at this
    omega
  · refine hsub_of fun j b hj => ?_
    rw [Nat.zero_add]
    cases j with
    | zero =>
      cases hj
      refine .inl ⟨0, _, rfl, rfl, fun i hi => ?_⟩
      show VSub _ _ _ (famAt C k i) (famAt C k i)
      by_cases h : i < k
      · rw [famAt_lt h]; exact .sl (famS_at h)
      · unfold famAt
        rw [if_neg h]
        exact .closed rfl
    | succ r =>
      have hlt := (List.getElem?_eq_some_iff.1 hj).1
      rw [famTo_len] at hlt
      rw [Nat.add_comm r 1] at hj ⊢
      rw [famTo_row (by omega)] at hj
      cases hj
      exact .inl ⟨1 + r, _, famS_at (by omega), get_old (famTo_row (by omega)), fun i hi => .closed (hF r i)⟩
/-- All rows are let go. -/
theorem famTo_freeze {α : Type} [Inhabited α] {nt L C : Nat} {F : Nat → Nat → V} {e : α → V} {rows : List (List α)} {env env0 : Env} (hl : rows.length = L) (hr : ∀ r, r < L → (el rows r).length = C ∧ ∀ c, c < C → F r c = e (el (el rows r) c)) (hc : ∀ y, V.closed.all (e y).cells = true)
    (he : EnvSub (famTo L C L F) [some 0] (· ∈ List.range' 1 L) env env0) : SubOf 0 nt env (famTo L C L F) env0 [LB 1 (LV 1 e) rows] := by
  refine sub_gen [some 0] (List.range' 1 L) rfl (fun k h => by omega) (fun i j b h1 h2 => ?_) (fun b hb hm => ?_) he ⟨?_, trivial⟩
  · have h3 := (List.getElem?_eq_some_iff.1 h1).1
    have h4 := (List.getElem?_eq_some_iff.1 h2).1
    simp at h3 h4
    omega
  · simp at hm
    subst hm
    simp at hb
  · subst hl
    refine .inl ⟨0, _, rfl, rfl, fun i hi => ?_⟩
    show VSub _ _ _ (famAt C rows.length i) _
    rw [famAt_lt hi]
    exact frz_as (by show 1 + i ∈ List.range' 1 rows.length; rw [List.mem_range'_1]; omega) (famTo_row hi) rfl (hr i hi).1 (hr i hi).2 hc
end Go.Proofs.Ytccidiflnmchiaa
namespace Go.Proofs.Ytccidiflnmchiaa
open Go.RowKit
def enumV : Nat → List V → List (Nat × V)
  | _, [] => []
  | k, v :: l => (k, v) :: enumV (k + 1) l
def flatC : List V → List V
  | [] => []
  | v :: l => v.cells ++ flatC l
theorem flatC_get {sz : Nat} : ∀ {vs : List V} {i j : Nat} {v : V}, (∀ x ∈ vs, x.cells.length = sz) → i < vs.length → (el vs i).cells[j]? = some v → (flatC vs)[i * sz + j]? = some v
  | [], i, j, v, _, hi, _ => by simp at hi
  | x :: l, 0, j, v, h, _, hv => by
    have hj : j < x.cells.length := (List.getElem?_eq_some_iff.1 hv).1
    simp only [flatC, Nat.zero_mul, Nat.zero_add]
    rw [List.getElem?_append_left hj]
    exact hv
  | x :: l, i + 1, j, v, h, hi, hv => by
    have hx := h x (List.mem_cons_self ..)
    have hh := flatC_get (vs := l) (i := i) (j := j) (v := v) (fun y hy => h y (List.mem_cons_of_mem _ hy)) (by simpa using hi) hv
    simp only [flatC]
    rw [List.getElem?_append_right (by rw [hx, Nat.succ_mul]; omega), hx, show (i + 1) * sz + j - sz = i * sz + j from (by rw [Nat.succ_mul] <;> omega)]
    exact hh
theorem buildR_enum {sz : Nat} : ∀ (vs : List V) (k : Nat) (cs : List V), (∀ v ∈ vs, v.cells.length = sz ∧ v.ok = true) → cs.length = (k + vs.length) * sz → BuildR (fun k => some (k * sz, sz)) cs (enumV k vs) (cs.take (k * sz) ++ flatC vs)
  | [], k, cs, _, hl => by
    have : cs.take (k * sz) = cs := List.take_of_length_le (by rw [hl]; simp)
    simp only [flatC, enumV, List.append_nil, this]
    exact .nil
  | v :: vs, k, cs, h, hl => by
    obtain ⟨h1, h2⟩ := h v (List.mem_cons_self ..)
    have h3 : k * sz + sz ≤ cs.length := by rw [hl, ← Nat.succ_mul]; exact Nat.mul_le_mul_right _ (by simp only [List.length_cons]; omega)
    refine .cons rfl h1 h2 h3 ?_
    have ht : (cs.take (k * sz)).length = k * sz := by rw [List.length_take]; omega
    have ih := buildR_enum vs (k + 1) (cs.take (k * sz) ++ v.cells ++ cs.drop (k * sz + sz)) (fun x hx => h x (List.mem_cons_of_mem _ hx)) (by
      simp only [List.length_append, ht, h1, List.length_drop, hl, List.length_cons]
      rw [show k + 1 + vs.length = k + (vs.length + 1) by omega]
      rw [hl] at h3
      simp only [List.length_cons] at h3
      omega)
    have e : (cs.take (k * sz) ++ v.cells ++ cs.drop (k * sz + sz)).take ((k + 1) * sz) = cs.take (k * sz) ++ v.cells := by
      rw [List.take_append_of_le_length (by rw [List.length_append, ht, h1, Nat.succ_mul]; omega), List.take_of_length_le (by rw [List.length_append, ht, h1, Nat.succ_mul]; omega)]
    rw [e] at ih
    rw [show cs.take (k * sz) ++ flatC (v :: vs) = cs.take (k * sz) ++ v.cells ++ flatC vs by simp [flatC]]
    exact ih
section
variable {P : Program} {r : Option Nat} {m nt : Nat} {Q : Post} {env : Env} {H : Heap} {ops : Array Oper} {l : List Stp} {ty : TypeId} {pos : String} {after : Array Edge} {T E : TypeId} {d de : TyD} {i dst : Nat} {keep : Bool} {α : Type} [Inhabited α]
theorem ar_buildLE {parts : Array (Nat × Operand)} {n : Nat} (e : α → V) (L : List α) (ht : TyIs P T d) (hk : d.tk = .slice E) (he : TyIs P E de) (hz : (constV de.zero).ok = true) (hzs : de.zero.cells.size = de.size) (hpos : 0 < de.size) (hn : n = L.length) (hb : n * de.size ≤ 16777216)
    (hv : parts.toList.mapM (fun p => (eo env p.2).map fun v => (p.1, v)) = some (enumV 0 (L.map e))) (hs : ∀ x, (e x).cells.length = de.size ∧ (e x).ok = true) (hd : dst < nt)
    (h : AR P r m nt ops Q l ((dst, .sl de.size H.length 0 L.length) :: env) (H ++ [LB de.size e L])) : AR P r m nt ops Q (.l i ⟨some dst, .buildSlice T n parts, ty, pos, after, none⟩ keep :: l) env H := by
  subst hn
  have hall : ∀ x ∈ L.map e, x.cells.length = de.size ∧ x.ok = true := fun x hx => by
    obtain ⟨y, _, rfl⟩ := List.mem_map.1 hx
    exact hs y
  have hB := buildR_enum (sz := de.size) (L.map e) 0 ((List.range (L.length * de.size)).map fun j => ((constV de.zero).cells)[j % de.size]!) hall (by simp)
  rw [Nat.zero_mul, List.take_zero, List.nil_append] at hB
  by_cases h0 : L.length = 0
  · refine ar_buildSlice (fun i => e (el L i)) ht hk he hz hzs hb hv hB (fun i hi => by omega) (by rw [h0]; unfold maxLen; omega) hd h
  · refine ar_buildSlice (fun i => e (el L i)) ht hk he hz hzs hb hv hB (fun i hi => ⟨(hs _).1, fun j v hj => ?_⟩) ?_ hd h
    · refine flatC_get (fun x hx => (hall x hx).1) (by simpa using hi) ?_
      rw [el_map hi]
      exact hj
    · have := Nat.le_mul_of_pos_right L.length hpos
      unfold maxLen
      omega
end
/-- Other words behind which all stands that stood. -/
structure SubK (m nt : Nat) (env : Env) (H : Heap) (env' : Env) (H' : Heap) : Prop where
  out : ∀ X I ρ a w, X.ρ.length = m → St X nt env H I ρ a w → ∃ I' ρ', I.le I' ∧ St X nt env' H' I' ρ' a w ∧ ∀ x, Keeps I' ρ' H' w x → Keeps I ρ H w x
theorem SubK.of {m nt : Nat} {env env' : Env} {H H' : Heap} (h : SubK m nt env H env' H') : SubOf m nt env H env' H' := .mk fun X I ρ a w hX hs => by
  obtain ⟨I', ρ', h1, h2, _⟩ := h.1 X I ρ a w hX hs
  exact ⟨I', ρ', h1, h2⟩
section
variable {P : Program} {r : Option Nat} {m nt : Nat} {Q : Post} {env env' : Env} {H H' : Heap} {ops : Array Oper} {l : List Stp} {ty : TypeId} {pos : String} {after : Array Edge} {i dst : Nat} {op : Op} {keep : Bool}
theorem ar_subk_l (hs : SubK m nt env H env' H') (h : AR P r m nt ops Q (.l i ⟨some dst, op, ty, pos, after, none⟩ keep :: l) env' H') : AR P r m nt ops Q (.l i ⟨some dst, op, ty, pos, after, none⟩ keep :: l) env H := .mk fun X I ρ a w hX hst => by
  obtain ⟨I', ρ', _, h2, hk⟩ := hs.1 X I ρ a w hX hst
  have h3 := h.1 X I' ρ' a w hX h2
  refine ⟨fun hw => ?_, fun hw => by rw [wanted_none rfl] at hw; cases hw⟩
  exact Oper.wpIn_mono (fun a' w' ⟨S', h4, h6, h5⟩ => ⟨S', h4, fun e x hx => hk x (h6 e x hx), h5⟩) (h3.1 hw)
end
/-- An own row is let go where it stands. -/
theorem sub_frz {m nt t sz b n N : Nat} {env : Env} {H : Heap} {f g : Nat → V} (ht : look env t = some (.sl sz b 0 n)) (hb : H[b]? = some (.arr sz N f)) (hN : n ≤ N) (hc : ∀ k, k < N → V.closed.all (f k).cells = true) (hg : ∀ k, k < n → g k = f k) :
    SubK m nt env H ((t, .list sz n g) :: env) (H.set b .dead) := .mk fun X I ρ a w _ ⟨hE, hw, hd⟩ => by
  obtain ⟨h1, h2⟩ := hE.2 t _ ht
  have hlt : b < ρ.length := by rw [hw.len]; exact (List.getElem?_eq_some_iff.1 hb).1
  have hg' : ∀ k, k < n → g k = f (0 + k) := fun k hk => by rw [Nat.zero_add]; exact hg k hk
  obtain ⟨x, hx⟩ : ∃ x, ρ[b]? = some x := ⟨_, List.getElem?_eq_getElem hlt⟩
  cases x with
  | none =>
    refine ⟨I, ρ, Imm.le_refl _, ⟨⟨hE.1, fun t' v hv => ?_⟩, hw.kill b, hd⟩, fun y hy => keeps_kill hy fun cb z h => by rw [hx] at h; cases h⟩
    rw [look_cons] at hv
    split at hv
    · rename_i e; subst e; cases hv
      exact ⟨h1, h2.lend hw hb (by omega) hc hg' (Imm.le_refl _) (fun cb z o h => by rw [hx] at h; cases h)⟩
    · exact hE.2 t' v hv
  | some q =>
    obtain ⟨cb, z⟩ := q
    have hL : Live H ρ cb := ⟨b, _, hb, by simp, z, hx⟩
    have hI := know_le (o := w.heap[cb]?) (hw.apart cb hL)
    refine ⟨know I cb (w.heap[cb]?), ρ, hI, ⟨⟨hE.1, fun t' v hv => ?_⟩, hw.forget hb (by simp) hx, hd.mono hI⟩, fun y hy => ?_⟩
    · rw [look_cons] at hv
      split at hv
      · rename_i e; subst e; cases hv
        exact ⟨h1, h2.lend hw hb (by omega) hc hg' hI (fun cb' z' o h h' => by rw [hx] at h; cases h; rw [know_at]; exact h')⟩
      · obtain ⟨h3, h4⟩ := hE.2 t' v hv
        exact ⟨h3, h4.mono hI (Pre.refl _)⟩
    · obtain ⟨y1, y2, y3⟩ := hy
      refine ⟨fun c o hc => y1 c o (hI c o hc), fun k sz' n' f' b' z' hk hρ o ho => ?_, fun k mm b' z' hk hρ => ?_⟩
      · by_cases e : k = b
        · subst e
          rw [hx] at hρ
          cases hρ
          obtain ⟨cs, ty, hcs, _⟩ := hw.arr _ _ _ _ _ _ hb hx
          have := y1 cb _ (by rw [know_at]; exact hcs)
          simp [World.cell?, this, hcs]
        · exact y2 k sz' n' f' b' z' (by rw [List.getElem?_set_ne (Ne.symm e)]; exact hk) hρ o ho
      · refine y3 k mm b' z' ?_ hρ
        by_cases e : k = b
        · subst e; rw [hb] at hk; cases hk
        · rw [List.getElem?_set_ne (Ne.symm e)]; exact hk
theorem sub_frzL {α : Type} [Inhabited α] {m nt t sz b n N : Nat} {env : Env} {H : Heap} {f : Nat → V} (e : α → V) (L : List α) (ht : look env t = some (.sl sz b 0 n)) (hb : H[b]? = some (.arr sz N f)) (hn : n = L.length) (hN : n = N) (hf : ∀ k, k < n → e (el L k) = f k) (hc : ∀ y, V.closed.all (e y).cells = true) :
    SubK m nt env H ((t, LV sz e L) :: env) (H.set b .dead) := by
  subst hn hN
  exact sub_frz ht hb (Nat.le_refl _) (fun k hk => by rw [← hf k hk]; exact hc _) hf
/-- The row beside it, that nothing is known of, is forgotten. -/
theorem famTo_dropd {nt L C k : Nat} {F : Nat → Nat → V} {x : Blk} {env env0 : Env} (hF : ∀ r c, (F r c).closed = true) (he : EnvSub (famTo L C k F ++ [x]) (famS k) (· ∈ []) env env0) : SubOf 0 nt env (famTo L C k F ++ [x]) env0 (famTo L C k F) := by
  refine sub_gen (famS k) [] ?_ (fun k h => by omega) (fun i j b h1 h2 => (famS_inv h1).1.symm.trans (famS_inv h2).1) (fun b hb hm => by simp at hb) he ?_
  · rw [famS_len, famTo_len]
  · refine hsub_of fun j b hj => ?_
    rw [Nat.zero_add]
    cases j with
    | zero =>
      cases hj
      refine .inl ⟨0, _, rfl, rfl, fun i hi => ?_⟩
      show VSub _ _ _ (famAt C k i) (famAt C k i)
      by_cases h : i < k
      · rw [famAt_lt h]; exact .sl (famS_at h)
      · unfold famAt
        rw [if_neg h]
        exact .closed rfl
    | succ r =>
      have hlt := (List.getElem?_eq_some_iff.1 hj).1
      rw [famTo_len] at hlt
      rw [Nat.add_comm r 1] at hj ⊢
      rw [famTo_row (by omega)] at hj
      cases hj
      exact .inl ⟨1 + r, _, famS_at (by omega), get_old (famTo_row (by omega)), fun i hi => .closed (hF r i)⟩
/-- A fork, the region's list in sight. -/
theorem ar_forkL {P : Program} {r : Option Nat} {m nt : Nat} {Q : Post} {env : Env} {H : Heap} {l0 : List Oper} {l : List Stp} {ps : List (Nat × Nat)} (h : AR P r m nt l0.toArray Q l env H) (h' : AR P r m nt l0.toArray Q (numPlan l0 ps) env H) : AR P r m nt l0.toArray Q (.fork ps :: l) env H := ar_fork h h'
end Go.Proofs.Ytccidiflnmchiaa
namespace Go.Proofs.Ytccidiflnmchiaa
open Go.RowKit
set_option maxHeartbeats 1000000 in
theorem curves_p (s : Sheet) (top bottom : List Int) : PCalls Try.prog 56 [s.enc, encInts top, encInts bottom] (· = vi (curvesErr s top bottom)) := by
  (refine pcalls_know (fun I us h => rel_len (rel_arg h (j := 1) rfl)) fun hlen1 => ?_)
  (refine pcalls_know (fun I us h => rel_len (rel_arg h (j := 2) rfl)) fun hlen2 => ?_)
  cases hs : s.ok
  · rw [curvesErr_sheet hs]
    have he := err_bad hs
    refine pcalls_of_aw Try.func56 rfl (Nat.le_of_ble_eq_true rfl) ?_
    (repeat' (first | (refine ar_isq ?_; first | refine zmv ?_ | refine zas ?_ | (refine is_load ?_; first | refine zlp ?_ | refine zlr ?_) | (refine is_binOp ?_; first | refine zlss ?_ | refine zneq ?_ | refine zadd ?_) | (refine is_indexAddr ?_; first | refine zil ?_ | refine zis ?_ | refine zit ?_ | refine zia ?_ | refine zir ?_ | (refine zxl ?_; intro _ _ _) | (refine zxs ?_; intro _ _ _)) | (refine is_call ?_; first | refine zll ?_ | refine zls ?_ | refine zln ?_ | refine zle ?_) | (refine is_pick ?_; first | refine zpt ?_ | refine zpf ?_) | refine znt ?_) | (refine ar_pcall (own := false) fn28 rfl rfl (.cons (.closed rfl) .nil) (checkSheet_p s) (by simp) (dc rfl) ?_; intro _ hv; subst hv) | (refine zbx ?_) | (refine zg ?_ ?_ <;> intro hg <;> first | exact absurd hg (by decide) | ((try replace hg := HG.out hg); (try dsimp only at hg); (try (have _h : True := hg; clear _h hg)); first | (exfalso; omega) | skip)) | (refine zgu ?_) | (refine ar_nil ?_) | (refine aw_seq ?_) | (refine aw_skip ?_) | (refine aw_block ?_) | (refine aw_exit ?_) | (refine aw_region ?_) | (refine zco ?_ ?_ <;> intro hg <;> first | exact absurd hg (by decide) | ((try replace hg := HG.out hg); (try dsimp only at hg); (try (have _h : True := hg; clear _h hg)); first | (exfalso; omega) | skip))))
    all_goals first
      | (exfalso; omega)
      | ((refine aw_ret ?_; (repeat (first | refine ret_then ?_ | refine ret_block ?_)); refine bq1 rfl ⟨?_, rfl⟩); rw [he])
  have he := err_ok hs
  cases h1 : isLineB s top
  · rw [curvesErr_no hs (by rw [h1]; rfl)]
    refine pcalls_of_aw Try.func56 rfl (Nat.le_of_ble_eq_true rfl) ?_
    (repeat' (first | (refine ar_isq ?_; first | refine zmv ?_ | refine zas ?_ | (refine is_load ?_; first | refine zlp ?_ | refine zlr ?_) | (refine is_binOp ?_; first | refine zlss ?_ | refine zneq ?_ | refine zadd ?_) | (refine is_indexAddr ?_; first | refine zil ?_ | refine zis ?_ | refine zit ?_ | refine zia ?_ | refine zir ?_ | (refine zxl ?_; intro _ _ _) | (refine zxs ?_; intro _ _ _)) | (refine is_call ?_; first | refine zll ?_ | refine zls ?_ | refine zln ?_ | refine zle ?_) | (refine is_pick ?_; first | refine zpt ?_ | refine zpf ?_) | refine znt ?_) | (refine ar_pcall (own := false) fn28 rfl rfl (.cons (.closed rfl) .nil) (checkSheet_p s) (by simp) (dc rfl) ?_; intro _ hv; subst hv) | (refine ar_pcall (own := false) fn89 rfl rfl (.cons (.closed rfl) (.cons (.closed rfl) .nil)) (isLine_p s hs _) (by simp) (dc rfl) ?_; intro _ hv; subst hv) | (refine zbx ?_) | (refine zg ?_ ?_ <;> intro hg <;> first | exact absurd hg (by decide) | ((try replace hg := HG.out hg); (try dsimp only at hg); (try (have _h : True := hg; clear _h hg)); first | (exfalso; omega) | skip)) | (refine zgu ?_) | (refine ar_nil ?_) | (refine aw_seq ?_) | (refine aw_skip ?_) | (refine aw_block ?_) | (refine aw_exit ?_) | (refine aw_region ?_) | (refine zco ?_ ?_ <;> intro hg <;> first | exact absurd hg (by decide) | ((try replace hg := HG.out hg); (try dsimp only at hg); (try (have _h : True := hg; clear _h hg)); first | (exfalso; omega) | skip))))
    all_goals first
      | (exfalso; omega)
      | ((refine aw_ret ?_; (repeat (first | refine ret_then ?_ | refine ret_block ?_)); refine bq1 rfl ⟨?_, rfl⟩); rfl)
      | (exfalso; simp_all; done)
  cases h2 : isLineB s bottom
  · rw [curvesErr_no hs (by rw [h1, h2]; rfl)]
    refine pcalls_of_aw Try.func56 rfl (Nat.le_of_ble_eq_true rfl) ?_
    (repeat' (first | (refine ar_isq ?_; first | refine zmv ?_ | refine zas ?_ | (refine is_load ?_; first | refine zlp ?_ | refine zlr ?_) | (refine is_binOp ?_; first | refine zlss ?_ | refine zneq ?_ | refine zadd ?_) | (refine is_indexAddr ?_; first | refine zil ?_ | refine zis ?_ | refine zit ?_ | refine zia ?_ | refine zir ?_ | (refine zxl ?_; intro _ _ _) | (refine zxs ?_; intro _ _ _)) | (refine is_call ?_; first | refine zll ?_ | refine zls ?_ | refine zln ?_ | refine zle ?_) | (refine is_pick ?_; first | refine zpt ?_ | refine zpf ?_) | refine znt ?_) | (refine ar_pcall (own := false) fn28 rfl rfl (.cons (.closed rfl) .nil) (checkSheet_p s) (by simp) (dc rfl) ?_; intro _ hv; subst hv) | (refine ar_pcall (own := false) fn89 rfl rfl (.cons (.closed rfl) (.cons (.closed rfl) .nil)) (isLine_p s hs _) (by simp) (dc rfl) ?_; intro _ hv; subst hv) | (refine zbx ?_) | (refine zg ?_ ?_ <;> intro hg <;> first | exact absurd hg (by decide) | ((try replace hg := HG.out hg); (try dsimp only at hg); (try (have _h : True := hg; clear _h hg)); first | (exfalso; omega) | skip)) | (refine zgu ?_) | (refine ar_nil ?_) | (refine aw_seq ?_) | (refine aw_skip ?_) | (refine aw_block ?_) | (refine aw_exit ?_) | (refine aw_region ?_) | (refine zco ?_ ?_ <;> intro hg <;> first | exact absurd hg (by decide) | ((try replace hg := HG.out hg); (try dsimp only at hg); (try (have _h : True := hg; clear _h hg)); first | (exfalso; omega) | skip))))
    all_goals first
      | (exfalso; omega)
      | ((refine aw_ret ?_; (repeat (first | refine ret_then ?_ | refine ret_block ?_)); refine bq1 rfl ⟨?_, rfl⟩); rfl)
      | (exfalso; simp_all; done)
  have l1 := isLine_len h1
  have l2 := isLine_len h2
  refine pcalls_of_aw Try.func56 rfl (Nat.le_of_ble_eq_true rfl) ?_
  (repeat' (first | (refine ar_isq ?_; first | refine zmv ?_ | refine zas ?_ | (refine is_load ?_; first | refine zlp ?_ | refine zlr ?_) | (refine is_binOp ?_; first | refine zlss ?_ | refine zneq ?_ | refine zadd ?_) | (refine is_indexAddr ?_; first | refine zil ?_ | refine zis ?_ | refine zit ?_ | refine zia ?_ | refine zir ?_ | (refine zxl ?_; intro _ _ _) | (refine zxs ?_; intro _ _ _)) | (refine is_call ?_; first | refine zll ?_ | refine zls ?_ | refine zln ?_ | refine zle ?_) | (refine is_pick ?_; first | refine zpt ?_ | refine zpf ?_) | refine znt ?_) | (refine ar_pcall (own := false) fn28 rfl rfl (.cons (.closed rfl) .nil) (checkSheet_p s) (by simp) (dc rfl) ?_; intro _ hv; subst hv) | (refine ar_pcall (own := false) fn89 rfl rfl (.cons (.closed rfl) (.cons (.closed rfl) .nil)) (isLine_p s hs _) (by simp) (dc rfl) ?_; intro _ hv; subst hv) | (refine zbx ?_) | (refine zg ?_ ?_ <;> intro hg <;> first | exact absurd hg (by decide) | ((try replace hg := HG.out hg); (try dsimp only at hg); (try (have _h : True := hg; clear _h hg)); first | (exfalso; omega) | skip)) | (refine zgu ?_) | (refine ar_nil ?_) | (refine aw_seq ?_) | (refine aw_skip ?_) | (refine aw_block ?_) | (refine aw_exit ?_) | (refine aw_region ?_) | (refine zco ?_ ?_ <;> intro hg <;> first | exact absurd hg (by decide) | ((try replace hg := HG.out hg); (try dsimp only at hg); (try (have _h : True := hg; clear _h hg)); first | (exfalso; omega) | skip))))
  all_goals (try (exfalso; omega))
  all_goals (try (exfalso; simp_all; done))
  refine aw_for bottom.length (fun k => ∀ j, j < k → el top j ≤ el bottom j) (fun k => [(1, encInts top), (25, encInts bottom), (26, vi bottom.length), (27, vi k)]) (fun _ => []) (fun j hj => by omega) ?_ ?_
  · (refine sub_to [] [] rfl ?_ ?_ <;> (repeat' (first | exact trivial | refine ⟨⟨_, rfl, ?_⟩, ?_⟩ | refine ⟨bsub_snoc rfl rfl (fun _ => rfl) ?_, ?_⟩ | refine ⟨bsub_one rfl rfl ?_, ?_⟩ | refine ⟨bsub_all rfl rfl (fun _ _ => rfl) (fun _ => rfl), ?_⟩ | refine ⟨bsub_updL rfl rfl ?_ (fun _ _ _ => rfl) (fun _ => rfl), ?_⟩ | refine ⟨.inl ⟨_, _, rfl, rfl, ?_⟩, ?_⟩ | exact ⟨.inr ⟨rfl, rfl⟩, trivial⟩ | refine ⟨.inr ⟨rfl, rfl⟩, ?_⟩ | (intro _ _) | exact .closed rfl | exact .sl rfl | exact .ptr rfl | exact .map rfl | exact .nil rfl | exact .emp rfl | exact .nilList | exact .empList | exact frzPtr' (by simp; done) rfl (by omega) rfl rfl | exact frzLB (by simp; done) rfl (fun _ => rfl) rfl | exact frz_all (by simp; done) rfl (fun _ _ => rfl) (fun _ => rfl) rfl | exact .frz (by simp; done) rfl (by omega) (fun _ _ => rfl) (fun _ _ => rfl) | exact slEq rfl (by first | (simp; done) | (simp; omega)) | exact siEq (by omega) | exact .of_eq (by refine (show V.agg _ = V.agg _ from ?_); (try dsimp only); congr <;> first | rfl | omega) rfl | exact .closed (by simp [V.closed, V.closed.all, *]; done) | fail)))
  intro k hk hJ
  by_cases hlt : k < bottom.length
  · (repeat' (first | (refine ar_isq ?_; first | refine zmv ?_ | refine zas ?_ | (refine is_load ?_; first | refine zlp ?_ | refine zlr ?_) | (refine is_binOp ?_; first | refine zlss ?_ | refine zneq ?_ | refine zadd ?_) | (refine is_indexAddr ?_; first | refine zil ?_ | refine zis ?_ | refine zit ?_ | refine zia ?_ | refine zir ?_ | (refine zxl ?_; intro _ _ _) | (refine zxs ?_; intro _ _ _)) | (refine is_call ?_; first | refine zll ?_ | refine zls ?_ | refine zln ?_ | refine zle ?_) | (refine is_pick ?_; first | refine zpt ?_ | refine zpf ?_) | refine znt ?_) | (refine zbx ?_) | (refine zg ?_ ?_ <;> intro hg <;> first | exact absurd hg (by decide) | ((try replace hg := HG.out hg); (try dsimp only at hg); (try (have _h : True := hg; clear _h hg)); first | (exfalso; omega) | skip)) | (refine zgu ?_) | (refine ar_nil ?_) | (refine aw_seq ?_) | (refine aw_skip ?_) | (refine aw_block ?_) | (refine aw_exit ?_) | (refine aw_region ?_) | (refine zco ?_ ?_ <;> intro hg <;> first | exact absurd hg (by decide) | ((try replace hg := HG.out hg); (try dsimp only at hg); (try (have _h : True := hg; clear _h hg)); first | (exfalso; omega) | skip))))
    all_goals first
      | (exfalso; omega)
      | ((first | refine loop_next (by omega) ?_ ?_ | refine (show _ ∧ _ ∧ SubOf _ _ _ _ _ _ from And.intro (by omega) (And.intro ?_ ?_))); (focus ((exact all_step hJ (by omega)); done)); (focus ((refine sub_to [] [] rfl ?_ ?_ <;> (repeat' (first | exact trivial | refine ⟨⟨_, rfl, ?_⟩, ?_⟩ | refine ⟨bsub_snoc rfl rfl (fun _ => rfl) ?_, ?_⟩ | refine ⟨bsub_one rfl rfl ?_, ?_⟩ | refine ⟨bsub_all rfl rfl (fun _ _ => rfl) (fun _ => rfl), ?_⟩ | refine ⟨bsub_updL rfl rfl ?_ (fun _ _ _ => rfl) (fun _ => rfl), ?_⟩ | refine ⟨.inl ⟨_, _, rfl, rfl, ?_⟩, ?_⟩ | exact ⟨.inr ⟨rfl, rfl⟩, trivial⟩ | refine ⟨.inr ⟨rfl, rfl⟩, ?_⟩ | (intro _ _) | exact .closed rfl | exact .sl rfl | exact .ptr rfl | exact .map rfl | exact .nil rfl | exact .emp rfl | exact .nilList | exact .empList | exact frzPtr' (by simp; done) rfl (by omega) rfl rfl | exact frzLB (by simp; done) rfl (fun _ => rfl) rfl | exact frz_all (by simp; done) rfl (fun _ _ => rfl) (fun _ => rfl) rfl | exact .frz (by simp; done) rfl (by omega) (fun _ _ => rfl) (fun _ _ => rfl) | exact slEq rfl (by first | (simp; done) | (simp; omega)) | exact siEq (by omega) | exact .of_eq (by refine (show V.agg _ = V.agg _ from ?_); (try dsimp only); congr <;> first | rfl | omega) rfl | exact .closed (by simp [V.closed, V.closed.all, *]; done) | fail))); done)))
      | ((refine aw_ret ?_; (repeat (first | refine ret_then ?_ | refine ret_block ?_)); refine bq1 rfl ⟨?_, rfl⟩); rw [curvesErr_no hs (by rw [h1, h2, geB_no hlt (by omega)]; rfl)]; rfl)
  · (repeat' (first | (refine ar_isq ?_; first | refine zmv ?_ | refine zas ?_ | (refine is_load ?_; first | refine zlp ?_ | refine zlr ?_) | (refine is_binOp ?_; first | refine zlss ?_ | refine zneq ?_ | refine zadd ?_) | (refine is_indexAddr ?_; first | refine zil ?_ | refine zis ?_ | refine zit ?_ | refine zia ?_ | refine zir ?_ | (refine zxl ?_; intro _ _ _) | (refine zxs ?_; intro _ _ _)) | (refine is_call ?_; first | refine zll ?_ | refine zls ?_ | refine zln ?_ | refine zle ?_) | (refine is_pick ?_; first | refine zpt ?_ | refine zpf ?_) | refine znt ?_) | (refine zbx ?_) | (refine zg ?_ ?_ <;> intro hg <;> first | exact absurd hg (by decide) | ((try replace hg := HG.out hg); (try dsimp only at hg); (try (have _h : True := hg; clear _h hg)); first | (exfalso; omega) | skip)) | (refine zgu ?_) | (refine ar_nil ?_) | (refine aw_seq ?_) | (refine aw_skip ?_) | (refine aw_block ?_) | (refine aw_exit ?_) | (refine aw_region ?_) | (refine zco ?_ ?_ <;> intro hg <;> first | exact absurd hg (by decide) | ((try replace hg := HG.out hg); (try dsimp only at hg); (try (have _h : True := hg; clear _h hg)); first | (exfalso; omega) | skip))))
    all_goals first
      | (exfalso; omega)
      | ((refine aw_ret ?_; (repeat (first | refine ret_then ?_ | refine ret_block ?_)); refine bq1 rfl ⟨?_, rfl⟩); rw [curvesErr_yes hs (by rw [h1, h2, geB_yes fun j hj => hJ j (by omega)]; rfl)]; rfl)
set_option maxHeartbeats 1000000 in
theorem fit_p (s : Sheet) (hs : s.ok = true) (top bottom : List Int) (h1 : isLineB s top = true) (h2 : isLineB s bottom = true) (h3 : geB top bottom = true) : PCalls Try.prog 58 [s.enc, encInts top, encInts bottom] (· = vi (fitF s top bottom)) := by
  have hb := Sheet.bounds hs
  have l1 := isLine_len h1
  have l2 := isLine_len h2
  refine pcalls_of_aw Try.func58 rfl (Nat.le_of_ble_eq_true rfl) ?_
  (repeat' (first | (refine ar_isq ?_; first | refine zmv ?_ | refine zas ?_ | (refine is_load ?_; first | refine zlp ?_ | refine zlr ?_) | (refine is_binOp ?_; first | refine zlss ?_ | refine zadd ?_ | refine zsub ?_ | refine zquo ?_) | (refine is_fieldAddr ?_; first | refine zfp ?_ | refine zfr ?_) | (refine is_indexAddr ?_; first | refine zil ?_ | refine zis ?_ | refine zit ?_ | refine zia ?_ | refine zir ?_ | (refine zxl ?_; intro _ _ _) | (refine zxs ?_; intro _ _ _)) | (refine is_call ?_; first | refine zll ?_ | refine zls ?_ | refine zln ?_ | refine zle ?_ | refine zmin ?_)) | (refine zbx ?_) | (refine ar_nil ?_) | (refine aw_seq ?_) | (refine aw_skip ?_) | (refine aw_block ?_) | (refine aw_exit ?_) | (refine aw_region ?_) | (refine aw_drawn (id := 5) [(0, 0), (1, 0), (2, 0), (3, 0), (4, 0), (5, 0), (6, 0), (7, 0), (8, 0), (9, 0), (10, 0), (11, 0), (12, 0), (13, 0), (14, 0), (15, 0)] mixed (by kernel_rfl) ?_) | (refine zco ?_ ?_ <;> intro hg <;> first | exact absurd hg (by decide) | ((try replace hg := HG.out hg); (try dsimp only at hg); (try (have _h : True := hg; clear _h hg)); first | (exfalso; omega) | skip))))
  refine aw_for bottom.length (fun _ => True) (fun k => [(1, encInts top), (3, .ptr 5 0 0 0), (7, vi (fitTo s top bottom k)), (10, encInts bottom), (11, vi bottom.length), (12, vi k)]) (fun _ => [.arr 5 1 (fun _ => s.enc)]) trivial ?_ ?_
  · (refine sub_to [some 0] [] rfl ?_ ?_ <;> (repeat' (first | exact trivial | refine ⟨⟨_, rfl, ?_⟩, ?_⟩ | refine ⟨bsub_snoc rfl rfl (fun _ => rfl) ?_, ?_⟩ | refine ⟨bsub_one rfl rfl ?_, ?_⟩ | refine ⟨bsub_all rfl rfl (fun _ _ => rfl) (fun _ => rfl), ?_⟩ | refine ⟨bsub_updL rfl rfl ?_ (fun _ _ _ => rfl) (fun _ => rfl), ?_⟩ | refine ⟨.inl ⟨_, _, rfl, rfl, ?_⟩, ?_⟩ | exact ⟨.inr ⟨rfl, rfl⟩, trivial⟩ | refine ⟨.inr ⟨rfl, rfl⟩, ?_⟩ | (intro _ _) | exact .closed rfl | exact .sl rfl | exact .ptr rfl | exact .map rfl | exact .nil rfl | exact .emp rfl | exact .nilList | exact .empList | exact frzPtr' (by simp; done) rfl (by omega) rfl rfl | exact frzLB (by simp; done) rfl (fun _ => rfl) rfl | exact frz_all (by simp; done) rfl (fun _ _ => rfl) (fun _ => rfl) rfl | exact .frz (by simp; done) rfl (by omega) (fun _ _ => rfl) (fun _ _ => rfl) | exact slEq rfl (by first | (simp; done) | (simp; omega)) | exact siEq (by omega) | exact .of_eq (by refine (show V.agg _ = V.agg _ from ?_); (try dsimp only); congr <;> first | rfl | omega) rfl | exact .closed (by simp [V.closed, V.closed.all, *]; done) | fail)))
  intro k hk _
  by_cases hlt : k < bottom.length
  · have h4 := geB_at h3 k hlt
    have h5 := isLine_at h1 (j := k) (by omega)
    have h6 := isLine_at h2 (j := k) hlt
    have h7 := fitTo_le s top bottom k
    have h8 : 0 ≤ (el bottom k - el top k) / (s.weight + s.clear) := Int.ediv_nonneg (by omega) (by omega)
    have h9 : (el bottom k - el top k) / (s.weight + s.clear) ≤ el bottom k - el top k := Int.ediv_le_self _ (by omega)
    (repeat' (first | (refine ar_isq ?_; first | refine zmv ?_ | refine zas ?_ | (refine is_load ?_; first | refine zlp ?_ | refine zlr ?_) | (refine is_binOp ?_; first | refine zlss ?_ | refine zadd ?_ | refine zsub ?_ | refine zquo ?_) | (refine is_fieldAddr ?_; first | refine zfp ?_ | refine zfr ?_) | (refine is_indexAddr ?_; first | refine zil ?_ | refine zis ?_ | refine zit ?_ | refine zia ?_ | refine zir ?_ | (refine zxl ?_; intro _ _ _) | (refine zxs ?_; intro _ _ _)) | (refine is_call ?_; first | refine zll ?_ | refine zls ?_ | refine zln ?_ | refine zle ?_ | refine zmin ?_)) | (refine zbx ?_) | (refine ar_nil ?_) | (refine aw_seq ?_) | (refine aw_skip ?_) | (refine aw_block ?_) | (refine aw_exit ?_) | (refine aw_region ?_) | (refine aw_drawn (id := 5) [(0, 0), (1, 0), (2, 0), (3, 0), (4, 0), (5, 0), (6, 0), (7, 0), (8, 0), (9, 0), (10, 0), (11, 0), (12, 0), (13, 0), (14, 0), (15, 0)] mixed (by kernel_rfl) ?_) | (refine zco ?_ ?_ <;> intro hg <;> first | exact absurd hg (by decide) | ((try replace hg := HG.out hg); (try dsimp only at hg); (try (have _h : True := hg; clear _h hg)); first | (exfalso; omega) | skip))))
    all_goals first
      | (exfalso; omega)
      | ((first | refine loop_next (by omega) ?_ ?_ | refine (show _ ∧ _ ∧ SubOf _ _ _ _ _ _ from And.intro (by omega) (And.intro ?_ ?_))); (focus ((trivial); done)); (focus ((refine sub_to [some 0] [] rfl ?_ ?_ <;> (repeat' (first | exact trivial | refine ⟨⟨_, rfl, ?_⟩, ?_⟩ | refine ⟨bsub_snoc rfl rfl (fun _ => rfl) ?_, ?_⟩ | refine ⟨bsub_one rfl rfl ?_, ?_⟩ | refine ⟨bsub_all rfl rfl (fun _ _ => rfl) (fun _ => rfl), ?_⟩ | refine ⟨bsub_updL rfl rfl ?_ (fun _ _ _ => rfl) (fun _ => rfl), ?_⟩ | refine ⟨.inl ⟨_, _, rfl, rfl, ?_⟩, ?_⟩ | exact ⟨.inr ⟨rfl, rfl⟩, trivial⟩ | refine ⟨.inr ⟨rfl, rfl⟩, ?_⟩ | (intro _ _) | exact .closed rfl | exact .sl rfl | exact .ptr rfl | exact .map rfl | exact .nil rfl | exact .emp rfl | exact .nilList | exact .empList | exact frzPtr' (by simp; done) rfl (by omega) rfl rfl | exact frzLB (by simp; done) rfl (fun _ => rfl) rfl | exact frz_all (by simp; done) rfl (fun _ _ => rfl) (fun _ => rfl) rfl | exact .frz (by simp; done) rfl (by omega) (fun _ _ => rfl) (fun _ _ => rfl) | exact slEq rfl (by first | (simp; done) | (simp; omega)) | exact siEq (by omega) | (exact siEq rfl) | exact .of_eq (by refine (show V.agg _ = V.agg _ from ?_); (try dsimp only); congr <;> first | rfl | omega) rfl | exact .closed (by simp [V.closed, V.closed.all, *]; done) | fail))); done)))
      | trace_state
  · (repeat' (first | (refine ar_isq ?_; first | refine zmv ?_ | refine zas ?_ | (refine is_load ?_; first | refine zlp ?_ | refine zlr ?_) | (refine is_binOp ?_; first | refine zlss ?_ | refine zadd ?_ | refine zsub ?_ | refine zquo ?_) | (refine is_fieldAddr ?_; first | refine zfp ?_ | refine zfr ?_) | (refine is_indexAddr ?_; first | refine zil ?_ | refine zis ?_ | refine zit ?_ | refine zia ?_ | refine zir ?_ | (refine zxl ?_; intro _ _ _) | (refine zxs ?_; intro _ _ _)) | (refine is_call ?_; first | refine zll ?_ | refine zls ?_ | refine zln ?_ | refine zle ?_ | refine zmin ?_)) | (refine zbx ?_) | (refine ar_nil ?_) | (refine aw_seq ?_) | (refine aw_skip ?_) | (refine aw_block ?_) | (refine aw_exit ?_) | (refine aw_region ?_) | (refine aw_drawn (id := 5) [(0, 0), (1, 0), (2, 0), (3, 0), (4, 0), (5, 0), (6, 0), (7, 0), (8, 0), (9, 0), (10, 0), (11, 0), (12, 0), (13, 0), (14, 0), (15, 0)] mixed (by kernel_rfl) ?_) | (refine zco ?_ ?_ <;> intro hg <;> first | exact absurd hg (by decide) | ((try replace hg := HG.out hg); (try dsimp only at hg); (try (have _h : True := hg; clear _h hg)); first | (exfalso; omega) | skip))))
    all_goals first
      | (exfalso; omega)
      | (obtain rfl : k = bottom.length := by omega
         (refine aw_ret ?_; (repeat (first | refine ret_then ?_ | refine ret_block ?_)); refine bq1 rfl ⟨?_, rfl⟩)
         rfl)
def doneE (top bottom : List Int) (n : Int) (i j : Nat) : V := if j < i then encInts (evenRow top bottom n j top.length) else vnil
def evenE (top bottom : List Int) (n : Int) (b i k j : Nat) : V := if j = i then .sl 1 b 0 k else doneE top bottom n i j
section
variable {top bottom : List Int} {n : Int} {b i k j : Nat}
theorem doneE_closed : (doneE top bottom n i j).closed = true := by unfold doneE; split <;> rfl
theorem doneE_one : (doneE top bottom n i j).cells.length = 1 := by unfold doneE; split <;> rfl
theorem evenE_one : (evenE top bottom n b i k j).cells.length = 1 := by unfold evenE; split; rfl; exact doneE_one
theorem evenE_na (cs : List V) : evenE top bottom n b i k j ≠ .agg cs := by
  unfold evenE doneE
  split
  · intro h; cases h
  · split <;> intro h <;> cases h
theorem doneE_lt (h : j < i) : doneE top bottom n i j = encInts (evenRow top bottom n j top.length) := by simp [doneE, h]
theorem evenE_same : evenE top bottom n b i k i = .sl 1 b 0 k := by simp [evenE]
theorem evenE_ne (h : j ≠ i) : evenE top bottom n b i k j = doneE top bottom n i j := by simp [evenE, h]
variable {H : Heap} {σ : List (Option Nat)} {fr : Nat → Prop}
theorem even_start (h : σ[1]? = some none) : VSub H σ fr (doneE top bottom n i j) (evenE top bottom n 1 i 0 j) := by
  by_cases e : j = i
  · subst e
    rw [evenE_same]
    unfold doneE
    rw [if_neg (by omega)]
    exact .nil h
  · rw [evenE_ne e]
    exact .closed doneE_closed
theorem even_sub {k' : Nat} (h : σ[1]? = some (some b)) (hk : k = k') : VSub H σ fr (evenE top bottom n b i k j) (evenE top bottom n 1 i k' j) := by
  subst hk
  by_cases e : j = i
  · subst e
    rw [evenE_same, evenE_same]
    exact .sl h
  · rw [evenE_ne e, evenE_ne e]
    exact .closed doneE_closed
theorem even_done (hf : fr 1) (hb : H[1]? = some (LB 1 vi (evenRow top bottom n i top.length))) : VSub H σ fr (evenE top bottom n 1 i (evenRow top bottom n i top.length).length j) (doneE top bottom n (i + 1) j) := by
  by_cases e : j = i
  · subst e
    rw [evenE_same, doneE_lt (Nat.lt_succ_self _)]
    exact frzLB hf hb (fun _ => rfl) rfl
  · rw [evenE_ne e]
    refine .of_eq ?_ doneE_closed
    unfold doneE
    by_cases h : j < i
    · rw [if_pos h, if_pos (by omega)]
    · rw [if_neg h, if_neg (by omega)]
end
set_option maxHeartbeats 2000000 in
theorem lBetween_p (s : Sheet) (top bottom : List Int) (n : Int) : PCalls Try.prog 17 [s.enc, encInts top, encInts bottom, vi n] (· = .tup [encRows (betweenF s top bottom n), vi (betweenErr s top bottom n)]) := by
  (refine pcalls_know (fun I us h => rel_len (rel_arg h (j := 1) rfl)) fun hlen1 => ?_)
  by_cases hc : curvesErr s top bottom = 0
  case neg =>
    have he := between_1 (n := n) hc
    rw [betweenF_bad (by omega), he]
    refine pcalls_of_aw Try.func17 rfl (Nat.le_of_ble_eq_true rfl) ?_
    (repeat' (first | (refine ar_isq ?_; first | refine zmv ?_ | refine zas ?_ | (refine is_load ?_; first | refine zlp ?_ | refine zlr ?_) | (refine is_binOp ?_; first | refine zlss ?_ | refine zgtr ?_ | refine zneq ?_ | refine zadd ?_ | refine zsub ?_ | refine zmul ?_ | refine zquo ?_) | (refine is_indexAddr ?_; first | refine zil ?_ | refine zis ?_ | refine zit ?_ | refine zia ?_ | refine zir ?_ | (refine zxl ?_; intro _ _ _) | (refine zxs ?_; intro _ _ _)) | (refine is_call ?_; first | refine zll ?_ | refine zls ?_ | refine zln ?_ | refine zle ?_) | refine znt ?_) | (refine ar_pcall (own := false) fn56 rfl rfl (.cons (.closed rfl) (.cons (.closed rfl) (.cons (.closed rfl) .nil))) (curves_p s top bottom) (by simp) (dc rfl) ?_; intro _ hv; subst hv) | (refine zbx ?_) | (refine zb1 ?_) | (refine zb0 ?_) | (refine zapoo ?_) | (refine zapol ?_) | (refine zapno ?_) | (refine zapnl ?_) | (refine zapeo ?_) | (refine zapel ?_) | (refine zsvs ?_) | (refine zsva ?_) | (refine zses ?_) | (refine zsea ?_) | (refine ar_nil ?_) | (refine aw_seq ?_) | (refine aw_skip ?_) | (refine aw_block ?_) | (refine aw_exit ?_) | (refine aw_region ?_) | (refine aw_drawn (id := 15) [(0, 0), (1, 0), (2, 0), (3, 0), (4, 0), (5, 0), (6, 0), (7, 0), (8, 0), (9, 0), (10, 0), (11, 0), (12, 0), (13, 0), (14, 0), (15, 0), (16, 0), (17, 0), (18, 0), (19, 1), (20, 1), (21, 0), (22, 2)] mixed (by kernel_rfl) ?_) | (refine zco ?_ ?_ <;> intro hg <;> first | exact absurd hg (by decide) | ((try replace hg := HG.out hg); (try dsimp only at hg); (try (have _h : True := hg; clear _h hg)); first | (exfalso; omega) | skip))))
    all_goals first
      | (exfalso; omega)
      | ((refine aw_mono_r (env' := [(8, encRows []), (9, vi (curvesErr s top bottom))]) (H' := []) ?_ ?_; (focus ((refine sub_to [] [] rfl ?_ ?_ <;> (repeat' (first | exact trivial | refine ⟨⟨_, rfl, ?_⟩, ?_⟩ | refine ⟨bsub_snoc rfl rfl (fun _ => rfl) ?_, ?_⟩ | refine ⟨bsub_one rfl rfl ?_, ?_⟩ | refine ⟨bsub_all rfl rfl (fun _ _ => rfl) (fun _ => rfl), ?_⟩ | refine ⟨bsub_updL rfl rfl ?_ (fun _ _ _ => rfl) (fun _ => rfl), ?_⟩ | refine ⟨.inl ⟨_, _, rfl, rfl, ?_⟩, ?_⟩ | exact ⟨.inr ⟨rfl, rfl⟩, trivial⟩ | refine ⟨.inr ⟨rfl, rfl⟩, ?_⟩ | (intro _ _) | exact .closed rfl | exact .sl rfl | exact .ptr rfl | exact .map rfl | exact .nil rfl | exact .emp rfl | exact .nilList | exact .empList | exact frzPtr' (by simp; done) rfl (by omega) rfl rfl | exact frzLB (by simp; done) rfl (fun _ => rfl) rfl | exact frz_all (by simp; done) rfl (fun _ _ => rfl) (fun _ => rfl) rfl | exact .frz (by simp; done) rfl (by omega) (fun _ _ => rfl) (fun _ _ => rfl) | exact slEq rfl (by first | (simp; done) | (simp; omega)) | exact siEq (by omega) | exact .of_eq (by refine (show V.agg _ = V.agg _ from ?_); (try dsimp only); congr <;> first | rfl | omega) rfl | exact .closed (by simp [V.closed, V.closed.all, *]; done) | fail))); done))); (refine aw_ret ?_; (repeat (first | refine ret_then ?_ | refine ret_block ?_)); refine bq2 rfl rfl ⟨?_, rfl⟩); rfl)
  obtain ⟨hs, h1, h2, h3⟩ := curves_ok hc
  have hb := Sheet.bounds hs
  have l1 := isLine_len h1
  have l2 := isLine_len h2
  cases hw : withinB n 2 12
  · have he := between_2 hc hw
    rw [betweenF_bad (by omega), he]
    refine pcalls_of_aw Try.func17 rfl (Nat.le_of_ble_eq_true rfl) ?_
    (repeat' (first | (refine ar_isq ?_; first | refine zmv ?_ | refine zas ?_ | (refine is_load ?_; first | refine zlp ?_ | refine zlr ?_) | (refine is_binOp ?_; first | refine zlss ?_ | refine zgtr ?_ | refine zneq ?_ | refine zadd ?_ | refine zsub ?_ | refine zmul ?_ | refine zquo ?_) | (refine is_indexAddr ?_; first | refine zil ?_ | refine zis ?_ | refine zit ?_ | refine zia ?_ | refine zir ?_ | (refine zxl ?_; intro _ _ _) | (refine zxs ?_; intro _ _ _)) | (refine is_call ?_; first | refine zll ?_ | refine zls ?_ | refine zln ?_ | refine zle ?_) | refine znt ?_) | (refine ar_pcall (own := false) fn56 rfl rfl (.cons (.closed rfl) (.cons (.closed rfl) (.cons (.closed rfl) .nil))) (curves_p s top bottom) (by simp) (dc rfl) ?_; intro _ hv; subst hv) | (refine ar_pcall (own := false) fn57 rfl rfl (.cons (.closed rfl) (.cons (.closed rfl) (.cons (.closed rfl) .nil))) (within_p _ _ _) (by simp) (dc rfl) ?_; intro _ hv; subst hv) | (refine zbx ?_) | (refine zb1 ?_) | (refine zb0 ?_) | (refine zapoo ?_) | (refine zapol ?_) | (refine zapno ?_) | (refine zapnl ?_) | (refine zapeo ?_) | (refine zapel ?_) | (refine zsvs ?_) | (refine zsva ?_) | (refine zses ?_) | (refine zsea ?_) | (refine ar_nil ?_) | (refine aw_seq ?_) | (refine aw_skip ?_) | (refine aw_block ?_) | (refine aw_exit ?_) | (refine aw_region ?_) | (refine aw_drawn (id := 15) [(0, 0), (1, 0), (2, 0), (3, 0), (4, 0), (5, 0), (6, 0), (7, 0), (8, 0), (9, 0), (10, 0), (11, 0), (12, 0), (13, 0), (14, 0), (15, 0), (16, 0), (17, 0), (18, 0), (19, 1), (20, 1), (21, 0), (22, 2)] mixed (by kernel_rfl) ?_) | (refine zco ?_ ?_ <;> intro hg <;> first | exact absurd hg (by decide) | ((try replace hg := HG.out hg); (try dsimp only at hg); (try (have _h : True := hg; clear _h hg)); first | (exfalso; omega) | skip))))
    all_goals first
      | (exfalso; omega)
      | ((refine aw_mono_r (env' := [(8, encRows []), (9, vi 2)]) (H' := []) ?_ ?_; (focus ((refine sub_to [] [] rfl ?_ ?_ <;> (repeat' (first | exact trivial | refine ⟨⟨_, rfl, ?_⟩, ?_⟩ | refine ⟨bsub_snoc rfl rfl (fun _ => rfl) ?_, ?_⟩ | refine ⟨bsub_one rfl rfl ?_, ?_⟩ | refine ⟨bsub_all rfl rfl (fun _ _ => rfl) (fun _ => rfl), ?_⟩ | refine ⟨bsub_updL rfl rfl ?_ (fun _ _ _ => rfl) (fun _ => rfl), ?_⟩ | refine ⟨.inl ⟨_, _, rfl, rfl, ?_⟩, ?_⟩ | exact ⟨.inr ⟨rfl, rfl⟩, trivial⟩ | refine ⟨.inr ⟨rfl, rfl⟩, ?_⟩ | (intro _ _) | exact .closed rfl | exact .sl rfl | exact .ptr rfl | exact .map rfl | exact .nil rfl | exact .emp rfl | exact .nilList | exact .empList | exact frzPtr' (by simp; done) rfl (by omega) rfl rfl | exact frzLB (by simp; done) rfl (fun _ => rfl) rfl | exact frz_all (by simp; done) rfl (fun _ _ => rfl) (fun _ => rfl) rfl | exact .frz (by simp; done) rfl (by omega) (fun _ _ => rfl) (fun _ _ => rfl) | exact slEq rfl (by first | (simp; done) | (simp; omega)) | exact siEq (by omega) | exact .of_eq (by refine (show V.agg _ = V.agg _ from ?_); (try dsimp only); congr <;> first | rfl | omega) rfl | exact .closed (by simp [V.closed, V.closed.all, *]; done) | fail))); done))); (refine aw_ret ?_; (repeat (first | refine ret_then ?_ | refine ret_block ?_)); refine bq2 rfl rfl ⟨?_, rfl⟩); rfl)
      | (exfalso; simp_all; done)
  have hn := withinB_iff.1 hw
  by_cases hf : fitF s top bottom < n
  · have he := between_3 hc hw hf
    rw [betweenF_bad (by omega), he]
    refine pcalls_of_aw Try.func17 rfl (Nat.le_of_ble_eq_true rfl) ?_
    (repeat' (first | (refine ar_isq ?_; first | refine zmv ?_ | refine zas ?_ | (refine is_load ?_; first | refine zlp ?_ | refine zlr ?_) | (refine is_binOp ?_; first | refine zlss ?_ | refine zgtr ?_ | refine zneq ?_ | refine zadd ?_ | refine zsub ?_ | refine zmul ?_ | refine zquo ?_) | (refine is_indexAddr ?_; first | refine zil ?_ | refine zis ?_ | refine zit ?_ | refine zia ?_ | refine zir ?_ | (refine zxl ?_; intro _ _ _) | (refine zxs ?_; intro _ _ _)) | (refine is_call ?_; first | refine zll ?_ | refine zls ?_ | refine zln ?_ | refine zle ?_) | refine znt ?_) | (refine ar_pcall (own := false) fn56 rfl rfl (.cons (.closed rfl) (.cons (.closed rfl) (.cons (.closed rfl) .nil))) (curves_p s top bottom) (by simp) (dc rfl) ?_; intro _ hv; subst hv) | (refine ar_pcall (own := false) fn57 rfl rfl (.cons (.closed rfl) (.cons (.closed rfl) (.cons (.closed rfl) .nil))) (within_p _ _ _) (by simp) (dc rfl) ?_; intro _ hv; subst hv) | (refine ar_pcall (own := false) fn58 rfl rfl (.cons (.closed rfl) (.cons (.closed rfl) (.cons (.closed rfl) .nil))) (fit_p s hs top bottom h1 h2 h3) (by simp) (dc rfl) ?_; intro _ hv; subst hv) | (refine zbx ?_) | (refine zb1 ?_) | (refine zb0 ?_) | (refine zapoo ?_) | (refine zapol ?_) | (refine zapno ?_) | (refine zapnl ?_) | (refine zapeo ?_) | (refine zapel ?_) | (refine zsvs ?_) | (refine zsva ?_) | (refine zses ?_) | (refine zsea ?_) | (refine ar_nil ?_) | (refine aw_seq ?_) | (refine aw_skip ?_) | (refine aw_block ?_) | (refine aw_exit ?_) | (refine aw_region ?_) | (refine aw_drawn (id := 15) [(0, 0), (1, 0), (2, 0), (3, 0), (4, 0), (5, 0), (6, 0), (7, 0), (8, 0), (9, 0), (10, 0), (11, 0), (12, 0), (13, 0), (14, 0), (15, 0), (16, 0), (17, 0), (18, 0), (19, 1), (20, 1), (21, 0), (22, 2)] mixed (by kernel_rfl) ?_) | (refine zco ?_ ?_ <;> intro hg <;> first | exact absurd hg (by decide) | ((try replace hg := HG.out hg); (try dsimp only at hg); (try (have _h : True := hg; clear _h hg)); first | (exfalso; omega) | skip))))
    all_goals first
      | (exfalso; omega)
      | ((refine aw_mono_r (env' := [(8, encRows []), (9, vi 71)]) (H' := []) ?_ ?_; (focus ((refine sub_to [] [] rfl ?_ ?_ <;> (repeat' (first | exact trivial | refine ⟨⟨_, rfl, ?_⟩, ?_⟩ | refine ⟨bsub_snoc rfl rfl (fun _ => rfl) ?_, ?_⟩ | refine ⟨bsub_one rfl rfl ?_, ?_⟩ | refine ⟨bsub_all rfl rfl (fun _ _ => rfl) (fun _ => rfl), ?_⟩ | refine ⟨bsub_updL rfl rfl ?_ (fun _ _ _ => rfl) (fun _ => rfl), ?_⟩ | refine ⟨.inl ⟨_, _, rfl, rfl, ?_⟩, ?_⟩ | exact ⟨.inr ⟨rfl, rfl⟩, trivial⟩ | refine ⟨.inr ⟨rfl, rfl⟩, ?_⟩ | (intro _ _) | exact .closed rfl | exact .sl rfl | exact .ptr rfl | exact .map rfl | exact .nil rfl | exact .emp rfl | exact .nilList | exact .empList | exact frzPtr' (by simp; done) rfl (by omega) rfl rfl | exact frzLB (by simp; done) rfl (fun _ => rfl) rfl | exact frz_all (by simp; done) rfl (fun _ _ => rfl) (fun _ => rfl) rfl | exact .frz (by simp; done) rfl (by omega) (fun _ _ => rfl) (fun _ _ => rfl) | exact slEq rfl (by first | (simp; done) | (simp; omega)) | exact siEq (by omega) | exact .of_eq (by refine (show V.agg _ = V.agg _ from ?_); (try dsimp only); congr <;> first | rfl | omega) rfl | exact .closed (by simp [V.closed, V.closed.all, *]; done) | fail))); done))); (refine aw_ret ?_; (repeat (first | refine ret_then ?_ | refine ret_block ?_)); refine bq2 rfl rfl ⟨?_, rfl⟩); rfl)
      | (exfalso; simp_all; done)
  have he := between_4 hc hw hf
  rw [betweenF_ok he, he]
  obtain ⟨M, rfl⟩ : ∃ M : Nat, n = (M : Int) := ⟨n.toNat, by omega⟩
  simp only [Int.toNat_natCast]
  refine pcalls_of_aw Try.func17 rfl (Nat.le_of_ble_eq_true rfl) ?_
  (repeat' (first | (refine ar_isq ?_; first | refine zmv ?_ | refine zas ?_ | (refine is_load ?_; first | refine zlp ?_ | refine zlr ?_) | (refine is_binOp ?_; first | refine zlss ?_ | refine zgtr ?_ | refine zneq ?_ | refine zadd ?_ | refine zsub ?_ | refine zmul ?_ | refine zquo ?_) | (refine is_indexAddr ?_; first | refine zil ?_ | refine zis ?_ | refine zit ?_ | refine zia ?_ | refine zir ?_ | (refine zxl ?_; intro _ _ _) | (refine zxs ?_; intro _ _ _)) | (refine is_call ?_; first | refine zll ?_ | refine zls ?_ | refine zln ?_ | refine zle ?_) | refine znt ?_) | (refine ar_pcall (own := false) fn56 rfl rfl (.cons (.closed rfl) (.cons (.closed rfl) (.cons (.closed rfl) .nil))) (curves_p s top bottom) (by simp) (dc rfl) ?_; intro _ hv; subst hv) | (refine ar_pcall (own := false) fn57 rfl rfl (.cons (.closed rfl) (.cons (.closed rfl) (.cons (.closed rfl) .nil))) (within_p _ _ _) (by simp) (dc rfl) ?_; intro _ hv; subst hv) | (refine ar_pcall (own := false) fn58 rfl rfl (.cons (.closed rfl) (.cons (.closed rfl) (.cons (.closed rfl) .nil))) (fit_p s hs top bottom h1 h2 h3) (by simp) (dc rfl) ?_; intro _ hv; subst hv) | (refine ar_make_v (n := M) (ty rfl) rfl (ty rfl) rfl rfl (by omega) (by omega) (dc rfl) rfl rfl (by dsimp only; omega) (maxLen_ok (by omega)) ?_) | (refine zbx ?_) | (refine zb1 ?_) | (refine zb0 ?_) | (refine zapoo ?_) | (refine zapol ?_) | (refine zapno ?_) | (refine zapnl ?_) | (refine zapeo ?_) | (refine zapel ?_) | (refine zsvs ?_) | (refine zsva ?_) | (refine zses ?_) | (refine zsea ?_) | (refine ar_nil ?_) | (refine aw_seq ?_) | (refine aw_skip ?_) | (refine aw_block ?_) | (refine aw_exit ?_) | (refine aw_region ?_) | (refine aw_drawn (id := 15) [(0, 0), (1, 0), (2, 0), (3, 0), (4, 0), (5, 0), (6, 0), (7, 0), (8, 0), (9, 0), (10, 0), (11, 0), (12, 0), (13, 0), (14, 0), (15, 0), (16, 0), (17, 0), (18, 0), (19, 1), (20, 1), (21, 0), (22, 2)] mixed (by kernel_rfl) ?_) | (refine zco ?_ ?_ <;> intro hg <;> first | exact absurd hg (by decide) | ((try replace hg := HG.out hg); (try dsimp only at hg); (try (have _h : True := hg; clear _h hg)); first | (exfalso; omega) | skip))))
  all_goals (try (exfalso; omega))
  all_goals (try (exfalso; simp_all; done))
  refine aw_for M (fun _ => True) (fun i => [(1, encInts top), (2, encInts bottom), (3, vi M), (11, .sl 1 0 0 M), (34, vi M), (35, vi i)]) (fun i => [.arr 1 M (doneE top bottom M i)]) trivial ?_ ?_
  · (refine sub_to [some 1] [] rfl ?_ ?_ <;> (repeat' (first | exact trivial | refine ⟨⟨_, rfl, ?_⟩, ?_⟩ | refine ⟨bsub_snoc rfl rfl (fun _ => rfl) ?_, ?_⟩ | refine ⟨bsub_one rfl rfl ?_, ?_⟩ | refine ⟨bsub_all rfl rfl (fun _ _ => rfl) (fun _ => rfl), ?_⟩ | refine ⟨bsub_updL rfl rfl ?_ (fun _ _ _ => rfl) (fun _ => rfl), ?_⟩ | refine ⟨.inl ⟨_, _, rfl, rfl, ?_⟩, ?_⟩ | exact ⟨.inr ⟨rfl, rfl⟩, trivial⟩ | refine ⟨.inr ⟨rfl, rfl⟩, ?_⟩ | (intro _ _) | exact .closed rfl | exact .sl rfl | exact .ptr rfl | exact .map rfl | exact .nil rfl | exact .emp rfl | exact .nilList | exact .empList | exact frzPtr' (by simp; done) rfl (by omega) rfl rfl | exact frzLB (by simp; done) rfl (fun _ => rfl) rfl | exact frz_all (by simp; done) rfl (fun _ _ => rfl) (fun _ => rfl) rfl | exact .frz (by simp; done) rfl (by omega) (fun _ _ => rfl) (fun _ _ => rfl) | exact slEq rfl (by first | (simp; done) | (simp; omega)) | exact siEq (by omega) | exact .of_eq (by refine (show V.agg _ = V.agg _ from ?_); (try dsimp only); congr <;> first | rfl | omega) rfl | exact .closed (by simp [V.closed, V.closed.all, *]; done) | fail)))
  intro i hi _
  by_cases hlti : i < M
  · (repeat' (first | (refine ar_isq ?_; first | refine zmv ?_ | refine zas ?_ | (refine is_load ?_; first | refine zlp ?_ | refine zlr ?_) | (refine is_binOp ?_; first | refine zlss ?_ | refine zgtr ?_ | refine zneq ?_ | refine zadd ?_ | refine zsub ?_ | refine zmul ?_ | refine zquo ?_) | (refine is_indexAddr ?_; first | refine zil ?_ | refine zis ?_ | refine zit ?_ | refine zia ?_ | refine zir ?_ | (refine zxl ?_; intro _ _ _) | (refine zxs ?_; intro _ _ _)) | (refine is_call ?_; first | refine zll ?_ | refine zls ?_ | refine zln ?_ | refine zle ?_) | refine znt ?_) | (refine zbx ?_) | (refine zb1 ?_) | (refine zb0 ?_) | (refine zapoo ?_) | (refine zapol ?_) | (refine zapno ?_) | (refine zapnl ?_) | (refine zapeo ?_) | (refine zapel ?_) | (refine zsvs ?_) | (refine zsva ?_) | (refine zses ?_) | (refine zsea ?_) | (refine ar_nil ?_) | (refine aw_seq ?_) | (refine aw_skip ?_) | (refine aw_block ?_) | (refine aw_exit ?_) | (refine aw_region ?_) | (refine aw_drawn (id := 15) [(0, 0), (1, 0), (2, 0), (3, 0), (4, 0), (5, 0), (6, 0), (7, 0), (8, 0), (9, 0), (10, 0), (11, 0), (12, 0), (13, 0), (14, 0), (15, 0), (16, 0), (17, 0), (18, 0), (19, 1), (20, 1), (21, 0), (22, 2)] mixed (by kernel_rfl) ?_) | (refine zco ?_ ?_ <;> intro hg <;> first | exact absurd hg (by decide) | ((try replace hg := HG.out hg); (try dsimp only at hg); (try (have _h : True := hg; clear _h hg)); first | (exfalso; omega) | skip))))
    all_goals (try (exfalso; omega))
    refine aw_for top.length (fun _ => True) (fun k => [(1, encInts top), (2, encInts bottom), (3, vi M), (11, .sl 1 0 0 M), (34, vi M), (35, vi i), (12, vi i), (38, encInts top), (39, vi top.length), (40, vi k)]) (fun k => [.arr 1 M (evenE top bottom M 1 i (evenRow top bottom M i k).length), LB 1 vi (evenRow top bottom M i k)]) trivial ?_ ?_
    · (refine sub_to [some 0, none] [] rfl ?_ ?_ <;> (repeat' (first | exact trivial | refine ⟨⟨_, rfl, ?_⟩, ?_⟩ | refine ⟨bsub_snoc rfl rfl (fun _ => rfl) ?_, ?_⟩ | refine ⟨bsub_one rfl rfl ?_, ?_⟩ | refine ⟨bsub_all rfl rfl (fun _ _ => rfl) (fun _ => rfl), ?_⟩ | refine ⟨bsub_updL rfl rfl ?_ (fun _ _ _ => rfl) (fun _ => rfl), ?_⟩ | refine ⟨.inl ⟨_, _, rfl, rfl, ?_⟩, ?_⟩ | exact ⟨.inr ⟨rfl, rfl⟩, trivial⟩ | refine ⟨.inr ⟨rfl, rfl⟩, ?_⟩ | (intro _ _) | exact .closed rfl | exact .sl rfl | exact .ptr rfl | exact .map rfl | exact .nil rfl | exact .emp rfl | exact .nilList | exact .empList | exact frzPtr' (by simp; done) rfl (by omega) rfl rfl | exact frzLB (by simp; done) rfl (fun _ => rfl) rfl | exact frz_all (by simp; done) rfl (fun _ _ => rfl) (fun _ => rfl) rfl | exact .frz (by simp; done) rfl (by omega) (fun _ _ => rfl) (fun _ _ => rfl) | exact slEq rfl (by first | (simp; done) | (simp; omega)) | exact siEq (by omega) | (exact even_start rfl) | exact .of_eq (by refine (show V.agg _ = V.agg _ from ?_); (try dsimp only); congr <;> first | rfl | omega) rfl | exact .closed (by simp [V.closed, V.closed.all, *]; done) | fail)))
    intro k hk _
    have hlk := evenRow_len top bottom M i k
    by_cases hltk : k < top.length
    · have h4 := geB_at h3 k (by omega)
      have h5 := isLine_at h1 (j := k) hltk
      have h6 := isLine_at h2 (j := k) (by omega)
      have p1 : 0 ≤ (i : Int) * (el bottom k - el top k) := Int.mul_nonneg (by omega) (by omega)
      have p2 : (i : Int) * (el bottom k - el top k) ≤ 12 * 60 := Int.mul_le_mul (by omega) (by omega) (by omega) (by omega)
      have p3 : 0 ≤ (i : Int) * (el bottom k - el top k) / ((M : Int) - 1) := Int.ediv_nonneg p1 (by omega)
      have p4 : (i : Int) * (el bottom k - el top k) / ((M : Int) - 1) ≤ 12 * 60 := Int.le_trans (Int.ediv_le_self _ p1) p2
      (repeat' (first | (refine ar_isq ?_; first | refine zmv ?_ | refine zas ?_ | (refine is_load ?_; first | refine zlp ?_ | refine zlr ?_) | (refine is_binOp ?_; first | refine zlss ?_ | refine zgtr ?_ | refine zneq ?_ | refine zadd ?_ | refine zsub ?_ | refine zmul ?_ | refine zquo ?_) | (refine is_indexAddr ?_; first | refine zil ?_ | refine zis ?_ | refine zit ?_ | refine zia ?_ | refine zir ?_ | (refine zxl ?_; intro _ _ _) | (refine zxs ?_; intro _ _ _)) | (refine is_call ?_; first | refine zll ?_ | refine zls ?_ | refine zln ?_ | refine zle ?_) | refine znt ?_) | (refine ar_q (qs_load_ptr (v := .sl 1 1 0 (evenRow top bottom M i k).length) (ty rfl) rfl rfl (by assumption) (part_of_eq (v := .sl 1 1 0 (evenRow top bottom M i k).length) evenE_same rfl)) (dc rfl) ?_) | (refine ar_store_as (evenE top bottom M 3 i ((evenRow top bottom M i k).length + 1)) (ty rfl) rfl rfl rfl rfl rfl rfl (by assumption) (by dsimp only; omega) (fun _ h => by cases h) rfl evenE_one evenE_na (by rw [evenE_same]; rfl) (fun j _ h => by rw [evenE_ne h, evenE_ne h]) ?_) | (refine zbx ?_) | (refine zb1 ?_) | (refine zb0 ?_) | (refine zapoo ?_) | (refine zapol ?_) | (refine zapno ?_) | (refine zapnl ?_) | (refine zapeo ?_) | (refine zapel ?_) | (refine zsvs ?_) | (refine zsva ?_) | (refine zses ?_) | (refine zsea ?_) | (refine ar_nil ?_) | (refine aw_seq ?_) | (refine aw_skip ?_) | (refine aw_block ?_) | (refine aw_exit ?_) | (refine aw_region ?_) | (refine aw_drawn (id := 15) [(0, 0), (1, 0), (2, 0), (3, 0), (4, 0), (5, 0), (6, 0), (7, 0), (8, 0), (9, 0), (10, 0), (11, 0), (12, 0), (13, 0), (14, 0), (15, 0), (16, 0), (17, 0), (18, 0), (19, 1), (20, 1), (21, 0), (22, 2)] mixed (by kernel_rfl) ?_) | (refine zco ?_ ?_ <;> intro hg <;> first | exact absurd hg (by decide) | ((try replace hg := HG.out hg); (try dsimp only at hg); (try (have _h : True := hg; clear _h hg)); first | (exfalso; omega) | skip))))
      all_goals first
        | (exfalso; omega)
        | (rw [evenRow_succ]; ((first | refine loop_next (by omega) ?_ ?_ | refine (show _ ∧ _ ∧ SubOf _ _ _ _ _ _ from And.intro (by omega) (And.intro ?_ ?_))); (focus ((trivial); done)); (focus ((refine sub_to [some 0, some 3] [] rfl ?_ ?_ <;> (repeat' (first | exact trivial | refine ⟨⟨_, rfl, ?_⟩, ?_⟩ | refine ⟨bsub_snoc rfl rfl (fun _ => rfl) ?_, ?_⟩ | refine ⟨bsub_one rfl rfl ?_, ?_⟩ | refine ⟨bsub_all rfl rfl (fun _ _ => rfl) (fun _ => rfl), ?_⟩ | refine ⟨bsub_updL rfl rfl ?_ (fun _ _ _ => rfl) (fun _ => rfl), ?_⟩ | refine ⟨.inl ⟨_, _, rfl, rfl, ?_⟩, ?_⟩ | exact ⟨.inr ⟨rfl, rfl⟩, trivial⟩ | refine ⟨.inr ⟨rfl, rfl⟩, ?_⟩ | (intro _ _) | exact .closed rfl | exact .sl rfl | exact .ptr rfl | exact .map rfl | exact .nil rfl | exact .emp rfl | exact .nilList | exact .empList | exact frzPtr' (by simp; done) rfl (by omega) rfl rfl | exact frzLB (by simp; done) rfl (fun _ => rfl) rfl | exact frz_all (by simp; done) rfl (fun _ _ => rfl) (fun _ => rfl) rfl | exact .frz (by simp; done) rfl (by omega) (fun _ _ => rfl) (fun _ _ => rfl) | exact slEq rfl (by first | (simp; done) | (simp; omega)) | exact siEq (by omega) | (first | exact even_sub rfl (by simp) | exact siEq rfl) | exact .of_eq (by refine (show V.agg _ = V.agg _ from ?_); (try dsimp only); congr <;> first | rfl | omega) rfl | exact .closed (by simp [V.closed, V.closed.all, *]; done) | fail))); done))))
        | trace_state
    · obtain rfl : k = top.length := by omega
      (repeat' (first | (refine ar_isq ?_; first | refine zmv ?_ | refine zas ?_ | (refine is_load ?_; first | refine zlp ?_ | refine zlr ?_) | (refine is_binOp ?_; first | refine zlss ?_ | refine zgtr ?_ | refine zneq ?_ | refine zadd ?_ | refine zsub ?_ | refine zmul ?_ | refine zquo ?_) | (refine is_indexAddr ?_; first | refine zil ?_ | refine zis ?_ | refine zit ?_ | refine zia ?_ | refine zir ?_ | (refine zxl ?_; intro _ _ _) | (refine zxs ?_; intro _ _ _)) | (refine is_call ?_; first | refine zll ?_ | refine zls ?_ | refine zln ?_ | refine zle ?_) | refine znt ?_) | (refine zbx ?_) | (refine zb1 ?_) | (refine zb0 ?_) | (refine zapoo ?_) | (refine zapol ?_) | (refine zapno ?_) | (refine zapnl ?_) | (refine zapeo ?_) | (refine zapel ?_) | (refine zsvs ?_) | (refine zsva ?_) | (refine zses ?_) | (refine zsea ?_) | (refine ar_nil ?_) | (refine aw_seq ?_) | (refine aw_skip ?_) | (refine aw_block ?_) | (refine aw_exit ?_) | (refine aw_region ?_) | (refine aw_drawn (id := 15) [(0, 0), (1, 0), (2, 0), (3, 0), (4, 0), (5, 0), (6, 0), (7, 0), (8, 0), (9, 0), (10, 0), (11, 0), (12, 0), (13, 0), (14, 0), (15, 0), (16, 0), (17, 0), (18, 0), (19, 1), (20, 1), (21, 0), (22, 2)] mixed (by kernel_rfl) ?_) | (refine zco ?_ ?_ <;> intro hg <;> first | exact absurd hg (by decide) | ((try replace hg := HG.out hg); (try dsimp only at hg); (try (have _h : True := hg; clear _h hg)); first | (exfalso; omega) | skip))))
      all_goals first
        | (exfalso; omega)
        | ((first | refine loop_next (by omega) ?_ ?_ | refine (show _ ∧ _ ∧ SubOf _ _ _ _ _ _ from And.intro (by omega) (And.intro ?_ ?_))); (focus ((trivial); done)); (focus ((refine sub_to [some 0] [1] rfl ?_ ?_ <;> (repeat' (first | exact trivial | refine ⟨⟨_, rfl, ?_⟩, ?_⟩ | refine ⟨bsub_snoc rfl rfl (fun _ => rfl) ?_, ?_⟩ | refine ⟨bsub_one rfl rfl ?_, ?_⟩ | refine ⟨bsub_all rfl rfl (fun _ _ => rfl) (fun _ => rfl), ?_⟩ | refine ⟨bsub_updL rfl rfl ?_ (fun _ _ _ => rfl) (fun _ => rfl), ?_⟩ | refine ⟨.inl ⟨_, _, rfl, rfl, ?_⟩, ?_⟩ | exact ⟨.inr ⟨rfl, rfl⟩, trivial⟩ | refine ⟨.inr ⟨rfl, rfl⟩, ?_⟩ | (intro _ _) | exact .closed rfl | exact .sl rfl | exact .ptr rfl | exact .map rfl | exact .nil rfl | exact .emp rfl | exact .nilList | exact .empList | exact frzPtr' (by simp; done) rfl (by omega) rfl rfl | exact frzLB (by simp; done) rfl (fun _ => rfl) rfl | exact frz_all (by simp; done) rfl (fun _ _ => rfl) (fun _ => rfl) rfl | exact .frz (by simp; done) rfl (by omega) (fun _ _ => rfl) (fun _ _ => rfl) | exact slEq rfl (by first | (simp; done) | (simp; omega)) | exact siEq (by omega) | (exact even_done (by simp) rfl) | exact .of_eq (by refine (show V.agg _ = V.agg _ from ?_); (try dsimp only); congr <;> first | rfl | omega) rfl | exact .closed (by simp [V.closed, V.closed.all, *]; done) | fail))); done)))
        | trace_state
  · obtain rfl : i = M := by omega
    (repeat' (first | (refine ar_isq ?_; first | refine zmv ?_ | refine zas ?_ | (refine is_load ?_; first | refine zlp ?_ | refine zlr ?_) | (refine is_binOp ?_; first | refine zlss ?_ | refine zgtr ?_ | refine zneq ?_ | refine zadd ?_ | refine zsub ?_ | refine zmul ?_ | refine zquo ?_) | (refine is_indexAddr ?_; first | refine zil ?_ | refine zis ?_ | refine zit ?_ | refine zia ?_ | refine zir ?_ | (refine zxl ?_; intro _ _ _) | (refine zxs ?_; intro _ _ _)) | (refine is_call ?_; first | refine zll ?_ | refine zls ?_ | refine zln ?_ | refine zle ?_) | refine znt ?_) | (refine zbx ?_) | (refine zb1 ?_) | (refine zb0 ?_) | (refine zapoo ?_) | (refine zapol ?_) | (refine zapno ?_) | (refine zapnl ?_) | (refine zapeo ?_) | (refine zapel ?_) | (refine zsvs ?_) | (refine zsva ?_) | (refine zses ?_) | (refine zsea ?_) | (refine ar_nil ?_) | (refine aw_seq ?_) | (refine aw_skip ?_) | (refine aw_block ?_) | (refine aw_exit ?_) | (refine aw_region ?_) | (refine aw_drawn (id := 15) [(0, 0), (1, 0), (2, 0), (3, 0), (4, 0), (5, 0), (6, 0), (7, 0), (8, 0), (9, 0), (10, 0), (11, 0), (12, 0), (13, 0), (14, 0), (15, 0), (16, 0), (17, 0), (18, 0), (19, 1), (20, 1), (21, 0), (22, 2)] mixed (by kernel_rfl) ?_) | (refine zco ?_ ?_ <;> intro hg <;> first | exact absurd hg (by decide) | ((try replace hg := HG.out hg); (try dsimp only at hg); (try (have _h : True := hg; clear _h hg)); first | (exfalso; omega) | skip))))
    all_goals first
      | (exfalso; omega)
      | ((refine aw_mono_r (env' := [(8, encRows (evenRows top bottom i i)), (9, vi 0)]) (H' := []) ?_ ?_; (focus ((refine sub_to [] [0] rfl ?_ ?_ <;> (repeat' (first | exact trivial | refine ⟨⟨_, rfl, ?_⟩, ?_⟩ | refine ⟨bsub_snoc rfl rfl (fun _ => rfl) ?_, ?_⟩ | refine ⟨bsub_one rfl rfl ?_, ?_⟩ | refine ⟨bsub_all rfl rfl (fun _ _ => rfl) (fun _ => rfl), ?_⟩ | refine ⟨bsub_updL rfl rfl ?_ (fun _ _ _ => rfl) (fun _ => rfl), ?_⟩ | refine ⟨.inl ⟨_, _, rfl, rfl, ?_⟩, ?_⟩ | exact ⟨.inr ⟨rfl, rfl⟩, trivial⟩ | refine ⟨.inr ⟨rfl, rfl⟩, ?_⟩ | (intro _ _) | exact .closed rfl | exact .sl rfl | exact .ptr rfl | exact .map rfl | exact .nil rfl | exact .emp rfl | exact .nilList | exact .empList | exact frzPtr' (by simp; done) rfl (by omega) rfl rfl | exact frzLB (by simp; done) rfl (fun _ => rfl) rfl | exact frz_all (by simp; done) rfl (fun _ _ => rfl) (fun _ => rfl) rfl | exact .frz (by simp; done) rfl (by omega) (fun _ _ => rfl) (fun _ _ => rfl) | exact slEq rfl (by first | (simp; done) | (simp; omega)) | exact siEq (by omega) | (exact frz_as (by simp) rfl rfl (evenRows_len _ _ _ _) (fun j hj => by rw [doneE_lt hj, el_evenRows _ _ _ _ _ hj]) (fun _ => rfl)) | exact .of_eq (by refine (show V.agg _ = V.agg _ from ?_); (try dsimp only); congr <;> first | rfl | omega) rfl | exact .closed (by simp [V.closed, V.closed.all, *]; done) | fail))); done))); (refine aw_ret ?_; (repeat (first | refine ret_then ?_ | refine ret_block ?_)); refine bq2 rfl rfl ⟨?_, rfl⟩); rfl)
      | trace_state
set_option maxHeartbeats 1000000 in
theorem lMost_p (s : Sheet) (top bottom : List Int) : PCalls Try.prog 19 [s.enc, encInts top, encInts bottom] (· = .tup [vi (mostVal s top bottom), vi (mostErr s top bottom)]) := by
  by_cases hc : curvesErr s top bottom = 0
  case neg =>
    obtain ⟨he, hv⟩ := most_1 hc
    rw [hv, he]
    refine pcalls_of_aw Try.func19 rfl (Nat.le_of_ble_eq_true rfl) ?_
    (repeat' (first | (refine ar_isq ?_; first | refine zmv ?_ | refine zas ?_ | (refine is_load ?_; first | refine zlp ?_ | refine zlr ?_) | (refine is_binOp ?_; first | refine zlss ?_ | refine zneq ?_)) | (refine ar_pcall (own := false) fn56 rfl rfl (.cons (.closed rfl) (.cons (.closed rfl) (.cons (.closed rfl) .nil))) (curves_p s top bottom) (by simp) (dc rfl) ?_; intro _ hv; subst hv) | (refine zbx ?_) | (refine ar_nil ?_) | (refine aw_seq ?_) | (refine aw_skip ?_) | (refine aw_block ?_) | (refine aw_exit ?_) | (refine aw_region ?_) | (refine zco ?_ ?_ <;> intro hg <;> first | exact absurd hg (by decide) | ((try replace hg := HG.out hg); (try dsimp only at hg); (try (have _h : True := hg; clear _h hg)); first | (exfalso; omega) | skip))))
    all_goals first
      | (exfalso; omega)
      | ((refine aw_ret ?_; (repeat (first | refine ret_then ?_ | refine ret_block ?_)); refine bq2 rfl rfl ⟨?_, rfl⟩); rfl)
  obtain ⟨hs, h1, h2, h3⟩ := curves_ok hc
  by_cases hf : fitF s top bottom < 2
  · obtain ⟨he, hv⟩ := most_2 hc hf
    rw [hv, he]
    refine pcalls_of_aw Try.func19 rfl (Nat.le_of_ble_eq_true rfl) ?_
    (repeat' (first | (refine ar_isq ?_; first | refine zmv ?_ | refine zas ?_ | (refine is_load ?_; first | refine zlp ?_ | refine zlr ?_) | (refine is_binOp ?_; first | refine zlss ?_ | refine zneq ?_)) | (refine ar_pcall (own := false) fn56 rfl rfl (.cons (.closed rfl) (.cons (.closed rfl) (.cons (.closed rfl) .nil))) (curves_p s top bottom) (by simp) (dc rfl) ?_; intro _ hv; subst hv) | (refine ar_pcall (own := false) fn58 rfl rfl (.cons (.closed rfl) (.cons (.closed rfl) (.cons (.closed rfl) .nil))) (fit_p s hs top bottom h1 h2 h3) (by simp) (dc rfl) ?_; intro _ hv; subst hv) | (refine zbx ?_) | (refine ar_nil ?_) | (refine aw_seq ?_) | (refine aw_skip ?_) | (refine aw_block ?_) | (refine aw_exit ?_) | (refine aw_region ?_) | (refine zco ?_ ?_ <;> intro hg <;> first | exact absurd hg (by decide) | ((try replace hg := HG.out hg); (try dsimp only at hg); (try (have _h : True := hg; clear _h hg)); first | (exfalso; omega) | skip))))
    all_goals first
      | (exfalso; omega)
      | ((refine aw_ret ?_; (repeat (first | refine ret_then ?_ | refine ret_block ?_)); refine bq2 rfl rfl ⟨?_, rfl⟩); rfl)
  · obtain ⟨he, hv⟩ := most_3 hc hf
    rw [hv, he]
    refine pcalls_of_aw Try.func19 rfl (Nat.le_of_ble_eq_true rfl) ?_
    (repeat' (first | (refine ar_isq ?_; first | refine zmv ?_ | refine zas ?_ | (refine is_load ?_; first | refine zlp ?_ | refine zlr ?_) | (refine is_binOp ?_; first | refine zlss ?_ | refine zneq ?_)) | (refine ar_pcall (own := false) fn56 rfl rfl (.cons (.closed rfl) (.cons (.closed rfl) (.cons (.closed rfl) .nil))) (curves_p s top bottom) (by simp) (dc rfl) ?_; intro _ hv; subst hv) | (refine ar_pcall (own := false) fn58 rfl rfl (.cons (.closed rfl) (.cons (.closed rfl) (.cons (.closed rfl) .nil))) (fit_p s hs top bottom h1 h2 h3) (by simp) (dc rfl) ?_; intro _ hv; subst hv) | (refine zbx ?_) | (refine ar_nil ?_) | (refine aw_seq ?_) | (refine aw_skip ?_) | (refine aw_block ?_) | (refine aw_exit ?_) | (refine aw_region ?_) | (refine zco ?_ ?_ <;> intro hg <;> first | exact absurd hg (by decide) | ((try replace hg := HG.out hg); (try dsimp only at hg); (try (have _h : True := hg; clear _h hg)); first | (exfalso; omega) | skip))))
    all_goals first
      | (exfalso; omega)
      | ((refine aw_ret ?_; (repeat (first | refine ret_then ?_ | refine ret_block ?_)); refine bq2 rfl rfl ⟨?_, rfl⟩); rfl)
end Go.Proofs.Ytccidiflnmchiaa
namespace Go.Proofs.Ytccidiflnmchiaa
open Go.ChangeShapes Go.WideShapes Go.ChangeAt Go.RowKit Go.Deep
theorem own_knob : ownKnob Try.prog.godebug = none := by kernel_rfl
/-- All memory avs it stands. -/
def snap (w : World) : Imm := fun b => w.heap[b]?
section
variable {P : Program} {H : Type} {enc : TypeId × Value → H} {w : World} {base : Nat} {spare : Nat → Bool} {held : Bool} {r : Reach} {b0 : Nat} {v : Value} {d : DataW H} {p : List MemPlace} {t e : TypeId}
theorem rels_nil {I : Imm} : VRels I [] [] #[] := ⟨rfl, fun j v u h => by simp at h⟩
end
end Go.Proofs.Ytccidiflnmchiaa
namespace Go.Proofs.Ytccidiflnmchiaa
open Go.ChangeShapes Go.WideShapes Go.ChangeAt Go.RowKit Go.Deep
structure Screen where
  period : Int
  phase : Int
def Screen.enc (s : Screen) : V := .agg [vi s.period, vi s.phase]
end Go.Proofs.Ytccidiflnmchiaa
