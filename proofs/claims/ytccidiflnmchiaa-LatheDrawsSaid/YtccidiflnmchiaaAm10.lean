/- Calls that write nothing; telling what is known in other words. No condition. -/
import Derived.Test.YtccidiflnmchiaaAm9
namespace Go.Proofs.Ytccidiflnmchiaa
open Go.RowKit

/-- An argument as the contract has it: as it is; or, if own rows may be lent ('own'), a row of ours as a slice that nobody writes. -/
inductive ArgOk (own : Bool) (H : Heap) : V → V → Prop
  | closed {v} (h : v.closed = true) : ArgOk own H v v
  | ext {sz n f g} (hg : ∀ k, k < n → g k = f k) : ArgOk own H (.list sz n f) (.list sz n g)
  | nil {sz g} : ArgOk own H (.s (.slice none 0 0)) (.list sz 0 g)
  | emp {sz g} : ArgOk own H .emp (.list sz 0 g)
  | lent {sz b i n N f g} (ho : own = true) (hb : H[b]? = some (.arr sz N f)) (hN : i + n ≤ N) (hc : ∀ k, k < N → V.closed.all (f k).cells = true) (hg : ∀ k, k < n → g k = f (i + k)) : ArgOk own H (.sl sz b i n) (.list sz n g)
inductive ArgsOk (own : Bool) (H : Heap) : List V → List V → Prop
  | nil : ArgsOk own H [] []
  | cons {v v' l l'} (h : ArgOk own H v v') (k : ArgsOk own H l l') : ArgsOk own H (v :: l) (v' :: l')

section
variable {X : Ctx} {I I' J : Imm} {ρ : List (Option (Nat × Nat))} {H : Heap} {w w' : World}
theorem VRel.ext {σ : List (Option (Nat × Nat))} {sz n : Nat} {f g : Nat → V} {u : Value} (h : VRel I ρ (.list sz n f) u) (hg : ∀ k, k < n → g k = f k) : VRel I σ (.list sz n g) u := by
  obtain ⟨A, c, us, rfl, hc, hm, hl, hsz, hv⟩ := h.list_inv
  exact .list hc hm hl (fun i hi => by rw [hg i hi]; exact hsz i hi) (fun i j v hi hj => by rw [hg i hi] at hj; exact hv i j v hi hj)
theorem VRel.none_list {σ : List (Option (Nat × Nat))} {sz : Nat} {g : Nat → V} (A : Option Addr) : VRel I σ (.list sz 0 g) (.slice A 0 0) :=
  .list (us := fun _ _ => undef) (Nat.le_refl _) (Nat.zero_le _) (fun h => by omega) (fun i hi => by omega) (fun i j v hi => by omega)
/-- A row of ours that is lent, or let go for good, read as a slice that nobody writes. -/
theorem VRel.lend {σ : List (Option (Nat × Nat))} (hw : WOk X I ρ H w) {sz b i n N : Nat} {f g : Nat → V} {u : Value} (h : VRel I ρ (.sl sz b i n) u) (hb : H[b]? = some (.arr sz N f)) (hN : i + n ≤ N) (hc : ∀ k, k < N → V.closed.all (f k).cells = true) (hg : ∀ k, k < n → g k = f (i + k))
    (hI : I.le J) (hJ : ∀ cb z o, ρ[b]? = some (some (cb, z)) → w.heap[cb]? = some o → J cb = some o) : VRel J σ (.list sz n g) u := by
  rcases h.sl_inv with ⟨cb, z, c, rfl, hρ, hnc, hm, hz⟩ | ⟨A, rfl, _, rfl, rfl⟩
  · obtain ⟨cs, ty, hcs, hcz, hn, hr⟩ := hw.arr _ _ _ _ _ _ hb hρ
    have hsz := hw.size _ _ _ _ hb
    refine .list (us := fun k j => cs.getD (i * sz + (k * sz + j)) undef) hnc hm (fun _ => ⟨cb, i * sz, rfl, fun k hk => ⟨cs, ty, (0, 0), hJ _ _ _ hρ hcs, fun j hj => ?_⟩⟩) (fun k hk => by rw [hg k hk]; exact hsz _ (by omega)) (fun k j v hk hj => ?_)
    · have h1 : (i + k) * sz + sz ≤ N * sz := by rw [← Nat.succ_mul]; exact Nat.mul_le_mul_right _ (by omega)
      rw [Nat.add_mul] at h1
      have h2 : i * sz + (k * sz + j) < cs.size := by omega
      rw [Nat.add_assoc]
      simp [h2]
    · rw [hg k hk] at hj
      obtain ⟨q, h1, h2⟩ := hr (i + k) j v (by omega) hj
      rw [Nat.add_mul, Nat.add_assoc] at h1
      have h3 : i * sz + (k * sz + j) < cs.size := (Array.getElem?_eq_some_iff.1 h1).1
      simp [h3] at h1
      have := (h2.close (closed_all (hc (i + k) (by omega)) hj)).mono hI (Pre.refl _)
      simpa [h3, h1] using this
  · exact .none_list A
/-- What is known, and our own rows as they are just now. -/
noncomputable def withOwn (I : Imm) (H : Heap) (ρ : List (Option (Nat × Nat))) (w : World) : Imm := fun b => open Classical in if Live H ρ b then w.heap[b]? else I b
theorem withOwn_le (hw : WOk X I ρ H w) : I.le (withOwn I H ρ w) := fun b o h => by
  unfold withOwn
  rw [if_neg (fun hl => by rw [hw.apart b hl] at h; cases h)]
  exact h
theorem withOwn_ok (hw : WOk X I ρ H w) (b : Nat) (o : Obj) (h : withOwn I H ρ w b = some o) : w.heap[b]? = some o := by
  unfold withOwn at h
  split at h
  · exact h
  · exact hw.imm b o h
theorem arg_rel (hw : WOk X I ρ H w) {own : Bool} {v v' : V} {u : Value} (h : VRel I ρ v u) (ha : ArgOk own H v v') : VRel (bif own then withOwn I H ρ w else I) [] v' u := by
  have hle : I.le (bif own then withOwn I H ρ w else I) := by cases own; exact Imm.le_refl _; exact withOwn_le hw
  cases ha with
  | closed hc => exact (h.close hc).mono hle (Pre.refl _)
  | ext hg => exact (h.mono hle (Pre.refl _)).ext hg
  | nil => cases h; exact .none_list none
  | emp => cases h; exact .none_list _
  | lent ho hb hN hc hg =>
    subst ho
    refine h.lend hw hb hN hc hg hle fun cb z o h1 h2 => ?_
    show withOwn I H ρ w cb = some o
    unfold withOwn
    rw [if_pos ⟨_, _, hb, by simp, z, h1⟩]
    exact h2
theorem args_rel (hw : WOk X I ρ H w) {own : Bool} : ∀ {vs vs' : List V} {us : List Value}, ArgsOk own H vs vs' → VRels I ρ vs us.toArray → VRels (bif own then withOwn I H ρ w else I) [] vs' us.toArray
  | [], [], us, _, h => ⟨h.1, fun j v u hj => by simp at hj⟩
  | v :: vs, v' :: vs', us, .cons ha1 ha2, h => by
    cases us with
    | nil => have := h.1; simp at this
    | cons u us =>
      have h1 : VRels I ρ vs us.toArray := ⟨by have := h.1; simpa using this, fun j v u hj hu => h.2 (j + 1) v u (by simpa using hj) (by simpa using hu)⟩
      have ih := args_rel hw ha2 h1
      refine ⟨by have := ih.1; simpa using this, fun j x y hj hu => ?_⟩
      cases j with
      | zero => simp at hj hu; subst hj hu; exact arg_rel hw (h.2 0 v u rfl rfl) ha1
      | succ j => exact ih.2 j x y (by simpa using hj) (by simpa using hu)
end

section
variable {P : Program} {r : Option Nat} {m nt : Nat} {env : Env} {H : Heap} {dst : Option Tmp} {ty : TypeId} {pos : String} {after : Array Edge} {guard : Option (Nat × Bool)} {keep : Bool}
/-- A call that writes nothing that was there. With rows of ours lent, it hands back no memory. -/
theorem ls_pcall {own : Bool} {fo : Operand} {args : List Operand} {ats : Array TypeId} {f : FuncId} {first cap vs as : List V} {R : V → Prop} (hfn : FnOk P f) (hf : eo env fo = some (.fn (.func f) first cap)) (hargs : args.mapM (eo env) = some vs)
    (ha : ArgsOk own H (first ++ vs ++ cap) as) (h : PCalls P f as R) (hflat : own = true → ∀ v, R v → v.flat = true) : LS P r m nt keep env H ⟨dst, .call ⟨.value fo, args.toArray, ats⟩, ty, pos, after, guard⟩ (fun v H' => R v ∧ H' = H) NoP := .mk
  fun X I ρ a w next Qx hX hs hk hp => by
    have hw := hs.2.1
    have h1 := eo_rel hs.1 hf
    cases h1' : a.eval fo <;> rw [h1'] at h1 <;> cases h1
    rename_i us ws e1 e2 e3 e4
    have hrel : VRels I ρ (first ++ vs ++ cap) (us ++ (args.map a.eval).toArray ++ ws) := (VRels.append ⟨e1, e2⟩ (evals hs.1 hargs)).append ⟨e3, e4⟩
    have hrel' := args_rel (us := (us ++ (args.map a.eval).toArray ++ ws).toList) hw ha (by rw [Array.toArray_toList]; exact hrel)
    rw [Array.toArray_toList] at hrel'
    refine wpIn_of_run (by simp) (call_run hfn h1' w) ⟨fun h => by simp [Fw, Fence.wide] at h, callsIn_fw.2 ?_⟩
    cases own with
    | false =>
      refine (h.1 I w _ hw.imm hrel').mono fun e w' ⟨v, u, I', hR, he, hv, hle, hI', hn, hb⟩ => ?_
      subst he
      exact hk I' ρ H v u w' ⟨hR, rfl⟩ hle (Pre.refl _) (hw.pure hle hI' hn hb) hv.closed (fun _ => keeps_pure hw hle hb)
    | true =>
      refine (h.1 _ w _ (withOwn_ok hw) hrel').mono fun e w' ⟨v, u, I', hR, he, hv, hle, hI', hn, hb⟩ => ?_
      subst he
      have hI2 : ∀ b o, I b = some o → w'.heap[b]? = some o := fun b o h1 => hI' b o (hle b o (withOwn_le hw b o h1))
      exact hk I ρ H v u w' ⟨hR, rfl⟩ (Imm.le_refl _) (Pre.refl _) (hw.pure (Imm.le_refl _) hI2 (fun _ h1 => .inl h1) hb) (hv.flat (hflat rfl v hR)) (fun _ => keeps_pure hw (Imm.le_refl _) hb)
end

/-! ### In other words -/
inductive VSub (H : Heap) (σ : List (Option Nat)) (fr : Nat → Prop) : V → V → Prop
  | closed {v} (h : v.closed = true) : VSub H σ fr v v
  | sl {sz b b0 i n} (h : σ[b0]? = some (some b)) : VSub H σ fr (.sl sz b i n) (.sl sz b0 i n)
  | ptr {sz b b0 i off} (h : σ[b0]? = some (some b)) : VSub H σ fr (.ptr sz b i off) (.ptr sz b0 i off)
  | map {b b0} (h : σ[b0]? = some (some b)) : VSub H σ fr (.map b) (.map b0)
  | nil {sz b0} (h : σ[b0]? = some none) : VSub H σ fr (.s (.slice none 0 0)) (.sl sz b0 0 0)
  | emp {sz b0} (h : σ[b0]? = some none) : VSub H σ fr .emp (.sl sz b0 0 0)
  | nilList {sz g} : VSub H σ fr (.s (.slice none 0 0)) (.list sz 0 g)
  | empList {sz g} : VSub H σ fr .emp (.list sz 0 g)
  | frz {sz b i n N f g} (hf : fr b) (hb : H[b]? = some (.arr sz N f)) (hN : i + n ≤ N) (hc : ∀ k, k < N → V.closed.all (f k).cells = true) (hg : ∀ k, k < n → g k = f (i + k)) : VSub H σ fr (.sl sz b i n) (.list sz n g)
  | frzPtr {sz b i off N f} (hf : fr b) (hb : H[b]? = some (.arr sz N f)) (hi : i < N) (hc : V.closed.all (f i).cells = true) : VSub H σ fr (.ptr sz b i off) (.ref (f i) off)
  | ext {sz n f g} (hg : ∀ k, k < n → g k = f k) : VSub H σ fr (.list sz n f) (.list sz n g)
  | agg {cs ds : List V} (h : cs.length = ds.length) (hv : ∀ (j : Nat) v x, cs[j]? = some v → ds[j]? = some x → VSub H σ fr v x) : VSub H σ fr (.agg cs) (.agg ds)
  | tup {cs ds : List V} (h : cs.length = ds.length) (hv : ∀ (j : Nat) v x, cs[j]? = some v → ds[j]? = some x → VSub H σ fr v x) : VSub H σ fr (.tup cs) (.tup ds)
  | fn {f} {cs ds es gs : List V} (h : cs.length = ds.length) (hv : ∀ (j : Nat) v x, cs[j]? = some v → ds[j]? = some x → VSub H σ fr v x) (h' : es.length = gs.length) (hv' : ∀ (j : Nat) v x, es[j]? = some v → gs[j]? = some x → VSub H σ fr v x) : VSub H σ fr (.fn f cs es) (.fn f ds gs)
def EnvSub (H : Heap) (σ : List (Option Nat)) (fr : Nat → Prop) (env : Env) : Env → Prop
  | [] => True
  | (t, x) :: l => (∃ v, look env t = some v ∧ VSub H σ fr v x) ∧ EnvSub H σ fr env l
def BSub (H : Heap) (σ : List (Option Nat)) (fr : Nat → Prop) (k : Nat) : Blk → Prop
  | .dead => True
  | .arr sz n g => (∃ b f, σ[k]? = some (some b) ∧ H[b]? = some (.arr sz n f) ∧ ∀ i, i < n → VSub H σ fr (f i) (g i)) ∨ (σ[k]? = some none ∧ n = 0)
  | .map ms => ∃ b ns, σ[k]? = some (some b) ∧ H[b]? = some (.map ns) ∧ ns.length = ms.length ∧ ∀ (i : Nat) x y, ns[i]? = some x → ms[i]? = some y → x.1 = y.1 ∧ VSub H σ fr x.2 y.2
def HSub (H : Heap) (σ : List (Option Nat)) (fr : Nat → Prop) : Nat → Heap → Prop
  | _, [] => True
  | k, b :: l => BSub H σ fr k b ∧ HSub H σ fr (k + 1) l

def relocate (σ : List (Option Nat)) (ρ : List (Option (Nat × Nat))) : List (Option (Nat × Nat)) := σ.map fun | some b => (ρ[b]?).getD none | none => none
theorem relocate_get {σ : List (Option Nat)} {ρ : List (Option (Nat × Nat))} {k b : Nat} {x : Option (Nat × Nat)} (h : σ[k]? = some (some b)) (hb : ρ[b]? = some x) : (relocate σ ρ)[k]? = some x := by
  simp [relocate, h, hb]
theorem relocate_none {σ : List (Option Nat)} {ρ : List (Option (Nat × Nat))} {k : Nat} (h : σ[k]? = some none) : (relocate σ ρ)[k]? = some none := by
  simp [relocate, h]
theorem relocate_some {σ : List (Option Nat)} {ρ : List (Option (Nat × Nat))} {k : Nat} {x : Nat × Nat} (h : (relocate σ ρ)[k]? = some (some x)) : ∃ b, σ[k]? = some (some b) ∧ ρ[b]? = some (some x) := by
  simp only [relocate, List.getElem?_map] at h
  cases hs : σ[k]? with
  | none => rw [hs] at h; cases h
  | some o =>
    cases o with
    | none => rw [hs] at h; simp at h
    | some b =>
      rw [hs] at h
      simp only [Option.map_some, Option.some.injEq] at h
      refine ⟨b, rfl, ?_⟩
      cases hρ : ρ[b]? with
      | none => rw [hρ] at h; cases h
      | some y => rw [hρ] at h; simp at h; rw [h]
section
variable {X : Ctx} {I J : Imm} {ρ : List (Option (Nat × Nat))} {H : Heap} {w : World} {σ : List (Option Nat)} {fr : Nat → Prop}
theorem VSub.rel (hw : WOk X I ρ H w) (hI : I.le J) (hJ : ∀ b cb z o, fr b → (∃ x : Blk, H[b]? = some x ∧ x ≠ .dead) → ρ[b]? = some (some (cb, z)) → w.heap[cb]? = some o → J cb = some o) {v x : V} (h : VSub H σ fr v x) :
    ∀ {u : Value}, VRel I ρ v u → VRel J (relocate σ ρ) x u := by
  induction h with
  | closed hc => intro u hu; exact ((hu.close hc).mono hI (Pre.refl _)).closed
  | sl h =>
    intro u hu
    rcases hu.sl_inv with ⟨cb, z, c, rfl, hρ, h1, h2, h3⟩ | ⟨A, rfl, hρ, rfl, rfl⟩
    · exact .sl (relocate_get h hρ) h1 h2 h3
    · exact .slNone A (relocate_get h hρ)
  | ptr h =>
    intro u hu
    obtain ⟨cb, z, rfl, hρ⟩ := hu.ptr_inv
    exact .ptr (relocate_get h hρ)
  | map h =>
    intro u hu
    cases hu with
    | map hρ => exact .map (relocate_get h hρ)
  | nil h => intro u hu; cases hu; exact .slNone none (relocate_none h)
  | emp h => intro u hu; cases hu; exact .slNone _ (relocate_none h)
  | nilList => intro u hu; cases hu; exact .none_list none
  | empList => intro u hu; cases hu; exact .none_list _
  | frz hf hb hN hc hg => intro u hu; exact hu.lend hw hb hN hc hg hI fun cb z o h1 h2 => hJ _ cb z o hf ⟨_, hb, by simp⟩ h1 h2
  | frzPtr hf hb hi hc =>
    intro u hu
    rename_i sz b i off N f
    obtain ⟨cb, z, rfl, hρ⟩ := hu.ptr_inv
    obtain ⟨cs, ty, hcs, hz, hn, hr⟩ := hw.arr _ _ _ _ _ _ hb hρ
    have hsz := hw.size _ _ _ _ hb i hi
    refine .ref (us := fun j => cs.getD (i * sz + j) undef) ⟨cs, ty, (0, 0), hJ _ _ _ _ hf ⟨_, hb, by simp⟩ hρ hcs, fun j hj => ?_⟩ fun j x hx => ?_
    · have h1 : i * sz + sz ≤ N * sz := by rw [← Nat.succ_mul]; exact Nat.mul_le_mul_right _ hi
      have h2 : i * sz + j < cs.size := by omega
      simp [h2]
    · obtain ⟨q, h1, h2⟩ := hr i j x hi hx
      rw [show cs.getD (i * sz + j) undef = q by simp [h1]]
      exact (h2.close (closed_all hc hx)).mono hI (Pre.refl _)
  | ext hg => intro u hu; exact (hu.mono hI (Pre.refl _)).ext hg
  | agg h _ ih =>
    intro u hu
    cases hu with
    | agg h1 h2 =>
      refine .agg (h1.trans h) fun j y q hj hq => ?_
      have hlt := (List.getElem?_eq_some_iff.1 hj).1
      rename_i cs ds _ us
      have hlt' : j < cs.length := by omega
      exact ih j cs[j] y (by simp [hlt']) hj (h2 j cs[j] q (by simp [hlt']) hq)
  | tup h _ ih =>
    intro u hu
    cases hu with
    | tup h1 h2 =>
      refine .tup (h1.trans h) fun j y q hj hq => ?_
      have hlt := (List.getElem?_eq_some_iff.1 hj).1
      rename_i cs ds _ us
      have hlt' : j < cs.length := by omega
      exact ih j cs[j] y (by simp [hlt']) hj (h2 j cs[j] q (by simp [hlt']) hq)
  | fn h _ h' _ ih ih' =>
    intro u hu
    rename_i cs ds es gs _ _
    cases hu with
    | fn h1 h2 h3 h4 =>
      exact .fn (h1.trans h) (fun j y q hj hq => by
        have hlt := (List.getElem?_eq_some_iff.1 hj).1
        have hlt' : j < cs.length := by omega
        exact ih j cs[j] y (by simp [hlt']) hj (h2 j cs[j] q (by simp [hlt']) hq)) (h3.trans h') (fun j y q hj hq => by
        have hlt := (List.getElem?_eq_some_iff.1 hj).1
        have hlt' : j < es.length := by omega
        exact ih' j es[j] y (by simp [hlt']) hj (h4 j es[j] q (by simp [hlt']) hq))
theorem VSub.len {v x : V} (h : VSub H σ fr v x) : x.cells.length = v.cells.length := by
  cases h <;> first | rfl | (simp [V.cells]; omega)
theorem envSub_get {env : Env} : ∀ {l : Env} {t : Nat} {x : V}, EnvSub H σ fr env l → look l t = some x → ∃ v, look env t = some v ∧ VSub H σ fr v x
  | [], _, _, _, h => by simp [look] at h
  | (k, y) :: l, t, x, hs, h => by
    rw [look_cons] at h
    split at h
    · rename_i e; subst e; cases h; exact hs.1
    · exact envSub_get hs.2 h
theorem hSub_get : ∀ {l : Heap} {k j : Nat} {b : Blk}, HSub H σ fr k l → l[j]? = some b → BSub H σ fr (k + j) b
  | [], _, _, _, _, h => by simp at h
  | x :: l, k, j, b, hs, h => by
    cases j with
    | zero => simp at h; subst h; exact hs.1
    | succ j => have := hSub_get hs.2 (by simpa using h); rwa [show k + (j + 1) = k + 1 + j by omega]
end
/-- The numbers that we keep: each at most once, none that is let go. -/
def sigmaOk (m : Nat) (σ : List (Option Nat)) (fr : List Nat) : Bool :=
  (List.range m).all (fun k => σ[k]? == some (some k)) && (σ.filterMap id).eraseDups.length == (σ.filterMap id).length && fr.all fun b => !(σ.filterMap id).contains b
theorem filterMap_idx : ∀ {σ : List (Option Nat)} {i : Nat} {b : Nat}, σ[i]? = some (some b) → b ∈ σ.filterMap id
  | _, _, b, h => List.mem_filterMap.2 ⟨some b, List.mem_of_getElem? h, rfl⟩
def Inj (σ : List (Option Nat)) : Prop := ∀ (i j b : Nat), σ[i]? = some (some b) → σ[j]? = some (some b) → i = j
theorem sub_gen {m nt : Nat} {env env0 : Env} {H H0 : Heap} (σ : List (Option Nat)) (fr : List Nat) (hlen : σ.length = H0.length) (hm : ∀ k, k < m → σ[k]? = some (some k)) (hinj : Inj σ) (hfr : ∀ b ∈ fr, some b ∉ σ)
    (he : EnvSub H σ (· ∈ fr) env env0) (hh : HSub H σ (· ∈ fr) 0 H0) : SubOf m nt env H env0 H0 := by
  classical
  refine ⟨?_⟩
  intro X I ρ a w hX ⟨hE, hw, hd⟩
  let frz : Nat → Prop := fun cb => ∃ b z, b ∈ fr ∧ (∃ x : Blk, H[b]? = some x ∧ x ≠ .dead) ∧ ρ[b]? = some (some (cb, z))
  let J : Imm := fun cb => if frz cb then w.heap[cb]? else I cb
  have liveF : ∀ cb, frz cb → Live H ρ cb := fun cb ⟨b, z, _, ⟨x, h1, h2⟩, h3⟩ => ⟨b, x, h1, h2, z, h3⟩
  have hI : I.le J := fun b o h => by
    show (if frz b then w.heap[b]? else I b) = some o
    rw [if_neg (fun hf => by rw [hw.apart b (liveF b hf)] at h; cases h)]
    exact h
  have hJok : ∀ b o, J b = some o → w.heap[b]? = some o := fun b o h => by
    have h : (if frz b then w.heap[b]? else I b) = some o := h
    split at h
    · exact h
    · exact hw.imm b o h
  have hJ : ∀ b cb z o, b ∈ fr → (∃ x : Blk, H[b]? = some x ∧ x ≠ .dead) → ρ[b]? = some (some (cb, z)) → w.heap[cb]? = some o → J cb = some o := fun b cb z o h1 h2 h3 h4 => by
    show (if frz cb then w.heap[cb]? else I cb) = some o
    rw [if_pos ⟨b, z, h1, h2, h3⟩]
    exact h4
  have rel : ∀ {v x : V} {u : Value}, VSub H σ (· ∈ fr) v x → VRel I ρ v u → VRel J (relocate σ ρ) x u := fun h hu => h.rel hw hI hJ hu
  have blk : ∀ (k : Nat) b, H0[k]? = some b → BSub H σ (· ∈ fr) k b := fun k b h => by have := hSub_get hh h; rwa [Nat.zero_add] at this
  have alive : ∀ (k cb z : Nat) b, H0[k]? = some b → b ≠ .dead → (relocate σ ρ)[k]? = some (some (cb, z)) → ∃ b', σ[k]? = some (some b') ∧ (∃ x : Blk, H[b']? = some x ∧ x ≠ .dead) ∧ ρ[b']? = some (some (cb, z)) := by
    intro k cb z b hk hb hρ
    obtain ⟨b', h1, h2⟩ := relocate_some hρ
    refine ⟨b', h1, ?_, h2⟩
    cases b with
    | dead => exact (hb rfl).elim
    | arr sz n g =>
      rcases blk k _ hk with ⟨c, f, h3, h4, _⟩ | ⟨h3, _⟩
      · rw [h1] at h3; cases h3; exact ⟨_, h4, by simp⟩
      · rw [h1] at h3; cases h3
    | map ms =>
      obtain ⟨c, ns, h3, h4, _⟩ := blk k _ hk
      rw [h1] at h3; cases h3; exact ⟨_, h4, by simp⟩
  have live : ∀ cb, Live H0 (relocate σ ρ) cb → Live H ρ cb := fun cb ⟨k, b, h1, h2, z, h3⟩ => by
    obtain ⟨b', _, ⟨x, h5, h6⟩, h7⟩ := alive k cb z b h1 h2 h3
    exact ⟨b', x, h5, h6, z, h7⟩
  refine ⟨J, relocate σ ρ, hI, ⟨hE.1, fun t x hx => ?_⟩, { len := by simp [relocate, hlen], inj := ?_, imm := hJok, apart := ?_, size := ?_, none := ?_, arr := ?_, map := ?_, mine := fun b hb => hw.mine b (live b hb), news := ?_, le := Imm.le_trans hw.le hI, pre := ?_, os := hw.os, tape := hw.tape, out := hw.out, grow := hw.grow, keep := hw.keep }, hd.mono hI⟩
  · obtain ⟨v, h1, h2⟩ := envSub_get he hx
    obtain ⟨h3, h4⟩ := hE.2 t v h1
    exact ⟨h3, rel h2 h4⟩
  · rintro i j b ⟨x, hx, hx'⟩ ⟨y, hy, hy'⟩ z1 z2 h1 h2
    obtain ⟨i', a1, a2, a3⟩ := alive i b z1 x hx hx' h1
    obtain ⟨j', b1, b2, b3⟩ := alive j b z2 y hy hy' h2
    have := hw.inj i' j' b a2 b2 z1 z2 a3 b3
    subst this
    exact hinj i j i' a1 b1
  · rintro cb ⟨k, b, h1, h2, z, h3⟩
    obtain ⟨b', h4, h5, h6⟩ := alive k cb z b h1 h2 h3
    have hl : Live H ρ cb := by obtain ⟨x, h7, h8⟩ := h5; exact ⟨b', x, h7, h8, z, h6⟩
    show (if frz cb then w.heap[cb]? else I cb) = none
    rw [if_neg]
    · exact hw.apart cb hl
    · rintro ⟨c, z', h7, h8, h9⟩
      have := hw.inj b' c cb h5 h8 z z' h6 h9
      subst this
      exact hfr b' h7 (List.mem_of_getElem? h4)
  · intro k sz n g hk i hi
    rcases blk k _ hk with ⟨b, f, h1, h2, h3⟩ | ⟨_, rfl⟩
    · rw [(h3 i hi).len]
      exact hw.size b sz n f h2 i hi
    · omega
  · intro k sz n g hk hρ
    rcases blk k _ hk with ⟨b, f, h1, h2, h3⟩ | ⟨_, rfl⟩
    · cases hb : ρ[b]? with
      | none =>
        have h4 := (List.getElem?_eq_some_iff.1 h2).1
        have h5 := List.getElem?_eq_none_iff.1 hb
        rw [hw.len] at h5
        omega
      | some q =>
        rw [relocate_get h1 hb] at hρ
        cases hρ
        exact hw.none b sz n f h2 hb
    · rfl
  · intro k sz n g cb z hk hρ
    obtain ⟨b', h4, h5, h6⟩ := alive k cb z _ hk (by simp) hρ
    rcases blk k _ hk with ⟨b, f, h1, h2, h3⟩ | ⟨h1, _⟩
    · rw [h4] at h1
      cases h1
      obtain ⟨cs, ty, a1, a2, a3, a4⟩ := hw.arr _ _ _ _ _ _ h2 h6
      refine ⟨cs, ty, a1, a2, a3, fun i j x hi hx => ?_⟩
      have e := h3 i hi
      have cell : ∃ v, (f i).cells[j]? = some v ∧ VSub H σ (· ∈ fr) v x := by
        revert hx
        generalize f i = q at e ⊢
        generalize g i = q' at e ⊢
        intro hx
        cases e with
        | agg h hv =>
          rename_i cs ds
          have hlt := (List.getElem?_eq_some_iff.1 hx).1
          have hlt' : j < cs.length := by simp [V.cells] at hlt; omega
          exact ⟨cs[j], by simp [V.cells, hlt'], hv j _ x (by simp [hlt']) hx⟩
        | closed hc =>
          refine ⟨x, hx, .closed ?_⟩
          cases q <;> simp only [V.cells] at hx <;> first
            | exact closed_all (by simp only [V.closed] at hc; exact hc) hx
            | (cases j <;> simp at hx; subst hx; exact hc)
        | sl h => cases j <;> simp [V.cells] at hx; subst hx; exact ⟨_, rfl, .sl h⟩
        | ptr h => cases j <;> simp [V.cells] at hx; subst hx; exact ⟨_, rfl, .ptr h⟩
        | map h => cases j <;> simp [V.cells] at hx; subst hx; exact ⟨_, rfl, .map h⟩
        | nil h => cases j <;> simp [V.cells] at hx; subst hx; exact ⟨_, rfl, .nil h⟩
        | emp h => cases j <;> simp [V.cells] at hx; subst hx; exact ⟨_, rfl, .emp h⟩
        | nilList => cases j <;> simp [V.cells] at hx; subst hx; exact ⟨_, rfl, .nilList⟩
        | empList => cases j <;> simp [V.cells] at hx; subst hx; exact ⟨_, rfl, .empList⟩
        | frz a b c d e => cases j <;> simp [V.cells] at hx; subst hx; exact ⟨_, rfl, .frz a b c d e⟩
        | frzPtr a b c d => cases j <;> simp [V.cells] at hx; subst hx; exact ⟨_, rfl, .frzPtr a b c d⟩
        | ext a => cases j <;> simp [V.cells] at hx; subst hx; exact ⟨_, rfl, .ext a⟩
        | tup a b => cases j <;> simp [V.cells] at hx; subst hx; exact ⟨_, rfl, .tup a b⟩
        | fn a b c d => cases j <;> simp [V.cells] at hx; subst hx; exact ⟨_, rfl, .fn a b c d⟩
      obtain ⟨v, b1, b2⟩ := cell
      obtain ⟨u, c1, c2⟩ := a4 i j v hi b1
      exact ⟨u, c1, rel b2 c2⟩
    · rw [h4] at h1; cases h1
  · intro k ms hk
    obtain ⟨b, ns, h1, h2, h3, h4⟩ := blk k _ hk
    obtain ⟨cb, h5, es, clk, h6, h7, h8⟩ := hw.map _ _ h2
    refine ⟨cb, relocate_get h1 h5, es, clk, h6, h7.trans h3, fun i e y he hy => ?_⟩
    have hlt : i < ns.length := by have := (List.getElem?_eq_some_iff.1 hy).1; omega
    obtain ⟨c1, c2⟩ := h8 i e ns[i] he (by simp [hlt])
    obtain ⟨d1, d2⟩ := h4 i ns[i] y (by simp [hlt]) hy
    exact ⟨c1.trans d1, rel d2 c2⟩
  · intro b hb
    have hb : (if frz b then w.heap[b]? else I b) ≠ none := hb
    split at hb
    · rename_i hf
      exact .inr (hw.mine b (liveF b hf))
    · exact hw.news b hb
  · intro k x hk
    have hlt : k < m := by rw [← hX]; exact (List.getElem?_eq_some_iff.1 hk).1
    exact relocate_get (hm k hlt) (hw.pre k x hk)
end Go.Proofs.Ytccidiflnmchiaa
