/- A region that draws its order, its operations that only read taken first, the others one after the other: one walk serves every order. No condition. -/
import Derived.Test.YthpbjihnikapoaaBase
import Derived.OrdersHeld
import Derived.Deep.RegionHeld3
namespace Go.Proofs.Ythpbjihnikapoaa
open Go.RowKit

/-- Operations that hand back a value and change nothing. -/
def plainOp : Op → Bool
  | .move _ | .assign _ | .pick .. | .load .. | .binOp .. | .unOp .. | .convert .. | .fieldAddr .. | .field .. | .indexAddr .. | .index .. | .slice .. | .lookup .. | .extract .. | .build .. | .makeInterface .. | .makeFunc .. => true
  | .call c => match c.callee with
    | .builtin .len | .builtin .cap | .builtin .min | .builtin .max => true
    | _ => false
  | _ => false

def isValue : Result Next → Prop
  | .ok (.value _) _ => True
  | .ok _ _ => False
  | .halt _ _ => True

theorem run_value (s : Sem Value) (P : Program) (w : World) : isValue ((do pure (.value (← s)) : Sem Next).run P w) := by
  simp only [Sem.run_bind]
  cases s.run P w <;> simp [Result.andThen, isValue]

theorem run_plain {o : Oper} (h : plainOp o.op = true) (ρ : Operand → Value) (P : Program) (w : World) : isValue ((execOp ρ o).run P w) := by
  obtain ⟨dst, op, ty, pos, after, guard⟩ := o
  cases op <;> simp only [plainOp, Bool.false_eq_true] at h <;> first
    | exact run_value _ P w
    | (simp [execOp, isValue]; done)
    | (simp only [execOp, Sem.run_bind]; generalize Sem.run P (asBool _) w = r; cases r <;> simp [Result.andThen, isValue]; done)
    | skip
  rename_i c
  obtain ⟨callee, args, tys⟩ := c
  cases callee <;> simp only [Bool.false_eq_true] at h
  rename_i b
  cases b <;> simp only [Bool.false_eq_true] at h <;> exact run_value _ P w

section
variable {P : Program} {ops : Array Oper} {md : Region.Mode} {S : World → Prop} {Q : Exit → Act → World → Prop}

theorem yields_of_quiet {o : Oper} {v : Value} {a : Act} (hp : plainOp o.op = true) (hw : Region.wanted o (yielded ops a.tmps) = true) (h : ∀ w, S w → o.quietAt P a S w v) : YieldsIf P ops S o v a := by
  refine .inl ⟨hw, fun w hs => ?_⟩
  have h1 := h w hs
  have h2 := run_plain hp a.eval P w
  unfold Oper.quietAt at h1
  generalize (execOp a.eval o).run P w = r at h1 h2
  cases r with
  | ok n w' =>
    cases n <;> simp only [isValue] at h2
    obtain ⟨e1, e2⟩ := h1
    rw [e1, e2]
  | halt x w' => exact h1.elim

/-- Whatever order is taken from here on; behind every operation but number 'last' the world meets S. -/
def wpAnyS (P : Program) (md : Region.Mode) (ops : Array Oper) (Q : Exit → Act → World → Prop) (S : World → Prop) (last : Nat) : Nat → Array Bool → Act → World → Prop
  | 0, listed, a, w => Region.ready md ops listed = [] ∧ Q .normal a w
  | fuel + 1, listed, a, w =>
    (Region.ready md ops listed = [] → Q .normal a w) ∧
    ∀ i ∈ Region.ready md ops listed, wpOp P ops Q i (fun a' w' => (i ≠ last → S w') ∧ wpAnyS P md ops Q S last fuel (listed.setIfInBounds i true) a' w') a w

theorem wpAny_of_S {last : Nat} : ∀ (fuel : Nat) (listed : Array Bool) (a : Act) (w : World), wpAnyS P md ops Q S last fuel listed a w → wpAny P md ops Q fuel listed a w
  | 0, _, _, _, h => h
  | fuel + 1, _, _, _, h => ⟨h.1, fun i hi => wpOp_mono (fun a' w' h' => wpAny_of_S fuel _ a' w' h'.2) (h.2 i hi)⟩

/-- Operation 'last' waits for operation 'i'. -/
def waitsFor (md : Region.Mode) (ops : Array Oper) (last i : Nat) : Bool :=
  match ops[last]? with
  | some o => o.after.any fun e => Region.binds md e && e.on == i
  | none => false

theorem first_S {last i : Nat} {oi : Oper} {v : Value} (hi : ops[i]? = some oi) (hsel : Region.noSelect ops = true)
    (hQ : ∀ c a w, Q (.panic c) (a.put oi.dst v) w → Q (.panic c) a w) (hl : (waitsFor md ops last i || last == ops.size) = true) :
    ∀ (fuel : Nat) (listed : Array Bool) (a : Act) (w : World),
      (∀ j oj, ops[j]? = some oj → j ≠ i → listed.getD j true = false → (∀ e ∈ oj.after, Region.binds md e = true → e.on ≠ i) → oi.apart ops oj = true) →
      i ∈ Region.ready md ops listed → YieldsIf P ops S oi v a → S w →
      wpAnyS P md ops Q S last fuel (listed.setIfInBounds i true) (a.put oi.dst v) w → wpAnyS P md ops Q S last (fuel + 1) listed a w := by
  intro fuel
  induction fuel with
  | zero =>
    intro listed a w _ hr hy hS H
    refine ⟨fun h => (by rw [h] at hr; cases hr), fun j hj => ?_⟩
    by_cases hji : j = i
    · subst hji; exact hy.wpOp hi hS ⟨fun _ => hS, H⟩
    · have := ready_mono hj hji
      rw [H.1] at this
      cases this
  | succ fuel ih =>
    intro listed a w hfree hr hy hS H
    refine ⟨fun h => (by rw [h] at hr; cases hr), fun j hj => ?_⟩
    by_cases hji : j = i
    · subst hji; exact hy.wpOp hi hS ⟨fun _ => hS, H⟩
    · have h1 := H.2 j (ready_mono hj hji)
      obtain ⟨hjun, oj, hoj, hall⟩ := mem_ready.1 hj
      have hnot : ∀ e ∈ oj.after, Region.binds md e = true → e.on ≠ i := fun e he hb heq => by
        have h1 := hall e he hb
        have h0 := (mem_ready.1 hr).1
        rw [heq] at h1
        rcases Nat.lt_or_ge i listed.size with h' | h'
        · simp [h'] at h0 h1; rw [h0] at h1; cases h1
        · simp [Array.getElem?_eq_none h'] at h1
      have hjl : j ≠ last := by
        rintro rfl
        have hjs : j < ops.size := (Array.getElem?_eq_some_iff.1 hoj).1
        rw [Bool.or_eq_true] at hl
        rcases hl with hl | hl
        · simp only [waitsFor, hoj, Array.any_eq_true', Bool.and_eq_true, beq_iff_eq] at hl
          obtain ⟨e, he, hb, hon⟩ := hl
          exact hnot e he hb hon
        · rw [beq_iff_eq] at hl; omega
      have h2 := wpOp_putIf hoj (hfree j oj hoj hji hjun hnot) (fun cs b => Region.noSelect_spec hsel i oi cs b hi) (fun cs b => Region.noSelect_spec hsel j oj cs b hoj) hQ hy h1
      have hfree' : ∀ k ok, ops[k]? = some ok → k ≠ i → (listed.setIfInBounds j true).getD k true = false →
          (∀ e ∈ ok.after, Region.binds md e = true → e.on ≠ i) → oi.apart ops ok = true := fun k ok hk hki hun hno => by
        refine hfree k ok hk hki ?_ hno
        by_cases hjk : j = k
        · subst hjk; exact hjun
        · rw [getD_set_ne true hjk] at hun; exact hun
      refine wpOp_mono (fun a' w' h3 => ⟨fun _ => h3.2.1 hjl, ih (listed.setIfInBounds j true) a' w' hfree' (ready_mono hr (Ne.symm hji)) h3.1 (h3.2.1 hjl) ?_⟩) h2
      rw [Array.setIfInBounds_comm _ _ hji]
      exact h3.2.2

/-- The walk: some operations that only read, then one other; and so on. -/
def wpMix (P : Program) (ops : Array Oper) (S : World → Prop) (strict : Bool) (Q : Exit → Act → World → Prop) : List (List Oper × Oper) → Act → World → Prop
  | [], a, w => Q .normal a w
  | (qs, l) :: rest, a, w => wpQuiet P ops S (fun a' => wpList P ops (Exit.then (fun a'' w'' => ((rest = [] ∧ strict = false) ∨ S w'') ∧ wpMix P ops S strict Q rest a'' w'') Q) [l] a' w) qs a

def quietOk (md : Region.Mode) (ops : Array Oper) (last : Nat) : Array Bool → List (Nat × Oper) → Bool
  | _, [] => true
  | listed, (i, o) :: qs => plainOp o.op && (Region.ready md ops listed).contains i && Region.free md ops listed i && (waitsFor md ops last i || last == ops.size) && quietOk md ops last (listed.setIfInBounds i true) qs
def listAll (listed : Array Bool) : List (Nat × Oper) → Array Bool
  | [] => listed
  | (i, _) :: qs => listAll (listed.setIfInBounds i true) qs
def mixOk (md : Region.Mode) (ops : Array Oper) (last : Nat) : Array Bool → List (List (Nat × Oper) × (Nat × Oper)) → Bool
  | listed, [] => (Region.ready md ops listed).isEmpty
  | listed, (qs, (l, _)) :: rest => quietOk md ops last listed qs && (Region.ready md ops (listAll listed qs) == [l]) && (last == ops.size || (rest.isEmpty == (l == last))) && mixOk md ops last ((listAll listed qs).setIfInBounds l true) rest
def fuelOf : List (List (Nat × Oper) × (Nat × Oper)) → Nat
  | [] => 0
  | (qs, _) :: rest => qs.length + (1 + fuelOf rest)
def bare (l : List (List (Nat × Oper) × (Nat × Oper))) : List (List Oper × Oper) := l.map fun x => (x.1.map (·.2), x.2.2)
def named (ops : Array Oper) (l : List (List (Nat × Oper) × (Nat × Oper))) : Prop := ∀ x ∈ l, (∀ y ∈ x.1, ops[y.1]? = some y.2) ∧ ops[x.2.1]? = some x.2.2

theorem wanted_step {o : Oper} {rest : List Oper} {a : Act} {K : Act → Prop} (h : wpQuiet P ops S K (o :: rest) a) (hp : plainOp o.op = true) :
    ∃ v, YieldsIf P ops S o v a ∧ wpQuiet P ops S K rest (a.put o.dst v) := by
  unfold wpQuiet at h
  by_cases hw : Region.wanted o (yielded ops a.tmps) = true
  · rw [if_pos hw] at h
    obtain ⟨v, h1, h2⟩ := h
    exact ⟨v, yields_of_quiet hp hw h1, h2⟩
  · rw [if_neg hw] at h
    exact ⟨undef, .inr ⟨by simpa using hw, rfl⟩, h⟩

theorem quiets_S {last : Nat} (hsel : Region.noSelect ops = true) (hQ : ∀ c a d v w, Q (.panic c) (a.put d v) w → Q (.panic c) a w) (fuel : Nat) :
    ∀ (qs : List (Nat × Oper)) (listed : Array Bool) (a : Act) (w : World) (K : Act → Prop), (∀ y ∈ qs, ops[y.1]? = some y.2) → quietOk md ops last listed qs = true → S w →
      wpQuiet P ops S K (qs.map (·.2)) a → (∀ a', K a' → wpAnyS P md ops Q S last fuel (listAll listed qs) a' w) → wpAnyS P md ops Q S last (qs.length + fuel) listed a w
  | [], listed, a, w, K, _, _, _, h, hK => by simpa [listAll] using hK a h
  | (i, o) :: qs, listed, a, w, K, hn, hok, hS, h, hK => by
    simp only [quietOk, Bool.and_eq_true] at hok
    obtain ⟨⟨⟨⟨hp, hr⟩, hf⟩, hl⟩, hok'⟩ := hok
    have hi : ops[i]? = some o := hn (i, o) (by simp)
    obtain ⟨v, hy, h'⟩ := wanted_step h hp
    have := first_S (v := v) hi hsel (fun c a w => hQ c a o.dst v w) hl (qs.length + fuel) listed a w (Region.free_spec hi hf) (by simpa using hr) hy hS
      (quiets_S hsel hQ fuel qs _ _ w K (fun y hy => hn y (by simp [hy])) hok' hS h' hK)
    rwa [List.length_cons, Nat.add_right_comm]

theorem mix_S {last : Nat} {strict : Bool} (hst : strict = true → last = ops.size) (hst' : strict = false → last ≠ ops.size) (hsel : Region.noSelect ops = true) (hQ : ∀ c a d v w, Q (.panic c) (a.put d v) w → Q (.panic c) a w) (hO : ¬ LetsOut Q ∨ True) :
    ∀ (l : List (List (Nat × Oper) × (Nat × Oper))) (listed : Array Bool) (a : Act) (w : World), named ops l → mixOk md ops last listed l = true → (l = [] ∨ S w) →
      wpMix P ops S strict Q (bare l) a w → wpAnyS P md ops Q S last (fuelOf l) listed a w
  | [], listed, a, w, _, hok, _, h => ⟨by simpa [mixOk] using hok, h⟩
  | (qs, (k, o)) :: rest, listed, a, w, hn, hok, hS, h => by
    simp only [mixOk, Bool.and_eq_true, beq_iff_eq] at hok
    obtain ⟨⟨⟨hq, hr⟩, hlast⟩, hok'⟩ := hok
    have hS' : S w := by simpa using hS
    have hnx := hn (qs, (k, o)) (by simp)
    have hk : ops[k]? = some o := hnx.2
    refine quiets_S hsel hQ (1 + fuelOf rest) qs listed a w _ hnx.1 hq hS' h (fun a' h' => ?_)
    rw [Nat.add_comm 1]
    refine ⟨fun h0 => (by rw [hr] at h0; cases h0), fun j hj => ?_⟩
    rw [hr] at hj
    obtain rfl : j = k := by simpa using hj
    have step : ∀ a'' w'', ((((bare rest) = [] ∧ strict = false) ∨ S w'') ∧ wpMix P ops S strict Q (bare rest) a'' w'') → ((j ≠ last → S w'') ∧ wpAnyS P md ops Q S last (fuelOf rest) ((listAll listed qs).setIfInBounds j true) a'' w'') := by
      intro a'' w'' ⟨h1, h2⟩
      have hb : bare rest = [] ↔ rest = [] := by simp [bare]
      refine ⟨fun hne => ?_, mix_S hst hst' hsel hQ hO rest _ a'' w'' (fun x hx => hn x (by simp [hx])) hok' (h1.imp (fun h => hb.1 h.1) id) h2⟩
      rcases h1 with h1 | h1
      · rw [hb.1 h1.1] at hlast
        have h3 : (last == ops.size) = false := by simpa using hst' h1.2
        rw [h3, Bool.false_or, beq_iff_eq] at hlast
        have : (j == last) = true := by rw [← hlast]; rfl
        exact absurd (by simpa using this) hne
      · exact h1
    unfold wpOp
    simp only [hk]
    have h'' : wpList P ops (Exit.then (fun a'' w'' => (((bare rest) = [] ∧ strict = false) ∨ S w'') ∧ wpMix P ops S strict Q (bare rest) a'' w'') Q) [o] a' w := h'
    simp only [wpList] at h''
    by_cases hw : Region.wanted o (yielded ops a'.tmps) = true
    · rw [if_pos hw] at h'' ⊢
      rcases h'' with h'' | ⟨h1, h2⟩
      · left
        have key : ∀ (R : Result Next), o.upon P a' (wpList P ops (Exit.then (fun a'' w'' => (((bare rest) = [] ∧ strict = false) ∨ S w'') ∧ wpMix P ops S strict Q (bare rest) a'' w'') Q) []) (Exit.then (fun a'' w'' => (((bare rest) = [] ∧ strict = false) ∨ S w'') ∧ wpMix P ops S strict Q (bare rest) a'' w'') Q) R →
            o.upon P a' (fun a'' w'' => (j ≠ last → S w'') ∧ wpAnyS P md ops Q S last (fuelOf rest) ((listAll listed qs).setIfInBounds j true) a'' w'') Q R := by
          intro R hR
          cases R with
          | ok n w' =>
            cases n <;> simp only [Oper.upon] at hR ⊢ <;> first
              | exact step _ _ hR
              | exact Calls.mono hR (fun e w'' he => by cases e <;> first | exact step _ _ he | exact he)
              | exact Rows.mono hR (fun _ _ he => step _ _ he)
          | halt x w' => cases x <;> simp only [Oper.upon] at hR ⊢ <;> exact hR
        exact key _ h''
      · right
        obtain ⟨a1, w1, h3⟩ := h2
        exact ⟨h1, a1, w1, h3⟩
    · rw [if_neg hw] at h'' ⊢
      exact step _ _ h''

def opAt : List Oper → Nat → Oper
  | [], _ => default
  | o :: _, 0 => o
  | _ :: l, n + 1 => opAt l n
def fullOrd (l : List Oper) (ord : List (List Nat × Nat)) : List (List (Nat × Oper) × (Nat × Oper)) := ord.map fun x => (x.1.map fun i => (i, opAt l i), (x.2, opAt l x.2))
def segs (l : List Oper) (ord : List (List Nat × Nat)) : List (List Oper × Oper) := ord.map fun x => (x.1.map (opAt l), opAt l x.2)
theorem bare_full (l : List Oper) (ord : List (List Nat × Nat)) : bare (fullOrd l ord) = segs l ord := by
  simp [bare, fullOrd, segs]
def namedB (n : Nat) (ord : List (List Nat × Nat)) : Bool := ord.all fun x => x.1.all (fun i => decide (i < n)) && decide (x.2 < n)
theorem opAt_get (l : List Oper) : ∀ i, i < l.length → l[i]? = some (opAt l i) := by
  induction l with
  | nil => intro i h; simp at h
  | cons o l ih =>
    intro i h
    cases i with
    | zero => rfl
    | succ i => simpa [opAt] using ih i (by simpa using h)
def lastOf (strict : Bool) (l : List Oper) (ord : List (List Nat × Nat)) : Nat := if strict then l.length else (ord.getLast?.map (·.2)).getD 0
def ordOk (md : Region.Mode) (strict : Bool) (l : List Oper) (ord : List (List Nat × Nat)) : Bool :=
  namedB l.length ord && Region.noSelect l.toArray && (strict || decide (lastOf strict l ord < l.length)) && mixOk md l.toArray (lastOf strict l ord) (Array.replicate l.toArray.size false) (fullOrd l ord) && (fuelOf (fullOrd l ord) == l.length)

theorem region_mix {l : List Oper} {id : Nat} {a : Act} {w : World} (strict : Bool) (ord : List (List Nat × Nat)) (hm : P.follows .mixedOrders = true) (hB : ordOk .any strict l ord = true)
    (hQ : ∀ c a d v w, Q (.panic c) (a.put d v) w → Q (.panic c) a w) (hS : ord = [] ∨ S { w with drawn := w.drawn + 1 })
    (h : wpMix P l.toArray S strict Q (segs l ord) a { w with drawn := w.drawn + 1 }) : (Code.region id l.toArray true).wp P Q a w := by
  simp only [ordOk, Bool.and_eq_true, beq_iff_eq] at hB
  obtain ⟨⟨⟨⟨hn, hsel⟩, hlt⟩, hok⟩, hf⟩ := hB
  refine wp_region_any hm ?_
  rw [show l.toArray.size = l.length from rfl, ← hf]
  refine wpAny_of_S (S := S) (last := lastOf strict l ord) _ _ _ _ (mix_S (strict := strict) (fun h => by simp [lastOf, h]) (fun h => by rw [h] at hlt; simp only [Bool.false_or, decide_eq_true_eq] at hlt; rw [h]; show _ ≠ l.length; omega) hsel hQ (.inr trivial) (fullOrd l ord) _ a _ ?_ ?_ ?_ ?_)
  · intro x hx
    simp only [fullOrd, List.mem_map] at hx
    obtain ⟨y, hy, rfl⟩ := hx
    simp only [namedB, List.all_eq_true, Bool.and_eq_true, decide_eq_true_eq] at hn
    have := hn y hy
    refine ⟨fun z hz => ?_, by simpa using opAt_get l y.2 this.2⟩
    simp only [List.mem_map] at hz
    obtain ⟨i, hi, rfl⟩ := hz
    simpa using opAt_get l i (this.1 i hi)
  · rw [hf]; exact hok
  · exact hS.imp (fun h => by simp [h, fullOrd]) (fun h => h)
  · rw [bare_full]; exact h

/-- In a region where nothing panics. -/
theorem region_mix_np {l : List Oper} {id : Nat} {a : Act} {w : World} (strict : Bool) (ord : List (List Nat × Nat)) (hm : P.follows .mixedOrders = true) (hB : ordOk .any strict l ord = true)
    (hS : S { w with drawn := w.drawn + 1 })
    (h : wpMix P l.toArray S strict (NoPanic Q) (segs l ord) a { w with drawn := w.drawn + 1 }) : (Code.region id l.toArray true).wp P Q a w :=
  wp_region_noPanic (region_mix (S := S) strict ord hm hB (fun _ _ _ _ _ h => h) (.inr hS) h)
/-- From a world with more blocks on: every world of the walk has more blocks. -/
theorem region_mix1 {l : List Oper} {id : Nat} {a : Act} {w : World} {g : Grow} (strict : Bool) (ord : List (List Nat × Nat)) (hm : P.follows .mixedOrders = true) (hB : ordOk .any strict l ord = true)
    (h : wpMix P l.toArray (fun w' => ∃ g, w' = more w g) strict (NoPanic Q) (segs l ord) a (more w (g.draws 1))) : (Code.region id l.toArray true).wp P Q a (more w g) :=
  region_mix_np (S := fun w' => ∃ g, w' = more w g) strict ord hm hB ⟨g.draws 1, rfl⟩ h
theorem region_mix0 {l : List Oper} {id : Nat} {a : Act} {w : World} (strict : Bool) (ord : List (List Nat × Nat)) (hm : P.follows .mixedOrders = true) (hB : ordOk .any strict l ord = true)
    (h : wpMix P l.toArray (fun w' => ∃ g, w' = more w g) strict (NoPanic Q) (segs l ord) a w.drew) : (Code.region id l.toArray true).wp P Q a w :=
  region_mix_np (S := fun w' => ∃ g, w' = more w g) strict ord hm hB (Ext.drew (Ext.refl w)) h
end
end Go.Proofs.Ythpbjihnikapoaa
