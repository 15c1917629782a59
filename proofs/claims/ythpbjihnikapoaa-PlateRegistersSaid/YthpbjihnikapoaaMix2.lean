/- A region that draws its order: operations that only read, then one that changes what they read, then the rest. No condition. -/
import Derived.Test.YthpbjihnikapoaaMix
namespace Go.Proofs.Ythpbjihnikapoaa
open Go.RowKit
section
variable {P : Program} {ops : Array Oper} {md : Region.Mode} {S S2 : World → Prop} {last2 : Nat} {Q : Exit → Act → World → Prop}

/-- Whatever order is taken; until operation 'last' has run, the world meets S. -/
def wpAnyB (P : Program) (md : Region.Mode) (ops : Array Oper) (Q : Exit → Act → World → Prop) (S S2 : World → Prop) (last last2 : Nat) : Nat → Array Bool → Act → World → Prop
  | 0, listed, a, w => Region.ready md ops listed = [] ∧ Q .normal a w
  | fuel + 1, listed, a, w =>
    (Region.ready md ops listed = [] → Q .normal a w) ∧
    ∀ i ∈ Region.ready md ops listed, wpOp P ops Q i (fun a' w' => (i = last ∧ S2 w' ∧ wpAnyS P md ops Q S2 last2 fuel (listed.setIfInBounds i true) a' w') ∨ (i ≠ last ∧ S w' ∧ wpAnyB P md ops Q S S2 last last2 fuel (listed.setIfInBounds i true) a' w')) a w

theorem wpAny_of_B {last : Nat} : ∀ (fuel : Nat) (listed : Array Bool) (a : Act) (w : World), wpAnyB P md ops Q S S2 last last2 fuel listed a w → wpAny P md ops Q fuel listed a w
  | 0, _, _, _, h => h
  | fuel + 1, _, _, _, h => ⟨h.1, fun i hi => wpOp_mono (fun a' w' h' => h'.elim (fun h => wpAny_of_S _ _ _ _ h.2.2) (fun h' => wpAny_of_B fuel _ a' w' h'.2.2)) (h.2 i hi)⟩

theorem first_B {last i : Nat} {oi : Oper} {v : Value} (hi : ops[i]? = some oi) (hsel : Region.noSelect ops = true)
    (hQ : ∀ c a w, Q (.panic c) (a.put oi.dst v) w → Q (.panic c) a w) (hne : i ≠ last) (hl : waitsFor md ops last i = true) :
    ∀ (fuel : Nat) (listed : Array Bool) (a : Act) (w : World),
      (∀ j oj, ops[j]? = some oj → j ≠ i → listed.getD j true = false → (∀ e ∈ oj.after, Region.binds md e = true → e.on ≠ i) → oi.apart ops oj = true) →
      i ∈ Region.ready md ops listed → YieldsIf P ops S oi v a → S w →
      wpAnyB P md ops Q S S2 last last2 fuel (listed.setIfInBounds i true) (a.put oi.dst v) w → wpAnyB P md ops Q S S2 last last2 (fuel + 1) listed a w := by
  intro fuel
  induction fuel with
  | zero =>
    intro listed a w _ hr hy hS H
    refine ⟨fun h => (by rw [h] at hr; cases hr), fun j hj => ?_⟩
    by_cases hji : j = i
    · subst hji; exact hy.wpOp hi hS (.inr ⟨hne, hS, H⟩)
    · have := ready_mono hj hji
      rw [H.1] at this
      cases this
  | succ fuel ih =>
    intro listed a w hfree hr hy hS H
    refine ⟨fun h => (by rw [h] at hr; cases hr), fun j hj => ?_⟩
    by_cases hji : j = i
    · subst hji; exact hy.wpOp hi hS (.inr ⟨hne, hS, H⟩)
    · have h1 := H.2 j (ready_mono hj hji)
      obtain ⟨hjun, oj, hoj, hall⟩ := mem_ready.1 hj
      have hnot : ∀ e ∈ oj.after, Region.binds md e = true → e.on ≠ i := fun e he hb heq => by
        have h1 := hall e he hb
        have h0 := (mem_ready.1 hr).1
        rw [heq] at h1
        rcases Nat.lt_or_ge i listed.size with h' | h'
        · simp [h'] at h0 h1; rw [h0] at h1; cases h1
        · simp [Array.getElem?_eq_none h'] at h1
      have hjl : j ≠ last := by
        rintro rfl
        simp only [waitsFor, hoj, Array.any_eq_true', Bool.and_eq_true, beq_iff_eq] at hl
        obtain ⟨e, he, hb, hon⟩ := hl
        exact hnot e he hb hon
      have h2 := wpOp_putIf hoj (hfree j oj hoj hji hjun hnot) (fun cs b => Region.noSelect_spec hsel i oi cs b hi) (fun cs b => Region.noSelect_spec hsel j oj cs b hoj) hQ hy h1
      have hfree' : ∀ k ok, ops[k]? = some ok → k ≠ i → (listed.setIfInBounds j true).getD k true = false →
          (∀ e ∈ ok.after, Region.binds md e = true → e.on ≠ i) → oi.apart ops ok = true := fun k ok hk hki hun hno => by
        refine hfree k ok hk hki ?_ hno
        by_cases hjk : j = k
        · subst hjk; exact hjun
        · rw [getD_set_ne true hjk] at hun; exact hun
      refine wpOp_mono (fun a' w' h3 => ?_) h2
      obtain ⟨h4, h3⟩ := h3
      rcases h3 with h3 | h3
      · exact absurd h3.1 hjl
      · refine .inr ⟨h3.1, h3.2.1, ih (listed.setIfInBounds j true) a' w' hfree' (ready_mono hr (Ne.symm hji)) h4 h3.2.1 ?_⟩
        rw [Array.setIfInBounds_comm _ _ hji]
        exact h3.2.2

theorem first_C {last i : Nat} {oi : Oper} {v : Value} (hi : ops[i]? = some oi) (hsel : Region.noSelect ops = true)
    (hQ : ∀ c a w, Q (.panic c) (a.put oi.dst v) w → Q (.panic c) a w) (hne : i ≠ last) (h12 : ∀ w, S w → S2 w) (hl : (waitsFor md ops last2 i || last2 == ops.size) = true) :
    ∀ (fuel : Nat) (listed : Array Bool) (a : Act) (w : World),
      (∀ j oj, ops[j]? = some oj → j ≠ i → listed.getD j true = false → (∀ e ∈ oj.after, Region.binds md e = true → e.on ≠ i) → oi.apart ops oj = true) →
      i ∈ Region.ready md ops listed → YieldsIf P ops S2 oi v a → S w →
      wpAnyB P md ops Q S S2 last last2 fuel (listed.setIfInBounds i true) (a.put oi.dst v) w → wpAnyB P md ops Q S S2 last last2 (fuel + 1) listed a w := by
  intro fuel
  induction fuel with
  | zero =>
    intro listed a w _ hr hy hS H
    refine ⟨fun h => (by rw [h] at hr; cases hr), fun j hj => ?_⟩
    by_cases hji : j = i
    · subst hji; exact hy.wpOp hi (h12 _ hS) (.inr ⟨hne, hS, H⟩)
    · have := ready_mono hj hji
      rw [H.1] at this
      cases this
  | succ fuel ih =>
    intro listed a w hfree hr hy hS H
    refine ⟨fun h => (by rw [h] at hr; cases hr), fun j hj => ?_⟩
    by_cases hji : j = i
    · subst hji; exact hy.wpOp hi (h12 _ hS) (.inr ⟨hne, hS, H⟩)
    · have h1 := H.2 j (ready_mono hj hji)
      obtain ⟨hjun, oj, hoj, hall⟩ := mem_ready.1 hj
      have hnot : ∀ e ∈ oj.after, Region.binds md e = true → e.on ≠ i := fun e he hb heq => by
        have h1 := hall e he hb
        have h0 := (mem_ready.1 hr).1
        rw [heq] at h1
        rcases Nat.lt_or_ge i listed.size with h' | h'
        · simp [h'] at h0 h1; rw [h0] at h1; cases h1
        · simp [Array.getElem?_eq_none h'] at h1
      have h2 := wpOp_putIf hoj (hfree j oj hoj hji hjun hnot) (fun cs b => Region.noSelect_spec hsel i oi cs b hi) (fun cs b => Region.noSelect_spec hsel j oj cs b hoj) hQ hy h1
      have hfree' : ∀ k ok, ops[k]? = some ok → k ≠ i → (listed.setIfInBounds j true).getD k true = false →
          (∀ e ∈ ok.after, Region.binds md e = true → e.on ≠ i) → oi.apart ops ok = true := fun k ok hk hki hun hno => by
        refine hfree k ok hk hki ?_ hno
        by_cases hjk : j = k
        · subst hjk; exact hjun
        · rw [getD_set_ne true hjk] at hun; exact hun
      refine wpOp_mono (fun a' w' h3 => ?_) h2
      obtain ⟨h4, h3⟩ := h3
      rcases h3 with h3 | h3
      · refine .inl ⟨h3.1, h3.2.1, first_S hi hsel hQ hl fuel (listed.setIfInBounds j true) a' w' hfree' (ready_mono hr (Ne.symm hji)) h4 h3.2.1 ?_⟩
        rw [Array.setIfInBounds_comm _ _ hji]
        exact h3.2.2
      · refine .inr ⟨h3.1, h3.2.1, ih (listed.setIfInBounds j true) a' w' hfree' (ready_mono hr (Ne.symm hji)) h4 h3.2.1 ?_⟩
        rw [Array.setIfInBounds_comm _ _ hji]
        exact h3.2.2

def quietOkB (md : Region.Mode) (ops : Array Oper) (last : Nat) : Array Bool → List (Nat × Oper) → Bool
  | _, [] => true
  | listed, (i, o) :: qs => plainOp o.op && (Region.ready md ops listed).contains i && Region.free md ops listed i && waitsFor md ops last i && i != last && quietOkB md ops last (listed.setIfInBounds i true) qs

theorem quiets_B {last : Nat} (hsel : Region.noSelect ops = true) (hQ : ∀ c a d v w, Q (.panic c) (a.put d v) w → Q (.panic c) a w) (fuel : Nat) :
    ∀ (qs : List (Nat × Oper)) (listed : Array Bool) (a : Act) (w : World) (K : Act → Prop), (∀ y ∈ qs, ops[y.1]? = some y.2) → quietOkB md ops last listed qs = true → S w →
      wpQuiet P ops S K (qs.map (·.2)) a → (∀ a', K a' → wpAnyB P md ops Q S S2 last last2 fuel (listAll listed qs) a' w) → wpAnyB P md ops Q S S2 last last2 (qs.length + fuel) listed a w
  | [], listed, a, w, K, _, _, _, h, hK => by simpa [listAll] using hK a h
  | (i, o) :: qs, listed, a, w, K, hn, hok, hS, h, hK => by
    simp only [quietOkB, Bool.and_eq_true] at hok
    obtain ⟨⟨⟨⟨⟨hp, hr⟩, hf⟩, hl⟩, hne⟩, hok'⟩ := hok
    have hi : ops[i]? = some o := hn (i, o) (by simp)
    obtain ⟨v, hy, h'⟩ := wanted_step h hp
    have := first_B (v := v) hi hsel (fun c a w => hQ c a o.dst v w) (by simpa using hne) hl (qs.length + fuel) listed a w (Region.free_spec hi hf) (by simpa using hr) hy hS
      (quiets_B hsel hQ fuel qs _ _ w K (fun y hy => hn y (by simp [hy])) hok' hS h' hK)
    rwa [List.length_cons, Nat.add_right_comm]

def quietOkC (md : Region.Mode) (ops : Array Oper) (last last2 : Nat) : Array Bool → List (Nat × Oper) → Bool
  | _, [] => true
  | listed, (i, o) :: qs => plainOp o.op && (Region.ready md ops listed).contains i && Region.free md ops listed i && (waitsFor md ops last2 i || last2 == ops.size) && i != last && quietOkC md ops last last2 (listed.setIfInBounds i true) qs

theorem quiets_C {last : Nat} (h12 : ∀ w, S w → S2 w) (hsel : Region.noSelect ops = true) (hQ : ∀ c a d v w, Q (.panic c) (a.put d v) w → Q (.panic c) a w) (fuel : Nat) :
    ∀ (qs : List (Nat × Oper)) (listed : Array Bool) (a : Act) (w : World) (K : Act → Prop), (∀ y ∈ qs, ops[y.1]? = some y.2) → quietOkC md ops last last2 listed qs = true → S w →
      wpQuiet P ops S2 K (qs.map (·.2)) a → (∀ a', K a' → wpAnyB P md ops Q S S2 last last2 fuel (listAll listed qs) a' w) → wpAnyB P md ops Q S S2 last last2 (qs.length + fuel) listed a w
  | [], listed, a, w, K, _, _, _, h, hK => by simpa [listAll] using hK a h
  | (i, o) :: qs, listed, a, w, K, hn, hok, hS, h, hK => by
    simp only [quietOkC, Bool.and_eq_true] at hok
    obtain ⟨⟨⟨⟨⟨hp, hr⟩, hf⟩, hl⟩, hne⟩, hok'⟩ := hok
    have hi : ops[i]? = some o := hn (i, o) (by simp)
    obtain ⟨v, hy, h'⟩ := wanted_step h hp
    have := first_C (v := v) hi hsel (fun c a w => hQ c a o.dst v w) (by simpa using hne) h12 hl (qs.length + fuel) listed a w (Region.free_spec hi hf) (by simpa using hr) hy hS
      (quiets_C h12 hsel hQ fuel qs _ _ w K (fun y hy => hn y (by simp [hy])) hok' hS h' hK)
    rwa [List.length_cons, Nat.add_right_comm]

theorem loud_step {o : Oper} {j : Nat} {K K' : Act → World → Prop} {a : Act} {w : World} (hk : ops[j]? = some o) (h : wpList P ops (Exit.then K Q) [o] a w) (step : ∀ a w, K a w → K' a w) : wpOp P ops Q j K' a w := by
  unfold wpOp
  simp only [hk]
  simp only [wpList] at h
  by_cases hw : Region.wanted o (yielded ops a.tmps) = true
  · rw [if_pos hw] at h ⊢
    rcases h with h | ⟨h1, h2⟩
    · left
      have key : ∀ (R : Result Next), o.upon P a (wpList P ops (Exit.then K Q) []) (Exit.then K Q) R → o.upon P a K' Q R := by
        intro R hR
        cases R with
        | ok n w' =>
          cases n <;> simp only [Oper.upon] at hR ⊢ <;> first
            | exact step _ _ hR
            | exact Calls.mono hR (fun e w'' he => by cases e <;> first | exact step _ _ he | exact he)
            | exact Rows.mono hR (fun _ _ he => step _ _ he)
        | halt x w' => cases x <;> simp only [Oper.upon] at hR ⊢ <;> exact hR
      exact key _ h
    · right
      obtain ⟨a1, w1, h3⟩ := h2
      exact ⟨h1, a1, w1, h3⟩
  · rw [if_neg hw] at h ⊢
    exact step _ _ h

def numbered (l : List Oper) (qs : List Nat) : List (Nat × Oper) := qs.map fun i => (i, opAt l i)
theorem numbered_named {l : List Oper} {qs : List Nat} (h : ∀ i ∈ qs, i < l.length) : ∀ y ∈ numbered l qs, l.toArray[y.1]? = some y.2 := fun y hy => by
  simp only [numbered, List.mem_map] at hy
  obtain ⟨i, hi, rfl⟩ := hy
  simpa using opAt_get l i (h i hi)
theorem numbered_map (l : List Oper) (qs : List Nat) : (numbered l qs).map (·.2) = qs.map (opAt l) := by
  simp [numbered]
def brkOk (md : Region.Mode) (strict : Bool) (l : List Oper) (qa qb : List Nat) (b : Nat) (ord : List (List Nat × Nat)) : Bool :=
  let listed := Array.replicate l.toArray.size false
  let l1 := listAll listed (numbered l qa)
  let l2 := listAll l1 (numbered l qb)
  qa.all (fun i => decide (i < l.length)) && (qb.all (fun i => decide (i < l.length)) && (decide (b < l.length) && (Region.noSelect l.toArray && (quietOkB md l.toArray b listed (numbered l qa) && (quietOkC md l.toArray b (lastOf strict l ord) l1 (numbered l qb) && ((Region.ready md l.toArray l2 == [b]) &&
    (namedB l.length ord && ((strict || decide (lastOf strict l ord < l.length)) && (mixOk md l.toArray (lastOf strict l ord) (l2.setIfInBounds b true) (fullOrd l ord) && (qa.length + (qb.length + (1 + fuelOf (fullOrd l ord))) == l.length))))))))))

theorem region_brk {l : List Oper} {id : Nat} {a : Act} {w : World} (strict : Bool) (qa qb : List Nat) (b : Nat) (ord : List (List Nat × Nat)) (hm : P.follows .mixedOrders = true) (hB : brkOk .any strict l qa qb b ord = true)
    (hQ : ∀ c a d v w, Q (.panic c) (a.put d v) w → Q (.panic c) a w) (h12 : ∀ w, S w → S2 w) (hS : S { w with drawn := w.drawn + 1 })
    (h : wpQuiet P l.toArray S (fun a1 => wpQuiet P l.toArray S2 (fun a' => wpList P l.toArray (Exit.then (fun a'' w'' => S2 w'' ∧ wpMix P l.toArray S2 strict Q (segs l ord) a'' w'') Q) [opAt l b] a' { w with drawn := w.drawn + 1 }) (qb.map (opAt l)) a1) (qa.map (opAt l)) a) : (Code.region id l.toArray true).wp P Q a w := by
  simp only [brkOk, Bool.and_eq_true, beq_iff_eq, List.all_eq_true, decide_eq_true_eq] at hB
  obtain ⟨hqa, hqb, hb, hsel, hoka, hokb, hr, hn, hlt, hmix, hf⟩ := hB
  refine wp_region_any hm ?_
  rw [show l.toArray.size = l.length from rfl]
  refine wpAny_of_B (S := S) (S2 := S2) (last := b) (last2 := lastOf strict l ord) _ _ _ _ ?_
  have h3 : ∀ (a' : Act), wpList P l.toArray (Exit.then (fun a'' w'' => S2 w'' ∧ wpMix P l.toArray S2 strict Q (segs l ord) a'' w'') Q) [opAt l b] a' { w with drawn := w.drawn + 1 } →
      wpAnyB P .any l.toArray Q S S2 b (lastOf strict l ord) (1 + fuelOf (fullOrd l ord)) (listAll (listAll (Array.replicate l.toArray.size false) (numbered l qa)) (numbered l qb)) a' { w with drawn := w.drawn + 1 } := fun a' h' => by
    rw [Nat.add_comm 1]
    refine ⟨fun h0 => (by rw [hr] at h0; cases h0), fun j hj => ?_⟩
    rw [hr] at hj
    obtain rfl : j = b := by simpa using hj
    refine loud_step (by simpa using opAt_get l j hb) h' (fun a'' w'' h2 => .inl ⟨rfl, h2.1, ?_⟩)
    refine mix_S (strict := strict) (fun h => by simp [lastOf, h]) (fun h => by rw [h] at hlt; simp only [Bool.false_or, Bool.false_eq_true, false_or, decide_eq_true_eq] at hlt; rw [h]; show _ ≠ l.length; omega) hsel hQ (.inr trivial) (fullOrd l ord) _ a'' w'' ?_ hmix (.inr h2.1) (by rw [bare_full]; exact h2.2)
    intro x hx
    simp only [fullOrd, List.mem_map] at hx
    obtain ⟨y, hy, rfl⟩ := hx
    simp only [namedB, List.all_eq_true, Bool.and_eq_true, decide_eq_true_eq] at hn
    have := hn y hy
    refine ⟨fun z hz => ?_, by simpa using opAt_get l y.2 this.2⟩
    simp only [List.mem_map] at hz
    obtain ⟨i, hi, rfl⟩ := hz
    simpa using opAt_get l i (this.1 i hi)
  have h2 := quiets_B (md := .any) (last := b) (last2 := lastOf strict l ord) (S := S) (S2 := S2) hsel hQ (qb.length + (1 + fuelOf (fullOrd l ord))) (numbered l qa) (Array.replicate l.toArray.size false) a { w with drawn := w.drawn + 1 } _
    (numbered_named hqa) hoka hS (by rw [numbered_map]; exact h) (fun a1 h1 => by
      have := quiets_C (md := .any) (last := b) (last2 := lastOf strict l ord) (S := S) (S2 := S2) h12 hsel hQ (1 + fuelOf (fullOrd l ord)) (numbered l qb) _ a1 { w with drawn := w.drawn + 1 } _
        (numbered_named hqb) hokb hS (by rw [numbered_map]; exact h1) h3
      rw [show (numbered l qb).length = qb.length by simp [numbered]] at this
      exact this)
  rw [show (numbered l qa).length = qa.length by simp [numbered]] at h2
  rw [hf] at h2
  exact h2

/-- Where nothing panics; the operations of the first group read the world just as it is, those of the second under S2. -/
theorem region_brk_np {l : List Oper} {id : Nat} {a : Act} {w : World} (S2 : World → Prop) (strict : Bool) (qa qb : List Nat) (b : Nat) (ord : List (List Nat × Nat)) (hm : P.follows .mixedOrders = true) (hB : brkOk .any strict l qa qb b ord = true)
    (hS : S2 w.drew)
    (h : wpQuiet P l.toArray (fun w' => w' = w.drew) (fun a1 => wpQuiet P l.toArray S2 (fun a' => wpList P l.toArray (Exit.then (fun a'' w'' => S2 w'' ∧ wpMix P l.toArray S2 strict (NoPanic Q) (segs l ord) a'' w'') (NoPanic Q)) [opAt l b] a' w.drew) (qb.map (opAt l)) a1) (qa.map (opAt l)) a) : (Code.region id l.toArray true).wp P Q a w :=
  wp_region_noPanic (region_brk (S := fun w' => w' = w.drew) (S2 := S2) strict qa qb b ord hm hB (fun _ _ _ _ _ h => h) (fun w' h => h ▸ hS) rfl h)
end
end Go.Proofs.Ythpbjihnikapoaa
