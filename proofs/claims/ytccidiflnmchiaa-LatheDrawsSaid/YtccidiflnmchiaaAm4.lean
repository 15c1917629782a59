/- A region's operations by a plan: those that only look, the others one by one; true for every order that Go allows. No condition. -/
import Derived.Test.YtccidiflnmchiaaAm3
namespace Go.Proofs.Ytccidiflnmchiaa
open Go.RowKit

/-- A fence that lets all in. -/
def Fw (r : Option Nat) : Fence := { Fence.wide with round := r }
@[simp] theorem Fw_fn (r : Option Nat) (f : FuncId) : (Fw r).fn f := trivial
@[simp] theorem Fw_round (r : Option Nat) : (Fw r).round = r := rfl
theorem Fw_none : Fw none = Fence.wide := rfl

def plainOp : Op → Bool
  | .move _ | .assign _ | .pick .. | .load .. | .binOp .. | .unOp .. | .convert .. | .fieldAddr .. | .field .. | .indexAddr .. | .index .. | .slice .. | .lookup .. | .extract .. | .build .. | .makeInterface .. | .makeFunc .. | .typeAssert .. => true
  | .call c => match c.callee with
    | .builtin .len | .builtin .cap | .builtin .min | .builtin .max => true
    | _ => false
  | _ => false
theorem semAt_plain {o : Oper} (h : plainOp o.op = true) (r : Option Nat) (ρ : Operand → Value) : o.semAt r ρ = execOp ρ o :=
  Oper.semAt_eq r ρ o fun c hc => by rw [hc] at h; cases h

section
variable {P : Program} {ops : Array Oper} {r : Option Nat} {Q : Exit → Act → World → Prop}

theorem semAt_put (o : Oper) (hs : ∀ cs b, o.op ≠ .select cs b) (a : Act) (dst : Option Tmp) (v : Value) (h : ∀ d, dst = some d → d ∉ o.looksAt ops) :
    o.semAt r (a.put dst v).eval = o.semAt r a.eval := by
  unfold Oper.semAt
  cases r with
  | none => exact execOp_put o hs a dst v h
  | some l =>
    cases ho : o.op <;> first | (simp only []; exact execOp_put o hs a dst v h) | skip
    rename_i c
    simp only
    rw [resolve_congr c o.type fun x hx => Act.eval_put fun d hd hxd => h d hd (by
      subst hxd
      exact List.mem_append_left _ (List.mem_filterMap.2 ⟨.tmp d, by rw [ho]; simpa [Op.operands] using hx, rfl⟩))]

/-- In each world that meets S the operation yields 'v'. -/
def YI (P : Program) (ops : Array Oper) (S : World → Prop) (o : Oper) (v : Value) (a : Act) : Prop :=
  (Region.wanted o (yielded ops a.tmps) = true ∧ ∀ w, S w → (execOp a.eval o).run P w = .ok (.value v) w) ∨ (Region.wanted o (yielded ops a.tmps) = false ∧ v = undef)
theorem YI.of_same {S : World → Prop} {o : Oper} {v : Value} {a a' : Act} (hy : YI P ops S o v a) (he : execOp a'.eval o = execOp a.eval o)
    (hw : Region.wanted o (yielded ops a'.tmps) = Region.wanted o (yielded ops a.tmps)) : YI P ops S o v a' := by
  unfold YI at *
  rw [he, hw]
  exact hy
theorem YI.op {S : World → Prop} {i : Nat} {o : Oper} {v : Value} {a : Act} (hp : plainOp o.op = true) (hi : ops[i]? = some o) (hy : YI P ops S o v a) {K : Act → World → Prop} {w : World} (hS : S w) (h : K (a.put o.dst v) w) :
    wpOpIn (Fw r) 0 P ops Q i K a w := by
  unfold wpOpIn
  simp only [hi]
  rcases hy with ⟨hw, hv⟩ | ⟨hw, rfl⟩
  · simp only [hw, if_true, Oper.wpIn, semAt_plain hp, hv w hS, Oper.uponIn]; exact ⟨fun _ _ => trivial, h⟩
  · simp only [hw, Bool.false_eq_true, if_false]; exact ⟨fun _ _ => trivial, h⟩
theorem op_putI {S : World → Prop} {j : Nat} {oi oj : Oper} {v : Value} (hj : ops[j]? = some oj) (hap : oi.apart ops oj = true)
    (hsi : ∀ cs b, oi.op ≠ .select cs b) (hsj : ∀ cs b, oj.op ≠ .select cs b)
    (hQ : ∀ c a w, Q (.panic c) (a.put oi.dst v) w → Q (.panic c) a w) {K : Act → World → Prop} {a : Act} {w : World}
    (hy : YI P ops S oi v a) (h : wpOpIn (Fw r) 0 P ops Q j K (a.put oi.dst v) w) :
    wpOpIn (Fw r) 0 P ops Q j (fun a' w' => YI P ops S oi v a' ∧ K (a'.put oi.dst v) w') a w := by
  obtain ⟨h1, h2, h3⟩ := Oper.apart_spec hap
  have keep : ∀ (a : Act), YI P ops S oi v a → ∀ u, YI P ops S oi v (a.put oj.dst u) := fun a hy u =>
    hy.of_same (execOp_put oi hsi a oj.dst u h3) (wanted_put oi a oj.dst u h3)
  have keepD : ∀ d, YI P ops S oi v { a with defers := d :: a.defers } := fun d => hy.of_same rfl rfl
  unfold wpOpIn at *
  simp only [hj] at *
  rw [wanted_put oj a oi.dst v h1] at h
  split
  · rename_i hw
    simp only [hw, if_true] at h
    unfold Oper.wpIn at *
    refine ⟨fun _ _ => trivial, ?_⟩
    have h := h.2
    rw [semAt_put oj hsj a oi.dst v h1] at h
    generalize (oj.semAt (Fw r).round a.eval).run P w = res at *
    cases res with
    | ok n w' =>
      cases n <;> simp only [Oper.uponIn] at h ⊢
      case value u => exact ⟨keep a hy u, by rw [← Act.put_comm a v u h2]; exact h⟩
      case skip => exact ⟨keep a hy _, by rw [← Act.put_comm a v undef h2]; exact h⟩
      case defer d =>
        refine ⟨keep _ (keepD d) _, ?_⟩
        rw [← Act.put_comm _ v undef h2, ← Act.put_defers]
        exact h
      case enter f args =>
        refine ⟨h.1, CallsIn.mono h.2 fun e w'' he => ?_⟩
        cases e with
        | returned u => exact ⟨keep a hy u, by rw [← Act.put_comm a v u h2]; exact he⟩
        | panicked c => exact hQ _ _ _ he
        | outgrown => exact he
      case row row args => exact ⟨h.1, RowsIn.mono h.2 fun u w'' he => ⟨keep a hy u, by rw [← Act.put_comm a v u h2]; exact he⟩⟩
      case round l f tmps asg body =>
        refine ⟨h.1, RoundIn.mono h.2 fun e w'' he => ?_⟩
        cases e with
        | returned u => exact ⟨keep a hy u, by rw [← Act.put_comm a v u h2]; exact he⟩
        | panicked c => exact hQ _ _ _ he
        | outgrown => exact he
    | halt x w' =>
      cases x <;> simp only [Oper.uponIn] at h ⊢
      case panic u => exact hQ _ _ _ h
  · rename_i hw
    simp only [hw] at h
    exact ⟨fun _ _ => trivial, keep a hy _, by rw [← Act.put_comm a v undef h2]; exact h.2⟩

/-- Whatever order is taken from here on; until operation number 'm' has come up the world meets S. -/
def wpAnyS (P : Program) (r : Option Nat) (ops : Array Oper) (Q : Exit → Act → World → Prop) (S : World → Prop) (m : Nat) : Nat → Array Bool → Act → World → Prop
  | 0, listed, a, w => Region.ready .any ops listed = [] ∧ Q .normal a w
  | fuel + 1, listed, a, w =>
    (Region.ready .any ops listed = [] → Q .normal a w) ∧
    ∀ i ∈ Region.ready .any ops listed, wpOpIn (Fw r) 0 P ops Q i (fun a' w' => if i = m then wpAnyIn (Fw r) 0 P .any ops Q fuel (listed.setIfInBounds i true) a' w' else S w' ∧ wpAnyS P r ops Q S m fuel (listed.setIfInBounds i true) a' w') a w
theorem any_of_S {S : World → Prop} {m : Nat} : ∀ (fuel : Nat) (listed : Array Bool) (a : Act) (w : World), wpAnyS P r ops Q S m fuel listed a w → wpAnyIn (Fw r) 0 P .any ops Q fuel listed a w
  | 0, _, _, _, h => h
  | fuel + 1, _, _, _, h => ⟨h.1, fun i hi => wpOpIn_mono (fun a' w' h' => by
      split at h'
      · exact h'
      · exact any_of_S fuel _ a' w' h'.2) (h.2 i hi)⟩
theorem anyS_mono {S S' : World → Prop} {m : Nat} (hS : ∀ w, S' w → S w) : ∀ (fuel : Nat) (listed : Array Bool) (a : Act) (w : World), wpAnyS P r ops Q S' m fuel listed a w → wpAnyS P r ops Q S m fuel listed a w
  | 0, _, _, _, h => h
  | fuel + 1, _, _, _, h => ⟨h.1, fun i hi => wpOpIn_mono (fun a' w' h' => by
      split at h'
      · rename_i e; rw [if_pos e]; exact h'
      · rename_i e; rw [if_neg e]; exact ⟨hS _ h'.1, anyS_mono hS fuel _ a' w' h'.2⟩) (h.2 i hi)⟩

/-- What is listed has all before it that it waits for. -/
def ShutL (ops : Array Oper) (listed : Array Bool) : Prop := ∀ j oj, ops[j]? = some oj → listed.getD j false = true → ∀ e ∈ oj.after, Region.binds .any e = true → listed.getD e.on false = true
theorem getD_set_true {listed : Array Bool} {i j : Nat} (h : listed.getD j false = true) : (listed.setIfInBounds i true).getD j false = true := by
  by_cases e : i = j
  · subst e
    have hlt : i < listed.size := by
      rcases Nat.lt_or_ge i listed.size with h' | h'
      · exact h'
      · simp [Array.getElem?_eq_none h'] at h
    simp [hlt]
  · simpa [Array.getElem?_setIfInBounds_ne e] using h
theorem ShutL.set {listed : Array Bool} {i : Nat} (h : ShutL ops listed) (hi : i ∈ Region.ready .any ops listed) : ShutL ops (listed.setIfInBounds i true) := by
  intro j oj hj hl e he hb
  by_cases hji : i = j
  · subst hji
    obtain ⟨_, o, ho, hall⟩ := mem_ready.1 hi
    rw [hj] at ho; cases ho
    exact getD_set_true (hall e he hb)
  · refine getD_set_true (h j oj hj ?_ e he hb)
    simpa [Array.getElem?_setIfInBounds_ne hji] using hl
def Awaits (ops : Array Oper) (m i : Nat) : Prop := m = ops.size ∨ ∀ listed, ShutL ops listed → m ∈ Region.ready .any ops listed → listed.getD i false = true
def waitsFor (ops : Array Oper) (last i : Nat) : Bool :=
  match ops[last]? with
  | some o => o.after.any fun e => Region.binds .any e && e.on == i
  | none => false
theorem first_S {S : World → Prop} {m i : Nat} {oi : Oper} {v : Value} (hp : plainOp oi.op = true) (hi : ops[i]? = some oi) (hsel : Region.noSelect ops = true)
    (hQ : ∀ c a w, Q (.panic c) (a.put oi.dst v) w → Q (.panic c) a w) (hl : Awaits ops m i) (him : i ≠ m) :
    ∀ (fuel : Nat) (listed : Array Bool) (a : Act) (w : World),
      (∀ j oj, ops[j]? = some oj → j ≠ i → listed.getD j true = false → (∀ e ∈ oj.after, Region.binds .any e = true → e.on ≠ i) → oi.apart ops oj = true) →
      ShutL ops listed → i ∈ Region.ready .any ops listed → YI P ops S oi v a → S w →
      wpAnyS P r ops Q S m fuel (listed.setIfInBounds i true) (a.put oi.dst v) w → wpAnyS P r ops Q S m (fuel + 1) listed a w := by
  intro fuel
  induction fuel with
  | zero =>
    intro listed a w _ hsh hr hy hS H
    refine ⟨fun h => (by rw [h] at hr; cases hr), fun j hj => ?_⟩
    by_cases hji : j = i
    · subst hji; exact hy.op hp hi hS (by rw [if_neg him]; exact ⟨hS, H⟩)
    · have := ready_mono hj hji
      rw [H.1] at this
      cases this
  | succ fuel ih =>
    intro listed a w hfree hsh hr hy hS H
    refine ⟨fun h => (by rw [h] at hr; cases hr), fun j hj => ?_⟩
    by_cases hji : j = i
    · subst hji; exact hy.op hp hi hS (by rw [if_neg him]; exact ⟨hS, H⟩)
    · have h1 := H.2 j (ready_mono hj hji)
      obtain ⟨hjun, oj, hoj, hall⟩ := mem_ready.1 hj
      have hnot : ∀ e ∈ oj.after, Region.binds .any e = true → e.on ≠ i := fun e he hb heq => by
        have h1 := hall e he hb
        have h0 := (mem_ready.1 hr).1
        rw [heq] at h1
        rcases Nat.lt_or_ge i listed.size with h' | h'
        · simp [h'] at h0 h1; rw [h0] at h1; cases h1
        · simp [Array.getElem?_eq_none h'] at h1
      have hjl : j ≠ m := by
        rintro rfl
        have hjs : j < ops.size := (Array.getElem?_eq_some_iff.1 hoj).1
        rcases hl with hl | hl
        · omega
        · have h1 := hl listed hsh hj
          have h0 := (mem_ready.1 hr).1
          rcases Nat.lt_or_ge i listed.size with h' | h'
          · simp [h'] at h0 h1; rw [h0] at h1; cases h1
          · simp [Array.getElem?_eq_none h'] at h1
      have h2 := op_putI hoj (hfree j oj hoj hji hjun hnot) (fun cs b => Region.noSelect_spec hsel i oi cs b hi) (fun cs b => Region.noSelect_spec hsel j oj cs b hoj) hQ hy h1
      have hfree' : ∀ k ok, ops[k]? = some ok → k ≠ i → (listed.setIfInBounds j true).getD k true = false →
          (∀ e ∈ ok.after, Region.binds .any e = true → e.on ≠ i) → oi.apart ops ok = true := fun k ok hk hki hun hno => by
        refine hfree k ok hk hki ?_ hno
        by_cases hjk : j = k
        · subst hjk; exact hjun
        · rw [getD_set_ne true hjk] at hun; exact hun
      refine wpOpIn_mono (fun a' w' h3 => ?_) h2
      rw [if_neg hjl] at h3 ⊢
      refine ⟨h3.2.1, ih (listed.setIfInBounds j true) a' w' hfree' (hsh.set hj) (ready_mono hr (Ne.symm hji)) h3.1 h3.2.1 ?_⟩
      rw [Array.setIfInBounds_comm _ _ hji]
      exact h3.2.2

/-- Reads registers only: the same in every world. -/
def stillOp : Op → Bool
  | .move _ => true
  | _ => false
theorem still_all {o : Oper} (h : stillOp o.op = true) {a : Act} {w : World} {v : Value} (hv : (execOp a.eval o).run P w = .ok (.value v) w) (w' : World) : (execOp a.eval o).run P w' = .ok (.value v) w' := by
  unfold stillOp at h
  split at h
  · rename_i x ho
    simp only [execOp, ho] at hv ⊢
    simpa using hv
  · cases h
theorem S_of_any {m : Nat} (hm : ops.size ≤ m) : ∀ (fuel : Nat) (listed : Array Bool) (a : Act) (w : World), wpAnyIn (Fw r) 0 P .any ops Q fuel listed a w → wpAnyS P r ops Q (fun _ => True) m fuel listed a w
  | 0, _, _, _, h => h
  | fuel + 1, _, _, _, h => ⟨h.1, fun i hi => wpOpIn_mono (fun a' w' h' => by
      obtain ⟨_, oi, hoi, _⟩ := mem_ready.1 hi
      have := (Array.getElem?_eq_some_iff.1 hoi).1
      rw [if_neg (by omega)]
      exact ⟨trivial, S_of_any hm fuel _ a' w' h'⟩) (h.2 i hi)⟩
theorem YI.weak {S S' : World → Prop} {o : Oper} {v : Value} {a : Act} (h : YI P ops S o v a) (hS : ∀ w, S' w → S w) : YI P ops S' o v a := by
  rcases h with ⟨h1, h2⟩ | h
  · exact .inl ⟨h1, fun w hw => h2 w (hS w hw)⟩
  · exact .inr h
/-- An operation that reads registers only need not be waited for by the operation that ends the phase. -/
theorem first_still {S : World → Prop} {m i : Nat} {oi : Oper} {v : Value} (hp : plainOp oi.op = true) (hi : ops[i]? = some oi) (hsel : Region.noSelect ops = true)
    (hQ : ∀ c a w, Q (.panic c) (a.put oi.dst v) w → Q (.panic c) a w) (him : i ≠ m) :
    ∀ (fuel : Nat) (listed : Array Bool) (a : Act) (w : World),
      (∀ j oj, ops[j]? = some oj → j ≠ i → listed.getD j true = false → (∀ e ∈ oj.after, Region.binds .any e = true → e.on ≠ i) → oi.apart ops oj = true) →
      ShutL ops listed → i ∈ Region.ready .any ops listed → YI P ops (fun _ => True) oi v a → S w →
      wpAnyS P r ops Q S m fuel (listed.setIfInBounds i true) (a.put oi.dst v) w → wpAnyS P r ops Q S m (fuel + 1) listed a w := by
  intro fuel
  induction fuel with
  | zero =>
    intro listed a w _ hsh hr hy hS H
    refine ⟨fun h => (by rw [h] at hr; cases hr), fun j hj => ?_⟩
    by_cases hji : j = i
    · subst hji; exact hy.op hp hi trivial (by rw [if_neg him]; exact ⟨hS, H⟩)
    · have := ready_mono hj hji
      rw [H.1] at this
      cases this
  | succ fuel ih =>
    intro listed a w hfree hsh hr hy hS H
    refine ⟨fun h => (by rw [h] at hr; cases hr), fun j hj => ?_⟩
    by_cases hji : j = i
    · subst hji; exact hy.op hp hi trivial (by rw [if_neg him]; exact ⟨hS, H⟩)
    · have h1 := H.2 j (ready_mono hj hji)
      obtain ⟨hjun, oj, hoj, hall⟩ := mem_ready.1 hj
      have hnot : ∀ e ∈ oj.after, Region.binds .any e = true → e.on ≠ i := fun e he hb heq => by
        have h1 := hall e he hb
        have h0 := (mem_ready.1 hr).1
        rw [heq] at h1
        rcases Nat.lt_or_ge i listed.size with h' | h'
        · simp [h'] at h0 h1; rw [h0] at h1; cases h1
        · simp [Array.getElem?_eq_none h'] at h1
      have h2 := op_putI hoj (hfree j oj hoj hji hjun hnot) (fun cs b => Region.noSelect_spec hsel i oi cs b hi) (fun cs b => Region.noSelect_spec hsel j oj cs b hoj) hQ hy h1
      have hfree' : ∀ k ok, ops[k]? = some ok → k ≠ i → (listed.setIfInBounds j true).getD k true = false →
          (∀ e ∈ ok.after, Region.binds .any e = true → e.on ≠ i) → oi.apart ops ok = true := fun k ok hk hki hun hno => by
        refine hfree k ok hk hki ?_ hno
        by_cases hjk : j = k
        · subst hjk; exact hjun
        · rw [getD_set_ne true hjk] at hun; exact hun
      have his : i < ops.size := (Array.getElem?_eq_some_iff.1 hi).1
      refine wpOpIn_mono (fun a' w' h3 => ?_) h2
      by_cases hjm : j = m
      · rw [if_pos hjm] at h3 ⊢
        refine any_of_S _ _ _ _ (first_S (m := ops.size) hp hi hsel hQ (.inl rfl) (by omega) fuel (listed.setIfInBounds j true) a' w' hfree' (hsh.set hj) (ready_mono hr (Ne.symm hji)) h3.1 trivial ?_)
        rw [Array.setIfInBounds_comm _ _ hji]
        exact S_of_any (Nat.le_refl _) _ _ _ _ h3.2
      · rw [if_neg hjm] at h3 ⊢
        refine ⟨h3.2.1, ih (listed.setIfInBounds j true) a' w' hfree' (hsh.set hj) (ready_mono hr (Ne.symm hji)) h3.1 h3.2.1 ?_⟩
        rw [Array.setIfInBounds_comm _ _ hji]
        exact h3.2.2

/-- A step of a plan. -/
inductive Stp where
  | q (i : Nat) (o : Oper)
  | l (i : Nat) (o : Oper) (keep : Bool)
def Stp.idx : Stp → Nat
  | .q i _ => i
  | .l i _ _ => i
def Stp.oper : Stp → Oper
  | .q _ o => o
  | .l _ o _ => o
/-- The region's operations as the plan takes them. -/
def runP (P : Program) (r : Option Nat) (ops : Array Oper) (Q : Exit → Act → World → Prop) : List Stp → (World → Prop) → Act → World → Prop
  | [], _, a, w => Q .normal a w
  | .q _ o :: rest, S, a, w =>
    (Region.wanted o (yielded ops a.tmps) = true → ∃ u, (∀ w', S w' → (execOp a.eval o).run P w' = .ok (.value u) w') ∧ runP P r ops Q rest S (a.put o.dst u) w) ∧
    (Region.wanted o (yielded ops a.tmps) = false → runP P r ops Q rest S (a.put o.dst undef) w)
  | .l _ o keep :: rest, S, a, w =>
    (Region.wanted o (yielded ops a.tmps) = true → o.wpIn (Fw r) 0 P a w (fun a' w' => ∃ S' : World → Prop, S' w' ∧ (keep = true → ∀ x, S' x → S x) ∧ runP P r ops Q rest S' a' w') Q) ∧
    (Region.wanted o (yielded ops a.tmps) = false → runP P r ops Q rest S (a.put o.dst undef) w)

theorem plain_go {l : List Stp} : ∀ (k : Nat) (S : World → Prop) (a : Act) (w : World), (∀ j s, l[j]? = some s → ops[k + j]? = some s.oper) → (∀ s ∈ l, ∀ i o, s = .q i o → plainOp o.op = true) → S w → runP P r ops Q l S a w →
    wpOpsIn (Fw r) 0 P ops Q (List.range' k l.length) a w := by
  induction l with
  | nil => intro k S a w _ _ _ h; exact h
  | cons s l ih =>
    intro k S a w hn hp hS h
    have h0 : ops[k]? = some s.oper := by simpa using hn 0 s rfl
    have hn' : ∀ j s, l[j]? = some s → ops[k + 1 + j]? = some s.oper := fun j s hj => by
      have := hn (j + 1) s (by simpa using hj)
      rwa [show k + 1 + j = k + (j + 1) by omega]
    have hp' : ∀ s ∈ l, ∀ i o, s = .q i o → plainOp o.op = true := fun s hs => hp s (by simp [hs])
    rw [List.length_cons, List.range'_succ, wpOpsIn_cons]
    unfold wpOpIn
    simp only [h0]
    cases s with
    | q i o =>
      simp only [runP] at h
      cases hw : Region.wanted o (yielded ops a.tmps)
      · have hw' : Region.wanted (Stp.q i o).oper (yielded ops a.tmps) = false := hw
        rw [hw']
        exact ⟨fun _ _ => trivial, ih (k + 1) S _ w hn' hp' hS (h.2 hw)⟩
      · have hw' : Region.wanted (Stp.q i o).oper (yielded ops a.tmps) = true := hw
        rw [hw']
        obtain ⟨u, h1, h2⟩ := h.1 hw
        simp only [if_true, Oper.wpIn]
        refine ⟨fun _ _ => trivial, ?_⟩
        show (Oper.uponIn (Fw r) 0 P o a _ Q ((o.semAt (Fw r).round a.eval).run P w))
        rw [semAt_plain (hp _ (by simp) i o rfl), h1 w hS]
        exact ih (k + 1) S _ w hn' hp' hS h2
    | l i o keep =>
      simp only [runP] at h
      cases hw : Region.wanted o (yielded ops a.tmps)
      · have hw' : Region.wanted (Stp.l i o keep).oper (yielded ops a.tmps) = false := hw
        rw [hw']
        exact ⟨fun _ _ => trivial, ih (k + 1) S _ w hn' hp' hS (h.2 hw)⟩
      · have hw' : Region.wanted (Stp.l i o keep).oper (yielded ops a.tmps) = true := hw
        rw [hw']
        simp only [if_true]
        exact Oper.wpIn_mono (fun a' w' ⟨S', h1, _, h3⟩ => ih (k + 1) S' a' w' hn' hp' h1 h3) (h.1 hw)

/-- The operation that ends a phase. -/
def phaseEnd (n : Nat) : List Stp → Nat
  | [] => n
  | .q _ _ :: l => phaseEnd n l
  | .l i _ keep :: l => bif keep then phaseEnd n l else i
def befores (ops : Array Oper) (i : Nat) : List Nat := match ops[i]? with | some o => (o.after.toList.filter (Region.binds .any)).map (·.on) | none => []
/-- All that the end of the phase waits for, directly or through others. -/
def needs (ops : Array Oper) : List Stp → List Nat
  | [] => []
  | .q i _ :: l => bif (needs ops l).contains i then befores ops i ++ needs ops l else needs ops l
  | .l i _ keep :: l => bif keep then (bif (needs ops l).contains i then befores ops i ++ needs ops l else needs ops l) else befores ops i
theorem befores_listed {ops : Array Oper} {listed : Array Bool} (hs : ShutL ops listed) {i : Nat} (hi : listed.getD i false = true ∨ i ∈ Region.ready .any ops listed) : ∀ x ∈ befores ops i, listed.getD x false = true := by
  intro x hx
  unfold befores at hx
  split at hx
  · rename_i o ho
    simp only [List.mem_map, List.mem_filter, Array.mem_toList_iff] at hx
    obtain ⟨e, ⟨he, hb⟩, rfl⟩ := hx
    rcases hi with hi | hi
    · exact hs i o ho hi e he hb
    · obtain ⟨_, o', ho', hall⟩ := mem_ready.1 hi
      rw [ho] at ho'; cases ho'
      exact hall e he hb
  · simp at hx
theorem needs_listed {ops : Array Oper} {listed : Array Bool} (hs : ShutL ops listed) : ∀ (l : List Stp), phaseEnd ops.size l ∈ Region.ready .any ops listed → ∀ x ∈ needs ops l, listed.getD x false = true
  | [], _, x, hx => by simp [needs] at hx
  | .q i o :: l, hm, x, hx => by
    have ih := needs_listed hs l hm
    simp only [needs] at hx
    cases hc : (needs ops l).contains i
    · rw [hc] at hx; exact ih x hx
    · rw [hc] at hx
      rcases List.mem_append.1 hx with h | h
      · exact befores_listed hs (.inl (ih i (by simpa using hc))) x h
      · exact ih x h
  | .l i o keep :: l, hm, x, hx => by
    cases keep with
    | false => exact befores_listed hs (.inr (by simpa [phaseEnd] using hm)) x (by simpa [needs] using hx)
    | true =>
      have ih := needs_listed hs l (by simpa [phaseEnd] using hm)
      simp only [needs] at hx
      cases hc : (needs ops l).contains i
      · rw [hc] at hx; exact ih x hx
      · rw [hc] at hx
        rcases List.mem_append.1 hx with h | h
        · exact befores_listed hs (.inl (ih i (by simpa using hc))) x h
        · exact ih x h
theorem awaits_of {ops : Array Oper} {l : List Stp} {i : Nat} (h : ((waitsFor ops (phaseEnd ops.size l) i || phaseEnd ops.size l == ops.size) || (needs ops l).contains i) = true) : Awaits ops (phaseEnd ops.size l) i := by
  simp only [Bool.or_eq_true, beq_iff_eq] at h
  rcases h with (h | h) | h
  · refine .inr fun listed hs hm => ?_
    obtain ⟨_, o, ho, hall⟩ := mem_ready.1 hm
    simp only [waitsFor, ho, Array.any_eq_true', Bool.and_eq_true, beq_iff_eq] at h
    obtain ⟨e, he, hb, hon⟩ := h
    rw [← hon]
    exact hall e he hb
  · exact .inl h
  · exact .inr fun listed hs hm => needs_listed hs l hm i (by simpa using h)
def planOk (ops : Array Oper) : Array Bool → List Stp → Bool
  | listed, [] => (Region.ready .any ops listed).isEmpty
  | listed, .q i o :: l => plainOp o.op && (Region.ready .any ops listed).contains i && Region.free .any ops listed i && (((waitsFor ops (phaseEnd ops.size l) i || phaseEnd ops.size l == ops.size) || (needs ops l).contains i) || stillOp o.op) && i != phaseEnd ops.size l && planOk ops (listed.setIfInBounds i true) l
  | listed, .l i _ keep :: l => (Region.ready .any ops listed == [i]) && (!keep || i != phaseEnd ops.size l) && planOk ops (listed.setIfInBounds i true) l

theorem drawn_go (hsel : Region.noSelect ops = true) (hQ : ∀ c a d v w, Q (.panic c) (a.put d v) w → Q (.panic c) a w) :
    ∀ (l : List Stp) (listed : Array Bool) (S : World → Prop) (a : Act) (w : World), (∀ s ∈ l, ops[s.idx]? = some s.oper) → ShutL ops listed → planOk ops listed l = true → S w →
      runP P r ops Q l S a w → wpAnyS P r ops Q S (phaseEnd ops.size l) l.length listed a w
  | [], listed, S, a, w, _, _, hok, _, h => ⟨by simpa [planOk] using hok, h⟩
  | .q i o :: l, listed, S, a, w, hn, hsh, hok, hS, h => by
    simp only [planOk, Bool.and_eq_true] at hok
    obtain ⟨⟨⟨⟨⟨hp, hr⟩, hf⟩, hl⟩, him⟩, hok'⟩ := hok
    have hi : ops[i]? = some o := hn (.q i o) (by simp)
    simp only [runP] at h
    have hn' : ∀ s ∈ l, ops[s.idx]? = some s.oper := fun s hs => hn s (by simp [hs])
    show wpAnyS P r ops Q S (phaseEnd ops.size l) (l.length + 1) listed a w
    rw [Bool.or_eq_true] at hl
    have hri : i ∈ Region.ready .any ops listed := by simpa using hr
    rcases hl with hl | hl
    · cases hw : Region.wanted o (yielded ops a.tmps)
      · exact first_S (v := undef) hp hi hsel (fun c a w => hQ c a o.dst undef w) (awaits_of hl) (by simpa using him) l.length listed a w (Region.free_spec hi hf) hsh hri (.inr ⟨hw, rfl⟩) hS
          (drawn_go hsel hQ l _ S _ w hn' (hsh.set hri) hok' hS (h.2 hw))
      · obtain ⟨u, h1, h2⟩ := h.1 hw
        exact first_S (v := u) hp hi hsel (fun c a w => hQ c a o.dst u w) (awaits_of hl) (by simpa using him) l.length listed a w (Region.free_spec hi hf) hsh hri (.inl ⟨hw, h1⟩) hS
          (drawn_go hsel hQ l _ S _ w hn' (hsh.set hri) hok' hS h2)
    · cases hw : Region.wanted o (yielded ops a.tmps)
      · exact first_still (v := undef) hp hi hsel (fun c a w => hQ c a o.dst undef w) (by simpa using him) l.length listed a w (Region.free_spec hi hf) hsh hri (.inr ⟨hw, rfl⟩) hS
          (drawn_go hsel hQ l _ S _ w hn' (hsh.set hri) hok' hS (h.2 hw))
      · obtain ⟨u, h1, h2⟩ := h.1 hw
        exact first_still (v := u) hp hi hsel (fun c a w => hQ c a o.dst u w) (by simpa using him) l.length listed a w (Region.free_spec hi hf) hsh hri (.inl ⟨hw, fun w' _ => still_all hl (h1 w hS) w'⟩) hS
          (drawn_go hsel hQ l _ S _ w hn' (hsh.set hri) hok' hS h2)
  | .l i o keep :: l, listed, S, a, w, hn, hsh, hok, hS, h => by
    simp only [planOk, Bool.and_eq_true, beq_iff_eq] at hok
    obtain ⟨⟨hr, hk⟩, hok'⟩ := hok
    have hi : ops[i]? = some o := hn (.l i o keep) (by simp)
    have hn' : ∀ s ∈ l, ops[s.idx]? = some s.oper := fun s hs => hn s (by simp [hs])
    simp only [runP] at h
    refine ⟨fun h0 => (by rw [hr] at h0; cases h0), fun j hj => ?_⟩
    have hj0 := hj
    rw [hr] at hj
    obtain rfl : j = i := by simpa using hj
    have step : ∀ (S' : World → Prop) a' w', S' w' → (keep = true → ∀ x, S' x → S x) → runP P r ops Q l S' a' w' →
        (if j = phaseEnd ops.size (.l j o keep :: l) then wpAnyIn (Fw r) 0 P .any ops Q l.length (listed.setIfInBounds j true) a' w' else S w' ∧ wpAnyS P r ops Q S (phaseEnd ops.size (.l j o keep :: l)) l.length (listed.setIfInBounds j true) a' w') := by
      intro S' a' w' h1 h2 h3
      have ih := drawn_go hsel hQ l (listed.setIfInBounds j true) S' a' w' hn' (hsh.set hj0) hok' h1 h3
      cases keep with
      | false => rw [if_pos (by simp [phaseEnd])]; exact any_of_S _ _ _ _ ih
      | true =>
        have e : phaseEnd ops.size (.l j o true :: l) = phaseEnd ops.size l := by simp [phaseEnd]
        rw [e, if_neg (by simpa using hk)]
        exact ⟨h2 rfl _ h1, anyS_mono (h2 rfl) _ _ _ _ ih⟩
    unfold wpOpIn
    simp only [hi]
    cases hw : Region.wanted o (yielded ops a.tmps)
    · rw [if_neg (by simp)]
      exact ⟨fun _ _ => trivial, step S _ w hS (fun _ _ h => h) (h.2 hw)⟩
    · rw [if_pos rfl]
      exact Oper.wpIn_mono (fun a' w' ⟨S', h1, h2, h3⟩ => step S' a' w' h1 h2 h3) (h.1 hw)
end

/-! ### From a literal list of operations and a list of numbers -/
def opAt : List Oper → Nat → Oper
  | [], _ => default
  | o :: _, 0 => o
  | _ :: l, n + 1 => opAt l n
theorem opAt_get (l : List Oper) : ∀ i, i < l.length → l[i]? = some (opAt l i) := by
  induction l with
  | nil => intro i h; simp at h
  | cons o l ih =>
    intro i h
    cases i with
    | zero => rfl
    | succ i => simpa [opAt] using ih i (by simpa using h)
/-- In the order of the text. -/
def textPlan : List Oper → Nat → List Stp
  | [], _ => []
  | o :: l, i => (bif plainOp o.op then .q i o else .l i o false) :: textPlan l (i + 1)
/-- A plan by numbers: 0: one that only looks; 1: another one, behind which all stands that stood before; 2: another one. -/
def numPlan (l : List Oper) (ps : List (Nat × Nat)) : List Stp := ps.map fun x => match x.2 with | 0 => .q x.1 (opAt l x.1) | 1 => .l x.1 (opAt l x.1) true | _ => .l x.1 (opAt l x.1) false
def drawnOk (l : List Oper) (ps : List (Nat × Nat)) : Bool :=
  ps.all (fun x => decide (x.1 < l.length)) && Region.noSelect l.toArray && planOk l.toArray (Array.replicate l.toArray.size false) (numPlan l ps) && (ps.length == l.length)

section
variable {P : Program} {r : Option Nat} {Q : Exit → Act → World → Prop} {l : List Oper} {id : Nat} {a : Act} {w : World}
theorem textPlan_get : ∀ (l : List Oper) (i j : Nat) (s : Stp), (textPlan l i)[j]? = some s → l[j]? = some s.oper
  | [], _, j, s, h => by simp [textPlan] at h
  | o :: l, i, j, s, h => by
    cases j with
    | zero =>
      simp only [textPlan, List.getElem?_cons_zero, Option.some.injEq] at h ⊢
      rw [← h]
      cases plainOp o.op <;> rfl
    | succ j => simp only [textPlan, List.getElem?_cons_succ] at h ⊢; exact textPlan_get l (i + 1) j s h
theorem textPlan_plain : ∀ (l : List Oper) (i : Nat), ∀ s ∈ textPlan l i, ∀ k o, s = .q k o → plainOp o.op = true
  | [], _, s, h, _, _, _ => by simp [textPlan] at h
  | o :: l, i, s, h, k, o', e => by
    simp only [textPlan, List.mem_cons] at h
    rcases h with h | h
    · rw [e] at h
      cases hp : plainOp o.op <;> rw [hp] at h <;> cases h
      exact hp
    · exact textPlan_plain l (i + 1) s h k o' e
theorem textPlan_len : ∀ (l : List Oper) (i : Nat), (textPlan l i).length = l.length
  | [], _ => rfl
  | o :: l, i => by simp [textPlan, textPlan_len l (i + 1)]
theorem region_text (S : World → Prop) (hS : S w) (h : runP P r l.toArray Q (textPlan l 0) S a w) : (Code.region id l.toArray false).wpIn (Fw r) 0 P Q a w := by
  refine wpIn_region ?_
  have := plain_go (ops := l.toArray) (l := textPlan l 0) 0 S a w (fun j s hj => by simpa using textPlan_get l 0 j s hj) (textPlan_plain l 0) hS h
  rw [textPlan_len] at this
  rwa [List.range_eq_range']
theorem region_drawn (ps : List (Nat × Nat)) (S : World → Prop) (hm : P.follows .mixedOrders = true) (hB : drawnOk l ps = true) (hQ : ∀ c a d v w, Q (.panic c) (a.put d v) w → Q (.panic c) a w)
    (hS : S { w with drawn := w.drawn + 1 }) (h : runP P r l.toArray Q (numPlan l ps) S a { w with drawn := w.drawn + 1 }) : (Code.region id l.toArray true).wpIn (Fw r) 0 P Q a w := by
  simp only [drawnOk, Bool.and_eq_true, beq_iff_eq, List.all_eq_true, decide_eq_true_eq] at hB
  obtain ⟨⟨⟨hn, hsel⟩, hok⟩, hlen⟩ := hB
  refine wpIn_region_any hm ?_
  have := any_of_S _ _ _ _ (drawn_go hsel hQ (numPlan l ps) _ S a _ (fun s hs => by
    simp only [numPlan, List.mem_map] at hs
    obtain ⟨x, hx, rfl⟩ := hs
    have := opAt_get l x.1 (hn x hx)
    split <;> simpa [Stp.idx, Stp.oper] using this) (fun j oj _ hl => by exfalso; rw [Array.getD_eq_getD_getElem?, Array.getElem?_replicate] at hl; split at hl <;> simp at hl) hok hS h)
  rw [show (numPlan l ps).length = l.toArray.size by simp [numPlan, hlen]] at this
  exact this
end
end Go.Proofs.Ytccidiflnmchiaa
