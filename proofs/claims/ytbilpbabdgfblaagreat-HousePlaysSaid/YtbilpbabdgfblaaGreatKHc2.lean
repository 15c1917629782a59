/- Parts of the proof: a layer of values over the model, and contracts of functions. No condition. -/
import Derived.Test.YtbilpbabdgfblaaGreatKHc1
set_option maxHeartbeats 16000000
set_option linter.unusedSimpArgs false
set_option linter.unusedVariables false
namespace Go.Proofs.YtbilpbabdgfblaaGreat
open Go.RowKit
def Fw (r:Option Nat):Fence:={ Fence.wide with round:=r }
@[simp] theorem Fw_fn (r:Option Nat) (f:FuncId):(Fw r).fn f:=trivial
@[simp] theorem Fw_round (r:Option Nat):(Fw r).round=r:=rfl
def plainOp:Op→Bool
  | .move _|.assign _|.nilCheck _|.pick ..|.load ..|.binOp ..|.unOp ..|.convert ..|.fieldAddr ..|.field ..|.indexAddr ..|.index ..|.slice ..|.lookup ..|.extract ..|.build ..|.makeInterface ..|.makeFunc ..|.typeAssert ..=>true
  | .call c=>match c.callee with
    | .builtin .len|.builtin .cap|.builtin .min|.builtin .max=>true
    | _=>false
  | _=>false
theorem semAt_plain {o:Oper}(h:plainOp o.op=true) (r:Option Nat) (ρ:Operand→Value):o.semAt r ρ=execOp ρ o :=
  Oper.semAt_eq r ρ o fun c hc=>by rw [hc] at h;cases h
section
variable {P:Program}{ops:Array Oper}{r:Option Nat}{Q:Exit→Act→World→Prop}
theorem semAt_put (o:Oper) (hs:∀ cs b,o.op≠.select cs b) (a:Act) (dst:Option Tmp) (v:Value) (h:∀ d,dst=some d→d ∉ o.looksAt ops) :
    o.semAt r (a.put dst v).eval=o.semAt r a.eval:=by
  unfold Oper.semAt
  cases r with
  | none=>exact execOp_put o hs a dst v h
  | some l =>
    cases ho:o.op<;>first|(simp only [];exact execOp_put o hs a dst v h)|skip
    rename_i c
    simp only
    rw [resolve_congr c o.type fun x hx=>Act.eval_put fun d hd hxd=>h d hd (by
      subst hxd
      exact List.mem_append_left _ (List.mem_filterMap.2 ⟨.tmp d,by rw [ho];simpa [Op.operands] using hx,rfl⟩))]
def YI (P:Program) (ops:Array Oper) (S:World→Prop) (o:Oper) (v:Value) (a:Act):Prop :=
  (Region.wanted o (yielded ops a.tmps)=true∧∀ w,S w→(execOp a.eval o).run P w=.ok (.value v) w)∨(Region.wanted o (yielded ops a.tmps)=false∧v=undef)
theorem YI.of_same {S:World→Prop}{o:Oper}{v:Value}{a a':Act}(hy:YI P ops S o v a) (he:execOp a'.eval o=execOp a.eval o)
    (hw:Region.wanted o (yielded ops a'.tmps)=Region.wanted o (yielded ops a.tmps)):YI P ops S o v a':=by
  unfold YI at *
  rw [he,hw]
  exact hy
theorem YI.op {S:World→Prop}{i:Nat}{o:Oper}{v:Value}{a:Act}(hp:plainOp o.op=true) (hi:ops[i]?=some o) (hy:YI P ops S o v a) {K:Act→World→Prop}{w:World}(hS:S w) (h:K (a.put o.dst v) w) :
    wpOpIn (Fw r) 0 P ops Q i K a w:=by
  unfold wpOpIn
  simp only [hi]
  rcases hy with ⟨hw,hv⟩|⟨hw,rfl⟩
  · simp only [hw,if_true,Oper.wpIn,semAt_plain hp,hv w hS,Oper.uponIn];exact ⟨fun _ _=>trivial,h⟩
  · simp only [hw,Bool.false_eq_true,if_false];exact ⟨fun _ _=>trivial,h⟩
theorem op_putI {S:World→Prop}{j:Nat}{oi oj:Oper}{v:Value}(hj:ops[j]?=some oj) (hap:oi.apart ops oj=true)
    (hsi:∀ cs b,oi.op≠.select cs b) (hsj:∀ cs b,oj.op≠.select cs b)
    (hQ:∀ c a w,Q (.panic c) (a.put oi.dst v) w→Q (.panic c) a w) {K:Act→World→Prop} {a:Act} {w:World}
    (hy:YI P ops S oi v a) (h:wpOpIn (Fw r) 0 P ops Q j K (a.put oi.dst v) w) :
    wpOpIn (Fw r) 0 P ops Q j (fun a' w'=>YI P ops S oi v a'∧K (a'.put oi.dst v) w') a w:=by
  obtain ⟨h1,h2,h3⟩:=Oper.apart_spec hap
  have keep:∀ (a:Act),YI P ops S oi v a→∀ u,YI P ops S oi v (a.put oj.dst u):=fun a hy u =>
    hy.of_same (execOp_put oi hsi a oj.dst u h3) (wanted_put oi a oj.dst u h3)
  have keepD:∀ d,YI P ops S oi v { a with defers:=d::a.defers }:=fun d=>hy.of_same rfl rfl
  unfold wpOpIn at *
  simp only [hj] at *
  rw [wanted_put oj a oi.dst v h1] at h
  split
  · rename_i hw
    simp only [hw,if_true] at h
    unfold Oper.wpIn at *
    refine ⟨fun _ _=>trivial,?_⟩
    have h:=h.2
    rw [semAt_put oj hsj a oi.dst v h1] at h
    generalize (oj.semAt (Fw r).round a.eval).run P w=res at *
    cases res with
    | ok n w' =>
      cases n<;>simp only [Oper.uponIn] at h ⊢
      case value u=>exact ⟨keep a hy u,by rw [← Act.put_comm a v u h2];exact h⟩
      case skip=>exact ⟨keep a hy _,by rw [← Act.put_comm a v undef h2];exact h⟩
      case defer d =>
        refine ⟨keep _ (keepD d) _,?_⟩
        rw [← Act.put_comm _ v undef h2,← Act.put_defers]
        exact h
      case enter f args =>
        refine ⟨h.1,CallsIn.mono h.2 fun e w'' he=>?_⟩
        cases e with
        | returned u=>exact ⟨keep a hy u,by rw [← Act.put_comm a v u h2];exact he⟩
        | panicked c=>exact hQ _ _ _ he
        | outgrown=>exact he
      case row row args=>exact ⟨h.1,RowsIn.mono h.2 fun u w'' he=>⟨keep a hy u,by rw [← Act.put_comm a v u h2];exact he⟩⟩
      case round l f tmps asg body =>
        refine ⟨h.1,RoundIn.mono h.2 fun e w'' he=>?_⟩
        cases e with
        | returned u=>exact ⟨keep a hy u,by rw [← Act.put_comm a v u h2];exact he⟩
        | panicked c=>exact hQ _ _ _ he
        | outgrown=>exact he
    | halt x w' =>
      cases x<;>simp only [Oper.uponIn] at h ⊢
      case panic u=>exact hQ _ _ _ h
  · rename_i hw
    simp only [hw] at h
    exact ⟨fun _ _=>trivial,keep a hy _,by rw [← Act.put_comm a v undef h2];exact h.2⟩
def wpAnyS (P:Program) (r:Option Nat) (ops:Array Oper) (Q:Exit→Act→World→Prop) (S:World→Prop) (m:Nat):Nat→Array Bool→Act→World→Prop
  | 0,listed,a,w=>Region.ready .any ops listed=[]∧Q .normal a w
  | fuel+1,listed,a,w =>
    (Region.ready .any ops listed=[]→Q .normal a w) ∧
    ∀ i∈Region.ready .any ops listed,wpOpIn (Fw r) 0 P ops Q i (fun a' w'=>if i=m then wpAnyIn (Fw r) 0 P .any ops Q fuel (listed.setIfInBounds i true) a' w' else S w'∧wpAnyS P r ops Q S m fuel (listed.setIfInBounds i true) a' w') a w
theorem any_of_S {S:World→Prop}{m:Nat}:∀ (fuel:Nat) (listed:Array Bool) (a:Act) (w:World),wpAnyS P r ops Q S m fuel listed a w→wpAnyIn (Fw r) 0 P .any ops Q fuel listed a w
  | 0,_,_,_,h=>h
  | fuel+1,_,_,_,h=>⟨h.1,fun i hi=>wpOpIn_mono (fun a' w' h'=>by
      split at h'
      · exact h'
      · exact any_of_S fuel _ a' w' h'.2) (h.2 i hi)⟩
theorem anyS_mono {S S':World→Prop}{m:Nat}(hS:∀ w,S' w→S w):∀ (fuel:Nat) (listed:Array Bool) (a:Act) (w:World),wpAnyS P r ops Q S' m fuel listed a w→wpAnyS P r ops Q S m fuel listed a w
  | 0,_,_,_,h=>h
  | fuel+1,_,_,_,h=>⟨h.1,fun i hi=>wpOpIn_mono (fun a' w' h'=>by
      split at h'
      · rename_i e;rw [if_pos e];exact h'
      · rename_i e;rw [if_neg e];exact ⟨hS _ h'.1,anyS_mono hS fuel _ a' w' h'.2⟩) (h.2 i hi)⟩
def ShutL (ops:Array Oper) (listed:Array Bool):Prop:=∀ j oj,ops[j]?=some oj→listed.getD j false=true→∀ e∈oj.after,Region.binds .any e=true→listed.getD e.on false=true
theorem getD_set_true {listed:Array Bool}{i j:Nat}(h:listed.getD j false=true):(listed.setIfInBounds i true).getD j false=true:=by
  by_cases e:i=j
  · subst e
    have hlt:i<listed.size:=by
      rcases Nat.lt_or_ge i listed.size with h'|h'
      · exact h'
      · simp [Array.getElem?_eq_none h'] at h
    simp [hlt]
  · simpa [Array.getElem?_setIfInBounds_ne e] using h
theorem ShutL.set {listed:Array Bool}{i:Nat}(h:ShutL ops listed) (hi:i∈Region.ready .any ops listed):ShutL ops (listed.setIfInBounds i true):=by
  intro j oj hj hl e he hb
  by_cases hji:i=j
  · subst hji
    obtain ⟨_,o,ho,hall⟩:=mem_ready.1 hi
    rw [hj] at ho;cases ho
    exact getD_set_true (hall e he hb)
  · refine getD_set_true (h j oj hj ?_ e he hb)
    simpa [Array.getElem?_setIfInBounds_ne hji] using hl
def Awaits (ops:Array Oper) (m i:Nat):Prop:=m=ops.size∨∀ listed,ShutL ops listed→m∈Region.ready .any ops listed→listed.getD i false=true
def waitsFor (ops:Array Oper) (last i:Nat):Bool :=
  match ops[last]? with
  | some o=>o.after.any fun e=>Region.binds .any e&&e.on==i
  | none=>false
theorem first_S {S:World→Prop}{m i:Nat}{oi:Oper}{v:Value}(hp:plainOp oi.op=true) (hi:ops[i]?=some oi) (hsel:Region.noSelect ops=true)
    (hQ:∀ c a w,Q (.panic c) (a.put oi.dst v) w→Q (.panic c) a w) (hl:Awaits ops m i) (him:i≠m) :
    ∀ (fuel:Nat) (listed:Array Bool) (a:Act) (w:World),
      (∀ j oj,ops[j]?=some oj→j≠i→listed.getD j true=false→(∀ e∈oj.after,Region.binds .any e=true→e.on≠i)→oi.apart ops oj=true) →
      ShutL ops listed→i∈Region.ready .any ops listed→YI P ops S oi v a→S w →
      wpAnyS P r ops Q S m fuel (listed.setIfInBounds i true) (a.put oi.dst v) w→wpAnyS P r ops Q S m (fuel+1) listed a w:=by
  intro fuel
  induction fuel with
  | zero =>
    intro listed a w _ hsh hr hy hS H
    refine ⟨fun h=>(by rw [h] at hr;cases hr),fun j hj=>?_⟩
    by_cases hji:j=i
    · subst hji;exact hy.op hp hi hS (by rw [if_neg him];exact ⟨hS,H⟩)
    · have:=ready_mono hj hji
      rw [H.1] at this
      cases this
  | succ fuel ih =>
    intro listed a w hfree hsh hr hy hS H
    refine ⟨fun h=>(by rw [h] at hr;cases hr),fun j hj=>?_⟩
    by_cases hji:j=i
    · subst hji;exact hy.op hp hi hS (by rw [if_neg him];exact ⟨hS,H⟩)
    · have h1:=H.2 j (ready_mono hj hji)
      obtain ⟨hjun,oj,hoj,hall⟩:=mem_ready.1 hj
      have hnot:∀ e∈oj.after,Region.binds .any e=true→e.on≠i:=fun e he hb heq=>by
        have h1:=hall e he hb
        have h0:=(mem_ready.1 hr).1
        rw [heq] at h1
        rcases Nat.lt_or_ge i listed.size with h'|h'
        · simp [h'] at h0 h1;rw [h0] at h1;cases h1
        · simp [Array.getElem?_eq_none h'] at h1
      have hjl:j≠m:=by
        rintro rfl
        have hjs:j<ops.size:=(Array.getElem?_eq_some_iff.1 hoj).1
        rcases hl with hl|hl
        · omega
        · have h1:=hl listed hsh hj
          have h0:=(mem_ready.1 hr).1
          rcases Nat.lt_or_ge i listed.size with h'|h'
          · simp [h'] at h0 h1;rw [h0] at h1;cases h1
          · simp [Array.getElem?_eq_none h'] at h1
      have h2:=op_putI hoj (hfree j oj hoj hji hjun hnot) (fun cs b=>Region.noSelect_spec hsel i oi cs b hi) (fun cs b=>Region.noSelect_spec hsel j oj cs b hoj) hQ hy h1
      have hfree':∀ k ok,ops[k]?=some ok→k≠i→(listed.setIfInBounds j true).getD k true=false →
          (∀ e∈ok.after,Region.binds .any e=true→e.on≠i)→oi.apart ops ok=true:=fun k ok hk hki hun hno=>by
        refine hfree k ok hk hki ?_ hno
        by_cases hjk:j=k
        · subst hjk;exact hjun
        · rw [getD_set_ne true hjk] at hun;exact hun
      refine wpOpIn_mono (fun a' w' h3=>?_) h2
      rw [if_neg hjl] at h3 ⊢
      refine ⟨h3.2.1,ih (listed.setIfInBounds j true) a' w' hfree' (hsh.set hj) (ready_mono hr (Ne.symm hji)) h3.1 h3.2.1 ?_⟩
      rw [Array.setIfInBounds_comm _ _ hji]
      exact h3.2.2
def stillOp:Op→Bool
  | .move _=>true
  | .extract ..=>true
  | _=>false
theorem still_all {o:Oper}(h:stillOp o.op=true) {a:Act}{w:World}{v:Value}(hv:(execOp a.eval o).run P w=.ok (.value v) w) (w':World):(execOp a.eval o).run P w'=.ok (.value v) w':=by
  unfold stillOp at h
  split at h
  · rename_i x ho
    simp only [execOp,ho] at hv ⊢
    simpa using hv
  · rename_i x k ho
    simp only [execOp,ho] at hv ⊢
    revert hv
    unfold Instr.extract
    split
    · split
      · simp
      · simp
    · simp
  · cases h
theorem S_of_any {m:Nat}(hm:ops.size≤m):∀ (fuel:Nat) (listed:Array Bool) (a:Act) (w:World),wpAnyIn (Fw r) 0 P .any ops Q fuel listed a w→wpAnyS P r ops Q (fun _=>True) m fuel listed a w
  | 0,_,_,_,h=>h
  | fuel+1,_,_,_,h=>⟨h.1,fun i hi=>wpOpIn_mono (fun a' w' h'=>by
      obtain ⟨_,oi,hoi,_⟩:=mem_ready.1 hi
      have:=(Array.getElem?_eq_some_iff.1 hoi).1
      rw [if_neg (by omega)]
      exact ⟨trivial,S_of_any hm fuel _ a' w' h'⟩) (h.2 i hi)⟩
theorem first_still {S:World→Prop}{m i:Nat}{oi:Oper}{v:Value}(hp:plainOp oi.op=true) (hi:ops[i]?=some oi) (hsel:Region.noSelect ops=true)
    (hQ:∀ c a w,Q (.panic c) (a.put oi.dst v) w→Q (.panic c) a w) (him:i≠m) :
    ∀ (fuel:Nat) (listed:Array Bool) (a:Act) (w:World),
      (∀ j oj,ops[j]?=some oj→j≠i→listed.getD j true=false→(∀ e∈oj.after,Region.binds .any e=true→e.on≠i)→oi.apart ops oj=true) →
      ShutL ops listed→i∈Region.ready .any ops listed→YI P ops (fun _=>True) oi v a→S w →
      wpAnyS P r ops Q S m fuel (listed.setIfInBounds i true) (a.put oi.dst v) w→wpAnyS P r ops Q S m (fuel+1) listed a w:=by
  intro fuel
  induction fuel with
  | zero =>
    intro listed a w _ hsh hr hy hS H
    refine ⟨fun h=>(by rw [h] at hr;cases hr),fun j hj=>?_⟩
    by_cases hji:j=i
    · subst hji;exact hy.op hp hi trivial (by rw [if_neg him];exact ⟨hS,H⟩)
    · have:=ready_mono hj hji
      rw [H.1] at this
      cases this
  | succ fuel ih =>
    intro listed a w hfree hsh hr hy hS H
    refine ⟨fun h=>(by rw [h] at hr;cases hr),fun j hj=>?_⟩
    by_cases hji:j=i
    · subst hji;exact hy.op hp hi trivial (by rw [if_neg him];exact ⟨hS,H⟩)
    · have h1:=H.2 j (ready_mono hj hji)
      obtain ⟨hjun,oj,hoj,hall⟩:=mem_ready.1 hj
      have hnot:∀ e∈oj.after,Region.binds .any e=true→e.on≠i:=fun e he hb heq=>by
        have h1:=hall e he hb
        have h0:=(mem_ready.1 hr).1
        rw [heq] at h1
        rcases Nat.lt_or_ge i listed.size with h'|h'
        · simp [h'] at h0 h1;rw [h0] at h1;cases h1
        · simp [Array.getElem?_eq_none h'] at h1
      have h2:=op_putI hoj (hfree j oj hoj hji hjun hnot) (fun cs b=>Region.noSelect_spec hsel i oi cs b hi) (fun cs b=>Region.noSelect_spec hsel j oj cs b hoj) hQ hy h1
      have hfree':∀ k ok,ops[k]?=some ok→k≠i→(listed.setIfInBounds j true).getD k true=false →
          (∀ e∈ok.after,Region.binds .any e=true→e.on≠i)→oi.apart ops ok=true:=fun k ok hk hki hun hno=>by
        refine hfree k ok hk hki ?_ hno
        by_cases hjk:j=k
        · subst hjk;exact hjun
        · rw [getD_set_ne true hjk] at hun;exact hun
      have his:i<ops.size:=(Array.getElem?_eq_some_iff.1 hi).1
      refine wpOpIn_mono (fun a' w' h3=>?_) h2
      by_cases hjm:j=m
      · rw [if_pos hjm] at h3 ⊢
        refine any_of_S _ _ _ _ (first_S (m:=ops.size) hp hi hsel hQ (.inl rfl) (by omega) fuel (listed.setIfInBounds j true) a' w' hfree' (hsh.set hj) (ready_mono hr (Ne.symm hji)) h3.1 trivial ?_)
        rw [Array.setIfInBounds_comm _ _ hji]
        exact S_of_any (Nat.le_refl _) _ _ _ _ h3.2
      · rw [if_neg hjm] at h3 ⊢
        refine ⟨h3.2.1,ih (listed.setIfInBounds j true) a' w' hfree' (hsh.set hj) (ready_mono hr (Ne.symm hji)) h3.1 h3.2.1 ?_⟩
        rw [Array.setIfInBounds_comm _ _ hji]
        exact h3.2.2
/-- A step of a plan. 'fork': the orders that take another operation first here, by numbers (0: one that only looks; 1: another one, behind which all stands that stood before; 2: another one). -/
inductive Stp where
  | q (i:Nat) (o:Oper)
  | l (i:Nat) (o:Oper) (keep:Bool)
  | fork (ps:List (Nat × Nat))
def Stp.idx:Stp→Nat
  | .q i _=>i
  | .l i _ _=>i
  | .fork _=>0
def Stp.oper:Stp→Oper
  | .q _ o=>o
  | .l _ o _=>o
  | .fork _=>default
def Stp.flat:Stp→Bool
  | .fork _=>false
  | _=>true
end
def opAt:List Oper→Nat→Oper
  | [],_=>default
  | o::_,0=>o
  | _::l,n+1=>opAt l n
theorem opAt_get (l:List Oper):∀ i,i<l.length→l[i]?=some (opAt l i):=by
  induction l with
  | nil=>intro i h;simp at h
  | cons o l ih =>
    intro i h
    cases i with
    | zero=>rfl
    | succ i=>simpa [opAt] using ih i (by simpa using h)
def numPlan (l:List Oper) (ps:List (Nat × Nat)):List Stp:=ps.map fun x=>match x.2 with|0=>.q x.1 (opAt l x.1)|1=>.l x.1 (opAt l x.1) true|_=>.l x.1 (opAt l x.1) false
section
variable {P:Program}{ops:Array Oper}{r:Option Nat}{Q:Exit→Act→World→Prop}
def runP0 (P:Program) (r:Option Nat) (ops:Array Oper) (Q:Exit→Act→World→Prop):List Stp→(World→Prop)→Act→World→Prop
  | [],_,a,w=>Q .normal a w
  | .q _ o::rest,S,a,w =>
    (Region.wanted o (yielded ops a.tmps)=true→∃ u,(∀ w',S w'→(execOp a.eval o).run P w'=.ok (.value u) w')∧runP0 P r ops Q rest S (a.put o.dst u) w) ∧
    (Region.wanted o (yielded ops a.tmps)=false→runP0 P r ops Q rest S (a.put o.dst undef) w)
  | .l _ o keep::rest,S,a,w =>
    (Region.wanted o (yielded ops a.tmps)=true→o.wpIn (Fw r) 0 P a w (fun a' w'=>∃ S':World→Prop,S' w'∧(keep=true→∀ x,S' x→S x)∧runP0 P r ops Q rest S' a' w') Q) ∧
    (Region.wanted o (yielded ops a.tmps)=false→runP0 P r ops Q rest S (a.put o.dst undef) w)
  | .fork _::rest,S,a,w=>runP0 P r ops Q rest S a w
def runP (P:Program) (r:Option Nat) (ops:Array Oper) (Q:Exit→Act→World→Prop):List Stp→(World→Prop)→Act→World→Prop
  | [],_,a,w=>Q .normal a w
  | .q _ o::rest,S,a,w =>
    (Region.wanted o (yielded ops a.tmps)=true→∃ u,(∀ w',S w'→(execOp a.eval o).run P w'=.ok (.value u) w')∧runP P r ops Q rest S (a.put o.dst u) w) ∧
    (Region.wanted o (yielded ops a.tmps)=false→runP P r ops Q rest S (a.put o.dst undef) w)
  | .l _ o keep::rest,S,a,w =>
    (Region.wanted o (yielded ops a.tmps)=true→o.wpIn (Fw r) 0 P a w (fun a' w'=>∃ S':World→Prop,S' w'∧(keep=true→∀ x,S' x→S x)∧runP P r ops Q rest S' a' w') Q) ∧
    (Region.wanted o (yielded ops a.tmps)=false→runP P r ops Q rest S (a.put o.dst undef) w)
  | .fork ps::rest,S,a,w=>runP P r ops Q rest S a w∧runP0 P r ops Q (numPlan ops.toList ps) S a w
theorem run0:∀ {l:List Stp}{S:World→Prop}{a:Act}{w:World},(∀ s∈l,s.flat=true)→runP P r ops Q l S a w→runP0 P r ops Q l S a w
  | [],_,_,_,_,h=>h
  | .q i o::l,S,a,w,hf,h=>by
    have hf':∀ s∈l,s.flat=true:=fun s hs=>hf s (by simp [hs])
    refine ⟨fun hw=>?_,fun hw=>run0 hf' (h.2 hw)⟩
    obtain ⟨u,h1,h2⟩:=h.1 hw
    exact ⟨u,h1,run0 hf' h2⟩
  | .l i o keep::l,S,a,w,hf,h=>by
    have hf':∀ s∈l,s.flat=true:=fun s hs=>hf s (by simp [hs])
    exact ⟨fun hw=>Oper.wpIn_mono (fun a' w' ⟨S',h1,h2,h3⟩=>⟨S',h1,h2,run0 hf' h3⟩) (h.1 hw),fun hw=>run0 hf' (h.2 hw)⟩
  | .fork ps::l,S,a,w,hf,h=>by have:=hf (.fork ps) (by simp);cases this
theorem numPlan_flat (l:List Oper) (ps:List (Nat × Nat)):∀ s∈numPlan l ps,s.flat=true:=fun s hs=>by
  unfold numPlan at hs
  obtain ⟨x,_,rfl⟩:=List.mem_map.1 hs
  split<;>rfl
theorem plain_go {l:List Stp}:∀ (k:Nat) (S:World→Prop) (a:Act) (w:World),(∀ j s,l[j]?=some s→ops[k+j]?=some s.oper)→(∀ s∈l,s.flat=true∧∀ i o,s=.q i o→plainOp o.op=true)→S w→runP P r ops Q l S a w →
    wpOpsIn (Fw r) 0 P ops Q (List.range' k l.length) a w:=by
  induction l with
  | nil=>intro k S a w _ _ _ h;exact h
  | cons s l ih =>
    intro k S a w hn hp hS h
    have h0:ops[k]?=some s.oper:=by simpa using hn 0 s rfl
    have hn':∀ j s,l[j]?=some s→ops[k+1+j]?=some s.oper:=fun j s hj=>by
      have:=hn (j+1) s (by simpa using hj)
      rwa [show k+1+j=k+(j+1) by omega]
    have hp':∀ s∈l,s.flat=true∧∀ i o,s=.q i o→plainOp o.op=true:=fun s hs=>hp s (by simp [hs])
    rw [List.length_cons,List.range'_succ,wpOpsIn_cons]
    unfold wpOpIn
    simp only [h0]
    cases s with
    | q i o =>
      simp only [runP] at h
      cases hw:Region.wanted o (yielded ops a.tmps)
      · have hw':Region.wanted (Stp.q i o).oper (yielded ops a.tmps)=false:=hw
        rw [hw']
        exact ⟨fun _ _=>trivial,ih (k+1) S _ w hn' hp' hS (h.2 hw)⟩
      · have hw':Region.wanted (Stp.q i o).oper (yielded ops a.tmps)=true:=hw
        rw [hw']
        obtain ⟨u,h1,h2⟩:=h.1 hw
        simp only [if_true,Oper.wpIn]
        refine ⟨fun _ _=>trivial,?_⟩
        show (Oper.uponIn (Fw r) 0 P o a _ Q ((o.semAt (Fw r).round a.eval).run P w))
        rw [semAt_plain ((hp _ (by simp)).2 i o rfl),h1 w hS]
        exact ih (k+1) S _ w hn' hp' hS h2
    | l i o keep =>
      simp only [runP] at h
      cases hw:Region.wanted o (yielded ops a.tmps)
      · have hw':Region.wanted (Stp.l i o keep).oper (yielded ops a.tmps)=false:=hw
        rw [hw']
        exact ⟨fun _ _=>trivial,ih (k+1) S _ w hn' hp' hS (h.2 hw)⟩
      · have hw':Region.wanted (Stp.l i o keep).oper (yielded ops a.tmps)=true:=hw
        rw [hw']
        simp only [if_true]
        exact Oper.wpIn_mono (fun a' w' ⟨S',h1,_,h3⟩=>ih (k+1) S' a' w' hn' hp' h1 h3) (h.1 hw)
    | fork ps=>have:=(hp (.fork ps) (by simp)).1;cases this
def phaseEnd (n:Nat):List Stp→Nat
  | []=>n
  | .q _ _::l=>phaseEnd n l
  | .l i _ keep::l=>bif keep then phaseEnd n l else i
  | .fork _::l=>phaseEnd n l
def befores (ops:Array Oper) (i:Nat):List Nat:=match ops[i]? with|some o=>(o.after.toList.filter (Region.binds .any)).map (·.on)|none=>[]
def needs (ops:Array Oper):List Stp→List Nat
  | []=>[]
  | .q i _::l=>bif (needs ops l).contains i then befores ops i++needs ops l else needs ops l
  | .l i _ keep::l=>bif keep then (bif (needs ops l).contains i then befores ops i++needs ops l else needs ops l) else befores ops i
  | .fork _::l=>needs ops l
theorem befores_listed {ops:Array Oper}{listed:Array Bool}(hs:ShutL ops listed) {i:Nat}(hi:listed.getD i false=true∨i∈Region.ready .any ops listed):∀ x∈befores ops i,listed.getD x false=true:=by
  intro x hx
  unfold befores at hx
  split at hx
  · rename_i o ho
    simp only [List.mem_map,List.mem_filter,Array.mem_toList_iff] at hx
    obtain ⟨e,⟨he,hb⟩,rfl⟩:=hx
    rcases hi with hi|hi
    · exact hs i o ho hi e he hb
    · obtain ⟨_,o',ho',hall⟩:=mem_ready.1 hi
      rw [ho] at ho';cases ho'
      exact hall e he hb
  · simp at hx
theorem needs_listed {ops:Array Oper}{listed:Array Bool}(hs:ShutL ops listed):∀ (l:List Stp),phaseEnd ops.size l∈Region.ready .any ops listed→∀ x∈needs ops l,listed.getD x false=true
  | [],_,x,hx=>by simp [needs] at hx
  | .q i o::l,hm,x,hx=>by
    have ih:=needs_listed hs l hm
    simp only [needs] at hx
    cases hc:(needs ops l).contains i
    · rw [hc] at hx;exact ih x hx
    · rw [hc] at hx
      rcases List.mem_append.1 hx with h|h
      · exact befores_listed hs (.inl (ih i (by simpa using hc))) x h
      · exact ih x h
  | .l i o keep::l,hm,x,hx=>by
    cases keep with
    | false=>exact befores_listed hs (.inr (by simpa [phaseEnd] using hm)) x (by simpa [needs] using hx)
    | true =>
      have ih:=needs_listed hs l (by simpa [phaseEnd] using hm)
      simp only [needs] at hx
      cases hc:(needs ops l).contains i
      · rw [hc] at hx;exact ih x hx
      · rw [hc] at hx
        rcases List.mem_append.1 hx with h|h
        · exact befores_listed hs (.inl (ih i (by simpa using hc))) x h
        · exact ih x h
  | .fork _::l,hm,x,hx=>needs_listed hs l hm x hx
theorem awaits_of {ops:Array Oper}{l:List Stp}{i:Nat}(h:((waitsFor ops (phaseEnd ops.size l) i||phaseEnd ops.size l==ops.size)||(needs ops l).contains i)=true):Awaits ops (phaseEnd ops.size l) i:=by
  simp only [Bool.or_eq_true,beq_iff_eq] at h
  rcases h with (h|h)|h
  · refine .inr fun listed hs hm=>?_
    obtain ⟨_,o,ho,hall⟩:=mem_ready.1 hm
    simp only [waitsFor,ho,Array.any_eq_true',Bool.and_eq_true,beq_iff_eq] at h
    obtain ⟨e,he,hb,hon⟩:=h
    rw [← hon]
    exact hall e he hb
  · exact .inl h
  · exact .inr fun listed hs hm=>needs_listed hs l hm i (by simpa using h)
def planOk0 (ops:Array Oper):Array Bool→List Stp→Bool
  | listed,[]=>(Region.ready .any ops listed).isEmpty
  | listed,.q i o::l=>plainOp o.op&&(Region.ready .any ops listed).contains i&&Region.free .any ops listed i&&(((waitsFor ops (phaseEnd ops.size l) i||phaseEnd ops.size l==ops.size)||(needs ops l).contains i)||stillOp o.op)&&i != phaseEnd ops.size l&&planOk0 ops (listed.setIfInBounds i true) l
  | listed,.l i _ keep::l=>(Region.ready .any ops listed==[i])&&(!keep||i != phaseEnd ops.size l)&&planOk0 ops (listed.setIfInBounds i true) l
  | _,.fork _::_=>false
def HeadOk (P:Program) (r:Option Nat) (ops:Array Oper) (Q:Exit→Act→World→Prop) (S:World→Prop) (m fuel:Nat) (listed:Array Bool) (a:Act) (w:World) (j:Nat):Prop :=
  wpOpIn (Fw r) 0 P ops Q j (fun a' w'=>if j=m then wpAnyIn (Fw r) 0 P .any ops Q fuel (listed.setIfInBounds j true) a' w' else S w'∧wpAnyS P r ops Q S m fuel (listed.setIfInBounds j true) a' w') a w
theorem head_ok {listed:Array Bool}{S:World→Prop}{a:Act}{w:World}{i:Nat}{o:Oper}{keep:Bool}{n fuel:Nat}{R:(World→Prop)→Act→World→Prop}(hi:ops[i]?=some o) (hS:S w) (hk:keep=true→i≠n)
    (ih:∀ (S':World→Prop) a' w',S' w'→R S' a' w'→wpAnyS P r ops Q S' n fuel (listed.setIfInBounds i true) a' w')
    (h:(Region.wanted o (yielded ops a.tmps)=true→o.wpIn (Fw r) 0 P a w (fun a' w'=>∃ S':World→Prop,S' w'∧(keep=true→∀ x,S' x→S x)∧R S' a' w') Q)∧(Region.wanted o (yielded ops a.tmps)=false→R S (a.put o.dst undef) w)) :
    HeadOk P r ops Q S (bif keep then n else i) fuel listed a w i:=by
  have step:∀ (S':World→Prop) a' w',S' w'→(keep=true→∀ x,S' x→S x)→R S' a' w' →
      (if i=(bif keep then n else i) then wpAnyIn (Fw r) 0 P .any ops Q fuel (listed.setIfInBounds i true) a' w' else S w'∧wpAnyS P r ops Q S (bif keep then n else i) fuel (listed.setIfInBounds i true) a' w'):=by
    intro S' a' w' h1 h2 h3
    have:=ih S' a' w' h1 h3
    cases keep with
    | false =>
      show (if i=i then _ else _)
      rw [if_pos rfl];exact any_of_S _ _ _ _ this
    | true =>
      show (if i=n then _ else _)
      rw [if_neg (hk rfl)]
      exact ⟨h2 rfl _ h1,anyS_mono (h2 rfl) _ _ _ _ this⟩
  unfold HeadOk wpOpIn
  simp only [hi]
  cases hw:Region.wanted o (yielded ops a.tmps)
  · rw [if_neg (by simp)]
    exact ⟨fun _ _=>trivial,step S _ w hS (fun _ _ h=>h) (h.2 hw)⟩
  · rw [if_pos rfl]
    exact Oper.wpIn_mono (fun a' w' ⟨S',h1,h2,h3⟩=>step S' a' w' h1 h2 h3) (h.1 hw)
theorem drawn_go0 (hsel:Region.noSelect ops=true) (hQ:∀ c a d v w,Q (.panic c) (a.put d v) w→Q (.panic c) a w) :
    ∀ (l:List Stp) (listed:Array Bool) (S:World→Prop) (a:Act) (w:World),(∀ s∈l,s.flat=true→ops[s.idx]?=some s.oper)→ShutL ops listed→planOk0 ops listed l=true→S w →
      runP0 P r ops Q l S a w→wpAnyS P r ops Q S (phaseEnd ops.size l) l.length listed a w
  | [],listed,S,a,w,_,_,hok,_,h=>⟨by simpa [planOk0] using hok,h⟩
  | .q i o::l,listed,S,a,w,hn,hsh,hok,hS,h=>by
    simp only [planOk0,Bool.and_eq_true] at hok
    obtain ⟨⟨⟨⟨⟨hp,hr⟩,hf⟩,hl⟩,him⟩,hok'⟩:=hok
    have hi:ops[i]?=some o:=hn (.q i o) (by simp) rfl
    simp only [runP0] at h
    have hn':∀ s∈l,s.flat=true→ops[s.idx]?=some s.oper:=fun s hs=>hn s (by simp [hs])
    show wpAnyS P r ops Q S (phaseEnd ops.size l) (l.length+1) listed a w
    rw [Bool.or_eq_true] at hl
    have hri:i∈Region.ready .any ops listed:=by simpa using hr
    rcases hl with hl|hl
    · cases hw:Region.wanted o (yielded ops a.tmps)
      · exact first_S (v:=undef) hp hi hsel (fun c a w=>hQ c a o.dst undef w) (awaits_of hl) (by simpa using him) l.length listed a w (Region.free_spec hi hf) hsh hri (.inr ⟨hw,rfl⟩) hS
          (drawn_go0 hsel hQ l _ S _ w hn' (hsh.set hri) hok' hS (h.2 hw))
      · obtain ⟨u,h1,h2⟩:=h.1 hw
        exact first_S (v:=u) hp hi hsel (fun c a w=>hQ c a o.dst u w) (awaits_of hl) (by simpa using him) l.length listed a w (Region.free_spec hi hf) hsh hri (.inl ⟨hw,h1⟩) hS
          (drawn_go0 hsel hQ l _ S _ w hn' (hsh.set hri) hok' hS h2)
    · cases hw:Region.wanted o (yielded ops a.tmps)
      · exact first_still (v:=undef) hp hi hsel (fun c a w=>hQ c a o.dst undef w) (by simpa using him) l.length listed a w (Region.free_spec hi hf) hsh hri (.inr ⟨hw,rfl⟩) hS
          (drawn_go0 hsel hQ l _ S _ w hn' (hsh.set hri) hok' hS (h.2 hw))
      · obtain ⟨u,h1,h2⟩:=h.1 hw
        exact first_still (v:=u) hp hi hsel (fun c a w=>hQ c a o.dst u w) (by simpa using him) l.length listed a w (Region.free_spec hi hf) hsh hri (.inl ⟨hw,fun w' _=>still_all hl (h1 w hS) w'⟩) hS
          (drawn_go0 hsel hQ l _ S _ w hn' (hsh.set hri) hok' hS h2)
  | .l i o keep::l,listed,S,a,w,hn,hsh,hok,hS,h=>by
    simp only [planOk0,Bool.and_eq_true,beq_iff_eq] at hok
    obtain ⟨⟨hr,hk⟩,hok'⟩:=hok
    have hi:ops[i]?=some o:=hn (.l i o keep) (by simp) rfl
    have hn':∀ s∈l,s.flat=true→ops[s.idx]?=some s.oper:=fun s hs=>hn s (by simp [hs])
    refine ⟨fun h0=>(by rw [hr] at h0;cases h0),fun j hj=>?_⟩
    have hj0:=hj
    rw [hr] at hj
    obtain rfl:j=i:=by simpa using hj
    exact head_ok (R:=runP0 P r ops Q l) hi hS (fun e=>by rw [e] at hk;simpa using hk) (fun S' a' w' h1 h3=>drawn_go0 hsel hQ l _ S' a' w' hn' (hsh.set hj0) hok' h1 h3) h
def cntP:List Stp→Nat
  | []=>0
  | .fork _::l=>cntP l
  | .q _ _::l=>cntP l+1
  | .l _ _ _::l=>cntP l+1
def headP (n:Nat):List Stp→Option (Nat × Bool × List Stp)
  | .l j _ keep::l=>bif !keep||j != phaseEnd n l then some (j,keep,l) else none
  | _=>none
def planOk (ops:Array Oper):List Nat→Array Bool→List Stp→Bool
  | hs,listed,[]=>hs.isEmpty&&(Region.ready .any ops listed).isEmpty
  | hs,listed,.q i o::l=>hs.isEmpty&&(plainOp o.op&&(Region.ready .any ops listed).contains i&&Region.free .any ops listed i&&(((waitsFor ops (phaseEnd ops.size l) i||phaseEnd ops.size l==ops.size)||(needs ops l).contains i)||stillOp o.op)&&i != phaseEnd ops.size l&&planOk ops [] (listed.setIfInBounds i true) l)
  | hs,listed,.l i _ keep::l=>((Region.ready .any ops listed).contains i&&(Region.ready .any ops listed).all fun x=>x==i||hs.contains x)&&(!keep||i != phaseEnd ops.size l)&&planOk ops [] (listed.setIfInBounds i true) l
  | hs,listed,.fork ps::l=>(match headP ops.size (numPlan ops.toList ps) with
    | some (j,_,l')=>(phaseEnd ops.size (numPlan ops.toList ps)==phaseEnd ops.size l)&&(Region.ready .any ops listed).contains j&&planOk0 ops (listed.setIfInBounds j true) l'&&(cntP l==l'.length+1)&&ps.all (fun x=>decide (x.1<ops.size))&&planOk ops (j::hs) listed l
    | none=>false)
theorem headP_some {n:Nat}{l l':List Stp}{j:Nat}{keep:Bool}(h:headP n l=some (j,keep,l')):∃ o,l=.l j o keep::l'∧(keep=true→j≠phaseEnd n l'):=by
  cases l with
  | nil=>cases h
  | cons s l =>
    cases s with
    | q=>cases h
    | fork=>cases h
    | l i o k =>
      simp only [headP] at h
      cases hc:(!k||i != phaseEnd n l)
      · rw [hc] at h;cases h
      · rw [hc] at h
        cases h
        exact ⟨o,rfl,fun e=>by rw [e] at hc;simpa using hc⟩
theorem numPlan_get {ops:Array Oper}{ps:List (Nat × Nat)}(hps:ps.all (fun x=>decide (x.1<ops.size))=true):∀ s∈numPlan ops.toList ps,ops[s.idx]?=some s.oper:=fun s hs=>by
  simp only [List.all_eq_true,decide_eq_true_eq] at hps
  simp only [numPlan,List.mem_map] at hs
  obtain ⟨x,hx,rfl⟩:=hs
  have:=opAt_get ops.toList x.1 (by simpa using hps x hx)
  split<;>simpa [Stp.idx,Stp.oper] using this
theorem drawn_go (hsel:Region.noSelect ops=true) (hQ:∀ c a d v w,Q (.panic c) (a.put d v) w→Q (.panic c) a w) :
    ∀ (l:List Stp) (hs:List Nat) (listed:Array Bool) (S:World→Prop) (a:Act) (w:World),(∀ s∈l,s.flat=true→ops[s.idx]?=some s.oper)→ShutL ops listed→planOk ops hs listed l=true→S w →
      (∀ j∈hs,HeadOk P r ops Q S (phaseEnd ops.size l) (cntP l-1) listed a w j)→runP P r ops Q l S a w→wpAnyS P r ops Q S (phaseEnd ops.size l) (cntP l) listed a w
  | [],hs,listed,S,a,w,_,_,hok,_,_,h=>by
    simp only [planOk,Bool.and_eq_true] at hok
    exact ⟨by simpa using hok.2,h⟩
  | .q i o::l,hs,listed,S,a,w,hn,hsh,hok,hS,_,h=>by
    simp only [planOk,Bool.and_eq_true] at hok
    obtain ⟨_,⟨⟨⟨⟨⟨hp,hr⟩,hf⟩,hl⟩,him⟩,hok'⟩⟩:=hok
    have hi:ops[i]?=some o:=hn (.q i o) (by simp) rfl
    simp only [runP] at h
    have hn':∀ s∈l,s.flat=true→ops[s.idx]?=some s.oper:=fun s hs=>hn s (by simp [hs])
    show wpAnyS P r ops Q S (phaseEnd ops.size l) (cntP l+1) listed a w
    rw [Bool.or_eq_true] at hl
    have hri:i∈Region.ready .any ops listed:=by simpa using hr
    rcases hl with hl|hl
    · cases hw:Region.wanted o (yielded ops a.tmps)
      · exact first_S (v:=undef) hp hi hsel (fun c a w=>hQ c a o.dst undef w) (awaits_of hl) (by simpa using him) (cntP l) listed a w (Region.free_spec hi hf) hsh hri (.inr ⟨hw,rfl⟩) hS
          (drawn_go hsel hQ l [] _ S _ w hn' (hsh.set hri) hok' hS (fun j hj=>by simp at hj) (h.2 hw))
      · obtain ⟨u,h1,h2⟩:=h.1 hw
        exact first_S (v:=u) hp hi hsel (fun c a w=>hQ c a o.dst u w) (awaits_of hl) (by simpa using him) (cntP l) listed a w (Region.free_spec hi hf) hsh hri (.inl ⟨hw,h1⟩) hS
          (drawn_go hsel hQ l [] _ S _ w hn' (hsh.set hri) hok' hS (fun j hj=>by simp at hj) h2)
    · cases hw:Region.wanted o (yielded ops a.tmps)
      · exact first_still (v:=undef) hp hi hsel (fun c a w=>hQ c a o.dst undef w) (by simpa using him) (cntP l) listed a w (Region.free_spec hi hf) hsh hri (.inr ⟨hw,rfl⟩) hS
          (drawn_go hsel hQ l [] _ S _ w hn' (hsh.set hri) hok' hS (fun j hj=>by simp at hj) (h.2 hw))
      · obtain ⟨u,h1,h2⟩:=h.1 hw
        exact first_still (v:=u) hp hi hsel (fun c a w=>hQ c a o.dst u w) (by simpa using him) (cntP l) listed a w (Region.free_spec hi hf) hsh hri (.inl ⟨hw,fun w' _=>still_all hl (h1 w hS) w'⟩) hS
          (drawn_go hsel hQ l [] _ S _ w hn' (hsh.set hri) hok' hS (fun j hj=>by simp at hj) h2)
  | .l i o keep::l,hs,listed,S,a,w,hn,hsh,hok,hS,hh,h=>by
    simp only [planOk,Bool.and_eq_true] at hok
    obtain ⟨⟨⟨hr,hall⟩,hk⟩,hok'⟩:=hok
    have hi:ops[i]?=some o:=hn (.l i o keep) (by simp) rfl
    have hn':∀ s∈l,s.flat=true→ops[s.idx]?=some s.oper:=fun s hs=>hn s (by simp [hs])
    have hri:i∈Region.ready .any ops listed:=by simpa using hr
    show wpAnyS P r ops Q S (phaseEnd ops.size (.l i o keep::l)) (cntP l+1) listed a w
    refine ⟨fun h0=>(by rw [h0] at hri;cases hri),fun j hj=>?_⟩
    by_cases hji:j=i
    · subst hji
      exact head_ok (R:=runP P r ops Q l) hi hS (fun e=>by rw [e] at hk;simpa using hk) (fun S' a' w' h1 h3=>drawn_go hsel hQ l [] _ S' a' w' hn' (hsh.set hj) hok' h1 (fun j hj=>by simp at hj) h3) h
    · rw [List.all_eq_true] at hall
      have h1:=hall j hj
      exact hh j (by simpa [hji] using h1)
  | .fork ps::l,hs,listed,S,a,w,hn,hsh,hok,hS,hh,h=>by
    simp only [planOk] at hok
    have hn':∀ s∈l,s.flat=true→ops[s.idx]?=some s.oper:=fun s hs=>hn s (by simp [hs])
    cases hp:headP ops.size (numPlan ops.toList ps) with
    | none=>rw [hp] at hok;cases hok
    | some x =>
      obtain ⟨j,keep,l'⟩:=x
      rw [hp] at hok
      simp only [Bool.and_eq_true,beq_iff_eq] at hok
      obtain ⟨⟨⟨⟨⟨hm,hr⟩,hok0⟩,hc⟩,hps⟩,hok'⟩:=hok
      obtain ⟨o,e,hk⟩:=headP_some hp
      have hget:=numPlan_get hps
      rw [e] at hget hm
      have hrj:j∈Region.ready .any ops listed:=by simpa using hr
      refine drawn_go hsel hQ l (j::hs) listed S a w hn' hsh hok' hS (fun x hx=>?_) h.1
      rcases List.mem_cons.1 hx with rfl|hx
      · have h2:=h.2
        rw [e] at h2
        have hm':phaseEnd ops.size l=bif keep then phaseEnd ops.size l' else x:=by rw [← hm];rfl
        rw [hm',hc,Nat.add_sub_cancel]
        exact head_ok (R:=runP0 P r ops Q l') (show ops[x]?=some o from hget (.l x o keep) (by simp)) hS hk (fun S' a' w' h1 h3=>drawn_go0 hsel hQ l' _ S' a' w' (fun s hs _=>hget s (by simp [hs])) (hsh.set hrj) hok0 h1 h3) h2
      · exact hh x hx
end
def textPlan:List Oper→Nat→List Stp
  | [],_=>[]
  | o::l,i=>(bif plainOp o.op then .q i o else .l i o false)::textPlan l (i+1)
def drawnOk (l:List Oper) (ps:List (Nat × Nat)):Bool :=
  ps.all (fun x=>decide (x.1<l.length))&&Region.noSelect l.toArray&&planOk l.toArray [] (Array.replicate l.toArray.size false) (numPlan l ps)&&(ps.length==l.length)
def forkPlan (l:List Oper) (fs:List (List (Nat × Nat))) (ps:List (Nat × Nat)):List Stp:=ps.map fun x=>match x.2 with|0=>.q x.1 (opAt l x.1)|1=>.l x.1 (opAt l x.1) true|2=>.l x.1 (opAt l x.1) false|_=>.fork (fs.getD x.1 [])
def forkOk (l:List Oper) (fs:List (List (Nat × Nat))) (ps:List (Nat × Nat)):Bool :=
  ps.all (fun x=>decide (x.1<l.length)||decide (3≤x.2))&&Region.noSelect l.toArray&&planOk l.toArray [] (Array.replicate l.toArray.size false) (forkPlan l fs ps)&&(cntP (forkPlan l fs ps)==l.length)
section
variable {P:Program}{r:Option Nat}{Q:Exit→Act→World→Prop}{l:List Oper}{id:Nat}{a:Act}{w:World}
theorem textPlan_get:∀ (l:List Oper) (i j:Nat) (s:Stp),(textPlan l i)[j]?=some s→l[j]?=some s.oper
  | [],_,j,s,h=>by simp [textPlan] at h
  | o::l,i,j,s,h=>by
    cases j with
    | zero =>
      simp only [textPlan,List.getElem?_cons_zero,Option.some.injEq] at h ⊢
      rw [← h]
      cases plainOp o.op<;>rfl
    | succ j=>simp only [textPlan,List.getElem?_cons_succ] at h ⊢;exact textPlan_get l (i+1) j s h
theorem textPlan_plain:∀ (l:List Oper) (i:Nat),∀ s∈textPlan l i,∀ k o,s=.q k o→plainOp o.op=true
  | [],_,s,h,_,_,_=>by simp [textPlan] at h
  | o::l,i,s,h,k,o',e=>by
    simp only [textPlan,List.mem_cons] at h
    rcases h with h|h
    · rw [e] at h
      cases hp:plainOp o.op<;>rw [hp] at h<;>cases h
      exact hp
    · exact textPlan_plain l (i+1) s h k o' e
theorem textPlan_flat:∀ (l:List Oper) (i:Nat),∀ s∈textPlan l i,s.flat=true
  | [],_,s,h=>by simp [textPlan] at h
  | o::l,i,s,h=>by
    simp only [textPlan,List.mem_cons] at h
    rcases h with h|h
    · rw [h];cases plainOp o.op<;>rfl
    · exact textPlan_flat l (i+1) s h
theorem textPlan_len:∀ (l:List Oper) (i:Nat),(textPlan l i).length=l.length
  | [],_=>rfl
  | o::l,i=>by simp [textPlan,textPlan_len l (i+1)]
theorem region_text (S:World→Prop) (hS:S w) (h:runP P r l.toArray Q (textPlan l 0) S a w):(Code.region id l.toArray false).wpIn (Fw r) 0 P Q a w:=by
  refine wpIn_region ?_
  have:=plain_go (ops:=l.toArray) (l:=textPlan l 0) 0 S a w (fun j s hj=>by simpa using textPlan_get l 0 j s hj) (fun s hs=>⟨textPlan_flat l 0 s hs,textPlan_plain l 0 s hs⟩) hS h
  rw [textPlan_len] at this
  rwa [List.range_eq_range']
theorem cnt_num (l:List Oper):∀ ps:List (Nat × Nat),cntP (numPlan l ps)=ps.length
  | []=>rfl
  | x::ps=>by
    have ih:=cnt_num l ps
    unfold numPlan at ih ⊢
    rw [List.map_cons,List.length_cons]
    split<;>exact congrArg (·+1) ih
theorem region_drawn (ps:List (Nat × Nat)) (S:World→Prop) (hm:P.follows .mixedOrders=true) (hB:drawnOk l ps=true) (hQ:∀ c a d v w,Q (.panic c) (a.put d v) w→Q (.panic c) a w)
    (hS:S { w with drawn:=w.drawn+1 }) (h:runP P r l.toArray Q (numPlan l ps) S a { w with drawn:=w.drawn+1 }):(Code.region id l.toArray true).wpIn (Fw r) 0 P Q a w:=by
  simp only [drawnOk,Bool.and_eq_true,beq_iff_eq,List.all_eq_true,decide_eq_true_eq] at hB
  obtain ⟨⟨⟨hn,hsel⟩,hok⟩,hlen⟩:=hB
  refine wpIn_region_any hm ?_
  have:=any_of_S _ _ _ _ (drawn_go hsel hQ (numPlan l ps) [] _ S a _ (fun s hs _=>by
    simp only [numPlan,List.mem_map] at hs
    obtain ⟨x,hx,rfl⟩:=hs
    have:=opAt_get l x.1 (hn x hx)
    split<;>simpa [Stp.idx,Stp.oper] using this) (fun j oj _ hl=>by exfalso;rw [Array.getD_eq_getD_getElem?,Array.getElem?_replicate] at hl;split at hl<;>simp at hl) hok hS (fun j hj=>by simp at hj) h)
  rw [show cntP (numPlan l ps)=l.toArray.size by rw [cnt_num,hlen];simp] at this
  exact this
theorem region_fork (fs:List (List (Nat × Nat))) (ps:List (Nat × Nat)) (S:World→Prop) (hm:P.follows .mixedOrders=true) (hB:forkOk l fs ps=true) (hQ:∀ c a d v w,Q (.panic c) (a.put d v) w→Q (.panic c) a w)
    (hS:S { w with drawn:=w.drawn+1 }) (h:runP P r l.toArray Q (forkPlan l fs ps) S a { w with drawn:=w.drawn+1 }):(Code.region id l.toArray true).wpIn (Fw r) 0 P Q a w:=by
  simp only [forkOk,Bool.and_eq_true,beq_iff_eq,List.all_eq_true,Bool.or_eq_true,decide_eq_true_eq] at hB
  obtain ⟨⟨⟨hn,hsel⟩,hok⟩,hlen⟩:=hB
  refine wpIn_region_any hm ?_
  have:=any_of_S _ _ _ _ (drawn_go hsel hQ (forkPlan l fs ps) [] _ S a _ (fun s hs hf=>by
    simp only [forkPlan,List.mem_map] at hs
    obtain ⟨x,hx,rfl⟩:=hs
    have h1:=hn x hx
    split at hf
    · rename_i e;rw [e] at h1;have:=opAt_get l x.1 (by omega);simpa [Stp.idx,Stp.oper] using this
    · rename_i e;rw [e] at h1;have:=opAt_get l x.1 (by omega);simpa [Stp.idx,Stp.oper] using this
    · rename_i e;rw [e] at h1;have:=opAt_get l x.1 (by omega);simpa [Stp.idx,Stp.oper] using this
    · cases hf) (fun j oj _ hl=>by exfalso;rw [Array.getD_eq_getD_getElem?,Array.getElem?_replicate] at hl;split at hl<;>simp at hl) hok hS (fun j hj=>by simp at hj) h)
  rw [hlen] at this
  simpa using this
end
inductive AE where
  | normal
  | exit (id:Nat)
  | goto (l:Nat)
  | ret
  | panic (v:V)
abbrev Post:=AE→Env→Heap→Prop
def mark (D:Nat):Deferred:={ target:=.collected D,args:=#[] }
def DOk (X:Ctx) (I:Imm) (a:Act):Prop:=∃ Ds:List Nat,Ds.Nodup∧a.defers=Ds.map mark++X.base∧∀ D∈Ds,X.w.heap.size≤D∧I D=some (.deferred (some []))
theorem DOk.nil {X:Ctx}{I:Imm}{a:Act}(h:a.defers=[]) (hb:X.base=[]:=by rfl):DOk X I a:=⟨[],List.nodup_nil,by rw [h,hb];rfl,fun D hD=>by simp at hD⟩
theorem DOk.mono {X:Ctx}{I J:Imm}{a:Act}(h:DOk X I a) (hI:I.le J):DOk X J a:=by
  obtain ⟨Ds,h1,h2,h3⟩:=h
  exact ⟨Ds,h1,h2,fun D hD=>⟨(h3 D hD).1,hI _ _ (h3 D hD).2⟩⟩
def St (X:Ctx) (nt:Nat) (env:Env) (H:Heap) (I:Imm) (ρ:List (Option (Nat × Nat))) (a:Act) (w:World):Prop:=EnvOk I ρ nt env a∧WOk X I ρ H w∧DOk X I a
def Lift (X:Ctx) (nt:Nat) (Q:Post):Exit→Act→World→Prop
  | .normal,a,w=>∃ env H I ρ,St X nt env H I ρ a w∧Q .normal env H
  | .exit id,a,w=>∃ env H I ρ,St X nt env H I ρ a w∧Q (.exit id) env H
  | .goto l,a,w=>∃ env H I ρ,St X nt env H I ρ a w∧Q (.goto l) env H
  | .ret,a,w=>∃ env H I ρ,St X nt env H I ρ a w∧Q .ret env H
  | .panic ch,a,w=>∃ v u H I ρ,ch=[{ v:=u,recovered:=false }]∧VRel I ρ v u∧WOk X I ρ H w∧DOk X I a∧Q (.panic v) [] H
  | .outgrown,_,_=>False
structure AW (P:Program) (r:Option Nat) (m nt:Nat) (c:Code) (Q:Post) (env:Env) (H:Heap):Prop where
  out:∀ X I ρ a w,X.ρ.length=m→St X nt env H I ρ a w→c.wpIn (Fw r) 0 P (Lift X nt Q) a w
structure AR (P:Program) (r:Option Nat) (m nt:Nat) (ops:Array Oper) (Q:Post) (l:List Stp) (env:Env) (H:Heap):Prop where
  out:∀ X I ρ a w,X.ρ.length=m→St X nt env H I ρ a w→runP P r ops (Lift X nt Q) l (Keeps I ρ H w) a w
def AE.then (next:Env→Heap→Prop) (Q:Post):Post
  | .normal,env,H=>next env H
  | e,env,H=>Q e env H
def AE.inBlock (id:Nat) (Q:Post):Post
  | .exit id',env,H=>bif Nat.beq id' id then Q .normal env H else Q (.exit id') env H
  | e,env,H=>Q e env H
section
variable {P:Program}{r:Option Nat}{m nt:Nat}{Q Q':Post}{env env':Env}{H H':Heap}{X:Ctx}
theorem Lift.mono (h:∀ e env H,Q e env H→Q' e env H):∀ e a w,Lift X nt Q e a w→Lift X nt Q' e a w
  | .normal,_,_,⟨a,b,c,d,e,f⟩=>⟨a,b,c,d,e,h _ _ _ f⟩
  | .exit _,_,_,⟨a,b,c,d,e,f⟩=>⟨a,b,c,d,e,h _ _ _ f⟩
  | .goto _,_,_,⟨a,b,c,d,e,f⟩=>⟨a,b,c,d,e,h _ _ _ f⟩
  | .ret,_,_,⟨a,b,c,d,e,f⟩=>⟨a,b,c,d,e,h _ _ _ f⟩
  | .panic _,_,_,⟨a,b,c,d,e,f,g,k,l,z⟩=>⟨a,b,c,d,e,f,g,k,l,h _ _ _ z⟩
theorem aw_mono {c:Code}(h:AW P r m nt c Q env H) (hq:∀ e env H,Q e env H→Q' e env H):AW P r m nt c Q' env H:=.mk
  fun X I ρ a w hX hs=>wpIn_mono (h.1 X I ρ a w hX hs) (Lift.mono hq)
theorem aw_skip (h:Q .normal env H):AW P r m nt .skip Q env H:=.mk fun _ I ρ _ _ _ hs=>wpIn_skip ⟨env,H,I,ρ,hs,h⟩
theorem aw_exit {id:Nat}(h:Q (.exit id) env H):AW P r m nt (.exit id) Q env H:=.mk fun _ I ρ _ _ _ hs=>wpIn_exit ⟨env,H,I,ρ,hs,h⟩
theorem aw_ret (h:Q .ret env H):AW P r m nt .ret Q env H:=.mk fun _ I ρ _ _ _ hs=>wpIn_ret ⟨env,H,I,ρ,hs,h⟩
theorem lift_then {nxt:Env→Heap→Prop}{K:Act→World→Prop}(h:∀ env H I ρ a w,St X nt env H I ρ a w→nxt env H→K a w):∀ e a w,Lift X nt (AE.then nxt Q) e a w→Exit.then K (Lift X nt Q) e a w
  | .normal,_,_,⟨_,_,_,_,e,f⟩=>h _ _ _ _ _ _ e f
  | .exit _,_,_,h=>h
  | .goto _,_,_,h=>h
  | .ret,_,_,h=>h
  | .panic _,_,_,h=>h
theorem aw_seq {x y:Code}(h:AW P r m nt x (AE.then (AW P r m nt y Q) Q) env H):AW P r m nt (.seq x y) Q env H:=.mk
  fun X I ρ a w hX hs=>wpIn_seq (wpIn_mono (h.1 X I ρ a w hX hs) (lift_then fun _ _ I ρ a w hs h=>h.1 X I ρ a w hX hs))
theorem eo_bool {I:Imm}{ρ:List (Option (Nat × Nat))}{a:Act}{b:Bool}{x:Operand}(h:EnvOk I ρ nt env a) (hx:eo env x=some (.s (.bool b))):a.eval x=.bool b:=by
  have h1:=eo_rel h hx
  cases h1':a.eval x<;>rw [h1'] at h1<;>cases h1
  rfl
theorem aw_cond {c:Operand}{x y:Code}{b:Bool}(hc:eo env c=some (.s (.bool b))) (ht:b=true→AW P r m nt x Q env H) (hf:b=false→AW P r m nt y Q env H):AW P r m nt (.cond c x y) Q env H:=.mk
  fun X I ρ a w hX hs=>wpIn_cond_split (eo_bool hs.1 hc) (fun e=>(ht e).1 X I ρ a w hX hs) (fun e=>(hf e).1 X I ρ a w hX hs)
theorem aw_block {id:Nat}{c:Code}(h:AW P r m nt c (AE.inBlock id Q) env H):AW P r m nt (.block id c) Q env H:=.mk
  fun X I ρ a w hX hs=>wpIn_block (wpIn_mono (h.1 X I ρ a w hX hs) fun e a w h=>by
    cases e with
    | exit id' =>
      obtain ⟨env,H,I,ρ,hs,hq⟩:=h
      simp only [AE.inBlock] at hq
      simp only [Exit.inBlock]
      cases hb:Nat.beq id' id
      · rw [hb] at hq
        rw [if_neg (fun e=>by rw [e,Nat.beq_refl] at hb;cases hb)]
        exact ⟨env,H,I,ρ,hs,hq⟩
      · rw [hb] at hq
        rw [if_pos (Nat.eq_of_beq_eq_true hb)]
        exact ⟨env,H,I,ρ,hs,hq⟩
    | normal=>exact h
    | goto _=>exact h
    | ret=>exact h
    | panic _=>exact h
    | outgrown=>exact h)
structure SubOf (m nt:Nat) (env:Env) (H:Heap) (env':Env) (H':Heap):Prop where
  out:∀ X I ρ a w,X.ρ.length=m→St X nt env H I ρ a w→∃ I' ρ',I.le I'∧St X nt env' H' I' ρ' a w
theorem aw_sub {c:Code}(hs:SubOf m nt env H env' H') (h:AW P r m nt c Q env' H'):AW P r m nt c Q env H:=.mk fun X I ρ a w hX h1=>by
  obtain ⟨I',ρ',_,h2⟩:=hs.1 X I ρ a w hX h1
  exact h.1 X I' ρ' a w hX h2
theorem wpIn_loopN {F:Fence}{c:Code}{Q:Exit→Act→World→Prop}{a:Act}{w:World}(K:Nat→Act→World→Prop) (j:Nat) (h₀:K j a w)
    (round:∀ j a w,K j a w→c.wpIn F 0 P (Exit.then (fun a' w'=>∃ j',j'<j∧K j' a' w') Q) a w):(Code.loop c).wpIn F 0 P Q a w:=by
  intro b k cs hro hb hr
  have key:∀ j a w,K j a w →
      ∃ e a' w',Q e a' w'∧ArrivesIn (Machine.fenced P F) P (lone (b.atR a (.code c::.inLoop c::k)) cs w) b k cs e a' w':=by
    intro j
    induction j using Nat.strongRecOn with
    | _ j ih =>
      intro a w hI
      obtain ⟨e,a₁,w₁,hq,harr⟩:=round j a w hI b (.inLoop c::k) cs hro hb hr
      cases e with
      | normal =>
        obtain ⟨j',hlt,hI₁⟩:=hq
        obtain ⟨e₂,a₂,w₂,hq₂,harr₂⟩:=ih j' hlt a₁ w₁ hI₁
        exact ⟨e₂,a₂,w₂,hq₂,.of_steps (StepsIn.trans harr (.one (fenced_calm hb hr rfl) stepR_inLoop)) harr₂⟩
      | exit id=>exact ⟨_,a₁,w₁,hq,.pass (x:=.inLoop c) rfl (fun _ _=>.inl (by simp)) harr⟩
      | goto l=>exact ⟨_,a₁,w₁,hq,.pass (x:=.inLoop c) rfl (fun _ _=>.inl (by simp)) harr⟩
      | ret=>exact ⟨_,a₁,w₁,hq,.pass (x:=.inLoop c) rfl (fun _ _=>.inl (by simp)) harr⟩
      | panic ch=>exact ⟨_,a₁,w₁,hq,.pass (x:=.inLoop c) rfl (fun _ _=>.inl (by simp)) harr⟩
      | outgrown=>exact ⟨_,a₁,w₁,hq,.pass (x:=.inLoop c) rfl (fun _ _=>.inl (by simp)) harr⟩
  obtain ⟨e,a',w',hq,harr⟩:=key _ a w h₀
  exact ⟨e,a',w',hq,.of_steps (.one (fenced_calm hb hr rfl) stepR_loop) harr⟩
theorem aw_loop {c:Code}(J:Nat→Env→Heap→Prop) (h0:∃ n,J n env H) (round:∀ n env H,J n env H→AW P r m nt c (AE.then (fun env' H'=>∃ n',n'<n∧J n' env' H') Q) env H):AW P r m nt (.loop c) Q env H:=by
  refine ⟨?_⟩
  intro X I ρ a w hX hs
  obtain ⟨n,hn⟩:=h0
  exact wpIn_loopN (fun n a w=>∃ env H I ρ,St X nt env H I ρ a w∧J n env H) n ⟨env,H,I,ρ,hs,hn⟩ fun n a w ⟨env,H,I,ρ,hs,hJ⟩ =>
    wpIn_mono ((round _ env H hJ).1 X I ρ a w hX hs) (lift_then fun env' H' I' ρ' a' w' hs' ⟨n',hlt,hJ'⟩=>⟨n',hlt,env',H',I',ρ',hs',hJ'⟩)
theorem aw_for {c:Code}(N:Nat) (J:Nat→Prop) (E:Nat→Env) (G:Nat→Heap) (hJ:J 0) (h0:SubOf m nt env H (E 0) (G 0))
    (round:∀ k,k≤N→J k→AW P r m nt c (AE.then (fun env' H'=>k<N∧J (k+1)∧SubOf m nt env' H' (E (k+1)) (G (k+1))) Q) (E k) (G k)):AW P r m nt (.loop c) Q env H:=by
  refine aw_loop (fun n env H=>∃ k,k≤N∧n=N-k∧J k∧SubOf m nt env H (E k) (G k)) ⟨N,0,by omega,by omega,hJ,h0⟩ ?_
  rintro n env H ⟨k,hk,rfl,hj,hs⟩
  refine aw_sub hs (aw_mono (round k hk hj) fun e env' H' h=>?_)
  cases e<;>first|exact h|skip
  exact ⟨N-(k+1),by have:=h.1;omega,k+1,h.1,rfl,h.2.1,h.2.2⟩
variable {ops:Array Oper}{l:List Stp}
theorem WOk.drew {I:Imm}{ρ:List (Option (Nat × Nat))}{w:World}(h:WOk X I ρ H w):WOk X I ρ H { w with drawn:=w.drawn+1 } :=
  ⟨h.len,h.inj,h.imm,h.apart,h.size,h.none,h.arr,h.map,h.mine,h.news,h.le,h.pre,h.os,h.tape,h.out,h.grow,h.keep⟩
theorem aw_region {l:List Oper}{id:Nat}(h:AR P r m nt l.toArray Q (textPlan l 0) env H):AW P r m nt (.region id l.toArray false) Q env H:=.mk
  fun X I ρ a w hX hs=>region_text (Keeps I ρ H w) (Keeps.refl hs.2.1) (h.1 X I ρ a w hX hs)
theorem lift_put:∀ (c:List PanicEntry) (a:Act) (d:Option Tmp) (v:Value) (w:World),Lift X nt Q (.panic c) (a.put d v) w→Lift X nt Q (.panic c) a w:=by
  rintro c a d v w ⟨x,u,H,I,ρ,h1,h2,h3,h4,h5⟩
  refine ⟨x,u,H,I,ρ,h1,h2,h3,?_,h5⟩
  cases d<;>exact h4
theorem aw_drawn {l:List Oper}{id:Nat}(ps:List (Nat × Nat)) (hm:P.follows .mixedOrders=true) (hB:drawnOk l ps=true) (h:AR P r m nt l.toArray Q (numPlan l ps) env H):AW P r m nt (.region id l.toArray true) Q env H:=.mk
  fun X I ρ a w hX hs=>region_drawn ps (Keeps I ρ H w) hm hB lift_put (Keeps.refl (X:=X) hs.2.1.drew) (h.1 X I ρ a { w with drawn:=w.drawn+1 } hX ⟨hs.1,hs.2.1.drew,hs.2.2⟩)
theorem aw_fork {l:List Oper}{id:Nat}(fs:List (List (Nat × Nat))) (ps:List (Nat × Nat)) (hm:P.follows .mixedOrders=true) (hB:forkOk l fs ps=true) (h:AR P r m nt l.toArray Q (forkPlan l fs ps) env H):AW P r m nt (.region id l.toArray true) Q env H:=.mk
  fun X I ρ a w hX hs=>region_fork fs ps (Keeps I ρ H w) hm hB lift_put (Keeps.refl (X:=X) hs.2.1.drew) (h.1 X I ρ a { w with drawn:=w.drawn+1 } hX ⟨hs.1,hs.2.1.drew,hs.2.2⟩)
theorem ar_fork {ps:List (Nat × Nat)}(h:AR P r m nt ops Q l env H) (h':AR P r m nt ops Q (numPlan ops.toList ps) env H):AR P r m nt ops Q (.fork ps::l) env H:=.mk
  fun X I ρ a w hX hs=>⟨h.1 X I ρ a w hX hs,run0 (numPlan_flat _ _) (h'.1 X I ρ a w hX hs)⟩
theorem ar_nil (h:Q .normal env H):AR P r m nt ops Q [] env H:=.mk fun _ I ρ _ _ _ hs=>⟨env,H,I,ρ,hs,h⟩
theorem wanted_none {o:Oper}{y:Nat→Option Bool}(h:o.guard=none):Region.wanted o y=true:=by simp [Region.wanted,h]
theorem ar_q {i d:Nat}{op:Op}{ty:TypeId}{pos:String}{after:Array Edge}{v:V}(h:QS P nt env H ⟨some d,op,ty,pos,after,none⟩ v) (hd:d<nt) (hk:AR P r m nt ops Q l ((d,v)::env) H) :
    AR P r m nt ops Q (.q i ⟨some d,op,ty,pos,after,none⟩::l) env H:=.mk fun X I ρ a w hX hs=>by
  refine ⟨fun _=>?_,fun hw=>by rw [wanted_none rfl] at hw;cases hw⟩
  obtain ⟨u,h1,h2⟩:=h.1 X I ρ a w hs.1 hs.2.1
  refine ⟨u,h2,hk.1 X I ρ _ w hX ⟨hs.1.put h1 hd,hs.2.1,?_⟩⟩
  exact hs.2.2
theorem ar_q_any {i d:Nat}{op:Op}{ty:TypeId}{pos:String}{after:Array Edge}{C:V→Prop}(h:∀ X I ρ a w,EnvOk I ρ nt env a→WOk X I ρ H w→∃ v,C v∧∃ u,VRel I ρ v u∧∀ w',Keeps I ρ H w w'→(execOp a.eval ⟨some d,op,ty,pos,after,none⟩).run P w'=.ok (.value u) w') (hd:d<nt)
    (hk:∀ v,C v→AR P r m nt ops Q l ((d,v)::env) H):AR P r m nt ops Q (.q i ⟨some d,op,ty,pos,after,none⟩::l) env H:=.mk fun X I ρ a w hX hs=>by
  refine ⟨fun _=>?_,fun hw=>by rw [wanted_none rfl] at hw;cases hw⟩
  obtain ⟨v,hC,u,h1,h2⟩:=h X I ρ a w hs.1 hs.2.1
  refine ⟨u,h2,(hk v hC).1 X I ρ _ w hX ⟨hs.1.put h1 hd,hs.2.1,?_⟩⟩
  exact hs.2.2
def Stp.bare:Stp→Stp
  | .q i o=>.q i { o with guard:=none }
  | .l i o k=>.l i { o with guard:=none } k
  | .fork ps=>.fork ps
theorem ar_guard {s:Stp}{g t d:Nat}{b want:Bool}(hg:s.oper.guard=some (g,want)) (ht:(ops[g]?).bind (·.dst)=some t) (hb:look env t=some (.s (.bool b))) (hd:s.oper.dst=some d) (hdn:d<nt)
    (hy:b=want→AR P r m nt ops Q (s.bare::l) ((t,.s (.bool want))::env) H) (hn:b=!want→AR P r m nt ops Q l ((d,.s undef)::(t,.s (.bool !want))::env) H):AR P r m nt ops Q (s::l) env H:=.mk fun X I ρ a w hX hs=>by
  obtain ⟨h1,h2⟩:=hs.1.2 t _ hb
  have ev:a.tmps.getD t undef=.bool b:=by cases h2':a.tmps.getD t undef<;>rw [h2'] at h2<;>cases h2;rfl
  have ey:yielded ops a.tmps g=some b:=by
    unfold yielded
    have hlt:t<a.tmps.size:=by rw [hs.1.1];exact h1
    simp only [ht,Option.bind_some]
    simp [hlt] at ev
    simp [hlt,ev]
  have hw:Region.wanted s.oper (yielded ops a.tmps)=(b==want):=by
    unfold Region.wanted
    rw [hg]
    simp only [ey]
    cases b<;>cases want<;>rfl
  have sub:∀ b',b=b'→EnvOk I ρ nt ((t,.s (.bool b'))::env) a:=fun b' e=>by
    subst e
    refine ⟨hs.1.1,fun t' v' h'=>?_⟩
    rw [look_cons] at h'
    split at h'
    · rename_i e;subst e;cases h';exact ⟨h1,h2⟩
    · exact hs.1.2 t' v' h'
  by_cases e:b=want
  · have ih:=(hy e).1 X I ρ a w hX ⟨sub _ e,hs.2⟩
    clear hy hn
    have hwt:Region.wanted s.oper (yielded ops a.tmps)=true:=by rw [hw,e];simp
    cases s with
    | q i o =>
      have ih:(Region.wanted { o with guard:=none } (yielded ops a.tmps)=true→_)∧_:=ih
      exact ⟨fun _=>ih.1 (wanted_none rfl),fun h'=>absurd (h'.symm.trans hwt) (by decide)⟩
    | l i o k =>
      have ih:(Region.wanted { o with guard:=none } (yielded ops a.tmps)=true→_)∧_:=ih
      exact ⟨fun _=>ih.1 (wanted_none rfl),fun h'=>absurd (h'.symm.trans hwt) (by decide)⟩
    | fork ps=>cases hg
  · have e':b=!want:=by cases b<;>cases want<;>simp_all
    have hwf:Region.wanted s.oper (yielded ops a.tmps)=false:=by rw [hw,e'];cases want<;>rfl
    have ih:runP P r ops (Lift X nt Q) l (Keeps I ρ H w) (a.put (some d) undef) w:=(hn e').1 X I ρ _ w hX ⟨(sub _ e').put (.s _) hdn,hs.2.1,hs.2.2⟩
    rw [← hd] at ih
    cases s with
    | q i o=>exact ⟨fun h'=>absurd (h'.symm.trans hwf) (by decide),fun _=>ih⟩
    | l i o k=>exact ⟨fun h'=>absurd (h'.symm.trans hwf) (by decide),fun _=>ih⟩
    | fork ps=>cases hg
structure LS (P:Program) (r:Option Nat) (m nt:Nat) (keep:Bool) (env:Env) (H:Heap) (o:Oper) (R Rp:V→Heap→Prop):Prop where
  out:∀ X I ρ a w next Qx,X.ρ.length=m→St X nt env H I ρ a w →
    (∀ I' ρ' H' v u w',R v H'→I.le I'→Pre ρ ρ'→WOk X I' ρ' H' w'→VRel I' ρ' v u→(keep=true→∀ x,Keeps I' ρ' H' w' x→Keeps I ρ H w x)→next (a.put o.dst u) w') →
    (∀ I' ρ' H' v u w',Rp v H'→I.le I'→WOk X I' ρ' H' w'→VRel I' ρ' v u→Qx (.panic [{ v:=u,recovered:=false }]) a w') →
    o.wpIn (Fw r) 0 P a w next Qx
def NoP:V→Heap→Prop:=fun _ _=>False
theorem ar_l {i d:Nat}{op:Op}{ty:TypeId}{pos:String}{after:Array Edge}{keep:Bool}{R Rp:V→Heap→Prop}(h:LS P r m nt keep env H ⟨some d,op,ty,pos,after,none⟩ R Rp) (hd:d<nt)
    (hk:∀ v H',R v H'→AR P r m nt ops Q l ((d,v)::env) H') (hp:∀ v H',Rp v H'→Q (.panic v) [] H'):AR P r m nt ops Q (.l i ⟨some d,op,ty,pos,after,none⟩ keep::l) env H:=.mk fun X I ρ a w hX hs=>by
  refine ⟨fun _=>?_,fun hw=>by rw [wanted_none rfl] at hw;cases hw⟩
  refine h.1 X I ρ a w _ _ hX hs (fun I' ρ' H' v u w' hR hI hρ hw hv hK=>?_) (fun I' ρ' H' v u w' hR hI hw hv=>⟨v,u,H',I',ρ',rfl,hv,hw,hs.2.2.mono hI,hp v H' hR⟩)
  exact ⟨Keeps I' ρ' H' w',Keeps.refl hw,hK,(hk v H' hR).1 X I' ρ' _ w' hX ⟨(hs.1.mono hI hρ).put hv hd,hw,hs.2.2.mono hI⟩⟩
theorem ar_l0 {i:Nat}{op:Op}{ty:TypeId}{pos:String}{after:Array Edge}{keep:Bool}{R Rp:V→Heap→Prop}(h:LS P r m nt keep env H ⟨none,op,ty,pos,after,none⟩ R Rp)
    (hk:∀ v H',R v H'→AR P r m nt ops Q l env H') (hp:∀ v H',Rp v H'→Q (.panic v) [] H'):AR P r m nt ops Q (.l i ⟨none,op,ty,pos,after,none⟩ keep::l) env H:=.mk fun X I ρ a w hX hs=>by
  refine ⟨fun _=>?_,fun hw=>by rw [wanted_none rfl] at hw;cases hw⟩
  refine h.1 X I ρ a w _ _ hX hs (fun I' ρ' H' v u w' hR hI hρ hw hv hK=>?_) (fun I' ρ' H' v u w' hR hI hw hv=>⟨v,u,H',I',ρ',rfl,hv,hw,hs.2.2.mono hI,hp v H' hR⟩)
  exact ⟨Keeps I' ρ' H' w',Keeps.refl hw,hK,(hk v H' hR).1 X I' ρ' _ w' hX ⟨hs.1.mono hI hρ,hw,hs.2.2.mono hI⟩⟩
end
section
variable {X:Ctx}{I I':Imm}{ρ ρ':List (Option (Nat × Nat))}{H H':Heap}{w w':World}
def Ctx.self (w:World) (ρ:List (Option (Nat × Nat))) (H:Heap) (I:Imm):Ctx:=⟨w,ρ,H,I,[]⟩
theorem WOk.lt (h:WOk X I ρ H w) {b:Nat}(hb:Live H ρ b):b<w.heap.size:=by
  obtain ⟨k,blk,h1,h2,z,h3⟩:=hb
  cases blk with
  | dead=>exact (h2 rfl).elim
  | arr sz n f =>
    obtain ⟨cs,ty,h4,_⟩:=h.arr _ _ _ _ _ _ h1 h3
    exact (Array.getElem?_eq_some_iff.1 h4).1
  | map m =>
    obtain ⟨b',h5,es,clk,h6,_⟩:=h.map _ _ h1
    rw [h3] at h5
    cases h5
    exact (Array.getElem?_eq_some_iff.1 h6).1
theorem WOk.self (h:WOk X I ρ H w):WOk (Ctx.self w ρ H I) I ρ H w :=
  ⟨h.len,h.inj,h.imm,h.apart,h.size,h.none,h.arr,h.map,fun _ hb=>.inr hb,fun _ hb=>.inl hb,Imm.le_refl _,Pre.refl _,rfl,rfl,rfl,Nat.le_refl _,fun _ _ _=>rfl⟩
theorem WOk.trans (h:WOk X I ρ H w) (k:WOk (Ctx.self w ρ H I) I' ρ' H' w'):WOk X I' ρ' H' w' where
  len:=k.len
  inj:=k.inj
  imm:=k.imm
  apart:=k.apart
  size:=k.size
  none:=k.none
  arr:=k.arr
  map:=k.map
  mine:=fun b hb=>by
    rcases k.mine b hb with h1|h1
    · exact .inl (Nat.le_trans h.grow h1)
    · exact h.mine b h1
  news:=fun b hb=>by
    rcases k.news b hb with h1|h1|h1
    · exact h.news b h1
    · exact .inr (.inl (Nat.le_trans h.grow h1))
    · exact .inr (h.mine b h1)
  le:=Imm.le_trans h.le k.le
  pre:=h.pre.trans k.pre
  os:=k.os.trans h.os
  tape:=k.tape.trans h.tape
  out:=k.out.trans h.out
  grow:=Nat.le_trans h.grow k.grow
  keep:=fun b hb hl=>by
    have h1:¬ Live H ρ b:=fun hL=>by
      rcases h.mine b hL with h2|h2
      · omega
      · exact hl h2
    exact (k.keep b (Nat.lt_of_lt_of_le hb h.grow) h1).trans (h.keep b hb hl)
theorem ArrRel.mono {b z sz n:Nat}{f:Nat→V}(h:ArrRel I ρ w b z sz n f) (hI:I.le I') (hρ:Pre ρ ρ') (hw:w'.heap[b]?=w.heap[b]?):ArrRel I' ρ' w' b z sz n f:=by
  obtain ⟨cs,ty,h1,h2,h3,h4⟩:=h
  refine ⟨cs,ty,hw.trans h1,h2,h3,fun i j v hi hj=>?_⟩
  obtain ⟨u,h5,h6⟩:=h4 i j v hi hj
  exact ⟨u,h5,h6.mono hI hρ⟩
theorem MapRel.mono {b:Nat}{m:List (Value × V)}(h:MapRel I ρ w b m) (hI:I.le I') (hρ:Pre ρ ρ') (hw:w'.heap[b]?=w.heap[b]?):MapRel I' ρ' w' b m:=by
  obtain ⟨es,clk,h1,h2,h3⟩:=h
  refine ⟨es,clk,hw.trans h1,h2,fun i e x hi hx=>?_⟩
  obtain ⟨h4,h5⟩:=h3 i e x hi hx
  exact ⟨h4,h5.mono hI hρ⟩
theorem pre_append (x:Option (Nat × Nat)):Pre ρ (ρ++[x]):=fun k y h=>by
  rw [List.getElem?_append_left (List.getElem?_eq_some_iff.1 h).1];exact h
theorem live_append (hlen:ρ.length=H.length) {blk:Blk}{x:Option (Nat × Nat)}{b:Nat}(h:Live (H++[blk]) (ρ++[x]) b):Live H ρ b∨∃ z,x=some (b,z)∧blk≠.dead:=by
  obtain ⟨k,bl,h1,h2,z,h3⟩:=h
  by_cases hk:k<H.length
  · rw [List.getElem?_append_left hk] at h1
    rw [List.getElem?_append_left (by omega)] at h3
    exact .inl ⟨k,bl,h1,h2,z,h3⟩
  · have:k=H.length:=by
      have:=(List.getElem?_eq_some_iff.1 h1).1
      simp at this
      omega
    subst this
    simp at h1
    rw [← hlen] at h3
    simp at h3
    exact .inr ⟨z,h3,by rw [h1];exact h2⟩
theorem get_append_lt {α:Type}{l:List α}{x y:α}{k:Nat}(h:(l++[x])[k]?=some y):(k<l.length∧l[k]?=some y)∨(k=l.length∧x=y):=by
  by_cases hk:k<l.length
  · rw [List.getElem?_append_left hk] at h;exact .inl ⟨hk,h⟩
  · have:=(List.getElem?_eq_some_iff.1 h).1
    simp at this
    have e:k=l.length:=by omega
    subst e
    simp at h
    exact .inr ⟨rfl,h⟩
theorem WOk.adopt (h:WOk X I ρ H w) {cb:Nat}{cs:Array Value}{ty:TypeId}{sz n:Nat}{f:Nat→V}(hL:¬ Live H ρ cb) (hI:I cb=Option.none) (hm:X.w.heap.size≤cb∨Live X.H X.ρ cb) (hn:n*sz≤cs.size) (hs:∀ i,i<n→(f i).cells.length=sz)
    (hr:∀ (i j:Nat) v,i<n→(f i).cells[j]?=some v→∃ u,cs[i*sz+j]?=some u∧VRel I ρ v u) (hnew:w'.heap[cb]?=some (.cells cs ty (0,0))) (hold:∀ c,c≠cb→c<w.heap.size→w'.heap[c]?=w.heap[c]?) (hsize:w.heap.size≤w'.heap.size)
    (ho:w'.os=w.os) (ht:w'.tape=w.tape) (hout:w'.output=w.output) :
    WOk X I (ρ++[some (cb,cs.size)]) (H++[.arr sz n f]) w':=by
  have old:∀ b,Live H ρ b→w'.heap[b]?=w.heap[b]?:=fun b hb=>hold b (fun e=>hL (e▸hb)) (h.lt hb)
  refine { len:=by simp [h.len],inj:=?_,imm:=?_,apart:=?_,size:=?_,none:=?_,arr:=?_,map:=?_,mine:=?_,news:=h.news,le:=h.le,pre:=h.pre.trans (pre_append _),os:=ho.trans h.os,tape:=ht.trans h.tape,out:=hout.trans h.out,grow:=Nat.le_trans h.grow hsize,keep:=?_ }
  · rintro i j b ⟨x,hx,hx'⟩ ⟨y,hy,hy'⟩ z1 z2 h1 h2
    rcases get_append_lt hx with ⟨a1,a2⟩|⟨a1,a2⟩<;>rcases get_append_lt hy with ⟨b1,b2⟩|⟨b1,b2⟩
    · rw [List.getElem?_append_left (by rw [h.len];exact a1)] at h1
      rw [List.getElem?_append_left (by rw [h.len];exact b1)] at h2
      exact h.inj i j b ⟨x,a2,hx'⟩ ⟨y,b2,hy'⟩ z1 z2 h1 h2
    · rw [List.getElem?_append_left (by rw [h.len];exact a1)] at h1
      rw [b1,← h.len] at h2
      simp at h2
      exact (hL ⟨i,x,a2,hx',z1,by rw [h2.1];exact h1⟩).elim
    · rw [List.getElem?_append_left (by rw [h.len];exact b1)] at h2
      rw [a1,← h.len] at h1
      simp at h1
      exact (hL ⟨j,y,b2,hy',z2,by rw [h1.1];exact h2⟩).elim
    · omega
  · intro b o hb
    have:=h.imm b o hb
    rw [hold b (fun e=>by subst e;rw [hI] at hb;cases hb) (Array.getElem?_eq_some_iff.1 this).1]
    exact this
  · intro b hb
    rcases live_append h.len hb with h1|⟨z,h1,_⟩
    · exact h.apart b h1
    · simp at h1;rw [← h1.1];exact hI
  · intro k sz' n' f' hk
    rcases get_append_lt hk with ⟨_,a2⟩|⟨_,a2⟩
    · exact h.size k sz' n' f' a2
    · cases a2;exact hs
  · intro k sz' n' f' hk hρ
    rcases get_append_lt hk with ⟨a1,a2⟩|⟨a1,a2⟩
    · rw [List.getElem?_append_left (by rw [h.len];exact a1)] at hρ
      exact h.none k sz' n' f' a2 hρ
    · rw [a1,← h.len] at hρ;simp at hρ
  · intro k sz' n' f' b z hk hρ
    rcases get_append_lt hk with ⟨a1,a2⟩|⟨a1,a2⟩
    · rw [List.getElem?_append_left (by rw [h.len];exact a1)] at hρ
      exact (h.arr k sz' n' f' b z a2 hρ).mono (Imm.le_refl _) (pre_append _) (old b ⟨k,_,a2,by simp,z,hρ⟩)
    · rw [a1,← h.len] at hρ
      simp at hρ
      obtain ⟨rfl,rfl⟩:=hρ
      cases a2
      refine ⟨cs,ty,hnew,rfl,hn,fun i j v hi hj=>?_⟩
      obtain ⟨u,h5,h6⟩:=hr i j v hi hj
      exact ⟨u,h5,h6.mono (Imm.le_refl _) (pre_append _)⟩
  · intro k m hk
    rcases get_append_lt hk with ⟨a1,a2⟩|⟨a1,a2⟩
    · obtain ⟨b,h1,h2⟩:=h.map k m a2
      exact ⟨b,by rw [List.getElem?_append_left (by rw [h.len];exact a1)];exact h1,h2.mono (Imm.le_refl _) (pre_append _) (old b ⟨k,_,a2,by simp,0,h1⟩)⟩
    · cases a2
  · intro b hb
    rcases live_append h.len hb with h1|⟨z,h1,_⟩
    · exact h.mine b h1
    · simp at h1;rw [← h1.1];exact hm
  · intro b hb hl
    have hb':b<w.heap.size:=Nat.lt_of_lt_of_le hb h.grow
    rw [hold b (fun e=>by
      subst e
      rcases hm with h1|h1
      · omega
      · exact hl h1) hb']
    exact h.keep b hb hl
theorem WOk.alloc (h:WOk X I ρ H w) {cs:Array Value}{ty:TypeId}{sz n:Nat}{f:Nat→V}(hn:n*sz≤cs.size) (hs:∀ i,i<n→(f i).cells.length=sz)
    (hr:∀ (i j:Nat) v,i<n→(f i).cells[j]?=some v→∃ u,cs[i*sz+j]?=some u∧VRel I ρ v u) (hd:w'.heap=w.heap.push (.cells cs ty)) (ho:w'.os=w.os) (ht:w'.tape=w.tape) (hout:w'.output=w.output) :
    WOk X I (ρ++[some (w.heap.size,cs.size)]) (H++[.arr sz n f]) w' :=
  h.adopt (fun hb=>by have:=h.lt hb;omega) (by
    cases hI:I w.heap.size with
    | none=>rfl
    | some o =>
      have:=(Array.getElem?_eq_some_iff.1 (h.imm _ o hI)).1
      omega) (.inl h.grow) hn hs hr (ty:=ty) (by rw [hd];simp) (fun c hc hlt=>by rw [hd,Array.getElem?_push];simp [hc]) (by rw [hd];simp) ho ht hout
theorem WOk.kill (h:WOk X I ρ H w) (k:Nat):WOk X I ρ (H.set k .dead) w:=by
  have get:∀ (j:Nat) blk,(H.set k .dead)[j]?=some blk→blk≠.dead→j≠k∧H[j]?=some blk:=fun j blk hj hd=>by
    rw [List.getElem?_set] at hj
    by_cases e:k=j
    · subst e
      rw [if_pos rfl] at hj
      split at hj
      · cases hj;exact (hd rfl).elim
      · cases hj
    · rw [if_neg e] at hj;exact ⟨fun x=>e x.symm,hj⟩
  have alive:∀ (j:Nat),(∃ x:Blk,(H.set k .dead)[j]?=some x∧x≠.dead)→∃ x:Blk,H[j]?=some x∧x≠.dead:=fun j ⟨x,hx,hx'⟩=>⟨x,(get j x hx hx').2,hx'⟩
  have live:∀ c,Live (H.set k .dead) ρ c→Live H ρ c:=fun c ⟨j,x,h1,h2,z',h3⟩=>⟨j,x,(get j x h1 h2).2,h2,z',h3⟩
  exact { len:=by simp [h.len],inj:=fun i j c hi hj=>h.inj i j c (alive i hi) (alive j hj),imm:=h.imm,apart:=fun c hc=>h.apart c (live c hc),size:=fun j sz n f hj=>h.size j sz n f (get j _ hj (by simp)).2,none:=fun j sz n f hj=>h.none j sz n f (get j _ hj (by simp)).2,arr:=fun j sz n f b z hj=>h.arr j sz n f b z (get j _ hj (by simp)).2,map:=fun j m hj=>h.map j m (get j _ hj (by simp)).2,mine:=fun c hc=>h.mine c (live c hc),news:=h.news,le:=h.le,pre:=h.pre,os:=h.os,tape:=h.tape,out:=h.out,grow:=h.grow,keep:=h.keep }
theorem not_live_kill (h:WOk X I ρ H w) {k:Nat}{blk:Blk}{b z:Nat}(hk:H[k]?=some blk) (hd:blk≠.dead) (hb:ρ[k]?=some (some (b,z))):¬ Live (H.set k .dead) ρ b:=by
  rintro ⟨j,x,h1,h2,z',h3⟩
  rw [List.getElem?_set] at h1
  by_cases e:k=j
  · subst e
    rw [if_pos rfl] at h1
    split at h1
    · cases h1;exact h2 rfl
    · cases h1
  · rw [if_neg e] at h1
    exact e (h.inj k j b ⟨_,hk,hd⟩ ⟨_,h1,h2⟩ z z' hb h3)
theorem WOk.virtual (h:WOk X I ρ H w) {sz:Nat}{f:Nat→V}:WOk X I (ρ++[Option.none]) (H++[.arr sz 0 f]) w:=by
  have live:∀ c,Live (H++[.arr sz 0 f]) (ρ++[Option.none]) c→Live H ρ c:=fun c hc=>by
    rcases live_append h.len hc with h1|⟨z,h1,_⟩
    · exact h1
    · cases h1
  have back:∀ (j:Nat) blk b z,(H++[.arr sz 0 f])[j]?=some blk→(ρ++[Option.none])[j]?=some (some (b,z))→H[j]?=some blk∧ρ[j]?=some (some (b,z)):=fun j blk b z h1 h2=>by
    rcases get_append_lt h1 with ⟨a1,a2⟩|⟨a1,a2⟩
    · rw [List.getElem?_append_left (by rw [h.len];exact a1)] at h2;exact ⟨a2,h2⟩
    · rw [a1,← h.len] at h2;simp at h2
  refine { len:=by simp [h.len],inj:=?_,imm:=h.imm,apart:=fun c hc=>h.apart c (live c hc),size:=?_,none:=?_,arr:=?_,map:=?_,mine:=fun c hc=>h.mine c (live c hc),news:=h.news,le:=h.le,pre:=h.pre.trans (pre_append _),os:=h.os,tape:=h.tape,out:=h.out,grow:=h.grow,keep:=h.keep }
  · rintro i j b ⟨x,hx,hx'⟩ ⟨y,hy,hy'⟩ z1 z2 h1 h2
    obtain ⟨a1,a2⟩:=back i x b z1 hx h1
    obtain ⟨b1,b2⟩:=back j y b z2 hy h2
    exact h.inj i j b ⟨x,a1,hx'⟩ ⟨y,b1,hy'⟩ z1 z2 a2 b2
  · intro k sz' n' f' hk
    rcases get_append_lt hk with ⟨_,a2⟩|⟨_,a2⟩
    · exact h.size k sz' n' f' a2
    · cases a2;intro i hi;omega
  · intro k sz' n' f' hk hρ
    rcases get_append_lt hk with ⟨a1,a2⟩|⟨a1,a2⟩
    · rw [List.getElem?_append_left (by rw [h.len];exact a1)] at hρ
      exact h.none k sz' n' f' a2 hρ
    · cases a2;rfl
  · intro k sz' n' f' b z hk hρ
    obtain ⟨a1,a2⟩:=back k _ b z hk hρ
    exact (h.arr k sz' n' f' b z a1 a2).mono (Imm.le_refl _) (pre_append _) rfl
  · intro k m hk
    rcases get_append_lt hk with ⟨a1,a2⟩|⟨a1,a2⟩
    · obtain ⟨b,h1,h2⟩:=h.map k m a2
      exact ⟨b,by rw [List.getElem?_append_left (by rw [h.len];exact a1)];exact h1,h2.mono (Imm.le_refl _) (pre_append _) rfl⟩
    · cases a2
theorem keeps_alloc (h:WOk X I ρ H w) {x:Option (Nat × Nat)}{blk:Blk}(old:∀ b,b<w.heap.size→w'.heap[b]?=w.heap[b]?):∀ y,Keeps I (ρ++[x]) (H++[blk]) w' y→Keeps I ρ H w y:=fun y hy=>by
  refine ⟨hy.1,fun k sz n f b z hk hρ o ho=>?_,fun k m b z hk hρ=>?_⟩
  · have:=hy.2.1 k sz n f b z (by rw [List.getElem?_append_left (List.getElem?_eq_some_iff.1 hk).1];exact hk) (by rw [List.getElem?_append_left (List.getElem?_eq_some_iff.1 hρ).1];exact hρ) o ho
    rw [this]
    exact World.cell?_of_block (a:=⟨b,o,none⟩) (old b (h.lt ⟨k,_,hk,by simp,z,hρ⟩))
  · have:=hy.2.2 k m b z (by rw [List.getElem?_append_left (List.getElem?_eq_some_iff.1 hk).1];exact hk) (by rw [List.getElem?_append_left (List.getElem?_eq_some_iff.1 hρ).1];exact hρ)
    rw [this]
    exact old b (h.lt ⟨k,_,hk,by simp,z,hρ⟩)
theorem WOk.write (h:WOk X I ρ H w) {k sz n b z:Nat}{f g:Nat→V}(hk:H[k]?=some (.arr sz n f)) (hb:ρ[k]?=some (some (b,z))) {cs:Array Value}{ty:TypeId}(hsz:cs.size=z) (hs:∀ i,i<n→(g i).cells.length=sz)
    (hr:∀ (i j:Nat) v,i<n→(g i).cells[j]?=some v→∃ u,cs[i*sz+j]?=some u∧VRel I ρ v u) (hnew:w'.heap[b]?=some (.cells cs ty (0,0))) (hold:∀ c,c≠b→w'.heap[c]?=w.heap[c]?) (hsize:w'.heap.size=w.heap.size)
    (ho:w'.os=w.os) (ht:w'.tape=w.tape) (hout:w'.output=w.output):WOk X I ρ (H.set k (.arr sz n g)) w':=by
  have hL:Live H ρ b:=⟨k,_,hk,by simp,z,hb⟩
  have hkl:k<H.length:=(List.getElem?_eq_some_iff.1 hk).1
  have get:∀ (j:Nat) blk,(H.set k (.arr sz n g))[j]?=some blk→(j=k∧blk=.arr sz n g)∨(j≠k∧H[j]?=some blk):=fun j blk hj=>by
    rw [List.getElem?_set] at hj
    by_cases e:k=j
    · subst e;rw [if_pos rfl,if_pos hkl] at hj;cases hj;exact .inl ⟨rfl,rfl⟩
    · rw [if_neg e] at hj;exact .inr ⟨fun x=>e x.symm,hj⟩
  have alive:∀ (j:Nat),(∃ x:Blk,(H.set k (.arr sz n g))[j]?=some x∧x≠.dead)→∃ x:Blk,H[j]?=some x∧x≠.dead:=fun j ⟨x,hx,hx'⟩=>by
    rcases get j x hx with ⟨rfl,_⟩|⟨_,h1⟩
    · exact ⟨_,hk,by simp⟩
    · exact ⟨x,h1,hx'⟩
  have live:∀ c,Live (H.set k (.arr sz n g)) ρ c→Live H ρ c:=fun c ⟨j,x,h1,h2,z',h3⟩=>by
    obtain ⟨y,h4,h5⟩:=alive j ⟨x,h1,h2⟩
    exact ⟨j,y,h4,h5,z',h3⟩
  have other:∀ (j c:Nat) z',(∃ x:Blk,H[j]?=some x∧x≠.dead)→j≠k→ρ[j]?=some (some (c,z'))→w'.heap[c]?=w.heap[c]?:=fun j c z' hx hj hc=>by
    refine hold c fun e=>hj ?_
    subst e
    exact h.inj j k c hx ⟨_,hk,by simp⟩ z' z hc hb
  refine h.trans { len:=by simp [h.len],inj:=fun i j c hi hj=>h.inj i j c (alive i hi) (alive j hj),imm:=?_,apart:=fun c hc=>h.apart c (live c hc),size:=?_,none:=?_,arr:=?_,map:=?_,mine:=fun c hc=>.inr (live c hc),news:=fun _ hb=>.inl hb,le:=Imm.le_refl _,pre:=Pre.refl _,os:=ho,tape:=ht,out:=hout,grow:=by show w.heap.size≤_;omega,keep:=?_ }
  · intro c o hc
    have:c≠b:=fun e=>by subst e;rw [h.apart c hL] at hc;cases hc
    rw [hold c this]
    exact h.imm c o hc
  · intro j sz' n' f' hj
    rcases get j _ hj with ⟨_,h1⟩|⟨_,h1⟩
    · cases h1;exact hs
    · exact h.size j sz' n' f' h1
  · intro j sz' n' f' hj hρ
    rcases get j _ hj with ⟨rfl,h1⟩|⟨_,h1⟩
    · rw [hb] at hρ;cases hρ
    · exact h.none j sz' n' f' h1 hρ
  · intro j sz' n' f' c z' hj hρ
    rcases get j _ hj with ⟨rfl,h1⟩|⟨hne,h1⟩
    · rw [hb] at hρ
      cases hρ
      cases h1
      obtain ⟨_,_,_,_,hn,_⟩:=h.arr _ _ _ _ _ _ hk hb
      exact ⟨cs,ty,hnew,hsz,hn,hr⟩
    · exact (h.arr j sz' n' f' c z' h1 hρ).mono (Imm.le_refl _) (Pre.refl _) (other j c z' ⟨_,h1,by simp⟩ hne hρ)
  · intro j m hj
    rcases get j _ hj with ⟨_,h1⟩|⟨hne,h1⟩
    · cases h1
    · obtain ⟨c,h2,h3⟩:=h.map j m h1
      exact ⟨c,h2,h3.mono (Imm.le_refl _) (Pre.refl _) (other j c 0 ⟨_,h1,by simp⟩ hne h2)⟩
  · intro c hc hl
    exact hold c fun e=>hl (by subst e;exact hL)
end
section
variable {P:Program}{r:Option Nat}{m nt:Nat}{env:Env}{H:Heap}{dst:Option Tmp}{ty:TypeId}{pos:String}{after:Array Edge}{guard:Option (Nat × Bool)}{x y c:Operand}{T E:TypeId}{d de:TyD}{v:V}{keep:Bool}
theorem wpIn_of_run {o:Oper}{a:Act}{w:World}{next:Act→World→Prop}{Q:Exit→Act→World→Prop}{res:Result Next}(hnd:∀ c,o.op≠.defer c) (h:(execOp a.eval o).run P w=res) (k:o.uponIn (Fw r) 0 P a next Q res):o.wpIn (Fw r) 0 P a w next Q:=by
  refine ⟨fun _ _=>trivial,?_⟩
  rw [Oper.semAt_eq _ _ _ hnd,h]
  exact k
def V.ok:V→Bool
  | .s (.agg _)=>false
  | _=>true
theorem V.ok_ne (h:v.ok=true):∀ cs,v=.s (.agg cs)→False:=fun cs e=>by subst e;cases h
theorem ptr_new {I:Imm}{ρ:List (Option (Nat × Nat))}{b z sz:Nat}(hl:ρ.length=H.length):VRel I (ρ++[some (b,z)]) (.ptr sz H.length 0 0) (.pointer (some ⟨b,0,none⟩)):=by
  have:=VRel.ptr (I:=I) (ρ:=ρ++[some (b,z)]) (sz:=sz) (b:=H.length) (i:=0) (off:=0) (cb:=b) (z:=z) (by rw [← hl];simp)
  simpa using this
theorem alloc_core {X:Ctx}{I:Imm}{ρ:List (Option (Nat × Nat))}{w:World}(hw:WOk X I ρ H w) {u:Value}(hv:VRel I ρ v u) (hok:v.ok=true) (T:TypeId) :
    WOk X I (ρ++[some (w.heap.size,u.cells.size)]) (H++[.arr v.cells.length 1 (fun _=>v)]) { w with heap:=w.heap.push (.cells u.cells T) }:=by
  obtain ⟨h1,h2⟩:=hv.cells (V.ok_ne hok)
  refine hw.alloc (by simp [h1]) (fun _ _=>rfl) (fun i j x hi hj=>?_) rfl rfl rfl rfl
  obtain rfl:i=0:=by omega
  have hlt:j<u.cells.size:=by rw [h1];exact (List.getElem?_eq_some_iff.1 hj).1
  exact ⟨u.cells[j],by simp [hlt],h2 j x _ hj (by simp [hlt])⟩
theorem ls_box (hx:eo env x=some v) (hok:v.ok=true) :
    LS P r m nt true env H ⟨dst,.box T x,ty,pos,after,guard⟩ (fun u H'=>u=.ptr v.cells.length H.length 0 0∧H'=H++[.arr v.cells.length 1 (fun _=>v)]) NoP:=.mk
  fun X I ρ a w next Qx hX hs hk hp=>by
    have hv:=eo_rel hs.1 hx
    refine wpIn_of_run (by simp) (res:=.ok (.value (.pointer (some ⟨w.heap.size,0,none⟩))) { w with heap:=w.heap.push (.cells (a.eval x).cells T) }) (by simp [execOp,Instr.box,newVar,newRow]) ?_
    exact hk I _ _ _ _ _ ⟨rfl,rfl⟩ (Imm.le_refl _) (pre_append _) (alloc_core hs.2.1 hv hok T) (ptr_new hs.2.1.len)
      (fun _=>keeps_alloc hs.2.1 fun b hb=>by simp [Array.getElem?_push,show b≠w.heap.size by omega])
theorem ls_alloc (ht:TyIs P T d) (hok:(constV d.zero).ok=true) :
    LS P r m nt true env H ⟨dst,.alloc T,ty,pos,after,guard⟩ (fun u H'=>u=.ptr (constV d.zero).cells.length H.length 0 0∧H'=H++[.arr (constV d.zero).cells.length 1 (fun _=>constV d.zero)]) NoP:=.mk
  fun X I ρ a w next Qx hX hs hk hp=>by
    refine wpIn_of_run (by simp) (res:=.ok (.value (.pointer (some ⟨w.heap.size,0,none⟩))) { w with heap:=w.heap.push (.cells d.zero.cells T) }) (by simp [execOp,Instr.alloc,ht.zeroV,newVar,newRow]) ?_
    exact hk I _ _ _ _ _ ⟨rfl,rfl⟩ (Imm.le_refl _) (pre_append _) (alloc_core hs.2.1 (constV_rel I ρ d.zero) hok T) (ptr_new hs.2.1.len)
      (fun _=>keeps_alloc hs.2.1 fun b hb=>by simp [Array.getElem?_push,show b≠w.heap.size by omega])
def V.one:V→Bool
  | .agg _=>false
  | .tup _=>false
  | .s v=>v.oneCell'
  | _=>true
theorem VRel.one {I:Imm}{ρ:List (Option (Nat × Nat))}{v:V}{u:Value}(h:VRel I ρ v u) (ho:v.one=true):u.oneCell'=true:=by
  cases h<;>first|rfl|exact ho|(cases ho;done)
def putPart (x:V) (off:Nat) (v:V):V :=
  match x with
  | .agg cs=>.agg (cs.take off++v.cells++cs.drop (off+v.cells.length))
  | _=>v
def upd (f:Nat→V) (i:Nat) (v:V):Nat→V:=fun j=>bif Nat.beq j i then v else f j
theorem upd_at (f:Nat→V) (i j:Nat) (v:V):upd f i v j=if j=i then v else f j:=by
  unfold upd
  by_cases h:j=i
  · subst h;simp
  · have:Nat.beq j i=false:=by cases e:Nat.beq j i with|false=>rfl|true=>exact (h (Nat.eq_of_beq_eq_true e)).elim
    simp [this,h]
theorem cells_put {x v:V}{off:Nat}(h:off+v.cells.length≤x.cells.length) (ha:(∃ cs,x=.agg cs)∨(off=0∧v.cells.length=1∧x.cells.length=1∧∀ cs,v≠.agg cs)) :
    (putPart x off v).cells=x.cells.take off++v.cells++x.cells.drop (off+v.cells.length):=by
  rcases ha with ⟨cs,rfl⟩|⟨rfl,h1,h2,h3⟩
  · rfl
  · cases x<;>first|rfl|(simp [putPart,V.cells] at h2 ⊢)
    all_goals (cases v<;>first|(simp [V.cells];done)|exact (h3 _ rfl).elim)
end
end Go.Proofs.YtbilpbabdgfblaaGreat
