/- Parts of the proof: a layer of values over the model, and contracts of functions. No condition. -/
import Derived.Test.YtbilpbabdgfblaaGreatKHc8
set_option maxHeartbeats 16000000
set_option linter.unusedSimpArgs false
set_option linter.unusedVariables false
namespace Go.Proofs.YtbilpbabdgfblaaGreat
open Go.RowKit
section
variable {P:Program}{ops:Array Oper}{r:Option Nat}{Q Q':Exit→Act→World→Prop}
theorem drawn_go1 (hsel:Region.noSelect ops=true) (hQ:∀ (i:Nat) (o:Oper),ops[i]?=some o→∀ c a v w,Q (.panic c) (a.put o.dst v) w→Q (.panic c) a w) :
    ∀ (l:List Stp) (listed:Array Bool) (S:World→Prop) (a:Act) (w:World),(∀ s∈l,s.flat=true→ops[s.idx]?=some s.oper)→ShutL ops listed→planOk0 ops listed l=true→S w →
      runP0 P r ops Q l S a w→wpAnyS P r ops Q S (phaseEnd ops.size l) l.length listed a w
  | [],listed,S,a,w,_,_,hok,_,h=>⟨by simpa [planOk0] using hok,h⟩
  | .q i o::l,listed,S,a,w,hn,hsh,hok,hS,h=>by
    simp only [planOk0,Bool.and_eq_true] at hok
    obtain ⟨⟨⟨⟨⟨hp,hr⟩,hf⟩,hl⟩,him⟩,hok'⟩:=hok
    have hi:ops[i]?=some o:=hn (.q i o) (by simp) rfl
    simp only [runP0] at h
    have hn':∀ s∈l,s.flat=true→ops[s.idx]?=some s.oper:=fun s hs=>hn s (by simp [hs])
    show wpAnyS P r ops Q S (phaseEnd ops.size l) (l.length+1) listed a w
    rw [Bool.or_eq_true] at hl
    have hri:i∈Region.ready .any ops listed:=by simpa using hr
    rcases hl with hl|hl
    · cases hw:Region.wanted o (yielded ops a.tmps)
      · exact first_S (v:=undef) hp hi hsel (fun c a w=>hQ i o hi c a undef w) (awaits_of hl) (by simpa using him) l.length listed a w (Region.free_spec hi hf) hsh hri (.inr ⟨hw,rfl⟩) hS
          (drawn_go1 hsel hQ l _ S _ w hn' (hsh.set hri) hok' hS (h.2 hw))
      · obtain ⟨u,h1,h2⟩:=h.1 hw
        exact first_S (v:=u) hp hi hsel (fun c a w=>hQ i o hi c a u w) (awaits_of hl) (by simpa using him) l.length listed a w (Region.free_spec hi hf) hsh hri (.inl ⟨hw,h1⟩) hS
          (drawn_go1 hsel hQ l _ S _ w hn' (hsh.set hri) hok' hS h2)
    · cases hw:Region.wanted o (yielded ops a.tmps)
      · exact first_still (v:=undef) hp hi hsel (fun c a w=>hQ i o hi c a undef w) (by simpa using him) l.length listed a w (Region.free_spec hi hf) hsh hri (.inr ⟨hw,rfl⟩) hS
          (drawn_go1 hsel hQ l _ S _ w hn' (hsh.set hri) hok' hS (h.2 hw))
      · obtain ⟨u,h1,h2⟩:=h.1 hw
        exact first_still (v:=u) hp hi hsel (fun c a w=>hQ i o hi c a u w) (by simpa using him) l.length listed a w (Region.free_spec hi hf) hsh hri (.inl ⟨hw,fun w' _=>still_all hl (h1 w hS) w'⟩) hS
          (drawn_go1 hsel hQ l _ S _ w hn' (hsh.set hri) hok' hS h2)
  | .l i o keep::l,listed,S,a,w,hn,hsh,hok,hS,h=>by
    simp only [planOk0,Bool.and_eq_true,beq_iff_eq] at hok
    obtain ⟨⟨hr,hk⟩,hok'⟩:=hok
    have hi:ops[i]?=some o:=hn (.l i o keep) (by simp) rfl
    have hn':∀ s∈l,s.flat=true→ops[s.idx]?=some s.oper:=fun s hs=>hn s (by simp [hs])
    refine ⟨fun h0=>(by rw [hr] at h0;cases h0),fun j hj=>?_⟩
    have hj0:=hj
    rw [hr] at hj
    obtain rfl:j=i:=by simpa using hj
    exact head_ok (R:=runP0 P r ops Q l) hi hS (fun e=>by rw [e] at hk;simpa using hk) (fun S' a' w' h1 h3=>drawn_go1 hsel hQ l _ S' a' w' hn' (hsh.set hj0) hok' h1 h3) h
theorem region_drawn1 {l:List Oper}{id:Nat}{a:Act}{w:World}(ps:List (Nat × Nat)) (S:World→Prop) (hm:P.follows .mixedOrders=true) (hB:(ps.all (fun x=>decide (x.1<l.length))&&Region.noSelect l.toArray&&planOk0 l.toArray (Array.replicate l.toArray.size false) (numPlan l ps)&&(ps.length==l.length))=true)
    (hQ:∀ (i:Nat) (o:Oper),l.toArray[i]?=some o→∀ c a v w,Q (.panic c) (a.put o.dst v) w→Q (.panic c) a w)
    (hS:S { w with drawn:=w.drawn+1 }) (h:runP0 P r l.toArray Q (numPlan l ps) S a { w with drawn:=w.drawn+1 }):(Code.region id l.toArray true).wpIn (Fw r) 0 P Q a w:=by
  simp only [Bool.and_eq_true,beq_iff_eq,List.all_eq_true,decide_eq_true_eq] at hB
  obtain ⟨⟨⟨hn,hsel⟩,hok⟩,hlen⟩:=hB
  refine wpIn_region_any hm ?_
  have:=any_of_S _ _ _ _ (drawn_go1 hsel hQ (numPlan l ps) _ S a _ (fun s hs _=>by
    simp only [numPlan,List.mem_map] at hs
    obtain ⟨x,hx,rfl⟩:=hs
    have:=opAt_get l x.1 (hn x hx)
    split<;>simpa [Stp.idx,Stp.oper] using this) (fun j oj _ hl=>by exfalso;rw [Array.getD_eq_getD_getElem?,Array.getElem?_replicate] at hl;split at hl<;>simp at hl) hok hS h)
  rw [show (numPlan l ps).length=l.toArray.size by simp [numPlan,hlen]] at this
  exact this
structure Pin where
  t:Nat
  u:Value
  ds:Option (List Deferred)
def Pin.Ok (p:Pin) (a:Act):Prop:=a.tmps.getD p.t undef=p.u∧∀ ds,p.ds=some ds→a.defers=ds
def PinQ (p:Pin) (Q:Exit→Act→World→Prop):Exit→Act→World→Prop
  | .outgrown,a,w=>Q .outgrown a w
  | e,a,w=>Q e a w∧p.Ok a
def calmOp:Op→Bool
  | .move _|.assign _|.pick ..|.load ..|.binOp ..|.unOp ..|.convert ..|.fieldAddr ..|.field ..|.indexAddr ..|.index ..|.slice ..|.lookup ..|.extract ..|.build ..|.makeInterface ..|.makeFunc ..|.typeAssert ..|.store ..|.panic _=>true
  | _=>false
def opKeeps (t:Nat) (pd:Bool) (o:Oper):Bool:=!(o.dst==some t)&&(!pd||calmOp o.op)
theorem op_dst {t:Nat}{pd:Bool}{o:Oper}(h:opKeeps t pd o=true):o.dst≠some t:=by
  unfold opKeeps at h
  simp only [Bool.and_eq_true] at h
  exact fun e=>by rw [e] at h;simp at h
theorem op_calm {t:Nat}{o:Oper}(h:opKeeps t true o=true):calmOp o.op=true:=by
  unfold opKeeps at h
  simp only [Bool.and_eq_true] at h
  simpa using h.2
theorem val_no {s:Sem Value}{w w':World}{d:Deferred}(h:((do let x ← s;pure (Next.value x)):Sem Next).run P w=.ok (.defer d) w'):False:=by
  rw [Sem.run_bind] at h
  cases hs:s.run P w<;>rw [hs] at h<;>simp at h
theorem skip_no {s:Sem Unit}{w w':World}{d:Deferred}(h:((do s;pure Next.skip):Sem Next).run P w=.ok (.defer d) w'):False:=by
  rw [Sem.run_bind] at h
  cases hs:s.run P w<;>rw [hs] at h<;>simp at h
theorem calm_no {o:Oper}{r:Option Nat}{a:Act}{w w':World}{d:Deferred}(ho:calmOp o.op=true) (h:(o.semAt (Fw r).round a.eval).run P w=.ok (.defer d) w'):False:=by
  rw [Oper.semAt_eq _ _ _ (fun c e=>by rw [e] at ho;cases ho)] at h
  unfold execOp at h
  cases hop:o.op<;>rw [hop] at h ho<;>first|(cases ho;done)|exact val_no h|exact skip_no h|(simp at h;done)|skip
  rename_i c x y
  simp only [Sem.run_bind] at h
  cases hs:(asBool (a.eval c)).run P w<;>rw [hs] at h<;>simp at h
theorem put_pin {p:Pin}{a:Act}(h:p.Ok a) {d:Option Tmp}(hd:d≠some p.t) (v:Value):p.Ok (a.put d v):=by
  cases d with
  | none=>exact h
  | some d =>
    have:d≠p.t:=fun e=>hd (by rw [e])
    exact ⟨by simpa [Act.put,Array.getElem?_setIfInBounds_ne this] using h.1,h.2⟩
theorem pin_put {p:Pin}{a:Act}{d:Option Tmp}(hd:d≠some p.t) {v:Value}(h:p.Ok (a.put d v)):p.Ok a:=by
  cases d with
  | none=>exact h
  | some d =>
    have:d≠p.t:=fun e=>hd (by rw [e])
    exact ⟨by simpa [Act.put,Array.getElem?_setIfInBounds_ne this] using h.1,h.2⟩
theorem wpIn_pin {p:Pin}{o:Oper}{a:Act}{w:World}{next next':Act→World→Prop}(hk:opKeeps p.t p.ds.isSome o=true) (ha:p.Ok a) (hn:∀ a' w',p.Ok a'→next a' w'→next' a' w')
    (h:o.wpIn (Fw r) 0 P a w next Q):o.wpIn (Fw r) 0 P a w next' (PinQ p Q):=by
  have hd:=op_dst hk
  refine ⟨h.1,?_⟩
  have h2:=h.2
  revert h2
  generalize hres:(o.semAt (Fw r).round a.eval).run P w=res
  intro h2
  cases res
  case ok x w' =>
    cases x
    case value v=>exact hn _ _ (put_pin ha hd v) h2
    case skip=>exact hn _ _ (put_pin ha hd undef) h2
    case defer d =>
      cases hds:p.ds with
      | some ds=>rw [hds] at hk;exact (calm_no (op_calm hk) hres).elim
      | none=>exact hn _ _ (put_pin (a:={ a with defers:=d::a.defers }) ⟨ha.1,fun ds e=>by rw [hds] at e;cases e⟩ hd undef) h2
    case enter f args =>
      refine ⟨h2.1,h2.2.mono fun e w'' he=>?_⟩
      cases e
      case returned v=>exact hn _ _ (put_pin ha hd v) he
      case panicked c=>exact ⟨he,ha⟩
      all_goals exact he
    case row row args=>exact ⟨h2.1,h2.2.mono fun v w'' he=>hn _ _ (put_pin ha hd v) he⟩
    case round l f tmps args body =>
      refine ⟨h2.1,h2.2.mono fun e w'' he=>?_⟩
      cases e
      case returned v=>exact hn _ _ (put_pin ha hd v) he
      case panicked c=>exact ⟨he,ha⟩
      all_goals exact he
    all_goals exact h2.elim
  case halt x w' =>
    cases x
    case panic v=>exact ⟨h2,ha⟩
    all_goals exact h2.elim
theorem runP0_pin {p:Pin}:∀ {l:List Stp}{S:World→Prop}{a:Act}{w:World},(∀ s∈l,s.flat=true∧opKeeps p.t p.ds.isSome s.oper=true)→p.Ok a→runP0 P r ops Q l S a w→runP0 P r ops (PinQ p Q) l S a w
  | [],_,_,_,_,ha,h=>⟨h,ha⟩
  | .q i o::l,S,a,w,hf,ha,h=>by
    have hf':∀ s∈l,s.flat=true∧opKeeps p.t p.ds.isSome s.oper=true:=fun s hs=>hf s (by simp [hs])
    have hd:o.dst≠some p.t:=op_dst (hf (.q i o) (by simp)).2
    refine ⟨fun hw=>?_,fun hw=>runP0_pin hf' (put_pin ha hd _) (h.2 hw)⟩
    obtain ⟨v,h1,h2⟩:=h.1 hw
    exact ⟨v,h1,runP0_pin hf' (put_pin ha hd _) h2⟩
  | .l i o keep::l,S,a,w,hf,ha,h=>by
    have hf':∀ s∈l,s.flat=true∧opKeeps p.t p.ds.isSome s.oper=true:=fun s hs=>hf s (by simp [hs])
    have hk:=(hf (.l i o keep) (by simp)).2
    refine ⟨fun hw=>wpIn_pin hk ha ?_ (h.1 hw),fun hw=>runP0_pin hf' (put_pin ha (op_dst hk) _) (h.2 hw)⟩
    rintro a' w' ha' ⟨S',h1,h2,h3⟩
    exact ⟨S',h1,h2,runP0_pin hf' ha' h3⟩
  | .fork ps::l,S,a,w,hf,_,_=>by have:=(hf (.fork ps) (by simp)).1;cases this
theorem runP_pin {p:Pin}:∀ {l:List Stp}{S:World→Prop}{a:Act}{w:World},(∀ s∈l,s.flat=true∧opKeeps p.t p.ds.isSome s.oper=true)→p.Ok a→runP P r ops Q l S a w→runP P r ops (PinQ p Q) l S a w
  | [],_,_,_,_,ha,h=>⟨h,ha⟩
  | .q i o::l,S,a,w,hf,ha,h=>by
    have hf':∀ s∈l,s.flat=true∧opKeeps p.t p.ds.isSome s.oper=true:=fun s hs=>hf s (by simp [hs])
    have hd:o.dst≠some p.t:=op_dst (hf (.q i o) (by simp)).2
    refine ⟨fun hw=>?_,fun hw=>runP_pin hf' (put_pin ha hd _) (h.2 hw)⟩
    obtain ⟨v,h1,h2⟩:=h.1 hw
    exact ⟨v,h1,runP_pin hf' (put_pin ha hd _) h2⟩
  | .l i o keep::l,S,a,w,hf,ha,h=>by
    have hf':∀ s∈l,s.flat=true∧opKeeps p.t p.ds.isSome s.oper=true:=fun s hs=>hf s (by simp [hs])
    have hk:=(hf (.l i o keep) (by simp)).2
    refine ⟨fun hw=>wpIn_pin hk ha ?_ (h.1 hw),fun hw=>runP_pin hf' (put_pin ha (op_dst hk) _) (h.2 hw)⟩
    rintro a' w' ha' ⟨S',h1,h2,h3⟩
    exact ⟨S',h1,h2,runP_pin hf' ha' h3⟩
  | .fork ps::l,S,a,w,hf,_,_=>by have:=(hf (.fork ps) (by simp)).1;cases this
end
namespace Pn
structure AW (t:Nat) (pd:Bool) (P:Program) (r:Option Nat) (m nt:Nat) (c:Code) (Q:Post) (env:Env) (H:Heap):Prop where
  out:∀ X I ρ a w (p:Pin),p.t=t→p.ds.isSome=pd→X.ρ.length=m→St X nt env H I ρ a w→p.Ok a→c.wpIn (Fw r) 0 P (PinQ p (Lift X nt Q)) a w
section
variable {t:Nat}{pd:Bool}{P:Program}{r:Option Nat}{m nt:Nat}{Q Q':Post}{env env':Env}{H H':Heap}
theorem aw_skip (h:Q .normal env H):AW t pd P r m nt .skip Q env H:=.mk fun _ I ρ _ _ _ _ _ _ hs ha=>wpIn_skip ⟨⟨env,H,I,ρ,hs,h⟩,ha⟩
theorem aw_ret (h:Q .ret env H):AW t pd P r m nt .ret Q env H:=.mk fun _ I ρ _ _ _ _ _ _ hs ha=>wpIn_ret ⟨⟨env,H,I,ρ,hs,h⟩,ha⟩
theorem aw_seq {x y:Code}(h:AW t pd P r m nt x (AE.then (AW t pd P r m nt y Q) Q) env H):AW t pd P r m nt (.seq x y) Q env H:=.mk
  fun X I ρ a w p hp hq0 hX hs ha=>wpIn_seq (wpIn_mono (h.1 X I ρ a w p hp hq0 hX hs ha) fun e a' w' hl=>by
    cases e with
    | normal=>obtain ⟨⟨env',H',I',ρ',hs',hq⟩,ha'⟩:=hl;exact hq.1 X I' ρ' a' w' p hp hq0 hX hs' ha'
    | exit _=>exact hl
    | goto _=>exact hl
    | ret=>exact hl
    | panic _=>exact hl
    | outgrown=>exact hl)
theorem aw_cond {c:Operand}{x y:Code}{b:Bool}(hc:eo env c=some (.s (.bool b))) (ht:b=true→AW t pd P r m nt x Q env H) (hf:b=false→AW t pd P r m nt y Q env H):AW t pd P r m nt (.cond c x y) Q env H:=.mk
  fun X I ρ a w p hp hq hX hs ha=>wpIn_cond_split (eo_bool hs.1 hc) (fun e=>(ht e).1 X I ρ a w p hp hq hX hs ha) (fun e=>(hf e).1 X I ρ a w p hp hq hX hs ha)
theorem aw_block {id:Nat}{c:Code}(h:AW t pd P r m nt c (AE.inBlock id Q) env H):AW t pd P r m nt (.block id c) Q env H:=.mk
  fun X I ρ a w p hp hq hX hs ha=>wpIn_block (wpIn_mono (h.1 X I ρ a w p hp hq hX hs ha) fun e a w h=>by
    cases e with
    | exit id' =>
      obtain ⟨⟨env,H,I,ρ,hs,hq⟩,ha⟩:=h
      simp only [AE.inBlock] at hq
      simp only [Exit.inBlock]
      cases hb:Nat.beq id' id
      · rw [hb] at hq
        rw [if_neg (fun e=>by rw [e,Nat.beq_refl] at hb;cases hb)]
        exact ⟨⟨env,H,I,ρ,hs,hq⟩,ha⟩
      · rw [hb] at hq
        rw [if_pos (Nat.eq_of_beq_eq_true hb)]
        exact ⟨⟨env,H,I,ρ,hs,hq⟩,ha⟩
    | normal=>exact h
    | goto _=>exact h
    | ret=>exact h
    | panic _=>exact h
    | outgrown=>exact h)
theorem aw_region {l:List Oper}{id:Nat}(h:AR P r m nt l.toArray Q (textPlan l 0) env H) (hk:l.all (opKeeps t pd)=true:=by rfl):AW t pd P r m nt (.region id l.toArray false) Q env H:=.mk fun X I ρ a w p hp hq hX hs ha=>by
  subst hp hq
  exact region_text (Keeps I ρ H w) (Keeps.refl hs.2.1) (runP_pin (fun s hs=>⟨textPlan_flat l 0 s hs,(by
    have key:∀ (l:List Oper) (n:Nat),l.all (opKeeps p.t p.ds.isSome)=true→∀ s∈textPlan l n,opKeeps p.t p.ds.isSome s.oper=true:=fun l=>by
      induction l with
      | nil=>intro n _ s hs;simp [textPlan] at hs
      | cons o l ih =>
        intro n hl s hs
        simp only [List.all_cons,Bool.and_eq_true] at hl
        unfold textPlan at hs
        rcases List.mem_cons.1 hs with h|h
        · rw [h];cases plainOp o.op<;>exact hl.1
        · exact ih _ hl.2 s h
    exact key l 0 hk s hs)⟩) ha (h.1 X I ρ a w hX hs))
theorem aw_drawn {l:List Oper}{id:Nat}(ps:List (Nat × Nat)) (hm:P.follows .mixedOrders=true) (_hB:drawnOk l ps=true) (h:AR P r m nt l.toArray Q (numPlan l ps) env H)
    (hB0:(ps.all (fun x=>decide (x.1<l.length))&&Region.noSelect l.toArray&&planOk0 l.toArray (Array.replicate l.toArray.size false) (numPlan l ps)&&(ps.length==l.length))=true:=by kernel_rfl) (hk:l.all (opKeeps t pd)=true:=by kernel_rfl) :
    AW t pd P r m nt (.region id l.toArray true) Q env H:=.mk fun X I ρ a w p hp hq hX hs ha=>by
  subst hp hq
  have hdl:∀ o∈l,opKeeps p.t p.ds.isSome o=true:=List.all_eq_true.1 hk
  refine region_drawn1 ps (Keeps I ρ H w) hm hB0 (fun i o hi c a' v w' hp=>⟨lift_put c a' o.dst v w' hp.1,pin_put (op_dst (hdl o (List.mem_of_getElem? (show l[i]?=some o by simpa using hi)))) hp.2⟩) (Keeps.refl (X:=X) hs.2.1.drew) ?_
  refine runP0_pin (fun s hs'=>⟨numPlan_flat l ps s hs',?_⟩) ha (run0 (numPlan_flat l ps) (h.1 X I ρ a _ hX ⟨hs.1,hs.2.1.drew,hs.2.2⟩))
  simp only [Bool.and_eq_true,List.all_eq_true,decide_eq_true_eq] at hB0
  unfold numPlan at hs'
  obtain ⟨x,hx,rfl⟩:=List.mem_map.1 hs'
  have:=hdl _ (List.mem_of_getElem? (opAt_get l x.1 (hB0.1.1.1 x hx)))
  split<;>exact this
theorem aw_sub {c:Code}(hs:SubOf m nt env H env' H') (h:AW t pd P r m nt c Q env' H'):AW t pd P r m nt c Q env H:=.mk fun X I ρ a w p hp hq hX h1 ha=>by
  obtain ⟨I',ρ',_,h2⟩:=hs.1 X I ρ a w hX h1
  exact h.1 X I' ρ' a w p hp hq hX h2 ha
end
end Pn
theorem qs_build_arr {P:Program}{nt n:Nat}{env:Env}{H:Heap}{T E:TypeId}{d de:TyD}{dst:Option Tmp}{ty:TypeId}{pos:String}{after:Array Edge}{guard:Option (Nat × Bool)}{parts:Array (Nat × Operand)}{vs:List (Nat × V)}{ds:List V}(ht:TyIs P T d) (hk:d.tk=.array n E) (he:TyIs P E de) (hz:(constV d.zero).ok=true)
    (hv:parts.toList.mapM (fun p=>(eo env p.2).map fun v=>(p.1,v))=some vs) (hb:BuildR (fun k=>some (k*de.size,de.size)) (constV d.zero).cells vs ds) :
    QS P nt env H ⟨dst,.build T parts,ty,pos,after,guard⟩ (.agg ds):=.mk fun X I ρ a w h hw=>by
  obtain ⟨e1,e2⟩:=evals2 h hv
  obtain ⟨out,h1,h2⟩:=fill_rel (I:=I) (ρ:=ρ) hb e1 e2 ((constV_rel I ρ d.zero).cells (V.ok_ne hz))
  refine ⟨.agg out,.agg h2.1 h2.2,fun w' _=>?_⟩
  have h1':Instr.fill (fun i=>some (i*de.size,de.size)) d.zero.cells (parts.map fun p=>(p.1,a.eval p.2)).toList=some out:=by
    rw [← h1]
    simp
  simp only [execOp,Instr.build,Sem.run_bind,ht.zeroV,Result.andThen_ok,run_underlying (ht.arr hk),he.sizeOf]
  rw [h1']
  rfl
section
variable {P:Program}{r:Option Nat}{m nt:Nat}{Q:Post}{env:Env}{H:Heap}{T T':TypeId}{d:TyD}{x:Operand}{v:V}{dst:Option Tmp}{ty:TypeId}{pos:String}{after:Array Edge}{guard:Option (Nat × Bool)}
theorem TyIs.ifacek {b:Bool}(h:TyIs P T d) (hk:d.tk=.iface b):∃ ms,P.underlying T=some (.interface ms):=by
  obtain ⟨t,ht,hk'⟩:=h.desc
  rw [hk] at hk'
  cases t<;>simp [TK.of] at hk'
  exact ⟨_,ht⟩
theorem TyIs.funck (h:TyIs P T d) (hk:d.tk=.func):∃ a b c,P.underlying T=some (.func a b c):=by
  obtain ⟨t,ht,hk'⟩:=h.desc
  rw [hk] at hk'
  cases t<;>simp [TK.of] at hk'
  exact ⟨_,_,_,ht⟩
theorem eq_nn (d:Nat) {ms:Array (String × TypeId)}(w:World) (h:P.underlying T=some (.interface ms)):(Op.equalIn (d+1) T .nilIface .nilIface).run P w=.ok true w:=by simp [Op.equalIn,run_underlying h]
theorem eq_in (d:Nat) {ms:Array (String × TypeId)}{t:TypeId}{u:Value}(w:World) (h:P.underlying T=some (.interface ms)):(Op.equalIn (d+1) T (.iface t u) .nilIface).run P w=.ok false w:=by simp [Op.equalIn,run_underlying h]
theorem eq_ff (d:Nat) {a:Array TypeId}{b:Array TypeId}{c:Bool}(w:World) (h:P.underlying T=some (.func a b c)):(Op.equalIn (d+1) T .nilFunc .nilFunc).run P w=.ok true w:=by simp [Op.equalIn,run_underlying h]
theorem eq_fn (d:Nat) {a:Array TypeId}{b:Array TypeId}{c:Bool}{g:Fn}{fs cs:Array Value}(w:World) (h:P.underlying T=some (.func a b c)):(Op.equalIn (d+1) T (.func g fs cs) .nilFunc).run P w=.ok false w:=by simp [Op.equalIn,run_underlying h]
theorem qs_nilIsNil {b:Bool}(ht:TyIs P T d) (hk:d.tk=.iface b) (hx:eo env x=some (.s .nilIface)):QS P nt env H ⟨dst,.binOp .eql T x (.const .nilIface) T',ty,pos,after,guard⟩ (.s (.bool true)):=.mk fun X I ρ a w h hw=>by
  obtain ⟨ms,hu⟩:=ht.ifacek hk
  refine ⟨_,.s _,fun w' _=>?_⟩
  have e:(Op.equal T .nilIface .nilIface).run P w'=.ok true w':=eq_nn 9999 w' hu
  have h2:a.eval (.const .nilIface)=.nilIface:=rfl
  simp [execOp,sval h hx,h2,eqGuard,binOp,e]
theorem qs_ifaceIsNil {b:Bool}{t:TypeId}(ht:TyIs P T d) (hk:d.tk=.iface b) (hx:eo env x=some (.iface t v)):QS P nt env H ⟨dst,.binOp .eql T x (.const .nilIface) T',ty,pos,after,guard⟩ (.s (.bool false)):=.mk fun X I ρ a w h hw=>by
  obtain ⟨ms,hu⟩:=ht.ifacek hk
  have h1:=eo_rel h hx
  cases h1':a.eval x<;>rw [h1'] at h1<;>cases h1
  rename_i u hu'
  refine ⟨_,.s _,fun w' _=>?_⟩
  have e:(Op.equal T (.iface t u) .nilIface).run P w'=.ok false w':=eq_in 9999 w' hu
  have h2:a.eval (.const .nilIface)=.nilIface:=rfl
  simp [execOp,h1',h2,eqGuard,binOp,e]
theorem qs_nilFuncIsNil (ht:TyIs P T d) (hk:d.tk=.func) (hx:eo env x=some (.s .nilFunc)):QS P nt env H ⟨dst,.binOp .eql T x (.const .nilFunc) T',ty,pos,after,guard⟩ (.s (.bool true)):=.mk fun X I ρ a w h hw=>by
  obtain ⟨_,_,_,hu⟩:=ht.funck hk
  refine ⟨_,.s _,fun w' _=>?_⟩
  have e:(Op.equal T .nilFunc .nilFunc).run P w'=.ok true w':=eq_ff 9999 w' hu
  have h2:a.eval (.const .nilFunc)=.nilFunc:=rfl
  simp [execOp,sval h hx,h2,eqGuard,binOp,e]
theorem qs_funcIsNil {g:Fn}{vs us:List V}(ht:TyIs P T d) (hk:d.tk=.func) (hx:eo env x=some (.fn g vs us)):QS P nt env H ⟨dst,.binOp .eql T x (.const .nilFunc) T',ty,pos,after,guard⟩ (.s (.bool false)):=.mk fun X I ρ a w h hw=>by
  obtain ⟨_,_,_,hu⟩:=ht.funck hk
  have h1:=eo_rel h hx
  cases h1':a.eval x<;>rw [h1'] at h1<;>cases h1
  rename_i fs cs _ _ _ _
  refine ⟨_,.s _,fun w' _=>?_⟩
  have e:(Op.equal T (.func g fs cs) .nilFunc).run P w'=.ok false w':=eq_fn 9999 w' hu
  have h2:a.eval (.const .nilFunc)=.nilFunc:=rfl
  simp [execOp,h1',h2,eqGuard,binOp,e]
theorem qs_assert {k:IntKind}{B:TypeId}(ht:TyIs P T d) (hk:d.tk=.int k) (hx:eo env x=some (.iface T v)):QS P nt env H ⟨dst,.typeAssert x B T true,ty,pos,after,guard⟩ (.tup [v,.s (.bool true)]):=.mk fun X I ρ a w h hw=>by
  have h1:=eo_rel h hx
  cases h1':a.eval x<;>rw [h1'] at h1<;>cases h1
  rename_i u hu
  refine ⟨.tuple #[u,.bool true],.tup rfl (fun j v' u' h h'=>?_),fun w' _=>?_⟩
  · match j with
    | 0=>simp at h h';subst h h';exact hu
    | 1=>simp at h h';subst h h';exact .s _
    | j+2=>simp at h
  · simp [execOp,h1',Instr.typeAssert,run_underlying (ht.intk hk)]
end
def ModeRel (I:Imm) (ρ:List (Option (Nat × Nat))):Option V→FrameMode→Prop
  | none,u=>u=.returning
  | some v,u=>∃ y,VRel I ρ v y∧u=.panicking [{ v:=y,recovered:=false }]
structure DCalls (P:Program) (g:FuncId) (args:List V) (H:Heap) (pan:Option V) (R:Heap→Prop):Prop where
  out:∀ X I ρ w us u,WOk X I ρ H w→VRels I ρ args us→ModeRel I ρ pan u→CallsDIn Fence.wide 0 P g us u w fun e u' w'=>∃ x I' ρ' H',I.le I'∧Pre ρ ρ'∧WOk X I' ρ' H' w'∧e=.returned x∧settle u'=.returning∧R H'
def DQ (R:Heap→Prop):Post
  | .normal,_,H=>R H
  | .ret,_,H=>R H
  | _,_,_=>False
section
variable {P:Program}{r:Option Nat}{m nt:Nat}{Q:Post}{env:Env}{H:Heap}{v:V}{ty:TypeId}{pos:String}{after:Array Edge}
theorem rec_ops {o:Oper}{y:Value}{cs cs':List Frame}{a:Act}{w:World}{Q:Exit→Act→List Frame→World→Prop}(hg:o.guard=none) (he:(execOp a.eval o).run P w=.ok .recover w) (hr:(recoverD cs=some (y,cs'))∨(recoverD cs=none∧y=.nilIface∧cs'=cs))
    (h:Q .normal (a.put o.dst y) cs' w):wpOpsSIn Fence.wide 0 P #[o] Q (List.range 1) a cs w:=by
  show wpOpsSIn Fence.wide 0 P #[o] Q [0] a cs w
  have h0:(#[o]:Array Oper)[0]?=some o:=rfl
  simp only [wpOpsSIn,h0]
  refine ⟨fun _ _=>trivial,?_⟩
  rw [if_pos (wanted_none hg)]
  simp only [he]
  rcases hr with h1|⟨h1,rfl,rfl⟩
  · simp only [h1]
    exact h
  · simp only [h1]
    exact h
theorem dcalls_of_aw {g:FuncId}{fn:Func}{id k:Nat}{c:Code}{args:List V}{pan:Option V}{R:Heap→Prop}(ats:Array TypeId) (hf:P.funcs[g]?=some fn)
    (hb:fn.body=some (.seq (.region id #[⟨some k,.call ⟨.builtin .recover,#[],ats⟩,ty,pos,after,none⟩] false) c)) (hn:args.length≤fn.ntmps) (hk:k<fn.ntmps) (hr:fn.results=#[]) (hp:∀ v,pan=some v→∃ t y,v=.iface t y)
    (h:Pn.AW fn.ntmps true P none H.length fn.ntmps c (DQ R) ((k,pan.getD (.s .nilIface))::argEnv args 0) H):DCalls P g args H pan R:=by
  refine ⟨fun X I ρ w us u hw hv hm=>callsDIn_of_wpSIn hf hb trivial fun c₀ cs hu=>wpSIn_seq (wpSIn_region ?_)⟩
  have key:∃ y u1,VRel I ρ (pan.getD (.s .nilIface)) y∧settle u1=.returning∧((recoverD (c₀::cs)=some (y,{ c₀ with mode:=u1 }::cs))∨(recoverD (c₀::cs)=none∧y=.nilIface∧u1=c₀.mode)):=by
    cases pan with
    | none =>
      have hu0:c₀.mode=.returning:=hu.trans hm
      exact ⟨.nilIface,.returning,.s _,rfl,.inr ⟨by simp [recoverD,hu0],rfl,hu0.symm⟩⟩
    | some v =>
      obtain ⟨y,hy,hu1⟩:=hm
      have hu0:=hu.trans hu1
      exact ⟨y,.panicking [{ v:=y,recovered:=true }],hy,by simp [settle],.inl (by simp [recoverD,hu0])⟩
  obtain ⟨y,u1,hy,hs1,hrec⟩:=key
  let a0:Act:={ tmps:=us++Array.replicate (fn.ntmps-us.size) undef,defers:=[] }
  refine rec_ops (y:=y) (cs':={ c₀ with mode:=u1 }::cs) rfl (by simp [execOp,resolve,invoke,builtin]) ?_ ?_
  · rcases hrec with h1|⟨h1,h2,h3⟩
    · exact .inl h1
    · exact .inr ⟨h1,h2,by rw [h3]⟩
  refine wpSIn_of_wpIn rfl ?_
  have hsz:us.size≤fn.ntmps:=by rw [hv.1];exact hn
  have hst:St (Ctx.self w ρ H I) fn.ntmps ((k,pan.getD (.s .nilIface))::argEnv args 0) H I ρ (a0.put (some k) y) w:=⟨(argEnv_ok hv hsz).put hy hk,hw.self,DOk.nil rfl⟩
  have hpin:(⟨fn.ntmps,undef,some []⟩:Pin).Ok (a0.put (some k) y):=by
    refine ⟨?_,fun ds e=>by cases e;rfl⟩
    have hsz2:(a0.put (some k) y).tmps.size=fn.ntmps:=hst.1.1
    simp [Array.getD,hsz2]
  refine wpIn_mono (h.1 (Ctx.self w ρ H I) I ρ _ w _ rfl rfl hw.len hst hpin) fun e a' w' hl=>?_
  have fin:∀ env' H' I' ρ',St (Ctx.self w ρ H I) fn.ntmps env' H' I' ρ' a' w'→(⟨fn.ntmps,undef,some []⟩:Pin).Ok a'→R H'→a'.defers=[]∧∃ u',({ c₀ with mode:=u1 }::cs:List Frame)={ c₀ with mode:=u' }::cs∧∃ v,(results fn a'.tmps).run P w'=.ok v w'∧(∃ x I' ρ' H',I.le I'∧Pre ρ ρ'∧WOk X I' ρ' H' w'∧Ending.returned v=.returned x∧settle u'=.returning∧R H'):=by
    intro env' H' I' ρ' hs ha hR
    refine ⟨ha.2 [] rfl,u1,rfl,.tuple #[],?_,.tuple #[],I',ρ',H',hs.2.1.le,hs.2.1.pre,hw.trans hs.2.1,rfl,hs1,hR⟩
    unfold results
    rw [hr]
    simp
  cases e with
  | normal=>obtain ⟨⟨env',H',I',ρ',hs,hq⟩,ha⟩:=hl;exact fin env' H' I' ρ' hs ha hq
  | ret=>obtain ⟨⟨env',H',I',ρ',hs,hq⟩,ha⟩:=hl;exact fin env' H' I' ρ' hs ha hq
  | exit id=>obtain ⟨⟨env',H',I',ρ',hs,hq⟩,ha⟩:=hl;exact hq.elim
  | goto id=>obtain ⟨⟨env',H',I',ρ',hs,hq⟩,ha⟩:=hl;exact hq.elim
  | panic ch=>obtain ⟨⟨v,u,H',I',ρ',_,_,_,_,hq⟩,ha⟩:=hl;exact hq.elim
  | outgrown=>exact hl.elim
end
theorem leaves_marksB {P:Program}{fn:Func}{tmps:Array Value}{R:Ending→World→Prop}{u:FrameMode}{rest:List Deferred}(hu:u≠.run):∀ (Ds:List Nat) (w:World),Ds.Nodup→(∀ D∈Ds,w.heap[D]?=some (.deferred (some []))) →
    LeavesInM Fence.wide 0 P fn tmps R rest u (taken Ds w)→LeavesInM Fence.wide 0 P fn tmps R (Ds.map mark++rest) u w
  | [],_,_,_,h=>h
  | D::Ds,w,hn,hD,h=>by
    rw [List.nodup_cons] at hn
    refine ⟨hu,.inl ⟨D,_,rfl,run_takeDeferred (hD D (by simp)),leaves_marksB hu Ds _ hn.2 (fun D' h'=>?_) h⟩⟩
    rw [World.putObj_heap_other (fun e=>hn.1 (by rw [← e];exact h'))]
    exact hD D' (by simp [h'])
theorem WOk.rebase {X:Ctx}{I:Imm}{ρ:List (Option (Nat × Nat))}{H:Heap}{w:World}{B:List Deferred}(h:WOk X I ρ H w):WOk { X with base:=B } I ρ H w :=
  ⟨h.len,h.inj,h.imm,h.apart,h.size,h.none,h.arr,h.map,h.mine,h.news,h.le,h.pre,h.os,h.tape,h.out,h.grow,h.keep⟩
theorem WOk.unbase {X:Ctx}{I:Imm}{ρ:List (Option (Nat × Nat))}{H:Heap}{w:World}{B:List Deferred}(h:WOk { X with base:=B } I ρ H w):WOk X I ρ H w :=
  ⟨h.len,h.inj,h.imm,h.apart,h.size,h.none,h.arr,h.map,h.mine,h.news,h.le,h.pre,h.os,h.tape,h.out,h.grow,h.keep⟩
def closD (g:FuncId) (pu:Value):Deferred:={ target:=.fn (.func g) #[pu],args:=#[] }
theorem wp_defer1 {P:Program}{Q:Exit→Act→World→Prop}{g:FuncId}{tf tc id:Nat}{a:Act}{w:World}{T1 T2:TypeId}{p1 p2:String}{e1 e2:Array Edge}(htf:tf<a.tmps.size)
    (h:Q .normal { tmps:=a.tmps.setIfInBounds tf (.func (.func g) #[] #[a.tmps.getD tc undef]),defers:=closD g (a.tmps.getD tc undef)::a.defers } w) :
    (Code.region id #[⟨some tf,.makeFunc (.func g) #[] #[.tmp tc],T1,p1,e1,none⟩,⟨none,.defer ⟨.value (.tmp tf),#[],#[]⟩,T2,p2,e2,none⟩] false).wpIn (Fw none) 0 P Q a w:=by
  refine region_text (l:=[⟨some tf,.makeFunc (.func g) #[] #[.tmp tc],T1,p1,e1,none⟩,⟨none,.defer ⟨.value (.tmp tf),#[],#[]⟩,T2,p2,e2,none⟩]) (fun _=>True) trivial ?_
  obtain ⟨pu,hpu⟩:∃ pu,a.tmps.getD tc undef=pu:=⟨_,rfl⟩
  rw [hpu] at h
  have hev0:a.eval (.tmp tc)=pu:=hpu
  refine ⟨fun _=>⟨.func (.func g) #[] #[pu],fun w' _=>by simp [execOp,Instr.makeFunc,hev0],?_⟩,fun hw=>by rw [wanted_none rfl] at hw;cases hw⟩
  refine ⟨fun _=>?_,fun hw=>by rw [wanted_none rfl] at hw;cases hw⟩
  refine ⟨fun _ _=>trivial,?_⟩
  have hev:(a.put (some tf) (.func (.func g) #[] #[pu])).eval (.tmp tf)=.func (.func g) #[] #[pu]:=by simp [Act.eval,Act.put,htf]
  have e:((⟨none,.defer ⟨.value (.tmp tf),#[],#[]⟩,T2,p2,e2,none⟩:Oper).semAt (Fw none).round (a.put (some tf) (.func (.func g) #[] #[pu])).eval).run P w=.ok (.defer (closD g pu)) w:=by
    rw [show (Fw none).round=none from rfl,Oper.semAt_none]
    simp [execOp,resolve,hev,Deferred.ofValue,closD]
  rw [e]
  exact ⟨fun _=>True,trivial,fun _ _ _=>trivial,h⟩
def TryQ (P:Program) (rs:Array ResultVar) (g:FuncId) (tc:Nat) (p:V) (R:V→Heap→Prop):Post
  | .normal,_,H=>DCalls P g [p] H none fun H'=>∃ v,ResV P [(tc,p)] H' rs v∧R v H'
  | .ret,_,H=>DCalls P g [p] H none fun H'=>∃ v,ResV P [(tc,p)] H' rs v∧R v H'
  | .panic x,_,H=>DCalls P g [p] H (some x) fun H'=>∃ v,ResV P [(tc,p)] H' rs v∧R v H'
  | _,_,_=>False
def NoQ:Post:=fun _ _ _=>False
theorem acalls_of_try {P:Program}{f g:FuncId}{fn gn:Func}{id0 id1 tc tf:Nat}{l0:List Oper}{c cg:Code}{args:List V}{H:Heap}{R:V→Heap→Prop}{T1 T2:TypeId}{p1 p2:String}{e1 e2:Array Edge}(hf:P.funcs[f]?=some fn)
    (hb:fn.body=some (.seq (.region id0 l0.toArray false) (.seq (.region id1 #[⟨some tf,.makeFunc (.func g) #[] #[.tmp tc],T1,p1,e1,none⟩,⟨none,.defer ⟨.value (.tmp tf),#[],#[]⟩,T2,p2,e2,none⟩] false) c)))
    (hg : P.funcs[g]? = some gn) (hgb : gn.body = some cg) (hgn : (gn.name == "runtime.NumGoroutine") = false) (hn : args.length ≤ fn.ntmps) (htf : tf < fn.ntmps) (htc : tf ≠ tc)
    (h:AW P none H.length fn.ntmps (.region id0 l0.toArray false) (AE.then (fun env1 H1=>∃ sz b i off,look env1 tc=some (.ptr sz b i off)∧Pn.AW tc false P none H1.length fn.ntmps c (TryQ P fn.results g tc (.ptr sz b i off) R) ((tf,.fn (.func g) [] [.ptr sz b i off])::env1) H1) NoQ) (argEnv args 0) H) :
    ACalls P f args H R NoP:=by
  refine ⟨fun X I ρ w us hw hv=>(callsIn_wide (n:=0)).1 (callsIn_of_wp_marks hf hb trivial ?_ rfl)⟩
  have h1:=h.1 (Ctx.self w ρ H I) I ρ { tmps:=us++Array.replicate (fn.ntmps-us.size) undef,defers:=[] } w hw.len ⟨argEnv_ok hv (by rw [hv.1];exact hn),hw.self,DOk.nil rfl⟩
  refine wpIn_seq (wpIn_mono h1 fun e a1 w1 hl=>?_)
  cases e with
  | exit _=>obtain ⟨_,_,_,_,_,hq⟩:=hl;exact hq.elim
  | goto _=>obtain ⟨_,_,_,_,_,hq⟩:=hl;exact hq.elim
  | ret=>obtain ⟨_,_,_,_,_,hq⟩:=hl;exact hq.elim
  | panic _=>obtain ⟨_,_,_,_,_,_,_,_,_,hq⟩:=hl;exact hq.elim
  | outgrown=>exact hl.elim
  | normal =>
  obtain ⟨env1,H1,I1,ρ1,hs1,sz,b,i,off,hp,hc⟩:=hl
  obtain ⟨htc1,hpu⟩:=hs1.1.2 tc _ hp
  obtain ⟨pu,hpu0⟩:∃ pu,pu=a1.tmps.getD tc undef:=⟨_,rfl⟩
  rw [← hpu0] at hpu
  refine wpIn_seq (wp_defer1 (by rw [hs1.1.1];exact htf) ?_)
  show Code.wpIn _ _ _ _ _ _ _
  rw [← hpu0]
  obtain ⟨Ds0,b1,b2,b3⟩:=hs1.2.2
  have b2:a1.defers=Ds0.map mark:=by rw [b2];exact List.append_nil _
  let X1:Ctx:={ Ctx.self w1 ρ1 H1 I1 with base:=closD g pu::a1.defers }
  have hw1:WOk X1 I1 ρ1 H1 w1:=hs1.2.1.self.rebase
  let a2:Act:={ tmps:=a1.tmps.setIfInBounds tf (.func (.func g) #[] #[pu]),defers:=closD g pu::a1.defers }
  have hfn:VRel I1 ρ1 (.fn (.func g) [] [.ptr sz b i off]) (.func (.func g) #[] #[pu]):=.fn rfl (fun j v u h=>by simp at h) rfl (fun j v u h h'=>by
    match j with
    | 0=>simp at h h';subst h h';exact hpu
    | j+1=>simp at h)
  have hs2:St X1 fn.ntmps ((tf,.fn (.func g) [] [.ptr sz b i off])::env1) H1 I1 ρ1 a2 w1:=⟨hs1.1.put hfn htf,hw1,⟨[],List.nodup_nil,rfl,fun D hD=>by simp at hD⟩⟩
  have hpin:(⟨tc,pu,none⟩:Pin).Ok a2:=⟨by show (a1.tmps.setIfInBounds tf _).getD tc undef=pu;rw [hpu0];simp [Array.getElem?_setIfInBounds_ne htc],fun ds e=>by cases e⟩
  refine wpIn_mono (hc.1 X1 I1 ρ1 a2 w1 ⟨tc,pu,none⟩ rfl rfl hs1.2.1.len hs2 hpin) fun e a' w' hl=>?_
  let RR:Ending→World→Prop:=fun e w'=>∃ v u I' ρ' H',I.le I'∧Pre ρ ρ'∧WOk X I' ρ' H' w'∧VRel I' ρ' v u∧((e=.returned u∧R v H')∨(e=.panicked [{ v:=u,recovered:=false }]∧NoP v H'))
  show bodyPostM Fence.wide 0 P fn RR e a' w'
  have hXI:∀ b o,(Ctx.self w ρ H I).I b=some o→b<(Ctx.self w ρ H I).w.heap.size:=fun b o h=>(Array.getElem?_eq_some_iff.1 (hw.imm b o h)).1
  have hXI1:∀ b o,X1.I b=some o→b<X1.w.heap.size:=fun b o h=>(Array.getElem?_eq_some_iff.1 (hs1.2.1.imm b o h)).1
  have cuts:∀ {I':Imm} {Ds:List Nat} {n:Nat},(∀ D∈Ds,n≤D∧I' D=some (.deferred (some [])))→∀ b cs ty fz,I' b=some (.cells cs ty fz)→I'.without Ds b=some (.cells cs ty fz):=fun hD b cs ty fz h=>by
    rw [Imm.without_out]
    · exact h
    · intro hb;rw [(hD b hb).2] at h;cases h
  have fin:∀ pan u H' I' ρ',u≠.run→WOk X1 I' ρ' H' w'→DOk X1 I' a'→(⟨tc,pu,none⟩:Pin).Ok a'→ModeRel I' ρ' pan u→DCalls P g [.ptr sz b i off] H' pan (fun H'=>∃ v,ResV P [(tc,.ptr sz b i off)] H' fn.results v∧R v H')→LeavesInM Fence.wide 0 P fn a'.tmps RR a'.defers u w':=by
    rintro pan u H' I' ρ' hu hw' ⟨Ds,d1,d2,d3⟩ ha hm hd
    rw [d2]
    refine leaves_marksB hu Ds w' d1 (fun D hD=>hw'.imm D _ (d3 D hD).2) ?_
    have hw2:=hw'.taken hXI1 d3
    have hm2:ModeRel (I'.without Ds) ρ' pan u:=by
      cases pan with
      | none=>exact hm
      | some x=>obtain ⟨y,h1,h2⟩:=hm;exact ⟨y,h1.cut (cuts d3),h2⟩
    have hpu2:VRel (I'.without Ds) ρ' (.ptr sz b i off) pu:=(hpu.mono hw'.le hw'.pre).cut (cuts d3)
    have hcall:=hd.1 X1 _ ρ' _ #[pu] u hw2 ⟨rfl,fun j v u h h'=>by
      match j with
      | 0=>simp at h h';subst h h';exact hpu2
      | j+1=>simp at h⟩ hm2
    refine ⟨hu,.inr ⟨fun h=>(by cases h),.func g,#[pu],g,#[pu],rfl,?_,fun _ _=>trivial,hcall.mono fun e u' w3 hq=>?_⟩⟩
    · exact fnOk hg hgb hgn #[pu] _
    · obtain ⟨x,I3,ρ3,H3,l3,q3,hw3,rfl,hset,v,hv3,hR⟩:=hq
      show LeavesInM Fence.wide 0 P fn a'.tmps RR a1.defers (settle u') w3
      rw [hset,b2]
      have hD0:∀ D∈Ds0,(Ctx.self w ρ H I).w.heap.size≤D∧I3 D=some (.deferred (some [])):=fun D hD=>⟨(b3 D hD).1,hw3.le D _ (b3 D hD).2⟩
      rw [← List.append_nil (Ds0.map mark)]
      refine leaves_marksB (by simp) Ds0 w3 b1 (fun D hD=>hw3.imm D _ (hD0 D hD).2) ?_
      have hw4:WOk (Ctx.self w ρ H I) I3 ρ3 H3 w3:=hs1.2.1.trans hw3.unbase
      have hw5:=hw4.taken hXI hD0
      have hpu3:VRel (I3.without Ds0) ρ3 (.ptr sz b i off) pu:=(hpu.mono hw3.le hw3.pre).cut (cuts hD0)
      have hlt:tc<a'.tmps.size:=by
        rcases Nat.lt_or_ge tc a'.tmps.size with h|h
        · exact h
        · exfalso
          have e:a'.tmps.getD tc undef=undef:=by simp [Array.getElem?_eq_none h]
          have e2:pu=undef:=(show a'.tmps.getD tc undef=pu from ha.1).symm.trans e
          rw [e2] at hpu
          cases hpu
      obtain ⟨u5,h5,h6⟩:=resV_run (nt:=a'.tmps.size) (a:=a') (env:=[(tc,.ptr sz b i off)]) ⟨rfl,fun t v ht=>by
        rw [look_cons] at ht
        split at ht
        · rename_i e;subst e;cases ht;exact ⟨hlt,by rw [show a'.tmps.getD tc undef=pu from ha.1];exact hpu3⟩
        · simp [look] at ht⟩ hw5 hv3
      exact ⟨u5,h6,v,u5,_,ρ3,H3,hw5.le,hw5.pre,hw.trans hw5,h5,.inl ⟨rfl,hR⟩⟩
  cases e with
  | normal=>obtain ⟨⟨env',H',I',ρ',hs,hq⟩,ha⟩:=hl;exact fin none .returning H' I' ρ' (by simp) hs.2.1 hs.2.2 ha rfl hq
  | ret=>obtain ⟨⟨env',H',I',ρ',hs,hq⟩,ha⟩:=hl;exact fin none .returning H' I' ρ' (by simp) hs.2.1 hs.2.2 ha rfl hq
  | exit id=>obtain ⟨⟨env',H',I',ρ',hs,hq⟩,ha⟩:=hl;exact hq.elim
  | goto id=>obtain ⟨⟨env',H',I',ρ',hs,hq⟩,ha⟩:=hl;exact hq.elim
  | panic ch =>
    obtain ⟨⟨v,u,H',I',ρ',rfl,h2,h3,h4,hq⟩,ha⟩:=hl
    exact fin (some v) _ H' I' ρ' (by simp) h3 h4 ha ⟨u,h2,rfl⟩ hq
  | outgrown=>exact hl.elim
def LiveAt (H:Heap) (i:Nat):Prop:=∃ x:Blk,H[i]?=some x∧x≠.dead
section
variable {I J:Imm}{ρ:List (Option (Nat × Nat))}{X:Ctx}{H:Heap}{w:World}{σ:List (Option Nat)}{fr:Nat→Prop}
theorem sub_genL {m nt:Nat}{env env0:Env}{H H0:Heap}(σ:List (Option Nat)) (fr:List Nat) (hlen:σ.length=H0.length) (hm:∀ k,k<m→σ[k]?=some (some k)) (hinj:∀ i j b,LiveAt H0 i→LiveAt H0 j→σ[i]?=some (some b)→σ[j]?=some (some b)→i=j) (hfr:∀ b∈fr,∀ i,LiveAt H0 i→σ[i]?≠some (some b))
    (he:EnvSub H σ (·∈fr) env env0) (hh:HSub H σ (·∈fr) 0 H0):SubOf m nt env H env0 H0:=by
  classical
  refine ⟨?_⟩
  intro X I ρ a w hX ⟨hE,hw,hd⟩
  let frz:Nat→Prop:=fun cb=>∃ b z,b∈fr∧(∃ x:Blk,H[b]?=some x∧x≠.dead)∧ρ[b]?=some (some (cb,z))
  let J:Imm:=fun cb=>if frz cb then w.heap[cb]? else I cb
  have liveF:∀ cb,frz cb→Live H ρ cb:=fun cb ⟨b,z,_,⟨x,h1,h2⟩,h3⟩=>⟨b,x,h1,h2,z,h3⟩
  have hI:I.le J:=fun b o h=>by
    show (if frz b then w.heap[b]? else I b)=some o
    rw [if_neg (fun hf=>by rw [hw.apart b (liveF b hf)] at h;cases h)]
    exact h
  have hJok:∀ b o,J b=some o→w.heap[b]?=some o:=fun b o h=>by
    have h:(if frz b then w.heap[b]? else I b)=some o:=h
    split at h
    · exact h
    · exact hw.imm b o h
  have hJ:∀ b cb z o,b∈fr→(∃ x:Blk,H[b]?=some x∧x≠.dead)→ρ[b]?=some (some (cb,z))→w.heap[cb]?=some o→J cb=some o:=fun b cb z o h1 h2 h3 h4=>by
    show (if frz cb then w.heap[cb]? else I cb)=some o
    rw [if_pos ⟨b,z,h1,h2,h3⟩]
    exact h4
  have rel:∀ {v x:V} {u:Value},VSub H σ (·∈fr) v x→VRel I ρ v u→VRel J (relocate σ ρ) x u:=fun h hu=>h.rel hw hI hJ hu
  have blk:∀ (k:Nat) b,H0[k]?=some b→BSub H σ (·∈fr) k b:=fun k b h=>by have:=hSub_get hh h;rwa [Nat.zero_add] at this
  have alive:∀ (k cb z:Nat) b,H0[k]?=some b→b≠.dead→(relocate σ ρ)[k]?=some (some (cb,z))→∃ b',σ[k]?=some (some b')∧(∃ x:Blk,H[b']?=some x∧x≠.dead)∧ρ[b']?=some (some (cb,z)):=by
    intro k cb z b hk hb hρ
    obtain ⟨b',h1,h2⟩:=relocate_some hρ
    refine ⟨b',h1,?_,h2⟩
    cases b with
    | dead=>exact (hb rfl).elim
    | arr sz n g =>
      rcases blk k _ hk with ⟨c,f,h3,h4,_⟩|⟨h3,_⟩
      · rw [h1] at h3;cases h3;exact ⟨_,h4,by simp⟩
      · rw [h1] at h3;cases h3
    | map ms =>
      obtain ⟨c,ns,h3,h4,_⟩:=blk k _ hk
      rw [h1] at h3;cases h3;exact ⟨_,h4,by simp⟩
  have live:∀ cb,Live H0 (relocate σ ρ) cb→Live H ρ cb:=fun cb ⟨k,b,h1,h2,z,h3⟩=>by
    obtain ⟨b',_,⟨x,h5,h6⟩,h7⟩:=alive k cb z b h1 h2 h3
    exact ⟨b',x,h5,h6,z,h7⟩
  refine ⟨J,relocate σ ρ,hI,⟨hE.1,fun t x hx=>?_⟩,{ len:=by simp [relocate,hlen],inj:=?_,imm:=hJok,apart:=?_,size:=?_,none:=?_,arr:=?_,map:=?_,mine:=fun b hb=>hw.mine b (live b hb),news:=?_,le:=Imm.le_trans hw.le hI,pre:=?_,os:=hw.os,tape:=hw.tape,out:=hw.out,grow:=hw.grow,keep:=hw.keep },hd.mono hI⟩
  · obtain ⟨v,h1,h2⟩:=envSub_get he hx
    obtain ⟨h3,h4⟩:=hE.2 t v h1
    exact ⟨h3,rel h2 h4⟩
  · rintro i j b ⟨x,hx,hx'⟩ ⟨y,hy,hy'⟩ z1 z2 h1 h2
    obtain ⟨i',a1,a2,a3⟩:=alive i b z1 x hx hx' h1
    obtain ⟨j',b1,b2,b3⟩:=alive j b z2 y hy hy' h2
    have:=hw.inj i' j' b a2 b2 z1 z2 a3 b3
    subst this
    exact hinj i j i' ⟨x,hx,hx'⟩ ⟨y,hy,hy'⟩ a1 b1
  · rintro cb ⟨k,b,h1,h2,z,h3⟩
    obtain ⟨b',h4,h5,h6⟩:=alive k cb z b h1 h2 h3
    have hl:Live H ρ cb:=by obtain ⟨x,h7,h8⟩:=h5;exact ⟨b',x,h7,h8,z,h6⟩
    show (if frz cb then w.heap[cb]? else I cb)=none
    rw [if_neg]
    · exact hw.apart cb hl
    · rintro ⟨c,z',h7,h8,h9⟩
      have:=hw.inj b' c cb h5 h8 z z' h6 h9
      subst this
      exact hfr b' h7 k ⟨b,h1,h2⟩ h4
  · intro k sz n g hk i hi
    rcases blk k _ hk with ⟨b,f,h1,h2,h3⟩|⟨_,rfl⟩
    · rw [(h3 i hi).len]
      exact hw.size b sz n f h2 i hi
    · omega
  · intro k sz n g hk hρ
    rcases blk k _ hk with ⟨b,f,h1,h2,h3⟩|⟨_,rfl⟩
    · cases hb:ρ[b]? with
      | none =>
        have h4:=(List.getElem?_eq_some_iff.1 h2).1
        have h5:=List.getElem?_eq_none_iff.1 hb
        rw [hw.len] at h5
        omega
      | some q =>
        rw [relocate_get h1 hb] at hρ
        cases hρ
        exact hw.none b sz n f h2 hb
    · rfl
  · intro k sz n g cb z hk hρ
    obtain ⟨b',h4,h5,h6⟩:=alive k cb z _ hk (by simp) hρ
    rcases blk k _ hk with ⟨b,f,h1,h2,h3⟩|⟨h1,_⟩
    · rw [h4] at h1
      cases h1
      obtain ⟨cs,ty,a1,a2,a3,a4⟩:=hw.arr _ _ _ _ _ _ h2 h6
      refine ⟨cs,ty,a1,a2,a3,fun i j x hi hx=>?_⟩
      have e:=h3 i hi
      have cell:∃ v,(f i).cells[j]?=some v∧VSub H σ (·∈fr) v x:=by
        revert hx
        generalize f i=q at e ⊢
        generalize g i=q' at e ⊢
        intro hx
        cases e with
        | agg h hv =>
          rename_i cs ds
          have hlt:=(List.getElem?_eq_some_iff.1 hx).1
          have hlt':j<cs.length:=by simp [V.cells] at hlt;omega
          exact ⟨cs[j],by simp [V.cells,hlt'],hv j _ x (by simp [hlt']) hx⟩
        | closed hc =>
          refine ⟨x,hx,.closed ?_⟩
          cases q<;>simp only [V.cells] at hx<;>first
            | exact closed_all (by simp only [V.closed] at hc;exact hc) hx
            | (cases j<;>simp at hx;subst hx;exact hc)
        | sl h=>cases j<;>simp [V.cells] at hx;subst hx;exact ⟨_,rfl,.sl h⟩
        | ptr h=>cases j<;>simp [V.cells] at hx;subst hx;exact ⟨_,rfl,.ptr h⟩
        | map h=>cases j<;>simp [V.cells] at hx;subst hx;exact ⟨_,rfl,.map h⟩
        | nil h=>cases j<;>simp [V.cells] at hx;subst hx;exact ⟨_,rfl,.nil h⟩
        | emp h=>cases j<;>simp [V.cells] at hx;subst hx;exact ⟨_,rfl,.emp h⟩
        | nilList=>cases j<;>simp [V.cells] at hx;subst hx;exact ⟨_,rfl,.nilList⟩
        | empList=>cases j<;>simp [V.cells] at hx;subst hx;exact ⟨_,rfl,.empList⟩
        | frz a b c d e=>cases j<;>simp [V.cells] at hx;subst hx;exact ⟨_,rfl,.frz a b c d e⟩
        | frzPtr a b c d=>cases j<;>simp [V.cells] at hx;subst hx;exact ⟨_,rfl,.frzPtr a b c d⟩
        | ext a=>cases j<;>simp [V.cells] at hx;subst hx;exact ⟨_,rfl,.ext a⟩
        | tup a b=>cases j<;>simp [V.cells] at hx;subst hx;exact ⟨_,rfl,.tup a b⟩
        | fn a b c d=>cases j<;>simp [V.cells] at hx;subst hx;exact ⟨_,rfl,.fn a b c d⟩
      obtain ⟨v,b1,b2⟩:=cell
      obtain ⟨u,c1,c2⟩:=a4 i j v hi b1
      exact ⟨u,c1,rel b2 c2⟩
    · rw [h4] at h1;cases h1
  · intro k ms hk
    obtain ⟨b,ns,h1,h2,h3,h4⟩:=blk k _ hk
    obtain ⟨cb,h5,es,clk,h6,h7,h8⟩:=hw.map _ _ h2
    refine ⟨cb,relocate_get h1 h5,es,clk,h6,h7.trans h3,fun i e y he hy=>?_⟩
    have hlt:i<ns.length:=by have:=(List.getElem?_eq_some_iff.1 hy).1;omega
    obtain ⟨c1,c2⟩:=h8 i e ns[i] he (by simp [hlt])
    obtain ⟨d1,d2⟩:=h4 i ns[i] y (by simp [hlt]) hy
    exact ⟨c1.trans d1,rel d2 c2⟩
  · intro b hb
    have hb:(if frz b then w.heap[b]? else I b)≠none:=hb
    split at hb
    · rename_i hf
      exact .inr (hw.mine b (liveF b hf))
    · exact hw.news b hb
  · intro k x hk
    have hlt:k<m:=by rw [← hX];exact (List.getElem?_eq_some_iff.1 hk).1
    exact relocate_get (hm k hlt) (hw.pre k x hk)
end
def deadB:Blk→Bool
  | .dead=>true
  | _=>false
def deadAt (H:Heap) (i:Nat):Bool:=match H[i]? with
  | some b=>deadB b
  | none=>true
theorem deadAt_of {H:Heap}{i:Nat}(h:LiveAt H i):deadAt H i=false:=by
  obtain ⟨x,h1,h2⟩:=h
  unfold deadAt
  rw [h1]
  cases x<;>first|rfl|exact (h2 rfl).elim
def injL (σ:List (Option Nat)) (H:Heap):Bool:=(List.range σ.length).all fun i=>(List.range σ.length).all fun j=>i==j||deadAt H i||deadAt H j||match σ[i]?,σ[j]? with|some (some a),some (some b)=>a != b|_,_=>true
def apartL (fr:List Nat) (σ:List (Option Nat)) (H:Heap):Bool:=fr.all fun b=>(List.range σ.length).all fun i=>deadAt H i||match σ[i]? with|some (some a)=>a != b|_=>true
theorem injL_of {σ:List (Option Nat)}{H:Heap}(h:injL σ H=true) (i j b:Nat) (hi:LiveAt H i) (hj:LiveAt H j) (h1:σ[i]?=some (some b)) (h2:σ[j]?=some (some b)):i=j:=by
  have h3:=(List.getElem?_eq_some_iff.1 h1).1
  have h4:=(List.getElem?_eq_some_iff.1 h2).1
  have h5:=List.all_eq_true.1 h i (List.mem_range.2 h3)
  have h6:=List.all_eq_true.1 h5 j (List.mem_range.2 h4)
  rw [h1,h2,deadAt_of hi,deadAt_of hj] at h6
  simpa using h6
theorem apartL_of {fr:List Nat}{σ:List (Option Nat)}{H:Heap}(h:apartL fr σ H=true) (b:Nat) (hb:b∈fr) (i:Nat) (hi:LiveAt H i):σ[i]?≠some (some b):=fun h1=>by
  have h3:=(List.getElem?_eq_some_iff.1 h1).1
  have h5:=List.all_eq_true.1 (List.all_eq_true.1 h b hb) i (List.mem_range.2 h3)
  rw [h1,deadAt_of hi] at h5
  simp at h5
theorem sub_toL {m nt:Nat}{env env0:Env}{H H0:Heap}(σ:List (Option Nat)) (fr:List Nat) (h:(Nat.beq σ.length H0.length&&preB m σ&&injL σ H0&&apartL fr σ H0)=true) (he:EnvSub H σ (·∈fr) env env0) (hh:HSub H σ (·∈fr) 0 H0):SubOf m nt env H env0 H0:=by
  simp only [Bool.and_eq_true] at h
  exact sub_genL σ fr (Nat.eq_of_beq_eq_true h.1.1.1) (pre_of h.1.1.2) (injL_of h.1.2) (apartL_of h.2) he hh
theorem zsl {m nt:Nat}{env env0:Env}{H H0:Heap}(σ:List (Option Nat)) (fr:List Nat) (h:(Nat.beq σ.length H0.length&&preB m σ&&injL σ H0&&apartL fr σ H0)=true:=by exact rfl) (he:EnvSub H σ (·∈fr) env env0:=by ((repeat' (first|exact trivial|refine ⟨⟨_,rfl,?_⟩,?_⟩|refine vs1 ?_ ?_|refine vs2 ?_ ?_|refine vs3 ?_|refine vs4 ?_ ?_|refine ⟨.inl ⟨_,_,rfl,rfl,?_⟩,?_⟩|exact ⟨.inr ⟨rfl,rfl⟩,trivial⟩|refine ⟨.inr ⟨rfl,rfl⟩,?_⟩|(intro _ _)|exact vz1|refine ⟨trivial,?_⟩|refine ⟨bsub_mapE rfl rfl (fun _=>rfl),?_⟩|exact vza|exact vzt|exact vz2|fail));first|done|fail)) (hh:HSub H σ (·∈fr) 0 H0:=by ((repeat' (first|exact trivial|refine ⟨⟨_,rfl,?_⟩,?_⟩|refine vs1 ?_ ?_|refine vs2 ?_ ?_|refine vs3 ?_|refine vs4 ?_ ?_|refine ⟨.inl ⟨_,_,rfl,rfl,?_⟩,?_⟩|exact ⟨.inr ⟨rfl,rfl⟩,trivial⟩|refine ⟨.inr ⟨rfl,rfl⟩,?_⟩|(intro _ _)|exact vz1|refine ⟨trivial,?_⟩|refine ⟨bsub_mapE rfl rfl (fun _=>rfl),?_⟩|exact vza|exact vzt|exact vz2|fail));first|done|fail)):SubOf m nt env H env0 H0:=sub_toL σ fr h he hh
theorem joinH_is {σ:List Nat}{H H1 L G:Heap}(hl:σ.length=H1.length) (hg:G.length=H.length) (ho:∀ i,σ.idxOf? i=none→G[i]?=H[i]?) (h:∀ j k,σ[j]?=some k→G[k]?=some ((H1.getD j .dead).ren (rn σ H.length))) :
    joinH σ [] H (H1++L)=G++L.map (Blk.ren (rn σ H.length)):=by
  unfold joinH
  rw [List.drop_append_of_le_length (by omega),List.drop_eq_nil_of_le (by omega),List.nil_append]
  congr 1
  refine List.ext_getElem? fun i=>?_
  rw [joinAt_get,Nat.zero_add]
  cases hi:H[i]? with
  | none =>
    have h1:=List.getElem?_eq_none_iff.1 hi
    rw [List.getElem?_eq_none_iff.2 (by omega)]
    rfl
  | some b =>
    show some (pickB σ [] (rn σ H.length) (H1++L) i b)=G[i]?
    unfold pickB
    rw [show ([]:List Nat).contains i=false from rfl,cond_false]
    cases e:σ.idxOf? i with
    | none=>exact hi.symm.trans (ho i e).symm
    | some j =>
      have h1:=idxOf_some e
      have hj:=(List.getElem?_eq_some_iff.1 h1).1
      have h2:=h j i h1
      rw [h2]
      show some (Blk.ren (rn σ H.length) ((H1++L).getD j .dead))=_
      rw [List.getD_eq_getElem?_getD,List.getD_eq_getElem?_getD,List.getElem?_append_left (by omega)]
theorem joinH_same {σ:List Nat}{H H0:Heap}(hl:σ.length=H0.length) (h:∀ j k,σ[j]?=some k→H[k]?=some ((H0.getD j .dead).ren (rn σ H.length))):joinH σ [] H H0=H:=by
  have:=joinH_is (L:=[]) hl rfl (fun _ _=>rfl) h
  simpa using this
def SameAt (H:Heap) (r:Nat→Nat):List Nat→Heap→Prop
  | [],[]=>True
  | k::σ,b::H0=>H[k]?=some (b.ren r)∧SameAt H r σ H0
  | _,_=>False
theorem sameAt_get {H:Heap}{r:Nat→Nat}:∀ {σ:List Nat}{H0:Heap},SameAt H r σ H0→σ.length=H0.length∧∀ j k,σ[j]?=some k→H[k]?=some ((H0.getD j .dead).ren r)
  | [],[],_=>⟨rfl,fun j k h=>by simp at h⟩
  | k::σ,b::H0,⟨h1,h2⟩=>by
    obtain ⟨h3,h4⟩:=sameAt_get h2
    refine ⟨by simp [h3],fun j k' h=>?_⟩
    cases j with
    | zero=>simp at h;subst h;exact h1
    | succ j=>simp only [List.getElem?_cons_succ] at h;simpa using h4 j k' h
  | [],_::_,h=>h.elim
  | _::_,[],h=>h.elim
theorem mapE_renE {α:Type}{e:α→V}{m:List (Int × α)}{r:Nat→Nat}(he:∀ y,(e y).ren r=e y):(mapE e m).ren r=mapE e m:=by
  have h:entsE e m=(entsE e m).map fun p=>(p.1,p.2.ren r):=by
    unfold entsE
    rw [List.map_map]
    exact List.map_congr_left fun p _=>by show _=(Value.int .i64 p.1,(e p.2).ren r);rw [he]
  exact (congrArg Blk.map h).symm
section
variable {P:Program}{r:Option Nat}{m nt:Nat}{Q:Post}{env:Env}{H:Heap}{ops:Array Oper}{l:List Stp}{ty:TypeId}{pos:String}{after:Array Edge}
theorem ar_gsame (σ:List Nat) {H0:Heap}{i d:Nat}{fo:Operand}{args:List Operand}{ats:Array TypeId}{f:FuncId}{first cap vs xs:List V}{R:V→Prop}{Rp:V→Prop}(hfn:FnOk P f) (hf:eo env fo=some (.fn (.func f) first cap)) (hargs:args.mapM (eo env)=some vs)
    (h:ACalls P f xs H0 (fun v H'=>R v∧H'=H0) (fun v _=>Rp v)) (ha:ArgsSub H σ [] (first++vs++cap) xs) (hinj:σ.Nodup) (hlive:∀ b∈H0,b≠.dead) (hh:HSub H (σ.map some) (·∈([]:List Nat)) 0 H0)
    (hs:SameAt H (rn σ H.length) σ H0) (hd:d<nt) (hk:∀ v,R v→AR P r m nt ops Q l ((d,v.ren (rn σ H.length))::env) H) (hp:∀ v H1,Rp v→Q (.panic (v.ren (rn σ H.length))) [] H1) :
    AR P r m nt ops Q (.l i ⟨some d,.call ⟨.value fo,args.toArray,ats⟩,ty,pos,after,none⟩ false::l) env H:=by
  obtain ⟨hl,hs'⟩:=sameAt_get hs
  refine ar_gcall (H0:=H0) σ [] hfn hf hargs ha hl hinj (fun _ h=>by cases h) hh hlive h hd ?_ ?_
  · rintro v H1 ⟨hR,rfl⟩
    rw [joinH_same hl hs']
    exact hk v hR
  · rintro v H1 hR
    exact hp v _ hR
end
def KpW (B:Nat) (W W':World):Prop:=∀ r es clk,B≤r→W.heap[r]?=some (.map es clk)→W'.heap[r]?=some (.map es clk)
def RowMap (B:Nat) (W:World) (row:Option Nat):Prop:=∀ r,row=some r→B≤r∧∃ es clk,W.heap[r]?=some (.map es clk)
end Go.Proofs.YtbilpbabdgfblaaGreat
namespace Go.Proofs.YtbilpbabdgfblaaGreat.Im
open Go.RowKit
structure Cx (P:Program) where
  l:Nat
  I:Imm
  J:Option Nat→World→Prop
  B:Nat
  N:Nat
  el:Nat→List Value
  stable:∀ k W1 W2 row,J (some k) W1→W1.grownBy W2 row→RowMap B W1 row→J (some k) W2
  round:∀ k W1,J (some k) W1→k<N→YieldAt Fence.wide 0 P l (el k).toArray W1 fun e W'=>((e=.returned (.bool true)∧J (some (k+1)) W')∨(e=.returned (.bool false)∧J none W'))∧KpI I W1 W'∧KpW B W1 W'
abbrev Post:=AE→Env→Heap→Option Nat→Prop
def Own (B:Nat) (ρ:List (Option (Nat × Nat))):Prop:=∀ (j b z:Nat),ρ[j]?=some (some (b,z))→B≤b
def OnlyMap (H:Heap):Prop:=H.length≤1∧∀ blk∈H,∃ m,blk=.map m
section
variable {P:Program}(C:Cx P)
def St (nt:Nat) (env:Env) (H:Heap) (k:Option Nat) (ρ:List (Option (Nat × Nat))) (a:Act) (w:World):Prop:=EnvOk C.I ρ nt env a∧WOk (Ctx.self w ρ H C.I) C.I ρ H w∧Own C.B ρ∧a.defers=[]∧C.J k w∧(k=some 0→H=[]→C.B≤w.heap.size)
def Lift (nt:Nat) (Q:Post):Exit→Act→World→Prop
  | .normal,a,w=>∃ env H k ρ,St C nt env H k ρ a w∧Q .normal env H k
  | .exit id,a,w=>∃ env H k ρ,St C nt env H k ρ a w∧Q (.exit id) env H k
  | .goto l,a,w=>∃ env H k ρ,St C nt env H k ρ a w∧Q (.goto l) env H k
  | .ret,a,w=>∃ env H k ρ,St C nt env H k ρ a w∧Q .ret env H k
  | .panic _,_,_=>False
  | .outgrown,_,_=>False
structure AW (nt:Nat) (c:Code) (Q:Post) (env:Env) (H:Heap) (k:Option Nat):Prop where
  out:∀ ρ a w,St C nt env H k ρ a w→c.wpIn (Fw none) 0 P (Lift C nt Q) a w
structure AR (nt:Nat) (ops:Array Oper) (Q:Post) (l:List Stp) (env:Env) (H:Heap) (k:Option Nat):Prop where
  out:∀ ρ a w,St C nt env H k ρ a w→runP P none ops (Lift C nt Q) l (Keeps C.I ρ H w) a w
end
def thenP (next:Env→Heap→Option Nat→Prop) (Q:Post):Post
  | .normal,env,H,k=>next env H k
  | e,env,H,k=>Q e env H k
def inBlockP (id:Nat) (Q:Post):Post
  | .exit id',env,H,k=>bif Nat.beq id' id then Q .normal env H k else Q (.exit id') env H k
  | e,env,H,k=>Q e env H k
def Has (env:Env):Env→Prop
  | []=>True
  | (t,v)::l=>look env t=some v∧Has env l
structure LSI (P:Program) (nt:Nat) (env:Env) (H:Heap) (o:Oper) (R:V→Heap→Prop):Prop where
  out:∀ I ρ a w next Qx,EnvOk I ρ nt env a→WOk (Ctx.self w ρ H I) I ρ H w→(∀ ρ' H' v u w',R v H'→Pre ρ ρ'→WOk (Ctx.self w ρ H I) I ρ' H' w'→VRel I ρ' v u→next (a.put o.dst u) w')→o.wpIn (Fw none) 0 P a w next Qx
end Go.Proofs.YtbilpbabdgfblaaGreat.Im
namespace Go.Proofs.YtbilpbabdgfblaaGreat
open Go.RowKit
inductive LentV (H:Heap):V→V→Prop
  | closed {v} (h:v.closed=true):LentV H v v
  | ext {sz n f g} (hg:∀ k,k<n→g k=f k):LentV H (.list sz n f) (.list sz n g)
  | nil {sz g}:LentV H (.s (.slice none 0 0)) (.list sz 0 g)
  | emp {sz g}:LentV H .emp (.list sz 0 g)
  | sl {sz b i n N f g} (hb:H[b]?=some (.arr sz N f)) (hN:i+n≤N) (hc:∀ k,k<N→V.closed.all (f k).cells=true) (hg:∀ k,k<n→g k=f (i+k)):LentV H (.sl sz b i n) (.list sz n g)
  | agg {cs ds:List V} (h:cs.length=ds.length) (hv:∀ (j:Nat) v x,cs[j]?=some v→ds[j]?=some x→LentV H v x):LentV H (.agg cs) (.agg ds)
  | ptr {sz b off:Nat} {cs es ds:List V} (hb:H[b]?=some (.arr sz 1 (fun _=>.agg (cs++es)))) (h:cs.length=ds.length) (hv:∀ (j:Nat) v x,cs[j]?=some v→ds[j]?=some x→LentV H v x):LentV H (.ptr sz b 0 off) (.ref (.agg ds) off)
  | elt {sz b i off N:Nat} {f:Nat→V} (hb:H[b]?=some (.arr sz N f)) (hi:i<N) (hc:V.closed.all (f i).cells=true):LentV H (.ptr sz b i off) (.ref (f i) off)
def LentL (H:Heap):List V→List V→Prop
  | [],[]=>True
  | v::l,x::m=>LentV H v x∧LentL H l m
  | _,_=>False
theorem lentL_len {H:Heap}:∀ {l m:List V},LentL H l m→l.length=m.length
  | [],[],_=>rfl
  | _::l,_::m,h=>by simp [lentL_len (l:=l) (m:=m) h.2]
  | [],_::_,h=>h.elim
  | _::_,[],h=>h.elim
theorem lentL_get {H:Heap}:∀ {l m:List V},LentL H l m→∀ (j:Nat) v x,l[j]?=some v→m[j]?=some x→LentV H v x
  | [],[],_,j,v,x,h,_=>by simp at h
  | a::l,b::m,h,j,v,x,h1,h2=>by
    cases j with
    | zero=>simp at h1 h2;subst h1 h2;exact h.1
    | succ j=>exact lentL_get h.2 j v x (by simpa using h1) (by simpa using h2)
  | [],_::_,h,_,_,_,_,_=>h.elim
  | _::_,[],h,_,_,_,_,_=>h.elim
theorem LentV.aggL {H:Heap}{cs ds:List V}(h:LentL H cs ds):LentV H (.agg cs) (.agg ds):=.agg (lentL_len h) (lentL_get h)
theorem LentV.ptrL {H:Heap}{sz b off:Nat}{cs ds:List V}(es:List V) (hb:H[b]?=some (.arr sz 1 (fun _=>.agg (cs++es)))) (h:LentL H cs ds):LentV H (.ptr sz b 0 off) (.ref (.agg ds) off):=.ptr hb (lentL_len h) (lentL_get h)
theorem LentV.row {α:Type}[Inhabited α] {H:Heap}{sz b n:Nat}{e:α→V}{l:List α}(hb:H[b]?=some (LB sz e l)) (hn:n=l.length) (hc:∀ y,V.closed.all (e y).cells=true):LentV H (.sl sz b 0 n) (LV sz e l):=by
  subst hn
  exact .sl hb (by omega) (fun k _=>hc _) (fun k _=>by rw [Nat.zero_add])
section
variable {X:Ctx}{I:Imm}{ρ:List (Option (Nat × Nat))}{H:Heap}{w:World}
theorem withOwn_at {b:Nat}(h:Live H ρ b) (w:World):withOwn I H ρ w b=w.heap[b]?:=by
  unfold withOwn
  rw [if_pos h]
theorem LentV.rel (hw:WOk X I ρ H w) {v x:V}(h:LentV H v x):∀ {u:Value},VRel I ρ v u→VRel (withOwn I H ρ w) [] x u:=by
  have hle:=withOwn_le hw
  induction h with
  | closed hc=>intro u hu;exact (hu.close hc).mono hle (Pre.refl _)
  | ext hg=>intro u hu;exact (hu.mono hle (Pre.refl _)).ext hg
  | nil=>intro u hu;cases hu;exact .none_list none
  | emp=>intro u hu;cases hu;exact .none_list _
  | sl hb hN hc hg =>
    intro u hu
    exact hu.lend hw hb hN hc hg hle fun cb z o h1 h2=>by rw [withOwn_at ⟨_,_,hb,by simp,z,h1⟩];exact h2
  | agg hl hv ih =>
    intro u hu
    cases hu with
    | agg h1 h2 =>
      rename_i us
      refine .agg (h1.trans hl) fun j x u' hx hu'=>?_
      rename_i cs ds
      have hlt:j<cs.length:=by rw [hl];exact (List.getElem?_eq_some_iff.1 hx).1
      exact ih j cs[j] x (by simp [hlt]) hx (h2 j cs[j] u' (by simp [hlt]) hu')
  | ptr hb hl hv ih =>
    intro u hu
    rename_i sz b off cs es ds
    obtain ⟨cb,z,rfl,hρ⟩:=hu.ptr_inv
    have hL:Live H ρ cb:=⟨_,_,hb,by simp,z,hρ⟩
    obtain ⟨us,ty,hcs,hz,hn,hr⟩:=hw.arr _ _ _ _ _ _ hb hρ
    have hcell:∀ (j:Nat) x,ds[j]?=some x→∃ u,us[j]?=some u∧VRel (withOwn I H ρ w) [] x u:=fun j x hx=>by
      have hlt:j<cs.length:=by rw [hl];exact (List.getElem?_eq_some_iff.1 hx).1
      obtain ⟨u,h3,h4⟩:=hr 0 j cs[j] Nat.one_pos (by show (cs++es)[j]?=_;rw [List.getElem?_append_left hlt];simp [hlt])
      exact ⟨u,by simpa using h3,ih j cs[j] x (by simp [hlt]) hx h4⟩
    rw [Nat.zero_mul]
    refine .ref (us:=fun j=>us.getD j undef) ⟨us,ty,(0,0),by rw [withOwn_at hL];exact hcs,fun j hj=>?_⟩ fun j x hx=>?_
    · have hj:j<ds.length:=hj
      obtain ⟨u,h3,_⟩:=hcell j ds[j] (by simp [hj])
      rw [Nat.zero_add]
      simp [h3]
    · obtain ⟨u,h3,h4⟩:=hcell j x hx
      rw [show us.getD j undef=u by simp [h3]]
      exact h4
  | elt hb hi hc =>
    intro u hu
    rename_i sz b i off N f
    obtain ⟨cb,z,rfl,hρ⟩:=hu.ptr_inv
    have hL:Live H ρ cb:=⟨_,_,hb,by simp,z,hρ⟩
    obtain ⟨us,ty,hcs,hz,hn,hr⟩:=hw.arr _ _ _ _ _ _ hb hρ
    refine .ref (us:=fun j=>us.getD (i*sz+j) undef) ⟨us,ty,(0,0),by rw [withOwn_at hL];exact hcs,fun j hj=>?_⟩ fun j x hx=>?_
    · obtain ⟨u,h3,_⟩:=hr i j (f i).cells[j] hi (by simp [hj])
      simp [h3]
    · obtain ⟨u,h3,h4⟩:=hr i j x hi hx
      rw [show us.getD (i*sz+j) undef=u by simp [h3]]
      exact (h4.close (closed_all hc hx)).mono hle (Pre.refl _)
theorem lents_rel (hw:WOk X I ρ H w):∀ {vs vs':List V}{us:List Value},LentL H vs vs'→VRels I ρ vs us.toArray→VRels (withOwn I H ρ w) [] vs' us.toArray
  | [],[],us,_,h=>⟨h.1,fun j v u hj=>by simp at hj⟩
  | v::vs,v'::vs',us,⟨ha1,ha2⟩,h=>by
    cases us with
    | nil=>have:=h.1;simp at this
    | cons u us =>
      have h1:VRels I ρ vs us.toArray:=⟨by have:=h.1;simpa using this,fun j v u hj hu=>h.2 (j+1) v u (by simpa using hj) (by simpa using hu)⟩
      have ih:=lents_rel hw ha2 h1
      refine ⟨by have:=ih.1;simpa using this,fun j x y hj hu=>?_⟩
      cases j with
      | zero=>simp at hj hu;subst hj hu;exact ha1.rel hw (h.2 0 v u rfl rfl)
      | succ j=>exact ih.2 j x y (by simpa using hj) (by simpa using hu)
  | [],_::_,_,h,_=>h.elim
  | _::_,[],_,h,_=>h.elim
end
section
variable {P:Program}{r:Option Nat}{m nt:Nat}{Q:Post}{env:Env}{H:Heap}{ops:Array Oper}{l:List Stp}{dst:Option Tmp}{ty:TypeId}{pos:String}{after:Array Edge}{guard:Option (Nat × Bool)}{keep:Bool}
theorem ls_lcall {fo:Operand}{args:List Operand}{ats:Array TypeId}{f:FuncId}{first cap vs zs:List V}{R:V→Prop}(hfn:FnOk P f) (hf:eo env fo=some (.fn (.func f) first cap)) (hargs:args.mapM (eo env)=some vs)
    (ha:LentL H (first++vs++cap) zs) (h:PCalls P f zs R) (hflat:∀ v,R v→v.flat=true):LS P r m nt keep env H ⟨dst,.call ⟨.value fo,args.toArray,ats⟩,ty,pos,after,guard⟩ (fun v H'=>R v∧H'=H) NoP:=.mk
  fun X I ρ a w next Qx hX hs hk hp=>by
    have hw:=hs.2.1
    have h1:=eo_rel hs.1 hf
    cases h1':a.eval fo<;>rw [h1'] at h1<;>cases h1
    rename_i us ws e1 e2 e3 e4
    have hrel:VRels I ρ (first++vs++cap) (us++(args.map a.eval).toArray++ws):=(VRels.append ⟨e1,e2⟩ (evals hs.1 hargs)).append ⟨e3,e4⟩
    have hrel':=lents_rel (us:=(us++(args.map a.eval).toArray++ws).toList) hw ha (by rw [Array.toArray_toList];exact hrel)
    rw [Array.toArray_toList] at hrel'
    refine wpIn_of_run (by simp) (call_run hfn h1' w) ⟨fun h=>by simp [Fw,Fence.wide] at h,callsIn_fw.2 ?_⟩
    refine (h.1 _ w _ (withOwn_ok hw) hrel').mono fun e w' ⟨v,u,I',hR,he,hv,hle,hI',hn,hb⟩=>?_
    subst he
    have hI2:∀ b o,I b=some o→w'.heap[b]?=some o:=fun b o h1=>hI' b o (hle b o (withOwn_le hw b o h1))
    exact hk I ρ H v u w' ⟨hR,rfl⟩ (Imm.le_refl _) (Pre.refl _) (hw.pure (Imm.le_refl _) hI2 (fun _ h1=>.inl h1) hb) (hv.flat (hflat v hR)) (fun _=>keeps_pure hw (Imm.le_refl _) hb)
theorem ar_lcall {i d:Nat}{fo:Operand}{args:List Operand}{ats:Array TypeId}{f:FuncId}{first cap vs zs:List V}{R:V→Prop}(hfn:FnOk P f) (hf:eo env fo=some (.fn (.func f) first cap)) (hargs:args.mapM (eo env)=some vs)
    (ha:LentL H (first++vs++cap) zs) (h:PCalls P f zs R) (hflat:∀ v,R v→v.flat=true) (hd:d<nt) (hk:∀ v,R v→AR P r m nt ops Q l ((d,v)::env) H) :
    AR P r m nt ops Q (.l i ⟨some d,.call ⟨.value fo,args.toArray,ats⟩,ty,pos,after,none⟩ keep::l) env H :=
  ar_l (ls_lcall hfn hf hargs ha h hflat) hd (fun v H' ⟨a,b⟩=>by subst b;exact hk v a) (fun _ _ h=>h.elim)
end
section
variable {P:Program}{nt:Nat}{env:Env}{H:Heap}{dst:Option Tmp}{ty:TypeId}{pos:String}{after:Array Edge}{guard:Option (Nat × Bool)}{T T':TypeId}{d:TyD}{x:Operand}{v:V}
theorem qs_nilIsNot {b:Bool}(ht:TyIs P T d) (hk:d.tk=.iface b) (hx:eo env x=some (.s .nilIface)):QS P nt env H ⟨dst,.binOp .neq T x (.const .nilIface) T',ty,pos,after,guard⟩ (.s (.bool false)):=.mk fun X I ρ a w h hw=>by
  obtain ⟨ms,hu⟩:=ht.ifacek hk
  refine ⟨_,.s _,fun w' _=>?_⟩
  have e:(Op.equal T .nilIface .nilIface).run P w'=.ok true w':=eq_nn 9999 w' hu
  have h2:a.eval (.const .nilIface)=.nilIface:=rfl
  simp [execOp,sval h hx,h2,eqGuard,binOp,e]
theorem qs_nilFuncIsNot (ht:TyIs P T d) (hk:d.tk=.func) (hx:eo env x=some (.s .nilFunc)):QS P nt env H ⟨dst,.binOp .neq T x (.const .nilFunc) T',ty,pos,after,guard⟩ (.s (.bool false)):=.mk fun X I ρ a w h hw=>by
  obtain ⟨_,_,_,hu⟩:=ht.funck hk
  refine ⟨_,.s _,fun w' _=>?_⟩
  have e:(Op.equal T .nilFunc .nilFunc).run P w'=.ok true w':=eq_ff 9999 w' hu
  have h2:a.eval (.const .nilFunc)=.nilFunc:=rfl
  simp [execOp,sval h hx,h2,eqGuard,binOp,e]
theorem qs_funcIsNot {g:Fn}{vs us:List V}(ht:TyIs P T d) (hk:d.tk=.func) (hx:eo env x=some (.fn g vs us)):QS P nt env H ⟨dst,.binOp .neq T x (.const .nilFunc) T',ty,pos,after,guard⟩ (.s (.bool true)):=.mk fun X I ρ a w h hw=>by
  obtain ⟨_,_,_,hu⟩:=ht.funck hk
  have h1:=eo_rel h hx
  cases h1':a.eval x<;>rw [h1'] at h1<;>cases h1
  rename_i fs cs _ _ _ _
  refine ⟨_,.s _,fun w' _=>?_⟩
  have e:(Op.equal T (.func g fs cs) .nilFunc).run P w'=.ok false w':=eq_fn 9999 w' hu
  have h2:a.eval (.const .nilFunc)=.nilFunc:=rfl
  simp [execOp,h1',h2,eqGuard,binOp,e]
theorem TyIs.structk {fs:List (TypeId × Nat)}(h:TyIs P T d) (hk:d.tk=.struct fs):∃ fields,P.underlying T=some (.struct fields):=by
  obtain ⟨t,h1,h2⟩:=h.desc
  rw [hk] at h2
  cases t<;>simp [TK.of] at h2
  exact ⟨_,h1⟩
theorem qs_assertS {fs:List (TypeId × Nat)}{B:TypeId}(ht:TyIs P T d) (hk:d.tk=.struct fs) (hx:eo env x=some (.iface T v)):QS P nt env H ⟨dst,.typeAssert x B T true,ty,pos,after,guard⟩ (.tup [v,.s (.bool true)]):=.mk fun X I ρ a w h hw=>by
  have h1:=eo_rel h hx
  cases h1':a.eval x<;>rw [h1'] at h1<;>cases h1
  rename_i u hu
  obtain ⟨fields,hS⟩:=ht.structk hk
  refine ⟨.tuple #[u,.bool true],.tup rfl (fun j v' u' h h'=>?_),fun w' _=>?_⟩
  · match j with
    | 0=>simp at h h';subst h h';exact hu
    | 1=>simp at h h';subst h h';exact .s _
    | j+2=>simp at h
  · simp [execOp,h1',Instr.typeAssert,run_underlying hS]
theorem qs_makeInterfaceS {fs:List (TypeId × Nat)}(ht:TyIs P T d) (hk:d.tk=.struct fs) (hx:eo env x=some v):QS P nt env H ⟨dst,.makeInterface T x,ty,pos,after,guard⟩ (.iface T v):=.mk fun X I ρ a w h hw=>by
  obtain ⟨fields,hS⟩:=ht.structk hk
  exact ⟨_,.iface (eo_rel h hx),fun w' _=>by simp [execOp,Instr.makeInterface,run_underlying hS]⟩
theorem qs_assertN {fs:List (TypeId × Nat)}{B:TypeId}(ht:TyIs P T d) (hk:d.tk=.struct fs) (hx:eo env x=some (.s .nilIface)):QS P nt env H ⟨dst,.typeAssert x B T true,ty,pos,after,guard⟩ (.tup [constV d.zero,.s (.bool false)]):=.mk fun X I ρ a w h hw=>by
  obtain ⟨fields,hS⟩:=ht.structk hk
  refine ⟨.tuple #[d.zero,.bool false],.tup rfl (fun j v' u' h h'=>?_),fun w' _=>?_⟩
  · match j with
    | 0=>simp at h h';subst h h';exact constV_rel _ _ _
    | 1=>simp at h h';subst h h';exact .s _
    | j+2=>simp at h
  · simp [execOp,sval h hx,Instr.typeAssert,run_underlying hS,ht.zeroV]
end
section
variable {P:Program}{H:Heap}{ty:TypeId}{pos:String}{after:Array Edge}
theorem rec_ops2 {o:Oper}{k j:Nat}{y:Value}{cs cs':List Frame}{a:Act}{w:World}{Q:Exit→Act→List Frame→World→Prop}{ty2:TypeId}{pos2:String}{after2:Array Edge}(hg:o.guard=none) (hd:o.dst=some k) (he:(execOp a.eval o).run P w=.ok .recover w) (hk:k<a.tmps.size) (hr:(recoverD cs=some (y,cs'))∨(recoverD cs=none∧y=.nilIface∧cs'=cs))
    (h:Q .normal ((a.put (some k) y).put (some j) y) cs' w):wpOpsSIn Fence.wide 0 P #[o,⟨some j,.assign (.tmp k),ty2,pos2,after2,none⟩] Q (List.range 2) a cs w:=by
  show wpOpsSIn Fence.wide 0 P #[o,⟨some j,.assign (.tmp k),ty2,pos2,after2,none⟩] Q [0,1] a cs w
  have h0:(#[o,⟨some j,.assign (.tmp k),ty2,pos2,after2,none⟩]:Array Oper)[0]?=some o:=rfl
  have h1:(#[o,⟨some j,.assign (.tmp k),ty2,pos2,after2,none⟩]:Array Oper)[1]?=some ⟨some j,.assign (.tmp k),ty2,pos2,after2,none⟩:=rfl
  have hev:(a.put (some k) y).eval (.tmp k)=y:=by simp [Act.put,Act.eval,hk]
  have next:wpOpsSIn Fence.wide 0 P #[o,⟨some j,.assign (.tmp k),ty2,pos2,after2,none⟩] Q [1] (a.put (some k) y) cs' w:=by
    simp only [wpOpsSIn,h1]
    refine ⟨fun _ _=>trivial,?_⟩
    rw [if_pos (wanted_none rfl)]
    have hx:(execOp (a.put (some k) y).eval ⟨some j,.assign (.tmp k),ty2,pos2,after2,none⟩).run P w=.ok (.value y) w:=by simp [execOp,hev]
    simp only [hx]
    exact h
  rw [wpOpsSIn]
  simp only [h0]
  refine ⟨fun _ _=>trivial,?_⟩
  rw [if_pos (wanted_none hg)]
  simp only [he,hd]
  rcases hr with h1|⟨h1,rfl,rfl⟩
  · simp only [h1]
    exact next
  · simp only [h1]
    exact next
theorem dcalls_of_aw2 {g:FuncId}{fn:Func}{id k j:Nat}{ty2:TypeId}{pos2:String}{after2:Array Edge}{c:Code}{args:List V}{pan:Option V}{R:Heap→Prop}(ats:Array TypeId) (hf:P.funcs[g]?=some fn)
    (hb:fn.body=some (.seq (.region id #[⟨some k,.call ⟨.builtin .recover,#[],ats⟩,ty,pos,after,none⟩,⟨some j,.assign (.tmp k),ty2,pos2,after2,none⟩] false) c)) (hn:args.length≤fn.ntmps) (hk:k<fn.ntmps) (hj:j<fn.ntmps) (hr:fn.results=#[]) (hp:∀ v,pan=some v→∃ t y,v=.iface t y)
    (h:Pn.AW fn.ntmps true P none H.length fn.ntmps c (DQ R) ((j,pan.getD (.s .nilIface))::(k,pan.getD (.s .nilIface))::argEnv args 0) H):DCalls P g args H pan R:=by
  refine ⟨fun X I ρ w us u hw hv hm=>callsDIn_of_wpSIn hf hb trivial fun c₀ cs hu=>wpSIn_seq (wpSIn_region ?_)⟩
  have key:∃ y u1,VRel I ρ (pan.getD (.s .nilIface)) y∧settle u1=.returning∧((recoverD (c₀::cs)=some (y,{ c₀ with mode:=u1 }::cs))∨(recoverD (c₀::cs)=none∧y=.nilIface∧u1=c₀.mode)):=by
    cases pan with
    | none =>
      have hu0:c₀.mode=.returning:=hu.trans hm
      exact ⟨.nilIface,.returning,.s _,rfl,.inr ⟨by simp [recoverD,hu0],rfl,hu0.symm⟩⟩
    | some v =>
      obtain ⟨y,hy,hu1⟩:=hm
      have hu0:=hu.trans hu1
      exact ⟨y,.panicking [{ v:=y,recovered:=true }],hy,by simp [settle],.inl (by simp [recoverD,hu0])⟩
  obtain ⟨y,u1,hy,hs1,hrec⟩:=key
  let a0:Act:={ tmps:=us++Array.replicate (fn.ntmps-us.size) undef,defers:=[] }
  have hsz0:us.size≤fn.ntmps:=by rw [hv.1];exact hn
  refine rec_ops2 (y:=y) (cs':={ c₀ with mode:=u1 }::cs) rfl rfl (by simp [execOp,resolve,invoke,builtin]) (by show k<(us++Array.replicate (fn.ntmps-us.size) undef).size;rw [Array.size_append,Array.size_replicate];omega) ?_ ?_
  · rcases hrec with h1|⟨h1,h2,h3⟩
    · exact .inl h1
    · exact .inr ⟨h1,h2,by rw [h3]⟩
  refine wpSIn_of_wpIn rfl ?_
  have hsz:us.size≤fn.ntmps:=by rw [hv.1];exact hn
  have hst:St (Ctx.self w ρ H I) fn.ntmps ((j,pan.getD (.s .nilIface))::(k,pan.getD (.s .nilIface))::argEnv args 0) H I ρ ((a0.put (some k) y).put (some j) y) w:=⟨((argEnv_ok hv hsz).put hy hk).put hy hj,hw.self,DOk.nil rfl⟩
  have hpin:(⟨fn.ntmps,undef,some []⟩:Pin).Ok ((a0.put (some k) y).put (some j) y):=by
    refine ⟨?_,fun ds e=>by cases e;rfl⟩
    have hsz2:((a0.put (some k) y).put (some j) y).tmps.size=fn.ntmps:=hst.1.1
    simp [Array.getD,hsz2]
  refine wpIn_mono (h.1 (Ctx.self w ρ H I) I ρ _ w _ rfl rfl hw.len hst hpin) fun e a' w' hl=>?_
  have fin:∀ env' H' I' ρ',St (Ctx.self w ρ H I) fn.ntmps env' H' I' ρ' a' w'→(⟨fn.ntmps,undef,some []⟩:Pin).Ok a'→R H'→a'.defers=[]∧∃ u',({ c₀ with mode:=u1 }::cs:List Frame)={ c₀ with mode:=u' }::cs∧∃ v,(results fn a'.tmps).run P w'=.ok v w'∧(∃ x I' ρ' H',I.le I'∧Pre ρ ρ'∧WOk X I' ρ' H' w'∧Ending.returned v=.returned x∧settle u'=.returning∧R H'):=by
    intro env' H' I' ρ' hs ha hR
    refine ⟨ha.2 [] rfl,u1,rfl,.tuple #[],?_,.tuple #[],I',ρ',H',hs.2.1.le,hs.2.1.pre,hw.trans hs.2.1,rfl,hs1,hR⟩
    unfold results
    rw [hr]
    simp
  cases e with
  | normal=>obtain ⟨⟨env',H',I',ρ',hs,hq⟩,ha⟩:=hl;exact fin env' H' I' ρ' hs ha hq
  | ret=>obtain ⟨⟨env',H',I',ρ',hs,hq⟩,ha⟩:=hl;exact fin env' H' I' ρ' hs ha hq
  | exit id=>obtain ⟨⟨env',H',I',ρ',hs,hq⟩,ha⟩:=hl;exact hq.elim
  | goto id=>obtain ⟨⟨env',H',I',ρ',hs,hq⟩,ha⟩:=hl;exact hq.elim
  | panic ch=>obtain ⟨⟨v,u,H',I',ρ',_,_,_,_,hq⟩,ha⟩:=hl;exact hq.elim
  | outgrown=>exact hl.elim
end
theorem hfromF_p (lo hi n:Int):PCalls Tryz.prog 100 [vi n,.ref (vi lo) 0,.ref (vi hi) 0] (·=vb (outB lo hi n)):=by
  refine pcalls_of_aw Tryz.func100 rfl (dc rfl) ?_
  (repeat' (first|(refine ar_isq ?_;refine zq ?_)|refine zg ?_ ?_|refine zgu ?_|refine zst ?_|refine zco ?_ ?_|exact zd|(refine fun (hg:(_:Prop))=>?_;(try replace hg:=HG.out hg);(try dsimp only at hg);(try (have _h:True:=hg;clear _h hg)))))
  all_goals (refine aw_ret ?_;(repeat (first|refine ret_then ?_|refine ret_block ?_));refine bq1 rfl ⟨?_,rfl⟩)
  all_goals (simp only [vb,constV,outB];congr 2;simp;try omega)
theorem hfrom_p (lo hi:Int) (l:List Int):PCalls Tryz.prog 56 [vi lo,vi hi,encInts l] (·=vb (fromB lo hi l)):=by
  refine pcalls_of_aw Tryz.func56 rfl (dc rfl) ?_
  ((repeat refine aw_seq ?_);(first|(refine aw_region ?_));(repeat' (first|(refine ar_isq ?_;refine zq ?_)|refine zsr ?_)))
  (refine aw_mono_r (env':=[(0,vi lo),(1,vi hi),(2,encInts l),(3,.ref (vi lo) 0),(4,.ref (vi hi) 0)]) (H':=[]) ?_ ?_;(focus (exact zsb [] [0,1])))
  (repeat' (first|(refine ar_isq ?_;refine zq ?_)|(refine zpv fn99 (containsInts_p l fn100 rfl _ (fun x _=>hfromF_p lo hi x)) ?_)|refine zst ?_|refine zco ?_ ?_|exact zd|(refine fun (hg:(_:Prop))=>?_;(try replace hg:=HG.out hg);(try dsimp only at hg);(try (have _h:True:=hg;clear _h hg)))))
  (refine aw_ret ?_;(repeat (first|refine ret_then ?_|refine ret_block ?_));refine bq1 rfl ⟨?_,rfl⟩)
  rw [← any_out]
  rfl
def refV (e:Int):V:=.iface 169 (.agg [vi e])
theorem must_p (b:Bool) (e:Int):ACalls Tryz.prog 86 [vb b,vi e] [] (fun v H=>b=true∧v=.tup []∧H=[]) (fun v _=>b=false∧v=refV e):=by
  refine acalls_of_aw Tryz.func86 rfl (dc rfl) ?_
  (repeat' (first|(refine ar_isq ?_;refine zq ?_)|(refine zbt ?_)|refine ar_q (qs_makeInterfaceS (ty rfl) rfl rfl) (dc rfl) ?_|refine ar_panic rfl ?_|refine zst ?_|refine zco ?_ ?_|exact zd|(refine fun (hg:(_:Prop))=>?_;(try replace hg:=HG.out hg);(try dsimp only at hg);(try (have _h:True:=hg;clear _h hg)))))
  · exact (⟨by simp_all,rfl⟩:b=false∧refV e=refV e)
  · exact bq0n ⟨by simp_all,rfl,rfl⟩
section
variable {r:Option Nat}{m nt i d:Nat}{Q:Post}{env:Env}{H:Heap}{ops:Array Oper}{L:List Stp}{ty:TypeId}{pos:String}{after:Array Edge}{ats:Array TypeId}{x y z:Operand}
theorem ar_must {b:Bool}{e:Int}(h1:b=true→AR Tryz.prog r m nt ops Q L ((d,.tup [])::env) H) (h2:b=false→∀ H',Q (.panic (refV e)) [] H') (hx:eo env x=some (.s (.bool b)):=by exact rfl) (hy:eo env y=some (.s (.int .i64 e)):=by exact rfl) (hd:d<nt:=by exact dc rfl) :
    AR Tryz.prog r m nt ops Q (.l i ⟨some d,.call ⟨.value (.func 86),#[x,y],ats⟩,ty,pos,after,none⟩ false::L) env H:=by
  refine ar_gcall0 (args:=[x,y]) (vs:=[vb b,vi e]) (first:=[]) (cap:=[]) fn86 rfl (by rw [List.mapM_cons,List.mapM_cons,List.mapM_nil,hx,hy];rfl) [vb b,vi e] ⟨.closed rfl,.closed rfl,trivial⟩ (must_p b e) hd ?_ ?_
  · rintro _ _ ⟨hb,rfl,rfl⟩
    have:H++List.map (Blk.ren (rn [] H.length)) []=H:=by simp
    rw [this]
    exact h1 hb
  · rintro _ _ ⟨hb,rfl⟩
    exact h2 hb _
end
theorem fn1_sub {H:Heap}{σ:List (Option Nat)}{fr:Nat→Prop}{a a':V}{f:Fn}(ha:VSub H σ fr a a'):VSub H σ fr (.fn f [] [a]) (.fn f [] [a']) :=
  .fn rfl (fun j v x h1 _=>by simp at h1) rfl (fun j v x h1 h2=>by
    cases j with
    | zero=>simp at h1 h2;subst h1 h2;exact ha
    | succ j=>simp at h1)
theorem hwithin_p (n lo hi:Int):PCalls Tryz.prog 45 [vi n,vi lo,vi hi] (·=vb (withinB n lo hi)):=by
  refine pcalls_of_aw Tryz.func45 rfl (dc rfl) ?_
  (repeat' (first|(refine ar_isq ?_;refine zq ?_)|refine zg ?_ ?_|refine zgu ?_|refine zst ?_|refine zco ?_ ?_|exact zd|(refine fun (hg:(_:Prop))=>?_;(try replace hg:=HG.out hg);(try dsimp only at hg);(try (have _h:True:=hg;clear _h hg)))))
  all_goals (refine aw_ret ?_;(repeat (first|refine ret_then ?_|refine ret_block ?_));refine bq1 rfl ⟨?_,rfl⟩)
  all_goals (simp only [vb,constV,withinB];congr 2;simp;try omega)
theorem hclient_p (n:Int):PCalls Tryz.prog 136 [vi n] (·=vb (withinB n 0 50)):=by
  refine pcalls_of_aw Tryz.func136 rfl (dc rfl) ?_
  (repeat' (first|(refine ar_isq ?_;refine zq ?_)|(refine zpv fn45 (hwithin_p n 0 50) ?_)|refine zst ?_|refine zco ?_ ?_|exact zd|(refine fun (hg:(_:Prop))=>?_;(try replace hg:=HG.out hg);(try dsimp only at hg);(try (have _h:True:=hg;clear _h hg)))))
  (refine aw_ret ?_;(repeat (first|refine ret_then ?_|refine ret_block ?_));refine bq1 rfl ⟨?_,rfl⟩)
  rfl
theorem from1_p (lo hi x:Int):PCalls Tryz.prog 59 [vi lo,vi hi,encInts [x]] (·=vb (withinB x lo hi)):=(from_p lo hi [x]).mono fun v hv=>by rw [hv];simp [fromB]
theorem r8within_p (n lo hi:Int):PCalls Tryz.prog 141 [vi n,vi lo,vi hi] (·=vb (withinB n lo hi)):=by
  refine pcalls_of_aw Tryz.func141 rfl (dc rfl) ?_
  (repeat' (first|(refine ar_isq ?_;refine zq ?_)|refine zg ?_ ?_|refine zgu ?_|refine zst ?_|refine zco ?_ ?_|exact zd|(refine fun (hg:(_:Prop))=>?_;(try replace hg:=HG.out hg);(try dsimp only at hg);(try (have _h:True:=hg;clear _h hg)))))
  all_goals (refine aw_ret ?_;(repeat (first|refine ret_then ?_|refine ret_block ?_));refine bq1 rfl ⟨?_,rfl⟩)
  all_goals (simp only [vb,constV,withinB];congr 2;simp;try omega)
end Go.Proofs.YtbilpbabdgfblaaGreat
