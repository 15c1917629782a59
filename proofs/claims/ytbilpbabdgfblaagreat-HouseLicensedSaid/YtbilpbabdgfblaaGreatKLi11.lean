/- Parts of the proof: contracts of functions. No condition. -/
import Derived.Test.YtbilpbabdgfblaaGreatKLi10
set_option maxHeartbeats 16000000
set_option linter.unusedSimpArgs false
set_option linter.unusedVariables false
namespace Go.Proofs.YtbilpbabdgfblaaGreat
open Go.RowKit
section
variable {P:Program}{ops:Array Oper}{r:Option Nat}{Q Q':Exit→Act→World→Prop}
theorem drawn_go1 (hsel:Region.noSelect ops=true) (hQ:∀ (i:Nat) (o:Oper),ops[i]?=some o→∀ c a v w,Q (.panic c) (a.put o.dst v) w→Q (.panic c) a w) :
    ∀ (l:List Stp) (listed:Array Bool) (S:World→Prop) (a:Act) (w:World),(∀ s∈l,s.flat=true→ops[s.idx]?=some s.oper)→ShutL ops listed→planOk0 ops listed l=true→S w →
      runP0 P r ops Q l S a w→wpAnyS P r ops Q S (phaseEnd ops.size l) l.length listed a w
  | [],listed,S,a,w,_,_,hok,_,h=>⟨by simpa [planOk0] using hok,h⟩
  | .q i o::l,listed,S,a,w,hn,hsh,hok,hS,h=>by
    simp only [planOk0,Bool.and_eq_true] at hok
    obtain ⟨⟨⟨⟨⟨hp,hr⟩,hf⟩,hl⟩,him⟩,hok'⟩:=hok
    have hi:ops[i]?=some o:=hn (.q i o) (by simp) rfl
    simp only [runP0] at h
    have hn':∀ s∈l,s.flat=true→ops[s.idx]?=some s.oper:=fun s hs=>hn s (by simp [hs])
    show wpAnyS P r ops Q S (phaseEnd ops.size l) (l.length+1) listed a w
    rw [Bool.or_eq_true] at hl
    have hri:i∈Region.ready .any ops listed:=by simpa using hr
    rcases hl with hl|hl
    · cases hw:Region.wanted o (yielded ops a.tmps)
      · exact first_S (v:=undef) hp hi hsel (fun c a w=>hQ i o hi c a undef w) (awaits_of hl) (by simpa using him) l.length listed a w (Region.free_spec hi hf) hsh hri (.inr ⟨hw,rfl⟩) hS
          (drawn_go1 hsel hQ l _ S _ w hn' (hsh.set hri) hok' hS (h.2 hw))
      · obtain ⟨u,h1,h2⟩:=h.1 hw
        exact first_S (v:=u) hp hi hsel (fun c a w=>hQ i o hi c a u w) (awaits_of hl) (by simpa using him) l.length listed a w (Region.free_spec hi hf) hsh hri (.inl ⟨hw,h1⟩) hS
          (drawn_go1 hsel hQ l _ S _ w hn' (hsh.set hri) hok' hS h2)
    · cases hw:Region.wanted o (yielded ops a.tmps)
      · exact first_still (v:=undef) hp hi hsel (fun c a w=>hQ i o hi c a undef w) (by simpa using him) l.length listed a w (Region.free_spec hi hf) hsh hri (.inr ⟨hw,rfl⟩) hS
          (drawn_go1 hsel hQ l _ S _ w hn' (hsh.set hri) hok' hS (h.2 hw))
      · obtain ⟨u,h1,h2⟩:=h.1 hw
        exact first_still (v:=u) hp hi hsel (fun c a w=>hQ i o hi c a u w) (by simpa using him) l.length listed a w (Region.free_spec hi hf) hsh hri (.inl ⟨hw,fun w' _=>still_all hl (h1 w hS) w'⟩) hS
          (drawn_go1 hsel hQ l _ S _ w hn' (hsh.set hri) hok' hS h2)
  | .l i o keep::l,listed,S,a,w,hn,hsh,hok,hS,h=>by
    simp only [planOk0,Bool.and_eq_true,beq_iff_eq] at hok
    obtain ⟨⟨hr,hk⟩,hok'⟩:=hok
    have hi:ops[i]?=some o:=hn (.l i o keep) (by simp) rfl
    have hn':∀ s∈l,s.flat=true→ops[s.idx]?=some s.oper:=fun s hs=>hn s (by simp [hs])
    refine ⟨fun h0=>(by rw [hr] at h0;cases h0),fun j hj=>?_⟩
    have hj0:=hj
    rw [hr] at hj
    obtain rfl:j=i:=by simpa using hj
    exact head_ok (R:=runP0 P r ops Q l) hi hS (fun e=>by rw [e] at hk;simpa using hk) (fun S' a' w' h1 h3=>drawn_go1 hsel hQ l _ S' a' w' hn' (hsh.set hj0) hok' h1 h3) h
theorem region_drawn1 {l:List Oper}{id:Nat}{a:Act}{w:World}(ps:List (Nat × Nat)) (S:World→Prop) (hm:P.follows .mixedOrders=true) (hB:(ps.all (fun x=>decide (x.1<l.length))&&Region.noSelect l.toArray&&planOk0 l.toArray (Array.replicate l.toArray.size false) (numPlan l ps)&&(ps.length==l.length))=true)
    (hQ:∀ (i:Nat) (o:Oper),l.toArray[i]?=some o→∀ c a v w,Q (.panic c) (a.put o.dst v) w→Q (.panic c) a w)
    (hS:S { w with drawn:=w.drawn+1 }) (h:runP0 P r l.toArray Q (numPlan l ps) S a { w with drawn:=w.drawn+1 }):(Code.region id l.toArray true).wpIn (Fw r) 0 P Q a w:=by
  simp only [Bool.and_eq_true,beq_iff_eq,List.all_eq_true,decide_eq_true_eq] at hB
  obtain ⟨⟨⟨hn,hsel⟩,hok⟩,hlen⟩:=hB
  refine wpIn_region_any hm ?_
  have:=any_of_S _ _ _ _ (drawn_go1 hsel hQ (numPlan l ps) _ S a _ (fun s hs _=>by
    simp only [numPlan,List.mem_map] at hs
    obtain ⟨x,hx,rfl⟩:=hs
    have:=opAt_get l x.1 (hn x hx)
    split<;>simpa [Stp.idx,Stp.oper] using this) (fun j oj _ hl=>by exfalso;rw [Array.getD_eq_getD_getElem?,Array.getElem?_replicate] at hl;split at hl<;>simp at hl) hok hS h)
  rw [show (numPlan l ps).length=l.toArray.size by simp [numPlan,hlen]] at this
  exact this
structure Pin where
  t:Nat
  u:Value
  ds:Option (List Deferred)
def Pin.Ok (p:Pin) (a:Act):Prop:=a.tmps.getD p.t undef=p.u∧∀ ds,p.ds=some ds→a.defers=ds
def PinQ (p:Pin) (Q:Exit→Act→World→Prop):Exit→Act→World→Prop
  | .outgrown,a,w=>Q .outgrown a w
  | e,a,w=>Q e a w∧p.Ok a
def calmOp:Op→Bool
  | .move _|.assign _|.pick ..|.load ..|.binOp ..|.unOp ..|.convert ..|.fieldAddr ..|.field ..|.indexAddr ..|.index ..|.slice ..|.lookup ..|.extract ..|.build ..|.makeInterface ..|.makeFunc ..|.typeAssert ..|.store ..|.panic _=>true
  | _=>false
def opKeeps (t:Nat) (pd:Bool) (o:Oper):Bool:=!(o.dst==some t)&&(!pd||calmOp o.op)
theorem op_dst {t:Nat}{pd:Bool}{o:Oper}(h:opKeeps t pd o=true):o.dst≠some t:=by
  unfold opKeeps at h
  simp only [Bool.and_eq_true] at h
  exact fun e=>by rw [e] at h;simp at h
theorem op_calm {t:Nat}{o:Oper}(h:opKeeps t true o=true):calmOp o.op=true:=by
  unfold opKeeps at h
  simp only [Bool.and_eq_true] at h
  simpa using h.2
theorem val_no {s:Sem Value}{w w':World}{d:Deferred}(h:((do let x ← s;pure (Next.value x)):Sem Next).run P w=.ok (.defer d) w'):False:=by
  rw [Sem.run_bind] at h
  cases hs:s.run P w<;>rw [hs] at h<;>simp at h
theorem skip_no {s:Sem Unit}{w w':World}{d:Deferred}(h:((do s;pure Next.skip):Sem Next).run P w=.ok (.defer d) w'):False:=by
  rw [Sem.run_bind] at h
  cases hs:s.run P w<;>rw [hs] at h<;>simp at h
theorem calm_no {o:Oper}{r:Option Nat}{a:Act}{w w':World}{d:Deferred}(ho:calmOp o.op=true) (h:(o.semAt (Fw r).round a.eval).run P w=.ok (.defer d) w'):False:=by
  rw [Oper.semAt_eq _ _ _ (fun c e=>by rw [e] at ho;cases ho)] at h
  unfold execOp at h
  cases hop:o.op<;>rw [hop] at h ho<;>first|(cases ho;done)|exact val_no h|exact skip_no h|(simp at h;done)|skip
  rename_i c x y
  simp only [Sem.run_bind] at h
  cases hs:(asBool (a.eval c)).run P w<;>rw [hs] at h<;>simp at h
theorem put_pin {p:Pin}{a:Act}(h:p.Ok a) {d:Option Tmp}(hd:d≠some p.t) (v:Value):p.Ok (a.put d v):=by
  cases d with
  | none=>exact h
  | some d =>
    have:d≠p.t:=fun e=>hd (by rw [e])
    exact ⟨by simpa [Act.put,Array.getElem?_setIfInBounds_ne this] using h.1,h.2⟩
theorem pin_put {p:Pin}{a:Act}{d:Option Tmp}(hd:d≠some p.t) {v:Value}(h:p.Ok (a.put d v)):p.Ok a:=by
  cases d with
  | none=>exact h
  | some d =>
    have:d≠p.t:=fun e=>hd (by rw [e])
    exact ⟨by simpa [Act.put,Array.getElem?_setIfInBounds_ne this] using h.1,h.2⟩
theorem wpIn_pin {p:Pin}{o:Oper}{a:Act}{w:World}{next next':Act→World→Prop}(hk:opKeeps p.t p.ds.isSome o=true) (ha:p.Ok a) (hn:∀ a' w',p.Ok a'→next a' w'→next' a' w')
    (h:o.wpIn (Fw r) 0 P a w next Q):o.wpIn (Fw r) 0 P a w next' (PinQ p Q):=by
  have hd:=op_dst hk
  refine ⟨h.1,?_⟩
  have h2:=h.2
  revert h2
  generalize hres:(o.semAt (Fw r).round a.eval).run P w=res
  intro h2
  cases res
  case ok x w' =>
    cases x
    case value v=>exact hn _ _ (put_pin ha hd v) h2
    case skip=>exact hn _ _ (put_pin ha hd undef) h2
    case defer d =>
      cases hds:p.ds with
      | some ds=>rw [hds] at hk;exact (calm_no (op_calm hk) hres).elim
      | none=>exact hn _ _ (put_pin (a:={ a with defers:=d::a.defers }) ⟨ha.1,fun ds e=>by rw [hds] at e;cases e⟩ hd undef) h2
    case enter f args =>
      refine ⟨h2.1,h2.2.mono fun e w'' he=>?_⟩
      cases e
      case returned v=>exact hn _ _ (put_pin ha hd v) he
      case panicked c=>exact ⟨he,ha⟩
      all_goals exact he
    case row row args=>exact ⟨h2.1,h2.2.mono fun v w'' he=>hn _ _ (put_pin ha hd v) he⟩
    case round l f tmps args body =>
      refine ⟨h2.1,h2.2.mono fun e w'' he=>?_⟩
      cases e
      case returned v=>exact hn _ _ (put_pin ha hd v) he
      case panicked c=>exact ⟨he,ha⟩
      all_goals exact he
    all_goals exact h2.elim
  case halt x w' =>
    cases x
    case panic v=>exact ⟨h2,ha⟩
    all_goals exact h2.elim
theorem runP0_pin {p:Pin}:∀ {l:List Stp}{S:World→Prop}{a:Act}{w:World},(∀ s∈l,s.flat=true∧opKeeps p.t p.ds.isSome s.oper=true)→p.Ok a→runP0 P r ops Q l S a w→runP0 P r ops (PinQ p Q) l S a w
  | [],_,_,_,_,ha,h=>⟨h,ha⟩
  | .q i o::l,S,a,w,hf,ha,h=>by
    have hf':∀ s∈l,s.flat=true∧opKeeps p.t p.ds.isSome s.oper=true:=fun s hs=>hf s (by simp [hs])
    have hd:o.dst≠some p.t:=op_dst (hf (.q i o) (by simp)).2
    refine ⟨fun hw=>?_,fun hw=>runP0_pin hf' (put_pin ha hd _) (h.2 hw)⟩
    obtain ⟨v,h1,h2⟩:=h.1 hw
    exact ⟨v,h1,runP0_pin hf' (put_pin ha hd _) h2⟩
  | .l i o keep::l,S,a,w,hf,ha,h=>by
    have hf':∀ s∈l,s.flat=true∧opKeeps p.t p.ds.isSome s.oper=true:=fun s hs=>hf s (by simp [hs])
    have hk:=(hf (.l i o keep) (by simp)).2
    refine ⟨fun hw=>wpIn_pin hk ha ?_ (h.1 hw),fun hw=>runP0_pin hf' (put_pin ha (op_dst hk) _) (h.2 hw)⟩
    rintro a' w' ha' ⟨S',h1,h2,h3⟩
    exact ⟨S',h1,h2,runP0_pin hf' ha' h3⟩
  | .fork ps::l,S,a,w,hf,_,_=>by have:=(hf (.fork ps) (by simp)).1;cases this
theorem runP_pin {p:Pin}:∀ {l:List Stp}{S:World→Prop}{a:Act}{w:World},(∀ s∈l,s.flat=true∧opKeeps p.t p.ds.isSome s.oper=true)→p.Ok a→runP P r ops Q l S a w→runP P r ops (PinQ p Q) l S a w
  | [],_,_,_,_,ha,h=>⟨h,ha⟩
  | .q i o::l,S,a,w,hf,ha,h=>by
    have hf':∀ s∈l,s.flat=true∧opKeeps p.t p.ds.isSome s.oper=true:=fun s hs=>hf s (by simp [hs])
    have hd:o.dst≠some p.t:=op_dst (hf (.q i o) (by simp)).2
    refine ⟨fun hw=>?_,fun hw=>runP_pin hf' (put_pin ha hd _) (h.2 hw)⟩
    obtain ⟨v,h1,h2⟩:=h.1 hw
    exact ⟨v,h1,runP_pin hf' (put_pin ha hd _) h2⟩
  | .l i o keep::l,S,a,w,hf,ha,h=>by
    have hf':∀ s∈l,s.flat=true∧opKeeps p.t p.ds.isSome s.oper=true:=fun s hs=>hf s (by simp [hs])
    have hk:=(hf (.l i o keep) (by simp)).2
    refine ⟨fun hw=>wpIn_pin hk ha ?_ (h.1 hw),fun hw=>runP_pin hf' (put_pin ha (op_dst hk) _) (h.2 hw)⟩
    rintro a' w' ha' ⟨S',h1,h2,h3⟩
    exact ⟨S',h1,h2,runP_pin hf' ha' h3⟩
  | .fork ps::l,S,a,w,hf,_,_=>by have:=(hf (.fork ps) (by simp)).1;cases this
end
namespace Pn
structure AW (t:Nat) (pd:Bool) (P:Program) (r:Option Nat) (m nt:Nat) (c:Code) (Q:Post) (env:Env) (H:Heap):Prop where
  out:∀ X I ρ a w (p:Pin),p.t=t→p.ds.isSome=pd→X.ρ.length=m→St X nt env H I ρ a w→p.Ok a→c.wpIn (Fw r) 0 P (PinQ p (Lift X nt Q)) a w
section
variable {t:Nat}{pd:Bool}{P:Program}{r:Option Nat}{m nt:Nat}{Q Q':Post}{env env':Env}{H H':Heap}
theorem aw_skip (h:Q .normal env H):AW t pd P r m nt .skip Q env H:=.mk fun _ I ρ _ _ _ _ _ _ hs ha=>wpIn_skip ⟨⟨env,H,I,ρ,hs,h⟩,ha⟩
theorem aw_ret (h:Q .ret env H):AW t pd P r m nt .ret Q env H:=.mk fun _ I ρ _ _ _ _ _ _ hs ha=>wpIn_ret ⟨⟨env,H,I,ρ,hs,h⟩,ha⟩
theorem aw_seq {x y:Code}(h:AW t pd P r m nt x (AE.then (AW t pd P r m nt y Q) Q) env H):AW t pd P r m nt (.seq x y) Q env H:=.mk
  fun X I ρ a w p hp hq0 hX hs ha=>wpIn_seq (wpIn_mono (h.1 X I ρ a w p hp hq0 hX hs ha) fun e a' w' hl=>by
    cases e with
    | normal=>obtain ⟨⟨env',H',I',ρ',hs',hq⟩,ha'⟩:=hl;exact hq.1 X I' ρ' a' w' p hp hq0 hX hs' ha'
    | exit _=>exact hl
    | goto _=>exact hl
    | ret=>exact hl
    | panic _=>exact hl
    | outgrown=>exact hl)
theorem aw_cond {c:Operand}{x y:Code}{b:Bool}(hc:eo env c=some (.s (.bool b))) (ht:b=true→AW t pd P r m nt x Q env H) (hf:b=false→AW t pd P r m nt y Q env H):AW t pd P r m nt (.cond c x y) Q env H:=.mk
  fun X I ρ a w p hp hq hX hs ha=>wpIn_cond_split (eo_bool hs.1 hc) (fun e=>(ht e).1 X I ρ a w p hp hq hX hs ha) (fun e=>(hf e).1 X I ρ a w p hp hq hX hs ha)
theorem aw_block {id:Nat}{c:Code}(h:AW t pd P r m nt c (AE.inBlock id Q) env H):AW t pd P r m nt (.block id c) Q env H:=.mk
  fun X I ρ a w p hp hq hX hs ha=>wpIn_block (wpIn_mono (h.1 X I ρ a w p hp hq hX hs ha) fun e a w h=>by
    cases e with
    | exit id' =>
      obtain ⟨⟨env,H,I,ρ,hs,hq⟩,ha⟩:=h
      simp only [AE.inBlock] at hq
      simp only [Exit.inBlock]
      cases hb:Nat.beq id' id
      · rw [hb] at hq
        rw [if_neg (fun e=>by rw [e,Nat.beq_refl] at hb;cases hb)]
        exact ⟨⟨env,H,I,ρ,hs,hq⟩,ha⟩
      · rw [hb] at hq
        rw [if_pos (Nat.eq_of_beq_eq_true hb)]
        exact ⟨⟨env,H,I,ρ,hs,hq⟩,ha⟩
    | normal=>exact h
    | goto _=>exact h
    | ret=>exact h
    | panic _=>exact h
    | outgrown=>exact h)
theorem aw_region {l:List Oper}{id:Nat}(h:AR P r m nt l.toArray Q (textPlan l 0) env H) (hk:l.all (opKeeps t pd)=true:=by rfl):AW t pd P r m nt (.region id l.toArray false) Q env H:=.mk fun X I ρ a w p hp hq hX hs ha=>by
  subst hp hq
  exact region_text (Keeps I ρ H w) (Keeps.refl hs.2.1) (runP_pin (fun s hs=>⟨textPlan_flat l 0 s hs,(by
    have key:∀ (l:List Oper) (n:Nat),l.all (opKeeps p.t p.ds.isSome)=true→∀ s∈textPlan l n,opKeeps p.t p.ds.isSome s.oper=true:=fun l=>by
      induction l with
      | nil=>intro n _ s hs;simp [textPlan] at hs
      | cons o l ih =>
        intro n hl s hs
        simp only [List.all_cons,Bool.and_eq_true] at hl
        unfold textPlan at hs
        rcases List.mem_cons.1 hs with h|h
        · rw [h];cases plainOp o.op<;>exact hl.1
        · exact ih _ hl.2 s h
    exact key l 0 hk s hs)⟩) ha (h.1 X I ρ a w hX hs))
theorem aw_drawn {l:List Oper}{id:Nat}(ps:List (Nat × Nat)) (hm:P.follows .mixedOrders=true) (_hB:drawnOk l ps=true) (h:AR P r m nt l.toArray Q (numPlan l ps) env H)
    (hB0:(ps.all (fun x=>decide (x.1<l.length))&&Region.noSelect l.toArray&&planOk0 l.toArray (Array.replicate l.toArray.size false) (numPlan l ps)&&(ps.length==l.length))=true:=by kernel_rfl) (hk:l.all (opKeeps t pd)=true:=by kernel_rfl) :
    AW t pd P r m nt (.region id l.toArray true) Q env H:=.mk fun X I ρ a w p hp hq hX hs ha=>by
  subst hp hq
  have hdl:∀ o∈l,opKeeps p.t p.ds.isSome o=true:=List.all_eq_true.1 hk
  refine region_drawn1 ps (Keeps I ρ H w) hm hB0 (fun i o hi c a' v w' hp=>⟨lift_put c a' o.dst v w' hp.1,pin_put (op_dst (hdl o (List.mem_of_getElem? (show l[i]?=some o by simpa using hi)))) hp.2⟩) (Keeps.refl (X:=X) hs.2.1.drew) ?_
  refine runP0_pin (fun s hs'=>⟨numPlan_flat l ps s hs',?_⟩) ha (run0 (numPlan_flat l ps) (h.1 X I ρ a _ hX ⟨hs.1,hs.2.1.drew,hs.2.2⟩))
  simp only [Bool.and_eq_true,List.all_eq_true,decide_eq_true_eq] at hB0
  unfold numPlan at hs'
  obtain ⟨x,hx,rfl⟩:=List.mem_map.1 hs'
  have:=hdl _ (List.mem_of_getElem? (opAt_get l x.1 (hB0.1.1.1 x hx)))
  split<;>exact this
theorem aw_sub {c:Code}(hs:SubOf m nt env H env' H') (h:AW t pd P r m nt c Q env' H'):AW t pd P r m nt c Q env H:=.mk fun X I ρ a w p hp hq hX h1 ha=>by
  obtain ⟨I',ρ',_,h2⟩:=hs.1 X I ρ a w hX h1
  exact h.1 X I' ρ' a w p hp hq hX h2 ha
end
end Pn
theorem qs_build_arr {P:Program}{nt n:Nat}{env:Env}{H:Heap}{T E:TypeId}{d de:TyD}{dst:Option Tmp}{ty:TypeId}{pos:String}{after:Array Edge}{guard:Option (Nat × Bool)}{parts:Array (Nat × Operand)}{vs:List (Nat × V)}{ds:List V}(ht:TyIs P T d) (hk:d.tk=.array n E) (he:TyIs P E de) (hz:(constV d.zero).ok=true)
    (hv:parts.toList.mapM (fun p=>(eo env p.2).map fun v=>(p.1,v))=some vs) (hb:BuildR (fun k=>some (k*de.size,de.size)) (constV d.zero).cells vs ds) :
    QS P nt env H ⟨dst,.build T parts,ty,pos,after,guard⟩ (.agg ds):=.mk fun X I ρ a w h hw=>by
  obtain ⟨e1,e2⟩:=evals2 h hv
  obtain ⟨out,h1,h2⟩:=fill_rel (I:=I) (ρ:=ρ) hb e1 e2 ((constV_rel I ρ d.zero).cells (V.ok_ne hz))
  refine ⟨.agg out,.agg h2.1 h2.2,fun w' _=>?_⟩
  have h1':Instr.fill (fun i=>some (i*de.size,de.size)) d.zero.cells (parts.map fun p=>(p.1,a.eval p.2)).toList=some out:=by
    rw [← h1]
    simp
  simp only [execOp,Instr.build,Sem.run_bind,ht.zeroV,Result.andThen_ok,run_underlying (ht.arr hk),he.sizeOf]
  rw [h1']
  rfl
section
variable {P:Program}{r:Option Nat}{m nt:Nat}{Q:Post}{env:Env}{H:Heap}{T T':TypeId}{d:TyD}{x:Operand}{v:V}{dst:Option Tmp}{ty:TypeId}{pos:String}{after:Array Edge}{guard:Option (Nat × Bool)}
theorem TyIs.ifacek {b:Bool}(h:TyIs P T d) (hk:d.tk=.iface b):∃ ms,P.underlying T=some (.interface ms):=by
  obtain ⟨t,ht,hk'⟩:=h.desc
  rw [hk] at hk'
  cases t<;>simp [TK.of] at hk'
  exact ⟨_,ht⟩
theorem TyIs.funck (h:TyIs P T d) (hk:d.tk=.func):∃ a b c,P.underlying T=some (.func a b c):=by
  obtain ⟨t,ht,hk'⟩:=h.desc
  rw [hk] at hk'
  cases t<;>simp [TK.of] at hk'
  exact ⟨_,_,_,ht⟩
theorem eq_nn (d:Nat) {ms:Array (String × TypeId)}(w:World) (h:P.underlying T=some (.interface ms)):(Op.equalIn (d+1) T .nilIface .nilIface).run P w=.ok true w:=by simp [Op.equalIn,run_underlying h]
theorem eq_in (d:Nat) {ms:Array (String × TypeId)}{t:TypeId}{u:Value}(w:World) (h:P.underlying T=some (.interface ms)):(Op.equalIn (d+1) T (.iface t u) .nilIface).run P w=.ok false w:=by simp [Op.equalIn,run_underlying h]
theorem eq_ff (d:Nat) {a:Array TypeId}{b:Array TypeId}{c:Bool}(w:World) (h:P.underlying T=some (.func a b c)):(Op.equalIn (d+1) T .nilFunc .nilFunc).run P w=.ok true w:=by simp [Op.equalIn,run_underlying h]
theorem eq_fn (d:Nat) {a:Array TypeId}{b:Array TypeId}{c:Bool}{g:Fn}{fs cs:Array Value}(w:World) (h:P.underlying T=some (.func a b c)):(Op.equalIn (d+1) T (.func g fs cs) .nilFunc).run P w=.ok false w:=by simp [Op.equalIn,run_underlying h]
theorem qs_nilIsNil {b:Bool}(ht:TyIs P T d) (hk:d.tk=.iface b) (hx:eo env x=some (.s .nilIface)):QS P nt env H ⟨dst,.binOp .eql T x (.const .nilIface) T',ty,pos,after,guard⟩ (.s (.bool true)):=.mk fun X I ρ a w h hw=>by
  obtain ⟨ms,hu⟩:=ht.ifacek hk
  refine ⟨_,.s _,fun w' _=>?_⟩
  have e:(Op.equal T .nilIface .nilIface).run P w'=.ok true w':=eq_nn 9999 w' hu
  have h2:a.eval (.const .nilIface)=.nilIface:=rfl
  simp [execOp,sval h hx,h2,eqGuard,binOp,e]
theorem qs_ifaceIsNil {b:Bool}{t:TypeId}(ht:TyIs P T d) (hk:d.tk=.iface b) (hx:eo env x=some (.iface t v)):QS P nt env H ⟨dst,.binOp .eql T x (.const .nilIface) T',ty,pos,after,guard⟩ (.s (.bool false)):=.mk fun X I ρ a w h hw=>by
  obtain ⟨ms,hu⟩:=ht.ifacek hk
  have h1:=eo_rel h hx
  cases h1':a.eval x<;>rw [h1'] at h1<;>cases h1
  rename_i u hu'
  refine ⟨_,.s _,fun w' _=>?_⟩
  have e:(Op.equal T (.iface t u) .nilIface).run P w'=.ok false w':=eq_in 9999 w' hu
  have h2:a.eval (.const .nilIface)=.nilIface:=rfl
  simp [execOp,h1',h2,eqGuard,binOp,e]
theorem qs_nilFuncIsNil (ht:TyIs P T d) (hk:d.tk=.func) (hx:eo env x=some (.s .nilFunc)):QS P nt env H ⟨dst,.binOp .eql T x (.const .nilFunc) T',ty,pos,after,guard⟩ (.s (.bool true)):=.mk fun X I ρ a w h hw=>by
  obtain ⟨_,_,_,hu⟩:=ht.funck hk
  refine ⟨_,.s _,fun w' _=>?_⟩
  have e:(Op.equal T .nilFunc .nilFunc).run P w'=.ok true w':=eq_ff 9999 w' hu
  have h2:a.eval (.const .nilFunc)=.nilFunc:=rfl
  simp [execOp,sval h hx,h2,eqGuard,binOp,e]
theorem qs_funcIsNil {g:Fn}{vs us:List V}(ht:TyIs P T d) (hk:d.tk=.func) (hx:eo env x=some (.fn g vs us)):QS P nt env H ⟨dst,.binOp .eql T x (.const .nilFunc) T',ty,pos,after,guard⟩ (.s (.bool false)):=.mk fun X I ρ a w h hw=>by
  obtain ⟨_,_,_,hu⟩:=ht.funck hk
  have h1:=eo_rel h hx
  cases h1':a.eval x<;>rw [h1'] at h1<;>cases h1
  rename_i fs cs _ _ _ _
  refine ⟨_,.s _,fun w' _=>?_⟩
  have e:(Op.equal T (.func g fs cs) .nilFunc).run P w'=.ok false w':=eq_fn 9999 w' hu
  have h2:a.eval (.const .nilFunc)=.nilFunc:=rfl
  simp [execOp,h1',h2,eqGuard,binOp,e]
theorem qs_assert {k:IntKind}{B:TypeId}(ht:TyIs P T d) (hk:d.tk=.int k) (hx:eo env x=some (.iface T v)):QS P nt env H ⟨dst,.typeAssert x B T true,ty,pos,after,guard⟩ (.tup [v,.s (.bool true)]):=.mk fun X I ρ a w h hw=>by
  have h1:=eo_rel h hx
  cases h1':a.eval x<;>rw [h1'] at h1<;>cases h1
  rename_i u hu
  refine ⟨.tuple #[u,.bool true],.tup rfl (fun j v' u' h h'=>?_),fun w' _=>?_⟩
  · match j with
    | 0=>simp at h h';subst h h';exact hu
    | 1=>simp at h h';subst h h';exact .s _
    | j+2=>simp at h
  · simp [execOp,h1',Instr.typeAssert,run_underlying (ht.intk hk)]
end
def ModeRel (I:Imm) (ρ:List (Option (Nat × Nat))):Option V→FrameMode→Prop
  | none,u=>u=.returning
  | some v,u=>∃ y,VRel I ρ v y∧u=.panicking [{ v:=y,recovered:=false }]
structure DCalls (P:Program) (g:FuncId) (args:List V) (H:Heap) (pan:Option V) (R:Heap→Prop):Prop where
  out:∀ X I ρ w us u,WOk X I ρ H w→VRels I ρ args us→ModeRel I ρ pan u→CallsDIn Fence.wide 0 P g us u w fun e u' w'=>∃ x I' ρ' H',I.le I'∧Pre ρ ρ'∧WOk X I' ρ' H' w'∧e=.returned x∧settle u'=.returning∧R H'
def DQ (R:Heap→Prop):Post
  | .normal,_,H=>R H
  | .ret,_,H=>R H
  | _,_,_=>False
section
variable {P:Program}{r:Option Nat}{m nt:Nat}{Q:Post}{env:Env}{H:Heap}{v:V}{ty:TypeId}{pos:String}{after:Array Edge}
theorem rec_ops {o:Oper}{y:Value}{cs cs':List Frame}{a:Act}{w:World}{Q:Exit→Act→List Frame→World→Prop}(hg:o.guard=none) (he:(execOp a.eval o).run P w=.ok .recover w) (hr:(recoverD cs=some (y,cs'))∨(recoverD cs=none∧y=.nilIface∧cs'=cs))
    (h:Q .normal (a.put o.dst y) cs' w):wpOpsSIn Fence.wide 0 P #[o] Q (List.range 1) a cs w:=by
  show wpOpsSIn Fence.wide 0 P #[o] Q [0] a cs w
  have h0:(#[o]:Array Oper)[0]?=some o:=rfl
  simp only [wpOpsSIn,h0]
  refine ⟨fun _ _=>trivial,?_⟩
  rw [if_pos (wanted_none hg)]
  simp only [he]
  rcases hr with h1|⟨h1,rfl,rfl⟩
  · simp only [h1]
    exact h
  · simp only [h1]
    exact h
theorem dcalls_of_aw {g:FuncId}{fn:Func}{id k:Nat}{c:Code}{args:List V}{pan:Option V}{R:Heap→Prop}(ats:Array TypeId) (hf:P.funcs[g]?=some fn)
    (hb:fn.body=some (.seq (.region id #[⟨some k,.call ⟨.builtin .recover,#[],ats⟩,ty,pos,after,none⟩] false) c)) (hn:args.length≤fn.ntmps) (hk:k<fn.ntmps) (hr:fn.results=#[]) (hp:∀ v,pan=some v→∃ t y,v=.iface t y)
    (h:Pn.AW fn.ntmps true P none H.length fn.ntmps c (DQ R) ((k,pan.getD (.s .nilIface))::argEnv args 0) H):DCalls P g args H pan R:=by
  refine ⟨fun X I ρ w us u hw hv hm=>callsDIn_of_wpSIn hf hb trivial fun c₀ cs hu=>wpSIn_seq (wpSIn_region ?_)⟩
  have key:∃ y u1,VRel I ρ (pan.getD (.s .nilIface)) y∧settle u1=.returning∧((recoverD (c₀::cs)=some (y,{ c₀ with mode:=u1 }::cs))∨(recoverD (c₀::cs)=none∧y=.nilIface∧u1=c₀.mode)):=by
    cases pan with
    | none =>
      have hu0:c₀.mode=.returning:=hu.trans hm
      exact ⟨.nilIface,.returning,.s _,rfl,.inr ⟨by simp [recoverD,hu0],rfl,hu0.symm⟩⟩
    | some v =>
      obtain ⟨y,hy,hu1⟩:=hm
      have hu0:=hu.trans hu1
      exact ⟨y,.panicking [{ v:=y,recovered:=true }],hy,by simp [settle],.inl (by simp [recoverD,hu0])⟩
  obtain ⟨y,u1,hy,hs1,hrec⟩:=key
  let a0:Act:={ tmps:=us++Array.replicate (fn.ntmps-us.size) undef,defers:=[] }
  refine rec_ops (y:=y) (cs':={ c₀ with mode:=u1 }::cs) rfl (by simp [execOp,resolve,invoke,builtin]) ?_ ?_
  · rcases hrec with h1|⟨h1,h2,h3⟩
    · exact .inl h1
    · exact .inr ⟨h1,h2,by rw [h3]⟩
  refine wpSIn_of_wpIn rfl ?_
  have hsz:us.size≤fn.ntmps:=by rw [hv.1];exact hn
  have hst:St (Ctx.self w ρ H I) fn.ntmps ((k,pan.getD (.s .nilIface))::argEnv args 0) H I ρ (a0.put (some k) y) w:=⟨(argEnv_ok hv hsz).put hy hk,hw.self,DOk.nil rfl⟩
  have hpin:(⟨fn.ntmps,undef,some []⟩:Pin).Ok (a0.put (some k) y):=by
    refine ⟨?_,fun ds e=>by cases e;rfl⟩
    have hsz2:(a0.put (some k) y).tmps.size=fn.ntmps:=hst.1.1
    simp [Array.getD,hsz2]
  refine wpIn_mono (h.1 (Ctx.self w ρ H I) I ρ _ w _ rfl rfl hw.len hst hpin) fun e a' w' hl=>?_
  have fin:∀ env' H' I' ρ',St (Ctx.self w ρ H I) fn.ntmps env' H' I' ρ' a' w'→(⟨fn.ntmps,undef,some []⟩:Pin).Ok a'→R H'→a'.defers=[]∧∃ u',({ c₀ with mode:=u1 }::cs:List Frame)={ c₀ with mode:=u' }::cs∧∃ v,(results fn a'.tmps).run P w'=.ok v w'∧(∃ x I' ρ' H',I.le I'∧Pre ρ ρ'∧WOk X I' ρ' H' w'∧Ending.returned v=.returned x∧settle u'=.returning∧R H'):=by
    intro env' H' I' ρ' hs ha hR
    refine ⟨ha.2 [] rfl,u1,rfl,.tuple #[],?_,.tuple #[],I',ρ',H',hs.2.1.le,hs.2.1.pre,hw.trans hs.2.1,rfl,hs1,hR⟩
    unfold results
    rw [hr]
    simp
  cases e with
  | normal=>obtain ⟨⟨env',H',I',ρ',hs,hq⟩,ha⟩:=hl;exact fin env' H' I' ρ' hs ha hq
  | ret=>obtain ⟨⟨env',H',I',ρ',hs,hq⟩,ha⟩:=hl;exact fin env' H' I' ρ' hs ha hq
  | exit id=>obtain ⟨⟨env',H',I',ρ',hs,hq⟩,ha⟩:=hl;exact hq.elim
  | goto id=>obtain ⟨⟨env',H',I',ρ',hs,hq⟩,ha⟩:=hl;exact hq.elim
  | panic ch=>obtain ⟨⟨v,u,H',I',ρ',_,_,_,_,hq⟩,ha⟩:=hl;exact hq.elim
  | outgrown=>exact hl.elim
end
theorem leaves_marksB {P:Program}{fn:Func}{tmps:Array Value}{R:Ending→World→Prop}{u:FrameMode}{rest:List Deferred}(hu:u≠.run):∀ (Ds:List Nat) (w:World),Ds.Nodup→(∀ D∈Ds,w.heap[D]?=some (.deferred (some []))) →
    LeavesInM Fence.wide 0 P fn tmps R rest u (taken Ds w)→LeavesInM Fence.wide 0 P fn tmps R (Ds.map mark++rest) u w
  | [],_,_,_,h=>h
  | D::Ds,w,hn,hD,h=>by
    rw [List.nodup_cons] at hn
    refine ⟨hu,.inl ⟨D,_,rfl,run_takeDeferred (hD D (by simp)),leaves_marksB hu Ds _ hn.2 (fun D' h'=>?_) h⟩⟩
    rw [World.putObj_heap_other (fun e=>hn.1 (by rw [← e];exact h'))]
    exact hD D' (by simp [h'])
theorem WOk.rebase {X:Ctx}{I:Imm}{ρ:List (Option (Nat × Nat))}{H:Heap}{w:World}{B:List Deferred}(h:WOk X I ρ H w):WOk { X with base:=B } I ρ H w :=
  ⟨h.len,h.inj,h.imm,h.apart,h.size,h.none,h.arr,h.map,h.mine,h.news,h.le,h.pre,h.os,h.tape,h.out,h.grow,h.keep⟩
theorem WOk.unbase {X:Ctx}{I:Imm}{ρ:List (Option (Nat × Nat))}{H:Heap}{w:World}{B:List Deferred}(h:WOk { X with base:=B } I ρ H w):WOk X I ρ H w :=
  ⟨h.len,h.inj,h.imm,h.apart,h.size,h.none,h.arr,h.map,h.mine,h.news,h.le,h.pre,h.os,h.tape,h.out,h.grow,h.keep⟩
def closD (g:FuncId) (pu:Value):Deferred:={ target:=.fn (.func g) #[pu],args:=#[] }
theorem wp_defer1 {P:Program}{Q:Exit→Act→World→Prop}{g:FuncId}{tf tc id:Nat}{a:Act}{w:World}{T1 T2:TypeId}{p1 p2:String}{e1 e2:Array Edge}(htf:tf<a.tmps.size)
    (h:Q .normal { tmps:=a.tmps.setIfInBounds tf (.func (.func g) #[] #[a.tmps.getD tc undef]),defers:=closD g (a.tmps.getD tc undef)::a.defers } w) :
    (Code.region id #[⟨some tf,.makeFunc (.func g) #[] #[.tmp tc],T1,p1,e1,none⟩,⟨none,.defer ⟨.value (.tmp tf),#[],#[]⟩,T2,p2,e2,none⟩] false).wpIn (Fw none) 0 P Q a w:=by
  refine region_text (l:=[⟨some tf,.makeFunc (.func g) #[] #[.tmp tc],T1,p1,e1,none⟩,⟨none,.defer ⟨.value (.tmp tf),#[],#[]⟩,T2,p2,e2,none⟩]) (fun _=>True) trivial ?_
  obtain ⟨pu,hpu⟩:∃ pu,a.tmps.getD tc undef=pu:=⟨_,rfl⟩
  rw [hpu] at h
  have hev0:a.eval (.tmp tc)=pu:=hpu
  refine ⟨fun _=>⟨.func (.func g) #[] #[pu],fun w' _=>by simp [execOp,Instr.makeFunc,hev0],?_⟩,fun hw=>by rw [wanted_none rfl] at hw;cases hw⟩
  refine ⟨fun _=>?_,fun hw=>by rw [wanted_none rfl] at hw;cases hw⟩
  refine ⟨fun _ _=>trivial,?_⟩
  have hev:(a.put (some tf) (.func (.func g) #[] #[pu])).eval (.tmp tf)=.func (.func g) #[] #[pu]:=by simp [Act.eval,Act.put,htf]
  have e:((⟨none,.defer ⟨.value (.tmp tf),#[],#[]⟩,T2,p2,e2,none⟩:Oper).semAt (Fw none).round (a.put (some tf) (.func (.func g) #[] #[pu])).eval).run P w=.ok (.defer (closD g pu)) w:=by
    rw [show (Fw none).round=none from rfl,Oper.semAt_none]
    simp [execOp,resolve,hev,Deferred.ofValue,closD]
  rw [e]
  exact ⟨fun _=>True,trivial,fun _ _ _=>trivial,h⟩
def TryQ (P:Program) (rs:Array ResultVar) (g:FuncId) (tc:Nat) (p:V) (R:V→Heap→Prop):Post
  | .normal,_,H=>DCalls P g [p] H none fun H'=>∃ v,ResV P [(tc,p)] H' rs v∧R v H'
  | .ret,_,H=>DCalls P g [p] H none fun H'=>∃ v,ResV P [(tc,p)] H' rs v∧R v H'
  | .panic x,_,H=>DCalls P g [p] H (some x) fun H'=>∃ v,ResV P [(tc,p)] H' rs v∧R v H'
  | _,_,_=>False
def NoQ:Post:=fun _ _ _=>False
theorem acalls_of_try {P:Program}{f g:FuncId}{fn gn:Func}{id0 id1 tc tf:Nat}{l0:List Oper}{c cg:Code}{args:List V}{H:Heap}{R:V→Heap→Prop}{T1 T2:TypeId}{p1 p2:String}{e1 e2:Array Edge}(hf:P.funcs[f]?=some fn)
    (hb:fn.body=some (.seq (.region id0 l0.toArray false) (.seq (.region id1 #[⟨some tf,.makeFunc (.func g) #[] #[.tmp tc],T1,p1,e1,none⟩,⟨none,.defer ⟨.value (.tmp tf),#[],#[]⟩,T2,p2,e2,none⟩] false) c)))
    (hg : P.funcs[g]? = some gn) (hgb : gn.body = some cg) (hgn : (gn.name == "runtime.NumGoroutine") = false) (hn : args.length ≤ fn.ntmps) (htf : tf < fn.ntmps) (htc : tf ≠ tc)
    (h:AW P none H.length fn.ntmps (.region id0 l0.toArray false) (AE.then (fun env1 H1=>∃ sz b i off,look env1 tc=some (.ptr sz b i off)∧Pn.AW tc false P none H1.length fn.ntmps c (TryQ P fn.results g tc (.ptr sz b i off) R) ((tf,.fn (.func g) [] [.ptr sz b i off])::env1) H1) NoQ) (argEnv args 0) H) :
    ACalls P f args H R NoP:=by
  refine ⟨fun X I ρ w us hw hv=>(callsIn_wide (n:=0)).1 (callsIn_of_wp_marks hf hb trivial ?_ rfl)⟩
  have h1:=h.1 (Ctx.self w ρ H I) I ρ { tmps:=us++Array.replicate (fn.ntmps-us.size) undef,defers:=[] } w hw.len ⟨argEnv_ok hv (by rw [hv.1];exact hn),hw.self,DOk.nil rfl⟩
  refine wpIn_seq (wpIn_mono h1 fun e a1 w1 hl=>?_)
  cases e with
  | exit _=>obtain ⟨_,_,_,_,_,hq⟩:=hl;exact hq.elim
  | goto _=>obtain ⟨_,_,_,_,_,hq⟩:=hl;exact hq.elim
  | ret=>obtain ⟨_,_,_,_,_,hq⟩:=hl;exact hq.elim
  | panic _=>obtain ⟨_,_,_,_,_,_,_,_,_,hq⟩:=hl;exact hq.elim
  | outgrown=>exact hl.elim
  | normal =>
  obtain ⟨env1,H1,I1,ρ1,hs1,sz,b,i,off,hp,hc⟩:=hl
  obtain ⟨htc1,hpu⟩:=hs1.1.2 tc _ hp
  obtain ⟨pu,hpu0⟩:∃ pu,pu=a1.tmps.getD tc undef:=⟨_,rfl⟩
  rw [← hpu0] at hpu
  refine wpIn_seq (wp_defer1 (by rw [hs1.1.1];exact htf) ?_)
  show Code.wpIn _ _ _ _ _ _ _
  rw [← hpu0]
  obtain ⟨Ds0,b1,b2,b3⟩:=hs1.2.2
  have b2:a1.defers=Ds0.map mark:=by rw [b2];exact List.append_nil _
  let X1:Ctx:={ Ctx.self w1 ρ1 H1 I1 with base:=closD g pu::a1.defers }
  have hw1:WOk X1 I1 ρ1 H1 w1:=hs1.2.1.self.rebase
  let a2:Act:={ tmps:=a1.tmps.setIfInBounds tf (.func (.func g) #[] #[pu]),defers:=closD g pu::a1.defers }
  have hfn:VRel I1 ρ1 (.fn (.func g) [] [.ptr sz b i off]) (.func (.func g) #[] #[pu]):=.fn rfl (fun j v u h=>by simp at h) rfl (fun j v u h h'=>by
    match j with
    | 0=>simp at h h';subst h h';exact hpu
    | j+1=>simp at h)
  have hs2:St X1 fn.ntmps ((tf,.fn (.func g) [] [.ptr sz b i off])::env1) H1 I1 ρ1 a2 w1:=⟨hs1.1.put hfn htf,hw1,⟨[],List.nodup_nil,rfl,fun D hD=>by simp at hD⟩⟩
  have hpin:(⟨tc,pu,none⟩:Pin).Ok a2:=⟨by show (a1.tmps.setIfInBounds tf _).getD tc undef=pu;rw [hpu0];simp [Array.getElem?_setIfInBounds_ne htc],fun ds e=>by cases e⟩
  refine wpIn_mono (hc.1 X1 I1 ρ1 a2 w1 ⟨tc,pu,none⟩ rfl rfl hs1.2.1.len hs2 hpin) fun e a' w' hl=>?_
  let RR:Ending→World→Prop:=fun e w'=>∃ v u I' ρ' H',I.le I'∧Pre ρ ρ'∧WOk X I' ρ' H' w'∧VRel I' ρ' v u∧((e=.returned u∧R v H')∨(e=.panicked [{ v:=u,recovered:=false }]∧NoP v H'))
  show bodyPostM Fence.wide 0 P fn RR e a' w'
  have hXI:∀ b o,(Ctx.self w ρ H I).I b=some o→b<(Ctx.self w ρ H I).w.heap.size:=fun b o h=>(Array.getElem?_eq_some_iff.1 (hw.imm b o h)).1
  have hXI1:∀ b o,X1.I b=some o→b<X1.w.heap.size:=fun b o h=>(Array.getElem?_eq_some_iff.1 (hs1.2.1.imm b o h)).1
  have cuts:∀ {I':Imm} {Ds:List Nat} {n:Nat},(∀ D∈Ds,n≤D∧I' D=some (.deferred (some [])))→∀ b cs ty fz,I' b=some (.cells cs ty fz)→I'.without Ds b=some (.cells cs ty fz):=fun hD b cs ty fz h=>by
    rw [Imm.without_out]
    · exact h
    · intro hb;rw [(hD b hb).2] at h;cases h
  have fin:∀ pan u H' I' ρ',u≠.run→WOk X1 I' ρ' H' w'→DOk X1 I' a'→(⟨tc,pu,none⟩:Pin).Ok a'→ModeRel I' ρ' pan u→DCalls P g [.ptr sz b i off] H' pan (fun H'=>∃ v,ResV P [(tc,.ptr sz b i off)] H' fn.results v∧R v H')→LeavesInM Fence.wide 0 P fn a'.tmps RR a'.defers u w':=by
    rintro pan u H' I' ρ' hu hw' ⟨Ds,d1,d2,d3⟩ ha hm hd
    rw [d2]
    refine leaves_marksB hu Ds w' d1 (fun D hD=>hw'.imm D _ (d3 D hD).2) ?_
    have hw2:=hw'.taken hXI1 d3
    have hm2:ModeRel (I'.without Ds) ρ' pan u:=by
      cases pan with
      | none=>exact hm
      | some x=>obtain ⟨y,h1,h2⟩:=hm;exact ⟨y,h1.cut (cuts d3),h2⟩
    have hpu2:VRel (I'.without Ds) ρ' (.ptr sz b i off) pu:=(hpu.mono hw'.le hw'.pre).cut (cuts d3)
    have hcall:=hd.1 X1 _ ρ' _ #[pu] u hw2 ⟨rfl,fun j v u h h'=>by
      match j with
      | 0=>simp at h h';subst h h';exact hpu2
      | j+1=>simp at h⟩ hm2
    refine ⟨hu,.inr ⟨fun h=>(by cases h),.func g,#[pu],g,#[pu],rfl,?_,fun _ _=>trivial,hcall.mono fun e u' w3 hq=>?_⟩⟩
    · exact fnOk hg hgb hgn #[pu] _
    · obtain ⟨x,I3,ρ3,H3,l3,q3,hw3,rfl,hset,v,hv3,hR⟩:=hq
      show LeavesInM Fence.wide 0 P fn a'.tmps RR a1.defers (settle u') w3
      rw [hset,b2]
      have hD0:∀ D∈Ds0,(Ctx.self w ρ H I).w.heap.size≤D∧I3 D=some (.deferred (some [])):=fun D hD=>⟨(b3 D hD).1,hw3.le D _ (b3 D hD).2⟩
      rw [← List.append_nil (Ds0.map mark)]
      refine leaves_marksB (by simp) Ds0 w3 b1 (fun D hD=>hw3.imm D _ (hD0 D hD).2) ?_
      have hw4:WOk (Ctx.self w ρ H I) I3 ρ3 H3 w3:=hs1.2.1.trans hw3.unbase
      have hw5:=hw4.taken hXI hD0
      have hpu3:VRel (I3.without Ds0) ρ3 (.ptr sz b i off) pu:=(hpu.mono hw3.le hw3.pre).cut (cuts hD0)
      have hlt:tc<a'.tmps.size:=by
        rcases Nat.lt_or_ge tc a'.tmps.size with h|h
        · exact h
        · exfalso
          have e:a'.tmps.getD tc undef=undef:=by simp [Array.getElem?_eq_none h]
          have e2:pu=undef:=(show a'.tmps.getD tc undef=pu from ha.1).symm.trans e
          rw [e2] at hpu
          cases hpu
      obtain ⟨u5,h5,h6⟩:=resV_run (nt:=a'.tmps.size) (a:=a') (env:=[(tc,.ptr sz b i off)]) ⟨rfl,fun t v ht=>by
        rw [look_cons] at ht
        split at ht
        · rename_i e;subst e;cases ht;exact ⟨hlt,by rw [show a'.tmps.getD tc undef=pu from ha.1];exact hpu3⟩
        · simp [look] at ht⟩ hw5 hv3
      exact ⟨u5,h6,v,u5,_,ρ3,H3,hw5.le,hw5.pre,hw.trans hw5,h5,.inl ⟨rfl,hR⟩⟩
  cases e with
  | normal=>obtain ⟨⟨env',H',I',ρ',hs,hq⟩,ha⟩:=hl;exact fin none .returning H' I' ρ' (by simp) hs.2.1 hs.2.2 ha rfl hq
  | ret=>obtain ⟨⟨env',H',I',ρ',hs,hq⟩,ha⟩:=hl;exact fin none .returning H' I' ρ' (by simp) hs.2.1 hs.2.2 ha rfl hq
  | exit id=>obtain ⟨⟨env',H',I',ρ',hs,hq⟩,ha⟩:=hl;exact hq.elim
  | goto id=>obtain ⟨⟨env',H',I',ρ',hs,hq⟩,ha⟩:=hl;exact hq.elim
  | panic ch =>
    obtain ⟨⟨v,u,H',I',ρ',rfl,h2,h3,h4,hq⟩,ha⟩:=hl
    exact fin (some v) _ H' I' ρ' (by simp) h3 h4 ha ⟨u,h2,rfl⟩ hq
  | outgrown=>exact hl.elim
theorem acalls_sub {P:Program}{f:FuncId}{args:List V}{H:Heap}{R R' Rp Rp':V→Heap→Prop}(h:ACalls P f args H R Rp) (hs:∀ v H',R v H'→∃ v' H'',SubOf H.length 1 [(0,v)] H' [(0,v')] H''∧R' v' H'')
    (hp:∀ v H',Rp v H'→∃ v' H'',SubOf H.length 1 [(0,v)] H' [(0,v')] H''∧Rp' v' H''):ACalls P f args H R' Rp':=by
  refine ⟨fun X I ρ w us hw hv=>(h.1 (Ctx.self w ρ H I) I ρ w us hw.self hv).mono ?_⟩
  rintro e w' ⟨v,u,I',ρ',H',h1,h2,h3,h4,h5⟩
  have key:∀ v' H'',SubOf H.length 1 [(0,v)] H' [(0,v')] H''→∃ I2 ρ2,I.le I2∧Pre ρ ρ2∧WOk X I2 ρ2 H'' w'∧VRel I2 ρ2 v' u:=by
    intro v' H'' hsub
    obtain ⟨I2,ρ2,k1,k2⟩:=hsub.1 (Ctx.self w ρ H I) I' ρ' { tmps:=#[u],defers:=[] } w' hw.len ⟨⟨rfl,fun t x hx=>by
      rw [look_cons] at hx
      split at hx
      · rename_i e;subst e;cases hx;exact ⟨by decide,h4⟩
      · simp [look] at hx⟩,h3,DOk.nil rfl⟩
    exact ⟨I2,ρ2,k2.2.1.le,k2.2.1.pre,hw.trans k2.2.1,(k2.1.2 0 v' rfl).2⟩
  rcases h5 with ⟨rfl,hR⟩|⟨rfl,hR⟩
  · obtain ⟨v',H'',s1,s2⟩:=hs v H' hR
    obtain ⟨I2,ρ2,a,b,c,d⟩:=key v' H'' s1
    exact ⟨v',u,I2,ρ2,H'',a,b,c,d,.inl ⟨rfl,s2⟩⟩
  · obtain ⟨v',H'',s1,s2⟩:=hp v H' hR
    obtain ⟨I2,ρ2,a,b,c,d⟩:=key v' H'' s1
    exact ⟨v',u,I2,ρ2,H'',a,b,c,d,.inr ⟨rfl,s2⟩⟩
theorem DCalls.mono {P:Program}{g:FuncId}{args:List V}{H:Heap}{pan:Option V}{R R':Heap→Prop}(h:DCalls P g args H pan R) (hr:∀ H',R H'→R' H'):DCalls P g args H pan R' :=
  ⟨fun X I ρ w us u a b c=>(h.1 X I ρ w us u a b c).mono fun _ _ _ ⟨x,I',ρ',H',a,b,c,d,e,f⟩=>⟨x,I',ρ',H',a,b,c,d,e,hr _ f⟩⟩
namespace Pn
theorem zco {t:Nat}{pd:Bool}{r:Option Nat}{m nt:Nat}{Q:Post}{env:Env}{H:Heap}{x:Operand}{c1 c2:Code}{b:Bool}(hy:b=true→AW t pd Tryz.prog r m nt c1 Q env H) (hn:b=false→AW t pd Tryz.prog r m nt c2 Q env H) (hc:eo env x=some (.s (.bool b)):=by exact rfl):AW t pd Tryz.prog r m nt (.cond x c1 c2) Q env H:=aw_cond hc hy hn
theorem do1_ret (H:Heap) (p:V):DCalls Tryz.prog 175 [p] H none (fun H'=>H'=H):=by
  refine dcalls_of_aw #[] Tryz.func175 rfl (dc rfl) (dc rfl) rfl (fun v h=>by cases h) ?_
  show AW _ true _ _ _ _ _ _ ((4,.s .nilIface)::_) _
  (repeat' (first|refine zq ?_|refine ar_q (qs_nilIsNil (ty rfl) rfl rfl) (dc rfl) ?_|refine zsvs ?_|refine zsva ?_|refine zses ?_|refine zsea ?_|refine ar_nil ?_|refine aw_seq ?_|refine aw_skip ?_|refine aw_block ?_|refine aw_exit ?_|refine aw_region ?_|refine zco ?_ ?_|exact zd|(refine fun (hg:(_:Prop))=>?_;(try replace hg:=HG.out hg);(try dsimp only at hg);(try (have _h:True:=hg;clear _h hg)))))
  all_goals exact (rfl:H=H)
theorem do1_pan (H:Heap) (k:Nat) (e z:Int) (hH:H[k]?=some (.arr 1 1 (fun _=>vi z))):DCalls Tryz.prog 175 [.ptr 1 k 0 0] H (some (errV e)) (fun H'=>H'=H.set k (.arr 1 1 (fun _=>vi e))):=by
  refine dcalls_of_aw #[] Tryz.func175 rfl (dc rfl) (dc rfl) rfl (fun v h=>by cases h;exact ⟨_,_,rfl⟩) ?_
  show AW _ true _ _ _ _ _ _ ((4,errV e)::_) _
  (repeat' (first|refine zq ?_|refine ar_q (qs_ifaceIsNil (ty rfl) rfl rfl) (dc rfl) ?_|refine ar_q (qs_assert (ty rfl) rfl rfl) (dc rfl) ?_|refine ar_store_var (ty rfl) rfl rfl hH rfl rfl rfl (dc rfl) (.inr ⟨rfl,rfl,rfl,fun _ h=>by cases h⟩) ?_|refine zsvs ?_|refine zsva ?_|refine zses ?_|refine zsea ?_|refine ar_nil ?_|refine aw_seq ?_|refine aw_skip ?_|refine aw_block ?_|refine aw_exit ?_|refine aw_region ?_|refine zco ?_ ?_|exact zd|(refine fun (hg:(_:Prop))=>?_;(try replace hg:=HG.out hg);(try dsimp only at hg);(try (have _h:True:=hg;clear _h hg)))))
  all_goals exact (rfl:H.set k (.arr 1 1 (fun _=>vi e))=H.set k (.arr 1 1 (fun _=>vi e)))
end Pn
def doersL:List V:=[.s .nilFunc,.fn (.func 177) [] [],.fn (.func 178) [] [],.fn (.func 179) [] [],.fn (.func 180) [] [],.fn (.func 181) [] [],.fn (.func 182) [] [],.fn (.func 183) [] []]
def doersV:V:=.agg doersL
theorem doers_p:PCalls Tryz.prog 176 [] (·=doersV):=by
  refine pcalls_of_aw Tryz.func176 rfl (dc rfl) ?_
  (repeat' (first|(refine zbt ?_)|refine ar_q (qs_build_arr (ds:=doersL) (ty rfl) rfl (ty rfl) rfl rfl (build rfl)) (dc rfl) ?_|refine zst ?_|refine zco ?_ ?_|exact zd|(refine fun (hg:(_:Prop))=>?_;(try replace hg:=HG.out hg);(try dsimp only at hg);(try (have _h:True:=hg;clear _h hg)))))
  refine aw_ret (bq1c (ty rfl) rfl rfl Nat.one_pos rfl ⟨rfl,rfl⟩)
def actE (s:Sto) (a:Deed):Int :=
  if a.kind=1 then engrE s else if a.kind=2 then transE s a.item else if a.kind=3 then moveE s a.item a.dest else if a.kind=4 then printE s a.item a.n else if a.kind=5 then spendE s a.item a.n else if a.kind=6 then spendE s a.item a.n else if a.kind=7 then destE s a.item else 2
def actF (s:Sto) (a:Deed):Sto :=
  if a.kind=1 then addS s newDie else if a.kind=2 then transF s a.item else if a.kind=3 then moveF s a.item a.dest else if a.kind=4 then printF s a.item a.n else if a.kind=5 then spendF s a.item a.n 1 else if a.kind=6 then spendF s a.item a.n 2 else destF s a.item
def actP (s:Sto) (p:List (Int × Int)) (a:Deed):List (Int × Int):=if a.kind=3 then moveP p (el s.items a.item.toNat) a.item a.dest else p
def actH (s:Sto) (p:List (Int × Int)) (a:Deed):Heap :=
  if a.kind=1∨a.kind=2 then WI (actF s a) (actP s p a) else if a.kind=4 then WP (actF s a) (actP s p a) else stoB 0 (actF s a) (actP s p a)
def DoR (s:Sto) (p:List (Int × Int)) (a:Deed) (v:V) (H:Heap):Prop:=(actE s a=0∧v=vi 0∧H=actH s p a)∨(actE s a≠0∧v=vi (actE s a)∧H=[.dead,.dead,.dead,.dead])
theorem set_get {α:Type}{l:List α}{i:Nat}{x y:α}(h:l[i]?=some y):(l.set i x)[i]?=some x:=by
  have:i<l.length:=(List.getElem?_eq_some_iff.1 h).1
  simp [this]
theorem join_out {σ fr:List Nat}{H H1:Heap}{k:Nat}{b:Blk}(h:H[k]?=some b) (h1:fr.contains k=false) (h2:σ.idxOf? k=none):(joinH σ fr H H1)[k]?=some b:=by
  unfold joinH
  have e:(joinAt σ fr (rn σ H.length) H1 0 H)[k]?=some b:=by
    rw [joinAt_get,h,Nat.zero_add]
    show some (pickB _ _ _ _ _ _)=some b
    unfold pickB
    rw [h1,h2]
    rfl
  rw [List.getElem?_append_left (List.getElem?_eq_some_iff.1 e).1]
  exact e
theorem try_ret {_sz:Nat}{H:Heap}{e:Int}{R:V→Heap→Prop}(hH:H[5]?=some (.arr 1 1 (fun _=>vi e))) (hR:R (vi e) H):DCalls Tryz.prog 175 [.ptr 1 5 0 0] H none fun H'=>∃ v,ResV Tryz.prog [(4,.ptr 1 5 0 0)] H' Tryz.f173.results v∧R v H' :=
  (Pn.do1_ret H _).mono fun _ h=>by subst h;exact ⟨vi e,.inl ⟨_,rfl,⟨_,1,5,0,0,1,_,ty rfl,rfl,hH,Nat.one_pos,rfl⟩⟩,hR⟩
theorem try_pan {H:Heap}{e:Int}{R:V→Heap→Prop}(hH:H[5]?=some (.arr 1 1 (fun _=>vi 0))) (hR:R (vi e) (H.set 5 (.arr 1 1 (fun _=>vi e)))):DCalls Tryz.prog 175 [.ptr 1 5 0 0] H (some (errV e)) fun H'=>∃ v,ResV Tryz.prog [(4,.ptr 1 5 0 0)] H' Tryz.f173.results v∧R v H' :=
  (Pn.do1_pan H 5 e 0 hH).mono fun H' h=>by subst h;exact ⟨vi e,.inl ⟨_,rfl,⟨_,1,5,0,0,1,_,ty rfl,rfl,set_get hH,Nat.one_pos,rfl⟩⟩,hR⟩
section
variable {a0 a1 a2 a3 X4 X5 X6:Blk}{F:Sto}{p:List (Int × Int)}
theorem joinWI:joinH [0,1,2,3] [] [a0,a1,a2,a3,X4,X5,X6] (WI F p)=[.arr 4 1 (fun _=>stoG 7 2 F),.dead,LB 2 Prt.enc F.prints,mapE vi p,X4,X5,X6,LB 5 Itm.enc F.items]:=by
  unfold WI
  rw [join4 (dc rfl),mapE_ren]
  rfl
theorem joinWP:joinH [0,1,2,3] [] [a0,a1,a2,a3,X4,X5,X6] (WP F p)=[.arr 4 1 (fun _=>stoG 1 7 F),LB 5 Itm.enc F.items,.dead,mapE vi p,X4,X5,X6,LB 2 Prt.enc F.prints]:=by
  unfold WP
  rw [join4 (dc rfl),mapE_ren]
  rfl
theorem joinST:joinH [0,1,2,3] [] [a0,a1,a2,a3,X4,X5,X6] (stoB 0 F p)=[.arr 4 1 (fun _=>stoV 0 F),LB 5 Itm.enc F.items,LB 2 Prt.enc F.prints,mapE vi p,X4,X5,X6]:=by
  rw [show stoB 0 F p=[.arr 4 1 (fun _=>stoV 0 F),LB 5 Itm.enc F.items,LB 2 Prt.enc F.prints,mapE vi p] from rfl,join4 (dc rfl),mapE_ren]
  rfl
theorem endWI:SubOf 4 1 [(0,vi 0)] [.arr 4 1 (fun _=>stoG 7 2 F),.dead,LB 2 Prt.enc F.prints,mapE vi p,X4,X5,X6,LB 5 Itm.enc F.items] [(0,vi 0)] (WI F p):=by
  unfold WI
  (exact zsc [some 0,some 1,some 2,some 3,some 7] [])
theorem endWP:SubOf 4 1 [(0,vi 0)] [.arr 4 1 (fun _=>stoG 1 7 F),LB 5 Itm.enc F.items,.dead,mapE vi p,X4,X5,X6,LB 2 Prt.enc F.prints] [(0,vi 0)] (WP F p):=by
  unfold WP
  (exact zsc [some 0,some 1,some 2,some 3,some 7] [])
theorem endST:SubOf 4 1 [(0,vi 0)] [.arr 4 1 (fun _=>stoV 0 F),LB 5 Itm.enc F.items,LB 2 Prt.enc F.prints,mapE vi p,X4,X5,X6] [(0,vi 0)] (stoB 0 F p):=by
  show SubOf 4 1 _ _ _ [.arr 4 1 (fun _=>stoV 0 F),LB 5 Itm.enc F.items,LB 2 Prt.enc F.prints,mapE vi p]
  (exact zsc [some 0,some 1,some 2,some 3] [])
end
section
variable {r:Option Nat}{m nt i d:Nat}{Q:Post}{env:Env}{ops:Array Oper}{L:List Stp}{ty:TypeId}{pos:String}{after:Array Edge}{ats:Array TypeId}{x y z:Operand}
theorem ar_act {s:Sto}{p:List (Int × Int)}{X4 X5 X6:Blk}{A:V}{f:FuncId}{E:Int}{Hn:Heap}(hfn:FnOk Tryz.prog f) (h:ACalls Tryz.prog f [.ptr 4 0 0 0,A] (stoB 0 s p) (fun v H=>E=0∧v=.tup []∧H=Hn) (fun v _=>E≠0∧v=errV E)) (hA:A.closed=true)
    (h1:E=0→AR Tryz.prog r m nt ops Q L ((d,.tup [])::env) (joinH [0,1,2,3] [] [.arr 4 1 (fun _=>stoV 0 s),LB 5 Itm.enc s.items,LB 2 Prt.enc s.prints,mapE vi p,X4,X5,X6] Hn))
    (h2:E≠0→∀ H1,Q (.panic (errV E)) [] (joinH [0,1,2,3] [] [.arr 4 1 (fun _=>stoV 0 s),LB 5 Itm.enc s.items,LB 2 Prt.enc s.prints,mapE vi p,X4,X5,X6] H1))
    (hz:eo env z=some (.fn (.func f) [] [])) (hx:eo env x=some (.ptr 4 0 0 0)) (hy:eo env y=some A) (hd:d<nt) :
    AR Tryz.prog r m nt ops Q (.l i ⟨some d,.call ⟨.value z,#[x,y],ats⟩,ty,pos,after,none⟩ false::L) env [.arr 4 1 (fun _=>stoV 0 s),LB 5 Itm.enc s.items,LB 2 Prt.enc s.prints,mapE vi p,X4,X5,X6]:=by
  refine ar_gcall (H0:=stoB 0 s p) [0,1,2,3] [] (args:=[x,y]) (vs:=[.ptr 4 0 0 0,A]) (first:=[]) (cap:=[]) hfn hz (by rw [List.mapM_cons,List.mapM_cons,List.mapM_nil,hx,hy];rfl) (xs:=[.ptr 4 0 0 0,A]) ⟨.ptr rfl,.closed hA,trivial⟩ rfl (by decide) (fun _ h=>by cases h) (hsub4 rfl rfl rfl rfl) stoB_live h hd ?_ ?_
  · rintro _ _ ⟨hh,rfl,rfl⟩
    exact h1 hh
  · rintro _ _ ⟨hh,rfl⟩
    exact h2 hh _
end
theorem do_end {s:Sto}{p:List (Int × Int)}{a:Deed}{H Hn:Heap}{E:Int}(h5:H[5]?=some (.arr 1 1 (fun _=>vi 0))) (hs:SubOf 4 1 [(0,vi 0)] H [(0,vi 0)] Hn) (h0:E=0) (hE:actE s a=E) (hH:actH s p a=Hn) :
    DCalls Tryz.prog 175 [.ptr 1 5 0 0] H none fun H'=>∃ v,ResV Tryz.prog [(4,.ptr 1 5 0 0)] H' Tryz.f173.results v∧∃ v' H'',SubOf 4 1 [(0,v)] H' [(0,v')] H''∧DoR s p a v' H'' :=
  try_ret (_sz:=1) h5 ⟨vi 0,Hn,hs,.inl ⟨by rw [hE,h0],rfl,hH.symm⟩⟩
theorem sub_dead {H:Heap}{e:Int}(h:4≤H.length):SubOf 4 1 [(0,vi e)] H [(0,vi e)] [.dead,.dead,.dead,.dead]:=by
  match H,h with
  | a::b::c::d::L,_=>(exact zsc [some 0,some 1,some 2,some 3] [])
theorem do_bad {s:Sto}{p:List (Int × Int)}{a:Deed}{H:Heap}{E:Int}(h5:H[5]?=some (.arr 1 1 (fun _=>vi 0))) (h0:E≠0) (hE:actE s a=E) :
    DCalls Tryz.prog 175 [.ptr 1 5 0 0] H (some (errV E)) fun H'=>∃ v,ResV Tryz.prog [(4,.ptr 1 5 0 0)] H' Tryz.f173.results v∧∃ v' H'',SubOf 4 1 [(0,v)] H' [(0,v')] H''∧DoR s p a v' H'' :=
  try_pan h5 ⟨vi E,_,sub_dead (by rw [List.length_set];exact (Nat.le_of_lt (by have:=(List.getElem?_eq_some_iff.1 h5).1;omega))),.inr ⟨by rw [hE];exact h0,by rw [hE],rfl⟩⟩
namespace Pn
theorem do1_p (s:Sto) (p:List (Int × Int)) (a:Deed) (hk:a.kind=1) (hV:Valid s) (_hP:PressOk s.items p):ACalls Tryz.prog 173 [.ptr 4 0 0 0,a.enc] (stoB 0 s p) (DoR s p a) NoP:=by
  have hn:=hV.1.2.1
  have hE:actE s a=engrE s:=by unfold actE;rw [hk];rfl
  have hF:actH s p a=WI (addS s newDie) p:=by unfold actH actF actP;rw [hk];rfl
  have hc:=engrave_p s p a hn
  refine acalls_sub (R:=fun v H'=>∃ v' H'',SubOf 4 1 [(0,v)] H' [(0,v')] H''∧DoR s p a v' H'') (Rp:=NoP) ?_ (fun _ _ h=>h) (fun _ _ h=>h.elim)
  refine acalls_of_try Tryz.func173 rfl Tryz.func175 rfl (by kernel_rfl) (dc rfl) (dc rfl) (by decide) ?_
  have ha:a.enc=.agg [vu8 1,vi a.item,vi a.dest,vi a.n]:=by unfold Deed.enc;rw [hk]
  rw [ha] at hc ⊢
  refine Go.Proofs.YtbilpbabdgfblaaGreat.aw_region ?_
  (repeat' (first|refine zq ?_|(refine zxl ?_;intro _ _ _)|(refine zxs ?_;intro _ _ _)|refine zbx ?_|refine zal ?_|refine zsvs ?_|refine zsva ?_|refine zses ?_|refine zsea ?_|refine zg ?_ ?_|refine zgu ?_|refine ar_nil ?_|refine aw_seq ?_|refine aw_skip ?_|refine aw_block ?_|refine aw_exit ?_|refine aw_region ?_|refine aw_drawn (id:=5) [(0,0),(1,0),(2,0),(3,0),(4,0),(5,0),(6,1)] mixed (by kernel_rfl) ?_|refine aw_drawn (id:=5) [(0,0),(1,0),(2,0),(3,0),(4,0),(5,0),(6,2)] mixed (by kernel_rfl) ?_|refine zco ?_ ?_|exact zd|(refine fun (hg:(_:Prop))=>?_;(try replace hg:=HG.out hg);(try dsimp only at hg);(try (have _h:True:=hg;clear _h hg)))))
  refine ⟨1,5,0,0,rfl,?_⟩
  refine aw_sub (m:=6) (env':=[(0,.ptr 4 0 0 0),(3,.ptr 4 4 0 0),(4,.ptr 1 5 0 0)]) (H':=[.arr 4 1 (fun _=>stoV 0 s),LB 5 Itm.enc s.items,LB 2 Prt.enc s.prints,mapE vi p,.arr 4 1 (fun _=>.agg [vu8 1,vi a.item,vi a.dest,vi a.n]),.arr 1 1 (fun _=>vi 0)]) ?_ ?_
  · (exact zsc [some 0,some 1,some 2,some 3,some 4,some 5] [])
  (repeat' (first|refine zq ?_|(refine zxl ?_;intro _ _ _)|(refine zxs ?_;intro _ _ _)|(refine zpv fn176 (doers_p) ?_)|refine ar_q (qs_funcIsNil (ty rfl) rfl rfl) (dc rfl) ?_|refine ar_q (qs_iaddr_aptr (j:=1) (ty rfl) rfl (ty rfl) rfl rfl rfl (dc rfl)) (dc rfl) ?_|((refine ar_act fn177 hc rfl ?_ ?_ rfl rfl rfl (dc rfl)<;>intro hrf))|refine zbx ?_|refine zal ?_|refine zsvs ?_|refine zsva ?_|refine zses ?_|refine zsea ?_|refine zg ?_ ?_|refine zgu ?_|refine ar_nil ?_|refine aw_seq ?_|refine aw_skip ?_|refine aw_block ?_|refine aw_exit ?_|refine aw_region ?_|refine aw_drawn (id:=5) [(0,0),(1,0),(2,0),(3,0),(4,0),(5,0),(6,2)] mixed (by kernel_rfl) ?_|refine aw_drawn (id:=5) [(0,0),(1,0),(2,0),(3,0),(4,0),(5,0),(6,1)] mixed (by kernel_rfl) ?_|refine zco ?_ ?_|exact zd|(refine fun (hg:(_:Prop))=>?_;(try replace hg:=HG.out hg);(try dsimp only at hg);(try (have _h:True:=hg;clear _h hg)))))
  · rw [joinWI]
    (repeat' (first|refine zq ?_|(refine zxl ?_;intro _ _ _)|(refine zxs ?_;intro _ _ _)|refine zbx ?_|refine zal ?_|refine zsvs ?_|refine zsva ?_|refine zses ?_|refine zsea ?_|refine zg ?_ ?_|refine zgu ?_|refine ar_nil ?_|refine aw_seq ?_|refine aw_skip ?_|refine aw_block ?_|refine aw_exit ?_|refine aw_region ?_|refine aw_drawn (id:=5) [(0,0),(1,0),(2,0),(3,0),(4,0),(5,0),(6,1)] mixed (by kernel_rfl) ?_|refine aw_drawn (id:=5) [(0,0),(1,0),(2,0),(3,0),(4,0),(5,0),(6,2)] mixed (by kernel_rfl) ?_|refine zco ?_ ?_|exact zd|(refine fun (hg:(_:Prop))=>?_;(try replace hg:=HG.out hg);(try dsimp only at hg);(try (have _h:True:=hg;clear _h hg)))))
    exact aw_ret (do_end rfl endWI hrf hE hF)
  · intro H1
    exact do_bad (join_out rfl rfl rfl) hrf hE
theorem do2_p (s:Sto) (p:List (Int × Int)) (a:Deed) (hk:a.kind=2) (hV:Valid s) (_hP:PressOk s.items p):ACalls Tryz.prog 173 [.ptr 4 0 0 0,a.enc] (stoB 0 s p) (DoR s p a) NoP:=by
  have hn:=hV.1.2.1
  have hE:actE s a=transE s a.item:=by unfold actE;rw [hk];rfl
  have hF:actH s p a=WI (transF s a.item) p:=by unfold actH actF actP;rw [hk];rfl
  have hc:=transfer_p s p a hV
  refine acalls_sub (R:=fun v H'=>∃ v' H'',SubOf 4 1 [(0,v)] H' [(0,v')] H''∧DoR s p a v' H'') (Rp:=NoP) ?_ (fun _ _ h=>h) (fun _ _ h=>h.elim)
  refine acalls_of_try Tryz.func173 rfl Tryz.func175 rfl (by kernel_rfl) (dc rfl) (dc rfl) (by decide) ?_
  have ha:a.enc=.agg [vu8 2,vi a.item,vi a.dest,vi a.n]:=by unfold Deed.enc;rw [hk]
  rw [ha] at hc ⊢
  refine Go.Proofs.YtbilpbabdgfblaaGreat.aw_region ?_
  (repeat' (first|refine zq ?_|(refine zxl ?_;intro _ _ _)|(refine zxs ?_;intro _ _ _)|refine zbx ?_|refine zal ?_|refine zsvs ?_|refine zsva ?_|refine zses ?_|refine zsea ?_|refine zg ?_ ?_|refine zgu ?_|refine ar_nil ?_|refine aw_seq ?_|refine aw_skip ?_|refine aw_block ?_|refine aw_exit ?_|refine aw_region ?_|refine aw_drawn (id:=5) [(0,0),(1,0),(2,0),(3,0),(4,0),(5,0),(6,1)] mixed (by kernel_rfl) ?_|refine aw_drawn (id:=5) [(0,0),(1,0),(2,0),(3,0),(4,0),(5,0),(6,2)] mixed (by kernel_rfl) ?_|refine zco ?_ ?_|exact zd|(refine fun (hg:(_:Prop))=>?_;(try replace hg:=HG.out hg);(try dsimp only at hg);(try (have _h:True:=hg;clear _h hg)))))
  refine ⟨1,5,0,0,rfl,?_⟩
  refine aw_sub (m:=6) (env':=[(0,.ptr 4 0 0 0),(3,.ptr 4 4 0 0),(4,.ptr 1 5 0 0)]) (H':=[.arr 4 1 (fun _=>stoV 0 s),LB 5 Itm.enc s.items,LB 2 Prt.enc s.prints,mapE vi p,.arr 4 1 (fun _=>.agg [vu8 2,vi a.item,vi a.dest,vi a.n]),.arr 1 1 (fun _=>vi 0)]) ?_ ?_
  · (exact zsc [some 0,some 1,some 2,some 3,some 4,some 5] [])
  (repeat' (first|refine zq ?_|(refine zxl ?_;intro _ _ _)|(refine zxs ?_;intro _ _ _)|(refine zpv fn176 (doers_p) ?_)|refine ar_q (qs_funcIsNil (ty rfl) rfl rfl) (dc rfl) ?_|refine ar_q (qs_iaddr_aptr (j:=2) (ty rfl) rfl (ty rfl) rfl rfl rfl (dc rfl)) (dc rfl) ?_|((refine ar_act fn178 hc rfl ?_ ?_ rfl rfl rfl (dc rfl)<;>intro hrf))|refine zbx ?_|refine zal ?_|refine zsvs ?_|refine zsva ?_|refine zses ?_|refine zsea ?_|refine zg ?_ ?_|refine zgu ?_|refine ar_nil ?_|refine aw_seq ?_|refine aw_skip ?_|refine aw_block ?_|refine aw_exit ?_|refine aw_region ?_|refine aw_drawn (id:=5) [(0,0),(1,0),(2,0),(3,0),(4,0),(5,0),(6,2)] mixed (by kernel_rfl) ?_|refine aw_drawn (id:=5) [(0,0),(1,0),(2,0),(3,0),(4,0),(5,0),(6,1)] mixed (by kernel_rfl) ?_|refine zco ?_ ?_|exact zd|(refine fun (hg:(_:Prop))=>?_;(try replace hg:=HG.out hg);(try dsimp only at hg);(try (have _h:True:=hg;clear _h hg)))))
  · rw [joinWI]
    (repeat' (first|refine zq ?_|(refine zxl ?_;intro _ _ _)|(refine zxs ?_;intro _ _ _)|refine zbx ?_|refine zal ?_|refine zsvs ?_|refine zsva ?_|refine zses ?_|refine zsea ?_|refine zg ?_ ?_|refine zgu ?_|refine ar_nil ?_|refine aw_seq ?_|refine aw_skip ?_|refine aw_block ?_|refine aw_exit ?_|refine aw_region ?_|refine aw_drawn (id:=5) [(0,0),(1,0),(2,0),(3,0),(4,0),(5,0),(6,1)] mixed (by kernel_rfl) ?_|refine aw_drawn (id:=5) [(0,0),(1,0),(2,0),(3,0),(4,0),(5,0),(6,2)] mixed (by kernel_rfl) ?_|refine zco ?_ ?_|exact zd|(refine fun (hg:(_:Prop))=>?_;(try replace hg:=HG.out hg);(try dsimp only at hg);(try (have _h:True:=hg;clear _h hg)))))
    exact aw_ret (do_end rfl endWI hrf hE hF)
  · intro H1
    exact do_bad (join_out rfl rfl rfl) hrf hE
theorem do3_p (s:Sto) (p:List (Int × Int)) (a:Deed) (hk:a.kind=3) (hV:Valid s) (hP:PressOk s.items p):ACalls Tryz.prog 173 [.ptr 4 0 0 0,a.enc] (stoB 0 s p) (DoR s p a) NoP:=by
  have hn:=hV.1.2.1
  have hE:actE s a=moveE s a.item a.dest:=by unfold actE;rw [hk];rfl
  have hF:actH s p a=stoB 0 (moveF s a.item a.dest) (moveP p (el s.items a.item.toNat) a.item a.dest):=by unfold actH actF actP;rw [hk];rfl
  have hc:=move_p s p a hV hP
  refine acalls_sub (R:=fun v H'=>∃ v' H'',SubOf 4 1 [(0,v)] H' [(0,v')] H''∧DoR s p a v' H'') (Rp:=NoP) ?_ (fun _ _ h=>h) (fun _ _ h=>h.elim)
  refine acalls_of_try Tryz.func173 rfl Tryz.func175 rfl (by kernel_rfl) (dc rfl) (dc rfl) (by decide) ?_
  have ha:a.enc=.agg [vu8 3,vi a.item,vi a.dest,vi a.n]:=by unfold Deed.enc;rw [hk]
  rw [ha] at hc ⊢
  refine Go.Proofs.YtbilpbabdgfblaaGreat.aw_region ?_
  (repeat' (first|refine zq ?_|(refine zxl ?_;intro _ _ _)|(refine zxs ?_;intro _ _ _)|refine zbx ?_|refine zal ?_|refine zsvs ?_|refine zsva ?_|refine zses ?_|refine zsea ?_|refine zg ?_ ?_|refine zgu ?_|refine ar_nil ?_|refine aw_seq ?_|refine aw_skip ?_|refine aw_block ?_|refine aw_exit ?_|refine aw_region ?_|refine aw_drawn (id:=5) [(0,0),(1,0),(2,0),(3,0),(4,0),(5,0),(6,1)] mixed (by kernel_rfl) ?_|refine aw_drawn (id:=5) [(0,0),(1,0),(2,0),(3,0),(4,0),(5,0),(6,2)] mixed (by kernel_rfl) ?_|refine zco ?_ ?_|exact zd|(refine fun (hg:(_:Prop))=>?_;(try replace hg:=HG.out hg);(try dsimp only at hg);(try (have _h:True:=hg;clear _h hg)))))
  refine ⟨1,5,0,0,rfl,?_⟩
  refine aw_sub (m:=6) (env':=[(0,.ptr 4 0 0 0),(3,.ptr 4 4 0 0),(4,.ptr 1 5 0 0)]) (H':=[.arr 4 1 (fun _=>stoV 0 s),LB 5 Itm.enc s.items,LB 2 Prt.enc s.prints,mapE vi p,.arr 4 1 (fun _=>.agg [vu8 3,vi a.item,vi a.dest,vi a.n]),.arr 1 1 (fun _=>vi 0)]) ?_ ?_
  · (exact zsc [some 0,some 1,some 2,some 3,some 4,some 5] [])
  (repeat' (first|refine zq ?_|(refine zxl ?_;intro _ _ _)|(refine zxs ?_;intro _ _ _)|(refine zpv fn176 (doers_p) ?_)|refine ar_q (qs_funcIsNil (ty rfl) rfl rfl) (dc rfl) ?_|refine ar_q (qs_iaddr_aptr (j:=3) (ty rfl) rfl (ty rfl) rfl rfl rfl (dc rfl)) (dc rfl) ?_|((refine ar_act fn179 hc rfl ?_ ?_ rfl rfl rfl (dc rfl)<;>intro hrf))|refine zbx ?_|refine zal ?_|refine zsvs ?_|refine zsva ?_|refine zses ?_|refine zsea ?_|refine zg ?_ ?_|refine zgu ?_|refine ar_nil ?_|refine aw_seq ?_|refine aw_skip ?_|refine aw_block ?_|refine aw_exit ?_|refine aw_region ?_|refine aw_drawn (id:=5) [(0,0),(1,0),(2,0),(3,0),(4,0),(5,0),(6,2)] mixed (by kernel_rfl) ?_|refine aw_drawn (id:=5) [(0,0),(1,0),(2,0),(3,0),(4,0),(5,0),(6,1)] mixed (by kernel_rfl) ?_|refine zco ?_ ?_|exact zd|(refine fun (hg:(_:Prop))=>?_;(try replace hg:=HG.out hg);(try dsimp only at hg);(try (have _h:True:=hg;clear _h hg)))))
  · rw [joinST]
    (repeat' (first|refine zq ?_|(refine zxl ?_;intro _ _ _)|(refine zxs ?_;intro _ _ _)|refine zbx ?_|refine zal ?_|refine zsvs ?_|refine zsva ?_|refine zses ?_|refine zsea ?_|refine zg ?_ ?_|refine zgu ?_|refine ar_nil ?_|refine aw_seq ?_|refine aw_skip ?_|refine aw_block ?_|refine aw_exit ?_|refine aw_region ?_|refine aw_drawn (id:=5) [(0,0),(1,0),(2,0),(3,0),(4,0),(5,0),(6,1)] mixed (by kernel_rfl) ?_|refine aw_drawn (id:=5) [(0,0),(1,0),(2,0),(3,0),(4,0),(5,0),(6,2)] mixed (by kernel_rfl) ?_|refine zco ?_ ?_|exact zd|(refine fun (hg:(_:Prop))=>?_;(try replace hg:=HG.out hg);(try dsimp only at hg);(try (have _h:True:=hg;clear _h hg)))))
    exact aw_ret (do_end rfl endST hrf hE hF)
  · intro H1
    exact do_bad (join_out rfl rfl rfl) hrf hE
theorem do4_p (s:Sto) (p:List (Int × Int)) (a:Deed) (hk:a.kind=4) (hV:Valid s) (_hP:PressOk s.items p):ACalls Tryz.prog 173 [.ptr 4 0 0 0,a.enc] (stoB 0 s p) (DoR s p a) NoP:=by
  have hn:=hV.1.2.1
  have hE:actE s a=printE s a.item a.n:=by unfold actE;rw [hk];rfl
  have hF:actH s p a=WP (printF s a.item a.n) p:=by unfold actH actF actP;rw [hk];rfl
  have hc:=print_p s p a hV
  refine acalls_sub (R:=fun v H'=>∃ v' H'',SubOf 4 1 [(0,v)] H' [(0,v')] H''∧DoR s p a v' H'') (Rp:=NoP) ?_ (fun _ _ h=>h) (fun _ _ h=>h.elim)
  refine acalls_of_try Tryz.func173 rfl Tryz.func175 rfl (by kernel_rfl) (dc rfl) (dc rfl) (by decide) ?_
  have ha:a.enc=.agg [vu8 4,vi a.item,vi a.dest,vi a.n]:=by unfold Deed.enc;rw [hk]
  rw [ha] at hc ⊢
  refine Go.Proofs.YtbilpbabdgfblaaGreat.aw_region ?_
  (repeat' (first|refine zq ?_|(refine zxl ?_;intro _ _ _)|(refine zxs ?_;intro _ _ _)|refine zbx ?_|refine zal ?_|refine zsvs ?_|refine zsva ?_|refine zses ?_|refine zsea ?_|refine zg ?_ ?_|refine zgu ?_|refine ar_nil ?_|refine aw_seq ?_|refine aw_skip ?_|refine aw_block ?_|refine aw_exit ?_|refine aw_region ?_|refine aw_drawn (id:=5) [(0,0),(1,0),(2,0),(3,0),(4,0),(5,0),(6,1)] mixed (by kernel_rfl) ?_|refine aw_drawn (id:=5) [(0,0),(1,0),(2,0),(3,0),(4,0),(5,0),(6,2)] mixed (by kernel_rfl) ?_|refine zco ?_ ?_|exact zd|(refine fun (hg:(_:Prop))=>?_;(try replace hg:=HG.out hg);(try dsimp only at hg);(try (have _h:True:=hg;clear _h hg)))))
  refine ⟨1,5,0,0,rfl,?_⟩
  refine aw_sub (m:=6) (env':=[(0,.ptr 4 0 0 0),(3,.ptr 4 4 0 0),(4,.ptr 1 5 0 0)]) (H':=[.arr 4 1 (fun _=>stoV 0 s),LB 5 Itm.enc s.items,LB 2 Prt.enc s.prints,mapE vi p,.arr 4 1 (fun _=>.agg [vu8 4,vi a.item,vi a.dest,vi a.n]),.arr 1 1 (fun _=>vi 0)]) ?_ ?_
  · (exact zsc [some 0,some 1,some 2,some 3,some 4,some 5] [])
  (repeat' (first|refine zq ?_|(refine zxl ?_;intro _ _ _)|(refine zxs ?_;intro _ _ _)|(refine zpv fn176 (doers_p) ?_)|refine ar_q (qs_funcIsNil (ty rfl) rfl rfl) (dc rfl) ?_|refine ar_q (qs_iaddr_aptr (j:=4) (ty rfl) rfl (ty rfl) rfl rfl rfl (dc rfl)) (dc rfl) ?_|((refine ar_act fn180 hc rfl ?_ ?_ rfl rfl rfl (dc rfl)<;>intro hrf))|refine zbx ?_|refine zal ?_|refine zsvs ?_|refine zsva ?_|refine zses ?_|refine zsea ?_|refine zg ?_ ?_|refine zgu ?_|refine ar_nil ?_|refine aw_seq ?_|refine aw_skip ?_|refine aw_block ?_|refine aw_exit ?_|refine aw_region ?_|refine aw_drawn (id:=5) [(0,0),(1,0),(2,0),(3,0),(4,0),(5,0),(6,2)] mixed (by kernel_rfl) ?_|refine aw_drawn (id:=5) [(0,0),(1,0),(2,0),(3,0),(4,0),(5,0),(6,1)] mixed (by kernel_rfl) ?_|refine zco ?_ ?_|exact zd|(refine fun (hg:(_:Prop))=>?_;(try replace hg:=HG.out hg);(try dsimp only at hg);(try (have _h:True:=hg;clear _h hg)))))
  · rw [joinWP]
    (repeat' (first|refine zq ?_|(refine zxl ?_;intro _ _ _)|(refine zxs ?_;intro _ _ _)|refine zbx ?_|refine zal ?_|refine zsvs ?_|refine zsva ?_|refine zses ?_|refine zsea ?_|refine zg ?_ ?_|refine zgu ?_|refine ar_nil ?_|refine aw_seq ?_|refine aw_skip ?_|refine aw_block ?_|refine aw_exit ?_|refine aw_region ?_|refine aw_drawn (id:=5) [(0,0),(1,0),(2,0),(3,0),(4,0),(5,0),(6,1)] mixed (by kernel_rfl) ?_|refine aw_drawn (id:=5) [(0,0),(1,0),(2,0),(3,0),(4,0),(5,0),(6,2)] mixed (by kernel_rfl) ?_|refine zco ?_ ?_|exact zd|(refine fun (hg:(_:Prop))=>?_;(try replace hg:=HG.out hg);(try dsimp only at hg);(try (have _h:True:=hg;clear _h hg)))))
    exact aw_ret (do_end rfl endWP hrf hE hF)
  · intro H1
    exact do_bad (join_out rfl rfl rfl) hrf hE
theorem do5_p (s:Sto) (p:List (Int × Int)) (a:Deed) (hk:a.kind=5) (hV:Valid s) (_hP:PressOk s.items p):ACalls Tryz.prog 173 [.ptr 4 0 0 0,a.enc] (stoB 0 s p) (DoR s p a) NoP:=by
  have hn:=hV.1.2.1
  have hE:actE s a=spendE s a.item a.n:=by unfold actE;rw [hk];rfl
  have hF:actH s p a=stoB 0 (spendF s a.item a.n 1) p:=by unfold actH actF actP;rw [hk];rfl
  have hc:=issue_p s p a hV
  refine acalls_sub (R:=fun v H'=>∃ v' H'',SubOf 4 1 [(0,v)] H' [(0,v')] H''∧DoR s p a v' H'') (Rp:=NoP) ?_ (fun _ _ h=>h) (fun _ _ h=>h.elim)
  refine acalls_of_try Tryz.func173 rfl Tryz.func175 rfl (by kernel_rfl) (dc rfl) (dc rfl) (by decide) ?_
  have ha:a.enc=.agg [vu8 5,vi a.item,vi a.dest,vi a.n]:=by unfold Deed.enc;rw [hk]
  rw [ha] at hc ⊢
  refine Go.Proofs.YtbilpbabdgfblaaGreat.aw_region ?_
  (repeat' (first|refine zq ?_|(refine zxl ?_;intro _ _ _)|(refine zxs ?_;intro _ _ _)|refine zbx ?_|refine zal ?_|refine zsvs ?_|refine zsva ?_|refine zses ?_|refine zsea ?_|refine zg ?_ ?_|refine zgu ?_|refine ar_nil ?_|refine aw_seq ?_|refine aw_skip ?_|refine aw_block ?_|refine aw_exit ?_|refine aw_region ?_|refine aw_drawn (id:=5) [(0,0),(1,0),(2,0),(3,0),(4,0),(5,0),(6,1)] mixed (by kernel_rfl) ?_|refine aw_drawn (id:=5) [(0,0),(1,0),(2,0),(3,0),(4,0),(5,0),(6,2)] mixed (by kernel_rfl) ?_|refine zco ?_ ?_|exact zd|(refine fun (hg:(_:Prop))=>?_;(try replace hg:=HG.out hg);(try dsimp only at hg);(try (have _h:True:=hg;clear _h hg)))))
  refine ⟨1,5,0,0,rfl,?_⟩
  refine aw_sub (m:=6) (env':=[(0,.ptr 4 0 0 0),(3,.ptr 4 4 0 0),(4,.ptr 1 5 0 0)]) (H':=[.arr 4 1 (fun _=>stoV 0 s),LB 5 Itm.enc s.items,LB 2 Prt.enc s.prints,mapE vi p,.arr 4 1 (fun _=>.agg [vu8 5,vi a.item,vi a.dest,vi a.n]),.arr 1 1 (fun _=>vi 0)]) ?_ ?_
  · (exact zsc [some 0,some 1,some 2,some 3,some 4,some 5] [])
  (repeat' (first|refine zq ?_|(refine zxl ?_;intro _ _ _)|(refine zxs ?_;intro _ _ _)|(refine zpv fn176 (doers_p) ?_)|refine ar_q (qs_funcIsNil (ty rfl) rfl rfl) (dc rfl) ?_|refine ar_q (qs_iaddr_aptr (j:=5) (ty rfl) rfl (ty rfl) rfl rfl rfl (dc rfl)) (dc rfl) ?_|((refine ar_act fn181 hc rfl ?_ ?_ rfl rfl rfl (dc rfl)<;>intro hrf))|refine zbx ?_|refine zal ?_|refine zsvs ?_|refine zsva ?_|refine zses ?_|refine zsea ?_|refine zg ?_ ?_|refine zgu ?_|refine ar_nil ?_|refine aw_seq ?_|refine aw_skip ?_|refine aw_block ?_|refine aw_exit ?_|refine aw_region ?_|refine aw_drawn (id:=5) [(0,0),(1,0),(2,0),(3,0),(4,0),(5,0),(6,2)] mixed (by kernel_rfl) ?_|refine aw_drawn (id:=5) [(0,0),(1,0),(2,0),(3,0),(4,0),(5,0),(6,1)] mixed (by kernel_rfl) ?_|refine zco ?_ ?_|exact zd|(refine fun (hg:(_:Prop))=>?_;(try replace hg:=HG.out hg);(try dsimp only at hg);(try (have _h:True:=hg;clear _h hg)))))
  · rw [joinST]
    (repeat' (first|refine zq ?_|(refine zxl ?_;intro _ _ _)|(refine zxs ?_;intro _ _ _)|refine zbx ?_|refine zal ?_|refine zsvs ?_|refine zsva ?_|refine zses ?_|refine zsea ?_|refine zg ?_ ?_|refine zgu ?_|refine ar_nil ?_|refine aw_seq ?_|refine aw_skip ?_|refine aw_block ?_|refine aw_exit ?_|refine aw_region ?_|refine aw_drawn (id:=5) [(0,0),(1,0),(2,0),(3,0),(4,0),(5,0),(6,1)] mixed (by kernel_rfl) ?_|refine aw_drawn (id:=5) [(0,0),(1,0),(2,0),(3,0),(4,0),(5,0),(6,2)] mixed (by kernel_rfl) ?_|refine zco ?_ ?_|exact zd|(refine fun (hg:(_:Prop))=>?_;(try replace hg:=HG.out hg);(try dsimp only at hg);(try (have _h:True:=hg;clear _h hg)))))
    exact aw_ret (do_end rfl endST hrf hE hF)
  · intro H1
    exact do_bad (join_out rfl rfl rfl) hrf hE
theorem do6_p (s:Sto) (p:List (Int × Int)) (a:Deed) (hk:a.kind=6) (hV:Valid s) (_hP:PressOk s.items p):ACalls Tryz.prog 173 [.ptr 4 0 0 0,a.enc] (stoB 0 s p) (DoR s p a) NoP:=by
  have hn:=hV.1.2.1
  have hE:actE s a=spendE s a.item a.n:=by unfold actE;rw [hk];rfl
  have hF:actH s p a=stoB 0 (spendF s a.item a.n 2) p:=by unfold actH actF actP;rw [hk];rfl
  have hc:=spoil_p s p a hV
  refine acalls_sub (R:=fun v H'=>∃ v' H'',SubOf 4 1 [(0,v)] H' [(0,v')] H''∧DoR s p a v' H'') (Rp:=NoP) ?_ (fun _ _ h=>h) (fun _ _ h=>h.elim)
  refine acalls_of_try Tryz.func173 rfl Tryz.func175 rfl (by kernel_rfl) (dc rfl) (dc rfl) (by decide) ?_
  have ha:a.enc=.agg [vu8 6,vi a.item,vi a.dest,vi a.n]:=by unfold Deed.enc;rw [hk]
  rw [ha] at hc ⊢
  refine Go.Proofs.YtbilpbabdgfblaaGreat.aw_region ?_
  (repeat' (first|refine zq ?_|(refine zxl ?_;intro _ _ _)|(refine zxs ?_;intro _ _ _)|refine zbx ?_|refine zal ?_|refine zsvs ?_|refine zsva ?_|refine zses ?_|refine zsea ?_|refine zg ?_ ?_|refine zgu ?_|refine ar_nil ?_|refine aw_seq ?_|refine aw_skip ?_|refine aw_block ?_|refine aw_exit ?_|refine aw_region ?_|refine aw_drawn (id:=5) [(0,0),(1,0),(2,0),(3,0),(4,0),(5,0),(6,1)] mixed (by kernel_rfl) ?_|refine aw_drawn (id:=5) [(0,0),(1,0),(2,0),(3,0),(4,0),(5,0),(6,2)] mixed (by kernel_rfl) ?_|refine zco ?_ ?_|exact zd|(refine fun (hg:(_:Prop))=>?_;(try replace hg:=HG.out hg);(try dsimp only at hg);(try (have _h:True:=hg;clear _h hg)))))
  refine ⟨1,5,0,0,rfl,?_⟩
  refine aw_sub (m:=6) (env':=[(0,.ptr 4 0 0 0),(3,.ptr 4 4 0 0),(4,.ptr 1 5 0 0)]) (H':=[.arr 4 1 (fun _=>stoV 0 s),LB 5 Itm.enc s.items,LB 2 Prt.enc s.prints,mapE vi p,.arr 4 1 (fun _=>.agg [vu8 6,vi a.item,vi a.dest,vi a.n]),.arr 1 1 (fun _=>vi 0)]) ?_ ?_
  · (exact zsc [some 0,some 1,some 2,some 3,some 4,some 5] [])
  (repeat' (first|refine zq ?_|(refine zxl ?_;intro _ _ _)|(refine zxs ?_;intro _ _ _)|(refine zpv fn176 (doers_p) ?_)|refine ar_q (qs_funcIsNil (ty rfl) rfl rfl) (dc rfl) ?_|refine ar_q (qs_iaddr_aptr (j:=6) (ty rfl) rfl (ty rfl) rfl rfl rfl (dc rfl)) (dc rfl) ?_|((refine ar_act fn182 hc rfl ?_ ?_ rfl rfl rfl (dc rfl)<;>intro hrf))|refine zbx ?_|refine zal ?_|refine zsvs ?_|refine zsva ?_|refine zses ?_|refine zsea ?_|refine zg ?_ ?_|refine zgu ?_|refine ar_nil ?_|refine aw_seq ?_|refine aw_skip ?_|refine aw_block ?_|refine aw_exit ?_|refine aw_region ?_|refine aw_drawn (id:=5) [(0,0),(1,0),(2,0),(3,0),(4,0),(5,0),(6,2)] mixed (by kernel_rfl) ?_|refine aw_drawn (id:=5) [(0,0),(1,0),(2,0),(3,0),(4,0),(5,0),(6,1)] mixed (by kernel_rfl) ?_|refine zco ?_ ?_|exact zd|(refine fun (hg:(_:Prop))=>?_;(try replace hg:=HG.out hg);(try dsimp only at hg);(try (have _h:True:=hg;clear _h hg)))))
  · rw [joinST]
    (repeat' (first|refine zq ?_|(refine zxl ?_;intro _ _ _)|(refine zxs ?_;intro _ _ _)|refine zbx ?_|refine zal ?_|refine zsvs ?_|refine zsva ?_|refine zses ?_|refine zsea ?_|refine zg ?_ ?_|refine zgu ?_|refine ar_nil ?_|refine aw_seq ?_|refine aw_skip ?_|refine aw_block ?_|refine aw_exit ?_|refine aw_region ?_|refine aw_drawn (id:=5) [(0,0),(1,0),(2,0),(3,0),(4,0),(5,0),(6,1)] mixed (by kernel_rfl) ?_|refine aw_drawn (id:=5) [(0,0),(1,0),(2,0),(3,0),(4,0),(5,0),(6,2)] mixed (by kernel_rfl) ?_|refine zco ?_ ?_|exact zd|(refine fun (hg:(_:Prop))=>?_;(try replace hg:=HG.out hg);(try dsimp only at hg);(try (have _h:True:=hg;clear _h hg)))))
    exact aw_ret (do_end rfl endST hrf hE hF)
  · intro H1
    exact do_bad (join_out rfl rfl rfl) hrf hE
theorem do7_p (s:Sto) (p:List (Int × Int)) (a:Deed) (hk:a.kind=7) (hV:Valid s) (_hP:PressOk s.items p):ACalls Tryz.prog 173 [.ptr 4 0 0 0,a.enc] (stoB 0 s p) (DoR s p a) NoP:=by
  have hn:=hV.1.2.1
  have hE:actE s a=destE s a.item:=by unfold actE;rw [hk];rfl
  have hF:actH s p a=stoB 0 (destF s a.item) p:=by unfold actH actF actP;rw [hk];rfl
  have hc:=destroy_p s p a hn
  refine acalls_sub (R:=fun v H'=>∃ v' H'',SubOf 4 1 [(0,v)] H' [(0,v')] H''∧DoR s p a v' H'') (Rp:=NoP) ?_ (fun _ _ h=>h) (fun _ _ h=>h.elim)
  refine acalls_of_try Tryz.func173 rfl Tryz.func175 rfl (by kernel_rfl) (dc rfl) (dc rfl) (by decide) ?_
  have ha:a.enc=.agg [vu8 7,vi a.item,vi a.dest,vi a.n]:=by unfold Deed.enc;rw [hk]
  rw [ha] at hc ⊢
  refine Go.Proofs.YtbilpbabdgfblaaGreat.aw_region ?_
  (repeat' (first|refine zq ?_|(refine zxl ?_;intro _ _ _)|(refine zxs ?_;intro _ _ _)|refine zbx ?_|refine zal ?_|refine zsvs ?_|refine zsva ?_|refine zses ?_|refine zsea ?_|refine zg ?_ ?_|refine zgu ?_|refine ar_nil ?_|refine aw_seq ?_|refine aw_skip ?_|refine aw_block ?_|refine aw_exit ?_|refine aw_region ?_|refine aw_drawn (id:=5) [(0,0),(1,0),(2,0),(3,0),(4,0),(5,0),(6,1)] mixed (by kernel_rfl) ?_|refine aw_drawn (id:=5) [(0,0),(1,0),(2,0),(3,0),(4,0),(5,0),(6,2)] mixed (by kernel_rfl) ?_|refine zco ?_ ?_|exact zd|(refine fun (hg:(_:Prop))=>?_;(try replace hg:=HG.out hg);(try dsimp only at hg);(try (have _h:True:=hg;clear _h hg)))))
  refine ⟨1,5,0,0,rfl,?_⟩
  refine aw_sub (m:=6) (env':=[(0,.ptr 4 0 0 0),(3,.ptr 4 4 0 0),(4,.ptr 1 5 0 0)]) (H':=[.arr 4 1 (fun _=>stoV 0 s),LB 5 Itm.enc s.items,LB 2 Prt.enc s.prints,mapE vi p,.arr 4 1 (fun _=>.agg [vu8 7,vi a.item,vi a.dest,vi a.n]),.arr 1 1 (fun _=>vi 0)]) ?_ ?_
  · (exact zsc [some 0,some 1,some 2,some 3,some 4,some 5] [])
  (repeat' (first|refine zq ?_|(refine zxl ?_;intro _ _ _)|(refine zxs ?_;intro _ _ _)|(refine zpv fn176 (doers_p) ?_)|refine ar_q (qs_funcIsNil (ty rfl) rfl rfl) (dc rfl) ?_|refine ar_q (qs_iaddr_aptr (j:=7) (ty rfl) rfl (ty rfl) rfl rfl rfl (dc rfl)) (dc rfl) ?_|((refine ar_act fn183 hc rfl ?_ ?_ rfl rfl rfl (dc rfl)<;>intro hrf))|refine zbx ?_|refine zal ?_|refine zsvs ?_|refine zsva ?_|refine zses ?_|refine zsea ?_|refine zg ?_ ?_|refine zgu ?_|refine ar_nil ?_|refine aw_seq ?_|refine aw_skip ?_|refine aw_block ?_|refine aw_exit ?_|refine aw_region ?_|refine aw_drawn (id:=5) [(0,0),(1,0),(2,0),(3,0),(4,0),(5,0),(6,2)] mixed (by kernel_rfl) ?_|refine aw_drawn (id:=5) [(0,0),(1,0),(2,0),(3,0),(4,0),(5,0),(6,1)] mixed (by kernel_rfl) ?_|refine zco ?_ ?_|exact zd|(refine fun (hg:(_:Prop))=>?_;(try replace hg:=HG.out hg);(try dsimp only at hg);(try (have _h:True:=hg;clear _h hg)))))
  · rw [joinST]
    (repeat' (first|refine zq ?_|(refine zxl ?_;intro _ _ _)|(refine zxs ?_;intro _ _ _)|refine zbx ?_|refine zal ?_|refine zsvs ?_|refine zsva ?_|refine zses ?_|refine zsea ?_|refine zg ?_ ?_|refine zgu ?_|refine ar_nil ?_|refine aw_seq ?_|refine aw_skip ?_|refine aw_block ?_|refine aw_exit ?_|refine aw_region ?_|refine aw_drawn (id:=5) [(0,0),(1,0),(2,0),(3,0),(4,0),(5,0),(6,1)] mixed (by kernel_rfl) ?_|refine aw_drawn (id:=5) [(0,0),(1,0),(2,0),(3,0),(4,0),(5,0),(6,2)] mixed (by kernel_rfl) ?_|refine zco ?_ ?_|exact zd|(refine fun (hg:(_:Prop))=>?_;(try replace hg:=HG.out hg);(try dsimp only at hg);(try (have _h:True:=hg;clear _h hg)))))
    exact aw_ret (do_end rfl endST hrf hE hF)
  · intro H1
    exact do_bad (join_out rfl rfl rfl) hrf hE
theorem do_two {s:Sto}{p:List (Int × Int)}{a:Deed}{H:Heap}(h5:H[5]?=some (.arr 1 1 (fun _=>vi 2))) (hE:actE s a=2) :
    DCalls Tryz.prog 175 [.ptr 1 5 0 0] H none fun H'=>∃ v,ResV Tryz.prog [(4,.ptr 1 5 0 0)] H' Tryz.f173.results v∧∃ v' H'',SubOf 4 1 [(0,v)] H' [(0,v')] H''∧DoR s p a v' H'' :=
  try_ret (_sz:=1) h5 ⟨vi 2,_,sub_dead (Nat.le_of_lt (by have:=(List.getElem?_eq_some_iff.1 h5).1;omega)),.inr ⟨by rw [hE];decide,by rw [hE],rfl⟩⟩
theorem do0_p (s:Sto) (p:List (Int × Int)) (a:Deed) (hk:a.kind=0):ACalls Tryz.prog 173 [.ptr 4 0 0 0,a.enc] (stoB 0 s p) (DoR s p a) NoP:=by
  have hE:actE s a=2:=by unfold actE;rw [hk];rfl
  refine acalls_sub (R:=fun v H'=>∃ v' H'',SubOf 4 1 [(0,v)] H' [(0,v')] H''∧DoR s p a v' H'') (Rp:=NoP) ?_ (fun _ _ h=>h) (fun _ _ h=>h.elim)
  refine acalls_of_try Tryz.func173 rfl Tryz.func175 rfl (by kernel_rfl) (dc rfl) (dc rfl) (by decide) ?_
  have ha:a.enc=.agg [vu8 0,vi a.item,vi a.dest,vi a.n]:=by unfold Deed.enc;rw [hk]
  rw [ha]
  refine Go.Proofs.YtbilpbabdgfblaaGreat.aw_region ?_
  (repeat' (first|refine zq ?_|(refine zxl ?_;intro _ _ _)|(refine zxs ?_;intro _ _ _)|refine zbx ?_|refine zal ?_|refine zsvs ?_|refine zsva ?_|refine zses ?_|refine zsea ?_|refine zg ?_ ?_|refine zgu ?_|refine ar_nil ?_|refine aw_seq ?_|refine aw_skip ?_|refine aw_block ?_|refine aw_exit ?_|refine aw_region ?_|refine aw_drawn (id:=5) [(0,0),(1,0),(2,0),(3,0),(4,0),(5,0),(6,1)] mixed (by kernel_rfl) ?_|refine aw_drawn (id:=5) [(0,0),(1,0),(2,0),(3,0),(4,0),(5,0),(6,2)] mixed (by kernel_rfl) ?_|refine zco ?_ ?_|exact zd|(refine fun (hg:(_:Prop))=>?_;(try replace hg:=HG.out hg);(try dsimp only at hg);(try (have _h:True:=hg;clear _h hg)))))
  refine ⟨1,5,0,0,rfl,?_⟩
  refine aw_sub (m:=6) (env':=[(0,.ptr 4 0 0 0),(3,.ptr 4 4 0 0),(4,.ptr 1 5 0 0)]) (H':=[.arr 4 1 (fun _=>stoV 0 s),LB 5 Itm.enc s.items,LB 2 Prt.enc s.prints,mapE vi p,.arr 4 1 (fun _=>.agg [vu8 0,vi a.item,vi a.dest,vi a.n]),.arr 1 1 (fun _=>vi 0)]) ?_ ?_
  · (exact zsc [some 0,some 1,some 2,some 3,some 4,some 5] [])
  (repeat' (first|refine zq ?_|(refine zxl ?_;intro _ _ _)|(refine zxs ?_;intro _ _ _)|(refine zpv fn176 (doers_p) ?_)|refine ar_q (qs_nilFuncIsNil (ty rfl) rfl rfl) (dc rfl) ?_|refine ar_q (qs_iaddr_aptr (j:=0) (ty rfl) rfl (ty rfl) rfl rfl rfl (dc rfl)) (dc rfl) ?_|refine zbx ?_|refine zal ?_|refine zsvs ?_|refine zsva ?_|refine zses ?_|refine zsea ?_|refine zg ?_ ?_|refine zgu ?_|refine ar_nil ?_|refine aw_seq ?_|refine aw_skip ?_|refine aw_block ?_|refine aw_exit ?_|refine aw_region ?_|refine aw_drawn (id:=5) [(0,0),(1,0),(2,0),(3,0),(4,0),(5,0),(6,2)] mixed (by kernel_rfl) ?_|refine aw_drawn (id:=5) [(0,0),(1,0),(2,0),(3,0),(4,0),(5,0),(6,1)] mixed (by kernel_rfl) ?_|refine zco ?_ ?_|exact zd|(refine fun (hg:(_:Prop))=>?_;(try replace hg:=HG.out hg);(try dsimp only at hg);(try (have _h:True:=hg;clear _h hg)))))
  all_goals exact aw_ret (do_two rfl hE)
theorem do8_p (s:Sto) (p:List (Int × Int)) (a:Deed) (hk:8≤a.kind) (hu:a.kind≤255):ACalls Tryz.prog 173 [.ptr 4 0 0 0,a.enc] (stoB 0 s p) (DoR s p a) NoP:=by
  have hE:actE s a=2:=by
    unfold actE
    rw [if_neg (by omega),if_neg (by omega),if_neg (by omega),if_neg (by omega),if_neg (by omega),if_neg (by omega),if_neg (by omega)]
  refine acalls_sub (R:=fun v H'=>∃ v' H'',SubOf 4 1 [(0,v)] H' [(0,v')] H''∧DoR s p a v' H'') (Rp:=NoP) ?_ (fun _ _ h=>h) (fun _ _ h=>h.elim)
  refine acalls_of_try Tryz.func173 rfl Tryz.func175 rfl (by kernel_rfl) (dc rfl) (dc rfl) (by decide) ?_
  refine Go.Proofs.YtbilpbabdgfblaaGreat.aw_region ?_
  (repeat' (first|refine zq ?_|(refine zxl ?_;intro _ _ _)|(refine zxs ?_;intro _ _ _)|refine zbx ?_|refine zal ?_|refine zsvs ?_|refine zsva ?_|refine zses ?_|refine zsea ?_|refine zg ?_ ?_|refine zgu ?_|refine ar_nil ?_|refine aw_seq ?_|refine aw_skip ?_|refine aw_block ?_|refine aw_exit ?_|refine aw_region ?_|refine aw_drawn (id:=5) [(0,0),(1,0),(2,0),(3,0),(4,0),(5,0),(6,1)] mixed (by kernel_rfl) ?_|refine aw_drawn (id:=5) [(0,0),(1,0),(2,0),(3,0),(4,0),(5,0),(6,2)] mixed (by kernel_rfl) ?_|refine zco ?_ ?_|exact zd|(refine fun (hg:(_:Prop))=>?_;(try replace hg:=HG.out hg);(try dsimp only at hg);(try (have _h:True:=hg;clear _h hg)))))
  refine ⟨1,5,0,0,rfl,?_⟩
  refine aw_sub (m:=6) (env':=[(0,.ptr 4 0 0 0),(3,.ptr 4 4 0 0),(4,.ptr 1 5 0 0)]) (H':=[.arr 4 1 (fun _=>stoV 0 s),LB 5 Itm.enc s.items,LB 2 Prt.enc s.prints,mapE vi p,.arr 4 1 (fun _=>.agg [vu8 a.kind,vi a.item,vi a.dest,vi a.n]),.arr 1 1 (fun _=>vi 0)]) ?_ ?_
  · (exact zsc [some 0,some 1,some 2,some 3,some 4,some 5] [])
  (repeat' (first|refine zq ?_|(refine zxl ?_;intro _ _ _)|(refine zxs ?_;intro _ _ _)|(refine zpv fn176 (doers_p) ?_)|refine zbx ?_|refine zal ?_|refine zsvs ?_|refine zsva ?_|refine zses ?_|refine zsea ?_|refine zg ?_ ?_|refine zgu ?_|refine ar_nil ?_|refine aw_seq ?_|refine aw_skip ?_|refine aw_block ?_|refine aw_exit ?_|refine aw_region ?_|refine aw_drawn (id:=5) [(0,0),(1,0),(2,0),(3,0),(4,0),(5,0),(6,2)] mixed (by kernel_rfl) ?_|refine aw_drawn (id:=5) [(0,0),(1,0),(2,0),(3,0),(4,0),(5,0),(6,1)] mixed (by kernel_rfl) ?_|refine zco ?_ ?_|exact zd|(refine fun (hg:(_:Prop))=>?_;(try replace hg:=HG.out hg);(try dsimp only at hg);(try (have _h:True:=hg;clear _h hg)))))
  all_goals exact aw_ret (do_two rfl hE)
end Pn
theorem do_p (s:Sto) (p:List (Int × Int)) (a:Deed) (hu:u8ok a.kind) (hV:Valid s) (hP:PressOk s.items p):ACalls Tryz.prog 173 [.ptr 4 0 0 0,a.enc] (stoB 0 s p) (DoR s p a) NoP:=by
  have h:a.kind=0∨a.kind=1∨a.kind=2∨a.kind=3∨a.kind=4∨a.kind=5∨a.kind=6∨a.kind=7∨8≤a.kind:=by unfold u8ok at hu;omega
  rcases h with h|h|h|h|h|h|h|h|h
  · exact Pn.do0_p s p a h
  · exact Pn.do1_p s p a h hV hP
  · exact Pn.do2_p s p a h hV hP
  · exact Pn.do3_p s p a h hV hP
  · exact Pn.do4_p s p a h hV hP
  · exact Pn.do5_p s p a h hV hP
  · exact Pn.do6_p s p a h hV hP
  · exact Pn.do7_p s p a h hV hP
  · exact Pn.do8_p s p a h hu.2
end Go.Proofs.YtbilpbabdgfblaaGreat
