/- Parts of the proof: contracts of functions. No condition. -/
import Derived.Test.YtloaefllpokkaaaGreatKPt9
set_option maxHeartbeats 16000000
set_option linter.unusedSimpArgs false
set_option linter.unusedVariables false
namespace Go.Proofs.YtloaefllpokkaaaGreat
open Go.RowKit
section
variable {P:Program}{r:Option Nat}{m nt:Nat}{Q:Post}{env:Env}{H:Heap}{T T':TypeId}{d:TyD}{x:Operand}{v:V}{dst:Option Tmp}{ty:TypeId}{pos:String}{after:Array Edge}{guard:Option (Nat × Bool)}
theorem TyIs.ifacek {b:Bool}(h:TyIs P T d) (hk:d.tk=.iface b):∃ ms,P.underlying T=some (.interface ms):=by
  obtain ⟨t,ht,hk'⟩:=h.desc
  rw [hk] at hk'
  cases t<;>simp [TK.of] at hk'
  exact ⟨_,ht⟩
theorem TyIs.funck (h:TyIs P T d) (hk:d.tk=.func):∃ a b c,P.underlying T=some (.func a b c):=by
  obtain ⟨t,ht,hk'⟩:=h.desc
  rw [hk] at hk'
  cases t<;>simp [TK.of] at hk'
  exact ⟨_,_,_,ht⟩
theorem eq_nn (d:Nat) {ms:Array (String × TypeId)}(w:World) (h:P.underlying T=some (.interface ms)):(Op.equalIn (d+1) T .nilIface .nilIface).run P w=.ok true w:=by simp [Op.equalIn,run_underlying h]
theorem eq_in (d:Nat) {ms:Array (String × TypeId)}{t:TypeId}{u:Value}(w:World) (h:P.underlying T=some (.interface ms)):(Op.equalIn (d+1) T (.iface t u) .nilIface).run P w=.ok false w:=by simp [Op.equalIn,run_underlying h]
theorem eq_ff (d:Nat) {a:Array TypeId}{b:Array TypeId}{c:Bool}(w:World) (h:P.underlying T=some (.func a b c)):(Op.equalIn (d+1) T .nilFunc .nilFunc).run P w=.ok true w:=by simp [Op.equalIn,run_underlying h]
theorem eq_fn (d:Nat) {a:Array TypeId}{b:Array TypeId}{c:Bool}{g:Fn}{fs cs:Array Value}(w:World) (h:P.underlying T=some (.func a b c)):(Op.equalIn (d+1) T (.func g fs cs) .nilFunc).run P w=.ok false w:=by simp [Op.equalIn,run_underlying h]
theorem qs_nilIsNil {b:Bool}(ht:TyIs P T d) (hk:d.tk=.iface b) (hx:eo env x=some (.s .nilIface)):QS P nt env H ⟨dst,.binOp .eql T x (.const .nilIface) T',ty,pos,after,guard⟩ (.s (.bool true)):=.mk fun X I ρ a w h hw=>by
  obtain ⟨ms,hu⟩:=ht.ifacek hk
  refine ⟨_,.s _,fun w' _=>?_⟩
  have e:(Op.equal T .nilIface .nilIface).run P w'=.ok true w':=eq_nn 9999 w' hu
  have h2:a.eval (.const .nilIface)=.nilIface:=rfl
  simp [execOp,sval h hx,h2,eqGuard,binOp,e]
theorem qs_ifaceIsNil {b:Bool}{t:TypeId}(ht:TyIs P T d) (hk:d.tk=.iface b) (hx:eo env x=some (.iface t v)):QS P nt env H ⟨dst,.binOp .eql T x (.const .nilIface) T',ty,pos,after,guard⟩ (.s (.bool false)):=.mk fun X I ρ a w h hw=>by
  obtain ⟨ms,hu⟩:=ht.ifacek hk
  have h1:=eo_rel h hx
  cases h1':a.eval x<;>rw [h1'] at h1<;>cases h1
  rename_i u hu'
  refine ⟨_,.s _,fun w' _=>?_⟩
  have e:(Op.equal T (.iface t u) .nilIface).run P w'=.ok false w':=eq_in 9999 w' hu
  have h2:a.eval (.const .nilIface)=.nilIface:=rfl
  simp [execOp,h1',h2,eqGuard,binOp,e]
theorem qs_nilFuncIsNil (ht:TyIs P T d) (hk:d.tk=.func) (hx:eo env x=some (.s .nilFunc)):QS P nt env H ⟨dst,.binOp .eql T x (.const .nilFunc) T',ty,pos,after,guard⟩ (.s (.bool true)):=.mk fun X I ρ a w h hw=>by
  obtain ⟨_,_,_,hu⟩:=ht.funck hk
  refine ⟨_,.s _,fun w' _=>?_⟩
  have e:(Op.equal T .nilFunc .nilFunc).run P w'=.ok true w':=eq_ff 9999 w' hu
  have h2:a.eval (.const .nilFunc)=.nilFunc:=rfl
  simp [execOp,sval h hx,h2,eqGuard,binOp,e]
theorem qs_funcIsNil {g:Fn}{vs us:List V}(ht:TyIs P T d) (hk:d.tk=.func) (hx:eo env x=some (.fn g vs us)):QS P nt env H ⟨dst,.binOp .eql T x (.const .nilFunc) T',ty,pos,after,guard⟩ (.s (.bool false)):=.mk fun X I ρ a w h hw=>by
  obtain ⟨_,_,_,hu⟩:=ht.funck hk
  have h1:=eo_rel h hx
  cases h1':a.eval x<;>rw [h1'] at h1<;>cases h1
  rename_i fs cs _ _ _ _
  refine ⟨_,.s _,fun w' _=>?_⟩
  have e:(Op.equal T (.func g fs cs) .nilFunc).run P w'=.ok false w':=eq_fn 9999 w' hu
  have h2:a.eval (.const .nilFunc)=.nilFunc:=rfl
  simp [execOp,h1',h2,eqGuard,binOp,e]
theorem qs_assert {k:IntKind}{B:TypeId}(ht:TyIs P T d) (hk:d.tk=.int k) (hx:eo env x=some (.iface T v)):QS P nt env H ⟨dst,.typeAssert x B T true,ty,pos,after,guard⟩ (.tup [v,.s (.bool true)]):=.mk fun X I ρ a w h hw=>by
  have h1:=eo_rel h hx
  cases h1':a.eval x<;>rw [h1'] at h1<;>cases h1
  rename_i u hu
  refine ⟨.tuple #[u,.bool true],.tup rfl (fun j v' u' h h'=>?_),fun w' _=>?_⟩
  · match j with
    | 0=>simp at h h';subst h h';exact hu
    | 1=>simp at h h';subst h h';exact .s _
    | j+2=>simp at h
  · simp [execOp,h1',Instr.typeAssert,run_underlying (ht.intk hk)]
end
def ModeRel (I:Imm) (ρ:List (Option (Nat × Nat))):Option V→FrameMode→Prop
  | none,u=>u=.returning
  | some v,u=>∃ y,VRel I ρ v y∧u=.panicking [{ v:=y,recovered:=false }]
structure DCalls (P:Program) (g:FuncId) (args:List V) (H:Heap) (pan:Option V) (R:Heap→Prop):Prop where
  out:∀ X I ρ w us u,WOk X I ρ H w→VRels I ρ args us→ModeRel I ρ pan u→CallsDIn Fence.wide 0 P g us u w fun e u' w'=>∃ x I' ρ' H',I.le I'∧Pre ρ ρ'∧WOk X I' ρ' H' w'∧e=.returned x∧settle u'=.returning∧R H'
def DQ (R:Heap→Prop):Post
  | .normal,_,H=>R H
  | .ret,_,H=>R H
  | _,_,_=>False
section
variable {P:Program}{r:Option Nat}{m nt:Nat}{Q:Post}{env:Env}{H:Heap}{v:V}{ty:TypeId}{pos:String}{after:Array Edge}
theorem rec_ops {o:Oper}{y:Value}{cs cs':List Frame}{a:Act}{w:World}{Q:Exit→Act→List Frame→World→Prop}(hg:o.guard=none) (he:(execOp a.eval o).run P w=.ok .recover w) (hr:(recoverD cs=some (y,cs'))∨(recoverD cs=none∧y=.nilIface∧cs'=cs))
    (h:Q .normal (a.put o.dst y) cs' w):wpOpsSIn Fence.wide 0 P #[o] Q (List.range 1) a cs w:=by
  show wpOpsSIn Fence.wide 0 P #[o] Q [0] a cs w
  have h0:(#[o]:Array Oper)[0]?=some o:=rfl
  simp only [wpOpsSIn,h0]
  refine ⟨fun _ _=>trivial,?_⟩
  rw [if_pos (wanted_none hg)]
  simp only [he]
  rcases hr with h1|⟨h1,rfl,rfl⟩
  · simp only [h1]
    exact h
  · simp only [h1]
    exact h
theorem dcalls_of_aw {g:FuncId}{fn:Func}{id k:Nat}{c:Code}{args:List V}{pan:Option V}{R:Heap→Prop}(ats:Array TypeId) (hf:P.funcs[g]?=some fn)
    (hb:fn.body=some (.seq (.region id #[⟨some k,.call ⟨.builtin .recover,#[],ats⟩,ty,pos,after,none⟩] false) c)) (hn:args.length≤fn.ntmps) (hk:k<fn.ntmps) (hr:fn.results=#[]) (hp:∀ v,pan=some v→∃ t y,v=.iface t y)
    (h:Pn.AW fn.ntmps true P none H.length fn.ntmps c (DQ R) ((k,pan.getD (.s .nilIface))::argEnv args 0) H):DCalls P g args H pan R:=by
  refine ⟨fun X I ρ w us u hw hv hm=>callsDIn_of_wpSIn hf hb trivial fun c₀ cs hu=>wpSIn_seq (wpSIn_region ?_)⟩
  have key:∃ y u1,VRel I ρ (pan.getD (.s .nilIface)) y∧settle u1=.returning∧((recoverD (c₀::cs)=some (y,{ c₀ with mode:=u1 }::cs))∨(recoverD (c₀::cs)=none∧y=.nilIface∧u1=c₀.mode)):=by
    cases pan with
    | none =>
      have hu0:c₀.mode=.returning:=hu.trans hm
      exact ⟨.nilIface,.returning,.s _,rfl,.inr ⟨by simp [recoverD,hu0],rfl,hu0.symm⟩⟩
    | some v =>
      obtain ⟨y,hy,hu1⟩:=hm
      have hu0:=hu.trans hu1
      exact ⟨y,.panicking [{ v:=y,recovered:=true }],hy,by simp [settle],.inl (by simp [recoverD,hu0])⟩
  obtain ⟨y,u1,hy,hs1,hrec⟩:=key
  let a0:Act:={ tmps:=us++Array.replicate (fn.ntmps-us.size) undef,defers:=[] }
  refine rec_ops (y:=y) (cs':={ c₀ with mode:=u1 }::cs) rfl (by simp [execOp,resolve,invoke,builtin]) ?_ ?_
  · rcases hrec with h1|⟨h1,h2,h3⟩
    · exact .inl h1
    · exact .inr ⟨h1,h2,by rw [h3]⟩
  refine wpSIn_of_wpIn rfl ?_
  have hsz:us.size≤fn.ntmps:=by rw [hv.1];exact hn
  have hst:St (Ctx.self w ρ H I) fn.ntmps ((k,pan.getD (.s .nilIface))::argEnv args 0) H I ρ (a0.put (some k) y) w:=⟨(argEnv_ok hv hsz).put hy hk,hw.self,DOk.nil rfl⟩
  have hpin:(⟨fn.ntmps,undef,some []⟩:Pin).Ok (a0.put (some k) y):=by
    refine ⟨?_,fun ds e=>by cases e;rfl⟩
    have hsz2:(a0.put (some k) y).tmps.size=fn.ntmps:=hst.1.1
    simp [Array.getD,hsz2]
  refine wpIn_mono (h.1 (Ctx.self w ρ H I) I ρ _ w _ rfl rfl hw.len hst hpin) fun e a' w' hl=>?_
  have fin:∀ env' H' I' ρ',St (Ctx.self w ρ H I) fn.ntmps env' H' I' ρ' a' w'→(⟨fn.ntmps,undef,some []⟩:Pin).Ok a'→R H'→a'.defers=[]∧∃ u',({ c₀ with mode:=u1 }::cs:List Frame)={ c₀ with mode:=u' }::cs∧∃ v,(results fn a'.tmps).run P w'=.ok v w'∧(∃ x I' ρ' H',I.le I'∧Pre ρ ρ'∧WOk X I' ρ' H' w'∧Ending.returned v=.returned x∧settle u'=.returning∧R H'):=by
    intro env' H' I' ρ' hs ha hR
    refine ⟨ha.2 [] rfl,u1,rfl,.tuple #[],?_,.tuple #[],I',ρ',H',hs.2.1.le,hs.2.1.pre,hw.trans hs.2.1,rfl,hs1,hR⟩
    unfold results
    rw [hr]
    simp
  cases e with
  | normal=>obtain ⟨⟨env',H',I',ρ',hs,hq⟩,ha⟩:=hl;exact fin env' H' I' ρ' hs ha hq
  | ret=>obtain ⟨⟨env',H',I',ρ',hs,hq⟩,ha⟩:=hl;exact fin env' H' I' ρ' hs ha hq
  | exit id=>obtain ⟨⟨env',H',I',ρ',hs,hq⟩,ha⟩:=hl;exact hq.elim
  | goto id=>obtain ⟨⟨env',H',I',ρ',hs,hq⟩,ha⟩:=hl;exact hq.elim
  | panic ch=>obtain ⟨⟨v,u,H',I',ρ',_,_,_,_,hq⟩,ha⟩:=hl;exact hq.elim
  | outgrown=>exact hl.elim
end
theorem leaves_marksB {P:Program}{fn:Func}{tmps:Array Value}{R:Ending→World→Prop}{u:FrameMode}{rest:List Deferred}(hu:u≠.run):∀ (Ds:List Nat) (w:World),Ds.Nodup→(∀ D∈Ds,w.heap[D]?=some (.deferred (some []))) →
    LeavesInM Fence.wide 0 P fn tmps R rest u (taken Ds w)→LeavesInM Fence.wide 0 P fn tmps R (Ds.map mark++rest) u w
  | [],_,_,_,h=>h
  | D::Ds,w,hn,hD,h=>by
    rw [List.nodup_cons] at hn
    refine ⟨hu,.inl ⟨D,_,rfl,run_takeDeferred (hD D (by simp)),leaves_marksB hu Ds _ hn.2 (fun D' h'=>?_) h⟩⟩
    rw [World.putObj_heap_other (fun e=>hn.1 (by rw [← e];exact h'))]
    exact hD D' (by simp [h'])
theorem WOk.rebase {X:Ctx}{I:Imm}{ρ:List (Option (Nat × Nat))}{H:Heap}{w:World}{B:List Deferred}(h:WOk X I ρ H w):WOk { X with base:=B } I ρ H w :=
  ⟨h.len,h.inj,h.imm,h.apart,h.size,h.none,h.arr,h.map,h.mine,h.news,h.le,h.pre,h.os,h.tape,h.out,h.grow,h.keep⟩
theorem WOk.unbase {X:Ctx}{I:Imm}{ρ:List (Option (Nat × Nat))}{H:Heap}{w:World}{B:List Deferred}(h:WOk { X with base:=B } I ρ H w):WOk X I ρ H w :=
  ⟨h.len,h.inj,h.imm,h.apart,h.size,h.none,h.arr,h.map,h.mine,h.news,h.le,h.pre,h.os,h.tape,h.out,h.grow,h.keep⟩
def closD (g:FuncId) (pu:Value):Deferred:={ target:=.fn (.func g) #[pu],args:=#[] }
theorem wp_defer1 {P:Program}{Q:Exit→Act→World→Prop}{g:FuncId}{tf tc id:Nat}{a:Act}{w:World}{T1 T2:TypeId}{p1 p2:String}{e1 e2:Array Edge}(htf:tf<a.tmps.size)
    (h:Q .normal { tmps:=a.tmps.setIfInBounds tf (.func (.func g) #[] #[a.tmps.getD tc undef]),defers:=closD g (a.tmps.getD tc undef)::a.defers } w) :
    (Code.region id #[⟨some tf,.makeFunc (.func g) #[] #[.tmp tc],T1,p1,e1,none⟩,⟨none,.defer ⟨.value (.tmp tf),#[],#[]⟩,T2,p2,e2,none⟩] false).wpIn (Fw none) 0 P Q a w:=by
  refine region_text (l:=[⟨some tf,.makeFunc (.func g) #[] #[.tmp tc],T1,p1,e1,none⟩,⟨none,.defer ⟨.value (.tmp tf),#[],#[]⟩,T2,p2,e2,none⟩]) (fun _=>True) trivial ?_
  obtain ⟨pu,hpu⟩:∃ pu,a.tmps.getD tc undef=pu:=⟨_,rfl⟩
  rw [hpu] at h
  have hev0:a.eval (.tmp tc)=pu:=hpu
  refine ⟨fun _=>⟨.func (.func g) #[] #[pu],fun w' _=>by simp [execOp,Instr.makeFunc,hev0],?_⟩,fun hw=>by rw [wanted_none rfl] at hw;cases hw⟩
  refine ⟨fun _=>?_,fun hw=>by rw [wanted_none rfl] at hw;cases hw⟩
  refine ⟨fun _ _=>trivial,?_⟩
  have hev:(a.put (some tf) (.func (.func g) #[] #[pu])).eval (.tmp tf)=.func (.func g) #[] #[pu]:=by simp [Act.eval,Act.put,htf]
  have e:((⟨none,.defer ⟨.value (.tmp tf),#[],#[]⟩,T2,p2,e2,none⟩:Oper).semAt (Fw none).round (a.put (some tf) (.func (.func g) #[] #[pu])).eval).run P w=.ok (.defer (closD g pu)) w:=by
    rw [show (Fw none).round=none from rfl,Oper.semAt_none]
    simp [execOp,resolve,hev,Deferred.ofValue,closD]
  rw [e]
  exact ⟨fun _=>True,trivial,fun _ _ _=>trivial,h⟩
def TryQ (P:Program) (rs:Array ResultVar) (g:FuncId) (tc:Nat) (p:V) (R:V→Heap→Prop):Post
  | .normal,_,H=>DCalls P g [p] H none fun H'=>∃ v,ResV P [(tc,p)] H' rs v∧R v H'
  | .ret,_,H=>DCalls P g [p] H none fun H'=>∃ v,ResV P [(tc,p)] H' rs v∧R v H'
  | .panic x,_,H=>DCalls P g [p] H (some x) fun H'=>∃ v,ResV P [(tc,p)] H' rs v∧R v H'
  | _,_,_=>False
def NoQ:Post:=fun _ _ _=>False
theorem acalls_of_try {P:Program}{f g:FuncId}{fn gn:Func}{id0 id1 tc tf:Nat}{l0:List Oper}{c cg:Code}{args:List V}{H:Heap}{R:V→Heap→Prop}{T1 T2:TypeId}{p1 p2:String}{e1 e2:Array Edge}(hf:P.funcs[f]?=some fn)
    (hb:fn.body=some (.seq (.region id0 l0.toArray false) (.seq (.region id1 #[⟨some tf,.makeFunc (.func g) #[] #[.tmp tc],T1,p1,e1,none⟩,⟨none,.defer ⟨.value (.tmp tf),#[],#[]⟩,T2,p2,e2,none⟩] false) c)))
    (hg : P.funcs[g]? = some gn) (hgb : gn.body = some cg) (hgn : (gn.name == "runtime.NumGoroutine") = false) (hn : args.length ≤ fn.ntmps) (htf : tf < fn.ntmps) (htc : tf ≠ tc)
    (h:AW P none H.length fn.ntmps (.region id0 l0.toArray false) (AE.then (fun env1 H1=>∃ sz b i off,look env1 tc=some (.ptr sz b i off)∧Pn.AW tc false P none H1.length fn.ntmps c (TryQ P fn.results g tc (.ptr sz b i off) R) ((tf,.fn (.func g) [] [.ptr sz b i off])::env1) H1) NoQ) (argEnv args 0) H) :
    ACalls P f args H R NoP:=by
  refine ⟨fun X I ρ w us hw hv=>(callsIn_wide (n:=0)).1 (callsIn_of_wp_marks hf hb trivial ?_ rfl)⟩
  have h1:=h.1 (Ctx.self w ρ H I) I ρ { tmps:=us++Array.replicate (fn.ntmps-us.size) undef,defers:=[] } w hw.len ⟨argEnv_ok hv (by rw [hv.1];exact hn),hw.self,DOk.nil rfl⟩
  refine wpIn_seq (wpIn_mono h1 fun e a1 w1 hl=>?_)
  cases e with
  | exit _=>obtain ⟨_,_,_,_,_,hq⟩:=hl;exact hq.elim
  | goto _=>obtain ⟨_,_,_,_,_,hq⟩:=hl;exact hq.elim
  | ret=>obtain ⟨_,_,_,_,_,hq⟩:=hl;exact hq.elim
  | panic _=>obtain ⟨_,_,_,_,_,_,_,_,_,hq⟩:=hl;exact hq.elim
  | outgrown=>exact hl.elim
  | normal =>
  obtain ⟨env1,H1,I1,ρ1,hs1,sz,b,i,off,hp,hc⟩:=hl
  obtain ⟨htc1,hpu⟩:=hs1.1.2 tc _ hp
  obtain ⟨pu,hpu0⟩:∃ pu,pu=a1.tmps.getD tc undef:=⟨_,rfl⟩
  rw [← hpu0] at hpu
  refine wpIn_seq (wp_defer1 (by rw [hs1.1.1];exact htf) ?_)
  show Code.wpIn _ _ _ _ _ _ _
  rw [← hpu0]
  obtain ⟨Ds0,b1,b2,b3⟩:=hs1.2.2
  have b2:a1.defers=Ds0.map mark:=by rw [b2];exact List.append_nil _
  let X1:Ctx:={ Ctx.self w1 ρ1 H1 I1 with base:=closD g pu::a1.defers }
  have hw1:WOk X1 I1 ρ1 H1 w1:=hs1.2.1.self.rebase
  let a2:Act:={ tmps:=a1.tmps.setIfInBounds tf (.func (.func g) #[] #[pu]),defers:=closD g pu::a1.defers }
  have hfn:VRel I1 ρ1 (.fn (.func g) [] [.ptr sz b i off]) (.func (.func g) #[] #[pu]):=.fn rfl (fun j v u h=>by simp at h) rfl (fun j v u h h'=>by
    match j with
    | 0=>simp at h h';subst h h';exact hpu
    | j+1=>simp at h)
  have hs2:St X1 fn.ntmps ((tf,.fn (.func g) [] [.ptr sz b i off])::env1) H1 I1 ρ1 a2 w1:=⟨hs1.1.put hfn htf,hw1,⟨[],List.nodup_nil,rfl,fun D hD=>by simp at hD⟩⟩
  have hpin:(⟨tc,pu,none⟩:Pin).Ok a2:=⟨by show (a1.tmps.setIfInBounds tf _).getD tc undef=pu;rw [hpu0];simp [Array.getElem?_setIfInBounds_ne htc],fun ds e=>by cases e⟩
  refine wpIn_mono (hc.1 X1 I1 ρ1 a2 w1 ⟨tc,pu,none⟩ rfl rfl hs1.2.1.len hs2 hpin) fun e a' w' hl=>?_
  let RR:Ending→World→Prop:=fun e w'=>∃ v u I' ρ' H',I.le I'∧Pre ρ ρ'∧WOk X I' ρ' H' w'∧VRel I' ρ' v u∧((e=.returned u∧R v H')∨(e=.panicked [{ v:=u,recovered:=false }]∧NoP v H'))
  show bodyPostM Fence.wide 0 P fn RR e a' w'
  have hXI:∀ b o,(Ctx.self w ρ H I).I b=some o→b<(Ctx.self w ρ H I).w.heap.size:=fun b o h=>(Array.getElem?_eq_some_iff.1 (hw.imm b o h)).1
  have hXI1:∀ b o,X1.I b=some o→b<X1.w.heap.size:=fun b o h=>(Array.getElem?_eq_some_iff.1 (hs1.2.1.imm b o h)).1
  have cuts:∀ {I':Imm} {Ds:List Nat} {n:Nat},(∀ D∈Ds,n≤D∧I' D=some (.deferred (some [])))→∀ b cs ty fz,I' b=some (.cells cs ty fz)→I'.without Ds b=some (.cells cs ty fz):=fun hD b cs ty fz h=>by
    rw [Imm.without_out]
    · exact h
    · intro hb;rw [(hD b hb).2] at h;cases h
  have fin:∀ pan u H' I' ρ',u≠.run→WOk X1 I' ρ' H' w'→DOk X1 I' a'→(⟨tc,pu,none⟩:Pin).Ok a'→ModeRel I' ρ' pan u→DCalls P g [.ptr sz b i off] H' pan (fun H'=>∃ v,ResV P [(tc,.ptr sz b i off)] H' fn.results v∧R v H')→LeavesInM Fence.wide 0 P fn a'.tmps RR a'.defers u w':=by
    rintro pan u H' I' ρ' hu hw' ⟨Ds,d1,d2,d3⟩ ha hm hd
    rw [d2]
    refine leaves_marksB hu Ds w' d1 (fun D hD=>hw'.imm D _ (d3 D hD).2) ?_
    have hw2:=hw'.taken hXI1 d3
    have hm2:ModeRel (I'.without Ds) ρ' pan u:=by
      cases pan with
      | none=>exact hm
      | some x=>obtain ⟨y,h1,h2⟩:=hm;exact ⟨y,h1.cut (cuts d3),h2⟩
    have hpu2:VRel (I'.without Ds) ρ' (.ptr sz b i off) pu:=(hpu.mono hw'.le hw'.pre).cut (cuts d3)
    have hcall:=hd.1 X1 _ ρ' _ #[pu] u hw2 ⟨rfl,fun j v u h h'=>by
      match j with
      | 0=>simp at h h';subst h h';exact hpu2
      | j+1=>simp at h⟩ hm2
    refine ⟨hu,.inr ⟨fun h=>(by cases h),.func g,#[pu],g,#[pu],rfl,?_,fun _ _=>trivial,hcall.mono fun e u' w3 hq=>?_⟩⟩
    · exact fnOk hg hgb hgn #[pu] _
    · obtain ⟨x,I3,ρ3,H3,l3,q3,hw3,rfl,hset,v,hv3,hR⟩:=hq
      show LeavesInM Fence.wide 0 P fn a'.tmps RR a1.defers (settle u') w3
      rw [hset,b2]
      have hD0:∀ D∈Ds0,(Ctx.self w ρ H I).w.heap.size≤D∧I3 D=some (.deferred (some [])):=fun D hD=>⟨(b3 D hD).1,hw3.le D _ (b3 D hD).2⟩
      rw [← List.append_nil (Ds0.map mark)]
      refine leaves_marksB (by simp) Ds0 w3 b1 (fun D hD=>hw3.imm D _ (hD0 D hD).2) ?_
      have hw4:WOk (Ctx.self w ρ H I) I3 ρ3 H3 w3:=hs1.2.1.trans hw3.unbase
      have hw5:=hw4.taken hXI hD0
      have hpu3:VRel (I3.without Ds0) ρ3 (.ptr sz b i off) pu:=(hpu.mono hw3.le hw3.pre).cut (cuts hD0)
      have hlt:tc<a'.tmps.size:=by
        rcases Nat.lt_or_ge tc a'.tmps.size with h|h
        · exact h
        · exfalso
          have e:a'.tmps.getD tc undef=undef:=by simp [Array.getElem?_eq_none h]
          have e2:pu=undef:=(show a'.tmps.getD tc undef=pu from ha.1).symm.trans e
          rw [e2] at hpu
          cases hpu
      obtain ⟨u5,h5,h6⟩:=resV_run (nt:=a'.tmps.size) (a:=a') (env:=[(tc,.ptr sz b i off)]) ⟨rfl,fun t v ht=>by
        rw [look_cons] at ht
        split at ht
        · rename_i e;subst e;cases ht;exact ⟨hlt,by rw [show a'.tmps.getD tc undef=pu from ha.1];exact hpu3⟩
        · simp [look] at ht⟩ hw5 hv3
      exact ⟨u5,h6,v,u5,_,ρ3,H3,hw5.le,hw5.pre,hw.trans hw5,h5,.inl ⟨rfl,hR⟩⟩
  cases e with
  | normal=>obtain ⟨⟨env',H',I',ρ',hs,hq⟩,ha⟩:=hl;exact fin none .returning H' I' ρ' (by simp) hs.2.1 hs.2.2 ha rfl hq
  | ret=>obtain ⟨⟨env',H',I',ρ',hs,hq⟩,ha⟩:=hl;exact fin none .returning H' I' ρ' (by simp) hs.2.1 hs.2.2 ha rfl hq
  | exit id=>obtain ⟨⟨env',H',I',ρ',hs,hq⟩,ha⟩:=hl;exact hq.elim
  | goto id=>obtain ⟨⟨env',H',I',ρ',hs,hq⟩,ha⟩:=hl;exact hq.elim
  | panic ch =>
    obtain ⟨⟨v,u,H',I',ρ',rfl,h2,h3,h4,hq⟩,ha⟩:=hl
    exact fin (some v) _ H' I' ρ' (by simp) h3 h4 ha ⟨u,h2,rfl⟩ hq
  | outgrown=>exact hl.elim
def LiveAt (H:Heap) (i:Nat):Prop:=∃ x:Blk,H[i]?=some x∧x≠.dead
section
variable {I J:Imm}{ρ:List (Option (Nat × Nat))}{X:Ctx}{H:Heap}{w:World}{σ:List (Option Nat)}{fr:Nat→Prop}
theorem sub_genL {m nt:Nat}{env env0:Env}{H H0:Heap}(σ:List (Option Nat)) (fr:List Nat) (hlen:σ.length=H0.length) (hm:∀ k,k<m→σ[k]?=some (some k)) (hinj:∀ i j b,LiveAt H0 i→LiveAt H0 j→σ[i]?=some (some b)→σ[j]?=some (some b)→i=j) (hfr:∀ b∈fr,∀ i,LiveAt H0 i→σ[i]?≠some (some b))
    (he:EnvSub H σ (·∈fr) env env0) (hh:HSub H σ (·∈fr) 0 H0):SubOf m nt env H env0 H0:=by
  classical
  refine ⟨?_⟩
  intro X I ρ a w hX ⟨hE,hw,hd⟩
  let frz:Nat→Prop:=fun cb=>∃ b z,b∈fr∧(∃ x:Blk,H[b]?=some x∧x≠.dead)∧ρ[b]?=some (some (cb,z))
  let J:Imm:=fun cb=>if frz cb then w.heap[cb]? else I cb
  have liveF:∀ cb,frz cb→Live H ρ cb:=fun cb ⟨b,z,_,⟨x,h1,h2⟩,h3⟩=>⟨b,x,h1,h2,z,h3⟩
  have hI:I.le J:=fun b o h=>by
    show (if frz b then w.heap[b]? else I b)=some o
    rw [if_neg (fun hf=>by rw [hw.apart b (liveF b hf)] at h;cases h)]
    exact h
  have hJok:∀ b o,J b=some o→w.heap[b]?=some o:=fun b o h=>by
    have h:(if frz b then w.heap[b]? else I b)=some o:=h
    split at h
    · exact h
    · exact hw.imm b o h
  have hJ:∀ b cb z o,b∈fr→(∃ x:Blk,H[b]?=some x∧x≠.dead)→ρ[b]?=some (some (cb,z))→w.heap[cb]?=some o→J cb=some o:=fun b cb z o h1 h2 h3 h4=>by
    show (if frz cb then w.heap[cb]? else I cb)=some o
    rw [if_pos ⟨b,z,h1,h2,h3⟩]
    exact h4
  have rel:∀ {v x:V} {u:Value},VSub H σ (·∈fr) v x→VRel I ρ v u→VRel J (relocate σ ρ) x u:=fun h hu=>h.rel hw hI hJ hu
  have blk:∀ (k:Nat) b,H0[k]?=some b→BSub H σ (·∈fr) k b:=fun k b h=>by have:=hSub_get hh h;rwa [Nat.zero_add] at this
  have alive:∀ (k cb z:Nat) b,H0[k]?=some b→b≠.dead→(relocate σ ρ)[k]?=some (some (cb,z))→∃ b',σ[k]?=some (some b')∧(∃ x:Blk,H[b']?=some x∧x≠.dead)∧ρ[b']?=some (some (cb,z)):=by
    intro k cb z b hk hb hρ
    obtain ⟨b',h1,h2⟩:=relocate_some hρ
    refine ⟨b',h1,?_,h2⟩
    cases b with
    | dead=>exact (hb rfl).elim
    | arr sz n g =>
      rcases blk k _ hk with ⟨c,f,h3,h4,_⟩|⟨h3,_⟩
      · rw [h1] at h3;cases h3;exact ⟨_,h4,by simp⟩
      · rw [h1] at h3;cases h3
    | map ms =>
      obtain ⟨c,ns,h3,h4,_⟩:=blk k _ hk
      rw [h1] at h3;cases h3;exact ⟨_,h4,by simp⟩
  have live:∀ cb,Live H0 (relocate σ ρ) cb→Live H ρ cb:=fun cb ⟨k,b,h1,h2,z,h3⟩=>by
    obtain ⟨b',_,⟨x,h5,h6⟩,h7⟩:=alive k cb z b h1 h2 h3
    exact ⟨b',x,h5,h6,z,h7⟩
  refine ⟨J,relocate σ ρ,hI,⟨hE.1,fun t x hx=>?_⟩,{ len:=by simp [relocate,hlen],inj:=?_,imm:=hJok,apart:=?_,size:=?_,none:=?_,arr:=?_,map:=?_,mine:=fun b hb=>hw.mine b (live b hb),news:=?_,le:=Imm.le_trans hw.le hI,pre:=?_,os:=hw.os,tape:=hw.tape,out:=hw.out,grow:=hw.grow,keep:=hw.keep },hd.mono hI⟩
  · obtain ⟨v,h1,h2⟩:=envSub_get he hx
    obtain ⟨h3,h4⟩:=hE.2 t v h1
    exact ⟨h3,rel h2 h4⟩
  · rintro i j b ⟨x,hx,hx'⟩ ⟨y,hy,hy'⟩ z1 z2 h1 h2
    obtain ⟨i',a1,a2,a3⟩:=alive i b z1 x hx hx' h1
    obtain ⟨j',b1,b2,b3⟩:=alive j b z2 y hy hy' h2
    have:=hw.inj i' j' b a2 b2 z1 z2 a3 b3
    subst this
    exact hinj i j i' ⟨x,hx,hx'⟩ ⟨y,hy,hy'⟩ a1 b1
  · rintro cb ⟨k,b,h1,h2,z,h3⟩
    obtain ⟨b',h4,h5,h6⟩:=alive k cb z b h1 h2 h3
    have hl:Live H ρ cb:=by obtain ⟨x,h7,h8⟩:=h5;exact ⟨b',x,h7,h8,z,h6⟩
    show (if frz cb then w.heap[cb]? else I cb)=none
    rw [if_neg]
    · exact hw.apart cb hl
    · rintro ⟨c,z',h7,h8,h9⟩
      have:=hw.inj b' c cb h5 h8 z z' h6 h9
      subst this
      exact hfr b' h7 k ⟨b,h1,h2⟩ h4
  · intro k sz n g hk i hi
    rcases blk k _ hk with ⟨b,f,h1,h2,h3⟩|⟨_,rfl⟩
    · rw [(h3 i hi).len]
      exact hw.size b sz n f h2 i hi
    · omega
  · intro k sz n g hk hρ
    rcases blk k _ hk with ⟨b,f,h1,h2,h3⟩|⟨_,rfl⟩
    · cases hb:ρ[b]? with
      | none =>
        have h4:=(List.getElem?_eq_some_iff.1 h2).1
        have h5:=List.getElem?_eq_none_iff.1 hb
        rw [hw.len] at h5
        omega
      | some q =>
        rw [relocate_get h1 hb] at hρ
        cases hρ
        exact hw.none b sz n f h2 hb
    · rfl
  · intro k sz n g cb z hk hρ
    obtain ⟨b',h4,h5,h6⟩:=alive k cb z _ hk (by simp) hρ
    rcases blk k _ hk with ⟨b,f,h1,h2,h3⟩|⟨h1,_⟩
    · rw [h4] at h1
      cases h1
      obtain ⟨cs,ty,a1,a2,a3,a4⟩:=hw.arr _ _ _ _ _ _ h2 h6
      refine ⟨cs,ty,a1,a2,a3,fun i j x hi hx=>?_⟩
      have e:=h3 i hi
      have cell:∃ v,(f i).cells[j]?=some v∧VSub H σ (·∈fr) v x:=by
        revert hx
        generalize f i=q at e ⊢
        generalize g i=q' at e ⊢
        intro hx
        cases e with
        | agg h hv =>
          rename_i cs ds
          have hlt:=(List.getElem?_eq_some_iff.1 hx).1
          have hlt':j<cs.length:=by simp [V.cells] at hlt;omega
          exact ⟨cs[j],by simp [V.cells,hlt'],hv j _ x (by simp [hlt']) hx⟩
        | closed hc =>
          refine ⟨x,hx,.closed ?_⟩
          cases q<;>simp only [V.cells] at hx<;>first
            | exact closed_all (by simp only [V.closed] at hc;exact hc) hx
            | (cases j<;>simp at hx;subst hx;exact hc)
        | sl h=>cases j<;>simp [V.cells] at hx;subst hx;exact ⟨_,rfl,.sl h⟩
        | ptr h=>cases j<;>simp [V.cells] at hx;subst hx;exact ⟨_,rfl,.ptr h⟩
        | map h=>cases j<;>simp [V.cells] at hx;subst hx;exact ⟨_,rfl,.map h⟩
        | nil h=>cases j<;>simp [V.cells] at hx;subst hx;exact ⟨_,rfl,.nil h⟩
        | emp h=>cases j<;>simp [V.cells] at hx;subst hx;exact ⟨_,rfl,.emp h⟩
        | nilList=>cases j<;>simp [V.cells] at hx;subst hx;exact ⟨_,rfl,.nilList⟩
        | empList=>cases j<;>simp [V.cells] at hx;subst hx;exact ⟨_,rfl,.empList⟩
        | frz a b c d e=>cases j<;>simp [V.cells] at hx;subst hx;exact ⟨_,rfl,.frz a b c d e⟩
        | frzPtr a b c d=>cases j<;>simp [V.cells] at hx;subst hx;exact ⟨_,rfl,.frzPtr a b c d⟩
        | ext a=>cases j<;>simp [V.cells] at hx;subst hx;exact ⟨_,rfl,.ext a⟩
        | tup a b=>cases j<;>simp [V.cells] at hx;subst hx;exact ⟨_,rfl,.tup a b⟩
        | fn a b c d=>cases j<;>simp [V.cells] at hx;subst hx;exact ⟨_,rfl,.fn a b c d⟩
      obtain ⟨v,b1,b2⟩:=cell
      obtain ⟨u,c1,c2⟩:=a4 i j v hi b1
      exact ⟨u,c1,rel b2 c2⟩
    · rw [h4] at h1;cases h1
  · intro k ms hk
    obtain ⟨b,ns,h1,h2,h3,h4⟩:=blk k _ hk
    obtain ⟨cb,h5,es,clk,h6,h7,h8⟩:=hw.map _ _ h2
    refine ⟨cb,relocate_get h1 h5,es,clk,h6,⟨h7.size.trans h3,h7.born⟩,fun i e y he hy=>?_⟩
    have hlt:i<ns.length:=by have:=(List.getElem?_eq_some_iff.1 hy).1;omega
    obtain ⟨c1,c2⟩:=h8 i e ns[i] he (by simp [hlt])
    obtain ⟨d1,d2⟩:=h4 i ns[i] y (by simp [hlt]) hy
    exact ⟨c1.trans d1,rel d2 c2⟩
  · intro b hb
    have hb:(if frz b then w.heap[b]? else I b)≠none:=hb
    split at hb
    · rename_i hf
      exact .inr (hw.mine b (liveF b hf))
    · exact hw.news b hb
  · intro k x hk
    have hlt:k<m:=by rw [← hX];exact (List.getElem?_eq_some_iff.1 hk).1
    exact relocate_get (hm k hlt) (hw.pre k x hk)
end
def deadB:Blk→Bool
  | .dead=>true
  | _=>false
def deadAt (H:Heap) (i:Nat):Bool:=match H[i]? with
  | some b=>deadB b
  | none=>true
theorem deadAt_of {H:Heap}{i:Nat}(h:LiveAt H i):deadAt H i=false:=by
  obtain ⟨x,h1,h2⟩:=h
  unfold deadAt
  rw [h1]
  cases x<;>first|rfl|exact (h2 rfl).elim
def injL (σ:List (Option Nat)) (H:Heap):Bool:=(List.range σ.length).all fun i=>(List.range σ.length).all fun j=>i==j||deadAt H i||deadAt H j||match σ[i]?,σ[j]? with|some (some a),some (some b)=>a != b|_,_=>true
def apartL (fr:List Nat) (σ:List (Option Nat)) (H:Heap):Bool:=fr.all fun b=>(List.range σ.length).all fun i=>deadAt H i||match σ[i]? with|some (some a)=>a != b|_=>true
theorem injL_of {σ:List (Option Nat)}{H:Heap}(h:injL σ H=true) (i j b:Nat) (hi:LiveAt H i) (hj:LiveAt H j) (h1:σ[i]?=some (some b)) (h2:σ[j]?=some (some b)):i=j:=by
  have h3:=(List.getElem?_eq_some_iff.1 h1).1
  have h4:=(List.getElem?_eq_some_iff.1 h2).1
  have h5:=List.all_eq_true.1 h i (List.mem_range.2 h3)
  have h6:=List.all_eq_true.1 h5 j (List.mem_range.2 h4)
  rw [h1,h2,deadAt_of hi,deadAt_of hj] at h6
  simpa using h6
theorem apartL_of {fr:List Nat}{σ:List (Option Nat)}{H:Heap}(h:apartL fr σ H=true) (b:Nat) (hb:b∈fr) (i:Nat) (hi:LiveAt H i):σ[i]?≠some (some b):=fun h1=>by
  have h3:=(List.getElem?_eq_some_iff.1 h1).1
  have h5:=List.all_eq_true.1 (List.all_eq_true.1 h b hb) i (List.mem_range.2 h3)
  rw [h1,deadAt_of hi] at h5
  simp at h5
theorem sub_toL {m nt:Nat}{env env0:Env}{H H0:Heap}(σ:List (Option Nat)) (fr:List Nat) (h:(Nat.beq σ.length H0.length&&preB m σ&&injL σ H0&&apartL fr σ H0)=true) (he:EnvSub H σ (·∈fr) env env0) (hh:HSub H σ (·∈fr) 0 H0):SubOf m nt env H env0 H0:=by
  simp only [Bool.and_eq_true] at h
  exact sub_genL σ fr (Nat.eq_of_beq_eq_true h.1.1.1) (pre_of h.1.1.2) (injL_of h.1.2) (apartL_of h.2) he hh
theorem zsl {m nt:Nat}{env env0:Env}{H H0:Heap}(σ:List (Option Nat)) (fr:List Nat) (h:(Nat.beq σ.length H0.length&&preB m σ&&injL σ H0&&apartL fr σ H0)=true:=by exact rfl) (he:EnvSub H σ (·∈fr) env env0:=by ((repeat' (first|exact trivial|refine ⟨⟨_,rfl,?_⟩,?_⟩|refine vs1 ?_ ?_|refine vs2 ?_ ?_|refine vs3 ?_|refine vs4 ?_ ?_|refine ⟨.inl ⟨_,_,rfl,rfl,?_⟩,?_⟩|exact ⟨.inr ⟨rfl,rfl⟩,trivial⟩|refine ⟨.inr ⟨rfl,rfl⟩,?_⟩|(intro _ _)|exact vz1|refine ⟨trivial,?_⟩|refine ⟨bsub_mapE rfl rfl (fun _=>rfl),?_⟩|exact vza|exact vzt|exact vz2|fail));first|done|fail)) (hh:HSub H σ (·∈fr) 0 H0:=by ((repeat' (first|exact trivial|refine ⟨⟨_,rfl,?_⟩,?_⟩|refine vs1 ?_ ?_|refine vs2 ?_ ?_|refine vs3 ?_|refine vs4 ?_ ?_|refine ⟨.inl ⟨_,_,rfl,rfl,?_⟩,?_⟩|exact ⟨.inr ⟨rfl,rfl⟩,trivial⟩|refine ⟨.inr ⟨rfl,rfl⟩,?_⟩|(intro _ _)|exact vz1|refine ⟨trivial,?_⟩|refine ⟨bsub_mapE rfl rfl (fun _=>rfl),?_⟩|exact vza|exact vzt|exact vz2|fail));first|done|fail)):SubOf m nt env H env0 H0:=sub_toL σ fr h he hh
theorem joinH_is {σ:List Nat}{H H1 L G:Heap}(hl:σ.length=H1.length) (hg:G.length=H.length) (ho:∀ i,σ.idxOf? i=none→G[i]?=H[i]?) (h:∀ j k,σ[j]?=some k→G[k]?=some ((H1.getD j .dead).ren (rn σ H.length))) :
    joinH σ [] H (H1++L)=G++L.map (Blk.ren (rn σ H.length)):=by
  unfold joinH
  rw [List.drop_append_of_le_length (by omega),List.drop_eq_nil_of_le (by omega),List.nil_append]
  congr 1
  refine List.ext_getElem? fun i=>?_
  rw [joinAt_get,Nat.zero_add]
  cases hi:H[i]? with
  | none =>
    have h1:=List.getElem?_eq_none_iff.1 hi
    rw [List.getElem?_eq_none_iff.2 (by omega)]
    rfl
  | some b =>
    show some (pickB σ [] (rn σ H.length) (H1++L) i b)=G[i]?
    unfold pickB
    rw [show ([]:List Nat).contains i=false from rfl,cond_false]
    cases e:σ.idxOf? i with
    | none=>exact hi.symm.trans (ho i e).symm
    | some j =>
      have h1:=idxOf_some e
      have hj:=(List.getElem?_eq_some_iff.1 h1).1
      have h2:=h j i h1
      rw [h2]
      show some (Blk.ren (rn σ H.length) ((H1++L).getD j .dead))=_
      rw [List.getD_eq_getElem?_getD,List.getD_eq_getElem?_getD,List.getElem?_append_left (by omega)]
theorem joinH_same {σ:List Nat}{H H0:Heap}(hl:σ.length=H0.length) (h:∀ j k,σ[j]?=some k→H[k]?=some ((H0.getD j .dead).ren (rn σ H.length))):joinH σ [] H H0=H:=by
  have:=joinH_is (L:=[]) hl rfl (fun _ _=>rfl) h
  simpa using this
def SameAt (H:Heap) (r:Nat→Nat):List Nat→Heap→Prop
  | [],[]=>True
  | k::σ,b::H0=>H[k]?=some (b.ren r)∧SameAt H r σ H0
  | _,_=>False
theorem sameAt_get {H:Heap}{r:Nat→Nat}:∀ {σ:List Nat}{H0:Heap},SameAt H r σ H0→σ.length=H0.length∧∀ j k,σ[j]?=some k→H[k]?=some ((H0.getD j .dead).ren r)
  | [],[],_=>⟨rfl,fun j k h=>by simp at h⟩
  | k::σ,b::H0,⟨h1,h2⟩=>by
    obtain ⟨h3,h4⟩:=sameAt_get h2
    refine ⟨by simp [h3],fun j k' h=>?_⟩
    cases j with
    | zero=>simp at h;subst h;exact h1
    | succ j=>simp only [List.getElem?_cons_succ] at h;simpa using h4 j k' h
  | [],_::_,h=>h.elim
  | _::_,[],h=>h.elim
theorem mapE_renE {α:Type}{e:α→V}{m:List (Int × α)}{r:Nat→Nat}(he:∀ y,(e y).ren r=e y):(mapE e m).ren r=mapE e m:=by
  have h:entsE e m=(entsE e m).map fun p=>(p.1,p.2.ren r):=by
    unfold entsE
    rw [List.map_map]
    exact List.map_congr_left fun p _=>by show _=(Value.int .i64 p.1,(e p.2).ren r);rw [he]
  exact (congrArg Blk.map h).symm
section
variable {P:Program}{r:Option Nat}{m nt:Nat}{Q:Post}{env:Env}{H:Heap}{ops:Array Oper}{l:List Stp}{ty:TypeId}{pos:String}{after:Array Edge}
theorem ar_gsame (σ:List Nat) {H0:Heap}{i d:Nat}{fo:Operand}{args:List Operand}{ats:Array TypeId}{f:FuncId}{first cap vs xs:List V}{R:V→Prop}{Rp:V→Prop}(hfn:FnOk P f) (hf:eo env fo=some (.fn (.func f) first cap)) (hargs:args.mapM (eo env)=some vs)
    (h:ACalls P f xs H0 (fun v H'=>R v∧H'=H0) (fun v _=>Rp v)) (ha:ArgsSub H σ [] (first++vs++cap) xs) (hinj:σ.Nodup) (hlive:∀ b∈H0,b≠.dead) (hh:HSub H (σ.map some) (·∈([]:List Nat)) 0 H0)
    (hs:SameAt H (rn σ H.length) σ H0) (hd:d<nt) (hk:∀ v,R v→AR P r m nt ops Q l ((d,v.ren (rn σ H.length))::env) H) (hp:∀ v H1,Rp v→Q (.panic (v.ren (rn σ H.length))) [] H1) :
    AR P r m nt ops Q (.l i ⟨some d,.call ⟨.value fo,args.toArray,ats⟩,ty,pos,after,none⟩ false::l) env H:=by
  obtain ⟨hl,hs'⟩:=sameAt_get hs
  refine ar_gcall (H0:=H0) σ [] hfn hf hargs ha hl hinj (fun _ h=>by cases h) hh hlive h hd ?_ ?_
  · rintro v H1 ⟨hR,rfl⟩
    rw [joinH_same hl hs']
    exact hk v hR
  · rintro v H1 hR
    exact hp v _ hR
end
def KpW (B:Nat) (W W':World):Prop:=∀ r es clk,B≤r→W.heap[r]?=some (.map es clk)→W'.heap[r]?=some (.map es clk)
def RowMap (B:Nat) (W:World) (row:Option Nat):Prop:=∀ r,row=some r→B≤r∧∃ es clk,W.heap[r]?=some (.map es clk)
structure IterX (P:Program) (gf:FuncId) (vs:List V) (N:Nat) (el:Nat→List Value):Prop where
  out:∀ (I:Imm) us (l:Nat) (J:Nat→World→Prop) (K:World→Prop) (W:World),(∀ b o,I b=some o→W.heap[b]?=some o)→VRels I [] vs us →
    (∀ k W1 W2 row,J k W1→W1.grownBy W2 row→RowMap W.heap.size W1 row→J k W2) →
    (∀ k W1,J k W1→k<N→YieldAt Fence.wide 0 P l (el k).toArray W1 fun e W'=>((e=.returned (.bool true)∧J (k+1) W')∨(e=.returned (.bool false)∧K W'))∧KpI I W1 W'∧KpW W.heap.size W1 W')→J 0 W →
    CallsIn Fence.wide 1 P gf (#[.func (.yield l) #[] #[]]++us) W fun e W'=>(∃ v,e=.returned v)∧(J N W'∨K W')
def NoMaps (G:Heap):Prop:=∀ (b:Nat) ms,G[b]?≠some (.map ms)
def RangeXQ (m nt:Nat) (G':Heap) (E:AE→Heap→Prop):Post
  | .normal,env,H=>SubOf m nt env H [] G'
  | .ret,env,H=>∃ GX,NoMaps GX∧SubOf m nt env H [] GX∧E .ret GX
  | .exit id,env,H=>∃ GX,NoMaps GX∧SubOf m nt env H [] GX∧E (.exit id) GX
  | _,_,_=>False
theorem aw_rangeX {P:Program}{m nt:Nat}{Q:Post}{env:Env}{H:Heap}{g:Operand}{ps:Array Tmp}{assign body:Code}{gf:FuncId}{vs:List V}{N:Nat}{el:Nat→List Value}(G:Nat→Heap) (E1:Nat→Env)
    (hg:eo env g=some (.fn (.func gf) [] vs)) (hvs:V.closed.all vs=true) (hfn:FnOk P gf) (hit:IterX P gf vs N el) (hps:∀ k,k<N→(el k).length=ps.size) (hpn:∀ p∈ps.toList,p<nt)
    (hmv:∀ k,k<N→movesC nt assign (setsE (ps.toList.zip (el k)) env)=some (E1 k)) (hmaps:∀ k,NoMaps (G k)) (h0:SubOf H.length nt env H [] (G 0))
    (round:∀ k lp,k<N→AW P (some lp) H.length nt body (RangeXQ H.length nt (G (k+1)) (fun e GX=>Q e env GX)) (E1 k) (G k)) (hdone:Q .normal env (G N)):AW P none m nt (.rangeFunc g ps assign body) Q env H:=by
  classical
  refine ⟨fun X I ρ a w hX hst=>?_⟩
  obtain ⟨hE,hw,hD⟩:=hst
  refine (wpIn_wide (n:=0)).2 ((wpIn_wide (n:=2)).1 (wpIn_rangeFunc (F:=Fence.wide) ?_))
  intro fn hfn'
  have hIlt:∀ b o,I b=some o→b<w.heap.size:=fun b o hb=>(Array.getElem?_eq_some_iff.1 (hw.imm b o hb)).1
  have hgv:=eo_rel hE hg
  obtain ⟨lb,hev,hrel⟩:∃ lb,a.eval g=.func (.func gf) #[] lb∧VRels I [] vs lb:=by
    cases e:a.eval g<;>rw [e] at hgv<;>cases hgv
    rename_i us ws h1 h2 h3 h4
    have:us=#[]:=by cases us;simp at h1;simp [h1]
    subst this
    exact ⟨ws,rfl,h3,fun j v u hj hu=>(h4 j v u hj hu).close (closed_all hvs hj)⟩
  obtain ⟨rec,hrec⟩:∃ rec:LoopState→Option Code→Loop,rec=fun st pe=>{ state:=st,pending:=pe,fn,tmps:=a.tmps,params:=ps,assign,body,defers:=w.heap.size }:=⟨_,rfl⟩
  obtain ⟨W1,hW1⟩:∃ W1,(w.alloc (.deferred (some []))).alloc (.loop (rec .ready none))=W1:=⟨_,rfl⟩
  have hL1:W1.heap[w.heap.size+1]?=some (.loop (rec .ready none)):=by
    rw [← hW1];have:=World.alloc_heap_new (w.alloc (.deferred (some []))) (.loop (rec .ready none));rwa [World.size_alloc] at this
  have hK1:W1.heap[w.heap.size]?=some (.deferred (some [])):=by
    rw [← hW1];exact (Below.heap_alloc _ _ _ (by simp)).trans (World.alloc_heap_new w _)
  let InvH:Heap→World→Prop:=fun GX W=>∃ I' ρ',WOk (Ctx.self w ρ H I) I' ρ' GX W∧∀ b o,I' b=some o→I b=some o∨o.isCells=true
  let Inv:Nat→World→Prop:=fun k W=>InvH (G k) W
  have invGrowH:∀ GX W W' row,NoMaps GX→InvH GX W→W.grownBy W' row→(∀ r,row=some r→w.heap.size≤r∧∃ o:Obj,W.heap[r]?=some o∧o.isCells=false)→InvH GX W':=by
    rintro GX W W' row hno ⟨I',ρ',h1,h2⟩ hg hr
    refine ⟨I',ρ',h1.grown hg (fun r e=>?_) hno,h2⟩
    obtain ⟨h3,o,h4,h5⟩:=hr r e
    refine ⟨h3,?_,o,h4,h5⟩
    cases e':I' r with
    | none=>rfl
    | some o' =>
      have h6:=h1.imm r o' e'
      rw [h4] at h6;cases h6
      rcases h2 r _ e' with h7|h7
      · have:=hIlt r _ h7;omega
      · rw [h5] at h7;cases h7
  have invGrow:∀ k W W' row,Inv k W→W.grownBy W' row→(∀ r,row=some r→w.heap.size≤r∧∃ o:Obj,W.heap[r]?=some o∧o.isCells=false)→Inv k W':=fun k W W' row=>invGrowH (G k) W W' row (hmaps k)
  have cutInvH:∀ GX W I' ρ',WOk (Ctx.self w ρ H I) I' ρ' GX W→InvH GX W:=fun GX W I' ρ' h1=>by
    let I4:Imm:=fun b=>if I b=none∧(∀ o,I' b=some o→o.isCells=false) then none else I' b
    refine ⟨I4,ρ',h1.cut (fun b o hb=>?_) (fun b o hb=>?_) (fun b cs ty fz hb=>?_),fun b o hb=>?_⟩
    · have hb:(if I b=none∧(∀ o,I' b=some o→o.isCells=false) then none else I' b)=some o:=hb
      split at hb
      · cases hb
      · exact hb
    · show (if I b=none∧(∀ o,I' b=some o→o.isCells=false) then none else I' b)=some o
      have hb':I b=some o:=hb
      rw [if_neg (fun h=>by rw [hb'] at h;cases h.1)]
      exact h1.le b o hb
    · show (if I b=none∧(∀ o,I' b=some o→o.isCells=false) then none else I' b)=_
      rw [if_neg (fun h=>by have:=h.2 _ hb;cases this)]
      exact hb
    · have hb:(if I b=none∧(∀ o,I' b=some o→o.isCells=false) then none else I' b)=some o:=hb
      split at hb
      · cases hb
      · rename_i hno
        cases hI:I b with
        | none =>
          right
          cases ho:o.isCells with
          | true=>rfl
          | false=>exact (hno ⟨hI,fun o' ho'=>by rw [hb] at ho';cases ho';exact ho⟩).elim
        | some o2 =>
          have:=h1.le b o2 hI
          rw [hb] at this;cases this
          exact .inl rfl
  have cutInv:∀ k W I' ρ',WOk (Ctx.self w ρ H I) I' ρ' (G k) W→Inv k W:=fun k=>cutInvH (G k)
  have hInv0:Inv 0 W1:=by
    have hself:St (Ctx.self w ρ H I) nt env H I ρ { a with defers:=[] } w:=⟨hE,hw.self,DOk.nil rfl⟩
    obtain ⟨I1,ρ1,hle,h2⟩:=h0.1 (Ctx.self w ρ H I) I ρ _ w hw.len hself
    have h3:=cutInv 0 w I1 ρ1 h2.2.1
    rw [← hW1]
    refine invGrow 0 _ _ none (invGrow 0 _ _ none h3 (World.grownBy_alloc _ _ none) (fun r e=>by cases e)) (World.grownBy_alloc _ _ none) (fun r e=>by cases e)
  let Left:World→Prop:=fun W=>∃ (e:AE) (c:Code) (GX:Heap),((e=.ret∧c=.ret)∨(∃ id,e=.exit id∧c=.exit id))∧NoMaps GX∧InvH GX W∧Q e env GX∧W.heap[w.heap.size+1]?=some (.loop { rec .ready (some c) with state:=.done })∧W.heap[w.heap.size]?=some (.deferred (some []))
  have hB:W1.heap.size=w.heap.size+2:=by rw [← hW1];simp
  refine ⟨w.heap.size+1,[{ target:=.collected w.heap.size,args:=#[] }],W1,{ target:=.fn (.func gf) lb,args:=#[.func (.yield (w.heap.size+1)) #[] #[]] },W1,gf,
    #[.func (.yield (w.heap.size+1)) #[] #[]]++lb,W1,?_,?_,?_,?_,fun _=>by omega,?_⟩
  · rw [← hW1,hrec];exact run_enterLoop_outer _ _ _ _ _
  · simp only [resolve,hev]
    simp [go_sem]
  · intro f' hf';simp [Target.leads] at hf';subst hf';exact trivial
  · have:=hfn
    simp only [FnOk] at this
    simp [invoke,go_sem,this]
  · refine (hit.out I lb (w.heap.size+1) (fun k W=>Inv k W∧W.heap[w.heap.size+1]?=some (.loop (rec .ready none))∧W.heap[w.heap.size]?=some (.deferred (some []))) Left W1 ?_ hrel ?_ ?_ ⟨hInv0,hL1,hK1⟩).mono ?_
    · intro b o hb
      have hlt:=hIlt b o hb
      rw [← hW1]
      exact (Below.heap_alloc _ _ _ (by simp;omega)).trans ((Below.heap_alloc _ _ _ hlt).trans (hw.imm b o hb))
    · rintro k W W' row ⟨h1,h2,h3⟩ hg hr
      refine ⟨invGrow k W W' row h1 hg (fun r e=>by obtain ⟨a,es,clk,b⟩:=hr r e;exact ⟨by omega,_,b,rfl⟩),?_,?_⟩
      · exact (hg.block _ (Array.getElem?_eq_some_iff.1 h2).1 (fun e=>by obtain ⟨a,es,clk,b⟩:=hr _ e.symm;omega)).trans h2
      · exact (hg.block _ (Array.getElem?_eq_some_iff.1 h3).1 (fun e=>by obtain ⟨a,es,clk,b⟩:=hr _ e.symm;omega)).trans h3
    · -- one round
      rintro k W ⟨hi,hl,hk⟩ hlen
      have hlt:w.heap.size+1<W.heap.size:=(Array.getElem?_eq_some_iff.1 hl).1
      have hy:=run_yield (P:=P) (args:=(el k).toArray) hl (by rw [hrec];simpa using hps k hlen)
      rw [hrec] at hy
      refine ⟨fn,_,assign,body,hy,roundIn_of_wpIn hfn' ?_⟩
      have hE1:EnvOk I ρ nt (setsE (ps.toList.zip (el k)) env) { tmps:=(ps.toList.zip (el k)).foldl (fun t pv=>t.setIfInBounds pv.1 pv.2) a.tmps,defers:=[] } :=
        env_sets _ _ _ hE fun p hp=>hpn p.1 (List.of_mem_zip hp).1
      have etmps:(ps.zip (el k).toArray).foldl (fun t (p,v)=>t.setIfInBounds p v) a.tmps=(ps.toList.zip (el k)).foldl (fun t pv=>t.setIfInBounds pv.1 pv.2) a.tmps:=by
        rw [← Array.foldl_toList,Array.toList_zip]
      refine wp_moves (r:=some (w.heap.size+1)) (I:=I) (ρ:=ρ) (hmv k hlen) (by rw [← etmps] at hE1;exact hE1) fun a' ha' hd'=>?_
      refine ⟨_,run_beginRound hl (by rw [hrec]),?_⟩
      obtain ⟨W2,hW2⟩:∃ W2,W.putObj (w.heap.size+1) (.loop { rec .ready none with state:=.busy })=W2:=⟨_,rfl⟩
      rw [hW2]
      have hl2:W2.heap[w.heap.size+1]?=some (.loop { rec .ready none with state:=.busy }):=by rw [← hW2];exact World.putObj_heap_same hlt
      have hk2:W2.heap[w.heap.size]?=some (.deferred (some [])):=by rw [← hW2];exact (World.putObj_heap_other (by omega)).trans hk
      obtain ⟨I',ρ',hwk,hcells⟩:Inv k W2:=by
        rw [← hW2]
        exact invGrow k W _ (some (w.heap.size+1)) hi (grownBy_putObj' W _ _) (fun r e=>by cases e;exact ⟨by omega,_,hl,rfl⟩)
      let I2:Imm:=fun b=>if I' b=none∧w.heap.size≤b∧(∃ o,W2.heap[b]?=some o∧o.isCells=false) then W2.heap[b]? else I' b
      have hle2:I'.le I2:=fun b o hb=>by
        show (if I' b=none∧w.heap.size≤b∧(∃ o,W2.heap[b]?=some o∧o.isCells=false) then W2.heap[b]? else I' b)=some o
        rw [if_neg (fun h=>by rw [hb] at h;cases h.1)]
        exact hb
      have notLive:∀ b o,W2.heap[b]?=some o→o.isCells=false→¬ Live (G k) ρ' b:=by
        rintro b o hb ho ⟨j,blk,h1,h2,z,h3⟩
        cases blk with
        | dead=>exact h2 rfl
        | map ms=>exact hmaps k j ms h1
        | arr sz n f =>
          obtain ⟨cs,ty,h4,_⟩:=hwk.arr _ _ _ _ _ _ h1 h3
          rw [hb] at h4;cases h4;cases ho
      have hwk2:WOk (Ctx.self w ρ H I) I2 ρ' (G k) W2:=hwk.more hle2 (fun b o hb=>by
          have hb:(if I' b=none∧w.heap.size≤b∧(∃ o,W2.heap[b]?=some o∧o.isCells=false) then W2.heap[b]? else I' b)=some o:=hb
          split at hb
          · exact hb
          · exact hwk.imm b o hb) (fun b hb=>by
          have hb:(if I' b=none∧w.heap.size≤b∧(∃ o,W2.heap[b]?=some o∧o.isCells=false) then W2.heap[b]? else I' b)≠none:=hb
          split at hb
          · rename_i h
            obtain ⟨_,h1,o,h2,h3⟩:=h
            exact .inr ⟨h1,notLive b o h2 h3⟩
          · exact .inl hb)
      have inI2:∀ b o,w.heap.size≤b→W2.heap[b]?=some o→o.isCells=false→I2 b=some o:=fun b o h1 h2 h3=>by
        show (if I' b=none∧w.heap.size≤b∧(∃ o,W2.heap[b]?=some o∧o.isCells=false) then W2.heap[b]? else I' b)=some o
        split
        · exact h2
        · rename_i hno
          cases e:I' b with
          | none=>exact (hno ⟨e,h1,o,h2,h3⟩).elim
          | some o'=>have:=hwk.imm b o' e;rw [h2] at this;cases this;rfl
      have hbody:=(round k (w.heap.size+1) hlen).1 ⟨w,ρ,H,I2,[]⟩ I2 ρ' a' W2 hw.len ⟨(ha'.mono hwk.le hwk.pre).mono hle2 (Pre.refl _),hwk2.ctx,DOk.nil hd'⟩
      have fin:∀ (GX:Heap) (env3:Env) (H3:Heap) (I3:Imm) (ρ3:List (Option (Nat × Nat))) (a3:Act) (W3:World) (jump:Option Code),NoMaps GX→St ⟨w,ρ,H,I2,[]⟩ nt env3 H3 I3 ρ3 a3 W3→SubOf H.length nt env3 H3 [] GX →
          ∃ W4,(Instr.endRound (w.heap.size+1) jump).run P W3=.ok (.bool jump.isNone) W4∧InvH GX W4∧W4.heap[w.heap.size+1]?=some (.loop { rec .ready jump with state:=if jump.isNone then .ready else .done })∧W4.heap[w.heap.size]?=some (.deferred (some []))∧KpI I W W4∧KpW W1.heap.size W W4:=by
        intro GX env3 H3 I3 ρ3 a3 W3 jump hno hst3 hsub
        obtain ⟨I4,ρ4,_,hst4⟩:=hsub.1 ⟨w,ρ,H,I2,[]⟩ I3 ρ3 a3 W3 hw.len hst3
        have hw4:=hst4.2.1
        have hl3:W3.heap[w.heap.size+1]?=some (.loop { rec .ready none with state:=.busy }):=hw4.imm _ _ (hw4.le _ _ (inI2 _ _ (by omega) hl2 rfl))
        have hk3:W3.heap[w.heap.size]?=some (.deferred (some [])):=hw4.imm _ _ (hw4.le _ _ (inI2 _ _ (Nat.le_refl _) hk2 rfl))
        have hw5:WOk (Ctx.self w ρ H I) I4 ρ4 GX W3:=WOk.unctx (X:=Ctx.self w ρ H I) (K:=I2) hw4 (Imm.le_trans hwk.le hle2) fun b hb=>hwk2.news b hb
        have hinv:=cutInvH GX W3 I4 ρ4 hw5
        have hend:=run_endRound (P:=P) jump hl3
        rw [hrec] at hend
        have hlt3:=(Array.getElem?_eq_some_iff.1 hl3).1
        refine ⟨_,hend,?_,?_,?_,?_,?_⟩
        · exact invGrowH GX W3 _ (some (w.heap.size+1)) hno hinv (grownBy_putObj' W3 _ _) (fun r e=>by cases e;exact ⟨by omega,_,hl3,rfl⟩)
        · rw [hrec];exact World.putObj_heap_same hlt3
        · exact (World.putObj_heap_other (by omega)).trans hk3
        · intro b o hb hWb
          have hlt:=hIlt b o hb
          refine (World.putObj_heap_other (by omega)).trans (hw5.imm b o (hw5.le b o hb))
        · intro r es clk hr hWr
          have hW2r:W2.heap[r]?=some (.map es clk):=by rw [← hW2];exact (World.putObj_heap_other (by omega)).trans hWr
          exact (World.putObj_heap_other (by omega)).trans (hw4.imm _ _ (hw4.le _ _ (inI2 _ _ (by omega) hW2r rfl)))
      refine wpIn_mono hbody fun e a3 W3 hq=>?_
      cases e with
      | normal =>
        obtain ⟨env3,H3,I3,ρ3,hst3,hsub⟩:=hq
        obtain ⟨W4,h1,h2,h3,h4,h5,h6⟩:=fin (G (k+1)) env3 H3 I3 ρ3 a3 W3 none (hmaps _) hst3 hsub
        exact ⟨_,W4,h1,.inl ⟨rfl,h2,by rw [h3,hrec];rfl,h4⟩,h5,h6⟩
      | exit id =>
        obtain ⟨env3,H3,I3,ρ3,hst3,GX,hno,hsub,hE⟩:=hq
        obtain ⟨W4,h1,h2,h3,h4,h5,h6⟩:=fin GX env3 H3 I3 ρ3 a3 W3 (some (.exit id)) hno hst3 hsub
        exact ⟨_,W4,h1,.inr ⟨rfl,.exit id,.exit id,GX,.inr ⟨id,rfl,rfl⟩,hno,h2,hE,h3,h4⟩,h5,h6⟩
      | goto t=>obtain ⟨_,_,_,_,_,h⟩:=hq;exact h.elim
      | ret =>
        obtain ⟨env3,H3,I3,ρ3,hst3,GX,hno,hsub,hE⟩:=hq
        obtain ⟨W4,h1,h2,h3,h4,h5,h6⟩:=fin GX env3 H3 I3 ρ3 a3 W3 (some .ret) hno hst3 hsub
        exact ⟨_,W4,h1,.inr ⟨rfl,.ret,.ret,GX,.inl ⟨rfl,rfl⟩,hno,h2,hE,h3,h4⟩,h5,h6⟩
      | panic c=>obtain ⟨_,_,_,_,_,_,_,_,_,h⟩:=hq;exact h.elim
      | outgrown=>exact hq.elim
    · -- behind the iterator
      have fin:∀ (GX:Heap) (W2:World) (L:Loop),NoMaps GX→InvH GX W2→W2.heap[w.heap.size+1]?=some (.loop L)→L.state≠.busy→W2.heap[w.heap.size]?=some (.deferred (some [])) →
          ∃ W3,(Instr.endLoop (w.heap.size+1)).run P W2=.ok L.pending W3∧∃ I2 ρ',St X nt env GX I2 ρ' { a with defers:=[{ target:=.collected w.heap.size,args:=#[] }]++a.defers } W3:=by
        intro GX W2 L hno hi hl hL hk
        have hend:=run_endLoop (P:=P) hl hL
        obtain ⟨o4,ho4⟩:∃ o4,Obj.loop { L with state:=.exhausted }=o4:=⟨_,rfl⟩
        rw [ho4] at hend
        refine ⟨_,hend,?_⟩
        obtain ⟨I',ρ',h1,h2⟩:=invGrowH GX W2 _ (some (w.heap.size+1)) hno hi (grownBy_putObj' W2 _ o4) (fun r e=>by cases e;exact ⟨by omega,_,hl,rfl⟩)
        have hkk:(W2.putObj (w.heap.size+1) o4).heap[w.heap.size]?=some (.deferred (some [])):=(World.putObj_heap_other (by omega)).trans hk
        let I2:Imm:=fun b=>if b=w.heap.size then some (.deferred (some [])) else I' b
        have hIn:I' w.heap.size=none:=by
          cases e:I' w.heap.size with
          | none=>rfl
          | some o =>
            have h3:=h1.imm _ o e
            rw [hkk] at h3;cases h3
            rcases h2 _ _ e with h4|h4
            · have:=hIlt _ _ h4;omega
            · cases h4
        have hle2:I'.le I2:=fun b o hb=>by
          show (if b=w.heap.size then some (.deferred (some [])) else I' b)=some o
          rw [if_neg (fun e=>by subst e;rw [hIn] at hb;cases hb)]
          exact hb
        have h3:=h1.more hle2 (fun b o hb=>by
          have hb':(if b=w.heap.size then some (.deferred (some [])) else I' b)=some o:=hb
          clear hb
          split at hb'
          · rename_i e;rw [e,← hb'];exact hkk
          · exact h1.imm b o hb') (fun b hb=>by
          have hb:(if b=w.heap.size then some (Obj.deferred (some [])) else I' b)≠none:=hb
          split at hb
          · rename_i e
            subst e
            refine .inr ⟨Nat.le_refl _,?_⟩
            rintro ⟨j,blk,g1,g2,z,g3⟩
            cases blk with
            | dead=>exact g2 rfl
            | map ms=>exact hno j ms g1
            | arr sz n f =>
              obtain ⟨cs,ty,g4,_⟩:=h1.arr _ _ _ _ _ _ g1 g3
              rw [hkk] at g4;cases g4
          · exact .inl hb)
        obtain ⟨Ds,d1,d2,d3⟩:=hD
        refine ⟨I2,ρ',hE.mono (Imm.le_trans h1.le hle2) h1.pre,hw.trans h3,w.heap.size::Ds,?_,?_,?_⟩
        · rw [List.nodup_cons]
          exact ⟨fun hd=>by have:=hIlt _ _ (d3 _ hd).2;omega,d1⟩
        · show [_]++a.defers=_
          rw [d2];rfl
        · intro D hD
          rcases List.mem_cons.1 hD with e|e
          · subst e
            refine ⟨hw.grow,?_⟩
            show (if w.heap.size=w.heap.size then some (Obj.deferred (some [])) else _)=_
            rw [if_pos rfl]
          · exact ⟨(d3 D e).1,hle2 _ _ (h1.le _ _ (d3 D e).2)⟩
      rintro e W2 ⟨⟨v,rfl⟩,(⟨hi,hl,hk⟩|⟨e,c,GX,hec,hno,hi,hQ,hl,hk⟩)⟩
      · obtain ⟨W3,h1,I2,ρ',h2⟩:=fin (G N) W2 _ (hmaps N) hi hl (by rw [hrec];simp) hk
        refine ⟨none,W3,by rw [h1,hrec],?_⟩
        exact ⟨env,G N,I2,ρ',h2,hdone⟩
      · obtain ⟨W3,h1,I2,ρ',h2⟩:=fin GX W2 _ hno hi hl (by simp) hk
        refine ⟨some c,W3,by rw [h1,hrec],?_⟩
        rcases hec with ⟨rfl,rfl⟩|⟨id,rfl,rfl⟩
        · exact wpIn_ret ⟨env,GX,I2,ρ',h2,hQ⟩
        · exact wpIn_exit ⟨env,GX,I2,ρ',h2,hQ⟩
end Go.Proofs.YtloaefllpokkaaaGreat
