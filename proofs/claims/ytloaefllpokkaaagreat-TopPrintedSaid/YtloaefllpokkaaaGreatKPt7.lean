/- Parts of the proof: contracts of functions. No condition. -/
import Derived.Test.YtloaefllpokkaaaGreatKPt6
set_option maxHeartbeats 16000000
set_option linter.unusedSimpArgs false
set_option linter.unusedVariables false
namespace Go.Proofs.YtloaefllpokkaaaGreat.It
open Go.RowKit
structure Cx (P:Program) where
  l:Nat
  I:Imm
  J:Nat→World→Prop
  N:Nat
  el:Nat→List Value
  round:∀ k W1,J k W1→k<N→YieldAt Fence.wide 0 P l (el k).toArray W1 fun e W'=>e=.returned (.bool true)∧J (k+1) W'∧KpI I W1 W'
abbrev Post:=AE→Env→Nat→Prop
section
variable {P:Program}(C:Cx P)
def St (nt:Nat) (env:Env) (k:Nat) (a:Act) (w:World):Prop:=EnvOk C.I [] nt env a∧(∀ b o,C.I b=some o→w.heap[b]?=some o)∧a.defers=[]∧C.J k w
def Lift (nt:Nat) (Q:Post):Exit→Act→World→Prop
  | .normal,a,w=>∃ env k,St C nt env k a w∧Q .normal env k
  | .exit id,a,w=>∃ env k,St C nt env k a w∧Q (.exit id) env k
  | .goto l,a,w=>∃ env k,St C nt env k a w∧Q (.goto l) env k
  | .ret,a,w=>∃ env k,St C nt env k a w∧Q .ret env k
  | .panic _,_,_=>False
  | .outgrown,_,_=>False
structure AW (nt:Nat) (c:Code) (Q:Post) (env:Env) (k:Nat):Prop where
  out:∀ a w,St C nt env k a w→c.wpIn (Fw none) 0 P (Lift C nt Q) a w
structure AR (nt:Nat) (ops:Array Oper) (Q:Post) (l:List Stp) (env:Env) (k:Nat):Prop where
  out:∀ a w,St C nt env k a w→runP P none ops (Lift C nt Q) l (Keeps C.I [] [] w) a w
end
def thenP (next:Env→Nat→Prop) (Q:Post):Post
  | .normal,env,k=>next env k
  | e,env,k=>Q e env k
def inBlockP (id:Nat) (Q:Post):Post
  | .exit id',env,k=>bif Nat.beq id' id then Q .normal env k else Q (.exit id') env k
  | e,env,k=>Q e env k
def Has (env:Env):Env→Prop
  | []=>True
  | (t,v)::l=>look env t=some v∧Has env l
section
variable {P:Program}{C:Cx P}{nt:Nat}{Q Q':Post}{env env':Env}{k:Nat}{ops:Array Oper}{l:List Stp}{dst:Nat}{ty:TypeId}{pos:String}{after:Array Edge}
theorem has_look:∀ {e:Env}{t:Nat}{v:V},Has env e→look e t=some v→look env t=some v
  | [],_,_,_,h=>by simp [look] at h
  | (k,y)::l,t,v,hs,h=>by
    rw [look_cons] at h
    split at h
    · rename_i e;subst e;cases h;exact hs.1
    · exact has_look hs.2 h
theorem St.has {a:Act}{w:World}(h:St C nt env k a w) (he:Has env env'):St C nt env' k a w:=⟨⟨h.1.1,fun t v ht=>h.1.2 t v (has_look he ht)⟩,h.2⟩
theorem aw_skip (h:Q .normal env k):AW C nt .skip Q env k:=.mk fun _ _ hs=>wpIn_skip ⟨env,k,hs,h⟩
theorem aw_exit {id:Nat}(h:Q (.exit id) env k):AW C nt (.exit id) Q env k:=.mk fun _ _ hs=>wpIn_exit ⟨env,k,hs,h⟩
theorem lift_then {nxt:Env→Nat→Prop}{K:Act→World→Prop}(h:∀ env k a w,St C nt env k a w→nxt env k→K a w):∀ e a w,Lift C nt (thenP nxt Q) e a w→Exit.then K (Lift C nt Q) e a w
  | .normal,_,_,⟨_,_,c,d⟩=>h _ _ _ _ c d
  | .exit _,_,_,h=>h
  | .goto _,_,_,h=>h
  | .ret,_,_,h=>h
  | .panic _,_,_,h=>h
  | .outgrown,_,_,h=>h
theorem aw_seq {x y:Code}(h:AW C nt x (thenP (AW C nt y Q) Q) env k):AW C nt (.seq x y) Q env k:=.mk
  fun a w hs=>wpIn_seq (wpIn_mono (h.1 a w hs) (lift_then fun _ _ a w hs h=>h.1 a w hs))
theorem aw_cond {c:Operand}{x y:Code}{b:Bool}(hc:eo env c=some (.s (.bool b))) (ht:b=true→AW C nt x Q env k) (hf:b=false→AW C nt y Q env k):AW C nt (.cond c x y) Q env k:=.mk
  fun a w hs=>wpIn_cond_split (eo_bool hs.1 hc) (fun e=>(ht e).1 a w hs) (fun e=>(hf e).1 a w hs)
theorem aw_block {id:Nat}{c:Code}(h:AW C nt c (inBlockP id Q) env k):AW C nt (.block id c) Q env k:=.mk
  fun a w hs=>wpIn_block (wpIn_mono (h.1 a w hs) fun e a w h=>by
    cases e with
    | exit id' =>
      obtain ⟨env,k,hs,hq⟩:=h
      simp only [inBlockP] at hq
      simp only [Exit.inBlock]
      cases hb:Nat.beq id' id
      · rw [hb] at hq
        rw [if_neg (fun e=>by rw [e,Nat.beq_refl] at hb;cases hb)]
        exact ⟨env,k,hs,hq⟩
      · rw [hb] at hq
        rw [if_pos (Nat.eq_of_beq_eq_true hb)]
        exact ⟨env,k,hs,hq⟩
    | normal=>exact h
    | goto _=>exact h
    | ret=>exact h
    | panic _=>exact h
    | outgrown=>exact h)
theorem aw_for {c:Code}(M:Nat) (E:Nat→Env) (hk:k≤M) (h0:Has env (E k)) (round:∀ j,j≤M→AW C nt c (thenP (fun env' k'=>j<M∧k'=j+1∧Has env' (E (j+1))) Q) (E j) j):AW C nt (.loop c) Q env k:=.mk fun a w hs =>
  wpIn_loopN (fun n a w=>∃ j,j≤M∧n=M-j∧St C nt (E j) j a w) (M-k) ⟨k,hk,rfl,hs.has h0⟩ fun n a w ⟨j,hj,hn,hs⟩ =>
    wpIn_mono ((round j hj).1 a w hs) (lift_then fun env' k' a' w' hs' h=>by
      obtain ⟨h1,rfl,h3⟩:=h
      exact ⟨M-(j+1),by omega,j+1,h1,rfl,hs'.has h3⟩)
theorem wok {I:Imm}{w:World}(h:∀ b o,I b=some o→w.heap[b]?=some o):WOk (Ctx.self w [] [] I) I [] [] w:=WOk.begin h
theorem aw_region {l:List Oper}{id:Nat}(h:AR C nt l.toArray Q (textPlan l 0) env k):AW C nt (.region id l.toArray false) Q env k:=.mk
  fun a w hs=>region_text (Keeps C.I [] [] w) (Keeps.refl (wok hs.2.1)) (h.1 a w hs)
theorem ar_nil (h:Q .normal env k):AR C nt ops Q [] env k:=.mk fun _ _ hs=>⟨env,k,hs,h⟩
theorem ar_q {i d:Nat}{op:Op}{v:V}(h:QS P nt env [] ⟨some d,op,ty,pos,after,none⟩ v) (hd:d<nt) (hk:AR C nt ops Q l ((d,v)::env) k) :
    AR C nt ops Q (.q i ⟨some d,op,ty,pos,after,none⟩::l) env k:=.mk fun a w hs=>by
  refine ⟨fun _=>?_,fun hw=>by rw [wanted_none rfl] at hw;cases hw⟩
  obtain ⟨u,h1,h2⟩:=h.1 _ C.I [] a w hs.1 (wok hs.2.1)
  exact ⟨u,h2,hk.1 _ w ⟨hs.1.put h1 hd,hs.2⟩⟩
theorem ar_guard {s:Stp}{g t d:Nat}{b want:Bool}(hg:s.oper.guard=some (g,want)) (ht:(ops[g]?).bind (·.dst)=some t) (hb:look env t=some (.s (.bool b))) (hd:s.oper.dst=some d) (hdn:d<nt)
    (hy:b=want→AR C nt ops Q (s.bare::l) ((t,.s (.bool want))::env) k) (hn:b=!want→AR C nt ops Q l ((d,.s undef)::(t,.s (.bool !want))::env) k):AR C nt ops Q (s::l) env k:=.mk fun a w hs=>by
  obtain ⟨h1,h2⟩:=hs.1.2 t _ hb
  have ev:a.tmps.getD t undef=.bool b:=by cases h2':a.tmps.getD t undef<;>rw [h2'] at h2<;>cases h2;rfl
  have ey:yielded ops a.tmps g=some b:=by
    unfold yielded
    have hlt:t<a.tmps.size:=by rw [hs.1.1];exact h1
    simp only [ht,Option.bind_some]
    simp [hlt] at ev
    simp [hlt,ev]
  have hw:Region.wanted s.oper (yielded ops a.tmps)=(b==want):=by
    unfold Region.wanted
    rw [hg]
    simp only [ey]
    cases b<;>cases want<;>rfl
  have sub:∀ b',b=b'→EnvOk C.I [] nt ((t,.s (.bool b'))::env) a:=fun b' e=>by
    subst e
    refine ⟨hs.1.1,fun t' v' h'=>?_⟩
    rw [look_cons] at h'
    split at h'
    · rename_i e;subst e;cases h';exact ⟨h1,h2⟩
    · exact hs.1.2 t' v' h'
  by_cases e:b=want
  · have ih:=(hy e).1 a w ⟨sub _ e,hs.2⟩
    clear hy hn
    have hwt:Region.wanted s.oper (yielded ops a.tmps)=true:=by rw [hw,e];simp
    cases s with
    | q i o =>
      have ih:(Region.wanted { o with guard:=none } (yielded ops a.tmps)=true→_)∧_:=ih
      exact ⟨fun _=>ih.1 (wanted_none rfl),fun h'=>absurd (h'.symm.trans hwt) (by decide)⟩
    | l i o k =>
      have ih:(Region.wanted { o with guard:=none } (yielded ops a.tmps)=true→_)∧_:=ih
      exact ⟨fun _=>ih.1 (wanted_none rfl),fun h'=>absurd (h'.symm.trans hwt) (by decide)⟩
    | fork ps=>cases hg
  · have e':b=!want:=by cases b<;>cases want<;>simp_all
    have hwf:Region.wanted s.oper (yielded ops a.tmps)=false:=by rw [hw,e'];cases want<;>rfl
    have ih:runP P none ops (Lift C nt Q) l (Keeps C.I [] [] w) (a.put (some d) undef) w:=(hn e').1 _ w ⟨(sub _ e').put (.s _) hdn,hs.2⟩
    rw [← hd] at ih
    cases s with
    | q i o=>exact ⟨fun h'=>absurd (h'.symm.trans hwf) (by decide),fun _=>ih⟩
    | l i o k=>exact ⟨fun h'=>absurd (h'.symm.trans hwf) (by decide),fun _=>ih⟩
    | fork ps=>cases hg
theorem evals_s {I:Imm}{a:Act}(he:EnvOk I [] nt env a):∀ {xs:List Operand}{us:List Value},xs.mapM (eo env)=some (us.map V.s)→xs.map a.eval=us
  | [],us,h=>by cases us<;>simp at h;rfl
  | x::xs,us,h=>by
    simp only [List.mapM_cons,Option.pure_def,Option.bind_eq_bind,Option.bind_eq_some_iff] at h
    obtain ⟨v0,hv0,vs',hvs,h'⟩:=h
    cases us with
    | nil=>simp at h'
    | cons u us =>
      simp at h'
      obtain ⟨rfl,rfl⟩:=h'
      rw [List.map_cons,evals_s he hvs]
      have:=eo_rel he hv0
      generalize a.eval x=y at this ⊢
      cases this
      rfl
theorem yield_run {fo:Operand}{args:List Operand}{ats:Array TypeId}{lp:Nat}{a:Act}{w:World}{res:Result Next}{d:Option Tmp}{guard:Option (Nat × Bool)}(hv:a.eval fo=.func (.yield lp) #[] #[]) (hr:(Instr.yield lp (args.map a.eval).toArray).run P w=res) :
    (execOp a.eval ⟨d,.call ⟨.value fo,args.toArray,ats⟩,ty,pos,after,guard⟩).run P w=res:=by
  simp only [execOp,resolve,Sem.run_bind,hv,Deferred.ofValue,Sem.run_pure,Result.andThen_ok,invoke]
  rw [show (args.toArray.map a.eval)=(args.map a.eval).toArray by simp]
  simpa using hr
theorem ar_yield {i d:Nat}{fo:Operand}{args:List Operand}{ats:Array TypeId}{us:List Value}(hf:eo env fo=some (.s (.func (.yield C.l) #[] #[]))) (hargs:args.mapM (eo env)=some (us.map V.s)) (hk:k<C.N) (hel:C.el k=us) (hd:d<nt)
    (h:AR C nt ops Q l ((d,.s (.bool true))::env) (k+1)):AR C nt ops Q (.l i ⟨some d,.call ⟨.value fo,args.toArray,ats⟩,ty,pos,after,none⟩ false::l) env k:=.mk fun a w hs=>by
  refine ⟨fun _=>?_,fun hw=>by rw [wanted_none rfl] at hw;cases hw⟩
  have h1:=eo_rel hs.1 hf
  have ev:a.eval fo=.func (.yield C.l) #[] #[]:=by generalize a.eval fo=y at h1;cases h1;rfl
  obtain ⟨fn,tmps,assign,body,hy,hR⟩:=C.round k w hs.2.2.2 hk
  rw [hel,← evals_s hs.1 hargs] at hy
  refine wpIn_of_run (by simp) (yield_run ev hy) ⟨fun h=>by simp [Fw,Fence.wide] at h,?_⟩
  refine RoundIn.mono hR fun e w' ⟨he,hJ,hK⟩=>?_
  subst he
  exact ⟨Keeps C.I [] [] w',Keeps.refl (wok fun b o hb=>hK b o hb (hs.2.1 b o hb)),(fun h=>by cases h),h.1 _ w' ⟨hs.1.put (.s _) hd,fun b o hb=>hK b o hb (hs.2.1 b o hb),hs.2.2.1,hJ⟩⟩
theorem ar_isq {i d:Nat}{op:Op}(h:AR C nt ops Q (.q i ⟨some d,op,ty,pos,after,none⟩::l) env k):AR C nt ops Q (.q i ⟨some d,op,ty,pos,after,none⟩::l) env k:=h
theorem is_load {i d:Nat}{T:TypeId}{x:Operand}(h:AR C nt ops Q (.q i ⟨some d,.load T x,ty,pos,after,none⟩::l) env k):AR C nt ops Q (.q i ⟨some d,.load T x,ty,pos,after,none⟩::l) env k:=h
theorem is_binOp {i d:Nat}{o:BinOp}{T:TypeId}{x y:Operand}{T2:TypeId}(h:AR C nt ops Q (.q i ⟨some d,.binOp o T x y T2,ty,pos,after,none⟩::l) env k):AR C nt ops Q (.q i ⟨some d,.binOp o T x y T2,ty,pos,after,none⟩::l) env k:=h
theorem is_fieldAddr {i d:Nat}{T:TypeId}{x:Operand}{j:Nat}(h:AR C nt ops Q (.q i ⟨some d,.fieldAddr T x j,ty,pos,after,none⟩::l) env k):AR C nt ops Q (.q i ⟨some d,.fieldAddr T x j,ty,pos,after,none⟩::l) env k:=h
theorem is_indexAddr {i d:Nat}{T:TypeId}{x y:Operand}(h:AR C nt ops Q (.q i ⟨some d,.indexAddr T x y,ty,pos,after,none⟩::l) env k):AR C nt ops Q (.q i ⟨some d,.indexAddr T x y,ty,pos,after,none⟩::l) env k:=h
theorem is_call {i d:Nat}{c:Call}(h:AR C nt ops Q (.q i ⟨some d,.call c,ty,pos,after,none⟩::l) env k):AR C nt ops Q (.q i ⟨some d,.call c,ty,pos,after,none⟩::l) env k:=h
theorem is_pick {i d:Nat}{c x y:Operand}(h:AR C nt ops Q (.q i ⟨some d,.pick c x y,ty,pos,after,none⟩::l) env k):AR C nt ops Q (.q i ⟨some d,.pick c x y,ty,pos,after,none⟩::l) env k:=h
theorem loop_next {N j:Nat}{E:Env}(h1:j<N) (h2:k=j+1) (h3:Has env E):thenP (fun env' k'=>j<N∧k'=j+1∧Has env' E) Q .normal env k:=⟨h1,h2,h3⟩
end
def EndQ (N:Nat):Post
  | .normal,_,k=>k=N
  | .ret,_,k=>k=N
  | _,_,_=>False
theorem iter_of_aw {P:Program}{gf:FuncId}{fn:Func}{c:Code}{vs:List V}{N:Nat}{el:Nat→List Value}(hf:P.funcs[gf]?=some fn) (hb:fn.body=some c) (hn:vs.length+1≤fn.ntmps) (hres:fn.results=#[])
    (h:∀ C:Cx P,C.N=N→C.el=el→AW C fn.ntmps c (EndQ N) (argEnv (.s (.func (.yield C.l) #[] #[])::vs) 0) 0):Iter P gf vs N el:=by
  refine ⟨fun I us l J W hI hv _ hY h0=>?_⟩
  refine callsIn_wide.2 ((callsIn_wide (n:=0)).1 (callsIn_of_wp hf hb trivial ?_ rfl))
  have hrel:VRels I [] (.s (.func (.yield l) #[] #[])::vs) (#[.func (.yield l) #[] #[]]++us):=by
    refine ⟨by simp [hv.1];omega,fun j v u hj hu=>?_⟩
    cases j with
    | zero =>
      rw [Array.getElem?_append_left (by simp)] at hu
      simp at hj hu;subst hj hu;exact .s _
    | succ j =>
      rw [List.getElem?_cons_succ] at hj
      rw [Array.getElem?_append_right (by simp)] at hu
      exact hv.2 j v u hj (by simpa using hu)
  have h1:=(h ⟨l,I,J,N,el,hY⟩ rfl rfl).1 _ W ⟨argEnv_ok hrel (by rw [hrel.1];simpa using hn),hI,rfl,h0⟩
  refine wpIn_mono h1 fun e a' w' hl=>?_
  have hr:(results fn a'.tmps).run P w'=.ok (.tuple #[]) w':=by
    unfold results
    rw [hres]
    simp
  cases e with
  | normal=>obtain ⟨_,k,hs,rfl⟩:=hl;exact ⟨hs.2.2.1,_,hr,⟨_,rfl⟩,hs.2.2.2⟩
  | ret=>obtain ⟨_,k,hs,rfl⟩:=hl;exact ⟨hs.2.2.1,_,hr,⟨_,rfl⟩,hs.2.2.2⟩
  | exit id=>obtain ⟨_,_,_,h⟩:=hl;exact h.elim
  | goto id=>obtain ⟨_,_,_,h⟩:=hl;exact h.elim
  | panic ch=>exact hl.elim
  | outgrown=>exact hl.elim
end Go.Proofs.YtloaefllpokkaaaGreat.It
namespace Go.Proofs.YtloaefllpokkaaaGreat
open Go.RowKit
section
variable {P:Program}{r:Option Nat}{m nt:Nat}{Q:Post}{env:Env}{H:Heap}{ops:Array Oper}{l:List Stp}{t:Nat}{v v':V}
theorem EnvOk.re {I:Imm}{ρ:List (Option (Nat × Nat))}{a:Act}(he:EnvOk I ρ nt env a) (h:look env t=some v) (e:v=v'):EnvOk I ρ nt ((t,v')::env) a:=by
  subst e
  refine ⟨he.1,fun t' x hx=>?_⟩
  rw [look_cons] at hx
  split at hx
  · rename_i e;subst e;cases hx;exact he.2 t v h
  · exact he.2 t' x hx
theorem ar_re (h:look env t=some v) (e:v=v') (hk:AR P r m nt ops Q l ((t,v')::env) H):AR P r m nt ops Q l env H:=.mk fun X I ρ a w hX hs=>hk.1 X I ρ a w hX ⟨hs.1.re h e,hs.2⟩
end
section
variable {H:Heap}{σ:List (Option Nat)}{fr:Nat→Prop}{f:Fn}{a b a' b':V}
theorem fn2_sub (ha:VSub H σ fr a a') (hb:VSub H σ fr b b'):VSub H σ fr (.fn f [] [a,b]) (.fn f [] [a',b']) :=
  .fn rfl (fun j v x h _=>by simp at h) rfl fun j v x h h'=>match j,h,h' with
    | 0,h,h'=>by cases h;cases h';exact ha
    | 1,h,h'=>by cases h;cases h';exact hb
    | j+2,h,_=>by simp at h
end
def idxF (p:Int→Bool) (l:List Int):Int:=match (List.range l.length).find? (fun i=>p (el l i)) with|some i=>(i:Int)|none=>-1
theorem idxF_at {p:Int→Bool}{l:List Int}{i:Nat}(hi:i<l.length) (h0:∀ j,j<i→p (el l j)=false) (h:p (el l i)=true):idxF p l=i:=by
  have:(List.range l.length).find? (fun i=>p (el l i))=some i:=by
    rw [List.find?_range_eq_some]
    exact ⟨h,by simpa using hi,fun j hj=>by simp [h0 j hj]⟩
  unfold idxF
  rw [this]
theorem idxF_none {p:Int→Bool}{l:List Int}(h0:∀ j,j<l.length→p (el l j)=false):idxF p l=-1:=by
  have:(List.range l.length).find? (fun i=>p (el l i))=none:=by
    rw [List.find?_eq_none]
    intro j hj
    rw [List.mem_range] at hj
    simp [h0 j hj]
  unfold idxF
  rw [this]
theorem idxF_any (p:Int→Bool) (l:List Int):decide (0≤idxF p l)=l.any p:=by
  cases h:l.any p
  · rw [List.any_eq_false] at h
    rw [idxF_none fun j hj=>by simpa using h _ (el_mem hj)]
    rfl
  · rw [List.any_eq_true] at h
    obtain ⟨x,hx,hp⟩:=h
    obtain ⟨i,hi,rfl⟩:=mem_el hx
    unfold idxF
    split
    · simp
    · rename_i h0
      rw [List.find?_eq_none] at h0
      have:=h0 i (by simpa using hi)
      simp [hp] at this
def fromB (lo hi:Int) (l:List Int):Bool:=l.all fun n=>withinB n lo hi
def outB (lo hi n:Int):Bool:=decide (n<lo)||decide (hi<n)
theorem any_out (lo hi:Int) (l:List Int):(!l.any (outB lo hi))=fromB lo hi l:=by
  induction l with
  | nil=>rfl
  | cons x l ih =>
    simp only [List.any_cons,Bool.not_or,fromB,List.all_cons] at *
    rw [ih]
    congr 1
    simp only [outB,withinB]
    grind
theorem indexInts_p (l:List Int) {g:FuncId}{cap:List V}(hfn:FnOk Tryz.prog g) (hcap:V.closed.all cap=true) (p:Int→Bool) (hc:∀ x,x∈l→PCalls Tryz.prog g (vi x::cap) (·=vb (p x))) :
    PCalls Tryz.prog 84 [encInts l,.fn (.func g) [] cap] (·=vi (idxF p l)):=by
  (refine pcalls_know (fun I us h=>rel_len (rel_arg h (j:=0) rfl)) fun hlen0=>?_)
  refine pcalls_of_aw Tryz.func84 rfl (dc rfl) ?_
  (repeat' (first|(refine ar_isq ?_;refine zq ?_)|refine zst ?_|refine zco ?_ ?_|exact zd|(refine fun (hg:(_:Prop))=>?_;(try replace hg:=HG.out hg);(try dsimp only at hg);(try (have _h:True:=hg;clear _h hg)))))
  refine aw_for l.length (fun k=>∀ j,j<k→p (el l j)=false) (fun k=>[(0,encInts l),(1,.fn (.func g) [] cap),(7,vi l.length),(8,vi k)]) (fun _=>[]) (fun j hj=>by omega) ?_ ?_
  · (exact zsb [] [])
  intro k hk hJ
  by_cases hkn:k<l.length
  · (repeat' (first|(refine ar_isq ?_;refine zq ?_)|(refine ar_pcall (own:=false) hfn rfl rfl (args_closed hcap) (hc _ (el_mem hkn)) (by simp) (dc rfl) ?_;intro _ hv;subst hv)|refine zst ?_|refine zco ?_ ?_|exact zd|(refine fun (hg:(_:Prop))=>?_;(try replace hg:=HG.out hg);(try dsimp only at hg);(try (have _h:True:=hg;clear _h hg)))))
    all_goals first
      | (exfalso;omega)
      | ((first|refine loop_next (by omega) ?_ ?_|refine (show _∧_∧SubOf _ _ _ _ _ _ from And.intro (by omega) (And.intro ?_ ?_)));(focus ((exact all_step hJ (by assumption));done));(focus (exact zsb [] [])))
      | ((refine aw_ret ?_;(repeat (first|refine ret_then ?_|refine ret_block ?_));refine bq1 rfl ⟨?_,rfl⟩);rw [idxF_at hkn hJ (by assumption)];try rfl)
  · (repeat' (first|(refine ar_isq ?_;refine zq ?_)|refine zst ?_|refine zco ?_ ?_|exact zd|(refine fun (hg:(_:Prop))=>?_;(try replace hg:=HG.out hg);(try dsimp only at hg);(try (have _h:True:=hg;clear _h hg)))))
    all_goals first
      | (exfalso;omega)
      | ((refine aw_ret ?_;(repeat (first|refine ret_then ?_|refine ret_block ?_));refine bq1 rfl ⟨?_,rfl⟩);rw [idxF_none (fun j hj=>hJ j (by omega))];try rfl)
theorem containsInts_p (l:List Int) {g:FuncId}{cap:List V}(hfn:FnOk Tryz.prog g) (hcap:V.closed.all cap=true) (p:Int→Bool) (hc:∀ x,x∈l→PCalls Tryz.prog g (vi x::cap) (·=vb (p x))) :
    PCalls Tryz.prog 50 [encInts l,.fn (.func g) [] cap] (·=vb (l.any p)):=by
  refine pcalls_of_aw Tryz.func50 rfl (dc rfl) ?_
  (repeat' (first|(refine ar_isq ?_;refine zq ?_)|(refine ar_pcall (own:=false) fn84 rfl rfl (.cons (.closed rfl) (.cons (.closed hcap) .nil)) (indexInts_p l hfn hcap p hc) (by simp) (dc rfl) ?_;intro _ hv;subst hv)|refine zst ?_|refine zco ?_ ?_|exact zd|(refine fun (hg:(_:Prop))=>?_;(try replace hg:=HG.out hg);(try dsimp only at hg);(try (have _h:True:=hg;clear _h hg)))))
  (refine aw_ret ?_;(repeat (first|refine ret_then ?_|refine ret_block ?_));refine bq1 rfl ⟨?_,rfl⟩)
  rw [← idxF_any]
  rfl
theorem fromF_p (lo hi n:Int):PCalls Tryz.prog 80 [vi n,.ref (vi lo) 0,.ref (vi hi) 0] (·=vb (outB lo hi n)):=by
  refine pcalls_of_aw Tryz.func80 rfl (dc rfl) ?_
  (repeat' (first|(refine ar_isq ?_;refine zq ?_)|refine zg ?_ ?_|refine zgu ?_|refine zst ?_|refine zco ?_ ?_|exact zd|(refine fun (hg:(_:Prop))=>?_;(try replace hg:=HG.out hg);(try dsimp only at hg);(try (have _h:True:=hg;clear _h hg)))))
  all_goals (refine aw_ret ?_;(repeat (first|refine ret_then ?_|refine ret_block ?_));refine bq1 rfl ⟨?_,rfl⟩)
  all_goals (simp only [vb,constV,outB];congr 2;simp;try omega)
theorem from_p (lo hi:Int) (l:List Int):PCalls Tryz.prog 47 [vi lo,vi hi,encInts l] (·=vb (fromB lo hi l)):=by
  refine pcalls_of_aw Tryz.func47 rfl (dc rfl) ?_
  ((repeat refine aw_seq ?_);(first|(refine aw_region ?_));(repeat' (first|(refine ar_isq ?_;refine zq ?_)|refine zsr ?_)))
  (refine aw_mono_r (env':=[(0,vi lo),(1,vi hi),(2,encInts l),(3,.ref (vi lo) 0),(4,.ref (vi hi) 0)]) (H':=[]) ?_ ?_;(focus (exact zsb [] [0,1])))
  (repeat' (first|(refine ar_isq ?_;refine zq ?_)|(refine zpv fn50 (containsInts_p l fn80 rfl _ (fun x _=>fromF_p lo hi x)) ?_)|refine zst ?_|refine zco ?_ ?_|exact zd|(refine fun (hg:(_:Prop))=>?_;(try replace hg:=HG.out hg);(try dsimp only at hg);(try (have _h:True:=hg;clear _h hg)))))
  (refine aw_ret ?_;(repeat (first|refine ret_then ?_|refine ret_block ?_));refine bq1 rfl ⟨?_,rfl⟩)
  rw [← any_out]
  rfl
end Go.Proofs.YtloaefllpokkaaaGreat
namespace Go.Proofs.YtloaefllpokkaaaGreat
open Go.ChangeShapes Go.WideShapes Go.ChangeAt Go.RowKit Go.Deep
theorem own_knob:ownKnob Tryz.prog.godebug=none:=by kernel_rfl
theorem laid_out:laidOutB Tryz.prog=true:=by kernel_rfl
def snap (w:World):Imm:=fun b=>w.heap[b]?
def CellsAre (I:Imm) (v:V) (cs:List Value):Prop:=v.cells.length=cs.length∧∀ (j:Nat) x u,v.cells[j]?=some x→cs[j]?=some u→VRel I [] x u
structure ReadsV (P:Program) (t:TypeId) {α:Type} (e:α→V) (ok:α→Prop) (sz:Nat):Prop where
  cells:P.cellsOf t=sz
  pos:0<sz
  read:∀ {H:Type} {enc:TypeId × Value→H} {w:World} {base:Nat} {spare:Nat→Bool} {held:Bool} {fuel:Nat} {cs:List Value} {x:DataW H × List MemPlace},
    DataW.trod enc P w base spare held fuel t cs=some x→∃ a:α,ok a∧cs.length=sz∧CellsAre (snap w) (e a) cs
def i64ok (n:Int):Prop:=-9223372036854775808≤n∧n≤9223372036854775807
theorem rv_int {P:Program}{t:TypeId}(ht:P.underlying t=some (.int .i64)) (hc:P.cellsOf t=1):ReadsV P t vi i64ok 1 :=
  ⟨hc,by omega,fun h=>by
    obtain ⟨n,rfl,_,hw⟩:=DataW.trod_int ht h
    exact ⟨n,bounds_i64 hw,rfl,rfl,fun j x u hx hu=>by
      cases j with
      | zero=>simp [cells_vi] at hx hu;subst hx hu;exact .s _
      | succ j=>simp at hu⟩⟩
theorem cell_block {w:World}{b i:Nat}{sp:Option Nat}{v:Value}(h:w.cell? ⟨b,i,sp⟩=some v):∃ cs ty fz,w.heap[b]?=some (.cells cs ty fz)∧cs[i]?=some v:=by
  unfold World.cell? at h
  simp only at h
  split at h
  · rename_i c ty fz hb
    split at h
    · cases h
    · exact ⟨c,ty,fz,hb,h⟩
  · cases h
theorem add_none (b off n:Nat):(⟨b,off,none⟩:Addr).add n=⟨b,off+n,none⟩:=by
  unfold Addr.add
  split
  · rename_i h;subst h;rfl
  · rfl
theorem read_list {α:Type}[Inhabited α] {P:Program}{t e:TypeId}{ea:α→V}{ok:α→Prop}{sz:Nat}(ht:P.underlying t=some (.slice e)) (R:ReadsV P e ea ok sz)
    {H:Type} {enc:TypeId × Value→H} {w:World} {base:Nat} {spare:Nat→Bool} {held:Bool} {fuel:Nat} {cs:List Value} {x:DataW H × List MemPlace}
    (h:DataW.trod enc P w base spare held fuel t cs=some x):∃ (l:List α) (u:Value),(∀ y,y∈l→ok y)∧cs=[u]∧VRel (snap w) [] (LV sz ea l) u:=by
  rcases open_slice ht h with ⟨rfl,_⟩|⟨a,len,cap,m,n,D,Pl,rfl,_,hl,hc,hm,_,hi⟩
  · exact ⟨[],_,(fun y hy=>by cases hy),rfl,VRel.none_list none⟩
  · have hml:len≤m:=by rw [hm];split<;>omega
    have hex:∀ i:Fin len,∃ y:α,∃ cs',w.cells? base (a.add (i*P.cellsOf e)) (P.cellsOf e)=some cs'∧ok y∧cs'.length=sz∧CellsAre (snap w) (ea y) cs':=fun i=>by
      obtain ⟨cs',h1,h2⟩:=hi i (by omega)
      obtain ⟨y,hy⟩:=R.read h2
      exact ⟨y,cs',h1,hy⟩
    obtain ⟨f,hf⟩:=Classical.skolem.1 hex
    obtain ⟨g,hg⟩:=Classical.skolem.1 hf
    have hel:∀ i (hi:i<len),el (List.ofFn f) i=f ⟨i,hi⟩:=fun i hi=>by rw [el_eq (by simpa using hi)];simp
    refine ⟨List.ofFn f,_,fun y hy=>?_,rfl,?_⟩
    · obtain ⟨k,hk,rfl⟩:=mem_el hy
      rw [hel k (by simpa using hk)]
      exact (hg _).2.1
    obtain ⟨b,off,sp⟩:=a
    have hspot:0<len→sp=none:=fun h0=>by
      obtain ⟨h1,_,h3,_⟩:=hg ⟨0,h0⟩
      obtain ⟨_,hcl,hat⟩:=World.cells?_some h1
      have hpos:=R.pos
      have h5:=hat 0 (by rw [R.cells];exact hpos)
      rw [List.getElem?_eq_getElem (by omega)] at h5
      simpa [Addr.add] using World.cell?_spot h5
    have hcell:∀ (i:Nat) (hi:i<len) (j:Nat),j<sz→∃ cs' ty fz,w.heap[b]?=some (.cells cs' ty fz)∧sp=none∧cs'[off+i*sz+j]?=some ((g ⟨i,hi⟩).getD j undef):=by
      intro i hi j hj
      obtain ⟨h1,_,h3,_⟩:=hg ⟨i,hi⟩
      obtain ⟨_,hcl,hat⟩:=World.cells?_some h1
      have hu:(g ⟨i,hi⟩)[j]?=some ((g ⟨i,hi⟩).getD j undef):=by simp [show j<(g ⟨i,hi⟩).length by omega]
      have h5:=hat j (by rw [R.cells];exact hj)
      rw [hu] at h5
      have hsp:sp=none:=hspot (by omega)
      subst hsp
      rw [add_none,add_none,R.cells] at h5
      obtain ⟨cs',ty,fz,h6,h7⟩:=cell_block h5
      exact ⟨cs',ty,fz,h6,rfl,h7⟩
    have hsz:∀ i (hi:i<len),(ea (el (List.ofFn f) i)).cells.length=sz:=fun i hi=>by
      rw [hel i hi]
      obtain ⟨_,_,h3,h4⟩:=hg ⟨i,hi⟩
      rw [h4.1,h3]
    have hlen:(List.ofFn f).length=len:=by simp
    show VRel (snap w) [] (.list sz (List.ofFn f).length fun i=>ea (el (List.ofFn f) i)) _
    rw [hlen]
    refine .list (us:=fun i j=>if hi:i<len then (g ⟨i,hi⟩).getD j undef else undef) hl (by first|exact hc|(have h:cap≤2 ^ 63-1:=hc;show cap≤maxLen;unfold maxLen;omega)) (fun h0=>?_) (fun i hi=>hsz i hi) (fun i j v hi hj=>?_)
    · obtain ⟨cs',ty,fz,h6,rfl,_⟩:=hcell 0 h0 0 R.pos
      refine ⟨b,off,rfl,fun i hi=>⟨cs',ty,fz,h6,fun j hj=>?_⟩⟩
      obtain ⟨cs2,ty2,fz2,h8,_,h9⟩:=hcell i hi j hj
      rw [h6] at h8
      cases h8
      simpa [hi] using h9
    · obtain ⟨_,_,h3,h4⟩:=hg ⟨i,hi⟩
      have hj2:=(List.getElem?_eq_some_iff.1 hj).1
      rw [hsz i hi] at hj2
      rw [hel i hi] at hj
      have:=h4.2 j v ((g ⟨i,hi⟩).getD j undef) hj (by simp [show j<(g ⟨i,hi⟩).length by omega])
      simpa [hi] using this
theorem rv_list {α:Type}[Inhabited α] {P:Program}{t e:TypeId}{ea:α→V}{ok:α→Prop}{sz:Nat}(ht:P.underlying t=some (.slice e)) (hc:P.cellsOf t=1) (R:ReadsV P e ea ok sz):ReadsV P t (LV sz ea) (fun l=>∀ y,y∈l→ok y) 1 :=
  ⟨hc,by omega,fun h=>by
    obtain ⟨l,u,h1,rfl,h2⟩:=read_list ht R h
    exact ⟨l,h1,rfl,rfl,fun j x u' hx hu=>by
      cases j with
      | zero=>simp [LV_cells] at hx hu;subst hx hu;exact h2
      | succ j=>simp at hu⟩⟩
section
variable {P:Program}{H:Type}{enc:TypeId × Value→H}{w:World}{base:Nat}{spare:Nat→Bool}{held:Bool}{r:Reach}{b0:Nat}{v:Value}{d:DataW H}{p:List MemPlace}{t e:TypeId}
theorem arg_int (ht:P.underlying t=some (.int .i64)) (hv:Value.okWide P w r b0 t v) (h:DataW.Trod enc P w base spare held t v d p):∃ n:Int,i64ok n∧VRel (snap w) [] (vi n) v:=by
  obtain ⟨n,rfl,_,_,hw⟩:=open_int ht hv h
  exact ⟨n,bounds_i64 hw,.s _⟩
theorem arg_struct {α:Type}{ea:α→V}{ok:α→Prop}{sz:Nat}{fs:Array Field}(ht:P.underlying t=some (.struct fs)) (R:ReadsV P t ea ok sz) (hagg:∀ a,ea a=.agg (ea a).cells) (hv:Value.okWide P w r b0 t v) (h:DataW.Trod enc P w base spare held t v d p):∃ a:α,ok a∧VRel (snap w) [] (ea a) v:=by
  obtain ⟨cs,rfl,_⟩:=okWide_struct ht hv
  obtain ⟨fuel,hf⟩:=h
  obtain ⟨a,h1,h2,h3⟩:=R.read (by simpa [Value.cells] using hf)
  refine ⟨a,h1,?_⟩
  rw [hagg a]
  exact .agg (by rw [h3.1];simp) fun j x u hx hu=>h3.2 j x u hx (by simpa using hu)
theorem rels_nil {I:Imm}:VRels I [] [] #[]:=⟨rfl,fun j v u h=>by simp at h⟩
theorem rels_cons {I:Imm}{x:V}{u:Value}{vs:List V}{us:List Value}(h:VRel I [] x u) (k:VRels I [] vs us.toArray):VRels I [] (x::vs) (u::us).toArray:=by
  refine ⟨by have:=k.1;simpa using this,fun j v y hj hu=>?_⟩
  cases j with
  | zero=>simp at hj hu;subst hj hu;exact h
  | succ j=>exact k.2 j v y (by simpa using hj) (by simpa using hu)
end
theorem struct_part {P:Program}{t:TypeId}{fs:Array Field}(ht:P.underlying t=some (.struct fs))
    {H:Type} {enc:TypeId × Value→H} {w:World} {base:Nat} {spare:Nat→Bool} {held:Bool} {fuel:Nat} {cs:List Value} {x:DataW H × List MemPlace}
    (h:DataW.trod enc P w base spare held fuel t cs=some x) {α:Type} {ea:α→V} {ok:α→Prop} {sz:Nat} (i:Nat) {f:Field} (hfi:fs[i]?=some f) (R:ReadsV P f.type ea ok sz) :
    ∃ a:α,ok a∧((cs.drop f.offset).take sz).length=sz∧CellsAre (snap w) (ea a) ((cs.drop f.offset).take sz):=by
  obtain ⟨xs,n,_,_,_,hxl,hg⟩:=DataW.trod_struct ht h
  have h3:=hg i f hfi
  have hi:i<fs.size:=(Array.getElem?_eq_some_iff.1 hfi).1
  obtain ⟨a,h1,h2,h4⟩:=R.read (h3.trans (List.getElem?_eq_getElem (by omega)))
  rw [R.cells] at h2 h4
  exact ⟨a,h1,h2,h4⟩
theorem struct_len {P:Program}{t:TypeId}{fs:Array Field}(ht:P.underlying t=some (.struct fs))
    {H:Type} {enc:TypeId × Value→H} {w:World} {base:Nat} {spare:Nat→Bool} {held:Bool} {fuel:Nat} {cs:List Value} {x:DataW H × List MemPlace}
    (h:DataW.trod enc P w base spare held fuel t cs=some x):cs.length=P.cellsOf t:=by
  obtain ⟨_,_,_,_,hlen,_,_⟩:=DataW.trod_struct ht h
  exact hlen
theorem cells_one {I:Imm}{v:V}{cs:List Value}{o:Nat}{u:Value}(h:CellsAre I v ((cs.drop o).take 1)) (hv:v.cells=[v]) (hu:cs[o]?=some u):VRel I [] v u :=
  h.2 0 v u (by rw [hv];rfl) (by simp [hu])
end Go.Proofs.YtloaefllpokkaaaGreat
namespace Go.Proofs.YtloaefllpokkaaaGreat
open Go.ChangeShapes Go.WideShapes Go.ChangeAt Go.RowKit Go.Deep
structure Screen where
  period:Int
  phase:Int
def Screen.enc (s:Screen):V:=.agg [vi s.period,vi s.phase]
theorem rv_Int:ReadsV Tryz.prog 3 vi i64ok 1:=rv_int Tryz.underlying3 (by kernel_rfl)
theorem rv_ints:ReadsV Tryz.prog 22 (LV 1 vi) (fun l=>∀ y,y∈l→i64ok y) 1:=rv_list Tryz.underlying22 (by kernel_rfl) rv_Int
set_option maxRecDepth 100000 in
theorem rv_sheet:ReadsV Tryz.prog 26 Sheet.enc (fun s=>i64ok s.cols∧i64ok s.rows∧i64ok s.weight∧i64ok s.clear∧i64ok s.lean) 5 :=
  ⟨by kernel_rfl,by omega,fun {_ _ _ _ _ _ _ cs _} h=>by
    have hlen:=struct_len Tryz.underlying26 h
    rw [show Tryz.prog.cellsOf 26=5 by kernel_rfl] at hlen
    obtain ⟨k0,o0,l0,e0⟩:=struct_part Tryz.underlying26 h 0 rfl rv_Int
    obtain ⟨k1,o1,l1,e1⟩:=struct_part Tryz.underlying26 h 1 rfl rv_Int
    obtain ⟨k2,o2,l2,e2⟩:=struct_part Tryz.underlying26 h 2 rfl rv_Int
    obtain ⟨k3,o3,l3,e3⟩:=struct_part Tryz.underlying26 h 3 rfl rv_Int
    obtain ⟨k4,o4,l4,e4⟩:=struct_part Tryz.underlying26 h 4 rfl rv_Int
    refine ⟨⟨k0,k1,k2,k3,k4⟩,⟨o0,o1,o2,o3,o4⟩,hlen,hlen.symm,fun j x u hx hu=>?_⟩
    match j,hx with
    | 0,hx=>cases hx;exact cells_one e0 rfl hu
    | 1,hx=>cases hx;exact cells_one e1 rfl hu
    | 2,hx=>cases hx;exact cells_one e2 rfl hu
    | 3,hx=>cases hx;exact cells_one e3 rfl hu
    | 4,hx=>cases hx;exact cells_one e4 rfl hu
    | j+5,hx=>simp [Sheet.enc,cells_agg] at hx⟩
section
variable {H:Type}{enc:TypeId × Value→H}{w:World}{base:Nat}{spare:Nat→Bool}{held:Bool}{r:Reach}{b0:Nat}{v:Value}{d:DataW H}{p:List MemPlace}
set_option maxRecDepth 100000 in
theorem arg_sheet (hv:Value.okWide Tryz.prog w r b0 26 v) (h:DataW.Trod enc Tryz.prog w base spare held 26 v d p):∃ s:Sheet,(i64ok s.cols∧i64ok s.rows∧i64ok s.weight∧i64ok s.clear∧i64ok s.lean)∧VRel (snap w) [] s.enc v:=arg_struct Tryz.underlying26 rv_sheet (fun _=>rfl) hv h
end
section
variable {P:Program}{nt:Nat}{Q:Post}{env:Env}{H:Heap}{R Rp:V→Heap→Prop}{a t2 t3:Nat}{v v2 v3:V}
theorem bq3c {T:TypeId}{d:TyD}{sz b i off n:Nat}{f:Nat→V}(hT:TyIs P T d) (ha:look env a=some (.ptr sz b i off)) (hH:H[b]?=some (.arr sz n f)) (hi:i<n) (hv:partV d.tk.agg (f i).cells off d.size=some v)
    (h2:look env t2=some v2) (h3:look env t3=some v3) (hR:R (.tup [v,v2,v3]) H):BodyQ P #[.cell a T,.tmp t2,.tmp t3] R Rp .ret env H :=
  ⟨_,.inr (.inr (.inr (.inl ⟨_,_,_,_,_,_,rfl,⟨d,sz,b,i,off,n,f,hT,ha,hH,hi,hv⟩,h2,h3,rfl⟩))),hR⟩
theorem bq1c {T:TypeId}{d:TyD}{sz b i off n:Nat}{f:Nat→V}(hT:TyIs P T d) (ha:look env a=some (.ptr sz b i off)) (hH:H[b]?=some (.arr sz n f)) (hi:i<n) (hv:partV d.tk.agg (f i).cells off d.size=some v)
    (hR:R v H):BodyQ P #[.cell a T] R Rp .ret env H:=⟨_,.inl ⟨_,rfl,⟨d,sz,b,i,off,n,f,hT,ha,hH,hi,hv⟩⟩,hR⟩
end
structure FCalls (P:Program) (f:FuncId) (args:List V) (sz:Nat) (R:Nat→(Nat→V)→Prop):Prop where
  out:∀ (I:Imm) w us,(∀ b o,I b=some o→w.heap[b]?=some o)→VRels I [] args us→Calls P f us w fun e w'=>∃ n g u I' ρ',R n g∧(∀ i,i<n→V.closed.all (g i).cells=true)∧e=.returned u∧VRel I' ρ' (.sl sz 0 0 n) u∧WOk (Ctx.self w [] [] I) I' ρ' [.arr sz n g] w'
def FreshQ (sz:Nat) (R:Nat→(Nat→V)→Prop) (v:V) (H:Heap):Prop:=∃ n g,v=.sl sz 0 0 n∧H=[.arr sz n g]∧R n g∧∀ i,i<n→V.closed.all (g i).cells=true
theorem fcalls_of_aw {P:Program}{f:FuncId}{fn:Func}{c:Code}{args:List V}{sz:Nat}{R:Nat→(Nat→V)→Prop}(hf:P.funcs[f]?=some fn) (hb:fn.body=some c) (hn:args.length≤fn.ntmps)
    (h:AW P none 0 fn.ntmps c (BodyQ P fn.results (FreshQ sz R) NoP) (argEnv args 0) []):FCalls P f args sz R:=by
  refine ⟨fun I w us hI hv=>?_⟩
  refine ((acalls_of_aw (H:=[]) hf hb hn h).1 (Ctx.self w [] [] I) I [] w us (WOk.begin hI) hv).mono fun e w' ⟨v,u,I',ρ',H',hle,hpre,hw',hr,h2⟩=>?_
  rcases h2 with ⟨rfl,n,g,rfl,rfl,hR,hc⟩|⟨_,hno⟩
  · exact ⟨n,g,u,I',ρ',hR,hc,rfl,hr,hw'⟩
  · exact hno.elim
theorem get_snoc {α:Type}{l:List α}{a x:α}{k:Nat}(h:(l++[a])[k]?=some x):(k<l.length∧l[k]?=some x)∨(k=l.length∧x=a):=by
  rcases Nat.lt_or_ge k l.length with hk|hk
  · exact .inl ⟨hk,by rwa [List.getElem?_append_left hk] at h⟩
  · rw [List.getElem?_append_right hk] at h
    have:k-l.length=0:=by
      have:=(List.getElem?_eq_some_iff.1 h).1
      simp at this
      omega
    rw [this] at h
    simp at h
    exact .inr ⟨by omega,h.symm⟩
theorem WOk.join {X:Ctx}{I J:Imm}{ρ:List (Option (Nat × Nat))}{x:Option (Nat × Nat)}{H:Heap}{w w':World}{sz n:Nat}{g:Nat→V}(hw:WOk X I ρ H w) (k:WOk (Ctx.self w [] [] I) J [x] [.arr sz n g] w') (hc:∀ i,i<n→V.closed.all (g i).cells=true) :
    WOk X J (ρ++[x]) (H++[.arr sz n g]) w':=by
  have hlen:=hw.len
  have old:∀ b,b<w.heap.size→w'.heap[b]?=w.heap[b]?:=fun b hb=>k.keep b hb not_live_nil
  have nw:∀ b z,x=some (b,z)→w.heap.size≤b:=fun b z e=>by
    rcases k.mine b ⟨0,_,rfl,by simp,z,by rw [e];rfl⟩ with h|h
    · exact h
    · exact (not_live_nil h).elim
  have oldLive:∀ i b y (blk:Blk),H[i]?=some blk→blk≠.dead→ρ[i]?=some (some (b,y))→b<w.heap.size:=fun i b y blk h1 h2 h3=>hw.lt ⟨i,blk,h1,h2,y,h3⟩
  have both:∀ (i:Nat) (blk:Blk) (y:Option (Nat × Nat)),(H++[Blk.arr sz n g])[i]?=some blk→(ρ++[x])[i]?=some y→(i<H.length∧H[i]?=some blk∧ρ[i]?=some y)∨(i=H.length∧blk=.arr sz n g∧y=x):=fun i blk y h1 h2=>by
    rcases get_snoc h1 with ⟨a1,a2⟩|⟨a1,a2⟩<;>rcases get_snoc h2 with ⟨b1,b2⟩|⟨b1,b2⟩
    · exact .inl ⟨a1,a2,b2⟩
    · omega
    · omega
    · exact .inr ⟨a1,a2,b2⟩
  exact { len:=by simp [hlen]
          inj:=fun i j b ⟨p,hp,hp'⟩ ⟨q,hq,hq'⟩ y z hy hz=>by
            rcases both i p _ hp hy with ⟨_,a2,a3⟩|⟨a1,_,a3⟩<;>rcases both j q _ hq hz with ⟨_,b2,b3⟩|⟨b1,_,b3⟩
            · exact hw.inj i j b ⟨p,a2,hp'⟩ ⟨q,b2,hq'⟩ y z a3 b3
            · have h1:=oldLive i b y p a2 hp' a3
              have h2:=nw b z b3.symm
              omega
            · have h1:=oldLive j b z q b2 hq' b3
              have h2:=nw b y a3.symm
              omega
            · omega
          imm:=k.imm
          apart:=fun b ⟨i,blk,h1,h2,z,h3⟩=>by
            rcases both i blk _ h1 h3 with ⟨_,a2,a3⟩|⟨_,_,a3⟩
            · have hlt:=oldLive i b z blk a2 h2 a3
              have hI:=hw.apart b ⟨i,blk,a2,h2,z,a3⟩
              cases e:J b with
              | none=>rfl
              | some o =>
                rcases k.news b (by rw [e];simp) with h|h|h
                · exact (h hI).elim
                · have:w.heap.size≤b:=h
                  omega
                · exact (not_live_nil h).elim
            · exact k.apart b ⟨0,_,rfl,by simp,z,by rw [← a3];rfl⟩
          size:=fun i s m f h=>by
            rcases get_snoc h with ⟨_,a2⟩|⟨_,a2⟩
            · exact hw.size i s m f a2
            · cases a2;exact k.size 0 _ _ _ rfl
          none:=fun i s m f h h'=>by
            rcases both i _ _ h h' with ⟨_,a2,a3⟩|⟨_,a2,a3⟩
            · exact hw.none i s m f a2 a3
            · cases a2;exact k.none 0 _ _ _ rfl (by rw [← a3];rfl)
          arr:=fun i s m f b z h h'=>by
            rcases both i _ _ h h' with ⟨_,a2,a3⟩|⟨_,a2,a3⟩
            · exact (hw.arr i s m f b z a2 a3).mono k.le (pre_append _) (old b (oldLive i b z _ a2 (by simp) a3))
            · cases a2
              obtain ⟨cs,ty,h1,h2,h3,h4⟩:=k.arr 0 _ _ _ b z rfl (by rw [← a3];rfl)
              exact ⟨cs,ty,h1,h2,h3,fun i j v hi hv=>by obtain ⟨u,h5,h6⟩:=h4 i j v hi hv;exact ⟨u,h5,(h6.close (closed_all (hc i hi) hv)).closed⟩⟩
          map:=fun i m h=>by
            rcases get_snoc h with ⟨a1,a2⟩|⟨_,a2⟩
            · obtain ⟨b,h1,h2⟩:=hw.map i m a2
              refine ⟨b,?_,h2.mono k.le (pre_append _) (old b (oldLive i b 0 _ a2 (by simp) h1))⟩
              rw [List.getElem?_append_left (by omega)]
              exact h1
            · cases a2
          mine:=fun b ⟨i,blk,h1,h2,z,h3⟩=>by
            rcases both i blk _ h1 h3 with ⟨_,a2,a3⟩|⟨_,_,a3⟩
            · exact hw.mine b ⟨i,blk,a2,h2,z,a3⟩
            · exact .inl (Nat.le_trans hw.grow (nw b z a3.symm))
          news:=fun b hb=>by
            rcases k.news b hb with h|h|h
            · exact hw.news b h
            · exact .inr (.inl (Nat.le_trans hw.grow h))
            · exact (not_live_nil h).elim
          le:=Imm.le_trans hw.le k.le
          pre:=hw.pre.trans (pre_append _)
          os:=k.os.trans hw.os,tape:=k.tape.trans hw.tape,out:=k.out.trans hw.out,grow:=Nat.le_trans hw.grow k.grow
          keep:=fun b hb hl=>(old b (Nat.lt_of_lt_of_le hb hw.grow)).trans (hw.keep b hb hl) }
section
variable {P:Program}{r:Option Nat}{m nt:Nat}{Q:Post}{env:Env}{H:Heap}{ops:Array Oper}{l:List Stp}{dst:Option Tmp}{ty:TypeId}{pos:String}{after:Array Edge}{guard:Option (Nat × Bool)}{keep:Bool}
theorem ls_fcall {fo:Operand}{args:List Operand}{ats:Array TypeId}{f:FuncId}{first cap vs avs:List V}{sz:Nat}{R:Nat→(Nat→V)→Prop}(hfn:FnOk P f) (hf:eo env fo=some (.fn (.func f) first cap)) (hargs:args.mapM (eo env)=some vs)
    (ha:ArgsOk false H (first++vs++cap) avs) (h:FCalls P f avs sz R):LS P r m nt keep env H ⟨dst,.call ⟨.value fo,args.toArray,ats⟩,ty,pos,after,guard⟩ (fun v H'=>∃ n g,R n g∧v=.sl sz H.length 0 n∧H'=H++[.arr sz n g]) NoP:=.mk
  fun X I ρ a w next Qx hX hs hk hp=>by
    have hw:=hs.2.1
    have h1:=eo_rel hs.1 hf
    cases h1':a.eval fo<;>rw [h1'] at h1<;>cases h1
    rename_i us ws e1 e2 e3 e4
    have hrel:VRels I ρ (first++vs++cap) (us++(args.map a.eval).toArray++ws):=(VRels.append ⟨e1,e2⟩ (evals hs.1 hargs)).append ⟨e3,e4⟩
    have hrel':=args_rel (us:=(us++(args.map a.eval).toArray++ws).toList) hw ha (by rw [Array.toArray_toList];exact hrel)
    rw [Array.toArray_toList] at hrel'
    refine wpIn_of_run (by simp) (call_run hfn h1' w) ⟨fun h=>by simp [Fw,Fence.wide] at h,callsIn_fw.2 ?_⟩
    refine (h.1 I w _ hw.imm hrel').mono fun e w' ⟨n,g,u,I',ρ',hR,hc,he,hv,hk'⟩=>?_
    subst he
    obtain ⟨x,rfl⟩:∃ x,ρ'=[x]:=by
      have:=hk'.len
      match ρ',this with
      | [x],_=>exact ⟨x,rfl⟩
    have hx:(ρ++[x])[H.length]?=some x:=by rw [← hw.len];simp
    have hv2:VRel I' (ρ++[x]) (.sl sz H.length 0 n) u:=by
      rcases hv.sl_inv with ⟨cb,z,c,rfl,hρ,h2,h3,h4⟩|⟨A,rfl,hρ,_,rfl⟩
      · exact .sl (by rw [hx];simpa using hρ) h2 h3 h4
      · exact .slNone A (by rw [hx];simpa using hρ)
    exact hk I' (ρ++[x]) _ _ u w' ⟨n,g,hR,rfl,rfl⟩ hk'.le (pre_append _) (hw.join hk' hc) hv2 (fun _ y hy=>by
      have old:∀ b,b<w.heap.size→w'.heap[b]?=w.heap[b]?:=fun b hb=>hk'.keep b hb not_live_nil
      have hlen:=hw.len
      refine ⟨fun b o h1=>hy.1 b o (hk'.le b o h1),fun k s' m f b z h1 h2 o ho=>?_,fun k ms b z h1 h2=>?_⟩
      · have hk1:=(List.getElem?_eq_some_iff.1 h1).1
        exact (hy.2.1 k s' m f b z (by rw [List.getElem?_append_left hk1];exact h1) (by rw [List.getElem?_append_left (by omega)];exact h2) o ho).trans (World.cell?_of_block (a:=⟨b,o,none⟩) (old b (hw.lt ⟨k,_,h1,by simp,z,h2⟩)))
      · have hk1:=(List.getElem?_eq_some_iff.1 h1).1
        exact (hy.2.2 k ms b z (by rw [List.getElem?_append_left hk1];exact h1) (by rw [List.getElem?_append_left (by omega)];exact h2)).trans (old b (hw.lt ⟨k,_,h1,by simp,z,h2⟩)))
theorem ar_fcall {i d:Nat}{fo:Operand}{args:List Operand}{ats:Array TypeId}{f:FuncId}{first cap vs avs:List V}{sz:Nat}{R:Nat→(Nat→V)→Prop}(hfn:FnOk P f) (hf:eo env fo=some (.fn (.func f) first cap)) (hargs:args.mapM (eo env)=some vs)
    (ha:ArgsOk false H (first++vs++cap) avs) (h:FCalls P f avs sz R) (hd:d<nt) (hk:∀ n g,R n g→AR P r m nt ops Q l ((d,.sl sz H.length 0 n)::env) (H++[.arr sz n g])):AR P r m nt ops Q (.l i ⟨some d,.call ⟨.value fo,args.toArray,ats⟩,ty,pos,after,none⟩ keep::l) env H :=
  ar_l (ls_fcall hfn hf hargs ha h) hd (fun v H' ⟨n,g,hR,a,b⟩=>by subst a;subst b;exact hk n g hR) (fun _ _ h=>h.elim)
end
section
variable {P:Program}{r:Option Nat}{m nt:Nat}{Q:Post}{env:Env}{H:Heap}{ops:Array Oper}{l:List Stp}{ty:TypeId}{pos:String}{after:Array Edge}{T E T':TypeId}{d:TyD}{x y:Operand}
theorem ar_eqnil {i e sz n:Nat}{f:Nat→V}(ht:TyIs P T d) (hk:d.tk=.slice E) (hx:eo env x=some (.list sz n f)) (hy:eo env y=some (.s (.slice none 0 0))) (hd:e<nt)
    (h:∀ b:Bool,(b=true→n=0)→AR P r m nt ops Q l ((e,.s (.bool b))::env) H):AR P r m nt ops Q (.q i ⟨some e,.binOp .eql T x y T',ty,pos,after,none⟩::l) env H:=by
  refine ar_q_any (C:=fun v=>∃ b:Bool,v=.s (.bool b)∧(b=true→n=0)) (fun X I ρ a w hE hw=>?_) hd (fun v ⟨b,hv,hb⟩=>by subst hv;exact h b hb)
  obtain ⟨A,c,us,h1,hc,hm,_⟩:=(eo_rel hE hx).list_inv
  refine ⟨_,⟨A.isNone,rfl,fun hn=>?_⟩,_,.s _,fun w' _=>by simp [execOp,h1,sval hE hy,eqGuard,binOp,run_equal_slice_nil w' T E A n c (ht.slice hk)]⟩
  cases A with
  | none=>simp only [capMax] at hm;omega
  | some _=>cases hn
end
section
variable {P:Program}{r:Option Nat}{m nt:Nat}{Q:Post}{env:Env}{H:Heap}{ops:Array Oper}{l:List Stp}{ty:TypeId}{pos:String}{after:Array Edge}{guard:Option (Nat × Bool)}{dst:Option Tmp}{T T2 E:TypeId}{d de:TyD}{x y:Operand}{keep:Bool}
theorem append_zeros_run {w:World}{i:TypeInfo}{z:Value}{n:Nat}(ht:P.underlying T=some (.slice E)) (ht2:P.underlying T2=some (.int .i64)) (hi:P.info? E=some i) (hz:i.zero=some z) (h0:0<n) (hn:n≤1000000) (hby:i.bytes≤1024) (hs:i.size≠0) :
    (Builtin.append_ #[T,T2] ty #[.slice none 0 0,.int .i64 (n:Int)]).run P w =
      .ok (.slice (some ⟨w.heap.size,0,none⟩) n (grownCap w n 0 E)) (w.drew.alloc (.cells (Builtin.zeroCells z.cells n++Builtin.zeroCells z.cells (grownCap w n 0 E-n)) E)):=by
  have hb:n*i.bytes≤1000000*1024:=Nat.mul_le_mul hn hby
  have hfit:=growslice_fits (need:=n) (old:=0) (bytes:=i.bytes) h0 (by omega)
  have hn':¬ (n≤0):=by omega
  have h63':¬ (9223372036854775807<(n:Int)):=by omega
  have h48':¬ (281474976710656<Builtin.nextslicecap n 0*i.bytes):=by omega
  have hwr:IntKind.i64.wrap (n:Int)=n:=wrap64 (by omega)
  have hneg:¬ ((n:Int)<0):=by omega
  have hbig:¬ (281474976710656<(n:Int)*(i.bytes:Int)):=by rw [← Int.natCast_mul];omega
  have hn0:¬ n=0:=by omega
  have hns:¬ n*i.size=0:=Nat.mul_ne_zero hn0 hs
  simp [Builtin.append_,run_underlying ht,run_underlying ht2,sizeOf,typeInfo,zeroValue,hi,hz,asInt,asIntOf,hwr,hneg,hbig,h63',h48',hn0,hns,Question.forced,newRow,grownCap,Builtin.firstCells]
theorem ar_append_zeros {i e n:Nat}{v:Int}(ht:TyIs P T d) (hk:d.tk=.slice E) (ht2:P.underlying T2=some (.int .i64)) (he:TyIs P E de) (hz:de.zero.cells.size=de.size) (hsz:de.size≠0) (hby:de.bytes≤1024) (hx:eo env x=some (.s (.slice none 0 0))) (hy:eo env y=some (.s (.int .i64 v))) (hv:v=(n:Int)) (h0:0<n) (hn:n≤1000000) (hd:e<nt)
    (h:AR P r m nt ops Q l ((e,.sl de.size H.length 0 n)::env) (H++[.arr de.size 0 (fun _=>vnil)])):AR P r m nt ops Q (.l i ⟨some e,.call ⟨.builtin .append,#[x,y],#[T,T2]⟩,ty,pos,after,none⟩ keep::l) env H :=
  ar_l (R:=fun u H'=>u=.sl de.size H.length 0 n∧H'=H++[.arr de.size 0 (fun _=>vnil)]) (Rp:=NoP) (.mk fun X I ρ a w next Qx hX hS hK hp=>by
    obtain ⟨hE,hw,hdf⟩:=hS
    subst hv
    have hu:=sval hE hx
    have hv:=sval hE hy
    obtain ⟨ii,hi,hs1,hby1,hz0⟩:=he.inf
    have hrun:=append_zeros_run (P:=P) (w:=w) (ty:=ty) (ht.slice hk) ht2 hi hz0 h0 hn (by omega) (by omega)
    refine wpIn_of_run (by simp) (res:=.ok (.value (.slice (some ⟨w.heap.size,0,none⟩) n (grownCap w n 0 E))) (w.drew.alloc (.cells (Builtin.zeroCells de.zero.cells n++Builtin.zeroCells de.zero.cells (grownCap w n 0 E-n)) E))) (by simp [execOp,resolve,invoke,builtin,hu,hv,hrun]) ?_
    have hge:=grownCap_ge w n 0 E
    have hcm:=grownCap_le_maxLen w n 0 E (by unfold maxLen;omega)
    have hcs:(Builtin.zeroCells de.zero.cells n++Builtin.zeroCells de.zero.cells (grownCap w n 0 E-n)).size=grownCap w n 0 E*de.size:=by
      rw [Array.size_append,size_zeroCells,size_zeroCells,hz,← Nat.add_mul]
      congr 1
      omega
    have ok:=WOk.alloc (w':=w.drew.alloc (.cells (Builtin.zeroCells de.zero.cells n++Builtin.zeroCells de.zero.cells (grownCap w n 0 E-n)) E)) (ty:=E) (sz:=de.size) (n:=0) (f:=fun _=>vnil) hw.drew (cs:=Builtin.zeroCells de.zero.cells n++Builtin.zeroCells de.zero.cells (grownCap w n 0 E-n)) (by simp) (fun i hi=>by omega) (fun i j v hi=>by omega) rfl rfl rfl rfl
    rw [hcs] at ok
    refine hK I _ _ _ _ _ ⟨rfl,rfl⟩ (Imm.le_refl _) (pre_append _) ok ?_ (fun _=>keeps_alloc hw fun b hb=>Below.heap_alloc w.drew _ b hb)
    have:=VRel.sl (I:=I) (ρ:=ρ++[some (w.heap.size,grownCap w n 0 E*de.size)]) (sz:=de.size) (b:=H.length) (i:=0) (n:=n) (cb:=w.heap.size) (z:=grownCap w n 0 E*de.size) (c:=grownCap w n 0 E) (by rw [← hw.len];simp) (by omega) hcm (by simp)
    simpa using this) hd (fun v H' ⟨a,b⟩=>by subst a;subst b;exact h) (fun _ _ h=>h.elim)
theorem qs_cap_nil {ats:Array TypeId}(ht:TyIs P T d) (hk:d.tk=.slice E) (h0:ats[0]?=some T) (hx:eo env x=some (.s (.slice none 0 0))):QS P nt env H ⟨dst,.call ⟨.builtin .cap,#[x],ats⟩,ty,pos,after,guard⟩ (.s (.int .i64 0)):=.mk
  fun _ I ρ a w h hw=>⟨_,.s _,fun w' _=>by simp [execOp,resolve,invoke,builtin,Builtin.cap_,sval h hx,h0,run_underlying (ht.slice hk),goInt]⟩
theorem qs_slice_nil {hi:Operand}{k:IntKind}(ht:TyIs P T d) (hk:d.tk=.slice E) (he:TyIs P E de) (hx:eo env x=some (.s (.slice none 0 0))) (hh:eo env hi=some (.s (.int k 0))):QS P nt env H ⟨dst,.slice T x none (some hi) none,ty,pos,after,guard⟩ (.s (.slice none 0 0)):=.mk
  fun _ I ρ a w h hw=>⟨_,.s _,fun w' _=>by
    have:=slice_run (P:=P) (w:=w') (A:=none) (n:=0) (cap:=0) (l:=0) (h:=0) (m:=0) (lo:=none) (hi:=some (a.eval hi)) (mx:=none) ht hk he rfl ⟨k,by rw [sval h hh];rfl⟩ rfl (Nat.le_refl _) (Nat.le_refl _) (Nat.le_refl _)
    simp only [execOp,sval h hx,Sem.run_bind,Option.map_some,Option.map_none,this,Result.andThen_ok]
    rfl⟩
end
def enumV:Nat→List V→List (Nat × V)
  | _,[]=>[]
  | k,v::l=>(k,v)::enumV (k+1) l
def flatC:List V→List V
  | []=>[]
  | v::l=>v.cells++flatC l
theorem flatC_get {sz:Nat}:∀ {vs:List V}{i j:Nat}{v:V},(∀ x∈vs,x.cells.length=sz)→i<vs.length→(el vs i).cells[j]?=some v→(flatC vs)[i*sz+j]?=some v
  | [],i,j,v,_,hi,_=>by simp at hi
  | x::l,0,j,v,h,_,hv=>by
    have hj:j<x.cells.length:=(List.getElem?_eq_some_iff.1 hv).1
    simp only [flatC,Nat.zero_mul,Nat.zero_add]
    rw [List.getElem?_append_left hj]
    exact hv
  | x::l,i+1,j,v,h,hi,hv=>by
    have hx:=h x (List.mem_cons_self ..)
    have hh:=flatC_get (vs:=l) (i:=i) (j:=j) (v:=v) (fun y hy=>h y (List.mem_cons_of_mem _ hy)) (by simpa using hi) hv
    simp only [flatC]
    rw [List.getElem?_append_right (by rw [hx,Nat.succ_mul];omega),hx,show (i+1)*sz+j-sz=i*sz+j from (by rw [Nat.succ_mul]<;>omega)]
    exact hh
theorem buildR_enum {sz:Nat}:∀ (vs:List V) (k:Nat) (cs:List V),(∀ v∈vs,v.cells.length=sz∧v.ok=true)→cs.length=(k+vs.length)*sz→BuildR (fun k=>some (k*sz,sz)) cs (enumV k vs) (cs.take (k*sz)++flatC vs)
  | [],k,cs,_,hl=>by
    have:cs.take (k*sz)=cs:=List.take_of_length_le (by rw [hl];simp)
    simp only [flatC,enumV,List.append_nil,this]
    exact .nil
  | v::vs,k,cs,h,hl=>by
    obtain ⟨h1,h2⟩:=h v (List.mem_cons_self ..)
    have h3:k*sz+sz≤cs.length:=by rw [hl,← Nat.succ_mul];exact Nat.mul_le_mul_right _ (by simp only [List.length_cons];omega)
    refine .cons rfl h1 h2 h3 ?_
    have ht:(cs.take (k*sz)).length=k*sz:=by rw [List.length_take];omega
    have ih:=buildR_enum vs (k+1) (cs.take (k*sz)++v.cells++cs.drop (k*sz+sz)) (fun x hx=>h x (List.mem_cons_of_mem _ hx)) (by
      simp only [List.length_append,ht,h1,List.length_drop,hl,List.length_cons]
      rw [show k+1+vs.length=k+(vs.length+1) by omega]
      rw [hl] at h3
      simp only [List.length_cons] at h3
      omega)
    have e:(cs.take (k*sz)++v.cells++cs.drop (k*sz+sz)).take ((k+1)*sz)=cs.take (k*sz)++v.cells:=by
      rw [List.take_append_of_le_length (by rw [List.length_append,ht,h1,Nat.succ_mul];omega),List.take_of_length_le (by rw [List.length_append,ht,h1,Nat.succ_mul];omega)]
    rw [e] at ih
    rw [show cs.take (k*sz)++flatC (v::vs)=cs.take (k*sz)++v.cells++flatC vs by simp [flatC]]
    exact ih
section
variable {P:Program}{r:Option Nat}{m nt:Nat}{Q:Post}{env:Env}{H:Heap}{ops:Array Oper}{l:List Stp}{ty:TypeId}{pos:String}{after:Array Edge}{T E:TypeId}{d de:TyD}{i dst:Nat}{keep:Bool}{α:Type}[Inhabited α]
theorem ar_buildLE {parts:Array (Nat × Operand)}{n:Nat}(e:α→V) (L:List α) (ht:TyIs P T d) (hk:d.tk=.slice E) (he:TyIs P E de) (hz:(constV de.zero).ok=true) (hzs:de.zero.cells.size=de.size) (hpos:0<de.size) (hn:n=L.length) (hb:n*de.size≤16777216)
    (hv:parts.toList.mapM (fun p=>(eo env p.2).map fun v=>(p.1,v))=some (enumV 0 (L.map e))) (hs:∀ x,(e x).cells.length=de.size∧(e x).ok=true) (hd:dst<nt)
    (h:AR P r m nt ops Q l ((dst,.sl de.size H.length 0 L.length)::env) (H++[LB de.size e L])):AR P r m nt ops Q (.l i ⟨some dst,.buildSlice T n parts,ty,pos,after,none⟩ keep::l) env H:=by
  subst hn
  have hall:∀ x∈L.map e,x.cells.length=de.size∧x.ok=true:=fun x hx=>by
    obtain ⟨y,_,rfl⟩:=List.mem_map.1 hx
    exact hs y
  have hB:=buildR_enum (sz:=de.size) (L.map e) 0 ((List.range (L.length*de.size)).map fun j=>((constV de.zero).cells)[j % de.size]!) hall (by simp)
  rw [Nat.zero_mul,List.take_zero,List.nil_append] at hB
  by_cases h0:L.length=0
  · refine ar_buildSlice (fun i=>e (el L i)) ht hk he hz hzs hb hv hB (fun i hi=>by omega) (by rw [h0];unfold maxLen;omega) hd h
  · refine ar_buildSlice (fun i=>e (el L i)) ht hk he hz hzs hb hv hB (fun i hi=>⟨(hs _).1,fun j v hj=>?_⟩) ?_ hd h
    · refine flatC_get (fun x hx=>(hall x hx).1) (by simpa using hi) ?_
      rw [el_map hi]
      exact hj
    · have:=Nat.le_mul_of_pos_right L.length hpos
      unfold maxLen
      omega
end
structure SubK (m nt:Nat) (env:Env) (H:Heap) (env':Env) (H':Heap):Prop where
  out:∀ X I ρ a w,X.ρ.length=m→St X nt env H I ρ a w→∃ I' ρ',I.le I'∧St X nt env' H' I' ρ' a w∧∀ x,Keeps I' ρ' H' w x→Keeps I ρ H w x
theorem SubK.of {m nt:Nat}{env env':Env}{H H':Heap}(h:SubK m nt env H env' H'):SubOf m nt env H env' H':=.mk fun X I ρ a w hX hs=>by
  obtain ⟨I',ρ',h1,h2,_⟩:=h.1 X I ρ a w hX hs
  exact ⟨I',ρ',h1,h2⟩
section
variable {P:Program}{r:Option Nat}{m nt:Nat}{Q:Post}{env env':Env}{H H':Heap}{ops:Array Oper}{l:List Stp}{ty:TypeId}{pos:String}{after:Array Edge}{i dst:Nat}{op:Op}{keep:Bool}
theorem ar_subk_l (hs:SubK m nt env H env' H') (h:AR P r m nt ops Q (.l i ⟨some dst,op,ty,pos,after,none⟩ keep::l) env' H'):AR P r m nt ops Q (.l i ⟨some dst,op,ty,pos,after,none⟩ keep::l) env H:=.mk fun X I ρ a w hX hst=>by
  obtain ⟨I',ρ',_,h2,hk⟩:=hs.1 X I ρ a w hX hst
  have h3:=h.1 X I' ρ' a w hX h2
  refine ⟨fun hw=>?_,fun hw=>by rw [wanted_none rfl] at hw;cases hw⟩
  exact Oper.wpIn_mono (fun a' w' ⟨S',h4,h6,h5⟩=>⟨S',h4,fun e x hx=>hk x (h6 e x hx),h5⟩) (h3.1 hw)
end
theorem sub_frz {m nt t sz b n N:Nat}{env:Env}{H:Heap}{f g:Nat→V}(ht:look env t=some (.sl sz b 0 n)) (hb:H[b]?=some (.arr sz N f)) (hN:n≤N) (hc:∀ k,k<N→V.closed.all (f k).cells=true) (hg:∀ k,k<n→g k=f k) :
    SubK m nt env H ((t,.list sz n g)::env) (H.set b .dead):=.mk fun X I ρ a w _ ⟨hE,hw,hd⟩=>by
  obtain ⟨h1,h2⟩:=hE.2 t _ ht
  have hlt:b<ρ.length:=by rw [hw.len];exact (List.getElem?_eq_some_iff.1 hb).1
  have hg':∀ k,k<n→g k=f (0+k):=fun k hk=>by rw [Nat.zero_add];exact hg k hk
  obtain ⟨x,hx⟩:∃ x,ρ[b]?=some x:=⟨_,List.getElem?_eq_getElem hlt⟩
  cases x with
  | none =>
    refine ⟨I,ρ,Imm.le_refl _,⟨⟨hE.1,fun t' v hv=>?_⟩,hw.kill b,hd⟩,fun y hy=>keeps_kill hy fun cb z h=>by rw [hx] at h;cases h⟩
    rw [look_cons] at hv
    split at hv
    · rename_i e;subst e;cases hv
      exact ⟨h1,h2.lend hw hb (by omega) hc hg' (Imm.le_refl _) (fun cb z o h=>by rw [hx] at h;cases h)⟩
    · exact hE.2 t' v hv
  | some q =>
    obtain ⟨cb,z⟩:=q
    have hL:Live H ρ cb:=⟨b,_,hb,by simp,z,hx⟩
    have hI:=know_le (o:=w.heap[cb]?) (hw.apart cb hL)
    refine ⟨know I cb (w.heap[cb]?),ρ,hI,⟨⟨hE.1,fun t' v hv=>?_⟩,hw.forget hb (by simp) hx,hd.mono hI⟩,fun y hy=>?_⟩
    · rw [look_cons] at hv
      split at hv
      · rename_i e;subst e;cases hv
        exact ⟨h1,h2.lend hw hb (by omega) hc hg' hI (fun cb' z' o h h'=>by rw [hx] at h;cases h;rw [know_at];exact h')⟩
      · obtain ⟨h3,h4⟩:=hE.2 t' v hv
        exact ⟨h3,h4.mono hI (Pre.refl _)⟩
    · obtain ⟨y1,y2,y3⟩:=hy
      refine ⟨fun c o hc=>y1 c o (hI c o hc),fun k sz' n' f' b' z' hk hρ o ho=>?_,fun k mm b' z' hk hρ=>?_⟩
      · by_cases e:k=b
        · subst e
          rw [hx] at hρ
          cases hρ
          obtain ⟨cs,ty,hcs,_⟩:=hw.arr _ _ _ _ _ _ hb hx
          have:=y1 cb _ (by rw [know_at];exact hcs)
          simp [World.cell?,this,hcs]
        · exact y2 k sz' n' f' b' z' (by rw [List.getElem?_set_ne (Ne.symm e)];exact hk) hρ o ho
      · refine y3 k mm b' z' ?_ hρ
        by_cases e:k=b
        · subst e;rw [hb] at hk;cases hk
        · rw [List.getElem?_set_ne (Ne.symm e)];exact hk
theorem sub_frzL {α:Type}[Inhabited α] {m nt t sz b n N:Nat}{env:Env}{H:Heap}{f:Nat→V}(e:α→V) (L:List α) (ht:look env t=some (.sl sz b 0 n)) (hb:H[b]?=some (.arr sz N f)) (hn:n=L.length) (hN:n=N) (hf:∀ k,k<n→e (el L k)=f k) (hc:∀ y,V.closed.all (e y).cells=true) :
    SubK m nt env H ((t,LV sz e L)::env) (H.set b .dead):=by
  subst hn hN
  exact sub_frz ht hb (Nat.le_refl _) (fun k hk=>by rw [← hf k hk];exact hc _) hf
theorem ar_forkL {P:Program}{r:Option Nat}{m nt:Nat}{Q:Post}{env:Env}{H:Heap}{l0:List Oper}{l:List Stp}{ps:List (Nat × Nat)}(h:AR P r m nt l0.toArray Q l env H) (h':AR P r m nt l0.toArray Q (numPlan l0 ps) env H):AR P r m nt l0.toArray Q (.fork ps::l) env H:=ar_fork h h'
theorem hgK {a b:Bool}(h:(a==b)=true):a=b:=by simpa using h
theorem hgK' {a b:Bool}(h:(a==b)=false):¬ a=b:=by simpa using h
theorem hgKN {a b:Bool}(h:(!(a==b))=true):¬ a=b:=by simpa using h
theorem hgKN' {a b:Bool}(h:(!(a==b))=false):a=b:=by simpa using h
instance hgk1 {a b:Bool}:HG ((a==b)=true) (a=b):=⟨hgK⟩
instance hgk2 {a b:Bool}:HG ((a==b)=false) (¬ a=b):=⟨hgK'⟩
instance hgk3 {a b:Bool}:HG ((!(a==b))=true) (¬ a=b):=⟨hgKN⟩
instance hgk4 {a b:Bool}:HG ((!(a==b))=false) (a=b):=⟨hgKN'⟩
instance hgk5 {a b:Bool}:HG ((a==b)=!false) (a=b):=⟨hgK⟩
instance hgk6 {a b:Bool}:HG ((a==b)=!true) (¬ a=b):=⟨hgK'⟩
instance hgk7 {a b:Bool}:HG ((!(a==b))=!false) (¬ a=b):=⟨hgKN⟩
instance hgk8 {a b:Bool}:HG ((!(a==b))=!true) (a=b):=⟨hgKN'⟩
end Go.Proofs.YtloaefllpokkaaaGreat
