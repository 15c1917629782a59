/- Parts of the proof: contracts of functions. No condition. -/
import Derived.Test.YtloaefllpokkaaaGreatKPt10
set_option maxHeartbeats 16000000
set_option linter.unusedSimpArgs false
set_option linter.unusedVariables false
namespace Go.Proofs.YtloaefllpokkaaaGreat.Im
open Go.RowKit
structure Cx (P:Program) where
  l:Nat
  I:Imm
  J:Option Nat→World→Prop
  B:Nat
  N:Nat
  el:Nat→List Value
  stable:∀ k W1 W2 row,J (some k) W1→W1.grownBy W2 row→RowMap B W1 row→J (some k) W2
  round:∀ k W1,J (some k) W1→k<N→YieldAt Fence.wide 0 P l (el k).toArray W1 fun e W'=>((e=.returned (.bool true)∧J (some (k+1)) W')∨(e=.returned (.bool false)∧J none W'))∧KpI I W1 W'∧KpW B W1 W'
abbrev Post:=AE→Env→Heap→Option Nat→Prop
def Own (B:Nat) (ρ:List (Option (Nat × Nat))):Prop:=∀ (j b z:Nat),ρ[j]?=some (some (b,z))→B≤b
def OnlyMap (H:Heap):Prop:=H.length≤1∧∀ blk∈H,∃ m,blk=.map m
theorem only_nil:OnlyMap []:=⟨by simp,fun blk h=>by simp at h⟩
theorem only_map {m:List (Value × V)}:OnlyMap [.map m]:=⟨by simp,fun blk h=>by simp at h;exact ⟨_,h⟩⟩
theorem only_mapE {α:Type}{e:α→V}{l:List (Int × α)}:OnlyMap [mapE e l]:=only_map
section
variable {P:Program}(C:Cx P)
def St (nt:Nat) (env:Env) (H:Heap) (k:Option Nat) (ρ:List (Option (Nat × Nat))) (a:Act) (w:World):Prop:=EnvOk C.I ρ nt env a∧WOk (Ctx.self w ρ H C.I) C.I ρ H w∧Own C.B ρ∧a.defers=[]∧C.J k w∧(k=some 0→H=[]→C.B≤w.heap.size)
def Lift (nt:Nat) (Q:Post):Exit→Act→World→Prop
  | .normal,a,w=>∃ env H k ρ,St C nt env H k ρ a w∧Q .normal env H k
  | .exit id,a,w=>∃ env H k ρ,St C nt env H k ρ a w∧Q (.exit id) env H k
  | .goto l,a,w=>∃ env H k ρ,St C nt env H k ρ a w∧Q (.goto l) env H k
  | .ret,a,w=>∃ env H k ρ,St C nt env H k ρ a w∧Q .ret env H k
  | .panic _,_,_=>False
  | .outgrown,_,_=>False
structure AW (nt:Nat) (c:Code) (Q:Post) (env:Env) (H:Heap) (k:Option Nat):Prop where
  out:∀ ρ a w,St C nt env H k ρ a w→c.wpIn (Fw none) 0 P (Lift C nt Q) a w
structure AR (nt:Nat) (ops:Array Oper) (Q:Post) (l:List Stp) (env:Env) (H:Heap) (k:Option Nat):Prop where
  out:∀ ρ a w,St C nt env H k ρ a w→runP P none ops (Lift C nt Q) l (Keeps C.I ρ H w) a w
end
def thenP (next:Env→Heap→Option Nat→Prop) (Q:Post):Post
  | .normal,env,H,k=>next env H k
  | e,env,H,k=>Q e env H k
def inBlockP (id:Nat) (Q:Post):Post
  | .exit id',env,H,k=>bif Nat.beq id' id then Q .normal env H k else Q (.exit id') env H k
  | e,env,H,k=>Q e env H k
def Has (env:Env):Env→Prop
  | []=>True
  | (t,v)::l=>look env t=some v∧Has env l
theorem has_look {env:Env}:∀ {e:Env}{t:Nat}{v:V},Has env e→look e t=some v→look env t=some v
  | [],_,_,_,h=>by simp [look] at h
  | (k,y)::l,t,v,hs,h=>by
    rw [look_cons] at h
    split at h
    · rename_i e;subst e;cases h;exact hs.1
    · exact has_look hs.2 h
structure LSI (P:Program) (nt:Nat) (env:Env) (H:Heap) (o:Oper) (R:V→Heap→Prop):Prop where
  out:∀ I ρ a w next Qx,EnvOk I ρ nt env a→WOk (Ctx.self w ρ H I) I ρ H w→(∀ ρ' H' v u w',R v H'→Pre ρ ρ'→WOk (Ctx.self w ρ H I) I ρ' H' w'→VRel I ρ' v u→next (a.put o.dst u) w')→o.wpIn (Fw none) 0 P a w next Qx
section
variable {P:Program}{nt:Nat}{env:Env}{H:Heap}{ty:TypeId}{pos:String}{after:Array Edge}{guard:Option (Nat × Bool)}{T K E:TypeId}{d dk de:TyD}{x y z:Operand}{dst:Option Tmp}{α:Type}
theorem lsi_makeMap:LSI P nt env H ⟨dst,.makeMap T none,ty,pos,after,guard⟩ (fun v H'=>v=.map H.length∧H'=H++[.map []]):=.mk
  fun I ρ a w next Qx hE hW hk=>by
    have hw:=hW
    have hnew:(w.alloc (.map #[] 0)).heap[w.heap.size]?=some (.map #[] 0):=(MapKept.heap_alloc w _).1
    have hold:∀ c,c<w.heap.size→(w.alloc (.map #[] 0)).heap[c]?=w.heap[c]?:=(MapKept.heap_alloc w _).2
    have hsz:w.heap.size≤(w.alloc (.map #[] 0)).heap.size:=by
      show _≤(w.heap.push _).size
      rw [Array.size_push]
      exact Nat.le_succ _
    refine wpIn_of_run (res:=.ok (.value (.map (some w.heap.size))) (w.alloc (.map #[] 0))) (by simp) (by simp [execOp,Instr.makeMap,Result.andThen]) ?_
    have hk2:=hw.adoptMap (m:=[]) (fun h=>by have:=hw.lt h;omega) (by
      cases e:I w.heap.size with
      | none=>rfl
      | some o=>have:=(Array.getElem?_eq_some_iff.1 (hw.imm _ o e)).1;omega) (.inl hw.grow) ⟨rfl,born_nil _⟩ (fun i e x h=>by simp at h) hnew (fun c _ h=>hold c h) hsz rfl rfl rfl
    refine hk (ρ++[some (w.heap.size,0)]) _ _ _ _ ⟨rfl,rfl⟩ (pre_append _) hk2 (VRel.map (z:=0) (by rw [← hw.len];simp))
theorem lsi_mapUpdate {b:Nat}{e:α→V}{l:List (Int × α)}{a:Int}{v:α}(ht:TyIs P T d) (hk:d.tk=.map K E) (hK:TyIs P K dk) (hkk:dk.tk=.int .i64) (hx:eo env x=some (.map b)) (hy:eo env y=some (.s (.int .i64 a))) (hz:eo env z=some (e v)) (hH:H[b]?=some (mapE e l)) :
    LSI P nt env H ⟨none,.mapUpdate T x y z,ty,pos,after,guard⟩ (fun _ H'=>H'=H.set b (mapE e (putE l a v))):=.mk
  fun I ρ ac w next Qx hE hW hk'=>by
    have hw:=hW
    obtain ⟨cb,es,clk,h3,h4,h5,h6⟩:=mapE_at hw hH
    have hm:=map_val (eo_rel hE hx) h3
    have ha:=sval hE hy
    have hv:=eo_rel hE hz
    have hfind:=findNow_int a es.toList l 0 (by simpa using h5) (fun j n p hn hp=>(h6 j n p (by simpa using hn) hp).1)
    have hcb:=(Array.getElem?_eq_some_iff.1 h4).1
    cases hi:idxE l a with
    | none =>
      rw [hi] at hfind
      have hres:(execOp ac.eval ⟨none,.mapUpdate T x y z,ty,pos,after,guard⟩).run P w=.ok .skip { w with heap:=w.heap.setIfInBounds cb (.map (es.push { key:=.int .i64 a,val:=ac.eval z,born:=clk }) (clk+1)) }:=by
        simp only [execOp,hm,ha,Instr.mapUpdate,Sem.run_bind,run_underlying (ht.map hk),MapKept.run_getObj_map h4,MapKept.run_checkKey (hK.intk hkk) (intKey a),MapKept.run_findKey (hK.intk hkk) hfind,Result.andThen_ok,Sem.run_pure,MapKept.run_setObj_map _ h4,Option.bind_none]
      refine wpIn_of_run (by simp) hres ?_
      refine hk' ρ _ (.s undef) undef _ rfl (Pre.refl _) (hw.setMap (m':=entsE e (putE l a v)) hH h3 hcb (es:=es.push { key:=.int .i64 a,val:=ac.eval z,born:=clk }) (clock:=clk+1) ⟨by rw [putE_none v hi];simp [entsE,h5],born_push (born_at hw hH h3 h4)⟩ (fun i n p hn hp=>?_)) (.s _)
      rw [putE_none v hi] at hp
      simp only [entsE,List.getElem?_map,Option.map_eq_some_iff] at hp
      obtain ⟨q,hq,rfl⟩:=hp
      rcases get_snoc hq with ⟨h7,h8⟩|⟨h7,h8⟩
      · rw [Array.getElem?_push,if_neg (by omega)] at hn
        exact h6 i n q hn h8
      · rw [Array.getElem?_push,if_pos (by omega)] at hn
        cases hn
        subst h8
        exact ⟨rfl,hv⟩
    | some j =>
      have hlt:=idxE_lt hi
      rw [hi] at hfind
      have hfind':Instr.findNow (.int .i64) (.int .i64 a) es.toList 0=some (some (j,es[j].val)):=by rw [hfind,Option.bind_some,show es.toList[j]?=some es[j] by simp];simp
      have hes:es[j]?=some es[j]:=by simp
      obtain ⟨h7,h8⟩:=h6 j es[j] l[j] hes (by simp [hlt])
      have hkey:l[j].1=a:=by
        have:=idxE_key hi
        rw [List.getElem?_eq_getElem hlt] at this
        simpa using this
      have hstay:∀ w',(Instr.keyThatStays es[j].key (.int .i64 a)).run P w'=.ok (.int .i64 a) w':=fun w'=>by
        rw [h7,hkey]
        exact MapKept.run_keyThatStays (intKey a)
      have hres:(execOp ac.eval ⟨none,.mapUpdate T x y z,ty,pos,after,guard⟩).run P w=.ok .skip { w with heap:=w.heap.setIfInBounds cb (.map (es.modify j fun n=>{ n with key:=.int .i64 a,val:=ac.eval z }) clk) }:=by
        simp only [execOp,hm,ha,Instr.mapUpdate,Sem.run_bind,run_underlying (ht.map hk),MapKept.run_getObj_map h4,MapKept.run_checkKey (hK.intk hkk) (intKey a),MapKept.run_findKey (hK.intk hkk) hfind',Result.andThen_ok,Sem.run_pure,MapKept.run_setObj_map _ h4,hes,Option.map_some,Option.getD_some,hstay]
      refine wpIn_of_run (by simp) hres ?_
      refine hk' ρ _ (.s undef) undef _ rfl (Pre.refl _) (hw.setMap (m':=entsE e (putE l a v)) hH h3 hcb (es:=es.modify j fun n=>{ n with key:=.int .i64 a,val:=ac.eval z }) (clock:=clk) ⟨by rw [putE_some v hi];simp [entsE,h5],born_modify (born_at hw hH h3 h4) fun _=>rfl⟩ (fun i n p hn hp=>?_)) (.s _)
      rw [putE_some v hi] at hp
      rw [entsE,List.getElem?_map,List.getElem?_modify] at hp
      obtain ⟨q0,hq0⟩:∃ q0,l[i]?=some q0:=by
        cases hq:l[i]? with
        | none=>rw [hq] at hp;cases hp
        | some q=>exact ⟨q,rfl⟩
      rw [hq0] at hp
      cases hp
      rw [Array.getElem?_modify] at hn
      by_cases hji:j=i
      · subst hji
        rw [if_pos rfl,hes] at hn
        simp only [Option.map_some,Option.some.injEq] at hn
        subst hn
        have:q0=l[j]:=by rw [List.getElem?_eq_getElem hlt] at hq0;cases hq0;rfl
        subst this
        dsimp only
        rw [if_pos rfl]
        exact ⟨by rw [hkey],hv⟩
      · rw [if_neg hji] at hn
        dsimp only
        rw [if_neg hji]
        exact h6 i n q0 hn hq0
end
theorem grown_of {w w':World}{B:Nat}{I I':Imm}{ρ ρ':List (Option (Nat × Nat))}{H H':Heap}(hw:WOk (Ctx.self w ρ H I) I ρ H w) (h:WOk (Ctx.self w ρ H I) I' ρ' H' w') (o1:Own B ρ) (hM:OnlyMap H):∃ row,w.grownBy w' row∧RowMap B w row:=by
  obtain ⟨o2,o3⟩:=hM
  match H,o2 with
  | [],_=>exact ⟨none,⟨h.os,h.tape,h.out,h.grow,fun k hk _=>h.keep k hk fun ⟨j,blk,h1,_⟩=>by simp [Ctx.self] at h1⟩,fun r e=>by cases e⟩
  | [b],_ =>
    obtain ⟨m,rfl⟩:=o3 b (by simp)
    obtain ⟨cb,h1,es,clk,h2,_⟩:=hw.map 0 m rfl
    refine ⟨some cb,⟨h.os,h.tape,h.out,h.grow,fun k hk hne=>h.keep k hk fun ⟨j,blk,h3,_,z,h4⟩=>?_⟩,fun r e=>?_⟩
    · have hj:j=0:=by
        have:j<[Blk.map m].length:=(List.getElem?_eq_some_iff.1 h3).1
        simp at this;exact this
      subst hj
      have h4:ρ[0]?=some (some (k,z)):=h4
      rw [h1] at h4;cases h4
      exact hne rfl
    · cases e
      exact ⟨o1 0 cb 0 h1,es,clk,h2⟩
  | _::_::_,h=>simp at h
section
variable {P:Program}{C:Cx P}{nt:Nat}{Q Q':Post}{env env':Env}{H H':Heap}{k:Option Nat}{ops:Array Oper}{l:List Stp}{dst:Nat}{ty:TypeId}{pos:String}{after:Array Edge}{ρ:List (Option (Nat × Nat))}
theorem St.has {a:Act}{w:World}(h:St C nt env H k ρ a w) (he:Has env env'):St C nt env' H k ρ a w:=⟨⟨h.1.1,fun t v ht=>h.1.2 t v (has_look he ht)⟩,h.2⟩
theorem aw_skip (h:Q .normal env H k):AW C nt .skip Q env H k:=.mk fun ρ _ _ hs=>wpIn_skip ⟨env,H,k,ρ,hs,h⟩
theorem aw_exit {id:Nat}(h:Q (.exit id) env H k):AW C nt (.exit id) Q env H k:=.mk fun ρ _ _ hs=>wpIn_exit ⟨env,H,k,ρ,hs,h⟩
theorem aw_ret (h:Q .ret env H k):AW C nt .ret Q env H k:=.mk fun ρ _ _ hs=>wpIn_ret ⟨env,H,k,ρ,hs,h⟩
theorem lift_then {nxt:Env→Heap→Option Nat→Prop}{K:Act→World→Prop}(h:∀ env H k ρ a w,St C nt env H k ρ a w→nxt env H k→K a w):∀ e a w,Lift C nt (thenP nxt Q) e a w→Exit.then K (Lift C nt Q) e a w
  | .normal,_,_,⟨_,_,_,_,c,d⟩=>h _ _ _ _ _ _ c d
  | .exit _,_,_,h=>h
  | .goto _,_,_,h=>h
  | .ret,_,_,h=>h
  | .panic _,_,_,h=>h
  | .outgrown,_,_,h=>h
theorem aw_seq {x y:Code}(h:AW C nt x (thenP (AW C nt y Q) Q) env H k):AW C nt (.seq x y) Q env H k:=.mk
  fun ρ a w hs=>wpIn_seq (wpIn_mono (h.1 ρ a w hs) (lift_then fun _ _ _ ρ a w hs h=>h.1 ρ a w hs))
theorem aw_cond {c:Operand}{x y:Code}{b:Bool}(hc:eo env c=some (.s (.bool b))) (ht:b=true→AW C nt x Q env H k) (hf:b=false→AW C nt y Q env H k):AW C nt (.cond c x y) Q env H k:=.mk
  fun ρ a w hs=>wpIn_cond_split (eo_bool hs.1 hc) (fun e=>(ht e).1 ρ a w hs) (fun e=>(hf e).1 ρ a w hs)
theorem aw_block {id:Nat}{c:Code}(h:AW C nt c (inBlockP id Q) env H k):AW C nt (.block id c) Q env H k:=.mk
  fun ρ a w hs=>wpIn_block (wpIn_mono (h.1 ρ a w hs) fun e a w h=>by
    cases e with
    | exit id' =>
      obtain ⟨env,H,k,ρ,hs,hq⟩:=h
      simp only [inBlockP] at hq
      simp only [Exit.inBlock]
      cases hb:Nat.beq id' id
      · rw [hb] at hq
        rw [if_neg (fun e=>by rw [e,Nat.beq_refl] at hb;cases hb)]
        exact ⟨env,H,k,ρ,hs,hq⟩
      · rw [hb] at hq
        rw [if_pos (Nat.eq_of_beq_eq_true hb)]
        exact ⟨env,H,k,ρ,hs,hq⟩
    | normal=>exact h
    | goto _=>exact h
    | ret=>exact h
    | panic _=>exact h
    | outgrown=>exact h)
theorem aw_for {c:Code}(M:Nat) (E:Nat→Env) (F:Nat→Heap) (h0:Has env (E 0)) (hF:H=F 0) (round:∀ j,j≤M→AW C nt c (thenP (fun env' H' k'=>j<M∧k'=some (j+1)∧H'=F (j+1)∧Has env' (E (j+1))) Q) (E j) (F j) (some j)):AW C nt (.loop c) Q env H (some 0):=.mk fun ρ a w hs =>
  wpIn_loopN (fun n a w=>∃ j ρ,j≤M∧n=M-j∧St C nt (E j) (F j) (some j) ρ a w) M ⟨0,ρ,Nat.zero_le _,rfl,by rw [← hF];exact hs.has h0⟩ fun n a w ⟨j,ρ,hj,hn,hs⟩ =>
    wpIn_mono ((round j hj).1 ρ a w hs) (lift_then fun env' H' k' ρ' a' w' hs' h=>by
      obtain ⟨h1,rfl,rfl,h3⟩:=h
      exact ⟨M-(j+1),by omega,j+1,ρ',h1,rfl,hs'.has h3⟩)
theorem aw_region {l:List Oper}{id:Nat}(h:AR C nt l.toArray Q (textPlan l 0) env H k):AW C nt (.region id l.toArray false) Q env H k:=.mk
  fun ρ a w hs=>region_text (Keeps C.I ρ H w) (Keeps.refl hs.2.1) (h.1 ρ a w hs)
theorem ar_nil (h:Q .normal env H k):AR C nt ops Q [] env H k:=.mk fun ρ _ _ hs=>⟨env,H,k,ρ,hs,h⟩
theorem ar_q {i d:Nat}{op:Op}{v:V}(h:QS P nt env H ⟨some d,op,ty,pos,after,none⟩ v) (hd:d<nt) (hk:AR C nt ops Q l ((d,v)::env) H k) :
    AR C nt ops Q (.q i ⟨some d,op,ty,pos,after,none⟩::l) env H k:=.mk fun ρ a w hs=>by
  refine ⟨fun _=>?_,fun hw=>by rw [wanted_none rfl] at hw;cases hw⟩
  obtain ⟨u,h1,h2⟩:=h.1 _ C.I ρ a w hs.1 hs.2.1
  exact ⟨u,h2,hk.1 ρ _ w ⟨hs.1.put h1 hd,hs.2⟩⟩
theorem ar_q_any {i d:Nat}{op:Op}{D:V→Prop}(h:∀ X I ρ a w,EnvOk I ρ nt env a→WOk X I ρ H w→∃ v,D v∧∃ u,VRel I ρ v u∧∀ w',Keeps I ρ H w w'→(execOp a.eval ⟨some d,op,ty,pos,after,none⟩).run P w'=.ok (.value u) w') (hd:d<nt)
    (hk:∀ v,D v→AR C nt ops Q l ((d,v)::env) H k):AR C nt ops Q (.q i ⟨some d,op,ty,pos,after,none⟩::l) env H k:=.mk fun ρ a w hs=>by
  refine ⟨fun _=>?_,fun hw=>by rw [wanted_none rfl] at hw;cases hw⟩
  obtain ⟨v,hC,u,h1,h2⟩:=h _ C.I ρ a w hs.1 hs.2.1
  exact ⟨u,h2,(hk v hC).1 ρ _ w ⟨hs.1.put h1 hd,hs.2⟩⟩
theorem ar_lookup {T K E:TypeId}{d dk de:TyD}{x y:Operand}{α:Type}{i f b:Nat}{e:α→V}{ml:List (Int × α)}{a:Int}{ok:Bool}(ht:TyIs P T d) (hk:d.tk=.map K E) (hK:TyIs P K dk) (hkk:dk.tk=.int .i64) (hE:TyIs P E de) (hx:eo env x=some (.map b)) (hy:eo env y=some (.s (.int .i64 a))) (hH:H[b]?=some (mapE e ml)) (hd:f<nt)
    (h1:∀ v,getE ml a=some v→AR C nt ops Q l ((f,bif ok then .tup [e v,.s (.bool true)] else e v)::env) H k) (h2:getE ml a=none→AR C nt ops Q l ((f,bif ok then .tup [constV de.zero,.s (.bool false)] else constV de.zero)::env) H k) :
    AR C nt ops Q (.q i ⟨some f,.lookup T x y ok,ty,pos,after,none⟩::l) env H k:=by
  have key:∀ (X:Ctx) (I:Imm) (ρ:List (Option (Nat × Nat))) (ac:Act) (w:World),EnvOk I ρ nt env ac→WOk X I ρ H w→∃ v,((∃ q,getE ml a=some q∧v=(bif ok then .tup [e q,.s (.bool true)] else e q))∨(getE ml a=none∧v=(bif ok then .tup [constV de.zero,.s (.bool false)] else constV de.zero))) ∧
      ∃ u,VRel I ρ v u∧∀ w',Keeps I ρ H w w'→(execOp ac.eval ⟨some f,.lookup T x y ok,ty,pos,after,none⟩).run P w'=.ok (.value u) w':=by
    intro X I ρ ac w hE' hw
    obtain ⟨cb,es,clk,h3,h4,h5,h6⟩:=mapE_at hw hH
    have hm:=map_val (eo_rel hE' hx) h3
    have ha:=sval hE' hy
    have hfind:=findNow_int a es.toList ml 0 (by simpa using h5) (fun j n p hn hp=>(h6 j n p (by simpa using hn) hp).1)
    have hget:=getE_idx ml a
    cases hi:idxE ml a with
    | none =>
      rw [hi] at hfind hget
      refine ⟨_,.inr ⟨hget,rfl⟩,bif ok then .tuple #[de.zero,.bool false] else de.zero,?_,fun w' hK'=>?_⟩
      · cases ok with
        | true =>
          refine .tup rfl fun j v u hj hu=>?_
          match j,hj,hu with
          | 0,hj,hu=>simp at hj hu;subst hj hu;exact constV_rel _ _ _
          | 1,hj,hu=>simp at hj hu;subst hj hu;exact .s _
          | j+2,hj,_=>simp at hj
        | false=>exact constV_rel _ _ _
      · have hb':w'.heap[cb]?=some (.map es clk):=(hK'.2.2 b _ cb 0 hH h3).trans h4
        simp only [execOp,hm,ha,Instr.lookup,Sem.run_bind,run_underlying (ht.map hk),MapKept.run_getObj_map hb',MapKept.run_checkKey (hK.intk hkk) (intKey a),MapKept.run_findKey (hK.intk hkk) hfind,Result.andThen_ok,Sem.run_pure,hE.zeroV,Option.bind_none]
        cases ok<;>rfl
    | some j =>
      have hlt:=idxE_lt hi
      have hes:es[j]?=some es[j]:=by simp
      obtain ⟨h7,h8⟩:=h6 j es[j] ml[j] hes (by simp [hlt])
      rw [hi] at hfind hget
      have hget:getE ml a=some ml[j].2:=by rw [hget];simp [hlt]
      refine ⟨_,.inl ⟨_,hget,rfl⟩,bif ok then .tuple #[es[j].val,.bool true] else es[j].val,?_,fun w' hK'=>?_⟩
      · cases ok with
        | true =>
          refine .tup rfl fun j v u hj hu=>?_
          match j,hj,hu with
          | 0,hj,hu=>simp at hj hu;subst hj hu;exact h8
          | 1,hj,hu=>simp at hj hu;subst hj hu;exact .s _
          | j+2,hj,_=>simp at hj
        | false=>exact h8
      · have hb':w'.heap[cb]?=some (.map es clk):=(hK'.2.2 b _ cb 0 hH h3).trans h4
        have hfind':Instr.findNow (.int .i64) (.int .i64 a) es.toList 0=some (some (j,es[j].val)):=by rw [hfind,Option.bind_some,show es.toList[j]?=some es[j] by simp];simp
        simp only [execOp,hm,ha,Instr.lookup,Sem.run_bind,run_underlying (ht.map hk),MapKept.run_getObj_map hb',MapKept.run_checkKey (hK.intk hkk) (intKey a),MapKept.run_findKey (hK.intk hkk) hfind',Result.andThen_ok,Sem.run_pure]
        cases ok<;>rfl
  exact ar_q_any key hd fun v hv=>by
    rcases hv with ⟨q,h3,rfl⟩|⟨h3,rfl⟩
    · exact h1 q h3
    · exact h2 h3
theorem own_next {w w':World}{B:Nat}{I I':Imm}{ρ':List (Option (Nat × Nat))}(hw:WOk (Ctx.self w ρ H I) I ρ H w) (h:WOk (Ctx.self w ρ H I) I' ρ' H' w') (ho:Own B ρ) (hM:OnlyMap H) (hB:H=[]→B≤w.heap.size) (hH:∀ blk∈H',blk≠.dead):Own B ρ':=by
  have hB':B≤w.heap.size:=by
    match H,hB,hM,hw with
    | [],hB,_,_=>exact hB rfl
    | b::L,_,⟨_,o3⟩,hw =>
      obtain ⟨m,rfl⟩:=o3 b (by simp)
      obtain ⟨cb,h1,es,clk,h2,_⟩:=hw.map 0 m rfl
      have:=ho 0 cb 0 h1
      have:=(Array.getElem?_eq_some_iff.1 h2).1
      omega
  refine fun j b z hj=>?_
  have hlt:j<H'.length:=by rw [← h.len];exact (List.getElem?_eq_some_iff.1 hj).1
  have hb:H'[j]?=some H'[j]:=by simp [hlt]
  rcases h.mine b ⟨j,_,hb,hH _ (List.getElem_mem hlt),z,hj⟩ with h1|⟨q,blk,h1,h2,z',h3⟩
  · have:w.heap.size≤b:=h1
    omega
  · exact ho q b z' h3
theorem ar_l {i d q:Nat}{op:Op}{keep:Bool}{R:V→Heap→Prop}(h:LSI P nt env H ⟨some d,op,ty,pos,after,none⟩ R) (hd:d<nt) (hq:H=[]→q=0) (hH:∀ v H',R v H'→H'≠[]∧∀ blk∈H',blk≠.dead)
    (hM:OnlyMap H) (hkp:keep=false) (hk:∀ v H',R v H'→AR C nt ops Q l ((d,v)::env) H' (some q)):AR C nt ops Q (.l i ⟨some d,op,ty,pos,after,none⟩ keep::l) env H (some q):=.mk fun ρ a w hs=>by
  subst hkp
  refine ⟨fun _=>?_,fun hw=>by rw [wanted_none rfl] at hw;cases hw⟩
  refine h.1 C.I ρ a w _ _ hs.1 hs.2.1 fun ρ' H' v u w' hR hρ hw hv=>?_
  obtain ⟨row,g1,g2⟩:=grown_of hs.2.1 hw hs.2.2.1 hM
  obtain ⟨n1,n2⟩:=hH v H' hR
  exact ⟨Keeps C.I ρ' H' w',Keeps.refl hw,(fun h=>by cases h),(hk v H' hR).1 ρ' _ w' ⟨(hs.1.mono (Imm.le_refl _) hρ).put hv hd,hw.self,own_next hs.2.1 hw hs.2.2.1 hM (fun e=>hs.2.2.2.2.2 (by rw [hq e]) e) n2,hs.2.2.2.1,C.stable q w w' row hs.2.2.2.2.1 g1 g2,fun _ e=>(n1 e).elim⟩⟩
theorem ar_l0 {i q:Nat}{op:Op}{keep:Bool}{R:V→Heap→Prop}(h:LSI P nt env H ⟨none,op,ty,pos,after,none⟩ R) (hq:H=[]→q=0) (hH:∀ v H',R v H'→H'≠[]∧∀ blk∈H',blk≠.dead)
    (hM:OnlyMap H) (hkp:keep=false) (hk:∀ v H',R v H'→AR C nt ops Q l env H' (some q)):AR C nt ops Q (.l i ⟨none,op,ty,pos,after,none⟩ keep::l) env H (some q):=.mk fun ρ a w hs=>by
  subst hkp
  refine ⟨fun _=>?_,fun hw=>by rw [wanted_none rfl] at hw;cases hw⟩
  refine h.1 C.I ρ a w _ _ hs.1 hs.2.1 fun ρ' H' v u w' hR hρ hw hv=>?_
  obtain ⟨row,g1,g2⟩:=grown_of hs.2.1 hw hs.2.2.1 hM
  obtain ⟨n1,n2⟩:=hH v H' hR
  exact ⟨Keeps C.I ρ' H' w',Keeps.refl hw,(fun h=>by cases h),(hk v H' hR).1 ρ' _ w' ⟨hs.1.mono (Imm.le_refl _) hρ,hw.self,own_next hs.2.1 hw hs.2.2.1 hM (fun e=>hs.2.2.2.2.2 (by rw [hq e]) e) n2,hs.2.2.2.1,C.stable q w w' row hs.2.2.2.2.1 g1 g2,fun _ e=>(n1 e).elim⟩⟩
theorem ar_makeMap {i e:Nat}{T:TypeId}(hd:e<nt) (h:AR C nt ops Q l ((e,.map 0)::env) [.map []] (some 0)):AR C nt ops Q (.l i ⟨some e,.makeMap T none,ty,pos,after,none⟩ false::l) env [] (some 0) :=
  ar_l lsi_makeMap hd (fun _=>rfl) (fun v H' ⟨_,hb⟩=>by subst hb;exact ⟨by simp,fun blk hb=>by simp at hb;subst hb;simp⟩) only_nil rfl (fun v H' ⟨a,b⟩=>by subst a;subst b;exact h)
theorem ar_mapUpdate {T K E:TypeId}{d dk:TyD}{x y z:Operand}{α:Type}{i q:Nat}{e:α→V}{ml:List (Int × α)}{a:Int}{v:α}(ht:TyIs P T d) (hk:d.tk=.map K E) (hK:TyIs P K dk) (hkk:dk.tk=.int .i64) (hx:eo env x=some (.map 0)) (hy:eo env y=some (.s (.int .i64 a))) (hz:eo env z=some (e v))
    (h:AR C nt ops Q l env [mapE e (putE ml a v)] (some q)):AR C nt ops Q (.l i ⟨none,.mapUpdate T x y z,ty,pos,after,none⟩ false::l) env [mapE e ml] (some q) :=
  ar_l0 (lsi_mapUpdate (b:=0) ht hk hK hkk hx hy hz rfl) (fun h=>by cases h) (fun _ H' hb=>by subst hb;exact ⟨by simp,fun blk hb=>by simp [mapE] at hb;subst hb;simp⟩) only_mapE rfl (fun _ H' hb=>by subst hb;exact h)
theorem evals_s {I:Imm}{a:Act}(he:EnvOk I ρ nt env a):∀ {xs:List Operand}{us:List Value},xs.mapM (eo env)=some (us.map V.s)→xs.map a.eval=us
  | [],us,h=>by cases us<;>simp at h;rfl
  | x::xs,us,h=>by
    simp only [List.mapM_cons,Option.pure_def,Option.bind_eq_bind,Option.bind_eq_some_iff] at h
    obtain ⟨v0,hv0,vs',hvs,h'⟩:=h
    cases us with
    | nil=>simp at h'
    | cons u us =>
      simp at h'
      obtain ⟨rfl,rfl⟩:=h'
      rw [List.map_cons,evals_s he hvs]
      have:=eo_rel he hv0
      generalize a.eval x=y at this ⊢
      cases this
      rfl
theorem ar_yield {i d q:Nat}{fo:Operand}{args:List Operand}{ats:Array TypeId}{us:List Value}(hf:eo env fo=some (.s (.func (.yield C.l) #[] #[]))) (hargs:args.mapM (eo env)=some (us.map V.s)) (hk:q<C.N) (hel:C.el q=us) (hd:d<nt) (hM:OnlyMap H)
    (h:AR C nt ops Q l ((d,.s (.bool true))::env) H (some (q+1))) (h':AR C nt ops Q l ((d,.s (.bool false))::env) H none):AR C nt ops Q (.l i ⟨some d,.call ⟨.value fo,args.toArray,ats⟩,ty,pos,after,none⟩ false::l) env H (some q):=.mk fun ρ a w hs=>by
  refine ⟨fun _=>?_,fun hw=>by rw [wanted_none rfl] at hw;cases hw⟩
  have h1:=eo_rel hs.1 hf
  have ev:a.eval fo=.func (.yield C.l) #[] #[]:=by generalize a.eval fo=y at h1;cases h1;rfl
  obtain ⟨fn,tmps,assign,body,hy,hR⟩:=C.round q w hs.2.2.2.2.1 hk
  rw [hel,← evals_s hs.1 hargs] at hy
  refine wpIn_of_run (by simp) (It.yield_run ev hy) ⟨fun h=>by simp [Fw,Fence.wide] at h,?_⟩
  refine RoundIn.mono hR fun e w' ⟨he,hK,hMp⟩=>?_
  have hw:=hs.2.1
  have o1:=hs.2.2.1
  obtain ⟨o2,o3⟩:=hM
  have noArr:∀ (k sz n:Nat) (f:Nat→V),H[k]?≠some (.arr sz n f):=fun k sz n f e=>by
    obtain ⟨m,hm⟩:=o3 _ (List.mem_of_getElem? e)
    cases hm
  have hw':WOk (Ctx.self w' ρ H C.I) C.I ρ H w' :=
    { len:=hw.len,inj:=hw.inj,imm:=fun b o hb=>hK b o hb (hw.imm b o hb),apart:=hw.apart,size:=fun k sz n f e=>(noArr k sz n f e).elim,none:=fun k sz n f e=>(noArr k sz n f e).elim,arr:=fun k sz n f b z e=>(noArr k sz n f e).elim
      map:=fun k m e=>by
        obtain ⟨b,h1,es,clk,h2,h3,h4⟩:=hw.map k m e
        exact ⟨b,h1,es,clk,hMp b es clk (o1 k b 0 h1) h2,h3,h4⟩
      mine:=fun b hb=>.inr hb,news:=fun b hb=>.inl hb,le:=Imm.le_refl _,pre:=Pre.refl _,os:=rfl,tape:=rfl,out:=rfl,grow:=Nat.le_refl _,keep:=fun _ _ _=>rfl }
  rcases he with ⟨he,hJ⟩|⟨he,hJ⟩
  · subst he
    exact ⟨Keeps C.I ρ H w',Keeps.refl hw',(fun h=>by cases h),h.1 ρ _ w' ⟨hs.1.put (.s _) hd,hw',o1,hs.2.2.2.1,hJ,fun e=>by cases e⟩⟩
  · subst he
    exact ⟨Keeps C.I ρ H w',Keeps.refl hw',(fun h=>by cases h),h'.1 ρ _ w' ⟨hs.1.put (.s _) hd,hw',o1,hs.2.2.2.1,hJ,fun e=>by cases e⟩⟩
theorem drop_wok {I:Imm}{w:World}{m:List (Value × V)}{blk:Blk}(hw:WOk (Ctx.self w ρ [.map m,blk] I) I ρ [.map m,blk] w) (hc:∀ x∈m,x.2.closed=true):WOk (Ctx.self w (ρ.take 1) [.map m] I) I (ρ.take 1) [.map m] w:=by
  obtain ⟨cb,h1,hm⟩:=hw.map 0 m rfl
  have e0:∀ {k:Nat} {x:Blk},([Blk.map m]:Heap)[k]?=some x→k=0∧x=.map m:=fun {k x} h=>by
    cases k with
    | zero=>simp at h;exact ⟨rfl,h.symm⟩
    | succ k=>simp at h
  have et:∀ {k:Nat} {x:Option (Nat × Nat)},(ρ.take 1)[k]?=some x→ρ[k]?=some x:=fun {k x} h=>by
    rw [List.getElem?_take] at h
    split at h
    · exact h
    · cases h
  have h10:(ρ.take 1)[0]?=some (some (cb,0)):=by rw [List.getElem?_take,if_pos (by omega)];exact h1
  have live:∀ b,Live [.map m] (ρ.take 1) b→Live [.map m,blk] ρ b:=fun b ⟨j,x,g1,g2,z,g3⟩=>by
    obtain ⟨rfl,rfl⟩:=e0 g1
    exact ⟨0,_,rfl,g2,z,et g3⟩
  exact { len:=by rw [List.length_take,hw.len];rfl,inj:=fun i j b ⟨x,hx,_⟩ ⟨y,hy,_⟩ _ _ _ _=>by rw [(e0 hx).1,(e0 hy).1],imm:=hw.imm,apart:=fun b hb=>hw.apart b (live b hb)
          size:=fun k sz n f h=>(by cases (e0 h).2),none:=fun k sz n f h=>(by cases (e0 h).2),arr:=fun k sz n f b z h=>(by cases (e0 h).2)
          map:=fun k mm h=>by
            obtain ⟨rfl,e⟩:=e0 h
            cases e
            obtain ⟨es,clk,g1,g2,g3⟩:=hm
            exact ⟨cb,h10,es,clk,g1,g2,fun i e x he hx=>⟨(g3 i e x he hx).1,((g3 i e x he hx).2.close (hc x (List.mem_of_getElem? hx))).closed⟩⟩
          mine:=fun b hb=>.inr hb,news:=fun b hb=>.inl hb,le:=Imm.le_refl _,pre:=Pre.refl _,os:=rfl,tape:=rfl,out:=rfl,grow:=Nat.le_refl _,keep:=fun _ _ _=>rfl }
theorem look_mem:∀ {E:Env}{t:Nat}{v:V},look E t=some v→(t,v)∈E
  | [],_,_,h=>by simp [look] at h
  | (k,y)::l,t,v,h=>by
    rw [look_cons] at h
    split at h
    · rename_i e;subst e;cases h;exact List.mem_cons_self ..
    · exact List.mem_cons_of_mem _ (look_mem h)
theorem drop_st {E:Env}{m:List (Value × V)}{blk:Blk}{q:Nat}{a:Act}{w:World}(hs:St C nt env [.map m,blk] (some q) ρ a w) (hm:∀ x∈m,x.2.closed=true) (hE:Has env E) (hc:∀ p∈E,p.2.closed=true∨p.2=.map 0):St C nt E [.map m] (some q) (ρ.take 1) a w:=by
  obtain ⟨h1,h2,h3,h4,h5,h6⟩:=hs
  have et:∀ {k:Nat} {x:Option (Nat × Nat)},(ρ.take 1)[k]?=some x→ρ[k]?=some x:=fun {k x} h=>by
    rw [List.getElem?_take] at h
    split at h
    · exact h
    · cases h
  refine ⟨⟨h1.1,fun t v hv=>?_⟩,drop_wok h2 hm,fun j b z hj=>h3 j b z (et hj),h4,h5,fun _ e=>by cases e⟩
  obtain ⟨g1,g2⟩:=h1.2 t v (has_look hE hv)
  refine ⟨g1,?_⟩
  rcases hc _ (look_mem hv) with hcl|hcl
  · exact (g2.close hcl).closed
  · have hcl:v=.map 0:=hcl
    subst hcl
    generalize a.tmps.getD t undef=u at g2
    cases g2
    rename_i hb
    exact .map (by rw [List.getElem?_take,if_pos (by omega)];exact hb)
def isM0:V→Bool
  | .map 0=>true
  | _=>false
theorem isM0_eq:∀ {v:V},isM0 v=true→v=.map 0:=fun {v} h=>by
  cases v<;>simp [isM0] at h
  rename_i b
  cases b
  · rfl
  · cases h
theorem ar_drop_l {i q:Nat}{op:Op}{o:Option Tmp}(E:Env) {α:Type}{e:α→V}{ml:List (Int × α)}{blk:Blk}(hm:∀ v,(e v).closed=true) (hE:Has env E) (hc:E.all (fun p=>p.2.closed||isM0 p.2)=true) (h:AR C nt ops Q (.l i ⟨o,op,ty,pos,after,none⟩ false::l) E [mapE e ml] (some q)) :
    AR C nt ops Q (.l i ⟨o,op,ty,pos,after,none⟩ false::l) env [mapE e ml,blk] (some q):=.mk fun ρ a w hs=>by
  have h1:=h.1 _ a w (drop_st (m:=entsE e ml) hs (fun x hx=>by obtain ⟨y,_,rfl⟩:=List.mem_map.1 hx;exact hm _) hE (fun p hp=>by
    have:=List.all_eq_true.1 hc p hp
    rw [Bool.or_eq_true] at this
    exact this.imp id isM0_eq))
  refine ⟨fun hw=>?_,fun hw=>by rw [wanted_none rfl] at hw;cases hw⟩
  exact Oper.wpIn_mono (fun a' w' ⟨S',g1,_,g3⟩=>⟨S',g1,(fun h=>by cases h),g3⟩) (h1.1 hw)
theorem store_run {X:Ctx}{I:Imm}{ρ:List (Option (Nat × Nat))}{v:V}{a:Act}{w:World}{next:Act→World→Prop}{Qx:Exit→Act→World→Prop}{dst:Option Tmp}{T:TypeId}{d:TyD}{x y:Operand}{guard:Option (Nat × Bool)}{sz b i off n:Nat}{f g:Nat→V}(ht:TyIs P T d) (hx:eo env x=some (.ptr sz b i off)) (hy:eo env y=some v) (hok:v.ok=true) (hone:v.cells.all V.one=true) (hH:H[b]?=some (.arr sz n f)) (hi:i<n)
    (hsz:v.cells.length=d.size) (hoff:off+d.size≤sz) (ha:(∃ cs,f i=.agg cs)∨(off=0∧v.cells.length=1∧(f i).cells.length=1∧∀ cs,v≠.agg cs)) (hgi:g i=putPart (f i) off v) (hg:∀ j,j<n→j≠i→g j=f j) (he:EnvOk I ρ nt env a) (hw:WOk X I ρ H w)
    (hk:∀ w',WOk X I ρ (H.set b (.arr sz n g)) w'→next (a.put dst undef) w'):(⟨dst,.store T x y,ty,pos,after,guard⟩:Oper).wpIn (Fw none) 0 P a w next Qx:=by
  have h1:=eo_rel he hx
  have h2:=eo_rel he hy
  obtain ⟨cb,z,h1',hb⟩:=h1.ptr_inv
  obtain ⟨hc1,hc2⟩:=h2.cells (V.ok_ne hok)
  obtain ⟨cs,t,hcs,hz,hn,hr⟩:=hw.arr _ _ _ _ _ _ hH hb
  have hlen:=hw.size _ _ _ _ hH i hi
  have hlt:i*sz+sz≤n*sz:=by rw [← Nat.succ_mul];exact Nat.mul_le_mul_right _ hi
  have hfit:i*sz+off+(a.eval y).cells.toList.length≤cs.size:=by simp [hc1];omega
  have hones:∀ u∈(a.eval y).cells.toList,u.oneCell'=true:=fun u hu=>by
    obtain ⟨j,hj,rfl⟩:=List.getElem_of_mem hu
    have hj':j<v.cells.length:=by simp at hj;omega
    have:=List.all_eq_true.1 hone v.cells[j] (List.getElem_mem _)
    exact (hc2 j v.cells[j] _ (by simp [hj']) (by simp at hj;simp [hj])).one this
  have hst:=run_storeCells_at P cb (i*sz+off) t (a.eval y).cells.toList 0 cs w hcs (by simpa using hfit) hones
  rw [Nat.add_zero] at hst
  have hrun:(execOp a.eval ⟨dst,.store T x y,ty,pos,after,guard⟩).run P w=.ok .skip (w.setRow cb (cs.toList.take (i*sz+off)++(a.eval y).cells.toList++cs.toList.drop (i*sz+off+(a.eval y).cells.toList.length)).toArray):=by
    have hst':=hst
    simp [hc1,hsz] at hst'
    simp [execOp,h1',Instr.storeAt,Instr.sureAddr,storeVar,ht.sizeOf,hc1,hsz,hst']
  obtain ⟨s1,s2,s3⟩:=setRow_facts (new:=(cs.toList.take (i*sz+off)++(a.eval y).cells.toList++cs.toList.drop (i*sz+off+(a.eval y).cells.toList.length)).toArray) hcs
  have hcell:=cells_put (x:=f i) (v:=v) (off:=off) (by omega) ha
  have hgsz:∀ j,j<n→(g j).cells.length=sz:=fun j hj=>by
    by_cases e:j=i
    · subst e;rw [hgi,hcell];simp;omega
    · rw [hg j hj e];exact hw.size _ _ _ _ hH j hj
  refine wpIn_of_run (by simp) hrun ?_
  refine hk _ (hw.write hH hb (by simp;simp at hfit;omega) hgsz ?_ s1 s2 s3 rfl rfl rfl)
  intro j k u hj hu
  simp only [List.getElem?_toArray]
  rw [splice_get (by simpa using hfit)]
  by_cases e:j=i
  · subst e
    rw [hgi,hcell] at hu
    have hk':k<sz:=by have:=(List.getElem?_eq_some_iff.1 hu).1;simp at this;omega
    by_cases hin:off≤k∧k<off+v.cells.length
    · rw [if_pos (by simp [hc1];omega)]
      rw [List.append_assoc,List.getElem?_append_right (by simp;omega),List.getElem?_append_left (by simp;omega)] at hu
      have e2:k-(List.take off (f j).cells).length=k-off:=by simp;omega
      rw [e2] at hu
      have hlt2:k-off<(a.eval y).cells.size:=by rw [hc1];omega
      refine ⟨(a.eval y).cells[k-off],?_,hc2 _ _ _ hu (by simp [hlt2])⟩
      rw [show j*sz+k-(j*sz+off)=k-off by omega]
      simp [hlt2]
    · rw [if_neg (by simp [hc1];omega)]
      have:(f j).cells[k]?=some u:=by
        by_cases hlo:k<off
        · rw [List.append_assoc,List.getElem?_append_left (by simp;omega),List.getElem?_take,if_pos hlo] at hu;exact hu
        · rw [List.getElem?_append_right (by simp;omega),List.getElem?_drop] at hu
          rw [← hu];congr 1;simp;omega
      simpa using hr j k u hj this
  · rw [hg j hj e] at hu
    have hk':k<sz:=by have:=(List.getElem?_eq_some_iff.1 hu).1;rw [hw.size _ _ _ _ hH j hj] at this;exact this
    rw [if_neg ?_]
    · simpa using hr j k u hj hu
    · rintro ⟨q1,q2⟩
      simp [hc1] at q2
      rcases Nat.lt_or_gt_of_ne e with hlt'|hgt'
      · have:j*sz+sz≤i*sz:=by rw [← Nat.succ_mul];exact Nat.mul_le_mul_right _ hlt'
        omega
      · have:i*sz+sz≤j*sz:=by rw [← Nat.succ_mul];exact Nat.mul_le_mul_right _ hgt'
        omega
theorem ar_copy {i0 i1 i2 dp da q sz:Nat}{T:TypeId}{d:TyD}{x y:Operand}{v va V0:V}{m:List (Value × V)}{ty2 ty3:TypeId}{pos2 pos3:String}{after2 after3:Array Edge}(ht:TyIs P T d) (hz:(constV d.zero).ok=true) (hzs:(constV d.zero).cells.length=sz) (hds:d.size=sz)
    (hx:eo ((dp,.ptr sz 1 0 0)::env) x=some va) (hy:eo ((da,va)::(dp,.ptr sz 1 0 0)::env) y=some v) (hp:eo ((da,va)::(dp,.ptr sz 1 0 0)::env) (.tmp dp)=some (.ptr sz 1 0 0)) (hok:v.ok=true) (hone:v.cells.all V.one=true) (hvs:v.cells.length=sz) (hza:∃ cs,constV d.zero=.agg cs) (hV:putPart (constV d.zero) 0 v=V0) (hd:dp<nt) (hd2:da<nt)
    (h:AR C nt ops Q l ((da,va)::(dp,.ptr sz 1 0 0)::env) [.map m,.arr sz 1 (fun _=>V0)] (some q)) :
    AR C nt ops Q (.l i0 ⟨some dp,.alloc T,ty,pos,after,none⟩ false::.q i1 ⟨some da,.assign x,ty2,pos2,after2,none⟩::.l i2 ⟨none,.store T (.tmp dp) y,ty3,pos3,after3,none⟩ false::l) env [.map m] (some q):=.mk fun ρ a w hs=>by
  subst hzs
  refine ⟨fun _=>?_,fun hw=>by rw [wanted_none rfl] at hw;cases hw⟩
  refine wpIn_of_run (by simp) (res:=.ok (.value (.pointer (some ⟨w.heap.size,0,none⟩))) { w with heap:=w.heap.push (.cells d.zero.cells T) }) (by simp [execOp,Instr.alloc,ht.zeroV,newVar,newRow]) ?_
  have hw1:=alloc_core hs.2.1 (constV_rel C.I ρ d.zero) hz T
  have he1:=(hs.1.mono (Imm.le_refl _) (pre_append (some (w.heap.size,d.zero.cells.size)))).put (ptr_new (I:=C.I) (sz:=(constV d.zero).cells.length) hs.2.1.len) hd
  refine ⟨Keeps C.I _ _ _,Keeps.refl hw1,(fun h=>by cases h),?_,fun hw=>by rw [wanted_none rfl] at hw;cases hw⟩
  intro _
  obtain ⟨u,g1,g2⟩:=(qs_assign (P:=P) (nt:=nt) (H:=[.map m]++[.arr (constV d.zero).cells.length 1 (fun _=>constV d.zero)]) (ty:=ty2) (pos:=pos2) (after:=after2) (guard:=none) (dst:=da) hx).1 _ C.I _ _ _ he1 hw1
  refine ⟨u,g2,?_,fun hw=>by rw [wanted_none rfl] at hw;cases hw⟩
  intro _
  have he2:=he1.put g1 hd2
  refine store_run (i:=0) (n:=1) (off:=0) (f:=fun _=>constV d.zero) (g:=fun _=>putPart (constV d.zero) 0 v) (H:=[.map m]++[.arr (constV d.zero).cells.length 1 (fun _=>constV d.zero)]) (b:=1) (sz:=(constV d.zero).cells.length) ht hp hy hok hone rfl (by omega) (by rw [hvs,hds]) (by omega) (.inl hza) rfl (fun j h1 h2=>by omega) he2 hw1 fun w2 hw2=>?_
  subst hV
  obtain ⟨row,r1,r2⟩:=grown_of hs.2.1 hw2 hs.2.2.1 only_map
  exact ⟨Keeps C.I _ _ _,Keeps.refl hw2,(fun h=>by cases h),h.1 _ _ w2 ⟨⟨by simpa [Act.put] using he2.1,fun t v hv=>he2.2 t v hv⟩,hw2.self,own_next hs.2.1 hw2 hs.2.2.1 only_map (fun e=>by cases e) (fun blk hb=>by simp at hb;rcases hb with rfl|rfl<;>simp),hs.2.2.2.1,C.stable q w w2 row hs.2.2.2.2.1 r1 r2,fun _ e=>by cases e⟩⟩
theorem ar_isq {i d:Nat}{op:Op}(h:AR C nt ops Q (.q i ⟨some d,op,ty,pos,after,none⟩::l) env H k):AR C nt ops Q (.q i ⟨some d,op,ty,pos,after,none⟩::l) env H k:=h
theorem is_load {i d:Nat}{T:TypeId}{x:Operand}(h:AR C nt ops Q (.q i ⟨some d,.load T x,ty,pos,after,none⟩::l) env H k):AR C nt ops Q (.q i ⟨some d,.load T x,ty,pos,after,none⟩::l) env H k:=h
theorem is_binOp {i d:Nat}{o:BinOp}{T:TypeId}{x y:Operand}{T2:TypeId}(h:AR C nt ops Q (.q i ⟨some d,.binOp o T x y T2,ty,pos,after,none⟩::l) env H k):AR C nt ops Q (.q i ⟨some d,.binOp o T x y T2,ty,pos,after,none⟩::l) env H k:=h
theorem is_fieldAddr {i d:Nat}{T:TypeId}{x:Operand}{j:Nat}(h:AR C nt ops Q (.q i ⟨some d,.fieldAddr T x j,ty,pos,after,none⟩::l) env H k):AR C nt ops Q (.q i ⟨some d,.fieldAddr T x j,ty,pos,after,none⟩::l) env H k:=h
theorem is_indexAddr {i d:Nat}{T:TypeId}{x y:Operand}(h:AR C nt ops Q (.q i ⟨some d,.indexAddr T x y,ty,pos,after,none⟩::l) env H k):AR C nt ops Q (.q i ⟨some d,.indexAddr T x y,ty,pos,after,none⟩::l) env H k:=h
theorem is_call {i d:Nat}{c:Call}(h:AR C nt ops Q (.q i ⟨some d,.call c,ty,pos,after,none⟩::l) env H k):AR C nt ops Q (.q i ⟨some d,.call c,ty,pos,after,none⟩::l) env H k:=h
theorem loop_next {N j:Nat}{E:Env}{G:Heap}(h1:j<N) (h2:k=some (j+1)) (hH:H=G) (h3:Has env E):thenP (fun env' H' k'=>j<N∧k'=some (j+1)∧H'=G∧Has env' E) Q .normal env H k:=⟨h1,h2,hH,h3⟩
end
def EndQ (N:Nat):Post
  | .normal,_,_,k=>k=some N∨k=none
  | .ret,_,_,k=>k=some N∨k=none
  | _,_,_,_=>False
theorem iter_of_aw {P:Program}{gf:FuncId}{fn:Func}{c:Code}{vs:List V}{N:Nat}{el:Nat→List Value}(hf:P.funcs[gf]?=some fn) (hb:fn.body=some c) (hn:vs.length+1≤fn.ntmps) (hres:fn.results=#[])
    (h:∀ C:Cx P,C.N=N→C.el=el→AW C fn.ntmps c (EndQ N) (argEnv (.s (.func (.yield C.l) #[] #[])::vs) 0) [] (some 0)):IterX P gf vs N el:=by
  refine ⟨fun I us l J K W hI hv hst hY h0=>?_⟩
  refine callsIn_wide.2 ((callsIn_wide (n:=0)).1 (callsIn_of_wp hf hb trivial ?_ rfl))
  have hrel:VRels I [] (.s (.func (.yield l) #[] #[])::vs) (#[.func (.yield l) #[] #[]]++us):=by
    refine ⟨by simp [hv.1];omega,fun j v u hj hu=>?_⟩
    cases j with
    | zero =>
      rw [Array.getElem?_append_left (by simp)] at hu
      simp at hj hu;subst hj hu;exact .s _
    | succ j =>
      rw [List.getElem?_cons_succ] at hj
      rw [Array.getElem?_append_right (by simp)] at hu
      exact hv.2 j v u hj (by simpa using hu)
  have h1:=(h ⟨l,I,fun|some k=>J k|none=>K,W.heap.size,N,el,hst,hY⟩ rfl rfl).1 [] _ W ⟨argEnv_ok hrel (by rw [hrel.1];simpa using hn),WOk.begin hI,(fun j b z h=>by simp at h),rfl,h0,fun _ _=>Nat.le_refl _⟩
  refine wpIn_mono h1 fun e a' w' hl=>?_
  have hr:(results fn a'.tmps).run P w'=.ok (.tuple #[]) w':=by
    unfold results
    rw [hres]
    simp
  have fin:∀ {k:Option Nat} {env:Env} {H:Heap} {ρ:List (Option (Nat × Nat))},St ⟨l,I,fun|some k=>J k|none=>K,W.heap.size,N,el,hst,hY⟩ fn.ntmps env H k ρ a' w'→(k=some N∨k=none)→J N w'∨K w':=fun hs hk=>by
    rcases hk with rfl|rfl
    · exact .inl hs.2.2.2.2.1
    · exact .inr hs.2.2.2.2.1
  cases e with
  | normal=>obtain ⟨_,_,k,ρ,hs,hk⟩:=hl;exact ⟨hs.2.2.2.1,_,hr,⟨_,rfl⟩,fin hs hk⟩
  | ret=>obtain ⟨_,_,k,ρ,hs,hk⟩:=hl;exact ⟨hs.2.2.2.1,_,hr,⟨_,rfl⟩,fin hs hk⟩
  | exit id=>obtain ⟨_,_,_,_,_,h⟩:=hl;exact h.elim
  | goto id=>obtain ⟨_,_,_,_,_,h⟩:=hl;exact h.elim
  | panic ch=>exact hl.elim
  | outgrown=>exact hl.elim
end Go.Proofs.YtloaefllpokkaaaGreat.Im
namespace Go.Proofs.YtloaefllpokkaaaGreat
open Go.RowKit
inductive LentV (H:Heap):V→V→Prop
  | closed {v} (h:v.closed=true):LentV H v v
  | ext {sz n f g} (hg:∀ k,k<n→g k=f k):LentV H (.list sz n f) (.list sz n g)
  | nil {sz g}:LentV H (.s (.slice none 0 0)) (.list sz 0 g)
  | emp {sz g}:LentV H .emp (.list sz 0 g)
  | sl {sz b i n N f g} (hb:H[b]?=some (.arr sz N f)) (hN:i+n≤N) (hc:∀ k,k<N→V.closed.all (f k).cells=true) (hg:∀ k,k<n→g k=f (i+k)):LentV H (.sl sz b i n) (.list sz n g)
  | agg {cs ds:List V} (h:cs.length=ds.length) (hv:∀ (j:Nat) v x,cs[j]?=some v→ds[j]?=some x→LentV H v x):LentV H (.agg cs) (.agg ds)
  | ptr {sz b off:Nat} {cs es ds:List V} (hb:H[b]?=some (.arr sz 1 (fun _=>.agg (cs++es)))) (h:cs.length=ds.length) (hv:∀ (j:Nat) v x,cs[j]?=some v→ds[j]?=some x→LentV H v x):LentV H (.ptr sz b 0 off) (.ref (.agg ds) off)
  | elt {sz b i off N:Nat} {f:Nat→V} (hb:H[b]?=some (.arr sz N f)) (hi:i<N) (hc:V.closed.all (f i).cells=true):LentV H (.ptr sz b i off) (.ref (f i) off)
def LentL (H:Heap):List V→List V→Prop
  | [],[]=>True
  | v::l,x::m=>LentV H v x∧LentL H l m
  | _,_=>False
theorem lentL_len {H:Heap}:∀ {l m:List V},LentL H l m→l.length=m.length
  | [],[],_=>rfl
  | _::l,_::m,h=>by simp [lentL_len (l:=l) (m:=m) h.2]
  | [],_::_,h=>h.elim
  | _::_,[],h=>h.elim
theorem lentL_get {H:Heap}:∀ {l m:List V},LentL H l m→∀ (j:Nat) v x,l[j]?=some v→m[j]?=some x→LentV H v x
  | [],[],_,j,v,x,h,_=>by simp at h
  | a::l,b::m,h,j,v,x,h1,h2=>by
    cases j with
    | zero=>simp at h1 h2;subst h1 h2;exact h.1
    | succ j=>exact lentL_get h.2 j v x (by simpa using h1) (by simpa using h2)
  | [],_::_,h,_,_,_,_,_=>h.elim
  | _::_,[],h,_,_,_,_,_=>h.elim
theorem LentV.aggL {H:Heap}{cs ds:List V}(h:LentL H cs ds):LentV H (.agg cs) (.agg ds):=.agg (lentL_len h) (lentL_get h)
theorem LentV.ptrL {H:Heap}{sz b off:Nat}{cs ds:List V}(es:List V) (hb:H[b]?=some (.arr sz 1 (fun _=>.agg (cs++es)))) (h:LentL H cs ds):LentV H (.ptr sz b 0 off) (.ref (.agg ds) off):=.ptr hb (lentL_len h) (lentL_get h)
theorem LentV.row {α:Type}[Inhabited α] {H:Heap}{sz b n:Nat}{e:α→V}{l:List α}(hb:H[b]?=some (LB sz e l)) (hn:n=l.length) (hc:∀ y,V.closed.all (e y).cells=true):LentV H (.sl sz b 0 n) (LV sz e l):=by
  subst hn
  exact .sl hb (by omega) (fun k _=>hc _) (fun k _=>by rw [Nat.zero_add])
section
variable {X:Ctx}{I:Imm}{ρ:List (Option (Nat × Nat))}{H:Heap}{w:World}
theorem withOwn_at {b:Nat}(h:Live H ρ b) (w:World):withOwn I H ρ w b=w.heap[b]?:=by
  unfold withOwn
  rw [if_pos h]
theorem LentV.rel (hw:WOk X I ρ H w) {v x:V}(h:LentV H v x):∀ {u:Value},VRel I ρ v u→VRel (withOwn I H ρ w) [] x u:=by
  have hle:=withOwn_le hw
  induction h with
  | closed hc=>intro u hu;exact (hu.close hc).mono hle (Pre.refl _)
  | ext hg=>intro u hu;exact (hu.mono hle (Pre.refl _)).ext hg
  | nil=>intro u hu;cases hu;exact .none_list none
  | emp=>intro u hu;cases hu;exact .none_list _
  | sl hb hN hc hg =>
    intro u hu
    exact hu.lend hw hb hN hc hg hle fun cb z o h1 h2=>by rw [withOwn_at ⟨_,_,hb,by simp,z,h1⟩];exact h2
  | agg hl hv ih =>
    intro u hu
    cases hu with
    | agg h1 h2 =>
      rename_i us
      refine .agg (h1.trans hl) fun j x u' hx hu'=>?_
      rename_i cs ds
      have hlt:j<cs.length:=by rw [hl];exact (List.getElem?_eq_some_iff.1 hx).1
      exact ih j cs[j] x (by simp [hlt]) hx (h2 j cs[j] u' (by simp [hlt]) hu')
  | ptr hb hl hv ih =>
    intro u hu
    rename_i sz b off cs es ds
    obtain ⟨cb,z,rfl,hρ⟩:=hu.ptr_inv
    have hL:Live H ρ cb:=⟨_,_,hb,by simp,z,hρ⟩
    obtain ⟨us,ty,hcs,hz,hn,hr⟩:=hw.arr _ _ _ _ _ _ hb hρ
    have hcell:∀ (j:Nat) x,ds[j]?=some x→∃ u,us[j]?=some u∧VRel (withOwn I H ρ w) [] x u:=fun j x hx=>by
      have hlt:j<cs.length:=by rw [hl];exact (List.getElem?_eq_some_iff.1 hx).1
      obtain ⟨u,h3,h4⟩:=hr 0 j cs[j] Nat.one_pos (by show (cs++es)[j]?=_;rw [List.getElem?_append_left hlt];simp [hlt])
      exact ⟨u,by simpa using h3,ih j cs[j] x (by simp [hlt]) hx h4⟩
    rw [Nat.zero_mul]
    refine .ref (us:=fun j=>us.getD j undef) ⟨us,ty,(0,0),by rw [withOwn_at hL];exact hcs,fun j hj=>?_⟩ fun j x hx=>?_
    · have hj:j<ds.length:=hj
      obtain ⟨u,h3,_⟩:=hcell j ds[j] (by simp [hj])
      rw [Nat.zero_add]
      simp [h3]
    · obtain ⟨u,h3,h4⟩:=hcell j x hx
      rw [show us.getD j undef=u by simp [h3]]
      exact h4
  | elt hb hi hc =>
    intro u hu
    rename_i sz b i off N f
    obtain ⟨cb,z,rfl,hρ⟩:=hu.ptr_inv
    have hL:Live H ρ cb:=⟨_,_,hb,by simp,z,hρ⟩
    obtain ⟨us,ty,hcs,hz,hn,hr⟩:=hw.arr _ _ _ _ _ _ hb hρ
    refine .ref (us:=fun j=>us.getD (i*sz+j) undef) ⟨us,ty,(0,0),by rw [withOwn_at hL];exact hcs,fun j hj=>?_⟩ fun j x hx=>?_
    · obtain ⟨u,h3,_⟩:=hr i j (f i).cells[j] hi (by simp [hj])
      simp [h3]
    · obtain ⟨u,h3,h4⟩:=hr i j x hi hx
      rw [show us.getD (i*sz+j) undef=u by simp [h3]]
      exact (h4.close (closed_all hc hx)).mono hle (Pre.refl _)
theorem lents_rel (hw:WOk X I ρ H w):∀ {vs vs':List V}{us:List Value},LentL H vs vs'→VRels I ρ vs us.toArray→VRels (withOwn I H ρ w) [] vs' us.toArray
  | [],[],us,_,h=>⟨h.1,fun j v u hj=>by simp at hj⟩
  | v::vs,v'::vs',us,⟨ha1,ha2⟩,h=>by
    cases us with
    | nil=>have:=h.1;simp at this
    | cons u us =>
      have h1:VRels I ρ vs us.toArray:=⟨by have:=h.1;simpa using this,fun j v u hj hu=>h.2 (j+1) v u (by simpa using hj) (by simpa using hu)⟩
      have ih:=lents_rel hw ha2 h1
      refine ⟨by have:=ih.1;simpa using this,fun j x y hj hu=>?_⟩
      cases j with
      | zero=>simp at hj hu;subst hj hu;exact ha1.rel hw (h.2 0 v u rfl rfl)
      | succ j=>exact ih.2 j x y (by simpa using hj) (by simpa using hu)
  | [],_::_,_,h,_=>h.elim
  | _::_,[],_,h,_=>h.elim
end
section
variable {P:Program}{r:Option Nat}{m nt:Nat}{Q:Post}{env:Env}{H:Heap}{ops:Array Oper}{l:List Stp}{dst:Option Tmp}{ty:TypeId}{pos:String}{after:Array Edge}{guard:Option (Nat × Bool)}{keep:Bool}
theorem ls_lcall {fo:Operand}{args:List Operand}{ats:Array TypeId}{f:FuncId}{first cap vs zs:List V}{R:V→Prop}(hfn:FnOk P f) (hf:eo env fo=some (.fn (.func f) first cap)) (hargs:args.mapM (eo env)=some vs)
    (ha:LentL H (first++vs++cap) zs) (h:PCalls P f zs R) (hflat:∀ v,R v→v.flat=true):LS P r m nt keep env H ⟨dst,.call ⟨.value fo,args.toArray,ats⟩,ty,pos,after,guard⟩ (fun v H'=>R v∧H'=H) NoP:=.mk
  fun X I ρ a w next Qx hX hs hk hp=>by
    have hw:=hs.2.1
    have h1:=eo_rel hs.1 hf
    cases h1':a.eval fo<;>rw [h1'] at h1<;>cases h1
    rename_i us ws e1 e2 e3 e4
    have hrel:VRels I ρ (first++vs++cap) (us++(args.map a.eval).toArray++ws):=(VRels.append ⟨e1,e2⟩ (evals hs.1 hargs)).append ⟨e3,e4⟩
    have hrel':=lents_rel (us:=(us++(args.map a.eval).toArray++ws).toList) hw ha (by rw [Array.toArray_toList];exact hrel)
    rw [Array.toArray_toList] at hrel'
    refine wpIn_of_run (by simp) (call_run hfn h1' w) ⟨fun h=>by simp [Fw,Fence.wide] at h,callsIn_fw.2 ?_⟩
    refine (h.1 _ w _ (withOwn_ok hw) hrel').mono fun e w' ⟨v,u,I',hR,he,hv,hle,hI',hn,hb⟩=>?_
    subst he
    have hI2:∀ b o,I b=some o→w'.heap[b]?=some o:=fun b o h1=>hI' b o (hle b o (withOwn_le hw b o h1))
    exact hk I ρ H v u w' ⟨hR,rfl⟩ (Imm.le_refl _) (Pre.refl _) (hw.pure (Imm.le_refl _) hI2 (fun _ h1=>.inl h1) hb) (hv.flat (hflat v hR)) (fun _=>keeps_pure hw (Imm.le_refl _) hb)
theorem ar_lcall {i d:Nat}{fo:Operand}{args:List Operand}{ats:Array TypeId}{f:FuncId}{first cap vs zs:List V}{R:V→Prop}(hfn:FnOk P f) (hf:eo env fo=some (.fn (.func f) first cap)) (hargs:args.mapM (eo env)=some vs)
    (ha:LentL H (first++vs++cap) zs) (h:PCalls P f zs R) (hflat:∀ v,R v→v.flat=true) (hd:d<nt) (hk:∀ v,R v→AR P r m nt ops Q l ((d,v)::env) H) :
    AR P r m nt ops Q (.l i ⟨some d,.call ⟨.value fo,args.toArray,ats⟩,ty,pos,after,none⟩ keep::l) env H :=
  ar_l (ls_lcall hfn hf hargs ha h hflat) hd (fun v H' ⟨a,b⟩=>by subst b;exact hk v a) (fun _ _ h=>h.elim)
end
section
variable {P:Program}{nt:Nat}{env:Env}{H:Heap}{dst:Option Tmp}{ty:TypeId}{pos:String}{after:Array Edge}{guard:Option (Nat × Bool)}{T T':TypeId}{d:TyD}{x:Operand}{v:V}
theorem qs_nilIsNot {b:Bool}(ht:TyIs P T d) (hk:d.tk=.iface b) (hx:eo env x=some (.s .nilIface)):QS P nt env H ⟨dst,.binOp .neq T x (.const .nilIface) T',ty,pos,after,guard⟩ (.s (.bool false)):=.mk fun X I ρ a w h hw=>by
  obtain ⟨ms,hu⟩:=ht.ifacek hk
  refine ⟨_,.s _,fun w' _=>?_⟩
  have e:(Op.equal T .nilIface .nilIface).run P w'=.ok true w':=eq_nn 9999 w' hu
  have h2:a.eval (.const .nilIface)=.nilIface:=rfl
  simp [execOp,sval h hx,h2,eqGuard,binOp,e]
theorem qs_nilFuncIsNot (ht:TyIs P T d) (hk:d.tk=.func) (hx:eo env x=some (.s .nilFunc)):QS P nt env H ⟨dst,.binOp .neq T x (.const .nilFunc) T',ty,pos,after,guard⟩ (.s (.bool false)):=.mk fun X I ρ a w h hw=>by
  obtain ⟨_,_,_,hu⟩:=ht.funck hk
  refine ⟨_,.s _,fun w' _=>?_⟩
  have e:(Op.equal T .nilFunc .nilFunc).run P w'=.ok true w':=eq_ff 9999 w' hu
  have h2:a.eval (.const .nilFunc)=.nilFunc:=rfl
  simp [execOp,sval h hx,h2,eqGuard,binOp,e]
theorem qs_funcIsNot {g:Fn}{vs us:List V}(ht:TyIs P T d) (hk:d.tk=.func) (hx:eo env x=some (.fn g vs us)):QS P nt env H ⟨dst,.binOp .neq T x (.const .nilFunc) T',ty,pos,after,guard⟩ (.s (.bool true)):=.mk fun X I ρ a w h hw=>by
  obtain ⟨_,_,_,hu⟩:=ht.funck hk
  have h1:=eo_rel h hx
  cases h1':a.eval x<;>rw [h1'] at h1<;>cases h1
  rename_i fs cs _ _ _ _
  refine ⟨_,.s _,fun w' _=>?_⟩
  have e:(Op.equal T (.func g fs cs) .nilFunc).run P w'=.ok false w':=eq_fn 9999 w' hu
  have h2:a.eval (.const .nilFunc)=.nilFunc:=rfl
  simp [execOp,h1',h2,eqGuard,binOp,e]
theorem TyIs.structk {fs:List (TypeId × Nat)}(h:TyIs P T d) (hk:d.tk=.struct fs):∃ fields,P.underlying T=some (.struct fields):=by
  obtain ⟨t,h1,h2⟩:=h.desc
  rw [hk] at h2
  cases t<;>simp [TK.of] at h2
  exact ⟨_,h1⟩
theorem qs_assertS {fs:List (TypeId × Nat)}{B:TypeId}(ht:TyIs P T d) (hk:d.tk=.struct fs) (hx:eo env x=some (.iface T v)):QS P nt env H ⟨dst,.typeAssert x B T true,ty,pos,after,guard⟩ (.tup [v,.s (.bool true)]):=.mk fun X I ρ a w h hw=>by
  have h1:=eo_rel h hx
  cases h1':a.eval x<;>rw [h1'] at h1<;>cases h1
  rename_i u hu
  obtain ⟨fields,hS⟩:=ht.structk hk
  refine ⟨.tuple #[u,.bool true],.tup rfl (fun j v' u' h h'=>?_),fun w' _=>?_⟩
  · match j with
    | 0=>simp at h h';subst h h';exact hu
    | 1=>simp at h h';subst h h';exact .s _
    | j+2=>simp at h
  · simp [execOp,h1',Instr.typeAssert,run_underlying hS]
theorem qs_makeInterfaceS {fs:List (TypeId × Nat)}(ht:TyIs P T d) (hk:d.tk=.struct fs) (hx:eo env x=some v):QS P nt env H ⟨dst,.makeInterface T x,ty,pos,after,guard⟩ (.iface T v):=.mk fun X I ρ a w h hw=>by
  obtain ⟨fields,hS⟩:=ht.structk hk
  exact ⟨_,.iface (eo_rel h hx),fun w' _=>by simp [execOp,Instr.makeInterface,run_underlying hS]⟩
theorem qs_assertN {fs:List (TypeId × Nat)}{B:TypeId}(ht:TyIs P T d) (hk:d.tk=.struct fs) (hx:eo env x=some (.s .nilIface)):QS P nt env H ⟨dst,.typeAssert x B T true,ty,pos,after,guard⟩ (.tup [constV d.zero,.s (.bool false)]):=.mk fun X I ρ a w h hw=>by
  obtain ⟨fields,hS⟩:=ht.structk hk
  refine ⟨.tuple #[d.zero,.bool false],.tup rfl (fun j v' u' h h'=>?_),fun w' _=>?_⟩
  · match j with
    | 0=>simp at h h';subst h h';exact constV_rel _ _ _
    | 1=>simp at h h';subst h h';exact .s _
    | j+2=>simp at h
  · simp [execOp,sval h hx,Instr.typeAssert,run_underlying hS,ht.zeroV]
end
section
variable {P:Program}{H:Heap}{ty:TypeId}{pos:String}{after:Array Edge}
theorem rec_ops2 {o:Oper}{k j:Nat}{y:Value}{cs cs':List Frame}{a:Act}{w:World}{Q:Exit→Act→List Frame→World→Prop}{ty2:TypeId}{pos2:String}{after2:Array Edge}(hg:o.guard=none) (hd:o.dst=some k) (he:(execOp a.eval o).run P w=.ok .recover w) (hk:k<a.tmps.size) (hr:(recoverD cs=some (y,cs'))∨(recoverD cs=none∧y=.nilIface∧cs'=cs))
    (h:Q .normal ((a.put (some k) y).put (some j) y) cs' w):wpOpsSIn Fence.wide 0 P #[o,⟨some j,.assign (.tmp k),ty2,pos2,after2,none⟩] Q (List.range 2) a cs w:=by
  show wpOpsSIn Fence.wide 0 P #[o,⟨some j,.assign (.tmp k),ty2,pos2,after2,none⟩] Q [0,1] a cs w
  have h0:(#[o,⟨some j,.assign (.tmp k),ty2,pos2,after2,none⟩]:Array Oper)[0]?=some o:=rfl
  have h1:(#[o,⟨some j,.assign (.tmp k),ty2,pos2,after2,none⟩]:Array Oper)[1]?=some ⟨some j,.assign (.tmp k),ty2,pos2,after2,none⟩:=rfl
  have hev:(a.put (some k) y).eval (.tmp k)=y:=by simp [Act.put,Act.eval,hk]
  have next:wpOpsSIn Fence.wide 0 P #[o,⟨some j,.assign (.tmp k),ty2,pos2,after2,none⟩] Q [1] (a.put (some k) y) cs' w:=by
    simp only [wpOpsSIn,h1]
    refine ⟨fun _ _=>trivial,?_⟩
    rw [if_pos (wanted_none rfl)]
    have hx:(execOp (a.put (some k) y).eval ⟨some j,.assign (.tmp k),ty2,pos2,after2,none⟩).run P w=.ok (.value y) w:=by simp [execOp,hev]
    simp only [hx]
    exact h
  rw [wpOpsSIn]
  simp only [h0]
  refine ⟨fun _ _=>trivial,?_⟩
  rw [if_pos (wanted_none hg)]
  simp only [he,hd]
  rcases hr with h1|⟨h1,rfl,rfl⟩
  · simp only [h1]
    exact next
  · simp only [h1]
    exact next
theorem dcalls_of_aw2 {g:FuncId}{fn:Func}{id k j:Nat}{ty2:TypeId}{pos2:String}{after2:Array Edge}{c:Code}{args:List V}{pan:Option V}{R:Heap→Prop}(ats:Array TypeId) (hf:P.funcs[g]?=some fn)
    (hb:fn.body=some (.seq (.region id #[⟨some k,.call ⟨.builtin .recover,#[],ats⟩,ty,pos,after,none⟩,⟨some j,.assign (.tmp k),ty2,pos2,after2,none⟩] false) c)) (hn:args.length≤fn.ntmps) (hk:k<fn.ntmps) (hj:j<fn.ntmps) (hr:fn.results=#[]) (hp:∀ v,pan=some v→∃ t y,v=.iface t y)
    (h:Pn.AW fn.ntmps true P none H.length fn.ntmps c (DQ R) ((j,pan.getD (.s .nilIface))::(k,pan.getD (.s .nilIface))::argEnv args 0) H):DCalls P g args H pan R:=by
  refine ⟨fun X I ρ w us u hw hv hm=>callsDIn_of_wpSIn hf hb trivial fun c₀ cs hu=>wpSIn_seq (wpSIn_region ?_)⟩
  have key:∃ y u1,VRel I ρ (pan.getD (.s .nilIface)) y∧settle u1=.returning∧((recoverD (c₀::cs)=some (y,{ c₀ with mode:=u1 }::cs))∨(recoverD (c₀::cs)=none∧y=.nilIface∧u1=c₀.mode)):=by
    cases pan with
    | none =>
      have hu0:c₀.mode=.returning:=hu.trans hm
      exact ⟨.nilIface,.returning,.s _,rfl,.inr ⟨by simp [recoverD,hu0],rfl,hu0.symm⟩⟩
    | some v =>
      obtain ⟨y,hy,hu1⟩:=hm
      have hu0:=hu.trans hu1
      exact ⟨y,.panicking [{ v:=y,recovered:=true }],hy,by simp [settle],.inl (by simp [recoverD,hu0])⟩
  obtain ⟨y,u1,hy,hs1,hrec⟩:=key
  let a0:Act:={ tmps:=us++Array.replicate (fn.ntmps-us.size) undef,defers:=[] }
  have hsz0:us.size≤fn.ntmps:=by rw [hv.1];exact hn
  refine rec_ops2 (y:=y) (cs':={ c₀ with mode:=u1 }::cs) rfl rfl (by simp [execOp,resolve,invoke,builtin]) (by show k<(us++Array.replicate (fn.ntmps-us.size) undef).size;rw [Array.size_append,Array.size_replicate];omega) ?_ ?_
  · rcases hrec with h1|⟨h1,h2,h3⟩
    · exact .inl h1
    · exact .inr ⟨h1,h2,by rw [h3]⟩
  refine wpSIn_of_wpIn rfl ?_
  have hsz:us.size≤fn.ntmps:=by rw [hv.1];exact hn
  have hst:St (Ctx.self w ρ H I) fn.ntmps ((j,pan.getD (.s .nilIface))::(k,pan.getD (.s .nilIface))::argEnv args 0) H I ρ ((a0.put (some k) y).put (some j) y) w:=⟨((argEnv_ok hv hsz).put hy hk).put hy hj,hw.self,DOk.nil rfl⟩
  have hpin:(⟨fn.ntmps,undef,some []⟩:Pin).Ok ((a0.put (some k) y).put (some j) y):=by
    refine ⟨?_,fun ds e=>by cases e;rfl⟩
    have hsz2:((a0.put (some k) y).put (some j) y).tmps.size=fn.ntmps:=hst.1.1
    simp [Array.getD,hsz2]
  refine wpIn_mono (h.1 (Ctx.self w ρ H I) I ρ _ w _ rfl rfl hw.len hst hpin) fun e a' w' hl=>?_
  have fin:∀ env' H' I' ρ',St (Ctx.self w ρ H I) fn.ntmps env' H' I' ρ' a' w'→(⟨fn.ntmps,undef,some []⟩:Pin).Ok a'→R H'→a'.defers=[]∧∃ u',({ c₀ with mode:=u1 }::cs:List Frame)={ c₀ with mode:=u' }::cs∧∃ v,(results fn a'.tmps).run P w'=.ok v w'∧(∃ x I' ρ' H',I.le I'∧Pre ρ ρ'∧WOk X I' ρ' H' w'∧Ending.returned v=.returned x∧settle u'=.returning∧R H'):=by
    intro env' H' I' ρ' hs ha hR
    refine ⟨ha.2 [] rfl,u1,rfl,.tuple #[],?_,.tuple #[],I',ρ',H',hs.2.1.le,hs.2.1.pre,hw.trans hs.2.1,rfl,hs1,hR⟩
    unfold results
    rw [hr]
    simp
  cases e with
  | normal=>obtain ⟨⟨env',H',I',ρ',hs,hq⟩,ha⟩:=hl;exact fin env' H' I' ρ' hs ha hq
  | ret=>obtain ⟨⟨env',H',I',ρ',hs,hq⟩,ha⟩:=hl;exact fin env' H' I' ρ' hs ha hq
  | exit id=>obtain ⟨⟨env',H',I',ρ',hs,hq⟩,ha⟩:=hl;exact hq.elim
  | goto id=>obtain ⟨⟨env',H',I',ρ',hs,hq⟩,ha⟩:=hl;exact hq.elim
  | panic ch=>obtain ⟨⟨v,u,H',I',ρ',_,_,_,_,hq⟩,ha⟩:=hl;exact hq.elim
  | outgrown=>exact hl.elim
end
theorem hfromF_p (lo hi n:Int):PCalls Tryz.prog 51 [vi n,.ref (vi lo) 0,.ref (vi hi) 0] (·=vb (outB lo hi n)):=by
  refine pcalls_of_aw Tryz.func51 rfl (dc rfl) ?_
  (repeat' (first|(refine ar_isq ?_;refine zq ?_)|refine zg ?_ ?_|refine zgu ?_|refine zst ?_|refine zco ?_ ?_|exact zd|(refine fun (hg:(_:Prop))=>?_;(try replace hg:=HG.out hg);(try dsimp only at hg);(try (have _h:True:=hg;clear _h hg)))))
  all_goals (refine aw_ret ?_;(repeat (first|refine ret_then ?_|refine ret_block ?_));refine bq1 rfl ⟨?_,rfl⟩)
  all_goals (simp only [vb,constV,outB];congr 2;simp;try omega)
theorem hfrom_p (lo hi:Int) (l:List Int):PCalls Tryz.prog 27 [vi lo,vi hi,encInts l] (·=vb (fromB lo hi l)):=by
  refine pcalls_of_aw Tryz.func27 rfl (dc rfl) ?_
  ((repeat refine aw_seq ?_);(first|(refine aw_region ?_));(repeat' (first|(refine ar_isq ?_;refine zq ?_)|refine zsr ?_)))
  (refine aw_mono_r (env':=[(0,vi lo),(1,vi hi),(2,encInts l),(3,.ref (vi lo) 0),(4,.ref (vi hi) 0)]) (H':=[]) ?_ ?_;(focus (exact zsb [] [0,1])))
  (repeat' (first|(refine ar_isq ?_;refine zq ?_)|(refine zpv fn50 (containsInts_p l fn51 rfl _ (fun x _=>hfromF_p lo hi x)) ?_)|refine zst ?_|refine zco ?_ ?_|exact zd|(refine fun (hg:(_:Prop))=>?_;(try replace hg:=HG.out hg);(try dsimp only at hg);(try (have _h:True:=hg;clear _h hg)))))
  (refine aw_ret ?_;(repeat (first|refine ret_then ?_|refine ret_block ?_));refine bq1 rfl ⟨?_,rfl⟩)
  rw [← any_out]
  rfl
def refV (e:Int):V:=.iface 112 (.agg [vi e])
theorem must_p (b:Bool) (e:Int):ACalls Tryz.prog 40 [vb b,vi e] [] (fun v H=>b=true∧v=.tup []∧H=[]) (fun v _=>b=false∧v=refV e):=by
  refine acalls_of_aw Tryz.func40 rfl (dc rfl) ?_
  (repeat' (first|(refine ar_isq ?_;refine zq ?_)|(refine zbt ?_)|refine ar_q (qs_makeInterfaceS (ty rfl) rfl rfl) (dc rfl) ?_|refine ar_panic rfl ?_|refine zst ?_|refine zco ?_ ?_|exact zd|(refine fun (hg:(_:Prop))=>?_;(try replace hg:=HG.out hg);(try dsimp only at hg);(try (have _h:True:=hg;clear _h hg)))))
  · exact (⟨by simp_all,rfl⟩:b=false∧refV e=refV e)
  · exact bq0n ⟨by simp_all,rfl,rfl⟩
section
variable {r:Option Nat}{m nt i d:Nat}{Q:Post}{env:Env}{H:Heap}{ops:Array Oper}{L:List Stp}{ty:TypeId}{pos:String}{after:Array Edge}{ats:Array TypeId}{x y z:Operand}
theorem ar_must {b:Bool}{e:Int}(h1:b=true→AR Tryz.prog r m nt ops Q L ((d,.tup [])::env) H) (h2:b=false→∀ H',Q (.panic (refV e)) [] H') (hx:eo env x=some (.s (.bool b)):=by exact rfl) (hy:eo env y=some (.s (.int .i64 e)):=by exact rfl) (hd:d<nt:=by exact dc rfl) :
    AR Tryz.prog r m nt ops Q (.l i ⟨some d,.call ⟨.value (.func 40),#[x,y],ats⟩,ty,pos,after,none⟩ false::L) env H:=by
  refine ar_gcall0 (args:=[x,y]) (vs:=[vb b,vi e]) (first:=[]) (cap:=[]) fn40 rfl (by rw [List.mapM_cons,List.mapM_cons,List.mapM_nil,hx,hy];rfl) [vb b,vi e] ⟨.closed rfl,.closed rfl,trivial⟩ (must_p b e) hd ?_ ?_
  · rintro _ _ ⟨hb,rfl,rfl⟩
    have:H++List.map (Blk.ren (rn [] H.length)) []=H:=by simp
    rw [this]
    exact h1 hb
  · rintro _ _ ⟨hb,rfl⟩
    exact h2 hb _
end
theorem fn1_sub {H:Heap}{σ:List (Option Nat)}{fr:Nat→Prop}{a a':V}{f:Fn}(ha:VSub H σ fr a a'):VSub H σ fr (.fn f [] [a]) (.fn f [] [a']) :=
  .fn rfl (fun j v x h1 _=>by simp at h1) rfl (fun j v x h1 h2=>by
    cases j with
    | zero=>simp at h1 h2;subst h1 h2;exact ha
    | succ j=>simp at h1)
theorem from1_p (lo hi x:Int):PCalls Tryz.prog 47 [vi lo,vi hi,encInts [x]] (·=vb (withinB x lo hi)):=(from_p lo hi [x]).mono fun v hv=>by rw [hv];simp [fromB]
theorem proofErr_check {s:Sheet}{b:List (List Int)}{g:Int}(h:checkErr s b≠0):proofErr s b g=checkErr s b:=by simp [proofErr,h]
theorem proofErr_arg {s:Sheet}{b:List (List Int)}{g:Int}(h:checkErr s b=0) (h2:withinB g 0 20=false):proofErr s b g=2:=by simp [proofErr,h,h2]
theorem proofErr_ok {s:Sheet}{b:List (List Int)}{g:Int}(h:checkErr s b=0) (h2:withinB g 0 20=true):proofErr s b g=0:=by simp [proofErr,h,h2]
theorem proofF_bad {s:Sheet}{b:List (List Int)}{g:Int}{m:Bool}(h:proofErr s b g≠0):proofF s b g m=[]:=by simp [proofF,h]
theorem proofF_ok {s:Sheet}{b:List (List Int)}{g:Int}{m:Bool}(h:proofErr s b g=0):proofF s b g m=proofTo s b g m (s.rows.toNat*s.cols.toNat):=by simp [proofF,h]
theorem pCol_int {s:Sheet}{m:Bool}{c:Nat}(h:c<s.cols.toNat):(pCol s m c:Int)=if m=true then s.cols-1-c else (c:Int):=by unfold pCol;split<;>omega
theorem lProof_p (s:Sheet) (b:List (List Int)) (g:Int) (m:Bool):PCalls Tryz.prog 45 [s.enc,encRows b,vi g,vb m] (·=.tup [encBools (proofF s b g m),vi (proofErr s b g)]):=by
  by_cases hce:checkErr s b=0
  · cases hok:withinB g 0 20
    · have he:=proofErr_arg hce hok
      rw [proofF_bad (by omega),he]
      refine pcalls_of_aw Tryz.func45 rfl (dc rfl) ?_
      (repeat' (first|(refine ar_isq ?_;refine zq ?_)|(refine zpv fn9 (check_p s b) ?_)|(refine ar_pcall (own:=true) fn47 rfl rfl (.cons (.closed rfl) (.cons (.closed rfl) (.cons (.lent rfl rfl (by omega) (fun _ _=>rfl) (fun k hk=>match k,hk with|0,_=>rfl)) .nil))) (from1_p 0 20 g) (by intros;subst_vars;rfl) (dc rfl) ?_;intro _ hv;subst hv)|refine zst ?_|refine zco ?_ ?_|exact zd|(refine fun (hg:(_:Prop))=>?_;(try replace hg:=HG.out hg);(try dsimp only at hg);(try (have _h:True:=hg;clear _h hg)))))
      all_goals first
        | (exfalso;simp_all;done)
        | ((refine aw_mono_r (env':=[(8,encBools []),(9,vi 2)]) (H':=[]) ?_ ?_;(focus (exact zsb [] [])));(refine aw_ret ?_;(repeat (first|refine ret_then ?_|refine ret_block ?_));refine bq2 rfl rfl ⟨?_,rfl⟩);rfl)
    · have he:=proofErr_ok hce hok
      rw [proofF_ok he,he]
      obtain ⟨hs,h12,hl⟩:=band_of_check hce
      have hbd:=Sheet.bounds hs
      have hgb:=withinB_iff.1 hok
      have hN:s.rows.toNat*s.cols.toNat≤60*40:=Nat.mul_le_mul (by omega) (by omega)
      have hmk:s.cols*s.rows=((s.rows.toNat*s.cols.toNat:Nat):Int):=by
        rw [Int.natCast_mul,Int.toNat_of_nonneg (by omega),Int.toNat_of_nonneg (by omega),Int.mul_comm]
      have hq:∀ (r c:Nat),r<s.rows.toNat→c<s.cols.toNat→r*s.cols.toNat+c<s.rows.toNat*s.cols.toNat:=fun r c hr hc=>by
        have h1:(r+1)*s.cols.toNat≤s.rows.toNat*s.cols.toNat:=Nat.mul_le_mul_right _ hr
        rw [Nat.add_mul,Nat.one_mul] at h1
        omega
      have hmu:∀ r:Nat,(r:Int)*s.cols=((r*s.cols.toNat:Nat):Int):=fun r=>by rw [Int.natCast_mul,Int.toNat_of_nonneg (by omega)]
      have hdiv:∀ j,j<s.rows.toNat*s.cols.toNat→((j/s.cols.toNat:Nat):Int)<s.rows:=fun j hj=>by
        have:=(Nat.div_lt_iff_lt_mul (show 0<s.cols.toNat by omega)).2 hj
        omega
      refine pcalls_of_aw Tryz.func45 rfl (dc rfl) ?_
      (repeat' (first|(refine ar_isq ?_;refine zq ?_)|(refine zpv fn9 (check_p s b) ?_)|(refine ar_pcall (own:=true) fn47 rfl rfl (.cons (.closed rfl) (.cons (.closed rfl) (.cons (.lent rfl rfl (by omega) (fun _ _=>rfl) (fun k hk=>match k,hk with|0,_=>rfl)) .nil))) (from1_p 0 20 g) (by intros;subst_vars;rfl) (dc rfl) ?_;intro _ hv;subst hv)|(refine ar_make_v (n:=s.rows.toNat*s.cols.toNat) (ty rfl) rfl (ty rfl) rfl rfl (by omega) (by omega) (dc rfl) rfl rfl (by dsimp only;omega) (maxLen_ok (by omega)) ?_)|refine zst ?_|refine zco ?_ ?_|exact zd|(refine fun (hg:(_:Prop))=>?_;(try replace hg:=HG.out hg);(try dsimp only at hg);(try (have _h:True:=hg;clear _h hg)))))
      all_goals (try (exfalso;simp_all;done))
      refine aw_for b.length (fun _=>True) (fun i=>[(1,encRows b),(2,vi g),(3,vb m),(4,.ptr 5 0 0 0),(11,.sl 1 1 0 (s.rows.toNat*s.cols.toNat)),(33,encRows b),(34,vi b.length),(35,vi i)]) (fun i=>[.arr 5 1 (fun _=>s.enc),.arr 1 (s.rows.toNat*s.cols.toNat) (fun j=>vb (stLine s b g m i j))]) trivial ?_ ?_
      · (exact zsb [some 0,some 2] [])
      intro i hi _
      by_cases hlti:i<b.length
      · have hli:=of_all_el hl hlti
        have hln:=isLine_len hli
        (repeat' (first|(refine ar_isq ?_;refine zq ?_)|refine zst ?_|refine zco ?_ ?_|exact zd|(refine fun (hg:(_:Prop))=>?_;(try replace hg:=HG.out hg);(try dsimp only at hg);(try (have _h:True:=hg;clear _h hg)))))
        all_goals (try (exfalso;omega))
        refine aw_for (el b i).length (fun _=>True) (fun c=>[(1,encRows b),(2,vi g),(3,vb m),(4,.ptr 5 0 0 0),(11,.sl 1 1 0 (s.rows.toNat*s.cols.toNat)),(33,encRows b),(34,vi b.length),(35,vi i),(39,encInts (el b i)),(40,vi (el b i).length),(41,vi c)]) (fun c=>[.arr 5 1 (fun _=>s.enc),.arr 1 (s.rows.toNat*s.cols.toNat) (fun j=>vb (stCol s b g m i c j))]) trivial ?_ ?_
        · (refine sub_to [some 0,some 1] [] rfl ?_ ?_<;>(repeat' (first|exact trivial|refine ⟨⟨_,rfl,?_⟩,?_⟩|refine vs1 ?_ ?_|refine vs2 ?_ ?_|refine vs3 ?_|refine vs4 ?_ ?_|refine ⟨.inl ⟨_,_,rfl,rfl,?_⟩,?_⟩|exact ⟨.inr ⟨rfl,rfl⟩,trivial⟩|refine ⟨.inr ⟨rfl,rfl⟩,?_⟩|(intro _ _)|exact vz1|(exact VSub.of_eq (congrArg vb (stCol_zero _ _ _ _ _ _).symm) rfl)|exact vz2|fail)))
        intro c hc _
        by_cases hltc:c<(el b i).length
        · have hlc:=isLine_at hli hltc
          have hcc:c<s.cols.toNat:=by omega
          have hpcT:m=true→(pCol s m c:Int)=s.cols-1-c:=fun h=>by rw [pCol_int hcc,if_pos h]
          have hpcF:m=false→(pCol s m c:Int)=c:=fun h=>by rw [pCol_int hcc,if_neg (by simp [h])]
          have hpl:=pCol_lt (m:=m) hcc
          obtain ⟨R0,hR0⟩:∃ R0:Nat,(R0:Int)=max (el (el b i) c-g) 0:=⟨(max (el (el b i) c-g) 0).toNat,by omega⟩
          obtain ⟨cnt,hcnt⟩:∃ cnt:Nat,((R0+cnt:Nat):Int)=min (el (el b i) c+s.weight-1+g) (s.rows-1)+1:=⟨(min (el (el b i) c+s.weight-1+g) (s.rows-1)+1-R0).toNat,by omega⟩
          have hstart:∀ j,vb (stCol s b g m i c j)=vb (stRow s b g m i c (R0+0) j):=fun j=>congrArg vb (stRow_zero (by omega)).symm
          (repeat' (first|(refine ar_isq ?_;refine zq ?_)|refine zil (j:=c) ?_|refine zis (j:=c) ?_|refine zit (j:=c) ?_|refine zst ?_|refine zco ?_ ?_|exact zd|(refine fun (hg:(_:Prop))=>?_;(try replace hg:=HG.out hg);(try dsimp only at hg);(try (have _h:True:=hg;clear _h hg)))))
          all_goals (try (exfalso;omega))
          all_goals
            refine aw_for cnt (fun _=>True) (fun k=>[(1,encRows b),(2,vi g),(3,vb m),(4,.ptr 5 0 0 0),(11,.sl 1 1 0 (s.rows.toNat*s.cols.toNat)),(33,encRows b),(34,vi b.length),(35,vi i),(39,encInts (el b i)),(40,vi (el b i).length),(41,vi c),(14,vi (pCol s m c)),(15,vi (el (el b i) c)),(16,vi ((R0+k:Nat):Int))]) (fun k=>[.arr 5 1 (fun _=>s.enc),.arr 1 (s.rows.toNat*s.cols.toNat) (fun j=>vb (stRow s b g m i c (R0+k) j))]) trivial ?_ ?_
            · (refine sub_to [some 0,some 1] [] rfl ?_ ?_<;>(repeat' (first|exact trivial|refine ⟨⟨_,rfl,?_⟩,?_⟩|refine vs1 ?_ ?_|refine vs2 ?_ ?_|refine vs3 ?_|refine vs4 ?_ ?_|refine ⟨.inl ⟨_,_,rfl,rfl,?_⟩,?_⟩|exact ⟨.inr ⟨rfl,rfl⟩,trivial⟩|refine ⟨.inr ⟨rfl,rfl⟩,?_⟩|(intro _ _)|exact vz1|(first|exact siEq (by omega)|exact siEq (by have:=hpcT (by assumption);omega)|exact siEq (by have:=hpcF (by assumption);omega)|exact VSub.of_eq (hstart _) rfl)|exact vz2|fail)))
            intro k hk _
            by_cases hltk:k<cnt
            · have hrk:R0+k<s.rows.toNat:=by omega
              have hidx:=hq (R0+k) (pCol s m c) hrk hpl
              have hm2:=hmu (R0+k)
              have hst:∀ j,_:=fun j=>stRow_succ (s:=s) (b:=b) (g:=g) (m:=m) (i:=i) (c:=c) (r:=R0+k) (j:=j) hcc (by omega) (by omega)
              have hst1:vb (stRow s b g m i c (R0+k+1) ((R0+k)*s.cols.toNat+pCol s m c))=vb true:=by rw [← hst];simp
              have hst2:∀ j,j≠(R0+k)*s.cols.toNat+pCol s m c→vb (stRow s b g m i c (R0+k+1) j)=vb (stRow s b g m i c (R0+k) j):=fun j hj=>by
                rw [← hst,show Nat.beq j ((R0+k)*s.cols.toNat+pCol s m c)=false by cases q:Nat.beq j ((R0+k)*s.cols.toNat+pCol s m c) with|false=>rfl|true=>exact (hj (Nat.eq_of_beq_eq_true q)).elim]
                rfl
              (repeat' (first|(refine ar_isq ?_;refine zq ?_)|refine zil (j:=(R0+k)*s.cols.toNat+pCol s m c) ?_|refine zis (j:=(R0+k)*s.cols.toNat+pCol s m c) ?_|refine zit (j:=(R0+k)*s.cols.toNat+pCol s m c) ?_|(refine ar_store_as (fun j=>vb (stRow s b g m i c (R0+k+1) j)) (ty rfl) rfl rfl rfl rfl rfl rfl (by omega) (by dsimp only;omega) (fun _ h=>by cases h) rfl rfl (fun _ h=>by cases h) hst1 (fun j _ hj=>hst2 j hj) ?_)|refine zst ?_|refine zco ?_ ?_|exact zd|(refine fun (hg:(_:Prop))=>?_;(try replace hg:=HG.out hg);(try dsimp only at hg);(try (have _h:True:=hg;clear _h hg)))))
              all_goals first
                | (exfalso;omega)
                | ((first|refine loop_next (by omega) ?_ ?_|refine (show _∧_∧SubOf _ _ _ _ _ _ from And.intro (by omega) (And.intro ?_ ?_)));(focus ((trivial);done));(focus (exact zsb [some 0,some 1] [])))
            · (repeat' (first|(refine ar_isq ?_;refine zq ?_)|refine zst ?_|refine zco ?_ ?_|exact zd|(refine fun (hg:(_:Prop))=>?_;(try replace hg:=HG.out hg);(try dsimp only at hg);(try (have _h:True:=hg;clear _h hg)))))
              all_goals first
                | (exfalso;omega)
                | ((first|refine loop_next (by omega) ?_ ?_|refine (show _∧_∧SubOf _ _ _ _ _ _ from And.intro (by omega) (And.intro ?_ ?_)));(focus ((trivial);done));(focus ((refine sub_to [some 0,some 1] [] rfl ?_ ?_<;>(repeat' (first|exact trivial|refine ⟨⟨_,rfl,?_⟩,?_⟩|refine vs1 ?_ ?_|refine vs2 ?_ ?_|refine vs3 ?_|refine vs4 ?_ ?_|refine ⟨.inl ⟨_,_,rfl,rfl,?_⟩,?_⟩|exact ⟨.inr ⟨rfl,rfl⟩,trivial⟩|refine ⟨.inr ⟨rfl,rfl⟩,?_⟩|(intro _ _)|exact vz1|(exact VSub.of_eq (congrArg vb (stRow_end (hdiv _ (by assumption)) (by omega))) rfl)|exact vz2|fail)));done)))
        · (repeat' (first|(refine ar_isq ?_;refine zq ?_)|refine zst ?_|refine zco ?_ ?_|exact zd|(refine fun (hg:(_:Prop))=>?_;(try replace hg:=HG.out hg);(try dsimp only at hg);(try (have _h:True:=hg;clear _h hg)))))
          all_goals first
            | (exfalso;omega)
            | ((first|refine loop_next (by omega) ?_ ?_|refine (show _∧_∧SubOf _ _ _ _ _ _ from And.intro (by omega) (And.intro ?_ ?_)));(focus ((trivial);done));(focus ((refine sub_to [some 0,some 1] [] rfl ?_ ?_<;>(repeat' (first|exact trivial|refine ⟨⟨_,rfl,?_⟩,?_⟩|refine vs1 ?_ ?_|refine vs2 ?_ ?_|refine vs3 ?_|refine vs4 ?_ ?_|refine ⟨.inl ⟨_,_,rfl,rfl,?_⟩,?_⟩|exact ⟨.inr ⟨rfl,rfl⟩,trivial⟩|refine ⟨.inr ⟨rfl,rfl⟩,?_⟩|(intro _ _)|exact vz1|(exact VSub.of_eq (congrArg vb (stCol_end (by omega) (by omega) hlti)) rfl)|exact vz2|fail)));done)))
      · (repeat' (first|(refine ar_isq ?_;refine zq ?_)|refine zst ?_|refine zco ?_ ?_|exact zd|(refine fun (hg:(_:Prop))=>?_;(try replace hg:=HG.out hg);(try dsimp only at hg);(try (have _h:True:=hg;clear _h hg)))))
        all_goals first
          | (exfalso;omega)
          | ((refine aw_mono_r (env':=[(8,encBools (proofTo s b g m (s.rows.toNat*s.cols.toNat))),(9,vi 0)]) (H':=[]) ?_ ?_;(focus ((refine sub_to [] [1] rfl ?_ ?_<;>(repeat' (first|exact trivial|refine ⟨⟨_,rfl,?_⟩,?_⟩|refine vs1 ?_ ?_|refine vs2 ?_ ?_|refine vs3 ?_|refine vs4 ?_ ?_|refine ⟨.inl ⟨_,_,rfl,rfl,?_⟩,?_⟩|exact ⟨.inr ⟨rfl,rfl⟩,trivial⟩|refine ⟨.inr ⟨rfl,rfl⟩,?_⟩|(intro _ _)|exact vz1|(exact frz_as (by simp) rfl rfl (proofTo_len _ _ _ _ _) (fun j hj=>by rw [proofTo_el hj,stLine_end (by omega)]) (fun _=>rfl))|exact vz2|fail)));done)));(refine aw_ret ?_;(repeat (first|refine ret_then ?_|refine ret_block ?_));refine bq2 rfl rfl ⟨?_,rfl⟩);rfl)
  · have he:=proofErr_check (g:=g) hce
    rw [proofF_bad (by omega),he]
    refine pcalls_of_aw Tryz.func45 rfl (dc rfl) ?_
    (repeat' (first|(refine ar_isq ?_;refine zq ?_)|(refine zpv fn9 (check_p s b) ?_)|refine zst ?_|refine zco ?_ ?_|exact zd|(refine fun (hg:(_:Prop))=>?_;(try replace hg:=HG.out hg);(try dsimp only at hg);(try (have _h:True:=hg;clear _h hg)))))
    all_goals first
      | (exfalso;omega)
      | ((refine aw_mono_r (env':=[(8,encBools []),(9,vi (checkErr s b))]) (H':=[]) ?_ ?_;(focus (exact zsb [] [])));(refine aw_ret ?_;(repeat (first|refine ret_then ?_|refine ret_block ?_));refine bq2 rfl rfl ⟨?_,rfl⟩);rfl)
end Go.Proofs.YtloaefllpokkaaaGreat
