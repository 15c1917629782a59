/- Parts of the proof: contracts of functions. No condition. -/
import Derived.Test.YtbilpbabdgfblaaGreatKLi13
set_option maxHeartbeats 16000000
set_option linter.unusedSimpArgs false
set_option linter.unusedVariables false
namespace Go.Proofs.YtbilpbabdgfblaaGreat.Im
open Go.RowKit
structure Cx (P:Program) where
  l:Nat
  I:Imm
  J:Option Nat→World→Prop
  B:Nat
  N:Nat
  el:Nat→List Value
  stable:∀ k W1 W2 row,J (some k) W1→W1.grownBy W2 row→RowMap B W1 row→J (some k) W2
  round:∀ k W1,J (some k) W1→k<N→YieldAt Fence.wide 0 P l (el k).toArray W1 fun e W'=>((e=.returned (.bool true)∧J (some (k+1)) W')∨(e=.returned (.bool false)∧J none W'))∧KpI I W1 W'∧KpW B W1 W'
abbrev Post:=AE→Env→Heap→Option Nat→Prop
def Own (B:Nat) (ρ:List (Option (Nat × Nat))):Prop:=∀ (j b z:Nat),ρ[j]?=some (some (b,z))→B≤b
def OnlyMap (H:Heap):Prop:=H.length≤1∧∀ blk∈H,∃ m,blk=.map m
theorem only_nil:OnlyMap []:=⟨by simp,fun blk h=>by simp at h⟩
theorem only_map {m:List (Value × V)}:OnlyMap [.map m]:=⟨by simp,fun blk h=>by simp at h;exact ⟨_,h⟩⟩
theorem only_mapE {α:Type}{e:α→V}{l:List (Int × α)}:OnlyMap [mapE e l]:=only_map
section
variable {P:Program}(C:Cx P)
def St (nt:Nat) (env:Env) (H:Heap) (k:Option Nat) (ρ:List (Option (Nat × Nat))) (a:Act) (w:World):Prop:=EnvOk C.I ρ nt env a∧WOk (Ctx.self w ρ H C.I) C.I ρ H w∧Own C.B ρ∧a.defers=[]∧C.J k w∧(k=some 0→H=[]→C.B≤w.heap.size)
def Lift (nt:Nat) (Q:Post):Exit→Act→World→Prop
  | .normal,a,w=>∃ env H k ρ,St C nt env H k ρ a w∧Q .normal env H k
  | .exit id,a,w=>∃ env H k ρ,St C nt env H k ρ a w∧Q (.exit id) env H k
  | .goto l,a,w=>∃ env H k ρ,St C nt env H k ρ a w∧Q (.goto l) env H k
  | .ret,a,w=>∃ env H k ρ,St C nt env H k ρ a w∧Q .ret env H k
  | .panic _,_,_=>False
  | .outgrown,_,_=>False
structure AW (nt:Nat) (c:Code) (Q:Post) (env:Env) (H:Heap) (k:Option Nat):Prop where
  out:∀ ρ a w,St C nt env H k ρ a w→c.wpIn (Fw none) 0 P (Lift C nt Q) a w
structure AR (nt:Nat) (ops:Array Oper) (Q:Post) (l:List Stp) (env:Env) (H:Heap) (k:Option Nat):Prop where
  out:∀ ρ a w,St C nt env H k ρ a w→runP P none ops (Lift C nt Q) l (Keeps C.I ρ H w) a w
end
def thenP (next:Env→Heap→Option Nat→Prop) (Q:Post):Post
  | .normal,env,H,k=>next env H k
  | e,env,H,k=>Q e env H k
def inBlockP (id:Nat) (Q:Post):Post
  | .exit id',env,H,k=>bif Nat.beq id' id then Q .normal env H k else Q (.exit id') env H k
  | e,env,H,k=>Q e env H k
def Has (env:Env):Env→Prop
  | []=>True
  | (t,v)::l=>look env t=some v∧Has env l
theorem has_look {env:Env}:∀ {e:Env}{t:Nat}{v:V},Has env e→look e t=some v→look env t=some v
  | [],_,_,_,h=>by simp [look] at h
  | (k,y)::l,t,v,hs,h=>by
    rw [look_cons] at h
    split at h
    · rename_i e;subst e;cases h;exact hs.1
    · exact has_look hs.2 h
structure LSI (P:Program) (nt:Nat) (env:Env) (H:Heap) (o:Oper) (R:V→Heap→Prop):Prop where
  out:∀ I ρ a w next Qx,EnvOk I ρ nt env a→WOk (Ctx.self w ρ H I) I ρ H w→(∀ ρ' H' v u w',R v H'→Pre ρ ρ'→WOk (Ctx.self w ρ H I) I ρ' H' w'→VRel I ρ' v u→next (a.put o.dst u) w')→o.wpIn (Fw none) 0 P a w next Qx
section
variable {P:Program}{nt:Nat}{env:Env}{H:Heap}{ty:TypeId}{pos:String}{after:Array Edge}{guard:Option (Nat × Bool)}{T K E:TypeId}{d dk de:TyD}{x y z:Operand}{dst:Option Tmp}{α:Type}
theorem lsi_makeMap:LSI P nt env H ⟨dst,.makeMap T none,ty,pos,after,guard⟩ (fun v H'=>v=.map H.length∧H'=H++[.map []]):=.mk
  fun I ρ a w next Qx hE hW hk=>by
    have hw:=hW
    have hnew:(w.alloc (.map #[] 0)).heap[w.heap.size]?=some (.map #[] 0):=(MapKept.heap_alloc w _).1
    have hold:∀ c,c<w.heap.size→(w.alloc (.map #[] 0)).heap[c]?=w.heap[c]?:=(MapKept.heap_alloc w _).2
    have hsz:w.heap.size≤(w.alloc (.map #[] 0)).heap.size:=by
      show _≤(w.heap.push _).size
      rw [Array.size_push]
      exact Nat.le_succ _
    refine wpIn_of_run (res:=.ok (.value (.map (some w.heap.size))) (w.alloc (.map #[] 0))) (by simp) (by simp [execOp,Instr.makeMap,Result.andThen]) ?_
    have hk2:=hw.adoptMap (m:=[]) (fun h=>by have:=hw.lt h;omega) (by
      cases e:I w.heap.size with
      | none=>rfl
      | some o=>have:=(Array.getElem?_eq_some_iff.1 (hw.imm _ o e)).1;omega) (.inl hw.grow) ⟨rfl,born_nil _⟩ (fun i e x h=>by simp at h) hnew (fun c _ h=>hold c h) hsz rfl rfl rfl
    refine hk (ρ++[some (w.heap.size,0)]) _ _ _ _ ⟨rfl,rfl⟩ (pre_append _) hk2 (VRel.map (z:=0) (by rw [← hw.len];simp))
theorem lsi_mapUpdate {b:Nat}{e:α→V}{l:List (Int × α)}{a:Int}{v:α}(ht:TyIs P T d) (hk:d.tk=.map K E) (hK:TyIs P K dk) (hkk:dk.tk=.int .i64) (hx:eo env x=some (.map b)) (hy:eo env y=some (.s (.int .i64 a))) (hz:eo env z=some (e v)) (hH:H[b]?=some (mapE e l)) :
    LSI P nt env H ⟨none,.mapUpdate T x y z,ty,pos,after,guard⟩ (fun _ H'=>H'=H.set b (mapE e (putE l a v))):=.mk
  fun I ρ ac w next Qx hE hW hk'=>by
    have hw:=hW
    obtain ⟨cb,es,clk,h3,h4,h5,h6⟩:=mapE_at hw hH
    have hm:=map_val (eo_rel hE hx) h3
    have ha:=sval hE hy
    have hv:=eo_rel hE hz
    have hfind:=findNow_int a es.toList l 0 (by simpa using h5) (fun j n p hn hp=>(h6 j n p (by simpa using hn) hp).1)
    have hcb:=(Array.getElem?_eq_some_iff.1 h4).1
    cases hi:idxE l a with
    | none =>
      rw [hi] at hfind
      have hres:(execOp ac.eval ⟨none,.mapUpdate T x y z,ty,pos,after,guard⟩).run P w=.ok .skip { w with heap:=w.heap.setIfInBounds cb (.map (es.push { key:=.int .i64 a,val:=ac.eval z,born:=clk }) (clk+1)) }:=by
        simp only [execOp,hm,ha,Instr.mapUpdate,Sem.run_bind,run_underlying (ht.map hk),MapKept.run_getObj_map h4,MapKept.run_checkKey (hK.intk hkk) (intKey a),MapKept.run_findKey (hK.intk hkk) hfind,Result.andThen_ok,Sem.run_pure,MapKept.run_setObj_map _ h4,Option.bind_none]
      refine wpIn_of_run (by simp) hres ?_
      refine hk' ρ _ (.s undef) undef _ rfl (Pre.refl _) (hw.setMap (m':=entsE e (putE l a v)) hH h3 hcb (es:=es.push { key:=.int .i64 a,val:=ac.eval z,born:=clk }) (clock:=clk+1) ⟨by rw [putE_none v hi];simp [entsE,h5],born_push (born_at hw hH h3 h4)⟩ (fun i n p hn hp=>?_)) (.s _)
      rw [putE_none v hi] at hp
      simp only [entsE,List.getElem?_map,Option.map_eq_some_iff] at hp
      obtain ⟨q,hq,rfl⟩:=hp
      rcases get_snoc hq with ⟨h7,h8⟩|⟨h7,h8⟩
      · rw [Array.getElem?_push,if_neg (by omega)] at hn
        exact h6 i n q hn h8
      · rw [Array.getElem?_push,if_pos (by omega)] at hn
        cases hn
        subst h8
        exact ⟨rfl,hv⟩
    | some j =>
      have hlt:=idxE_lt hi
      rw [hi] at hfind
      have hfind':Instr.findNow (.int .i64) (.int .i64 a) es.toList 0=some (some (j,es[j].val)):=by rw [hfind,Option.bind_some,show es.toList[j]?=some es[j] by simp];simp
      have hes:es[j]?=some es[j]:=by simp
      obtain ⟨h7,h8⟩:=h6 j es[j] l[j] hes (by simp [hlt])
      have hkey:l[j].1=a:=by
        have:=idxE_key hi
        rw [List.getElem?_eq_getElem hlt] at this
        simpa using this
      have hstay:∀ w',(Instr.keyThatStays es[j].key (.int .i64 a)).run P w'=.ok (.int .i64 a) w':=fun w'=>by
        rw [h7,hkey]
        exact MapKept.run_keyThatStays (intKey a)
      have hres:(execOp ac.eval ⟨none,.mapUpdate T x y z,ty,pos,after,guard⟩).run P w=.ok .skip { w with heap:=w.heap.setIfInBounds cb (.map (es.modify j fun n=>{ n with key:=.int .i64 a,val:=ac.eval z }) clk) }:=by
        simp only [execOp,hm,ha,Instr.mapUpdate,Sem.run_bind,run_underlying (ht.map hk),MapKept.run_getObj_map h4,MapKept.run_checkKey (hK.intk hkk) (intKey a),MapKept.run_findKey (hK.intk hkk) hfind',Result.andThen_ok,Sem.run_pure,MapKept.run_setObj_map _ h4,hes,Option.map_some,Option.getD_some,hstay]
      refine wpIn_of_run (by simp) hres ?_
      refine hk' ρ _ (.s undef) undef _ rfl (Pre.refl _) (hw.setMap (m':=entsE e (putE l a v)) hH h3 hcb (es:=es.modify j fun n=>{ n with key:=.int .i64 a,val:=ac.eval z }) (clock:=clk) ⟨by rw [putE_some v hi];simp [entsE,h5],born_modify (born_at hw hH h3 h4) fun _=>rfl⟩ (fun i n p hn hp=>?_)) (.s _)
      rw [putE_some v hi] at hp
      rw [entsE,List.getElem?_map,List.getElem?_modify] at hp
      obtain ⟨q0,hq0⟩:∃ q0,l[i]?=some q0:=by
        cases hq:l[i]? with
        | none=>rw [hq] at hp;cases hp
        | some q=>exact ⟨q,rfl⟩
      rw [hq0] at hp
      cases hp
      rw [Array.getElem?_modify] at hn
      by_cases hji:j=i
      · subst hji
        rw [if_pos rfl,hes] at hn
        simp only [Option.map_some,Option.some.injEq] at hn
        subst hn
        have:q0=l[j]:=by rw [List.getElem?_eq_getElem hlt] at hq0;cases hq0;rfl
        subst this
        dsimp only
        rw [if_pos rfl]
        exact ⟨by rw [hkey],hv⟩
      · rw [if_neg hji] at hn
        dsimp only
        rw [if_neg hji]
        exact h6 i n q0 hn hq0
end
theorem grown_of {w w':World}{B:Nat}{I I':Imm}{ρ ρ':List (Option (Nat × Nat))}{H H':Heap}(hw:WOk (Ctx.self w ρ H I) I ρ H w) (h:WOk (Ctx.self w ρ H I) I' ρ' H' w') (o1:Own B ρ) (hM:OnlyMap H):∃ row,w.grownBy w' row∧RowMap B w row:=by
  obtain ⟨o2,o3⟩:=hM
  match H,o2 with
  | [],_=>exact ⟨none,⟨h.os,h.tape,h.out,h.grow,fun k hk _=>h.keep k hk fun ⟨j,blk,h1,_⟩=>by simp [Ctx.self] at h1⟩,fun r e=>by cases e⟩
  | [b],_ =>
    obtain ⟨m,rfl⟩:=o3 b (by simp)
    obtain ⟨cb,h1,es,clk,h2,_⟩:=hw.map 0 m rfl
    refine ⟨some cb,⟨h.os,h.tape,h.out,h.grow,fun k hk hne=>h.keep k hk fun ⟨j,blk,h3,_,z,h4⟩=>?_⟩,fun r e=>?_⟩
    · have hj:j=0:=by
        have:j<[Blk.map m].length:=(List.getElem?_eq_some_iff.1 h3).1
        simp at this;exact this
      subst hj
      have h4:ρ[0]?=some (some (k,z)):=h4
      rw [h1] at h4;cases h4
      exact hne rfl
    · cases e
      exact ⟨o1 0 cb 0 h1,es,clk,h2⟩
  | _::_::_,h=>simp at h
section
variable {P:Program}{C:Cx P}{nt:Nat}{Q Q':Post}{env env':Env}{H H':Heap}{k:Option Nat}{ops:Array Oper}{l:List Stp}{dst:Nat}{ty:TypeId}{pos:String}{after:Array Edge}{ρ:List (Option (Nat × Nat))}
theorem St.has {a:Act}{w:World}(h:St C nt env H k ρ a w) (he:Has env env'):St C nt env' H k ρ a w:=⟨⟨h.1.1,fun t v ht=>h.1.2 t v (has_look he ht)⟩,h.2⟩
theorem aw_skip (h:Q .normal env H k):AW C nt .skip Q env H k:=.mk fun ρ _ _ hs=>wpIn_skip ⟨env,H,k,ρ,hs,h⟩
theorem aw_exit {id:Nat}(h:Q (.exit id) env H k):AW C nt (.exit id) Q env H k:=.mk fun ρ _ _ hs=>wpIn_exit ⟨env,H,k,ρ,hs,h⟩
theorem aw_ret (h:Q .ret env H k):AW C nt .ret Q env H k:=.mk fun ρ _ _ hs=>wpIn_ret ⟨env,H,k,ρ,hs,h⟩
theorem lift_then {nxt:Env→Heap→Option Nat→Prop}{K:Act→World→Prop}(h:∀ env H k ρ a w,St C nt env H k ρ a w→nxt env H k→K a w):∀ e a w,Lift C nt (thenP nxt Q) e a w→Exit.then K (Lift C nt Q) e a w
  | .normal,_,_,⟨_,_,_,_,c,d⟩=>h _ _ _ _ _ _ c d
  | .exit _,_,_,h=>h
  | .goto _,_,_,h=>h
  | .ret,_,_,h=>h
  | .panic _,_,_,h=>h
  | .outgrown,_,_,h=>h
theorem aw_seq {x y:Code}(h:AW C nt x (thenP (AW C nt y Q) Q) env H k):AW C nt (.seq x y) Q env H k:=.mk
  fun ρ a w hs=>wpIn_seq (wpIn_mono (h.1 ρ a w hs) (lift_then fun _ _ _ ρ a w hs h=>h.1 ρ a w hs))
theorem aw_cond {c:Operand}{x y:Code}{b:Bool}(hc:eo env c=some (.s (.bool b))) (ht:b=true→AW C nt x Q env H k) (hf:b=false→AW C nt y Q env H k):AW C nt (.cond c x y) Q env H k:=.mk
  fun ρ a w hs=>wpIn_cond_split (eo_bool hs.1 hc) (fun e=>(ht e).1 ρ a w hs) (fun e=>(hf e).1 ρ a w hs)
theorem aw_block {id:Nat}{c:Code}(h:AW C nt c (inBlockP id Q) env H k):AW C nt (.block id c) Q env H k:=.mk
  fun ρ a w hs=>wpIn_block (wpIn_mono (h.1 ρ a w hs) fun e a w h=>by
    cases e with
    | exit id' =>
      obtain ⟨env,H,k,ρ,hs,hq⟩:=h
      simp only [inBlockP] at hq
      simp only [Exit.inBlock]
      cases hb:Nat.beq id' id
      · rw [hb] at hq
        rw [if_neg (fun e=>by rw [e,Nat.beq_refl] at hb;cases hb)]
        exact ⟨env,H,k,ρ,hs,hq⟩
      · rw [hb] at hq
        rw [if_pos (Nat.eq_of_beq_eq_true hb)]
        exact ⟨env,H,k,ρ,hs,hq⟩
    | normal=>exact h
    | goto _=>exact h
    | ret=>exact h
    | panic _=>exact h
    | outgrown=>exact h)
theorem aw_for {c:Code}(M:Nat) (E:Nat→Env) (F:Nat→Heap) (h0:Has env (E 0)) (hF:H=F 0) (round:∀ j,j≤M→AW C nt c (thenP (fun env' H' k'=>j<M∧k'=some (j+1)∧H'=F (j+1)∧Has env' (E (j+1))) Q) (E j) (F j) (some j)):AW C nt (.loop c) Q env H (some 0):=.mk fun ρ a w hs =>
  wpIn_loopN (fun n a w=>∃ j ρ,j≤M∧n=M-j∧St C nt (E j) (F j) (some j) ρ a w) M ⟨0,ρ,Nat.zero_le _,rfl,by rw [← hF];exact hs.has h0⟩ fun n a w ⟨j,ρ,hj,hn,hs⟩ =>
    wpIn_mono ((round j hj).1 ρ a w hs) (lift_then fun env' H' k' ρ' a' w' hs' h=>by
      obtain ⟨h1,rfl,rfl,h3⟩:=h
      exact ⟨M-(j+1),by omega,j+1,ρ',h1,rfl,hs'.has h3⟩)
theorem aw_region {l:List Oper}{id:Nat}(h:AR C nt l.toArray Q (textPlan l 0) env H k):AW C nt (.region id l.toArray false) Q env H k:=.mk
  fun ρ a w hs=>region_text (Keeps C.I ρ H w) (Keeps.refl hs.2.1) (h.1 ρ a w hs)
theorem ar_nil (h:Q .normal env H k):AR C nt ops Q [] env H k:=.mk fun ρ _ _ hs=>⟨env,H,k,ρ,hs,h⟩
theorem ar_q {i d:Nat}{op:Op}{v:V}(h:QS P nt env H ⟨some d,op,ty,pos,after,none⟩ v) (hd:d<nt) (hk:AR C nt ops Q l ((d,v)::env) H k) :
    AR C nt ops Q (.q i ⟨some d,op,ty,pos,after,none⟩::l) env H k:=.mk fun ρ a w hs=>by
  refine ⟨fun _=>?_,fun hw=>by rw [wanted_none rfl] at hw;cases hw⟩
  obtain ⟨u,h1,h2⟩:=h.1 _ C.I ρ a w hs.1 hs.2.1
  exact ⟨u,h2,hk.1 ρ _ w ⟨hs.1.put h1 hd,hs.2⟩⟩
theorem ar_q_any {i d:Nat}{op:Op}{D:V→Prop}(h:∀ X I ρ a w,EnvOk I ρ nt env a→WOk X I ρ H w→∃ v,D v∧∃ u,VRel I ρ v u∧∀ w',Keeps I ρ H w w'→(execOp a.eval ⟨some d,op,ty,pos,after,none⟩).run P w'=.ok (.value u) w') (hd:d<nt)
    (hk:∀ v,D v→AR C nt ops Q l ((d,v)::env) H k):AR C nt ops Q (.q i ⟨some d,op,ty,pos,after,none⟩::l) env H k:=.mk fun ρ a w hs=>by
  refine ⟨fun _=>?_,fun hw=>by rw [wanted_none rfl] at hw;cases hw⟩
  obtain ⟨v,hC,u,h1,h2⟩:=h _ C.I ρ a w hs.1 hs.2.1
  exact ⟨u,h2,(hk v hC).1 ρ _ w ⟨hs.1.put h1 hd,hs.2⟩⟩
theorem ar_lookup {T K E:TypeId}{d dk de:TyD}{x y:Operand}{α:Type}{i f b:Nat}{e:α→V}{ml:List (Int × α)}{a:Int}{ok:Bool}(ht:TyIs P T d) (hk:d.tk=.map K E) (hK:TyIs P K dk) (hkk:dk.tk=.int .i64) (hE:TyIs P E de) (hx:eo env x=some (.map b)) (hy:eo env y=some (.s (.int .i64 a))) (hH:H[b]?=some (mapE e ml)) (hd:f<nt)
    (h1:∀ v,getE ml a=some v→AR C nt ops Q l ((f,bif ok then .tup [e v,.s (.bool true)] else e v)::env) H k) (h2:getE ml a=none→AR C nt ops Q l ((f,bif ok then .tup [constV de.zero,.s (.bool false)] else constV de.zero)::env) H k) :
    AR C nt ops Q (.q i ⟨some f,.lookup T x y ok,ty,pos,after,none⟩::l) env H k:=by
  have key:∀ (X:Ctx) (I:Imm) (ρ:List (Option (Nat × Nat))) (ac:Act) (w:World),EnvOk I ρ nt env ac→WOk X I ρ H w→∃ v,((∃ q,getE ml a=some q∧v=(bif ok then .tup [e q,.s (.bool true)] else e q))∨(getE ml a=none∧v=(bif ok then .tup [constV de.zero,.s (.bool false)] else constV de.zero))) ∧
      ∃ u,VRel I ρ v u∧∀ w',Keeps I ρ H w w'→(execOp ac.eval ⟨some f,.lookup T x y ok,ty,pos,after,none⟩).run P w'=.ok (.value u) w':=by
    intro X I ρ ac w hE' hw
    obtain ⟨cb,es,clk,h3,h4,h5,h6⟩:=mapE_at hw hH
    have hm:=map_val (eo_rel hE' hx) h3
    have ha:=sval hE' hy
    have hfind:=findNow_int a es.toList ml 0 (by simpa using h5) (fun j n p hn hp=>(h6 j n p (by simpa using hn) hp).1)
    have hget:=getE_idx ml a
    cases hi:idxE ml a with
    | none =>
      rw [hi] at hfind hget
      refine ⟨_,.inr ⟨hget,rfl⟩,bif ok then .tuple #[de.zero,.bool false] else de.zero,?_,fun w' hK'=>?_⟩
      · cases ok with
        | true =>
          refine .tup rfl fun j v u hj hu=>?_
          match j,hj,hu with
          | 0,hj,hu=>simp at hj hu;subst hj hu;exact constV_rel _ _ _
          | 1,hj,hu=>simp at hj hu;subst hj hu;exact .s _
          | j+2,hj,_=>simp at hj
        | false=>exact constV_rel _ _ _
      · have hb':w'.heap[cb]?=some (.map es clk):=(hK'.2.2 b _ cb 0 hH h3).trans h4
        simp only [execOp,hm,ha,Instr.lookup,Sem.run_bind,run_underlying (ht.map hk),MapKept.run_getObj_map hb',MapKept.run_checkKey (hK.intk hkk) (intKey a),MapKept.run_findKey (hK.intk hkk) hfind,Result.andThen_ok,Sem.run_pure,hE.zeroV,Option.bind_none]
        cases ok<;>rfl
    | some j =>
      have hlt:=idxE_lt hi
      have hes:es[j]?=some es[j]:=by simp
      obtain ⟨h7,h8⟩:=h6 j es[j] ml[j] hes (by simp [hlt])
      rw [hi] at hfind hget
      have hget:getE ml a=some ml[j].2:=by rw [hget];simp [hlt]
      refine ⟨_,.inl ⟨_,hget,rfl⟩,bif ok then .tuple #[es[j].val,.bool true] else es[j].val,?_,fun w' hK'=>?_⟩
      · cases ok with
        | true =>
          refine .tup rfl fun j v u hj hu=>?_
          match j,hj,hu with
          | 0,hj,hu=>simp at hj hu;subst hj hu;exact h8
          | 1,hj,hu=>simp at hj hu;subst hj hu;exact .s _
          | j+2,hj,_=>simp at hj
        | false=>exact h8
      · have hb':w'.heap[cb]?=some (.map es clk):=(hK'.2.2 b _ cb 0 hH h3).trans h4
        have hfind':Instr.findNow (.int .i64) (.int .i64 a) es.toList 0=some (some (j,es[j].val)):=by rw [hfind,Option.bind_some,show es.toList[j]?=some es[j] by simp];simp
        simp only [execOp,hm,ha,Instr.lookup,Sem.run_bind,run_underlying (ht.map hk),MapKept.run_getObj_map hb',MapKept.run_checkKey (hK.intk hkk) (intKey a),MapKept.run_findKey (hK.intk hkk) hfind',Result.andThen_ok,Sem.run_pure]
        cases ok<;>rfl
  exact ar_q_any key hd fun v hv=>by
    rcases hv with ⟨q,h3,rfl⟩|⟨h3,rfl⟩
    · exact h1 q h3
    · exact h2 h3
theorem own_next {w w':World}{B:Nat}{I I':Imm}{ρ':List (Option (Nat × Nat))}(hw:WOk (Ctx.self w ρ H I) I ρ H w) (h:WOk (Ctx.self w ρ H I) I' ρ' H' w') (ho:Own B ρ) (hM:OnlyMap H) (hB:H=[]→B≤w.heap.size) (hH:∀ blk∈H',blk≠.dead):Own B ρ':=by
  have hB':B≤w.heap.size:=by
    match H,hB,hM,hw with
    | [],hB,_,_=>exact hB rfl
    | b::L,_,⟨_,o3⟩,hw =>
      obtain ⟨m,rfl⟩:=o3 b (by simp)
      obtain ⟨cb,h1,es,clk,h2,_⟩:=hw.map 0 m rfl
      have:=ho 0 cb 0 h1
      have:=(Array.getElem?_eq_some_iff.1 h2).1
      omega
  refine fun j b z hj=>?_
  have hlt:j<H'.length:=by rw [← h.len];exact (List.getElem?_eq_some_iff.1 hj).1
  have hb:H'[j]?=some H'[j]:=by simp [hlt]
  rcases h.mine b ⟨j,_,hb,hH _ (List.getElem_mem hlt),z,hj⟩ with h1|⟨q,blk,h1,h2,z',h3⟩
  · have:w.heap.size≤b:=h1
    omega
  · exact ho q b z' h3
theorem ar_l {i d q:Nat}{op:Op}{keep:Bool}{R:V→Heap→Prop}(h:LSI P nt env H ⟨some d,op,ty,pos,after,none⟩ R) (hd:d<nt) (hq:H=[]→q=0) (hH:∀ v H',R v H'→H'≠[]∧∀ blk∈H',blk≠.dead)
    (hM:OnlyMap H) (hkp:keep=false) (hk:∀ v H',R v H'→AR C nt ops Q l ((d,v)::env) H' (some q)):AR C nt ops Q (.l i ⟨some d,op,ty,pos,after,none⟩ keep::l) env H (some q):=.mk fun ρ a w hs=>by
  subst hkp
  refine ⟨fun _=>?_,fun hw=>by rw [wanted_none rfl] at hw;cases hw⟩
  refine h.1 C.I ρ a w _ _ hs.1 hs.2.1 fun ρ' H' v u w' hR hρ hw hv=>?_
  obtain ⟨row,g1,g2⟩:=grown_of hs.2.1 hw hs.2.2.1 hM
  obtain ⟨n1,n2⟩:=hH v H' hR
  exact ⟨Keeps C.I ρ' H' w',Keeps.refl hw,(fun h=>by cases h),(hk v H' hR).1 ρ' _ w' ⟨(hs.1.mono (Imm.le_refl _) hρ).put hv hd,hw.self,own_next hs.2.1 hw hs.2.2.1 hM (fun e=>hs.2.2.2.2.2 (by rw [hq e]) e) n2,hs.2.2.2.1,C.stable q w w' row hs.2.2.2.2.1 g1 g2,fun _ e=>(n1 e).elim⟩⟩
theorem ar_l0 {i q:Nat}{op:Op}{keep:Bool}{R:V→Heap→Prop}(h:LSI P nt env H ⟨none,op,ty,pos,after,none⟩ R) (hq:H=[]→q=0) (hH:∀ v H',R v H'→H'≠[]∧∀ blk∈H',blk≠.dead)
    (hM:OnlyMap H) (hkp:keep=false) (hk:∀ v H',R v H'→AR C nt ops Q l env H' (some q)):AR C nt ops Q (.l i ⟨none,op,ty,pos,after,none⟩ keep::l) env H (some q):=.mk fun ρ a w hs=>by
  subst hkp
  refine ⟨fun _=>?_,fun hw=>by rw [wanted_none rfl] at hw;cases hw⟩
  refine h.1 C.I ρ a w _ _ hs.1 hs.2.1 fun ρ' H' v u w' hR hρ hw hv=>?_
  obtain ⟨row,g1,g2⟩:=grown_of hs.2.1 hw hs.2.2.1 hM
  obtain ⟨n1,n2⟩:=hH v H' hR
  exact ⟨Keeps C.I ρ' H' w',Keeps.refl hw,(fun h=>by cases h),(hk v H' hR).1 ρ' _ w' ⟨hs.1.mono (Imm.le_refl _) hρ,hw.self,own_next hs.2.1 hw hs.2.2.1 hM (fun e=>hs.2.2.2.2.2 (by rw [hq e]) e) n2,hs.2.2.2.1,C.stable q w w' row hs.2.2.2.2.1 g1 g2,fun _ e=>(n1 e).elim⟩⟩
theorem ar_makeMap {i e:Nat}{T:TypeId}(hd:e<nt) (h:AR C nt ops Q l ((e,.map 0)::env) [.map []] (some 0)):AR C nt ops Q (.l i ⟨some e,.makeMap T none,ty,pos,after,none⟩ false::l) env [] (some 0) :=
  ar_l lsi_makeMap hd (fun _=>rfl) (fun v H' ⟨_,hb⟩=>by subst hb;exact ⟨by simp,fun blk hb=>by simp at hb;subst hb;simp⟩) only_nil rfl (fun v H' ⟨a,b⟩=>by subst a;subst b;exact h)
theorem ar_mapUpdate {T K E:TypeId}{d dk:TyD}{x y z:Operand}{α:Type}{i q:Nat}{e:α→V}{ml:List (Int × α)}{a:Int}{v:α}(ht:TyIs P T d) (hk:d.tk=.map K E) (hK:TyIs P K dk) (hkk:dk.tk=.int .i64) (hx:eo env x=some (.map 0)) (hy:eo env y=some (.s (.int .i64 a))) (hz:eo env z=some (e v))
    (h:AR C nt ops Q l env [mapE e (putE ml a v)] (some q)):AR C nt ops Q (.l i ⟨none,.mapUpdate T x y z,ty,pos,after,none⟩ false::l) env [mapE e ml] (some q) :=
  ar_l0 (lsi_mapUpdate (b:=0) ht hk hK hkk hx hy hz rfl) (fun h=>by cases h) (fun _ H' hb=>by subst hb;exact ⟨by simp,fun blk hb=>by simp [mapE] at hb;subst hb;simp⟩) only_mapE rfl (fun _ H' hb=>by subst hb;exact h)
theorem evals_s {I:Imm}{a:Act}(he:EnvOk I ρ nt env a):∀ {xs:List Operand}{us:List Value},xs.mapM (eo env)=some (us.map V.s)→xs.map a.eval=us
  | [],us,h=>by cases us<;>simp at h;rfl
  | x::xs,us,h=>by
    simp only [List.mapM_cons,Option.pure_def,Option.bind_eq_bind,Option.bind_eq_some_iff] at h
    obtain ⟨v0,hv0,vs',hvs,h'⟩:=h
    cases us with
    | nil=>simp at h'
    | cons u us =>
      simp at h'
      obtain ⟨rfl,rfl⟩:=h'
      rw [List.map_cons,evals_s he hvs]
      have:=eo_rel he hv0
      generalize a.eval x=y at this ⊢
      cases this
      rfl
theorem ar_yield {i d q:Nat}{fo:Operand}{args:List Operand}{ats:Array TypeId}{us:List Value}(hf:eo env fo=some (.s (.func (.yield C.l) #[] #[]))) (hargs:args.mapM (eo env)=some (us.map V.s)) (hk:q<C.N) (hel:C.el q=us) (hd:d<nt) (hM:OnlyMap H)
    (h:AR C nt ops Q l ((d,.s (.bool true))::env) H (some (q+1))) (h':AR C nt ops Q l ((d,.s (.bool false))::env) H none):AR C nt ops Q (.l i ⟨some d,.call ⟨.value fo,args.toArray,ats⟩,ty,pos,after,none⟩ false::l) env H (some q):=.mk fun ρ a w hs=>by
  refine ⟨fun _=>?_,fun hw=>by rw [wanted_none rfl] at hw;cases hw⟩
  have h1:=eo_rel hs.1 hf
  have ev:a.eval fo=.func (.yield C.l) #[] #[]:=by generalize a.eval fo=y at h1;cases h1;rfl
  obtain ⟨fn,tmps,assign,body,hy,hR⟩:=C.round q w hs.2.2.2.2.1 hk
  rw [hel,← evals_s hs.1 hargs] at hy
  refine wpIn_of_run (by simp) (It.yield_run ev hy) ⟨fun h=>by simp [Fw,Fence.wide] at h,?_⟩
  refine RoundIn.mono hR fun e w' ⟨he,hK,hMp⟩=>?_
  have hw:=hs.2.1
  have o1:=hs.2.2.1
  obtain ⟨o2,o3⟩:=hM
  have noArr:∀ (k sz n:Nat) (f:Nat→V),H[k]?≠some (.arr sz n f):=fun k sz n f e=>by
    obtain ⟨m,hm⟩:=o3 _ (List.mem_of_getElem? e)
    cases hm
  have hw':WOk (Ctx.self w' ρ H C.I) C.I ρ H w' :=
    { len:=hw.len,inj:=hw.inj,imm:=fun b o hb=>hK b o hb (hw.imm b o hb),apart:=hw.apart,size:=fun k sz n f e=>(noArr k sz n f e).elim,none:=fun k sz n f e=>(noArr k sz n f e).elim,arr:=fun k sz n f b z e=>(noArr k sz n f e).elim
      map:=fun k m e=>by
        obtain ⟨b,h1,es,clk,h2,h3,h4⟩:=hw.map k m e
        exact ⟨b,h1,es,clk,hMp b es clk (o1 k b 0 h1) h2,h3,h4⟩
      mine:=fun b hb=>.inr hb,news:=fun b hb=>.inl hb,le:=Imm.le_refl _,pre:=Pre.refl _,os:=rfl,tape:=rfl,out:=rfl,grow:=Nat.le_refl _,keep:=fun _ _ _=>rfl }
  rcases he with ⟨he,hJ⟩|⟨he,hJ⟩
  · subst he
    exact ⟨Keeps C.I ρ H w',Keeps.refl hw',(fun h=>by cases h),h.1 ρ _ w' ⟨hs.1.put (.s _) hd,hw',o1,hs.2.2.2.1,hJ,fun e=>by cases e⟩⟩
  · subst he
    exact ⟨Keeps C.I ρ H w',Keeps.refl hw',(fun h=>by cases h),h'.1 ρ _ w' ⟨hs.1.put (.s _) hd,hw',o1,hs.2.2.2.1,hJ,fun e=>by cases e⟩⟩
theorem drop_wok {I:Imm}{w:World}{m:List (Value × V)}{blk:Blk}(hw:WOk (Ctx.self w ρ [.map m,blk] I) I ρ [.map m,blk] w) (hc:∀ x∈m,x.2.closed=true):WOk (Ctx.self w (ρ.take 1) [.map m] I) I (ρ.take 1) [.map m] w:=by
  obtain ⟨cb,h1,hm⟩:=hw.map 0 m rfl
  have e0:∀ {k:Nat} {x:Blk},([Blk.map m]:Heap)[k]?=some x→k=0∧x=.map m:=fun {k x} h=>by
    cases k with
    | zero=>simp at h;exact ⟨rfl,h.symm⟩
    | succ k=>simp at h
  have et:∀ {k:Nat} {x:Option (Nat × Nat)},(ρ.take 1)[k]?=some x→ρ[k]?=some x:=fun {k x} h=>by
    rw [List.getElem?_take] at h
    split at h
    · exact h
    · cases h
  have h10:(ρ.take 1)[0]?=some (some (cb,0)):=by rw [List.getElem?_take,if_pos (by omega)];exact h1
  have live:∀ b,Live [.map m] (ρ.take 1) b→Live [.map m,blk] ρ b:=fun b ⟨j,x,g1,g2,z,g3⟩=>by
    obtain ⟨rfl,rfl⟩:=e0 g1
    exact ⟨0,_,rfl,g2,z,et g3⟩
  exact { len:=by rw [List.length_take,hw.len];rfl,inj:=fun i j b ⟨x,hx,_⟩ ⟨y,hy,_⟩ _ _ _ _=>by rw [(e0 hx).1,(e0 hy).1],imm:=hw.imm,apart:=fun b hb=>hw.apart b (live b hb)
          size:=fun k sz n f h=>(by cases (e0 h).2),none:=fun k sz n f h=>(by cases (e0 h).2),arr:=fun k sz n f b z h=>(by cases (e0 h).2)
          map:=fun k mm h=>by
            obtain ⟨rfl,e⟩:=e0 h
            cases e
            obtain ⟨es,clk,g1,g2,g3⟩:=hm
            exact ⟨cb,h10,es,clk,g1,g2,fun i e x he hx=>⟨(g3 i e x he hx).1,((g3 i e x he hx).2.close (hc x (List.mem_of_getElem? hx))).closed⟩⟩
          mine:=fun b hb=>.inr hb,news:=fun b hb=>.inl hb,le:=Imm.le_refl _,pre:=Pre.refl _,os:=rfl,tape:=rfl,out:=rfl,grow:=Nat.le_refl _,keep:=fun _ _ _=>rfl }
theorem look_mem:∀ {E:Env}{t:Nat}{v:V},look E t=some v→(t,v)∈E
  | [],_,_,h=>by simp [look] at h
  | (k,y)::l,t,v,h=>by
    rw [look_cons] at h
    split at h
    · rename_i e;subst e;cases h;exact List.mem_cons_self ..
    · exact List.mem_cons_of_mem _ (look_mem h)
theorem drop_st {E:Env}{m:List (Value × V)}{blk:Blk}{q:Nat}{a:Act}{w:World}(hs:St C nt env [.map m,blk] (some q) ρ a w) (hm:∀ x∈m,x.2.closed=true) (hE:Has env E) (hc:∀ p∈E,p.2.closed=true∨p.2=.map 0):St C nt E [.map m] (some q) (ρ.take 1) a w:=by
  obtain ⟨h1,h2,h3,h4,h5,h6⟩:=hs
  have et:∀ {k:Nat} {x:Option (Nat × Nat)},(ρ.take 1)[k]?=some x→ρ[k]?=some x:=fun {k x} h=>by
    rw [List.getElem?_take] at h
    split at h
    · exact h
    · cases h
  refine ⟨⟨h1.1,fun t v hv=>?_⟩,drop_wok h2 hm,fun j b z hj=>h3 j b z (et hj),h4,h5,fun _ e=>by cases e⟩
  obtain ⟨g1,g2⟩:=h1.2 t v (has_look hE hv)
  refine ⟨g1,?_⟩
  rcases hc _ (look_mem hv) with hcl|hcl
  · exact (g2.close hcl).closed
  · have hcl:v=.map 0:=hcl
    subst hcl
    generalize a.tmps.getD t undef=u at g2
    cases g2
    rename_i hb
    exact .map (by rw [List.getElem?_take,if_pos (by omega)];exact hb)
def isM0:V→Bool
  | .map 0=>true
  | _=>false
theorem isM0_eq:∀ {v:V},isM0 v=true→v=.map 0:=fun {v} h=>by
  cases v<;>simp [isM0] at h
  rename_i b
  cases b
  · rfl
  · cases h
theorem ar_drop_l {i q:Nat}{op:Op}{o:Option Tmp}(E:Env) {α:Type}{e:α→V}{ml:List (Int × α)}{blk:Blk}(hm:∀ v,(e v).closed=true) (hE:Has env E) (hc:E.all (fun p=>p.2.closed||isM0 p.2)=true) (h:AR C nt ops Q (.l i ⟨o,op,ty,pos,after,none⟩ false::l) E [mapE e ml] (some q)) :
    AR C nt ops Q (.l i ⟨o,op,ty,pos,after,none⟩ false::l) env [mapE e ml,blk] (some q):=.mk fun ρ a w hs=>by
  have h1:=h.1 _ a w (drop_st (m:=entsE e ml) hs (fun x hx=>by obtain ⟨y,_,rfl⟩:=List.mem_map.1 hx;exact hm _) hE (fun p hp=>by
    have:=List.all_eq_true.1 hc p hp
    rw [Bool.or_eq_true] at this
    exact this.imp id isM0_eq))
  refine ⟨fun hw=>?_,fun hw=>by rw [wanted_none rfl] at hw;cases hw⟩
  exact Oper.wpIn_mono (fun a' w' ⟨S',g1,_,g3⟩=>⟨S',g1,(fun h=>by cases h),g3⟩) (h1.1 hw)
theorem store_run {X:Ctx}{I:Imm}{ρ:List (Option (Nat × Nat))}{v:V}{a:Act}{w:World}{next:Act→World→Prop}{Qx:Exit→Act→World→Prop}{dst:Option Tmp}{T:TypeId}{d:TyD}{x y:Operand}{guard:Option (Nat × Bool)}{sz b i off n:Nat}{f g:Nat→V}(ht:TyIs P T d) (hx:eo env x=some (.ptr sz b i off)) (hy:eo env y=some v) (hok:v.ok=true) (hone:v.cells.all V.one=true) (hH:H[b]?=some (.arr sz n f)) (hi:i<n)
    (hsz:v.cells.length=d.size) (hoff:off+d.size≤sz) (ha:(∃ cs,f i=.agg cs)∨(off=0∧v.cells.length=1∧(f i).cells.length=1∧∀ cs,v≠.agg cs)) (hgi:g i=putPart (f i) off v) (hg:∀ j,j<n→j≠i→g j=f j) (he:EnvOk I ρ nt env a) (hw:WOk X I ρ H w)
    (hk:∀ w',WOk X I ρ (H.set b (.arr sz n g)) w'→next (a.put dst undef) w'):(⟨dst,.store T x y,ty,pos,after,guard⟩:Oper).wpIn (Fw none) 0 P a w next Qx:=by
  have h1:=eo_rel he hx
  have h2:=eo_rel he hy
  obtain ⟨cb,z,h1',hb⟩:=h1.ptr_inv
  obtain ⟨hc1,hc2⟩:=h2.cells (V.ok_ne hok)
  obtain ⟨cs,t,hcs,hz,hn,hr⟩:=hw.arr _ _ _ _ _ _ hH hb
  have hlen:=hw.size _ _ _ _ hH i hi
  have hlt:i*sz+sz≤n*sz:=by rw [← Nat.succ_mul];exact Nat.mul_le_mul_right _ hi
  have hfit:i*sz+off+(a.eval y).cells.toList.length≤cs.size:=by simp [hc1];omega
  have hones:∀ u∈(a.eval y).cells.toList,u.oneCell'=true:=fun u hu=>by
    obtain ⟨j,hj,rfl⟩:=List.getElem_of_mem hu
    have hj':j<v.cells.length:=by simp at hj;omega
    have:=List.all_eq_true.1 hone v.cells[j] (List.getElem_mem _)
    exact (hc2 j v.cells[j] _ (by simp [hj']) (by simp at hj;simp [hj])).one this
  have hst:=run_storeCells_at P cb (i*sz+off) t (a.eval y).cells.toList 0 cs w hcs (by simpa using hfit) hones
  rw [Nat.add_zero] at hst
  have hrun:(execOp a.eval ⟨dst,.store T x y,ty,pos,after,guard⟩).run P w=.ok .skip (w.setRow cb (cs.toList.take (i*sz+off)++(a.eval y).cells.toList++cs.toList.drop (i*sz+off+(a.eval y).cells.toList.length)).toArray):=by
    have hst':=hst
    simp [hc1,hsz] at hst'
    simp [execOp,h1',Instr.storeAt,Instr.sureAddr,storeVar,ht.sizeOf,hc1,hsz,hst']
  obtain ⟨s1,s2,s3⟩:=setRow_facts (new:=(cs.toList.take (i*sz+off)++(a.eval y).cells.toList++cs.toList.drop (i*sz+off+(a.eval y).cells.toList.length)).toArray) hcs
  have hcell:=cells_put (x:=f i) (v:=v) (off:=off) (by omega) ha
  have hgsz:∀ j,j<n→(g j).cells.length=sz:=fun j hj=>by
    by_cases e:j=i
    · subst e;rw [hgi,hcell];simp;omega
    · rw [hg j hj e];exact hw.size _ _ _ _ hH j hj
  refine wpIn_of_run (by simp) hrun ?_
  refine hk _ (hw.write hH hb (by simp;simp at hfit;omega) hgsz ?_ s1 s2 s3 rfl rfl rfl)
  intro j k u hj hu
  simp only [List.getElem?_toArray]
  rw [splice_get (by simpa using hfit)]
  by_cases e:j=i
  · subst e
    rw [hgi,hcell] at hu
    have hk':k<sz:=by have:=(List.getElem?_eq_some_iff.1 hu).1;simp at this;omega
    by_cases hin:off≤k∧k<off+v.cells.length
    · rw [if_pos (by simp [hc1];omega)]
      rw [List.append_assoc,List.getElem?_append_right (by simp;omega),List.getElem?_append_left (by simp;omega)] at hu
      have e2:k-(List.take off (f j).cells).length=k-off:=by simp;omega
      rw [e2] at hu
      have hlt2:k-off<(a.eval y).cells.size:=by rw [hc1];omega
      refine ⟨(a.eval y).cells[k-off],?_,hc2 _ _ _ hu (by simp [hlt2])⟩
      rw [show j*sz+k-(j*sz+off)=k-off by omega]
      simp [hlt2]
    · rw [if_neg (by simp [hc1];omega)]
      have:(f j).cells[k]?=some u:=by
        by_cases hlo:k<off
        · rw [List.append_assoc,List.getElem?_append_left (by simp;omega),List.getElem?_take,if_pos hlo] at hu;exact hu
        · rw [List.getElem?_append_right (by simp;omega),List.getElem?_drop] at hu
          rw [← hu];congr 1;simp;omega
      simpa using hr j k u hj this
  · rw [hg j hj e] at hu
    have hk':k<sz:=by have:=(List.getElem?_eq_some_iff.1 hu).1;rw [hw.size _ _ _ _ hH j hj] at this;exact this
    rw [if_neg ?_]
    · simpa using hr j k u hj hu
    · rintro ⟨q1,q2⟩
      simp [hc1] at q2
      rcases Nat.lt_or_gt_of_ne e with hlt'|hgt'
      · have:j*sz+sz≤i*sz:=by rw [← Nat.succ_mul];exact Nat.mul_le_mul_right _ hlt'
        omega
      · have:i*sz+sz≤j*sz:=by rw [← Nat.succ_mul];exact Nat.mul_le_mul_right _ hgt'
        omega
theorem ar_copy {i0 i1 i2 dp da q sz:Nat}{T:TypeId}{d:TyD}{x y:Operand}{v va V0:V}{m:List (Value × V)}{ty2 ty3:TypeId}{pos2 pos3:String}{after2 after3:Array Edge}(ht:TyIs P T d) (hz:(constV d.zero).ok=true) (hzs:(constV d.zero).cells.length=sz) (hds:d.size=sz)
    (hx:eo ((dp,.ptr sz 1 0 0)::env) x=some va) (hy:eo ((da,va)::(dp,.ptr sz 1 0 0)::env) y=some v) (hp:eo ((da,va)::(dp,.ptr sz 1 0 0)::env) (.tmp dp)=some (.ptr sz 1 0 0)) (hok:v.ok=true) (hone:v.cells.all V.one=true) (hvs:v.cells.length=sz) (hza:∃ cs,constV d.zero=.agg cs) (hV:putPart (constV d.zero) 0 v=V0) (hd:dp<nt) (hd2:da<nt)
    (h:AR C nt ops Q l ((da,va)::(dp,.ptr sz 1 0 0)::env) [.map m,.arr sz 1 (fun _=>V0)] (some q)) :
    AR C nt ops Q (.l i0 ⟨some dp,.alloc T,ty,pos,after,none⟩ false::.q i1 ⟨some da,.assign x,ty2,pos2,after2,none⟩::.l i2 ⟨none,.store T (.tmp dp) y,ty3,pos3,after3,none⟩ false::l) env [.map m] (some q):=.mk fun ρ a w hs=>by
  subst hzs
  refine ⟨fun _=>?_,fun hw=>by rw [wanted_none rfl] at hw;cases hw⟩
  refine wpIn_of_run (by simp) (res:=.ok (.value (.pointer (some ⟨w.heap.size,0,none⟩))) { w with heap:=w.heap.push (.cells d.zero.cells T) }) (by simp [execOp,Instr.alloc,ht.zeroV,newVar,newRow]) ?_
  have hw1:=alloc_core hs.2.1 (constV_rel C.I ρ d.zero) hz T
  have he1:=(hs.1.mono (Imm.le_refl _) (pre_append (some (w.heap.size,d.zero.cells.size)))).put (ptr_new (I:=C.I) (sz:=(constV d.zero).cells.length) hs.2.1.len) hd
  refine ⟨Keeps C.I _ _ _,Keeps.refl hw1,(fun h=>by cases h),?_,fun hw=>by rw [wanted_none rfl] at hw;cases hw⟩
  intro _
  obtain ⟨u,g1,g2⟩:=(qs_assign (P:=P) (nt:=nt) (H:=[.map m]++[.arr (constV d.zero).cells.length 1 (fun _=>constV d.zero)]) (ty:=ty2) (pos:=pos2) (after:=after2) (guard:=none) (dst:=da) hx).1 _ C.I _ _ _ he1 hw1
  refine ⟨u,g2,?_,fun hw=>by rw [wanted_none rfl] at hw;cases hw⟩
  intro _
  have he2:=he1.put g1 hd2
  refine store_run (i:=0) (n:=1) (off:=0) (f:=fun _=>constV d.zero) (g:=fun _=>putPart (constV d.zero) 0 v) (H:=[.map m]++[.arr (constV d.zero).cells.length 1 (fun _=>constV d.zero)]) (b:=1) (sz:=(constV d.zero).cells.length) ht hp hy hok hone rfl (by omega) (by rw [hvs,hds]) (by omega) (.inl hza) rfl (fun j h1 h2=>by omega) he2 hw1 fun w2 hw2=>?_
  subst hV
  obtain ⟨row,r1,r2⟩:=grown_of hs.2.1 hw2 hs.2.2.1 only_map
  exact ⟨Keeps C.I _ _ _,Keeps.refl hw2,(fun h=>by cases h),h.1 _ _ w2 ⟨⟨by simpa [Act.put] using he2.1,fun t v hv=>he2.2 t v hv⟩,hw2.self,own_next hs.2.1 hw2 hs.2.2.1 only_map (fun e=>by cases e) (fun blk hb=>by simp at hb;rcases hb with rfl|rfl<;>simp),hs.2.2.2.1,C.stable q w w2 row hs.2.2.2.2.1 r1 r2,fun _ e=>by cases e⟩⟩
theorem ar_isq {i d:Nat}{op:Op}(h:AR C nt ops Q (.q i ⟨some d,op,ty,pos,after,none⟩::l) env H k):AR C nt ops Q (.q i ⟨some d,op,ty,pos,after,none⟩::l) env H k:=h
theorem is_load {i d:Nat}{T:TypeId}{x:Operand}(h:AR C nt ops Q (.q i ⟨some d,.load T x,ty,pos,after,none⟩::l) env H k):AR C nt ops Q (.q i ⟨some d,.load T x,ty,pos,after,none⟩::l) env H k:=h
theorem is_binOp {i d:Nat}{o:BinOp}{T:TypeId}{x y:Operand}{T2:TypeId}(h:AR C nt ops Q (.q i ⟨some d,.binOp o T x y T2,ty,pos,after,none⟩::l) env H k):AR C nt ops Q (.q i ⟨some d,.binOp o T x y T2,ty,pos,after,none⟩::l) env H k:=h
theorem is_fieldAddr {i d:Nat}{T:TypeId}{x:Operand}{j:Nat}(h:AR C nt ops Q (.q i ⟨some d,.fieldAddr T x j,ty,pos,after,none⟩::l) env H k):AR C nt ops Q (.q i ⟨some d,.fieldAddr T x j,ty,pos,after,none⟩::l) env H k:=h
theorem is_indexAddr {i d:Nat}{T:TypeId}{x y:Operand}(h:AR C nt ops Q (.q i ⟨some d,.indexAddr T x y,ty,pos,after,none⟩::l) env H k):AR C nt ops Q (.q i ⟨some d,.indexAddr T x y,ty,pos,after,none⟩::l) env H k:=h
theorem is_call {i d:Nat}{c:Call}(h:AR C nt ops Q (.q i ⟨some d,.call c,ty,pos,after,none⟩::l) env H k):AR C nt ops Q (.q i ⟨some d,.call c,ty,pos,after,none⟩::l) env H k:=h
theorem loop_next {N j:Nat}{E:Env}{G:Heap}(h1:j<N) (h2:k=some (j+1)) (hH:H=G) (h3:Has env E):thenP (fun env' H' k'=>j<N∧k'=some (j+1)∧H'=G∧Has env' E) Q .normal env H k:=⟨h1,h2,hH,h3⟩
end
def EndQ (N:Nat):Post
  | .normal,_,_,k=>k=some N∨k=none
  | .ret,_,_,k=>k=some N∨k=none
  | _,_,_,_=>False
theorem iter_of_aw {P:Program}{gf:FuncId}{fn:Func}{c:Code}{vs:List V}{N:Nat}{el:Nat→List Value}(hf:P.funcs[gf]?=some fn) (hb:fn.body=some c) (hn:vs.length+1≤fn.ntmps) (hres:fn.results=#[])
    (h:∀ C:Cx P,C.N=N→C.el=el→AW C fn.ntmps c (EndQ N) (argEnv (.s (.func (.yield C.l) #[] #[])::vs) 0) [] (some 0)):IterX P gf vs N el:=by
  refine ⟨fun I us l J K W hI hv hst hY h0=>?_⟩
  refine callsIn_wide.2 ((callsIn_wide (n:=0)).1 (callsIn_of_wp hf hb trivial ?_ rfl))
  have hrel:VRels I [] (.s (.func (.yield l) #[] #[])::vs) (#[.func (.yield l) #[] #[]]++us):=by
    refine ⟨by simp [hv.1];omega,fun j v u hj hu=>?_⟩
    cases j with
    | zero =>
      rw [Array.getElem?_append_left (by simp)] at hu
      simp at hj hu;subst hj hu;exact .s _
    | succ j =>
      rw [List.getElem?_cons_succ] at hj
      rw [Array.getElem?_append_right (by simp)] at hu
      exact hv.2 j v u hj (by simpa using hu)
  have h1:=(h ⟨l,I,fun|some k=>J k|none=>K,W.heap.size,N,el,hst,hY⟩ rfl rfl).1 [] _ W ⟨argEnv_ok hrel (by rw [hrel.1];simpa using hn),WOk.begin hI,(fun j b z h=>by simp at h),rfl,h0,fun _ _=>Nat.le_refl _⟩
  refine wpIn_mono h1 fun e a' w' hl=>?_
  have hr:(results fn a'.tmps).run P w'=.ok (.tuple #[]) w':=by
    unfold results
    rw [hres]
    simp
  have fin:∀ {k:Option Nat} {env:Env} {H:Heap} {ρ:List (Option (Nat × Nat))},St ⟨l,I,fun|some k=>J k|none=>K,W.heap.size,N,el,hst,hY⟩ fn.ntmps env H k ρ a' w'→(k=some N∨k=none)→J N w'∨K w':=fun hs hk=>by
    rcases hk with rfl|rfl
    · exact .inl hs.2.2.2.2.1
    · exact .inr hs.2.2.2.2.1
  cases e with
  | normal=>obtain ⟨_,_,k,ρ,hs,hk⟩:=hl;exact ⟨hs.2.2.2.1,_,hr,⟨_,rfl⟩,fin hs hk⟩
  | ret=>obtain ⟨_,_,k,ρ,hs,hk⟩:=hl;exact ⟨hs.2.2.2.1,_,hr,⟨_,rfl⟩,fin hs hk⟩
  | exit id=>obtain ⟨_,_,_,_,_,h⟩:=hl;exact h.elim
  | goto id=>obtain ⟨_,_,_,_,_,h⟩:=hl;exact h.elim
  | panic ch=>exact hl.elim
  | outgrown=>exact hl.elim
end Go.Proofs.YtbilpbabdgfblaaGreat.Im
namespace Go.Proofs.YtbilpbabdgfblaaGreat
open Go.RowKit
section
variable {κ α:Type}[DecidableEq κ]
def idxK:List (κ × α)→κ→Option Nat
  | [],_=>none
  | p::l,a=>if a=p.1 then some 0 else (idxK l a).map (·+1)
def getK:List (κ × α)→κ→Option α
  | [],_=>none
  | p::l,a=>if a=p.1 then some p.2 else getK l a
def putK:List (κ × α)→κ→α→List (κ × α)
  | [],a,v=>[(a,v)]
  | p::l,a,v=>if a=p.1 then (p.1,v)::l else p::putK l a v
theorem getK_idx:∀ (l:List (κ × α)) (a:κ),getK l a=(idxK l a).bind fun j=>l[j]?.map (·.2)
  | [],_=>rfl
  | p::l,a=>by
    simp only [getK,idxK]
    by_cases h:a=p.1
    · simp [h]
    · rw [if_neg h,if_neg h,getK_idx l a]
      cases idxK l a<;>simp
theorem putK_none:∀ {l:List (κ × α)}{a:κ}(v:α),idxK l a=none→putK l a v=l++[(a,v)]
  | [],_,_,_=>rfl
  | p::l,a,v,h=>by
    simp only [idxK] at h
    by_cases hp:a=p.1
    · simp [hp] at h
    · rw [if_neg hp] at h
      simp only [putK,if_neg hp,List.cons_append]
      rw [putK_none v (by simpa using h)]
theorem putK_some:∀ {l:List (κ × α)}{a:κ}{j:Nat}(v:α),idxK l a=some j→putK l a v=l.modify j fun p=>(p.1,v)
  | [],_,_,_,h=>by cases h
  | p::l,a,j,v,h=>by
    simp only [idxK] at h
    by_cases hp:a=p.1
    · rw [if_pos hp] at h
      cases h
      simp [putK,hp]
    · rw [if_neg hp] at h
      obtain ⟨k,h1,rfl⟩:=Option.map_eq_some_iff.1 h
      simp only [putK,if_neg hp,List.modify_succ_cons]
      rw [putK_some v h1]
theorem idxK_lt:∀ {l:List (κ × α)}{a:κ}{j:Nat},idxK l a=some j→j<l.length
  | [],_,_,h=>by cases h
  | p::l,a,j,h=>by
    simp only [idxK] at h
    split at h
    · cases h;simp
    · cases hi:idxK l a with
      | none=>rw [hi] at h;cases h
      | some k =>
        rw [hi] at h
        cases h
        have:=idxK_lt hi
        simp;omega
theorem idxK_key:∀ {l:List (κ × α)}{a:κ}{j:Nat},idxK l a=some j→(l[j]?).map (·.1)=some a
  | [],_,_,h=>by cases h
  | p::l,a,j,h=>by
    simp only [idxK] at h
    split at h
    · rename_i hp;cases h;simp [hp]
    · obtain ⟨k,h1,rfl⟩:=Option.map_eq_some_iff.1 h
      simpa using idxK_key h1
theorem getK_put {l:List (κ × α)}{a b:κ}{v:α}:getK (putK l a v) b=if b=a then some v else getK l b:=by
  induction l with
  | nil=>simp [putK,getK]
  | cons p l ih =>
    simp only [putK]
    by_cases h:a=p.1
    · rw [if_pos h]
      simp only [getK]
      by_cases hb:b=p.1
      · rw [if_pos hb,if_pos (hb.trans h.symm)]
      · rw [if_neg hb,if_neg (fun e=>hb (e.trans h)),if_neg hb]
    · rw [if_neg h]
      simp only [getK]
      rw [ih]
      by_cases hb:b=p.1
      · rw [if_pos hb,if_pos hb,if_neg (fun e=>h (e.symm.trans hb))]
      · rw [if_neg hb,if_neg hb]
end
def pairV (k:Int × Int):Value:=.agg #[.int .i64 k.1,.int .i64 k.2]
def pairE (k:Int × Int):V:=.agg [vi k.1,vi k.2]
section
variable {α:Type}
def entsP (e:α→V) (l:List ((Int × Int) × α)):List (Value × V):=l.map fun p=>(pairV p.1,e p.2)
def mapP (e:α→V) (l:List ((Int × Int) × α)):Blk:=.map (entsP e l)
structure PairK (P:Program) (K:TypeId):Prop where
  out:∃ N d,SeqOk P K [(N,0,false),(N,1,false)]∧TyIs P N d∧d.tk=.int .i64∧d.size=1
theorem pair_val {I:Imm}{ρ:List (Option (Nat × Nat))}{k:Int × Int}{u:Value}(h:VRel I ρ (pairE k) u):u=pairV k:=by
  obtain ⟨us,rfl,h1,hr⟩:=agg_inv h
  have h1:us.size=2:=h1
  have hs:∀ {v u:Value},VRel I ρ (.s v) u→u=v:=fun h=>by cases h;rfl
  have a0:=hs (hr 0 _ (us[0]'(by omega)) rfl (by simp [h1]))
  have a1:=hs (hr 1 _ (us[1]'(by omega)) rfl (by simp [h1]))
  have:us=#[us[0]'(by omega),us[1]'(by omega)]:=by
    apply Array.ext
    · simp [h1]
    · intro i hi _
      match i,hi with
      | 0,_=>rfl
      | 1,_=>rfl
      | i+2,hi=>omega
  rw [this,a0,a1]
  rfl
theorem pair_rel {I:Imm}{ρ:List (Option (Nat × Nat))}(k:Int × Int):∀ (j:Nat) (x:V) (u:Value),[vi k.1,vi k.2][j]?=some x→(#[.int .i64 k.1,.int .i64 k.2]:Array Value)[j]?=some u→VRel I ρ x u
  | 0,_,_,hx,hu=>by simp at hx hu;subst hx hu;exact .s _
  | 1,_,_,hx,hu=>by simp at hx hu;subst hx hu;exact .s _
  | j+2,_,_,hx,_=>by simp at hx
theorem pair_equal {P:Program}{K:TypeId}(hK:PairK P K) (a b:Int × Int) (w:World):(Op.equal K (pairV a) (pairV b)).run P w=.ok (decide (a=b)) w:=by
  obtain ⟨_,d,hq,ht,hk,hs⟩:=hK.out
  have h:=eqFields_run (I:=fun _=>none) (ρ:=[]) (cs:=[vi a.1,vi a.2]) (ds:=[vi b.1,vi b.2]) (us:=#[.int .i64 a.1,.int .i64 a.2]) (vs:=#[.int .i64 b.1,.int .i64 b.2]) rfl (pair_rel a) rfl (pair_rel b) 9998 w hq.fields (.int ht hk hs rfl rfl (.int ht hk hs rfl rfl .nil))
  show (Op.equalIn (9999+1) K (.agg _) (.agg _)).run P w=_
  rw [run_equalIn_struct w 9999 K _ _ hq.und hq.stood,h]
  congr 1
  rw [Bool.eq_iff_iff]
  simp [Prod.ext_iff]
theorem pair_check {P:Program}{K:TypeId}(hK:PairK P K) (a:Int × Int) (em:Bool) (w:World):(Instr.checkKey em 10000 K (pairV a)).run P w=.ok () w:=by
  obtain ⟨_,d,hq,ht,hk,hs⟩:=hK.out
  have p0:=part1_run (I:=fun _=>none) (ρ:=[]) (cs:=[vi a.1,vi a.2]) (us:=#[.int .i64 a.1,.int .i64 a.2]) ht (by rw [hk];rfl) hs rfl (pair_rel a) (o:=0) (v:=.int .i64 a.1) rfl
  have p1:=part1_run (I:=fun _=>none) (ρ:=[]) (cs:=[vi a.1,vi a.2]) (us:=#[.int .i64 a.1,.int .i64 a.2]) ht (by rw [hk];rfl) hs rfl (pair_rel a) (o:=1) (v:=.int .i64 a.2) rfl
  have hfs:=hq.fields
  show (Instr.checkKey em (9999+1) K (.agg _)).run P w=_
  unfold Instr.checkKey
  simp only [Sem.run_bind,run_underlying hq.und,Result.andThen_ok]
  rw [← Array.forIn_toList]
  generalize (P.fieldsOf K).toList=fs at hfs
  cases fs with
  | nil=>simp at hfs
  | cons f0 fs =>
    cases fs with
    | nil=>simp at hfs
    | cons f1 fs =>
      cases fs with
      | cons _ _=>simp at hfs
      | nil =>
        simp only [List.map_cons,List.map_nil,List.cons.injEq,Prod.mk.injEq,and_true] at hfs
        obtain ⟨⟨t0,o0,n0⟩,t1,o1,n1⟩:=hfs
        have n0' : f0.name ≠ "_" := by simpa using n0
        have n1' : f1.name ≠ "_" := by simpa using n1
        have c0:=MapKept.run_checkKey (w:=w) (ht.intk hk) (intKey a.1) em 9998
        have c1:=MapKept.run_checkKey (w:=w) (ht.intk hk) (intKey a.2) em 9998
        simp [List.forIn_cons,n0',n1',t0,t1,o0,o1,p0 w,p1 w,c0,c1,Result.andThen]
theorem pair_asking {P:Program}{K:TypeId}(hK:PairK P K) (a:Int × Int) (w:World):∀ (es:List MapEntry) (l:List ((Int × Int) × α)) (i:Nat),es.length=l.length→(∀ (j:Nat) e p,es[j]?=some e→l[j]?=some p→e.key=pairV p.1) →
    (Instr.findAsking K (pairV a) es i).run P w=.ok ((idxK l a).bind fun j=>es[j]?.map fun e=>(i+j,e.val)) w
  | [],[],_,_,_=>by simp [Instr.findAsking,idxK]
  | [],_::_,_,h,_=>by simp at h
  | _::_,[],_,h,_=>by simp at h
  | e::es,p::l,i,h,hk=>by
    have h0:=hk 0 e p rfl rfl
    have ih:=pair_asking hK a w es l (i+1) (by simpa using h) (fun j e' p' h1 h2=>hk (j+1) e' p' (by simpa using h1) (by simpa using h2))
    have he:=pair_equal hK a p.1 w
    rw [← h0] at he
    simp only [Instr.findAsking,Sem.run_bind,he,Result.andThen_ok,idxK]
    by_cases hc:a=p.1
    · rw [if_pos hc]
      simp [hc]
    · rw [if_neg hc]
      simp only [hc,decide_false,Bool.false_eq_true,if_false,ih]
      cases idxK l a with
      | none=>rfl
      | some j=>simp [Nat.add_assoc,Nat.add_comm 1 j]
theorem pair_find {P:Program}{K:TypeId}(hK:PairK P K) (a:Int × Int) (w:World) (es:List MapEntry) (l:List ((Int × Int) × α)) (h:es.length=l.length) (hk:∀ (j:Nat) e p,es[j]?=some e→l[j]?=some p→e.key=pairV p.1) :
    (Instr.findKey K (pairV a) es).run P w=.ok ((idxK l a).bind fun j=>es[j]?.map fun e=>(j,e.val)) w:=by
  obtain ⟨_,_,hq,_⟩:=hK.out
  rw [run_findKey_eq w (by rw [hq.und]),pair_asking hK a w es l 0 h hk]
  simp
theorem pair_stays (a:Int × Int) {P:Program}(w:World):(Instr.keyThatStays (pairV a) (pairV a)).run P w=.ok (pairV a) w:=by
  have:Instr.sameBits 10000 (pairV a) (pairV a)=true:=by
    show Instr.sameBits (9999+1) (.agg _) (.agg _)=true
    simp [Instr.sameBits]
  simp [Instr.keyThatStays,this]
end
section
variable {P:Program}{r:Option Nat}{m nt:Nat}{Q:Post}{env:Env}{H:Heap}{ops:Array Oper}{L:List Stp}{ty ty2 ty3:TypeId}{pos pos2 pos3:String}{after after2 after3:Array Edge}{T K E:TypeId}{d de:TyD}{x y z:Operand}{α:Type}
theorem mapP_at {I:Imm}{ρ:List (Option (Nat × Nat))}{w:World}{X:Ctx}(hw:WOk X I ρ H w) {b:Nat}{e:α→V}{l:List ((Int × Int) × α)}(hH:H[b]?=some (mapP e l)):∃ cb es clk,ρ[b]?=some (some (cb,0))∧w.heap[cb]?=some (.map es clk)∧es.size=l.length ∧
    ∀ (i:Nat) n p,es[i]?=some n→l[i]?=some p→n.key=pairV p.1∧VRel I ρ (e p.2) n.val:=by
  obtain ⟨cb,h1,es,clk,h2,h3,h4⟩:=hw.map b _ hH
  refine ⟨cb,es,clk,h1,h2,by simpa [entsP] using h3.size,fun i n p hn hp=>?_⟩
  exact h4 i n (pairV p.1,e p.2) hn (by simp [entsP,hp])
theorem ar_lookupP {i f b:Nat}{e:α→V}{l:List ((Int × Int) × α)}{a:Int × Int}(ht:TyIs P T d) (hk:d.tk=.map K E) (hK:PairK P K) (hE:TyIs P E de) (hx:eo env x=some (.map b)) (hy:eo env y=some (pairE a)) (hH:H[b]?=some (mapP e l)) (hd:f<nt)
    (h1:∀ v,getK l a=some v→AR P r m nt ops Q L ((f,e v)::env) H) (h2:getK l a=none→AR P r m nt ops Q L ((f,constV de.zero)::env) H) :
    AR P r m nt ops Q (.q i ⟨some f,.lookup T x y false,ty,pos,after,none⟩::L) env H:=by
  have key:∀ (X:Ctx) (I:Imm) (ρ:List (Option (Nat × Nat))) (ac:Act) (w:World),EnvOk I ρ nt env ac→WOk X I ρ H w→∃ v,((∃ q,getK l a=some q∧v=e q)∨(getK l a=none∧v=constV de.zero)) ∧
      ∃ u,VRel I ρ v u∧∀ w',Keeps I ρ H w w'→(execOp ac.eval ⟨some f,.lookup T x y false,ty,pos,after,none⟩).run P w'=.ok (.value u) w':=by
    intro X I ρ ac w hE' hw
    obtain ⟨cb,es,clk,h3,h4,h5,h6⟩:=mapP_at hw hH
    have hm:=map_val (eo_rel hE' hx) h3
    have ha:=pair_val (eo_rel hE' hy)
    have hfind:=fun w'=>pair_find hK a w' es.toList l (by simpa using h5) (fun j n p hn hp=>(h6 j n p (by simpa using hn) hp).1)
    have hget:=getK_idx l a
    cases hi:idxK l a with
    | none =>
      rw [hi] at hfind hget
      refine ⟨_,.inr ⟨hget,rfl⟩,de.zero,constV_rel _ _ _,fun w' hK'=>?_⟩
      have hb':w'.heap[cb]?=some (.map es clk):=(hK'.2.2 b _ cb 0 hH h3).trans h4
      simp only [execOp,hm,ha,Instr.lookup,Sem.run_bind,run_underlying (ht.map hk),MapKept.run_getObj_map hb',pair_check hK a _ w',hfind w',Result.andThen_ok,Sem.run_pure,hE.zeroV,Option.bind_none]
      rfl
    | some j =>
      have hlt:=idxK_lt hi
      have hes:es[j]?=some es[j]:=by simp
      obtain ⟨h7,h8⟩:=h6 j es[j] l[j] hes (by simp [hlt])
      rw [hi] at hfind hget
      have hget:getK l a=some l[j].2:=by rw [hget];simp [hlt]
      refine ⟨_,.inl ⟨_,hget,rfl⟩,es[j].val,h8,fun w' hK'=>?_⟩
      have hb':w'.heap[cb]?=some (.map es clk):=(hK'.2.2 b _ cb 0 hH h3).trans h4
      have hfind':(Instr.findKey K (pairV a) es.toList).run P w'=.ok (some (j,es[j].val)) w':=by rw [hfind w',Option.bind_some,show es.toList[j]?=some es[j] by simp];rfl
      simp only [execOp,hm,ha,Instr.lookup,Sem.run_bind,run_underlying (ht.map hk),MapKept.run_getObj_map hb',pair_check hK a _ w',hfind',Result.andThen_ok,Sem.run_pure]
      rfl
  exact ar_q_any key hd fun v hv=>by
    rcases hv with ⟨q,h3,rfl⟩|⟨h3,rfl⟩
    · exact h1 q h3
    · exact h2 h3
theorem born_find {es:Array MapEntry}{c j:Nat}{n:MapEntry}(h:Born es c) (hj:es[j]?=some n):es.findIdx? (fun e=>((e.born:Nat):Int)==((n.born:Nat):Int))=some j:=by
  rw [Array.findIdx?_eq_some_iff_getElem]
  have hlt:=(Array.getElem?_eq_some_iff.1 hj).1
  have he:=(Array.getElem?_eq_some_iff.1 hj).2
  refine ⟨hlt,by simp [he],fun k hk=>?_⟩
  intro hc
  have hb:(((es[k]'(by omega)).born:Nat):Int)=((n.born:Nat):Int):=by simpa using hc
  have:=h.2 k j (es[k]'(by omega)) n (by simp) hj (by omega)
  omega
theorem ar_mapAddP {i1 i2 i3 e1 e2 b:Nat}{e:α→V}{l:List ((Int × Int) × α)}{a:Int × Int}{v:α}(ht:TyIs P T d) (hk:d.tk=.map K E) (hK:PairK P K) (hE:TyIs P E de) (hx:eo env x=some (.map b)) (hy:eo env y=some (pairE a)) (hH:H[b]?=some (mapP e l)) (he1:e1<nt) (he2:e2<nt) (hne:e1≠e2)
    (hx2:∀ v1 v2,eo ((e2,v2)::(e1,v1)::env) x=some (.map b)) (hz:∀ v1 v2,eo ((e2,v2)::(e1,v1)::env) z=some (e v))
    (h:∀ v1 v2,AR P r m nt ops Q L ((e2,v2)::(e1,v1)::env) (H.set b (mapP e (putK l a v)))) :
    AR P r m nt ops Q (.l i1 ⟨some e1,.mapEntry T x y,ty,pos,after,none⟩ false::.q i2 ⟨some e2,.extract (.tmp e1) 1,ty2,pos2,after2,none⟩::.l i3 ⟨none,.entryStore T x (.tmp e2) z,ty3,pos3,after3,none⟩ false::L) env H:=.mk fun X I ρ ac w hX hs=>by
  have hw:=hs.2.1
  obtain ⟨cb,es,clk,h3,h4,h5,h6⟩:=mapP_at hw hH
  have hB:=born_at hw hH h3 h4
  have hm:=map_val (eo_rel hs.1 hx) h3
  have ha:=pair_val (eo_rel hs.1 hy)
  have hcb:=(Array.getElem?_eq_some_iff.1 h4).1
  have key:∃ (vx:V) (u0:Value) (st:Nat) (es1:Array MapEntry) (c1:Nat),VRel I ρ vx u0∧(Instr.mapEntry T (.map (some cb)) (pairV a)).run P w=.ok (.tuple #[u0,goInt st]) { w with heap:=w.heap.setIfInBounds cb (.map es1 c1) } ∧
      (∀ val,VRel I ρ (e v) val→∃ es2,(∀ w2:World,w2.heap[cb]?=some (.map es1 c1)→(Instr.entryStore T (.map (some cb)) (goInt st) val).run P w2=.ok () { w2 with heap:=w2.heap.setIfInBounds cb (.map es2 c1) }) ∧
        SizedB es2 c1 (entsP e (putK l a v)).length∧∀ (i:Nat) n q,es2[i]?=some n→(entsP e (putK l a v))[i]?=some q→n.key=q.1∧VRel I ρ q.2 n.val):=by
    have hfind:=pair_find hK a w es.toList l (by simpa using h5) (fun j n p hn hp=>(h6 j n p (by simpa using hn) hp).1)
    cases hi:idxK l a with
    | none =>
      rw [hi,Option.bind_none] at hfind
      refine ⟨constV de.zero,de.zero,clk,es.push { key:=pairV a,val:=de.zero,born:=clk },clk+1,constV_rel _ _ _,?_,fun val hval=>⟨es.push { key:=pairV a,val:=val,born:=clk },fun w2 hw2=>?_,⟨by rw [putK_none v hi];simp [entsP,h5],born_push hB⟩,fun i n p hn hp=>?_⟩⟩
      · simp only [Instr.mapEntry,Sem.run_bind,run_underlying (ht.map hk),MapKept.run_getObj_map h4,pair_check hK a _ w,hfind,Result.andThen_ok,Sem.run_pure,MapKept.run_setObj_map _ h4,hE.zeroV]
      · have hidx:=born_find (born_push (k:=pairV a) (v:=de.zero) hB) (j:=es.size) (n:={ key:=pairV a,val:=de.zero,born:=clk }) (by simp)
        have hmod:(es.push { key:=pairV a,val:=de.zero,born:=clk }).modify es.size (fun n=>{ n with val:=val })=es.push { key:=pairV a,val:=val,born:=clk }:=by
          apply Array.ext
          · simp
          · intro i h1 h2
            rw [Array.getElem_modify]
            by_cases hie:es.size=i
            · subst hie;simp
            · rw [if_neg hie]
              have:i<es.size:=by simp at h2;omega
              rw [Array.getElem_push_lt this,Array.getElem_push_lt this]
        simp only [Instr.entryStore,Sem.run_bind,MapKept.run_getObj_map hw2,asInt,asIntOf,goInt,Result.andThen_ok,Sem.run_pure] at hidx ⊢
        rw [hidx]
        simp only [hmod,MapKept.run_setObj_map _ hw2]
      · rw [putK_none v hi] at hp
        simp only [entsP,List.getElem?_map,Option.map_eq_some_iff] at hp
        obtain ⟨q,hq,rfl⟩:=hp
        rcases get_snoc hq with ⟨h7,h8⟩|⟨h7,h8⟩
        · rw [Array.getElem?_push,if_neg (by omega)] at hn
          exact h6 i n q hn h8
        · rw [Array.getElem?_push,if_pos (by omega)] at hn
          cases hn
          subst h8
          exact ⟨rfl,hval⟩
    | some j =>
      have hlt:=idxK_lt hi
      have hes:es[j]?=some es[j]:=by simp
      obtain ⟨h7,h8⟩:=h6 j es[j] l[j] hes (by simp [hlt])
      have hkey:l[j].1=a:=by
        have:=idxK_key hi
        rw [List.getElem?_eq_getElem hlt] at this
        simpa using this
      have hfind':(Instr.findKey K (pairV a) es.toList).run P w=.ok (some (j,es[j].val)) w:=by rw [hfind,hi,Option.bind_some,show es.toList[j]?=some es[j] by simp];rfl
      have hstay:(Instr.keyThatStays es[j].key (pairV a)).run P w=.ok (pairV a) w:=by
        rw [h7,hkey]
        exact pair_stays a w
      have hB1:Born (es.modify j fun n=>{ n with key:=pairV a }) clk:=born_modify hB fun _=>rfl
      have hj1:(es.modify j fun n=>{ n with key:=pairV a })[j]?=some { es[j] with key:=pairV a }:=by rw [Array.getElem?_modify,if_pos rfl,hes];rfl
      refine ⟨e l[j].2,es[j].val,es[j].born,es.modify j fun n=>{ n with key:=pairV a },clk,h8,?_,fun val hval=>⟨(es.modify j fun n=>{ n with key:=pairV a }).modify j fun n=>{ n with val:=val },fun w2 hw2=>?_,⟨by rw [putK_some v hi];simp [entsP,h5],born_modify hB1 fun _=>rfl⟩,fun i n p hn hp=>?_⟩⟩
      · simp only [Instr.mapEntry,Sem.run_bind,run_underlying (ht.map hk),MapKept.run_getObj_map h4,pair_check hK a _ w,hfind',Result.andThen_ok,Sem.run_pure,MapKept.run_setObj_map _ h4,hes,Option.map_some,Option.getD_some,hstay]
      · have hidx:=born_find hB1 hj1
        simp only [Instr.entryStore,Sem.run_bind,MapKept.run_getObj_map hw2,asInt,asIntOf,goInt,Result.andThen_ok,Sem.run_pure] at hidx ⊢
        rw [hidx]
        simp only [MapKept.run_setObj_map _ hw2]
      · rw [putK_some v hi] at hp
        rw [entsP,List.getElem?_map,List.getElem?_modify] at hp
        obtain ⟨q0,hq0⟩:∃ q0,l[i]?=some q0:=by
          cases hq:l[i]? with
          | none=>rw [hq] at hp;cases hp
          | some q=>exact ⟨q,rfl⟩
        rw [hq0] at hp
        cases hp
        rw [Array.getElem?_modify,Array.getElem?_modify] at hn
        by_cases hji:j=i
        · subst hji
          rw [if_pos rfl,if_pos rfl,hes] at hn
          simp only [Option.map_some,Option.some.injEq] at hn
          subst hn
          have:q0=l[j]:=by rw [List.getElem?_eq_getElem hlt] at hq0;cases hq0;rfl
          subst this
          dsimp only
          rw [if_pos rfl]
          exact ⟨by rw [hkey],hval⟩
        · rw [if_neg hji,if_neg hji] at hn
          dsimp only
          rw [if_neg hji]
          exact h6 i n q0 hn hq0
  obtain ⟨vx,u0,st,es1,c1,k1,k2,k3⟩:=key
  have hvt:VRel I ρ (.tup [vx,.s (goInt st)]) (.tuple #[u0,goInt st]):=.tup rfl fun j v u hj hu=>by
    match j,hj,hu with
    | 0,hj,hu=>simp at hj hu;subst hj hu;exact k1
    | 1,hj,hu=>simp at hj hu;subst hj hu;exact .s _
    | j+2,hj,_=>simp at hj
  have hE1:=hs.1.put hvt he1
  have hE2:=hE1.put (.s (goInt st)) he2
  have m2:=map_val (eo_rel hE2 (hx2 _ _)) h3
  have t2:=sval hE2 (x:=.tmp e2) (v:=goInt st) (by simp [eo,look])
  obtain ⟨es2,q1,q2,q3⟩:=k3 _ (eo_rel hE2 (hz _ _))
  have hres:(execOp ac.eval ⟨some e1,.mapEntry T x y,ty,pos,after,none⟩).run P w=.ok (.value (.tuple #[u0,goInt st])) { w with heap:=w.heap.setIfInBounds cb (.map es1 c1) }:=by
    simp only [execOp,hm,ha,Sem.run_bind,k2,Result.andThen_ok,Sem.run_pure]
  have hget:(w.heap.setIfInBounds cb (.map es1 c1))[cb]?=some (.map es1 c1):=by simp [hcb]
  have hev:(ac.put (some e1) (.tuple #[u0,goInt st])).eval (.tmp e1)=.tuple #[u0,goInt st]:=by
    have:e1<ac.tmps.size:=by have:=hs.1.1;omega
    simp [Act.put,Act.eval,this]
  have hw3:WOk X I ρ (H.set b (mapP e (putK l a v))) { w with heap:=(w.heap.setIfInBounds cb (.map es1 c1)).setIfInBounds cb (.map es2 c1) } :=
    hw.writeMap (w':={ w with heap:=(w.heap.setIfInBounds cb (.map es1 c1)).setIfInBounds cb (.map es2 c1) }) (clock:=c1) hH h3 q2 q3 (by simp [hcb]) (fun c hc=>by simp [Ne.symm hc]) (by simp) rfl rfl rfl
  refine ⟨fun _=>?_,fun hw'=>by rw [wanted_none rfl] at hw';cases hw'⟩
  refine wpIn_of_run (by simp) hres ?_
  refine ⟨fun x=>x={ w with heap:=w.heap.setIfInBounds cb (.map es1 c1) },rfl,(fun e=>absurd e (by decide)),?_⟩
  refine ⟨fun _=>⟨goInt st,fun w' _=>by simp [execOp,hev,Instr.extract],?_⟩,fun hw'=>by rw [wanted_none rfl] at hw';cases hw'⟩
  refine ⟨fun _=>?_,fun hw'=>by rw [wanted_none rfl] at hw';cases hw'⟩
  have hres2:(execOp ((ac.put (some e1) (.tuple #[u0,goInt st])).put (some e2) (goInt st)).eval ⟨none,.entryStore T x (.tmp e2) z,ty3,pos3,after3,none⟩).run P { w with heap:=w.heap.setIfInBounds cb (.map es1 c1) }=.ok .skip { w with heap:=(w.heap.setIfInBounds cb (.map es1 c1)).setIfInBounds cb (.map es2 c1) }:=by
    simp only [execOp,m2,t2,Sem.run_bind,q1 { w with heap:=w.heap.setIfInBounds cb (.map es1 c1) } hget,Result.andThen_ok,Sem.run_pure]
  refine wpIn_of_run (by simp) hres2 ?_
  exact ⟨Keeps I ρ (H.set b (mapP e (putK l a v))) _,Keeps.refl hw3,(fun e=>absurd e (by decide)),(h _ _).1 X I ρ _ _ hX ⟨hE2,hw3,hs.2.2⟩⟩
end
section
variable {H:Heap}{σ:List (Option Nat)}{fr:Nat→Prop}
theorem bsub_mapP {α:Type}{k b:Nat}{e:α→V}{l:List ((Int × Int) × α)}(h:σ[k]?=some (some b)) (hb:H[b]?=some (mapP e l)) (hc:∀ y,(e y).closed=true):BSub H σ fr k (mapP e l) :=
  ⟨b,_,h,hb,rfl,fun i x y hx hy=>by
    rw [hx] at hy
    cases hy
    refine ⟨rfl,.closed ?_⟩
    simp only [entsP,List.getElem?_map,Option.map_eq_some_iff] at hx
    obtain ⟨p,_,rfl⟩:=hx
    exact hc _⟩
end
def getP0 (l:List ((Int × Int) × Int)) (q:Int × Int):Int:=(getK l q).getD 0
theorem getP0_put (l:List ((Int × Int) × Int)) (a b:Int × Int) (v:Int):getP0 (putK l a v) b=if b=a then v else getP0 l b:=by
  unfold getP0
  rw [getK_put]
  split<;>rfl
section
variable {P:Program}{r:Option Nat}{m nt:Nat}{Q:Post}{env:Env}{H:Heap}{ops:Array Oper}{L:List Stp}{ty:TypeId}{pos:String}{after:Array Edge}{T K E:TypeId}{d de:TyD}{x y:Operand}
theorem ar_lookupPD {i f b:Nat}{l:List ((Int × Int) × Int)}{a:Int × Int}(ht:TyIs P T d) (hk:d.tk=.map K E) (hK:PairK P K) (hE:TyIs P E de) (hx:eo env x=some (.map b)) (hy:eo env y=some (pairE a)) (hH:H[b]?=some (mapP vi l)) (hz:constV de.zero=vi 0) (hd:f<nt)
    (h:AR P r m nt ops Q L ((f,vi (getP0 l a))::env) H):AR P r m nt ops Q (.q i ⟨some f,.lookup T x y false,ty,pos,after,none⟩::L) env H:=by
  refine ar_lookupP (e:=vi) ht hk hK hE hx hy hH hd (fun v hv=>?_) (fun hv=>?_)
  · rw [show getP0 l a=v by unfold getP0;rw [hv];rfl] at h;exact h
  · rw [show getP0 l a=0 by unfold getP0;rw [hv];rfl] at h;rw [hz];exact h
end
theorem idxK_snoc {κ α:Type}[DecidableEq κ]:∀ {l:List (κ × α)}{a:κ}(v:α),idxK l a=none→idxK (l++[(a,v)]) a=some l.length
  | [],a,v,_=>by simp [idxK]
  | p::l,a,v,h=>by
    simp only [idxK] at h
    by_cases hp:a=p.1
    · simp [hp] at h
    · rw [if_neg hp] at h
      simp only [List.cons_append,idxK,if_neg hp]
      rw [idxK_snoc v (by simpa using h)]
      simp
section
variable {P:Program}{r:Option Nat}{m nt:Nat}{Q:Post}{env:Env}{H:Heap}{ops:Array Oper}{L:List Stp}{ty ty2 ty3 ty4 ty5:TypeId}{pos pos2 pos3 pos4 pos5:String}{after after2 after3 after4 after5:Array Edge}{T K E:TypeId}{d de:TyD}{x y z:Operand}{α:Type}
theorem mapAdd_key {I:Imm}{ρ:List (Option (Nat × Nat))}{w:World}{e:α→V}{l:List ((Int × Int) × α)}{a:Int × Int}{v:α}{cb clk:Nat}{es:Array MapEntry}(ht:TyIs P T d) (hk:d.tk=.map K E) (hK:PairK P K) (hE:TyIs P E de)
    (h4:w.heap[cb]?=some (.map es clk)) (h5:es.size=l.length) (h6:∀ (i:Nat) n p,es[i]?=some n→l[i]?=some p→n.key=pairV p.1∧VRel I ρ (e p.2) n.val) (hB:Born es clk) :
    ∃ (vx:V) (u0:Value) (st:Nat) (es1:Array MapEntry) (c1:Nat),((∃ q,getK l a=some q∧vx=e q)∨(getK l a=none∧vx=constV de.zero))∧VRel I ρ vx u0∧(Instr.mapEntry T (.map (some cb)) (pairV a)).run P w=.ok (.tuple #[u0,goInt st]) { w with heap:=w.heap.setIfInBounds cb (.map es1 c1) } ∧
      (∀ w2:World,w2.heap[cb]?=some (.map es1 c1)→(Instr.lookup T (.map (some cb)) (pairV a) false).run P w2=.ok u0 w2) ∧
      (∀ val,VRel I ρ (e v) val→∃ es2,(∀ w2:World,w2.heap[cb]?=some (.map es1 c1)→(Instr.entryStore T (.map (some cb)) (goInt st) val).run P w2=.ok () { w2 with heap:=w2.heap.setIfInBounds cb (.map es2 c1) }) ∧
        SizedB es2 c1 (entsP e (putK l a v)).length∧∀ (i:Nat) n q,es2[i]?=some n→(entsP e (putK l a v))[i]?=some q→n.key=q.1∧VRel I ρ q.2 n.val):=by
  have hfind:=pair_find hK a w es.toList l (by simpa using h5) (fun j n p hn hp=>(h6 j n p (by simpa using hn) hp).1)
  have hget0:=getK_idx l a
  cases hi:idxK l a with
  | none =>
    rw [hi,Option.bind_none] at hfind
    rw [hi] at hget0
    refine ⟨constV de.zero,de.zero,clk,es.push { key:=pairV a,val:=de.zero,born:=clk },clk+1,.inr ⟨hget0,rfl⟩,constV_rel _ _ _,?_,fun w2 hw2=>?_,fun val hval=>⟨es.push { key:=pairV a,val:=val,born:=clk },fun w2 hw2=>?_,⟨by rw [putK_none v hi];simp [entsP,h5],born_push hB⟩,fun i n p hn hp=>?_⟩⟩
    · simp only [Instr.mapEntry,Sem.run_bind,run_underlying (ht.map hk),MapKept.run_getObj_map h4,pair_check hK a _ w,hfind,Result.andThen_ok,Sem.run_pure,MapKept.run_setObj_map _ h4,hE.zeroV]
    · have hf2:=pair_find hK a w2 (es.push { key:=pairV a,val:=de.zero,born:=clk }).toList (l++[(a,v)]) (by simp [h5]) (fun j n p hn hp=>by
        rcases get_snoc hp with ⟨h7,h8⟩|⟨h7,h8⟩
        · rw [Array.getElem?_toList,Array.getElem?_push,if_neg (by omega)] at hn
          exact (h6 j n p hn h8).1
        · rw [Array.getElem?_toList,Array.getElem?_push,if_pos (by omega)] at hn
          cases hn
          subst h8
          rfl)
      rw [idxK_snoc v hi,Option.bind_some,show (es.push { key:=pairV a,val:=de.zero,born:=clk }).toList[l.length]?=some { key:=pairV a,val:=de.zero,born:=clk } by rw [← h5];simp] at hf2
      simp only [Option.map_some] at hf2
      simp only [Instr.lookup,Sem.run_bind,run_underlying (ht.map hk),MapKept.run_getObj_map hw2,pair_check hK a _ w2,hf2,Result.andThen_ok,Sem.run_pure]
      rfl
    · have hidx:=born_find (born_push (k:=pairV a) (v:=de.zero) hB) (j:=es.size) (n:={ key:=pairV a,val:=de.zero,born:=clk }) (by simp)
      have hmod:(es.push { key:=pairV a,val:=de.zero,born:=clk }).modify es.size (fun n=>{ n with val:=val })=es.push { key:=pairV a,val:=val,born:=clk }:=by
        apply Array.ext
        · simp
        · intro i h1 h2
          rw [Array.getElem_modify]
          by_cases hie:es.size=i
          · subst hie;simp
          · rw [if_neg hie]
            have:i<es.size:=by simp at h2;omega
            rw [Array.getElem_push_lt this,Array.getElem_push_lt this]
      simp only [Instr.entryStore,Sem.run_bind,MapKept.run_getObj_map hw2,asInt,asIntOf,goInt,Result.andThen_ok,Sem.run_pure] at hidx ⊢
      rw [hidx]
      simp only [hmod,MapKept.run_setObj_map _ hw2]
    · rw [putK_none v hi] at hp
      simp only [entsP,List.getElem?_map,Option.map_eq_some_iff] at hp
      obtain ⟨q,hq,rfl⟩:=hp
      rcases get_snoc hq with ⟨h7,h8⟩|⟨h7,h8⟩
      · rw [Array.getElem?_push,if_neg (by omega)] at hn
        exact h6 i n q hn h8
      · rw [Array.getElem?_push,if_pos (by omega)] at hn
        cases hn
        subst h8
        exact ⟨rfl,hval⟩
  | some j =>
    have hlt:=idxK_lt hi
    have hes:es[j]?=some es[j]:=by simp
    obtain ⟨h7,h8⟩:=h6 j es[j] l[j] hes (by simp [hlt])
    rw [hi] at hget0
    have hget0:getK l a=some l[j].2:=by rw [hget0];simp [hlt]
    have hkey:l[j].1=a:=by
      have:=idxK_key hi
      rw [List.getElem?_eq_getElem hlt] at this
      simpa using this
    have hfind':(Instr.findKey K (pairV a) es.toList).run P w=.ok (some (j,es[j].val)) w:=by rw [hfind,hi,Option.bind_some,show es.toList[j]?=some es[j] by simp];rfl
    have hstay:(Instr.keyThatStays es[j].key (pairV a)).run P w=.ok (pairV a) w:=by
      rw [h7,hkey]
      exact pair_stays a w
    have hB1:Born (es.modify j fun n=>{ n with key:=pairV a }) clk:=born_modify hB fun _=>rfl
    have hj1:(es.modify j fun n=>{ n with key:=pairV a })[j]?=some { es[j] with key:=pairV a }:=by rw [Array.getElem?_modify,if_pos rfl,hes];rfl
    refine ⟨e l[j].2,es[j].val,es[j].born,es.modify j fun n=>{ n with key:=pairV a },clk,.inl ⟨_,hget0,rfl⟩,h8,?_,fun w2 hw2=>?_,fun val hval=>⟨(es.modify j fun n=>{ n with key:=pairV a }).modify j fun n=>{ n with val:=val },fun w2 hw2=>?_,⟨by rw [putK_some v hi];simp [entsP,h5],born_modify hB1 fun _=>rfl⟩,fun i n p hn hp=>?_⟩⟩
    · simp only [Instr.mapEntry,Sem.run_bind,run_underlying (ht.map hk),MapKept.run_getObj_map h4,pair_check hK a _ w,hfind',Result.andThen_ok,Sem.run_pure,MapKept.run_setObj_map _ h4,hes,Option.map_some,Option.getD_some,hstay]
    · have hf2:=pair_find hK a w2 (es.modify j fun n=>{ n with key:=pairV a }).toList l (by simp [h5]) (fun i n p hn hp=>by
        rw [Array.getElem?_toList,Array.getElem?_modify] at hn
        by_cases hji:j=i
        · subst hji
          rw [if_pos rfl,hes] at hn
          simp only [Option.map_some,Option.some.injEq] at hn
          subst hn
          have:p=l[j]:=by rw [List.getElem?_eq_getElem hlt] at hp;cases hp;rfl
          subst this
          rw [hkey]
        · rw [if_neg hji] at hn
          exact (h6 i n p hn hp).1)
      rw [hi,Option.bind_some,Array.getElem?_toList,hj1] at hf2
      simp only [Option.map_some] at hf2
      simp only [Instr.lookup,Sem.run_bind,run_underlying (ht.map hk),MapKept.run_getObj_map hw2,pair_check hK a _ w2,hf2,Result.andThen_ok,Sem.run_pure]
      rfl
    · have hidx:=born_find hB1 hj1
      simp only [Instr.entryStore,Sem.run_bind,MapKept.run_getObj_map hw2,asInt,asIntOf,goInt,Result.andThen_ok,Sem.run_pure] at hidx ⊢
      rw [hidx]
      simp only [MapKept.run_setObj_map _ hw2]
    · rw [putK_some v hi] at hp
      rw [entsP,List.getElem?_map,List.getElem?_modify] at hp
      obtain ⟨q0,hq0⟩:∃ q0,l[i]?=some q0:=by
        cases hq:l[i]? with
        | none=>rw [hq] at hp;cases hp
        | some q=>exact ⟨q,rfl⟩
      rw [hq0] at hp
      cases hp
      rw [Array.getElem?_modify,Array.getElem?_modify] at hn
      by_cases hji:j=i
      · subst hji
        rw [if_pos rfl,if_pos rfl,hes] at hn
        simp only [Option.map_some,Option.some.injEq] at hn
        subst hn
        have:q0=l[j]:=by rw [List.getElem?_eq_getElem hlt] at hq0;cases hq0;rfl
        subst this
        dsimp only
        rw [if_pos rfl]
        exact ⟨by rw [hkey],hval⟩
      · rw [if_neg hji,if_neg hji] at hn
        dsimp only
        rw [if_neg hji]
        exact h6 i n q0 hn hq0
theorem ar_mapAddB {i1 i2 i3 i5 e1 e2 g b:Nat}{l:List ((Int × Int) × Int)}{a:Int × Int}{p n v:Int}{T5 T5':TypeId}{z1 z2:Operand}(ht:TyIs P T d) (hk:d.tk=.map K E) (hK:PairK P K) (hE:TyIs P E de) (hx:eo env x=some (.map b)) (hy:eo env y=some (pairE a)) (hH:H[b]?=some (mapP vi l)) (he1:e1<nt) (he2:e2<nt) (hg:g<nt) (hne:e1≠g)
    (hz1:∀ v1,eo ((e1,v1)::env) z1=some (vi p)) (hz2:∀ v1,eo ((e1,v1)::env) z2=some (vi n)) (hv:IntKind.i64.wrap (p+n)=v)
    (hx2:∀ v1 v2,eo ((e2,v2)::(g,vi v)::(e1,v1)::env) x=some (.map b)) (hz:∀ v1 v2,eo ((e2,v2)::(g,vi v)::(e1,v1)::env) z=some (vi v))
    (h:∀ v1 v2,AR P r m nt ops Q L ((e2,v2)::(g,vi v)::(e1,v1)::env) (H.set b (mapP vi (putK l a v)))) :
    AR P r m nt ops Q (.l i1 ⟨some e1,.mapEntry T x y,ty,pos,after,none⟩ false::.q i5 ⟨some g,.binOp .add T5 z1 z2 T5',ty5,pos5,after5,none⟩::.q i2 ⟨some e2,.extract (.tmp e1) 1,ty2,pos2,after2,none⟩::.l i3 ⟨none,.entryStore T x (.tmp e2) z,ty3,pos3,after3,none⟩ false::L) env H:=.mk fun X I ρ ac w hX hs=>by
  have hw:=hs.2.1
  obtain ⟨cb,es,clk,h3,h4,h5,h6⟩:=mapP_at hw hH
  have hB:=born_at hw hH h3 h4
  have hm:=map_val (eo_rel hs.1 hx) h3
  have ha:=pair_val (eo_rel hs.1 hy)
  have hcb:=(Array.getElem?_eq_some_iff.1 h4).1
  obtain ⟨vx,u0,st,es1,c1,_,k1,k2,_,k3⟩:=mapAdd_key (v:=v) (a:=a) ht hk hK hE h4 h5 h6 hB
  have hvt:VRel I ρ (.tup [vx,.s (goInt st)]) (.tuple #[u0,goInt st]):=.tup rfl fun j v u hj hu=>by
    match j,hj,hu with
    | 0,hj,hu=>simp at hj hu;subst hj hu;exact k1
    | 1,hj,hu=>simp at hj hu;subst hj hu;exact .s _
    | j+2,hj,_=>simp at hj
  have hE1:=hs.1.put hvt he1
  obtain ⟨b1,b2⟩:=int2 hE1 (hz1 _) (hz2 _)
  have hEg:=hE1.put (.s (.int .i64 v)) hg
  have hE2:=hEg.put (.s (goInt st)) he2
  have m2:=map_val (eo_rel hE2 (hx2 _ _)) h3
  have t2:=sval hE2 (x:=.tmp e2) (v:=goInt st) (by simp [eo,look])
  obtain ⟨es2,q1,q2,q3⟩:=k3 _ (eo_rel hE2 (hz _ _))
  have hres:(execOp ac.eval ⟨some e1,.mapEntry T x y,ty,pos,after,none⟩).run P w=.ok (.value (.tuple #[u0,goInt st])) { w with heap:=w.heap.setIfInBounds cb (.map es1 c1) }:=by
    simp only [execOp,hm,ha,Sem.run_bind,k2,Result.andThen_ok,Sem.run_pure]
  have hget:(w.heap.setIfInBounds cb (.map es1 c1))[cb]?=some (.map es1 c1):=by simp [hcb]
  have hev:((ac.put (some e1) (.tuple #[u0,goInt st])).put (some g) (.int .i64 v)).eval (.tmp e1)=.tuple #[u0,goInt st]:=by
    have:e1<ac.tmps.size:=by have:=hs.1.1;omega
    simp [Act.put,Act.eval,this,hne,Ne.symm hne]
  have hw3:WOk X I ρ (H.set b (mapP vi (putK l a v))) { w with heap:=(w.heap.setIfInBounds cb (.map es1 c1)).setIfInBounds cb (.map es2 c1) } :=
    hw.writeMap (w':={ w with heap:=(w.heap.setIfInBounds cb (.map es1 c1)).setIfInBounds cb (.map es2 c1) }) (clock:=c1) hH h3 q2 q3 (by simp [hcb]) (fun c hc=>by simp [Ne.symm hc]) (by simp) rfl rfl rfl
  refine ⟨fun _=>?_,fun hw'=>by rw [wanted_none rfl] at hw';cases hw'⟩
  refine wpIn_of_run (by simp) hres ?_
  refine ⟨fun x=>x={ w with heap:=w.heap.setIfInBounds cb (.map es1 c1) },rfl,(fun e=>absurd e (by decide)),?_⟩
  refine ⟨fun _=>⟨.int .i64 v,fun w' _=>by simp [execOp,b1,b2,eqGuard,binOp,Op.intArith,hv],?_⟩,fun hw'=>by rw [wanted_none rfl] at hw';cases hw'⟩
  refine ⟨fun _=>⟨goInt st,fun w' _=>by simp [execOp,hev,Instr.extract],?_⟩,fun hw'=>by rw [wanted_none rfl] at hw';cases hw'⟩
  refine ⟨fun _=>?_,fun hw'=>by rw [wanted_none rfl] at hw';cases hw'⟩
  have hres2:(execOp (((ac.put (some e1) (.tuple #[u0,goInt st])).put (some g) (.int .i64 v)).put (some e2) (goInt st)).eval ⟨none,.entryStore T x (.tmp e2) z,ty3,pos3,after3,none⟩).run P { w with heap:=w.heap.setIfInBounds cb (.map es1 c1) }=.ok .skip { w with heap:=(w.heap.setIfInBounds cb (.map es1 c1)).setIfInBounds cb (.map es2 c1) }:=by
    simp only [execOp,m2,t2,Sem.run_bind,q1 { w with heap:=w.heap.setIfInBounds cb (.map es1 c1) } hget,Result.andThen_ok,Sem.run_pure]
  refine wpIn_of_run (by simp) hres2 ?_
  exact ⟨Keeps I ρ (H.set b (mapP vi (putK l a v))) _,Keeps.refl hw3,(fun e=>absurd e (by decide)),(h _ _).1 X I ρ _ _ hX ⟨hE2,hw3,hs.2.2⟩⟩
theorem ar_mapAddA {i1 i2 i3 i4 i5 e1 e2 f g b:Nat}{l:List ((Int × Int) × Int)}{a:Int × Int}{n v:Int}{T5 T5':TypeId}{z2:Operand}(ht:TyIs P T d) (hk:d.tk=.map K E) (hK:PairK P K) (hE:TyIs P E de) (hx:eo env x=some (.map b)) (hy:eo env y=some (pairE a)) (hH:H[b]?=some (mapP vi l)) (hz0:constV de.zero=vi 0) (he1:e1<nt) (he2:e2<nt) (hf:f<nt) (hg:g<nt) (hne:e1≠g) (hne2:e1≠f)
    (hx1:∀ v1,eo ((e1,v1)::env) x=some (.map b)) (hy1:∀ v1,eo ((e1,v1)::env) y=some (pairE a))
    (hz2:∀ v1,eo ((f,vi (getP0 l a))::(e1,v1)::env) z2=some (vi n)) (hv:IntKind.i64.wrap (getP0 l a+n)=v)
    (hx2:∀ v1 v2,eo ((e2,v2)::(g,vi v)::(f,vi (getP0 l a))::(e1,v1)::env) x=some (.map b)) (hz:∀ v1 v2,eo ((e2,v2)::(g,vi v)::(f,vi (getP0 l a))::(e1,v1)::env) z=some (vi v))
    (h:∀ v1 v2,AR P r m nt ops Q L ((e2,v2)::(g,vi v)::(f,vi (getP0 l a))::(e1,v1)::env) (H.set b (mapP vi (putK l a v)))) :
    AR P r m nt ops Q (.l i1 ⟨some e1,.mapEntry T x y,ty,pos,after,none⟩ false::.q i4 ⟨some f,.lookup T x y false,ty4,pos4,after4,none⟩::.q i5 ⟨some g,.binOp .add T5 (.tmp f) z2 T5',ty5,pos5,after5,none⟩::.q i2 ⟨some e2,.extract (.tmp e1) 1,ty2,pos2,after2,none⟩::.l i3 ⟨none,.entryStore T x (.tmp e2) z,ty3,pos3,after3,none⟩ false::L) env H:=.mk fun X I ρ ac w hX hs=>by
  have hw:=hs.2.1
  obtain ⟨cb,es,clk,h3,h4,h5,h6⟩:=mapP_at hw hH
  have hB:=born_at hw hH h3 h4
  have hm:=map_val (eo_rel hs.1 hx) h3
  have ha:=pair_val (eo_rel hs.1 hy)
  have hcb:=(Array.getElem?_eq_some_iff.1 h4).1
  obtain ⟨vx,u0,st,es1,c1,k0,k1,k2,k4,k3⟩:=mapAdd_key (v:=v) (a:=a) ht hk hK hE h4 h5 h6 hB
  have hvx:vx=vi (getP0 l a):=by
    rcases k0 with ⟨q,h7,rfl⟩|⟨h7,rfl⟩
    · rw [getP0,h7];rfl
    · rw [getP0,h7,hz0];rfl
  subst hvx
  have hu0:u0=.int .i64 (getP0 l a):=by cases k1;rfl
  have hvt:VRel I ρ (.tup [vi (getP0 l a),.s (goInt st)]) (.tuple #[u0,goInt st]):=.tup rfl fun j v u hj hu=>by
    match j,hj,hu with
    | 0,hj,hu=>simp at hj hu;subst hj hu;exact k1
    | 1,hj,hu=>simp at hj hu;subst hj hu;exact .s _
    | j+2,hj,_=>simp at hj
  have hE1:=hs.1.put hvt he1
  have m1:=map_val (eo_rel hE1 (hx1 _)) h3
  have a1:=pair_val (eo_rel hE1 (hy1 _))
  have hEf:=hE1.put k1 hf
  obtain ⟨b1,b2⟩:=int2 hEf (x:=.tmp f) (m:=getP0 l a) (k:=.i64) (by simp [eo,look];rfl) (hz2 _)
  have hEg:=hEf.put (.s (.int .i64 v)) hg
  have hE2:=hEg.put (.s (goInt st)) he2
  have m2:=map_val (eo_rel hE2 (hx2 _ _)) h3
  have t2:=sval hE2 (x:=.tmp e2) (v:=goInt st) (by simp [eo,look])
  obtain ⟨es2,q1,q2,q3⟩:=k3 _ (eo_rel hE2 (hz _ _))
  have hres:(execOp ac.eval ⟨some e1,.mapEntry T x y,ty,pos,after,none⟩).run P w=.ok (.value (.tuple #[u0,goInt st])) { w with heap:=w.heap.setIfInBounds cb (.map es1 c1) }:=by
    simp only [execOp,hm,ha,Sem.run_bind,k2,Result.andThen_ok,Sem.run_pure]
  have hget:(w.heap.setIfInBounds cb (.map es1 c1))[cb]?=some (.map es1 c1):=by simp [hcb]
  have hev:(((ac.put (some e1) (.tuple #[u0,goInt st])).put (some f) u0).put (some g) (.int .i64 v)).eval (.tmp e1)=.tuple #[u0,goInt st]:=by
    have:e1<ac.tmps.size:=by have:=hs.1.1;omega
    simp [Act.put,Act.eval,this,hne,Ne.symm hne,hne2,Ne.symm hne2]
  have hw3:WOk X I ρ (H.set b (mapP vi (putK l a v))) { w with heap:=(w.heap.setIfInBounds cb (.map es1 c1)).setIfInBounds cb (.map es2 c1) } :=
    hw.writeMap (w':={ w with heap:=(w.heap.setIfInBounds cb (.map es1 c1)).setIfInBounds cb (.map es2 c1) }) (clock:=c1) hH h3 q2 q3 (by simp [hcb]) (fun c hc=>by simp [Ne.symm hc]) (by simp) rfl rfl rfl
  refine ⟨fun _=>?_,fun hw'=>by rw [wanted_none rfl] at hw';cases hw'⟩
  refine wpIn_of_run (by simp) hres ?_
  refine ⟨fun x=>x={ w with heap:=w.heap.setIfInBounds cb (.map es1 c1) },rfl,(fun e=>absurd e (by decide)),?_⟩
  refine ⟨fun _=>⟨u0,fun w' hw'=>by subst hw';simp only [execOp,m1,a1,Sem.run_bind,k4 { w with heap:=w.heap.setIfInBounds cb (.map es1 c1) } hget,Result.andThen_ok,Sem.run_pure],?_⟩,fun hw'=>by rw [wanted_none rfl] at hw';cases hw'⟩
  refine ⟨fun _=>⟨.int .i64 v,fun w' _=>by simp [execOp,b1,b2,eqGuard,binOp,Op.intArith,hv],?_⟩,fun hw'=>by rw [wanted_none rfl] at hw';cases hw'⟩
  refine ⟨fun _=>⟨goInt st,fun w' _=>by simp [execOp,hev,Instr.extract],?_⟩,fun hw'=>by rw [wanted_none rfl] at hw';cases hw'⟩
  refine ⟨fun _=>?_,fun hw'=>by rw [wanted_none rfl] at hw';cases hw'⟩
  have hres2:(execOp ((((ac.put (some e1) (.tuple #[u0,goInt st])).put (some f) u0).put (some g) (.int .i64 v)).put (some e2) (goInt st)).eval ⟨none,.entryStore T x (.tmp e2) z,ty3,pos3,after3,none⟩).run P { w with heap:=w.heap.setIfInBounds cb (.map es1 c1) }=.ok .skip { w with heap:=(w.heap.setIfInBounds cb (.map es1 c1)).setIfInBounds cb (.map es2 c1) }:=by
    simp only [execOp,m2,t2,Sem.run_bind,q1 { w with heap:=w.heap.setIfInBounds cb (.map es1 c1) } hget,Result.andThen_ok,Sem.run_pure]
  refine wpIn_of_run (by simp) hres2 ?_
  exact ⟨Keeps I ρ (H.set b (mapP vi (putK l a v))) _,Keeps.refl hw3,(fun e=>absurd e (by decide)),(h _ _).1 X I ρ _ _ hX ⟨hE2,hw3,hs.2.2⟩⟩
end
end Go.Proofs.YtbilpbabdgfblaaGreat
