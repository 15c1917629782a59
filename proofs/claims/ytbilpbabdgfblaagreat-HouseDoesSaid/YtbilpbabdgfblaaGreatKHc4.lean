/- Parts of the proof: a layer of values over the model, and contracts of functions. No condition. -/
import Derived.Test.YtbilpbabdgfblaaGreatKHc3
set_option maxHeartbeats 16000000
set_option linter.unusedSimpArgs false
set_option linter.unusedVariables false
namespace Go.Proofs.YtbilpbabdgfblaaGreat
open Go.RowKit
section
variable {P:Program}{r:Option Nat}{m nt:Nat}{Q:Post}{env:Env}{H:Heap}{ops:Array Oper}{l:List Stp}{ty:TypeId}{pos:String}{after:Array Edge}{x y:Operand}{T E:TypeId}{d de:TyD}{i dst:Nat}{keep:Bool}
theorem hgNT {p:Prop}[Decidable p] (h:(!decide p)=true):¬ p:=of_decide_eq_false (by simpa using h)
theorem hgNF {p:Prop}[Decidable p] (h:(!decide p)=false):p:=of_decide_eq_true (by simpa using h)
theorem hgBT {b:Bool}(h:(!b)=true):b=false:=by simpa using h
theorem hgBF {b:Bool}(h:(!b)=false):b=true:=by simpa using h
theorem dc {a b:Nat}(h:Nat.ble a b=true):a≤b:=Nat.le_of_ble_eq_true h
theorem wrap64 {n:Int}(h:-9223372036854775808≤n∧n≤9223372036854775807):IntKind.i64.wrap n=n:=by rw [IntKind.wrap_i64];omega
theorem wrap64n {n:Int}(h:-9223372036854775808≤-n∧-n≤9223372036854775807):IntKind.i64.wrap (0-n)=-n:=by rw [IntKind.wrap_i64];omega
theorem wrap8 {n:Int}(h:0≤n∧n≤255):IntKind.u8.wrap n=n:=by
  simp only [IntKind.wrap,IntKind.bits,IntKind.signed]
  simp
  omega
theorem ar_isq {i d:Nat}{op:Op}(h:AR P r m nt ops Q (.q i ⟨some d,op,ty,pos,after,none⟩::l) env H):AR P r m nt ops Q (.q i ⟨some d,op,ty,pos,after,none⟩::l) env H:=h
theorem is_load {i d:Nat}{T:TypeId}{x:Operand}(h:AR P r m nt ops Q (.q i ⟨some d,.load T x,ty,pos,after,none⟩::l) env H):AR P r m nt ops Q (.q i ⟨some d,.load T x,ty,pos,after,none⟩::l) env H:=h
theorem is_binOp {i d:Nat}{o:BinOp}{T:TypeId}{x y:Operand}{T2:TypeId}(h:AR P r m nt ops Q (.q i ⟨some d,.binOp o T x y T2,ty,pos,after,none⟩::l) env H):AR P r m nt ops Q (.q i ⟨some d,.binOp o T x y T2,ty,pos,after,none⟩::l) env H:=h
theorem is_fieldAddr {i d:Nat}{T:TypeId}{x:Operand}{k:Nat}(h:AR P r m nt ops Q (.q i ⟨some d,.fieldAddr T x k,ty,pos,after,none⟩::l) env H):AR P r m nt ops Q (.q i ⟨some d,.fieldAddr T x k,ty,pos,after,none⟩::l) env H:=h
theorem is_indexAddr {i d:Nat}{T:TypeId}{x y:Operand}(h:AR P r m nt ops Q (.q i ⟨some d,.indexAddr T x y,ty,pos,after,none⟩::l) env H):AR P r m nt ops Q (.q i ⟨some d,.indexAddr T x y,ty,pos,after,none⟩::l) env H:=h
theorem is_call {i d:Nat}{c:Call}(h:AR P r m nt ops Q (.q i ⟨some d,.call c,ty,pos,after,none⟩::l) env H):AR P r m nt ops Q (.q i ⟨some d,.call c,ty,pos,after,none⟩::l) env H:=h
theorem is_pick {i d:Nat}{c x y:Operand}(h:AR P r m nt ops Q (.q i ⟨some d,.pick c x y,ty,pos,after,none⟩::l) env H):AR P r m nt ops Q (.q i ⟨some d,.pick c x y,ty,pos,after,none⟩::l) env H:=h
theorem is_unOp {i d:Nat}{o:UnOp}{T:TypeId}{x:Operand}(h:AR P r m nt ops Q (.q i ⟨some d,.unOp o T x,ty,pos,after,none⟩::l) env H):AR P r m nt ops Q (.q i ⟨some d,.unOp o T x,ty,pos,after,none⟩::l) env H:=h
theorem maxLen_ok {n:Nat}(h:n≤9223372036854775807):n≤maxLen:=by unfold maxLen;omega
theorem ar_guard_u {s:Stp}{g t e:Nat}{want:Bool}(hg:s.oper.guard=some (g,want)) (ht:(ops[g]?).bind (·.dst)=some t) (hd:s.oper.dst=some e) (hb:look env t=some (.s undef)) (hdn:e<nt) (h:AR P r m nt ops Q l ((e,.s undef)::env) H):AR P r m nt ops Q (s::l) env H:=.mk fun X I ρ a w hX hs=>by
  obtain ⟨h1,h2⟩:=hs.1.2 t _ hb
  have ev:a.tmps.getD t undef=undef:=by generalize a.tmps.getD t undef=u at h2;cases h2;rfl
  have hwf:Region.wanted s.oper (yielded ops a.tmps)=false:=by
    unfold Region.wanted
    rw [hg]
    have:yielded ops a.tmps g=none:=by
      unfold yielded
      have hlt:t<a.tmps.size:=by rw [hs.1.1];exact h1
      simp only [ht,Option.bind_some]
      simp [hlt] at ev
      simp [hlt,ev,undef]
    simp only [this]
    cases want<;>rfl
  have ih:runP P r ops (Lift X nt Q) l (Keeps I ρ H w) (a.put (some e) undef) w:=h.1 X I ρ _ w hX ⟨hs.1.put (.s _) hdn,hs.2.1,hs.2.2⟩
  rw [← hd] at ih
  cases s with
  | q i o=>exact ⟨fun h'=>absurd (h'.symm.trans hwf) (by decide),fun _=>ih⟩
  | l i o k=>exact ⟨fun h'=>absurd (h'.symm.trans hwf) (by decide),fun _=>ih⟩
  | fork ps=>cases hg
theorem LS.loose {keep:Bool}{o:Oper}{R Rp:V→Heap→Prop}(h:LS P r m nt true env H o R Rp):LS P r m nt keep env H o R Rp :=
  .mk fun X I ρ a w next Qx hX hs hk hp=>h.1 X I ρ a w next Qx hX hs (fun I' ρ' H' v u w' h1 h2 h3 h4 h5 h6=>hk I' ρ' H' v u w' h1 h2 h3 h4 h5 (fun _=>h6 rfl)) hp
theorem ar_boxf {v:V}{x:Operand}(hx:eo env x=some v) (hok:v.ok=true) (hd:dst<nt) (h:AR P r m nt ops Q l ((dst,.ptr v.cells.length H.length 0 0)::env) (H++[.arr v.cells.length 1 (fun _=>v)])) :
    AR P r m nt ops Q (.l i ⟨some dst,.box T x,ty,pos,after,none⟩ keep::l) env H :=
  ar_l (ls_box hx hok).loose hd (fun v H' ⟨a,b⟩=>by subst a;subst b;exact h) (fun _ _ h=>h.elim)
theorem ar_alloc (ht:TyIs P T d) (hok:(constV d.zero).ok=true) (hd:dst<nt) (h:AR P r m nt ops Q l ((dst,.ptr (constV d.zero).cells.length H.length 0 0)::env) (H++[.arr (constV d.zero).cells.length 1 (fun _=>constV d.zero)])) :
    AR P r m nt ops Q (.l i ⟨some dst,.alloc T,ty,pos,after,none⟩ keep::l) env H :=
  ar_l (ls_alloc ht hok).loose hd (fun v H' ⟨a,b⟩=>by subst a;subst b;exact h) (fun _ _ h=>h.elim)
theorem ar_make {n:Nat}{kl kc:IntKind}(ht:TyIs P T d) (hk:d.tk=.slice E) (he:TyIs P E de) (hx:eo env x=some (.s (.int kl (n:Int)))) (hy:eo env y=some (.s (.int kc (n:Int)))) (hd:dst<nt) (hok:(constV de.zero).ok=true) (hz:(constV de.zero).cells.length=de.size) (hb:de.bytes*n≤281474976710656) (hm:n≤maxLen)
    (h:AR P r m nt ops Q l ((dst,.sl de.size H.length 0 n)::env) (H++[.arr de.size n (fun _=>constV de.zero)])):AR P r m nt ops Q (.l i ⟨some dst,.makeSlice T x y,ty,pos,after,none⟩ keep::l) env H :=
  ar_l (ls_make ht hk he hx hy hb hm hok hz).loose hd (fun v H' ⟨a,b⟩=>by subst a;subst b;exact h) (fun _ _ h=>h.elim)
theorem ar_store_var {v:V}{sz b off:Nat}{f:Nat→V}(ht:TyIs P T d) (hx:eo env x=some (.ptr sz b 0 off)) (hy:eo env y=some v) (hH:H[b]?=some (.arr sz 1 f)) (hok:v.ok=true) (hone:v.cells.all V.one=true)
    (hsz:v.cells.length=d.size) (hoff:off+d.size≤sz) (ha:(∃ cs,f 0=.agg cs)∨(off=0∧v.cells.length=1∧(f 0).cells.length=1∧∀ cs,v≠.agg cs)) (h:AR P r m nt ops Q l env (H.set b (.arr sz 1 (fun _=>putPart (f 0) off v)))) :
    AR P r m nt ops Q (.l i ⟨none,.store T x y,ty,pos,after,none⟩ false::l) env H :=
  ar_l0 (ls_store_var ht hx hy hok hone hH hsz hoff ha) (fun v H' a=>by subst a;exact h) (fun _ _ h=>h.elim)
theorem ar_store_elt {v:V}{sz b j off n:Nat}{f:Nat→V}(ht:TyIs P T d) (hx:eo env x=some (.ptr sz b j off)) (hy:eo env y=some v) (hH:H[b]?=some (.arr sz n f)) (hok:v.ok=true) (hone:v.cells.all V.one=true)
    (hsz:v.cells.length=d.size) (hi:j<n) (hoff:off+d.size≤sz) (ha:(∃ cs,f j=.agg cs)∨(off=0∧v.cells.length=1∧(f j).cells.length=1∧∀ cs,v≠.agg cs)) (h:AR P r m nt ops Q l env (H.set b (.arr sz n (upd f j (putPart (f j) off v))))) :
    AR P r m nt ops Q (.l i ⟨none,.store T x y,ty,pos,after,none⟩ false::l) env H :=
  ar_l0 (ls_store_elt ht hx hy hok hone hH hi hsz hoff ha) (fun v H' a=>by subst a;exact h) (fun _ _ h=>h.elim)
theorem ar_append {dv yv:V}{sz n k:Nat}{f g:Nat→V}{H0:Heap}(ht:TyIs P T d) (hk:d.tk=.slice E) (he:TyIs P E de) (hsz:de.size=sz) (hpos:0<sz) (hz:de.zero.cells.size=sz) (hx:eo env x=some dv) (hy:eo env y=some yv) (hg:Grow H dv sz n f H0) (hs:Src H yv sz k g) (hd:dst<nt)
    (hone:∀ j,j<k→(g j).cells.all V.one=true) (hm:n+k≤maxLen) (hb:(n+k)*de.bytes≤140737488355328) (h:AR P r m nt ops Q l ((dst,.sl sz H.length 0 (n+k))::env) (H0++[.arr sz (n+k) (appF n f g)])) :
    AR P r m nt ops Q (.l i ⟨some dst,.call ⟨.builtin .append,#[x,y],#[T,T]⟩,ty,pos,after,none⟩ keep::l) env H :=
  ar_l (ls_append ht hk he hsz hpos hz hx hy hg hs hone hm hb) hd (fun v H' ⟨a,b⟩=>by subst a;subst b;exact h) (fun _ _ h=>h.elim)
theorem ar_pcall {own:Bool}{fo:Operand}{args:List Operand}{ats:Array TypeId}{f:FuncId}{first cap vs avs:List V}{R:V→Prop}(hfn:FnOk P f) (hf:eo env fo=some (.fn (.func f) first cap)) (hargs:args.mapM (eo env)=some vs)
    (ha:ArgsOk own H (first++vs++cap) avs) (h:PCalls P f avs R) (hflat:own=true→∀ v,R v→v.flat=true) (hd:dst<nt) (hk:∀ v,R v→AR P r m nt ops Q l ((dst,v)::env) H):AR P r m nt ops Q (.l i ⟨some dst,.call ⟨.value fo,args.toArray,ats⟩,ty,pos,after,none⟩ keep::l) env H :=
  ar_l (ls_pcall hfn hf hargs ha h hflat) hd (fun v H' ⟨a,b⟩=>by subst b;exact hk v a) (fun _ _ h=>h.elim)
theorem ret_then {K:Env→Heap→Prop}(h:Q .ret env H):AE.then K Q .ret env H:=h
theorem ret_block {id:Nat}(h:Q .ret env H):AE.inBlock id Q .ret env H:=h
variable {R Rp:V→Heap→Prop}{t t2 t3 t4:Nat}{v v2 v3 v4:V}
theorem bq1 (h:look env t=some v) (hR:R v H):BodyQ P #[.tmp t] R Rp .ret env H:=⟨v,.inl ⟨_,rfl,h⟩,hR⟩
theorem bq0n (hR:R (.tup []) H):BodyQ P #[] R Rp .normal env H:=⟨_,.inr (.inl ⟨rfl,rfl⟩),hR⟩
theorem bq2 (h:look env t=some v) (h2:look env t2=some v2) (hR:R (.tup [v,v2]) H):BodyQ P #[.tmp t,.tmp t2] R Rp .ret env H:=⟨_,.inr (.inr (.inl ⟨_,_,_,_,rfl,h,h2,rfl⟩)),hR⟩
end
theorem loop_next {m nt N k:Nat}{J:Prop}{E:Env}{G:Heap}{Q:Post}{env:Env}{H:Heap}(h1:k<N) (h2:J) (h3:SubOf m nt env H E G):AE.then (fun env' H'=>k<N∧J∧SubOf m nt env' H' E G) Q .normal env H:=⟨h1,h2,h3⟩
def injB (σ:List (Option Nat)):Bool:=(List.range σ.length).all fun i=>(List.range σ.length).all fun j=>i==j||match σ[i]?,σ[j]? with|some (some a),some (some b)=>a != b|_,_=>true
theorem inj_of {σ:List (Option Nat)}(h:injB σ=true):Inj σ:=fun i j b h1 h2=>by
  have hi:=(List.getElem?_eq_some_iff.1 h1).1
  have hj:=(List.getElem?_eq_some_iff.1 h2).1
  have:=List.all_eq_true.1 (List.all_eq_true.1 h i (List.mem_range.2 hi)) j (List.mem_range.2 hj)
  rw [h1,h2] at this
  simpa using this
def apartB (fr:List Nat) (σ:List (Option Nat)):Bool:=fr.all fun b=>!σ.contains (some b)
theorem apart_of {fr:List Nat}{σ:List (Option Nat)}(h:apartB fr σ=true):∀ b∈fr,some b ∉ σ:=fun b hb hs=>by
  have:=List.all_eq_true.1 h b hb
  simp [hs] at this
def preB (m:Nat) (σ:List (Option Nat)):Bool:=(List.range m).all fun k=>σ[k]?==some (some k)
theorem pre_of {m:Nat}{σ:List (Option Nat)}(h:preB m σ=true):∀ k,k<m→σ[k]?=some (some k):=fun k hk=>by
  have:=List.all_eq_true.1 h k (List.mem_range.2 hk)
  simpa using this
theorem sub_to {m nt:Nat}{env env0:Env}{H H0:Heap}(σ:List (Option Nat)) (fr:List Nat) (h:(Nat.beq σ.length H0.length&&preB m σ&&injB σ&&apartB fr σ)=true) (he:EnvSub H σ (·∈fr) env env0) (hh:HSub H σ (·∈fr) 0 H0):SubOf m nt env H env0 H0:=by
  simp only [Bool.and_eq_true] at h
  exact sub_gen σ fr (Nat.eq_of_beq_eq_true h.1.1.1) (pre_of h.1.1.2) (inj_of h.1.2) (apart_of h.2) he hh
theorem aw_mono_r {P:Program}{r:Option Nat}{m nt:Nat}{c:Code}{Q:Post}{env env':Env}{H H':Heap}(hs:SubOf m nt env H env' H') (h:AW P r m nt c Q env' H'):AW P r m nt c Q env H:=aw_sub hs h
theorem frzPtr' {H:Heap}{σ:List (Option Nat)}{fr:Nat→Prop}{sz b i off N:Nat}{f:Nat→V}{v:V}(hf:fr b) (hb:H[b]?=some (.arr sz N f)) (hi:i<N) (hc:V.closed.all (f i).cells=true) (hv:f i=v):VSub H σ fr (.ptr sz b i off) (.ref v off):=by
  subst hv;exact .frzPtr hf hb hi hc
theorem args_closed {own:Bool}{H:Heap}:∀ {vs:List V},V.closed.all vs=true→ArgsOk own H vs vs
  | [],_=>.nil
  | v::l,h=>by
    simp only [V.closed.all,Bool.and_eq_true] at h
    exact .cons (.closed h.1) (args_closed h.2)
section
variable {P:Program}{I:Imm}{ρ:List (Option (Nat × Nat))}
def CellsRel (I:Imm) (ρ:List (Option (Nat × Nat))) (cs:List V) (us:Array Value):Prop:=us.size=cs.length∧∀ (j:Nat) v u,cs[j]?=some v→us[j]?=some u→VRel I ρ v u
/-- Parts, one after the other, into cells. -/
inductive BuildR (place:Nat→Option (Nat × Nat)):List V→List (Nat × V)→List V→Prop
  | nil {cs}:BuildR place cs [] cs
  | cons {cs k v l ds o n} (hp:place k=some (o,n)) (hs:v.cells.length=n) (hok:v.ok=true) (hl:o+n≤cs.length) (h:BuildR place (cs.take o++v.cells++cs.drop (o+n)) l ds):BuildR place cs ((k,v)::l) ds
theorem foldl_set (off:Nat):∀ (l:List Value) (s:Nat) (cs:Array Value),off+s+l.length≤cs.size →
    ((l.zipIdx s).foldl (fun cs (p:Value × Nat)=>cs.setIfInBounds (off+p.2) p.1) cs).toList=cs.toList.take (off+s)++l++cs.toList.drop (off+s+l.length)
  | [],s,cs,_=>by simp
  | u::l,s,cs,h=>by
    simp only [List.zipIdx_cons,List.foldl_cons]
    simp only [List.length_cons] at h
    rw [foldl_set off l (s+1) _ (by simp;omega)]
    apply List.ext_getElem?
    intro k
    have e1:off+(s+1)+l.length=off+s+(l.length+1):=by omega
    rw [show cs.toList.take (off+s)++u::l++cs.toList.drop (off+s+(u::l).length)=cs.toList.take (off+s)++(u::l)++cs.toList.drop (off+s+(u::l).length) from rfl,
      splice_get (by simp;omega),splice_get (by simp;omega)]
    simp only [List.length_cons,Array.toList_setIfInBounds,List.getElem?_set]
    by_cases h1:k=off+s
    · subst h1
      rw [if_neg (by omega),if_pos rfl,if_pos (by simp;omega),if_pos (by omega)]
      simp
    · by_cases h2:off+s≤k∧k<off+s+(l.length+1)
      · rw [if_pos (by omega),if_pos h2,show k-(off+s)=(k-(off+(s+1)))+1 by omega]
        simp
      · rw [if_neg (by omega),if_neg h2,if_neg (by omega)]
theorem fill_rel {place:Nat→Option (Nat × Nat)}:∀ {vs:List (Nat × V)}{ps:List (Nat × Value)}{cs ds:List V}{us:Array Value},BuildR place cs vs ds→ps.length=vs.length→(∀ (j:Nat) x p,vs[j]?=some x→ps[j]?=some p→p.1=x.1∧VRel I ρ x.2 p.2)→CellsRel I ρ cs us →
    ∃ out,Instr.fill place us ps=some out∧CellsRel I ρ ds out
  | [],ps,cs,ds,us,hb,hl,_,hc=>by
    cases hb
    have:ps=[]:=List.eq_nil_of_length_eq_zero (by simpa using hl)
    subst this
    exact ⟨us,rfl,hc⟩
  | (k,v)::vs,ps,cs,ds,us,.cons hp hs hok hlt hb,hl,hr,hc=>by
    cases ps with
    | nil=>simp at hl
    | cons p ps =>
      obtain ⟨k',u⟩:=p
      obtain ⟨e1,e2⟩:=hr 0 (k,v) (k',u) rfl rfl
      simp only at e1 e2
      subst e1
      rename_i o n
      obtain ⟨c1,c2⟩:=e2.cells (V.ok_ne hok)
      have hus:=hc.1
      have key:CellsRel I ρ (cs.take o++v.cells++cs.drop (o+n)) (u.cells.zipIdx.foldl (fun cs (p:Value × Nat)=>cs.setIfInBounds (o+p.2) p.1) us):=by
        have e3:(u.cells.zipIdx.foldl (fun cs (p:Value × Nat)=>cs.setIfInBounds (o+p.2) p.1) us).toList=us.toList.take o++u.cells.toList++us.toList.drop (o+u.cells.toList.length):=by
          rw [← Array.foldl_toList,Array.toList_zipIdx]
          have:=foldl_set o u.cells.toList 0 us (by simp;omega)
          simpa using this
        have e4:(u.cells.zipIdx.foldl (fun cs (p:Value × Nat)=>cs.setIfInBounds (o+p.2) p.1) us).size=us.size:=by
          rw [← Array.length_toList,e3];simp;omega
        refine ⟨by rw [e4,hus];simp;omega,fun j x q hx hq=>?_⟩
        rw [← Array.getElem?_toList,e3,splice_get (by simp;omega)] at hq
        subst hs
        rw [splice_get2 (by omega)] at hx
        by_cases h1:o≤j∧j<o+v.cells.length
        · rw [if_pos h1] at hx
          rw [if_pos (by simp [c1];exact h1)] at hq
          exact c2 _ x q hx (by simpa using hq)
        · rw [if_neg h1] at hx
          rw [if_neg (by simp [c1];omega)] at hq
          exact hc.2 j x q hx (by simpa using hq)
      obtain ⟨out,h1,h2⟩:=fill_rel hb (by simpa using hl) (fun j x p hj hp=>hr (j+1) x p (by simpa using hj) (by simpa using hp)) key
      refine ⟨out,?_,h2⟩
      simp only [Instr.fill,hp]
      rw [if_neg (by simp [c1,hs,hus];omega)]
      exact h1
where
  splice_get2 {cs us:List V} {off:Nat} (h:off+us.length≤cs.length) {k:Nat}:(cs.take off++us++cs.drop (off+us.length))[k]?=if off≤k∧k<off+us.length then us[k-off]? else cs[k]?:=by
    by_cases h1:k<off
    · rw [if_neg (by omega),List.append_assoc,List.getElem?_append_left (by simp;omega),List.getElem?_take,if_pos h1]
    · by_cases h2:k<off+us.length
      · rw [if_pos (by omega),List.getElem?_append_left (by simp;omega),List.getElem?_append_right (by simp;omega)]
        congr 1
        simp;omega
      · rw [if_neg (by omega),List.getElem?_append_right (by simp;omega),List.getElem?_drop]
        congr 1
        simp;omega
end
section
variable {P:Program}{r:Option Nat}{m nt:Nat}{Q:Post}{env:Env}{H:Heap}{ops:Array Oper}{l:List Stp}{ty:TypeId}{pos:String}{after:Array Edge}{T E:TypeId}{d de:TyD}{i dst:Nat}{keep:Bool}
theorem evals2 {I:Imm}{ρ:List (Option (Nat × Nat))}{a:Act}(he:EnvOk I ρ nt env a):∀ {l:List (Nat × Operand)}{vs:List (Nat × V)},l.mapM (fun p=>(eo env p.2).map fun v=>(p.1,v))=some vs →
    (l.map fun p=>(p.1,a.eval p.2)).length=vs.length∧∀ (j:Nat) x p,vs[j]?=some x→(l.map fun p=>(p.1,a.eval p.2))[j]?=some p→p.1=x.1∧VRel I ρ x.2 p.2
  | [],vs,h=>by simp at h;subst h;exact ⟨rfl,fun j v u h=>by simp at h⟩
  | x::l,vs,h=>by
    simp only [List.mapM_cons,Option.pure_def,Option.bind_eq_bind,Option.bind_eq_some_iff] at h
    obtain ⟨v0,hv0,vs',hvs,h'⟩:=h
    cases h'
    simp only [Option.map_eq_some_iff] at hv0
    obtain ⟨v1,hv1,rfl⟩:=hv0
    obtain ⟨e1,e2⟩:=evals2 he hvs
    refine ⟨by simpa using e1,fun j v u hj hu=>?_⟩
    cases j with
    | zero=>simp at hj hu;subst hj hu;exact ⟨rfl,eo_rel he hv1⟩
    | succ j=>exact e2 j v u (by simpa using hj) (by simpa using hu)
def SizesAre (P:Program):List (TypeId × Nat)→List Nat→Prop
  | [],[]=>True
  | (E,_)::fs,n::ns=>(∃ d,TyIs P E d∧d.size=n)∧SizesAre P fs ns
  | _,_=>False
theorem places_run {w:World}:∀ {fields:List Field}{fs:List (TypeId × Nat)}{ns:List Nat},fields.map (fun f=>(f.type,f.offset))=fs→SizesAre P fs ns →
    (fields.mapM (fun (f:Field)=>(do pure (f.offset,← sizeOf f.type):Sem (Nat × Nat)))).run P w=.ok (List.zip (fs.map (·.2)) ns) w
  | [],_,ns,rfl,h=>by cases ns<;>simp_all [SizesAre]
  | f::fields,_,ns,rfl,h=>by
    cases ns with
    | nil=>exact h.elim
    | cons n ns =>
      obtain ⟨⟨d,h1,h2⟩,h3⟩:=h
      have ih:=places_run (w:=w) (fields:=fields) rfl h3
      simp only [List.mapM_cons,Sem.run_bind,h1.sizeOf,h2,Result.andThen_ok,Sem.run_pure,ih]
      simp
theorem qs_build_struct {dst:Option Tmp}{guard:Option (Nat × Bool)}{parts:Array (Nat × Operand)}{fs:List (TypeId × Nat)}{ns:List Nat}{vs:List (Nat × V)}{ds:List V}(ht:TyIs P T d) (hk:d.tk=.struct fs) (hs:SizesAre P fs ns) (hz:(constV d.zero).ok=true)
    (hv:parts.toList.mapM (fun p=>(eo env p.2).map fun v=>(p.1,v))=some vs) (hb:BuildR (fun k=>(List.zip (fs.map (·.2)) ns)[k]?) (constV d.zero).cells vs ds) :
    QS P nt env H ⟨dst,.build T parts,ty,pos,after,guard⟩ (.agg ds):=.mk fun X I ρ a w he hw=>by
  obtain ⟨t,hu,hk'⟩:=ht.desc
  rw [hk] at hk'
  cases t<;>simp [TK.of] at hk'
  rename_i fields
  obtain ⟨e1,e2⟩:=evals2 he hv
  obtain ⟨out,h1,h2⟩:=fill_rel (I:=I) (ρ:=ρ) hb e1 e2 ((constV_rel I ρ d.zero).cells (V.ok_ne hz))
  refine ⟨.agg out,.agg h2.1 h2.2,fun w' _=>?_⟩
  have hp:=places_run (w:=w') (P:=P) (fields:=fields.toList) hk' hs
  have hp':(fields.mapM (fun (f:Field)=>(do pure (f.offset,← sizeOf f.type):Sem (Nat × Nat)))).run P w'=.ok (List.zip (fs.map (·.2)) ns).toArray w':=by
    rw [← Array.toArray_toList (xs:=fields),List.mapM_toArray,Sem.run_map,hp]
    rfl
  have h1':Instr.fill (fun x=>(List.zip (fs.map (·.2)) ns).toArray[x]?) d.zero.cells (parts.map fun p=>(p.1,a.eval p.2)).toList=some out:=by
    rw [← h1]
    simp
  simp only [execOp,Instr.build,Sem.run_bind,ht.zeroV,Result.andThen_ok,run_underlying hu,hp']
  rw [h1']
  rfl
theorem ls_buildSlice {dst:Option Tmp}{guard:Option (Nat × Bool)}{n:Nat}{parts:Array (Nat × Operand)}{vs:List (Nat × V)}{ds:List V}{f:Nat→V}(ht:TyIs P T d) (hk:d.tk=.slice E) (he:TyIs P E de) (hz:(constV de.zero).ok=true) (hzs:de.zero.cells.size=de.size) (hn:n*de.size≤16777216)
    (hv:parts.toList.mapM (fun p=>(eo env p.2).map fun v=>(p.1,v))=some vs) (hb:BuildR (fun k=>some (k*de.size,de.size)) ((List.range (n*de.size)).map fun j=>((constV de.zero).cells)[j % de.size]!) vs ds) (hf:∀ i,i<n→(f i).cells.length=de.size∧∀ (j:Nat) v,(f i).cells[j]?=some v→ds[i*de.size+j]?=some v) (hm:n≤maxLen) :
    LS P r m nt true env H ⟨dst,.buildSlice T n parts,ty,pos,after,guard⟩ (fun u H'=>u=.sl de.size H.length 0 n∧H'=H++[.arr de.size n f]) NoP:=.mk fun X I ρ a w next Qx hX hs hk' hp=>by
  obtain ⟨hE,hw,hdf⟩:=hs
  obtain ⟨e1,e2⟩:=evals2 hE hv
  have hzr:=(constV_rel I ρ de.zero).cells (V.ok_ne hz)
  have hc0:CellsRel I ρ ((List.range (n*de.size)).map fun j=>((constV de.zero).cells)[j % de.size]!) ((Array.range (n*de.size)).map (de.zero.cells[· % de.zero.cells.size]!)):=by
    refine ⟨by simp,fun j v u hv hu=>?_⟩
    have hj:j<n*de.size:=by have:=(List.getElem?_eq_some_iff.1 hv).1;simpa using this
    have hpos:0<de.size:=Nat.pos_of_ne_zero fun e=>by rw [e] at hj;simp at hj
    have hlt:=Nat.mod_lt j hpos
    have hl2:j % de.size<(constV de.zero).cells.length:=by rw [← hzr.1,hzs];exact hlt
    rw [List.getElem?_map,List.getElem?_range hj] at hv
    rw [Array.getElem?_map,Array.getElem?_range,if_pos hj] at hu
    have h3:j % de.size<de.zero.cells.size:=by omega
    simp only [Option.map_some,Option.some.injEq,hzs] at hv hu
    rw [getElem!_pos (constV de.zero).cells (j % de.size) hl2] at hv
    rw [getElem!_pos de.zero.cells (j % de.size) h3] at hu
    subst hv hu
    exact hzr.2 _ _ _ (List.getElem?_eq_getElem hl2) (Array.getElem?_eq_getElem h3)
  obtain ⟨out,h1,h2⟩:=fill_rel (I:=I) (ρ:=ρ) hb e1 e2 hc0
  have h1':Instr.fill (fun i=>some (i*de.size,de.size)) ((Array.range (n*de.size)).map (de.zero.cells[· % de.zero.cells.size]!)) (parts.map fun p=>(p.1,a.eval p.2)).toList=some out:=by
    rw [← h1];simp
  have hdl:∀ {place:Nat→Option (Nat × Nat)} {cs:List V} {vs:List (Nat × V)} {ds:List V},BuildR place cs vs ds→ds.length=cs.length:=fun h=>by
    induction h with
    | nil=>rfl
    | cons hp hs hok hl h ih=>rw [ih];simp;omega
  have hsz:out.size=n*de.size:=by rw [h2.1,hdl hb];simp
  have hrun:(execOp a.eval ⟨dst,.buildSlice T n parts,ty,pos,after,guard⟩).run P w=.ok (.value (.slice (some ⟨w.heap.size,0,none⟩) n n)) { w with heap:=w.heap.push (.cells out E) }:=by
    simp only [execOp,Instr.buildSlice,Sem.run_bind,run_underlying (ht.slice hk),Result.andThen_ok,he.sizeOf]
    rw [if_neg (by omega)]
    by_cases h0:n*de.size=0
    · have hz0:(Array.range (n*de.size)).map (fun x=>(#[]:Array Value)[x % (#[]:Array Value).size]!)=(Array.range (n*de.size)).map (de.zero.cells[· % de.zero.cells.size]!):=by rw [h0];simp [Array.range]
      rw [if_pos h0]
      simp only [Sem.run_pure,Result.andThen_ok,Sem.run_bind]
      rw [hz0,h1']
      simp [newRow]
    · rw [if_neg h0]
      simp only [Sem.run_bind,he.zeroV,Sem.run_pure,Result.andThen_ok]
      rw [h1']
      simp [newRow]
  refine wpIn_of_run (by simp) hrun ?_
  have ok:=hw.alloc (w':={ w with heap:=w.heap.push (.cells out E) }) (cs:=out) (ty:=E) (sz:=de.size) (n:=n) (f:=f) (by omega) (fun i hi=>(hf i hi).1) (fun i j v hi hj=>by
    have h3:=(hf i hi).2 j v hj
    have h4:i*de.size+j<out.size:=by rw [h2.1];exact (List.getElem?_eq_some_iff.1 h3).1
    exact ⟨out[i*de.size+j],by simp [h4],h2.2 _ _ _ h3 (by simp [h4])⟩) rfl rfl rfl rfl
  rw [hsz] at ok
  refine hk' I _ _ _ _ _ ⟨rfl,rfl⟩ (Imm.le_refl _) (pre_append _) ok ?_ (fun _=>keeps_alloc hw fun b hb=>by simp [Array.getElem?_push,show b≠w.heap.size by omega])
  have:=VRel.sl (I:=I) (ρ:=ρ++[some (w.heap.size,n*de.size)]) (sz:=de.size) (b:=H.length) (i:=0) (n:=n) (cb:=w.heap.size) (z:=n*de.size) (c:=n) (by rw [← hw.len];simp) (Nat.le_refl _) hm (by simp)
  simpa using this
theorem ar_buildSlice {n:Nat}{parts:Array (Nat × Operand)}{vs:List (Nat × V)}{ds:List V}(f:Nat→V) (ht:TyIs P T d) (hk:d.tk=.slice E) (he:TyIs P E de) (hz:(constV de.zero).ok=true) (hzs:de.zero.cells.size=de.size) (hn:n*de.size≤16777216)
    (hv:parts.toList.mapM (fun p=>(eo env p.2).map fun v=>(p.1,v))=some vs) (hb:BuildR (fun k=>some (k*de.size,de.size)) ((List.range (n*de.size)).map fun j=>((constV de.zero).cells)[j % de.size]!) vs ds) (hf:∀ i,i<n→(f i).cells.length=de.size∧∀ (j:Nat) v,(f i).cells[j]?=some v→ds[i*de.size+j]?=some v) (hm:n≤maxLen) (hd:dst<nt)
    (h:AR P r m nt ops Q l ((dst,.sl de.size H.length 0 n)::env) (H++[.arr de.size n f])):AR P r m nt ops Q (.l i ⟨some dst,.buildSlice T n parts,ty,pos,after,none⟩ keep::l) env H :=
  ar_l (ls_buildSlice ht hk he hz hzs hn hv hb hf hm).loose hd (fun v H' ⟨a,b⟩=>by subst a;subst b;exact h) (fun _ _ h=>h.elim)
theorem one_cells {v:V}{n:Nat}{cs:List V}(_hs:v.cells.length=n) (hc:cs.length=1*n):cs.take (0*n)++v.cells++cs.drop (0*n+n)=v.cells:=by
  rw [Nat.zero_mul,Nat.zero_add,List.drop_of_length_le (by omega)]
  simp
theorem ar_build1 {x:Operand}{v:V}(ht:TyIs P T d) (hk:d.tk=.slice E) (he:TyIs P E de) (hx:eo env x=some v) (hz:(constV de.zero).ok=true) (hzs:de.zero.cells.size=de.size) (hn:1*de.size≤16777216) (hs:v.cells.length=de.size) (hok:v.ok=true) (hd:dst<nt)
    (h:AR P r m nt ops Q l ((dst,.sl de.size H.length 0 1)::env) (H++[.arr de.size 1 (fun _=>v)])):AR P r m nt ops Q (.l i ⟨some dst,.buildSlice T 1 #[(0,x)],ty,pos,after,none⟩ keep::l) env H :=
  ar_buildSlice (vs:=[(0,v)]) (ds:=v.cells) (fun _=>v) ht hk he hz hzs hn (by simp [hx])
    (.cons rfl hs hok (by simp) (by rw [one_cells hs (by simp)];exact .nil)) (fun i hi=>by
      obtain rfl:i=0:=by omega
      exact ⟨hs,fun j v hj=>by simpa using hj⟩) (by unfold maxLen;omega) hd h
theorem ls_build0 {dst:Option Tmp}{guard:Option (Nat × Bool)}(ht:TyIs P T d) (hk:d.tk=.slice E) (he:TyIs P E de) :
    LS P r m nt true env H ⟨dst,.buildSlice T 0 #[],ty,pos,after,guard⟩ (fun u H'=>u=.emp∧H'=H) NoP:=.mk fun X I ρ a w next Qx hX hs hk' hp=>by
  have hrun:(execOp a.eval ⟨dst,.buildSlice T 0 #[],ty,pos,after,guard⟩).run P w=.ok (.value (.slice (some ⟨w.heap.size,0,none⟩) 0 0)) { w with heap:=w.heap.push (.cells #[] E) }:=by
    simp only [execOp,Instr.buildSlice,Sem.run_bind,run_underlying (ht.slice hk),Result.andThen_ok,he.sizeOf]
    rw [if_neg (by omega),if_pos (by omega)]
    have e0:(Array.range (0*de.size)).map (fun x=>(#[]:Array Value)[x % (#[]:Array Value).size]!)=#[]:=by simp
    simp only [Sem.run_pure,Result.andThen_ok,Sem.run_bind]
    rw [e0]
    simp [Instr.fill,newRow]
  have hb:Below w.heap.size w { w with heap:=w.heap.push (.cells #[] E) }:=⟨rfl,rfl,rfl,by simp,fun k hk=>by simp [Array.getElem?_push,show k≠w.heap.size by omega]⟩
  have hI:∀ b o,I b=some o→(w.heap.push (.cells #[] E))[b]?=some o:=fun b o h=>by
    have:=hs.2.1.imm b o h
    rw [Array.getElem?_push,if_neg (by have:=(Array.getElem?_eq_some_iff.1 this).1;omega)]
    exact this
  refine wpIn_of_run (by simp) hrun ?_
  exact hk' I ρ H .emp _ _ ⟨rfl,rfl⟩ (Imm.le_refl _) (Pre.refl _) (hs.2.1.pure (Imm.le_refl _) hI (fun _ h=>.inl h) hb) (.emp _) (fun _=>keeps_pure hs.2.1 (Imm.le_refl _) hb)
theorem ar_build0 (ht:TyIs P T d) (hk:d.tk=.slice E) (he:TyIs P E de) (hd:dst<nt) (h:AR P r m nt ops Q l ((dst,.emp)::env) H):AR P r m nt ops Q (.l i ⟨some dst,.buildSlice T 0 #[],ty,pos,after,none⟩ keep::l) env H :=
  ar_l (ls_build0 ht hk he).loose hd (fun v H' ⟨a,b⟩=>by subst a;subst b;exact h) (fun _ _ h=>h.elim)
def buildL (place:Nat→Option (Nat × Nat)):List V→List (Nat × V)→Option (List V)
  | cs,[]=>some cs
  | cs,(k,v)::l=>match place k with
    | some (o,n)=>bif Nat.beq v.cells.length n&&v.ok&&Nat.ble (o+n) cs.length then buildL place (cs.take o++v.cells++cs.drop (o+n)) l else none
    | none=>none
theorem build {place:Nat→Option (Nat × Nat)}:∀ {cs:List V}{vs:List (Nat × V)}{ds:List V},buildL place cs vs=some ds→BuildR place cs vs ds
  | cs,[],ds,h=>by cases h;exact .nil
  | cs,(k,v)::l,ds,h=>by
    simp only [buildL] at h
    cases hp:place k with
    | none=>rw [hp] at h;cases h
    | some q =>
      obtain ⟨o,n⟩:=q
      rw [hp] at h
      simp only at h
      cases hc:(Nat.beq v.cells.length n&&v.ok&&Nat.ble (o+n) cs.length)
      · rw [hc] at h;cases h
      · rw [hc] at h
        simp only [Bool.and_eq_true] at hc
        exact .cons hp (Nat.eq_of_beq_eq_true hc.1.1) hc.1.2 (Nat.le_of_ble_eq_true hc.2) (build h)
theorem ar_buildS {parts:Array (Nat × Operand)}{fs:List (TypeId × Nat)}{ns:List Nat}{vs:List (Nat × V)}{ds0 ds:List V}(ht:TyIs P T d) (hk:d.tk=.struct fs) (hs:SizesAre P fs ns) (hz:(constV d.zero).ok=true)
    (hv:parts.toList.mapM (fun p=>(eo env p.2).map fun v=>(p.1,v))=some vs) (hb:BuildR (fun k=>(List.zip (fs.map (·.2)) ns)[k]?) (constV d.zero).cells vs ds0) (hd:dst<nt) (hn:ds0=ds) (h:AR P r m nt ops Q l ((dst,.agg ds)::env) H):AR P r m nt ops Q (.q i ⟨some dst,.build T parts,ty,pos,after,none⟩::l) env H:=by
  subst hn
  exact ar_q (qs_build_struct ht hk hs hz hv hb) hd h
end
def vi (n:Int):V:=.s (.int .i64 n)
def vb (b:Bool):V:=.s (.bool b)
def vnil:V:=.s (.slice none 0 0)
def el {α:Type}[Inhabited α] (l:List α) (i:Nat):α:=l.getD i default
def LV {α:Type}[Inhabited α] (sz:Nat) (e:α→V) (l:List α):V:=.list sz l.length fun i=>e (el l i)
def LB {α:Type}[Inhabited α] (sz:Nat) (e:α→V) (l:List α):Blk:=.arr sz l.length fun i=>e (el l i)
theorem cells_s {v:Value}:(V.s v).cells=[V.s v]:=rfl
theorem cells_emp:V.emp.cells=[V.emp]:=rfl
theorem cells_agg {cs:List V}:(V.agg cs).cells=cs:=rfl
theorem cells_list {sz n:Nat}{f:Nat→V}:(V.list sz n f).cells=[V.list sz n f]:=rfl
theorem cells_sl {sz b i n:Nat}:(V.sl sz b i n).cells=[V.sl sz b i n]:=rfl
theorem cells_ptr {sz b i n:Nat}:(V.ptr sz b i n).cells=[V.ptr sz b i n]:=rfl
theorem cells_ref {v:V}{n:Nat}:(V.ref v n).cells=[V.ref v n]:=rfl
theorem cells_fn {f:Fn}{a b:List V}:(V.fn f a b).cells=[V.fn f a b]:=rfl
theorem cells_vi {n:Int}:(vi n).cells=[vi n]:=rfl
theorem cells_vb {b:Bool}:(vb b).cells=[vb b]:=rfl
theorem cells_vnil:vnil.cells=[vnil]:=rfl
theorem LV_cells {α:Type}[Inhabited α] {sz:Nat}{e:α→V}{l:List α}:(LV sz e l).cells=[LV sz e l]:=rfl
section
variable {α β:Type}[Inhabited α] [Inhabited β]
theorem el_eq {l:List α}{i:Nat}(h:i<l.length):el l i=l[i]:=by simp [el,h]
theorem el_mem {l:List α}{k:Nat}(h:k<l.length):el l k∈l:=by rw [el_eq h];exact List.getElem_mem h
theorem mem_el {l:List α}{x:α}(h:x∈l):∃ k,k<l.length∧el l k=x:=by
  obtain ⟨j,hj,rfl⟩:=List.getElem_of_mem h
  exact ⟨j,hj,el_eq hj⟩
theorem el_app_lt {l l':List α}{i:Nat}(h:i<l.length):el (l++l') i=el l i:=by simp [el,List.getElem?_append_left h]
theorem el_app_ge {l l':List α}{i:Nat}(h:l.length≤i):el (l++l') i=el l' (i-l.length):=by simp [el,List.getElem?_append_right h]
theorem el_snoc {l:List α}{x:α}:el (l++[x]) l.length=x:=by simp [el]
theorem el_map {l:List α}{f:α→β}{i:Nat}(h:i<l.length):el (l.map f) i=f (el l i):=by simp [el,h]
theorem el_map_range {f:Nat→α}{n i:Nat}(h:i<n):el ((List.range n).map f) i=f i:=by simp [el,h]
theorem el_replicate {x:α}{n i:Nat}(h:i<n):el (List.replicate n x) i=x:=by simp [el,h]
theorem el_take {l:List α}{n i:Nat}(h:i<n):el (l.take n) i=el l i:=by simp [el,h]
theorem el_drop {l:List α}{n i:Nat}:el (l.drop n) i=el l (n+i):=by simp [el]
theorem all_el {l:List α}{p:α→Bool}(h:∀ j,j<l.length→p (el l j)=true):l.all p=true:=by
  rw [List.all_eq_true]
  intro x hx
  obtain ⟨j,hj,rfl⟩:=mem_el hx
  exact h j hj
theorem not_all_el {l:List α}{p:α→Bool}{k:Nat}(hk:k<l.length) (h:p (el l k)=false):l.all p=false:=by
  cases e:l.all p with
  | false=>rfl
  | true=>rw [List.all_eq_true.1 e _ (el_mem hk)] at h;cases h
theorem of_all_el {l:List α}{p:α→Bool}(h:l.all p=true) {k:Nat}(hk:k<l.length):p (el l k)=true:=List.all_eq_true.1 h _ (el_mem hk)
theorem all_step {p:Nat→Prop}{k:Nat}(h:∀ j,j<k→p j) (hk:p k):∀ j,j<k+1→p j:=fun j hj=>by
  by_cases e:j=k
  · subst e;exact hk
  · exact h j (by omega)
end
section
variable {H:Heap}{σ:List (Option Nat)}{fr:Nat→Prop}
theorem VSub.of_eq {v x:V}(h:v=x) (hc:x.closed=true):VSub H σ fr v x:=by subst h;exact .closed hc
theorem slEq {sz b b0 i n n':Nat}(h:σ[b0]?=some (some b)) (e:n=n'):VSub H σ fr (.sl sz b i n) (.sl sz b0 i n'):=by subst e;exact .sl h
theorem siEq {k:IntKind}{n n':Int}(e:n=n'):VSub H σ fr (.s (.int k n)) (.s (.int k n')):=by subst e;exact .closed rfl
variable {α:Type}[Inhabited α]
theorem frzLB {sz b n:Nat}{e:α→V}{l:List α}(hf:fr b) (hb:H[b]?=some (.arr sz l.length fun i=>e (el l i))) (hc:∀ y,V.closed.all (e y).cells=true) (hn:n=l.length):VSub H σ fr (.sl sz b 0 n) (LV sz e l):=by
  subst hn
  exact .frz hf hb (by omega) (fun _ _=>hc _) (fun i _=>by rw [Nat.zero_add])
theorem bsub_app {k b sz m n:Nat}{e:α→V}{l l':List α}{f g:Nat→V}(h:σ[k]?=some (some b)) (hb:H[b]?=some (.arr sz (n+m) (appF n f g))) (hn:l.length=n) (hm:l'.length=m) (hf:∀ i,i<n→f i=e (el l i)) (hc:∀ y,(e y).closed=true) (hv:∀ j,j<m→VSub H σ fr (g j) (e (el l' j))):BSub H σ fr k (LB sz e (l++l')):=by
  subst hn hm
  refine .inl ⟨b,_,h,by rw [hb,List.length_append],fun i hi=>?_⟩
  rw [List.length_append] at hi
  show VSub H σ fr _ (e (el (l++l') i))
  by_cases h1:i<l.length
  · rw [appF_lt h1,hf i h1,← el_app_lt (l':=l') h1]
    exact .closed (hc _)
  · rw [appF_ge (by omega),el_app_ge (by omega)]
    exact hv _ (by omega)
theorem bsub_snoc {k b sz:Nat}{e:α→V}{l:List α}{x:α}{g:Nat→V}(h:σ[k]?=some (some b)) (hb:H[b]?=some (.arr sz (l.length+1) (appF l.length (fun i=>e (el l i)) g))) (hc:∀ y,(e y).closed=true) (hv:VSub H σ fr (g 0) (e x)):BSub H σ fr k (LB sz e (l++[x])) :=
  bsub_app h hb rfl rfl (fun _ _=>rfl) hc fun j hj=>by
    obtain rfl:j=0:=by omega
    exact hv
theorem bsub_one {k b sz:Nat}{e:α→V}{x:α}{f g:Nat→V}(h:σ[k]?=some (some b)) (hb:H[b]?=some (.arr sz (0+1) (appF 0 f g))) (hv:VSub H σ fr (g 0) (e x)):BSub H σ fr k (LB sz e [x]):=by
  refine .inl ⟨b,_,h,hb,fun i hi=>?_⟩
  obtain rfl:i=0:=by simpa using hi
  rw [appF_ge (Nat.le_refl _)]
  exact hv
end
theorem pcalls_know {P:Program}{f:FuncId}{args:List V}{R:V→Prop}{Φ:Prop}(hΦ:∀ I us,VRels I [] args us→Φ) (h:Φ→PCalls P f args R):PCalls P f args R:=.mk fun I w us a b=>(h (hΦ I us b)).1 I w us a b
theorem rel_arg {I:Imm}{ρ:List (Option (Nat × Nat))}{args:List V}{us:Array Value}(h:VRels I ρ args us) {j:Nat}{v:V}(hj:args[j]?=some v):∃ u,VRel I ρ v u:=by
  have hlt:=(List.getElem?_eq_some_iff.1 hj).1
  exact ⟨us[j]'(by rw [h.1];exact hlt),h.2 j v _ hj (by simp [h.1,hlt])⟩
section
variable {α:Type}[Inhabited α] {I:Imm}{ρ:List (Option (Nat × Nat))}
theorem rel_len {sz:Nat}{e:α→V}{l:List α}(h:∃ u,VRel I ρ (LV sz e l) u):l.length≤9223372036854775807:=by
  obtain ⟨u,h⟩:=h
  obtain ⟨A,c,us,rfl,hc,hm,_⟩:=h.list_inv
  cases A with
  | none=>simp only [capMax] at hm;omega
  | some _=>simp only [capMax,maxLen] at hm;omega
theorem rel_el {sz:Nat}{e:α→V}{l:List α}(h:∃ u,VRel I ρ (LV sz e l) u) (he:∀ x,(e x).cells=[e x]) {x:α}(hx:x∈l):∃ u,VRel I [] (e x) u:=by
  obtain ⟨u,h⟩:=h
  obtain ⟨A,c,us,rfl,hc,hm,hl,hsz,hv⟩:=h.list_inv
  obtain ⟨k,hk,rfl⟩:=mem_el hx
  exact ⟨_,hv k 0 _ hk (by rw [he];rfl)⟩
end
section
variable {P:Program}{nt:Nat}{env:Env}{H:Heap}{dst:Option Tmp}{ty T T':TypeId}{pos:String}{after:Array Edge}{guard:Option (Nat × Bool)}{x y:Operand}{d:TyD}
theorem sval {I:Imm}{ρ:List (Option (Nat × Nat))}{a:Act}(he:EnvOk I ρ nt env a) {x:Operand}{v:Value}(hx:eo env x=some (.s v)):a.eval x=v:=by
  have h:=eo_rel he hx
  generalize a.eval x=u at h
  cases h
  rfl
structure SeqOk (P:Program) (T:TypeId) (l:List (TypeId × Nat × Bool)):Prop where
  und:P.underlying T=some (.struct (P.fieldsOf T))
  stood:P.stoodInHeld T=false
  guard:P.eqGuardType P.depth T=false
  fields : (P.fieldsOf T).toList.map (fun f => (f.type, f.offset, f.name == "_")) = l
/-- Two structs of numbers and bools, compared field by field. -/
inductive EqOk (P:Program) (cs ds:List V):List (TypeId × Nat × Bool)→Bool→Prop
  | nil:EqOk P cs ds [] true
  | int {T o k k' a b l r d} (ht:TyIs P T d) (hk:d.tk=.int k) (hs:d.size=1) (h1:cs[o]?=some (.s (.int k' a))) (h2:ds[o]?=some (.s (.int k' b))) (h:EqOk P cs ds l r):EqOk P cs ds ((T,o,false)::l) (decide (a=b)&&r)
  | bool {T o a b l r d} (ht:TyIs P T d) (hk:d.tk=.bool) (hs:d.size=1) (h1:cs[o]?=some (.s (.bool a))) (h2:ds[o]?=some (.s (.bool b))) (h:EqOk P cs ds l r):EqOk P cs ds ((T,o,false)::l) ((a==b)&&r)
theorem part1_run {I:Imm}{ρ:List (Option (Nat × Nat))}{cs:List V}{us:Array Value}(ht:TyIs P T d) (hk:d.tk.agg=false) (_hs:d.size=1) (h1:us.size=cs.length) (hr:∀ (j:Nat) x u,cs[j]?=some x→us[j]?=some u→VRel I ρ x u) {o:Nat}{v:Value}(hv:cs[o]?=some (.s v)) (w:World):(part T us o).run P w=.ok v w:=by
  obtain ⟨u,hu,hrun⟩:=part_run (I:=I) (ρ:=ρ) ht h1 hr (off:=o) (v:=.s v) (by simp [partV,hk,hv])
  cases hu
  exact hrun w
theorem eqFields_run {I:Imm}{ρ:List (Option (Nat × Nat))}{cs ds:List V}{us vs:Array Value}(h1:us.size=cs.length) (hr:∀ (j:Nat) x u,cs[j]?=some x→us[j]?=some u→VRel I ρ x u) (h2:vs.size=ds.length) (hr2:∀ (j:Nat) x u,ds[j]?=some x→vs[j]?=some u→VRel I ρ x u) (e:Nat) (w:World) :
    ∀ {fs : List Field} {l : List (TypeId × Nat × Bool)} {r : Bool}, fs.map (fun f => (f.type, f.offset, f.name == "_")) = l → EqOk P cs ds l r → (Op.eqFields (e + 1) us vs fs).run P w = .ok r w
  | [],_,_,rfl,.nil=>by simp [Op.eqFields]
  | f::fs,l,r,hm,hq=>by
    simp only [List.map_cons] at hm
    cases hq with
    | nil=>cases hm
    | int ht hk hs a1 a2 hq =>
      simp only [List.cons.injEq,Prod.mk.injEq] at hm
      obtain ⟨⟨rfl,rfl,hn⟩,hm⟩:=hm
      have ih:=eqFields_run h1 hr h2 hr2 e w hm hq
      have p1:=part1_run (I:=I) (ρ:=ρ) ht (by rw [hk];rfl) hs h1 hr a1 w
      have p2:=part1_run (I:=I) (ρ:=ρ) ht (by rw [hk];rfl) hs h2 hr2 a2 w
      have hn' : f.name ≠ "_" := by simpa using hn
      simp only [Op.eqFields,hn',ne_eq,not_false_eq_true,if_true,Sem.run_bind,p1,p2,Result.andThen_ok,run_equalIn_int w e _ _ _ _ _ (ht.intk hk)]
      rename_i a b _ _ _
      by_cases hab:a=b
      · subst hab;simpa using ih
      · simp [hab]
    | bool ht hk hs a1 a2 hq =>
      simp only [List.cons.injEq,Prod.mk.injEq] at hm
      obtain ⟨⟨rfl,rfl,hn⟩,hm⟩:=hm
      have ih:=eqFields_run h1 hr h2 hr2 e w hm hq
      have p1:=part1_run (I:=I) (ρ:=ρ) ht (by rw [hk];rfl) hs h1 hr a1 w
      have p2:=part1_run (I:=I) (ρ:=ρ) ht (by rw [hk];rfl) hs h2 hr2 a2 w
      have hn' : f.name ≠ "_" := by simpa using hn
      simp only [Op.eqFields,hn',ne_eq,not_false_eq_true,if_true,Sem.run_bind,p1,p2,Result.andThen_ok,run_equalIn_bool w e _ _ _ (ht.boolk hk)]
      rename_i a b _ _ _
      by_cases hab:a=b
      · subst hab;simpa using ih
      · simp [hab]
theorem agg_inv {I:Imm}{ρ:List (Option (Nat × Nat))}{cs:List V}{u:Value}(h:VRel I ρ (.agg cs) u):∃ us,u=.agg us∧us.size=cs.length∧∀ (j:Nat) x u,cs[j]?=some x→us[j]?=some u→VRel I ρ x u:=by
  cases h with
  | agg h1 h2=>exact ⟨_,rfl,h1,h2⟩
section
variable {cs ds:List V}{l:List (TypeId × Nat × Bool)}{r:Bool}
theorem qs_sneq (hS:SeqOk P T l) (hx:eo env x=some (.agg cs)) (hy:eo env y=some (.agg ds)) (hq:EqOk P cs ds l r) :
    QS P nt env H ⟨dst,.binOp .neq T x y T',ty,pos,after,guard⟩ (.s (.bool (!r))):=.mk
  fun _ I ρ a w h hw=>by
    obtain ⟨us,e1,h1,hr⟩:=agg_inv (eo_rel h hx)
    obtain ⟨vs,e2,h2,hr2⟩:=agg_inv (eo_rel h hy)
    exact ⟨_,.s _,fun w' _=>by
      simp only [execOp,e1,e2,Sem.run_bind,run_eqGuard_agg w' _ T x y us vs hS.guard,Result.andThen_ok,run_neq_struct,run_equalIn_struct w' 9999 T us vs hS.und hS.stood,eqFields_run h1 hr h2 hr2 9998 w' hS.fields hq]
      rfl⟩
end
end
section
variable {H:Heap}{σ:List (Option Nat)}{fr:Nat→Prop}{α:Type}[Inhabited α]
theorem bsub_all {k b sz:Nat}{e:α→V}{l:List α}{f g:Nat→V}(h:σ[k]?=some (some b)) (hb:H[b]?=some (.arr sz (0+l.length) (appF 0 f g))) (hg:∀ i,i<l.length→g i=e (el l i)) (hc:∀ y,(e y).closed=true):BSub H σ fr k (LB sz e l):=by
  rw [Nat.zero_add] at hb
  refine .inl ⟨b,_,h,hb,fun i hi=>?_⟩
  rw [appF_ge (Nat.zero_le _),Nat.sub_zero,hg i hi]
  exact .closed (hc _)
theorem frz_all {b sz n:Nat}{e:α→V}{l:List α}{f g:Nat→V}(hf:fr b) (hb:H[b]?=some (.arr sz (0+l.length) (appF 0 f g))) (hg:∀ i,i<l.length→g i=e (el l i)) (hc:∀ y,V.closed.all (e y).cells=true) (hn:n=0+l.length):VSub H σ fr (.sl sz b 0 n) (LV sz e l):=by
  rw [Nat.zero_add] at hb hn
  subst hn
  refine .frz hf hb (by omega) (fun i hi=>?_) (fun i hi=>?_)
  · rw [appF_ge (Nat.zero_le _),Nat.sub_zero,hg i hi];exact hc _
  · show e (el l i)=_
    rw [Nat.zero_add,appF_ge (Nat.zero_le _),Nat.sub_zero,hg i hi]
theorem bsub_upd {k b sz n j:Nat}{f g:Nat→V}{v:V}(h:σ[k]?=some (some b)) (hb:H[b]?=some (.arr sz n (upd f j v))) (hv:VSub H σ fr v (g j)) (hf:∀ i,i<n→i≠j→f i=g i) (hc:∀ i,i<n→i≠j→(g i).closed=true):BSub H σ fr k (.arr sz n g):=by
  refine .inl ⟨b,_,h,hb,fun i hi=>?_⟩
  by_cases e:i=j
  · subst e
    rw [upd_at,if_pos rfl]
    exact hv
  · rw [upd_at,if_neg e]
    exact .of_eq (hf i hi e) (hc i hi e)
theorem bsub_updL {k b sz j:Nat}{e:α→V}{l:List α}{f:Nat→V}{v:V}(h:σ[k]?=some (some b)) (hb:H[b]?=some (.arr sz l.length (upd f j v))) (hv:VSub H σ fr v (e (el l j))) (hf:∀ i,i<l.length→i≠j→f i=e (el l i)) (hc:∀ y,(e y).closed=true):BSub H σ fr k (LB sz e l) :=
  bsub_upd h hb hv hf (fun _ _ _=>hc _)
end
section
variable {P:Program}{nt:Nat}{env:Env}{H:Heap}{dst:Option Tmp}{ty T E:TypeId}{pos:String}{after:Array Edge}{guard:Option (Nat × Bool)}{x y:Operand}{d de:TyD}
theorem qs_iaddr_sl0 {sz b n j:Nat}{k:IntKind}{v:Int}(ht:TyIs P T d) (hk:d.tk=.slice E) (he:TyIs P E de) (hs:de.size=sz) (hx:eo env x=some (.sl sz b 0 n)) (hy:eo env y=some (.s (.int k v))) (hv:v=(j:Int)) (hj:j<n) :
    QS P nt env H ⟨dst,.indexAddr T x y,ty,pos,after,guard⟩ (.ptr sz b j 0):=by
  have h:=qs_iaddr_sl (nt:=nt) (H:=H) (dst:=dst) (ty:=ty) (pos:=pos) (after:=after) (guard:=guard) ht hk he hs hx hy hv hj
  rwa [Nat.zero_add] at h
end
def copyF (f:Nat→V) (i m:Nat) (g:Nat→V):Nat→V:=fun j=>bif Nat.ble i j&&Nat.blt j (i+m) then g (j-i) else f j
theorem copyF_in {f g:Nat→V}{i m j:Nat}(h1:i≤j) (h2:j<i+m):copyF f i m g j=g (j-i):=by
  have e1:Nat.ble i j=true:=Nat.ble_eq_true_of_le h1
  have e2:Nat.blt j (i+m)=true:=by rw [Nat.blt_eq];exact h2
  simp [copyF,e1,e2]
theorem copyF_out {f g:Nat→V}{i m j:Nat}(h:j<i∨i+m≤j):copyF f i m g j=f j:=by
  unfold copyF
  rcases h with h|h
  · have:Nat.ble i j=false:=by cases e:Nat.ble i j with|false=>rfl|true=>have:=Nat.le_of_ble_eq_true e;omega
    rw [this];rfl
  · have:Nat.blt j (i+m)=false:=by cases e:Nat.blt j (i+m) with|false=>rfl|true=>rw [Nat.blt_eq] at e;omega
    rw [this,Bool.and_false];rfl
section
variable {P:Program}{r:Option Nat}{m nt:Nat}{Q:Post}{env:Env}{H:Heap}{ops:Array Oper}{l:List Stp}{ty:TypeId}{pos:String}{after:Array Edge}{x y:Operand}{T T2 E:TypeId}{d de:TyD}{dst:Option Tmp}{guard:Option (Nat × Bool)}
theorem qs_slice_sl {sz b i n l h:Nat}{lo hi:Option Operand}(ht:TyIs P T d) (hk:d.tk=.slice E) (he:TyIs P E de) (hs:de.size=sz) (hx:eo env x=some (.sl sz b i n)) (hl:bnd env lo 0 l) (hh:bnd env hi n h) (h1:l≤h) (h2:h≤n) (h3:l<n∨l=0) :
    QS P nt env H ⟨dst,.slice T x lo hi none,ty,pos,after,guard⟩ (.sl sz b (i+l) (h-l)):=.mk
  fun _ I ρ a w hE hw=>by
    have hr:=eo_rel hE hx
    have bl:=bnd_val hE hl
    have bh:=bnd_val hE hh
    subst hs
    rcases hr.sl_inv with ⟨cb,z,c,ex,hb,hnc,hcm,hz⟩|⟨A,ex,hb,rfl,rfl⟩
    · refine ⟨.slice (some ⟨cb,(i+l)*de.size,none⟩) (h-l) (c-l),.sl hb (by omega) (by omega) (by rw [show i+l+(c-l)=i+c by omega];exact hz),fun w' _=>?_⟩
      have:=slice_run (P:=P) (w:=w') (A:=some ⟨cb,i*de.size,none⟩) (n:=n) (cap:=c) (l:=l) (h:=h) (m:=c) (lo:=lo.map a.eval) (hi:=hi.map a.eval) (mx:=none) ht hk he rfl (by
        cases hi with
        | none=>exact ⟨bh,rfl⟩
        | some u=>exact bh) bl h1 (by omega) (Nat.le_refl _)
      have e:(if c=l then (some ⟨cb,i*de.size,none⟩:Option Addr) else (some ⟨cb,i*de.size,none⟩:Option Addr).map (·.add (l*de.size)))=some ⟨cb,(i+l)*de.size,none⟩:=by
        rw [Nat.add_mul]
        split
        · have:l=0:=by omega
          subst this;simp
        · simp only [Option.map_some,Addr.add]
          split
          · rename_i h0;rw [h0];rfl
          · rfl
      rw [e] at this
      simp only [execOp,ex,Sem.run_bind,Option.map_none,this,Result.andThen_ok]
      rfl
    · obtain rfl:h=0:=by omega
      obtain rfl:l=0:=by omega
      refine ⟨.slice A 0 0,.slNone A hb,fun w' _=>?_⟩
      have:=slice_run (P:=P) (w:=w') (A:=A) (n:=0) (cap:=0) (l:=0) (h:=0) (m:=0) (lo:=lo.map a.eval) (hi:=hi.map a.eval) (mx:=none) ht hk he rfl (by
        cases hi with
        | none=>exact ⟨bh,rfl⟩
        | some u=>exact bh) bl (Nat.le_refl _) (Nat.le_refl _) (Nat.le_refl _)
      simp only [execOp,ex,Sem.run_bind,Option.map_none,this,Result.andThen_ok]
      rfl
end
theorem wrapU {n:Int}(h:0≤n∧n≤18446744073709551615):IntKind.u64.wrap n=n:=by
  simp only [IntKind.wrap,IntKind.bits,IntKind.signed]
  simp
  omega
theorem quo64 {m n:Int}(hm:0≤m∧m≤9223372036854775807) (hn:0<n):IntKind.i64.wrap (m.tdiv n)=m/n:=by
  rw [Int.tdiv_eq_ediv_of_nonneg hm.1]
  have h1:0≤m/n:=Int.ediv_nonneg hm.1 (by omega)
  have h2:m/n≤m:=Int.ediv_le_self _ hm.1
  exact wrap64 (by omega)
theorem shr0 {m:Int}(h:0≤m∧m≤4294967295):m.fdiv (2 ^ (min (32:Int).toNat IntKind.u64.bits))=0:=by
  have e:(2:Int) ^ (min (32:Int).toNat IntKind.u64.bits)=4294967296:=by decide
  rw [e,Int.fdiv_eq_ediv_of_nonneg _ (by omega)]
  omega
theorem andMask {m:Int}(h:0≤m∧m≤4294967295):IntKind.u64.wrap ((BitVec.ofInt IntKind.u64.bits m &&& BitVec.ofInt IntKind.u64.bits 4294967295).toNat:Int)=m:=by
  obtain ⟨k,rfl⟩:=Int.eq_ofNat_of_zero_le h.1
  have hk:k<2 ^ 32:=by omega
  have e:((BitVec.ofInt IntKind.u64.bits (k:Int) &&& BitVec.ofInt IntKind.u64.bits 4294967295).toNat)=k:=by
    show ((BitVec.ofInt 64 (k:Int) &&& BitVec.ofInt 64 4294967295).toNat)=k
    rw [BitVec.toNat_and]
    have h1:(BitVec.ofInt 64 (k:Int)).toNat=k:=by simp;omega
    have h2:(BitVec.ofInt 64 4294967295).toNat=2 ^ 32-1:=by decide
    rw [h1,h2,Nat.and_two_pow_sub_one_eq_mod]
    omega
  rw [e]
  exact wrapU (by omega)
theorem bnd_some {env:Env}{x:Operand}{k:IntKind}{v:Int}{d l:Nat}(hx:eo env x=some (.s (.int k v))) (h:v=(l:Int)):bnd env (some x) d l:=⟨k,by rw [hx,h]⟩
section
variable {P:Program}{nt:Nat}{env:Env}{H:Heap}{dst:Option Tmp}{ty:TypeId}{pos:String}{after:Array Edge}{guard:Option (Nat × Bool)}{x:Operand}
theorem qs_nck_ptr {sz b i off:Nat}(hx:eo env x=some (.ptr sz b i off)):QS P nt env H ⟨dst,.nilCheck x,ty,pos,after,guard⟩ (.ptr sz b i off):=.mk
  fun _ I ρ a w h hw=>by
    have h1:=eo_rel h hx
    obtain ⟨cb,z,h1',hb⟩:=h1.ptr_inv
    exact ⟨_,h1,fun w' _=>by simp [execOp,h1']⟩
theorem qs_nck_ref {v:V}{off:Nat}(hx:eo env x=some (.ref v off)):QS P nt env H ⟨dst,.nilCheck x,ty,pos,after,guard⟩ (.ref v off):=.mk
  fun _ I ρ a w h hw=>by
    have h1:=eo_rel h hx
    cases h1':a.eval x<;>rw [h1'] at h1<;>first|(cases h1;done)|skip
    rename_i A
    cases A with
    | none=>cases h1
    | some A=>exact ⟨_,h1,fun w' _=>by simp [execOp,h1']⟩
end
end Go.Proofs.YtbilpbabdgfblaaGreat
