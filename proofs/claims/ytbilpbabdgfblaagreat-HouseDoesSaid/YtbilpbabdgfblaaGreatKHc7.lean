/- Parts of the proof: a layer of values over the model, and contracts of functions. No condition. -/
import Derived.Test.YtbilpbabdgfblaaGreatKHc6
set_option maxHeartbeats 16000000
set_option linter.unusedSimpArgs false
set_option linter.unusedVariables false
namespace Go.Proofs.YtbilpbabdgfblaaGreat
open Go.RowKit
section
variable {P:Program}{nt:Nat}{Q:Post}{env:Env}{H:Heap}{R Rp:V→Heap→Prop}{a t2 t3:Nat}{v v2 v3:V}
theorem bq3c {T:TypeId}{d:TyD}{sz b i off n:Nat}{f:Nat→V}(hT:TyIs P T d) (ha:look env a=some (.ptr sz b i off)) (hH:H[b]?=some (.arr sz n f)) (hi:i<n) (hv:partV d.tk.agg (f i).cells off d.size=some v)
    (h2:look env t2=some v2) (h3:look env t3=some v3) (hR:R (.tup [v,v2,v3]) H):BodyQ P #[.cell a T,.tmp t2,.tmp t3] R Rp .ret env H :=
  ⟨_,.inr (.inr (.inr (.inl ⟨_,_,_,_,_,_,rfl,⟨d,sz,b,i,off,n,f,hT,ha,hH,hi,hv⟩,h2,h3,rfl⟩))),hR⟩
theorem bq1c {T:TypeId}{d:TyD}{sz b i off n:Nat}{f:Nat→V}(hT:TyIs P T d) (ha:look env a=some (.ptr sz b i off)) (hH:H[b]?=some (.arr sz n f)) (hi:i<n) (hv:partV d.tk.agg (f i).cells off d.size=some v)
    (hR:R v H):BodyQ P #[.cell a T] R Rp .ret env H:=⟨_,.inl ⟨_,rfl,⟨d,sz,b,i,off,n,f,hT,ha,hH,hi,hv⟩⟩,hR⟩
end
structure FCalls (P:Program) (f:FuncId) (args:List V) (sz:Nat) (R:Nat→(Nat→V)→Prop):Prop where
  out:∀ (I:Imm) w us,(∀ b o,I b=some o→w.heap[b]?=some o)→VRels I [] args us→Calls P f us w fun e w'=>∃ n g u I' ρ',R n g∧(∀ i,i<n→V.closed.all (g i).cells=true)∧e=.returned u∧VRel I' ρ' (.sl sz 0 0 n) u∧WOk (Ctx.self w [] [] I) I' ρ' [.arr sz n g] w'
def FreshQ (sz:Nat) (R:Nat→(Nat→V)→Prop) (v:V) (H:Heap):Prop:=∃ n g,v=.sl sz 0 0 n∧H=[.arr sz n g]∧R n g∧∀ i,i<n→V.closed.all (g i).cells=true
theorem fcalls_of_aw {P:Program}{f:FuncId}{fn:Func}{c:Code}{args:List V}{sz:Nat}{R:Nat→(Nat→V)→Prop}(hf:P.funcs[f]?=some fn) (hb:fn.body=some c) (hn:args.length≤fn.ntmps)
    (h:AW P none 0 fn.ntmps c (BodyQ P fn.results (FreshQ sz R) NoP) (argEnv args 0) []):FCalls P f args sz R:=by
  refine ⟨fun I w us hI hv=>?_⟩
  refine ((acalls_of_aw (H:=[]) hf hb hn h).1 (Ctx.self w [] [] I) I [] w us (WOk.begin hI) hv).mono fun e w' ⟨v,u,I',ρ',H',hle,hpre,hw',hr,h2⟩=>?_
  rcases h2 with ⟨rfl,n,g,rfl,rfl,hR,hc⟩|⟨_,hno⟩
  · exact ⟨n,g,u,I',ρ',hR,hc,rfl,hr,hw'⟩
  · exact hno.elim
theorem get_snoc {α:Type}{l:List α}{a x:α}{k:Nat}(h:(l++[a])[k]?=some x):(k<l.length∧l[k]?=some x)∨(k=l.length∧x=a):=by
  rcases Nat.lt_or_ge k l.length with hk|hk
  · exact .inl ⟨hk,by rwa [List.getElem?_append_left hk] at h⟩
  · rw [List.getElem?_append_right hk] at h
    have:k-l.length=0:=by
      have:=(List.getElem?_eq_some_iff.1 h).1
      simp at this
      omega
    rw [this] at h
    simp at h
    exact .inr ⟨by omega,h.symm⟩
theorem WOk.join {X:Ctx}{I J:Imm}{ρ:List (Option (Nat × Nat))}{x:Option (Nat × Nat)}{H:Heap}{w w':World}{sz n:Nat}{g:Nat→V}(hw:WOk X I ρ H w) (k:WOk (Ctx.self w [] [] I) J [x] [.arr sz n g] w') (hc:∀ i,i<n→V.closed.all (g i).cells=true) :
    WOk X J (ρ++[x]) (H++[.arr sz n g]) w':=by
  have hlen:=hw.len
  have old:∀ b,b<w.heap.size→w'.heap[b]?=w.heap[b]?:=fun b hb=>k.keep b hb not_live_nil
  have nw:∀ b z,x=some (b,z)→w.heap.size≤b:=fun b z e=>by
    rcases k.mine b ⟨0,_,rfl,by simp,z,by rw [e];rfl⟩ with h|h
    · exact h
    · exact (not_live_nil h).elim
  have oldLive:∀ i b y (blk:Blk),H[i]?=some blk→blk≠.dead→ρ[i]?=some (some (b,y))→b<w.heap.size:=fun i b y blk h1 h2 h3=>hw.lt ⟨i,blk,h1,h2,y,h3⟩
  have both:∀ (i:Nat) (blk:Blk) (y:Option (Nat × Nat)),(H++[Blk.arr sz n g])[i]?=some blk→(ρ++[x])[i]?=some y→(i<H.length∧H[i]?=some blk∧ρ[i]?=some y)∨(i=H.length∧blk=.arr sz n g∧y=x):=fun i blk y h1 h2=>by
    rcases get_snoc h1 with ⟨a1,a2⟩|⟨a1,a2⟩<;>rcases get_snoc h2 with ⟨b1,b2⟩|⟨b1,b2⟩
    · exact .inl ⟨a1,a2,b2⟩
    · omega
    · omega
    · exact .inr ⟨a1,a2,b2⟩
  exact { len:=by simp [hlen]
          inj:=fun i j b ⟨p,hp,hp'⟩ ⟨q,hq,hq'⟩ y z hy hz=>by
            rcases both i p _ hp hy with ⟨_,a2,a3⟩|⟨a1,_,a3⟩<;>rcases both j q _ hq hz with ⟨_,b2,b3⟩|⟨b1,_,b3⟩
            · exact hw.inj i j b ⟨p,a2,hp'⟩ ⟨q,b2,hq'⟩ y z a3 b3
            · have h1:=oldLive i b y p a2 hp' a3
              have h2:=nw b z b3.symm
              omega
            · have h1:=oldLive j b z q b2 hq' b3
              have h2:=nw b y a3.symm
              omega
            · omega
          imm:=k.imm
          apart:=fun b ⟨i,blk,h1,h2,z,h3⟩=>by
            rcases both i blk _ h1 h3 with ⟨_,a2,a3⟩|⟨_,_,a3⟩
            · have hlt:=oldLive i b z blk a2 h2 a3
              have hI:=hw.apart b ⟨i,blk,a2,h2,z,a3⟩
              cases e:J b with
              | none=>rfl
              | some o =>
                rcases k.news b (by rw [e];simp) with h|h|h
                · exact (h hI).elim
                · have:w.heap.size≤b:=h
                  omega
                · exact (not_live_nil h).elim
            · exact k.apart b ⟨0,_,rfl,by simp,z,by rw [← a3];rfl⟩
          size:=fun i s m f h=>by
            rcases get_snoc h with ⟨_,a2⟩|⟨_,a2⟩
            · exact hw.size i s m f a2
            · cases a2;exact k.size 0 _ _ _ rfl
          none:=fun i s m f h h'=>by
            rcases both i _ _ h h' with ⟨_,a2,a3⟩|⟨_,a2,a3⟩
            · exact hw.none i s m f a2 a3
            · cases a2;exact k.none 0 _ _ _ rfl (by rw [← a3];rfl)
          arr:=fun i s m f b z h h'=>by
            rcases both i _ _ h h' with ⟨_,a2,a3⟩|⟨_,a2,a3⟩
            · exact (hw.arr i s m f b z a2 a3).mono k.le (pre_append _) (old b (oldLive i b z _ a2 (by simp) a3))
            · cases a2
              obtain ⟨cs,ty,h1,h2,h3,h4⟩:=k.arr 0 _ _ _ b z rfl (by rw [← a3];rfl)
              exact ⟨cs,ty,h1,h2,h3,fun i j v hi hv=>by obtain ⟨u,h5,h6⟩:=h4 i j v hi hv;exact ⟨u,h5,(h6.close (closed_all (hc i hi) hv)).closed⟩⟩
          map:=fun i m h=>by
            rcases get_snoc h with ⟨a1,a2⟩|⟨_,a2⟩
            · obtain ⟨b,h1,h2⟩:=hw.map i m a2
              refine ⟨b,?_,h2.mono k.le (pre_append _) (old b (oldLive i b 0 _ a2 (by simp) h1))⟩
              rw [List.getElem?_append_left (by omega)]
              exact h1
            · cases a2
          mine:=fun b ⟨i,blk,h1,h2,z,h3⟩=>by
            rcases both i blk _ h1 h3 with ⟨_,a2,a3⟩|⟨_,_,a3⟩
            · exact hw.mine b ⟨i,blk,a2,h2,z,a3⟩
            · exact .inl (Nat.le_trans hw.grow (nw b z a3.symm))
          news:=fun b hb=>by
            rcases k.news b hb with h|h|h
            · exact hw.news b h
            · exact .inr (.inl (Nat.le_trans hw.grow h))
            · exact (not_live_nil h).elim
          le:=Imm.le_trans hw.le k.le
          pre:=hw.pre.trans (pre_append _)
          os:=k.os.trans hw.os,tape:=k.tape.trans hw.tape,out:=k.out.trans hw.out,grow:=Nat.le_trans hw.grow k.grow
          keep:=fun b hb hl=>(old b (Nat.lt_of_lt_of_le hb hw.grow)).trans (hw.keep b hb hl) }
section
variable {P:Program}{r:Option Nat}{m nt:Nat}{Q:Post}{env:Env}{H:Heap}{ops:Array Oper}{l:List Stp}{dst:Option Tmp}{ty:TypeId}{pos:String}{after:Array Edge}{guard:Option (Nat × Bool)}{keep:Bool}
theorem ls_fcall {fo:Operand}{args:List Operand}{ats:Array TypeId}{f:FuncId}{first cap vs avs:List V}{sz:Nat}{R:Nat→(Nat→V)→Prop}(hfn:FnOk P f) (hf:eo env fo=some (.fn (.func f) first cap)) (hargs:args.mapM (eo env)=some vs)
    (ha:ArgsOk false H (first++vs++cap) avs) (h:FCalls P f avs sz R):LS P r m nt keep env H ⟨dst,.call ⟨.value fo,args.toArray,ats⟩,ty,pos,after,guard⟩ (fun v H'=>∃ n g,R n g∧v=.sl sz H.length 0 n∧H'=H++[.arr sz n g]) NoP:=.mk
  fun X I ρ a w next Qx hX hs hk hp=>by
    have hw:=hs.2.1
    have h1:=eo_rel hs.1 hf
    cases h1':a.eval fo<;>rw [h1'] at h1<;>cases h1
    rename_i us ws e1 e2 e3 e4
    have hrel:VRels I ρ (first++vs++cap) (us++(args.map a.eval).toArray++ws):=(VRels.append ⟨e1,e2⟩ (evals hs.1 hargs)).append ⟨e3,e4⟩
    have hrel':=args_rel (us:=(us++(args.map a.eval).toArray++ws).toList) hw ha (by rw [Array.toArray_toList];exact hrel)
    rw [Array.toArray_toList] at hrel'
    refine wpIn_of_run (by simp) (call_run hfn h1' w) ⟨fun h=>by simp [Fw,Fence.wide] at h,callsIn_fw.2 ?_⟩
    refine (h.1 I w _ hw.imm hrel').mono fun e w' ⟨n,g,u,I',ρ',hR,hc,he,hv,hk'⟩=>?_
    subst he
    obtain ⟨x,rfl⟩:∃ x,ρ'=[x]:=by
      have:=hk'.len
      match ρ',this with
      | [x],_=>exact ⟨x,rfl⟩
    have hx:(ρ++[x])[H.length]?=some x:=by rw [← hw.len];simp
    have hv2:VRel I' (ρ++[x]) (.sl sz H.length 0 n) u:=by
      rcases hv.sl_inv with ⟨cb,z,c,rfl,hρ,h2,h3,h4⟩|⟨A,rfl,hρ,_,rfl⟩
      · exact .sl (by rw [hx];simpa using hρ) h2 h3 h4
      · exact .slNone A (by rw [hx];simpa using hρ)
    exact hk I' (ρ++[x]) _ _ u w' ⟨n,g,hR,rfl,rfl⟩ hk'.le (pre_append _) (hw.join hk' hc) hv2 (fun _ y hy=>by
      have old:∀ b,b<w.heap.size→w'.heap[b]?=w.heap[b]?:=fun b hb=>hk'.keep b hb not_live_nil
      have hlen:=hw.len
      refine ⟨fun b o h1=>hy.1 b o (hk'.le b o h1),fun k s' m f b z h1 h2 o ho=>?_,fun k ms b z h1 h2=>?_⟩
      · have hk1:=(List.getElem?_eq_some_iff.1 h1).1
        exact (hy.2.1 k s' m f b z (by rw [List.getElem?_append_left hk1];exact h1) (by rw [List.getElem?_append_left (by omega)];exact h2) o ho).trans (World.cell?_of_block (a:=⟨b,o,none⟩) (old b (hw.lt ⟨k,_,h1,by simp,z,h2⟩)))
      · have hk1:=(List.getElem?_eq_some_iff.1 h1).1
        exact (hy.2.2 k ms b z (by rw [List.getElem?_append_left hk1];exact h1) (by rw [List.getElem?_append_left (by omega)];exact h2)).trans (old b (hw.lt ⟨k,_,h1,by simp,z,h2⟩)))
theorem ar_fcall {i d:Nat}{fo:Operand}{args:List Operand}{ats:Array TypeId}{f:FuncId}{first cap vs avs:List V}{sz:Nat}{R:Nat→(Nat→V)→Prop}(hfn:FnOk P f) (hf:eo env fo=some (.fn (.func f) first cap)) (hargs:args.mapM (eo env)=some vs)
    (ha:ArgsOk false H (first++vs++cap) avs) (h:FCalls P f avs sz R) (hd:d<nt) (hk:∀ n g,R n g→AR P r m nt ops Q l ((d,.sl sz H.length 0 n)::env) (H++[.arr sz n g])):AR P r m nt ops Q (.l i ⟨some d,.call ⟨.value fo,args.toArray,ats⟩,ty,pos,after,none⟩ keep::l) env H :=
  ar_l (ls_fcall hfn hf hargs ha h) hd (fun v H' ⟨n,g,hR,a,b⟩=>by subst a;subst b;exact hk n g hR) (fun _ _ h=>h.elim)
end
section
variable {P:Program}{r:Option Nat}{m nt:Nat}{Q:Post}{env:Env}{H:Heap}{ops:Array Oper}{l:List Stp}{ty:TypeId}{pos:String}{after:Array Edge}{T E T':TypeId}{d:TyD}{x y:Operand}
theorem ar_eqnil {i e sz n:Nat}{f:Nat→V}(ht:TyIs P T d) (hk:d.tk=.slice E) (hx:eo env x=some (.list sz n f)) (hy:eo env y=some (.s (.slice none 0 0))) (hd:e<nt)
    (h:∀ b:Bool,(b=true→n=0)→AR P r m nt ops Q l ((e,.s (.bool b))::env) H):AR P r m nt ops Q (.q i ⟨some e,.binOp .eql T x y T',ty,pos,after,none⟩::l) env H:=by
  refine ar_q_any (C:=fun v=>∃ b:Bool,v=.s (.bool b)∧(b=true→n=0)) (fun X I ρ a w hE hw=>?_) hd (fun v ⟨b,hv,hb⟩=>by subst hv;exact h b hb)
  obtain ⟨A,c,us,h1,hc,hm,_⟩:=(eo_rel hE hx).list_inv
  refine ⟨_,⟨A.isNone,rfl,fun hn=>?_⟩,_,.s _,fun w' _=>by simp [execOp,h1,sval hE hy,eqGuard,binOp,run_equal_slice_nil w' T E A n c (ht.slice hk)]⟩
  cases A with
  | none=>simp only [capMax] at hm;omega
  | some _=>cases hn
end
def enumV:Nat→List V→List (Nat × V)
  | _,[]=>[]
  | k,v::l=>(k,v)::enumV (k+1) l
def flatC:List V→List V
  | []=>[]
  | v::l=>v.cells++flatC l
theorem flatC_get {sz:Nat}:∀ {vs:List V}{i j:Nat}{v:V},(∀ x∈vs,x.cells.length=sz)→i<vs.length→(el vs i).cells[j]?=some v→(flatC vs)[i*sz+j]?=some v
  | [],i,j,v,_,hi,_=>by simp at hi
  | x::l,0,j,v,h,_,hv=>by
    have hj:j<x.cells.length:=(List.getElem?_eq_some_iff.1 hv).1
    simp only [flatC,Nat.zero_mul,Nat.zero_add]
    rw [List.getElem?_append_left hj]
    exact hv
  | x::l,i+1,j,v,h,hi,hv=>by
    have hx:=h x (List.mem_cons_self ..)
    have hh:=flatC_get (vs:=l) (i:=i) (j:=j) (v:=v) (fun y hy=>h y (List.mem_cons_of_mem _ hy)) (by simpa using hi) hv
    simp only [flatC]
    rw [List.getElem?_append_right (by rw [hx,Nat.succ_mul];omega),hx,show (i+1)*sz+j-sz=i*sz+j from (by rw [Nat.succ_mul]<;>omega)]
    exact hh
theorem buildR_enum {sz:Nat}:∀ (vs:List V) (k:Nat) (cs:List V),(∀ v∈vs,v.cells.length=sz∧v.ok=true)→cs.length=(k+vs.length)*sz→BuildR (fun k=>some (k*sz,sz)) cs (enumV k vs) (cs.take (k*sz)++flatC vs)
  | [],k,cs,_,hl=>by
    have:cs.take (k*sz)=cs:=List.take_of_length_le (by rw [hl];simp)
    simp only [flatC,enumV,List.append_nil,this]
    exact .nil
  | v::vs,k,cs,h,hl=>by
    obtain ⟨h1,h2⟩:=h v (List.mem_cons_self ..)
    have h3:k*sz+sz≤cs.length:=by rw [hl,← Nat.succ_mul];exact Nat.mul_le_mul_right _ (by simp only [List.length_cons];omega)
    refine .cons rfl h1 h2 h3 ?_
    have ht:(cs.take (k*sz)).length=k*sz:=by rw [List.length_take];omega
    have ih:=buildR_enum vs (k+1) (cs.take (k*sz)++v.cells++cs.drop (k*sz+sz)) (fun x hx=>h x (List.mem_cons_of_mem _ hx)) (by
      simp only [List.length_append,ht,h1,List.length_drop,hl,List.length_cons]
      rw [show k+1+vs.length=k+(vs.length+1) by omega]
      rw [hl] at h3
      simp only [List.length_cons] at h3
      omega)
    have e:(cs.take (k*sz)++v.cells++cs.drop (k*sz+sz)).take ((k+1)*sz)=cs.take (k*sz)++v.cells:=by
      rw [List.take_append_of_le_length (by rw [List.length_append,ht,h1,Nat.succ_mul];omega),List.take_of_length_le (by rw [List.length_append,ht,h1,Nat.succ_mul];omega)]
    rw [e] at ih
    rw [show cs.take (k*sz)++flatC (v::vs)=cs.take (k*sz)++v.cells++flatC vs by simp [flatC]]
    exact ih
section
variable {P:Program}{r:Option Nat}{m nt:Nat}{Q:Post}{env:Env}{H:Heap}{ops:Array Oper}{l:List Stp}{ty:TypeId}{pos:String}{after:Array Edge}{T E:TypeId}{d de:TyD}{i dst:Nat}{keep:Bool}{α:Type}[Inhabited α]
theorem ar_buildLE {parts:Array (Nat × Operand)}{n:Nat}(e:α→V) (L:List α) (ht:TyIs P T d) (hk:d.tk=.slice E) (he:TyIs P E de) (hz:(constV de.zero).ok=true) (hzs:de.zero.cells.size=de.size) (hpos:0<de.size) (hn:n=L.length) (hb:n*de.size≤16777216)
    (hv:parts.toList.mapM (fun p=>(eo env p.2).map fun v=>(p.1,v))=some (enumV 0 (L.map e))) (hs:∀ x,(e x).cells.length=de.size∧(e x).ok=true) (hd:dst<nt)
    (h:AR P r m nt ops Q l ((dst,.sl de.size H.length 0 L.length)::env) (H++[LB de.size e L])):AR P r m nt ops Q (.l i ⟨some dst,.buildSlice T n parts,ty,pos,after,none⟩ keep::l) env H:=by
  subst hn
  have hall:∀ x∈L.map e,x.cells.length=de.size∧x.ok=true:=fun x hx=>by
    obtain ⟨y,_,rfl⟩:=List.mem_map.1 hx
    exact hs y
  have hB:=buildR_enum (sz:=de.size) (L.map e) 0 ((List.range (L.length*de.size)).map fun j=>((constV de.zero).cells)[j % de.size]!) hall (by simp)
  rw [Nat.zero_mul,List.take_zero,List.nil_append] at hB
  by_cases h0:L.length=0
  · refine ar_buildSlice (fun i=>e (el L i)) ht hk he hz hzs hb hv hB (fun i hi=>by omega) (by rw [h0];unfold maxLen;omega) hd h
  · refine ar_buildSlice (fun i=>e (el L i)) ht hk he hz hzs hb hv hB (fun i hi=>⟨(hs _).1,fun j v hj=>?_⟩) ?_ hd h
    · refine flatC_get (fun x hx=>(hall x hx).1) (by simpa using hi) ?_
      rw [el_map hi]
      exact hj
    · have:=Nat.le_mul_of_pos_right L.length hpos
      unfold maxLen
      omega
end
structure SubK (m nt:Nat) (env:Env) (H:Heap) (env':Env) (H':Heap):Prop where
  out:∀ X I ρ a w,X.ρ.length=m→St X nt env H I ρ a w→∃ I' ρ',I.le I'∧St X nt env' H' I' ρ' a w∧∀ x,Keeps I' ρ' H' w x→Keeps I ρ H w x
theorem SubK.of {m nt:Nat}{env env':Env}{H H':Heap}(h:SubK m nt env H env' H'):SubOf m nt env H env' H':=.mk fun X I ρ a w hX hs=>by
  obtain ⟨I',ρ',h1,h2,_⟩:=h.1 X I ρ a w hX hs
  exact ⟨I',ρ',h1,h2⟩
section
variable {P:Program}{r:Option Nat}{m nt:Nat}{Q:Post}{env env':Env}{H H':Heap}{ops:Array Oper}{l:List Stp}{ty:TypeId}{pos:String}{after:Array Edge}{i dst:Nat}{op:Op}{keep:Bool}
theorem ar_subk_l (hs:SubK m nt env H env' H') (h:AR P r m nt ops Q (.l i ⟨some dst,op,ty,pos,after,none⟩ keep::l) env' H'):AR P r m nt ops Q (.l i ⟨some dst,op,ty,pos,after,none⟩ keep::l) env H:=.mk fun X I ρ a w hX hst=>by
  obtain ⟨I',ρ',_,h2,hk⟩:=hs.1 X I ρ a w hX hst
  have h3:=h.1 X I' ρ' a w hX h2
  refine ⟨fun hw=>?_,fun hw=>by rw [wanted_none rfl] at hw;cases hw⟩
  exact Oper.wpIn_mono (fun a' w' ⟨S',h4,h6,h5⟩=>⟨S',h4,fun e x hx=>hk x (h6 e x hx),h5⟩) (h3.1 hw)
end
theorem sub_frz {m nt t sz b n N:Nat}{env:Env}{H:Heap}{f g:Nat→V}(ht:look env t=some (.sl sz b 0 n)) (hb:H[b]?=some (.arr sz N f)) (hN:n≤N) (hc:∀ k,k<N→V.closed.all (f k).cells=true) (hg:∀ k,k<n→g k=f k) :
    SubK m nt env H ((t,.list sz n g)::env) (H.set b .dead):=.mk fun X I ρ a w _ ⟨hE,hw,hd⟩=>by
  obtain ⟨h1,h2⟩:=hE.2 t _ ht
  have hlt:b<ρ.length:=by rw [hw.len];exact (List.getElem?_eq_some_iff.1 hb).1
  have hg':∀ k,k<n→g k=f (0+k):=fun k hk=>by rw [Nat.zero_add];exact hg k hk
  obtain ⟨x,hx⟩:∃ x,ρ[b]?=some x:=⟨_,List.getElem?_eq_getElem hlt⟩
  cases x with
  | none =>
    refine ⟨I,ρ,Imm.le_refl _,⟨⟨hE.1,fun t' v hv=>?_⟩,hw.kill b,hd⟩,fun y hy=>keeps_kill hy fun cb z h=>by rw [hx] at h;cases h⟩
    rw [look_cons] at hv
    split at hv
    · rename_i e;subst e;cases hv
      exact ⟨h1,h2.lend hw hb (by omega) hc hg' (Imm.le_refl _) (fun cb z o h=>by rw [hx] at h;cases h)⟩
    · exact hE.2 t' v hv
  | some q =>
    obtain ⟨cb,z⟩:=q
    have hL:Live H ρ cb:=⟨b,_,hb,by simp,z,hx⟩
    have hI:=know_le (o:=w.heap[cb]?) (hw.apart cb hL)
    refine ⟨know I cb (w.heap[cb]?),ρ,hI,⟨⟨hE.1,fun t' v hv=>?_⟩,hw.forget hb (by simp) hx,hd.mono hI⟩,fun y hy=>?_⟩
    · rw [look_cons] at hv
      split at hv
      · rename_i e;subst e;cases hv
        exact ⟨h1,h2.lend hw hb (by omega) hc hg' hI (fun cb' z' o h h'=>by rw [hx] at h;cases h;rw [know_at];exact h')⟩
      · obtain ⟨h3,h4⟩:=hE.2 t' v hv
        exact ⟨h3,h4.mono hI (Pre.refl _)⟩
    · obtain ⟨y1,y2,y3⟩:=hy
      refine ⟨fun c o hc=>y1 c o (hI c o hc),fun k sz' n' f' b' z' hk hρ o ho=>?_,fun k mm b' z' hk hρ=>?_⟩
      · by_cases e:k=b
        · subst e
          rw [hx] at hρ
          cases hρ
          obtain ⟨cs,ty,hcs,_⟩:=hw.arr _ _ _ _ _ _ hb hx
          have:=y1 cb _ (by rw [know_at];exact hcs)
          simp [World.cell?,this,hcs]
        · exact y2 k sz' n' f' b' z' (by rw [List.getElem?_set_ne (Ne.symm e)];exact hk) hρ o ho
      · refine y3 k mm b' z' ?_ hρ
        by_cases e:k=b
        · subst e;rw [hb] at hk;cases hk
        · rw [List.getElem?_set_ne (Ne.symm e)];exact hk
theorem sub_frzL {α:Type}[Inhabited α] {m nt t sz b n N:Nat}{env:Env}{H:Heap}{f:Nat→V}(e:α→V) (L:List α) (ht:look env t=some (.sl sz b 0 n)) (hb:H[b]?=some (.arr sz N f)) (hn:n=L.length) (hN:n=N) (hf:∀ k,k<n→e (el L k)=f k) (hc:∀ y,V.closed.all (e y).cells=true) :
    SubK m nt env H ((t,LV sz e L)::env) (H.set b .dead):=by
  subst hn hN
  exact sub_frz ht hb (Nat.le_refl _) (fun k hk=>by rw [← hf k hk];exact hc _) hf
theorem ar_forkL {P:Program}{r:Option Nat}{m nt:Nat}{Q:Post}{env:Env}{H:Heap}{l0:List Oper}{l:List Stp}{ps:List (Nat × Nat)}(h:AR P r m nt l0.toArray Q l env H) (h':AR P r m nt l0.toArray Q (numPlan l0 ps) env H):AR P r m nt l0.toArray Q (.fork ps::l) env H:=ar_fork h h'
theorem hgK {a b:Bool}(h:(a==b)=true):a=b:=by simpa using h
theorem hgK' {a b:Bool}(h:(a==b)=false):¬ a=b:=by simpa using h
theorem hgKN {a b:Bool}(h:(!(a==b))=true):¬ a=b:=by simpa using h
theorem hgKN' {a b:Bool}(h:(!(a==b))=false):a=b:=by simpa using h
instance hgk1 {a b:Bool}:HG ((a==b)=true) (a=b):=⟨hgK⟩
instance hgk2 {a b:Bool}:HG ((a==b)=false) (¬ a=b):=⟨hgK'⟩
instance hgk3 {a b:Bool}:HG ((!(a==b))=true) (¬ a=b):=⟨hgKN⟩
instance hgk4 {a b:Bool}:HG ((!(a==b))=false) (a=b):=⟨hgKN'⟩
instance hgk5 {a b:Bool}:HG ((a==b)=!false) (a=b):=⟨hgK⟩
instance hgk6 {a b:Bool}:HG ((a==b)=!true) (¬ a=b):=⟨hgK'⟩
instance hgk7 {a b:Bool}:HG ((!(a==b))=!false) (¬ a=b):=⟨hgKN⟩
instance hgk8 {a b:Bool}:HG ((!(a==b))=!true) (a=b):=⟨hgKN'⟩
section
variable {X:Ctx}{I J:Imm}{ρ:List (Option (Nat × Nat))}{H:Heap}{w w':World}
theorem WOk.adoptMap (h:WOk X I ρ H w) {cb:Nat}{es:Array MapEntry}{clock:Nat}{m:List (Value × V)}(hL:¬ Live H ρ cb) (hI:I cb=Option.none) (hm:X.w.heap.size≤cb∨Live X.H X.ρ cb) (hs:es.size=m.length)
    (hr:∀ (i:Nat) e x,es[i]?=some e→m[i]?=some x→e.key=x.1∧VRel I ρ x.2 e.val) (hnew:w'.heap[cb]?=some (.map es clock)) (hold:∀ c,c≠cb→c<w.heap.size→w'.heap[c]?=w.heap[c]?) (hsize:w.heap.size≤w'.heap.size)
    (ho:w'.os=w.os) (ht:w'.tape=w.tape) (hout:w'.output=w.output) :
    WOk X I (ρ++[some (cb,0)]) (H++[.map m]) w':=by
  have old:∀ b,Live H ρ b→w'.heap[b]?=w.heap[b]?:=fun b hb=>hold b (fun e=>hL (e▸hb)) (h.lt hb)
  refine { len:=by simp [h.len],inj:=?_,imm:=?_,apart:=?_,size:=?_,none:=?_,arr:=?_,map:=?_,mine:=?_,news:=h.news,le:=h.le,pre:=h.pre.trans (pre_append _),os:=ho.trans h.os,tape:=ht.trans h.tape,out:=hout.trans h.out,grow:=Nat.le_trans h.grow hsize,keep:=?_ }
  · rintro i j b ⟨x,hx,hx'⟩ ⟨y,hy,hy'⟩ z1 z2 h1 h2
    rcases get_append_lt hx with ⟨a1,a2⟩|⟨a1,a2⟩<;>rcases get_append_lt hy with ⟨b1,b2⟩|⟨b1,b2⟩
    · rw [List.getElem?_append_left (by rw [h.len];exact a1)] at h1
      rw [List.getElem?_append_left (by rw [h.len];exact b1)] at h2
      exact h.inj i j b ⟨x,a2,hx'⟩ ⟨y,b2,hy'⟩ z1 z2 h1 h2
    · rw [List.getElem?_append_left (by rw [h.len];exact a1)] at h1
      rw [b1,← h.len] at h2
      simp at h2
      exact (hL ⟨i,x,a2,hx',z1,by rw [h2.1];exact h1⟩).elim
    · rw [List.getElem?_append_left (by rw [h.len];exact b1)] at h2
      rw [a1,← h.len] at h1
      simp at h1
      exact (hL ⟨j,y,b2,hy',z2,by rw [h1.1];exact h2⟩).elim
    · omega
  · intro b o hb
    have:=h.imm b o hb
    rw [hold b (fun e=>by subst e;rw [hI] at hb;cases hb) (Array.getElem?_eq_some_iff.1 this).1]
    exact this
  · intro b hb
    rcases live_append h.len hb with h1|⟨z,h1,_⟩
    · exact h.apart b h1
    · simp at h1;rw [← h1.1];exact hI
  · intro k sz' n' f' hk
    rcases get_append_lt hk with ⟨_,a2⟩|⟨_,a2⟩
    · exact h.size k sz' n' f' a2
    · cases a2
  · intro k sz' n' f' hk hρ
    rcases get_append_lt hk with ⟨a1,a2⟩|⟨a1,a2⟩
    · rw [List.getElem?_append_left (by rw [h.len];exact a1)] at hρ
      exact h.none k sz' n' f' a2 hρ
    · cases a2
  · intro k sz' n' f' b z hk hρ
    rcases get_append_lt hk with ⟨a1,a2⟩|⟨a1,a2⟩
    · rw [List.getElem?_append_left (by rw [h.len];exact a1)] at hρ
      exact (h.arr k sz' n' f' b z a2 hρ).mono (Imm.le_refl _) (pre_append _) (old b ⟨k,_,a2,by simp,z,hρ⟩)
    · cases a2
  · intro k m' hk
    rcases get_append_lt hk with ⟨a1,a2⟩|⟨a1,a2⟩
    · obtain ⟨b,h1,h2⟩:=h.map k m' a2
      exact ⟨b,by rw [List.getElem?_append_left (by rw [h.len];exact a1)];exact h1,h2.mono (Imm.le_refl _) (pre_append _) (old b ⟨k,_,a2,by simp,0,h1⟩)⟩
    · cases a2
      refine ⟨cb,by rw [a1,← h.len];simp,es,clock,hnew,hs,fun i e x h1 h2=>?_⟩
      obtain ⟨h3,h4⟩:=hr i e x h1 h2
      exact ⟨h3,h4.mono (Imm.le_refl _) (pre_append _)⟩
  · intro b hb
    rcases live_append h.len hb with h1|⟨z,h1,_⟩
    · exact h.mine b h1
    · simp at h1;rw [← h1.1];exact hm
  · intro b hb hl
    have hb':b<w.heap.size:=Nat.lt_of_lt_of_le hb h.grow
    rw [hold b (fun e=>by
      subst e
      rcases hm with h1|h1
      · omega
      · exact hl h1) hb']
    exact h.keep b hb hl
theorem WOk.writeMap (h:WOk X I ρ H w) {k b z:Nat}{m m':List (Value × V)}(hk:H[k]?=some (.map m)) (hb:ρ[k]?=some (some (b,z))) {es:Array MapEntry}{clock:Nat}(hs:es.size=m'.length)
    (hr:∀ (i:Nat) e x,es[i]?=some e→m'[i]?=some x→e.key=x.1∧VRel I ρ x.2 e.val) (hnew:w'.heap[b]?=some (.map es clock)) (hold:∀ c,c≠b→w'.heap[c]?=w.heap[c]?) (hsize:w'.heap.size=w.heap.size)
    (ho:w'.os=w.os) (ht:w'.tape=w.tape) (hout:w'.output=w.output):WOk X I ρ (H.set k (.map m')) w':=by
  have hL:Live H ρ b:=⟨k,_,hk,by simp,z,hb⟩
  have hkl:k<H.length:=(List.getElem?_eq_some_iff.1 hk).1
  have get:∀ (j:Nat) blk,(H.set k (.map m'))[j]?=some blk→(j=k∧blk=.map m')∨(j≠k∧H[j]?=some blk):=fun j blk hj=>by
    rw [List.getElem?_set] at hj
    by_cases e:k=j
    · subst e;rw [if_pos rfl,if_pos hkl] at hj;cases hj;exact .inl ⟨rfl,rfl⟩
    · rw [if_neg e] at hj;exact .inr ⟨fun x=>e x.symm,hj⟩
  have alive:∀ (j:Nat),(∃ x:Blk,(H.set k (.map m'))[j]?=some x∧x≠.dead)→∃ x:Blk,H[j]?=some x∧x≠.dead:=fun j ⟨x,hx,hx'⟩=>by
    rcases get j x hx with ⟨rfl,_⟩|⟨_,h1⟩
    · exact ⟨_,hk,by simp⟩
    · exact ⟨x,h1,hx'⟩
  have live:∀ c,Live (H.set k (.map m')) ρ c→Live H ρ c:=fun c ⟨j,x,h1,h2,z',h3⟩=>by
    obtain ⟨y,h4,h5⟩:=alive j ⟨x,h1,h2⟩
    exact ⟨j,y,h4,h5,z',h3⟩
  have other:∀ (j c:Nat) z',(∃ x:Blk,H[j]?=some x∧x≠.dead)→j≠k→ρ[j]?=some (some (c,z'))→w'.heap[c]?=w.heap[c]?:=fun j c z' hx hj hc=>by
    refine hold c fun e=>hj ?_
    subst e
    exact h.inj j k c hx ⟨_,hk,by simp⟩ z' z hc hb
  refine h.trans { len:=by simp [h.len],inj:=fun i j c hi hj=>h.inj i j c (alive i hi) (alive j hj),imm:=?_,apart:=fun c hc=>h.apart c (live c hc),size:=?_,none:=?_,arr:=?_,map:=?_,mine:=fun c hc=>.inr (live c hc),news:=fun _ hb=>.inl hb,le:=Imm.le_refl _,pre:=Pre.refl _,os:=ho,tape:=ht,out:=hout,grow:=by show w.heap.size≤_;omega,keep:=?_ }
  · intro c o hc
    have:c≠b:=fun e=>by subst e;rw [h.apart c hL] at hc;cases hc
    rw [hold c this]
    exact h.imm c o hc
  · intro j sz' n' f' hj
    rcases get j _ hj with ⟨_,h1⟩|⟨_,h1⟩
    · cases h1
    · exact h.size j sz' n' f' h1
  · intro j sz' n' f' hj hρ
    rcases get j _ hj with ⟨_,h1⟩|⟨_,h1⟩
    · cases h1
    · exact h.none j sz' n' f' h1 hρ
  · intro j sz' n' f' c z' hj hρ
    rcases get j _ hj with ⟨_,h1⟩|⟨hne,h1⟩
    · cases h1
    · exact (h.arr j sz' n' f' c z' h1 hρ).mono (Imm.le_refl _) (Pre.refl _) (other j c z' ⟨_,h1,by simp⟩ hne hρ)
  · intro j mm hj
    rcases get j _ hj with ⟨rfl,h1⟩|⟨hne,h1⟩
    · cases h1
      obtain ⟨c,h2,_⟩:=h.map j m hk
      rw [hb] at h2
      cases h2
      exact ⟨b,hb,es,clock,hnew,hs,hr⟩
    · obtain ⟨c,h2,h3⟩:=h.map j mm h1
      exact ⟨c,h2,h3.mono (Imm.le_refl _) (Pre.refl _) (other j c 0 ⟨_,h1,by simp⟩ hne h2)⟩
  · intro c hc hl
    exact hold c fun e=>hl (by subst e;exact hL)
theorem WOk.setMap (h:WOk X I ρ H w) {k b z:Nat}{m m':List (Value × V)}(hk:H[k]?=some (.map m)) (hb:ρ[k]?=some (some (b,z))) (hlt:b<w.heap.size) {es:Array MapEntry}{clock:Nat}(hs:es.size=m'.length)
    (hr:∀ (i:Nat) e x,es[i]?=some e→m'[i]?=some x→e.key=x.1∧VRel I ρ x.2 e.val):WOk X I ρ (H.set k (.map m')) { w with heap:=w.heap.setIfInBounds b (.map es clock) } :=
  h.writeMap (w':={ w with heap:=w.heap.setIfInBounds b (.map es clock) }) (clock:=clock) hk hb hs hr (by simp [hlt]) (fun c hc=>by simp [Ne.symm hc]) (by simp) rfl rfl rfl
end
section
variable {α:Type}
def entsE (e:α→V) (l:List (Int × α)):List (Value × V):=l.map fun p=>(.int .i64 p.1,e p.2)
def mapE (e:α→V) (l:List (Int × α)):Blk:=.map (entsE e l)
def idxE:List (Int × α)→Int→Option Nat
  | [],_=>none
  | p::l,a=>if a=p.1 then some 0 else (idxE l a).map (·+1)
def getE:List (Int × α)→Int→Option α
  | [],_=>none
  | p::l,a=>if a=p.1 then some p.2 else getE l a
def putE:List (Int × α)→Int→α→List (Int × α)
  | [],a,v=>[(a,v)]
  | p::l,a,v=>if a=p.1 then (p.1,v)::l else p::putE l a v
def delE:List (Int × α)→Int→List (Int × α)
  | [],_=>[]
  | p::l,a=>if a=p.1 then l else p::delE l a
theorem getE_idx:∀ (l:List (Int × α)) (a:Int),getE l a=(idxE l a).bind fun j=>l[j]?.map (·.2)
  | [],_=>rfl
  | p::l,a=>by
    simp only [getE,idxE]
    by_cases h:a=p.1
    · simp [h]
    · rw [if_neg h,if_neg h,getE_idx l a]
      cases idxE l a<;>simp
theorem putE_none:∀ {l:List (Int × α)}{a:Int}(v:α),idxE l a=none→putE l a v=l++[(a,v)]
  | [],_,_,_=>rfl
  | p::l,a,v,h=>by
    simp only [idxE] at h
    by_cases hp:a=p.1
    · simp [hp] at h
    · rw [if_neg hp] at h
      simp only [putE,if_neg hp,List.cons_append]
      rw [putE_none v (by simpa using h)]
theorem putE_some:∀ {l:List (Int × α)}{a:Int}{j:Nat}(v:α),idxE l a=some j→putE l a v=l.modify j fun p=>(p.1,v)
  | [],_,_,_,h=>by cases h
  | p::l,a,j,v,h=>by
    simp only [idxE] at h
    by_cases hp:a=p.1
    · rw [if_pos hp] at h
      cases h
      simp [putE,hp]
    · rw [if_neg hp] at h
      obtain ⟨k,h1,rfl⟩:=Option.map_eq_some_iff.1 h
      simp only [putE,if_neg hp,List.modify_succ_cons]
      rw [putE_some v h1]
theorem delE_none:∀ {l:List (Int × α)}{a:Int},idxE l a=none→delE l a=l
  | [],_,_=>rfl
  | p::l,a,h=>by
    simp only [idxE] at h
    by_cases hp:a=p.1
    · simp [hp] at h
    · rw [if_neg hp] at h
      simp only [delE,if_neg hp]
      rw [delE_none (by simpa using h)]
theorem delE_some:∀ {l:List (Int × α)}{a:Int}{j:Nat},idxE l a=some j→delE l a=l.eraseIdx j
  | [],_,_,h=>by cases h
  | p::l,a,j,h=>by
    simp only [idxE] at h
    by_cases hp:a=p.1
    · rw [if_pos hp] at h
      cases h
      simp [delE,hp]
    · rw [if_neg hp] at h
      obtain ⟨k,h1,rfl⟩:=Option.map_eq_some_iff.1 h
      simp only [delE,if_neg hp,List.eraseIdx_cons_succ]
      rw [delE_some h1]
theorem findNow_int (a:Int):∀ (es:List MapEntry) (l:List (Int × α)) (i:Nat),es.length=l.length→(∀ (j:Nat) e p,es[j]?=some e→l[j]?=some p→e.key=.int .i64 p.1) →
    Instr.findNow (.int .i64) (.int .i64 a) es i=some ((idxE l a).bind fun j=>es[j]?.map fun e=>(i+j,e.val))
  | [],[],_,_,_=>rfl
  | [],_::_,_,h,_=>by simp at h
  | _::_,[],_,h,_=>by simp at h
  | e::es,p::l,i,h,hk=>by
    have h0:=hk 0 e p rfl rfl
    have ih:=findNow_int a es l (i+1) (by simpa using h) (fun j e' p' h1 h2=>hk (j+1) e' p' (by simpa using h1) (by simpa using h2))
    simp only [Instr.findNow,h0,Instr.sameNow,if_true,idxE]
    by_cases hc:a=p.1
    · rw [if_pos hc,hc]
      simp
    · rw [if_neg hc]
      have:(a==p.1)=false:=by simpa using hc
      rw [this]
      simp only [ih]
      cases idxE l a with
      | none=>rfl
      | some j=>simp [Nat.add_assoc,Nat.add_comm 1 j]
theorem idxE_lt:∀ {l:List (Int × α)}{a:Int}{j:Nat},idxE l a=some j→j<l.length
  | [],_,_,h=>by cases h
  | p::l,a,j,h=>by
    simp only [idxE] at h
    split at h
    · cases h;simp
    · cases hi:idxE l a with
      | none=>rw [hi] at h;cases h
      | some k =>
        rw [hi] at h
        cases h
        have:=idxE_lt hi
        simp;omega
theorem idxE_key:∀ {l:List (Int × α)}{a:Int}{j:Nat},idxE l a=some j→(l[j]?).map (·.1)=some a
  | [],_,_,h=>by cases h
  | p::l,a,j,h=>by
    simp only [idxE] at h
    split at h
    · rename_i hp;cases h;simp [hp]
    · obtain ⟨k,h1,rfl⟩:=Option.map_eq_some_iff.1 h
      simpa using idxE_key h1
end
section
variable {P:Program}{r:Option Nat}{m nt:Nat}{Q:Post}{env:Env}{H:Heap}{ops:Array Oper}{L:List Stp}{ty:TypeId}{pos:String}{after:Array Edge}{guard:Option (Nat × Bool)}{keep:Bool}{T K E:TypeId}{d dk de:TyD}{x y z:Operand}{dst:Option Tmp}{α:Type}
theorem ls_makeMap:LS P r m nt keep env H ⟨dst,.makeMap T none,ty,pos,after,guard⟩ (fun v H'=>v=.map H.length∧H'=H++[.map []]) NoP:=.mk
  fun X I ρ a w next Qx hX hs hk hp=>by
    have hw:=hs.2.1
    have hnew:(w.alloc (.map #[] 0)).heap[w.heap.size]?=some (.map #[] 0):=(MapKept.heap_alloc w _).1
    have hold:∀ c,c<w.heap.size→(w.alloc (.map #[] 0)).heap[c]?=w.heap[c]?:=(MapKept.heap_alloc w _).2
    have hsz:w.heap.size≤(w.alloc (.map #[] 0)).heap.size:=by
      show _≤(w.heap.push _).size
      rw [Array.size_push]
      exact Nat.le_succ _
    refine wpIn_of_run (res:=.ok (.value (.map (some w.heap.size))) (w.alloc (.map #[] 0))) (by simp) (by simp [execOp,Instr.makeMap,Result.andThen]) ?_
    have hk2:=hw.adoptMap (m:=[]) (fun h=>by have:=hw.lt h;omega) (by
      cases e:I w.heap.size with
      | none=>rfl
      | some o=>have:=(Array.getElem?_eq_some_iff.1 (hw.imm _ o e)).1;omega) (.inl hw.grow) rfl (fun i e x h=>by simp at h) hnew (fun c _ h=>hold c h) hsz rfl rfl rfl
    refine hk I (ρ++[some (w.heap.size,0)]) _ _ _ _ ⟨rfl,rfl⟩ (Imm.le_refl _) (pre_append _) hk2 (VRel.map (z:=0) (by rw [← hw.len];simp)) fun _=>?_
    exact keeps_alloc hw (fun b hb=>hold b hb)
theorem ar_makeMap {i e:Nat}(hd:e<nt) (h:AR P r m nt ops Q L ((e,.map H.length)::env) (H++[.map []])):AR P r m nt ops Q (.l i ⟨some e,.makeMap T none,ty,pos,after,none⟩ keep::L) env H :=
  ar_l ls_makeMap hd (fun v H' ⟨a,b⟩=>by subst a;subst b;exact h) (fun _ _ h=>h.elim)
theorem mapE_at {I:Imm}{ρ:List (Option (Nat × Nat))}{w:World}{X:Ctx}(hw:WOk X I ρ H w) {b:Nat}{e:α→V}{l:List (Int × α)}(hH:H[b]?=some (mapE e l)):∃ cb es clk,ρ[b]?=some (some (cb,0))∧w.heap[cb]?=some (.map es clk)∧es.size=l.length ∧
    ∀ (i:Nat) n p,es[i]?=some n→l[i]?=some p→n.key=.int .i64 p.1∧VRel I ρ (e p.2) n.val:=by
  obtain ⟨cb,h1,es,clk,h2,h3,h4⟩:=hw.map b _ hH
  refine ⟨cb,es,clk,h1,h2,by simpa [entsE] using h3,fun i n p hn hp=>?_⟩
  exact h4 i n (.int .i64 p.1,e p.2) hn (by simp [entsE,hp])
theorem map_val {I:Imm}{ρ:List (Option (Nat × Nat))}{b cb z:Nat}{u:Value}(h:VRel I ρ (.map b) u) (hb:ρ[b]?=some (some (cb,z))):u=.map (some cb):=by
  cases h with
  | map h=>rw [hb] at h;cases h;rfl
theorem intKey (a:Int):MapKept.IsKey (.int .i64) (.int .i64 a):=by simp [MapKept.IsKey]
theorem ar_lookup {i f b:Nat}{e:α→V}{l:List (Int × α)}{a:Int}{ok:Bool}(ht:TyIs P T d) (hk:d.tk=.map K E) (hK:TyIs P K dk) (hkk:dk.tk=.int .i64) (hE:TyIs P E de) (hx:eo env x=some (.map b)) (hy:eo env y=some (.s (.int .i64 a))) (hH:H[b]?=some (mapE e l)) (hd:f<nt)
    (h1:∀ v,getE l a=some v→AR P r m nt ops Q L ((f,bif ok then .tup [e v,.s (.bool true)] else e v)::env) H) (h2:getE l a=none→AR P r m nt ops Q L ((f,bif ok then .tup [constV de.zero,.s (.bool false)] else constV de.zero)::env) H) :
    AR P r m nt ops Q (.q i ⟨some f,.lookup T x y ok,ty,pos,after,none⟩::L) env H:=by
  have key:∀ (X:Ctx) (I:Imm) (ρ:List (Option (Nat × Nat))) (ac:Act) (w:World),EnvOk I ρ nt env ac→WOk X I ρ H w→∃ v,((∃ q,getE l a=some q∧v=(bif ok then .tup [e q,.s (.bool true)] else e q))∨(getE l a=none∧v=(bif ok then .tup [constV de.zero,.s (.bool false)] else constV de.zero))) ∧
      ∃ u,VRel I ρ v u∧∀ w',Keeps I ρ H w w'→(execOp ac.eval ⟨some f,.lookup T x y ok,ty,pos,after,none⟩).run P w'=.ok (.value u) w':=by
    intro X I ρ ac w hE' hw
    obtain ⟨cb,es,clk,h3,h4,h5,h6⟩:=mapE_at hw hH
    have hm:=map_val (eo_rel hE' hx) h3
    have ha:=sval hE' hy
    have hfind:=findNow_int a es.toList l 0 (by simpa using h5) (fun j n p hn hp=>(h6 j n p (by simpa using hn) hp).1)
    have hget:=getE_idx l a
    cases hi:idxE l a with
    | none =>
      rw [hi] at hfind hget
      refine ⟨_,.inr ⟨hget,rfl⟩,bif ok then .tuple #[de.zero,.bool false] else de.zero,?_,fun w' hK'=>?_⟩
      · cases ok with
        | true =>
          refine .tup rfl fun j v u hj hu=>?_
          match j,hj,hu with
          | 0,hj,hu=>simp at hj hu;subst hj hu;exact constV_rel _ _ _
          | 1,hj,hu=>simp at hj hu;subst hj hu;exact .s _
          | j+2,hj,_=>simp at hj
        | false=>exact constV_rel _ _ _
      · have hb':w'.heap[cb]?=some (.map es clk):=(hK'.2.2 b _ cb 0 hH h3).trans h4
        simp only [execOp,hm,ha,Instr.lookup,Sem.run_bind,run_underlying (ht.map hk),MapKept.run_getObj_map hb',MapKept.run_checkKey (hK.intk hkk) (intKey a),MapKept.run_findKey (hK.intk hkk) hfind,Result.andThen_ok,Sem.run_pure,hE.zeroV,Option.bind_none]
        cases ok<;>rfl
    | some j =>
      have hlt:=idxE_lt hi
      have hes:es[j]?=some es[j]:=by simp
      obtain ⟨h7,h8⟩:=h6 j es[j] l[j] hes (by simp [hlt])
      rw [hi] at hfind hget
      have hget:getE l a=some l[j].2:=by rw [hget];simp [hlt]
      refine ⟨_,.inl ⟨_,hget,rfl⟩,bif ok then .tuple #[es[j].val,.bool true] else es[j].val,?_,fun w' hK'=>?_⟩
      · cases ok with
        | true =>
          refine .tup rfl fun j v u hj hu=>?_
          match j,hj,hu with
          | 0,hj,hu=>simp at hj hu;subst hj hu;exact h8
          | 1,hj,hu=>simp at hj hu;subst hj hu;exact .s _
          | j+2,hj,_=>simp at hj
        | false=>exact h8
      · have hb':w'.heap[cb]?=some (.map es clk):=(hK'.2.2 b _ cb 0 hH h3).trans h4
        have hfind':Instr.findNow (.int .i64) (.int .i64 a) es.toList 0=some (some (j,es[j].val)):=by rw [hfind,Option.bind_some,show es.toList[j]?=some es[j] by simp];simp
        simp only [execOp,hm,ha,Instr.lookup,Sem.run_bind,run_underlying (ht.map hk),MapKept.run_getObj_map hb',MapKept.run_checkKey (hK.intk hkk) (intKey a),MapKept.run_findKey (hK.intk hkk) hfind',Result.andThen_ok,Sem.run_pure]
        cases ok<;>rfl
  exact ar_q_any key hd fun v hv=>by
    rcases hv with ⟨q,h3,rfl⟩|⟨h3,rfl⟩
    · exact h1 q h3
    · exact h2 h3
theorem ls_mapUpdate {b:Nat}{e:α→V}{l:List (Int × α)}{a:Int}{v:α}(ht:TyIs P T d) (hk:d.tk=.map K E) (hK:TyIs P K dk) (hkk:dk.tk=.int .i64) (hx:eo env x=some (.map b)) (hy:eo env y=some (.s (.int .i64 a))) (hz:eo env z=some (e v)) (hH:H[b]?=some (mapE e l)) :
    LS P r m nt false env H ⟨none,.mapUpdate T x y z,ty,pos,after,guard⟩ (fun _ H'=>H'=H.set b (mapE e (putE l a v))) NoP:=.mk
  fun X I ρ ac w next Qx hX hs hk' hp=>by
    have hw:=hs.2.1
    obtain ⟨cb,es,clk,h3,h4,h5,h6⟩:=mapE_at hw hH
    have hm:=map_val (eo_rel hs.1 hx) h3
    have ha:=sval hs.1 hy
    have hv:=eo_rel hs.1 hz
    have hfind:=findNow_int a es.toList l 0 (by simpa using h5) (fun j n p hn hp=>(h6 j n p (by simpa using hn) hp).1)
    have hcb:=(Array.getElem?_eq_some_iff.1 h4).1
    cases hi:idxE l a with
    | none =>
      rw [hi] at hfind
      have hres:(execOp ac.eval ⟨none,.mapUpdate T x y z,ty,pos,after,guard⟩).run P w=.ok .skip { w with heap:=w.heap.setIfInBounds cb (.map (es.push { key:=.int .i64 a,val:=ac.eval z,born:=clk }) (clk+1)) }:=by
        simp only [execOp,hm,ha,Instr.mapUpdate,Sem.run_bind,run_underlying (ht.map hk),MapKept.run_getObj_map h4,MapKept.run_checkKey (hK.intk hkk) (intKey a),MapKept.run_findKey (hK.intk hkk) hfind,Result.andThen_ok,Sem.run_pure,MapKept.run_setObj_map _ h4,Option.bind_none]
      refine wpIn_of_run (by simp) hres ?_
      refine hk' I ρ _ (.s undef) undef _ rfl (Imm.le_refl _) (Pre.refl _) (hw.setMap (m':=entsE e (putE l a v)) hH h3 hcb (es:=es.push { key:=.int .i64 a,val:=ac.eval z,born:=clk }) (clock:=clk+1) (by rw [putE_none v hi];simp [entsE,h5]) (fun i n p hn hp=>?_)) (.s _) (by simp)
      rw [putE_none v hi] at hp
      simp only [entsE,List.getElem?_map,Option.map_eq_some_iff] at hp
      obtain ⟨q,hq,rfl⟩:=hp
      rcases get_snoc hq with ⟨h7,h8⟩|⟨h7,h8⟩
      · rw [Array.getElem?_push,if_neg (by omega)] at hn
        exact h6 i n q hn h8
      · rw [Array.getElem?_push,if_pos (by omega)] at hn
        cases hn
        subst h8
        exact ⟨rfl,hv⟩
    | some j =>
      have hlt:=idxE_lt hi
      rw [hi] at hfind
      have hfind':Instr.findNow (.int .i64) (.int .i64 a) es.toList 0=some (some (j,es[j].val)):=by rw [hfind,Option.bind_some,show es.toList[j]?=some es[j] by simp];simp
      have hes:es[j]?=some es[j]:=by simp
      obtain ⟨h7,h8⟩:=h6 j es[j] l[j] hes (by simp [hlt])
      have hkey:l[j].1=a:=by
        have:=idxE_key hi
        rw [List.getElem?_eq_getElem hlt] at this
        simpa using this
      have hstay:∀ w',(Instr.keyThatStays es[j].key (.int .i64 a)).run P w'=.ok (.int .i64 a) w':=fun w'=>by
        rw [h7,hkey]
        exact MapKept.run_keyThatStays (intKey a)
      have hres:(execOp ac.eval ⟨none,.mapUpdate T x y z,ty,pos,after,guard⟩).run P w=.ok .skip { w with heap:=w.heap.setIfInBounds cb (.map (es.modify j fun n=>{ n with key:=.int .i64 a,val:=ac.eval z }) clk) }:=by
        simp only [execOp,hm,ha,Instr.mapUpdate,Sem.run_bind,run_underlying (ht.map hk),MapKept.run_getObj_map h4,MapKept.run_checkKey (hK.intk hkk) (intKey a),MapKept.run_findKey (hK.intk hkk) hfind',Result.andThen_ok,Sem.run_pure,MapKept.run_setObj_map _ h4,hes,Option.map_some,Option.getD_some,hstay]
      refine wpIn_of_run (by simp) hres ?_
      refine hk' I ρ _ (.s undef) undef _ rfl (Imm.le_refl _) (Pre.refl _) (hw.setMap (m':=entsE e (putE l a v)) hH h3 hcb (es:=es.modify j fun n=>{ n with key:=.int .i64 a,val:=ac.eval z }) (clock:=clk) (by rw [putE_some v hi];simp [entsE,h5]) (fun i n p hn hp=>?_)) (.s _) (by simp)
      rw [putE_some v hi] at hp
      rw [entsE,List.getElem?_map,List.getElem?_modify] at hp
      obtain ⟨q0,hq0⟩:∃ q0,l[i]?=some q0:=by
        cases hq:l[i]? with
        | none=>rw [hq] at hp;cases hp
        | some q=>exact ⟨q,rfl⟩
      rw [hq0] at hp
      cases hp
      rw [Array.getElem?_modify] at hn
      by_cases hji:j=i
      · subst hji
        rw [if_pos rfl,hes] at hn
        simp only [Option.map_some,Option.some.injEq] at hn
        subst hn
        have:q0=l[j]:=by rw [List.getElem?_eq_getElem hlt] at hq0;cases hq0;rfl
        subst this
        dsimp only
        rw [if_pos rfl]
        exact ⟨by rw [hkey],hv⟩
      · rw [if_neg hji] at hn
        dsimp only
        rw [if_neg hji]
        exact h6 i n q0 hn hq0
theorem ls_delete {b:Nat}{e:α→V}{l:List (Int × α)}{a:Int}{ats:Array TypeId}(h0:ats[0]?=some T) (ht:TyIs P T d) (hk:d.tk=.map K E) (hK:TyIs P K dk) (hkk:dk.tk=.int .i64) (hx:eo env x=some (.map b)) (hy:eo env y=some (.s (.int .i64 a))) (hH:H[b]?=some (mapE e l)) :
    LS P r m nt false env H ⟨dst,.call ⟨.builtin .delete,#[x,y],ats⟩,ty,pos,after,guard⟩ (fun _ H'=>H'=H.set b (mapE e (delE l a))) NoP:=.mk
  fun X I ρ ac w next Qx hX hs hk' hp=>by
    have hw:=hs.2.1
    obtain ⟨cb,es,clk,h3,h4,h5,h6⟩:=mapE_at hw hH
    have hm:=map_val (eo_rel hs.1 hx) h3
    have ha:=sval hs.1 hy
    have hfind:=findNow_int a es.toList l 0 (by simpa using h5) (fun j n p hn hp=>(h6 j n p (by simpa using hn) hp).1)
    have hcb:=(Array.getElem?_eq_some_iff.1 h4).1
    cases hi:idxE l a with
    | none =>
      rw [hi] at hfind
      have hres:(execOp ac.eval ⟨dst,.call ⟨.builtin .delete,#[x,y],ats⟩,ty,pos,after,guard⟩).run P w=.ok (.value (.tuple #[])) { w with heap:=w.heap.setIfInBounds cb (.map es clk) }:=by
        simp [execOp,resolve,invoke,builtin,hm,ha,Builtin.delete_,h0,run_underlying (ht.map hk),MapKept.run_getObj_map h4,MapKept.run_checkKey (hK.intk hkk) (intKey a),MapKept.run_findKey (hK.intk hkk) hfind,Result.andThen,MapKept.run_setObj_map _ h4]
      refine wpIn_of_run (by simp) hres ?_
      refine hk' I ρ _ _ _ _ rfl (Imm.le_refl _) (Pre.refl _) (hw.setMap (m':=entsE e (delE l a)) hH h3 hcb (es:=es) (clock:=clk) (by rw [delE_none hi];simp [entsE,h5]) (fun i n p hn hp=>?_)) (VRel.tup (cs:=[]) rfl fun j v u hj=>by simp at hj) (by simp)
      rw [delE_none hi] at hp
      simp only [entsE,List.getElem?_map,Option.map_eq_some_iff] at hp
      obtain ⟨q,hq,rfl⟩:=hp
      exact h6 i n q hn hq
    | some j =>
      have hlt:=idxE_lt hi
      rw [hi] at hfind
      have hfind':Instr.findNow (.int .i64) (.int .i64 a) es.toList 0=some (some (j,es[j].val)):=by rw [hfind,Option.bind_some,show es.toList[j]?=some es[j] by simp];simp
      have hjs:j<es.size:=by omega
      have hres:(execOp ac.eval ⟨dst,.call ⟨.builtin .delete,#[x,y],ats⟩,ty,pos,after,guard⟩).run P w=.ok (.value (.tuple #[])) { w with heap:=w.heap.setIfInBounds cb (.map (es.eraseIdxIfInBounds j) clk) }:=by
        simp [execOp,resolve,invoke,builtin,hm,ha,Builtin.delete_,h0,run_underlying (ht.map hk),MapKept.run_getObj_map h4,MapKept.run_checkKey (hK.intk hkk) (intKey a),MapKept.run_findKey (hK.intk hkk) hfind',Result.andThen,MapKept.run_setObj_map _ h4]
      have hel:es.eraseIdxIfInBounds j=es.eraseIdx j hjs:=by simp [Array.eraseIdxIfInBounds,hjs]
      refine wpIn_of_run (by simp) hres ?_
      refine hk' I ρ _ _ _ _ rfl (Imm.le_refl _) (Pre.refl _) (hw.setMap (m':=entsE e (delE l a)) hH h3 hcb (es:=es.eraseIdxIfInBounds j) (clock:=clk) (by rw [delE_some hi,hel,Array.size_eraseIdx,entsE,List.length_map,List.length_eraseIdx,if_pos hlt];omega) (fun i n p hn hp=>?_)) (VRel.tup (cs:=[]) rfl fun j v u hj=>by simp at hj) (by simp)
      rw [delE_some hi] at hp
      rw [hel,← Array.getElem?_toList,Array.toList_eraseIdx,List.getElem?_eraseIdx] at hn
      simp only [entsE,List.getElem?_map,Option.map_eq_some_iff,List.getElem?_eraseIdx] at hp
      obtain ⟨q,hq,rfl⟩:=hp
      split at hn<;>rename_i hij
      · rw [if_pos hij] at hq
        exact h6 i n q (by simpa using hn) hq
      · rw [if_neg hij] at hq
        exact h6 (i+1) n q (by simpa using hn) hq
theorem ar_mapUpdate {i b:Nat}{e:α→V}{l:List (Int × α)}{a:Int}{v:α}(ht:TyIs P T d) (hk:d.tk=.map K E) (hK:TyIs P K dk) (hkk:dk.tk=.int .i64) (hx:eo env x=some (.map b)) (hy:eo env y=some (.s (.int .i64 a))) (hz:eo env z=some (e v)) (hH:H[b]?=some (mapE e l))
    (h:AR P r m nt ops Q L env (H.set b (mapE e (putE l a v)))):AR P r m nt ops Q (.l i ⟨none,.mapUpdate T x y z,ty,pos,after,none⟩ false::L) env H :=
  ar_l0 (ls_mapUpdate ht hk hK hkk hx hy hz hH) (fun v H' a=>by subst a;exact h) (fun _ _ h=>h.elim)
theorem ar_delete {i b:Nat}{e:α→V}{l:List (Int × α)}{a:Int}{ats:Array TypeId}(h0:ats[0]?=some T) (ht:TyIs P T d) (hk:d.tk=.map K E) (hK:TyIs P K dk) (hkk:dk.tk=.int .i64) (hx:eo env x=some (.map b)) (hy:eo env y=some (.s (.int .i64 a))) (hH:H[b]?=some (mapE e l))
    (h:AR P r m nt ops Q L env (H.set b (mapE e (delE l a)))):AR P r m nt ops Q (.l i ⟨none,.call ⟨.builtin .delete,#[x,y],ats⟩,ty,pos,after,none⟩ false::L) env H :=
  ar_l0 (ls_delete h0 ht hk hK hkk hx hy hH) (fun v H' a=>by subst a;exact h) (fun _ _ h=>h.elim)
end
def V.ren (r:Nat→Nat):V→V
  | .sl sz b i n=>.sl sz (r b) i n
  | .ptr sz b i off=>.ptr sz (r b) i off
  | .map b=>.map (r b)
  | .agg cs=>.agg (all cs)
  | .tup cs=>.tup (all cs)
  | .fn f a b=>.fn f (all a) (all b)
  | .iface t v=>.iface t (v.ren r)
  | v=>v
where all:List V→List V
  | []=>[]
  | v::l=>v.ren r::all l
theorem ren_all_len {r:Nat→Nat}:∀ l:List V,(V.ren.all r l).length=l.length
  | []=>rfl
  | _::l=>by simp [V.ren.all,ren_all_len l]
theorem ren_all_get {r:Nat→Nat}:∀ (l:List V) (j:Nat),(V.ren.all r l)[j]?=(l[j]?).map (V.ren r)
  | [],j=>by simp [V.ren.all]
  | v::l,j=>by
    cases j with
    | zero=>simp [V.ren.all]
    | succ j=>simp [V.ren.all,ren_all_get l j]
theorem VRel.ren {I:Imm}{ρ ρ':List (Option (Nat × Nat))}{r:Nat→Nat}(hr:∀ (j:Nat) x,ρ[j]?=some x→ρ'[r j]?=some x) {v:V}{u:Value}(h:VRel I ρ v u):VRel I ρ' (v.ren r) u:=by
  induction h with
  | s v=>exact .s v
  | emp A=>exact .emp A
  | agg h _ ih =>
    refine .agg (by rw [ren_all_len];exact h) fun j v u a b=>?_
    rw [ren_all_get] at a
    obtain ⟨v0,h1,rfl⟩:=Option.map_eq_some_iff.1 a
    exact ih j v0 u h1 b hr
  | tup h _ ih =>
    refine .tup (by rw [ren_all_len];exact h) fun j v u a b=>?_
    rw [ren_all_get] at a
    obtain ⟨v0,h1,rfl⟩:=Option.map_eq_some_iff.1 a
    exact ih j v0 u h1 b hr
  | list a b c d e=>exact .list a b c d e
  | sl hb a b c=>exact .sl (hr _ _ hb) a b c
  | slNone A hb=>exact .slNone A (hr _ _ hb)
  | ptr hb=>exact .ptr (hr _ _ hb)
  | ref a b=>exact .ref a b
  | fn h _ h' _ ih ih' =>
    refine .fn (by rw [ren_all_len];exact h) (fun j v u a b=>?_) (by rw [ren_all_len];exact h') (fun j v u a b=>?_)
    · rw [ren_all_get] at a
      obtain ⟨v0,h1,rfl⟩:=Option.map_eq_some_iff.1 a
      exact ih j v0 u h1 b hr
    · rw [ren_all_get] at a
      obtain ⟨v0,h1,rfl⟩:=Option.map_eq_some_iff.1 a
      exact ih' j v0 u h1 b hr
  | iface _ ih=>exact .iface (ih hr)
  | map hb=>exact .map (hr _ _ hb)
theorem ren_cells_len {r:Nat→Nat}(v:V):(v.ren r).cells.length=v.cells.length:=by
  cases v<;>simp [V.ren,V.cells,ren_all_len]
theorem ren_cells_get {r:Nat→Nat}(v:V) {j:Nat}{x:V}(h:(v.ren r).cells[j]?=some x):∃ y,v.cells[j]?=some y∧x=y.ren r:=by
  have:(v.ren r).cells=V.ren.all r v.cells:=by cases v<;>rfl
  rw [this,ren_all_get] at h
  obtain ⟨y,h1,h2⟩:=Option.map_eq_some_iff.1 h
  exact ⟨y,h1,h2.symm⟩
def Blk.ren (r:Nat→Nat):Blk→Blk
  | .arr sz n f=>.arr sz n fun i=>(f i).ren r
  | .map m=>.map (m.map fun p=>(p.1,p.2.ren r))
  | .dead=>.dead
theorem Blk.ren_live {r:Nat→Nat}{b:Blk}:b.ren r≠.dead↔b≠.dead:=by cases b<;>simp [Blk.ren]
def rn (σ:List Nat) (n:Nat) (j:Nat):Nat:=match σ[j]? with|some k=>k|none=>n+(j-σ.length)
def pickB (σ fr:List Nat) (r:Nat→Nat) (H1:Heap) (k:Nat) (b:Blk):Blk:=bif fr.contains k then .dead else match σ.idxOf? k with|some j=>(H1.getD j .dead).ren r|none=>b
def joinAt (σ fr:List Nat) (r:Nat→Nat) (H1:Heap):Nat→Heap→Heap
  | _,[]=>[]
  | k,b::l=>pickB σ fr r H1 k b::joinAt σ fr r H1 (k+1) l
theorem joinAt_get {σ fr:List Nat}{r:Nat→Nat}{H1:Heap}:∀ {H:Heap}{k i:Nat},(joinAt σ fr r H1 k H)[i]?=(H[i]?).map (pickB σ fr r H1 (k+i))
  | [],k,i=>by simp [joinAt]
  | b::l,k,i=>by
    cases i with
    | zero=>simp [joinAt]
    | succ i=>simp only [joinAt,List.getElem?_cons_succ];rw [joinAt_get,show k+1+i=k+(i+1) by omega]
theorem joinAt_len {σ fr:List Nat}{r:Nat→Nat}{H1:Heap}:∀ {H:Heap}{k:Nat},(joinAt σ fr r H1 k H).length=H.length
  | [],_=>rfl
  | _::l,k=>by simp [joinAt,joinAt_len (H:=l)]
def joinH (σ fr:List Nat) (H H1:Heap):Heap:=joinAt σ fr (rn σ H.length) H1 0 H++(H1.drop σ.length).map (Blk.ren (rn σ H.length))
section
variable {X:Ctx}{I J I':Imm}{ρ ρ1:List (Option (Nat × Nat))}{H H0 H1:Heap}{w w':World}
theorem relocate_ok (hw:WOk X I ρ H w) (σ:List Nat) (fr:List Nat) (hlen:σ.length=H0.length) (hinj:σ.Nodup) (hfr:∀ b∈fr,b ∉ σ) (hh:HSub H (σ.map some) (·∈fr) 0 H0) :
    ∃ J,I.le J∧(∀ b,J b≠none→I b≠none∨∃ k z,k∈fr∧(∃ x:Blk,H[k]?=some x∧x≠.dead)∧ρ[k]?=some (some (b,z)))∧WOk (Ctx.self w (relocate (σ.map some) ρ) H0 J) J (relocate (σ.map some) ρ) H0 w ∧
      ∀ {v x:V} {u:Value},VSub H (σ.map some) (·∈fr) v x→VRel I ρ v u→VRel J (relocate (σ.map some) ρ) x u:=by
  classical
  let frz:Nat→Prop:=fun cb=>∃ b z,b∈fr∧(∃ x:Blk,H[b]?=some x∧x≠.dead)∧ρ[b]?=some (some (cb,z))
  let J:Imm:=fun cb=>if frz cb then w.heap[cb]? else I cb
  have liveF:∀ cb,frz cb→Live H ρ cb:=fun cb ⟨b,z,_,⟨x,h1,h2⟩,h3⟩=>⟨b,x,h1,h2,z,h3⟩
  have hI:I.le J:=fun b o h=>by
    show (if frz b then w.heap[b]? else I b)=some o
    rw [if_neg (fun hf=>by rw [hw.apart b (liveF b hf)] at h;cases h)]
    exact h
  have hJok:∀ b o,J b=some o→w.heap[b]?=some o:=fun b o h=>by
    have h:(if frz b then w.heap[b]? else I b)=some o:=h
    split at h
    · exact h
    · exact hw.imm b o h
  have hJ:∀ b cb z o,b∈fr→(∃ x:Blk,H[b]?=some x∧x≠.dead)→ρ[b]?=some (some (cb,z))→w.heap[cb]?=some o→J cb=some o:=fun b cb z o h1 h2 h3 h4=>by
    show (if frz cb then w.heap[cb]? else I cb)=some o
    rw [if_pos ⟨b,z,h1,h2,h3⟩]
    exact h4
  have hJn:∀ b,J b≠none→I b≠none∨frz b:=fun b h=>by
    by_cases hf:frz b
    · exact .inr hf
    · refine .inl ?_
      have h:(if frz b then w.heap[b]? else I b)≠none:=h
      rwa [if_neg hf] at h
  have rel:∀ {v x:V} {u:Value},VSub H (σ.map some) (·∈fr) v x→VRel I ρ v u→VRel J (relocate (σ.map some) ρ) x u:=fun h hu=>h.rel hw hI hJ hu
  have blk:∀ (k:Nat) b,H0[k]?=some b→BSub H (σ.map some) (·∈fr) k b:=fun k b h=>by have:=hSub_get hh h;rwa [Nat.zero_add] at this
  have alive:∀ (k cb z:Nat) b,H0[k]?=some b→b≠.dead→(relocate (σ.map some) ρ)[k]?=some (some (cb,z))→∃ b',(σ.map some)[k]?=some (some b')∧(∃ x:Blk,H[b']?=some x∧x≠.dead)∧ρ[b']?=some (some (cb,z)):=by
    intro k cb z b hk hb hρ
    obtain ⟨b',h1,h2⟩:=relocate_some hρ
    refine ⟨b',h1,?_,h2⟩
    cases b with
    | dead=>exact (hb rfl).elim
    | arr sz n g =>
      rcases blk k _ hk with ⟨c,f,h3,h4,_⟩|⟨h3,_⟩
      · rw [h1] at h3;cases h3;exact ⟨_,h4,by simp⟩
      · rw [h1] at h3;cases h3
    | map ms =>
      obtain ⟨c,ns,h3,h4,_⟩:=blk k _ hk
      rw [h1] at h3;cases h3;exact ⟨_,h4,by simp⟩
  have inj:Inj (σ.map some):=fun i j b h1 h2=>by
    simp only [List.getElem?_map,Option.map_eq_some_iff,Option.some.injEq,exists_eq_right] at h1 h2
    have a1:=(List.getElem?_eq_some_iff.1 h1).1
    exact (List.getElem?_inj a1 hinj).1 (h1.trans h2.symm)
  refine ⟨J,hI,hJn,{ len:=by simp [relocate,hlen],inj:=?_,imm:=hJok,apart:=?_,size:=?_,none:=?_,arr:=?_,map:=?_,mine:=fun b hb=>.inr hb,news:=fun b hb=>.inl hb,le:=Imm.le_refl _,pre:=Pre.refl _,os:=rfl,tape:=rfl,out:=rfl,grow:=Nat.le_refl _,keep:=fun _ _ _=>rfl },rel⟩
  · rintro i j b ⟨x,hx,hx'⟩ ⟨y,hy,hy'⟩ z1 z2 h1 h2
    obtain ⟨i',a1,a2,a3⟩:=alive i b z1 x hx hx' h1
    obtain ⟨j',b1,b2,b3⟩:=alive j b z2 y hy hy' h2
    have:=hw.inj i' j' b a2 b2 z1 z2 a3 b3
    subst this
    exact inj i j i' a1 b1
  · rintro cb ⟨k,b,h1,h2,z,h3⟩
    obtain ⟨b',h4,h5,h6⟩:=alive k cb z b h1 h2 h3
    have hl:Live H ρ cb:=by obtain ⟨x,h7,h8⟩:=h5;exact ⟨b',x,h7,h8,z,h6⟩
    show (if frz cb then w.heap[cb]? else I cb)=none
    rw [if_neg]
    · exact hw.apart cb hl
    · rintro ⟨c,z',h7,h8,h9⟩
      have:=hw.inj b' c cb h5 h8 z z' h6 h9
      subst this
      refine hfr b' h7 ?_
      have:=List.mem_of_getElem? h4
      simpa using this
  · intro k sz n g hk i hi
    rcases blk k _ hk with ⟨b,f,h1,h2,h3⟩|⟨_,rfl⟩
    · rw [(h3 i hi).len]
      exact hw.size b sz n f h2 i hi
    · omega
  · intro k sz n g hk hρ
    rcases blk k _ hk with ⟨b,f,h1,h2,h3⟩|⟨_,rfl⟩
    · cases hb:ρ[b]? with
      | none =>
        have h4:=(List.getElem?_eq_some_iff.1 h2).1
        have h5:=List.getElem?_eq_none_iff.1 hb
        rw [hw.len] at h5
        omega
      | some q =>
        rw [relocate_get h1 hb] at hρ
        cases hρ
        exact hw.none b sz n f h2 hb
    · rfl
  · intro k sz n g cb z hk hρ
    obtain ⟨b',h4,h5,h6⟩:=alive k cb z _ hk (by simp) hρ
    rcases blk k _ hk with ⟨b,f,h1,h2,h3⟩|⟨h1,_⟩
    · rw [h4] at h1
      cases h1
      obtain ⟨cs,ty,a1,a2,a3,a4⟩:=hw.arr _ _ _ _ _ _ h2 h6
      refine ⟨cs,ty,a1,a2,a3,fun i j x hi hx=>?_⟩
      have e:=h3 i hi
      have cell:∃ v,(f i).cells[j]?=some v∧VSub H (σ.map some) (·∈fr) v x:=by
        revert hx
        generalize f i=q at e ⊢
        generalize g i=q' at e ⊢
        intro hx
        cases e with
        | agg h hv =>
          rename_i cs ds
          have hlt:=(List.getElem?_eq_some_iff.1 hx).1
          have hlt':j<cs.length:=by simp [V.cells] at hlt;omega
          exact ⟨cs[j],by simp [V.cells,hlt'],hv j _ x (by simp [hlt']) hx⟩
        | closed hc =>
          refine ⟨x,hx,.closed ?_⟩
          cases q<;>simp only [V.cells] at hx<;>first
            | exact closed_all (by simp only [V.closed] at hc;exact hc) hx
            | (cases j<;>simp at hx;subst hx;exact hc)
        | sl h=>cases j<;>simp [V.cells] at hx;subst hx;exact ⟨_,rfl,.sl h⟩
        | ptr h=>cases j<;>simp [V.cells] at hx;subst hx;exact ⟨_,rfl,.ptr h⟩
        | map h=>cases j<;>simp [V.cells] at hx;subst hx;exact ⟨_,rfl,.map h⟩
        | nil h=>cases j<;>simp [V.cells] at hx;subst hx;exact ⟨_,rfl,.nil h⟩
        | emp h=>cases j<;>simp [V.cells] at hx;subst hx;exact ⟨_,rfl,.emp h⟩
        | nilList=>cases j<;>simp [V.cells] at hx;subst hx;exact ⟨_,rfl,.nilList⟩
        | empList=>cases j<;>simp [V.cells] at hx;subst hx;exact ⟨_,rfl,.empList⟩
        | frz a b c d e=>cases j<;>simp [V.cells] at hx;subst hx;exact ⟨_,rfl,.frz a b c d e⟩
        | frzPtr a b c d=>cases j<;>simp [V.cells] at hx;subst hx;exact ⟨_,rfl,.frzPtr a b c d⟩
        | ext a=>cases j<;>simp [V.cells] at hx;subst hx;exact ⟨_,rfl,.ext a⟩
        | tup a b=>cases j<;>simp [V.cells] at hx;subst hx;exact ⟨_,rfl,.tup a b⟩
        | fn a b c d=>cases j<;>simp [V.cells] at hx;subst hx;exact ⟨_,rfl,.fn a b c d⟩
      obtain ⟨v,b1,b2⟩:=cell
      obtain ⟨u,c1,c2⟩:=a4 i j v hi b1
      exact ⟨u,c1,rel b2 c2⟩
    · rw [h4] at h1;cases h1
  · intro k ms hk
    obtain ⟨b,ns,h1,h2,h3,h4⟩:=blk k _ hk
    obtain ⟨cb,h5,es,clk,h6,h7,h8⟩:=hw.map _ _ h2
    refine ⟨cb,relocate_get h1 h5,es,clk,h6,h7.trans h3,fun i e y he hy=>?_⟩
    have hlt:i<ns.length:=by have:=(List.getElem?_eq_some_iff.1 hy).1;omega
    obtain ⟨c1,c2⟩:=h8 i e ns[i] he (by simp [hlt])
    obtain ⟨d1,d2⟩:=h4 i ns[i] y (by simp [hlt]) hy
    exact ⟨c1.trans d1,rel d2 c2⟩
theorem pre_len {σ τ:List (Option (Nat × Nat))}(h:Pre σ τ):σ.length≤τ.length:=by
  cases e:σ.length with
  | zero=>omega
  | succ n =>
    have h1:σ[n]?=some σ[n]:=by simp [e]
    have:=(List.getElem?_eq_some_iff.1 (h n _ h1)).1
    omega
theorem idxOf_some {σ:List Nat}{k j:Nat}(h:σ.idxOf? k=some j):σ[j]?=some k:=by
  rw [List.idxOf?_eq_some_iff] at h
  obtain ⟨h1,h2,_⟩:=h
  rw [List.getElem?_eq_some_iff]
  exact ⟨h1,by simpa using h2⟩
theorem idxOf_none {σ:List Nat}{k:Nat}(h:σ.idxOf? k=none):k ∉ σ:=by simpa [List.idxOf?_eq_none_iff] using h
theorem keepsNone (hw:WOk X I ρ H w) {k:Nat}{b:Blk}(h:H[k]?=some b):∃ x,ρ[k]?=some x:=by
  have h1:=(List.getElem?_eq_some_iff.1 h).1
  rw [← hw.len] at h1
  exact ⟨ρ[k],by simp [h1]⟩
theorem WOk.joinG (hw:WOk X I ρ H w) (σ:List Nat) (fr:List Nat) (hlen:σ.length=H0.length) (_hinj:σ.Nodup) (_hfr:∀ b∈fr,b ∉ σ) (hh:HSub H (σ.map some) (·∈fr) 0 H0) (hlive:∀ b∈H0,b≠.dead)
    (hJ:I.le J) (hJn:∀ b,J b≠Option.none→I b≠Option.none∨∃ k z,k∈fr∧(∃ x:Blk,H[k]?=some x∧x≠.dead)∧ρ[k]?=some (some (b,z)))
    (k:WOk (Ctx.self w (relocate (σ.map some) ρ) H0 J) I' ρ1 H1 w') :
    WOk X I' (ρ++ρ1.drop σ.length) (joinH σ fr H H1) w'∧∀ (j:Nat) x,ρ1[j]?=some x→(ρ++ρ1.drop σ.length)[rn σ H.length j]?=some x:=by
  have hlenH:=hw.len
  have hpre:Pre (relocate (σ.map some) ρ) ρ1:=k.pre
  have hle1:σ.length≤ρ1.length:=by have:=pre_len hpre;simpa [relocate] using this
  have hl1:=k.len
  have blk:∀ (j:Nat) b,H0[j]?=some b→BSub H (σ.map some) (·∈fr) j b:=fun j b h=>by have:=hSub_get hh h;rwa [Nat.zero_add] at this
  have aliveσ:∀ (j k0:Nat),σ[j]?=some k0→∃ b0,H0[j]?=some b0∧b0≠.dead∧∃ x:Blk,H[k0]?=some x∧x≠.dead:=fun j k0 hj=>by
    have hlt:=(List.getElem?_eq_some_iff.1 hj).1
    have h1:H0[j]?=some H0[j]:=by simp
    have h2:=hlive H0[j] (List.getElem_mem _)
    refine ⟨_,h1,h2,?_⟩
    have h3:=blk j _ h1
    have hs:(σ.map some)[j]?=some (some k0):=by simp [hj]
    cases e:H0[j] with
    | dead=>exact (h2 e).elim
    | arr sz n g =>
      rw [e] at h3
      rcases h3 with ⟨c,f,h3,h4,_⟩|⟨h3,_⟩
      · rw [hs] at h3;cases h3;exact ⟨_,h4,by simp⟩
      · rw [hs] at h3;cases h3
    | map ms =>
      rw [e] at h3
      obtain ⟨c,ns,h3,h4,_⟩:=h3
      rw [hs] at h3;cases h3;exact ⟨_,h4,by simp⟩
  have ρσ:∀ (j k0:Nat) x,σ[j]?=some k0→ρ[k0]?=some x→ρ1[j]?=some x:=fun j k0 x h1 h2=>hpre j x (relocate_get (by simp [h1]) h2)
  have ρσ':∀ (j k0:Nat) x,σ[j]?=some k0→ρ1[j]?=some x→ρ[k0]?=some x:=fun j k0 x h1 h2=>by
    obtain ⟨_,_,_,y,h3,_⟩:=aliveσ j k0 h1
    obtain ⟨z,h4⟩:=keepsNone hw h3
    have:=ρσ j k0 z h1 h4
    rw [h2] at this
    rw [h4,this]
  have hr:∀ (j:Nat) x,ρ1[j]?=some x→(ρ++ρ1.drop σ.length)[rn σ H.length j]?=some x:=fun j x h=>by
    unfold rn
    cases hs:σ[j]? with
    | some k0 =>
      show (ρ++ρ1.drop σ.length)[k0]?=some x
      have h1:=ρσ' j k0 x hs h
      rw [List.getElem?_append_left (List.getElem?_eq_some_iff.1 h1).1]
      exact h1
    | none =>
      show (ρ++ρ1.drop σ.length)[H.length+(j-σ.length)]?=some x
      have h1:σ.length≤j:=by simpa using hs
      rw [List.getElem?_append_right (by omega),hlenH,List.getElem?_drop,show σ.length+(H.length+(j-σ.length)-H.length)=j by omega]
      exact h
  have live0:∀ b,Live H0 (relocate (σ.map some) ρ) b→∃ j k0 z,σ[j]?=some k0∧(∃ x:Blk,H[k0]?=some x∧x≠.dead)∧ρ[k0]?=some (some (b,z)):=fun b ⟨j,blk0,h1,h2,z,h3⟩=>by
    obtain ⟨k0,h4,h5⟩:=relocate_some h3
    simp only [List.getElem?_map,Option.map_eq_some_iff,Option.some.injEq,exists_eq_right] at h4
    obtain ⟨_,_,_,h6⟩:=aliveσ j k0 h4
    exact ⟨j,k0,z,h4,h6,h5⟩
  have live0':∀ b,Live H0 (relocate (σ.map some) ρ) b→Live H ρ b:=fun b hb=>by
    obtain ⟨j,k0,z,_,⟨x,h2,h3⟩,h4⟩:=live0 b hb
    exact ⟨k0,x,h2,h3,z,h4⟩
  have split:∀ (i:Nat) b,(joinH σ fr H H1)[i]?=some b→b≠.dead→(i<H.length∧i ∉ σ∧i ∉ fr∧H[i]?=some b)∨(∃ j b1,i=rn σ H.length j∧H1[j]?=some b1∧b=b1.ren (rn σ H.length)∧(i<H.length→σ[j]?=some i)∧(H.length≤i→σ.length≤j)):=fun i b h hb=>by
    unfold joinH at h
    by_cases hi:i<H.length
    · rw [List.getElem?_append_left (by rw [joinAt_len];exact hi),joinAt_get,Nat.zero_add] at h
      obtain ⟨b0,h1,h2⟩:=Option.map_eq_some_iff.1 h
      unfold pickB at h2
      cases hf:fr.contains i with
      | true=>rw [hf] at h2;simp at h2;exact (hb h2.symm).elim
      | false =>
        rw [hf] at h2
        simp only [cond_false] at h2
        cases hx:σ.idxOf? i with
        | none =>
          rw [hx] at h2
          exact .inl ⟨hi,idxOf_none hx,by simpa using hf,by rw [h1];exact congrArg some h2⟩
        | some j =>
          rw [hx] at h2
          have hj:=idxOf_some hx
          have hjl:=(List.getElem?_eq_some_iff.1 hj).1
          have hlt:j<H1.length:=by omega
          refine .inr ⟨j,H1[j],by simp [rn,hj],by simp [hlt],?_,fun _=>hj,fun h=>by omega⟩
          rw [← h2]
          simp [hlt]
    · rw [List.getElem?_append_right (by rw [joinAt_len];omega),joinAt_len,List.getElem?_map,List.getElem?_drop] at h
      obtain ⟨b1,h1,h2⟩:=Option.map_eq_some_iff.1 h
      refine .inr ⟨σ.length+(i-H.length),b1,?_,h1,h2.symm,fun h=>by omega,fun _=>by omega⟩
      have:σ[σ.length+(i-H.length)]?=Option.none:=by simp
      simp only [rn,this]
      omega
  have ρold:∀ (i:Nat) x,i<H.length→(ρ++ρ1.drop σ.length)[i]?=some x→ρ[i]?=some x:=fun i x hi h=>by
    rwa [List.getElem?_append_left (by omega)] at h
  have ρnew:∀ (i j:Nat) x b1,i=rn σ H.length j→H1[j]?=some b1→(ρ++ρ1.drop σ.length)[i]?=some x→ρ1[j]?=some x:=fun i j x b1 hi hb h=>by
    have hlt:j<ρ1.length:=by have:=(List.getElem?_eq_some_iff.1 hb).1;omega
    have:=hr j ρ1[j] (by simp [hlt])
    rw [← hi,h] at this
    cases this
    simp [hlt]
  have oldLive:∀ (i b y:Nat) (x:Blk),H[i]?=some x→x≠.dead→ρ[i]?=some (some (b,y))→b<w.heap.size:=fun i b y x h1 h2 h3=>hw.lt ⟨i,x,h1,h2,y,h3⟩
  have same:∀ (i b y:Nat) (x:Blk),i ∉ σ→H[i]?=some x→x≠.dead→ρ[i]?=some (some (b,y))→w'.heap[b]?=w.heap[b]?:=fun i b y x hi h1 h2 h3=>by
    refine k.keep b (oldLive i b y x h1 h2 h3) fun hl=>?_
    obtain ⟨j,k0,z,h4,h5,h6⟩:=live0 b hl
    have:=hw.inj i k0 b ⟨x,h1,h2⟩ h5 y z h3 h6
    subst this
    exact hi (List.mem_of_getElem? h4)
  have clash:∀ (i j b y z:Nat) (x b1:Blk),i ∉ σ→H[i]?=some x→x≠.dead→ρ[i]?=some (some (b,y))→H1[j]?=some b1→b1≠.dead→ρ1[j]?=some (some (b,z))→False:=fun i j b y z x b1 hi h1 h2 h3 h4 h5 h6=>by
    have hlt:=oldLive i b y x h1 h2 h3
    rcases k.mine b ⟨j,b1,h4,h5,z,h6⟩ with h|h
    · have:w.heap.size≤b:=h
      omega
    · obtain ⟨j',k0,z',h7,h8,h9⟩:=live0 b h
      have:=hw.inj i k0 b ⟨x,h1,h2⟩ h8 y z' h3 h9
      subst this
      exact hi (List.mem_of_getElem? h7)
  have rlen:(ρ++ρ1.drop σ.length).length=(joinH σ fr H H1).length:=by simp [joinH,joinAt_len,hlenH,hl1]
  have up:∀ {v:V} {u:Value},VRel I ρ v u→VRel I' (ρ++ρ1.drop σ.length) v u:=fun h=>h.mono (Imm.le_trans hJ k.le) fun i x h=>by rw [List.getElem?_append_left (List.getElem?_eq_some_iff.1 h).1];exact h
  refine ⟨?_,hr⟩
  exact { len:=rlen
          inj:=fun i j b ⟨p,hp,hp'⟩ ⟨q,hq,hq'⟩ y z hy hz=>by
            rcases split i p hp hp' with ⟨a1,a2,_,a4⟩|⟨j1,p1,a1,a2,a3,a4,a5⟩<;>rcases split j q hq hq' with ⟨b1,b2,_,b4⟩|⟨j2,q1,b1,b2,b3,b4,b5⟩
            · exact hw.inj i j b ⟨p,a4,hp'⟩ ⟨q,b4,hq'⟩ y z (ρold i _ a1 hy) (ρold j _ b1 hz)
            · exact (clash i j2 b y z p q1 a2 a4 hp' (ρold i _ a1 hy) b2 (by rw [b3] at hq';exact Blk.ren_live.1 hq') (ρnew j j2 _ q1 b1 b2 hz)).elim
            · exact (clash j j1 b z y q p1 b2 b4 hq' (ρold j _ b1 hz) a2 (by rw [a3] at hp';exact Blk.ren_live.1 hp') (ρnew i j1 _ p1 a1 a2 hy)).elim
            · have:=k.inj j1 j2 b ⟨p1,a2,by rw [a3] at hp';exact Blk.ren_live.1 hp'⟩ ⟨q1,b2,by rw [b3] at hq';exact Blk.ren_live.1 hq'⟩ y z (ρnew i j1 _ p1 a1 a2 hy) (ρnew j j2 _ q1 b1 b2 hz)
              rw [a1,b1,this]
          imm:=k.imm
          apart:=fun b ⟨i,p,hp,hp',z,hz⟩=>by
            rcases split i p hp hp' with ⟨a1,a2,a3,a4⟩|⟨j1,p1,a1,a2,a3,a4,a5⟩
            · have hz:=ρold i _ a1 hz
              have hlt:=oldLive i b z p a4 hp' hz
              have hI:=hw.apart b ⟨i,p,a4,hp',z,hz⟩
              cases e:I' b with
              | none=>rfl
              | some o =>
                rcases k.news b (by rw [e];simp) with h|h|h
                · rcases hJn b h with h|⟨k0,z',h1,h2,h3⟩
                  · exact (h hI).elim
                  · have:=hw.inj i k0 b ⟨p,a4,hp'⟩ h2 z z' hz h3
                    subst this
                    exact (a3 h1).elim
                · have:w.heap.size≤b:=h
                  omega
                · obtain ⟨j',k0,z',h7,h8,h9⟩:=live0 b h
                  have:=hw.inj i k0 b ⟨p,a4,hp'⟩ h8 z z' hz h9
                  subst this
                  exact (a2 (List.mem_of_getElem? h7)).elim
            · exact k.apart b ⟨j1,p1,a2,by rw [a3] at hp';exact Blk.ren_live.1 hp',z,ρnew i j1 _ p1 a1 a2 hz⟩
          size:=fun i s m f h q hq=>by
            rcases split i _ h (by simp) with ⟨a1,a2,a3,a4⟩|⟨j1,p1,a1,a2,a3,a4,a5⟩
            · exact hw.size i s m f a4 q hq
            · cases p1<;>simp only [Blk.ren] at a3<;>cases a3
              rw [ren_cells_len]
              exact k.size j1 _ _ _ a2 q hq
          none:=fun i s m f h hn=>by
            rcases split i _ h (by simp) with ⟨a1,a2,a3,a4⟩|⟨j1,p1,a1,a2,a3,a4,a5⟩
            · exact hw.none i s m f a4 (ρold i _ a1 hn)
            · cases p1<;>simp only [Blk.ren] at a3<;>cases a3
              exact k.none j1 _ _ _ a2 (ρnew i j1 _ _ a1 a2 hn)
          arr:=fun i s m f b z h hz=>by
            rcases split i _ h (by simp) with ⟨a1,a2,a3,a4⟩|⟨j1,p1,a1,a2,a3,a4,a5⟩
            · have hz:=ρold i _ a1 hz
              refine (hw.arr i s m f b z a4 hz).mono (Imm.le_trans hJ k.le) (fun i x h=>?_) (same i b z _ a2 a4 (by simp) hz)
              rw [List.getElem?_append_left (List.getElem?_eq_some_iff.1 h).1];exact h
            · cases p1<;>simp only [Blk.ren] at a3<;>cases a3
              obtain ⟨cs,ty,h1,h2,h3,h4⟩:=k.arr j1 _ _ _ b z a2 (ρnew i j1 _ _ a1 a2 hz)
              refine ⟨cs,ty,h1,h2,h3,fun q j v hq hv=>?_⟩
              obtain ⟨y,h5,rfl⟩:=ren_cells_get _ hv
              obtain ⟨u,h6,h7⟩:=h4 q j y hq h5
              exact ⟨u,h6,h7.ren hr⟩
          map:=fun i ms h=>by
            rcases split i _ h (by simp) with ⟨a1,a2,a3,a4⟩|⟨j1,p1,a1,a2,a3,a4,a5⟩
            · obtain ⟨b,h1,h2⟩:=hw.map i ms a4
              refine ⟨b,by rw [List.getElem?_append_left (by omega)];exact h1,h2.mono (Imm.le_trans hJ k.le) (fun i x h=>?_) (same i b 0 _ a2 a4 (by simp) h1)⟩
              rw [List.getElem?_append_left (List.getElem?_eq_some_iff.1 h).1];exact h
            · cases p1<;>simp only [Blk.ren] at a3<;>cases a3
              obtain ⟨b,h1,es,clk,h2,h3,h4⟩:=k.map j1 _ a2
              refine ⟨b,by rw [a1];exact hr j1 _ h1,es,clk,h2,by simpa using h3,fun q e x he hx=>?_⟩
              rw [List.getElem?_map] at hx
              obtain ⟨y,h5,rfl⟩:=Option.map_eq_some_iff.1 hx
              obtain ⟨h6,h7⟩:=h4 q e y he h5
              exact ⟨h6,h7.ren hr⟩
          mine:=fun b ⟨i,p,hp,hp',z,hz⟩=>by
            rcases split i p hp hp' with ⟨a1,a2,a3,a4⟩|⟨j1,p1,a1,a2,a3,a4,a5⟩
            · exact hw.mine b ⟨i,p,a4,hp',z,ρold i _ a1 hz⟩
            · rcases k.mine b ⟨j1,p1,a2,by rw [a3] at hp';exact Blk.ren_live.1 hp',z,ρnew i j1 _ p1 a1 a2 hz⟩ with h|h
              · exact .inl (Nat.le_trans hw.grow h)
              · exact hw.mine b (live0' b h)
          news:=fun b hb=>by
            rcases k.news b hb with h|h|h
            · rcases hJn b h with h|⟨k0,z',_,⟨x,h1,h2⟩,h3⟩
              · exact hw.news b h
              · exact .inr (hw.mine b ⟨k0,x,h1,h2,z',h3⟩)
            · exact .inr (.inl (Nat.le_trans hw.grow h))
            · exact .inr (hw.mine b (live0' b h))
          le:=Imm.le_trans hw.le (Imm.le_trans hJ k.le)
          pre:=hw.pre.trans fun i x h=>by rw [List.getElem?_append_left (List.getElem?_eq_some_iff.1 h).1];exact h
          os:=k.os.trans hw.os,tape:=k.tape.trans hw.tape,out:=k.out.trans hw.out,grow:=Nat.le_trans hw.grow k.grow
          keep:=fun b hb hl=>by
            refine (k.keep b (Nat.lt_of_lt_of_le hb hw.grow) fun h=>?_).trans (hw.keep b hb hl)
            rcases hw.mine b (live0' b h) with h1|h1
            · omega
            · exact hl h1 }
end
def ArgsSub (H:Heap) (σ fr:List Nat):List V→List V→Prop
  | [],[]=>True
  | v::l,x::m=>VSub H (σ.map some) (·∈fr) v x∧ArgsSub H σ fr l m
  | _,_=>False
theorem argsSub_rel {H:Heap}{σ fr:List Nat}{I J:Imm}{ρ ρ':List (Option (Nat × Nat))}(rel:∀ {v x:V}{u:Value},VSub H (σ.map some) (·∈fr) v x→VRel I ρ v u→VRel J ρ' x u) :
    ∀ {vs xs:List V} {us:List Value},ArgsSub H σ fr vs xs→VRels I ρ vs us.toArray→VRels J ρ' xs us.toArray
  | [],[],us,_,h=>⟨h.1,fun j v u hj=>by simp at hj⟩
  | v::vs,x::xs,us,⟨ha1,ha2⟩,h=>by
    cases us with
    | nil=>have:=h.1;simp at this
    | cons u us =>
      have h1:VRels I ρ vs us.toArray:=⟨by have:=h.1;simpa using this,fun j v u hj hu=>h.2 (j+1) v u (by simpa using hj) (by simpa using hu)⟩
      have ih:=argsSub_rel rel ha2 h1
      refine ⟨by have:=ih.1;simpa using this,fun j y q hj hu=>?_⟩
      cases j with
      | zero=>simp at hj hu;subst hj hu;exact rel ha1 (h.2 0 v u rfl rfl)
      | succ j=>exact ih.2 j y q (by simpa using hj) (by simpa using hu)
  | [],_::_,_,h,_=>h.elim
  | _::_,[],_,h,_=>h.elim
section
variable {P:Program}{r:Option Nat}{m nt:Nat}{Q:Post}{env:Env}{H H0:Heap}{ops:Array Oper}{l:List Stp}{dst:Option Tmp}{ty:TypeId}{pos:String}{after:Array Edge}{guard:Option (Nat × Bool)}{keep:Bool}
theorem ls_gcall (σ fr:List Nat) {fo:Operand}{args:List Operand}{ats:Array TypeId}{f:FuncId}{first cap vs xs:List V}{R Rp:V→Heap→Prop}(hfn:FnOk P f) (hf:eo env fo=some (.fn (.func f) first cap)) (hargs:args.mapM (eo env)=some vs)
    (ha:ArgsSub H σ fr (first++vs++cap) xs) (hlen:σ.length=H0.length) (hinj:σ.Nodup) (hfr:∀ b∈fr,b ∉ σ) (hh:HSub H (σ.map some) (·∈fr) 0 H0) (hlive:∀ b∈H0,b≠.dead) (h:ACalls P f xs H0 R Rp) :
    LS P r m nt false env H ⟨dst,.call ⟨.value fo,args.toArray,ats⟩,ty,pos,after,guard⟩ (fun v H'=>∃ v1 H1,R v1 H1∧v=v1.ren (rn σ H.length)∧H'=joinH σ fr H H1) (fun v H'=>∃ v1 H1,Rp v1 H1∧v=v1.ren (rn σ H.length)∧H'=joinH σ fr H H1):=.mk
  fun X I ρ a w next Qx hX hs hk hp=>by
    have hw:=hs.2.1
    have h1:=eo_rel hs.1 hf
    cases h1':a.eval fo<;>rw [h1'] at h1<;>cases h1
    rename_i us ws e1 e2 e3 e4
    have hrel:VRels I ρ (first++vs++cap) (us++(args.map a.eval).toArray++ws):=(VRels.append ⟨e1,e2⟩ (evals hs.1 hargs)).append ⟨e3,e4⟩
    obtain ⟨J,hJ,hJn,hwJ,rel⟩:=relocate_ok hw σ fr hlen hinj hfr hh
    have hrel':=argsSub_rel (us:=(us++(args.map a.eval).toArray++ws).toList) rel ha (by rw [Array.toArray_toList];exact hrel)
    rw [Array.toArray_toList] at hrel'
    refine wpIn_of_run (by simp) (call_run hfn h1' w) ⟨fun h=>by simp [Fw,Fence.wide] at h,callsIn_fw.2 ((h.1 _ J _ w _ hwJ hrel').mono fun e w' ⟨v,u,I',ρ1,H1,hle,hpre,hw',hr,h2⟩=>?_)⟩
    obtain ⟨hj,hren⟩:=hw.joinG σ fr hlen hinj hfr hh hlive hJ hJn hw'
    rcases h2 with ⟨rfl,hR⟩|⟨rfl,hR⟩
    · exact hk I' _ _ _ u w' ⟨v,H1,hR,rfl,rfl⟩ (Imm.le_trans hJ hle) (fun i x h=>by rw [List.getElem?_append_left (List.getElem?_eq_some_iff.1 h).1];exact h) hj (hr.ren hren) (by simp)
    · exact hp I' _ _ _ u w' ⟨v,H1,hR,rfl,rfl⟩ (Imm.le_trans hJ hle) hj (hr.ren hren)
theorem ar_gcall (σ fr:List Nat) {i d:Nat}{fo:Operand}{args:List Operand}{ats:Array TypeId}{f:FuncId}{first cap vs xs:List V}{R Rp:V→Heap→Prop}(hfn:FnOk P f) (hf:eo env fo=some (.fn (.func f) first cap)) (hargs:args.mapM (eo env)=some vs)
    (ha:ArgsSub H σ fr (first++vs++cap) xs) (hlen:σ.length=H0.length) (hinj:σ.Nodup) (hfr:∀ b∈fr,b ∉ σ) (hh:HSub H (σ.map some) (·∈fr) 0 H0) (hlive:∀ b∈H0,b≠.dead) (h:ACalls P f xs H0 R Rp) (hd:d<nt)
    (hk:∀ v1 H1,R v1 H1→AR P r m nt ops Q l ((d,v1.ren (rn σ H.length))::env) (joinH σ fr H H1)) (hp:∀ v1 H1,Rp v1 H1→Q (.panic (v1.ren (rn σ H.length))) [] (joinH σ fr H H1)) :
    AR P r m nt ops Q (.l i ⟨some d,.call ⟨.value fo,args.toArray,ats⟩,ty,pos,after,Option.none⟩ false::l) env H :=
  ar_l (ls_gcall σ fr hfn hf hargs ha hlen hinj hfr hh hlive h) hd (fun v H' ⟨v1,H1,hR,a,b⟩=>by subst a;subst b;exact hk v1 H1 hR) (fun v H' ⟨v1,H1,hR,a,b⟩=>by subst a;subst b;exact hp v1 H1 hR)
end
end Go.Proofs.YtbilpbabdgfblaaGreat
