/- Parts of the proof: contracts of functions. No condition. -/
import Derived.Test.YtbilpbabdgfblaaGreatKSq9
set_option maxHeartbeats 16000000
set_option linter.unusedSimpArgs false
set_option linter.unusedVariables false
namespace Go.Proofs.YtbilpbabdgfblaaGreat
open Go.RowKit
def LiveAt (H:Heap) (i:Nat):Prop:=∃ x:Blk,H[i]?=some x∧x≠.dead
section
variable {I J:Imm}{ρ:List (Option (Nat × Nat))}{X:Ctx}{H:Heap}{w:World}{σ:List (Option Nat)}{fr:Nat→Prop}
theorem sub_genL {m nt:Nat}{env env0:Env}{H H0:Heap}(σ:List (Option Nat)) (fr:List Nat) (hlen:σ.length=H0.length) (hm:∀ k,k<m→σ[k]?=some (some k)) (hinj:∀ i j b,LiveAt H0 i→LiveAt H0 j→σ[i]?=some (some b)→σ[j]?=some (some b)→i=j) (hfr:∀ b∈fr,∀ i,LiveAt H0 i→σ[i]?≠some (some b))
  (he:EnvSub H σ (·∈fr) env env0) (hh:HSub H σ (·∈fr) 0 H0):SubOf m nt env H env0 H0:=by
 classical
 refine ⟨?_⟩
 intro X I ρ a w hX ⟨hE,hw,hd⟩
 let frz:Nat→Prop:=fun cb=>∃ b z,b∈fr∧(∃ x:Blk,H[b]?=some x∧x≠.dead)∧ρ[b]?=some (some (cb,z))
 let J:Imm:=fun cb=>if frz cb then w.heap[cb]? else I cb
 have liveF:∀ cb,frz cb→Live H ρ cb:=fun cb ⟨b,z,_,⟨x,h1,h2⟩,h3⟩=>⟨b,x,h1,h2,z,h3⟩
 have hI:I.le J:=fun b o h=>by
  show (if frz b then w.heap[b]? else I b)=some o
  rw [if_neg (fun hf=>by rw [hw.apart b (liveF b hf)] at h;cases h)]
  exact h
 have hJok:∀ b o,J b=some o→w.heap[b]?=some o:=fun b o h=>by
  have h:(if frz b then w.heap[b]? else I b)=some o:=h
  split at h
  ·exact h
  ·exact hw.imm b o h
 have hJ:∀ b cb z o,b∈fr→(∃ x:Blk,H[b]?=some x∧x≠.dead)→ρ[b]?=some (some (cb,z))→w.heap[cb]?=some o→J cb=some o:=fun b cb z o h1 h2 h3 h4=>by
  show (if frz cb then w.heap[cb]? else I cb)=some o
  rw [if_pos ⟨b,z,h1,h2,h3⟩]
  exact h4
 have rel:∀ {v x:V} {u:Value},VSub H σ (·∈fr) v x→VRel I ρ v u→VRel J (relocate σ ρ) x u:=fun h hu=>h.rel hw hI hJ hu
 have blk:∀ (k:Nat) b,H0[k]?=some b→BSub H σ (·∈fr) k b:=fun k b h=>by have:=hSub_get hh h;rwa [Nat.zero_add] at this
 have alive:∀ (k cb z:Nat) b,H0[k]?=some b→b≠.dead→(relocate σ ρ)[k]?=some (some (cb,z))→∃ b',σ[k]?=some (some b')∧(∃ x:Blk,H[b']?=some x∧x≠.dead)∧ρ[b']?=some (some (cb,z)):=by
  intro k cb z b hk hb hρ
  obtain ⟨b',h1,h2⟩:=relocate_some hρ
  refine ⟨b',h1,?_,h2⟩
  cases b with
  | dead=>exact (hb rfl).elim
  | arr sz n g =>
   rcases blk k _ hk with ⟨c,f,h3,h4,_⟩|⟨h3,_⟩
   ·rw [h1] at h3;cases h3;exact ⟨_,h4,by simp⟩
   ·rw [h1] at h3;cases h3
  | map ms =>
   obtain ⟨c,ns,h3,h4,_⟩:=blk k _ hk
   rw [h1] at h3;cases h3;exact ⟨_,h4,by simp⟩
 have live:∀ cb,Live H0 (relocate σ ρ) cb→Live H ρ cb:=fun cb ⟨k,b,h1,h2,z,h3⟩=>by
  obtain ⟨b',_,⟨x,h5,h6⟩,h7⟩:=alive k cb z b h1 h2 h3
  exact ⟨b',x,h5,h6,z,h7⟩
 refine ⟨J,relocate σ ρ,hI,⟨hE.1,fun t x hx=>?_⟩,{ len:=by simp [relocate,hlen],inj:=?_,imm:=hJok,apart:=?_,size:=?_,none:=?_,arr:=?_,map:=?_,mine:=fun b hb=>hw.mine b (live b hb),news:=?_,le:=Imm.le_trans hw.le hI,pre:=?_,os:=hw.os,tape:=hw.tape,out:=hw.out,grow:=hw.grow,keep:=hw.keep },hd.mono hI⟩
 ·obtain ⟨v,h1,h2⟩:=envSub_get he hx
  obtain ⟨h3,h4⟩:=hE.2 t v h1
  exact ⟨h3,rel h2 h4⟩
 ·rintro i j b ⟨x,hx,hx'⟩ ⟨y,hy,hy'⟩ z1 z2 h1 h2
  obtain ⟨i',a1,a2,a3⟩:=alive i b z1 x hx hx' h1
  obtain ⟨j',b1,b2,b3⟩:=alive j b z2 y hy hy' h2
  have:=hw.inj i' j' b a2 b2 z1 z2 a3 b3
  subst this
  exact hinj i j i' ⟨x,hx,hx'⟩ ⟨y,hy,hy'⟩ a1 b1
 ·rintro cb ⟨k,b,h1,h2,z,h3⟩
  obtain ⟨b',h4,h5,h6⟩:=alive k cb z b h1 h2 h3
  have hl:Live H ρ cb:=by obtain ⟨x,h7,h8⟩:=h5;exact ⟨b',x,h7,h8,z,h6⟩
  show (if frz cb then w.heap[cb]? else I cb)=none
  rw [if_neg]
  ·exact hw.apart cb hl
  ·rintro ⟨c,z',h7,h8,h9⟩
   have:=hw.inj b' c cb h5 h8 z z' h6 h9
   subst this
   exact hfr b' h7 k ⟨b,h1,h2⟩ h4
 ·intro k sz n g hk i hi
  rcases blk k _ hk with ⟨b,f,h1,h2,h3⟩|⟨_,rfl⟩
  ·rw [(h3 i hi).len]
   exact hw.size b sz n f h2 i hi
  ·omega
 ·intro k sz n g hk hρ
  rcases blk k _ hk with ⟨b,f,h1,h2,h3⟩|⟨_,rfl⟩
  ·cases hb:ρ[b]? with
   | none =>
    have h4:=(List.getElem?_eq_some_iff.1 h2).1
    have h5:=List.getElem?_eq_none_iff.1 hb
    rw [hw.len] at h5
    omega
   | some q =>
    rw [relocate_get h1 hb] at hρ
    cases hρ
    exact hw.none b sz n f h2 hb
  ·rfl
 ·intro k sz n g cb z hk hρ
  obtain ⟨b',h4,h5,h6⟩:=alive k cb z _ hk (by simp) hρ
  rcases blk k _ hk with ⟨b,f,h1,h2,h3⟩|⟨h1,_⟩
  ·rw [h4] at h1
   cases h1
   obtain ⟨cs,ty,a1,a2,a3,a4⟩:=hw.arr _ _ _ _ _ _ h2 h6
   refine ⟨cs,ty,a1,a2,a3,fun i j x hi hx=>?_⟩
   have e:=h3 i hi
   have cell:∃ v,(f i).cells[j]?=some v∧VSub H σ (·∈fr) v x:=by
    revert hx
    generalize f i=q at e ⊢
    generalize g i=q' at e ⊢
    intro hx
    cases e with
    | agg h hv =>
     rename_i cs ds
     have hlt:=(List.getElem?_eq_some_iff.1 hx).1
     have hlt':j<cs.length:=by simp [V.cells] at hlt;omega
     exact ⟨cs[j],by simp [V.cells,hlt'],hv j _ x (by simp [hlt']) hx⟩
    | closed hc =>
     refine ⟨x,hx,.closed ?_⟩
     cases q<;>simp only [V.cells] at hx<;>first
      | exact closed_all (by simp only [V.closed] at hc;exact hc) hx
      | (cases j<;>simp at hx;subst hx;exact hc)
    | sl h=>cases j<;>simp [V.cells] at hx;subst hx;exact ⟨_,rfl,.sl h⟩
    | ptr h=>cases j<;>simp [V.cells] at hx;subst hx;exact ⟨_,rfl,.ptr h⟩
    | map h=>cases j<;>simp [V.cells] at hx;subst hx;exact ⟨_,rfl,.map h⟩
    | nil h=>cases j<;>simp [V.cells] at hx;subst hx;exact ⟨_,rfl,.nil h⟩
    | emp h=>cases j<;>simp [V.cells] at hx;subst hx;exact ⟨_,rfl,.emp h⟩
    | nilList=>cases j<;>simp [V.cells] at hx;subst hx;exact ⟨_,rfl,.nilList⟩
    | empList=>cases j<;>simp [V.cells] at hx;subst hx;exact ⟨_,rfl,.empList⟩
    | frz a b c d e=>cases j<;>simp [V.cells] at hx;subst hx;exact ⟨_,rfl,.frz a b c d e⟩
    | frzPtr a b c d=>cases j<;>simp [V.cells] at hx;subst hx;exact ⟨_,rfl,.frzPtr a b c d⟩
    | ext a=>cases j<;>simp [V.cells] at hx;subst hx;exact ⟨_,rfl,.ext a⟩
    | tup a b=>cases j<;>simp [V.cells] at hx;subst hx;exact ⟨_,rfl,.tup a b⟩
    | fn a b c d=>cases j<;>simp [V.cells] at hx;subst hx;exact ⟨_,rfl,.fn a b c d⟩
   obtain ⟨v,b1,b2⟩:=cell
   obtain ⟨u,c1,c2⟩:=a4 i j v hi b1
   exact ⟨u,c1,rel b2 c2⟩
  ·rw [h4] at h1;cases h1
 ·intro k ms hk
  obtain ⟨b,ns,h1,h2,h3,h4⟩:=blk k _ hk
  obtain ⟨cb,h5,es,clk,h6,h7,h8⟩:=hw.map _ _ h2
  refine ⟨cb,relocate_get h1 h5,es,clk,h6,h7.trans h3,fun i e y he hy=>?_⟩
  have hlt:i<ns.length:=by have:=(List.getElem?_eq_some_iff.1 hy).1;omega
  obtain ⟨c1,c2⟩:=h8 i e ns[i] he (by simp [hlt])
  obtain ⟨d1,d2⟩:=h4 i ns[i] y (by simp [hlt]) hy
  exact ⟨c1.trans d1,rel d2 c2⟩
 ·intro b hb
  have hb:(if frz b then w.heap[b]? else I b)≠none:=hb
  split at hb
  ·rename_i hf
   exact .inr (hw.mine b (liveF b hf))
  ·exact hw.news b hb
 ·intro k x hk
  have hlt:k<m:=by rw [← hX];exact (List.getElem?_eq_some_iff.1 hk).1
  exact relocate_get (hm k hlt) (hw.pre k x hk)
end
def deadB:Blk→Bool
 | .dead=>true
 | _=>false
def deadAt (H:Heap) (i:Nat):Bool:=match H[i]? with
 | some b=>deadB b
 | none=>true
theorem deadAt_of {H:Heap}{i:Nat}(h:LiveAt H i):deadAt H i=false:=by
 obtain ⟨x,h1,h2⟩:=h
 unfold deadAt
 rw [h1]
 cases x<;>first|rfl|exact (h2 rfl).elim
def injL (σ:List (Option Nat)) (H:Heap):Bool:=(List.range σ.length).all fun i=>(List.range σ.length).all fun j=>i==j||deadAt H i||deadAt H j||match σ[i]?,σ[j]? with|some (some a),some (some b)=>a != b|_,_=>true
def apartL (fr:List Nat) (σ:List (Option Nat)) (H:Heap):Bool:=fr.all fun b=>(List.range σ.length).all fun i=>deadAt H i||match σ[i]? with|some (some a)=>a != b|_=>true
theorem injL_of {σ:List (Option Nat)}{H:Heap}(h:injL σ H=true) (i j b:Nat) (hi:LiveAt H i) (hj:LiveAt H j) (h1:σ[i]?=some (some b)) (h2:σ[j]?=some (some b)):i=j:=by
 have h3:=(List.getElem?_eq_some_iff.1 h1).1
 have h4:=(List.getElem?_eq_some_iff.1 h2).1
 have h5:=List.all_eq_true.1 h i (List.mem_range.2 h3)
 have h6:=List.all_eq_true.1 h5 j (List.mem_range.2 h4)
 rw [h1,h2,deadAt_of hi,deadAt_of hj] at h6
 simpa using h6
theorem apartL_of {fr:List Nat}{σ:List (Option Nat)}{H:Heap}(h:apartL fr σ H=true) (b:Nat) (hb:b∈fr) (i:Nat) (hi:LiveAt H i):σ[i]?≠some (some b):=fun h1=>by
 have h3:=(List.getElem?_eq_some_iff.1 h1).1
 have h5:=List.all_eq_true.1 (List.all_eq_true.1 h b hb) i (List.mem_range.2 h3)
 rw [h1,deadAt_of hi] at h5
 simp at h5
theorem sub_toL {m nt:Nat}{env env0:Env}{H H0:Heap}(σ:List (Option Nat)) (fr:List Nat) (h:(Nat.beq σ.length H0.length&&preB m σ&&injL σ H0&&apartL fr σ H0)=true) (he:EnvSub H σ (·∈fr) env env0) (hh:HSub H σ (·∈fr) 0 H0):SubOf m nt env H env0 H0:=by
 simp only [Bool.and_eq_true] at h
 exact sub_genL σ fr (Nat.eq_of_beq_eq_true h.1.1.1) (pre_of h.1.1.2) (injL_of h.1.2) (apartL_of h.2) he hh
theorem zsl {m nt:Nat}{env env0:Env}{H H0:Heap}(σ:List (Option Nat)) (fr:List Nat) (h:(Nat.beq σ.length H0.length&&preB m σ&&injL σ H0&&apartL fr σ H0)=true:=by exact rfl) (he:EnvSub H σ (·∈fr) env env0:=by ((repeat' (first|exact trivial|refine ⟨⟨_,rfl,?_⟩,?_⟩|refine vs1 ?_ ?_|refine vs2 ?_ ?_|refine vs3 ?_|refine vs4 ?_ ?_|refine ⟨.inl ⟨_,_,rfl,rfl,?_⟩,?_⟩|exact ⟨.inr ⟨rfl,rfl⟩,trivial⟩|refine ⟨.inr ⟨rfl,rfl⟩,?_⟩|(intro _ _)|exact vz1|refine ⟨trivial,?_⟩|refine ⟨bsub_mapE rfl rfl (fun _=>rfl),?_⟩|exact vza|exact vzt|exact vz2|fail));first|done|fail)) (hh:HSub H σ (·∈fr) 0 H0:=by ((repeat' (first|exact trivial|refine ⟨⟨_,rfl,?_⟩,?_⟩|refine vs1 ?_ ?_|refine vs2 ?_ ?_|refine vs3 ?_|refine vs4 ?_ ?_|refine ⟨.inl ⟨_,_,rfl,rfl,?_⟩,?_⟩|exact ⟨.inr ⟨rfl,rfl⟩,trivial⟩|refine ⟨.inr ⟨rfl,rfl⟩,?_⟩|(intro _ _)|exact vz1|refine ⟨trivial,?_⟩|refine ⟨bsub_mapE rfl rfl (fun _=>rfl),?_⟩|exact vza|exact vzt|exact vz2|fail));first|done|fail)):SubOf m nt env H env0 H0:=sub_toL σ fr h he hh
theorem joinH_is {σ:List Nat}{H H1 L G:Heap}(hl:σ.length=H1.length) (hg:G.length=H.length) (ho:∀ i,σ.idxOf? i=none→G[i]?=H[i]?) (h:∀ j k,σ[j]?=some k→G[k]?=some ((H1.getD j .dead).ren (rn σ H.length))) :
  joinH σ [] H (H1++L)=G++L.map (Blk.ren (rn σ H.length)):=by
 unfold joinH
 rw [List.drop_append_of_le_length (by omega),List.drop_eq_nil_of_le (by omega),List.nil_append]
 congr 1
 refine List.ext_getElem? fun i=>?_
 rw [joinAt_get,Nat.zero_add]
 cases hi:H[i]? with
 | none =>
  have h1:=List.getElem?_eq_none_iff.1 hi
  rw [List.getElem?_eq_none_iff.2 (by omega)]
  rfl
 | some b =>
  show some (pickB σ [] (rn σ H.length) (H1++L) i b)=G[i]?
  unfold pickB
  rw [show ([]:List Nat).contains i=false from rfl,cond_false]
  cases e:σ.idxOf? i with
  | none=>exact hi.symm.trans (ho i e).symm
  | some j =>
   have h1:=idxOf_some e
   have hj:=(List.getElem?_eq_some_iff.1 h1).1
   have h2:=h j i h1
   rw [h2]
   show some (Blk.ren (rn σ H.length) ((H1++L).getD j .dead))=_
   rw [List.getD_eq_getElem?_getD,List.getD_eq_getElem?_getD,List.getElem?_append_left (by omega)]
theorem joinH_same {σ:List Nat}{H H0:Heap}(hl:σ.length=H0.length) (h:∀ j k,σ[j]?=some k→H[k]?=some ((H0.getD j .dead).ren (rn σ H.length))):joinH σ [] H H0=H:=by
 have:=joinH_is (L:=[]) hl rfl (fun _ _=>rfl) h
 simpa using this
def SameAt (H:Heap) (r:Nat→Nat):List Nat→Heap→Prop
 | [],[]=>True
 | k::σ,b::H0=>H[k]?=some (b.ren r)∧SameAt H r σ H0
 | _,_=>False
theorem sameAt_get {H:Heap}{r:Nat→Nat}:∀ {σ:List Nat}{H0:Heap},SameAt H r σ H0→σ.length=H0.length∧∀ j k,σ[j]?=some k→H[k]?=some ((H0.getD j .dead).ren r)
 | [],[],_=>⟨rfl,fun j k h=>by simp at h⟩
 | k::σ,b::H0,⟨h1,h2⟩=>by
  obtain ⟨h3,h4⟩:=sameAt_get h2
  refine ⟨by simp [h3],fun j k' h=>?_⟩
  cases j with
  | zero=>simp at h;subst h;exact h1
  | succ j=>simp only [List.getElem?_cons_succ] at h;simpa using h4 j k' h
 | [],_::_,h=>h.elim
 | _::_,[],h=>h.elim
theorem mapE_renE {α:Type}{e:α→V}{m:List (Int × α)}{r:Nat→Nat}(he:∀ y,(e y).ren r=e y):(mapE e m).ren r=mapE e m:=by
 have h:entsE e m=(entsE e m).map fun p=>(p.1,p.2.ren r):=by
  unfold entsE
  rw [List.map_map]
  exact List.map_congr_left fun p _=>by show _=(Value.int .i64 p.1,(e p.2).ren r);rw [he]
 exact (congrArg Blk.map h).symm
section
variable {P:Program}{r:Option Nat}{m nt:Nat}{Q:Post}{env:Env}{H:Heap}{ops:Array Oper}{l:List Stp}{ty:TypeId}{pos:String}{after:Array Edge}
theorem ar_gsame (σ:List Nat) {H0:Heap}{i d:Nat}{fo:Operand}{args:List Operand}{ats:Array TypeId}{f:FuncId}{first cap vs xs:List V}{R:V→Prop}{Rp:V→Prop}(hfn:FnOk P f) (hf:eo env fo=some (.fn (.func f) first cap)) (hargs:args.mapM (eo env)=some vs)
  (h:ACalls P f xs H0 (fun v H'=>R v∧H'=H0) (fun v _=>Rp v)) (ha:ArgsSub H σ [] (first++vs++cap) xs) (hinj:σ.Nodup) (hlive:∀ b∈H0,b≠.dead) (hh:HSub H (σ.map some) (·∈([]:List Nat)) 0 H0)
  (hs:SameAt H (rn σ H.length) σ H0) (hd:d<nt) (hk:∀ v,R v→AR P r m nt ops Q l ((d,v.ren (rn σ H.length))::env) H) (hp:∀ v H1,Rp v→Q (.panic (v.ren (rn σ H.length))) [] H1) :
  AR P r m nt ops Q (.l i ⟨some d,.call ⟨.value fo,args.toArray,ats⟩,ty,pos,after,none⟩ false::l) env H:=by
 obtain ⟨hl,hs'⟩:=sameAt_get hs
 refine ar_gcall (H0:=H0) σ [] hfn hf hargs ha hl hinj (fun _ h=>by cases h) hh hlive h hd ?_ ?_
 ·rintro v H1 ⟨hR,rfl⟩
  rw [joinH_same hl hs']
  exact hk v hR
 ·rintro v H1 hR
  exact hp v _ hR
end
def KpW (B:Nat) (W W':World):Prop:=∀ r es clk,B≤r→W.heap[r]?=some (.map es clk)→W'.heap[r]?=some (.map es clk)
def RowMap (B:Nat) (W:World) (row:Option Nat):Prop:=∀ r,row=some r→B≤r∧∃ es clk,W.heap[r]?=some (.map es clk)
structure IterX (P:Program) (gf:FuncId) (vs:List V) (N:Nat) (el:Nat→List Value):Prop where
 out:∀ (I:Imm) us (l:Nat) (J:Nat→World→Prop) (K:World→Prop) (W:World),(∀ b o,I b=some o→W.heap[b]?=some o)→VRels I [] vs us →
  (∀ k W1 W2 row,J k W1→W1.grownBy W2 row→RowMap W.heap.size W1 row→J k W2) →
  (∀ k W1,J k W1→k<N→YieldAt Fence.wide 0 P l (el k).toArray W1 fun e W'=>((e=.returned (.bool true)∧J (k+1) W')∨(e=.returned (.bool false)∧K W'))∧KpI I W1 W'∧KpW W.heap.size W1 W')→J 0 W →
  CallsIn Fence.wide 1 P gf (#[.func (.yield l) #[] #[]]++us) W fun e W'=>(∃ v,e=.returned v)∧(J N W'∨K W')
def NoMaps (G:Heap):Prop:=∀ (b:Nat) ms,G[b]?≠some (.map ms)
def RangeXQ (m nt:Nat) (G':Heap) (E:AE→Heap→Prop):Post
 | .normal,env,H=>SubOf m nt env H [] G'
 | .ret,env,H=>∃ GX,NoMaps GX∧SubOf m nt env H [] GX∧E .ret GX
 | .exit id,env,H=>∃ GX,NoMaps GX∧SubOf m nt env H [] GX∧E (.exit id) GX
 | _,_,_=>False
theorem aw_rangeX {P:Program}{m nt:Nat}{Q:Post}{env:Env}{H:Heap}{g:Operand}{ps:Array Tmp}{assign body:Code}{gf:FuncId}{vs:List V}{N:Nat}{el:Nat→List Value}(G:Nat→Heap) (E1:Nat→Env)
  (hg:eo env g=some (.fn (.func gf) [] vs)) (hvs:V.closed.all vs=true) (hfn:FnOk P gf) (hit:IterX P gf vs N el) (hps:∀ k,k<N→(el k).length=ps.size) (hpn:∀ p∈ps.toList,p<nt)
  (hmv:∀ k,k<N→movesC nt assign (setsE (ps.toList.zip (el k)) env)=some (E1 k)) (hmaps:∀ k,NoMaps (G k)) (h0:SubOf H.length nt env H [] (G 0))
  (round:∀ k lp,k<N→AW P (some lp) H.length nt body (RangeXQ H.length nt (G (k+1)) (fun e GX=>Q e env GX)) (E1 k) (G k)) (hdone:Q .normal env (G N)):AW P none m nt (.rangeFunc g ps assign body) Q env H:=by
 classical
 refine ⟨fun X I ρ a w hX hst=>?_⟩
 obtain ⟨hE,hw,hD⟩:=hst
 refine (wpIn_wide (n:=0)).2 ((wpIn_wide (n:=2)).1 (wpIn_rangeFunc (F:=Fence.wide) ?_))
 intro fn hfn'
 have hIlt:∀ b o,I b=some o→b<w.heap.size:=fun b o hb=>(Array.getElem?_eq_some_iff.1 (hw.imm b o hb)).1
 have hgv:=eo_rel hE hg
 obtain ⟨lb,hev,hrel⟩:∃ lb,a.eval g=.func (.func gf) #[] lb∧VRels I [] vs lb:=by
  cases e:a.eval g<;>rw [e] at hgv<;>cases hgv
  rename_i us ws h1 h2 h3 h4
  have:us=#[]:=by cases us;simp at h1;simp [h1]
  subst this
  exact ⟨ws,rfl,h3,fun j v u hj hu=>(h4 j v u hj hu).close (closed_all hvs hj)⟩
 obtain ⟨rec,hrec⟩:∃ rec:LoopState→Option Code→Loop,rec=fun st pe=>{ state:=st,pending:=pe,fn,tmps:=a.tmps,params:=ps,assign,body,defers:=w.heap.size }:=⟨_,rfl⟩
 obtain ⟨W1,hW1⟩:∃ W1,(w.alloc (.deferred (some []))).alloc (.loop (rec .ready none))=W1:=⟨_,rfl⟩
 have hL1:W1.heap[w.heap.size+1]?=some (.loop (rec .ready none)):=by
  rw [← hW1];have:=World.alloc_heap_new (w.alloc (.deferred (some []))) (.loop (rec .ready none));rwa [World.size_alloc] at this
 have hK1:W1.heap[w.heap.size]?=some (.deferred (some [])):=by
  rw [← hW1];exact (Below.heap_alloc _ _ _ (by simp)).trans (World.alloc_heap_new w _)
 let InvH:Heap→World→Prop:=fun GX W=>∃ I' ρ',WOk (Ctx.self w ρ H I) I' ρ' GX W∧∀ b o,I' b=some o→I b=some o∨o.isCells=true
 let Inv:Nat→World→Prop:=fun k W=>InvH (G k) W
 have invGrowH:∀ GX W W' row,NoMaps GX→InvH GX W→W.grownBy W' row→(∀ r,row=some r→w.heap.size≤r∧∃ o:Obj,W.heap[r]?=some o∧o.isCells=false)→InvH GX W':=by
  rintro GX W W' row hno ⟨I',ρ',h1,h2⟩ hg hr
  refine ⟨I',ρ',h1.grown hg (fun r e=>?_) hno,h2⟩
  obtain ⟨h3,o,h4,h5⟩:=hr r e
  refine ⟨h3,?_,o,h4,h5⟩
  cases e':I' r with
  | none=>rfl
  | some o' =>
   have h6:=h1.imm r o' e'
   rw [h4] at h6;cases h6
   rcases h2 r _ e' with h7|h7
   ·have:=hIlt r _ h7;omega
   ·rw [h5] at h7;cases h7
 have invGrow:∀ k W W' row,Inv k W→W.grownBy W' row→(∀ r,row=some r→w.heap.size≤r∧∃ o:Obj,W.heap[r]?=some o∧o.isCells=false)→Inv k W':=fun k W W' row=>invGrowH (G k) W W' row (hmaps k)
 have cutInvH:∀ GX W I' ρ',WOk (Ctx.self w ρ H I) I' ρ' GX W→InvH GX W:=fun GX W I' ρ' h1=>by
  let I4:Imm:=fun b=>if I b=none∧(∀ o,I' b=some o→o.isCells=false) then none else I' b
  refine ⟨I4,ρ',h1.cut (fun b o hb=>?_) (fun b o hb=>?_) (fun b cs ty fz hb=>?_),fun b o hb=>?_⟩
  ·have hb:(if I b=none∧(∀ o,I' b=some o→o.isCells=false) then none else I' b)=some o:=hb
   split at hb
   ·cases hb
   ·exact hb
  ·show (if I b=none∧(∀ o,I' b=some o→o.isCells=false) then none else I' b)=some o
   have hb':I b=some o:=hb
   rw [if_neg (fun h=>by rw [hb'] at h;cases h.1)]
   exact h1.le b o hb
  ·show (if I b=none∧(∀ o,I' b=some o→o.isCells=false) then none else I' b)=_
   rw [if_neg (fun h=>by have:=h.2 _ hb;cases this)]
   exact hb
  ·have hb:(if I b=none∧(∀ o,I' b=some o→o.isCells=false) then none else I' b)=some o:=hb
   split at hb
   ·cases hb
   ·rename_i hno
    cases hI:I b with
    | none =>
     right
     cases ho:o.isCells with
     | true=>rfl
     | false=>exact (hno ⟨hI,fun o' ho'=>by rw [hb] at ho';cases ho';exact ho⟩).elim
    | some o2 =>
     have:=h1.le b o2 hI
     rw [hb] at this;cases this
     exact .inl rfl
 have cutInv:∀ k W I' ρ',WOk (Ctx.self w ρ H I) I' ρ' (G k) W→Inv k W:=fun k=>cutInvH (G k)
 have hInv0:Inv 0 W1:=by
  have hself:St (Ctx.self w ρ H I) nt env H I ρ { a with defers:=[] } w:=⟨hE,hw.self,DOk.nil rfl⟩
  obtain ⟨I1,ρ1,hle,h2⟩:=h0.1 (Ctx.self w ρ H I) I ρ _ w hw.len hself
  have h3:=cutInv 0 w I1 ρ1 h2.2.1
  rw [← hW1]
  refine invGrow 0 _ _ none (invGrow 0 _ _ none h3 (World.grownBy_alloc _ _ none) (fun r e=>by cases e)) (World.grownBy_alloc _ _ none) (fun r e=>by cases e)
 let Left:World→Prop:=fun W=>∃ (e:AE) (c:Code) (GX:Heap),((e=.ret∧c=.ret)∨(∃ id,e=.exit id∧c=.exit id))∧NoMaps GX∧InvH GX W∧Q e env GX∧W.heap[w.heap.size+1]?=some (.loop { rec .ready (some c) with state:=.done })∧W.heap[w.heap.size]?=some (.deferred (some []))
 have hB:W1.heap.size=w.heap.size+2:=by rw [← hW1];simp
 refine ⟨w.heap.size+1,[{ target:=.collected w.heap.size,args:=#[] }],W1,{ target:=.fn (.func gf) lb,args:=#[.func (.yield (w.heap.size+1)) #[] #[]] },W1,gf,
  #[.func (.yield (w.heap.size+1)) #[] #[]]++lb,W1,?_,?_,?_,?_,fun _=>by omega,?_⟩
 ·rw [← hW1,hrec];exact run_enterLoop_outer _ _ _ _ _
 ·simp only [resolve,hev]
  simp [go_sem]
 ·intro f' hf';simp [Target.leads] at hf';subst hf';exact trivial
 ·have:=hfn
  simp only [FnOk] at this
  simp [invoke,go_sem,this]
 ·refine (hit.out I lb (w.heap.size+1) (fun k W=>Inv k W∧W.heap[w.heap.size+1]?=some (.loop (rec .ready none))∧W.heap[w.heap.size]?=some (.deferred (some []))) Left W1 ?_ hrel ?_ ?_ ⟨hInv0,hL1,hK1⟩).mono ?_
  ·intro b o hb
   have hlt:=hIlt b o hb
   rw [← hW1]
   exact (Below.heap_alloc _ _ _ (by simp;omega)).trans ((Below.heap_alloc _ _ _ hlt).trans (hw.imm b o hb))
  ·rintro k W W' row ⟨h1,h2,h3⟩ hg hr
   refine ⟨invGrow k W W' row h1 hg (fun r e=>by obtain ⟨a,es,clk,b⟩:=hr r e;exact ⟨by omega,_,b,rfl⟩),?_,?_⟩
   ·exact (hg.block _ (Array.getElem?_eq_some_iff.1 h2).1 (fun e=>by obtain ⟨a,es,clk,b⟩:=hr _ e.symm;omega)).trans h2
   ·exact (hg.block _ (Array.getElem?_eq_some_iff.1 h3).1 (fun e=>by obtain ⟨a,es,clk,b⟩:=hr _ e.symm;omega)).trans h3
  · -- one round
   rintro k W ⟨hi,hl,hk⟩ hlen
   have hlt:w.heap.size+1<W.heap.size:=(Array.getElem?_eq_some_iff.1 hl).1
   have hy:=run_yield (P:=P) (args:=(el k).toArray) hl (by rw [hrec];simpa using hps k hlen)
   rw [hrec] at hy
   refine ⟨fn,_,assign,body,hy,roundIn_of_wpIn hfn' ?_⟩
   have hE1:EnvOk I ρ nt (setsE (ps.toList.zip (el k)) env) { tmps:=(ps.toList.zip (el k)).foldl (fun t pv=>t.setIfInBounds pv.1 pv.2) a.tmps,defers:=[] } :=
    env_sets _ _ _ hE fun p hp=>hpn p.1 (List.of_mem_zip hp).1
   have etmps:(ps.zip (el k).toArray).foldl (fun t (p,v)=>t.setIfInBounds p v) a.tmps=(ps.toList.zip (el k)).foldl (fun t pv=>t.setIfInBounds pv.1 pv.2) a.tmps:=by
    rw [← Array.foldl_toList,Array.toList_zip]
   refine wp_moves (r:=some (w.heap.size+1)) (I:=I) (ρ:=ρ) (hmv k hlen) (by rw [← etmps] at hE1;exact hE1) fun a' ha' hd'=>?_
   refine ⟨_,run_beginRound hl (by rw [hrec]),?_⟩
   obtain ⟨W2,hW2⟩:∃ W2,W.putObj (w.heap.size+1) (.loop { rec .ready none with state:=.busy })=W2:=⟨_,rfl⟩
   rw [hW2]
   have hl2:W2.heap[w.heap.size+1]?=some (.loop { rec .ready none with state:=.busy }):=by rw [← hW2];exact World.putObj_heap_same hlt
   have hk2:W2.heap[w.heap.size]?=some (.deferred (some [])):=by rw [← hW2];exact (World.putObj_heap_other (by omega)).trans hk
   obtain ⟨I',ρ',hwk,hcells⟩:Inv k W2:=by
    rw [← hW2]
    exact invGrow k W _ (some (w.heap.size+1)) hi (grownBy_putObj' W _ _) (fun r e=>by cases e;exact ⟨by omega,_,hl,rfl⟩)
   let I2:Imm:=fun b=>if I' b=none∧w.heap.size≤b∧(∃ o,W2.heap[b]?=some o∧o.isCells=false) then W2.heap[b]? else I' b
   have hle2:I'.le I2:=fun b o hb=>by
    show (if I' b=none∧w.heap.size≤b∧(∃ o,W2.heap[b]?=some o∧o.isCells=false) then W2.heap[b]? else I' b)=some o
    rw [if_neg (fun h=>by rw [hb] at h;cases h.1)]
    exact hb
   have notLive:∀ b o,W2.heap[b]?=some o→o.isCells=false→¬ Live (G k) ρ' b:=by
    rintro b o hb ho ⟨j,blk,h1,h2,z,h3⟩
    cases blk with
    | dead=>exact h2 rfl
    | map ms=>exact hmaps k j ms h1
    | arr sz n f =>
     obtain ⟨cs,ty,h4,_⟩:=hwk.arr _ _ _ _ _ _ h1 h3
     rw [hb] at h4;cases h4;cases ho
   have hwk2:WOk (Ctx.self w ρ H I) I2 ρ' (G k) W2:=hwk.more hle2 (fun b o hb=>by
     have hb:(if I' b=none∧w.heap.size≤b∧(∃ o,W2.heap[b]?=some o∧o.isCells=false) then W2.heap[b]? else I' b)=some o:=hb
     split at hb
     ·exact hb
     ·exact hwk.imm b o hb) (fun b hb=>by
     have hb:(if I' b=none∧w.heap.size≤b∧(∃ o,W2.heap[b]?=some o∧o.isCells=false) then W2.heap[b]? else I' b)≠none:=hb
     split at hb
     ·rename_i h
      obtain ⟨_,h1,o,h2,h3⟩:=h
      exact .inr ⟨h1,notLive b o h2 h3⟩
     ·exact .inl hb)
   have inI2:∀ b o,w.heap.size≤b→W2.heap[b]?=some o→o.isCells=false→I2 b=some o:=fun b o h1 h2 h3=>by
    show (if I' b=none∧w.heap.size≤b∧(∃ o,W2.heap[b]?=some o∧o.isCells=false) then W2.heap[b]? else I' b)=some o
    split
    ·exact h2
    ·rename_i hno
     cases e:I' b with
     | none=>exact (hno ⟨e,h1,o,h2,h3⟩).elim
     | some o'=>have:=hwk.imm b o' e;rw [h2] at this;cases this;rfl
   have hbody:=(round k (w.heap.size+1) hlen).1 ⟨w,ρ,H,I2,[]⟩ I2 ρ' a' W2 hw.len ⟨(ha'.mono hwk.le hwk.pre).mono hle2 (Pre.refl _),hwk2.ctx,DOk.nil hd'⟩
   have fin:∀ (GX:Heap) (env3:Env) (H3:Heap) (I3:Imm) (ρ3:List (Option (Nat × Nat))) (a3:Act) (W3:World) (jump:Option Code),NoMaps GX→St ⟨w,ρ,H,I2,[]⟩ nt env3 H3 I3 ρ3 a3 W3→SubOf H.length nt env3 H3 [] GX →
     ∃ W4,(Instr.endRound (w.heap.size+1) jump).run P W3=.ok (.bool jump.isNone) W4∧InvH GX W4∧W4.heap[w.heap.size+1]?=some (.loop { rec .ready jump with state:=if jump.isNone then .ready else .done })∧W4.heap[w.heap.size]?=some (.deferred (some []))∧KpI I W W4∧KpW W1.heap.size W W4:=by
    intro GX env3 H3 I3 ρ3 a3 W3 jump hno hst3 hsub
    obtain ⟨I4,ρ4,_,hst4⟩:=hsub.1 ⟨w,ρ,H,I2,[]⟩ I3 ρ3 a3 W3 hw.len hst3
    have hw4:=hst4.2.1
    have hl3:W3.heap[w.heap.size+1]?=some (.loop { rec .ready none with state:=.busy }):=hw4.imm _ _ (hw4.le _ _ (inI2 _ _ (by omega) hl2 rfl))
    have hk3:W3.heap[w.heap.size]?=some (.deferred (some [])):=hw4.imm _ _ (hw4.le _ _ (inI2 _ _ (Nat.le_refl _) hk2 rfl))
    have hw5:WOk (Ctx.self w ρ H I) I4 ρ4 GX W3:=WOk.unctx (X:=Ctx.self w ρ H I) (K:=I2) hw4 (Imm.le_trans hwk.le hle2) fun b hb=>hwk2.news b hb
    have hinv:=cutInvH GX W3 I4 ρ4 hw5
    have hend:=run_endRound (P:=P) jump hl3
    rw [hrec] at hend
    have hlt3:=(Array.getElem?_eq_some_iff.1 hl3).1
    refine ⟨_,hend,?_,?_,?_,?_,?_⟩
    ·exact invGrowH GX W3 _ (some (w.heap.size+1)) hno hinv (grownBy_putObj' W3 _ _) (fun r e=>by cases e;exact ⟨by omega,_,hl3,rfl⟩)
    ·rw [hrec];exact World.putObj_heap_same hlt3
    ·exact (World.putObj_heap_other (by omega)).trans hk3
    ·intro b o hb hWb
     have hlt:=hIlt b o hb
     refine (World.putObj_heap_other (by omega)).trans (hw5.imm b o (hw5.le b o hb))
    ·intro r es clk hr hWr
     have hW2r:W2.heap[r]?=some (.map es clk):=by rw [← hW2];exact (World.putObj_heap_other (by omega)).trans hWr
     exact (World.putObj_heap_other (by omega)).trans (hw4.imm _ _ (hw4.le _ _ (inI2 _ _ (by omega) hW2r rfl)))
   refine wpIn_mono hbody fun e a3 W3 hq=>?_
   cases e with
   | normal =>
    obtain ⟨env3,H3,I3,ρ3,hst3,hsub⟩:=hq
    obtain ⟨W4,h1,h2,h3,h4,h5,h6⟩:=fin (G (k+1)) env3 H3 I3 ρ3 a3 W3 none (hmaps _) hst3 hsub
    exact ⟨_,W4,h1,.inl ⟨rfl,h2,by rw [h3,hrec];rfl,h4⟩,h5,h6⟩
   | exit id =>
    obtain ⟨env3,H3,I3,ρ3,hst3,GX,hno,hsub,hE⟩:=hq
    obtain ⟨W4,h1,h2,h3,h4,h5,h6⟩:=fin GX env3 H3 I3 ρ3 a3 W3 (some (.exit id)) hno hst3 hsub
    exact ⟨_,W4,h1,.inr ⟨rfl,.exit id,.exit id,GX,.inr ⟨id,rfl,rfl⟩,hno,h2,hE,h3,h4⟩,h5,h6⟩
   | goto t=>obtain ⟨_,_,_,_,_,h⟩:=hq;exact h.elim
   | ret =>
    obtain ⟨env3,H3,I3,ρ3,hst3,GX,hno,hsub,hE⟩:=hq
    obtain ⟨W4,h1,h2,h3,h4,h5,h6⟩:=fin GX env3 H3 I3 ρ3 a3 W3 (some .ret) hno hst3 hsub
    exact ⟨_,W4,h1,.inr ⟨rfl,.ret,.ret,GX,.inl ⟨rfl,rfl⟩,hno,h2,hE,h3,h4⟩,h5,h6⟩
   | panic c=>obtain ⟨_,_,_,_,_,_,_,_,_,h⟩:=hq;exact h.elim
   | outgrown=>exact hq.elim
  · -- behind the iterator
   have fin:∀ (GX:Heap) (W2:World) (L:Loop),NoMaps GX→InvH GX W2→W2.heap[w.heap.size+1]?=some (.loop L)→L.state≠.busy→W2.heap[w.heap.size]?=some (.deferred (some [])) →
     ∃ W3,(Instr.endLoop (w.heap.size+1)).run P W2=.ok L.pending W3∧∃ I2 ρ',St X nt env GX I2 ρ' { a with defers:=[{ target:=.collected w.heap.size,args:=#[] }]++a.defers } W3:=by
    intro GX W2 L hno hi hl hL hk
    have hend:=run_endLoop (P:=P) hl hL
    obtain ⟨o4,ho4⟩:∃ o4,Obj.loop { L with state:=.exhausted }=o4:=⟨_,rfl⟩
    rw [ho4] at hend
    refine ⟨_,hend,?_⟩
    obtain ⟨I',ρ',h1,h2⟩:=invGrowH GX W2 _ (some (w.heap.size+1)) hno hi (grownBy_putObj' W2 _ o4) (fun r e=>by cases e;exact ⟨by omega,_,hl,rfl⟩)
    have hkk:(W2.putObj (w.heap.size+1) o4).heap[w.heap.size]?=some (.deferred (some [])):=(World.putObj_heap_other (by omega)).trans hk
    let I2:Imm:=fun b=>if b=w.heap.size then some (.deferred (some [])) else I' b
    have hIn:I' w.heap.size=none:=by
     cases e:I' w.heap.size with
     | none=>rfl
     | some o =>
      have h3:=h1.imm _ o e
      rw [hkk] at h3;cases h3
      rcases h2 _ _ e with h4|h4
      ·have:=hIlt _ _ h4;omega
      ·cases h4
    have hle2:I'.le I2:=fun b o hb=>by
     show (if b=w.heap.size then some (.deferred (some [])) else I' b)=some o
     rw [if_neg (fun e=>by subst e;rw [hIn] at hb;cases hb)]
     exact hb
    have h3:=h1.more hle2 (fun b o hb=>by
     have hb':(if b=w.heap.size then some (.deferred (some [])) else I' b)=some o:=hb
     clear hb
     split at hb'
     ·rename_i e;rw [e,← hb'];exact hkk
     ·exact h1.imm b o hb') (fun b hb=>by
     have hb:(if b=w.heap.size then some (Obj.deferred (some [])) else I' b)≠none:=hb
     split at hb
     ·rename_i e
      subst e
      refine .inr ⟨Nat.le_refl _,?_⟩
      rintro ⟨j,blk,g1,g2,z,g3⟩
      cases blk with
      | dead=>exact g2 rfl
      | map ms=>exact hno j ms g1
      | arr sz n f =>
       obtain ⟨cs,ty,g4,_⟩:=h1.arr _ _ _ _ _ _ g1 g3
       rw [hkk] at g4;cases g4
     ·exact .inl hb)
    obtain ⟨Ds,d1,d2,d3⟩:=hD
    refine ⟨I2,ρ',hE.mono (Imm.le_trans h1.le hle2) h1.pre,hw.trans h3,w.heap.size::Ds,?_,?_,?_⟩
    ·rw [List.nodup_cons]
     exact ⟨fun hd=>by have:=hIlt _ _ (d3 _ hd).2;omega,d1⟩
    ·show [_]++a.defers=_
     rw [d2];rfl
    ·intro D hD
     rcases List.mem_cons.1 hD with e|e
     ·subst e
      refine ⟨hw.grow,?_⟩
      show (if w.heap.size=w.heap.size then some (Obj.deferred (some [])) else _)=_
      rw [if_pos rfl]
     ·exact ⟨(d3 D e).1,hle2 _ _ (h1.le _ _ (d3 D e).2)⟩
   rintro e W2 ⟨⟨v,rfl⟩,(⟨hi,hl,hk⟩|⟨e,c,GX,hec,hno,hi,hQ,hl,hk⟩)⟩
   ·obtain ⟨W3,h1,I2,ρ',h2⟩:=fin (G N) W2 _ (hmaps N) hi hl (by rw [hrec];simp) hk
    refine ⟨none,W3,by rw [h1,hrec],?_⟩
    exact ⟨env,G N,I2,ρ',h2,hdone⟩
   ·obtain ⟨W3,h1,I2,ρ',h2⟩:=fin GX W2 _ hno hi hl (by simp) hk
    refine ⟨some c,W3,by rw [h1,hrec],?_⟩
    rcases hec with ⟨rfl,rfl⟩|⟨id,rfl,rfl⟩
    ·exact wpIn_ret ⟨env,GX,I2,ρ',h2,hQ⟩
    ·exact wpIn_exit ⟨env,GX,I2,ρ',h2,hQ⟩
end Go.Proofs.YtbilpbabdgfblaaGreat
namespace Go.Proofs.YtbilpbabdgfblaaGreat.Im
open Go.RowKit
structure Cx (P:Program) where
 l:Nat
 I:Imm
 J:Option Nat→World→Prop
 B:Nat
 N:Nat
 el:Nat→List Value
 stable:∀ k W1 W2 row,J (some k) W1→W1.grownBy W2 row→RowMap B W1 row→J (some k) W2
 round:∀ k W1,J (some k) W1→k<N→YieldAt Fence.wide 0 P l (el k).toArray W1 fun e W'=>((e=.returned (.bool true)∧J (some (k+1)) W')∨(e=.returned (.bool false)∧J none W'))∧KpI I W1 W'∧KpW B W1 W'
abbrev Post:=AE→Env→Heap→Option Nat→Prop
def Own (B:Nat) (ρ:List (Option (Nat × Nat))):Prop:=∀ (j b z:Nat),ρ[j]?=some (some (b,z))→B≤b
def OnlyMap (H:Heap):Prop:=H.length≤1∧∀ blk∈H,∃ m,blk=.map m
theorem only_nil:OnlyMap []:=⟨by simp,fun blk h=>by simp at h⟩
theorem only_map {m:List (Value × V)}:OnlyMap [.map m]:=⟨by simp,fun blk h=>by simp at h;exact ⟨_,h⟩⟩
theorem only_mapE {α:Type}{e:α→V}{l:List (Int × α)}:OnlyMap [mapE e l]:=only_map
section
variable {P:Program}(C:Cx P)
def St (nt:Nat) (env:Env) (H:Heap) (k:Option Nat) (ρ:List (Option (Nat × Nat))) (a:Act) (w:World):Prop:=EnvOk C.I ρ nt env a∧WOk (Ctx.self w ρ H C.I) C.I ρ H w∧Own C.B ρ∧a.defers=[]∧C.J k w∧(k=some 0→H=[]→C.B≤w.heap.size)
def Lift (nt:Nat) (Q:Post):Exit→Act→World→Prop
 | .normal,a,w=>∃ env H k ρ,St C nt env H k ρ a w∧Q .normal env H k
 | .exit id,a,w=>∃ env H k ρ,St C nt env H k ρ a w∧Q (.exit id) env H k
 | .goto l,a,w=>∃ env H k ρ,St C nt env H k ρ a w∧Q (.goto l) env H k
 | .ret,a,w=>∃ env H k ρ,St C nt env H k ρ a w∧Q .ret env H k
 | .panic _,_,_=>False
 | .outgrown,_,_=>False
structure AW (nt:Nat) (c:Code) (Q:Post) (env:Env) (H:Heap) (k:Option Nat):Prop where
 out:∀ ρ a w,St C nt env H k ρ a w→c.wpIn (Fw none) 0 P (Lift C nt Q) a w
structure AR (nt:Nat) (ops:Array Oper) (Q:Post) (l:List Stp) (env:Env) (H:Heap) (k:Option Nat):Prop where
 out:∀ ρ a w,St C nt env H k ρ a w→runP P none ops (Lift C nt Q) l (Keeps C.I ρ H w) a w
end
def thenP (next:Env→Heap→Option Nat→Prop) (Q:Post):Post
 | .normal,env,H,k=>next env H k
 | e,env,H,k=>Q e env H k
def inBlockP (id:Nat) (Q:Post):Post
 | .exit id',env,H,k=>bif Nat.beq id' id then Q .normal env H k else Q (.exit id') env H k
 | e,env,H,k=>Q e env H k
def Has (env:Env):Env→Prop
 | []=>True
 | (t,v)::l=>look env t=some v∧Has env l
theorem has_look {env:Env}:∀ {e:Env}{t:Nat}{v:V},Has env e→look e t=some v→look env t=some v
 | [],_,_,_,h=>by simp [look] at h
 | (k,y)::l,t,v,hs,h=>by
  rw [look_cons] at h
  split at h
  ·rename_i e;subst e;cases h;exact hs.1
  ·exact has_look hs.2 h
structure LSI (P:Program) (nt:Nat) (env:Env) (H:Heap) (o:Oper) (R:V→Heap→Prop):Prop where
 out:∀ I ρ a w next Qx,EnvOk I ρ nt env a→WOk (Ctx.self w ρ H I) I ρ H w→(∀ ρ' H' v u w',R v H'→Pre ρ ρ'→WOk (Ctx.self w ρ H I) I ρ' H' w'→VRel I ρ' v u→next (a.put o.dst u) w')→o.wpIn (Fw none) 0 P a w next Qx
section
variable {P:Program}{nt:Nat}{env:Env}{H:Heap}{ty:TypeId}{pos:String}{after:Array Edge}{guard:Option (Nat × Bool)}{T K E:TypeId}{d dk de:TyD}{x y z:Operand}{dst:Option Tmp}{α:Type}
theorem lsi_makeMap:LSI P nt env H ⟨dst,.makeMap T none,ty,pos,after,guard⟩ (fun v H'=>v=.map H.length∧H'=H++[.map []]):=.mk
 fun I ρ a w next Qx hE hW hk=>by
  have hw:=hW
  have hnew:(w.alloc (.map #[] 0)).heap[w.heap.size]?=some (.map #[] 0):=(MapKept.heap_alloc w _).1
  have hold:∀ c,c<w.heap.size→(w.alloc (.map #[] 0)).heap[c]?=w.heap[c]?:=(MapKept.heap_alloc w _).2
  have hsz:w.heap.size≤(w.alloc (.map #[] 0)).heap.size:=by
   show _≤(w.heap.push _).size
   rw [Array.size_push]
   exact Nat.le_succ _
  refine wpIn_of_run (res:=.ok (.value (.map (some w.heap.size))) (w.alloc (.map #[] 0))) (by simp) (by simp [execOp,Instr.makeMap,Result.andThen]) ?_
  have hk2:=hw.adoptMap (m:=[]) (fun h=>by have:=hw.lt h;omega) (by
   cases e:I w.heap.size with
   | none=>rfl
   | some o=>have:=(Array.getElem?_eq_some_iff.1 (hw.imm _ o e)).1;omega) (.inl hw.grow) rfl (fun i e x h=>by simp at h) hnew (fun c _ h=>hold c h) hsz rfl rfl rfl
  refine hk (ρ++[some (w.heap.size,0)]) _ _ _ _ ⟨rfl,rfl⟩ (pre_append _) hk2 (VRel.map (z:=0) (by rw [← hw.len];simp))
theorem lsi_mapUpdate {b:Nat}{e:α→V}{l:List (Int × α)}{a:Int}{v:α}(ht:TyIs P T d) (hk:d.tk=.map K E) (hK:TyIs P K dk) (hkk:dk.tk=.int .i64) (hx:eo env x=some (.map b)) (hy:eo env y=some (.s (.int .i64 a))) (hz:eo env z=some (e v)) (hH:H[b]?=some (mapE e l)) :
  LSI P nt env H ⟨none,.mapUpdate T x y z,ty,pos,after,guard⟩ (fun _ H'=>H'=H.set b (mapE e (putE l a v))):=.mk
 fun I ρ ac w next Qx hE hW hk'=>by
  have hw:=hW
  obtain ⟨cb,es,clk,h3,h4,h5,h6⟩:=mapE_at hw hH
  have hm:=map_val (eo_rel hE hx) h3
  have ha:=sval hE hy
  have hv:=eo_rel hE hz
  have hfind:=findNow_int a es.toList l 0 (by simpa using h5) (fun j n p hn hp=>(h6 j n p (by simpa using hn) hp).1)
  have hcb:=(Array.getElem?_eq_some_iff.1 h4).1
  cases hi:idxE l a with
  | none =>
   rw [hi] at hfind
   have hres:(execOp ac.eval ⟨none,.mapUpdate T x y z,ty,pos,after,guard⟩).run P w=.ok .skip { w with heap:=w.heap.setIfInBounds cb (.map (es.push { key:=.int .i64 a,val:=ac.eval z,born:=clk }) (clk+1)) }:=by
    simp only [execOp,hm,ha,Instr.mapUpdate,Sem.run_bind,run_underlying (ht.map hk),MapKept.run_getObj_map h4,MapKept.run_checkKey (hK.intk hkk) (intKey a),MapKept.run_findKey (hK.intk hkk) hfind,Result.andThen_ok,Sem.run_pure,MapKept.run_setObj_map _ h4,Option.bind_none]
   refine wpIn_of_run (by simp) hres ?_
   refine hk' ρ _ (.s undef) undef _ rfl (Pre.refl _) (hw.setMap (m':=entsE e (putE l a v)) hH h3 hcb (es:=es.push { key:=.int .i64 a,val:=ac.eval z,born:=clk }) (clock:=clk+1) (by rw [putE_none v hi];simp [entsE,h5]) (fun i n p hn hp=>?_)) (.s _)
   rw [putE_none v hi] at hp
   simp only [entsE,List.getElem?_map,Option.map_eq_some_iff] at hp
   obtain ⟨q,hq,rfl⟩:=hp
   rcases get_snoc hq with ⟨h7,h8⟩|⟨h7,h8⟩
   ·rw [Array.getElem?_push,if_neg (by omega)] at hn
    exact h6 i n q hn h8
   ·rw [Array.getElem?_push,if_pos (by omega)] at hn
    cases hn
    subst h8
    exact ⟨rfl,hv⟩
  | some j =>
   have hlt:=idxE_lt hi
   rw [hi] at hfind
   have hfind':Instr.findNow (.int .i64) (.int .i64 a) es.toList 0=some (some (j,es[j].val)):=by rw [hfind,Option.bind_some,show es.toList[j]?=some es[j] by simp];simp
   have hes:es[j]?=some es[j]:=by simp
   obtain ⟨h7,h8⟩:=h6 j es[j] l[j] hes (by simp [hlt])
   have hkey:l[j].1=a:=by
    have:=idxE_key hi
    rw [List.getElem?_eq_getElem hlt] at this
    simpa using this
   have hstay:∀ w',(Instr.keyThatStays es[j].key (.int .i64 a)).run P w'=.ok (.int .i64 a) w':=fun w'=>by
    rw [h7,hkey]
    exact MapKept.run_keyThatStays (intKey a)
   have hres:(execOp ac.eval ⟨none,.mapUpdate T x y z,ty,pos,after,guard⟩).run P w=.ok .skip { w with heap:=w.heap.setIfInBounds cb (.map (es.modify j fun n=>{ n with key:=.int .i64 a,val:=ac.eval z }) clk) }:=by
    simp only [execOp,hm,ha,Instr.mapUpdate,Sem.run_bind,run_underlying (ht.map hk),MapKept.run_getObj_map h4,MapKept.run_checkKey (hK.intk hkk) (intKey a),MapKept.run_findKey (hK.intk hkk) hfind',Result.andThen_ok,Sem.run_pure,MapKept.run_setObj_map _ h4,hes,Option.map_some,Option.getD_some,hstay]
   refine wpIn_of_run (by simp) hres ?_
   refine hk' ρ _ (.s undef) undef _ rfl (Pre.refl _) (hw.setMap (m':=entsE e (putE l a v)) hH h3 hcb (es:=es.modify j fun n=>{ n with key:=.int .i64 a,val:=ac.eval z }) (clock:=clk) (by rw [putE_some v hi];simp [entsE,h5]) (fun i n p hn hp=>?_)) (.s _)
   rw [putE_some v hi] at hp
   rw [entsE,List.getElem?_map,List.getElem?_modify] at hp
   obtain ⟨q0,hq0⟩:∃ q0,l[i]?=some q0:=by
    cases hq:l[i]? with
    | none=>rw [hq] at hp;cases hp
    | some q=>exact ⟨q,rfl⟩
   rw [hq0] at hp
   cases hp
   rw [Array.getElem?_modify] at hn
   by_cases hji:j=i
   ·subst hji
    rw [if_pos rfl,hes] at hn
    simp only [Option.map_some,Option.some.injEq] at hn
    subst hn
    have:q0=l[j]:=by rw [List.getElem?_eq_getElem hlt] at hq0;cases hq0;rfl
    subst this
    dsimp only
    rw [if_pos rfl]
    exact ⟨by rw [hkey],hv⟩
   ·rw [if_neg hji] at hn
    dsimp only
    rw [if_neg hji]
    exact h6 i n q0 hn hq0
end
theorem grown_of {w w':World}{B:Nat}{I I':Imm}{ρ ρ':List (Option (Nat × Nat))}{H H':Heap}(hw:WOk (Ctx.self w ρ H I) I ρ H w) (h:WOk (Ctx.self w ρ H I) I' ρ' H' w') (o1:Own B ρ) (hM:OnlyMap H):∃ row,w.grownBy w' row∧RowMap B w row:=by
 obtain ⟨o2,o3⟩:=hM
 match H,o2 with
 | [],_=>exact ⟨none,⟨h.os,h.tape,h.out,h.grow,fun k hk _=>h.keep k hk fun ⟨j,blk,h1,_⟩=>by simp [Ctx.self] at h1⟩,fun r e=>by cases e⟩
 | [b],_ =>
  obtain ⟨m,rfl⟩:=o3 b (by simp)
  obtain ⟨cb,h1,es,clk,h2,_⟩:=hw.map 0 m rfl
  refine ⟨some cb,⟨h.os,h.tape,h.out,h.grow,fun k hk hne=>h.keep k hk fun ⟨j,blk,h3,_,z,h4⟩=>?_⟩,fun r e=>?_⟩
  ·have hj:j=0:=by
    have:j<[Blk.map m].length:=(List.getElem?_eq_some_iff.1 h3).1
    simp at this;exact this
   subst hj
   have h4:ρ[0]?=some (some (k,z)):=h4
   rw [h1] at h4;cases h4
   exact hne rfl
  ·cases e
   exact ⟨o1 0 cb 0 h1,es,clk,h2⟩
 | _::_::_,h=>simp at h
section
variable {P:Program}{C:Cx P}{nt:Nat}{Q Q':Post}{env env':Env}{H H':Heap}{k:Option Nat}{ops:Array Oper}{l:List Stp}{dst:Nat}{ty:TypeId}{pos:String}{after:Array Edge}{ρ:List (Option (Nat × Nat))}
theorem St.has {a:Act}{w:World}(h:St C nt env H k ρ a w) (he:Has env env'):St C nt env' H k ρ a w:=⟨⟨h.1.1,fun t v ht=>h.1.2 t v (has_look he ht)⟩,h.2⟩
theorem aw_skip (h:Q .normal env H k):AW C nt .skip Q env H k:=.mk fun ρ _ _ hs=>wpIn_skip ⟨env,H,k,ρ,hs,h⟩
theorem aw_exit {id:Nat}(h:Q (.exit id) env H k):AW C nt (.exit id) Q env H k:=.mk fun ρ _ _ hs=>wpIn_exit ⟨env,H,k,ρ,hs,h⟩
theorem aw_ret (h:Q .ret env H k):AW C nt .ret Q env H k:=.mk fun ρ _ _ hs=>wpIn_ret ⟨env,H,k,ρ,hs,h⟩
theorem lift_then {nxt:Env→Heap→Option Nat→Prop}{K:Act→World→Prop}(h:∀ env H k ρ a w,St C nt env H k ρ a w→nxt env H k→K a w):∀ e a w,Lift C nt (thenP nxt Q) e a w→Exit.then K (Lift C nt Q) e a w
 | .normal,_,_,⟨_,_,_,_,c,d⟩=>h _ _ _ _ _ _ c d
 | .exit _,_,_,h=>h
 | .goto _,_,_,h=>h
 | .ret,_,_,h=>h
 | .panic _,_,_,h=>h
 | .outgrown,_,_,h=>h
theorem aw_seq {x y:Code}(h:AW C nt x (thenP (AW C nt y Q) Q) env H k):AW C nt (.seq x y) Q env H k:=.mk
 fun ρ a w hs=>wpIn_seq (wpIn_mono (h.1 ρ a w hs) (lift_then fun _ _ _ ρ a w hs h=>h.1 ρ a w hs))
theorem aw_cond {c:Operand}{x y:Code}{b:Bool}(hc:eo env c=some (.s (.bool b))) (ht:b=true→AW C nt x Q env H k) (hf:b=false→AW C nt y Q env H k):AW C nt (.cond c x y) Q env H k:=.mk
 fun ρ a w hs=>wpIn_cond_split (eo_bool hs.1 hc) (fun e=>(ht e).1 ρ a w hs) (fun e=>(hf e).1 ρ a w hs)
theorem aw_block {id:Nat}{c:Code}(h:AW C nt c (inBlockP id Q) env H k):AW C nt (.block id c) Q env H k:=.mk
 fun ρ a w hs=>wpIn_block (wpIn_mono (h.1 ρ a w hs) fun e a w h=>by
  cases e with
  | exit id' =>
   obtain ⟨env,H,k,ρ,hs,hq⟩:=h
   simp only [inBlockP] at hq
   simp only [Exit.inBlock]
   cases hb:Nat.beq id' id
   ·rw [hb] at hq
    rw [if_neg (fun e=>by rw [e,Nat.beq_refl] at hb;cases hb)]
    exact ⟨env,H,k,ρ,hs,hq⟩
   ·rw [hb] at hq
    rw [if_pos (Nat.eq_of_beq_eq_true hb)]
    exact ⟨env,H,k,ρ,hs,hq⟩
  | normal=>exact h
  | goto _=>exact h
  | ret=>exact h
  | panic _=>exact h
  | outgrown=>exact h)
theorem aw_for {c:Code}(M:Nat) (E:Nat→Env) (F:Nat→Heap) (h0:Has env (E 0)) (hF:H=F 0) (round:∀ j,j≤M→AW C nt c (thenP (fun env' H' k'=>j<M∧k'=some (j+1)∧H'=F (j+1)∧Has env' (E (j+1))) Q) (E j) (F j) (some j)):AW C nt (.loop c) Q env H (some 0):=.mk fun ρ a w hs =>
 wpIn_loopN (fun n a w=>∃ j ρ,j≤M∧n=M-j∧St C nt (E j) (F j) (some j) ρ a w) M ⟨0,ρ,Nat.zero_le _,rfl,by rw [← hF];exact hs.has h0⟩ fun n a w ⟨j,ρ,hj,hn,hs⟩ =>
  wpIn_mono ((round j hj).1 ρ a w hs) (lift_then fun env' H' k' ρ' a' w' hs' h=>by
   obtain ⟨h1,rfl,rfl,h3⟩:=h
   exact ⟨M-(j+1),by omega,j+1,ρ',h1,rfl,hs'.has h3⟩)
theorem aw_region {l:List Oper}{id:Nat}(h:AR C nt l.toArray Q (textPlan l 0) env H k):AW C nt (.region id l.toArray false) Q env H k:=.mk
 fun ρ a w hs=>region_text (Keeps C.I ρ H w) (Keeps.refl hs.2.1) (h.1 ρ a w hs)
theorem ar_nil (h:Q .normal env H k):AR C nt ops Q [] env H k:=.mk fun ρ _ _ hs=>⟨env,H,k,ρ,hs,h⟩
theorem ar_q {i d:Nat}{op:Op}{v:V}(h:QS P nt env H ⟨some d,op,ty,pos,after,none⟩ v) (hd:d<nt) (hk:AR C nt ops Q l ((d,v)::env) H k) :
  AR C nt ops Q (.q i ⟨some d,op,ty,pos,after,none⟩::l) env H k:=.mk fun ρ a w hs=>by
 refine ⟨fun _=>?_,fun hw=>by rw [wanted_none rfl] at hw;cases hw⟩
 obtain ⟨u,h1,h2⟩:=h.1 _ C.I ρ a w hs.1 hs.2.1
 exact ⟨u,h2,hk.1 ρ _ w ⟨hs.1.put h1 hd,hs.2⟩⟩
theorem ar_q_any {i d:Nat}{op:Op}{D:V→Prop}(h:∀ X I ρ a w,EnvOk I ρ nt env a→WOk X I ρ H w→∃ v,D v∧∃ u,VRel I ρ v u∧∀ w',Keeps I ρ H w w'→(execOp a.eval ⟨some d,op,ty,pos,after,none⟩).run P w'=.ok (.value u) w') (hd:d<nt)
  (hk:∀ v,D v→AR C nt ops Q l ((d,v)::env) H k):AR C nt ops Q (.q i ⟨some d,op,ty,pos,after,none⟩::l) env H k:=.mk fun ρ a w hs=>by
 refine ⟨fun _=>?_,fun hw=>by rw [wanted_none rfl] at hw;cases hw⟩
 obtain ⟨v,hC,u,h1,h2⟩:=h _ C.I ρ a w hs.1 hs.2.1
 exact ⟨u,h2,(hk v hC).1 ρ _ w ⟨hs.1.put h1 hd,hs.2⟩⟩
theorem ar_lookup {T K E:TypeId}{d dk de:TyD}{x y:Operand}{α:Type}{i f b:Nat}{e:α→V}{ml:List (Int × α)}{a:Int}{ok:Bool}(ht:TyIs P T d) (hk:d.tk=.map K E) (hK:TyIs P K dk) (hkk:dk.tk=.int .i64) (hE:TyIs P E de) (hx:eo env x=some (.map b)) (hy:eo env y=some (.s (.int .i64 a))) (hH:H[b]?=some (mapE e ml)) (hd:f<nt)
  (h1:∀ v,getE ml a=some v→AR C nt ops Q l ((f,bif ok then .tup [e v,.s (.bool true)] else e v)::env) H k) (h2:getE ml a=none→AR C nt ops Q l ((f,bif ok then .tup [constV de.zero,.s (.bool false)] else constV de.zero)::env) H k) :
  AR C nt ops Q (.q i ⟨some f,.lookup T x y ok,ty,pos,after,none⟩::l) env H k:=by
 have key:∀ (X:Ctx) (I:Imm) (ρ:List (Option (Nat × Nat))) (ac:Act) (w:World),EnvOk I ρ nt env ac→WOk X I ρ H w→∃ v,((∃ q,getE ml a=some q∧v=(bif ok then .tup [e q,.s (.bool true)] else e q))∨(getE ml a=none∧v=(bif ok then .tup [constV de.zero,.s (.bool false)] else constV de.zero))) ∧
   ∃ u,VRel I ρ v u∧∀ w',Keeps I ρ H w w'→(execOp ac.eval ⟨some f,.lookup T x y ok,ty,pos,after,none⟩).run P w'=.ok (.value u) w':=by
  intro X I ρ ac w hE' hw
  obtain ⟨cb,es,clk,h3,h4,h5,h6⟩:=mapE_at hw hH
  have hm:=map_val (eo_rel hE' hx) h3
  have ha:=sval hE' hy
  have hfind:=findNow_int a es.toList ml 0 (by simpa using h5) (fun j n p hn hp=>(h6 j n p (by simpa using hn) hp).1)
  have hget:=getE_idx ml a
  cases hi:idxE ml a with
  | none =>
   rw [hi] at hfind hget
   refine ⟨_,.inr ⟨hget,rfl⟩,bif ok then .tuple #[de.zero,.bool false] else de.zero,?_,fun w' hK'=>?_⟩
   ·cases ok with
    | true =>
     refine .tup rfl fun j v u hj hu=>?_
     match j,hj,hu with
     | 0,hj,hu=>simp at hj hu;subst hj hu;exact constV_rel _ _ _
     | 1,hj,hu=>simp at hj hu;subst hj hu;exact .s _
     | j+2,hj,_=>simp at hj
    | false=>exact constV_rel _ _ _
   ·have hb':w'.heap[cb]?=some (.map es clk):=(hK'.2.2 b _ cb 0 hH h3).trans h4
    simp only [execOp,hm,ha,Instr.lookup,Sem.run_bind,run_underlying (ht.map hk),MapKept.run_getObj_map hb',MapKept.run_checkKey (hK.intk hkk) (intKey a),MapKept.run_findKey (hK.intk hkk) hfind,Result.andThen_ok,Sem.run_pure,hE.zeroV,Option.bind_none]
    cases ok<;>rfl
  | some j =>
   have hlt:=idxE_lt hi
   have hes:es[j]?=some es[j]:=by simp
   obtain ⟨h7,h8⟩:=h6 j es[j] ml[j] hes (by simp [hlt])
   rw [hi] at hfind hget
   have hget:getE ml a=some ml[j].2:=by rw [hget];simp [hlt]
   refine ⟨_,.inl ⟨_,hget,rfl⟩,bif ok then .tuple #[es[j].val,.bool true] else es[j].val,?_,fun w' hK'=>?_⟩
   ·cases ok with
    | true =>
     refine .tup rfl fun j v u hj hu=>?_
     match j,hj,hu with
     | 0,hj,hu=>simp at hj hu;subst hj hu;exact h8
     | 1,hj,hu=>simp at hj hu;subst hj hu;exact .s _
     | j+2,hj,_=>simp at hj
    | false=>exact h8
   ·have hb':w'.heap[cb]?=some (.map es clk):=(hK'.2.2 b _ cb 0 hH h3).trans h4
    have hfind':Instr.findNow (.int .i64) (.int .i64 a) es.toList 0=some (some (j,es[j].val)):=by rw [hfind,Option.bind_some,show es.toList[j]?=some es[j] by simp];simp
    simp only [execOp,hm,ha,Instr.lookup,Sem.run_bind,run_underlying (ht.map hk),MapKept.run_getObj_map hb',MapKept.run_checkKey (hK.intk hkk) (intKey a),MapKept.run_findKey (hK.intk hkk) hfind',Result.andThen_ok,Sem.run_pure]
    cases ok<;>rfl
 exact ar_q_any key hd fun v hv=>by
  rcases hv with ⟨q,h3,rfl⟩|⟨h3,rfl⟩
  ·exact h1 q h3
  ·exact h2 h3
theorem own_next {w w':World}{B:Nat}{I I':Imm}{ρ':List (Option (Nat × Nat))}(hw:WOk (Ctx.self w ρ H I) I ρ H w) (h:WOk (Ctx.self w ρ H I) I' ρ' H' w') (ho:Own B ρ) (hM:OnlyMap H) (hB:H=[]→B≤w.heap.size) (hH:∀ blk∈H',blk≠.dead):Own B ρ':=by
 have hB':B≤w.heap.size:=by
  match H,hB,hM,hw with
  | [],hB,_,_=>exact hB rfl
  | b::L,_,⟨_,o3⟩,hw =>
   obtain ⟨m,rfl⟩:=o3 b (by simp)
   obtain ⟨cb,h1,es,clk,h2,_⟩:=hw.map 0 m rfl
   have:=ho 0 cb 0 h1
   have:=(Array.getElem?_eq_some_iff.1 h2).1
   omega
 refine fun j b z hj=>?_
 have hlt:j<H'.length:=by rw [← h.len];exact (List.getElem?_eq_some_iff.1 hj).1
 have hb:H'[j]?=some H'[j]:=by simp [hlt]
 rcases h.mine b ⟨j,_,hb,hH _ (List.getElem_mem hlt),z,hj⟩ with h1|⟨q,blk,h1,h2,z',h3⟩
 ·have:w.heap.size≤b:=h1
  omega
 ·exact ho q b z' h3
theorem ar_l {i d q:Nat}{op:Op}{keep:Bool}{R:V→Heap→Prop}(h:LSI P nt env H ⟨some d,op,ty,pos,after,none⟩ R) (hd:d<nt) (hq:H=[]→q=0) (hH:∀ v H',R v H'→H'≠[]∧∀ blk∈H',blk≠.dead)
  (hM:OnlyMap H) (hkp:keep=false) (hk:∀ v H',R v H'→AR C nt ops Q l ((d,v)::env) H' (some q)):AR C nt ops Q (.l i ⟨some d,op,ty,pos,after,none⟩ keep::l) env H (some q):=.mk fun ρ a w hs=>by
 subst hkp
 refine ⟨fun _=>?_,fun hw=>by rw [wanted_none rfl] at hw;cases hw⟩
 refine h.1 C.I ρ a w _ _ hs.1 hs.2.1 fun ρ' H' v u w' hR hρ hw hv=>?_
 obtain ⟨row,g1,g2⟩:=grown_of hs.2.1 hw hs.2.2.1 hM
 obtain ⟨n1,n2⟩:=hH v H' hR
 exact ⟨Keeps C.I ρ' H' w',Keeps.refl hw,(fun h=>by cases h),(hk v H' hR).1 ρ' _ w' ⟨(hs.1.mono (Imm.le_refl _) hρ).put hv hd,hw.self,own_next hs.2.1 hw hs.2.2.1 hM (fun e=>hs.2.2.2.2.2 (by rw [hq e]) e) n2,hs.2.2.2.1,C.stable q w w' row hs.2.2.2.2.1 g1 g2,fun _ e=>(n1 e).elim⟩⟩
theorem ar_l0 {i q:Nat}{op:Op}{keep:Bool}{R:V→Heap→Prop}(h:LSI P nt env H ⟨none,op,ty,pos,after,none⟩ R) (hq:H=[]→q=0) (hH:∀ v H',R v H'→H'≠[]∧∀ blk∈H',blk≠.dead)
  (hM:OnlyMap H) (hkp:keep=false) (hk:∀ v H',R v H'→AR C nt ops Q l env H' (some q)):AR C nt ops Q (.l i ⟨none,op,ty,pos,after,none⟩ keep::l) env H (some q):=.mk fun ρ a w hs=>by
 subst hkp
 refine ⟨fun _=>?_,fun hw=>by rw [wanted_none rfl] at hw;cases hw⟩
 refine h.1 C.I ρ a w _ _ hs.1 hs.2.1 fun ρ' H' v u w' hR hρ hw hv=>?_
 obtain ⟨row,g1,g2⟩:=grown_of hs.2.1 hw hs.2.2.1 hM
 obtain ⟨n1,n2⟩:=hH v H' hR
 exact ⟨Keeps C.I ρ' H' w',Keeps.refl hw,(fun h=>by cases h),(hk v H' hR).1 ρ' _ w' ⟨hs.1.mono (Imm.le_refl _) hρ,hw.self,own_next hs.2.1 hw hs.2.2.1 hM (fun e=>hs.2.2.2.2.2 (by rw [hq e]) e) n2,hs.2.2.2.1,C.stable q w w' row hs.2.2.2.2.1 g1 g2,fun _ e=>(n1 e).elim⟩⟩
theorem ar_makeMap {i e:Nat}{T:TypeId}(hd:e<nt) (h:AR C nt ops Q l ((e,.map 0)::env) [.map []] (some 0)):AR C nt ops Q (.l i ⟨some e,.makeMap T none,ty,pos,after,none⟩ false::l) env [] (some 0) :=
 ar_l lsi_makeMap hd (fun _=>rfl) (fun v H' ⟨_,hb⟩=>by subst hb;exact ⟨by simp,fun blk hb=>by simp at hb;subst hb;simp⟩) only_nil rfl (fun v H' ⟨a,b⟩=>by subst a;subst b;exact h)
theorem ar_mapUpdate {T K E:TypeId}{d dk:TyD}{x y z:Operand}{α:Type}{i q:Nat}{e:α→V}{ml:List (Int × α)}{a:Int}{v:α}(ht:TyIs P T d) (hk:d.tk=.map K E) (hK:TyIs P K dk) (hkk:dk.tk=.int .i64) (hx:eo env x=some (.map 0)) (hy:eo env y=some (.s (.int .i64 a))) (hz:eo env z=some (e v))
  (h:AR C nt ops Q l env [mapE e (putE ml a v)] (some q)):AR C nt ops Q (.l i ⟨none,.mapUpdate T x y z,ty,pos,after,none⟩ false::l) env [mapE e ml] (some q) :=
 ar_l0 (lsi_mapUpdate (b:=0) ht hk hK hkk hx hy hz rfl) (fun h=>by cases h) (fun _ H' hb=>by subst hb;exact ⟨by simp,fun blk hb=>by simp [mapE] at hb;subst hb;simp⟩) only_mapE rfl (fun _ H' hb=>by subst hb;exact h)
theorem evals_s {I:Imm}{a:Act}(he:EnvOk I ρ nt env a):∀ {xs:List Operand}{us:List Value},xs.mapM (eo env)=some (us.map V.s)→xs.map a.eval=us
 | [],us,h=>by cases us<;>simp at h;rfl
 | x::xs,us,h=>by
  simp only [List.mapM_cons,Option.pure_def,Option.bind_eq_bind,Option.bind_eq_some_iff] at h
  obtain ⟨v0,hv0,vs',hvs,h'⟩:=h
  cases us with
  | nil=>simp at h'
  | cons u us =>
   simp at h'
   obtain ⟨rfl,rfl⟩:=h'
   rw [List.map_cons,evals_s he hvs]
   have:=eo_rel he hv0
   generalize a.eval x=y at this ⊢
   cases this
   rfl
theorem ar_yield {i d q:Nat}{fo:Operand}{args:List Operand}{ats:Array TypeId}{us:List Value}(hf:eo env fo=some (.s (.func (.yield C.l) #[] #[]))) (hargs:args.mapM (eo env)=some (us.map V.s)) (hk:q<C.N) (hel:C.el q=us) (hd:d<nt) (hM:OnlyMap H)
    (h:AR C nt ops Q l ((d,.s (.bool true))::env) H (some (q+1))) (h':AR C nt ops Q l ((d,.s (.bool false))::env) H none):AR C nt ops Q (.l i ⟨some d,.call ⟨.value fo,args.toArray,ats⟩,ty,pos,after,none⟩ false::l) env H (some q):=.mk fun ρ a w hs=>by
  refine ⟨fun _=>?_,fun hw=>by rw [wanted_none rfl] at hw;cases hw⟩
  have h1:=eo_rel hs.1 hf
  have ev:a.eval fo=.func (.yield C.l) #[] #[]:=by generalize a.eval fo=y at h1;cases h1;rfl
  obtain ⟨fn,tmps,assign,body,hy,hR⟩:=C.round q w hs.2.2.2.2.1 hk
  rw [hel,← evals_s hs.1 hargs] at hy
  refine wpIn_of_run (by simp) (It.yield_run ev hy) ⟨fun h=>by simp [Fw,Fence.wide] at h,?_⟩
  refine RoundIn.mono hR fun e w' ⟨he,hK,hMp⟩=>?_
  have hw:=hs.2.1
  have o1:=hs.2.2.1
  obtain ⟨o2,o3⟩:=hM
  have noArr:∀ (k sz n:Nat) (f:Nat→V),H[k]?≠some (.arr sz n f):=fun k sz n f e=>by
    obtain ⟨m,hm⟩:=o3 _ (List.mem_of_getElem? e)
    cases hm
  have hw':WOk (Ctx.self w' ρ H C.I) C.I ρ H w' :=
    { len:=hw.len,inj:=hw.inj,imm:=fun b o hb=>hK b o hb (hw.imm b o hb),apart:=hw.apart,size:=fun k sz n f e=>(noArr k sz n f e).elim,none:=fun k sz n f e=>(noArr k sz n f e).elim,arr:=fun k sz n f b z e=>(noArr k sz n f e).elim
      map:=fun k m e=>by
        obtain ⟨b,h1,es,clk,h2,h3,h4⟩:=hw.map k m e
        exact ⟨b,h1,es,clk,hMp b es clk (o1 k b 0 h1) h2,h3,h4⟩
      mine:=fun b hb=>.inr hb,news:=fun b hb=>.inl hb,le:=Imm.le_refl _,pre:=Pre.refl _,os:=rfl,tape:=rfl,out:=rfl,grow:=Nat.le_refl _,keep:=fun _ _ _=>rfl }
  rcases he with ⟨he,hJ⟩|⟨he,hJ⟩
  · subst he
    exact ⟨Keeps C.I ρ H w',Keeps.refl hw',(fun h=>by cases h),h.1 ρ _ w' ⟨hs.1.put (.s _) hd,hw',o1,hs.2.2.2.1,hJ,fun e=>by cases e⟩⟩
  · subst he
    exact ⟨Keeps C.I ρ H w',Keeps.refl hw',(fun h=>by cases h),h'.1 ρ _ w' ⟨hs.1.put (.s _) hd,hw',o1,hs.2.2.2.1,hJ,fun e=>by cases e⟩⟩
theorem drop_wok {I:Imm}{w:World}{m:List (Value × V)}{blk:Blk}(hw:WOk (Ctx.self w ρ [.map m,blk] I) I ρ [.map m,blk] w) (hc:∀ x∈m,x.2.closed=true):WOk (Ctx.self w (ρ.take 1) [.map m] I) I (ρ.take 1) [.map m] w:=by
  obtain ⟨cb,h1,hm⟩:=hw.map 0 m rfl
  have e0:∀ {k:Nat} {x:Blk},([Blk.map m]:Heap)[k]?=some x→k=0∧x=.map m:=fun {k x} h=>by
    cases k with
    | zero=>simp at h;exact ⟨rfl,h.symm⟩
    | succ k=>simp at h
  have et:∀ {k:Nat} {x:Option (Nat × Nat)},(ρ.take 1)[k]?=some x→ρ[k]?=some x:=fun {k x} h=>by
    rw [List.getElem?_take] at h
    split at h
    · exact h
    · cases h
  have h10:(ρ.take 1)[0]?=some (some (cb,0)):=by rw [List.getElem?_take,if_pos (by omega)];exact h1
  have live:∀ b,Live [.map m] (ρ.take 1) b→Live [.map m,blk] ρ b:=fun b ⟨j,x,g1,g2,z,g3⟩=>by
    obtain ⟨rfl,rfl⟩:=e0 g1
    exact ⟨0,_,rfl,g2,z,et g3⟩
  exact { len:=by rw [List.length_take,hw.len];rfl,inj:=fun i j b ⟨x,hx,_⟩ ⟨y,hy,_⟩ _ _ _ _=>by rw [(e0 hx).1,(e0 hy).1],imm:=hw.imm,apart:=fun b hb=>hw.apart b (live b hb)
          size:=fun k sz n f h=>(by cases (e0 h).2),none:=fun k sz n f h=>(by cases (e0 h).2),arr:=fun k sz n f b z h=>(by cases (e0 h).2)
          map:=fun k mm h=>by
            obtain ⟨rfl,e⟩:=e0 h
            cases e
            obtain ⟨es,clk,g1,g2,g3⟩:=hm
            exact ⟨cb,h10,es,clk,g1,g2,fun i e x he hx=>⟨(g3 i e x he hx).1,((g3 i e x he hx).2.close (hc x (List.mem_of_getElem? hx))).closed⟩⟩
          mine:=fun b hb=>.inr hb,news:=fun b hb=>.inl hb,le:=Imm.le_refl _,pre:=Pre.refl _,os:=rfl,tape:=rfl,out:=rfl,grow:=Nat.le_refl _,keep:=fun _ _ _=>rfl }
theorem look_mem:∀ {E:Env}{t:Nat}{v:V},look E t=some v→(t,v)∈E
 | [],_,_,h=>by simp [look] at h
 | (k,y)::l,t,v,h=>by
  rw [look_cons] at h
  split at h
  ·rename_i e;subst e;cases h;exact List.mem_cons_self ..
  ·exact List.mem_cons_of_mem _ (look_mem h)
theorem drop_st {E:Env}{m:List (Value × V)}{blk:Blk}{q:Nat}{a:Act}{w:World}(hs:St C nt env [.map m,blk] (some q) ρ a w) (hm:∀ x∈m,x.2.closed=true) (hE:Has env E) (hc:∀ p∈E,p.2.closed=true∨p.2=.map 0):St C nt E [.map m] (some q) (ρ.take 1) a w:=by
 obtain ⟨h1,h2,h3,h4,h5,h6⟩:=hs
 have et:∀ {k:Nat} {x:Option (Nat × Nat)},(ρ.take 1)[k]?=some x→ρ[k]?=some x:=fun {k x} h=>by
  rw [List.getElem?_take] at h
  split at h
  ·exact h
  ·cases h
 refine ⟨⟨h1.1,fun t v hv=>?_⟩,drop_wok h2 hm,fun j b z hj=>h3 j b z (et hj),h4,h5,fun _ e=>by cases e⟩
 obtain ⟨g1,g2⟩:=h1.2 t v (has_look hE hv)
 refine ⟨g1,?_⟩
 rcases hc _ (look_mem hv) with hcl|hcl
 ·exact (g2.close hcl).closed
 ·have hcl:v=.map 0:=hcl
  subst hcl
  generalize a.tmps.getD t undef=u at g2
  cases g2
  rename_i hb
  exact .map (by rw [List.getElem?_take,if_pos (by omega)];exact hb)
def isM0:V→Bool
 | .map 0=>true
 | _=>false
theorem isM0_eq:∀ {v:V},isM0 v=true→v=.map 0:=fun {v} h=>by
 cases v<;>simp [isM0] at h
 rename_i b
 cases b
 ·rfl
 ·cases h
theorem ar_drop_l {i q:Nat}{op:Op}{o:Option Tmp}(E:Env) {α:Type}{e:α→V}{ml:List (Int × α)}{blk:Blk}(hm:∀ v,(e v).closed=true) (hE:Has env E) (hc:E.all (fun p=>p.2.closed||isM0 p.2)=true) (h:AR C nt ops Q (.l i ⟨o,op,ty,pos,after,none⟩ false::l) E [mapE e ml] (some q)) :
  AR C nt ops Q (.l i ⟨o,op,ty,pos,after,none⟩ false::l) env [mapE e ml,blk] (some q):=.mk fun ρ a w hs=>by
 have h1:=h.1 _ a w (drop_st (m:=entsE e ml) hs (fun x hx=>by obtain ⟨y,_,rfl⟩:=List.mem_map.1 hx;exact hm _) hE (fun p hp=>by
  have:=List.all_eq_true.1 hc p hp
  rw [Bool.or_eq_true] at this
  exact this.imp id isM0_eq))
 refine ⟨fun hw=>?_,fun hw=>by rw [wanted_none rfl] at hw;cases hw⟩
 exact Oper.wpIn_mono (fun a' w' ⟨S',g1,_,g3⟩=>⟨S',g1,(fun h=>by cases h),g3⟩) (h1.1 hw)
theorem store_run {X:Ctx}{I:Imm}{ρ:List (Option (Nat × Nat))}{v:V}{a:Act}{w:World}{next:Act→World→Prop}{Qx:Exit→Act→World→Prop}{dst:Option Tmp}{T:TypeId}{d:TyD}{x y:Operand}{guard:Option (Nat × Bool)}{sz b i off n:Nat}{f g:Nat→V}(ht:TyIs P T d) (hx:eo env x=some (.ptr sz b i off)) (hy:eo env y=some v) (hok:v.ok=true) (hone:v.cells.all V.one=true) (hH:H[b]?=some (.arr sz n f)) (hi:i<n)
  (hsz:v.cells.length=d.size) (hoff:off+d.size≤sz) (ha:(∃ cs,f i=.agg cs)∨(off=0∧v.cells.length=1∧(f i).cells.length=1∧∀ cs,v≠.agg cs)) (hgi:g i=putPart (f i) off v) (hg:∀ j,j<n→j≠i→g j=f j) (he:EnvOk I ρ nt env a) (hw:WOk X I ρ H w)
  (hk:∀ w',WOk X I ρ (H.set b (.arr sz n g)) w'→next (a.put dst undef) w'):(⟨dst,.store T x y,ty,pos,after,guard⟩:Oper).wpIn (Fw none) 0 P a w next Qx:=by
 have h1:=eo_rel he hx
 have h2:=eo_rel he hy
 obtain ⟨cb,z,h1',hb⟩:=h1.ptr_inv
 obtain ⟨hc1,hc2⟩:=h2.cells (V.ok_ne hok)
 obtain ⟨cs,t,hcs,hz,hn,hr⟩:=hw.arr _ _ _ _ _ _ hH hb
 have hlen:=hw.size _ _ _ _ hH i hi
 have hlt:i*sz+sz≤n*sz:=by rw [← Nat.succ_mul];exact Nat.mul_le_mul_right _ hi
 have hfit:i*sz+off+(a.eval y).cells.toList.length≤cs.size:=by simp [hc1];omega
 have hones:∀ u∈(a.eval y).cells.toList,u.oneCell'=true:=fun u hu=>by
  obtain ⟨j,hj,rfl⟩:=List.getElem_of_mem hu
  have hj':j<v.cells.length:=by simp at hj;omega
  have:=List.all_eq_true.1 hone v.cells[j] (List.getElem_mem _)
  exact (hc2 j v.cells[j] _ (by simp [hj']) (by simp at hj;simp [hj])).one this
 have hst:=run_storeCells_at P cb (i*sz+off) t (a.eval y).cells.toList 0 cs w hcs (by simpa using hfit) hones
 rw [Nat.add_zero] at hst
 have hrun:(execOp a.eval ⟨dst,.store T x y,ty,pos,after,guard⟩).run P w=.ok .skip (w.setRow cb (cs.toList.take (i*sz+off)++(a.eval y).cells.toList++cs.toList.drop (i*sz+off+(a.eval y).cells.toList.length)).toArray):=by
  have hst':=hst
  simp [hc1,hsz] at hst'
  simp [execOp,h1',Instr.storeAt,Instr.sureAddr,storeVar,ht.sizeOf,hc1,hsz,hst']
 obtain ⟨s1,s2,s3⟩:=setRow_facts (new:=(cs.toList.take (i*sz+off)++(a.eval y).cells.toList++cs.toList.drop (i*sz+off+(a.eval y).cells.toList.length)).toArray) hcs
 have hcell:=cells_put (x:=f i) (v:=v) (off:=off) (by omega) ha
 have hgsz:∀ j,j<n→(g j).cells.length=sz:=fun j hj=>by
  by_cases e:j=i
  ·subst e;rw [hgi,hcell];simp;omega
  ·rw [hg j hj e];exact hw.size _ _ _ _ hH j hj
 refine wpIn_of_run (by simp) hrun ?_
 refine hk _ (hw.write hH hb (by simp;simp at hfit;omega) hgsz ?_ s1 s2 s3 rfl rfl rfl)
 intro j k u hj hu
 simp only [List.getElem?_toArray]
 rw [splice_get (by simpa using hfit)]
 by_cases e:j=i
 ·subst e
  rw [hgi,hcell] at hu
  have hk':k<sz:=by have:=(List.getElem?_eq_some_iff.1 hu).1;simp at this;omega
  by_cases hin:off≤k∧k<off+v.cells.length
  ·rw [if_pos (by simp [hc1];omega)]
   rw [List.append_assoc,List.getElem?_append_right (by simp;omega),List.getElem?_append_left (by simp;omega)] at hu
   have e2:k-(List.take off (f j).cells).length=k-off:=by simp;omega
   rw [e2] at hu
   have hlt2:k-off<(a.eval y).cells.size:=by rw [hc1];omega
   refine ⟨(a.eval y).cells[k-off],?_,hc2 _ _ _ hu (by simp [hlt2])⟩
   rw [show j*sz+k-(j*sz+off)=k-off by omega]
   simp [hlt2]
  ·rw [if_neg (by simp [hc1];omega)]
   have:(f j).cells[k]?=some u:=by
    by_cases hlo:k<off
    ·rw [List.append_assoc,List.getElem?_append_left (by simp;omega),List.getElem?_take,if_pos hlo] at hu;exact hu
    ·rw [List.getElem?_append_right (by simp;omega),List.getElem?_drop] at hu
     rw [← hu];congr 1;simp;omega
   simpa using hr j k u hj this
 ·rw [hg j hj e] at hu
  have hk':k<sz:=by have:=(List.getElem?_eq_some_iff.1 hu).1;rw [hw.size _ _ _ _ hH j hj] at this;exact this
  rw [if_neg ?_]
  ·simpa using hr j k u hj hu
  ·rintro ⟨q1,q2⟩
   simp [hc1] at q2
   rcases Nat.lt_or_gt_of_ne e with hlt'|hgt'
   ·have:j*sz+sz≤i*sz:=by rw [← Nat.succ_mul];exact Nat.mul_le_mul_right _ hlt'
    omega
   ·have:i*sz+sz≤j*sz:=by rw [← Nat.succ_mul];exact Nat.mul_le_mul_right _ hgt'
    omega
theorem ar_copy {i0 i1 i2 dp da q sz:Nat}{T:TypeId}{d:TyD}{x y:Operand}{v va V0:V}{m:List (Value × V)}{ty2 ty3:TypeId}{pos2 pos3:String}{after2 after3:Array Edge}(ht:TyIs P T d) (hz:(constV d.zero).ok=true) (hzs:(constV d.zero).cells.length=sz) (hds:d.size=sz)
  (hx:eo ((dp,.ptr sz 1 0 0)::env) x=some va) (hy:eo ((da,va)::(dp,.ptr sz 1 0 0)::env) y=some v) (hp:eo ((da,va)::(dp,.ptr sz 1 0 0)::env) (.tmp dp)=some (.ptr sz 1 0 0)) (hok:v.ok=true) (hone:v.cells.all V.one=true) (hvs:v.cells.length=sz) (hza:∃ cs,constV d.zero=.agg cs) (hV:putPart (constV d.zero) 0 v=V0) (hd:dp<nt) (hd2:da<nt)
  (h:AR C nt ops Q l ((da,va)::(dp,.ptr sz 1 0 0)::env) [.map m,.arr sz 1 (fun _=>V0)] (some q)) :
  AR C nt ops Q (.l i0 ⟨some dp,.alloc T,ty,pos,after,none⟩ false::.q i1 ⟨some da,.assign x,ty2,pos2,after2,none⟩::.l i2 ⟨none,.store T (.tmp dp) y,ty3,pos3,after3,none⟩ false::l) env [.map m] (some q):=.mk fun ρ a w hs=>by
 subst hzs
 refine ⟨fun _=>?_,fun hw=>by rw [wanted_none rfl] at hw;cases hw⟩
 refine wpIn_of_run (by simp) (res:=.ok (.value (.pointer (some ⟨w.heap.size,0,none⟩))) { w with heap:=w.heap.push (.cells d.zero.cells T) }) (by simp [execOp,Instr.alloc,ht.zeroV,newVar,newRow]) ?_
 have hw1:=alloc_core hs.2.1 (constV_rel C.I ρ d.zero) hz T
 have he1:=(hs.1.mono (Imm.le_refl _) (pre_append (some (w.heap.size,d.zero.cells.size)))).put (ptr_new (I:=C.I) (sz:=(constV d.zero).cells.length) hs.2.1.len) hd
 refine ⟨Keeps C.I _ _ _,Keeps.refl hw1,(fun h=>by cases h),?_,fun hw=>by rw [wanted_none rfl] at hw;cases hw⟩
 intro _
 obtain ⟨u,g1,g2⟩:=(qs_assign (P:=P) (nt:=nt) (H:=[.map m]++[.arr (constV d.zero).cells.length 1 (fun _=>constV d.zero)]) (ty:=ty2) (pos:=pos2) (after:=after2) (guard:=none) (dst:=da) hx).1 _ C.I _ _ _ he1 hw1
 refine ⟨u,g2,?_,fun hw=>by rw [wanted_none rfl] at hw;cases hw⟩
 intro _
 have he2:=he1.put g1 hd2
 refine store_run (i:=0) (n:=1) (off:=0) (f:=fun _=>constV d.zero) (g:=fun _=>putPart (constV d.zero) 0 v) (H:=[.map m]++[.arr (constV d.zero).cells.length 1 (fun _=>constV d.zero)]) (b:=1) (sz:=(constV d.zero).cells.length) ht hp hy hok hone rfl (by omega) (by rw [hvs,hds]) (by omega) (.inl hza) rfl (fun j h1 h2=>by omega) he2 hw1 fun w2 hw2=>?_
 subst hV
 obtain ⟨row,r1,r2⟩:=grown_of hs.2.1 hw2 hs.2.2.1 only_map
 exact ⟨Keeps C.I _ _ _,Keeps.refl hw2,(fun h=>by cases h),h.1 _ _ w2 ⟨⟨by simpa [Act.put] using he2.1,fun t v hv=>he2.2 t v hv⟩,hw2.self,own_next hs.2.1 hw2 hs.2.2.1 only_map (fun e=>by cases e) (fun blk hb=>by simp at hb;rcases hb with rfl|rfl<;>simp),hs.2.2.2.1,C.stable q w w2 row hs.2.2.2.2.1 r1 r2,fun _ e=>by cases e⟩⟩
theorem ar_isq {i d:Nat}{op:Op}(h:AR C nt ops Q (.q i ⟨some d,op,ty,pos,after,none⟩::l) env H k):AR C nt ops Q (.q i ⟨some d,op,ty,pos,after,none⟩::l) env H k:=h
theorem is_load {i d:Nat}{T:TypeId}{x:Operand}(h:AR C nt ops Q (.q i ⟨some d,.load T x,ty,pos,after,none⟩::l) env H k):AR C nt ops Q (.q i ⟨some d,.load T x,ty,pos,after,none⟩::l) env H k:=h
theorem is_binOp {i d:Nat}{o:BinOp}{T:TypeId}{x y:Operand}{T2:TypeId}(h:AR C nt ops Q (.q i ⟨some d,.binOp o T x y T2,ty,pos,after,none⟩::l) env H k):AR C nt ops Q (.q i ⟨some d,.binOp o T x y T2,ty,pos,after,none⟩::l) env H k:=h
theorem is_fieldAddr {i d:Nat}{T:TypeId}{x:Operand}{j:Nat}(h:AR C nt ops Q (.q i ⟨some d,.fieldAddr T x j,ty,pos,after,none⟩::l) env H k):AR C nt ops Q (.q i ⟨some d,.fieldAddr T x j,ty,pos,after,none⟩::l) env H k:=h
theorem is_indexAddr {i d:Nat}{T:TypeId}{x y:Operand}(h:AR C nt ops Q (.q i ⟨some d,.indexAddr T x y,ty,pos,after,none⟩::l) env H k):AR C nt ops Q (.q i ⟨some d,.indexAddr T x y,ty,pos,after,none⟩::l) env H k:=h
theorem is_call {i d:Nat}{c:Call}(h:AR C nt ops Q (.q i ⟨some d,.call c,ty,pos,after,none⟩::l) env H k):AR C nt ops Q (.q i ⟨some d,.call c,ty,pos,after,none⟩::l) env H k:=h
theorem loop_next {N j:Nat}{E:Env}{G:Heap}(h1:j<N) (h2:k=some (j+1)) (hH:H=G) (h3:Has env E):thenP (fun env' H' k'=>j<N∧k'=some (j+1)∧H'=G∧Has env' E) Q .normal env H k:=⟨h1,h2,hH,h3⟩
end
def EndQ (N:Nat):Post
 | .normal,_,_,k=>k=some N∨k=none
 | .ret,_,_,k=>k=some N∨k=none
 | _,_,_,_=>False
theorem iter_of_aw {P:Program}{gf:FuncId}{fn:Func}{c:Code}{vs:List V}{N:Nat}{el:Nat→List Value}(hf:P.funcs[gf]?=some fn) (hb:fn.body=some c) (hn:vs.length+1≤fn.ntmps) (hres:fn.results=#[])
  (h:∀ C:Cx P,C.N=N→C.el=el→AW C fn.ntmps c (EndQ N) (argEnv (.s (.func (.yield C.l) #[] #[])::vs) 0) [] (some 0)):IterX P gf vs N el:=by
 refine ⟨fun I us l J K W hI hv hst hY h0=>?_⟩
 refine callsIn_wide.2 ((callsIn_wide (n:=0)).1 (callsIn_of_wp hf hb trivial ?_ rfl))
 have hrel:VRels I [] (.s (.func (.yield l) #[] #[])::vs) (#[.func (.yield l) #[] #[]]++us):=by
  refine ⟨by simp [hv.1];omega,fun j v u hj hu=>?_⟩
  cases j with
  | zero =>
   rw [Array.getElem?_append_left (by simp)] at hu
   simp at hj hu;subst hj hu;exact .s _
  | succ j =>
   rw [List.getElem?_cons_succ] at hj
   rw [Array.getElem?_append_right (by simp)] at hu
   exact hv.2 j v u hj (by simpa using hu)
 have h1:=(h ⟨l,I,fun|some k=>J k|none=>K,W.heap.size,N,el,hst,hY⟩ rfl rfl).1 [] _ W ⟨argEnv_ok hrel (by rw [hrel.1];simpa using hn),WOk.begin hI,(fun j b z h=>by simp at h),rfl,h0,fun _ _=>Nat.le_refl _⟩
 refine wpIn_mono h1 fun e a' w' hl=>?_
 have hr:(results fn a'.tmps).run P w'=.ok (.tuple #[]) w':=by
  unfold results
  rw [hres]
  simp
 have fin:∀ {k:Option Nat} {env:Env} {H:Heap} {ρ:List (Option (Nat × Nat))},St ⟨l,I,fun|some k=>J k|none=>K,W.heap.size,N,el,hst,hY⟩ fn.ntmps env H k ρ a' w'→(k=some N∨k=none)→J N w'∨K w':=fun hs hk=>by
  rcases hk with rfl|rfl
  ·exact .inl hs.2.2.2.2.1
  ·exact .inr hs.2.2.2.2.1
 cases e with
 | normal=>obtain ⟨_,_,k,ρ,hs,hk⟩:=hl;exact ⟨hs.2.2.2.1,_,hr,⟨_,rfl⟩,fin hs hk⟩
 | ret=>obtain ⟨_,_,k,ρ,hs,hk⟩:=hl;exact ⟨hs.2.2.2.1,_,hr,⟨_,rfl⟩,fin hs hk⟩
 | exit id=>obtain ⟨_,_,_,_,_,h⟩:=hl;exact h.elim
 | goto id=>obtain ⟨_,_,_,_,_,h⟩:=hl;exact h.elim
 | panic ch=>exact hl.elim
 | outgrown=>exact hl.elim
end Go.Proofs.YtbilpbabdgfblaaGreat.Im
namespace Go.Proofs.YtbilpbabdgfblaaGreat
open Go.RowKit
inductive LentV (H:Heap):V→V→Prop
 | closed {v} (h:v.closed=true):LentV H v v
 | ext {sz n f g} (hg:∀ k,k<n→g k=f k):LentV H (.list sz n f) (.list sz n g)
 | nil {sz g}:LentV H (.s (.slice none 0 0)) (.list sz 0 g)
 | emp {sz g}:LentV H .emp (.list sz 0 g)
 | sl {sz b i n N f g} (hb:H[b]?=some (.arr sz N f)) (hN:i+n≤N) (hc:∀ k,k<N→V.closed.all (f k).cells=true) (hg:∀ k,k<n→g k=f (i+k)):LentV H (.sl sz b i n) (.list sz n g)
 | agg {cs ds:List V} (h:cs.length=ds.length) (hv:∀ (j:Nat) v x,cs[j]?=some v→ds[j]?=some x→LentV H v x):LentV H (.agg cs) (.agg ds)
 | ptr {sz b off:Nat} {cs es ds:List V} (hb:H[b]?=some (.arr sz 1 (fun _=>.agg (cs++es)))) (h:cs.length=ds.length) (hv:∀ (j:Nat) v x,cs[j]?=some v→ds[j]?=some x→LentV H v x):LentV H (.ptr sz b 0 off) (.ref (.agg ds) off)
 | elt {sz b i off N:Nat} {f:Nat→V} (hb:H[b]?=some (.arr sz N f)) (hi:i<N) (hc:V.closed.all (f i).cells=true):LentV H (.ptr sz b i off) (.ref (f i) off)
def LentL (H:Heap):List V→List V→Prop
 | [],[]=>True
 | v::l,x::m=>LentV H v x∧LentL H l m
 | _,_=>False
theorem lentL_len {H:Heap}:∀ {l m:List V},LentL H l m→l.length=m.length
 | [],[],_=>rfl
 | _::l,_::m,h=>by simp [lentL_len (l:=l) (m:=m) h.2]
 | [],_::_,h=>h.elim
 | _::_,[],h=>h.elim
theorem lentL_get {H:Heap}:∀ {l m:List V},LentL H l m→∀ (j:Nat) v x,l[j]?=some v→m[j]?=some x→LentV H v x
 | [],[],_,j,v,x,h,_=>by simp at h
 | a::l,b::m,h,j,v,x,h1,h2=>by
  cases j with
  | zero=>simp at h1 h2;subst h1 h2;exact h.1
  | succ j=>exact lentL_get h.2 j v x (by simpa using h1) (by simpa using h2)
 | [],_::_,h,_,_,_,_,_=>h.elim
 | _::_,[],h,_,_,_,_,_=>h.elim
theorem LentV.aggL {H:Heap}{cs ds:List V}(h:LentL H cs ds):LentV H (.agg cs) (.agg ds):=.agg (lentL_len h) (lentL_get h)
theorem LentV.ptrL {H:Heap}{sz b off:Nat}{cs ds:List V}(es:List V) (hb:H[b]?=some (.arr sz 1 (fun _=>.agg (cs++es)))) (h:LentL H cs ds):LentV H (.ptr sz b 0 off) (.ref (.agg ds) off):=.ptr hb (lentL_len h) (lentL_get h)
theorem LentV.row {α:Type}[Inhabited α] {H:Heap}{sz b n:Nat}{e:α→V}{l:List α}(hb:H[b]?=some (LB sz e l)) (hn:n=l.length) (hc:∀ y,V.closed.all (e y).cells=true):LentV H (.sl sz b 0 n) (LV sz e l):=by
 subst hn
 exact .sl hb (by omega) (fun k _=>hc _) (fun k _=>by rw [Nat.zero_add])
section
variable {X:Ctx}{I:Imm}{ρ:List (Option (Nat × Nat))}{H:Heap}{w:World}
theorem withOwn_at {b:Nat}(h:Live H ρ b) (w:World):withOwn I H ρ w b=w.heap[b]?:=by
 unfold withOwn
 rw [if_pos h]
theorem LentV.rel (hw:WOk X I ρ H w) {v x:V}(h:LentV H v x):∀ {u:Value},VRel I ρ v u→VRel (withOwn I H ρ w) [] x u:=by
 have hle:=withOwn_le hw
 induction h with
 | closed hc=>intro u hu;exact (hu.close hc).mono hle (Pre.refl _)
 | ext hg=>intro u hu;exact (hu.mono hle (Pre.refl _)).ext hg
 | nil=>intro u hu;cases hu;exact .none_list none
 | emp=>intro u hu;cases hu;exact .none_list _
 | sl hb hN hc hg =>
  intro u hu
  exact hu.lend hw hb hN hc hg hle fun cb z o h1 h2=>by rw [withOwn_at ⟨_,_,hb,by simp,z,h1⟩];exact h2
 | agg hl hv ih =>
  intro u hu
  cases hu with
  | agg h1 h2 =>
   rename_i us
   refine .agg (h1.trans hl) fun j x u' hx hu'=>?_
   rename_i cs ds
   have hlt:j<cs.length:=by rw [hl];exact (List.getElem?_eq_some_iff.1 hx).1
   exact ih j cs[j] x (by simp [hlt]) hx (h2 j cs[j] u' (by simp [hlt]) hu')
 | ptr hb hl hv ih =>
  intro u hu
  rename_i sz b off cs es ds
  obtain ⟨cb,z,rfl,hρ⟩:=hu.ptr_inv
  have hL:Live H ρ cb:=⟨_,_,hb,by simp,z,hρ⟩
  obtain ⟨us,ty,hcs,hz,hn,hr⟩:=hw.arr _ _ _ _ _ _ hb hρ
  have hcell:∀ (j:Nat) x,ds[j]?=some x→∃ u,us[j]?=some u∧VRel (withOwn I H ρ w) [] x u:=fun j x hx=>by
   have hlt:j<cs.length:=by rw [hl];exact (List.getElem?_eq_some_iff.1 hx).1
   obtain ⟨u,h3,h4⟩:=hr 0 j cs[j] Nat.one_pos (by show (cs++es)[j]?=_;rw [List.getElem?_append_left hlt];simp [hlt])
   exact ⟨u,by simpa using h3,ih j cs[j] x (by simp [hlt]) hx h4⟩
  rw [Nat.zero_mul]
  refine .ref (us:=fun j=>us.getD j undef) ⟨us,ty,(0,0),by rw [withOwn_at hL];exact hcs,fun j hj=>?_⟩ fun j x hx=>?_
  ·have hj:j<ds.length:=hj
   obtain ⟨u,h3,_⟩:=hcell j ds[j] (by simp [hj])
   rw [Nat.zero_add]
   simp [h3]
  ·obtain ⟨u,h3,h4⟩:=hcell j x hx
   rw [show us.getD j undef=u by simp [h3]]
   exact h4
 | elt hb hi hc =>
  intro u hu
  rename_i sz b i off N f
  obtain ⟨cb,z,rfl,hρ⟩:=hu.ptr_inv
  have hL:Live H ρ cb:=⟨_,_,hb,by simp,z,hρ⟩
  obtain ⟨us,ty,hcs,hz,hn,hr⟩:=hw.arr _ _ _ _ _ _ hb hρ
  refine .ref (us:=fun j=>us.getD (i*sz+j) undef) ⟨us,ty,(0,0),by rw [withOwn_at hL];exact hcs,fun j hj=>?_⟩ fun j x hx=>?_
  ·obtain ⟨u,h3,_⟩:=hr i j (f i).cells[j] hi (by simp [hj])
   simp [h3]
  ·obtain ⟨u,h3,h4⟩:=hr i j x hi hx
   rw [show us.getD (i*sz+j) undef=u by simp [h3]]
   exact (h4.close (closed_all hc hx)).mono hle (Pre.refl _)
theorem lents_rel (hw:WOk X I ρ H w):∀ {vs vs':List V}{us:List Value},LentL H vs vs'→VRels I ρ vs us.toArray→VRels (withOwn I H ρ w) [] vs' us.toArray
 | [],[],us,_,h=>⟨h.1,fun j v u hj=>by simp at hj⟩
 | v::vs,v'::vs',us,⟨ha1,ha2⟩,h=>by
  cases us with
  | nil=>have:=h.1;simp at this
  | cons u us =>
   have h1:VRels I ρ vs us.toArray:=⟨by have:=h.1;simpa using this,fun j v u hj hu=>h.2 (j+1) v u (by simpa using hj) (by simpa using hu)⟩
   have ih:=lents_rel hw ha2 h1
   refine ⟨by have:=ih.1;simpa using this,fun j x y hj hu=>?_⟩
   cases j with
   | zero=>simp at hj hu;subst hj hu;exact ha1.rel hw (h.2 0 v u rfl rfl)
   | succ j=>exact ih.2 j x y (by simpa using hj) (by simpa using hu)
 | [],_::_,_,h,_=>h.elim
 | _::_,[],_,h,_=>h.elim
end
section
variable {P:Program}{r:Option Nat}{m nt:Nat}{Q:Post}{env:Env}{H:Heap}{ops:Array Oper}{l:List Stp}{dst:Option Tmp}{ty:TypeId}{pos:String}{after:Array Edge}{guard:Option (Nat × Bool)}{keep:Bool}
theorem ls_lcall {fo:Operand}{args:List Operand}{ats:Array TypeId}{f:FuncId}{first cap vs zs:List V}{R:V→Prop}(hfn:FnOk P f) (hf:eo env fo=some (.fn (.func f) first cap)) (hargs:args.mapM (eo env)=some vs)
  (ha:LentL H (first++vs++cap) zs) (h:PCalls P f zs R) (hflat:∀ v,R v→v.flat=true):LS P r m nt keep env H ⟨dst,.call ⟨.value fo,args.toArray,ats⟩,ty,pos,after,guard⟩ (fun v H'=>R v∧H'=H) NoP:=.mk
 fun X I ρ a w next Qx hX hs hk hp=>by
  have hw:=hs.2.1
  have h1:=eo_rel hs.1 hf
  cases h1':a.eval fo<;>rw [h1'] at h1<;>cases h1
  rename_i us ws e1 e2 e3 e4
  have hrel:VRels I ρ (first++vs++cap) (us++(args.map a.eval).toArray++ws):=(VRels.append ⟨e1,e2⟩ (evals hs.1 hargs)).append ⟨e3,e4⟩
  have hrel':=lents_rel (us:=(us++(args.map a.eval).toArray++ws).toList) hw ha (by rw [Array.toArray_toList];exact hrel)
  rw [Array.toArray_toList] at hrel'
  refine wpIn_of_run (by simp) (call_run hfn h1' w) ⟨fun h=>by simp [Fw,Fence.wide] at h,callsIn_fw.2 ?_⟩
  refine (h.1 _ w _ (withOwn_ok hw) hrel').mono fun e w' ⟨v,u,I',hR,he,hv,hle,hI',hn,hb⟩=>?_
  subst he
  have hI2:∀ b o,I b=some o→w'.heap[b]?=some o:=fun b o h1=>hI' b o (hle b o (withOwn_le hw b o h1))
  exact hk I ρ H v u w' ⟨hR,rfl⟩ (Imm.le_refl _) (Pre.refl _) (hw.pure (Imm.le_refl _) hI2 (fun _ h1=>.inl h1) hb) (hv.flat (hflat v hR)) (fun _=>keeps_pure hw (Imm.le_refl _) hb)
theorem ar_lcall {i d:Nat}{fo:Operand}{args:List Operand}{ats:Array TypeId}{f:FuncId}{first cap vs zs:List V}{R:V→Prop}(hfn:FnOk P f) (hf:eo env fo=some (.fn (.func f) first cap)) (hargs:args.mapM (eo env)=some vs)
  (ha:LentL H (first++vs++cap) zs) (h:PCalls P f zs R) (hflat:∀ v,R v→v.flat=true) (hd:d<nt) (hk:∀ v,R v→AR P r m nt ops Q l ((d,v)::env) H) :
  AR P r m nt ops Q (.l i ⟨some d,.call ⟨.value fo,args.toArray,ats⟩,ty,pos,after,none⟩ keep::l) env H :=
 ar_l (ls_lcall hfn hf hargs ha h hflat) hd (fun v H' ⟨a,b⟩=>by subst b;exact hk v a) (fun _ _ h=>h.elim)
end
end Go.Proofs.YtbilpbabdgfblaaGreat
