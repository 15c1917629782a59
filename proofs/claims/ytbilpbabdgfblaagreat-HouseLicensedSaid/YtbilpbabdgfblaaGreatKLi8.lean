/- Parts of the proof: contracts of functions. No condition. -/
import Derived.Test.YtbilpbabdgfblaaGreatKLi7
set_option maxHeartbeats 16000000
set_option linter.unusedSimpArgs false
set_option linter.unusedVariables false
namespace Go.Proofs.YtbilpbabdgfblaaGreat
open Go.RowKit
def V.ren (r:Nat→Nat):V→V
  | .sl sz b i n=>.sl sz (r b) i n
  | .ptr sz b i off=>.ptr sz (r b) i off
  | .map b=>.map (r b)
  | .agg cs=>.agg (all cs)
  | .tup cs=>.tup (all cs)
  | .fn f a b=>.fn f (all a) (all b)
  | .iface t v=>.iface t (v.ren r)
  | v=>v
where all:List V→List V
  | []=>[]
  | v::l=>v.ren r::all l
theorem ren_all_len {r:Nat→Nat}:∀ l:List V,(V.ren.all r l).length=l.length
  | []=>rfl
  | _::l=>by simp [V.ren.all,ren_all_len l]
theorem ren_all_get {r:Nat→Nat}:∀ (l:List V) (j:Nat),(V.ren.all r l)[j]?=(l[j]?).map (V.ren r)
  | [],j=>by simp [V.ren.all]
  | v::l,j=>by
    cases j with
    | zero=>simp [V.ren.all]
    | succ j=>simp [V.ren.all,ren_all_get l j]
theorem VRel.ren {I:Imm}{ρ ρ':List (Option (Nat × Nat))}{r:Nat→Nat}(hr:∀ (j:Nat) x,ρ[j]?=some x→ρ'[r j]?=some x) {v:V}{u:Value}(h:VRel I ρ v u):VRel I ρ' (v.ren r) u:=by
  induction h with
  | s v=>exact .s v
  | emp A=>exact .emp A
  | agg h _ ih =>
    refine .agg (by rw [ren_all_len];exact h) fun j v u a b=>?_
    rw [ren_all_get] at a
    obtain ⟨v0,h1,rfl⟩:=Option.map_eq_some_iff.1 a
    exact ih j v0 u h1 b hr
  | tup h _ ih =>
    refine .tup (by rw [ren_all_len];exact h) fun j v u a b=>?_
    rw [ren_all_get] at a
    obtain ⟨v0,h1,rfl⟩:=Option.map_eq_some_iff.1 a
    exact ih j v0 u h1 b hr
  | list a b c d e=>exact .list a b c d e
  | sl hb a b c=>exact .sl (hr _ _ hb) a b c
  | slNone A hb=>exact .slNone A (hr _ _ hb)
  | ptr hb=>exact .ptr (hr _ _ hb)
  | ref a b=>exact .ref a b
  | fn h _ h' _ ih ih' =>
    refine .fn (by rw [ren_all_len];exact h) (fun j v u a b=>?_) (by rw [ren_all_len];exact h') (fun j v u a b=>?_)
    · rw [ren_all_get] at a
      obtain ⟨v0,h1,rfl⟩:=Option.map_eq_some_iff.1 a
      exact ih j v0 u h1 b hr
    · rw [ren_all_get] at a
      obtain ⟨v0,h1,rfl⟩:=Option.map_eq_some_iff.1 a
      exact ih' j v0 u h1 b hr
  | iface _ ih=>exact .iface (ih hr)
  | map hb=>exact .map (hr _ _ hb)
theorem ren_cells_len {r:Nat→Nat}(v:V):(v.ren r).cells.length=v.cells.length:=by
  cases v<;>simp [V.ren,V.cells,ren_all_len]
theorem ren_cells_get {r:Nat→Nat}(v:V) {j:Nat}{x:V}(h:(v.ren r).cells[j]?=some x):∃ y,v.cells[j]?=some y∧x=y.ren r:=by
  have:(v.ren r).cells=V.ren.all r v.cells:=by cases v<;>rfl
  rw [this,ren_all_get] at h
  obtain ⟨y,h1,h2⟩:=Option.map_eq_some_iff.1 h
  exact ⟨y,h1,h2.symm⟩
def Blk.ren (r:Nat→Nat):Blk→Blk
  | .arr sz n f=>.arr sz n fun i=>(f i).ren r
  | .map m=>.map (m.map fun p=>(p.1,p.2.ren r))
  | .dead=>.dead
theorem Blk.ren_live {r:Nat→Nat}{b:Blk}:b.ren r≠.dead↔b≠.dead:=by cases b<;>simp [Blk.ren]
def rn (σ:List Nat) (n:Nat) (j:Nat):Nat:=match σ[j]? with|some k=>k|none=>n+(j-σ.length)
def pickB (σ fr:List Nat) (r:Nat→Nat) (H1:Heap) (k:Nat) (b:Blk):Blk:=bif fr.contains k then .dead else match σ.idxOf? k with|some j=>(H1.getD j .dead).ren r|none=>b
def joinAt (σ fr:List Nat) (r:Nat→Nat) (H1:Heap):Nat→Heap→Heap
  | _,[]=>[]
  | k,b::l=>pickB σ fr r H1 k b::joinAt σ fr r H1 (k+1) l
theorem joinAt_get {σ fr:List Nat}{r:Nat→Nat}{H1:Heap}:∀ {H:Heap}{k i:Nat},(joinAt σ fr r H1 k H)[i]?=(H[i]?).map (pickB σ fr r H1 (k+i))
  | [],k,i=>by simp [joinAt]
  | b::l,k,i=>by
    cases i with
    | zero=>simp [joinAt]
    | succ i=>simp only [joinAt,List.getElem?_cons_succ];rw [joinAt_get,show k+1+i=k+(i+1) by omega]
theorem joinAt_len {σ fr:List Nat}{r:Nat→Nat}{H1:Heap}:∀ {H:Heap}{k:Nat},(joinAt σ fr r H1 k H).length=H.length
  | [],_=>rfl
  | _::l,k=>by simp [joinAt,joinAt_len (H:=l)]
def joinH (σ fr:List Nat) (H H1:Heap):Heap:=joinAt σ fr (rn σ H.length) H1 0 H++(H1.drop σ.length).map (Blk.ren (rn σ H.length))
section
variable {X:Ctx}{I J I':Imm}{ρ ρ1:List (Option (Nat × Nat))}{H H0 H1:Heap}{w w':World}
theorem relocate_ok (hw:WOk X I ρ H w) (σ:List Nat) (fr:List Nat) (hlen:σ.length=H0.length) (hinj:σ.Nodup) (hfr:∀ b∈fr,b ∉ σ) (hh:HSub H (σ.map some) (·∈fr) 0 H0) :
    ∃ J,I.le J∧(∀ b,J b≠none→I b≠none∨∃ k z,k∈fr∧(∃ x:Blk,H[k]?=some x∧x≠.dead)∧ρ[k]?=some (some (b,z)))∧WOk (Ctx.self w (relocate (σ.map some) ρ) H0 J) J (relocate (σ.map some) ρ) H0 w ∧
      ∀ {v x:V} {u:Value},VSub H (σ.map some) (·∈fr) v x→VRel I ρ v u→VRel J (relocate (σ.map some) ρ) x u:=by
  classical
  let frz:Nat→Prop:=fun cb=>∃ b z,b∈fr∧(∃ x:Blk,H[b]?=some x∧x≠.dead)∧ρ[b]?=some (some (cb,z))
  let J:Imm:=fun cb=>if frz cb then w.heap[cb]? else I cb
  have liveF:∀ cb,frz cb→Live H ρ cb:=fun cb ⟨b,z,_,⟨x,h1,h2⟩,h3⟩=>⟨b,x,h1,h2,z,h3⟩
  have hI:I.le J:=fun b o h=>by
    show (if frz b then w.heap[b]? else I b)=some o
    rw [if_neg (fun hf=>by rw [hw.apart b (liveF b hf)] at h;cases h)]
    exact h
  have hJok:∀ b o,J b=some o→w.heap[b]?=some o:=fun b o h=>by
    have h:(if frz b then w.heap[b]? else I b)=some o:=h
    split at h
    · exact h
    · exact hw.imm b o h
  have hJ:∀ b cb z o,b∈fr→(∃ x:Blk,H[b]?=some x∧x≠.dead)→ρ[b]?=some (some (cb,z))→w.heap[cb]?=some o→J cb=some o:=fun b cb z o h1 h2 h3 h4=>by
    show (if frz cb then w.heap[cb]? else I cb)=some o
    rw [if_pos ⟨b,z,h1,h2,h3⟩]
    exact h4
  have hJn:∀ b,J b≠none→I b≠none∨frz b:=fun b h=>by
    by_cases hf:frz b
    · exact .inr hf
    · refine .inl ?_
      have h:(if frz b then w.heap[b]? else I b)≠none:=h
      rwa [if_neg hf] at h
  have rel:∀ {v x:V} {u:Value},VSub H (σ.map some) (·∈fr) v x→VRel I ρ v u→VRel J (relocate (σ.map some) ρ) x u:=fun h hu=>h.rel hw hI hJ hu
  have blk:∀ (k:Nat) b,H0[k]?=some b→BSub H (σ.map some) (·∈fr) k b:=fun k b h=>by have:=hSub_get hh h;rwa [Nat.zero_add] at this
  have alive:∀ (k cb z:Nat) b,H0[k]?=some b→b≠.dead→(relocate (σ.map some) ρ)[k]?=some (some (cb,z))→∃ b',(σ.map some)[k]?=some (some b')∧(∃ x:Blk,H[b']?=some x∧x≠.dead)∧ρ[b']?=some (some (cb,z)):=by
    intro k cb z b hk hb hρ
    obtain ⟨b',h1,h2⟩:=relocate_some hρ
    refine ⟨b',h1,?_,h2⟩
    cases b with
    | dead=>exact (hb rfl).elim
    | arr sz n g =>
      rcases blk k _ hk with ⟨c,f,h3,h4,_⟩|⟨h3,_⟩
      · rw [h1] at h3;cases h3;exact ⟨_,h4,by simp⟩
      · rw [h1] at h3;cases h3
    | map ms =>
      obtain ⟨c,ns,h3,h4,_⟩:=blk k _ hk
      rw [h1] at h3;cases h3;exact ⟨_,h4,by simp⟩
  have inj:Inj (σ.map some):=fun i j b h1 h2=>by
    simp only [List.getElem?_map,Option.map_eq_some_iff,Option.some.injEq,exists_eq_right] at h1 h2
    have a1:=(List.getElem?_eq_some_iff.1 h1).1
    exact (List.getElem?_inj a1 hinj).1 (h1.trans h2.symm)
  refine ⟨J,hI,hJn,{ len:=by simp [relocate,hlen],inj:=?_,imm:=hJok,apart:=?_,size:=?_,none:=?_,arr:=?_,map:=?_,mine:=fun b hb=>.inr hb,news:=fun b hb=>.inl hb,le:=Imm.le_refl _,pre:=Pre.refl _,os:=rfl,tape:=rfl,out:=rfl,grow:=Nat.le_refl _,keep:=fun _ _ _=>rfl },rel⟩
  · rintro i j b ⟨x,hx,hx'⟩ ⟨y,hy,hy'⟩ z1 z2 h1 h2
    obtain ⟨i',a1,a2,a3⟩:=alive i b z1 x hx hx' h1
    obtain ⟨j',b1,b2,b3⟩:=alive j b z2 y hy hy' h2
    have:=hw.inj i' j' b a2 b2 z1 z2 a3 b3
    subst this
    exact inj i j i' a1 b1
  · rintro cb ⟨k,b,h1,h2,z,h3⟩
    obtain ⟨b',h4,h5,h6⟩:=alive k cb z b h1 h2 h3
    have hl:Live H ρ cb:=by obtain ⟨x,h7,h8⟩:=h5;exact ⟨b',x,h7,h8,z,h6⟩
    show (if frz cb then w.heap[cb]? else I cb)=none
    rw [if_neg]
    · exact hw.apart cb hl
    · rintro ⟨c,z',h7,h8,h9⟩
      have:=hw.inj b' c cb h5 h8 z z' h6 h9
      subst this
      refine hfr b' h7 ?_
      have:=List.mem_of_getElem? h4
      simpa using this
  · intro k sz n g hk i hi
    rcases blk k _ hk with ⟨b,f,h1,h2,h3⟩|⟨_,rfl⟩
    · rw [(h3 i hi).len]
      exact hw.size b sz n f h2 i hi
    · omega
  · intro k sz n g hk hρ
    rcases blk k _ hk with ⟨b,f,h1,h2,h3⟩|⟨_,rfl⟩
    · cases hb:ρ[b]? with
      | none =>
        have h4:=(List.getElem?_eq_some_iff.1 h2).1
        have h5:=List.getElem?_eq_none_iff.1 hb
        rw [hw.len] at h5
        omega
      | some q =>
        rw [relocate_get h1 hb] at hρ
        cases hρ
        exact hw.none b sz n f h2 hb
    · rfl
  · intro k sz n g cb z hk hρ
    obtain ⟨b',h4,h5,h6⟩:=alive k cb z _ hk (by simp) hρ
    rcases blk k _ hk with ⟨b,f,h1,h2,h3⟩|⟨h1,_⟩
    · rw [h4] at h1
      cases h1
      obtain ⟨cs,ty,a1,a2,a3,a4⟩:=hw.arr _ _ _ _ _ _ h2 h6
      refine ⟨cs,ty,a1,a2,a3,fun i j x hi hx=>?_⟩
      have e:=h3 i hi
      have cell:∃ v,(f i).cells[j]?=some v∧VSub H (σ.map some) (·∈fr) v x:=by
        revert hx
        generalize f i=q at e ⊢
        generalize g i=q' at e ⊢
        intro hx
        cases e with
        | agg h hv =>
          rename_i cs ds
          have hlt:=(List.getElem?_eq_some_iff.1 hx).1
          have hlt':j<cs.length:=by simp [V.cells] at hlt;omega
          exact ⟨cs[j],by simp [V.cells,hlt'],hv j _ x (by simp [hlt']) hx⟩
        | closed hc =>
          refine ⟨x,hx,.closed ?_⟩
          cases q<;>simp only [V.cells] at hx<;>first
            | exact closed_all (by simp only [V.closed] at hc;exact hc) hx
            | (cases j<;>simp at hx;subst hx;exact hc)
        | sl h=>cases j<;>simp [V.cells] at hx;subst hx;exact ⟨_,rfl,.sl h⟩
        | ptr h=>cases j<;>simp [V.cells] at hx;subst hx;exact ⟨_,rfl,.ptr h⟩
        | map h=>cases j<;>simp [V.cells] at hx;subst hx;exact ⟨_,rfl,.map h⟩
        | nil h=>cases j<;>simp [V.cells] at hx;subst hx;exact ⟨_,rfl,.nil h⟩
        | emp h=>cases j<;>simp [V.cells] at hx;subst hx;exact ⟨_,rfl,.emp h⟩
        | nilList=>cases j<;>simp [V.cells] at hx;subst hx;exact ⟨_,rfl,.nilList⟩
        | empList=>cases j<;>simp [V.cells] at hx;subst hx;exact ⟨_,rfl,.empList⟩
        | frz a b c d e=>cases j<;>simp [V.cells] at hx;subst hx;exact ⟨_,rfl,.frz a b c d e⟩
        | frzPtr a b c d=>cases j<;>simp [V.cells] at hx;subst hx;exact ⟨_,rfl,.frzPtr a b c d⟩
        | ext a=>cases j<;>simp [V.cells] at hx;subst hx;exact ⟨_,rfl,.ext a⟩
        | tup a b=>cases j<;>simp [V.cells] at hx;subst hx;exact ⟨_,rfl,.tup a b⟩
        | fn a b c d=>cases j<;>simp [V.cells] at hx;subst hx;exact ⟨_,rfl,.fn a b c d⟩
      obtain ⟨v,b1,b2⟩:=cell
      obtain ⟨u,c1,c2⟩:=a4 i j v hi b1
      exact ⟨u,c1,rel b2 c2⟩
    · rw [h4] at h1;cases h1
  · intro k ms hk
    obtain ⟨b,ns,h1,h2,h3,h4⟩:=blk k _ hk
    obtain ⟨cb,h5,es,clk,h6,h7,h8⟩:=hw.map _ _ h2
    refine ⟨cb,relocate_get h1 h5,es,clk,h6,⟨h7.size.trans h3,h7.born⟩,fun i e y he hy=>?_⟩
    have hlt:i<ns.length:=by have:=(List.getElem?_eq_some_iff.1 hy).1;omega
    obtain ⟨c1,c2⟩:=h8 i e ns[i] he (by simp [hlt])
    obtain ⟨d1,d2⟩:=h4 i ns[i] y (by simp [hlt]) hy
    exact ⟨c1.trans d1,rel d2 c2⟩
theorem pre_len {σ τ:List (Option (Nat × Nat))}(h:Pre σ τ):σ.length≤τ.length:=by
  cases e:σ.length with
  | zero=>omega
  | succ n =>
    have h1:σ[n]?=some σ[n]:=by simp [e]
    have:=(List.getElem?_eq_some_iff.1 (h n _ h1)).1
    omega
theorem idxOf_some {σ:List Nat}{k j:Nat}(h:σ.idxOf? k=some j):σ[j]?=some k:=by
  rw [List.idxOf?_eq_some_iff] at h
  obtain ⟨h1,h2,_⟩:=h
  rw [List.getElem?_eq_some_iff]
  exact ⟨h1,by simpa using h2⟩
theorem idxOf_none {σ:List Nat}{k:Nat}(h:σ.idxOf? k=none):k ∉ σ:=by simpa [List.idxOf?_eq_none_iff] using h
theorem keepsNone (hw:WOk X I ρ H w) {k:Nat}{b:Blk}(h:H[k]?=some b):∃ x,ρ[k]?=some x:=by
  have h1:=(List.getElem?_eq_some_iff.1 h).1
  rw [← hw.len] at h1
  exact ⟨ρ[k],by simp [h1]⟩
theorem WOk.joinG (hw:WOk X I ρ H w) (σ:List Nat) (fr:List Nat) (hlen:σ.length=H0.length) (_hinj:σ.Nodup) (_hfr:∀ b∈fr,b ∉ σ) (hh:HSub H (σ.map some) (·∈fr) 0 H0) (hlive:∀ b∈H0,b≠.dead)
    (hJ:I.le J) (hJn:∀ b,J b≠Option.none→I b≠Option.none∨∃ k z,k∈fr∧(∃ x:Blk,H[k]?=some x∧x≠.dead)∧ρ[k]?=some (some (b,z)))
    (k:WOk (Ctx.self w (relocate (σ.map some) ρ) H0 J) I' ρ1 H1 w') :
    WOk X I' (ρ++ρ1.drop σ.length) (joinH σ fr H H1) w'∧∀ (j:Nat) x,ρ1[j]?=some x→(ρ++ρ1.drop σ.length)[rn σ H.length j]?=some x:=by
  have hlenH:=hw.len
  have hpre:Pre (relocate (σ.map some) ρ) ρ1:=k.pre
  have hle1:σ.length≤ρ1.length:=by have:=pre_len hpre;simpa [relocate] using this
  have hl1:=k.len
  have blk:∀ (j:Nat) b,H0[j]?=some b→BSub H (σ.map some) (·∈fr) j b:=fun j b h=>by have:=hSub_get hh h;rwa [Nat.zero_add] at this
  have aliveσ:∀ (j k0:Nat),σ[j]?=some k0→∃ b0,H0[j]?=some b0∧b0≠.dead∧∃ x:Blk,H[k0]?=some x∧x≠.dead:=fun j k0 hj=>by
    have hlt:=(List.getElem?_eq_some_iff.1 hj).1
    have h1:H0[j]?=some H0[j]:=by simp
    have h2:=hlive H0[j] (List.getElem_mem _)
    refine ⟨_,h1,h2,?_⟩
    have h3:=blk j _ h1
    have hs:(σ.map some)[j]?=some (some k0):=by simp [hj]
    cases e:H0[j] with
    | dead=>exact (h2 e).elim
    | arr sz n g =>
      rw [e] at h3
      rcases h3 with ⟨c,f,h3,h4,_⟩|⟨h3,_⟩
      · rw [hs] at h3;cases h3;exact ⟨_,h4,by simp⟩
      · rw [hs] at h3;cases h3
    | map ms =>
      rw [e] at h3
      obtain ⟨c,ns,h3,h4,_⟩:=h3
      rw [hs] at h3;cases h3;exact ⟨_,h4,by simp⟩
  have ρσ:∀ (j k0:Nat) x,σ[j]?=some k0→ρ[k0]?=some x→ρ1[j]?=some x:=fun j k0 x h1 h2=>hpre j x (relocate_get (by simp [h1]) h2)
  have ρσ':∀ (j k0:Nat) x,σ[j]?=some k0→ρ1[j]?=some x→ρ[k0]?=some x:=fun j k0 x h1 h2=>by
    obtain ⟨_,_,_,y,h3,_⟩:=aliveσ j k0 h1
    obtain ⟨z,h4⟩:=keepsNone hw h3
    have:=ρσ j k0 z h1 h4
    rw [h2] at this
    rw [h4,this]
  have hr:∀ (j:Nat) x,ρ1[j]?=some x→(ρ++ρ1.drop σ.length)[rn σ H.length j]?=some x:=fun j x h=>by
    unfold rn
    cases hs:σ[j]? with
    | some k0 =>
      show (ρ++ρ1.drop σ.length)[k0]?=some x
      have h1:=ρσ' j k0 x hs h
      rw [List.getElem?_append_left (List.getElem?_eq_some_iff.1 h1).1]
      exact h1
    | none =>
      show (ρ++ρ1.drop σ.length)[H.length+(j-σ.length)]?=some x
      have h1:σ.length≤j:=by simpa using hs
      rw [List.getElem?_append_right (by omega),hlenH,List.getElem?_drop,show σ.length+(H.length+(j-σ.length)-H.length)=j by omega]
      exact h
  have live0:∀ b,Live H0 (relocate (σ.map some) ρ) b→∃ j k0 z,σ[j]?=some k0∧(∃ x:Blk,H[k0]?=some x∧x≠.dead)∧ρ[k0]?=some (some (b,z)):=fun b ⟨j,blk0,h1,h2,z,h3⟩=>by
    obtain ⟨k0,h4,h5⟩:=relocate_some h3
    simp only [List.getElem?_map,Option.map_eq_some_iff,Option.some.injEq,exists_eq_right] at h4
    obtain ⟨_,_,_,h6⟩:=aliveσ j k0 h4
    exact ⟨j,k0,z,h4,h6,h5⟩
  have live0':∀ b,Live H0 (relocate (σ.map some) ρ) b→Live H ρ b:=fun b hb=>by
    obtain ⟨j,k0,z,_,⟨x,h2,h3⟩,h4⟩:=live0 b hb
    exact ⟨k0,x,h2,h3,z,h4⟩
  have split:∀ (i:Nat) b,(joinH σ fr H H1)[i]?=some b→b≠.dead→(i<H.length∧i ∉ σ∧i ∉ fr∧H[i]?=some b)∨(∃ j b1,i=rn σ H.length j∧H1[j]?=some b1∧b=b1.ren (rn σ H.length)∧(i<H.length→σ[j]?=some i)∧(H.length≤i→σ.length≤j)):=fun i b h hb=>by
    unfold joinH at h
    by_cases hi:i<H.length
    · rw [List.getElem?_append_left (by rw [joinAt_len];exact hi),joinAt_get,Nat.zero_add] at h
      obtain ⟨b0,h1,h2⟩:=Option.map_eq_some_iff.1 h
      unfold pickB at h2
      cases hf:fr.contains i with
      | true=>rw [hf] at h2;simp at h2;exact (hb h2.symm).elim
      | false =>
        rw [hf] at h2
        simp only [cond_false] at h2
        cases hx:σ.idxOf? i with
        | none =>
          rw [hx] at h2
          exact .inl ⟨hi,idxOf_none hx,by simpa using hf,by rw [h1];exact congrArg some h2⟩
        | some j =>
          rw [hx] at h2
          have hj:=idxOf_some hx
          have hjl:=(List.getElem?_eq_some_iff.1 hj).1
          have hlt:j<H1.length:=by omega
          refine .inr ⟨j,H1[j],by simp [rn,hj],by simp [hlt],?_,fun _=>hj,fun h=>by omega⟩
          rw [← h2]
          simp [hlt]
    · rw [List.getElem?_append_right (by rw [joinAt_len];omega),joinAt_len,List.getElem?_map,List.getElem?_drop] at h
      obtain ⟨b1,h1,h2⟩:=Option.map_eq_some_iff.1 h
      refine .inr ⟨σ.length+(i-H.length),b1,?_,h1,h2.symm,fun h=>by omega,fun _=>by omega⟩
      have:σ[σ.length+(i-H.length)]?=Option.none:=by simp
      simp only [rn,this]
      omega
  have ρold:∀ (i:Nat) x,i<H.length→(ρ++ρ1.drop σ.length)[i]?=some x→ρ[i]?=some x:=fun i x hi h=>by
    rwa [List.getElem?_append_left (by omega)] at h
  have ρnew:∀ (i j:Nat) x b1,i=rn σ H.length j→H1[j]?=some b1→(ρ++ρ1.drop σ.length)[i]?=some x→ρ1[j]?=some x:=fun i j x b1 hi hb h=>by
    have hlt:j<ρ1.length:=by have:=(List.getElem?_eq_some_iff.1 hb).1;omega
    have:=hr j ρ1[j] (by simp [hlt])
    rw [← hi,h] at this
    cases this
    simp [hlt]
  have oldLive:∀ (i b y:Nat) (x:Blk),H[i]?=some x→x≠.dead→ρ[i]?=some (some (b,y))→b<w.heap.size:=fun i b y x h1 h2 h3=>hw.lt ⟨i,x,h1,h2,y,h3⟩
  have same:∀ (i b y:Nat) (x:Blk),i ∉ σ→H[i]?=some x→x≠.dead→ρ[i]?=some (some (b,y))→w'.heap[b]?=w.heap[b]?:=fun i b y x hi h1 h2 h3=>by
    refine k.keep b (oldLive i b y x h1 h2 h3) fun hl=>?_
    obtain ⟨j,k0,z,h4,h5,h6⟩:=live0 b hl
    have:=hw.inj i k0 b ⟨x,h1,h2⟩ h5 y z h3 h6
    subst this
    exact hi (List.mem_of_getElem? h4)
  have clash:∀ (i j b y z:Nat) (x b1:Blk),i ∉ σ→H[i]?=some x→x≠.dead→ρ[i]?=some (some (b,y))→H1[j]?=some b1→b1≠.dead→ρ1[j]?=some (some (b,z))→False:=fun i j b y z x b1 hi h1 h2 h3 h4 h5 h6=>by
    have hlt:=oldLive i b y x h1 h2 h3
    rcases k.mine b ⟨j,b1,h4,h5,z,h6⟩ with h|h
    · have:w.heap.size≤b:=h
      omega
    · obtain ⟨j',k0,z',h7,h8,h9⟩:=live0 b h
      have:=hw.inj i k0 b ⟨x,h1,h2⟩ h8 y z' h3 h9
      subst this
      exact hi (List.mem_of_getElem? h7)
  have rlen:(ρ++ρ1.drop σ.length).length=(joinH σ fr H H1).length:=by simp [joinH,joinAt_len,hlenH,hl1]
  have up:∀ {v:V} {u:Value},VRel I ρ v u→VRel I' (ρ++ρ1.drop σ.length) v u:=fun h=>h.mono (Imm.le_trans hJ k.le) fun i x h=>by rw [List.getElem?_append_left (List.getElem?_eq_some_iff.1 h).1];exact h
  refine ⟨?_,hr⟩
  exact { len:=rlen
          inj:=fun i j b ⟨p,hp,hp'⟩ ⟨q,hq,hq'⟩ y z hy hz=>by
            rcases split i p hp hp' with ⟨a1,a2,_,a4⟩|⟨j1,p1,a1,a2,a3,a4,a5⟩<;>rcases split j q hq hq' with ⟨b1,b2,_,b4⟩|⟨j2,q1,b1,b2,b3,b4,b5⟩
            · exact hw.inj i j b ⟨p,a4,hp'⟩ ⟨q,b4,hq'⟩ y z (ρold i _ a1 hy) (ρold j _ b1 hz)
            · exact (clash i j2 b y z p q1 a2 a4 hp' (ρold i _ a1 hy) b2 (by rw [b3] at hq';exact Blk.ren_live.1 hq') (ρnew j j2 _ q1 b1 b2 hz)).elim
            · exact (clash j j1 b z y q p1 b2 b4 hq' (ρold j _ b1 hz) a2 (by rw [a3] at hp';exact Blk.ren_live.1 hp') (ρnew i j1 _ p1 a1 a2 hy)).elim
            · have:=k.inj j1 j2 b ⟨p1,a2,by rw [a3] at hp';exact Blk.ren_live.1 hp'⟩ ⟨q1,b2,by rw [b3] at hq';exact Blk.ren_live.1 hq'⟩ y z (ρnew i j1 _ p1 a1 a2 hy) (ρnew j j2 _ q1 b1 b2 hz)
              rw [a1,b1,this]
          imm:=k.imm
          apart:=fun b ⟨i,p,hp,hp',z,hz⟩=>by
            rcases split i p hp hp' with ⟨a1,a2,a3,a4⟩|⟨j1,p1,a1,a2,a3,a4,a5⟩
            · have hz:=ρold i _ a1 hz
              have hlt:=oldLive i b z p a4 hp' hz
              have hI:=hw.apart b ⟨i,p,a4,hp',z,hz⟩
              cases e:I' b with
              | none=>rfl
              | some o =>
                rcases k.news b (by rw [e];simp) with h|h|h
                · rcases hJn b h with h|⟨k0,z',h1,h2,h3⟩
                  · exact (h hI).elim
                  · have:=hw.inj i k0 b ⟨p,a4,hp'⟩ h2 z z' hz h3
                    subst this
                    exact (a3 h1).elim
                · have:w.heap.size≤b:=h
                  omega
                · obtain ⟨j',k0,z',h7,h8,h9⟩:=live0 b h
                  have:=hw.inj i k0 b ⟨p,a4,hp'⟩ h8 z z' hz h9
                  subst this
                  exact (a2 (List.mem_of_getElem? h7)).elim
            · exact k.apart b ⟨j1,p1,a2,by rw [a3] at hp';exact Blk.ren_live.1 hp',z,ρnew i j1 _ p1 a1 a2 hz⟩
          size:=fun i s m f h q hq=>by
            rcases split i _ h (by simp) with ⟨a1,a2,a3,a4⟩|⟨j1,p1,a1,a2,a3,a4,a5⟩
            · exact hw.size i s m f a4 q hq
            · cases p1<;>simp only [Blk.ren] at a3<;>cases a3
              rw [ren_cells_len]
              exact k.size j1 _ _ _ a2 q hq
          none:=fun i s m f h hn=>by
            rcases split i _ h (by simp) with ⟨a1,a2,a3,a4⟩|⟨j1,p1,a1,a2,a3,a4,a5⟩
            · exact hw.none i s m f a4 (ρold i _ a1 hn)
            · cases p1<;>simp only [Blk.ren] at a3<;>cases a3
              exact k.none j1 _ _ _ a2 (ρnew i j1 _ _ a1 a2 hn)
          arr:=fun i s m f b z h hz=>by
            rcases split i _ h (by simp) with ⟨a1,a2,a3,a4⟩|⟨j1,p1,a1,a2,a3,a4,a5⟩
            · have hz:=ρold i _ a1 hz
              refine (hw.arr i s m f b z a4 hz).mono (Imm.le_trans hJ k.le) (fun i x h=>?_) (same i b z _ a2 a4 (by simp) hz)
              rw [List.getElem?_append_left (List.getElem?_eq_some_iff.1 h).1];exact h
            · cases p1<;>simp only [Blk.ren] at a3<;>cases a3
              obtain ⟨cs,ty,h1,h2,h3,h4⟩:=k.arr j1 _ _ _ b z a2 (ρnew i j1 _ _ a1 a2 hz)
              refine ⟨cs,ty,h1,h2,h3,fun q j v hq hv=>?_⟩
              obtain ⟨y,h5,rfl⟩:=ren_cells_get _ hv
              obtain ⟨u,h6,h7⟩:=h4 q j y hq h5
              exact ⟨u,h6,h7.ren hr⟩
          map:=fun i ms h=>by
            rcases split i _ h (by simp) with ⟨a1,a2,a3,a4⟩|⟨j1,p1,a1,a2,a3,a4,a5⟩
            · obtain ⟨b,h1,h2⟩:=hw.map i ms a4
              refine ⟨b,by rw [List.getElem?_append_left (by omega)];exact h1,h2.mono (Imm.le_trans hJ k.le) (fun i x h=>?_) (same i b 0 _ a2 a4 (by simp) h1)⟩
              rw [List.getElem?_append_left (List.getElem?_eq_some_iff.1 h).1];exact h
            · cases p1<;>simp only [Blk.ren] at a3<;>cases a3
              obtain ⟨b,h1,es,clk,h2,h3,h4⟩:=k.map j1 _ a2
              refine ⟨b,by rw [a1];exact hr j1 _ h1,es,clk,h2,⟨by simpa using h3.size,h3.born⟩,fun q e x he hx=>?_⟩
              rw [List.getElem?_map] at hx
              obtain ⟨y,h5,rfl⟩:=Option.map_eq_some_iff.1 hx
              obtain ⟨h6,h7⟩:=h4 q e y he h5
              exact ⟨h6,h7.ren hr⟩
          mine:=fun b ⟨i,p,hp,hp',z,hz⟩=>by
            rcases split i p hp hp' with ⟨a1,a2,a3,a4⟩|⟨j1,p1,a1,a2,a3,a4,a5⟩
            · exact hw.mine b ⟨i,p,a4,hp',z,ρold i _ a1 hz⟩
            · rcases k.mine b ⟨j1,p1,a2,by rw [a3] at hp';exact Blk.ren_live.1 hp',z,ρnew i j1 _ p1 a1 a2 hz⟩ with h|h
              · exact .inl (Nat.le_trans hw.grow h)
              · exact hw.mine b (live0' b h)
          news:=fun b hb=>by
            rcases k.news b hb with h|h|h
            · rcases hJn b h with h|⟨k0,z',_,⟨x,h1,h2⟩,h3⟩
              · exact hw.news b h
              · exact .inr (hw.mine b ⟨k0,x,h1,h2,z',h3⟩)
            · exact .inr (.inl (Nat.le_trans hw.grow h))
            · exact .inr (hw.mine b (live0' b h))
          le:=Imm.le_trans hw.le (Imm.le_trans hJ k.le)
          pre:=hw.pre.trans fun i x h=>by rw [List.getElem?_append_left (List.getElem?_eq_some_iff.1 h).1];exact h
          os:=k.os.trans hw.os,tape:=k.tape.trans hw.tape,out:=k.out.trans hw.out,grow:=Nat.le_trans hw.grow k.grow
          keep:=fun b hb hl=>by
            refine (k.keep b (Nat.lt_of_lt_of_le hb hw.grow) fun h=>?_).trans (hw.keep b hb hl)
            rcases hw.mine b (live0' b h) with h1|h1
            · omega
            · exact hl h1 }
end
def ArgsSub (H:Heap) (σ fr:List Nat):List V→List V→Prop
  | [],[]=>True
  | v::l,x::m=>VSub H (σ.map some) (·∈fr) v x∧ArgsSub H σ fr l m
  | _,_=>False
theorem argsSub_rel {H:Heap}{σ fr:List Nat}{I J:Imm}{ρ ρ':List (Option (Nat × Nat))}(rel:∀ {v x:V}{u:Value},VSub H (σ.map some) (·∈fr) v x→VRel I ρ v u→VRel J ρ' x u) :
    ∀ {vs xs:List V} {us:List Value},ArgsSub H σ fr vs xs→VRels I ρ vs us.toArray→VRels J ρ' xs us.toArray
  | [],[],us,_,h=>⟨h.1,fun j v u hj=>by simp at hj⟩
  | v::vs,x::xs,us,⟨ha1,ha2⟩,h=>by
    cases us with
    | nil=>have:=h.1;simp at this
    | cons u us =>
      have h1:VRels I ρ vs us.toArray:=⟨by have:=h.1;simpa using this,fun j v u hj hu=>h.2 (j+1) v u (by simpa using hj) (by simpa using hu)⟩
      have ih:=argsSub_rel rel ha2 h1
      refine ⟨by have:=ih.1;simpa using this,fun j y q hj hu=>?_⟩
      cases j with
      | zero=>simp at hj hu;subst hj hu;exact rel ha1 (h.2 0 v u rfl rfl)
      | succ j=>exact ih.2 j y q (by simpa using hj) (by simpa using hu)
  | [],_::_,_,h,_=>h.elim
  | _::_,[],_,h,_=>h.elim
section
variable {P:Program}{r:Option Nat}{m nt:Nat}{Q:Post}{env:Env}{H H0:Heap}{ops:Array Oper}{l:List Stp}{dst:Option Tmp}{ty:TypeId}{pos:String}{after:Array Edge}{guard:Option (Nat × Bool)}{keep:Bool}
theorem ls_gcall (σ fr:List Nat) {fo:Operand}{args:List Operand}{ats:Array TypeId}{f:FuncId}{first cap vs xs:List V}{R Rp:V→Heap→Prop}(hfn:FnOk P f) (hf:eo env fo=some (.fn (.func f) first cap)) (hargs:args.mapM (eo env)=some vs)
    (ha:ArgsSub H σ fr (first++vs++cap) xs) (hlen:σ.length=H0.length) (hinj:σ.Nodup) (hfr:∀ b∈fr,b ∉ σ) (hh:HSub H (σ.map some) (·∈fr) 0 H0) (hlive:∀ b∈H0,b≠.dead) (h:ACalls P f xs H0 R Rp) :
    LS P r m nt false env H ⟨dst,.call ⟨.value fo,args.toArray,ats⟩,ty,pos,after,guard⟩ (fun v H'=>∃ v1 H1,R v1 H1∧v=v1.ren (rn σ H.length)∧H'=joinH σ fr H H1) (fun v H'=>∃ v1 H1,Rp v1 H1∧v=v1.ren (rn σ H.length)∧H'=joinH σ fr H H1):=.mk
  fun X I ρ a w next Qx hX hs hk hp=>by
    have hw:=hs.2.1
    have h1:=eo_rel hs.1 hf
    cases h1':a.eval fo<;>rw [h1'] at h1<;>cases h1
    rename_i us ws e1 e2 e3 e4
    have hrel:VRels I ρ (first++vs++cap) (us++(args.map a.eval).toArray++ws):=(VRels.append ⟨e1,e2⟩ (evals hs.1 hargs)).append ⟨e3,e4⟩
    obtain ⟨J,hJ,hJn,hwJ,rel⟩:=relocate_ok hw σ fr hlen hinj hfr hh
    have hrel':=argsSub_rel (us:=(us++(args.map a.eval).toArray++ws).toList) rel ha (by rw [Array.toArray_toList];exact hrel)
    rw [Array.toArray_toList] at hrel'
    refine wpIn_of_run (by simp) (call_run hfn h1' w) ⟨fun h=>by simp [Fw,Fence.wide] at h,callsIn_fw.2 ((h.1 _ J _ w _ hwJ hrel').mono fun e w' ⟨v,u,I',ρ1,H1,hle,hpre,hw',hr,h2⟩=>?_)⟩
    obtain ⟨hj,hren⟩:=hw.joinG σ fr hlen hinj hfr hh hlive hJ hJn hw'
    rcases h2 with ⟨rfl,hR⟩|⟨rfl,hR⟩
    · exact hk I' _ _ _ u w' ⟨v,H1,hR,rfl,rfl⟩ (Imm.le_trans hJ hle) (fun i x h=>by rw [List.getElem?_append_left (List.getElem?_eq_some_iff.1 h).1];exact h) hj (hr.ren hren) (by simp)
    · exact hp I' _ _ _ u w' ⟨v,H1,hR,rfl,rfl⟩ (Imm.le_trans hJ hle) hj (hr.ren hren)
theorem ar_gcall (σ fr:List Nat) {i d:Nat}{fo:Operand}{args:List Operand}{ats:Array TypeId}{f:FuncId}{first cap vs xs:List V}{R Rp:V→Heap→Prop}(hfn:FnOk P f) (hf:eo env fo=some (.fn (.func f) first cap)) (hargs:args.mapM (eo env)=some vs)
    (ha:ArgsSub H σ fr (first++vs++cap) xs) (hlen:σ.length=H0.length) (hinj:σ.Nodup) (hfr:∀ b∈fr,b ∉ σ) (hh:HSub H (σ.map some) (·∈fr) 0 H0) (hlive:∀ b∈H0,b≠.dead) (h:ACalls P f xs H0 R Rp) (hd:d<nt)
    (hk:∀ v1 H1,R v1 H1→AR P r m nt ops Q l ((d,v1.ren (rn σ H.length))::env) (joinH σ fr H H1)) (hp:∀ v1 H1,Rp v1 H1→Q (.panic (v1.ren (rn σ H.length))) [] (joinH σ fr H H1)) :
    AR P r m nt ops Q (.l i ⟨some d,.call ⟨.value fo,args.toArray,ats⟩,ty,pos,after,Option.none⟩ false::l) env H :=
  ar_l (ls_gcall σ fr hfn hf hargs ha hlen hinj hfr hh hlive h) hd (fun v H' ⟨v1,H1,hR,a,b⟩=>by subst a;subst b;exact hk v1 H1 hR) (fun v H' ⟨v1,H1,hR,a,b⟩=>by subst a;subst b;exact hp v1 H1 hR)
end
end Go.Proofs.YtbilpbabdgfblaaGreat
namespace Go.Proofs.YtbilpbabdgfblaaGreat
open Go.ChangeShapes Go.WideShapes Go.ChangeAt Go.RowKit Go.Deep
def vu8 (n:Int):V:=.s (.int .u8 n)
structure Itm where
  kind:Int
  src:Int
  place:Int
  uses:Int
  gone:Bool
instance:Inhabited Itm:=⟨⟨0,0,0,0,false⟩⟩
structure Prt where
  plate:Int
  state:Int
instance:Inhabited Prt:=⟨⟨0,0⟩⟩
structure Sto where
  life:Int
  items:List Itm
  prints:List Prt
structure Deed where
  kind:Int
  item:Int
  dest:Int
  n:Int
instance:Inhabited Deed:=⟨⟨0,0,0,0⟩⟩
def Itm.enc (x:Itm):V:=.agg [vu8 x.kind,vi x.src,vi x.place,vi x.uses,vb x.gone]
def Prt.enc (x:Prt):V:=.agg [vi x.plate,vu8 x.state]
abbrev encItems (l:List Itm):V:=LV 5 Itm.enc l
abbrev encPrints (l:List Prt):V:=LV 2 Prt.enc l
def Sto.enc (s:Sto):V:=.agg [vi s.life,encItems s.items,encPrints s.prints]
def Deed.enc (x:Deed):V:=.agg [vu8 x.kind,vi x.item,vi x.dest,vi x.n]
def u8ok (n:Int):Prop:=0≤n∧n≤255
def Itm.wf (x:Itm):Prop:=u8ok x.kind∧i64ok x.src∧i64ok x.place∧i64ok x.uses
def Prt.wf (x:Prt):Prop:=i64ok x.plate∧u8ok x.state
def Sto.wf (s:Sto):Prop:=i64ok s.life∧(∀ x,x∈s.items→x.wf)∧∀ x,x∈s.prints→x.wf
def Deed.wf (x:Deed):Prop:=u8ok x.kind∧i64ok x.item∧i64ok x.dest∧i64ok x.n
theorem rv_u8 {P:Program}{t:TypeId}(ht:P.underlying t=some (.int .u8)) (hc:P.cellsOf t=1):ReadsV P t vu8 u8ok 1 :=
  ⟨hc,by omega,fun h=>by
    obtain ⟨n,rfl,_,hw⟩:=DataW.trod_int ht h
    exact ⟨n,bounds_u8 hw,rfl,rfl,fun j x u hx hu=>by
      cases j with
      | zero=>simp [vu8,cells_s] at hx hu;subst hx hu;exact .s _
      | succ j=>simp at hu⟩⟩
theorem rv_U8:ReadsV Tryz.prog 5 vu8 u8ok 1:=rv_u8 Tryz.underlying5 (by kernel_rfl)
set_option maxRecDepth 100000 in
theorem rv_deed:ReadsV Tryz.prog 42 Deed.enc Deed.wf 4 :=
  ⟨by kernel_rfl,by omega,fun {_ _ _ _ _ _ _ cs _} h=>by
    have hlen:=struct_len Tryz.underlying42 h
    rw [show Tryz.prog.cellsOf 42=4 by kernel_rfl] at hlen
    obtain ⟨k0,o0,l0,e0⟩:=struct_part Tryz.underlying42 h 0 rfl rv_U8
    obtain ⟨k1,o1,l1,e1⟩:=struct_part Tryz.underlying42 h 1 rfl rv_Int
    obtain ⟨k2,o2,l2,e2⟩:=struct_part Tryz.underlying42 h 2 rfl rv_Int
    obtain ⟨k3,o3,l3,e3⟩:=struct_part Tryz.underlying42 h 3 rfl rv_Int
    refine ⟨⟨k0,k1,k2,k3⟩,⟨o0,o1,o2,o3⟩,hlen,hlen.symm,fun j x u hx hu=>?_⟩
    match j,hx with
    | 0,hx=>cases hx;exact cells_one e0 rfl hu
    | 1,hx=>cases hx;exact cells_one e1 rfl hu
    | 2,hx=>cases hx;exact cells_one e2 rfl hu
    | 3,hx=>cases hx;exact cells_one e3 rfl hu
    | j+4,hx=>simp [Deed.enc,cells_agg] at hx⟩
def Made (l:List Itm) (i:Nat):Prop:=((el l i).kind=1∧(el l i).src=-1)∨(((el l i).kind=2∨(el l i).kind=3)∧(0≤(el l i).src∧(el l i).src<(i:Int))∧(el l (el l i).src.toNat).kind=(el l i).kind-1)
instance (l:List Itm) (i:Nat):Decidable (Made l i):=by unfold Made;infer_instance
def PlacedTo (l:List Itm) (i k:Nat):Prop:=(0≤(el l i).place∧(el l i).place≤9)∧((el l i).gone=true→(el l i).place=0)∧(2≤(el l i).place→(el l i).kind=3∧∀ j,j<k→j≠i→(el l j).place≠(el l i).place)
instance (l:List Itm) (i k:Nat):Decidable (PlacedTo l i k):=by unfold PlacedTo;infer_instance
def Placed (l:List Itm) (i:Nat):Prop:=PlacedTo l i l.length
instance (l:List Itm) (i:Nat):Decidable (Placed l i):=by unfold Placed;infer_instance
def cntB (p:Nat→Bool):Nat→Int
  | 0=>0
  | k+1=>cntB p k+(if p k=true then 1 else 0)
theorem cntB_bnd {p:Nat→Bool}:∀ k:Nat,0≤cntB p k∧cntB p k≤k
  | 0=>by simp [cntB]
  | k+1=>by
    have:=cntB_bnd (p:=p) k
    simp only [cntB]
    split<;>omega
theorem cntB_yes {p:Nat→Bool}{k:Nat}(h:p k=true):cntB p (k+1)=cntB p k+1:=by simp [cntB,h]
theorem cntB_no {p:Nat→Bool}{k:Nat}(h:p k=false):cntB p (k+1)=cntB p k:=by simp [cntB,h]
theorem cntB_congr {p q:Nat→Bool}:∀ {k:Nat},(∀ j,j<k→p j=q j)→cntB p k=cntB q k
  | 0,_=>rfl
  | k+1,h=>by simp only [cntB];rw [cntB_congr fun j hj=>h j (by omega),h k (by omega)]
theorem cntB_none {p:Nat→Bool}:∀ {k:Nat},(∀ j,j<k→p j=false)→cntB p k=0
  | 0,_=>rfl
  | k+1,h=>by simp only [cntB];rw [cntB_none fun j hj=>h j (by omega),h k (by omega)];rfl
def usedI (l:List Itm) (i:Int) (k:Nat):Int:=cntB (fun j=>decide ((el l j).src=i)) k
def usedP (l:List Prt) (i:Int) (k:Nat):Int:=cntB (fun j=>decide ((el l j).plate=i)) k
def usedS (s:Sto) (i:Int):Int:=usedI s.items i s.items.length+usedP s.prints i s.prints.length
def Printed (l:List Itm) (p:Prt):Prop:=(0≤p.plate∧p.plate<(l.length:Int))∧(el l p.plate.toNat).kind=3∧p.state≤2
instance (l:List Itm) (p:Prt):Decidable (Printed l p):=by unfold Printed;infer_instance
def mostOf (life:Int) (x:Itm):Int:=if x.kind=3 then life else 10
def UsedOk (s:Sto) (i:Nat):Prop:=(el s.items i).uses=usedS s i∧(el s.items i).uses≤mostOf s.life (el s.items i)
instance (s:Sto) (i:Nat):Decidable (UsedOk s i):=by unfold UsedOk;infer_instance
def Few (s:Sto):Prop:=(1≤s.life∧s.life≤1000)∧s.items.length≤30∧s.prints.length≤400
instance (s:Sto):Decidable (Few s):=by unfold Few;infer_instance
def Valid (s:Sto):Prop:=Few s∧(∀ i,i<s.items.length→Made s.items i)∧(∀ i,i<s.items.length→Placed s.items i)∧(∀ j,j<s.prints.length→Printed s.items (el s.prints j))∧∀ i,i<s.items.length→UsedOk s i
instance (s:Sto):Decidable (Valid s):=by unfold Valid;infer_instance
theorem placed_all {l:List Itm}(h:∀ i,i<l.length→PlacedTo l i i):∀ i,i<l.length→Placed l i:=fun i hi=>by
  obtain ⟨h1,h2,h3⟩:=h i hi
  refine ⟨h1,h2,fun hp=>⟨(h3 hp).1,fun j hj hne=>?_⟩⟩
  by_cases hlt:j<i
  · exact (h3 hp).2 j hlt hne
  · intro e
    exact ((h j hj).2.2 (by omega)).2 i (by omega) (by omega) e.symm
theorem placed_to {l:List Itm}{i:Nat}(h:Placed l i) (hi:i≤l.length):PlacedTo l i i :=
  ⟨h.1,h.2.1,fun hp=>⟨(h.2.2 hp).1,fun j hj hne=>(h.2.2 hp).2 j (by omega) hne⟩⟩
def pressTo (l:List Itm):Nat→List (Int × Int)
  | 0=>[]
  | i+1=>if 2≤(el l i).place then putE (pressTo l i) (el l i).place i else pressTo l i
theorem getE_put {α:Type}:∀ (l:List (Int × α)) (a b:Int) (v:α),getE (putE l a v) b=if b=a then some v else getE l b
  | [],a,b,v=>by simp only [putE,getE]
  | p::l,a,b,v=>by
    simp only [putE]
    by_cases h:a=p.1
    · rw [if_pos h]
      simp only [getE]
      by_cases hb:b=p.1
      · rw [if_pos hb,if_pos (by rw [hb,h])]
      · rw [if_neg hb,if_neg (by rw [h];exact hb),if_neg hb]
    · rw [if_neg h]
      simp only [getE]
      by_cases hb:b=p.1
      · rw [if_pos hb,if_neg (by rw [hb];exact fun e=>h e.symm),if_pos hb]
      · rw [if_neg hb,if_neg hb,getE_put l a b v]
def keysOk {α:Type}(l:List (Int × α)):Prop:=(l.map (·.1)).Nodup
theorem put_keys {α:Type}:∀ {l:List (Int × α)}{a:Int}{v:α}{x:Int},x∈(putE l a v).map (·.1)→x=a∨x∈l.map (·.1)
  | [],a,v,x,h=>by simpa [putE] using h
  | p::l,a,v,x,h=>by
    simp only [putE] at h
    by_cases hp:a=p.1
    · rw [if_pos hp] at h;exact .inr (by simpa using h)
    · rw [if_neg hp] at h
      simp only [List.map_cons,List.mem_cons] at h ⊢
      rcases h with h|h
      · exact .inr (.inl h)
      · rcases put_keys h with h|h
        · exact .inl h
        · exact .inr (.inr h)
theorem keysOk_put {α:Type}:∀ {l:List (Int × α)}{a:Int}{v:α},keysOk l→keysOk (putE l a v)
  | [],a,v,_=>by simp [putE,keysOk]
  | p::l,a,v,h=>by
    unfold keysOk at h ⊢
    simp only [putE]
    by_cases hp:a=p.1
    · rw [if_pos hp];simpa using h
    · rw [if_neg hp]
      simp only [List.map_cons,List.nodup_cons] at h ⊢
      refine ⟨fun hm=>?_,keysOk_put h.2⟩
      rcases put_keys hm with e|e
      · exact hp e.symm
      · exact h.1 e
structure PressOk (l:List Itm) (m:List (Int × Int)):Prop where
  keys:keysOk m
  iff:∀ (p i:Int),getE m p=some i↔2≤p∧0≤i∧i<(l.length:Int)∧(el l i.toNat).place=p
theorem pressTo_ok {l:List Itm}:∀ k,(∀ i,i<k→PlacedTo l i i)→keysOk (pressTo l k)∧∀ (p i:Int),getE (pressTo l k) p=some i↔2≤p∧0≤i∧i<(k:Int)∧(el l i.toNat).place=p
  | 0,_=>⟨by simp [pressTo,keysOk],fun p i=>by simp only [pressTo,getE];constructor;intro h;cases h;intro h;omega⟩
  | k+1,h=>by
    obtain ⟨h1,h2⟩:=pressTo_ok k (fun i hi=>h i (by omega))
    obtain ⟨_,_,h5⟩:=h k (by omega)
    simp only [pressTo]
    by_cases hp:2≤(el l k).place
    · rw [if_pos hp]
      refine ⟨keysOk_put h1,fun p i=>?_⟩
      rw [getE_put]
      by_cases e:p=(el l k).place
      · rw [if_pos e]
        constructor
        · intro hi
          cases hi
          refine ⟨by omega,by omega,by omega,?_⟩
          rw [Int.toNat_natCast]
          exact e.symm
        · rintro ⟨a1,a2,a3,a4⟩
          by_cases hi:i=(k:Int)
          · rw [hi]
          · exfalso
            exact (h5 hp).2 i.toNat (by omega) (by omega) (by rw [a4,e])
      · rw [if_neg e,h2 p i]
        constructor
        · rintro ⟨a1,a2,a3,a4⟩
          exact ⟨a1,a2,by omega,a4⟩
        · rintro ⟨a1,a2,a3,a4⟩
          refine ⟨a1,a2,?_,a4⟩
          have:i≠(k:Int):=fun hi=>e (by rw [← a4,hi,Int.toNat_natCast])
          omega
    · rw [if_neg hp]
      refine ⟨h1,fun p i=>?_⟩
      rw [h2 p i]
      constructor
      · rintro ⟨a1,a2,a3,a4⟩
        exact ⟨a1,a2,by omega,a4⟩
      · rintro ⟨a1,a2,a3,a4⟩
        refine ⟨a1,a2,?_,a4⟩
        have:i≠(k:Int):=fun hi=>by rw [hi,Int.toNat_natCast] at a4;omega
        omega
theorem press_free {l:List Itm}{k:Nat}{p:Int}(h:∀ i,i<k→PlacedTo l i i) (hp:2≤p) (hg:getE (pressTo l k) p=none):∀ j,j<k→(el l j).place≠p:=fun j hj e=>by
  have:=((pressTo_ok k h).2 p j).2 ⟨hp,by omega,by omega,by rw [Int.toNat_natCast];exact e⟩
  rw [hg] at this
  cases this
theorem press_taken {l:List Itm}{k:Nat}{p v:Int}(h:∀ i,i<k→PlacedTo l i i) (hg:getE (pressTo l k) p=some v):2≤p∧∃ j,j<k∧(el l j).place=p:=by
  obtain ⟨a1,a2,a3,a4⟩:=((pressTo_ok k h).2 p v).1 hg
  exact ⟨a1,v.toNat,by omega,a4⟩
theorem pressTo_yes {l:List Itm}{k:Nat}(h:2≤(el l k).place):pressTo l (k+1)=putE (pressTo l k) (el l k).place k:=by simp only [pressTo,if_pos h]
theorem pressTo_no {l:List Itm}{k:Nat}(h:¬ 2≤(el l k).place):pressTo l (k+1)=pressTo l k:=by simp only [pressTo,if_neg h]
theorem press_ok {l:List Itm}(h:∀ i,i<l.length→Placed l i):PressOk l (pressTo l l.length):=by
  obtain ⟨h1,h2⟩:=pressTo_ok l.length (fun i hi=>placed_to (h i hi) (by omega))
  exact ⟨h1,h2⟩
theorem lineAt_iff {s:Sheet}{l:List Int}{k:Nat}:lineAt s l k=true↔(0≤el l k∧el l k≤s.rows-s.weight)∧(k=0∨(-s.lean≤el l k-el l (k-1)∧el l k-el l (k-1)≤s.lean)):=by
  simp [lineAt,withinB_iff]
theorem isLineB_iff {s:Sheet}{l:List Int}:isLineB s l=true↔(l.length:Int)=s.cols∧∀ j,j<l.length→lineAt s l j=true:=by
  simp [isLineB,List.all_eq_true]
theorem isLine_no {s:Sheet}{l:List Int}{k:Nat}(hk:k<l.length) (h:lineAt s l k=false):isLineB s l=false:=by
  cases e:isLineB s l with
  | false=>rfl
  | true=>have:=(isLineB_iff.1 e).2 k hk;rw [h] at this;cases this
theorem isLine_yes {s:Sheet}{l:List Int}(h:∀ j,j<l.length→lineAt s l j=true):isLineB s l=decide ((l.length:Int)=s.cols):=by
  rw [Bool.eq_iff_iff,isLineB_iff,decide_eq_true_eq]
  exact ⟨fun h=>h.1,fun e=>⟨e,h⟩⟩
theorem isLine_p (s:Sheet) (hs:s.ok=true) (l:List Int):PCalls Tryz.prog 149 [s.enc,encInts l] (·=vb (isLineB s l)):=by
  (refine pcalls_know (fun I us h=>rel_len (rel_arg h (j:=1) rfl)) fun hlen1=>?_)
  have hb:=Sheet.bounds hs
  refine pcalls_of_aw Tryz.func149 rfl (dc rfl) ?_
  (repeat' (first|(refine ar_isq ?_;refine zq ?_)|refine zg ?_ ?_|refine zgu ?_|refine zst ?_|refine aw_drawn (id:=4) [(0,0),(1,0),(2,0),(3,0),(4,0),(5,0),(6,1),(7,0),(8,0),(9,0),(10,0),(11,0),(12,0),(13,0),(14,0),(15,0),(16,0),(17,0),(18,0),(19,0),(20,0),(21,0),(22,0),(23,0),(24,1),(25,0),(26,0),(27,0)] mixed (by kernel_rfl) ?_|refine aw_drawn (id:=4) [(0,0),(1,0),(2,0),(3,0),(4,0),(5,0),(6,2),(7,0),(8,0),(9,0),(10,0),(11,0),(12,0),(13,0),(14,0),(15,0),(16,0),(17,0),(18,0),(19,0),(20,0),(21,0),(22,0),(23,0),(24,2),(25,0),(26,0),(27,0)] mixed (by kernel_rfl) ?_|refine zco ?_ ?_|(refine fun (hg:(_:Prop))=>?_;first|exact absurd hg (by decide)|((try replace hg:=HG.out hg);(try dsimp only at hg);(try rw [withinB_iff] at hg);(try rw [withinB_no] at hg);(try (have _h:True:=hg;clear _h hg));first|(exfalso;omega)|skip))))
  refine aw_for l.length (fun k=>∀ j,j<k→lineAt s l j=true) (fun k=>[(0,s.enc),(1,encInts l),(2,.ptr 5 0 0 0),(7,encInts l),(8,vi l.length),(9,vi k)]) (fun _=>[.arr 5 1 (fun _=>s.enc)]) (fun j hj=>by omega) ?_ ?_
  · (exact zsb [some 0] [])
  intro k hk hJ
  have hp:=fun h:0<k=>lineAt_iff.1 (hJ (k-1) (by omega))
  by_cases h0:0<k
  · have hp:=hp h0
    (repeat' (first|(refine ar_isq ?_;refine zq ?_)|refine zil (j:=k-1) ?_|refine zis (j:=k-1) ?_|refine zit (j:=k-1) ?_|(refine zpv fn70 (within_p _ _ _) ?_)|refine zg ?_ ?_|refine zgu ?_|refine zst ?_|refine aw_drawn (id:=4) [(0,0),(1,0),(2,0),(3,0),(4,0),(5,0),(6,1),(7,0),(8,0),(9,0),(10,0),(11,0),(12,0),(13,0),(14,0),(15,0),(16,0),(17,0),(18,0),(19,0),(20,0),(21,0),(22,0),(23,0),(24,1),(25,0),(26,0),(27,0)] mixed (by kernel_rfl) ?_|refine aw_drawn (id:=4) [(0,0),(1,0),(2,0),(3,0),(4,0),(5,0),(6,2),(7,0),(8,0),(9,0),(10,0),(11,0),(12,0),(13,0),(14,0),(15,0),(16,0),(17,0),(18,0),(19,0),(20,0),(21,0),(22,0),(23,0),(24,2),(25,0),(26,0),(27,0)] mixed (by kernel_rfl) ?_|refine zco ?_ ?_|(refine fun (hg:(_:Prop))=>?_;first|exact absurd hg (by decide)|((try replace hg:=HG.out hg);(try dsimp only at hg);(try rw [withinB_iff] at hg);(try rw [withinB_no] at hg);(try (have _h:True:=hg;clear _h hg));first|(exfalso;omega)|skip))))
    all_goals first
      | (((first|refine loop_next (by omega) ?_ ?_|refine (show _∧_∧SubOf _ _ _ _ _ _ from And.intro (by omega) (And.intro ?_ ?_)));(focus (((exact all_step hJ (lineAt_iff.2 (by omega))));done));(focus (exact zsb [some 0] []))))
      | ((refine aw_ret ?_;(repeat (first|refine ret_then ?_|refine ret_block ?_));refine bq1 rfl ⟨?_,rfl⟩);first|(rw [isLine_no (k:=k) (by omega) (by rw [← Bool.not_eq_true,lineAt_iff];omega)];rfl)|(obtain rfl:k=l.length:=(by omega);rw [isLine_yes hJ];rfl))
  · (repeat' (first|(refine ar_isq ?_;refine zq ?_)|refine zil (j:=k-1) ?_|refine zis (j:=k-1) ?_|refine zit (j:=k-1) ?_|(refine zpv fn70 (within_p _ _ _) ?_)|refine zg ?_ ?_|refine zgu ?_|refine zst ?_|refine aw_drawn (id:=4) [(0,0),(1,0),(2,0),(3,0),(4,0),(5,0),(6,1),(7,0),(8,0),(9,0),(10,0),(11,0),(12,0),(13,0),(14,0),(15,0),(16,0),(17,0),(18,0),(19,0),(20,0),(21,0),(22,0),(23,0),(24,1),(25,0),(26,0),(27,0)] mixed (by kernel_rfl) ?_|refine aw_drawn (id:=4) [(0,0),(1,0),(2,0),(3,0),(4,0),(5,0),(6,2),(7,0),(8,0),(9,0),(10,0),(11,0),(12,0),(13,0),(14,0),(15,0),(16,0),(17,0),(18,0),(19,0),(20,0),(21,0),(22,0),(23,0),(24,2),(25,0),(26,0),(27,0)] mixed (by kernel_rfl) ?_|refine zco ?_ ?_|(refine fun (hg:(_:Prop))=>?_;first|exact absurd hg (by decide)|((try replace hg:=HG.out hg);(try dsimp only at hg);(try rw [withinB_iff] at hg);(try rw [withinB_no] at hg);(try (have _h:True:=hg;clear _h hg));first|(exfalso;omega)|skip))))
    all_goals first
      | (((first|refine loop_next (by omega) ?_ ?_|refine (show _∧_∧SubOf _ _ _ _ _ _ from And.intro (by omega) (And.intro ?_ ?_)));(focus (((exact all_step hJ (lineAt_iff.2 (by omega))));done));(focus (exact zsb [some 0] []))))
      | ((refine aw_ret ?_;(repeat (first|refine ret_then ?_|refine ret_block ?_));refine bq1 rfl ⟨?_,rfl⟩);first|(rw [isLine_no (k:=k) (by omega) (by rw [← Bool.not_eq_true,lineAt_iff];omega)];rfl)|(obtain rfl:k=l.length:=(by omega);rw [isLine_yes hJ];rfl))
theorem everyRows_p (b:List (List Int)) {g:FuncId}{cap:List V}(hfn:FnOk Tryz.prog g) (hcap:V.closed.all cap=true) (p:List Int→Bool) (hc:∀ l,l∈b→PCalls Tryz.prog g (encInts l::cap) (·=vb (p l))) :
    PCalls Tryz.prog 147 [encRows b,.fn (.func g) [] cap] (·=vb (b.all p)):=by
  (refine pcalls_know (fun I us h=>rel_len (rel_arg h (j:=0) rfl)) fun hlen0=>?_)
  refine pcalls_of_aw Tryz.func147 rfl (dc rfl) ?_
  (repeat' (first|(refine ar_isq ?_;refine zq ?_)|refine zst ?_|refine zco ?_ ?_|(refine fun (hg:(_:Prop))=>?_;first|exact absurd hg (by decide)|((try replace hg:=HG.out hg);(try dsimp only at hg);(try rw [withinB_iff] at hg);(try rw [withinB_no] at hg);(try (have _h:True:=hg;clear _h hg));first|(exfalso;omega)|skip))))
  refine aw_for b.length (fun k=>∀ j,j<k→p (el b j)=true) (fun k=>[(1,.fn (.func g) [] cap),(7,encRows b),(8,vi b.length),(9,vi k)]) (fun _=>[]) (fun j hj=>by omega) ?_ ?_
  · (exact zsb [] [])
  intro k hk hJ
  by_cases hkn:k<b.length
  · (repeat' (first|(refine ar_isq ?_;refine zq ?_)|(refine ar_pcall (own:=false) hfn rfl rfl (args_closed hcap) (hc _ (el_mem hkn)) (by simp) (dc rfl) ?_;intro _ hv;subst hv)|refine zst ?_|refine zco ?_ ?_|(refine fun (hg:(_:Prop))=>?_;first|exact absurd hg (by decide)|((try replace hg:=HG.out hg);(try dsimp only at hg);(try rw [withinB_iff] at hg);(try rw [withinB_no] at hg);(try (have _h:True:=hg;clear _h hg));first|(exfalso;omega)|skip))))
    all_goals first
      | (exfalso;omega)
      | ((first|refine loop_next (by omega) ?_ ?_|refine (show _∧_∧SubOf _ _ _ _ _ _ from And.intro (by omega) (And.intro ?_ ?_)));(focus ((exact all_step hJ (by assumption));done));(focus (exact zsb [] [])))
      | ((refine aw_ret ?_;(repeat (first|refine ret_then ?_|refine ret_block ?_));refine bq1 rfl ⟨?_,rfl⟩);rw [not_all_el hkn (by simp_all)];rfl)
  · (repeat' (first|(refine ar_isq ?_;refine zq ?_)|refine zst ?_|refine zco ?_ ?_|(refine fun (hg:(_:Prop))=>?_;first|exact absurd hg (by decide)|((try replace hg:=HG.out hg);(try dsimp only at hg);(try rw [withinB_iff] at hg);(try rw [withinB_no] at hg);(try (have _h:True:=hg;clear _h hg));first|(exfalso;omega)|skip))))
    all_goals first|omega|((refine aw_ret ?_;(repeat (first|refine ret_then ?_|refine ret_block ?_));refine bq1 rfl ⟨?_,rfl⟩);rw [all_el (fun j hj=>hJ j (by omega))];rfl)
theorem lines_p (s:Sheet) (hs:s.ok=true) (b:List (List Int)):PCalls Tryz.prog 102 [s.enc,encRows b] (·=vb (b.all (isLineB s))):=by
  have h1:∀ l,l∈b→PCalls Tryz.prog 148 (encInts l::[.ref s.enc 0]) (·=vb (isLineB s l)):=fun l hm=>by
    refine pcalls_of_aw Tryz.func148 rfl (dc rfl) ?_
    (repeat' (first|(refine ar_isq ?_;refine zq ?_)|(refine zpv fn149 (isLine_p s hs l) ?_)|refine zst ?_|refine zco ?_ ?_|(refine fun (hg:(_:Prop))=>?_;first|exact absurd hg (by decide)|((try replace hg:=HG.out hg);(try dsimp only at hg);(try rw [withinB_iff] at hg);(try rw [withinB_no] at hg);(try (have _h:True:=hg;clear _h hg));first|(exfalso;omega)|skip))))
    (refine aw_ret ?_;(repeat (first|refine ret_then ?_|refine ret_block ?_));refine bq1 rfl ⟨?_,rfl⟩)
    rfl
  refine pcalls_of_aw Tryz.func102 rfl (dc rfl) ?_
  ((repeat refine aw_seq ?_);(first|(refine aw_region ?_));(repeat' (first|(refine ar_isq ?_;refine zq ?_)|refine zsr ?_)))
  (refine aw_mono_r (env':=[(0,s.enc),(1,encRows b),(2,.ref s.enc 0)]) (H':=[]) ?_ ?_;(focus (exact zsb [] [0])))
  (repeat' (first|(refine ar_isq ?_;refine zq ?_)|(refine zpv fn147 (everyRows_p b fn148 rfl _ h1) ?_)|refine zst ?_|refine zco ?_ ?_|(refine fun (hg:(_:Prop))=>?_;first|exact absurd hg (by decide)|((try replace hg:=HG.out hg);(try dsimp only at hg);(try rw [withinB_iff] at hg);(try rw [withinB_no] at hg);(try (have _h:True:=hg;clear _h hg));first|(exfalso;omega)|skip))))
  (refine aw_ret ?_;(repeat (first|refine ret_then ?_|refine ret_block ?_));refine bq1 rfl ⟨?_,rfl⟩)
  rfl
structure Clash where
  upper:Int
  lower:Int
  col:Int
instance:Inhabited Clash:=⟨⟨0,0,0⟩⟩
def Clash.enc (x:Clash):V:=.agg [vi x.upper,vi x.lower,vi x.col]
abbrev encClashes (l:List Clash):V:=LV 3 Clash.enc l
def nearAt (s:Sheet) (a b:List Int) (j:Nat):Bool:=decide (el b j-el a j<s.weight+s.clear)
def clashF (s:Sheet) (a b:List Int):Int:=match (List.range s.cols.toNat).find? (nearAt s a b) with|some j=>(j:Int)|none=>-1
theorem clashF_at {s:Sheet}{a b:List Int}{k:Nat}(hk:(k:Int)<s.cols) (h0:∀ j,j<k→nearAt s a b j=false) (h:nearAt s a b k=true):clashF s a b=k:=by
  have:(List.range s.cols.toNat).find? (nearAt s a b)=some k:=by
    rw [List.find?_range_eq_some]
    exact ⟨h,by simp;omega,fun j hj=>by simp [h0 j hj]⟩
  unfold clashF
  rw [this]
theorem clashF_none {s:Sheet}{a b:List Int}(h0:∀ j:Nat,(j:Int)<s.cols→nearAt s a b j=false):clashF s a b=-1:=by
  have:(List.range s.cols.toNat).find? (nearAt s a b)=none:=by
    rw [List.find?_eq_none]
    intro j hj
    rw [List.mem_range] at hj
    simp [h0 j (by omega)]
  unfold clashF
  rw [this]
def clashAt (s:Sheet) (b:List (List Int)) (i:Nat):List Clash:=if clashF s (el b i) (el b (i+1))<0 then [] else [⟨i,(i:Int)+1,clashF s (el b i) (el b (i+1))⟩]
def clashesTo (s:Sheet) (b:List (List Int)) (k:Nat):List Clash:=(List.range k).flatMap (clashAt s b)
theorem clashesTo_succ (s:Sheet) (b:List (List Int)) (k:Nat):clashesTo s b (k+1)=clashesTo s b k++clashAt s b k:=by simp [clashesTo,List.range_succ]
theorem clashesTo_len (s:Sheet) (b:List (List Int)):∀ k,(clashesTo s b k).length≤k
  | 0=>by simp [clashesTo]
  | k+1=>by
    rw [clashesTo_succ,List.length_append]
    have:=clashesTo_len s b k
    have:(clashAt s b k).length≤1:=by unfold clashAt;split<;>simp
    omega
def clashesF (s:Sheet) (b:List (List Int)):List Clash:=clashesTo s b (b.length-1)
theorem clashesTo_yes {s:Sheet}{b:List (List Int)}{k x:Nat}(hx:(x:Int)<s.cols) (h0:∀ j,j<x→nearAt s (el b k) (el b (k+1)) j=false) (h:nearAt s (el b k) (el b (k+1)) x=true):clashesTo s b (k+1)=clashesTo s b k++[⟨k,(k:Int)+1,x⟩]:=by
  have e:=clashF_at hx h0 h
  rw [clashesTo_succ,clashAt,if_neg (by omega),e]
theorem clashesTo_no {s:Sheet}{b:List (List Int)}{k:Nat}(h0:∀ j:Nat,(j:Int)<s.cols→nearAt s (el b k) (el b (k+1)) j=false):clashesTo s b (k+1)=clashesTo s b k:=by
  have e:=clashF_none h0
  rw [clashesTo_succ,clashAt,if_pos (by omega),List.append_nil]
theorem isLine_len {s:Sheet}{l:List Int}(h:isLineB s l=true):(l.length:Int)=s.cols:=(isLineB_iff.1 h).1
theorem isLine_at {s:Sheet}{l:List Int}(h:isLineB s l=true) {j:Nat}(hj:j<l.length):0≤el l j∧el l j≤s.rows-s.weight:=(lineAt_iff.1 ((isLineB_iff.1 h).2 j hj)).1
theorem clashes_p (s:Sheet) (hs:s.ok=true) (b:List (List Int)) (hl:b.all (isLineB s)=true) (h12:b.length≤12):PCalls Tryz.prog 103 [s.enc,encRows b] (·=encClashes (clashesF s b)):=by
  have hb:=Sheet.bounds hs
  refine pcalls_of_aw Tryz.func103 rfl (dc rfl) ?_
  (repeat' (first|(refine ar_isq ?_;refine zq ?_)|(refine ar_buildS (ds:=?ds) (by exact ty rfl) (by exact rfl) (by exact sizes rfl) (by exact rfl) (by exact rfl) (by exact build rfl) (by exact dc rfl) ?hn ?h;(case hn=>(dsimp only [cells_s,cells_emp,cells_agg,cells_list,cells_sl,cells_ptr,cells_ref,cells_fn,cells_vi,cells_vb,cells_vnil,constV,List.map_cons,List.map_nil,List.take_succ_cons,List.take_zero,List.drop_succ_cons,List.drop_zero,List.cons_append,List.nil_append,List.append_nil,LV_cells];exact rfl)))|refine zst ?_|refine aw_drawn (id:=8) [(0,0),(1,0),(2,0),(3,0),(4,0),(5,0),(6,0),(7,0),(8,0),(9,0),(10,0),(11,0),(12,0),(13,0),(14,0),(15,0)] mixed (by kernel_rfl) ?_|refine zco ?_ ?_|exact zd|(refine fun (hg:(_:Prop))=>?_;(try replace hg:=HG.out hg);(try dsimp only at hg);(try (have _h:True:=hg;clear _h hg)))))
  refine aw_for (b.length-1) (fun _=>True) (fun k=>[(1,encRows b),(2,.ptr 5 0 0 0),(5,.sl 3 1 0 (clashesTo s b k).length),(6,vi (k+1))]) (fun k=>[.arr 5 1 (fun _=>s.enc),LB 3 Clash.enc (clashesTo s b k)]) trivial ?_ ?_
  · (exact zsb [some 0,none] [])
  intro k hk _
  by_cases hlt:k+1<b.length
  · have hli:=isLine_len (of_all_el hl hlt)
    have hlj:=isLine_len (of_all_el hl (k:=k) (by omega))
    have hle:=clashesTo_len s b k
    (repeat' (first|(refine ar_isq ?_;refine zq ?_)|refine zil (j:=k+1) ?_|refine zis (j:=k+1) ?_|refine zit (j:=k+1) ?_|refine zil (j:=k) ?_|refine zis (j:=k) ?_|refine zit (j:=k) ?_|(refine ar_buildS (ds:=?ds) (by exact ty rfl) (by exact rfl) (by exact sizes rfl) (by exact rfl) (by exact rfl) (by exact build rfl) (by exact dc rfl) ?hn ?h;(case hn=>(dsimp only [cells_s,cells_emp,cells_agg,cells_list,cells_sl,cells_ptr,cells_ref,cells_fn,cells_vi,cells_vb,cells_vnil,constV,List.map_cons,List.map_nil,List.take_succ_cons,List.take_zero,List.drop_succ_cons,List.drop_zero,List.cons_append,List.nil_append,List.append_nil,LV_cells];exact rfl)))|refine zst ?_|refine aw_drawn (id:=8) [(0,0),(1,0),(2,0),(3,0),(4,0),(5,0),(6,0),(7,0),(8,0),(9,0),(10,0),(11,0),(12,0),(13,0),(14,0),(15,0)] mixed (by kernel_rfl) ?_|refine zco ?_ ?_|exact zd|(refine fun (hg:(_:Prop))=>?_;(try replace hg:=HG.out hg);(try dsimp only at hg);(try (have _h:True:=hg;clear _h hg)))))
    all_goals (try (exfalso;omega))
    refine aw_for (el b (k+1)).length (fun x=>∀ j,j<x→nearAt s (el b k) (el b (k+1)) j=false) (fun x=>[(1,encRows b),(2,.ptr 5 0 0 0),(5,.sl 3 1 0 (clashesTo s b k).length),(6,vi (k+1)),(18,encInts (el b (k+1))),(19,vi (el b (k+1)).length),(20,vi x)]) (fun _=>[.arr 5 1 (fun _=>s.enc),LB 3 Clash.enc (clashesTo s b k)]) (fun j hj=>by omega) ?_ ?_
    · (exact zsb [some 0,some 1] [])
    intro x hx hN
    by_cases hltx:x<(el b (k+1)).length
    · have h1:=isLine_at (of_all_el hl hlt) (j:=x) (by omega)
      have h2:=isLine_at (of_all_el hl (k:=k) (by omega)) (j:=x) (by omega)
      (repeat' (first|(refine ar_isq ?_;refine zq ?_)|refine zil (j:=k) ?_|refine zis (j:=k) ?_|refine zit (j:=k) ?_|refine zil (j:=x) ?_|refine zis (j:=x) ?_|refine zit (j:=x) ?_|(refine ar_buildS (ds:=?ds) (by exact ty rfl) (by exact rfl) (by exact sizes rfl) (by exact rfl) (by exact rfl) (by exact build rfl) (by exact dc rfl) ?hn ?h;(case hn=>(dsimp only [cells_s,cells_emp,cells_agg,cells_list,cells_sl,cells_ptr,cells_ref,cells_fn,cells_vi,cells_vb,cells_vnil,constV,List.map_cons,List.map_nil,List.take_succ_cons,List.take_zero,List.drop_succ_cons,List.drop_zero,List.cons_append,List.nil_append,List.append_nil,LV_cells];exact rfl)))|refine zst ?_|refine aw_drawn (id:=8) [(0,0),(1,0),(2,0),(3,0),(4,0),(5,0),(6,0),(7,0),(8,0),(9,0),(10,0),(11,0),(12,0),(13,0),(14,0),(15,0)] mixed (by kernel_rfl) ?_|refine zco ?_ ?_|exact zd|(refine fun (hg:(_:Prop))=>?_;(try replace hg:=HG.out hg);(try dsimp only at hg);(try (have _h:True:=hg;clear _h hg)))))
      all_goals first
        | (exfalso;omega)
        | (((first|refine loop_next (by omega) ?_ ?_|refine (show _∧_∧SubOf _ _ _ _ _ _ from And.intro (by omega) (And.intro ?_ ?_)));(focus ((exact all_step hN (by simp [nearAt];omega));done));(focus (exact zsb [some 0,some 1] []))))
        | (rw [clashesTo_yes (x:=x) (by omega) hN (by simp [nearAt];omega)];((first|refine loop_next (by omega) ?_ ?_|refine (show _∧_∧SubOf _ _ _ _ _ _ from And.intro (by omega) (And.intro ?_ ?_)));(focus ((trivial);done));(focus (exact zsb [some 0,some 3] []))))
    · (repeat' (first|(refine ar_isq ?_;refine zq ?_)|(refine ar_buildS (ds:=?ds) (by exact ty rfl) (by exact rfl) (by exact sizes rfl) (by exact rfl) (by exact rfl) (by exact build rfl) (by exact dc rfl) ?hn ?h;(case hn=>(dsimp only [cells_s,cells_emp,cells_agg,cells_list,cells_sl,cells_ptr,cells_ref,cells_fn,cells_vi,cells_vb,cells_vnil,constV,List.map_cons,List.map_nil,List.take_succ_cons,List.take_zero,List.drop_succ_cons,List.drop_zero,List.cons_append,List.nil_append,List.append_nil,LV_cells];exact rfl)))|refine zst ?_|refine aw_drawn (id:=8) [(0,0),(1,0),(2,0),(3,0),(4,0),(5,0),(6,0),(7,0),(8,0),(9,0),(10,0),(11,0),(12,0),(13,0),(14,0),(15,0)] mixed (by kernel_rfl) ?_|refine zco ?_ ?_|exact zd|(refine fun (hg:(_:Prop))=>?_;(try replace hg:=HG.out hg);(try dsimp only at hg);(try (have _h:True:=hg;clear _h hg)))))
      all_goals first
        | (exfalso;omega)
        | (rw [clashesTo_no (k:=k) fun j hj=>hN j (by omega)];((first|refine loop_next (by omega) ?_ ?_|refine (show _∧_∧SubOf _ _ _ _ _ _ from And.intro (by omega) (And.intro ?_ ?_)));(focus ((trivial);done));(focus (exact zsb [some 0,some 1] []))))
  · (repeat' (first|(refine ar_isq ?_;refine zq ?_)|(refine ar_buildS (ds:=?ds) (by exact ty rfl) (by exact rfl) (by exact sizes rfl) (by exact rfl) (by exact rfl) (by exact build rfl) (by exact dc rfl) ?hn ?h;(case hn=>(dsimp only [cells_s,cells_emp,cells_agg,cells_list,cells_sl,cells_ptr,cells_ref,cells_fn,cells_vi,cells_vb,cells_vnil,constV,List.map_cons,List.map_nil,List.take_succ_cons,List.take_zero,List.drop_succ_cons,List.drop_zero,List.cons_append,List.nil_append,List.append_nil,LV_cells];exact rfl)))|refine zst ?_|refine aw_drawn (id:=8) [(0,0),(1,0),(2,0),(3,0),(4,0),(5,0),(6,0),(7,0),(8,0),(9,0),(10,0),(11,0),(12,0),(13,0),(14,0),(15,0)] mixed (by kernel_rfl) ?_|refine zco ?_ ?_|exact zd|(refine fun (hg:(_:Prop))=>?_;(try replace hg:=HG.out hg);(try dsimp only at hg);(try (have _h:True:=hg;clear _h hg)))))
    all_goals first
      | (exfalso;omega)
      | ((refine aw_mono_r (env':=[(4,encClashes (clashesTo s b k))]) (H':=[]) ?_ ?_;(focus (exact zsb [] [1])));(refine aw_ret ?_;(repeat (first|refine ret_then ?_|refine ret_block ?_));refine bq1 rfl ⟨?_,rfl⟩);rw [show k=b.length-1 by omega];rfl)
def linesB (s:Sheet) (b:List (List Int)):Bool:=b.all (isLineB s)
def bandB (s:Sheet) (b:List (List Int)):Bool:=decide (b.length≤12)&&linesB s b&&(List.range (b.length-1)).all fun i=>decide (clashF s (el b i) (el b (i+1))<0)
theorem err_ok {s:Sheet}(h:s.ok=true):s.err=0:=by simp [Sheet.err,h]
theorem err_bad {s:Sheet}(h:s.ok=false):s.err=70:=by simp [Sheet.err,h]
theorem clashes_nil {s:Sheet}{b:List (List Int)}:(clashesF s b).length=0↔((List.range (b.length-1)).all fun i=>decide (clashF s (el b i) (el b (i+1))<0))=true:=by
  rw [List.length_eq_zero_iff,clashesF,clashesTo,List.flatMap_eq_nil_iff,List.all_eq_true]
  refine forall_congr' fun i=>forall_congr' fun hi=>?_
  unfold clashAt
  split
  · rename_i h;simp [h]
  · rename_i h;simp [h]
def checkErr (s:Sheet) (b:List (List Int)):Int:=if s.ok then (if bandB s b then 0 else 71) else 70
theorem checkErr_eq {s:Sheet}{b:List (List Int)}(hs:s.ok=true):checkErr s b=if b.length≤12∧linesB s b=true∧(clashesF s b).length=0 then 0 else 71:=by
  unfold checkErr bandB
  rw [if_pos hs]
  simp only [Bool.and_eq_true,decide_eq_true_eq,and_assoc,clashes_nil]
theorem band_of_check {s:Sheet}{b:List (List Int)}(h:checkErr s b=0):s.ok=true∧b.length≤12∧linesB s b=true:=by
  unfold checkErr at h
  cases hs:s.ok
  · rw [hs] at h;simp at h
  · have h':checkErr s b=0:=h
    rw [checkErr_eq hs] at h'
    split at h'
    · rename_i h2;exact ⟨rfl,h2.1,h2.2.1⟩
    · simp at h'
theorem check_p (s:Sheet) (b:List (List Int)):PCalls Tryz.prog 58 [s.enc,encRows b] (·=vi (checkErr s b)):=by
  cases hs:s.ok
  · have he:=err_bad hs
    refine pcalls_of_aw Tryz.func58 rfl (dc rfl) ?_
    (repeat' (first|(refine ar_isq ?_;refine zq ?_)|(refine zpv fn65 (checkSheet_p _) ?_)|refine zg ?_ ?_|refine zgu ?_|refine zst ?_|refine zco ?_ ?_|exact zd|(refine fun (hg:(_:Prop))=>?_;(try replace hg:=HG.out hg);(try dsimp only at hg);(try (have _h:True:=hg;clear _h hg)))))
    all_goals first
      | (exfalso;omega)
      | ((refine aw_ret ?_;(repeat (first|refine ret_then ?_|refine ret_block ?_));refine bq1 rfl ⟨?_,rfl⟩);simp [vi,checkErr,hs,he])
  · have he:=err_ok hs
    refine pcalls_of_aw Tryz.func58 rfl (dc rfl) ?_
    (repeat' (first|(refine ar_isq ?_;refine zq ?_)|(refine zpv fn65 (checkSheet_p _) ?_)|(refine zpv fn102 (lines_p s hs b) ?_)|(refine zpv fn103 (clashes_p s hs b (by assumption) (by omega)) ?_)|refine zg ?_ ?_|refine zgu ?_|refine zst ?_|refine zco ?_ ?_|exact zd|(refine fun (hg:(_:Prop))=>?_;(try replace hg:=HG.out hg);(try dsimp only at hg);(try (have _h:True:=hg;clear _h hg)))))
    all_goals first
      | (exfalso;omega)
      | ((refine aw_ret ?_;(repeat (first|refine ret_then ?_|refine ret_block ?_));refine bq1 rfl ⟨?_,rfl⟩);rw [checkErr_eq hs];first
          | (rw [if_pos ⟨by omega,(show b.all (isLineB s)=true by assumption),by omega⟩];rfl)
          | (rw [if_neg (fun h=>by obtain ⟨h1,h2,h3⟩:=h;first|omega|(have h4:b.all (isLineB s)=true:=h2;simp_all))];rfl))
def pCol (s:Sheet) (m:Bool) (c:Nat):Nat:=if m=true then s.cols.toNat-1-c else c
theorem pCol_lt {s:Sheet}{m:Bool}{c:Nat}(h:c<s.cols.toNat):pCol s m c<s.cols.toNat:=by unfold pCol;split<;>omega
theorem pCol_pCol {s:Sheet}{m:Bool}{c:Nat}(h:c<s.cols.toNat):pCol s m (pCol s m c)=c:=by unfold pCol;split<;>omega
def hitB (s:Sheet) (g:Int) (l:List Int) (r c:Nat):Bool:=decide (el l c-g≤(r:Int))&&decide ((r:Int)≤el l c+s.weight-1+g)
theorem hitB_iff {s:Sheet}{g:Int}{l:List Int}{r c:Nat}:hitB s g l r c=true↔el l c-g≤(r:Int)∧(r:Int)≤el l c+s.weight-1+g:=by simp [hitB]
def proofB (s:Sheet) (b:List (List Int)) (g:Int) (m:Bool) (r c:Nat):Bool:=b.any fun l=>hitB s g l r (pCol s m c)
def proofAt (s:Sheet) (b:List (List Int)) (g:Int) (m:Bool) (j:Nat):Bool:=proofB s b g m (j/s.cols.toNat) (j % s.cols.toNat)
def proofTo (s:Sheet) (b:List (List Int)) (g:Int) (m:Bool) (n:Nat):List Bool:=(List.range n).map (proofAt s b g m)
def proofErr (s:Sheet) (b:List (List Int)) (g:Int):Int:=if checkErr s b=0 then (if withinB g 0 20=true then 0 else 2) else checkErr s b
def proofF (s:Sheet) (b:List (List Int)) (g:Int) (m:Bool):List Bool:=if proofErr s b g=0 then proofTo s b g m (s.rows.toNat*s.cols.toNat) else []
theorem proofTo_len (s:Sheet) (b:List (List Int)) (g:Int) (m:Bool) (n:Nat):(proofTo s b g m n).length=n:=by simp [proofTo]
theorem proofTo_el {s:Sheet}{b:List (List Int)}{g:Int}{m:Bool}{n j:Nat}(h:j<n):el (proofTo s b g m n) j=proofAt s b g m j:=by unfold proofTo;rw [el_map_range h]
def stLine (s:Sheet) (b:List (List Int)) (g:Int) (m:Bool) (i j:Nat):Bool:=(b.take i).any fun l=>hitB s g l (j/s.cols.toNat) (pCol s m (j % s.cols.toNat))
def stCol (s:Sheet) (b:List (List Int)) (g:Int) (m:Bool) (i c j:Nat):Bool:=stLine s b g m i j||(decide (pCol s m (j % s.cols.toNat)<c)&&hitB s g (el b i) (j/s.cols.toNat) (pCol s m (j % s.cols.toNat)))
def stRow (s:Sheet) (b:List (List Int)) (g:Int) (m:Bool) (i c r j:Nat):Bool:=stCol s b g m i c j||(decide (pCol s m (j % s.cols.toNat)=c)&&(decide (j/s.cols.toNat<r)&&hitB s g (el b i) (j/s.cols.toNat) c))
theorem stCol_zero (s:Sheet) (b:List (List Int)) (g:Int) (m:Bool) (i j:Nat):stCol s b g m i 0 j=stLine s b g m i j:=by simp [stCol]
theorem stRow_zero {s:Sheet}{b:List (List Int)}{g:Int}{m:Bool}{i c r j:Nat}(h:(r:Int)≤max (el (el b i) c-g) 0):stRow s b g m i c r j=stCol s b g m i c j:=by
  unfold stRow
  generalize j/s.cols.toNat=q
  cases hx:hitB s g (el b i) q c
  · simp
  · rw [hitB_iff] at hx
    rw [show decide (q<r)=false by simp;omega]
    simp
theorem stRow_succ {s:Sheet}{b:List (List Int)}{g:Int}{m:Bool}{i c r j:Nat}(hc:c<s.cols.toNat) (h1:el (el b i) c-g≤(r:Int)) (h2:(r:Int)≤el (el b i) c+s.weight-1+g) :
    (bif Nat.beq j (r*s.cols.toNat+pCol s m c) then true else stRow s b g m i c r j)=stRow s b g m i c (r+1) j:=by
  have hp:=pCol_lt (m:=m) hc
  by_cases e:j=r*s.cols.toNat+pCol s m c
  · have ed:j/s.cols.toNat=r:=by rw [e,Nat.add_comm,Nat.add_mul_div_right _ _ (by omega),Nat.div_eq_of_lt hp,Nat.zero_add]
    have em:j % s.cols.toNat=pCol s m c:=by rw [e,Nat.add_comm,Nat.add_mul_mod_self_right,Nat.mod_eq_of_lt hp]
    rw [show Nat.beq j (r*s.cols.toNat+pCol s m c)=true by rw [e];simp]
    unfold stRow
    rw [ed,em,pCol_pCol hc,hitB_iff.2 ⟨h1,h2⟩]
    simp
  · have eb:Nat.beq j (r*s.cols.toNat+pCol s m c)=false:=by cases q:Nat.beq j (r*s.cols.toNat+pCol s m c) with|false=>rfl|true=>exact (e (Nat.eq_of_beq_eq_true q)).elim
    rw [eb]
    show stRow s b g m i c r j=stRow s b g m i c (r+1) j
    unfold stRow
    by_cases hq:pCol s m (j % s.cols.toNat)=c
    · have hne:j/s.cols.toNat≠r:=fun hd=>e (by
        have h3:=Nat.div_add_mod' j s.cols.toNat
        rw [hd] at h3
        have h4:j % s.cols.toNat=pCol s m c:=by rw [← hq,pCol_pCol (Nat.mod_lt _ (by omega))]
        rw [h4] at h3
        exact h3.symm)
      rw [show decide (j/s.cols.toNat<r+1)=decide (j/s.cols.toNat<r) by simp;omega]
    · simp [hq]
theorem stRow_end {s:Sheet}{b:List (List Int)}{g:Int}{m:Bool}{i c r j:Nat}(hj:(j/s.cols.toNat:Nat)<s.rows) (h:min (el (el b i) c+s.weight-1+g) (s.rows-1)<(r:Int)):stRow s b g m i c r j=stCol s b g m i (c+1) j:=by
  unfold stRow stCol
  generalize j/s.cols.toNat=q at hj ⊢
  by_cases hq:pCol s m (j % s.cols.toNat)=c
  · cases hx:hitB s g (el b i) q c
    · rw [hq,hx];simp
    · have hx':=hitB_iff.1 hx
      rw [hq,hx,show decide (q<r)=true by simp;omega]
      simp
  · rw [show decide (pCol s m (j % s.cols.toNat)<c+1)=decide (pCol s m (j % s.cols.toNat)<c) by simp;omega]
    simp [hq]
theorem stCol_end {s:Sheet}{b:List (List Int)}{g:Int}{m:Bool}{i c j:Nat}(hc:s.cols.toNat≤c) (h0:0<s.cols.toNat) (hi:i<b.length):stCol s b g m i c j=stLine s b g m (i+1) j:=by
  unfold stCol stLine
  have:=pCol_lt (s:=s) (m:=m) (Nat.mod_lt j h0)
  rw [show decide (pCol s m (j % s.cols.toNat)<c)=true by simp;omega,List.take_succ_eq_append_getElem hi,List.any_append,el_eq hi]
  simp
theorem stLine_end {s:Sheet}{b:List (List Int)}{g:Int}{m:Bool}{i j:Nat}(hi:b.length≤i):stLine s b g m i j=proofAt s b g m j:=by
  unfold stLine proofAt proofB
  rw [List.take_of_length_le hi]
def gapAt (s:Sheet) (b:List (List Int)) (i c:Nat):Int:=el (el b (i+1)) c-el (el b i) c-s.weight
def gapRow (s:Sheet) (b:List (List Int)) (i:Nat) (x:Int) (n:Nat):Int:=(List.range n).foldl (fun a c=>min a (gapAt s b i c)) x
def gapTo (s:Sheet) (b:List (List Int)) (k:Nat):Int:=(List.range k).foldl (fun a i=>gapRow s b i a s.cols.toNat) s.rows
theorem gapRow_succ (s:Sheet) (b:List (List Int)) (i:Nat) (x:Int) (n:Nat):gapRow s b i x (n+1)=min (gapRow s b i x n) (gapAt s b i n):=by simp [gapRow,List.range_succ]
theorem gapTo_succ (s:Sheet) (b:List (List Int)) (k:Nat):gapTo s b (k+1)=gapRow s b k (gapTo s b k) s.cols.toNat:=by simp [gapTo,List.range_succ]
theorem gapRow_bnd {s:Sheet}{b:List (List Int)}{i:Nat}{x:Int}(hx:0≤x∧x≤s.rows):∀ n,(∀ c,c<n→0≤gapAt s b i c)→0≤gapRow s b i x n∧gapRow s b i x n≤s.rows
  | 0,_=>hx
  | n+1,h=>by
    have ih:=gapRow_bnd (i:=i) hx n (fun c hc=>h c (by omega))
    have:=h n (by omega)
    rw [gapRow_succ]
    omega
theorem gapTo_bnd {s:Sheet}{b:List (List Int)}(h0:0≤s.rows):∀ k,(∀ i c,i<k→c<s.cols.toNat→0≤gapAt s b i c)→0≤gapTo s b k∧gapTo s b k≤s.rows
  | 0,_=>⟨h0,Int.le_refl _⟩
  | k+1,h=>by
    rw [gapTo_succ]
    exact gapRow_bnd (gapTo_bnd h0 k fun i c hi hc=>h i c (by omega) hc) _ fun c hc=>h k c (by omega) hc
theorem near_no {s:Sheet}{x y:List Int}(h:clashF s x y<0) {j:Nat}(hj:(j:Int)<s.cols):nearAt s x y j=false:=by
  unfold clashF at h
  split at h
  · omega
  · rename_i hf
    rw [List.find?_eq_none] at hf
    have:=hf j (by simp;omega)
    simpa using this
theorem gap_pos {s:Sheet}{b:List (List Int)}(h:checkErr s b=0) {i c:Nat}(hi:i<b.length-1) (hc:c<s.cols.toNat):0≤gapAt s b i c:=by
  have hb:=Sheet.bounds (band_of_check h).1
  have hbd:bandB s b=true:=by
    unfold checkErr at h
    rw [if_pos (band_of_check h).1] at h
    split at h
    · assumption
    · omega
  unfold bandB at hbd
  simp only [Bool.and_eq_true,List.all_eq_true,List.mem_range,decide_eq_true_eq] at hbd
  have:=near_no (hbd.2 i hi) (j:=c) (by omega)
  simp only [nearAt,decide_eq_false_iff_not] at this
  unfold gapAt
  omega
def gapErr (s:Sheet) (b:List (List Int)):Int:=if checkErr s b=0 then (if b.length<2 then 6 else 0) else checkErr s b
def gapF (s:Sheet) (b:List (List Int)):Int:=if gapErr s b=0 then gapTo s b (b.length-1) else 0
theorem gap_ok {s:Sheet}{b:List (List Int)}(h:gapErr s b=0):checkErr s b=0∧2≤b.length∧0≤gapF s b∧gapF s b≤60:=by
  have h0:=h
  unfold gapErr at h
  split at h
  · rename_i hc
    split at h
    · omega
    · have hb:=Sheet.bounds (band_of_check hc).1
      have:=gapTo_bnd (s:=s) (b:=b) (by omega) (b.length-1) fun i c hi hcc=>gap_pos hc hi hcc
      unfold gapF
      rw [if_pos h0]
      exact ⟨hc,by omega,this.1,by omega⟩
  · omega
def lastErr (s:Sheet) (b:List (List Int)) (per:Int):Int:=if gapErr s b=0 then (if withinB per 1 1000=true then (if gapF s b=0 then 6 else 0) else 2) else gapErr s b
def lastF (s:Sheet) (b:List (List Int)) (per:Int):Int:=if lastErr s b per=0 then (gapF s b+1)/2*per-1 else 0
structure Dsn where
  owner:Int
  sheet:Sheet
  band:List (List Int)
instance:Inhabited Dsn:=⟨⟨0,⟨0,0,0,0,0⟩,[]⟩⟩
structure Lic where
  design:Int
  client:Int
  til:Int
  left:Int
instance:Inhabited Lic:=⟨⟨0,0,0,0⟩⟩
structure Ordr where
  client:Int
  design:Int
  need:Int
  done:Bool
instance:Inhabited Ordr:=⟨⟨0,0,0,false⟩⟩
structure Hse where
  per:Int
  day:Int
  store:Sto
  designs:List Dsn
  lics:List Lic
  orders:List Ordr
  made:List Int
  fors:List Int
structure Job where
  kind:Int
  client:Int
  design:Int
  order:Int
  n:Int
  til:Int
  act:Deed
  sheet:Sheet
  band:List (List Int)
instance:Inhabited Job:=⟨⟨0,0,0,0,0,0,⟨0,0,0,0⟩,⟨0,0,0,0,0⟩,[]⟩⟩
def Dsn.enc (d:Dsn):V:=.agg [vi d.owner,vi d.sheet.cols,vi d.sheet.rows,vi d.sheet.weight,vi d.sheet.clear,vi d.sheet.lean,encRows d.band]
def Lic.enc (l:Lic):V:=.agg [vi l.design,vi l.client,vi l.til,vi l.left]
def Ordr.enc (o:Ordr):V:=.agg [vi o.client,vi o.design,vi o.need,vb o.done]
abbrev encDsns (l:List Dsn):V:=LV 7 Dsn.enc l
abbrev encLics (l:List Lic):V:=LV 4 Lic.enc l
abbrev encOrders (l:List Ordr):V:=LV 4 Ordr.enc l
def Hse.enc (h:Hse):V:=.agg [vi h.per,vi h.day,vi h.store.life,encItems h.store.items,encPrints h.store.prints,encDsns h.designs,encLics h.lics,encOrders h.orders,encInts h.made,encInts h.fors]
def Job.enc (j:Job):V:=.agg [vu8 j.kind,vi j.client,vi j.design,vi j.order,vi j.n,vi j.til,vu8 j.act.kind,vi j.act.item,vi j.act.dest,vi j.act.n,vi j.sheet.cols,vi j.sheet.rows,vi j.sheet.weight,vi j.sheet.clear,vi j.sheet.lean,encRows j.band]
abbrev encJobs (l:List Job):V:=LV 16 Job.enc l
def GoodD (d:Dsn):Prop:=(0≤d.owner∧d.owner≤50)∧d.band.length≠0∧checkErr d.sheet d.band=0∧(gapErr d.sheet d.band≠0∨0<gapF d.sheet d.band)
instance (d:Dsn):Decidable (GoodD d):=by unfold GoodD;infer_instance
def allowsF (per life:Int) (d:Dsn):Int:=if lastErr d.sheet d.band per=0 then lastF d.sheet d.band per+1 else life
def inDesigns (h:Hse) (n:Int):Prop:=0≤n∧n<(h.designs.length:Int)
def inOrders (h:Hse) (n:Int):Prop:=0≤n∧n<(h.orders.length:Int)
instance (h:Hse) (n:Int):Decidable (inDesigns h n):=by unfold inDesigns;infer_instance
instance (h:Hse) (n:Int):Decidable (inOrders h n):=by unfold inOrders;infer_instance
def LicOk (h:Hse) (l:Lic):Prop:=inDesigns h l.design∧(0≤l.client∧l.client≤50)∧l.client≠(el h.designs l.design.toNat).owner∧(0≤l.til∧l.til≤10000)∧(0≤l.left∧l.left≤400)
instance (h:Hse) (l:Lic):Decidable (LicOk h l):=by unfold LicOk;infer_instance
def MadeAt (h:Hse) (i:Nat):Prop:=inDesigns h (el h.made i)∧((el h.store.items i).kind≠1→el h.made i=el h.made (el h.store.items i).src.toNat)∧((el h.store.items i).kind=3→(el h.store.items i).uses≤allowsF h.per h.store.life (el h.designs (el h.made i).toNat))
instance (h:Hse) (i:Nat):Decidable (MadeAt h i):=by unfold MadeAt;infer_instance
def ForAt (h:Hse) (j:Nat):Prop:=inOrders h (el h.fors j)∧(el h.orders (el h.fors j).toNat).design=el h.made (el h.store.prints j).plate.toNat
instance (h:Hse) (j:Nat):Decidable (ForAt h j):=by unfold ForAt;infer_instance
def doneTo (h:Hse) (n st:Int) (k:Nat):Int:=cntB (fun j=>decide (el h.fors j=n)&&decide ((el h.store.prints j).state=st)) k
def doneF (h:Hse) (n st:Int):Int:=doneTo h n st h.fors.length
def OrdAt (h:Hse) (i:Nat):Prop:=(0≤(el h.orders i).client∧(el h.orders i).client≤50)∧inDesigns h (el h.orders i).design∧(1≤(el h.orders i).need∧(el h.orders i).need≤400)∧((el h.orders i).done=true→doneF h i 0=0∧doneF h i 1=(el h.orders i).need)∧((el h.orders i).done=false→doneF h i 1=0∧doneF h i 0≤(el h.orders i).need)
instance (h:Hse) (i:Nat):Decidable (OrdAt h i):=by unfold OrdAt;infer_instance
structure HValid (h:Hse):Prop where
  per:1≤h.per∧h.per≤1000
  day:0≤h.day∧h.day≤10000
  store:Valid h.store
  few:h.designs.length≤8∧h.lics.length≤20∧h.orders.length≤30
  designs:∀ i,i<h.designs.length→GoodD (el h.designs i)
  lics:∀ i,i<h.lics.length→LicOk h (el h.lics i)
  mades:h.made.length=h.store.items.length
  made:∀ i,i<h.store.items.length→MadeAt h i
  forss:h.fors.length=h.store.prints.length
  fors:∀ j,j<h.fors.length→ForAt h j
  orders:∀ i,i<h.orders.length→OrdAt h i
theorem ar_buildT {P:Program}{r:Option Nat}{m nt i dst:Nat}{Q:Post}{env:Env}{H:Heap}{ops:Array Oper}{l:List Stp}{ty T:TypeId}{pos:String}{after:Array Edge}{d:TyD}{parts:Array (Nat × Operand)}{fs:List (TypeId × Nat)}{ns:List Nat}{vs:List (Nat × V)}{ds0:List V}
    (h:∀ ds,ds0=ds→AR P r m nt ops Q l ((dst,.agg ds)::env) H) (ht:TyIs P T d) (hk:d.tk=.struct fs) (hs:SizesAre P fs ns) (hz:(constV d.zero).ok=true)
    (hv:parts.toList.mapM (fun p=>(eo env p.2).map fun v=>(p.1,v))=some vs) (hb:BuildR (fun k=>(List.zip (fs.map (·.2)) ns)[k]?) (constV d.zero).cells vs ds0) (hd:dst<nt):AR P r m nt ops Q (.q i ⟨some dst,.build T parts,ty,pos,after,none⟩::l) env H :=
  ar_buildS ht hk hs hz hv hb hd rfl (h _ rfl)
structure Nrm (a b:List V):Prop where
  eq:a=b
theorem zbt {r:Option Nat}{m nt i dst:Nat}{Q:Post}{env:Env}{H:Heap}{ops:Array Oper}{l:List Stp}{ty T:TypeId}{pos:String}{after:Array Edge}{d:TyD}{parts:Array (Nat × Operand)}{fs:List (TypeId × Nat)}{ns:List Nat}{vs:List (Nat × V)}{ds0:List V}{ds:List V}(h:AR Tryz.prog r m nt ops Q l ((dst,.agg ds)::env) H) (ht:TyIs Tryz.prog T d:=by exact ty rfl) (hk:d.tk=.struct fs:=by exact rfl) (hs:SizesAre Tryz.prog fs ns:=by exact sizes rfl) (hz:(constV d.zero).ok=true:=by exact rfl) (hv:parts.toList.mapM (fun p=>(eo env p.2).map fun v=>(p.1,v))=some vs:=by exact rfl) (hb:BuildR (fun k=>(List.zip (fs.map (·.2)) ns)[k]?) (constV d.zero).cells vs ds0:=by exact build rfl) (hn:Nrm ds0 ds:=by ((try dsimp only [List.toList_toArray,cells_s,cells_emp,cells_agg,cells_list,cells_sl,cells_ptr,cells_ref,cells_fn,cells_vi,cells_vb,cells_vnil,constV,List.map_cons,List.map_nil,List.take_succ_cons,List.take_zero,List.drop_succ_cons,List.drop_zero,List.cons_append,List.nil_append,List.append_nil,LV_cells]);(try dsimp only [cells_s,cells_emp,cells_agg,cells_list,cells_sl,cells_ptr,cells_ref,cells_fn,cells_vi,cells_vb,cells_vnil,constV,List.map_cons,List.map_nil,List.take_succ_cons,List.take_zero,List.drop_succ_cons,List.drop_zero,List.cons_append,List.nil_append,List.append_nil,LV_cells]);exact ⟨rfl⟩)) (hd:dst<nt:=by exact dc rfl):AR Tryz.prog r m nt ops Q (.q i ⟨some dst,.build T parts,ty,pos,after,none⟩::l) env H:=ar_buildT (fun _ hds=>by subst hds;have e:=hn.eq;subst e;exact h) ht hk hs hz hv hb hd
theorem usedI_yes {l:List Itm}{i:Int}{k:Nat}(h:(el l k).src=i):usedI l i (k+1)=usedI l i k+1:=cntB_yes (by simpa using h)
theorem usedI_no {l:List Itm}{i:Int}{k:Nat}(h:¬ (el l k).src=i):usedI l i (k+1)=usedI l i k:=cntB_no (by simpa using h)
theorem usedP_yes {l:List Prt}{i:Int}{k:Nat}(h:(el l k).plate=i):usedP l i (k+1)=usedP l i k+1:=cntB_yes (by simpa using h)
theorem usedP_no {l:List Prt}{i:Int}{k:Nat}(h:¬ (el l k).plate=i):usedP l i (k+1)=usedP l i k:=cntB_no (by simpa using h)
theorem usedI_bnd (l:List Itm) (i:Int) (k:Nat):0≤usedI l i k∧usedI l i k≤k:=cntB_bnd k
theorem usedP_bnd (l:List Prt) (i:Int) (k:Nat):0≤usedP l i k∧usedP l i k≤k:=cntB_bnd k
end Go.Proofs.YtbilpbabdgfblaaGreat
