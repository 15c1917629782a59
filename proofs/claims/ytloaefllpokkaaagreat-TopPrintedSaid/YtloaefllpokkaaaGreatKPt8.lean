/- Parts of the proof: contracts of functions. No condition. -/
import Derived.Test.YtloaefllpokkaaaGreatKPt7
set_option maxHeartbeats 16000000
set_option linter.unusedSimpArgs false
set_option linter.unusedVariables false
namespace Go.Proofs.YtloaefllpokkaaaGreat
open Go.RowKit
section
variable {X:Ctx}{I J:Imm}{ρ:List (Option (Nat × Nat))}{H:Heap}{w w':World}
theorem WOk.adoptMap (h:WOk X I ρ H w) {cb:Nat}{es:Array MapEntry}{clock:Nat}{m:List (Value × V)}(hL:¬ Live H ρ cb) (hI:I cb=Option.none) (hm:X.w.heap.size≤cb∨Live X.H X.ρ cb) (hs:SizedB es clock m.length)
    (hr:∀ (i:Nat) e x,es[i]?=some e→m[i]?=some x→e.key=x.1∧VRel I ρ x.2 e.val) (hnew:w'.heap[cb]?=some (.map es clock)) (hold:∀ c,c≠cb→c<w.heap.size→w'.heap[c]?=w.heap[c]?) (hsize:w.heap.size≤w'.heap.size)
    (ho:w'.os=w.os) (ht:w'.tape=w.tape) (hout:w'.output=w.output) :
    WOk X I (ρ++[some (cb,0)]) (H++[.map m]) w':=by
  have old:∀ b,Live H ρ b→w'.heap[b]?=w.heap[b]?:=fun b hb=>hold b (fun e=>hL (e▸hb)) (h.lt hb)
  refine { len:=by simp [h.len],inj:=?_,imm:=?_,apart:=?_,size:=?_,none:=?_,arr:=?_,map:=?_,mine:=?_,news:=h.news,le:=h.le,pre:=h.pre.trans (pre_append _),os:=ho.trans h.os,tape:=ht.trans h.tape,out:=hout.trans h.out,grow:=Nat.le_trans h.grow hsize,keep:=?_ }
  · rintro i j b ⟨x,hx,hx'⟩ ⟨y,hy,hy'⟩ z1 z2 h1 h2
    rcases get_append_lt hx with ⟨a1,a2⟩|⟨a1,a2⟩<;>rcases get_append_lt hy with ⟨b1,b2⟩|⟨b1,b2⟩
    · rw [List.getElem?_append_left (by rw [h.len];exact a1)] at h1
      rw [List.getElem?_append_left (by rw [h.len];exact b1)] at h2
      exact h.inj i j b ⟨x,a2,hx'⟩ ⟨y,b2,hy'⟩ z1 z2 h1 h2
    · rw [List.getElem?_append_left (by rw [h.len];exact a1)] at h1
      rw [b1,← h.len] at h2
      simp at h2
      exact (hL ⟨i,x,a2,hx',z1,by rw [h2.1];exact h1⟩).elim
    · rw [List.getElem?_append_left (by rw [h.len];exact b1)] at h2
      rw [a1,← h.len] at h1
      simp at h1
      exact (hL ⟨j,y,b2,hy',z2,by rw [h1.1];exact h2⟩).elim
    · omega
  · intro b o hb
    have:=h.imm b o hb
    rw [hold b (fun e=>by subst e;rw [hI] at hb;cases hb) (Array.getElem?_eq_some_iff.1 this).1]
    exact this
  · intro b hb
    rcases live_append h.len hb with h1|⟨z,h1,_⟩
    · exact h.apart b h1
    · simp at h1;rw [← h1.1];exact hI
  · intro k sz' n' f' hk
    rcases get_append_lt hk with ⟨_,a2⟩|⟨_,a2⟩
    · exact h.size k sz' n' f' a2
    · cases a2
  · intro k sz' n' f' hk hρ
    rcases get_append_lt hk with ⟨a1,a2⟩|⟨a1,a2⟩
    · rw [List.getElem?_append_left (by rw [h.len];exact a1)] at hρ
      exact h.none k sz' n' f' a2 hρ
    · cases a2
  · intro k sz' n' f' b z hk hρ
    rcases get_append_lt hk with ⟨a1,a2⟩|⟨a1,a2⟩
    · rw [List.getElem?_append_left (by rw [h.len];exact a1)] at hρ
      exact (h.arr k sz' n' f' b z a2 hρ).mono (Imm.le_refl _) (pre_append _) (old b ⟨k,_,a2,by simp,z,hρ⟩)
    · cases a2
  · intro k m' hk
    rcases get_append_lt hk with ⟨a1,a2⟩|⟨a1,a2⟩
    · obtain ⟨b,h1,h2⟩:=h.map k m' a2
      exact ⟨b,by rw [List.getElem?_append_left (by rw [h.len];exact a1)];exact h1,h2.mono (Imm.le_refl _) (pre_append _) (old b ⟨k,_,a2,by simp,0,h1⟩)⟩
    · cases a2
      refine ⟨cb,by rw [a1,← h.len];simp,es,clock,hnew,hs,fun i e x h1 h2=>?_⟩
      obtain ⟨h3,h4⟩:=hr i e x h1 h2
      exact ⟨h3,h4.mono (Imm.le_refl _) (pre_append _)⟩
  · intro b hb
    rcases live_append h.len hb with h1|⟨z,h1,_⟩
    · exact h.mine b h1
    · simp at h1;rw [← h1.1];exact hm
  · intro b hb hl
    have hb':b<w.heap.size:=Nat.lt_of_lt_of_le hb h.grow
    rw [hold b (fun e=>by
      subst e
      rcases hm with h1|h1
      · omega
      · exact hl h1) hb']
    exact h.keep b hb hl
theorem WOk.writeMap (h:WOk X I ρ H w) {k b z:Nat}{m m':List (Value × V)}(hk:H[k]?=some (.map m)) (hb:ρ[k]?=some (some (b,z))) {es:Array MapEntry}{clock:Nat}(hs:SizedB es clock m'.length)
    (hr:∀ (i:Nat) e x,es[i]?=some e→m'[i]?=some x→e.key=x.1∧VRel I ρ x.2 e.val) (hnew:w'.heap[b]?=some (.map es clock)) (hold:∀ c,c≠b→w'.heap[c]?=w.heap[c]?) (hsize:w'.heap.size=w.heap.size)
    (ho:w'.os=w.os) (ht:w'.tape=w.tape) (hout:w'.output=w.output):WOk X I ρ (H.set k (.map m')) w':=by
  have hL:Live H ρ b:=⟨k,_,hk,by simp,z,hb⟩
  have hkl:k<H.length:=(List.getElem?_eq_some_iff.1 hk).1
  have get:∀ (j:Nat) blk,(H.set k (.map m'))[j]?=some blk→(j=k∧blk=.map m')∨(j≠k∧H[j]?=some blk):=fun j blk hj=>by
    rw [List.getElem?_set] at hj
    by_cases e:k=j
    · subst e;rw [if_pos rfl,if_pos hkl] at hj;cases hj;exact .inl ⟨rfl,rfl⟩
    · rw [if_neg e] at hj;exact .inr ⟨fun x=>e x.symm,hj⟩
  have alive:∀ (j:Nat),(∃ x:Blk,(H.set k (.map m'))[j]?=some x∧x≠.dead)→∃ x:Blk,H[j]?=some x∧x≠.dead:=fun j ⟨x,hx,hx'⟩=>by
    rcases get j x hx with ⟨rfl,_⟩|⟨_,h1⟩
    · exact ⟨_,hk,by simp⟩
    · exact ⟨x,h1,hx'⟩
  have live:∀ c,Live (H.set k (.map m')) ρ c→Live H ρ c:=fun c ⟨j,x,h1,h2,z',h3⟩=>by
    obtain ⟨y,h4,h5⟩:=alive j ⟨x,h1,h2⟩
    exact ⟨j,y,h4,h5,z',h3⟩
  have other:∀ (j c:Nat) z',(∃ x:Blk,H[j]?=some x∧x≠.dead)→j≠k→ρ[j]?=some (some (c,z'))→w'.heap[c]?=w.heap[c]?:=fun j c z' hx hj hc=>by
    refine hold c fun e=>hj ?_
    subst e
    exact h.inj j k c hx ⟨_,hk,by simp⟩ z' z hc hb
  refine h.trans { len:=by simp [h.len],inj:=fun i j c hi hj=>h.inj i j c (alive i hi) (alive j hj),imm:=?_,apart:=fun c hc=>h.apart c (live c hc),size:=?_,none:=?_,arr:=?_,map:=?_,mine:=fun c hc=>.inr (live c hc),news:=fun _ hb=>.inl hb,le:=Imm.le_refl _,pre:=Pre.refl _,os:=ho,tape:=ht,out:=hout,grow:=by show w.heap.size≤_;omega,keep:=?_ }
  · intro c o hc
    have:c≠b:=fun e=>by subst e;rw [h.apart c hL] at hc;cases hc
    rw [hold c this]
    exact h.imm c o hc
  · intro j sz' n' f' hj
    rcases get j _ hj with ⟨_,h1⟩|⟨_,h1⟩
    · cases h1
    · exact h.size j sz' n' f' h1
  · intro j sz' n' f' hj hρ
    rcases get j _ hj with ⟨_,h1⟩|⟨_,h1⟩
    · cases h1
    · exact h.none j sz' n' f' h1 hρ
  · intro j sz' n' f' c z' hj hρ
    rcases get j _ hj with ⟨_,h1⟩|⟨hne,h1⟩
    · cases h1
    · exact (h.arr j sz' n' f' c z' h1 hρ).mono (Imm.le_refl _) (Pre.refl _) (other j c z' ⟨_,h1,by simp⟩ hne hρ)
  · intro j mm hj
    rcases get j _ hj with ⟨rfl,h1⟩|⟨hne,h1⟩
    · cases h1
      obtain ⟨c,h2,_⟩:=h.map j m hk
      rw [hb] at h2
      cases h2
      exact ⟨b,hb,es,clock,hnew,hs,hr⟩
    · obtain ⟨c,h2,h3⟩:=h.map j mm h1
      exact ⟨c,h2,h3.mono (Imm.le_refl _) (Pre.refl _) (other j c 0 ⟨_,h1,by simp⟩ hne h2)⟩
  · intro c hc hl
    exact hold c fun e=>hl (by subst e;exact hL)
theorem WOk.setMap (h:WOk X I ρ H w) {k b z:Nat}{m m':List (Value × V)}(hk:H[k]?=some (.map m)) (hb:ρ[k]?=some (some (b,z))) (hlt:b<w.heap.size) {es:Array MapEntry}{clock:Nat}(hs:SizedB es clock m'.length)
    (hr:∀ (i:Nat) e x,es[i]?=some e→m'[i]?=some x→e.key=x.1∧VRel I ρ x.2 e.val):WOk X I ρ (H.set k (.map m')) { w with heap:=w.heap.setIfInBounds b (.map es clock) } :=
  h.writeMap (w':={ w with heap:=w.heap.setIfInBounds b (.map es clock) }) (clock:=clock) hk hb hs hr (by simp [hlt]) (fun c hc=>by simp [Ne.symm hc]) (by simp) rfl rfl rfl
end
theorem born_nil (c:Nat):Born #[] c:=⟨fun i e h=>by simp at h,fun i j e f h=>by simp at h⟩
theorem born_push {es:Array MapEntry}{c:Nat}(h:Born es c) {k v:Value}:Born (es.push { key:=k,val:=v,born:=c }) (c+1):=by
  refine ⟨fun i e hi=>?_,fun i j e f hi hj he=>?_⟩
  · rw [Array.getElem?_push] at hi
    split at hi
    · cases hi;exact Nat.lt_succ_self _
    · exact Nat.lt_succ_of_lt (h.1 i e hi)
  · rw [Array.getElem?_push] at hi hj
    split at hi<;>split at hj
    · omega
    · cases hi
      have:=h.1 j f hj
      have he:c=f.born:=he
      omega
    · cases hj
      have:=h.1 i e hi
      have he:e.born=c:=he
      omega
    · exact h.2 i j e f hi hj he
theorem born_modify {es:Array MapEntry}{c j:Nat}{g:MapEntry→MapEntry}(h:Born es c) (hg:∀ e,(g e).born=e.born):Born (es.modify j g) c:=by
  have old:∀ (i:Nat) e,(es.modify j g)[i]?=some e→∃ e0,es[i]?=some e0∧e.born=e0.born:=fun i e hi=>by
    rw [Array.getElem?_modify] at hi
    split at hi
    · obtain ⟨e0,h1,h2⟩:=Option.map_eq_some_iff.1 hi
      exact ⟨e0,h1,by rw [← h2,hg]⟩
    · exact ⟨e,hi,rfl⟩
  refine ⟨fun i e hi=>?_,fun i k e f hi hk he=>?_⟩
  · obtain ⟨e0,h1,h2⟩:=old i e hi
    rw [h2]
    exact h.1 i e0 h1
  · obtain ⟨e0,h1,h2⟩:=old i e hi
    obtain ⟨f0,h3,h4⟩:=old k f hk
    exact h.2 i k e0 f0 h1 h3 (by rw [← h2,← h4,he])
theorem born_erase {es:Array MapEntry}{c j:Nat}(h:Born es c):Born (es.eraseIdxIfInBounds j) c:=by
  unfold Array.eraseIdxIfInBounds
  split
  · rename_i hj
    have old:∀ (i:Nat) e,(es.eraseIdx j hj)[i]?=some e→es[if i<j then i else i+1]?=some e:=fun i e hi=>by
      rw [← Array.getElem?_toList,Array.toList_eraseIdx,List.getElem?_eraseIdx] at hi
      split at hi
      · rename_i hij;rw [if_pos hij];simpa using hi
      · rename_i hij;rw [if_neg hij];simpa using hi
    refine ⟨fun i e hi=>h.1 _ e (old i e hi),fun i k e f hi hk he=>?_⟩
    have:=h.2 _ _ e f (old i e hi) (old k f hk) he
    split at this<;>split at this<;>omega
  · exact h
theorem born_at {X:Ctx}{I:Imm}{ρ:List (Option (Nat × Nat))}{H:Heap}{w:World}(hw:WOk X I ρ H w) {b cb:Nat}{m:List (Value × V)}{es:Array MapEntry}{clk:Nat}(hH:H[b]?=some (.map m)) (h1:ρ[b]?=some (some (cb,0))) (h2:w.heap[cb]?=some (.map es clk)):Born es clk:=by
  obtain ⟨c2,h3,es2,clk2,h4,h5,_⟩:=hw.map b m hH
  rw [h1] at h3
  cases h3
  rw [h2] at h4
  cases h4
  exact h5.born
section
variable {α:Type}
def entsE (e:α→V) (l:List (Int × α)):List (Value × V):=l.map fun p=>(.int .i64 p.1,e p.2)
def mapE (e:α→V) (l:List (Int × α)):Blk:=.map (entsE e l)
def idxE:List (Int × α)→Int→Option Nat
  | [],_=>none
  | p::l,a=>if a=p.1 then some 0 else (idxE l a).map (·+1)
def getE:List (Int × α)→Int→Option α
  | [],_=>none
  | p::l,a=>if a=p.1 then some p.2 else getE l a
def putE:List (Int × α)→Int→α→List (Int × α)
  | [],a,v=>[(a,v)]
  | p::l,a,v=>if a=p.1 then (p.1,v)::l else p::putE l a v
def delE:List (Int × α)→Int→List (Int × α)
  | [],_=>[]
  | p::l,a=>if a=p.1 then l else p::delE l a
theorem getE_idx:∀ (l:List (Int × α)) (a:Int),getE l a=(idxE l a).bind fun j=>l[j]?.map (·.2)
  | [],_=>rfl
  | p::l,a=>by
    simp only [getE,idxE]
    by_cases h:a=p.1
    · simp [h]
    · rw [if_neg h,if_neg h,getE_idx l a]
      cases idxE l a<;>simp
theorem putE_none:∀ {l:List (Int × α)}{a:Int}(v:α),idxE l a=none→putE l a v=l++[(a,v)]
  | [],_,_,_=>rfl
  | p::l,a,v,h=>by
    simp only [idxE] at h
    by_cases hp:a=p.1
    · simp [hp] at h
    · rw [if_neg hp] at h
      simp only [putE,if_neg hp,List.cons_append]
      rw [putE_none v (by simpa using h)]
theorem putE_some:∀ {l:List (Int × α)}{a:Int}{j:Nat}(v:α),idxE l a=some j→putE l a v=l.modify j fun p=>(p.1,v)
  | [],_,_,_,h=>by cases h
  | p::l,a,j,v,h=>by
    simp only [idxE] at h
    by_cases hp:a=p.1
    · rw [if_pos hp] at h
      cases h
      simp [putE,hp]
    · rw [if_neg hp] at h
      obtain ⟨k,h1,rfl⟩:=Option.map_eq_some_iff.1 h
      simp only [putE,if_neg hp,List.modify_succ_cons]
      rw [putE_some v h1]
theorem delE_none:∀ {l:List (Int × α)}{a:Int},idxE l a=none→delE l a=l
  | [],_,_=>rfl
  | p::l,a,h=>by
    simp only [idxE] at h
    by_cases hp:a=p.1
    · simp [hp] at h
    · rw [if_neg hp] at h
      simp only [delE,if_neg hp]
      rw [delE_none (by simpa using h)]
theorem delE_some:∀ {l:List (Int × α)}{a:Int}{j:Nat},idxE l a=some j→delE l a=l.eraseIdx j
  | [],_,_,h=>by cases h
  | p::l,a,j,h=>by
    simp only [idxE] at h
    by_cases hp:a=p.1
    · rw [if_pos hp] at h
      cases h
      simp [delE,hp]
    · rw [if_neg hp] at h
      obtain ⟨k,h1,rfl⟩:=Option.map_eq_some_iff.1 h
      simp only [delE,if_neg hp,List.eraseIdx_cons_succ]
      rw [delE_some h1]
theorem findNow_int (a:Int):∀ (es:List MapEntry) (l:List (Int × α)) (i:Nat),es.length=l.length→(∀ (j:Nat) e p,es[j]?=some e→l[j]?=some p→e.key=.int .i64 p.1) →
    Instr.findNow (.int .i64) (.int .i64 a) es i=some ((idxE l a).bind fun j=>es[j]?.map fun e=>(i+j,e.val))
  | [],[],_,_,_=>rfl
  | [],_::_,_,h,_=>by simp at h
  | _::_,[],_,h,_=>by simp at h
  | e::es,p::l,i,h,hk=>by
    have h0:=hk 0 e p rfl rfl
    have ih:=findNow_int a es l (i+1) (by simpa using h) (fun j e' p' h1 h2=>hk (j+1) e' p' (by simpa using h1) (by simpa using h2))
    simp only [Instr.findNow,h0,Instr.sameNow,if_true,idxE]
    by_cases hc:a=p.1
    · rw [if_pos hc,hc]
      simp
    · rw [if_neg hc]
      have:(a==p.1)=false:=by simpa using hc
      rw [this]
      simp only [ih]
      cases idxE l a with
      | none=>rfl
      | some j=>simp [Nat.add_assoc,Nat.add_comm 1 j]
theorem idxE_lt:∀ {l:List (Int × α)}{a:Int}{j:Nat},idxE l a=some j→j<l.length
  | [],_,_,h=>by cases h
  | p::l,a,j,h=>by
    simp only [idxE] at h
    split at h
    · cases h;simp
    · cases hi:idxE l a with
      | none=>rw [hi] at h;cases h
      | some k =>
        rw [hi] at h
        cases h
        have:=idxE_lt hi
        simp;omega
theorem idxE_key:∀ {l:List (Int × α)}{a:Int}{j:Nat},idxE l a=some j→(l[j]?).map (·.1)=some a
  | [],_,_,h=>by cases h
  | p::l,a,j,h=>by
    simp only [idxE] at h
    split at h
    · rename_i hp;cases h;simp [hp]
    · obtain ⟨k,h1,rfl⟩:=Option.map_eq_some_iff.1 h
      simpa using idxE_key h1
end
section
variable {P:Program}{r:Option Nat}{m nt:Nat}{Q:Post}{env:Env}{H:Heap}{ops:Array Oper}{L:List Stp}{ty:TypeId}{pos:String}{after:Array Edge}{guard:Option (Nat × Bool)}{keep:Bool}{T K E:TypeId}{d dk de:TyD}{x y z:Operand}{dst:Option Tmp}{α:Type}
theorem ls_makeMap:LS P r m nt keep env H ⟨dst,.makeMap T none,ty,pos,after,guard⟩ (fun v H'=>v=.map H.length∧H'=H++[.map []]) NoP:=.mk
  fun X I ρ a w next Qx hX hs hk hp=>by
    have hw:=hs.2.1
    have hnew:(w.alloc (.map #[] 0)).heap[w.heap.size]?=some (.map #[] 0):=(MapKept.heap_alloc w _).1
    have hold:∀ c,c<w.heap.size→(w.alloc (.map #[] 0)).heap[c]?=w.heap[c]?:=(MapKept.heap_alloc w _).2
    have hsz:w.heap.size≤(w.alloc (.map #[] 0)).heap.size:=by
      show _≤(w.heap.push _).size
      rw [Array.size_push]
      exact Nat.le_succ _
    refine wpIn_of_run (res:=.ok (.value (.map (some w.heap.size))) (w.alloc (.map #[] 0))) (by simp) (by simp [execOp,Instr.makeMap,Result.andThen]) ?_
    have hk2:=hw.adoptMap (m:=[]) (fun h=>by have:=hw.lt h;omega) (by
      cases e:I w.heap.size with
      | none=>rfl
      | some o=>have:=(Array.getElem?_eq_some_iff.1 (hw.imm _ o e)).1;omega) (.inl hw.grow) ⟨rfl,born_nil _⟩ (fun i e x h=>by simp at h) hnew (fun c _ h=>hold c h) hsz rfl rfl rfl
    refine hk I (ρ++[some (w.heap.size,0)]) _ _ _ _ ⟨rfl,rfl⟩ (Imm.le_refl _) (pre_append _) hk2 (VRel.map (z:=0) (by rw [← hw.len];simp)) fun _=>?_
    exact keeps_alloc hw (fun b hb=>hold b hb)
theorem ar_makeMap {i e:Nat}(hd:e<nt) (h:AR P r m nt ops Q L ((e,.map H.length)::env) (H++[.map []])):AR P r m nt ops Q (.l i ⟨some e,.makeMap T none,ty,pos,after,none⟩ keep::L) env H :=
  ar_l ls_makeMap hd (fun v H' ⟨a,b⟩=>by subst a;subst b;exact h) (fun _ _ h=>h.elim)
theorem mapE_at {I:Imm}{ρ:List (Option (Nat × Nat))}{w:World}{X:Ctx}(hw:WOk X I ρ H w) {b:Nat}{e:α→V}{l:List (Int × α)}(hH:H[b]?=some (mapE e l)):∃ cb es clk,ρ[b]?=some (some (cb,0))∧w.heap[cb]?=some (.map es clk)∧es.size=l.length ∧
    ∀ (i:Nat) n p,es[i]?=some n→l[i]?=some p→n.key=.int .i64 p.1∧VRel I ρ (e p.2) n.val:=by
  obtain ⟨cb,h1,es,clk,h2,h3,h4⟩:=hw.map b _ hH
  refine ⟨cb,es,clk,h1,h2,by simpa [entsE] using h3.size,fun i n p hn hp=>?_⟩
  exact h4 i n (.int .i64 p.1,e p.2) hn (by simp [entsE,hp])
theorem map_val {I:Imm}{ρ:List (Option (Nat × Nat))}{b cb z:Nat}{u:Value}(h:VRel I ρ (.map b) u) (hb:ρ[b]?=some (some (cb,z))):u=.map (some cb):=by
  cases h with
  | map h=>rw [hb] at h;cases h;rfl
theorem intKey (a:Int):MapKept.IsKey (.int .i64) (.int .i64 a):=by simp [MapKept.IsKey]
theorem ar_lookup {i f b:Nat}{e:α→V}{l:List (Int × α)}{a:Int}{ok:Bool}(ht:TyIs P T d) (hk:d.tk=.map K E) (hK:TyIs P K dk) (hkk:dk.tk=.int .i64) (hE:TyIs P E de) (hx:eo env x=some (.map b)) (hy:eo env y=some (.s (.int .i64 a))) (hH:H[b]?=some (mapE e l)) (hd:f<nt)
    (h1:∀ v,getE l a=some v→AR P r m nt ops Q L ((f,bif ok then .tup [e v,.s (.bool true)] else e v)::env) H) (h2:getE l a=none→AR P r m nt ops Q L ((f,bif ok then .tup [constV de.zero,.s (.bool false)] else constV de.zero)::env) H) :
    AR P r m nt ops Q (.q i ⟨some f,.lookup T x y ok,ty,pos,after,none⟩::L) env H:=by
  have key:∀ (X:Ctx) (I:Imm) (ρ:List (Option (Nat × Nat))) (ac:Act) (w:World),EnvOk I ρ nt env ac→WOk X I ρ H w→∃ v,((∃ q,getE l a=some q∧v=(bif ok then .tup [e q,.s (.bool true)] else e q))∨(getE l a=none∧v=(bif ok then .tup [constV de.zero,.s (.bool false)] else constV de.zero))) ∧
      ∃ u,VRel I ρ v u∧∀ w',Keeps I ρ H w w'→(execOp ac.eval ⟨some f,.lookup T x y ok,ty,pos,after,none⟩).run P w'=.ok (.value u) w':=by
    intro X I ρ ac w hE' hw
    obtain ⟨cb,es,clk,h3,h4,h5,h6⟩:=mapE_at hw hH
    have hm:=map_val (eo_rel hE' hx) h3
    have ha:=sval hE' hy
    have hfind:=findNow_int a es.toList l 0 (by simpa using h5) (fun j n p hn hp=>(h6 j n p (by simpa using hn) hp).1)
    have hget:=getE_idx l a
    cases hi:idxE l a with
    | none =>
      rw [hi] at hfind hget
      refine ⟨_,.inr ⟨hget,rfl⟩,bif ok then .tuple #[de.zero,.bool false] else de.zero,?_,fun w' hK'=>?_⟩
      · cases ok with
        | true =>
          refine .tup rfl fun j v u hj hu=>?_
          match j,hj,hu with
          | 0,hj,hu=>simp at hj hu;subst hj hu;exact constV_rel _ _ _
          | 1,hj,hu=>simp at hj hu;subst hj hu;exact .s _
          | j+2,hj,_=>simp at hj
        | false=>exact constV_rel _ _ _
      · have hb':w'.heap[cb]?=some (.map es clk):=(hK'.2.2 b _ cb 0 hH h3).trans h4
        simp only [execOp,hm,ha,Instr.lookup,Sem.run_bind,run_underlying (ht.map hk),MapKept.run_getObj_map hb',MapKept.run_checkKey (hK.intk hkk) (intKey a),MapKept.run_findKey (hK.intk hkk) hfind,Result.andThen_ok,Sem.run_pure,hE.zeroV,Option.bind_none]
        cases ok<;>rfl
    | some j =>
      have hlt:=idxE_lt hi
      have hes:es[j]?=some es[j]:=by simp
      obtain ⟨h7,h8⟩:=h6 j es[j] l[j] hes (by simp [hlt])
      rw [hi] at hfind hget
      have hget:getE l a=some l[j].2:=by rw [hget];simp [hlt]
      refine ⟨_,.inl ⟨_,hget,rfl⟩,bif ok then .tuple #[es[j].val,.bool true] else es[j].val,?_,fun w' hK'=>?_⟩
      · cases ok with
        | true =>
          refine .tup rfl fun j v u hj hu=>?_
          match j,hj,hu with
          | 0,hj,hu=>simp at hj hu;subst hj hu;exact h8
          | 1,hj,hu=>simp at hj hu;subst hj hu;exact .s _
          | j+2,hj,_=>simp at hj
        | false=>exact h8
      · have hb':w'.heap[cb]?=some (.map es clk):=(hK'.2.2 b _ cb 0 hH h3).trans h4
        have hfind':Instr.findNow (.int .i64) (.int .i64 a) es.toList 0=some (some (j,es[j].val)):=by rw [hfind,Option.bind_some,show es.toList[j]?=some es[j] by simp];simp
        simp only [execOp,hm,ha,Instr.lookup,Sem.run_bind,run_underlying (ht.map hk),MapKept.run_getObj_map hb',MapKept.run_checkKey (hK.intk hkk) (intKey a),MapKept.run_findKey (hK.intk hkk) hfind',Result.andThen_ok,Sem.run_pure]
        cases ok<;>rfl
  exact ar_q_any key hd fun v hv=>by
    rcases hv with ⟨q,h3,rfl⟩|⟨h3,rfl⟩
    · exact h1 q h3
    · exact h2 h3
theorem ls_mapUpdate {b:Nat}{e:α→V}{l:List (Int × α)}{a:Int}{v:α}(ht:TyIs P T d) (hk:d.tk=.map K E) (hK:TyIs P K dk) (hkk:dk.tk=.int .i64) (hx:eo env x=some (.map b)) (hy:eo env y=some (.s (.int .i64 a))) (hz:eo env z=some (e v)) (hH:H[b]?=some (mapE e l)) :
    LS P r m nt false env H ⟨none,.mapUpdate T x y z,ty,pos,after,guard⟩ (fun _ H'=>H'=H.set b (mapE e (putE l a v))) NoP:=.mk
  fun X I ρ ac w next Qx hX hs hk' hp=>by
    have hw:=hs.2.1
    obtain ⟨cb,es,clk,h3,h4,h5,h6⟩:=mapE_at hw hH
    have hm:=map_val (eo_rel hs.1 hx) h3
    have ha:=sval hs.1 hy
    have hv:=eo_rel hs.1 hz
    have hfind:=findNow_int a es.toList l 0 (by simpa using h5) (fun j n p hn hp=>(h6 j n p (by simpa using hn) hp).1)
    have hcb:=(Array.getElem?_eq_some_iff.1 h4).1
    cases hi:idxE l a with
    | none =>
      rw [hi] at hfind
      have hres:(execOp ac.eval ⟨none,.mapUpdate T x y z,ty,pos,after,guard⟩).run P w=.ok .skip { w with heap:=w.heap.setIfInBounds cb (.map (es.push { key:=.int .i64 a,val:=ac.eval z,born:=clk }) (clk+1)) }:=by
        simp only [execOp,hm,ha,Instr.mapUpdate,Sem.run_bind,run_underlying (ht.map hk),MapKept.run_getObj_map h4,MapKept.run_checkKey (hK.intk hkk) (intKey a),MapKept.run_findKey (hK.intk hkk) hfind,Result.andThen_ok,Sem.run_pure,MapKept.run_setObj_map _ h4,Option.bind_none]
      refine wpIn_of_run (by simp) hres ?_
      refine hk' I ρ _ (.s undef) undef _ rfl (Imm.le_refl _) (Pre.refl _) (hw.setMap (m':=entsE e (putE l a v)) hH h3 hcb (es:=es.push { key:=.int .i64 a,val:=ac.eval z,born:=clk }) (clock:=clk+1) ⟨by rw [putE_none v hi];simp [entsE,h5],born_push (born_at hw hH h3 h4)⟩ (fun i n p hn hp=>?_)) (.s _) (by simp)
      rw [putE_none v hi] at hp
      simp only [entsE,List.getElem?_map,Option.map_eq_some_iff] at hp
      obtain ⟨q,hq,rfl⟩:=hp
      rcases get_snoc hq with ⟨h7,h8⟩|⟨h7,h8⟩
      · rw [Array.getElem?_push,if_neg (by omega)] at hn
        exact h6 i n q hn h8
      · rw [Array.getElem?_push,if_pos (by omega)] at hn
        cases hn
        subst h8
        exact ⟨rfl,hv⟩
    | some j =>
      have hlt:=idxE_lt hi
      rw [hi] at hfind
      have hfind':Instr.findNow (.int .i64) (.int .i64 a) es.toList 0=some (some (j,es[j].val)):=by rw [hfind,Option.bind_some,show es.toList[j]?=some es[j] by simp];simp
      have hes:es[j]?=some es[j]:=by simp
      obtain ⟨h7,h8⟩:=h6 j es[j] l[j] hes (by simp [hlt])
      have hkey:l[j].1=a:=by
        have:=idxE_key hi
        rw [List.getElem?_eq_getElem hlt] at this
        simpa using this
      have hstay:∀ w',(Instr.keyThatStays es[j].key (.int .i64 a)).run P w'=.ok (.int .i64 a) w':=fun w'=>by
        rw [h7,hkey]
        exact MapKept.run_keyThatStays (intKey a)
      have hres:(execOp ac.eval ⟨none,.mapUpdate T x y z,ty,pos,after,guard⟩).run P w=.ok .skip { w with heap:=w.heap.setIfInBounds cb (.map (es.modify j fun n=>{ n with key:=.int .i64 a,val:=ac.eval z }) clk) }:=by
        simp only [execOp,hm,ha,Instr.mapUpdate,Sem.run_bind,run_underlying (ht.map hk),MapKept.run_getObj_map h4,MapKept.run_checkKey (hK.intk hkk) (intKey a),MapKept.run_findKey (hK.intk hkk) hfind',Result.andThen_ok,Sem.run_pure,MapKept.run_setObj_map _ h4,hes,Option.map_some,Option.getD_some,hstay]
      refine wpIn_of_run (by simp) hres ?_
      refine hk' I ρ _ (.s undef) undef _ rfl (Imm.le_refl _) (Pre.refl _) (hw.setMap (m':=entsE e (putE l a v)) hH h3 hcb (es:=es.modify j fun n=>{ n with key:=.int .i64 a,val:=ac.eval z }) (clock:=clk) ⟨by rw [putE_some v hi];simp [entsE,h5],born_modify (born_at hw hH h3 h4) fun _=>rfl⟩ (fun i n p hn hp=>?_)) (.s _) (by simp)
      rw [putE_some v hi] at hp
      rw [entsE,List.getElem?_map,List.getElem?_modify] at hp
      obtain ⟨q0,hq0⟩:∃ q0,l[i]?=some q0:=by
        cases hq:l[i]? with
        | none=>rw [hq] at hp;cases hp
        | some q=>exact ⟨q,rfl⟩
      rw [hq0] at hp
      cases hp
      rw [Array.getElem?_modify] at hn
      by_cases hji:j=i
      · subst hji
        rw [if_pos rfl,hes] at hn
        simp only [Option.map_some,Option.some.injEq] at hn
        subst hn
        have:q0=l[j]:=by rw [List.getElem?_eq_getElem hlt] at hq0;cases hq0;rfl
        subst this
        dsimp only
        rw [if_pos rfl]
        exact ⟨by rw [hkey],hv⟩
      · rw [if_neg hji] at hn
        dsimp only
        rw [if_neg hji]
        exact h6 i n q0 hn hq0
theorem ls_delete {b:Nat}{e:α→V}{l:List (Int × α)}{a:Int}{ats:Array TypeId}(h0:ats[0]?=some T) (ht:TyIs P T d) (hk:d.tk=.map K E) (hK:TyIs P K dk) (hkk:dk.tk=.int .i64) (hx:eo env x=some (.map b)) (hy:eo env y=some (.s (.int .i64 a))) (hH:H[b]?=some (mapE e l)) :
    LS P r m nt false env H ⟨dst,.call ⟨.builtin .delete,#[x,y],ats⟩,ty,pos,after,guard⟩ (fun _ H'=>H'=H.set b (mapE e (delE l a))) NoP:=.mk
  fun X I ρ ac w next Qx hX hs hk' hp=>by
    have hw:=hs.2.1
    obtain ⟨cb,es,clk,h3,h4,h5,h6⟩:=mapE_at hw hH
    have hm:=map_val (eo_rel hs.1 hx) h3
    have ha:=sval hs.1 hy
    have hfind:=findNow_int a es.toList l 0 (by simpa using h5) (fun j n p hn hp=>(h6 j n p (by simpa using hn) hp).1)
    have hcb:=(Array.getElem?_eq_some_iff.1 h4).1
    cases hi:idxE l a with
    | none =>
      rw [hi] at hfind
      have hres:(execOp ac.eval ⟨dst,.call ⟨.builtin .delete,#[x,y],ats⟩,ty,pos,after,guard⟩).run P w=.ok (.value (.tuple #[])) { w with heap:=w.heap.setIfInBounds cb (.map es clk) }:=by
        simp [execOp,resolve,invoke,builtin,hm,ha,Builtin.delete_,h0,run_underlying (ht.map hk),MapKept.run_getObj_map h4,MapKept.run_checkKey (hK.intk hkk) (intKey a),MapKept.run_findKey (hK.intk hkk) hfind,Result.andThen,MapKept.run_setObj_map _ h4]
      refine wpIn_of_run (by simp) hres ?_
      refine hk' I ρ _ _ _ _ rfl (Imm.le_refl _) (Pre.refl _) (hw.setMap (m':=entsE e (delE l a)) hH h3 hcb (es:=es) (clock:=clk) ⟨by rw [delE_none hi];simp [entsE,h5],born_at hw hH h3 h4⟩ (fun i n p hn hp=>?_)) (VRel.tup (cs:=[]) rfl fun j v u hj=>by simp at hj) (by simp)
      rw [delE_none hi] at hp
      simp only [entsE,List.getElem?_map,Option.map_eq_some_iff] at hp
      obtain ⟨q,hq,rfl⟩:=hp
      exact h6 i n q hn hq
    | some j =>
      have hlt:=idxE_lt hi
      rw [hi] at hfind
      have hfind':Instr.findNow (.int .i64) (.int .i64 a) es.toList 0=some (some (j,es[j].val)):=by rw [hfind,Option.bind_some,show es.toList[j]?=some es[j] by simp];simp
      have hjs:j<es.size:=by omega
      have hres:(execOp ac.eval ⟨dst,.call ⟨.builtin .delete,#[x,y],ats⟩,ty,pos,after,guard⟩).run P w=.ok (.value (.tuple #[])) { w with heap:=w.heap.setIfInBounds cb (.map (es.eraseIdxIfInBounds j) clk) }:=by
        simp [execOp,resolve,invoke,builtin,hm,ha,Builtin.delete_,h0,run_underlying (ht.map hk),MapKept.run_getObj_map h4,MapKept.run_checkKey (hK.intk hkk) (intKey a),MapKept.run_findKey (hK.intk hkk) hfind',Result.andThen,MapKept.run_setObj_map _ h4]
      have hel:es.eraseIdxIfInBounds j=es.eraseIdx j hjs:=by simp [Array.eraseIdxIfInBounds,hjs]
      refine wpIn_of_run (by simp) hres ?_
      refine hk' I ρ _ _ _ _ rfl (Imm.le_refl _) (Pre.refl _) (hw.setMap (m':=entsE e (delE l a)) hH h3 hcb (es:=es.eraseIdxIfInBounds j) (clock:=clk) ⟨by rw [delE_some hi,hel,Array.size_eraseIdx,entsE,List.length_map,List.length_eraseIdx,if_pos hlt];omega,born_erase (born_at hw hH h3 h4)⟩ (fun i n p hn hp=>?_)) (VRel.tup (cs:=[]) rfl fun j v u hj=>by simp at hj) (by simp)
      rw [delE_some hi] at hp
      rw [hel,← Array.getElem?_toList,Array.toList_eraseIdx,List.getElem?_eraseIdx] at hn
      simp only [entsE,List.getElem?_map,Option.map_eq_some_iff,List.getElem?_eraseIdx] at hp
      obtain ⟨q,hq,rfl⟩:=hp
      split at hn<;>rename_i hij
      · rw [if_pos hij] at hq
        exact h6 i n q (by simpa using hn) hq
      · rw [if_neg hij] at hq
        exact h6 (i+1) n q (by simpa using hn) hq
theorem ar_mapUpdate {i b:Nat}{e:α→V}{l:List (Int × α)}{a:Int}{v:α}(ht:TyIs P T d) (hk:d.tk=.map K E) (hK:TyIs P K dk) (hkk:dk.tk=.int .i64) (hx:eo env x=some (.map b)) (hy:eo env y=some (.s (.int .i64 a))) (hz:eo env z=some (e v)) (hH:H[b]?=some (mapE e l))
    (h:AR P r m nt ops Q L env (H.set b (mapE e (putE l a v)))):AR P r m nt ops Q (.l i ⟨none,.mapUpdate T x y z,ty,pos,after,none⟩ false::L) env H :=
  ar_l0 (ls_mapUpdate ht hk hK hkk hx hy hz hH) (fun v H' a=>by subst a;exact h) (fun _ _ h=>h.elim)
theorem ar_delete {i b:Nat}{e:α→V}{l:List (Int × α)}{a:Int}{ats:Array TypeId}(h0:ats[0]?=some T) (ht:TyIs P T d) (hk:d.tk=.map K E) (hK:TyIs P K dk) (hkk:dk.tk=.int .i64) (hx:eo env x=some (.map b)) (hy:eo env y=some (.s (.int .i64 a))) (hH:H[b]?=some (mapE e l))
    (h:AR P r m nt ops Q L env (H.set b (mapE e (delE l a)))):AR P r m nt ops Q (.l i ⟨none,.call ⟨.builtin .delete,#[x,y],ats⟩,ty,pos,after,none⟩ false::L) env H :=
  ar_l0 (ls_delete h0 ht hk hK hkk hx hy hH) (fun v H' a=>by subst a;exact h) (fun _ _ h=>h.elim)
end
def V.ren (r:Nat→Nat):V→V
  | .sl sz b i n=>.sl sz (r b) i n
  | .ptr sz b i off=>.ptr sz (r b) i off
  | .map b=>.map (r b)
  | .agg cs=>.agg (all cs)
  | .tup cs=>.tup (all cs)
  | .fn f a b=>.fn f (all a) (all b)
  | .iface t v=>.iface t (v.ren r)
  | v=>v
where all:List V→List V
  | []=>[]
  | v::l=>v.ren r::all l
theorem ren_all_len {r:Nat→Nat}:∀ l:List V,(V.ren.all r l).length=l.length
  | []=>rfl
  | _::l=>by simp [V.ren.all,ren_all_len l]
theorem ren_all_get {r:Nat→Nat}:∀ (l:List V) (j:Nat),(V.ren.all r l)[j]?=(l[j]?).map (V.ren r)
  | [],j=>by simp [V.ren.all]
  | v::l,j=>by
    cases j with
    | zero=>simp [V.ren.all]
    | succ j=>simp [V.ren.all,ren_all_get l j]
theorem VRel.ren {I:Imm}{ρ ρ':List (Option (Nat × Nat))}{r:Nat→Nat}(hr:∀ (j:Nat) x,ρ[j]?=some x→ρ'[r j]?=some x) {v:V}{u:Value}(h:VRel I ρ v u):VRel I ρ' (v.ren r) u:=by
  induction h with
  | s v=>exact .s v
  | emp A=>exact .emp A
  | agg h _ ih =>
    refine .agg (by rw [ren_all_len];exact h) fun j v u a b=>?_
    rw [ren_all_get] at a
    obtain ⟨v0,h1,rfl⟩:=Option.map_eq_some_iff.1 a
    exact ih j v0 u h1 b hr
  | tup h _ ih =>
    refine .tup (by rw [ren_all_len];exact h) fun j v u a b=>?_
    rw [ren_all_get] at a
    obtain ⟨v0,h1,rfl⟩:=Option.map_eq_some_iff.1 a
    exact ih j v0 u h1 b hr
  | list a b c d e=>exact .list a b c d e
  | sl hb a b c=>exact .sl (hr _ _ hb) a b c
  | slNone A hb=>exact .slNone A (hr _ _ hb)
  | ptr hb=>exact .ptr (hr _ _ hb)
  | ref a b=>exact .ref a b
  | fn h _ h' _ ih ih' =>
    refine .fn (by rw [ren_all_len];exact h) (fun j v u a b=>?_) (by rw [ren_all_len];exact h') (fun j v u a b=>?_)
    · rw [ren_all_get] at a
      obtain ⟨v0,h1,rfl⟩:=Option.map_eq_some_iff.1 a
      exact ih j v0 u h1 b hr
    · rw [ren_all_get] at a
      obtain ⟨v0,h1,rfl⟩:=Option.map_eq_some_iff.1 a
      exact ih' j v0 u h1 b hr
  | iface _ ih=>exact .iface (ih hr)
  | map hb=>exact .map (hr _ _ hb)
theorem ren_cells_len {r:Nat→Nat}(v:V):(v.ren r).cells.length=v.cells.length:=by
  cases v<;>simp [V.ren,V.cells,ren_all_len]
theorem ren_cells_get {r:Nat→Nat}(v:V) {j:Nat}{x:V}(h:(v.ren r).cells[j]?=some x):∃ y,v.cells[j]?=some y∧x=y.ren r:=by
  have:(v.ren r).cells=V.ren.all r v.cells:=by cases v<;>rfl
  rw [this,ren_all_get] at h
  obtain ⟨y,h1,h2⟩:=Option.map_eq_some_iff.1 h
  exact ⟨y,h1,h2.symm⟩
def Blk.ren (r:Nat→Nat):Blk→Blk
  | .arr sz n f=>.arr sz n fun i=>(f i).ren r
  | .map m=>.map (m.map fun p=>(p.1,p.2.ren r))
  | .dead=>.dead
theorem Blk.ren_live {r:Nat→Nat}{b:Blk}:b.ren r≠.dead↔b≠.dead:=by cases b<;>simp [Blk.ren]
def rn (σ:List Nat) (n:Nat) (j:Nat):Nat:=match σ[j]? with|some k=>k|none=>n+(j-σ.length)
def pickB (σ fr:List Nat) (r:Nat→Nat) (H1:Heap) (k:Nat) (b:Blk):Blk:=bif fr.contains k then .dead else match σ.idxOf? k with|some j=>(H1.getD j .dead).ren r|none=>b
def joinAt (σ fr:List Nat) (r:Nat→Nat) (H1:Heap):Nat→Heap→Heap
  | _,[]=>[]
  | k,b::l=>pickB σ fr r H1 k b::joinAt σ fr r H1 (k+1) l
theorem joinAt_get {σ fr:List Nat}{r:Nat→Nat}{H1:Heap}:∀ {H:Heap}{k i:Nat},(joinAt σ fr r H1 k H)[i]?=(H[i]?).map (pickB σ fr r H1 (k+i))
  | [],k,i=>by simp [joinAt]
  | b::l,k,i=>by
    cases i with
    | zero=>simp [joinAt]
    | succ i=>simp only [joinAt,List.getElem?_cons_succ];rw [joinAt_get,show k+1+i=k+(i+1) by omega]
theorem joinAt_len {σ fr:List Nat}{r:Nat→Nat}{H1:Heap}:∀ {H:Heap}{k:Nat},(joinAt σ fr r H1 k H).length=H.length
  | [],_=>rfl
  | _::l,k=>by simp [joinAt,joinAt_len (H:=l)]
def joinH (σ fr:List Nat) (H H1:Heap):Heap:=joinAt σ fr (rn σ H.length) H1 0 H++(H1.drop σ.length).map (Blk.ren (rn σ H.length))
section
variable {X:Ctx}{I J I':Imm}{ρ ρ1:List (Option (Nat × Nat))}{H H0 H1:Heap}{w w':World}
theorem relocate_ok (hw:WOk X I ρ H w) (σ:List Nat) (fr:List Nat) (hlen:σ.length=H0.length) (hinj:σ.Nodup) (hfr:∀ b∈fr,b ∉ σ) (hh:HSub H (σ.map some) (·∈fr) 0 H0) :
    ∃ J,I.le J∧(∀ b,J b≠none→I b≠none∨∃ k z,k∈fr∧(∃ x:Blk,H[k]?=some x∧x≠.dead)∧ρ[k]?=some (some (b,z)))∧WOk (Ctx.self w (relocate (σ.map some) ρ) H0 J) J (relocate (σ.map some) ρ) H0 w ∧
      ∀ {v x:V} {u:Value},VSub H (σ.map some) (·∈fr) v x→VRel I ρ v u→VRel J (relocate (σ.map some) ρ) x u:=by
  classical
  let frz:Nat→Prop:=fun cb=>∃ b z,b∈fr∧(∃ x:Blk,H[b]?=some x∧x≠.dead)∧ρ[b]?=some (some (cb,z))
  let J:Imm:=fun cb=>if frz cb then w.heap[cb]? else I cb
  have liveF:∀ cb,frz cb→Live H ρ cb:=fun cb ⟨b,z,_,⟨x,h1,h2⟩,h3⟩=>⟨b,x,h1,h2,z,h3⟩
  have hI:I.le J:=fun b o h=>by
    show (if frz b then w.heap[b]? else I b)=some o
    rw [if_neg (fun hf=>by rw [hw.apart b (liveF b hf)] at h;cases h)]
    exact h
  have hJok:∀ b o,J b=some o→w.heap[b]?=some o:=fun b o h=>by
    have h:(if frz b then w.heap[b]? else I b)=some o:=h
    split at h
    · exact h
    · exact hw.imm b o h
  have hJ:∀ b cb z o,b∈fr→(∃ x:Blk,H[b]?=some x∧x≠.dead)→ρ[b]?=some (some (cb,z))→w.heap[cb]?=some o→J cb=some o:=fun b cb z o h1 h2 h3 h4=>by
    show (if frz cb then w.heap[cb]? else I cb)=some o
    rw [if_pos ⟨b,z,h1,h2,h3⟩]
    exact h4
  have hJn:∀ b,J b≠none→I b≠none∨frz b:=fun b h=>by
    by_cases hf:frz b
    · exact .inr hf
    · refine .inl ?_
      have h:(if frz b then w.heap[b]? else I b)≠none:=h
      rwa [if_neg hf] at h
  have rel:∀ {v x:V} {u:Value},VSub H (σ.map some) (·∈fr) v x→VRel I ρ v u→VRel J (relocate (σ.map some) ρ) x u:=fun h hu=>h.rel hw hI hJ hu
  have blk:∀ (k:Nat) b,H0[k]?=some b→BSub H (σ.map some) (·∈fr) k b:=fun k b h=>by have:=hSub_get hh h;rwa [Nat.zero_add] at this
  have alive:∀ (k cb z:Nat) b,H0[k]?=some b→b≠.dead→(relocate (σ.map some) ρ)[k]?=some (some (cb,z))→∃ b',(σ.map some)[k]?=some (some b')∧(∃ x:Blk,H[b']?=some x∧x≠.dead)∧ρ[b']?=some (some (cb,z)):=by
    intro k cb z b hk hb hρ
    obtain ⟨b',h1,h2⟩:=relocate_some hρ
    refine ⟨b',h1,?_,h2⟩
    cases b with
    | dead=>exact (hb rfl).elim
    | arr sz n g =>
      rcases blk k _ hk with ⟨c,f,h3,h4,_⟩|⟨h3,_⟩
      · rw [h1] at h3;cases h3;exact ⟨_,h4,by simp⟩
      · rw [h1] at h3;cases h3
    | map ms =>
      obtain ⟨c,ns,h3,h4,_⟩:=blk k _ hk
      rw [h1] at h3;cases h3;exact ⟨_,h4,by simp⟩
  have inj:Inj (σ.map some):=fun i j b h1 h2=>by
    simp only [List.getElem?_map,Option.map_eq_some_iff,Option.some.injEq,exists_eq_right] at h1 h2
    have a1:=(List.getElem?_eq_some_iff.1 h1).1
    exact (List.getElem?_inj a1 hinj).1 (h1.trans h2.symm)
  refine ⟨J,hI,hJn,{ len:=by simp [relocate,hlen],inj:=?_,imm:=hJok,apart:=?_,size:=?_,none:=?_,arr:=?_,map:=?_,mine:=fun b hb=>.inr hb,news:=fun b hb=>.inl hb,le:=Imm.le_refl _,pre:=Pre.refl _,os:=rfl,tape:=rfl,out:=rfl,grow:=Nat.le_refl _,keep:=fun _ _ _=>rfl },rel⟩
  · rintro i j b ⟨x,hx,hx'⟩ ⟨y,hy,hy'⟩ z1 z2 h1 h2
    obtain ⟨i',a1,a2,a3⟩:=alive i b z1 x hx hx' h1
    obtain ⟨j',b1,b2,b3⟩:=alive j b z2 y hy hy' h2
    have:=hw.inj i' j' b a2 b2 z1 z2 a3 b3
    subst this
    exact inj i j i' a1 b1
  · rintro cb ⟨k,b,h1,h2,z,h3⟩
    obtain ⟨b',h4,h5,h6⟩:=alive k cb z b h1 h2 h3
    have hl:Live H ρ cb:=by obtain ⟨x,h7,h8⟩:=h5;exact ⟨b',x,h7,h8,z,h6⟩
    show (if frz cb then w.heap[cb]? else I cb)=none
    rw [if_neg]
    · exact hw.apart cb hl
    · rintro ⟨c,z',h7,h8,h9⟩
      have:=hw.inj b' c cb h5 h8 z z' h6 h9
      subst this
      refine hfr b' h7 ?_
      have:=List.mem_of_getElem? h4
      simpa using this
  · intro k sz n g hk i hi
    rcases blk k _ hk with ⟨b,f,h1,h2,h3⟩|⟨_,rfl⟩
    · rw [(h3 i hi).len]
      exact hw.size b sz n f h2 i hi
    · omega
  · intro k sz n g hk hρ
    rcases blk k _ hk with ⟨b,f,h1,h2,h3⟩|⟨_,rfl⟩
    · cases hb:ρ[b]? with
      | none =>
        have h4:=(List.getElem?_eq_some_iff.1 h2).1
        have h5:=List.getElem?_eq_none_iff.1 hb
        rw [hw.len] at h5
        omega
      | some q =>
        rw [relocate_get h1 hb] at hρ
        cases hρ
        exact hw.none b sz n f h2 hb
    · rfl
  · intro k sz n g cb z hk hρ
    obtain ⟨b',h4,h5,h6⟩:=alive k cb z _ hk (by simp) hρ
    rcases blk k _ hk with ⟨b,f,h1,h2,h3⟩|⟨h1,_⟩
    · rw [h4] at h1
      cases h1
      obtain ⟨cs,ty,a1,a2,a3,a4⟩:=hw.arr _ _ _ _ _ _ h2 h6
      refine ⟨cs,ty,a1,a2,a3,fun i j x hi hx=>?_⟩
      have e:=h3 i hi
      have cell:∃ v,(f i).cells[j]?=some v∧VSub H (σ.map some) (·∈fr) v x:=by
        revert hx
        generalize f i=q at e ⊢
        generalize g i=q' at e ⊢
        intro hx
        cases e with
        | agg h hv =>
          rename_i cs ds
          have hlt:=(List.getElem?_eq_some_iff.1 hx).1
          have hlt':j<cs.length:=by simp [V.cells] at hlt;omega
          exact ⟨cs[j],by simp [V.cells,hlt'],hv j _ x (by simp [hlt']) hx⟩
        | closed hc =>
          refine ⟨x,hx,.closed ?_⟩
          cases q<;>simp only [V.cells] at hx<;>first
            | exact closed_all (by simp only [V.closed] at hc;exact hc) hx
            | (cases j<;>simp at hx;subst hx;exact hc)
        | sl h=>cases j<;>simp [V.cells] at hx;subst hx;exact ⟨_,rfl,.sl h⟩
        | ptr h=>cases j<;>simp [V.cells] at hx;subst hx;exact ⟨_,rfl,.ptr h⟩
        | map h=>cases j<;>simp [V.cells] at hx;subst hx;exact ⟨_,rfl,.map h⟩
        | nil h=>cases j<;>simp [V.cells] at hx;subst hx;exact ⟨_,rfl,.nil h⟩
        | emp h=>cases j<;>simp [V.cells] at hx;subst hx;exact ⟨_,rfl,.emp h⟩
        | nilList=>cases j<;>simp [V.cells] at hx;subst hx;exact ⟨_,rfl,.nilList⟩
        | empList=>cases j<;>simp [V.cells] at hx;subst hx;exact ⟨_,rfl,.empList⟩
        | frz a b c d e=>cases j<;>simp [V.cells] at hx;subst hx;exact ⟨_,rfl,.frz a b c d e⟩
        | frzPtr a b c d=>cases j<;>simp [V.cells] at hx;subst hx;exact ⟨_,rfl,.frzPtr a b c d⟩
        | ext a=>cases j<;>simp [V.cells] at hx;subst hx;exact ⟨_,rfl,.ext a⟩
        | tup a b=>cases j<;>simp [V.cells] at hx;subst hx;exact ⟨_,rfl,.tup a b⟩
        | fn a b c d=>cases j<;>simp [V.cells] at hx;subst hx;exact ⟨_,rfl,.fn a b c d⟩
      obtain ⟨v,b1,b2⟩:=cell
      obtain ⟨u,c1,c2⟩:=a4 i j v hi b1
      exact ⟨u,c1,rel b2 c2⟩
    · rw [h4] at h1;cases h1
  · intro k ms hk
    obtain ⟨b,ns,h1,h2,h3,h4⟩:=blk k _ hk
    obtain ⟨cb,h5,es,clk,h6,h7,h8⟩:=hw.map _ _ h2
    refine ⟨cb,relocate_get h1 h5,es,clk,h6,⟨h7.size.trans h3,h7.born⟩,fun i e y he hy=>?_⟩
    have hlt:i<ns.length:=by have:=(List.getElem?_eq_some_iff.1 hy).1;omega
    obtain ⟨c1,c2⟩:=h8 i e ns[i] he (by simp [hlt])
    obtain ⟨d1,d2⟩:=h4 i ns[i] y (by simp [hlt]) hy
    exact ⟨c1.trans d1,rel d2 c2⟩
theorem pre_len {σ τ:List (Option (Nat × Nat))}(h:Pre σ τ):σ.length≤τ.length:=by
  cases e:σ.length with
  | zero=>omega
  | succ n =>
    have h1:σ[n]?=some σ[n]:=by simp [e]
    have:=(List.getElem?_eq_some_iff.1 (h n _ h1)).1
    omega
theorem idxOf_some {σ:List Nat}{k j:Nat}(h:σ.idxOf? k=some j):σ[j]?=some k:=by
  rw [List.idxOf?_eq_some_iff] at h
  obtain ⟨h1,h2,_⟩:=h
  rw [List.getElem?_eq_some_iff]
  exact ⟨h1,by simpa using h2⟩
theorem idxOf_none {σ:List Nat}{k:Nat}(h:σ.idxOf? k=none):k ∉ σ:=by simpa [List.idxOf?_eq_none_iff] using h
theorem keepsNone (hw:WOk X I ρ H w) {k:Nat}{b:Blk}(h:H[k]?=some b):∃ x,ρ[k]?=some x:=by
  have h1:=(List.getElem?_eq_some_iff.1 h).1
  rw [← hw.len] at h1
  exact ⟨ρ[k],by simp [h1]⟩
theorem WOk.joinG (hw:WOk X I ρ H w) (σ:List Nat) (fr:List Nat) (hlen:σ.length=H0.length) (_hinj:σ.Nodup) (_hfr:∀ b∈fr,b ∉ σ) (hh:HSub H (σ.map some) (·∈fr) 0 H0) (hlive:∀ b∈H0,b≠.dead)
    (hJ:I.le J) (hJn:∀ b,J b≠Option.none→I b≠Option.none∨∃ k z,k∈fr∧(∃ x:Blk,H[k]?=some x∧x≠.dead)∧ρ[k]?=some (some (b,z)))
    (k:WOk (Ctx.self w (relocate (σ.map some) ρ) H0 J) I' ρ1 H1 w') :
    WOk X I' (ρ++ρ1.drop σ.length) (joinH σ fr H H1) w'∧∀ (j:Nat) x,ρ1[j]?=some x→(ρ++ρ1.drop σ.length)[rn σ H.length j]?=some x:=by
  have hlenH:=hw.len
  have hpre:Pre (relocate (σ.map some) ρ) ρ1:=k.pre
  have hle1:σ.length≤ρ1.length:=by have:=pre_len hpre;simpa [relocate] using this
  have hl1:=k.len
  have blk:∀ (j:Nat) b,H0[j]?=some b→BSub H (σ.map some) (·∈fr) j b:=fun j b h=>by have:=hSub_get hh h;rwa [Nat.zero_add] at this
  have aliveσ:∀ (j k0:Nat),σ[j]?=some k0→∃ b0,H0[j]?=some b0∧b0≠.dead∧∃ x:Blk,H[k0]?=some x∧x≠.dead:=fun j k0 hj=>by
    have hlt:=(List.getElem?_eq_some_iff.1 hj).1
    have h1:H0[j]?=some H0[j]:=by simp
    have h2:=hlive H0[j] (List.getElem_mem _)
    refine ⟨_,h1,h2,?_⟩
    have h3:=blk j _ h1
    have hs:(σ.map some)[j]?=some (some k0):=by simp [hj]
    cases e:H0[j] with
    | dead=>exact (h2 e).elim
    | arr sz n g =>
      rw [e] at h3
      rcases h3 with ⟨c,f,h3,h4,_⟩|⟨h3,_⟩
      · rw [hs] at h3;cases h3;exact ⟨_,h4,by simp⟩
      · rw [hs] at h3;cases h3
    | map ms =>
      rw [e] at h3
      obtain ⟨c,ns,h3,h4,_⟩:=h3
      rw [hs] at h3;cases h3;exact ⟨_,h4,by simp⟩
  have ρσ:∀ (j k0:Nat) x,σ[j]?=some k0→ρ[k0]?=some x→ρ1[j]?=some x:=fun j k0 x h1 h2=>hpre j x (relocate_get (by simp [h1]) h2)
  have ρσ':∀ (j k0:Nat) x,σ[j]?=some k0→ρ1[j]?=some x→ρ[k0]?=some x:=fun j k0 x h1 h2=>by
    obtain ⟨_,_,_,y,h3,_⟩:=aliveσ j k0 h1
    obtain ⟨z,h4⟩:=keepsNone hw h3
    have:=ρσ j k0 z h1 h4
    rw [h2] at this
    rw [h4,this]
  have hr:∀ (j:Nat) x,ρ1[j]?=some x→(ρ++ρ1.drop σ.length)[rn σ H.length j]?=some x:=fun j x h=>by
    unfold rn
    cases hs:σ[j]? with
    | some k0 =>
      show (ρ++ρ1.drop σ.length)[k0]?=some x
      have h1:=ρσ' j k0 x hs h
      rw [List.getElem?_append_left (List.getElem?_eq_some_iff.1 h1).1]
      exact h1
    | none =>
      show (ρ++ρ1.drop σ.length)[H.length+(j-σ.length)]?=some x
      have h1:σ.length≤j:=by simpa using hs
      rw [List.getElem?_append_right (by omega),hlenH,List.getElem?_drop,show σ.length+(H.length+(j-σ.length)-H.length)=j by omega]
      exact h
  have live0:∀ b,Live H0 (relocate (σ.map some) ρ) b→∃ j k0 z,σ[j]?=some k0∧(∃ x:Blk,H[k0]?=some x∧x≠.dead)∧ρ[k0]?=some (some (b,z)):=fun b ⟨j,blk0,h1,h2,z,h3⟩=>by
    obtain ⟨k0,h4,h5⟩:=relocate_some h3
    simp only [List.getElem?_map,Option.map_eq_some_iff,Option.some.injEq,exists_eq_right] at h4
    obtain ⟨_,_,_,h6⟩:=aliveσ j k0 h4
    exact ⟨j,k0,z,h4,h6,h5⟩
  have live0':∀ b,Live H0 (relocate (σ.map some) ρ) b→Live H ρ b:=fun b hb=>by
    obtain ⟨j,k0,z,_,⟨x,h2,h3⟩,h4⟩:=live0 b hb
    exact ⟨k0,x,h2,h3,z,h4⟩
  have split:∀ (i:Nat) b,(joinH σ fr H H1)[i]?=some b→b≠.dead→(i<H.length∧i ∉ σ∧i ∉ fr∧H[i]?=some b)∨(∃ j b1,i=rn σ H.length j∧H1[j]?=some b1∧b=b1.ren (rn σ H.length)∧(i<H.length→σ[j]?=some i)∧(H.length≤i→σ.length≤j)):=fun i b h hb=>by
    unfold joinH at h
    by_cases hi:i<H.length
    · rw [List.getElem?_append_left (by rw [joinAt_len];exact hi),joinAt_get,Nat.zero_add] at h
      obtain ⟨b0,h1,h2⟩:=Option.map_eq_some_iff.1 h
      unfold pickB at h2
      cases hf:fr.contains i with
      | true=>rw [hf] at h2;simp at h2;exact (hb h2.symm).elim
      | false =>
        rw [hf] at h2
        simp only [cond_false] at h2
        cases hx:σ.idxOf? i with
        | none =>
          rw [hx] at h2
          exact .inl ⟨hi,idxOf_none hx,by simpa using hf,by rw [h1];exact congrArg some h2⟩
        | some j =>
          rw [hx] at h2
          have hj:=idxOf_some hx
          have hjl:=(List.getElem?_eq_some_iff.1 hj).1
          have hlt:j<H1.length:=by omega
          refine .inr ⟨j,H1[j],by simp [rn,hj],by simp [hlt],?_,fun _=>hj,fun h=>by omega⟩
          rw [← h2]
          simp [hlt]
    · rw [List.getElem?_append_right (by rw [joinAt_len];omega),joinAt_len,List.getElem?_map,List.getElem?_drop] at h
      obtain ⟨b1,h1,h2⟩:=Option.map_eq_some_iff.1 h
      refine .inr ⟨σ.length+(i-H.length),b1,?_,h1,h2.symm,fun h=>by omega,fun _=>by omega⟩
      have:σ[σ.length+(i-H.length)]?=Option.none:=by simp
      simp only [rn,this]
      omega
  have ρold:∀ (i:Nat) x,i<H.length→(ρ++ρ1.drop σ.length)[i]?=some x→ρ[i]?=some x:=fun i x hi h=>by
    rwa [List.getElem?_append_left (by omega)] at h
  have ρnew:∀ (i j:Nat) x b1,i=rn σ H.length j→H1[j]?=some b1→(ρ++ρ1.drop σ.length)[i]?=some x→ρ1[j]?=some x:=fun i j x b1 hi hb h=>by
    have hlt:j<ρ1.length:=by have:=(List.getElem?_eq_some_iff.1 hb).1;omega
    have:=hr j ρ1[j] (by simp [hlt])
    rw [← hi,h] at this
    cases this
    simp [hlt]
  have oldLive:∀ (i b y:Nat) (x:Blk),H[i]?=some x→x≠.dead→ρ[i]?=some (some (b,y))→b<w.heap.size:=fun i b y x h1 h2 h3=>hw.lt ⟨i,x,h1,h2,y,h3⟩
  have same:∀ (i b y:Nat) (x:Blk),i ∉ σ→H[i]?=some x→x≠.dead→ρ[i]?=some (some (b,y))→w'.heap[b]?=w.heap[b]?:=fun i b y x hi h1 h2 h3=>by
    refine k.keep b (oldLive i b y x h1 h2 h3) fun hl=>?_
    obtain ⟨j,k0,z,h4,h5,h6⟩:=live0 b hl
    have:=hw.inj i k0 b ⟨x,h1,h2⟩ h5 y z h3 h6
    subst this
    exact hi (List.mem_of_getElem? h4)
  have clash:∀ (i j b y z:Nat) (x b1:Blk),i ∉ σ→H[i]?=some x→x≠.dead→ρ[i]?=some (some (b,y))→H1[j]?=some b1→b1≠.dead→ρ1[j]?=some (some (b,z))→False:=fun i j b y z x b1 hi h1 h2 h3 h4 h5 h6=>by
    have hlt:=oldLive i b y x h1 h2 h3
    rcases k.mine b ⟨j,b1,h4,h5,z,h6⟩ with h|h
    · have:w.heap.size≤b:=h
      omega
    · obtain ⟨j',k0,z',h7,h8,h9⟩:=live0 b h
      have:=hw.inj i k0 b ⟨x,h1,h2⟩ h8 y z' h3 h9
      subst this
      exact hi (List.mem_of_getElem? h7)
  have rlen:(ρ++ρ1.drop σ.length).length=(joinH σ fr H H1).length:=by simp [joinH,joinAt_len,hlenH,hl1]
  have up:∀ {v:V} {u:Value},VRel I ρ v u→VRel I' (ρ++ρ1.drop σ.length) v u:=fun h=>h.mono (Imm.le_trans hJ k.le) fun i x h=>by rw [List.getElem?_append_left (List.getElem?_eq_some_iff.1 h).1];exact h
  refine ⟨?_,hr⟩
  exact { len:=rlen
          inj:=fun i j b ⟨p,hp,hp'⟩ ⟨q,hq,hq'⟩ y z hy hz=>by
            rcases split i p hp hp' with ⟨a1,a2,_,a4⟩|⟨j1,p1,a1,a2,a3,a4,a5⟩<;>rcases split j q hq hq' with ⟨b1,b2,_,b4⟩|⟨j2,q1,b1,b2,b3,b4,b5⟩
            · exact hw.inj i j b ⟨p,a4,hp'⟩ ⟨q,b4,hq'⟩ y z (ρold i _ a1 hy) (ρold j _ b1 hz)
            · exact (clash i j2 b y z p q1 a2 a4 hp' (ρold i _ a1 hy) b2 (by rw [b3] at hq';exact Blk.ren_live.1 hq') (ρnew j j2 _ q1 b1 b2 hz)).elim
            · exact (clash j j1 b z y q p1 b2 b4 hq' (ρold j _ b1 hz) a2 (by rw [a3] at hp';exact Blk.ren_live.1 hp') (ρnew i j1 _ p1 a1 a2 hy)).elim
            · have:=k.inj j1 j2 b ⟨p1,a2,by rw [a3] at hp';exact Blk.ren_live.1 hp'⟩ ⟨q1,b2,by rw [b3] at hq';exact Blk.ren_live.1 hq'⟩ y z (ρnew i j1 _ p1 a1 a2 hy) (ρnew j j2 _ q1 b1 b2 hz)
              rw [a1,b1,this]
          imm:=k.imm
          apart:=fun b ⟨i,p,hp,hp',z,hz⟩=>by
            rcases split i p hp hp' with ⟨a1,a2,a3,a4⟩|⟨j1,p1,a1,a2,a3,a4,a5⟩
            · have hz:=ρold i _ a1 hz
              have hlt:=oldLive i b z p a4 hp' hz
              have hI:=hw.apart b ⟨i,p,a4,hp',z,hz⟩
              cases e:I' b with
              | none=>rfl
              | some o =>
                rcases k.news b (by rw [e];simp) with h|h|h
                · rcases hJn b h with h|⟨k0,z',h1,h2,h3⟩
                  · exact (h hI).elim
                  · have:=hw.inj i k0 b ⟨p,a4,hp'⟩ h2 z z' hz h3
                    subst this
                    exact (a3 h1).elim
                · have:w.heap.size≤b:=h
                  omega
                · obtain ⟨j',k0,z',h7,h8,h9⟩:=live0 b h
                  have:=hw.inj i k0 b ⟨p,a4,hp'⟩ h8 z z' hz h9
                  subst this
                  exact (a2 (List.mem_of_getElem? h7)).elim
            · exact k.apart b ⟨j1,p1,a2,by rw [a3] at hp';exact Blk.ren_live.1 hp',z,ρnew i j1 _ p1 a1 a2 hz⟩
          size:=fun i s m f h q hq=>by
            rcases split i _ h (by simp) with ⟨a1,a2,a3,a4⟩|⟨j1,p1,a1,a2,a3,a4,a5⟩
            · exact hw.size i s m f a4 q hq
            · cases p1<;>simp only [Blk.ren] at a3<;>cases a3
              rw [ren_cells_len]
              exact k.size j1 _ _ _ a2 q hq
          none:=fun i s m f h hn=>by
            rcases split i _ h (by simp) with ⟨a1,a2,a3,a4⟩|⟨j1,p1,a1,a2,a3,a4,a5⟩
            · exact hw.none i s m f a4 (ρold i _ a1 hn)
            · cases p1<;>simp only [Blk.ren] at a3<;>cases a3
              exact k.none j1 _ _ _ a2 (ρnew i j1 _ _ a1 a2 hn)
          arr:=fun i s m f b z h hz=>by
            rcases split i _ h (by simp) with ⟨a1,a2,a3,a4⟩|⟨j1,p1,a1,a2,a3,a4,a5⟩
            · have hz:=ρold i _ a1 hz
              refine (hw.arr i s m f b z a4 hz).mono (Imm.le_trans hJ k.le) (fun i x h=>?_) (same i b z _ a2 a4 (by simp) hz)
              rw [List.getElem?_append_left (List.getElem?_eq_some_iff.1 h).1];exact h
            · cases p1<;>simp only [Blk.ren] at a3<;>cases a3
              obtain ⟨cs,ty,h1,h2,h3,h4⟩:=k.arr j1 _ _ _ b z a2 (ρnew i j1 _ _ a1 a2 hz)
              refine ⟨cs,ty,h1,h2,h3,fun q j v hq hv=>?_⟩
              obtain ⟨y,h5,rfl⟩:=ren_cells_get _ hv
              obtain ⟨u,h6,h7⟩:=h4 q j y hq h5
              exact ⟨u,h6,h7.ren hr⟩
          map:=fun i ms h=>by
            rcases split i _ h (by simp) with ⟨a1,a2,a3,a4⟩|⟨j1,p1,a1,a2,a3,a4,a5⟩
            · obtain ⟨b,h1,h2⟩:=hw.map i ms a4
              refine ⟨b,by rw [List.getElem?_append_left (by omega)];exact h1,h2.mono (Imm.le_trans hJ k.le) (fun i x h=>?_) (same i b 0 _ a2 a4 (by simp) h1)⟩
              rw [List.getElem?_append_left (List.getElem?_eq_some_iff.1 h).1];exact h
            · cases p1<;>simp only [Blk.ren] at a3<;>cases a3
              obtain ⟨b,h1,es,clk,h2,h3,h4⟩:=k.map j1 _ a2
              refine ⟨b,by rw [a1];exact hr j1 _ h1,es,clk,h2,⟨by simpa using h3.size,h3.born⟩,fun q e x he hx=>?_⟩
              rw [List.getElem?_map] at hx
              obtain ⟨y,h5,rfl⟩:=Option.map_eq_some_iff.1 hx
              obtain ⟨h6,h7⟩:=h4 q e y he h5
              exact ⟨h6,h7.ren hr⟩
          mine:=fun b ⟨i,p,hp,hp',z,hz⟩=>by
            rcases split i p hp hp' with ⟨a1,a2,a3,a4⟩|⟨j1,p1,a1,a2,a3,a4,a5⟩
            · exact hw.mine b ⟨i,p,a4,hp',z,ρold i _ a1 hz⟩
            · rcases k.mine b ⟨j1,p1,a2,by rw [a3] at hp';exact Blk.ren_live.1 hp',z,ρnew i j1 _ p1 a1 a2 hz⟩ with h|h
              · exact .inl (Nat.le_trans hw.grow h)
              · exact hw.mine b (live0' b h)
          news:=fun b hb=>by
            rcases k.news b hb with h|h|h
            · rcases hJn b h with h|⟨k0,z',_,⟨x,h1,h2⟩,h3⟩
              · exact hw.news b h
              · exact .inr (hw.mine b ⟨k0,x,h1,h2,z',h3⟩)
            · exact .inr (.inl (Nat.le_trans hw.grow h))
            · exact .inr (hw.mine b (live0' b h))
          le:=Imm.le_trans hw.le (Imm.le_trans hJ k.le)
          pre:=hw.pre.trans fun i x h=>by rw [List.getElem?_append_left (List.getElem?_eq_some_iff.1 h).1];exact h
          os:=k.os.trans hw.os,tape:=k.tape.trans hw.tape,out:=k.out.trans hw.out,grow:=Nat.le_trans hw.grow k.grow
          keep:=fun b hb hl=>by
            refine (k.keep b (Nat.lt_of_lt_of_le hb hw.grow) fun h=>?_).trans (hw.keep b hb hl)
            rcases hw.mine b (live0' b h) with h1|h1
            · omega
            · exact hl h1 }
end
def ArgsSub (H:Heap) (σ fr:List Nat):List V→List V→Prop
  | [],[]=>True
  | v::l,x::m=>VSub H (σ.map some) (·∈fr) v x∧ArgsSub H σ fr l m
  | _,_=>False
theorem argsSub_rel {H:Heap}{σ fr:List Nat}{I J:Imm}{ρ ρ':List (Option (Nat × Nat))}(rel:∀ {v x:V}{u:Value},VSub H (σ.map some) (·∈fr) v x→VRel I ρ v u→VRel J ρ' x u) :
    ∀ {vs xs:List V} {us:List Value},ArgsSub H σ fr vs xs→VRels I ρ vs us.toArray→VRels J ρ' xs us.toArray
  | [],[],us,_,h=>⟨h.1,fun j v u hj=>by simp at hj⟩
  | v::vs,x::xs,us,⟨ha1,ha2⟩,h=>by
    cases us with
    | nil=>have:=h.1;simp at this
    | cons u us =>
      have h1:VRels I ρ vs us.toArray:=⟨by have:=h.1;simpa using this,fun j v u hj hu=>h.2 (j+1) v u (by simpa using hj) (by simpa using hu)⟩
      have ih:=argsSub_rel rel ha2 h1
      refine ⟨by have:=ih.1;simpa using this,fun j y q hj hu=>?_⟩
      cases j with
      | zero=>simp at hj hu;subst hj hu;exact rel ha1 (h.2 0 v u rfl rfl)
      | succ j=>exact ih.2 j y q (by simpa using hj) (by simpa using hu)
  | [],_::_,_,h,_=>h.elim
  | _::_,[],_,h,_=>h.elim
section
variable {P:Program}{r:Option Nat}{m nt:Nat}{Q:Post}{env:Env}{H H0:Heap}{ops:Array Oper}{l:List Stp}{dst:Option Tmp}{ty:TypeId}{pos:String}{after:Array Edge}{guard:Option (Nat × Bool)}{keep:Bool}
theorem ls_gcall (σ fr:List Nat) {fo:Operand}{args:List Operand}{ats:Array TypeId}{f:FuncId}{first cap vs xs:List V}{R Rp:V→Heap→Prop}(hfn:FnOk P f) (hf:eo env fo=some (.fn (.func f) first cap)) (hargs:args.mapM (eo env)=some vs)
    (ha:ArgsSub H σ fr (first++vs++cap) xs) (hlen:σ.length=H0.length) (hinj:σ.Nodup) (hfr:∀ b∈fr,b ∉ σ) (hh:HSub H (σ.map some) (·∈fr) 0 H0) (hlive:∀ b∈H0,b≠.dead) (h:ACalls P f xs H0 R Rp) :
    LS P r m nt false env H ⟨dst,.call ⟨.value fo,args.toArray,ats⟩,ty,pos,after,guard⟩ (fun v H'=>∃ v1 H1,R v1 H1∧v=v1.ren (rn σ H.length)∧H'=joinH σ fr H H1) (fun v H'=>∃ v1 H1,Rp v1 H1∧v=v1.ren (rn σ H.length)∧H'=joinH σ fr H H1):=.mk
  fun X I ρ a w next Qx hX hs hk hp=>by
    have hw:=hs.2.1
    have h1:=eo_rel hs.1 hf
    cases h1':a.eval fo<;>rw [h1'] at h1<;>cases h1
    rename_i us ws e1 e2 e3 e4
    have hrel:VRels I ρ (first++vs++cap) (us++(args.map a.eval).toArray++ws):=(VRels.append ⟨e1,e2⟩ (evals hs.1 hargs)).append ⟨e3,e4⟩
    obtain ⟨J,hJ,hJn,hwJ,rel⟩:=relocate_ok hw σ fr hlen hinj hfr hh
    have hrel':=argsSub_rel (us:=(us++(args.map a.eval).toArray++ws).toList) rel ha (by rw [Array.toArray_toList];exact hrel)
    rw [Array.toArray_toList] at hrel'
    refine wpIn_of_run (by simp) (call_run hfn h1' w) ⟨fun h=>by simp [Fw,Fence.wide] at h,callsIn_fw.2 ((h.1 _ J _ w _ hwJ hrel').mono fun e w' ⟨v,u,I',ρ1,H1,hle,hpre,hw',hr,h2⟩=>?_)⟩
    obtain ⟨hj,hren⟩:=hw.joinG σ fr hlen hinj hfr hh hlive hJ hJn hw'
    rcases h2 with ⟨rfl,hR⟩|⟨rfl,hR⟩
    · exact hk I' _ _ _ u w' ⟨v,H1,hR,rfl,rfl⟩ (Imm.le_trans hJ hle) (fun i x h=>by rw [List.getElem?_append_left (List.getElem?_eq_some_iff.1 h).1];exact h) hj (hr.ren hren) (by simp)
    · exact hp I' _ _ _ u w' ⟨v,H1,hR,rfl,rfl⟩ (Imm.le_trans hJ hle) hj (hr.ren hren)
theorem ar_gcall (σ fr:List Nat) {i d:Nat}{fo:Operand}{args:List Operand}{ats:Array TypeId}{f:FuncId}{first cap vs xs:List V}{R Rp:V→Heap→Prop}(hfn:FnOk P f) (hf:eo env fo=some (.fn (.func f) first cap)) (hargs:args.mapM (eo env)=some vs)
    (ha:ArgsSub H σ fr (first++vs++cap) xs) (hlen:σ.length=H0.length) (hinj:σ.Nodup) (hfr:∀ b∈fr,b ∉ σ) (hh:HSub H (σ.map some) (·∈fr) 0 H0) (hlive:∀ b∈H0,b≠.dead) (h:ACalls P f xs H0 R Rp) (hd:d<nt)
    (hk:∀ v1 H1,R v1 H1→AR P r m nt ops Q l ((d,v1.ren (rn σ H.length))::env) (joinH σ fr H H1)) (hp:∀ v1 H1,Rp v1 H1→Q (.panic (v1.ren (rn σ H.length))) [] (joinH σ fr H H1)) :
    AR P r m nt ops Q (.l i ⟨some d,.call ⟨.value fo,args.toArray,ats⟩,ty,pos,after,Option.none⟩ false::l) env H :=
  ar_l (ls_gcall σ fr hfn hf hargs ha hlen hinj hfr hh hlive h) hd (fun v H' ⟨v1,H1,hR,a,b⟩=>by subst a;subst b;exact hk v1 H1 hR) (fun v H' ⟨v1,H1,hR,a,b⟩=>by subst a;subst b;exact hp v1 H1 hR)
end
end Go.Proofs.YtloaefllpokkaaaGreat
namespace Go.Proofs.YtloaefllpokkaaaGreat
open Go.ChangeShapes Go.WideShapes Go.ChangeAt Go.RowKit Go.Deep
def vu8 (n:Int):V:=.s (.int .u8 n)
structure Itm where
  kind:Int
  src:Int
  place:Int
  uses:Int
  gone:Bool
instance:Inhabited Itm:=⟨⟨0,0,0,0,false⟩⟩
structure Prt where
  plate:Int
  state:Int
instance:Inhabited Prt:=⟨⟨0,0⟩⟩
structure Sto where
  life:Int
  items:List Itm
  prints:List Prt
structure Deed where
  kind:Int
  item:Int
  dest:Int
  n:Int
instance:Inhabited Deed:=⟨⟨0,0,0,0⟩⟩
def Itm.enc (x:Itm):V:=.agg [vu8 x.kind,vi x.src,vi x.place,vi x.uses,vb x.gone]
def Prt.enc (x:Prt):V:=.agg [vi x.plate,vu8 x.state]
abbrev encItems (l:List Itm):V:=LV 5 Itm.enc l
abbrev encPrints (l:List Prt):V:=LV 2 Prt.enc l
def Sto.enc (s:Sto):V:=.agg [vi s.life,encItems s.items,encPrints s.prints]
def Deed.enc (x:Deed):V:=.agg [vu8 x.kind,vi x.item,vi x.dest,vi x.n]
def u8ok (n:Int):Prop:=0≤n∧n≤255
def Itm.wf (x:Itm):Prop:=u8ok x.kind∧i64ok x.src∧i64ok x.place∧i64ok x.uses
def Prt.wf (x:Prt):Prop:=i64ok x.plate∧u8ok x.state
def Sto.wf (s:Sto):Prop:=i64ok s.life∧(∀ x,x∈s.items→x.wf)∧∀ x,x∈s.prints→x.wf
def Deed.wf (x:Deed):Prop:=u8ok x.kind∧i64ok x.item∧i64ok x.dest∧i64ok x.n
def Made (l:List Itm) (i:Nat):Prop:=((el l i).kind=1∧(el l i).src=-1)∨(((el l i).kind=2∨(el l i).kind=3)∧(0≤(el l i).src∧(el l i).src<(i:Int))∧(el l (el l i).src.toNat).kind=(el l i).kind-1)
instance (l:List Itm) (i:Nat):Decidable (Made l i):=by unfold Made;infer_instance
def PlacedTo (l:List Itm) (i k:Nat):Prop:=(0≤(el l i).place∧(el l i).place≤9)∧((el l i).gone=true→(el l i).place=0)∧(2≤(el l i).place→(el l i).kind=3∧∀ j,j<k→j≠i→(el l j).place≠(el l i).place)
instance (l:List Itm) (i k:Nat):Decidable (PlacedTo l i k):=by unfold PlacedTo;infer_instance
def Placed (l:List Itm) (i:Nat):Prop:=PlacedTo l i l.length
instance (l:List Itm) (i:Nat):Decidable (Placed l i):=by unfold Placed;infer_instance
def cntB (p:Nat→Bool):Nat→Int
  | 0=>0
  | k+1=>cntB p k+(if p k=true then 1 else 0)
theorem cntB_bnd {p:Nat→Bool}:∀ k:Nat,0≤cntB p k∧cntB p k≤k
  | 0=>by simp [cntB]
  | k+1=>by
    have:=cntB_bnd (p:=p) k
    simp only [cntB]
    split<;>omega
theorem cntB_yes {p:Nat→Bool}{k:Nat}(h:p k=true):cntB p (k+1)=cntB p k+1:=by simp [cntB,h]
theorem cntB_no {p:Nat→Bool}{k:Nat}(h:p k=false):cntB p (k+1)=cntB p k:=by simp [cntB,h]
theorem cntB_congr {p q:Nat→Bool}:∀ {k:Nat},(∀ j,j<k→p j=q j)→cntB p k=cntB q k
  | 0,_=>rfl
  | k+1,h=>by simp only [cntB];rw [cntB_congr fun j hj=>h j (by omega),h k (by omega)]
theorem cntB_none {p:Nat→Bool}:∀ {k:Nat},(∀ j,j<k→p j=false)→cntB p k=0
  | 0,_=>rfl
  | k+1,h=>by simp only [cntB];rw [cntB_none fun j hj=>h j (by omega),h k (by omega)];rfl
def usedI (l:List Itm) (i:Int) (k:Nat):Int:=cntB (fun j=>decide ((el l j).src=i)) k
def usedP (l:List Prt) (i:Int) (k:Nat):Int:=cntB (fun j=>decide ((el l j).plate=i)) k
def usedS (s:Sto) (i:Int):Int:=usedI s.items i s.items.length+usedP s.prints i s.prints.length
def Printed (l:List Itm) (p:Prt):Prop:=(0≤p.plate∧p.plate<(l.length:Int))∧(el l p.plate.toNat).kind=3∧p.state≤2
instance (l:List Itm) (p:Prt):Decidable (Printed l p):=by unfold Printed;infer_instance
def mostOf (life:Int) (x:Itm):Int:=if x.kind=3 then life else 10
def UsedOk (s:Sto) (i:Nat):Prop:=(el s.items i).uses=usedS s i∧(el s.items i).uses≤mostOf s.life (el s.items i)
instance (s:Sto) (i:Nat):Decidable (UsedOk s i):=by unfold UsedOk;infer_instance
def Few (s:Sto):Prop:=(1≤s.life∧s.life≤1000)∧s.items.length≤30∧s.prints.length≤400
instance (s:Sto):Decidable (Few s):=by unfold Few;infer_instance
def Valid (s:Sto):Prop:=Few s∧(∀ i,i<s.items.length→Made s.items i)∧(∀ i,i<s.items.length→Placed s.items i)∧(∀ j,j<s.prints.length→Printed s.items (el s.prints j))∧∀ i,i<s.items.length→UsedOk s i
instance (s:Sto):Decidable (Valid s):=by unfold Valid;infer_instance
theorem placed_all {l:List Itm}(h:∀ i,i<l.length→PlacedTo l i i):∀ i,i<l.length→Placed l i:=fun i hi=>by
  obtain ⟨h1,h2,h3⟩:=h i hi
  refine ⟨h1,h2,fun hp=>⟨(h3 hp).1,fun j hj hne=>?_⟩⟩
  by_cases hlt:j<i
  · exact (h3 hp).2 j hlt hne
  · intro e
    exact ((h j hj).2.2 (by omega)).2 i (by omega) (by omega) e.symm
theorem placed_to {l:List Itm}{i:Nat}(h:Placed l i) (hi:i≤l.length):PlacedTo l i i :=
  ⟨h.1,h.2.1,fun hp=>⟨(h.2.2 hp).1,fun j hj hne=>(h.2.2 hp).2 j (by omega) hne⟩⟩
def pressTo (l:List Itm):Nat→List (Int × Int)
  | 0=>[]
  | i+1=>if 2≤(el l i).place then putE (pressTo l i) (el l i).place i else pressTo l i
theorem getE_put {α:Type}:∀ (l:List (Int × α)) (a b:Int) (v:α),getE (putE l a v) b=if b=a then some v else getE l b
  | [],a,b,v=>by simp only [putE,getE]
  | p::l,a,b,v=>by
    simp only [putE]
    by_cases h:a=p.1
    · rw [if_pos h]
      simp only [getE]
      by_cases hb:b=p.1
      · rw [if_pos hb,if_pos (by rw [hb,h])]
      · rw [if_neg hb,if_neg (by rw [h];exact hb),if_neg hb]
    · rw [if_neg h]
      simp only [getE]
      by_cases hb:b=p.1
      · rw [if_pos hb,if_neg (by rw [hb];exact fun e=>h e.symm),if_pos hb]
      · rw [if_neg hb,if_neg hb,getE_put l a b v]
def keysOk {α:Type}(l:List (Int × α)):Prop:=(l.map (·.1)).Nodup
theorem put_keys {α:Type}:∀ {l:List (Int × α)}{a:Int}{v:α}{x:Int},x∈(putE l a v).map (·.1)→x=a∨x∈l.map (·.1)
  | [],a,v,x,h=>by simpa [putE] using h
  | p::l,a,v,x,h=>by
    simp only [putE] at h
    by_cases hp:a=p.1
    · rw [if_pos hp] at h;exact .inr (by simpa using h)
    · rw [if_neg hp] at h
      simp only [List.map_cons,List.mem_cons] at h ⊢
      rcases h with h|h
      · exact .inr (.inl h)
      · rcases put_keys h with h|h
        · exact .inl h
        · exact .inr (.inr h)
theorem keysOk_put {α:Type}:∀ {l:List (Int × α)}{a:Int}{v:α},keysOk l→keysOk (putE l a v)
  | [],a,v,_=>by simp [putE,keysOk]
  | p::l,a,v,h=>by
    unfold keysOk at h ⊢
    simp only [putE]
    by_cases hp:a=p.1
    · rw [if_pos hp];simpa using h
    · rw [if_neg hp]
      simp only [List.map_cons,List.nodup_cons] at h ⊢
      refine ⟨fun hm=>?_,keysOk_put h.2⟩
      rcases put_keys hm with e|e
      · exact hp e.symm
      · exact h.1 e
structure PressOk (l:List Itm) (m:List (Int × Int)):Prop where
  keys:keysOk m
  iff:∀ (p i:Int),getE m p=some i↔2≤p∧0≤i∧i<(l.length:Int)∧(el l i.toNat).place=p
theorem pressTo_ok {l:List Itm}:∀ k,(∀ i,i<k→PlacedTo l i i)→keysOk (pressTo l k)∧∀ (p i:Int),getE (pressTo l k) p=some i↔2≤p∧0≤i∧i<(k:Int)∧(el l i.toNat).place=p
  | 0,_=>⟨by simp [pressTo,keysOk],fun p i=>by simp only [pressTo,getE];constructor;intro h;cases h;intro h;omega⟩
  | k+1,h=>by
    obtain ⟨h1,h2⟩:=pressTo_ok k (fun i hi=>h i (by omega))
    obtain ⟨_,_,h5⟩:=h k (by omega)
    simp only [pressTo]
    by_cases hp:2≤(el l k).place
    · rw [if_pos hp]
      refine ⟨keysOk_put h1,fun p i=>?_⟩
      rw [getE_put]
      by_cases e:p=(el l k).place
      · rw [if_pos e]
        constructor
        · intro hi
          cases hi
          refine ⟨by omega,by omega,by omega,?_⟩
          rw [Int.toNat_natCast]
          exact e.symm
        · rintro ⟨a1,a2,a3,a4⟩
          by_cases hi:i=(k:Int)
          · rw [hi]
          · exfalso
            exact (h5 hp).2 i.toNat (by omega) (by omega) (by rw [a4,e])
      · rw [if_neg e,h2 p i]
        constructor
        · rintro ⟨a1,a2,a3,a4⟩
          exact ⟨a1,a2,by omega,a4⟩
        · rintro ⟨a1,a2,a3,a4⟩
          refine ⟨a1,a2,?_,a4⟩
          have:i≠(k:Int):=fun hi=>e (by rw [← a4,hi,Int.toNat_natCast])
          omega
    · rw [if_neg hp]
      refine ⟨h1,fun p i=>?_⟩
      rw [h2 p i]
      constructor
      · rintro ⟨a1,a2,a3,a4⟩
        exact ⟨a1,a2,by omega,a4⟩
      · rintro ⟨a1,a2,a3,a4⟩
        refine ⟨a1,a2,?_,a4⟩
        have:i≠(k:Int):=fun hi=>by rw [hi,Int.toNat_natCast] at a4;omega
        omega
theorem press_free {l:List Itm}{k:Nat}{p:Int}(h:∀ i,i<k→PlacedTo l i i) (hp:2≤p) (hg:getE (pressTo l k) p=none):∀ j,j<k→(el l j).place≠p:=fun j hj e=>by
  have:=((pressTo_ok k h).2 p j).2 ⟨hp,by omega,by omega,by rw [Int.toNat_natCast];exact e⟩
  rw [hg] at this
  cases this
theorem press_taken {l:List Itm}{k:Nat}{p v:Int}(h:∀ i,i<k→PlacedTo l i i) (hg:getE (pressTo l k) p=some v):2≤p∧∃ j,j<k∧(el l j).place=p:=by
  obtain ⟨a1,a2,a3,a4⟩:=((pressTo_ok k h).2 p v).1 hg
  exact ⟨a1,v.toNat,by omega,a4⟩
theorem pressTo_yes {l:List Itm}{k:Nat}(h:2≤(el l k).place):pressTo l (k+1)=putE (pressTo l k) (el l k).place k:=by simp only [pressTo,if_pos h]
theorem pressTo_no {l:List Itm}{k:Nat}(h:¬ 2≤(el l k).place):pressTo l (k+1)=pressTo l k:=by simp only [pressTo,if_neg h]
theorem press_ok {l:List Itm}(h:∀ i,i<l.length→Placed l i):PressOk l (pressTo l l.length):=by
  obtain ⟨h1,h2⟩:=pressTo_ok l.length (fun i hi=>placed_to (h i hi) (by omega))
  exact ⟨h1,h2⟩
theorem lineAt_iff {s:Sheet}{l:List Int}{k:Nat}:lineAt s l k=true↔(0≤el l k∧el l k≤s.rows-s.weight)∧(k=0∨(-s.lean≤el l k-el l (k-1)∧el l k-el l (k-1)≤s.lean)):=by
  simp [lineAt,withinB_iff]
theorem isLineB_iff {s:Sheet}{l:List Int}:isLineB s l=true↔(l.length:Int)=s.cols∧∀ j,j<l.length→lineAt s l j=true:=by
  simp [isLineB,List.all_eq_true]
theorem isLine_no {s:Sheet}{l:List Int}{k:Nat}(hk:k<l.length) (h:lineAt s l k=false):isLineB s l=false:=by
  cases e:isLineB s l with
  | false=>rfl
  | true=>have:=(isLineB_iff.1 e).2 k hk;rw [h] at this;cases this
theorem isLine_yes {s:Sheet}{l:List Int}(h:∀ j,j<l.length→lineAt s l j=true):isLineB s l=decide ((l.length:Int)=s.cols):=by
  rw [Bool.eq_iff_iff,isLineB_iff,decide_eq_true_eq]
  exact ⟨fun h=>h.1,fun e=>⟨e,h⟩⟩
theorem isLine_p (s:Sheet) (hs:s.ok=true) (l:List Int):PCalls Tryz.prog 44 [s.enc,encInts l] (·=vb (isLineB s l)):=by
  (refine pcalls_know (fun I us h=>rel_len (rel_arg h (j:=1) rfl)) fun hlen1=>?_)
  have hb:=Sheet.bounds hs
  refine pcalls_of_aw Tryz.func44 rfl (dc rfl) ?_
  (repeat' (first|(refine ar_isq ?_;refine zq ?_)|refine zg ?_ ?_|refine zgu ?_|refine zst ?_|refine aw_drawn (id:=4) [(0,0),(1,0),(2,0),(3,0),(4,0),(5,0),(6,1),(7,0),(8,0),(9,0),(10,0),(11,0),(12,0),(13,0),(14,0),(15,0),(16,0),(17,0),(18,0),(19,0),(20,0),(21,0),(22,0),(23,0),(24,1),(25,0),(26,0),(27,0)] mixed (by kernel_rfl) ?_|refine aw_drawn (id:=4) [(0,0),(1,0),(2,0),(3,0),(4,0),(5,0),(6,2),(7,0),(8,0),(9,0),(10,0),(11,0),(12,0),(13,0),(14,0),(15,0),(16,0),(17,0),(18,0),(19,0),(20,0),(21,0),(22,0),(23,0),(24,2),(25,0),(26,0),(27,0)] mixed (by kernel_rfl) ?_|refine zco ?_ ?_|(refine fun (hg:(_:Prop))=>?_;first|exact absurd hg (by decide)|((try replace hg:=HG.out hg);(try dsimp only at hg);(try rw [withinB_iff] at hg);(try rw [withinB_no] at hg);(try (have _h:True:=hg;clear _h hg));first|(exfalso;omega)|skip))))
  refine aw_for l.length (fun k=>∀ j,j<k→lineAt s l j=true) (fun k=>[(0,s.enc),(1,encInts l),(2,.ptr 5 0 0 0),(7,encInts l),(8,vi l.length),(9,vi k)]) (fun _=>[.arr 5 1 (fun _=>s.enc)]) (fun j hj=>by omega) ?_ ?_
  · (exact zsb [some 0] [])
  intro k hk hJ
  have hp:=fun h:0<k=>lineAt_iff.1 (hJ (k-1) (by omega))
  by_cases h0:0<k
  · have hp:=hp h0
    (repeat' (first|(refine ar_isq ?_;refine zq ?_)|refine zil (j:=k-1) ?_|refine zis (j:=k-1) ?_|refine zit (j:=k-1) ?_|(refine zpv fn41 (within_p _ _ _) ?_)|refine zg ?_ ?_|refine zgu ?_|refine zst ?_|refine aw_drawn (id:=4) [(0,0),(1,0),(2,0),(3,0),(4,0),(5,0),(6,1),(7,0),(8,0),(9,0),(10,0),(11,0),(12,0),(13,0),(14,0),(15,0),(16,0),(17,0),(18,0),(19,0),(20,0),(21,0),(22,0),(23,0),(24,1),(25,0),(26,0),(27,0)] mixed (by kernel_rfl) ?_|refine aw_drawn (id:=4) [(0,0),(1,0),(2,0),(3,0),(4,0),(5,0),(6,2),(7,0),(8,0),(9,0),(10,0),(11,0),(12,0),(13,0),(14,0),(15,0),(16,0),(17,0),(18,0),(19,0),(20,0),(21,0),(22,0),(23,0),(24,2),(25,0),(26,0),(27,0)] mixed (by kernel_rfl) ?_|refine zco ?_ ?_|(refine fun (hg:(_:Prop))=>?_;first|exact absurd hg (by decide)|((try replace hg:=HG.out hg);(try dsimp only at hg);(try rw [withinB_iff] at hg);(try rw [withinB_no] at hg);(try (have _h:True:=hg;clear _h hg));first|(exfalso;omega)|skip))))
    all_goals first
      | (((first|refine loop_next (by omega) ?_ ?_|refine (show _∧_∧SubOf _ _ _ _ _ _ from And.intro (by omega) (And.intro ?_ ?_)));(focus (((exact all_step hJ (lineAt_iff.2 (by omega))));done));(focus (exact zsb [some 0] []))))
      | ((refine aw_ret ?_;(repeat (first|refine ret_then ?_|refine ret_block ?_));refine bq1 rfl ⟨?_,rfl⟩);first|(rw [isLine_no (k:=k) (by omega) (by rw [← Bool.not_eq_true,lineAt_iff];omega)];rfl)|(obtain rfl:k=l.length:=(by omega);rw [isLine_yes hJ];rfl))
  · (repeat' (first|(refine ar_isq ?_;refine zq ?_)|refine zil (j:=k-1) ?_|refine zis (j:=k-1) ?_|refine zit (j:=k-1) ?_|(refine zpv fn41 (within_p _ _ _) ?_)|refine zg ?_ ?_|refine zgu ?_|refine zst ?_|refine aw_drawn (id:=4) [(0,0),(1,0),(2,0),(3,0),(4,0),(5,0),(6,1),(7,0),(8,0),(9,0),(10,0),(11,0),(12,0),(13,0),(14,0),(15,0),(16,0),(17,0),(18,0),(19,0),(20,0),(21,0),(22,0),(23,0),(24,1),(25,0),(26,0),(27,0)] mixed (by kernel_rfl) ?_|refine aw_drawn (id:=4) [(0,0),(1,0),(2,0),(3,0),(4,0),(5,0),(6,2),(7,0),(8,0),(9,0),(10,0),(11,0),(12,0),(13,0),(14,0),(15,0),(16,0),(17,0),(18,0),(19,0),(20,0),(21,0),(22,0),(23,0),(24,2),(25,0),(26,0),(27,0)] mixed (by kernel_rfl) ?_|refine zco ?_ ?_|(refine fun (hg:(_:Prop))=>?_;first|exact absurd hg (by decide)|((try replace hg:=HG.out hg);(try dsimp only at hg);(try rw [withinB_iff] at hg);(try rw [withinB_no] at hg);(try (have _h:True:=hg;clear _h hg));first|(exfalso;omega)|skip))))
    all_goals first
      | (((first|refine loop_next (by omega) ?_ ?_|refine (show _∧_∧SubOf _ _ _ _ _ _ from And.intro (by omega) (And.intro ?_ ?_)));(focus (((exact all_step hJ (lineAt_iff.2 (by omega))));done));(focus (exact zsb [some 0] []))))
      | ((refine aw_ret ?_;(repeat (first|refine ret_then ?_|refine ret_block ?_));refine bq1 rfl ⟨?_,rfl⟩);first|(rw [isLine_no (k:=k) (by omega) (by rw [← Bool.not_eq_true,lineAt_iff];omega)];rfl)|(obtain rfl:k=l.length:=(by omega);rw [isLine_yes hJ];rfl))
theorem everyRows_p (b:List (List Int)) {g:FuncId}{cap:List V}(hfn:FnOk Tryz.prog g) (hcap:V.closed.all cap=true) (p:List Int→Bool) (hc:∀ l,l∈b→PCalls Tryz.prog g (encInts l::cap) (·=vb (p l))) :
    PCalls Tryz.prog 42 [encRows b,.fn (.func g) [] cap] (·=vb (b.all p)):=by
  (refine pcalls_know (fun I us h=>rel_len (rel_arg h (j:=0) rfl)) fun hlen0=>?_)
  refine pcalls_of_aw Tryz.func42 rfl (dc rfl) ?_
  (repeat' (first|(refine ar_isq ?_;refine zq ?_)|refine zst ?_|refine zco ?_ ?_|(refine fun (hg:(_:Prop))=>?_;first|exact absurd hg (by decide)|((try replace hg:=HG.out hg);(try dsimp only at hg);(try rw [withinB_iff] at hg);(try rw [withinB_no] at hg);(try (have _h:True:=hg;clear _h hg));first|(exfalso;omega)|skip))))
  refine aw_for b.length (fun k=>∀ j,j<k→p (el b j)=true) (fun k=>[(1,.fn (.func g) [] cap),(7,encRows b),(8,vi b.length),(9,vi k)]) (fun _=>[]) (fun j hj=>by omega) ?_ ?_
  · (exact zsb [] [])
  intro k hk hJ
  by_cases hkn:k<b.length
  · (repeat' (first|(refine ar_isq ?_;refine zq ?_)|(refine ar_pcall (own:=false) hfn rfl rfl (args_closed hcap) (hc _ (el_mem hkn)) (by simp) (dc rfl) ?_;intro _ hv;subst hv)|refine zst ?_|refine zco ?_ ?_|(refine fun (hg:(_:Prop))=>?_;first|exact absurd hg (by decide)|((try replace hg:=HG.out hg);(try dsimp only at hg);(try rw [withinB_iff] at hg);(try rw [withinB_no] at hg);(try (have _h:True:=hg;clear _h hg));first|(exfalso;omega)|skip))))
    all_goals first
      | (exfalso;omega)
      | ((first|refine loop_next (by omega) ?_ ?_|refine (show _∧_∧SubOf _ _ _ _ _ _ from And.intro (by omega) (And.intro ?_ ?_)));(focus ((exact all_step hJ (by assumption));done));(focus (exact zsb [] [])))
      | ((refine aw_ret ?_;(repeat (first|refine ret_then ?_|refine ret_block ?_));refine bq1 rfl ⟨?_,rfl⟩);rw [not_all_el hkn (by simp_all)];rfl)
  · (repeat' (first|(refine ar_isq ?_;refine zq ?_)|refine zst ?_|refine zco ?_ ?_|(refine fun (hg:(_:Prop))=>?_;first|exact absurd hg (by decide)|((try replace hg:=HG.out hg);(try dsimp only at hg);(try rw [withinB_iff] at hg);(try rw [withinB_no] at hg);(try (have _h:True:=hg;clear _h hg));first|(exfalso;omega)|skip))))
    all_goals first|omega|((refine aw_ret ?_;(repeat (first|refine ret_then ?_|refine ret_block ?_));refine bq1 rfl ⟨?_,rfl⟩);rw [all_el (fun j hj=>hJ j (by omega))];rfl)
theorem lines_p (s:Sheet) (hs:s.ok=true) (b:List (List Int)):PCalls Tryz.prog 22 [s.enc,encRows b] (·=vb (b.all (isLineB s))):=by
  have h1:∀ l,l∈b→PCalls Tryz.prog 43 (encInts l::[.ref s.enc 0]) (·=vb (isLineB s l)):=fun l hm=>by
    refine pcalls_of_aw Tryz.func43 rfl (dc rfl) ?_
    (repeat' (first|(refine ar_isq ?_;refine zq ?_)|(refine zpv fn44 (isLine_p s hs l) ?_)|refine zst ?_|refine zco ?_ ?_|(refine fun (hg:(_:Prop))=>?_;first|exact absurd hg (by decide)|((try replace hg:=HG.out hg);(try dsimp only at hg);(try rw [withinB_iff] at hg);(try rw [withinB_no] at hg);(try (have _h:True:=hg;clear _h hg));first|(exfalso;omega)|skip))))
    (refine aw_ret ?_;(repeat (first|refine ret_then ?_|refine ret_block ?_));refine bq1 rfl ⟨?_,rfl⟩)
    rfl
  refine pcalls_of_aw Tryz.func22 rfl (dc rfl) ?_
  ((repeat refine aw_seq ?_);(first|(refine aw_region ?_));(repeat' (first|(refine ar_isq ?_;refine zq ?_)|refine zsr ?_)))
  (refine aw_mono_r (env':=[(0,s.enc),(1,encRows b),(2,.ref s.enc 0)]) (H':=[]) ?_ ?_;(focus (exact zsb [] [0])))
  (repeat' (first|(refine ar_isq ?_;refine zq ?_)|(refine zpv fn42 (everyRows_p b fn43 rfl _ h1) ?_)|refine zst ?_|refine zco ?_ ?_|(refine fun (hg:(_:Prop))=>?_;first|exact absurd hg (by decide)|((try replace hg:=HG.out hg);(try dsimp only at hg);(try rw [withinB_iff] at hg);(try rw [withinB_no] at hg);(try (have _h:True:=hg;clear _h hg));first|(exfalso;omega)|skip))))
  (refine aw_ret ?_;(repeat (first|refine ret_then ?_|refine ret_block ?_));refine bq1 rfl ⟨?_,rfl⟩)
  rfl
end Go.Proofs.YtloaefllpokkaaaGreat
