/- Parts of the proof: a layer of values over the model, and contracts of functions. No condition. -/
import Derived.Test.YtbilpbabdgfblaaGreatKHc2
set_option maxHeartbeats 16000000
set_option linter.unusedSimpArgs false
set_option linter.unusedVariables false
namespace Go.Proofs.YtbilpbabdgfblaaGreat
open Go.RowKit
section
variable {P:Program}{r:Option Nat}{m nt:Nat}{env:Env}{H:Heap}{dst:Option Tmp}{ty:TypeId}{pos:String}{after:Array Edge}{guard:Option (Nat × Bool)}{x y c:Operand}{T E:TypeId}{d de:TyD}{v:V}{keep:Bool}
theorem setRow_facts {w:World}{b:Nat}{cs new:Array Value}{t:TypeId}(h:w.heap[b]?=some (.cells cs t (0,0))) :
    (w.setRow b new).heap[b]?=some (.cells new t (0,0))∧(∀ c,c≠b→(w.setRow b new).heap[c]?=w.heap[c]?)∧(w.setRow b new).heap.size=w.heap.size :=
  ⟨setRow_heap w b cs new t (0,0) h,fun c hc=>setRow_other w b c new hc,by simp [World.setRow]⟩
theorem splice_get {cs:List Value}{off:Nat}{us:List Value}(h:off+us.length≤cs.length) (k:Nat) :
    (cs.take off++us++cs.drop (off+us.length))[k]?=if off≤k∧k<off+us.length then us[k-off]? else cs[k]?:=by
  by_cases h1:k<off
  · rw [if_neg (by omega),List.append_assoc,List.getElem?_append_left (by simp;omega),List.getElem?_take,if_pos h1]
  · by_cases h2:k<off+us.length
    · rw [if_pos (by omega),List.getElem?_append_left (by simp;omega),List.getElem?_append_right (by simp;omega)]
      congr 1
      simp;omega
    · rw [if_neg (by omega),List.getElem?_append_right (by simp;omega),List.getElem?_drop]
      congr 1
      simp;omega
theorem ls_store_g {sz b i off n:Nat}{f g:Nat→V}(ht:TyIs P T d) (hx:eo env x=some (.ptr sz b i off)) (hy:eo env y=some v) (hok:v.ok=true) (hone:v.cells.all V.one=true) (hH:H[b]?=some (.arr sz n f)) (hi:i<n)
    (hsz:v.cells.length=d.size) (hoff:off+d.size≤sz) (ha:(∃ cs,f i=.agg cs)∨(off=0∧v.cells.length=1∧(f i).cells.length=1∧∀ cs,v≠.agg cs)) (hgi:g i=putPart (f i) off v) (hg:∀ j,j<n→j≠i→g j=f j) :
    LS P r m nt false env H ⟨dst,.store T x y,ty,pos,after,guard⟩ (fun _ H'=>H'=H.set b (.arr sz n g)) NoP:=.mk
  fun X I ρ a w next Qx hX hs hk hp=>by
    obtain ⟨he,hw,hdf⟩:=hs
    have h1:=eo_rel he hx
    have h2:=eo_rel he hy
    obtain ⟨cb,z,h1',hb⟩:=h1.ptr_inv
    obtain ⟨hc1,hc2⟩:=h2.cells (V.ok_ne hok)
    obtain ⟨cs,t,hcs,hz,hn,hr⟩:=hw.arr _ _ _ _ _ _ hH hb
    have hlen:=hw.size _ _ _ _ hH i hi
    have hlt:i*sz+sz≤n*sz:=by rw [← Nat.succ_mul];exact Nat.mul_le_mul_right _ hi
    have hfit:i*sz+off+(a.eval y).cells.toList.length≤cs.size:=by simp [hc1];omega
    have hones:∀ u∈(a.eval y).cells.toList,u.oneCell'=true:=fun u hu=>by
      obtain ⟨j,hj,rfl⟩:=List.getElem_of_mem hu
      have hj':j<v.cells.length:=by simp at hj;omega
      have:=List.all_eq_true.1 hone v.cells[j] (List.getElem_mem _)
      exact (hc2 j v.cells[j] _ (by simp [hj']) (by simp at hj;simp [hj])).one this
    have hst:=run_storeCells_at P cb (i*sz+off) t (a.eval y).cells.toList 0 cs w hcs (by simpa using hfit) hones
    rw [Nat.add_zero] at hst
    have hrun:(execOp a.eval ⟨dst,.store T x y,ty,pos,after,guard⟩).run P w=.ok .skip (w.setRow cb (cs.toList.take (i*sz+off)++(a.eval y).cells.toList++cs.toList.drop (i*sz+off+(a.eval y).cells.toList.length)).toArray):=by
      have hst':=hst
      simp [hc1,hsz] at hst'
      simp [execOp,h1',Instr.storeAt,Instr.sureAddr,storeVar,ht.sizeOf,hc1,hsz,hst']
    obtain ⟨s1,s2,s3⟩:=setRow_facts (new:=(cs.toList.take (i*sz+off)++(a.eval y).cells.toList++cs.toList.drop (i*sz+off+(a.eval y).cells.toList.length)).toArray) hcs
    have hcell:=cells_put (x:=f i) (v:=v) (off:=off) (by omega) ha
    have hgsz:∀ j,j<n→(g j).cells.length=sz:=fun j hj=>by
      by_cases e:j=i
      · subst e;rw [hgi,hcell];simp;omega
      · rw [hg j hj e];exact hw.size _ _ _ _ hH j hj
    refine wpIn_of_run (by simp) hrun ?_
    refine hk I ρ _ _ undef _ rfl (Imm.le_refl _) (Pre.refl _) (hw.write hH hb (by simp;simp at hfit;omega) hgsz ?_ s1 s2 s3 rfl rfl rfl) (VRel.s undef) (by simp)
    intro j k u hj hu
    simp only [List.getElem?_toArray]
    rw [splice_get (by simpa using hfit)]
    by_cases e:j=i
    · subst e
      rw [hgi,hcell] at hu
      have hk':k<sz:=by have:=(List.getElem?_eq_some_iff.1 hu).1;simp at this;omega
      by_cases hin:off≤k∧k<off+v.cells.length
      · rw [if_pos (by simp [hc1];omega)]
        rw [List.append_assoc,List.getElem?_append_right (by simp;omega),List.getElem?_append_left (by simp;omega)] at hu
        have e2:k-(List.take off (f j).cells).length=k-off:=by simp;omega
        rw [e2] at hu
        have hlt2:k-off<(a.eval y).cells.size:=by rw [hc1];omega
        refine ⟨(a.eval y).cells[k-off],?_,hc2 _ _ _ hu (by simp [hlt2])⟩
        rw [show j*sz+k-(j*sz+off)=k-off by omega]
        simp [hlt2]
      · rw [if_neg (by simp [hc1];omega)]
        have:(f j).cells[k]?=some u:=by
          by_cases hlo:k<off
          · rw [List.append_assoc,List.getElem?_append_left (by simp;omega),List.getElem?_take,if_pos hlo] at hu;exact hu
          · rw [List.getElem?_append_right (by simp;omega),List.getElem?_drop] at hu
            rw [← hu];congr 1;simp;omega
        simpa using hr j k u hj this
    · rw [hg j hj e] at hu
      have hk':k<sz:=by have:=(List.getElem?_eq_some_iff.1 hu).1;rw [hw.size _ _ _ _ hH j hj] at this;exact this
      rw [if_neg ?_]
      · simpa using hr j k u hj hu
      · rintro ⟨q1,q2⟩
        simp [hc1] at q2
        rcases Nat.lt_or_gt_of_ne e with hlt'|hgt'
        · have:j*sz+sz≤i*sz:=by rw [← Nat.succ_mul];exact Nat.mul_le_mul_right _ hlt'
          omega
        · have:i*sz+sz≤j*sz:=by rw [← Nat.succ_mul];exact Nat.mul_le_mul_right _ hgt'
          omega
theorem ls_store_var {sz b off:Nat}{f:Nat→V}(ht:TyIs P T d) (hx:eo env x=some (.ptr sz b 0 off)) (hy:eo env y=some v) (hok:v.ok=true) (hone:v.cells.all V.one=true) (hH:H[b]?=some (.arr sz 1 f))
    (hsz:v.cells.length=d.size) (hoff:off+d.size≤sz) (ha:(∃ cs,f 0=.agg cs)∨(off=0∧v.cells.length=1∧(f 0).cells.length=1∧∀ cs,v≠.agg cs)) :
    LS P r m nt false env H ⟨dst,.store T x y,ty,pos,after,guard⟩ (fun _ H'=>H'=H.set b (.arr sz 1 (fun _=>putPart (f 0) off v))) NoP :=
  ls_store_g ht hx hy hok hone hH (by omega) hsz hoff ha rfl (fun j h1 h2=>by omega)
theorem ls_store_elt {sz b i off n:Nat}{f:Nat→V}(ht:TyIs P T d) (hx:eo env x=some (.ptr sz b i off)) (hy:eo env y=some v) (hok:v.ok=true) (hone:v.cells.all V.one=true) (hH:H[b]?=some (.arr sz n f)) (hi:i<n)
    (hsz:v.cells.length=d.size) (hoff:off+d.size≤sz) (ha:(∃ cs,f i=.agg cs)∨(off=0∧v.cells.length=1∧(f i).cells.length=1∧∀ cs,v≠.agg cs)) :
    LS P r m nt false env H ⟨dst,.store T x y,ty,pos,after,guard⟩ (fun _ H'=>H'=H.set b (.arr sz n (upd f i (putPart (f i) off v)))) NoP :=
  ls_store_g ht hx hy hok hone hH hi hsz hoff ha (by rw [upd_at,if_pos rfl]) (fun j _ h=>by rw [upd_at,if_neg h])
theorem ls_make {l:Nat}{kl kc:IntKind}(ht:TyIs P T d) (hk:d.tk=.slice E) (he:TyIs P E de) (hx:eo env x=some (.s (.int kl (l:Int)))) (hy:eo env y=some (.s (.int kc (l:Int)))) (hb:de.bytes*l≤281474976710656) (hm:l≤maxLen) (hok:(constV de.zero).ok=true) (hz:(constV de.zero).cells.length=de.size) :
    LS P r m nt true env H ⟨dst,.makeSlice T x y,ty,pos,after,guard⟩ (fun u H'=>u=.sl de.size H.length 0 l∧H'=H++[.arr de.size l (fun _=>constV de.zero)]) NoP:=.mk
  fun X I ρ a w next Qx hX hs hk' hp=>by
    obtain ⟨hE,hw,hdf⟩:=hs
    have h1:=int1 hE hx
    have h2:=int1 hE hy
    obtain ⟨i,hi,hsz,hby,hz0⟩:=he.inf
    have hm':=hm
    unfold maxLen at hm'
    have hb':(de.bytes:Int)*(l:Int)≤281474976710656:=by rw [← Int.natCast_mul];omega
    have hr:=run_make (P:=P) w T E i de.zero (ht.slice hk) hi hz0 kl kc (l:Int) (l:Int) (by omega) (Int.le_refl _) (by rw [hby];exact hb') (by omega)
    simp only [Int.toNat_natCast] at hr
    refine wpIn_of_run (by simp) (res:=.ok (.value (.slice (some ⟨w.heap.size,0,none⟩) l l)) (w.alloc (.cells (madeCells de.zero.cells (l*i.size)) E))) (by simp only [execOp,h1,h2,Sem.run_bind,hr,Result.andThen_ok];rfl) ?_
    have hrel:=(constV_rel I ρ de.zero).cells (V.ok_ne hok)
    have hzsz:de.zero.cells.size=de.size:=by rw [hrel.1,hz]
    have hcs:(madeCells de.zero.cells (l*i.size)).size=l*de.size:=by rw [size_madeCells,hsz]
    have ok:=hw.alloc (w':=w.alloc (.cells (madeCells de.zero.cells (l*i.size)) E)) (cs:=madeCells de.zero.cells (l*i.size)) (ty:=E) (sz:=de.size) (n:=l) (f:=fun _=>constV de.zero) (by omega) (fun _ _=>hz) (fun j k u hj hu=>by
      have hk2:k<de.size:=by have:=(List.getElem?_eq_some_iff.1 hu).1;omega
      have hlt:j*de.size+k<l*i.size:=by
        rw [hsz]
        have:j*de.size+de.size≤l*de.size:=by rw [← Nat.succ_mul];exact Nat.mul_le_mul_right _ hj
        omega
      have hzk:k<de.zero.cells.size:=by omega
      refine ⟨de.zero.cells[k],?_,hrel.2 k u _ hu (by simp [hzk])⟩
      have hmod:(j*de.size+k) % de.zero.cells.size=k:=by rw [hzsz,Nat.mul_comm,Nat.mul_add_mod,Nat.mod_eq_of_lt hk2]
      simp [madeCells,hlt,hmod,hzk]) rfl rfl rfl rfl
    rw [hcs] at ok
    refine hk' I _ _ _ _ _ ⟨rfl,rfl⟩ (Imm.le_refl _) (pre_append _) ok ?_ (fun _=>keeps_alloc hw fun b hb=>Below.heap_alloc w _ b hb)
    have:=VRel.sl (I:=I) (ρ:=ρ++[some (w.heap.size,l*de.size)]) (sz:=de.size) (b:=H.length) (i:=0) (n:=l) (cb:=w.heap.size) (z:=l*de.size) (c:=l) (by rw [← hw.len];simp) (Nat.le_refl _) hm (by simp)
    simpa using this
end
section
variable {P:Program}{r:Option Nat}{m nt:Nat}{env:Env}{H H0:Heap}{dst:Option Tmp}{ty:TypeId}{pos:String}{after:Array Edge}{guard:Option (Nat × Bool)}{x y c:Operand}{T E:TypeId}{d de:TyD}{v:V}{keep:Bool}
def Grow (H:Heap) (dv:V) (sz n:Nat) (f:Nat→V) (H0:Heap):Prop :=
  (dv=.s (.slice none 0 0)∧n=0∧H0=H)∨(dv=.emp∧n=0∧H0=H)∨∃ b,dv=.sl sz b 0 n∧H[b]?=some (.arr sz n f)∧H0=H.set b .dead
def Src (H:Heap) (yv:V) (sz k:Nat) (g:Nat→V):Prop :=
  yv=.list sz k g∨(∃ b i N f,yv=.sl sz b i k∧H[b]?=some (.arr sz N f)∧i+k≤N∧g=fun j=>f (i+j))∨(yv=.emp∧k=0)∨(yv=.s (.slice none 0 0)∧k=0)
def appF (n:Nat) (f g:Nat→V):Nat→V:=fun i=>bif Nat.blt i n then f i else g (i-n)
theorem appF_lt {n i:Nat}{f g:Nat→V}(h:i<n):appF n f g i=f i:=by
  have:Nat.blt i n=true:=by simp [Nat.blt_eq,h]
  simp [appF,this]
theorem appF_ge {n i:Nat}{f g:Nat→V}(h:n≤i):appF n f g i=g (i-n):=by
  have:Nat.blt i n=false:=by cases e:Nat.blt i n with|false=>rfl|true=>rw [Nat.blt_eq] at e;omega
  simp [appF,this]
theorem src_cells {X:Ctx}{I:Imm}{ρ:List (Option (Nat × Nat))}{w:World}{yv:V}{sz k:Nat}{g:Nat→V}{u:Value}(hw:WOk X I ρ H w) (hs:Src H yv sz k g) (hu:VRel I ρ yv u) :
    ∃ (A:Option Addr) (cap:Nat) (news:List Value),u=.slice A k cap∧news.length=k*sz∧(0<k→∃ a:Addr,A=some a∧a.spot=none∧∀ w':World,w'.heap=w.heap→∀ (j:Nat) x,news[j]?=some x→w'.cell? (a.add j)=some x) ∧
      (∀ i,i<k→(g i).cells.length=sz)∧∀ (i j:Nat) x,i<k→(g i).cells[j]?=some x→∃ q,news[i*sz+j]?=some q∧VRel I ρ x q:=by
  rcases hs with rfl|⟨b,i0,N,f,rfl,hb,hN,rfl⟩|⟨rfl,rfl⟩|⟨rfl,rfl⟩
  · obtain ⟨A,cap,us,rfl,hc,hm,hl,hsz,hv⟩:=hu.list_inv
    refine ⟨A,cap,(List.range (k*sz)).map fun t=>us (t/sz) (t % sz),rfl,by simp,fun hk=>?_,hsz,fun i j x hi hj=>?_⟩
    · obtain ⟨b,off,rfl,hL⟩:=hl hk
      refine ⟨_,rfl,rfl,fun w' hw' t x ht=>?_⟩
      have hlt:t<k*sz:=by have:=(List.getElem?_eq_some_iff.1 ht).1;simpa using this
      simp [hlt] at ht
      have hs0:0<sz:=by cases sz with|zero=>simp at hlt|succ q=>omega
      have hi:t/sz<k:=(Nat.div_lt_iff_lt_mul hs0).2 hlt
      obtain ⟨cs,ty,fz,hI,hcs⟩:=hL _ hi
      have:=hcs (t % sz) (Nat.mod_lt _ hs0)
      rw [addr_add,cell_of (by rw [hw'];exact hw.imm _ _ hI),← ht,← this]
      congr 1
      have:=Nat.div_add_mod' t sz
      omega
    · have hlen:j<sz:=by have:=(List.getElem?_eq_some_iff.1 hj).1;rw [hsz i hi] at this;exact this
      have hlt:i*sz+j<k*sz:=by
        have:i*sz+sz≤k*sz:=by rw [← Nat.succ_mul];exact Nat.mul_le_mul_right _ hi
        omega
      refine ⟨us i j,?_,(hv i j x hi hj).closed⟩
      have e1:(i*sz+j)/sz=i:=by rw [Nat.mul_comm,Nat.mul_add_div (by omega),Nat.div_eq_of_lt hlen];rfl
      have e2:(i*sz+j) % sz=j:=by rw [Nat.mul_comm,Nat.mul_add_mod,Nat.mod_eq_of_lt hlen]
      simp [hlt,e1,e2]
  · have hsz:=hw.size _ _ _ _ hb
    rcases hu.sl_inv with ⟨cb,z,cap,rfl,hρ,hc,hm,hz⟩|⟨A,rfl,hρ,rfl,rfl⟩
    · obtain ⟨cs,t,hcs,hcz,hn,hr⟩:=hw.arr _ _ _ _ _ _ hb hρ
      have hfit:i0*sz+k*sz≤cs.size:=by
        have:(i0+k)*sz≤N*sz:=Nat.mul_le_mul_right _ hN
        rw [Nat.add_mul] at this
        omega
      refine ⟨_,cap,(List.range (k*sz)).map fun t=>cs.getD (i0*sz+t) undef,rfl,by simp,fun hk=>⟨_,rfl,rfl,fun w' hw' t x ht=>?_⟩,fun i hi=>hsz _ (by omega),fun i j x hi hj=>?_⟩
      · have hlt:t<k*sz:=by have:=(List.getElem?_eq_some_iff.1 ht).1;simpa using this
        have h2:i0*sz+t<cs.size:=by omega
        simp [hlt,h2] at ht
        rw [addr_add,cell_of (by rw [hw'];exact hcs)]
        simp [h2,ht]
      · have hlen:j<sz:=by have:=(List.getElem?_eq_some_iff.1 hj).1;rw [hsz _ (by omega)] at this;exact this
        have hlt:i*sz+j<k*sz:=by
          have:i*sz+sz≤k*sz:=by rw [← Nat.succ_mul];exact Nat.mul_le_mul_right _ hi
          omega
        obtain ⟨q,h1,h2⟩:=hr (i0+i) j x (by omega) hj
        refine ⟨q,?_,h2⟩
        have h3:i0*sz+(i*sz+j)<cs.size:=by omega
        rw [Nat.add_mul,Nat.add_assoc] at h1
        simp [h3] at h1
        simp [hlt,h3,h1]
    · exact ⟨A,0,[],rfl,by simp,fun h=>by omega,fun i hi=>by omega,fun i j x hi=>by omega⟩
  · cases hu with
    | emp A=>exact ⟨A,0,[],rfl,by simp,fun h=>by omega,fun i hi=>by omega,fun i j x hi=>by omega⟩
  · cases hu with
    | s=>exact ⟨none,0,[],rfl,by simp,fun h=>by omega,fun i hi=>by omega,fun i j x hi=>by omega⟩
theorem firstCells_run {w:World}{size k cap:Nat}{A:Option Addr}{news:List Value}(hl:news.length=k*size) (h:0<k→∃ a:Addr,A=some a∧a.spot=none∧∀ (j:Nat) x,news[j]?=some x→w.cell? (a.add j)=some x) :
    (Builtin.firstCells size k (.slice A k cap)).run P w=.ok news.toArray w:=by
  rcases Nat.eq_zero_or_pos k with h0|h0
  · subst h0
    have:news=[]:=List.eq_nil_of_length_eq_zero (by simpa using hl)
    subst this
    cases A<;>simp [Builtin.firstCells,loadCells,loadCellsFrom]
  · obtain ⟨a,rfl,_,h2⟩:=h h0
    exact run_firstCells_some (P:=P) w size k a k cap news hl h2
theorem append_grow_run {w:World}{i:TypeInfo}{z:Value}{A B:Option Addr}{n c k cap:Nat}{olds news:List Value}(ht:P.underlying T=some (.slice E)) (hi:P.info? E=some i) (hz:i.zero=some z)
    (ho:(Builtin.firstCells i.size n (.slice A n c)).run P w.drew=.ok olds.toArray w.drew) (hn:(Builtin.firstCells i.size k (.slice B k cap)).run P w.drew=.ok news.toArray w.drew) (hg:c<n+k) (h63:n+k≤9223372036854775807) (hfit:Builtin.nextslicecap (n+k) c*i.bytes≤281474976710656) :
    (Builtin.append_ #[T,T] ty #[.slice A n c,.slice B k cap]).run P w =
      .ok (.slice (some ⟨w.heap.size,0,none⟩) (n+k) (grownCap w (n+k) c E)) (w.drew.alloc (.cells (olds.toArray++news.toArray++Builtin.zeroCells z.cells (grownCap w (n+k) c E-(n+k))) E)):=by
  have hn':¬ (n+k≤c):=by omega
  have h63':¬ (9223372036854775807<((n:Int)+(k:Int))):=by omega
  have h48':¬ (281474976710656<Builtin.nextslicecap (n+k) c*i.bytes):=by omega
  simp [Builtin.append_,run_underlying ht,sizeOf,typeInfo,zeroValue,hi,hz,Builtin.lenOf,hn',h63',h48',Question.forced,hn,ho,newRow,grownCap]
  congr 2
  apply Array.ext'
  simp [List.append_assoc]
theorem append_none_run {w:World}{i:TypeInfo}{A B:Option Addr}{cap:Nat}(ht:P.underlying T=some (.slice E)) (hi:P.info? E=some i) :
    (Builtin.append_ #[T,T] ty #[.slice A 0 0,.slice B 0 cap]).run P w=.ok (.slice A 0 0) w:=by
  have h:=firstCells_run (P:=P) (w:=w) (size:=i.size) (k:=0) (cap:=cap) (A:=B) (news:=[]) (by simp) (fun h=>by omega)
  cases A<;>simp [Builtin.append_,run_underlying ht,sizeOf,typeInfo,hi,Builtin.lenOf,h,storeCells]
theorem append_room_run {w:World}{i:TypeInfo}{B:Option Addr}{n c k cap cb:Nat}{t:TypeId}{cs:Array Value}{news:List Value}(ht:P.underlying T=some (.slice E)) (hi:P.info? E=some i)
    (hn:(Builtin.firstCells i.size k (.slice B k cap)).run P w=.ok news.toArray w) (hcs:w.heap[cb]?=some (.cells cs t (0,0))) (hg:n+k≤c) (hfit:n*i.size+news.length≤cs.size) (h1:∀ u∈news,u.oneCell'=true) :
    (Builtin.append_ #[T,T] ty #[.slice (some ⟨cb,0,none⟩) n c,.slice B k cap]).run P w =
      .ok (.slice (some ⟨cb,0,none⟩) (n+k) c) (w.setRow cb (cs.toList.take (n*i.size)++news++cs.toList.drop (n*i.size+news.length)).toArray):=by
  have hst:=run_storeCells_at P cb (n*i.size) t news 0 cs w hcs (by simpa using hfit) h1
  simp only [Nat.add_zero] at hst
  simp [Builtin.append_,run_underlying ht,sizeOf,typeInfo,hi,Builtin.lenOf,hg,hn,addr_add,hst]
def know (I:Imm) (cb:Nat) (o:Option Obj):Imm:=fun b=>if b=cb then o else I b
theorem know_at {I:Imm}{cb:Nat}{o:Option Obj}:know I cb o cb=o:=by simp [know]
theorem know_le {I:Imm}{cb:Nat}{o:Option Obj}(h:I cb=none):I.le (know I cb o):=fun b x hb=>by
  unfold know
  split
  · rename_i e;subst e;rw [h] at hb;cases hb
  · exact hb
theorem keeps_kill {I:Imm}{ρ:List (Option (Nat × Nat))}{w y:World}{b:Nat}(hy:Keeps I ρ (H.set b .dead) w y) (hb:∀ cb z,ρ[b]?=some (some (cb,z))→False):Keeps I ρ H w y :=
  ⟨hy.1,fun k sz n f b' z hk hρ o ho=>hy.2.1 k sz n f b' z (by rw [List.getElem?_set_ne (fun e=>by subst e;exact hb _ _ hρ)];exact hk) hρ o ho,
   fun k m b' z hk hρ=>hy.2.2 k m b' z (by rw [List.getElem?_set_ne (fun e=>by subst e;exact hb _ _ hρ)];exact hk) hρ⟩
theorem WOk.forget {X:Ctx}{I:Imm}{ρ:List (Option (Nat × Nat))}{w:World}(h:WOk X I ρ H w) {k:Nat}{blk:Blk}{b z:Nat}(hk:H[k]?=some blk) (hd:blk≠.dead) (hb:ρ[k]?=some (some (b,z))):WOk X (know I b (w.heap[b]?)) ρ (H.set k .dead) w:=by
  have h':=h.kill k
  have hL:Live H ρ b:=⟨k,_,hk,hd,z,hb⟩
  have hn:=not_live_kill h hk hd hb
  have hI:=know_le (o:=w.heap[b]?) (h.apart b hL)
  exact { len:=h'.len,inj:=h'.inj,imm:=fun c o hc=>by
            unfold know at hc
            split at hc
            · rename_i e;subst e;exact hc
            · exact h.imm c o hc
          apart:=fun c hc=>by
            unfold know
            rw [if_neg (show ¬ c=b from fun e=>by subst e;exact hn hc)]
            exact h'.apart c hc
          size:=h'.size,none:=h'.none,arr:=fun j sz n f c y hj hρ=>(h'.arr j sz n f c y hj hρ).mono hI (Pre.refl _) rfl,map:=fun j m hj=>by
            obtain ⟨c,h1,h2⟩:=h'.map j m hj
            exact ⟨c,h1,h2.mono hI (Pre.refl _) rfl⟩
          mine:=h'.mine,news:=fun c hc=>by
            unfold know at hc
            split at hc
            · rename_i e;subst e;exact .inr (h.mine c hL)
            · exact h.news c hc
          le:=Imm.le_trans h.le hI,pre:=h.pre,os:=h.os,tape:=h.tape,out:=h.out,grow:=h.grow,keep:=h.keep }
theorem ls_append {dv yv:V}{sz n k:Nat}{f g:Nat→V}(ht:TyIs P T d) (hk:d.tk=.slice E) (he:TyIs P E de) (hsz:de.size=sz) (hpos:0<sz) (hz:de.zero.cells.size=sz) (hx:eo env x=some dv) (hy:eo env y=some yv) (hg:Grow H dv sz n f H0) (hs:Src H yv sz k g)
    (hone:∀ j,j<k→(g j).cells.all V.one=true) (hm:n+k≤maxLen) (hb:(n+k)*de.bytes≤140737488355328) :
    LS P r m nt keep env H ⟨dst,.call ⟨.builtin .append,#[x,y],#[T,T]⟩,ty,pos,after,guard⟩ (fun u H'=>u=.sl sz H.length 0 (n+k)∧H'=H0++[.arr sz (n+k) (appF n f g)]) NoP:=.mk
  fun X I ρ a w next Qx hX hS hK hp=>by
    obtain ⟨hE,hw,hdf⟩:=hS
    have hu:=eo_rel hE hx
    have hv:=eo_rel hE hy
    obtain ⟨i,hi,hs1,hby,hz0⟩:=he.inf
    have hmm:=hm
    unfold maxLen at hmm
    obtain ⟨B,cap,news,ey,hnl,hnc,hgsz,hgr⟩:=src_cells hw hs hv
    have hlen0:H0.length=H.length:=by rcases hg with ⟨_,_,rfl⟩|⟨_,_,rfl⟩|⟨b,_,_,rfl⟩<;>simp
    have hex:∀ {res:Value} {w':World},(Builtin.append_ #[T,T] ty #[a.eval x,a.eval y]).run P w=.ok res w'→(execOp a.eval ⟨dst,.call ⟨.builtin .append,#[x,y],#[T,T]⟩,ty,pos,after,guard⟩).run P w=.ok (.value res) w':=fun h=>by
      simp [execOp,resolve,invoke,builtin,h]
    have hones:∀ u∈news,u.oneCell'=true:=fun u hu=>by
      obtain ⟨t,hlt,rfl⟩:=List.getElem_of_mem hu
      rw [hnl] at hlt
      have hi1:t/sz<k:=(Nat.div_lt_iff_lt_mul hpos).2 hlt
      have hj1:=Nat.mod_lt t hpos
      have e:=Nat.div_add_mod' t sz
      obtain ⟨q,h1,h2⟩:=hgr (t/sz) (t % sz) ((g (t/sz)).cells[t % sz]'(by rw [hgsz _ hi1];exact hj1)) hi1 (by simp [hgsz _ hi1,hj1])
      rw [e] at h1
      have:news[t]'(by rw [hnl];exact hlt)=q:=by rw [List.getElem?_eq_getElem (by rw [hnl];exact hlt)] at h1;exact Option.some.inj h1
      rw [this]
      exact h2.one (List.all_eq_true.1 (hone _ hi1) _ (List.getElem_mem _))
    have hf1:(Builtin.firstCells i.size k (.slice B k cap)).run P w=.ok news.toArray w:=firstCells_run (by rw [hnl,hs1,hsz]) (fun h0=>by obtain ⟨a',h1,h2,h3⟩:=hnc h0;exact ⟨a',h1,h2,h3 w rfl⟩)
    have hf2:(Builtin.firstCells i.size k (.slice B k cap)).run P w.drew=.ok news.toArray w.drew:=firstCells_run (by rw [hnl,hs1,hsz]) (fun h0=>by obtain ⟨a',h1,h2,h3⟩:=hnc h0;exact ⟨a',h1,h2,h3 w.drew rfl⟩)
    have grown:∀ (J:Imm) (A:Option Addr) (c:Nat) (olds:List Value),I.le J→a.eval x=.slice A n c→c<n+k→olds.length=n*sz→WOk X J ρ H0 w→(∀ x,Keeps J ρ H0 w x→Keeps I ρ H w x)→(Builtin.firstCells i.size n (.slice A n c)).run P w.drew=.ok olds.toArray w.drew →
        (∀ j,j<n→(f j).cells.length=sz)→(∀ (j l:Nat) v,j<n→(f j).cells[l]?=some v→∃ u,olds[j*sz+l]?=some u∧VRel I ρ v u)→Oper.wpIn (Fw r) 0 P ⟨dst,.call ⟨.builtin .append,#[x,y],#[T,T]⟩,ty,pos,after,guard⟩ a w next Qx:=by
      intro J A c olds hIJ ex hc hol hw0 hkm hfo hfs hfr
      have hr:=append_grow_run (P:=P) (w:=w) (ty:=ty) (ht.slice hk) hi hz0 hfo hf2 hc (by omega) (growslice_fits hc (by rw [hby];exact hb))
      rw [← ex,← ey] at hr
      refine wpIn_of_run (by simp) (hex hr) ?_
      have hge:=grownCap_ge w (n+k) c E
      have hcm:=grownCap_le_maxLen w (n+k) c E hm
      have hcsz:(olds.toArray++news.toArray++Builtin.zeroCells de.zero.cells (grownCap w (n+k) c E-(n+k))).size=grownCap w (n+k) c E*sz:=by
        simp only [Array.size_append,List.size_toArray,size_zeroCells,hz,hol,hnl,← Nat.add_mul]
        congr 1
        omega
      have ok:=WOk.alloc (w':=w.drew.alloc (.cells (olds.toArray++news.toArray++Builtin.zeroCells de.zero.cells (grownCap w (n+k) c E-(n+k))) E)) (ty:=E) (sz:=sz) (n:=n+k) (f:=appF n f g) hw0.drew (cs:=olds.toArray++news.toArray++Builtin.zeroCells de.zero.cells (grownCap w (n+k) c E-(n+k))) (by rw [hcsz];exact Nat.mul_le_mul_right _ hge)
        (fun j hj=>by
          by_cases h1:j<n
          · rw [appF_lt h1];exact hfs j h1
          · rw [appF_ge (by omega)];exact hgsz _ (by omega))
        (fun j l v hj hv=>by
          by_cases h1:j<n
          · rw [appF_lt h1] at hv
            obtain ⟨u,h2,h3⟩:=hfr j l v h1 hv
            refine ⟨u,?_,h3.mono hIJ (Pre.refl _)⟩
            have hlt:=(List.getElem?_eq_some_iff.1 h2).1
            rw [Array.append_assoc,Array.getElem?_append_left (by simpa using hlt)]
            simpa using h2
          · rw [appF_ge (by omega)] at hv
            obtain ⟨u,h2,h3⟩:=hgr (j-n) l v (by omega) hv
            refine ⟨u,?_,h3.mono hIJ (Pre.refl _)⟩
            have hlt:=(List.getElem?_eq_some_iff.1 h2).1
            have hjn:j*sz=n*sz+(j-n)*sz:=by rw [← Nat.add_mul];congr 1;omega
            rw [Array.getElem?_append_left (by simp;omega),Array.getElem?_append_right (by simp;omega)]
            simp
            rw [← h2];congr 1;omega) rfl rfl rfl rfl
      rw [hcsz] at ok
      refine hK J _ _ _ _ _ ⟨rfl,rfl⟩ hIJ (pre_append _) ok ?_ (fun _ x hx=>hkm x (keeps_alloc (w':=w.drew.alloc (.cells (olds.toArray++news.toArray++Builtin.zeroCells de.zero.cells (grownCap w (n+k) c E-(n+k))) E)) hw0 (fun b hb=>Below.heap_alloc w.drew _ b hb) x hx))
      have:=VRel.sl (I:=J) (ρ:=ρ++[some (w.heap.size,grownCap w (n+k) c E*sz)]) (sz:=sz) (b:=H.length) (i:=0) (n:=n+k) (cb:=w.heap.size) (z:=grownCap w (n+k) c E*sz) (c:=grownCap w (n+k) c E) (by rw [← hw.len];simp) hge hcm (by simp)
      simpa using this
    have nothing:∀ A,a.eval x=.slice A 0 0→n=0→WOk X I ρ H0 w→(∀ x,Keeps I ρ H0 w x→Keeps I ρ H w x)→Oper.wpIn (Fw r) 0 P ⟨dst,.call ⟨.builtin .append,#[x,y],#[T,T]⟩,ty,pos,after,guard⟩ a w next Qx:=by
      intro A ex hn0 hw0 hkm
      subst hn0
      rcases Nat.eq_zero_or_pos k with h0|h0
      · subst h0
        have hr:=append_none_run (P:=P) (w:=w) (ty:=ty) (A:=A) (B:=B) (cap:=cap) (ht.slice hk) hi
        have hr':(Builtin.append_ #[T,T] ty #[a.eval x,a.eval y]).run P w=.ok (.slice A 0 0) w:=by rw [ex,ey];exact hr
        refine wpIn_of_run (by simp) (hex hr') ?_
        refine hK I (ρ++[Option.none]) (H0++[.arr sz (0+0) (appF 0 f g)]) (.sl sz H.length 0 (0+0)) _ w ⟨rfl,rfl⟩ (Imm.le_refl _) (pre_append _) hw0.virtual (.slNone A (by rw [← hw.len];simp)) (fun _ x hx=>hkm x (keeps_alloc (w':=w) hw0 (fun _ _=>rfl) x hx))
      · exact grown I A 0 [] (Imm.le_refl _) ex (by omega) (by simp) hw0 hkm (by cases A<;>simp [Builtin.firstCells,loadCells,loadCellsFrom]) (fun j hj=>by omega) (fun j l v hj=>by omega)
    rcases hg with ⟨rfl,rfl,rfl⟩|⟨rfl,rfl,rfl⟩|⟨b,rfl,hH,rfl⟩
    · cases h1':a.eval x<;>rw [h1'] at hu<;>cases hu
      exact nothing _ h1' rfl hw (fun _ h=>h)
    · cases h1':a.eval x<;>rw [h1'] at hu<;>cases hu
      exact nothing _ h1' rfl hw (fun _ h=>h)
    · rcases hu.sl_inv with ⟨cb,z,c,ex,hρ,hc,hcm,hcz⟩|⟨A,ex,hρn,_,rfl⟩
      · rw [Nat.zero_mul] at ex
        rw [Nat.zero_add] at hcz
        obtain ⟨cs,t,hcs,hzz,hnz,hr0⟩:=hw.arr _ _ _ _ _ _ hH hρ
        have hfs:=hw.size _ _ _ _ hH
        by_cases hroom:n+k≤c
        · have hle:(n+k)*sz≤c*sz:=Nat.mul_le_mul_right _ hroom
          rw [Nat.add_mul] at hle
          have hfit:n*i.size+news.length≤cs.size:=by rw [hnl,hs1,hsz];omega
          have hr:=append_room_run (P:=P) (w:=w) (ty:=ty) (n:=n) (c:=c) (ht.slice hk) hi hf1 hcs hroom hfit hones
          rw [← ex,← ey] at hr
          refine wpIn_of_run (by simp) (hex hr) ?_
          obtain ⟨s1,s2,s3⟩:=setRow_facts (new:=(cs.toList.take (n*i.size)++news++cs.toList.drop (n*i.size+news.length)).toArray) hcs
          have hL:Live H ρ cb:=⟨b,_,hH,by simp,z,hρ⟩
          have hnewsz:(cs.toList.take (n*i.size)++news++cs.toList.drop (n*i.size+news.length)).toArray.size=z:=by simp;omega
          have hget:∀ t,(cs.toList.take (n*i.size)++news++cs.toList.drop (n*i.size+news.length)).toArray[t]?=if n*sz≤t∧t<n*sz+news.length then news[t-n*sz]? else cs[t]?:=fun t=>by
            simp only [List.getElem?_toArray]
            rw [splice_get (by simpa using hfit),hs1,hsz]
            simp
          have ok:=(hw.kill b).adopt (w':=w.setRow cb (cs.toList.take (n*i.size)++news++cs.toList.drop (n*i.size+news.length)).toArray) (cb:=cb) (ty:=t) (sz:=sz) (n:=n+k) (f:=appF n f g) (not_live_kill hw hH (by simp) hρ) (hw.apart cb hL) (hw.mine cb hL) (cs:=(cs.toList.take (n*i.size)++news++cs.toList.drop (n*i.size+news.length)).toArray) (by rw [hnewsz,Nat.add_mul];omega)
            (fun j hj=>by
              by_cases h1:j<n
              · rw [appF_lt h1];exact hfs j h1
              · rw [appF_ge (by omega)];exact hgsz _ (by omega))
            (fun j l v hj hv=>by
              rw [hget]
              by_cases h1:j<n
              · rw [appF_lt h1] at hv
                have hl:l<sz:=by have:=(List.getElem?_eq_some_iff.1 hv).1;rw [hfs j h1] at this;exact this
                have:j*sz+sz≤n*sz:=by rw [← Nat.succ_mul];exact Nat.mul_le_mul_right _ h1
                rw [if_neg (by omega)]
                exact hr0 j l v h1 hv
              · rw [appF_ge (by omega)] at hv
                obtain ⟨u,h2,h3⟩:=hgr (j-n) l v (by omega) hv
                have hlt:=(List.getElem?_eq_some_iff.1 h2).1
                have hjn:j*sz=n*sz+(j-n)*sz:=by rw [← Nat.add_mul];congr 1;omega
                rw [if_pos (by omega)]
                exact ⟨u,by rw [← h2];congr 1;omega,h3⟩) s1 (fun q hq _=>s2 q hq) (by rw [s3];exact Nat.le_refl _) rfl rfl rfl
          rw [hnewsz] at ok
          refine hK I _ _ _ _ _ ⟨rfl,rfl⟩ (Imm.le_refl _) (pre_append _) ok ?_ (fun _ y hy=>?_)
          rotate_left
          · have hH0:(H.set b .dead++[.arr sz (n+k) (appF n f g)])[H.length]?=some (.arr sz (n+k) (appF n f g)):=by
              rw [List.getElem?_append_right (by simp)];simp
            have hρ0:(ρ++[some (cb,z)])[H.length]?=some (some (cb,z)):=by rw [← hw.len];simp
            refine ⟨hy.1,fun k' sz' n' f' b' z' hk' hρ' o ho=>?_,fun k' m' b' z' hk' hρ'=>?_⟩
            · by_cases e:k'=b
              · subst e
                rw [hH] at hk';cases hk'
                rw [hρ] at hρ';cases hρ'
                rw [hy.2.1 _ _ _ _ _ _ hH0 hρ0 o (by rw [Nat.add_mul];omega),cell_of s1,hget,if_neg (by omega),cell_of hcs]
              · have h2:b'≠cb:=fun e2=>e (hw.inj k' b b' ⟨_,hk',by simp⟩ ⟨_,hH,by simp⟩ z' z hρ' (by rw [e2];exact hρ))
                rw [hy.2.1 k' sz' n' f' b' z' (by rw [List.getElem?_append_left (by simp;exact (List.getElem?_eq_some_iff.1 hk').1),List.getElem?_set_ne (fun e'=>e e'.symm)];exact hk') (by rw [List.getElem?_append_left (List.getElem?_eq_some_iff.1 hρ').1];exact hρ') o ho]
                exact World.cell?_of_block (a:=⟨b',o,none⟩) (s2 b' h2)
            · have e:k'≠b:=fun e=>by subst e;rw [hH] at hk';cases hk'
              have h2:b'≠cb:=fun e2=>e (hw.inj k' b b' ⟨_,hk',by simp⟩ ⟨_,hH,by simp⟩ z' z hρ' (by rw [e2];exact hρ))
              rw [hy.2.2 k' m' b' z' (by rw [List.getElem?_append_left (by simp;exact (List.getElem?_eq_some_iff.1 hk').1),List.getElem?_set_ne (fun e'=>e e'.symm)];exact hk') (by rw [List.getElem?_append_left (List.getElem?_eq_some_iff.1 hρ').1];exact hρ')]
              exact s2 b' h2
          have:=VRel.sl (I:=I) (ρ:=ρ++[some (cb,z)]) (sz:=sz) (b:=H.length) (i:=0) (n:=n+k) (cb:=cb) (z:=z) (c:=c) (by rw [← hw.len];simp) hroom hcm (by rw [Nat.zero_add];exact hcz)
          simpa using this
        · have hol:(List.range (n*sz)).map (fun t=>cs.getD t undef)=(List.range (n*sz)).map (fun t=>cs.getD t undef):=rfl
          have hL:Live H ρ cb:=⟨b,_,hH,by simp,z,hρ⟩
          refine grown (know I cb (w.heap[cb]?)) (some ⟨cb,0,none⟩) c ((List.range (n*sz)).map fun t=>cs.getD t undef) (know_le (hw.apart cb hL)) ex (by omega) (by simp) (hw.forget hH (by simp) hρ) (fun y hy=>?_) (firstCells_run (by simp [hs1,hsz]) fun _=>⟨_,rfl,rfl,fun j q hq=>?_⟩) hfs (fun j l v hj hv=>?_)
          · refine ⟨fun b' o h=>hy.1 b' o (know_le (hw.apart cb hL) b' o h),fun k' sz' n' f' b' z' hk' hρ' o ho=>?_,fun k' m' b' z' hk' hρ'=>?_⟩
            · by_cases e:k'=b
              · subst e
                rw [hρ] at hρ';cases hρ'
                exact World.cell?_of_block (a:=⟨cb,o,none⟩) ((hy.1 cb _ (by rw [know_at];exact hcs)).trans hcs.symm)
              · exact hy.2.1 k' sz' n' f' b' z' (by rw [List.getElem?_set_ne (fun e'=>e e'.symm)];exact hk') hρ' o ho
            · have e:k'≠b:=fun e=>by subst e;rw [hH] at hk';cases hk'
              exact hy.2.2 k' m' b' z' (by rw [List.getElem?_set_ne (fun e'=>e e'.symm)];exact hk') hρ'
          · have hlt:j<n*sz:=by have:=(List.getElem?_eq_some_iff.1 hq).1;simpa using this
            have h2:j<cs.size:=by omega
            simp [hlt,h2] at hq
            rw [addr_add,Nat.zero_add]
            show w.cell? _=_
            rw [cell_of hcs]
            simp [h2,hq]
          · have hl:l<sz:=by have:=(List.getElem?_eq_some_iff.1 hv).1;rw [hfs j hj] at this;exact this
            have:j*sz+sz≤n*sz:=by rw [← Nat.succ_mul];exact Nat.mul_le_mul_right _ hj
            obtain ⟨u,h2,h3⟩:=hr0 j l v hj hv
            have h4:j*sz+l<cs.size:=by omega
            simp [h4] at h2
            exact ⟨u,by simp [show j*sz+l<n*sz by omega,h4,h2],h3⟩
      · exact nothing A ex rfl (hw.kill b) (fun y hy=>keeps_kill hy (fun cb z h=>by rw [hρn] at h;cases h))
end
section
variable {X:Ctx}{I I' J:Imm}{ρ:List (Option (Nat × Nat))}{H:Heap}{w w':World}
theorem WOk.pure (h:WOk X I ρ H w) (hI:I.le J) (hJ:∀ b o,J b=some o→w'.heap[b]?=some o) (hn:∀ b,J b≠Option.none→I b≠Option.none∨w.heap.size≤b) (hb:Below w.heap.size w w'):WOk X J ρ H w':=by
  have old:∀ b,Live H ρ b→w'.heap[b]?=w.heap[b]?:=fun b hl=>hb.block b (h.lt hl)
  refine h.trans { len:=h.len,inj:=h.inj,imm:=hJ,apart:=?_,size:=h.size,none:=h.none,arr:=fun k sz n f b z hk hρ=>(h.arr k sz n f b z hk hρ).mono hI (Pre.refl _) (old b ⟨k,_,hk,by simp,z,hρ⟩),map:=?_,mine:=fun b hb=>.inr hb,news:=fun b h1=>?_,le:=hI,pre:=Pre.refl _,os:=hb.os,tape:=hb.tape,out:=hb.output,grow:=hb.size,keep:=fun b h1 _=>hb.block b h1 }
  · intro b hl
    cases hj:J b with
    | none=>rfl
    | some o =>
      rcases hn b (by rw [hj];simp) with h1|h1
      · exact (h1 (h.apart b hl)).elim
      · have:=h.lt hl;omega
  · intro k m hk
    obtain ⟨b,h1,h2⟩:=h.map k m hk
    exact ⟨b,h1,h2.mono hI (Pre.refl _) (old b ⟨k,_,hk,by simp,0,h1⟩)⟩
  · rcases hn b h1 with h2|h2
    · exact .inl h2
    · exact .inr (.inl h2)
theorem keeps_pure (h:WOk X I ρ H w) (hI:I.le J) (hb:Below w.heap.size w w'):∀ y,Keeps J ρ H w' y→Keeps I ρ H w y:=fun y hy =>
  ⟨fun b o h1=>hy.1 b o (hI b o h1),fun k sz n f b z hk hρ o ho=>(hy.2.1 k sz n f b z hk hρ o ho).trans (World.cell?_of_block (a:=⟨b,o,none⟩) (hb.block b (h.lt ⟨k,_,hk,by simp,z,hρ⟩))),
   fun k m b z hk hρ=>(hy.2.2 k m b z hk hρ).trans (hb.block b (h.lt ⟨k,_,hk,by simp,z,hρ⟩))⟩
def V.closed:V→Bool
  | .sl _ _ _ _=>false
  | .ptr _ _ _ _=>false
  | .map _=>false
  | .agg cs=>all cs
  | .tup cs=>all cs
  | .fn _ a b=>all a&&all b
  | .iface _ v=>v.closed
  | _=>true
where all:List V→Bool
  | []=>true
  | v::l=>v.closed&&all l
theorem closed_all {l:List V}(h:V.closed.all l=true) {j:Nat}{v:V}(hj:l[j]?=some v):v.closed=true:=by
  induction l generalizing j with
  | nil=>simp at hj
  | cons x l ih =>
    simp only [V.closed.all,Bool.and_eq_true] at h
    cases j with
    | zero=>simp at hj;subst hj;exact h.1
    | succ j=>exact ih h.2 (by simpa using hj)
theorem VRel.close {v:V}{u:Value}(h:VRel I ρ v u) (hc:v.closed=true):VRel I [] v u:=by
  induction h with
  | s v=>exact .s v
  | emp A=>exact .emp A
  | agg h _ ih=>exact .agg h fun j v u a b=>ih j v u a b (closed_all (by simpa [V.closed] using hc) a)
  | tup h _ ih=>exact .tup h fun j v u a b=>ih j v u a b (closed_all (by simpa [V.closed] using hc) a)
  | list a b c d e=>exact .list a b c d e
  | sl=>cases hc
  | slNone=>cases hc
  | ptr=>cases hc
  | ref a b=>exact .ref a b
  | fn h _ h' _ ih ih' =>
    simp only [V.closed,Bool.and_eq_true] at hc
    exact .fn h (fun j v u a b=>ih j v u a b (closed_all hc.1 a)) h' (fun j v u a b=>ih' j v u a b (closed_all hc.2 a))
  | iface _ ih=>exact .iface (ih (by simpa [V.closed] using hc))
  | map=>cases hc
def V.flat:V→Bool
  | .s _=>true
  | .tup cs=>cs.all fun|.s _=>true|_=>false
  | .agg cs=>cs.all fun|.s _=>true|_=>false
  | _=>false
theorem VRel.flat {σ:List (Option (Nat × Nat))}{v:V}{u:Value}(h:VRel I ρ v u) (hf:v.flat=true):VRel J σ v u:=by
  cases h with
  | s=>exact .s _
  | agg h hv =>
    refine .agg h fun j x u a b=>?_
    have:=List.all_eq_true.1 hf x (List.mem_of_getElem? a)
    cases x<;>simp at this
    cases hv j _ u a b
    exact .s _
  | tup h hv =>
    refine .tup h fun j x u a b=>?_
    have:=List.all_eq_true.1 hf x (List.mem_of_getElem? a)
    cases x<;>simp at this
    cases hv j _ u a b
    exact .s _
  | _=>cases hf
def VRels (I:Imm) (ρ:List (Option (Nat × Nat))) (vs:List V) (us:Array Value):Prop:=us.size=vs.length∧∀ (j:Nat) v u,vs[j]?=some v→us[j]?=some u→VRel I ρ v u
end
structure ACalls (P:Program) (f:FuncId) (args:List V) (H:Heap) (R Rp:V→Heap→Prop):Prop where
  out:∀ X I ρ w us,WOk X I ρ H w→VRels I ρ args us→Calls P f us w fun e w'=>∃ v u I' ρ' H',I.le I'∧Pre ρ ρ'∧WOk X I' ρ' H' w'∧VRel I' ρ' v u ∧
    ((e=.returned u∧R v H')∨(e=.panicked [{ v:=u,recovered:=false }]∧Rp v H'))
structure PCalls (P:Program) (f:FuncId) (args:List V) (R:V→Prop):Prop where
  out:∀ (I:Imm) w us,(∀ b o,I b=some o→w.heap[b]?=some o)→VRels I [] args us→Calls P f us w fun e w'=>∃ v u I',R v∧e=.returned u∧VRel I' [] v u∧I.le I'∧(∀ b o,I' b=some o→w'.heap[b]?=some o) ∧
    (∀ b,I' b≠none→I b≠none∨w.heap.size≤b)∧Below w.heap.size w w'
theorem PCalls.mono {P:Program}{f:FuncId}{args:List V}{R R':V→Prop}(h:PCalls P f args R) (hr:∀ v,R v→R' v):PCalls P f args R':=.mk
  fun I w us a b=>(h.1 I w us a b).mono fun _ _ ⟨v,u,I',c,d⟩=>⟨v,u,I',hr v c,d⟩
def Res1 (P:Program) (env:Env) (H:Heap):ResultVar→V→Prop
  | .tmp t,v=>look env t=some v
  | .cell a T,v=>∃ d sz b i off n f,TyIs P T d∧look env a=some (.ptr sz b i off)∧H[b]?=some (.arr sz n f)∧i<n∧partV d.tk.agg (f i).cells off d.size=some v
def ResV (P:Program) (env:Env) (H:Heap) (rs:Array ResultVar) (v:V):Prop :=
  (∃ a,rs=#[a]∧Res1 P env H a v)∨(rs=#[]∧v=.tup [])∨(∃ a b x y,rs=#[a,b]∧Res1 P env H a x∧Res1 P env H b y∧v=.tup [x,y]) ∨
  (∃ a b c x y z,rs=#[a,b,c]∧Res1 P env H a x∧Res1 P env H b y∧Res1 P env H c z∧v=.tup [x,y,z]) ∨
  (∃ a b c d x y z t,rs=#[a,b,c,d]∧Res1 P env H a x∧Res1 P env H b y∧Res1 P env H c z∧Res1 P env H d t∧v=.tup [x,y,z,t])
def BodyQ (P:Program) (rs:Array ResultVar) (R Rp:V→Heap→Prop):Post
  | .normal,env,H=>∃ v,ResV P env H rs v∧R v H
  | .ret,env,H=>∃ v,ResV P env H rs v∧R v H
  | .panic v,_,H=>Rp v H
  | _,_,_=>False
def argEnv:List V→Nat→Env
  | [],_=>[]
  | v::l,i=>(i,v)::argEnv l (i+1)
section
variable {P:Program}{X:Ctx}{I I' J:Imm}{ρ:List (Option (Nat × Nat))}{H:Heap}{w w':World}{env:Env}{nt:Nat}{a:Act}
def readRes (tmps:Array Value):ResultVar→Sem Value
  | .tmp t=>pure (tmps.getD t undef)
  | .cell a t=>do loadVar t (← asAddr (tmps.getD a undef))
theorem res1_run (he:EnvOk I ρ nt env a) (hw:WOk X I ρ H w) {r:ResultVar}{v:V}(h:Res1 P env H r v):∃ u,VRel I ρ v u∧(readRes a.tmps r).run P w=.ok u w:=by
  cases r with
  | tmp t=>exact ⟨_,(he.2 t v h).2,rfl⟩
  | cell t T =>
    obtain ⟨d,sz,b,i,off,n,f,hT,hl,hH,hi,hv⟩:=h
    obtain ⟨hlt,hr⟩:=he.2 t _ hl
    obtain ⟨cb,z,ex,hb⟩:=hr.ptr_inv
    obtain ⟨cs,ty,hc,hz,hn,hr0⟩:=hw.arr _ _ _ _ _ _ hH hb
    have hs:=hw.size _ _ _ _ hH i hi
    have hle:i*sz+sz≤n*sz:=by rw [← Nat.succ_mul];exact Nat.mul_le_mul_right _ hi
    obtain ⟨u,hu,hrun⟩:=loadAt_run (I:=I) (ρ:=ρ) (us:=fun j=>cs.getD (i*sz+j) undef) hT (fun j x hj=>by
      obtain ⟨u,h2,h3⟩:=hr0 i j x hi hj
      rw [show cs.getD (i*sz+j) undef=u by simp [h2]]
      exact h3) hv cb (i*sz)
    refine ⟨u,hu,?_⟩
    have:=hrun w (fun j hj=>by
      rw [cell_of hc]
      have:i*sz+j<cs.size:=by rw [hs] at hj;omega
      simp [this])
    simp only [Instr.loadAt,Instr.sureAddr,Sem.run_bind,Sem.run_pure,Result.andThen_ok] at this
    simp only [readRes,Sem.run_bind,ex,asAddr,Sem.run_pure,Result.andThen_ok]
    exact this
theorem resV_run (he:EnvOk I ρ nt env a) (hw:WOk X I ρ H w) {fn:Func}{v:V}(h:ResV P env H fn.results v):∃ u,VRel I ρ v u∧(results fn a.tmps).run P w=.ok u w:=by
  have e:results fn a.tmps=(do let vs ← fn.results.mapM (readRes a.tmps);pure (if h:vs.size=1 then vs[0] else .tuple vs)):=by
    unfold results
    congr 1
  rw [e]
  rcases h with ⟨r1,hr,h1⟩|⟨hr,rfl⟩|⟨r1,r2,x,y,hr,h1,h2,rfl⟩|⟨r1,r2,r3,x,y,z,hr,h1,h2,h3,rfl⟩|⟨r1,r2,r3,r4,x,y,z,t,hr,h1,h2,h3,h4,rfl⟩
  · obtain ⟨u,a1,a2⟩:=res1_run he hw h1
    exact ⟨u,a1,by rw [hr];simp [a2]⟩
  · exact ⟨.tuple #[],.tup rfl (fun j v u h=>by simp at h),by rw [hr];simp⟩
  · obtain ⟨u1,a1,b1⟩:=res1_run he hw h1
    obtain ⟨u2,a2,b2⟩:=res1_run he hw h2
    refine ⟨.tuple #[u1,u2],.tup rfl (fun j v u h h'=>?_),by rw [hr];simp [b1,b2]⟩
    match j with
    | 0=>simp at h h';subst h h';exact a1
    | 1=>simp at h h';subst h h';exact a2
    | j+2=>simp at h
  · obtain ⟨u1,a1,b1⟩:=res1_run he hw h1
    obtain ⟨u2,a2,b2⟩:=res1_run he hw h2
    obtain ⟨u3,a3,b3⟩:=res1_run he hw h3
    refine ⟨.tuple #[u1,u2,u3],.tup rfl (fun j v u h h'=>?_),by rw [hr];simp [b1,b2,b3]⟩
    match j with
    | 0=>simp at h h';subst h h';exact a1
    | 1=>simp at h h';subst h h';exact a2
    | 2=>simp at h h';subst h h';exact a3
    | j+3=>simp at h
  · obtain ⟨u1,a1,b1⟩:=res1_run he hw h1
    obtain ⟨u2,a2,b2⟩:=res1_run he hw h2
    obtain ⟨u3,a3,b3⟩:=res1_run he hw h3
    obtain ⟨u4,a4,b4⟩:=res1_run he hw h4
    refine ⟨.tuple #[u1,u2,u3,u4],.tup rfl (fun j v u h h'=>?_),by rw [hr];simp [b1,b2,b3,b4]⟩
    match j with
    | 0=>simp at h h';subst h h';exact a1
    | 1=>simp at h h';subst h h';exact a2
    | 2=>simp at h h';subst h h';exact a3
    | 3=>simp at h h';subst h h';exact a4
    | j+4=>simp at h
theorem argEnv_look:∀ (l:List V) (i t:Nat) (v:V),look (argEnv l i) t=some v→i≤t∧l[t-i]?=some v
  | [],_,_,_,h=>by simp [argEnv,look] at h
  | x::l,i,t,v,h=>by
    simp only [argEnv,look_cons] at h
    split at h
    · rename_i e;subst e;cases h;simp
    · obtain ⟨h1,h2⟩:=argEnv_look l (i+1) t v h
      refine ⟨by omega,?_⟩
      rw [show t-i=(t-(i+1))+1 by omega]
      simpa using h2
theorem argEnv_ok {vs:List V}{us:Array Value}(h:VRels I ρ vs us) (hn:us.size≤nt):EnvOk I ρ nt (argEnv vs 0) { tmps:=us++Array.replicate (nt-us.size) undef,defers:=[] }:=by
  refine ⟨by simp;omega,fun t v ht=>?_⟩
  obtain ⟨_,h1⟩:=argEnv_look vs 0 t v ht
  rw [Nat.sub_zero] at h1
  have hlt:t<us.size:=by rw [h.1];exact (List.getElem?_eq_some_iff.1 h1).1
  refine ⟨by omega,?_⟩
  have e:(us++Array.replicate (nt-us.size) undef).getD t undef=us[t]:=by
    simp [Array.getElem?_append,hlt]
  simp only [e]
  exact h.2 t v us[t] h1 (by simp [hlt])
theorem VRel.cut {v:V}{u:Value}(h:VRel I ρ v u) (hc:∀ b cs ty fz,I b=some (.cells cs ty fz)→J b=some (.cells cs ty fz)):VRel J ρ v u:=by
  have lies:∀ {b off n:Nat} {us:Nat→Value},Lies I b off n us→Lies J b off n us:=fun ⟨cs,ty,fz,h1,h2⟩=>⟨cs,ty,fz,hc _ _ _ _ h1,h2⟩
  induction h with
  | s v=>exact .s v
  | emp A=>exact .emp A
  | agg h _ ih=>exact .agg h fun j v u a b=>ih j v u a b
  | tup h _ ih=>exact .tup h fun j v u a b=>ih j v u a b
  | list hc hm hl hsz _ ih =>
    refine .list hc hm (fun h0=>?_) hsz fun i j v a b=>ih i j v a b
    obtain ⟨b,off,e,k⟩:=hl h0
    exact ⟨b,off,e,fun i hi=>lies (k i hi)⟩
  | sl hb hc hm hz=>exact .sl hb hc hm hz
  | slNone A hb=>exact .slNone A hb
  | ptr hb=>exact .ptr hb
  | ref hl _ ih=>exact .ref (lies hl) fun j x a=>ih j x a
  | fn h _ h' _ ih ih'=>exact .fn h (fun j v u a b=>ih j v u a b) h' (fun j v u a b=>ih' j v u a b)
  | iface _ ih=>exact .iface ih
  | map hb=>exact .map hb
theorem EnvOk.cut (h:EnvOk I ρ nt env a) (hc:∀ b cs ty fz,I b=some (.cells cs ty fz)→J b=some (.cells cs ty fz)):EnvOk J ρ nt env a:=⟨h.1,fun t v hv=>⟨(h.2 t v hv).1,(h.2 t v hv).2.cut hc⟩⟩
def taken:List Nat→World→World
  | [],w=>w
  | D::Ds,w=>taken Ds (w.putObj D (.deferred none))
theorem taken_out:∀ (Ds:List Nat) (w:World) (b:Nat),b ∉ Ds→(taken Ds w).heap[b]?=w.heap[b]?
  | [],_,_,_=>rfl
  | D::Ds,w,b,h=>by
    rw [taken,taken_out Ds _ b (by simp at h;exact h.2)]
    exact World.putObj_heap_other (by simp at h;exact h.1)
theorem taken_rest:∀ (Ds:List Nat) (w:World),(taken Ds w).os=w.os∧(taken Ds w).tape=w.tape∧(taken Ds w).output=w.output∧(taken Ds w).heap.size=w.heap.size
  | [],_=>⟨rfl,rfl,rfl,rfl⟩
  | D::Ds,w=>by
    obtain ⟨h1,h2,h3,h4⟩:=taken_rest Ds (w.putObj D (.deferred none))
    exact ⟨h1,h2,h3,h4.trans World.putObj_size⟩
def Imm.without (I:Imm) (Ds:List Nat):Imm:=fun b=>if b∈Ds then none else I b
theorem Imm.without_out {Ds:List Nat}{b:Nat}(h:b ∉ Ds):I.without Ds b=I b:=by simp [Imm.without,h]
theorem Imm.without_some {Ds:List Nat}{b:Nat}{o:Obj}(h:I.without Ds b=some o):b ∉ Ds∧I b=some o:=by
  unfold Imm.without at h
  split at h
  · cases h
  · rename_i hb;exact ⟨hb,h⟩
theorem WOk.taken (hw:WOk X I ρ H w) (hX:∀ b o,X.I b=some o→b<X.w.heap.size) {Ds:List Nat}(hD:∀ D∈Ds,X.w.heap.size≤D∧I D=some (.deferred (some []))):WOk X (I.without Ds) ρ H (Go.Proofs.YtbilpbabdgfblaaGreat.taken Ds w):=by
  obtain ⟨t1,t2,t3,t4⟩:=taken_rest Ds w
  have hc:∀ b cs ty fz,I b=some (.cells cs ty fz)→I.without Ds b=some (.cells cs ty fz):=fun b cs ty fz h=>by
    rw [Imm.without_out]
    · exact h
    · intro hb;rw [(hD b hb).2] at h;cases h
  have cell:∀ {b o},w.heap[b]?=some o→(∀ x,o≠Obj.deferred x)→(Go.Proofs.YtbilpbabdgfblaaGreat.taken Ds w).heap[b]?=some o:=fun {b o} h ho=>by
    rw [taken_out _ _ _ fun hb=>?_]
    · exact h
    · rw [hw.imm b _ (hD b hb).2] at h;cases h;exact ho _ rfl
  exact { len:=hw.len,inj:=hw.inj,imm:=fun b o h=>by obtain ⟨h1,h2⟩:=Imm.without_some h;rw [taken_out _ _ _ h1];exact hw.imm b o h2
          apart:=fun b hb=>by
            have:=hw.apart b hb
            unfold Imm.without
            split
            · rfl
            · exact this
          size:=hw.size,none:=hw.none
          arr:=fun k sz n f b z h1 h2=>by
            obtain ⟨cs,ty,h3,h4,h5,h6⟩:=hw.arr k sz n f b z h1 h2
            exact ⟨cs,ty,cell h3 (fun _ h=>by cases h),h4,h5,fun i j v hi hv=>by obtain ⟨u,h7,h8⟩:=h6 i j v hi hv;exact ⟨u,h7,h8.cut hc⟩⟩
          map:=fun k m hk=>by
            obtain ⟨b,h1,es,clk,h2,h3,h4⟩:=hw.map k m hk
            exact ⟨b,h1,es,clk,cell h2 (fun _ h=>by cases h),h3,fun i e x he hx=>⟨(h4 i e x he hx).1,(h4 i e x he hx).2.cut hc⟩⟩
          mine:=hw.mine
          news:=fun b hb=>hw.news b (fun h=>hb (by
            unfold Imm.without
            split
            · rfl
            · exact h))
          le:=fun b o h=>by
            rw [Imm.without_out]
            · exact hw.le b o h
            · intro hb;have:=(hD b hb).1;have:=hX b o h;omega
          pre:=hw.pre,os:=t1.trans hw.os,tape:=t2.trans hw.tape,out:=t3.trans hw.out,grow:=by rw [t4];exact hw.grow
          keep:=fun b h1 h2=>by
            rw [taken_out _ _ _ fun hb=>?_]
            · exact hw.keep b h1 h2
            · have:=(hD b hb).1;omega }
theorem leaves_marks {fn:Func}{tmps:Array Value}{R:Ending→World→Prop}{u:FrameMode}(hu:u≠.run):∀ (Ds:List Nat) (w:World),Ds.Nodup→(∀ D∈Ds,w.heap[D]?=some (.deferred (some []))) →
    LeavesIn Fence.wide 0 P fn tmps R [] u (Go.Proofs.YtbilpbabdgfblaaGreat.taken Ds w)→LeavesInM Fence.wide 0 P fn tmps R (Ds.map mark) u w
  | [],_,_,_,h=>h
  | D::Ds,w,hn,hD,h=>by
    rw [List.nodup_cons] at hn
    refine ⟨hu,.inl ⟨D,_,rfl,run_takeDeferred (hD D (by simp)),leaves_marks hu Ds _ hn.2 (fun D' h'=>?_) h⟩⟩
    rw [World.putObj_heap_other (fun e=>hn.1 (by rw [← e];exact h'))]
    exact hD D' (by simp [h'])
theorem acalls_of_aw {f:FuncId}{fn:Func}{c:Code}{args:List V}{R Rp:V→Heap→Prop}(hf:P.funcs[f]?=some fn) (hb:fn.body=some c) (hn:args.length≤fn.ntmps)
    (h:AW P none H.length fn.ntmps c (BodyQ P fn.results R Rp) (argEnv args 0) H):ACalls P f args H R Rp:=by
  refine ⟨?_⟩
  intro X I ρ w us hw hv
  refine (callsIn_wide (n:=0)).1 (callsIn_of_wp_marks hf hb trivial ?_ rfl)
  have h1:=h.1 (Ctx.self w ρ H I) I ρ { tmps:=us++Array.replicate (fn.ntmps-us.size) undef,defers:=[] } w hw.len ⟨argEnv_ok hv (by rw [hv.1];exact hn),hw.self,DOk.nil rfl⟩
  refine wpIn_mono h1 fun e a' w' hl=>?_
  let RR:Ending→World→Prop:=fun e w'=>∃ v u I' ρ' H',I.le I'∧Pre ρ ρ'∧WOk X I' ρ' H' w'∧VRel I' ρ' v u∧((e=.returned u∧R v H')∨(e=.panicked [{ v:=u,recovered:=false }]∧Rp v H'))
  show bodyPostM Fence.wide 0 P fn RR e a' w'
  have hXI:∀ b o,(Ctx.self w ρ H I).I b=some o→b<(Ctx.self w ρ H I).w.heap.size:=fun b o h=>(Array.getElem?_eq_some_iff.1 (hw.imm b o h)).1
  have cuts:∀ {I':Imm} {Ds:List Nat},(∀ D∈Ds,(Ctx.self w ρ H I).w.heap.size≤D∧I' D=some (.deferred (some [])))→∀ b cs ty fz,I' b=some (.cells cs ty fz)→I'.without Ds b=some (.cells cs ty fz):=fun hD b cs ty fz h=>by
    rw [Imm.without_out]
    · exact h
    · intro hb;rw [(hD b hb).2] at h;cases h
  have fin:∀ env' H' I' ρ',St (Ctx.self w ρ H I) fn.ntmps env' H' I' ρ' a' w'→(∃ v,ResV P env' H' fn.results v∧R v H')→LeavesInM Fence.wide 0 P fn a'.tmps RR a'.defers .returning w':=fun env' H' I' ρ' hs ⟨v,hv,hR⟩=>by
    obtain ⟨Ds,d1,d2,d3⟩:=hs.2.2
    rw [d2,show (Ctx.self w ρ H I).base=[] from rfl,List.append_nil]
    have hw2:=hs.2.1.taken hXI d3
    obtain ⟨u,h2,h3⟩:=resV_run (hs.1.cut (cuts d3)) hw2 hv
    exact leaves_marks (by simp) Ds w' d1 (fun D hD=>hs.2.1.imm D _ (d3 D hD).2) ⟨u,h3,v,u,_,ρ',H',hw2.le,hw2.pre,hw.trans hw2,h2,.inl ⟨rfl,hR⟩⟩
  cases e with
  | normal=>obtain ⟨env',H',I',ρ',hs,hq⟩:=hl;exact fin env' H' I' ρ' hs hq
  | ret=>obtain ⟨env',H',I',ρ',hs,hq⟩:=hl;exact fin env' H' I' ρ' hs hq
  | exit id=>obtain ⟨env',H',I',ρ',hs,hq⟩:=hl;exact hq.elim
  | goto id=>obtain ⟨env',H',I',ρ',hs,hq⟩:=hl;exact hq.elim
  | panic ch =>
    obtain ⟨v,u,H',I',ρ',rfl,h2,h3,⟨Ds,d1,d2,d3⟩,h5⟩:=hl
    show LeavesInM Fence.wide 0 P fn a'.tmps RR a'.defers (.panicking _) w'
    rw [d2,show (Ctx.self w ρ H I).base=[] from rfl,List.append_nil]
    have hw2:=h3.taken hXI d3
    exact leaves_marks (by simp) Ds w' d1 (fun D hD=>h3.imm D _ (d3 D hD).2) ⟨v,u,_,ρ',H',hw2.le,hw2.pre,hw.trans hw2,h2.cut (cuts d3),.inr ⟨rfl,h5⟩⟩
  | outgrown=>exact hl.elim
theorem WOk.begin (hI:∀ b o,I b=some o→w.heap[b]?=some o):WOk (Ctx.self w [] [] I) I [] [] w :=
  ⟨rfl,fun i j b h=>by obtain ⟨x,h,_⟩:=h;simp at h,hI,fun b h=>by obtain ⟨k,x,h,_⟩:=h;simp at h,fun k _ _ _ h=>by simp at h,fun k _ _ _ h=>by simp at h,fun k _ _ _ _ _ h=>by simp at h,fun k _ h=>by simp at h,
   fun b h=>by obtain ⟨k,x,h,_⟩:=h;simp at h,fun _ hb=>.inl hb,Imm.le_refl _,Pre.refl _,rfl,rfl,rfl,Nat.le_refl _,fun _ _ _=>rfl⟩
theorem not_live_nil {b:Nat}:¬ Live [] [] b:=fun ⟨k,x,h,_⟩=>by simp at h
theorem pcalls_of_aw {f:FuncId}{fn:Func}{c:Code}{args:List V}{R:V→Prop}(hf:P.funcs[f]?=some fn) (hb:fn.body=some c) (hn:args.length≤fn.ntmps)
    (h:AW P none 0 fn.ntmps c (BodyQ P fn.results (fun v _=>R v∧v.closed=true) NoP) (argEnv args 0) []):PCalls P f args R:=by
  refine ⟨?_⟩
  intro I w us hI hv
  have h1:=(acalls_of_aw (H:=[]) hf hb hn h).1 (Ctx.self w [] [] I) I [] w us (WOk.begin hI) hv
  refine h1.mono fun e w' ⟨v,u,I',ρ',H',hle,hpre,hw',hr,h2⟩=>?_
  rcases h2 with ⟨rfl,hR,hc⟩|⟨_,hno⟩
  · refine ⟨v,u,I',hR,rfl,hr.close hc,hle,hw'.imm,fun b hb=>?_,⟨hw'.os,hw'.tape,hw'.out,hw'.grow,fun b hb=>hw'.keep b hb not_live_nil⟩⟩
    rcases hw'.news b hb with h3|h3|h3
    · exact .inl h3
    · exact .inr h3
    · exact (not_live_nil h3).elim
  · exact hno.elim
variable {r:Option Nat}{m:Nat}{dst:Option Tmp}{ty:TypeId}{pos:String}{after:Array Edge}{guard:Option (Nat × Bool)}{keep:Bool}
def FnOk (P:Program) (f:FuncId):Prop:=∀ args w,(callFunc f args).run P w=.ok (.enter f args) w
theorem fnOk {f : FuncId} {fn : Func} {c : Code} (hf : P.funcs[f]? = some fn) (hb : fn.body = some c) (hn : (fn.name == "runtime.NumGoroutine") = false) : FnOk P f := fun args w => by
  simp [callFunc,hf,hb]
  simpa using hn
theorem evals {I:Imm}{ρ:List (Option (Nat × Nat))}{a:Act}(he:EnvOk I ρ nt env a):∀ {l:List Operand}{vs:List V},l.mapM (eo env)=some vs→VRels I ρ vs (l.map a.eval).toArray
  | [],vs,h=>by simp at h;subst h;exact ⟨rfl,fun j v u h=>by simp at h⟩
  | x::l,vs,h=>by
    simp only [List.mapM_cons,Option.pure_def,Option.bind_eq_bind,Option.bind_eq_some_iff] at h
    obtain ⟨v0,hv0,vs',hvs,h'⟩:=h
    cases h'
    obtain ⟨e1,e2⟩:=evals he hvs
    refine ⟨by simpa using e1,fun j v u hj hu=>?_⟩
    cases j with
    | zero=>simp at hj hu;subst hj hu;exact eo_rel he hv0
    | succ j=>exact e2 j v u (by simpa using hj) (by simpa using hu)
theorem VRels.append {vs vs':List V}{us us':Array Value}(h:VRels I ρ vs us) (h':VRels I ρ vs' us'):VRels I ρ (vs++vs') (us++us'):=by
  refine ⟨by simp [h.1,h'.1],fun j v u hj hu=>?_⟩
  by_cases hlt:j<vs.length
  · rw [List.getElem?_append_left hlt] at hj
    rw [Array.getElem?_append_left (by rw [h.1];exact hlt)] at hu
    exact h.2 j v u hj hu
  · rw [List.getElem?_append_right (by omega)] at hj
    rw [Array.getElem?_append_right (by rw [h.1];omega),h.1] at hu
    exact h'.2 _ v u hj hu
theorem call_run {fo:Operand}{args:List Operand}{ats:Array TypeId}{f:FuncId}{us vs:Array Value}(hfn:FnOk P f) (hv:a.eval fo=.func (.func f) us vs) (w:World) :
    (execOp a.eval ⟨dst,.call ⟨.value fo,args.toArray,ats⟩,ty,pos,after,guard⟩).run P w=.ok (.enter f (us++(args.map a.eval).toArray++vs)) w:=by
  simp only [execOp,resolve,Sem.run_bind,hv,Deferred.ofValue,Sem.run_pure,Result.andThen_ok,invoke]
  rw [show (args.toArray.map a.eval)=(args.map a.eval).toArray by simp]
  exact hfn _ w
theorem callsIn_fw {n:Nat}{f:FuncId}{args:Array Value}{R:Ending→World→Prop}:CallsIn (Fw r) n P f args w R↔Calls P f args w R:=by
  cases r with
  | none=>exact callsIn_wide
  | some l=>exact ⟨fun h=>callsIn_wide (n:=n).1 h,fun h=>callsIn_wide (n:=n).2 h⟩
end
/-- An argument avs the contract has it: avs it is; or, if own rows may be lent ('own'), a row of ours avs a slice that nobody writes. -/
inductive ArgOk (own:Bool) (H:Heap):V→V→Prop
  | closed {v} (h:v.closed=true):ArgOk own H v v
  | ext {sz n f g} (hg:∀ k,k<n→g k=f k):ArgOk own H (.list sz n f) (.list sz n g)
  | nil {sz g}:ArgOk own H (.s (.slice none 0 0)) (.list sz 0 g)
  | emp {sz g}:ArgOk own H .emp (.list sz 0 g)
  | lent {sz b i n N f g} (ho:own=true) (hb:H[b]?=some (.arr sz N f)) (hN:i+n≤N) (hc:∀ k,k<N→V.closed.all (f k).cells=true) (hg:∀ k,k<n→g k=f (i+k)):ArgOk own H (.sl sz b i n) (.list sz n g)
inductive ArgsOk (own:Bool) (H:Heap):List V→List V→Prop
  | nil:ArgsOk own H [] []
  | cons {v v' l l'} (h:ArgOk own H v v') (k:ArgsOk own H l l'):ArgsOk own H (v::l) (v'::l')
section
variable {X:Ctx}{I I' J:Imm}{ρ:List (Option (Nat × Nat))}{H:Heap}{w w':World}
theorem VRel.ext {σ:List (Option (Nat × Nat))}{sz n:Nat}{f g:Nat→V}{u:Value}(h:VRel I ρ (.list sz n f) u) (hg:∀ k,k<n→g k=f k):VRel I σ (.list sz n g) u:=by
  obtain ⟨A,c,us,rfl,hc,hm,hl,hsz,hv⟩:=h.list_inv
  exact .list hc hm hl (fun i hi=>by rw [hg i hi];exact hsz i hi) (fun i j v hi hj=>by rw [hg i hi] at hj;exact hv i j v hi hj)
theorem VRel.none_list {σ:List (Option (Nat × Nat))}{sz:Nat}{g:Nat→V}(A:Option Addr):VRel I σ (.list sz 0 g) (.slice A 0 0) :=
  .list (us:=fun _ _=>undef) (Nat.le_refl _) (Nat.zero_le _) (fun h=>by omega) (fun i hi=>by omega) (fun i j v hi=>by omega)
theorem VRel.lend {σ:List (Option (Nat × Nat))}(hw:WOk X I ρ H w) {sz b i n N:Nat}{f g:Nat→V}{u:Value}(h:VRel I ρ (.sl sz b i n) u) (hb:H[b]?=some (.arr sz N f)) (hN:i+n≤N) (hc:∀ k,k<N→V.closed.all (f k).cells=true) (hg:∀ k,k<n→g k=f (i+k))
    (hI:I.le J) (hJ:∀ cb z o,ρ[b]?=some (some (cb,z))→w.heap[cb]?=some o→J cb=some o):VRel J σ (.list sz n g) u:=by
  rcases h.sl_inv with ⟨cb,z,c,rfl,hρ,hnc,hm,hz⟩|⟨A,rfl,_,rfl,rfl⟩
  · obtain ⟨cs,ty,hcs,hcz,hn,hr⟩:=hw.arr _ _ _ _ _ _ hb hρ
    have hsz:=hw.size _ _ _ _ hb
    refine .list (us:=fun k j=>cs.getD (i*sz+(k*sz+j)) undef) hnc hm (fun _=>⟨cb,i*sz,rfl,fun k hk=>⟨cs,ty,(0,0),hJ _ _ _ hρ hcs,fun j hj=>?_⟩⟩) (fun k hk=>by rw [hg k hk];exact hsz _ (by omega)) (fun k j v hk hj=>?_)
    · have h1:(i+k)*sz+sz≤N*sz:=by rw [← Nat.succ_mul];exact Nat.mul_le_mul_right _ (by omega)
      rw [Nat.add_mul] at h1
      have h2:i*sz+(k*sz+j)<cs.size:=by omega
      rw [Nat.add_assoc]
      simp [h2]
    · rw [hg k hk] at hj
      obtain ⟨q,h1,h2⟩:=hr (i+k) j v (by omega) hj
      rw [Nat.add_mul,Nat.add_assoc] at h1
      have h3:i*sz+(k*sz+j)<cs.size:=(Array.getElem?_eq_some_iff.1 h1).1
      simp [h3] at h1
      have:=(h2.close (closed_all (hc (i+k) (by omega)) hj)).mono hI (Pre.refl _)
      simpa [h3,h1] using this
  · exact .none_list A
noncomputable def withOwn (I:Imm) (H:Heap) (ρ:List (Option (Nat × Nat))) (w:World):Imm:=fun b=>open Classical in if Live H ρ b then w.heap[b]? else I b
theorem withOwn_le (hw:WOk X I ρ H w):I.le (withOwn I H ρ w):=fun b o h=>by
  unfold withOwn
  rw [if_neg (fun hl=>by rw [hw.apart b hl] at h;cases h)]
  exact h
theorem withOwn_ok (hw:WOk X I ρ H w) (b:Nat) (o:Obj) (h:withOwn I H ρ w b=some o):w.heap[b]?=some o:=by
  unfold withOwn at h
  split at h
  · exact h
  · exact hw.imm b o h
theorem arg_rel (hw:WOk X I ρ H w) {own:Bool}{v v':V}{u:Value}(h:VRel I ρ v u) (ha:ArgOk own H v v'):VRel (bif own then withOwn I H ρ w else I) [] v' u:=by
  have hle:I.le (bif own then withOwn I H ρ w else I):=by cases own;exact Imm.le_refl _;exact withOwn_le hw
  cases ha with
  | closed hc=>exact (h.close hc).mono hle (Pre.refl _)
  | ext hg=>exact (h.mono hle (Pre.refl _)).ext hg
  | nil=>cases h;exact .none_list none
  | emp=>cases h;exact .none_list _
  | lent ho hb hN hc hg =>
    subst ho
    refine h.lend hw hb hN hc hg hle fun cb z o h1 h2=>?_
    show withOwn I H ρ w cb=some o
    unfold withOwn
    rw [if_pos ⟨_,_,hb,by simp,z,h1⟩]
    exact h2
theorem args_rel (hw:WOk X I ρ H w) {own:Bool}:∀ {vs vs':List V}{us:List Value},ArgsOk own H vs vs'→VRels I ρ vs us.toArray→VRels (bif own then withOwn I H ρ w else I) [] vs' us.toArray
  | [],[],us,_,h=>⟨h.1,fun j v u hj=>by simp at hj⟩
  | v::vs,v'::vs',us,.cons ha1 ha2,h=>by
    cases us with
    | nil=>have:=h.1;simp at this
    | cons u us =>
      have h1:VRels I ρ vs us.toArray:=⟨by have:=h.1;simpa using this,fun j v u hj hu=>h.2 (j+1) v u (by simpa using hj) (by simpa using hu)⟩
      have ih:=args_rel hw ha2 h1
      refine ⟨by have:=ih.1;simpa using this,fun j x y hj hu=>?_⟩
      cases j with
      | zero=>simp at hj hu;subst hj hu;exact arg_rel hw (h.2 0 v u rfl rfl) ha1
      | succ j=>exact ih.2 j x y (by simpa using hj) (by simpa using hu)
end
section
variable {P:Program}{r:Option Nat}{m nt:Nat}{env:Env}{H:Heap}{dst:Option Tmp}{ty:TypeId}{pos:String}{after:Array Edge}{guard:Option (Nat × Bool)}{keep:Bool}
theorem ls_pcall {own:Bool}{fo:Operand}{args:List Operand}{ats:Array TypeId}{f:FuncId}{first cap vs avs:List V}{R:V→Prop}(hfn:FnOk P f) (hf:eo env fo=some (.fn (.func f) first cap)) (hargs:args.mapM (eo env)=some vs)
    (ha:ArgsOk own H (first++vs++cap) avs) (h:PCalls P f avs R) (hflat:own=true→∀ v,R v→v.flat=true):LS P r m nt keep env H ⟨dst,.call ⟨.value fo,args.toArray,ats⟩,ty,pos,after,guard⟩ (fun v H'=>R v∧H'=H) NoP:=.mk
  fun X I ρ a w next Qx hX hs hk hp=>by
    have hw:=hs.2.1
    have h1:=eo_rel hs.1 hf
    cases h1':a.eval fo<;>rw [h1'] at h1<;>cases h1
    rename_i us ws e1 e2 e3 e4
    have hrel:VRels I ρ (first++vs++cap) (us++(args.map a.eval).toArray++ws):=(VRels.append ⟨e1,e2⟩ (evals hs.1 hargs)).append ⟨e3,e4⟩
    have hrel':=args_rel (us:=(us++(args.map a.eval).toArray++ws).toList) hw ha (by rw [Array.toArray_toList];exact hrel)
    rw [Array.toArray_toList] at hrel'
    refine wpIn_of_run (by simp) (call_run hfn h1' w) ⟨fun h=>by simp [Fw,Fence.wide] at h,callsIn_fw.2 ?_⟩
    cases own with
    | false =>
      refine (h.1 I w _ hw.imm hrel').mono fun e w' ⟨v,u,I',hR,he,hv,hle,hI',hn,hb⟩=>?_
      subst he
      exact hk I' ρ H v u w' ⟨hR,rfl⟩ hle (Pre.refl _) (hw.pure hle hI' hn hb) hv.closed (fun _=>keeps_pure hw hle hb)
    | true =>
      refine (h.1 _ w _ (withOwn_ok hw) hrel').mono fun e w' ⟨v,u,I',hR,he,hv,hle,hI',hn,hb⟩=>?_
      subst he
      have hI2:∀ b o,I b=some o→w'.heap[b]?=some o:=fun b o h1=>hI' b o (hle b o (withOwn_le hw b o h1))
      exact hk I ρ H v u w' ⟨hR,rfl⟩ (Imm.le_refl _) (Pre.refl _) (hw.pure (Imm.le_refl _) hI2 (fun _ h1=>.inl h1) hb) (hv.flat (hflat rfl v hR)) (fun _=>keeps_pure hw (Imm.le_refl _) hb)
end
inductive VSub (H:Heap) (σ:List (Option Nat)) (fr:Nat→Prop):V→V→Prop
  | closed {v} (h:v.closed=true):VSub H σ fr v v
  | sl {sz b b0 i n} (h:σ[b0]?=some (some b)):VSub H σ fr (.sl sz b i n) (.sl sz b0 i n)
  | ptr {sz b b0 i off} (h:σ[b0]?=some (some b)):VSub H σ fr (.ptr sz b i off) (.ptr sz b0 i off)
  | map {b b0} (h:σ[b0]?=some (some b)):VSub H σ fr (.map b) (.map b0)
  | nil {sz b0} (h:σ[b0]?=some none):VSub H σ fr (.s (.slice none 0 0)) (.sl sz b0 0 0)
  | emp {sz b0} (h:σ[b0]?=some none):VSub H σ fr .emp (.sl sz b0 0 0)
  | nilList {sz g}:VSub H σ fr (.s (.slice none 0 0)) (.list sz 0 g)
  | empList {sz g}:VSub H σ fr .emp (.list sz 0 g)
  | frz {sz b i n N f g} (hf:fr b) (hb:H[b]?=some (.arr sz N f)) (hN:i+n≤N) (hc:∀ k,k<N→V.closed.all (f k).cells=true) (hg:∀ k,k<n→g k=f (i+k)):VSub H σ fr (.sl sz b i n) (.list sz n g)
  | frzPtr {sz b i off N f} (hf:fr b) (hb:H[b]?=some (.arr sz N f)) (hi:i<N) (hc:V.closed.all (f i).cells=true):VSub H σ fr (.ptr sz b i off) (.ref (f i) off)
  | ext {sz n f g} (hg:∀ k,k<n→g k=f k):VSub H σ fr (.list sz n f) (.list sz n g)
  | agg {cs ds:List V} (h:cs.length=ds.length) (hv:∀ (j:Nat) v x,cs[j]?=some v→ds[j]?=some x→VSub H σ fr v x):VSub H σ fr (.agg cs) (.agg ds)
  | tup {cs ds:List V} (h:cs.length=ds.length) (hv:∀ (j:Nat) v x,cs[j]?=some v→ds[j]?=some x→VSub H σ fr v x):VSub H σ fr (.tup cs) (.tup ds)
  | fn {f} {cs ds es gs:List V} (h:cs.length=ds.length) (hv:∀ (j:Nat) v x,cs[j]?=some v→ds[j]?=some x→VSub H σ fr v x) (h':es.length=gs.length) (hv':∀ (j:Nat) v x,es[j]?=some v→gs[j]?=some x→VSub H σ fr v x):VSub H σ fr (.fn f cs es) (.fn f ds gs)
def EnvSub (H:Heap) (σ:List (Option Nat)) (fr:Nat→Prop) (env:Env):Env→Prop
  | []=>True
  | (t,x)::l=>(∃ v,look env t=some v∧VSub H σ fr v x)∧EnvSub H σ fr env l
def BSub (H:Heap) (σ:List (Option Nat)) (fr:Nat→Prop) (k:Nat):Blk→Prop
  | .dead=>True
  | .arr sz n g=>(∃ b f,σ[k]?=some (some b)∧H[b]?=some (.arr sz n f)∧∀ i,i<n→VSub H σ fr (f i) (g i))∨(σ[k]?=some none∧n=0)
  | .map ms=>∃ b ns,σ[k]?=some (some b)∧H[b]?=some (.map ns)∧ns.length=ms.length∧∀ (i:Nat) x y,ns[i]?=some x→ms[i]?=some y→x.1=y.1∧VSub H σ fr x.2 y.2
def HSub (H:Heap) (σ:List (Option Nat)) (fr:Nat→Prop):Nat→Heap→Prop
  | _,[]=>True
  | k,b::l=>BSub H σ fr k b∧HSub H σ fr (k+1) l
def relocate (σ:List (Option Nat)) (ρ:List (Option (Nat × Nat))):List (Option (Nat × Nat)):=σ.map fun|some b=>(ρ[b]?).getD none|none=>none
theorem relocate_get {σ:List (Option Nat)}{ρ:List (Option (Nat × Nat))}{k b:Nat}{x:Option (Nat × Nat)}(h:σ[k]?=some (some b)) (hb:ρ[b]?=some x):(relocate σ ρ)[k]?=some x:=by
  simp [relocate,h,hb]
theorem relocate_none {σ:List (Option Nat)}{ρ:List (Option (Nat × Nat))}{k:Nat}(h:σ[k]?=some none):(relocate σ ρ)[k]?=some none:=by
  simp [relocate,h]
theorem relocate_some {σ:List (Option Nat)}{ρ:List (Option (Nat × Nat))}{k:Nat}{x:Nat × Nat}(h:(relocate σ ρ)[k]?=some (some x)):∃ b,σ[k]?=some (some b)∧ρ[b]?=some (some x):=by
  simp only [relocate,List.getElem?_map] at h
  cases hs:σ[k]? with
  | none=>rw [hs] at h;cases h
  | some o =>
    cases o with
    | none=>rw [hs] at h;simp at h
    | some b =>
      rw [hs] at h
      simp only [Option.map_some,Option.some.injEq] at h
      refine ⟨b,rfl,?_⟩
      cases hρ:ρ[b]? with
      | none=>rw [hρ] at h;cases h
      | some y=>rw [hρ] at h;simp at h;rw [h]
section
variable {X:Ctx}{I J:Imm}{ρ:List (Option (Nat × Nat))}{H:Heap}{w:World}{σ:List (Option Nat)}{fr:Nat→Prop}
theorem VSub.rel (hw:WOk X I ρ H w) (hI:I.le J) (hJ:∀ b cb z o,fr b→(∃ x:Blk,H[b]?=some x∧x≠.dead)→ρ[b]?=some (some (cb,z))→w.heap[cb]?=some o→J cb=some o) {v x:V}(h:VSub H σ fr v x) :
    ∀ {u:Value},VRel I ρ v u→VRel J (relocate σ ρ) x u:=by
  induction h with
  | closed hc=>intro u hu;exact ((hu.close hc).mono hI (Pre.refl _)).closed
  | sl h =>
    intro u hu
    rcases hu.sl_inv with ⟨cb,z,c,rfl,hρ,h1,h2,h3⟩|⟨A,rfl,hρ,rfl,rfl⟩
    · exact .sl (relocate_get h hρ) h1 h2 h3
    · exact .slNone A (relocate_get h hρ)
  | ptr h =>
    intro u hu
    obtain ⟨cb,z,rfl,hρ⟩:=hu.ptr_inv
    exact .ptr (relocate_get h hρ)
  | map h =>
    intro u hu
    cases hu with
    | map hρ=>exact .map (relocate_get h hρ)
  | nil h=>intro u hu;cases hu;exact .slNone none (relocate_none h)
  | emp h=>intro u hu;cases hu;exact .slNone _ (relocate_none h)
  | nilList=>intro u hu;cases hu;exact .none_list none
  | empList=>intro u hu;cases hu;exact .none_list _
  | frz hf hb hN hc hg=>intro u hu;exact hu.lend hw hb hN hc hg hI fun cb z o h1 h2=>hJ _ cb z o hf ⟨_,hb,by simp⟩ h1 h2
  | frzPtr hf hb hi hc =>
    intro u hu
    rename_i sz b i off N f
    obtain ⟨cb,z,rfl,hρ⟩:=hu.ptr_inv
    obtain ⟨cs,ty,hcs,hz,hn,hr⟩:=hw.arr _ _ _ _ _ _ hb hρ
    have hsz:=hw.size _ _ _ _ hb i hi
    refine .ref (us:=fun j=>cs.getD (i*sz+j) undef) ⟨cs,ty,(0,0),hJ _ _ _ _ hf ⟨_,hb,by simp⟩ hρ hcs,fun j hj=>?_⟩ fun j x hx=>?_
    · have h1:i*sz+sz≤N*sz:=by rw [← Nat.succ_mul];exact Nat.mul_le_mul_right _ hi
      have h2:i*sz+j<cs.size:=by omega
      simp [h2]
    · obtain ⟨q,h1,h2⟩:=hr i j x hi hx
      rw [show cs.getD (i*sz+j) undef=q by simp [h1]]
      exact (h2.close (closed_all hc hx)).mono hI (Pre.refl _)
  | ext hg=>intro u hu;exact (hu.mono hI (Pre.refl _)).ext hg
  | agg h _ ih =>
    intro u hu
    cases hu with
    | agg h1 h2 =>
      refine .agg (h1.trans h) fun j y q hj hq=>?_
      have hlt:=(List.getElem?_eq_some_iff.1 hj).1
      rename_i cs ds _ us
      have hlt':j<cs.length:=by omega
      exact ih j cs[j] y (by simp [hlt']) hj (h2 j cs[j] q (by simp [hlt']) hq)
  | tup h _ ih =>
    intro u hu
    cases hu with
    | tup h1 h2 =>
      refine .tup (h1.trans h) fun j y q hj hq=>?_
      have hlt:=(List.getElem?_eq_some_iff.1 hj).1
      rename_i cs ds _ us
      have hlt':j<cs.length:=by omega
      exact ih j cs[j] y (by simp [hlt']) hj (h2 j cs[j] q (by simp [hlt']) hq)
  | fn h _ h' _ ih ih' =>
    intro u hu
    rename_i cs ds es gs _ _
    cases hu with
    | fn h1 h2 h3 h4 =>
      exact .fn (h1.trans h) (fun j y q hj hq=>by
        have hlt:=(List.getElem?_eq_some_iff.1 hj).1
        have hlt':j<cs.length:=by omega
        exact ih j cs[j] y (by simp [hlt']) hj (h2 j cs[j] q (by simp [hlt']) hq)) (h3.trans h') (fun j y q hj hq=>by
        have hlt:=(List.getElem?_eq_some_iff.1 hj).1
        have hlt':j<es.length:=by omega
        exact ih' j es[j] y (by simp [hlt']) hj (h4 j es[j] q (by simp [hlt']) hq))
theorem VSub.len {v x:V}(h:VSub H σ fr v x):x.cells.length=v.cells.length:=by
  cases h<;>first|rfl|(simp [V.cells];omega)
theorem envSub_get {env:Env}:∀ {l:Env}{t:Nat}{x:V},EnvSub H σ fr env l→look l t=some x→∃ v,look env t=some v∧VSub H σ fr v x
  | [],_,_,_,h=>by simp [look] at h
  | (k,y)::l,t,x,hs,h=>by
    rw [look_cons] at h
    split at h
    · rename_i e;subst e;cases h;exact hs.1
    · exact envSub_get hs.2 h
theorem hSub_get:∀ {l:Heap}{k j:Nat}{b:Blk},HSub H σ fr k l→l[j]?=some b→BSub H σ fr (k+j) b
  | [],_,_,_,_,h=>by simp at h
  | x::l,k,j,b,hs,h=>by
    cases j with
    | zero=>simp at h;subst h;exact hs.1
    | succ j=>have:=hSub_get hs.2 (by simpa using h);rwa [show k+(j+1)=k+1+j by omega]
end
def Inj (σ:List (Option Nat)):Prop:=∀ (i j b:Nat),σ[i]?=some (some b)→σ[j]?=some (some b)→i=j
theorem sub_gen {m nt:Nat}{env env0:Env}{H H0:Heap}(σ:List (Option Nat)) (fr:List Nat) (hlen:σ.length=H0.length) (hm:∀ k,k<m→σ[k]?=some (some k)) (hinj:Inj σ) (hfr:∀ b∈fr,some b ∉ σ)
    (he:EnvSub H σ (·∈fr) env env0) (hh:HSub H σ (·∈fr) 0 H0):SubOf m nt env H env0 H0:=by
  classical
  refine ⟨?_⟩
  intro X I ρ a w hX ⟨hE,hw,hd⟩
  let frz:Nat→Prop:=fun cb=>∃ b z,b∈fr∧(∃ x:Blk,H[b]?=some x∧x≠.dead)∧ρ[b]?=some (some (cb,z))
  let J:Imm:=fun cb=>if frz cb then w.heap[cb]? else I cb
  have liveF:∀ cb,frz cb→Live H ρ cb:=fun cb ⟨b,z,_,⟨x,h1,h2⟩,h3⟩=>⟨b,x,h1,h2,z,h3⟩
  have hI:I.le J:=fun b o h=>by
    show (if frz b then w.heap[b]? else I b)=some o
    rw [if_neg (fun hf=>by rw [hw.apart b (liveF b hf)] at h;cases h)]
    exact h
  have hJok:∀ b o,J b=some o→w.heap[b]?=some o:=fun b o h=>by
    have h:(if frz b then w.heap[b]? else I b)=some o:=h
    split at h
    · exact h
    · exact hw.imm b o h
  have hJ:∀ b cb z o,b∈fr→(∃ x:Blk,H[b]?=some x∧x≠.dead)→ρ[b]?=some (some (cb,z))→w.heap[cb]?=some o→J cb=some o:=fun b cb z o h1 h2 h3 h4=>by
    show (if frz cb then w.heap[cb]? else I cb)=some o
    rw [if_pos ⟨b,z,h1,h2,h3⟩]
    exact h4
  have rel:∀ {v x:V} {u:Value},VSub H σ (·∈fr) v x→VRel I ρ v u→VRel J (relocate σ ρ) x u:=fun h hu=>h.rel hw hI hJ hu
  have blk:∀ (k:Nat) b,H0[k]?=some b→BSub H σ (·∈fr) k b:=fun k b h=>by have:=hSub_get hh h;rwa [Nat.zero_add] at this
  have alive:∀ (k cb z:Nat) b,H0[k]?=some b→b≠.dead→(relocate σ ρ)[k]?=some (some (cb,z))→∃ b',σ[k]?=some (some b')∧(∃ x:Blk,H[b']?=some x∧x≠.dead)∧ρ[b']?=some (some (cb,z)):=by
    intro k cb z b hk hb hρ
    obtain ⟨b',h1,h2⟩:=relocate_some hρ
    refine ⟨b',h1,?_,h2⟩
    cases b with
    | dead=>exact (hb rfl).elim
    | arr sz n g =>
      rcases blk k _ hk with ⟨c,f,h3,h4,_⟩|⟨h3,_⟩
      · rw [h1] at h3;cases h3;exact ⟨_,h4,by simp⟩
      · rw [h1] at h3;cases h3
    | map ms =>
      obtain ⟨c,ns,h3,h4,_⟩:=blk k _ hk
      rw [h1] at h3;cases h3;exact ⟨_,h4,by simp⟩
  have live:∀ cb,Live H0 (relocate σ ρ) cb→Live H ρ cb:=fun cb ⟨k,b,h1,h2,z,h3⟩=>by
    obtain ⟨b',_,⟨x,h5,h6⟩,h7⟩:=alive k cb z b h1 h2 h3
    exact ⟨b',x,h5,h6,z,h7⟩
  refine ⟨J,relocate σ ρ,hI,⟨hE.1,fun t x hx=>?_⟩,{ len:=by simp [relocate,hlen],inj:=?_,imm:=hJok,apart:=?_,size:=?_,none:=?_,arr:=?_,map:=?_,mine:=fun b hb=>hw.mine b (live b hb),news:=?_,le:=Imm.le_trans hw.le hI,pre:=?_,os:=hw.os,tape:=hw.tape,out:=hw.out,grow:=hw.grow,keep:=hw.keep },hd.mono hI⟩
  · obtain ⟨v,h1,h2⟩:=envSub_get he hx
    obtain ⟨h3,h4⟩:=hE.2 t v h1
    exact ⟨h3,rel h2 h4⟩
  · rintro i j b ⟨x,hx,hx'⟩ ⟨y,hy,hy'⟩ z1 z2 h1 h2
    obtain ⟨i',a1,a2,a3⟩:=alive i b z1 x hx hx' h1
    obtain ⟨j',b1,b2,b3⟩:=alive j b z2 y hy hy' h2
    have:=hw.inj i' j' b a2 b2 z1 z2 a3 b3
    subst this
    exact hinj i j i' a1 b1
  · rintro cb ⟨k,b,h1,h2,z,h3⟩
    obtain ⟨b',h4,h5,h6⟩:=alive k cb z b h1 h2 h3
    have hl:Live H ρ cb:=by obtain ⟨x,h7,h8⟩:=h5;exact ⟨b',x,h7,h8,z,h6⟩
    show (if frz cb then w.heap[cb]? else I cb)=none
    rw [if_neg]
    · exact hw.apart cb hl
    · rintro ⟨c,z',h7,h8,h9⟩
      have:=hw.inj b' c cb h5 h8 z z' h6 h9
      subst this
      exact hfr b' h7 (List.mem_of_getElem? h4)
  · intro k sz n g hk i hi
    rcases blk k _ hk with ⟨b,f,h1,h2,h3⟩|⟨_,rfl⟩
    · rw [(h3 i hi).len]
      exact hw.size b sz n f h2 i hi
    · omega
  · intro k sz n g hk hρ
    rcases blk k _ hk with ⟨b,f,h1,h2,h3⟩|⟨_,rfl⟩
    · cases hb:ρ[b]? with
      | none =>
        have h4:=(List.getElem?_eq_some_iff.1 h2).1
        have h5:=List.getElem?_eq_none_iff.1 hb
        rw [hw.len] at h5
        omega
      | some q =>
        rw [relocate_get h1 hb] at hρ
        cases hρ
        exact hw.none b sz n f h2 hb
    · rfl
  · intro k sz n g cb z hk hρ
    obtain ⟨b',h4,h5,h6⟩:=alive k cb z _ hk (by simp) hρ
    rcases blk k _ hk with ⟨b,f,h1,h2,h3⟩|⟨h1,_⟩
    · rw [h4] at h1
      cases h1
      obtain ⟨cs,ty,a1,a2,a3,a4⟩:=hw.arr _ _ _ _ _ _ h2 h6
      refine ⟨cs,ty,a1,a2,a3,fun i j x hi hx=>?_⟩
      have e:=h3 i hi
      have cell:∃ v,(f i).cells[j]?=some v∧VSub H σ (·∈fr) v x:=by
        revert hx
        generalize f i=q at e ⊢
        generalize g i=q' at e ⊢
        intro hx
        cases e with
        | agg h hv =>
          rename_i cs ds
          have hlt:=(List.getElem?_eq_some_iff.1 hx).1
          have hlt':j<cs.length:=by simp [V.cells] at hlt;omega
          exact ⟨cs[j],by simp [V.cells,hlt'],hv j _ x (by simp [hlt']) hx⟩
        | closed hc =>
          refine ⟨x,hx,.closed ?_⟩
          cases q<;>simp only [V.cells] at hx<;>first
            | exact closed_all (by simp only [V.closed] at hc;exact hc) hx
            | (cases j<;>simp at hx;subst hx;exact hc)
        | sl h=>cases j<;>simp [V.cells] at hx;subst hx;exact ⟨_,rfl,.sl h⟩
        | ptr h=>cases j<;>simp [V.cells] at hx;subst hx;exact ⟨_,rfl,.ptr h⟩
        | map h=>cases j<;>simp [V.cells] at hx;subst hx;exact ⟨_,rfl,.map h⟩
        | nil h=>cases j<;>simp [V.cells] at hx;subst hx;exact ⟨_,rfl,.nil h⟩
        | emp h=>cases j<;>simp [V.cells] at hx;subst hx;exact ⟨_,rfl,.emp h⟩
        | nilList=>cases j<;>simp [V.cells] at hx;subst hx;exact ⟨_,rfl,.nilList⟩
        | empList=>cases j<;>simp [V.cells] at hx;subst hx;exact ⟨_,rfl,.empList⟩
        | frz a b c d e=>cases j<;>simp [V.cells] at hx;subst hx;exact ⟨_,rfl,.frz a b c d e⟩
        | frzPtr a b c d=>cases j<;>simp [V.cells] at hx;subst hx;exact ⟨_,rfl,.frzPtr a b c d⟩
        | ext a=>cases j<;>simp [V.cells] at hx;subst hx;exact ⟨_,rfl,.ext a⟩
        | tup a b=>cases j<;>simp [V.cells] at hx;subst hx;exact ⟨_,rfl,.tup a b⟩
        | fn a b c d=>cases j<;>simp [V.cells] at hx;subst hx;exact ⟨_,rfl,.fn a b c d⟩
      obtain ⟨v,b1,b2⟩:=cell
      obtain ⟨u,c1,c2⟩:=a4 i j v hi b1
      exact ⟨u,c1,rel b2 c2⟩
    · rw [h4] at h1;cases h1
  · intro k ms hk
    obtain ⟨b,ns,h1,h2,h3,h4⟩:=blk k _ hk
    obtain ⟨cb,h5,es,clk,h6,h7,h8⟩:=hw.map _ _ h2
    refine ⟨cb,relocate_get h1 h5,es,clk,h6,h7.trans h3,fun i e y he hy=>?_⟩
    have hlt:i<ns.length:=by have:=(List.getElem?_eq_some_iff.1 hy).1;omega
    obtain ⟨c1,c2⟩:=h8 i e ns[i] he (by simp [hlt])
    obtain ⟨d1,d2⟩:=h4 i ns[i] y (by simp [hlt]) hy
    exact ⟨c1.trans d1,rel d2 c2⟩
  · intro b hb
    have hb:(if frz b then w.heap[b]? else I b)≠none:=hb
    split at hb
    · rename_i hf
      exact .inr (hw.mine b (liveF b hf))
    · exact hw.news b hb
  · intro k x hk
    have hlt:k<m:=by rw [← hX];exact (List.getElem?_eq_some_iff.1 hk).1
    exact relocate_get (hm k hlt) (hw.pre k x hk)
end Go.Proofs.YtbilpbabdgfblaaGreat
