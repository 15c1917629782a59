/- Parts of the proof: contracts of functions. No condition. -/
import Derived.Test.YtloaefllpokkaaaGreatKPt131
set_option maxHeartbeats 16000000
set_option linter.unusedSimpArgs false
set_option linter.unusedVariables false
namespace Go.Proofs.YtloaefllpokkaaaGreat
open Go.RowKit Go.Shelf
def insRen:Ren:=⟨fun x=>if x=21 then 49 else if x=27 then 82 else if x=28 then 83 else if x=35 then 97 else if x=39 then 106 else 0,fun x=>if x=3 then 3 else if x=4 then 4 else if x=22 then 22 else 0,fun _=>0⟩
set_option maxRecDepth 100000 in
theorem insLays:Lays2.n21 Tryz.prog insRen where
  mixed:=by kernel_rfl
  f21:=by kernel_rfl
  f27:=by kernel_rfl
  f28:=by kernel_rfl
  f35:=by kernel_rfl
  f39:=by kernel_rfl
  t0:=by kernel_rfl
  a0:=fun _=>rfl
  z0:=fun _=>rfl
  v0:=fun _=>rfl
  t3:=by kernel_rfl
  a3:=fun _=>rfl
  z3:=fun _=>rfl
  v3:=fun _=>rfl
  t4:=by kernel_rfl
  a4:=fun _=>rfl
  z4:=fun _=>rfl
  v4:=fun _=>rfl
  t22:=by kernel_rfl
  a22:=fun _=>rfl
  z22:=fun _=>rfl
  v22:=fun _=>rfl
  i3:=by kernel_rfl
theorem setCells_block {b:Nat}{t:TypeId}:∀ (vs:List Value) (o:Nat) (w:World) (cs:Array Value),w.heap[b]?=some (.cells cs t (0,0))→o+vs.length≤cs.size →
    ∃ cs':Array Value,(w.setCells b o vs).heap[b]?=some (.cells cs' t (0,0))∧cs'.size=cs.size∧(∀ j,j<o→cs'[j]?=cs[j]?)∧(∀ j,j<vs.length→cs'[o+j]?=vs[j]?)∧(∀ j,o+vs.length≤j→cs'[j]?=cs[j]?) ∧
      (∀ c,c≠b→(w.setCells b o vs).heap[c]?=w.heap[c]?)∧(w.setCells b o vs).heap.size=w.heap.size∧(w.setCells b o vs).os=w.os∧(w.setCells b o vs).tape=w.tape∧(w.setCells b o vs).output=w.output
  | [],o,w,cs,h,_=>⟨cs,h,rfl,fun _ _=>rfl,fun j hj=>by simp at hj,fun _ _=>rfl,fun _ _=>rfl,rfl,rfl,rfl,rfl⟩
  | v::r,o,w,cs,h,hl=>by
    simp only [List.length_cons] at hl
    obtain ⟨cs',h1,h2,h3,h4,h5,h6,h7,h8,h9,h10⟩:=setCells_block r (o+1) (w.setCell ⟨b,o,none⟩ v) (cs.setIfInBounds o v) (heap_setCell_same w b o cs t v h) (by simp;omega)
    refine ⟨cs',h1,by rw [h2];simp,fun j hj=>?_,fun j hj=>?_,fun j hj=>?_,fun c hc=>?_,?_,h8,h9,h10⟩
    · rw [h3 j (by omega)]
      simp [show o≠j by omega]
    · cases j with
      | zero =>
        rw [Nat.add_zero,h3 o (by omega)]
        simp [show o<cs.size by omega]
      | succ j =>
        have:=h4 j (by simp at hj;omega)
        rw [show o+(j+1)=o+1+j by omega,this]
        simp
    · simp only [List.length_cons] at hj
      rw [h5 j (by omega)]
      simp [show o≠j by omega]
    · show ((w.setCell ⟨b,o,none⟩ v).setCells b (o+1) r).heap[c]?=_
      rw [h6 c hc,heap_setCell_other w _ c v hc]
    · show ((w.setCell ⟨b,o,none⟩ v).setCells b (o+1) r).heap.size=_
      rw [h7]
      simp [World.setCell]
def InsR (l:List Int) (x:Int) (v:V) (H:Heap):Prop:=v=.sl 1 2 0 (l.length+1)∧H=[.dead,LB 1 vi [x],LB 1 vi (x::l)]
theorem insert_done {X:Ctx}{I:Imm}{ρ:List (Option (Nat × Nat))}{w w':World}{l:List Int}{x:Int}{cb c:Nat}{cs:Array Value}{ty:TypeId}(hw:WOk X I ρ [.dead,LB 1 vi [x]] w) (hL:¬ Live [.dead,LB 1 vi [x]] ρ cb) (hI:I cb=none) (hm:X.w.heap.size≤cb∨Live X.H X.ρ cb)
    (hc:l.length+1≤c) (hcm:c≤maxLen) (hcz:c≤cs.size) (hrow:∀ i,i<l.length+1→cs[i]?=some (.int .i64 (el (x::l) i))) (hnew:w'.heap[cb]?=some (.cells cs ty (0,0))) (hold:∀ c,c≠cb→c<w.heap.size→w'.heap[c]?=w.heap[c]?) (hsize:w.heap.size≤w'.heap.size)
    (ho:w'.os=w.os) (ht:w'.tape=w.tape) (hout:w'.output=w.output) :
    ∃ v u I' ρ' H',I.le I'∧Pre ρ ρ'∧WOk X I' ρ' H' w'∧VRel I' ρ' v u∧((Ending.returned (.slice (some ⟨cb,0,none⟩) (l.length+1) c)=.returned u∧InsR l x v H')∨(Ending.returned (.slice (some ⟨cb,0,none⟩) (l.length+1) c)=.panicked [{ v:=u,recovered:=false }]∧NoP v H')):=by
  have hlen:ρ.length=2:=hw.len
  have h:=hw.adopt (w':=w') (sz:=1) (n:=(x::l).length) (f:=fun i=>vi (el (x::l) i)) hL hI hm (by simp;omega) (fun _ _=>rfl) (fun i j v hi hj=>by
    cases j with
    | zero=>cases hj;exact ⟨_,by simpa using hrow i (by simpa using hi),.s _⟩
    | succ j=>cases hj) hnew hold hsize ho ht hout
  refine ⟨.sl 1 2 0 (l.length+1),_,I,_,_,Imm.le_refl _,pre_append _,h,?_,.inl ⟨rfl,rfl,rfl⟩⟩
  have:=VRel.sl (I:=I) (ρ:=ρ++[some (cb,cs.size)]) (sz:=1) (b:=2) (i:=0) (n:=l.length+1) (cb:=cb) (z:=cs.size) (c:=c) (by rw [List.getElem?_append_right (by omega),hlen];rfl) hc hcm (by omega)
  simpa using this
theorem insRow_size (v:Value) (k:Nat):((([]++[v]:List Value).toArray++Builtin.zeroCells (Value.int .i64 0).cells k)).size=1+k:=by
  rw [Array.size_append,size_zeroCells,show (Value.int .i64 0).cells.size=1 from rfl]
  simp
theorem insRow_at (v:Value) (k:Nat):((([]++[v]:List Value).toArray++Builtin.zeroCells (Value.int .i64 0).cells k))[0]?=some v:=by
  rw [Array.getElem?_append_left (by simp)]
  rfl
theorem insert_p (l:List Int) (x:Int) (hl:l.length≤100):ACalls Tryz.prog 49 [.sl 1 0 0 l.length,vi 0,.sl 1 1 0 1] [LB 1 vi l,LB 1 vi [x]] (InsR l x) NoP:=by
  refine ⟨fun X I ρ w us hw hv=>?_⟩
  obtain ⟨hsz,hrel⟩:=hv
  have hus:us.size=3:=hsz
  obtain ⟨u0,u1,u2,rfl⟩:∃ a b c,us=#[a,b,c]:=by
    match us,hus with
    | ⟨[a,b,c]⟩,_=>exact ⟨a,b,c,rfl⟩
  have r0:=hrel 0 _ u0 rfl rfl
  have r1:=hrel 1 _ u1 rfl rfl
  have r2:=hrel 2 _ u2 rfl rfl
  cases r1
  have hlen:ρ.length=2:=hw.len
  obtain ⟨vb,z1,vc,rfl,hρ1,hvc,_,_⟩:∃ vb z1 vc,u2=.slice (some ⟨vb,0,none⟩) 1 vc∧ρ[1]?=some (some (vb,z1))∧1≤vc∧vc≤maxLen∧True:=by
    rcases r2.sl_inv with ⟨cb,z,c,h1,h2,h3,h4,_⟩|⟨_,_,_,_,h⟩
    · exact ⟨cb,z,c,by simpa using h1,h2,h3,h4,trivial⟩
    · cases h
  obtain ⟨cs1,ty1,hb1,hz1,hn1,hr1⟩:=hw.arr 1 _ _ _ _ _ rfl hρ1
  obtain ⟨y,hy,hyv⟩:=hr1 0 0 _ Nat.one_pos rfl
  have hy:cs1[0]?=some (.int .i64 x):=by cases hyv;simpa [el] using hy
  have hl1:Live [LB 1 vi l,LB 1 vi [x]] ρ vb:=⟨1,_,rfl,by simp [LB],z1,hρ1⟩
  have hvs:∀ j v,[Value.int .i64 x][j]?=some v→w.cell? ⟨vb,0+j,none⟩=some v:=fun j v hj=>by
    cases j with
    | zero=>cases hj;rw [cell_of hb1];exact hy
    | succ j=>cases hj
  have h1v:∀ v∈[Value.int .i64 x],v.oneCell'=true:=fun v hv=>by simp at hv;subst hv;rfl
  have hkill:=hw.kill 0
  have new:¬ Live [.dead,LB 1 vi [x]] ρ w.heap.size:=fun h=>by have:=hkill.lt h;omega
  have newI:I w.heap.size=none:=by
    cases e:I w.heap.size with
    | none=>rfl
    | some o=>have:=(Array.getElem?_eq_some_iff.1 (hw.imm _ o e)).1;omega
  have keepNew:∀ (o:Obj) c,c≠w.heap.size→c<w.heap.size→(w.drew.alloc o).heap[c]?=w.heap[c]?:=fun o c _ hc=>Below.heap_alloc w.drew o c hc
  rcases r0.sl_inv with ⟨cb,z,c,rfl,hρ0,hnc,hcm,hcz⟩|⟨A,rfl,hρ0,_,hn0⟩
  · rw [Nat.zero_mul]
    rw [Nat.zero_add,Nat.mul_one] at hcz
    obtain ⟨cs,t,hcs,hzz,hnz,hr0⟩:=hw.arr 0 _ _ _ _ _ rfl hρ0
    have hL0:Live [LB 1 vi l,LB 1 vi [x]] ρ cb:=⟨0,_,rfl,by simp [LB],z,hρ0⟩
    have hne:vb≠cb:=fun e=>by
      subst e
      have:=hw.inj 0 1 vb ⟨_,rfl,by simp [LB]⟩ ⟨_,rfl,by simp [LB]⟩ z z1 hρ0 hρ1
      cases this
    have hrow0:∀ i,i<l.length→cs[i]?=some (.int .i64 (el l i)):=fun i hi=>by
      obtain ⟨u,h2,h3⟩:=hr0 i 0 _ hi rfl
      cases h3
      simpa using h2
    have hdead:¬ Live [.dead,LB 1 vi [x]] ρ cb:=not_live_kill hw (k:=0) rfl (by simp [LB]) hρ0
    unfold maxLen at hcm
    by_cases h0:l.length=0
    · obtain rfl:=List.length_eq_zero_iff.1 h0
      by_cases hroom:1≤c
      · refine (Any2.slices_Insert_int_end_room insLays cb 0 0 c vb 0 1 vc [.int .i64 x] w (by omega) (by omega) (by omega) rfl (fun j hj=>?_) (fun j hj=>frozen_of_row w cb _ cs t hcs) hvs h1v).mono ?_
        · rw [cell_of hcs]
          simp [show j=0 by omega] at *
          omega
        · rintro e w' ⟨rfl,rfl⟩
          obtain ⟨cs',a1,a2,a3,a4,a5,a6,a7,a8,a9,a10⟩:=setCells_block [.int .i64 x] (0+0) w cs hcs (by simp;omega)
          refine insert_done (l:=[]) (x:=x) (cs:=cs') hkill hdead (hw.apart cb hL0) (hw.mine cb hL0) hroom (by unfold maxLen;omega) (by omega) (fun i hi=>?_) a1 (fun c hc _=>a6 c hc) (by omega) a8 a9 a10
          have:i=0:=by simpa using hi
          subst this
          simpa [el] using a4 0 (by simp)
      · have hc0:c=0:=by omega
        subst hc0
        refine (Any2.slices_Insert_int_end_grow insLays (some ⟨cb,0,none⟩) 0 0 vb 0 1 vc [] [.int .i64 x] w (by omega) (by omega) (by omega) (by omega) rfl rfl (fun h=>by cases h) (fun _ _ j v hj=>by simp at hj) hvs h1v).mono ?_
        rintro e w' ⟨rfl,rfl⟩
        refine insert_done (l:=[]) (x:=x) hkill new newI (.inl hw.grow) (grownCap_ge _ _ _ _) (grownCap_le_maxLen _ _ _ _ (by unfold maxLen;simp)) (by rw [insRow_size];omega) (fun i hi=>?_) (World.alloc_heap_new w.drew _) (keepNew _) (by show w.heap.size≤(w.heap.push _).size;rw [Array.size_push];omega) rfl rfl rfl
        have:i=0:=by simpa using hi
        subst this
        exact insRow_at _ _
    · by_cases hroom:l.length+1≤c
      · refine (Any2.slices_Insert_int_shift insLays cb 0 l.length c 0 vb 0 1 vc (l.map (Value.int .i64)) [.int .i64 x] w (by omega) (by omega) hroom (by omega) hne (by simp) rfl (fun j v hj=>?_) (fun j hj=>?_) (fun j hj=>frozen_of_row w cb _ cs t hcs) hvs (fun v hv=>?_) h1v ty1 t cs1.size cs.size ?_ ?_ (by omega) (frozen_of_row w vb _ cs1 ty1 hb1) (frozen_of_row w vb _ cs1 ty1 hb1)).mono ?_
        · rw [cell_of hcs,Nat.zero_add]
          simp only [List.getElem?_map,Option.map_eq_some_iff] at hj
          obtain ⟨q,hq,rfl⟩:=hj
          have hlt:=(List.getElem?_eq_some_iff.1 hq).1
          rw [hrow0 j hlt,el_eq hlt]
          rw [List.getElem?_eq_getElem hlt] at hq
          cases hq
          rfl
        · rw [cell_of hcs,Nat.zero_add]
          simp
          omega
        · obtain ⟨q,_,rfl⟩:=List.mem_map.1 hv
          rfl
        · simp [World.shape?,hb1]
        · simp [World.shape?,hcs]
        · rintro e w' ⟨rfl,rfl⟩
          obtain ⟨cs',a1,a2,a3,a4,a5,a6,a7,a8,a9,a10⟩:=setCells_block ((l.map (Value.int .i64)).drop 0) (0+(0+1)) w.drew cs hcs (by simp;omega)
          obtain ⟨cs2,b1,b2,b3,b4,b5,b6,b7,b8,b9,b10⟩:=setCells_block [.int .i64 x] (0+0) _ cs' a1 (by simp;omega)
          refine insert_done (cs:=cs2) hkill hdead (hw.apart cb hL0) (hw.mine cb hL0) hroom (by unfold maxLen;omega) (by omega) (fun i hi=>?_) b1 (fun c hc _=>(b6 c hc).trans (a6 c hc)) (by rw [b7,a7];exact Nat.le_refl _) (b8.trans a8) (b9.trans a9) (b10.trans a10)
          cases i with
          | zero=>simpa [el] using b4 0 (by simp)
          | succ i =>
            have hi':i<l.length:=by omega
            have e:=a4 i (by simpa using hi')
            rw [show 0+(0+1)+i=i+1 by omega] at e
            rw [b5 (i+1) (by simp),e]
            simp [hi',el]
      · refine (Any2.slices_Insert_int_grow insLays cb 0 l.length c 0 vb 0 1 vc (l.map (Value.int .i64)) [.int .i64 x] w (by omega) (by omega) hnc (by omega) (by omega) (by simp) rfl (fun j v hj=>?_) hvs (fun v hv=>?_) h1v).mono ?_
        · rw [cell_of hcs,Nat.zero_add]
          simp only [List.getElem?_map,Option.map_eq_some_iff] at hj
          obtain ⟨q,hq,rfl⟩:=hj
          have hlt:=(List.getElem?_eq_some_iff.1 hq).1
          rw [hrow0 j hlt,el_eq hlt]
          rw [List.getElem?_eq_getElem hlt] at hq
          cases hq
          rfl
        · obtain ⟨q,_,rfl⟩:=List.mem_map.1 hv
          rfl
        · rintro e w' ⟨rfl,rfl⟩
          have hge:=grownCap_ge w (l.length+1) c (insRen.t 3)
          generalize hA:((((l.map (Value.int .i64)).take 0).toArray++Builtin.zeroCells (Value.int .i64 0).cells (l.length+1-0)++Builtin.zeroCells (Value.int .i64 0).cells (grownCap w (l.length+1) c (insRen.t 3)-(l.length+1))))=A
          have hAs:A.size=grownCap w (l.length+1) c (insRen.t 3):=by
            rw [← hA]
            simp [size_zeroCells,Value.cells]
            omega
          have hnewA:(w.alloc (.cells A (insRen.t 3))).heap[w.heap.size]?=some (.cells A (insRen.t 3) (0,0)):=World.alloc_heap_new w _
          obtain ⟨cs',a1,a2,a3,a4,a5,a6,a7,a8,a9,a10⟩:=setCells_block [.int .i64 x] 0 (w.alloc (.cells A (insRen.t 3))).drew A hnewA (by simp;omega)
          obtain ⟨cs2,b1,b2,b3,b4,b5,b6,b7,b8,b9,b10⟩:=setCells_block ((l.map (Value.int .i64)).drop 0) (0+1) ((w.alloc (.cells A (insRen.t 3))).drew.setCells w.heap.size 0 [.int .i64 x]).drew cs' a1 (by simp;omega)
          refine insert_done (cs:=cs2) hkill new newI (.inl hw.grow) hge (grownCap_le_maxLen _ _ _ _ (by unfold maxLen;omega)) (by omega) (fun i hi=>?_) b1 (fun c hc hlt=>(b6 c hc).trans ((a6 c hc).trans (Below.heap_alloc w _ c hlt))) (by
            rw [b7]
            show _≤((w.alloc (.cells A (insRen.t 3))).drew.setCells w.heap.size 0 [.int .i64 x]).heap.size
            rw [a7]
            show _≤(w.heap.push _).size
            rw [Array.size_push]
            omega) (b8.trans a8) (b9.trans a9) (b10.trans a10)
          cases i with
          | zero=>rw [b3 0 (by omega)];simpa [el] using a4 0 (by simp)
          | succ i =>
            have hi':i<l.length:=by omega
            have e:=b4 i (by simpa using hi')
            rw [show 0+1+i=i+1 by omega] at e
            rw [e]
            simp [hi',el]
  · have hn0:l.length=0:=hn0
    obtain rfl:=List.length_eq_zero_iff.1 hn0
    refine (Any2.slices_Insert_int_end_grow insLays A 0 0 vb 0 1 vc [] [.int .i64 x] w (by omega) (by omega) (by omega) (by omega) rfl rfl (fun _=>rfl) (fun _ _ j v hj=>by simp at hj) hvs h1v).mono ?_
    rintro e w' ⟨rfl,rfl⟩
    refine insert_done (l:=[]) (x:=x) hkill new newI (.inl hw.grow) (grownCap_ge _ _ _ _) (grownCap_le_maxLen _ _ _ _ (by unfold maxLen;simp)) (by rw [insRow_size];omega) (fun i hi=>?_) (World.alloc_heap_new w.drew _) (keepNew _) (by show w.heap.size≤(w.heap.push _).size;rw [Array.size_push];omega) rfl rfl rfl
    have:i=0:=by simpa using hi
    subst this
    exact insRow_at _ _
def vu (n:Int):V:=.s (.int .u64 n)
theorem mul64_p (x y:Int) (hx:0≤x∧x≤4294967295) (hy:0≤y∧y≤4294967295) (hxy:0≤x*y∧x*y≤4294967295):PCalls Tryz.prog 131 [vu x,vu y] (·=.tup [vu 0,vu (x*y)]):=by
  refine pcalls_of_aw Tryz.func131 rfl (dc rfl) ?_
  (repeat' (first|(refine ar_isq ?_;refine zq ?_)|refine ar_q (qs_and rfl rfl (andMask (by omega))) (dc rfl) ?_|refine ar_q (qs_shr rfl rfl (by omega) (shr0 (by omega))) (dc rfl) ?_|refine zst ?_|refine zco ?_ ?_|exact zd|(refine fun (hg:(_:Prop))=>?_;(try replace hg:=HG.out hg);(try dsimp only at hg);(try (have _h:True:=hg;clear _h hg)))))
  (refine aw_ret ?_;(repeat (first|refine ret_then ?_|refine ret_block ?_));refine bq2 rfl rfl ⟨?_,rfl⟩)
  simp [vu]
theorem mul_p (x y:Int) (hx:0≤x∧x≤4294967295) (hy:0≤y∧y≤4294967295) (hxy:0≤x*y∧x*y≤4294967295):PCalls Tryz.prog 127 [vu x,vu y] (·=.tup [vu 0,vu (x*y)]):=by
  refine pcalls_of_aw Tryz.func127 rfl (dc rfl) ?_
  (repeat' (first|(refine ar_isq ?_;refine zq ?_)|(refine zpv fn131 (mul64_p x y hx hy hxy) ?_)|refine zst ?_|refine zco ?_ ?_|exact zd|(refine fun (hg:(_:Prop))=>?_;(try replace hg:=HG.out hg);(try dsimp only at hg);(try (have _h:True:=hg;clear _h hg)))))
  all_goals ((refine aw_ret ?_;(repeat (first|refine ret_then ?_|refine ret_block ?_));refine bq2 rfl rfl ⟨?_,rfl⟩);simp [vu])
def fillN (L T:Nat):Nat→Nat
  | 0=>min L T
  | k+1=>fillN L T k+min (fillN L T k) (T-fillN L T k)
theorem fillN_le (L T:Nat):∀ k,fillN L T k≤T
  | 0=>by simp [fillN];omega
  | k+1=>by have:=fillN_le L T k;simp only [fillN];omega
theorem fillN_mod (l:List Bool) (T:Nat) (h:0<l.length):∀ k,fillN l.length T k<T→l.length ∣ fillN l.length T k∧k<fillN l.length T k
  | 0,hk=>by simp only [fillN] at hk ⊢;rw [Nat.min_eq_left (by omega)];exact ⟨Nat.dvd_refl _,h⟩
  | k+1,hk=>by
    have h1:=fillN_le l.length T k
    simp only [fillN] at hk ⊢
    have h2:fillN l.length T k<T:=by omega
    obtain ⟨h3,h4⟩:=fillN_mod l T h k h2
    rw [Nat.min_eq_left (by omega)]
    exact ⟨Nat.dvd_add h3 h3,by omega⟩
theorem join_ins {H:Heap}{b c:Nat}{l:List Int}{v:Int}(hc:H[c]?=some (LB 1 vi [v])) (_hne:b≠c):joinH [b,c] [] H [.dead,LB 1 vi [v],LB 1 vi (v::l)]=H.set b .dead++[LB 1 vi (v::l)]:=by
  unfold joinH
  refine congr (congrArg HAppend.hAppend ?_) rfl
  refine List.ext_getElem? fun i=>?_
  rw [joinAt_get,Nat.zero_add,List.getElem?_set]
  by_cases e:b=i
  · subst e
    rw [if_pos rfl]
    by_cases hlt:b<H.length
    · rw [if_pos hlt,List.getElem?_eq_getElem hlt]
      simp [pickB,List.idxOf?_cons,Blk.ren]
    · rw [if_neg hlt,List.getElem?_eq_none (by omega)]
      rfl
  · rw [if_neg e]
    by_cases e2:c=i
    · subst e2
      rw [hc]
      simp only [Option.map_some,Option.some.injEq]
      simp [pickB,List.idxOf?_cons,e]
      rfl
    · cases h:H[i]? with
      | none=>rfl
      | some x=>simp [pickB,List.idxOf?_cons,e,e2]
theorem ar_insert {r:Option Nat}{m nt i d:Nat}{Q:Post}{env:Env}{H:Heap}{ops:Array Oper}{L:List Stp}{ty:TypeId}{pos:String}{after:Array Edge}{ats:Array TypeId}{x z:Operand}{b c:Nat}(l:List Int) (v:Int)
    (h:AR Tryz.prog r m nt ops Q L ((d,.sl 1 H.length 0 (l.length+1))::env) (H.set b .dead++[LB 1 vi (v::l)])) (hx:eo env x=some (.sl 1 b 0 l.length)) (hz:eo env z=some (.sl 1 c 0 1)) (hb:H[b]?=some (LB 1 vi l)) (hc:H[c]?=some (LB 1 vi [v])) (hne:b≠c) (hl:l.length≤100) (hd:d<nt) :
    AR Tryz.prog r m nt ops Q (.l i ⟨some d,.call ⟨.value (.func 49),#[x,.const (.int .i64 0),z],ats⟩,ty,pos,after,none⟩ false::L) env H:=by
  have hh:HSub H ([b,c].map some) (·∈([]:List Nat)) 0 [LB 1 vi l,LB 1 vi [v]] :=
    ⟨.inl ⟨b,_,rfl,hb,fun _ _=>.closed rfl⟩,.inl ⟨c,_,rfl,hc,fun _ _=>.closed rfl⟩,trivial⟩
  refine ar_gcall (H0:=[LB 1 vi l,LB 1 vi [v]]) (vs:=[.sl 1 b 0 l.length,vi 0,.sl 1 c 0 1]) (first:=[]) (cap:=[]) [b,c] [] (args:=[x,.const (.int .i64 0),z]) fn49 rfl (by rw [List.mapM_cons,List.mapM_cons,List.mapM_cons,List.mapM_nil,hx,hz];rfl) (xs:=[.sl 1 0 0 l.length,vi 0,.sl 1 1 0 1]) ⟨.sl rfl,.closed rfl,.sl rfl,trivial⟩ rfl (by simpa using hne) (fun _ h=>by cases h) hh (by simp [LB]) (insert_p l v hl) hd ?_ (fun _ _ h=>h.elim)
  rintro _ _ ⟨rfl,rfl⟩
  rw [join_ins hc hne]
  exact h
def srcN (l:List Itm) (i:Int):Nat→Int
  | 0=>i
  | k+1=>(el l (srcN l i k).toNat).src
def lineTo (l:List Itm) (i:Int):Nat→List Int
  | 0=>[]
  | k+1=>srcN l i k::lineTo l i k
theorem lineTo_len (l:List Itm) (i:Int):∀ k,(lineTo l i k).length=k
  | 0=>rfl
  | k+1=>by simp [lineTo,lineTo_len l i k]
def lineN (l:List Itm) (i:Int):Nat:=(el l i.toNat).kind.toNat
structure Chain (l:List Itm) (i:Int):Prop where
  few:1≤lineN l i∧lineN l i≤3
  at_:∀ k,k<lineN l i→(0≤srcN l i k∧srcN l i k<(l.length:Int))∧(el l (srcN l i k).toNat).kind=(lineN l i:Int)-k
  stop:srcN l i (lineN l i)=-1
theorem chain_ok {l:List Itm}(h:∀ i,i<l.length→Made l i) {i:Int}(hi:0≤i∧i<(l.length:Int)):Chain l i:=by
  have h0:=h i.toNat (by omega)
  have hk:(el l i.toNat).kind=(lineN l i:Int):=by
    unfold lineN
    unfold Made at h0
    omega
  have hb:1≤lineN l i∧lineN l i≤3:=by unfold Made at h0;omega
  have all:∀ k,k<lineN l i→(0≤srcN l i k∧srcN l i k<(l.length:Int))∧(el l (srcN l i k).toNat).kind=(lineN l i:Int)-k:=fun k=>by
    induction k with
    | zero=>intro _;exact ⟨hi,by rw [show srcN l i 0=i from rfl,hk];omega⟩
    | succ k ih =>
      intro hk1
      obtain ⟨h1,h2⟩:=ih (by omega)
      have h3:=h (srcN l i k).toNat (by omega)
      unfold Made at h3
      simp only [srcN]
      rcases h3 with h3|⟨_,h4,h5⟩
      · omega
      · exact ⟨by omega,by rw [h5,h2];omega⟩
  refine ⟨hb,all,?_⟩
  obtain ⟨h1,h2⟩:=all (lineN l i-1) (by omega)
  have h3:=h (srcN l i (lineN l i-1)).toNat (by omega)
  unfold Made at h3
  obtain ⟨q,hq⟩:∃ q,lineN l i=q+1:=⟨lineN l i-1,by omega⟩
  rw [hq] at h1 h2 h3 ⊢
  simp only [Nat.add_sub_cancel] at h1 h2 h3
  simp only [srcN]
  omega
def lineE (s:Sto) (i:Int):Int:=if Valid s then (if 0≤i∧i<(s.items.length:Int) then 0 else 6) else 80
def lineF (s:Sto) (i:Int):List Int:=if lineE s i=0 then lineTo s.items i (lineN s.items i) else []
theorem lineE_bad {s:Sto}{i:Int}(h:¬ Valid s):lineE s i=80:=by simp [lineE,h]
theorem lineE_none {s:Sto}{i:Int}(h:Valid s) (h2:¬ (0≤i∧i<(s.items.length:Int))):lineE s i=6:=by simp [lineE,h,h2]
theorem lineE_ok {s:Sto}{i:Int}(h:Valid s) (h2:0≤i∧i<(s.items.length:Int)):lineE s i=0:=by simp [lineE,h,h2]
theorem lineF_ok {s:Sto}{i:Int}(h:lineE s i=0):lineF s i=lineTo s.items i (lineN s.items i):=by simp [lineF,h]
theorem lineF_no {s:Sto}{i:Int}(h:lineE s i≠0):lineF s i=[]:=by simp [lineF,h]
def stoC (s:Sto):V:=.agg [vi s.life,encItems s.items,encPrints s.prints]
theorem pline_p (s:Sto) (i:Int):PCalls Tryz.prog 48 [.ref (stoC s) 0,vi i] (·=.fn (.func 81) [] [.ref (vi i) 0,.ref (.ref (stoC s) 0) 0]):=by
  refine pcalls_of_aw Tryz.func48 rfl (dc rfl) ?_
  (repeat' (first|(refine ar_isq ?_;refine zq ?_)|refine zst ?_|refine zco ?_ ?_|exact zd|(refine fun (hg:(_:Prop))=>?_;(try replace hg:=HG.out hg);(try dsimp only at hg);(try (have _h:True:=hg;clear _h hg)))))
  (refine aw_mono_r (env':=[(4,.fn (.func 81) [] [.ref (vi i) 0,.ref (.ref (stoC s) 0) 0])]) (H':=[]) ?_ ?_;(focus ((refine sub_to [] [0,1] rfl ?_ ?_<;>(repeat' (first|exact trivial|refine ⟨⟨_,rfl,?_⟩,?_⟩|refine vs1 ?_ ?_|refine vs2 ?_ ?_|refine vs3 ?_|refine vs4 ?_ ?_|refine ⟨.inl ⟨_,_,rfl,rfl,?_⟩,?_⟩|exact ⟨.inr ⟨rfl,rfl⟩,trivial⟩|refine ⟨.inr ⟨rfl,rfl⟩,?_⟩|(intro _ _)|exact vz1|(exact fn2_sub (frzPtr' (by simp) rfl (by omega) rfl rfl) (frzPtr' (by simp) rfl (by omega) rfl rfl))|exact vz2|fail)));done)))
  (refine aw_ret ?_;(repeat (first|refine ret_then ?_|refine ret_block ?_));refine bq1 rfl ⟨?_,rfl⟩)
  rfl
end Go.Proofs.YtloaefllpokkaaaGreat
-- old go
namespace Go.Proofs.YtloaefllpokkaaaGreat.It
open Go.RowKit
theorem line_iter (s:Sto) (i:Int) (hC:Chain s.items i) (_hn:s.items.length≤30):Iter Tryz.prog 81 [.ref (vi i) 0,.ref (.ref (stoC s) 0) 0] (lineN s.items i) (fun k=>[.int .i64 (srcN s.items i k)]):=by
  refine iter_of_aw Tryz.func81 rfl (dc rfl) rfl fun C hN hel=>?_
  (repeat' (first|(refine ar_isq ?_;first|refine ar_q (qs_move rfl) (dc rfl) ?_|refine ar_q (qs_assign rfl) (dc rfl) ?_|(refine is_load ?_;first|refine ar_q (qs_load_ptr (ty rfl) rfl rfl (by first|exact Nat.one_pos|assumption|omega) rfl) (dc rfl) ?_|refine ar_q (qs_load_ref (ty rfl) rfl rfl) (dc rfl) ?_)|refine ar_q (qs_geq rfl rfl) (dc rfl) ?_|(refine is_fieldAddr ?_;first|refine ar_q (qs_faddr_ptr (ty rfl) rfl rfl (ty rfl) (Nat.succ_ne_zero _) rfl) (dc rfl) ?_|refine ar_q (qs_faddr_ref (ty rfl) rfl rfl (ty rfl) (Nat.succ_ne_zero _) rfl) (dc rfl) ?_)|(refine is_indexAddr ?_;first|refine ar_q (qs_iaddr_list (ty rfl) rfl (ty rfl) rfl rfl rfl rfl (by omega)) (dc rfl) ?_|refine ar_q (qs_iaddr_sl0 (ty rfl) rfl (ty rfl) rfl rfl rfl rfl (by omega)) (dc rfl) ?_|refine ar_q (qs_iaddr_sl (ty rfl) rfl (ty rfl) rfl rfl rfl rfl (by omega)) (dc rfl) ?_|refine ar_q (qs_iaddr_aptr (ty rfl) rfl (ty rfl) rfl rfl rfl (by omega)) (dc rfl) ?_|refine ar_q (qs_iaddr_aref (ty rfl) rfl (ty rfl) rfl rfl rfl (by omega)) (dc rfl) ?_|(refine ar_idx_list (ty rfl) rfl (ty rfl) rfl rfl rfl (dc rfl) (by omega) ?_;intro _ _ _)|(refine ar_idx_sl (ty rfl) rfl (ty rfl) rfl rfl rfl (dc rfl) (by omega) ?_;intro _ _ _))|(refine is_pick ?_;first|refine ar_q (qs_pick_t rfl rfl) (dc rfl) ?_|refine ar_q (qs_pick_f rfl rfl) (dc rfl) ?_))|(refine ar_guard rfl rfl rfl rfl (dc rfl) ?_ ?_<;>intro hg<;>first|exact absurd hg (by decide)|((first|replace hg:=hgT hg|replace hg:=hgF hg|replace hg:=hgNT hg|replace hg:=hgNF hg|replace hg:=hgBT hg|replace hg:=hgBF hg|replace hg:=hgV hg|replace hg:=hgW hg|skip);(try dsimp only at hg);(try (have _h:True:=hg;clear _h hg));first|(exfalso;omega)|skip))|(refine ar_guard_u rfl rfl rfl rfl (dc rfl) ?_)|(refine ar_nil ?_)|(refine aw_seq ?_)|(refine aw_skip ?_)|(refine aw_block ?_)|(refine aw_exit ?_)|(refine aw_region ?_)|(refine aw_cond rfl ?_ ?_<;>intro hg<;>first|exact absurd hg (by decide)|((first|replace hg:=hgT hg|replace hg:=hgF hg|replace hg:=hgNT hg|replace hg:=hgNF hg|replace hg:=hgBT hg|replace hg:=hgBF hg|replace hg:=hgV hg|replace hg:=hgW hg|skip);(try dsimp only at hg);(try (have _h:True:=hg;clear _h hg));first|(exfalso;omega)|skip))))
  refine aw_for (lineN s.items i) (fun k=>[(0,.s (.func (.yield C.l) #[] #[])),(1,.ref (vi i) 0),(2,.ref (.ref (stoC s) 0) 0),(4,vi (srcN s.items i k))]) (Nat.zero_le _) ⟨rfl,rfl,rfl,rfl,trivial⟩ ?_
  intro k hk
  by_cases hlt:k<lineN s.items i
  · obtain ⟨h1,h2⟩:=hC.at_ k hlt
    (repeat' (first|(refine ar_isq ?_;first|refine ar_q (qs_move rfl) (dc rfl) ?_|refine ar_q (qs_assign rfl) (dc rfl) ?_|(refine is_load ?_;first|refine ar_q (qs_load_ptr (ty rfl) rfl rfl (by first|exact Nat.one_pos|assumption|omega) rfl) (dc rfl) ?_|refine ar_q (qs_load_ref (ty rfl) rfl rfl) (dc rfl) ?_)|refine ar_q (qs_geq rfl rfl) (dc rfl) ?_|(refine is_fieldAddr ?_;first|refine ar_q (qs_faddr_ptr (ty rfl) rfl rfl (ty rfl) (Nat.succ_ne_zero _) rfl) (dc rfl) ?_|refine ar_q (qs_faddr_ref (ty rfl) rfl rfl (ty rfl) (Nat.succ_ne_zero _) rfl) (dc rfl) ?_)|(refine is_indexAddr ?_;first|refine ar_q (qs_iaddr_list (ty rfl) rfl (ty rfl) rfl rfl rfl rfl (by omega)) (dc rfl) ?_|refine ar_q (qs_iaddr_sl0 (ty rfl) rfl (ty rfl) rfl rfl rfl rfl (by omega)) (dc rfl) ?_|refine ar_q (qs_iaddr_sl (ty rfl) rfl (ty rfl) rfl rfl rfl rfl (by omega)) (dc rfl) ?_|refine ar_q (qs_iaddr_aptr (ty rfl) rfl (ty rfl) rfl rfl rfl (by omega)) (dc rfl) ?_|refine ar_q (qs_iaddr_aref (ty rfl) rfl (ty rfl) rfl rfl rfl (by omega)) (dc rfl) ?_|refine ar_q (qs_iaddr_list (j:=(srcN s.items i k).toNat) (ty rfl) rfl (ty rfl) rfl rfl rfl (by omega) (by omega)) (dc rfl) ?_|refine ar_q (qs_iaddr_sl0 (j:=(srcN s.items i k).toNat) (ty rfl) rfl (ty rfl) rfl rfl rfl (by omega) (by omega)) (dc rfl) ?_|refine ar_q (qs_iaddr_sl (j:=(srcN s.items i k).toNat) (ty rfl) rfl (ty rfl) rfl rfl rfl (by omega) (by omega)) (dc rfl) ?_|(refine ar_idx_list (ty rfl) rfl (ty rfl) rfl rfl rfl (dc rfl) (by omega) ?_;intro _ _ _)|(refine ar_idx_sl (ty rfl) rfl (ty rfl) rfl rfl rfl (dc rfl) (by omega) ?_;intro _ _ _))|(refine is_pick ?_;first|refine ar_q (qs_pick_t rfl rfl) (dc rfl) ?_|refine ar_q (qs_pick_f rfl rfl) (dc rfl) ?_))|(refine ar_yield (us:=[.int .i64 (srcN s.items i k)]) rfl rfl (by rw [hN];exact hlt) (by rw [hel]) (dc rfl) ?_)|(refine ar_q (qs_nck_ref rfl) (dc rfl) ?_)|(refine ar_guard rfl rfl rfl rfl (dc rfl) ?_ ?_<;>intro hg<;>first|exact absurd hg (by decide)|((first|replace hg:=hgT hg|replace hg:=hgF hg|replace hg:=hgNT hg|replace hg:=hgNF hg|replace hg:=hgBT hg|replace hg:=hgBF hg|replace hg:=hgV hg|replace hg:=hgW hg|skip);(try dsimp only at hg);(try (have _h:True:=hg;clear _h hg));first|(exfalso;omega)|skip))|(refine ar_guard_u rfl rfl rfl rfl (dc rfl) ?_)|(refine ar_nil ?_)|(refine aw_seq ?_)|(refine aw_skip ?_)|(refine aw_block ?_)|(refine aw_exit ?_)|(refine aw_region ?_)|(refine aw_cond rfl ?_ ?_<;>intro hg<;>first|exact absurd hg (by decide)|((first|replace hg:=hgT hg|replace hg:=hgF hg|replace hg:=hgNT hg|replace hg:=hgNF hg|replace hg:=hgBT hg|replace hg:=hgBF hg|replace hg:=hgV hg|replace hg:=hgW hg|skip);(try dsimp only at hg);(try (have _h:True:=hg;clear _h hg));first|(exfalso;omega)|skip))))
    all_goals first
      | (exfalso;omega)
      | exact loop_next hlt rfl ⟨rfl,rfl,rfl,rfl,trivial⟩
      | trace_state
  · obtain rfl:k=lineN s.items i:=by omega
    have hs:=hC.stop
    (repeat' (first|(refine ar_isq ?_;first|refine ar_q (qs_move rfl) (dc rfl) ?_|refine ar_q (qs_assign rfl) (dc rfl) ?_|(refine is_load ?_;first|refine ar_q (qs_load_ptr (ty rfl) rfl rfl (by first|exact Nat.one_pos|assumption|omega) rfl) (dc rfl) ?_|refine ar_q (qs_load_ref (ty rfl) rfl rfl) (dc rfl) ?_)|refine ar_q (qs_geq rfl rfl) (dc rfl) ?_|(refine is_fieldAddr ?_;first|refine ar_q (qs_faddr_ptr (ty rfl) rfl rfl (ty rfl) (Nat.succ_ne_zero _) rfl) (dc rfl) ?_|refine ar_q (qs_faddr_ref (ty rfl) rfl rfl (ty rfl) (Nat.succ_ne_zero _) rfl) (dc rfl) ?_)|(refine is_indexAddr ?_;first|refine ar_q (qs_iaddr_list (ty rfl) rfl (ty rfl) rfl rfl rfl rfl (by omega)) (dc rfl) ?_|refine ar_q (qs_iaddr_sl0 (ty rfl) rfl (ty rfl) rfl rfl rfl rfl (by omega)) (dc rfl) ?_|refine ar_q (qs_iaddr_sl (ty rfl) rfl (ty rfl) rfl rfl rfl rfl (by omega)) (dc rfl) ?_|refine ar_q (qs_iaddr_aptr (ty rfl) rfl (ty rfl) rfl rfl rfl (by omega)) (dc rfl) ?_|refine ar_q (qs_iaddr_aref (ty rfl) rfl (ty rfl) rfl rfl rfl (by omega)) (dc rfl) ?_|(refine ar_idx_list (ty rfl) rfl (ty rfl) rfl rfl rfl (dc rfl) (by omega) ?_;intro _ _ _)|(refine ar_idx_sl (ty rfl) rfl (ty rfl) rfl rfl rfl (dc rfl) (by omega) ?_;intro _ _ _))|(refine is_pick ?_;first|refine ar_q (qs_pick_t rfl rfl) (dc rfl) ?_|refine ar_q (qs_pick_f rfl rfl) (dc rfl) ?_))|(refine ar_guard rfl rfl rfl rfl (dc rfl) ?_ ?_<;>intro hg<;>first|exact absurd hg (by decide)|((first|replace hg:=hgT hg|replace hg:=hgF hg|replace hg:=hgNT hg|replace hg:=hgNF hg|replace hg:=hgBT hg|replace hg:=hgBF hg|replace hg:=hgV hg|replace hg:=hgW hg|skip);(try dsimp only at hg);(try (have _h:True:=hg;clear _h hg));first|(exfalso;omega)|skip))|(refine ar_guard_u rfl rfl rfl rfl (dc rfl) ?_)|(refine ar_nil ?_)|(refine aw_seq ?_)|(refine aw_skip ?_)|(refine aw_block ?_)|(refine aw_exit ?_)|(refine aw_region ?_)|(refine aw_cond rfl ?_ ?_<;>intro hg<;>first|exact absurd hg (by decide)|((first|replace hg:=hgT hg|replace hg:=hgF hg|replace hg:=hgNT hg|replace hg:=hgNF hg|replace hg:=hgBT hg|replace hg:=hgBF hg|replace hg:=hgV hg|replace hg:=hgW hg|skip);(try dsimp only at hg);(try (have _h:True:=hg;clear _h hg));first|(exfalso;omega)|skip))))
    all_goals first
      | (exfalso;omega)
      | exact aw_ret (show lineN s.items i=lineN s.items i from rfl)
      | exact (rfl:lineN s.items i=lineN s.items i)
      | trace_state
end Go.Proofs.YtloaefllpokkaaaGreat.It
namespace Go.Proofs.YtloaefllpokkaaaGreat
open Go.RowKit
theorem pCheck_p (s:Sto):PCalls Tryz.prog 34 [s.enc] (·=vi (if Valid s then 0 else 80)):=by
  refine pcalls_of_aw Tryz.func34 rfl (dc rfl) ?_
  (repeat' (first|(refine ar_isq ?_;refine zq ?_)|((refine ar_gcall0 fn46 rfl rfl [s.enc] ⟨.closed rfl,trivial⟩ (valid_p s) (dc rfl) ?_ (fun _ _ h=>h.elim);rintro _ _ (⟨hv,rfl,rfl⟩|⟨hv,rfl,rfl⟩)<;>(try rw [stoB_ren])))|refine zst ?_|refine zco ?_ ?_|exact zd|(refine fun (hg:(_:Prop))=>?_;(try replace hg:=HG.out hg);(try dsimp only at hg);(try (have _h:True:=hg;clear _h hg)))))
  all_goals first
    | ((refine aw_ret ?_;(repeat (first|refine ret_then ?_|refine ret_block ?_));refine bq1 rfl ⟨?_,rfl⟩);rw [if_pos hv];rfl)
    | ((refine aw_ret ?_;(repeat (first|refine ret_then ?_|refine ret_block ?_));refine bq1 rfl ⟨?_,rfl⟩);rw [if_neg hv];rfl)
    | trace_state
theorem pLine_p (s:Sto) (i:Int):PCalls Tryz.prog 26 [s.enc,vi i] (·=.tup [encInts (lineF s i),vi (lineE s i)]):=by
  refine pcalls_of_aw Tryz.func26 rfl (dc rfl) ?_
  
  (repeat' (first|(refine ar_isq ?_;refine zq ?_)|((refine ar_gcall0 fn46 rfl rfl [s.enc] ⟨.closed rfl,trivial⟩ (valid_p s) (dc rfl) ?_ (fun _ _ h=>h.elim);rintro _ _ (⟨hv,rfl,rfl⟩|⟨hv,rfl,rfl⟩)<;>(try rw [stoB_ren])<;>(try (have hfew:=hv.1;unfold Few at hfew))))|(((refine ar_subk_l (sub_frzL (t:=25) vi ([i]) rfl rfl rfl rfl (fun _ _=>rfl) (fun _=>rfl)) ?_);refine zpv fn47 (from_p _ _ [i]) ?_))|refine ar_buildLE vi ([i]) (by exact ty rfl) (by exact rfl) (by exact ty rfl) (by exact rfl) (by exact rfl) (by exact Nat.succ_pos _) (by exact rfl) (by exact dc rfl) (by exact rfl) (by exact fun _=>⟨rfl,rfl⟩) (by exact dc rfl) ?_|(((refine ar_sub_l (env':=[(8,.ptr 1 1 0 0),(28,.ptr 4 0 0 0),(29,vi i)]) (H':=[.arr 4 1 (fun _=>.agg [vi s.life,encItems s.items,encPrints s.prints,.map 2]),.arr 1 1 (fun _=>vnil),mapE vi (pressTo s.items s.items.length)]) ?_ ?_;(focus (exact zsc [some 1,some 6,some 4] [2,3])));refine ar_subk_l (sub_pre (t:=28) [vi s.life,encItems s.items,encPrints s.prints] [.map 2] rfl rfl rfl) ?_;refine zpv fn48 (pline_p s i) ?_))|refine zst ?_|refine zco ?_ ?_|(refine fun (hg:(_:Prop))=>?_;first|exact absurd hg (by decide)|((try replace hg:=HG.out hg);(try dsimp only at hg);(try rw [fromB_one] at hg);(try rw [withinB_iff] at hg);(try rw [withinB_no] at hg);(try (have _h:True:=hg;clear _h hg));first|(exfalso;omega)|skip))))
  · have he:=lineE_none (i:=i) hv (by omega)
    (refine aw_mono_r (env':=[(4,encInts []),(5,vi 6)]) (H':=[]) ?_ ?_;(focus (exact zsb [] [])))
    (refine aw_ret ?_;(repeat (first|refine ret_then ?_|refine ret_block ?_));refine bq2 rfl rfl ⟨?_,rfl⟩)
    rw [lineF_no (by omega),he]
  · have hr:0≤i∧i<(s.items.length:Int):=by omega
    have he:=lineE_ok hv hr
    have hC:=chain_ok hv.2.1 hr
    
    refine aw_range (fun k=>[.dead,.arr 1 1 (fun _=>.sl 1 3 0 (lineTo s.items i k).length),.dead,LB 1 vi (lineTo s.items i k)]) _ rfl rfl fn81 (It.line_iter s i hC (by omega)) (fun _ _=>rfl) (by decide) (fun k _=>rfl) ?maps ?start ?round ?done
    case maps=>intro k j ms;match j with|0|1|2|3=>simp [LB]|j+4=>simp
    case start=>(exact zsc [some 0,some 1,some 2,none] [])
    case round =>
      intro k lp hk
      have hf:=hC.few
      (repeat' (first|(refine ar_isq ?_;refine zq ?_)|refine ar_buildLE vi ([srcN s.items i k]) (by exact ty rfl) (by exact rfl) (by exact ty rfl) (by exact rfl) (by exact rfl) (by exact Nat.succ_pos _) (by exact rfl) (by exact dc rfl) (by exact rfl) (by exact fun _=>⟨rfl,rfl⟩) (by exact dc rfl) ?_|(refine ar_insert (lineTo s.items i k) (srcN s.items i k) ?_ rfl rfl rfl rfl (Nat.ne_of_lt (dc rfl)) (by rw [lineTo_len];omega) (dc rfl))|refine zst ?_|refine zco ?_ ?_|exact zd|(refine fun (hg:(_:Prop))=>?_;(try replace hg:=HG.out hg);(try dsimp only at hg);(try (have _h:True:=hg;clear _h hg)))))
      refine (show SubOf _ _ _ _ _ _ from ?_)
      (exact zsc [some 0,some 1,some 2,some 5] [])
    case done =>
      (repeat' (first|(refine ar_isq ?_;refine zq ?_)|refine zst ?_|refine zco ?_ ?_|exact zd|(refine fun (hg:(_:Prop))=>?_;(try replace hg:=HG.out hg);(try dsimp only at hg);(try (have _h:True:=hg;clear _h hg)))))
      (refine aw_mono_r (env':=[(4,encInts (lineTo s.items i (lineN s.items i))),(5,vi 0)]) (H':=[]) ?_ ?_;(focus (exact zsb [] [3])))
      (refine aw_ret ?_;(repeat (first|refine ret_then ?_|refine ret_block ?_));refine bq2 rfl rfl ⟨?_,rfl⟩)
      rw [lineF_ok he,he]
  · have he:=lineE_bad (i:=i) hv
    (refine aw_mono_r (env':=[(4,encInts []),(5,vi 80)]) (H':=[]) ?_ ?_;(focus (exact zsb [] [])))
    (refine aw_ret ?_;(repeat (first|refine ret_then ?_|refine ret_block ?_));refine bq2 rfl rfl ⟨?_,rfl⟩)
    rw [lineF_no (by omega),he]
def errV (e:Int):V:=.iface 184 (vi e)
def stoG (i j:Nat) (s:Sto):V:=.agg [vi s.life,.sl 5 i 0 s.items.length,.sl 2 j 0 s.prints.length,.map 3]
def WI (s:Sto) (m:List (Int × Int)):Heap:=[.arr 4 1 (fun _=>stoG 4 2 s),.dead,LB 2 Prt.enc s.prints,mapE vi m,LB 5 Itm.enc s.items]
def WP (s:Sto) (m:List (Int × Int)):Heap:=[.arr 4 1 (fun _=>stoG 1 4 s),LB 5 Itm.enc s.items,.dead,mapE vi m,LB 2 Prt.enc s.prints]
theorem mapE_ren {m:List (Int × Int)}{r:Nat→Nat}:(mapE vi m).ren r=mapE vi m:=by
  have e:entsE vi m=(entsE vi m).map fun p=>(p.1,p.2.ren r):=by
    unfold entsE
    rw [List.map_map]
    exact List.map_congr_left fun p _=>rfl
  exact (congrArg Blk.map e).symm
theorem join4 {H:Heap}{b0 b1 b2 b3:Blk}{L:Heap}(h:4≤H.length):joinH [0,1,2,3] [] H (b0::b1::b2::b3::L) =
    ((((H.set 0 (b0.ren (rn [0,1,2,3] H.length))).set 1 (b1.ren (rn [0,1,2,3] H.length))).set 2 (b2.ren (rn [0,1,2,3] H.length))).set 3 (b3.ren (rn [0,1,2,3] H.length)))++L.map (Blk.ren (rn [0,1,2,3] H.length)):=by
  match H,h with
  | a0::a1::a2::a3::K,_ =>
    have tail:∀ {r:Nat→Nat} {H1:Heap} (K:Heap) (k:Nat),4≤k→joinAt [0,1,2,3] [] r H1 k K=K:=fun {r H1} K=>by
      induction K with
      | nil=>intro k _;rfl
      | cons b K ih =>
        intro k hk
        simp only [joinAt]
        rw [ih (k+1) (by omega)]
        have:pickB [0,1,2,3] [] r H1 k b=b:=by
          unfold pickB
          have h0:([0,1,2,3]:List Nat).idxOf? k=none:=by
            rw [List.idxOf?_eq_none_iff]
            simp
            omega
          rw [h0]
          rfl
        rw [this]
    unfold joinH
    simp only [joinAt]
    rw [tail K _ (by omega)]
    rfl
theorem hsub4 {H:Heap}{s:Sto}{p:List (Int × Int)}(h0:H[0]?=some (.arr 4 1 (fun _=>stoV 0 s))) (h1:H[1]?=some (LB 5 Itm.enc s.items)) (h2:H[2]?=some (LB 2 Prt.enc s.prints)) (h3:H[3]?=some (mapE vi p)) :
    HSub H ([0,1,2,3].map some) (·∈([]:List Nat)) 0 (stoB 0 s p) :=
  ⟨.inl ⟨0,_,rfl,h0,fun _ _=>VSub.aggL ⟨.closed rfl,.sl rfl,.sl rfl,.map rfl,trivial⟩⟩,.inl ⟨1,_,rfl,h1,fun _ _=>.closed rfl⟩,.inl ⟨2,_,rfl,h2,fun _ _=>.closed rfl⟩,bsub_mapE rfl h3 (fun _=>rfl),trivial⟩
theorem stoB_live {s:Sto}{p:List (Int × Int)}:∀ b∈stoB 0 s p,b≠.dead:=by simp [stoB,LB,mapE]
section
variable {r:Option Nat}{m nt i d:Nat}{Q:Post}{env:Env}{H:Heap}{ops:Array Oper}{L:List Stp}{ty:TypeId}{pos:String}{after:Array Edge}{ats:Array TypeId}{x y z:Operand}
theorem refuse_p (b:Bool) (e:Int):ACalls Tryz.prog 124 [vb b,vi e] [] (fun v H=>b=false∧v=.tup []∧H=[]) (fun v _=>b=true∧v=errV e):=by
  refine acalls_of_aw Tryz.func124 rfl (dc rfl) ?_
  (repeat' (first|(refine ar_isq ?_;refine zq ?_)|refine ar_q (qs_makeInterface (ty rfl) rfl rfl) (dc rfl) ?_|refine ar_panic rfl ?_|refine zst ?_|refine zco ?_ ?_|exact zd|(refine fun (hg:(_:Prop))=>?_;(try replace hg:=HG.out hg);(try dsimp only at hg);(try (have _h:True:=hg;clear _h hg)))))
  · exact (⟨by assumption,rfl⟩:b=true∧errV e=errV e)
  · exact bq0n ⟨by assumption,rfl,rfl⟩
theorem ar_refuse {b:Bool}{e:Int}(h1:b=false→AR Tryz.prog r m nt ops Q L ((d,.tup [])::env) H) (h2:b=true→∀ H',Q (.panic (errV e)) [] H') (hx:eo env x=some (.s (.bool b))) (hy:eo env y=some (.s (.int .i64 e))) (hd:d<nt) :
    AR Tryz.prog r m nt ops Q (.l i ⟨some d,.call ⟨.value (.func 124),#[x,y],ats⟩,ty,pos,after,none⟩ false::L) env H:=by
  refine ar_gcall0 (args:=[x,y]) (vs:=[vb b,vi e]) (first:=[]) (cap:=[]) fn124 rfl (by rw [List.mapM_cons,List.mapM_cons,List.mapM_nil,hx,hy];rfl) [vb b,vi e] ⟨.closed rfl,.closed rfl,trivial⟩ (refuse_p b e) hd ?_ ?_
  · rintro _ _ ⟨hb,rfl,rfl⟩
    have:H++List.map (Blk.ren (rn [] H.length)) []=H:=by simp
    rw [this]
    exact h1 hb
  · rintro _ _ ⟨hb,rfl⟩
    exact h2 hb _
end
def hereB (s:Sto) (i:Int):Prop:=(0≤i∧i<(s.items.length:Int))∧(el s.items i.toNat).gone=false
instance (s:Sto) (i:Int):Decidable (hereB s i):=by unfold hereB;infer_instance
theorem item_p (s:Sto) (p:List (Int × Int)) (i:Int) (hn:s.items.length≤30):ACalls Tryz.prog 123 [.ptr 4 0 0 0,vi i] (stoB 0 s p) (fun v H=>hereB s i∧v=.ptr 5 1 i.toNat 0∧H=stoB 0 s p) (fun v _=>¬ hereB s i∧v=errV 6):=by
  refine acalls_of_aw Tryz.func123 rfl (dc rfl) ?_
  (repeat' (first|(refine ar_isq ?_;refine zq ?_)|refine zil (j:=i.toNat) ?_|refine zis (j:=i.toNat) ?_|refine zit (j:=i.toNat) ?_|(((refine ar_subk_l (sub_frzL (t:=13) vi ([i]) rfl rfl rfl rfl (fun _ _=>rfl) (fun _=>rfl)) ?_);refine zpv fn47 (from_p _ _ [i]) ?_))|refine ar_buildLE vi ([i]) (by exact ty rfl) (by exact rfl) (by exact ty rfl) (by exact rfl) (by exact rfl) (by exact Nat.succ_pos _) (by exact rfl) (by exact dc rfl) (by exact rfl) (by exact fun _=>⟨rfl,rfl⟩) (by exact dc rfl) ?_|(refine ar_refuse ?_ ?_ rfl rfl (dc rfl)<;>intro hrf)|refine zg ?_ ?_|refine zgu ?_|refine zst ?_|refine zco ?_ ?_|(refine fun (hg:(_:Prop))=>?_;first|exact absurd hg (by decide)|((try replace hg:=HG.out hg);(try dsimp only at hg);(try rw [fromB_one] at hg);(try rw [withinB_iff] at hg);(try rw [withinB_no] at hg);(try (have _h:True:=hg;clear _h hg));first|(exfalso;omega)|skip))))
  all_goals first
    | (exfalso;omega)
    | (exfalso;simp_all;done)
    | (intro H';refine (⟨fun h=>?_,rfl⟩:¬ hereB s i∧errV 6=errV 6);unfold hereB at h;simp_all;done)
    | (intro H';refine (⟨fun h=>?_,rfl⟩:¬ hereB s i∧errV 6=errV 6);unfold hereB at h;omega)
    | ((refine aw_mono_r (env':=[(4,.ptr 5 1 i.toNat 0)]) (H':=[.arr 4 1 (fun _=>stoV 0 s),LB 5 Itm.enc s.items,LB 2 Prt.enc s.prints,mapE vi p]) ?_ ?_;(focus (exact zsc [some 0,some 1,some 2,some 3] [])))
       refine aw_ret ?_
       exact bq1 rfl ⟨⟨by omega,by simp_all⟩,rfl,rfl⟩)
    | trace_state
end Go.Proofs.YtloaefllpokkaaaGreat
