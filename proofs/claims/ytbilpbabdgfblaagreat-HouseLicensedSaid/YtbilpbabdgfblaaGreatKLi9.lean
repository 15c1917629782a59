/- Parts of the proof: contracts of functions. No condition. -/
import Derived.Test.YtbilpbabdgfblaaGreatKLi8
set_option maxHeartbeats 16000000
set_option linter.unusedSimpArgs false
set_option linter.unusedVariables false
namespace Go.Proofs.YtbilpbabdgfblaaGreat
open Go.RowKit
section
variable {H:Heap}{σ:List (Option Nat)}{fr:Nat→Prop}
def VSubsL (H:Heap) (σ:List (Option Nat)) (fr:Nat→Prop):List V→List V→Prop
  | [],[]=>True
  | v::l,x::m=>VSub H σ fr v x∧VSubsL H σ fr l m
  | _,_=>False
theorem vsubsL_len:∀ {l m:List V},VSubsL H σ fr l m→l.length=m.length
  | [],[],_=>rfl
  | _::l,_::m,h=>by simp [vsubsL_len (l:=l) (m:=m) h.2]
  | [],_::_,h=>h.elim
  | _::_,[],h=>h.elim
theorem vsubsL_get:∀ {l m:List V},VSubsL H σ fr l m→∀ (j:Nat) v x,l[j]?=some v→m[j]?=some x→VSub H σ fr v x
  | [],[],_,j,v,x,h,_=>by simp at h
  | a::l,b::m,h,j,v,x,h1,h2=>by
    cases j with
    | zero=>simp at h1 h2;subst h1 h2;exact h.1
    | succ j=>exact vsubsL_get h.2 j v x (by simpa using h1) (by simpa using h2)
  | [],_::_,h,_,_,_,_,_=>h.elim
  | _::_,[],h,_,_,_,_,_=>h.elim
theorem VSub.aggL {cs ds:List V}(h:VSubsL H σ fr cs ds):VSub H σ fr (.agg cs) (.agg ds):=.agg (vsubsL_len h) (vsubsL_get h)
theorem VSub.tupL {cs ds:List V}(h:VSubsL H σ fr cs ds):VSub H σ fr (.tup cs) (.tup ds):=.tup (vsubsL_len h) (vsubsL_get h)
theorem bsub_mapE {α:Type}{k b:Nat}{e:α→V}{l:List (Int × α)}(h:σ[k]?=some (some b)) (hb:H[b]?=some (mapE e l)) (hc:∀ y,(e y).closed=true):BSub H σ fr k (mapE e l) :=
  ⟨b,_,h,hb,rfl,fun i x y hx hy=>by
    rw [hx] at hy
    cases hy
    refine ⟨rfl,.closed ?_⟩
    simp only [entsE,List.getElem?_map,Option.map_eq_some_iff] at hx
    obtain ⟨p,_,rfl⟩:=hx
    exact hc _⟩
theorem vza {H:Heap}{σ:List (Option Nat)}{fr:Nat→Prop}{cs ds:List V}(h:VSubsL H σ fr cs ds:=by ((repeat' (first|exact trivial|refine ⟨?_,?_⟩|exact vz1|fail));first|done|fail)):VSub H σ fr (.agg cs) (.agg ds):=VSub.aggL h
theorem vzt {H:Heap}{σ:List (Option Nat)}{fr:Nat→Prop}{cs ds:List V}(h:VSubsL H σ fr cs ds:=by ((repeat' (first|exact trivial|refine ⟨?_,?_⟩|exact vz1|exact vza|fail));first|done|fail)):VSub H σ fr (.tup cs) (.tup ds):=VSub.tupL h
theorem zsc {m nt:Nat}{env env0:Env}{H H0:Heap}(σ:List (Option Nat)) (fr:List Nat) (h:(Nat.beq σ.length H0.length&&preB m σ&&injB σ&&apartB fr σ)=true:=by exact rfl) (he:EnvSub H σ (·∈fr) env env0:=by ((repeat' (first|exact trivial|refine ⟨⟨_,rfl,?_⟩,?_⟩|refine vs1 ?_ ?_|refine vs2 ?_ ?_|refine vs3 ?_|refine vs4 ?_ ?_|refine ⟨.inl ⟨_,_,rfl,rfl,?_⟩,?_⟩|exact ⟨.inr ⟨rfl,rfl⟩,trivial⟩|refine ⟨.inr ⟨rfl,rfl⟩,?_⟩|(intro _ _)|exact vz1|refine ⟨trivial,?_⟩|refine ⟨bsub_mapE rfl rfl (fun _=>rfl),?_⟩|exact vza|exact vzt|exact vz2|fail));first|done|fail)) (hh:HSub H σ (·∈fr) 0 H0:=by ((repeat' (first|exact trivial|refine ⟨⟨_,rfl,?_⟩,?_⟩|refine vs1 ?_ ?_|refine vs2 ?_ ?_|refine vs3 ?_|refine vs4 ?_ ?_|refine ⟨.inl ⟨_,_,rfl,rfl,?_⟩,?_⟩|exact ⟨.inr ⟨rfl,rfl⟩,trivial⟩|refine ⟨.inr ⟨rfl,rfl⟩,?_⟩|(intro _ _)|exact vz1|refine ⟨trivial,?_⟩|refine ⟨bsub_mapE rfl rfl (fun _=>rfl),?_⟩|exact vza|exact vzt|exact vz2|fail));first|done|fail)):SubOf m nt env H env0 H0:=sub_to σ fr h he hh
theorem bsub_mapE' {α:Type}{k b:Nat}{e:α→V}{l l':List (Int × α)}(h:σ[k]?=some (some b)) (hb:H[b]?=some (mapE e l)) (hl:l'=l) (hc:∀ y,(e y).closed=true):BSub H σ fr k (mapE e l'):=by
  subst hl
  exact bsub_mapE h hb hc
theorem joinAt_nil {r:Nat→Nat}{H1:Heap}:∀ {H:Heap}{k:Nat},joinAt [] [] r H1 k H=H
  | [],_=>rfl
  | b::l,k=>by
    simp only [joinAt,joinAt_nil (H:=l)]
    rfl
theorem joinH_nil {H H1:Heap}:joinH [] [] H H1=H++H1.map (Blk.ren (rn [] H.length)):=by
  unfold joinH
  rw [joinAt_nil]
  rfl
end
section
variable {P:Program}{r:Option Nat}{m nt:Nat}{Q:Post}{env:Env}{H:Heap}{ops:Array Oper}{l:List Stp}{ty:TypeId}{pos:String}{after:Array Edge}
theorem ar_gcall0 {i d:Nat}{fo:Operand}{args:List Operand}{ats:Array TypeId}{f:FuncId}{first cap vs:List V}{R Rp:V→Heap→Prop}(hfn:FnOk P f) (hf:eo env fo=some (.fn (.func f) first cap)) (hargs:args.mapM (eo env)=some vs)
    (xs:List V) (ha:ArgsSub H [] [] (first++vs++cap) xs) (h:ACalls P f xs [] R Rp) (hd:d<nt)
    (hk:∀ v1 H1,R v1 H1→AR P r m nt ops Q l ((d,v1.ren (rn [] H.length))::env) (H++H1.map (Blk.ren (rn [] H.length)))) (hp:∀ v1 H1,Rp v1 H1→Q (.panic (v1.ren (rn [] H.length))) [] (H++H1.map (Blk.ren (rn [] H.length)))) :
    AR P r m nt ops Q (.l i ⟨some d,.call ⟨.value fo,args.toArray,ats⟩,ty,pos,after,none⟩ false::l) env H :=
  ar_gcall (H0:=[]) [] [] hfn hf hargs ha rfl List.nodup_nil (fun _ h=>by cases h) trivial (fun _ h=>by cases h) h hd (fun v1 H1 hR=>by rw [joinH_nil];exact hk v1 H1 hR) (fun v1 H1 hR=>by rw [joinH_nil];exact hp v1 H1 hR)
end
def idxF (p:Int→Bool) (l:List Int):Int:=match (List.range l.length).find? (fun i=>p (el l i)) with|some i=>(i:Int)|none=>-1
theorem idxF_at {p:Int→Bool}{l:List Int}{i:Nat}(hi:i<l.length) (h0:∀ j,j<i→p (el l j)=false) (h:p (el l i)=true):idxF p l=i:=by
  have:(List.range l.length).find? (fun i=>p (el l i))=some i:=by
    rw [List.find?_range_eq_some]
    exact ⟨h,by simpa using hi,fun j hj=>by simp [h0 j hj]⟩
  unfold idxF
  rw [this]
theorem idxF_none {p:Int→Bool}{l:List Int}(h0:∀ j,j<l.length→p (el l j)=false):idxF p l=-1:=by
  have:(List.range l.length).find? (fun i=>p (el l i))=none:=by
    rw [List.find?_eq_none]
    intro j hj
    rw [List.mem_range] at hj
    simp [h0 j hj]
  unfold idxF
  rw [this]
theorem idxF_any (p:Int→Bool) (l:List Int):decide (0≤idxF p l)=l.any p:=by
  cases h:l.any p
  · rw [List.any_eq_false] at h
    rw [idxF_none fun j hj=>by simpa using h _ (el_mem hj)]
    rfl
  · rw [List.any_eq_true] at h
    obtain ⟨x,hx,hp⟩:=h
    obtain ⟨i,hi,rfl⟩:=mem_el hx
    unfold idxF
    split
    · simp
    · rename_i h0
      rw [List.find?_eq_none] at h0
      have:=h0 i (by simpa using hi)
      simp [hp] at this
def fromB (lo hi:Int) (l:List Int):Bool:=l.all fun n=>withinB n lo hi
def outB (lo hi n:Int):Bool:=decide (n<lo)||decide (hi<n)
theorem any_out (lo hi:Int) (l:List Int):(!l.any (outB lo hi))=fromB lo hi l:=by
  induction l with
  | nil=>rfl
  | cons x l ih =>
    simp only [List.any_cons,Bool.not_or,fromB,List.all_cons] at *
    rw [ih]
    congr 1
    simp only [outB,withinB]
    grind
theorem indexInts_p (l:List Int) {g:FuncId}{cap:List V}(hfn:FnOk Tryz.prog g) (hcap:V.closed.all cap=true) (p:Int→Bool) (hc:∀ x,x∈l→PCalls Tryz.prog g (vi x::cap) (·=vb (p x))) :
    PCalls Tryz.prog 146 [encInts l,.fn (.func g) [] cap] (·=vi (idxF p l)):=by
  (refine pcalls_know (fun I us h=>rel_len (rel_arg h (j:=0) rfl)) fun hlen0=>?_)
  refine pcalls_of_aw Tryz.func146 rfl (dc rfl) ?_
  (repeat' (first|(refine ar_isq ?_;refine zq ?_)|refine zst ?_|refine zco ?_ ?_|exact zd|(refine fun (hg:(_:Prop))=>?_;(try replace hg:=HG.out hg);(try dsimp only at hg);(try (have _h:True:=hg;clear _h hg)))))
  refine aw_for l.length (fun k=>∀ j,j<k→p (el l j)=false) (fun k=>[(0,encInts l),(1,.fn (.func g) [] cap),(7,vi l.length),(8,vi k)]) (fun _=>[]) (fun j hj=>by omega) ?_ ?_
  · (exact zsb [] [])
  intro k hk hJ
  by_cases hkn:k<l.length
  · (repeat' (first|(refine ar_isq ?_;refine zq ?_)|(refine ar_pcall (own:=false) hfn rfl rfl (args_closed hcap) (hc _ (el_mem hkn)) (by simp) (dc rfl) ?_;intro _ hv;subst hv)|refine zst ?_|refine zco ?_ ?_|exact zd|(refine fun (hg:(_:Prop))=>?_;(try replace hg:=HG.out hg);(try dsimp only at hg);(try (have _h:True:=hg;clear _h hg)))))
    all_goals first
      | (exfalso;omega)
      | ((first|refine loop_next (by omega) ?_ ?_|refine (show _∧_∧SubOf _ _ _ _ _ _ from And.intro (by omega) (And.intro ?_ ?_)));(focus ((exact all_step hJ (by assumption));done));(focus (exact zsb [] [])))
      | ((refine aw_ret ?_;(repeat (first|refine ret_then ?_|refine ret_block ?_));refine bq1 rfl ⟨?_,rfl⟩);rw [idxF_at hkn hJ (by assumption)];try rfl)
  · (repeat' (first|(refine ar_isq ?_;refine zq ?_)|refine zst ?_|refine zco ?_ ?_|exact zd|(refine fun (hg:(_:Prop))=>?_;(try replace hg:=HG.out hg);(try dsimp only at hg);(try (have _h:True:=hg;clear _h hg)))))
    all_goals first
      | (exfalso;omega)
      | ((refine aw_ret ?_;(repeat (first|refine ret_then ?_|refine ret_block ?_));refine bq1 rfl ⟨?_,rfl⟩);rw [idxF_none (fun j hj=>hJ j (by omega))];try rfl)
theorem containsInts_p (l:List Int) {g:FuncId}{cap:List V}(hfn:FnOk Tryz.prog g) (hcap:V.closed.all cap=true) (p:Int→Bool) (hc:∀ x,x∈l→PCalls Tryz.prog g (vi x::cap) (·=vb (p x))) :
    PCalls Tryz.prog 99 [encInts l,.fn (.func g) [] cap] (·=vb (l.any p)):=by
  refine pcalls_of_aw Tryz.func99 rfl (dc rfl) ?_
  (repeat' (first|(refine ar_isq ?_;refine zq ?_)|(refine ar_pcall (own:=false) fn146 rfl rfl (.cons (.closed rfl) (.cons (.closed hcap) .nil)) (indexInts_p l hfn hcap p hc) (by simp) (dc rfl) ?_;intro _ hv;subst hv)|refine zst ?_|refine zco ?_ ?_|exact zd|(refine fun (hg:(_:Prop))=>?_;(try replace hg:=HG.out hg);(try dsimp only at hg);(try (have _h:True:=hg;clear _h hg)))))
  (refine aw_ret ?_;(repeat (first|refine ret_then ?_|refine ret_block ?_));refine bq1 rfl ⟨?_,rfl⟩)
  rw [← idxF_any]
  rfl
theorem fromF_p (lo hi n:Int):PCalls Tryz.prog 104 [vi n,.ref (vi lo) 0,.ref (vi hi) 0] (·=vb (outB lo hi n)):=by
  refine pcalls_of_aw Tryz.func104 rfl (dc rfl) ?_
  (repeat' (first|(refine ar_isq ?_;refine zq ?_)|refine zg ?_ ?_|refine zgu ?_|refine zst ?_|refine zco ?_ ?_|exact zd|(refine fun (hg:(_:Prop))=>?_;(try replace hg:=HG.out hg);(try dsimp only at hg);(try (have _h:True:=hg;clear _h hg)))))
  all_goals (refine aw_ret ?_;(repeat (first|refine ret_then ?_|refine ret_block ?_));refine bq1 rfl ⟨?_,rfl⟩)
  all_goals (simp only [vb,constV,outB];congr 2;simp;try omega)
theorem from_p (lo hi:Int) (l:List Int):PCalls Tryz.prog 59 [vi lo,vi hi,encInts l] (·=vb (fromB lo hi l)):=by
  refine pcalls_of_aw Tryz.func59 rfl (dc rfl) ?_
  ((repeat refine aw_seq ?_);(first|(refine aw_region ?_));(repeat' (first|(refine ar_isq ?_;refine zq ?_)|refine zsr ?_)))
  (refine aw_mono_r (env':=[(0,vi lo),(1,vi hi),(2,encInts l),(3,.ref (vi lo) 0),(4,.ref (vi hi) 0)]) (H':=[]) ?_ ?_;(focus (exact zsb [] [0,1])))
  (repeat' (first|(refine ar_isq ?_;refine zq ?_)|(refine zpv fn99 (containsInts_p l fn104 rfl _ (fun x _=>fromF_p lo hi x)) ?_)|refine zst ?_|refine zco ?_ ?_|exact zd|(refine fun (hg:(_:Prop))=>?_;(try replace hg:=HG.out hg);(try dsimp only at hg);(try (have _h:True:=hg;clear _h hg)))))
  (refine aw_ret ?_;(repeat (first|refine ret_then ?_|refine ret_block ?_));refine bq1 rfl ⟨?_,rfl⟩)
  rw [← any_out]
  rfl
def stoV (b:Nat) (s:Sto):V:=.agg [vi s.life,.sl 5 (b+1) 0 s.items.length,.sl 2 (b+2) 0 s.prints.length,.map (b+3)]
def stoB (b:Nat) (s:Sto) (m:List (Int × Int)):Heap:=[.arr 4 1 (fun _=>stoV b s),LB 5 Itm.enc s.items,LB 2 Prt.enc s.prints,mapE vi m]
theorem stoB_ren {s:Sto}{m:List (Int × Int)}{n:Nat}:(stoB 0 s m).map (Blk.ren (rn [] n))=stoB n s m:=by
  have e:entsE vi m=(entsE vi m).map fun p=>(p.1,p.2.ren (rn [] n)):=by
    unfold entsE
    rw [List.map_map]
    exact List.map_congr_left fun p _=>rfl
  have e2:mapE vi m=(mapE vi m).ren (rn [] n):=congrArg Blk.map e
  show _::_::_::[_]=_::_::_::[_]
  rw [← e2]
  rfl
theorem fromB_one {lo hi n:Int}:fromB lo hi [n]=withinB n lo hi:=by simp [fromB]
def AllPlaced (l:List Itm):Prop:=∀ i,i<l.length→PlacedTo l i i
theorem cloneI_p (l:List Itm) (hl:l.length≤1000):FCalls Tryz.prog 114 [encItems l] 5 (fun n f=>n=l.length∧∀ i,i<n→f i=Itm.enc (el l i)):=by
  refine fcalls_of_aw Tryz.func114 rfl (dc rfl) ?_
  (repeat' (first|(refine ar_isq ?_;refine zq ?_)|(refine ar_eqnil (ty rfl) rfl rfl rfl (dc rfl) ?_;intro bq hbq)|refine zst ?_|refine zco ?_ ?_|exact zd|(refine fun (hg:(_:Prop))=>?_;(try replace hg:=HG.out hg);(try dsimp only at hg);(try (have _h:True:=hg;clear _h hg)))))
  · have h0:=hbq (by assumption)
    (refine aw_mono_r (env':=[(2,.sl 5 0 0 0)]) (H':=[.arr 5 0 (fun _=>vi 0)]) ?_ ?_;(focus (exact zsb [none] [])))
    refine aw_ret (ret_then (bq1 rfl ⟨0,_,rfl,rfl,⟨by omega,fun i hi=>by omega⟩,fun i hi=>by omega⟩))
  · refine aw_ret (bq1 rfl ⟨0+l.length,_,rfl,rfl,⟨Nat.zero_add _,fun i hi=>by rw [appF_ge (Nat.zero_le _),Nat.sub_zero]⟩,fun i hi=>by rw [appF_ge (Nat.zero_le _)];rfl⟩)
theorem cloneP_p (l:List Prt) (hl:l.length≤1000):FCalls Tryz.prog 115 [encPrints l] 2 (fun n f=>n=l.length∧∀ i,i<n→f i=Prt.enc (el l i)):=by
  refine fcalls_of_aw Tryz.func115 rfl (dc rfl) ?_
  (repeat' (first|(refine ar_isq ?_;refine zq ?_)|(refine ar_eqnil (ty rfl) rfl rfl rfl (dc rfl) ?_;intro bq hbq)|refine zst ?_|refine zco ?_ ?_|exact zd|(refine fun (hg:(_:Prop))=>?_;(try replace hg:=HG.out hg);(try dsimp only at hg);(try (have _h:True:=hg;clear _h hg)))))
  · have h0:=hbq (by assumption)
    (refine aw_mono_r (env':=[(2,.sl 2 0 0 0)]) (H':=[.arr 2 0 (fun _=>vi 0)]) ?_ ?_;(focus (exact zsb [none] [])))
    refine aw_ret (ret_then (bq1 rfl ⟨0,_,rfl,rfl,⟨by omega,fun i hi=>by omega⟩,fun i hi=>by omega⟩))
  · refine aw_ret (bq1 rfl ⟨0+l.length,_,rfl,rfl,⟨Nat.zero_add _,fun i hi=>by rw [appF_ge (Nat.zero_le _),Nat.sub_zero]⟩,fun i hi=>by rw [appF_ge (Nat.zero_le _)];rfl⟩)
def OpenR (s:Sto) (v:V) (H:Heap):Prop:=(v=.tup [.ptr 4 0 0 0,vb true]∧H=stoB 0 s (pressTo s.items s.items.length)∧AllPlaced s.items)∨(v=.tup [.s (.pointer none),vb false]∧H=[]∧¬ AllPlaced s.items)
theorem open_p (s:Sto) (hn:s.items.length≤30) (hm:s.prints.length≤400):ACalls Tryz.prog 105 [s.enc] [] (OpenR s) NoP:=by
  refine acalls_of_aw Tryz.func105 rfl (dc rfl) ?_
  (repeat' (first|(refine ar_isq ?_;refine zq ?_)|(refine zbt ?_)|refine ar_makeMap (dc rfl) ?_|(refine ar_fcall fn114 rfl rfl (.cons (.closed rfl) .nil) (cloneI_p s.items (by omega)) (dc rfl) ?_;rintro n0 g0 ⟨rfl,hg0⟩)|(refine ar_fcall fn115 rfl rfl (.cons (.closed rfl) .nil) (cloneP_p s.prints (by omega)) (dc rfl) ?_;rintro n1 g1 ⟨rfl,hg1⟩)|refine zg ?_ ?_|refine zgu ?_|refine ar_forkL ?_ ?_|refine ar_lq rfl ?_|refine zst ?_|refine aw_fork (id:=1) [[(9,1),(4,1),(7,1),(8,0),(10,0),(11,1),(12,0)],[(9,1),(7,1),(8,0),(10,0),(11,1),(12,0)]] [(0,0),(1,0),(2,0),(3,0),(5,0),(6,0),(0,3),(4,1),(1,3),(7,1),(8,0),(9,1),(10,0),(11,1),(12,0)] mixed (by kernel_rfl) ?_|refine aw_drawn (id:=8) [(0,0),(1,0),(2,0),(3,0),(4,0),(5,0),(6,0),(7,0),(8,0),(9,0),(10,0),(11,0)] mixed (by kernel_rfl) ?_|refine aw_drawn (id:=11) [(0,0),(1,0),(2,0),(3,0),(4,0),(5,0),(6,0),(7,2)] mixed (by kernel_rfl) ?_|refine zco ?_ ?_|exact zd|(refine fun (hg:(_:Prop))=>?_;(try replace hg:=HG.out hg);(try dsimp only at hg);(try (have _h:True:=hg;clear _h hg)))))
  all_goals (
    refine aw_for s.items.length (fun k=>∀ j,j<k→PlacedTo s.items j j) (fun k=>[(1,.ptr 3 0 0 0),(4,.ptr 4 1 0 0),(22,encItems s.items),(23,vi s.items.length),(24,vi k)]) (fun k=>[.arr 3 1 (fun _=>s.enc),.arr 4 1 (fun _=>stoV 1 s),LB 5 Itm.enc s.items,LB 2 Prt.enc s.prints,mapE vi (pressTo s.items k)]) (fun j hj=>by omega) ?_ ?_
    · first
        | ((refine sub_to [some 0,some 4,some 1,some 2,some 3] [] rfl ?_ ?_<;>(repeat' (first|exact trivial|refine ⟨⟨_,rfl,?_⟩,?_⟩|refine vs1 ?_ ?_|refine vs2 ?_ ?_|refine vs3 ?_|refine vs4 ?_ ?_|refine ⟨.inl ⟨_,_,rfl,rfl,?_⟩,?_⟩|exact ⟨.inr ⟨rfl,rfl⟩,trivial⟩|refine ⟨.inr ⟨rfl,rfl⟩,?_⟩|(intro _ _)|exact vz1|(first|exact VSub.of_eq (hg0 _ (by assumption)) rfl|exact VSub.of_eq (hg1 _ (by assumption)) rfl|refine ⟨bsub_mapE rfl rfl (fun _=>rfl),?_⟩|exact VSub.aggL ⟨.closed rfl,.sl rfl,.sl rfl,.map rfl,trivial⟩)|exact vz2|fail)));done)
        | ((refine sub_to [some 0,some 4,some 1,some 3,some 2] [] rfl ?_ ?_<;>(repeat' (first|exact trivial|refine ⟨⟨_,rfl,?_⟩,?_⟩|refine vs1 ?_ ?_|refine vs2 ?_ ?_|refine vs3 ?_|refine vs4 ?_ ?_|refine ⟨.inl ⟨_,_,rfl,rfl,?_⟩,?_⟩|exact ⟨.inr ⟨rfl,rfl⟩,trivial⟩|refine ⟨.inr ⟨rfl,rfl⟩,?_⟩|(intro _ _)|exact vz1|(first|exact VSub.of_eq (hg0 _ (by assumption)) rfl|exact VSub.of_eq (hg1 _ (by assumption)) rfl|refine ⟨bsub_mapE rfl rfl (fun _=>rfl),?_⟩|exact VSub.aggL ⟨.closed rfl,.sl rfl,.sl rfl,.map rfl,trivial⟩)|exact vz2|fail)));done)
        | ((refine sub_to [some 0,some 4,some 2,some 1,some 3] [] rfl ?_ ?_<;>(repeat' (first|exact trivial|refine ⟨⟨_,rfl,?_⟩,?_⟩|refine vs1 ?_ ?_|refine vs2 ?_ ?_|refine vs3 ?_|refine vs4 ?_ ?_|refine ⟨.inl ⟨_,_,rfl,rfl,?_⟩,?_⟩|exact ⟨.inr ⟨rfl,rfl⟩,trivial⟩|refine ⟨.inr ⟨rfl,rfl⟩,?_⟩|(intro _ _)|exact vz1|(first|exact VSub.of_eq (hg0 _ (by assumption)) rfl|exact VSub.of_eq (hg1 _ (by assumption)) rfl|refine ⟨bsub_mapE rfl rfl (fun _=>rfl),?_⟩|exact VSub.aggL ⟨.closed rfl,.sl rfl,.sl rfl,.map rfl,trivial⟩)|exact vz2|fail)));done)
        | ((refine sub_to [some 0,some 4,some 2,some 3,some 1] [] rfl ?_ ?_<;>(repeat' (first|exact trivial|refine ⟨⟨_,rfl,?_⟩,?_⟩|refine vs1 ?_ ?_|refine vs2 ?_ ?_|refine vs3 ?_|refine vs4 ?_ ?_|refine ⟨.inl ⟨_,_,rfl,rfl,?_⟩,?_⟩|exact ⟨.inr ⟨rfl,rfl⟩,trivial⟩|refine ⟨.inr ⟨rfl,rfl⟩,?_⟩|(intro _ _)|exact vz1|(first|exact VSub.of_eq (hg0 _ (by assumption)) rfl|exact VSub.of_eq (hg1 _ (by assumption)) rfl|refine ⟨bsub_mapE rfl rfl (fun _=>rfl),?_⟩|exact VSub.aggL ⟨.closed rfl,.sl rfl,.sl rfl,.map rfl,trivial⟩)|exact vz2|fail)));done)
        | ((refine sub_to [some 0,some 4,some 3,some 1,some 2] [] rfl ?_ ?_<;>(repeat' (first|exact trivial|refine ⟨⟨_,rfl,?_⟩,?_⟩|refine vs1 ?_ ?_|refine vs2 ?_ ?_|refine vs3 ?_|refine vs4 ?_ ?_|refine ⟨.inl ⟨_,_,rfl,rfl,?_⟩,?_⟩|exact ⟨.inr ⟨rfl,rfl⟩,trivial⟩|refine ⟨.inr ⟨rfl,rfl⟩,?_⟩|(intro _ _)|exact vz1|(first|exact VSub.of_eq (hg0 _ (by assumption)) rfl|exact VSub.of_eq (hg1 _ (by assumption)) rfl|refine ⟨bsub_mapE rfl rfl (fun _=>rfl),?_⟩|exact VSub.aggL ⟨.closed rfl,.sl rfl,.sl rfl,.map rfl,trivial⟩)|exact vz2|fail)));done)
        | ((refine sub_to [some 0,some 4,some 3,some 2,some 1] [] rfl ?_ ?_<;>(repeat' (first|exact trivial|refine ⟨⟨_,rfl,?_⟩,?_⟩|refine vs1 ?_ ?_|refine vs2 ?_ ?_|refine vs3 ?_|refine vs4 ?_ ?_|refine ⟨.inl ⟨_,_,rfl,rfl,?_⟩,?_⟩|exact ⟨.inr ⟨rfl,rfl⟩,trivial⟩|refine ⟨.inr ⟨rfl,rfl⟩,?_⟩|(intro _ _)|exact vz1|(first|exact VSub.of_eq (hg0 _ (by assumption)) rfl|exact VSub.of_eq (hg1 _ (by assumption)) rfl|refine ⟨bsub_mapE rfl rfl (fun _=>rfl),?_⟩|exact VSub.aggL ⟨.closed rfl,.sl rfl,.sl rfl,.map rfl,trivial⟩)|exact vz2|fail)));done)
    clear hg0 hg1 g0 g1
    intro k hk hJ
    by_cases hlt:k<s.items.length
    · 
      (repeat' (first|(refine ar_isq ?_;refine zq ?_)|refine zil (j:=k) ?_|refine zis (j:=k) ?_|refine zit (j:=k) ?_|(refine zbt ?_)|(((refine ar_subk_l (sub_frzL (t:=31) vi ([(el s.items k).place]) rfl rfl rfl rfl (fun _ _=>rfl) (fun _=>rfl)) ?_);refine zpv fn59 (from_p _ _ [(el s.items k).place]) ?_))|refine ar_buildLE vi ([(el s.items k).place]) (by exact ty rfl) (by exact rfl) (by exact ty rfl) (by exact rfl) (by exact rfl) (by exact Nat.succ_pos _) (by exact rfl) (by exact dc rfl) (by exact rfl) (by exact fun _=>⟨rfl,rfl⟩) (by exact dc rfl) ?_|(refine ar_lookup (e:=vi) (ty rfl) rfl (ty rfl) rfl (ty rfl) rfl rfl rfl (dc rfl) ?_ ?_<;>intros)|refine ar_mapUpdate (e:=vi) (v:=(k:Int)) (ty rfl) rfl (ty rfl) rfl rfl rfl rfl rfl ?_|refine zg ?_ ?_|refine zgu ?_|refine ar_forkL ?_ ?_|refine ar_lq rfl ?_|refine zst ?_|refine aw_fork (id:=1) [[(9,1),(4,1),(7,1),(8,0),(10,0),(11,1),(12,0)],[(9,1),(7,1),(8,0),(10,0),(11,1),(12,0)]] [(0,0),(1,0),(2,0),(3,0),(5,0),(6,0),(0,3),(4,1),(1,3),(7,1),(8,0),(9,1),(10,0),(11,1),(12,0)] mixed (by kernel_rfl) ?_|refine aw_drawn (id:=8) [(0,0),(1,0),(2,0),(3,0),(4,0),(5,0),(6,0),(7,0),(8,0),(9,0),(10,0),(11,0)] mixed (by kernel_rfl) ?_|refine aw_drawn (id:=11) [(0,0),(1,0),(2,0),(3,0),(4,0),(5,0),(6,0),(7,2)] mixed (by kernel_rfl) ?_|refine zco ?_ ?_|(refine fun (hg:(_:Prop))=>?_;first|exact absurd hg (by decide)|((try replace hg:=HG.out hg);(try dsimp only at hg);(try rw [fromB_one] at hg);(try rw [withinB_iff] at hg);(try rw [withinB_no] at hg);(try (have _h:True:=hg;clear _h hg));first|(exfalso;omega)|skip))))
      all_goals first
        | (exfalso;omega)
        | (exfalso;simp at *;done)
        | ((refine aw_mono_r (env':=[(2,.s (.pointer none)),(3,vb false)]) (H':=[]) ?_ ?_;(focus (exact zsb [] [])));refine aw_ret ?_;(repeat (first|refine ret_then ?_|refine ret_block ?_));refine bq2 rfl rfl (.inr ⟨rfl,rfl,fun h=>?_⟩);have hp:=h k hlt;unfold PlacedTo at hp;omega)
        | ((refine aw_mono_r (env':=[(2,.s (.pointer none)),(3,vb false)]) (H':=[]) ?_ ?_;(focus (exact zsb [] [])));refine aw_ret ?_;(repeat (first|refine ret_then ?_|refine ret_block ?_));refine bq2 rfl rfl (.inr ⟨rfl,rfl,fun h=>?_⟩);have hp:=h k hlt;unfold PlacedTo at hp;simp_all;done)
        | ((refine aw_mono_r (env':=[(2,.s (.pointer none)),(3,vb false)]) (H':=[]) ?_ ?_;(focus (exact zsb [] [])));refine aw_ret ?_;(repeat (first|refine ret_then ?_|refine ret_block ?_));refine bq2 rfl rfl (.inr ⟨rfl,rfl,fun h=>?_⟩);have hp:=h k hlt;unfold PlacedTo at hp;obtain ⟨q1,q,q2,q3⟩:=press_taken hJ (by assumption);exact (hp.2.2 q1).2 q q2 (by omega) q3)
        | ((first|refine loop_next (by omega) ?_ ?_|refine (show _∧_∧SubOf _ _ _ _ _ _ from And.intro (by omega) (And.intro ?_ ?_)));(focus (((refine all_step hJ ⟨by omega,fun hh=>?_,fun hh=>⟨by omega,?_⟩⟩;(focus first|omega|simp_all);(focus exact fun j hj _=>press_free hJ hh (by assumption) j hj)));done));(focus ((refine sub_to [some 0,some 1,some 2,some 3,some 4] [] rfl ?_ ?_<;>(repeat' (first|exact trivial|refine ⟨⟨_,rfl,?_⟩,?_⟩|refine vs1 ?_ ?_|refine vs2 ?_ ?_|refine vs3 ?_|refine vs4 ?_ ?_|refine ⟨.inl ⟨_,_,rfl,rfl,?_⟩,?_⟩|exact ⟨.inr ⟨rfl,rfl⟩,trivial⟩|refine ⟨.inr ⟨rfl,rfl⟩,?_⟩|(intro _ _)|exact vz1|(first|refine ⟨bsub_mapE' rfl rfl (pressTo_yes (by omega)) (fun _=>rfl),?_⟩|exact VSub.aggL ⟨.closed rfl,.sl rfl,.sl rfl,.map rfl,trivial⟩)|exact vz2|fail)));done)))
        | ((first|refine loop_next (by omega) ?_ ?_|refine (show _∧_∧SubOf _ _ _ _ _ _ from And.intro (by omega) (And.intro ?_ ?_)));(focus (((refine all_step hJ ⟨by omega,fun hh=>?_,fun hh=>absurd hh (by omega)⟩;first|omega|simp_all));done));(focus ((refine sub_to [some 0,some 1,some 2,some 3,some 4] [] rfl ?_ ?_<;>(repeat' (first|exact trivial|refine ⟨⟨_,rfl,?_⟩,?_⟩|refine vs1 ?_ ?_|refine vs2 ?_ ?_|refine vs3 ?_|refine vs4 ?_ ?_|refine ⟨.inl ⟨_,_,rfl,rfl,?_⟩,?_⟩|exact ⟨.inr ⟨rfl,rfl⟩,trivial⟩|refine ⟨.inr ⟨rfl,rfl⟩,?_⟩|(intro _ _)|exact vz1|(first|refine ⟨bsub_mapE' rfl rfl (pressTo_no (by omega)) (fun _=>rfl),?_⟩|exact VSub.aggL ⟨.closed rfl,.sl rfl,.sl rfl,.map rfl,trivial⟩)|exact vz2|fail)));done)))
        | trace_state
    · 
      (repeat' (first|(refine ar_isq ?_;refine zq ?_)|(refine zbt ?_)|refine zg ?_ ?_|refine zgu ?_|refine ar_forkL ?_ ?_|refine ar_lq rfl ?_|refine zst ?_|refine aw_fork (id:=1) [[(9,1),(4,1),(7,1),(8,0),(10,0),(11,1),(12,0)],[(9,1),(7,1),(8,0),(10,0),(11,1),(12,0)]] [(0,0),(1,0),(2,0),(3,0),(5,0),(6,0),(0,3),(4,1),(1,3),(7,1),(8,0),(9,1),(10,0),(11,1),(12,0)] mixed (by kernel_rfl) ?_|refine aw_drawn (id:=8) [(0,0),(1,0),(2,0),(3,0),(4,0),(5,0),(6,0),(7,0),(8,0),(9,0),(10,0),(11,0)] mixed (by kernel_rfl) ?_|refine aw_drawn (id:=11) [(0,0),(1,0),(2,0),(3,0),(4,0),(5,0),(6,0),(7,2)] mixed (by kernel_rfl) ?_|refine zco ?_ ?_|exact zd|(refine fun (hg:(_:Prop))=>?_;(try replace hg:=HG.out hg);(try dsimp only at hg);(try (have _h:True:=hg;clear _h hg)))))
      all_goals first
        | (exfalso;omega)
        | (obtain rfl:k=s.items.length:=by omega
           (refine aw_mono_r (env':=[(2,.ptr 4 0 0 0),(3,vb true)]) (H':=[.arr 4 1 (fun _=>stoV 0 s),LB 5 Itm.enc s.items,LB 2 Prt.enc s.prints,mapE vi (pressTo s.items s.items.length)]) ?_ ?_;(focus (exact zsc [some 1,some 2,some 3,some 4] [])))
           refine aw_ret (bq2 rfl rfl (.inl ⟨rfl,rfl,hJ⟩)))
        | trace_state)
theorem used_sub {H:Heap}{σ:List (Option Nat)}{fr:Nat→Prop}{l:List Itm}{k j i:Nat}(hj:(el l k).src=(j:Int)):VSub H σ fr (upd (fun i=>vi (usedI l i k)) j (vi (usedI l j k+1)) i) (vi (usedI l i (k+1))):=by
  by_cases e:i=j
  · subst e
    rw [upd_same,usedI_yes hj]
    exact .closed rfl
  · rw [upd_other e,usedI_no (by omega)]
    exact .closed rfl
theorem usedP_sub {H:Heap}{σ:List (Option Nat)}{fr:Nat→Prop}{l:List Itm}{p:List Prt}{n k j i:Nat}(hj:(el p k).plate=(j:Int)):VSub H σ fr (upd (fun i=>vi (usedI l i n+usedP p i k)) j (vi (usedI l j n+usedP p j k+1)) i) (vi (usedI l i n+usedP p i (k+1))):=by
  by_cases e:i=j
  · subst e
    rw [upd_same,usedP_yes hj]
    exact .of_eq (congrArg vi (by omega)) rfl
  · rw [upd_other e,usedP_no (by omega)]
    exact .closed rfl
def ValidR (s:Sto) (v:V) (H:Heap):Prop:=(Valid s∧v=.tup [.ptr 4 0 0 0,vb true]∧H=stoB 0 s (pressTo s.items s.items.length))∨(¬ Valid s∧v=.tup [.s (.pointer none),vb false]∧H=[])
theorem valid_p (s:Sto):ACalls Tryz.prog 60 [s.enc] [] (ValidR s) NoP:=by
  refine acalls_of_aw Tryz.func60 rfl (dc rfl) ?_
  (repeat' (first|(refine ar_isq ?_;refine zq ?_)|(((refine ar_subk_l (sub_frzL (t:=14) vi ([s.life]) rfl rfl rfl rfl (fun _ _=>rfl) (fun _=>rfl)) ?_);refine zpv fn59 (from_p _ _ [s.life]) ?_))|refine ar_buildLE vi ([s.life]) (by exact ty rfl) (by exact rfl) (by exact ty rfl) (by exact rfl) (by exact rfl) (by exact Nat.succ_pos _) (by exact rfl) (by exact dc rfl) (by exact rfl) (by exact fun _=>⟨rfl,rfl⟩) (by exact dc rfl) ?_|(refine ar_make_v (n:=s.items.length) (ty rfl) rfl (ty rfl) rfl rfl rfl rfl (dc rfl) rfl rfl (by dsimp only;omega) (maxLen_ok (by omega)) ?_)|refine zg ?_ ?_|refine zgu ?_|refine zst ?_|refine aw_drawn (id:=14) [(0,0),(1,0),(2,0),(3,0),(4,1),(5,1),(6,0),(7,0),(8,0),(9,0),(10,0),(11,0),(12,0),(13,0),(14,0),(15,0),(16,0),(17,0),(18,0),(19,0)] mixed (by kernel_rfl) ?_|refine aw_drawn (id:=14) [(0,0),(1,0),(2,0),(3,0),(4,1),(5,2),(6,0),(7,0),(8,0),(9,0),(10,0),(11,0),(12,0),(13,0),(14,0),(15,0),(16,0),(17,0),(18,0),(19,0)] mixed (by kernel_rfl) ?_|refine aw_drawn (id:=31) [(0,0),(1,0),(2,0),(3,0),(4,0),(5,0),(6,0),(7,0),(8,0),(9,0),(10,0),(11,0),(12,0)] mixed (by kernel_rfl) ?_|refine zco ?_ ?_|(refine fun (hg:(_:Prop))=>?_;first|exact absurd hg (by decide)|((try replace hg:=HG.out hg);(try dsimp only at hg);(try rw [fromB_one] at hg);(try rw [withinB_iff] at hg);(try rw [withinB_no] at hg);(try (have _h:True:=hg;clear _h hg));first|(exfalso;omega)|skip))))
  all_goals (try ((refine aw_mono_r (env':=[(2,.s (.pointer none)),(3,vb false)]) (H':=[]) ?_ ?_;(focus (exact zsb [] [])));refine aw_ret ?_;(repeat (first|refine ret_then ?_|refine ret_block ?_));refine bq2 rfl rfl (.inr ⟨fun v=>?_,rfl,rfl⟩);have hv:=v.1;unfold Few at hv;omega))
  refine aw_for s.items.length (fun k=>∀ j,j<k→Made s.items j) (fun k=>[(1,.ptr 3 0 0 0),(4,.sl 1 1 0 s.items.length),(34,encItems s.items),(35,vi s.items.length),(36,vi k)]) (fun k=>[.arr 3 1 (fun _=>s.enc),.arr 1 s.items.length (fun j=>vi (usedI s.items j k))]) (fun j hj=>by omega) ?_ ?_
  · (exact zsb [some 0,some 2] [])
  intro k hk hJ
  by_cases hlt:k<s.items.length
  · have hb:=usedI_bnd s.items (el s.items k).src.toNat k
    (repeat' (first|(refine ar_isq ?_;refine zq ?_)|refine zil (j:=k) ?_|refine zis (j:=k) ?_|refine zit (j:=k) ?_|refine zil (j:=(el s.items k).src.toNat) ?_|refine zis (j:=(el s.items k).src.toNat) ?_|refine zit (j:=(el s.items k).src.toNat) ?_|(((refine ar_subk_l (sub_frzL (t:=55) vi ([(el s.items k).src]) rfl rfl rfl rfl (fun _ _=>rfl) (fun _=>rfl)) ?_);refine zpv fn59 (from_p _ _ [(el s.items k).src]) ?_))|refine ar_buildLE vi ([(el s.items k).src]) (by exact ty rfl) (by exact rfl) (by exact ty rfl) (by exact rfl) (by exact rfl) (by exact Nat.succ_pos _) (by exact rfl) (by exact dc rfl) (by exact rfl) (by exact fun _=>⟨rfl,rfl⟩) (by exact dc rfl) ?_|refine zg ?_ ?_|refine zgu ?_|refine zst ?_|refine aw_drawn (id:=14) [(0,0),(1,0),(2,0),(3,0),(4,1),(5,1),(6,0),(7,0),(8,0),(9,0),(10,0),(11,0),(12,0),(13,0),(14,0),(15,0),(16,0),(17,0),(18,0),(19,0)] mixed (by kernel_rfl) ?_|refine aw_drawn (id:=14) [(0,0),(1,0),(2,0),(3,0),(4,1),(5,2),(6,0),(7,0),(8,0),(9,0),(10,0),(11,0),(12,0),(13,0),(14,0),(15,0),(16,0),(17,0),(18,0),(19,0)] mixed (by kernel_rfl) ?_|refine aw_drawn (id:=31) [(0,0),(1,0),(2,0),(3,0),(4,0),(5,0),(6,0),(7,0),(8,0),(9,0),(10,0),(11,0),(12,0)] mixed (by kernel_rfl) ?_|refine zco ?_ ?_|(refine fun (hg:(_:Prop))=>?_;first|exact absurd hg (by decide)|((try replace hg:=HG.out hg);(try dsimp only at hg);(try rw [fromB_one] at hg);(try rw [withinB_iff] at hg);(try rw [withinB_no] at hg);(try (have _h:True:=hg;clear _h hg));first|(exfalso;omega)|skip))))
    all_goals first
      | (exfalso;omega)
      | ((refine aw_mono_r (env':=[(2,.s (.pointer none)),(3,vb false)]) (H':=[]) ?_ ?_;(focus (exact zsb [] [])));refine aw_ret ?_;(repeat (first|refine ret_then ?_|refine ret_block ?_));refine bq2 rfl rfl (.inr ⟨fun v=>?_,rfl,rfl⟩);have hv:=v.2.1 k hlt;unfold Made at hv;omega)
      | ((first|refine loop_next (by omega) ?_ ?_|refine (show _∧_∧SubOf _ _ _ _ _ _ from And.intro (by omega) (And.intro ?_ ?_)));(focus (((refine all_step hJ ?_;unfold Made;omega));done));(focus ((refine sub_to [some 0,some 1] [] rfl ?_ ?_<;>(repeat' (first|exact trivial|refine ⟨⟨_,rfl,?_⟩,?_⟩|refine vs1 ?_ ?_|refine vs2 ?_ ?_|refine vs3 ?_|refine vs4 ?_ ?_|refine ⟨.inl ⟨_,_,rfl,rfl,?_⟩,?_⟩|exact ⟨.inr ⟨rfl,rfl⟩,trivial⟩|refine ⟨.inr ⟨rfl,rfl⟩,?_⟩|(intro _ _)|exact vz1|(exact siEq (by rw [usedI_no (by omega)]))|exact vz2|fail)));done)))
      | ((first|refine loop_next (by omega) ?_ ?_|refine (show _∧_∧SubOf _ _ _ _ _ _ from And.intro (by omega) (And.intro ?_ ?_)));(focus (((refine all_step hJ ?_;unfold Made;omega));done));(focus ((refine sub_to [some 0,some 1] [] rfl ?_ ?_<;>(repeat' (first|exact trivial|refine ⟨⟨_,rfl,?_⟩,?_⟩|refine vs1 ?_ ?_|refine vs2 ?_ ?_|refine vs3 ?_|refine vs4 ?_ ?_|refine ⟨.inl ⟨_,_,rfl,rfl,?_⟩,?_⟩|exact ⟨.inr ⟨rfl,rfl⟩,trivial⟩|refine ⟨.inr ⟨rfl,rfl⟩,?_⟩|(intro _ _)|exact vz1|(exact used_sub (by omega))|exact vz2|fail)));done)))
      | trace_state
  · (repeat' (first|(refine ar_isq ?_;refine zq ?_)|refine zg ?_ ?_|refine zgu ?_|refine zst ?_|refine aw_drawn (id:=14) [(0,0),(1,0),(2,0),(3,0),(4,1),(5,1),(6,0),(7,0),(8,0),(9,0),(10,0),(11,0),(12,0),(13,0),(14,0),(15,0),(16,0),(17,0),(18,0),(19,0)] mixed (by kernel_rfl) ?_|refine aw_drawn (id:=14) [(0,0),(1,0),(2,0),(3,0),(4,1),(5,2),(6,0),(7,0),(8,0),(9,0),(10,0),(11,0),(12,0),(13,0),(14,0),(15,0),(16,0),(17,0),(18,0),(19,0)] mixed (by kernel_rfl) ?_|refine aw_drawn (id:=31) [(0,0),(1,0),(2,0),(3,0),(4,0),(5,0),(6,0),(7,0),(8,0),(9,0),(10,0),(11,0),(12,0)] mixed (by kernel_rfl) ?_|refine zco ?_ ?_|(refine fun (hg:(_:Prop))=>?_;first|exact absurd hg (by decide)|((try replace hg:=HG.out hg);(try dsimp only at hg);(try rw [fromB_one] at hg);(try rw [withinB_iff] at hg);(try rw [withinB_no] at hg);(try (have _h:True:=hg;clear _h hg));first|(exfalso;omega)|skip))))
    all_goals (try (exfalso;omega))
    have hM:∀ j,j<s.items.length→Made s.items j:=fun j hj=>hJ j (by omega)
    obtain rfl:k=s.items.length:=by omega
    clear hJ hlt hk
    refine aw_for s.prints.length (fun q=>∀ j,j<q→Printed s.items (el s.prints j)) (fun q=>[(1,.ptr 3 0 0 0),(4,.sl 1 1 0 s.items.length),(80,encPrints s.prints),(81,vi s.prints.length),(82,vi q)]) (fun q=>[.arr 3 1 (fun _=>s.enc),.arr 1 s.items.length (fun j=>vi (usedI s.items j s.items.length+usedP s.prints j q))]) (fun j hj=>by omega) ?_ ?_
    · (refine sub_to [some 0,some 1] [] rfl ?_ ?_<;>(repeat' (first|exact trivial|refine ⟨⟨_,rfl,?_⟩,?_⟩|refine vs1 ?_ ?_|refine vs2 ?_ ?_|refine vs3 ?_|refine vs4 ?_ ?_|refine ⟨.inl ⟨_,_,rfl,rfl,?_⟩,?_⟩|exact ⟨.inr ⟨rfl,rfl⟩,trivial⟩|refine ⟨.inr ⟨rfl,rfl⟩,?_⟩|(intro _ _)|exact vz1|(exact siEq (by simp [usedP,cntB]))|exact vz2|fail)))
    intro q hq hP
    by_cases hlq:q<s.prints.length
    · have hb:=usedI_bnd s.items (el s.prints q).plate.toNat s.items.length
      have hb2:=usedP_bnd s.prints (el s.prints q).plate.toNat q
      (repeat' (first|(refine ar_isq ?_;refine zq ?_)|refine zil (j:=q) ?_|refine zis (j:=q) ?_|refine zit (j:=q) ?_|refine zil (j:=(el s.prints q).plate.toNat) ?_|refine zis (j:=(el s.prints q).plate.toNat) ?_|refine zit (j:=(el s.prints q).plate.toNat) ?_|(((refine ar_subk_l (sub_frzL (t:=92) vi ([(el s.prints q).plate]) rfl rfl rfl rfl (fun _ _=>rfl) (fun _=>rfl)) ?_);refine zpv fn59 (from_p _ _ [(el s.prints q).plate]) ?_))|refine ar_buildLE vi ([(el s.prints q).plate]) (by exact ty rfl) (by exact rfl) (by exact ty rfl) (by exact rfl) (by exact rfl) (by exact Nat.succ_pos _) (by exact rfl) (by exact dc rfl) (by exact rfl) (by exact fun _=>⟨rfl,rfl⟩) (by exact dc rfl) ?_|refine zg ?_ ?_|refine zgu ?_|refine zst ?_|refine aw_drawn (id:=14) [(0,0),(1,0),(2,0),(3,0),(4,1),(5,1),(6,0),(7,0),(8,0),(9,0),(10,0),(11,0),(12,0),(13,0),(14,0),(15,0),(16,0),(17,0),(18,0),(19,0)] mixed (by kernel_rfl) ?_|refine aw_drawn (id:=14) [(0,0),(1,0),(2,0),(3,0),(4,1),(5,2),(6,0),(7,0),(8,0),(9,0),(10,0),(11,0),(12,0),(13,0),(14,0),(15,0),(16,0),(17,0),(18,0),(19,0)] mixed (by kernel_rfl) ?_|refine aw_drawn (id:=31) [(0,0),(1,0),(2,0),(3,0),(4,0),(5,0),(6,0),(7,0),(8,0),(9,0),(10,0),(11,0),(12,0)] mixed (by kernel_rfl) ?_|refine zco ?_ ?_|(refine fun (hg:(_:Prop))=>?_;first|exact absurd hg (by decide)|((try replace hg:=HG.out hg);(try dsimp only at hg);(try rw [fromB_one] at hg);(try rw [withinB_iff] at hg);(try rw [withinB_no] at hg);(try (have _h:True:=hg;clear _h hg));first|(exfalso;omega)|skip))))
      all_goals first
        | (exfalso;omega)
        | ((refine aw_mono_r (env':=[(2,.s (.pointer none)),(3,vb false)]) (H':=[]) ?_ ?_;(focus (exact zsb [] [])));refine aw_ret ?_;(repeat (first|refine ret_then ?_|refine ret_block ?_));refine bq2 rfl rfl (.inr ⟨fun v=>?_,rfl,rfl⟩);have hv:=v.2.2.2.1 q hlq;unfold Printed at hv;omega)
        | ((first|refine loop_next (by omega) ?_ ?_|refine (show _∧_∧SubOf _ _ _ _ _ _ from And.intro (by omega) (And.intro ?_ ?_)));(focus (((refine all_step hP ?_;unfold Printed;omega));done));(focus ((refine sub_to [some 0,some 1] [] rfl ?_ ?_<;>(repeat' (first|exact trivial|refine ⟨⟨_,rfl,?_⟩,?_⟩|refine vs1 ?_ ?_|refine vs2 ?_ ?_|refine vs3 ?_|refine vs4 ?_ ?_|refine ⟨.inl ⟨_,_,rfl,rfl,?_⟩,?_⟩|exact ⟨.inr ⟨rfl,rfl⟩,trivial⟩|refine ⟨.inr ⟨rfl,rfl⟩,?_⟩|(intro _ _)|exact vz1|(exact usedP_sub (by omega))|exact vz2|fail)));done)))
        | trace_state
    · (repeat' (first|(refine ar_isq ?_;refine zq ?_)|refine zg ?_ ?_|refine zgu ?_|refine zst ?_|refine aw_drawn (id:=14) [(0,0),(1,0),(2,0),(3,0),(4,1),(5,1),(6,0),(7,0),(8,0),(9,0),(10,0),(11,0),(12,0),(13,0),(14,0),(15,0),(16,0),(17,0),(18,0),(19,0)] mixed (by kernel_rfl) ?_|refine aw_drawn (id:=14) [(0,0),(1,0),(2,0),(3,0),(4,1),(5,2),(6,0),(7,0),(8,0),(9,0),(10,0),(11,0),(12,0),(13,0),(14,0),(15,0),(16,0),(17,0),(18,0),(19,0)] mixed (by kernel_rfl) ?_|refine aw_drawn (id:=31) [(0,0),(1,0),(2,0),(3,0),(4,0),(5,0),(6,0),(7,0),(8,0),(9,0),(10,0),(11,0),(12,0)] mixed (by kernel_rfl) ?_|refine zco ?_ ?_|(refine fun (hg:(_:Prop))=>?_;first|exact absurd hg (by decide)|((try replace hg:=HG.out hg);(try dsimp only at hg);(try rw [fromB_one] at hg);(try rw [withinB_iff] at hg);(try rw [withinB_no] at hg);(try (have _h:True:=hg;clear _h hg));first|(exfalso;omega)|skip))))
      all_goals (try (exfalso;omega))
      have hP1:∀ j,j<s.prints.length→Printed s.items (el s.prints j):=fun j hj=>hP j (by omega)
      obtain rfl:q=s.prints.length:=by omega
      clear hP hlq hq
      refine aw_for s.items.length (fun k=>∀ j,j<k→UsedOk s j) (fun k=>[(1,.ptr 3 0 0 0),(4,.sl 1 1 0 s.items.length),(119,encItems s.items),(120,vi s.items.length),(121,vi k)]) (fun _=>[.arr 3 1 (fun _=>s.enc),.arr 1 s.items.length (fun j=>vi (usedS s j))]) (fun j hj=>by omega) ?_ ?_
      · (exact zsb [some 0,some 1] [])
      intro k hk hU
      by_cases hlt:k<s.items.length
      · (repeat' (first|(refine ar_isq ?_;refine zq ?_)|refine zil (j:=k) ?_|refine zis (j:=k) ?_|refine zit (j:=k) ?_|refine zg ?_ ?_|refine zgu ?_|refine zst ?_|refine aw_drawn (id:=14) [(0,0),(1,0),(2,0),(3,0),(4,1),(5,1),(6,0),(7,0),(8,0),(9,0),(10,0),(11,0),(12,0),(13,0),(14,0),(15,0),(16,0),(17,0),(18,0),(19,0)] mixed (by kernel_rfl) ?_|refine aw_drawn (id:=14) [(0,0),(1,0),(2,0),(3,0),(4,1),(5,2),(6,0),(7,0),(8,0),(9,0),(10,0),(11,0),(12,0),(13,0),(14,0),(15,0),(16,0),(17,0),(18,0),(19,0)] mixed (by kernel_rfl) ?_|refine aw_drawn (id:=31) [(0,0),(1,0),(2,0),(3,0),(4,0),(5,0),(6,0),(7,0),(8,0),(9,0),(10,0),(11,0),(12,0)] mixed (by kernel_rfl) ?_|refine zco ?_ ?_|(refine fun (hg:(_:Prop))=>?_;first|exact absurd hg (by decide)|((try replace hg:=HG.out hg);(try dsimp only at hg);(try rw [fromB_one] at hg);(try rw [withinB_iff] at hg);(try rw [withinB_no] at hg);(try (have _h:True:=hg;clear _h hg));first|(exfalso;omega)|skip))))
        all_goals first
          | (exfalso;omega)
          | ((refine aw_mono_r (env':=[(2,.s (.pointer none)),(3,vb false)]) (H':=[]) ?_ ?_;(focus (exact zsb [] [])));refine aw_ret ?_;(repeat (first|refine ret_then ?_|refine ret_block ?_));refine bq2 rfl rfl (.inr ⟨fun v=>?_,rfl,rfl⟩);have hv:=v.2.2.2.2 k hlt;unfold UsedOk mostOf at hv;simp_all;done)
          | ((refine aw_mono_r (env':=[(2,.s (.pointer none)),(3,vb false)]) (H':=[]) ?_ ?_;(focus (exact zsb [] [])));refine aw_ret ?_;(repeat (first|refine ret_then ?_|refine ret_block ?_));refine bq2 rfl rfl (.inr ⟨fun v=>?_,rfl,rfl⟩);have hv:=v.2.2.2.2 k hlt;unfold UsedOk mostOf at hv;simp_all;omega)
          | ((first|refine loop_next (by omega) ?_ ?_|refine (show _∧_∧SubOf _ _ _ _ _ _ from And.intro (by omega) (And.intro ?_ ?_)));(focus (((refine all_step hU ?_;unfold UsedOk mostOf;simp_all;done));done));(focus (exact zsb [some 0,some 1] [])))
          | ((first|refine loop_next (by omega) ?_ ?_|refine (show _∧_∧SubOf _ _ _ _ _ _ from And.intro (by omega) (And.intro ?_ ?_)));(focus (((refine all_step hU ?_;unfold UsedOk mostOf;simp_all;omega));done));(focus (exact zsb [some 0,some 1] [])))
          | trace_state
      · (repeat' (first|(refine ar_isq ?_;refine zq ?_)|((refine ar_gcall0 fn105 rfl rfl [s.enc] ⟨.closed rfl,trivial⟩ (open_p s (by omega) (by omega)) (dc rfl) ?_ (fun _ _ h=>h.elim);rintro _ _ (⟨rfl,rfl,hpl⟩|⟨rfl,rfl,hpl⟩)<;>(try rw [stoB_ren])))|refine zg ?_ ?_|refine zgu ?_|refine zst ?_|refine aw_drawn (id:=14) [(0,0),(1,0),(2,0),(3,0),(4,1),(5,1),(6,0),(7,0),(8,0),(9,0),(10,0),(11,0),(12,0),(13,0),(14,0),(15,0),(16,0),(17,0),(18,0),(19,0)] mixed (by kernel_rfl) ?_|refine aw_drawn (id:=14) [(0,0),(1,0),(2,0),(3,0),(4,1),(5,2),(6,0),(7,0),(8,0),(9,0),(10,0),(11,0),(12,0),(13,0),(14,0),(15,0),(16,0),(17,0),(18,0),(19,0)] mixed (by kernel_rfl) ?_|refine aw_drawn (id:=31) [(0,0),(1,0),(2,0),(3,0),(4,0),(5,0),(6,0),(7,0),(8,0),(9,0),(10,0),(11,0),(12,0)] mixed (by kernel_rfl) ?_|refine zco ?_ ?_|(refine fun (hg:(_:Prop))=>?_;first|exact absurd hg (by decide)|((try replace hg:=HG.out hg);(try dsimp only at hg);(try rw [fromB_one] at hg);(try rw [withinB_iff] at hg);(try rw [withinB_no] at hg);(try (have _h:True:=hg;clear _h hg));first|(exfalso;omega)|skip))))
        all_goals first
          | (exfalso;omega)
          | ((refine aw_mono_r (env':=[(2,.s (.pointer none)),(3,vb false)]) (H':=[]) ?_ ?_;(focus (exact zsb [] [])));refine aw_ret ?_;(repeat (first|refine ret_then ?_|refine ret_block ?_));refine bq2 rfl rfl (.inr ⟨fun v=>?_,rfl,rfl⟩);exact hpl fun i hi=>placed_to (v.2.2.1 i hi) (by omega))
          | ((refine aw_mono_r (env':=[(2,.ptr 4 0 0 0),(3,vb true)]) (H':=[.arr 4 1 (fun _=>stoV 0 s),LB 5 Itm.enc s.items,LB 2 Prt.enc s.prints,mapE vi (pressTo s.items s.items.length)]) ?_ ?_;(focus (exact zsc [some 2,some 3,some 4,some 5] [])))
             refine aw_ret (bq2 rfl rfl (.inl ⟨⟨⟨by omega,by omega,by omega⟩,hM,placed_all hpl,hP1,fun i hi=>hU i (by omega)⟩,rfl,rfl⟩)))
          | trace_state
end Go.Proofs.YtbilpbabdgfblaaGreat
namespace Go.Proofs.YtbilpbabdgfblaaGreat
open Go.RowKit Go.Shelf
def insRen:Ren:=⟨fun x=>if x=21 then 62 else if x=27 then 107 else if x=28 then 108 else if x=35 then 150 else if x=39 then 168 else 0,fun x=>if x=3 then 3 else if x=4 then 4 else if x=22 then 31 else 0,fun _=>0⟩
set_option maxRecDepth 100000 in
theorem insLays:Lays2.n21 Tryz.prog insRen where
  mixed:=by kernel_rfl
  f21:=by kernel_rfl
  f27:=by kernel_rfl
  f28:=by kernel_rfl
  f35:=by kernel_rfl
  f39:=by kernel_rfl
  t0:=by kernel_rfl
  a0:=fun _=>rfl
  z0:=fun _=>rfl
  v0:=fun _=>rfl
  t3:=by kernel_rfl
  a3:=fun _=>rfl
  z3:=fun _=>rfl
  v3:=fun _=>rfl
  t4:=by kernel_rfl
  a4:=fun _=>rfl
  z4:=fun _=>rfl
  v4:=fun _=>rfl
  t22:=by kernel_rfl
  a22:=fun _=>rfl
  z22:=fun _=>rfl
  v22:=fun _=>rfl
  i3:=by kernel_rfl
theorem setCells_block {b:Nat}{t:TypeId}:∀ (vs:List Value) (o:Nat) (w:World) (cs:Array Value),w.heap[b]?=some (.cells cs t (0,0))→o+vs.length≤cs.size →
    ∃ cs':Array Value,(w.setCells b o vs).heap[b]?=some (.cells cs' t (0,0))∧cs'.size=cs.size∧(∀ j,j<o→cs'[j]?=cs[j]?)∧(∀ j,j<vs.length→cs'[o+j]?=vs[j]?)∧(∀ j,o+vs.length≤j→cs'[j]?=cs[j]?) ∧
      (∀ c,c≠b→(w.setCells b o vs).heap[c]?=w.heap[c]?)∧(w.setCells b o vs).heap.size=w.heap.size∧(w.setCells b o vs).os=w.os∧(w.setCells b o vs).tape=w.tape∧(w.setCells b o vs).output=w.output
  | [],o,w,cs,h,_=>⟨cs,h,rfl,fun _ _=>rfl,fun j hj=>by simp at hj,fun _ _=>rfl,fun _ _=>rfl,rfl,rfl,rfl,rfl⟩
  | v::r,o,w,cs,h,hl=>by
    simp only [List.length_cons] at hl
    obtain ⟨cs',h1,h2,h3,h4,h5,h6,h7,h8,h9,h10⟩:=setCells_block r (o+1) (w.setCell ⟨b,o,none⟩ v) (cs.setIfInBounds o v) (heap_setCell_same w b o cs t v h) (by simp;omega)
    refine ⟨cs',h1,by rw [h2];simp,fun j hj=>?_,fun j hj=>?_,fun j hj=>?_,fun c hc=>?_,?_,h8,h9,h10⟩
    · rw [h3 j (by omega)]
      simp [show o≠j by omega]
    · cases j with
      | zero =>
        rw [Nat.add_zero,h3 o (by omega)]
        simp [show o<cs.size by omega]
      | succ j =>
        have:=h4 j (by simp at hj;omega)
        rw [show o+(j+1)=o+1+j by omega,this]
        simp
    · simp only [List.length_cons] at hj
      rw [h5 j (by omega)]
      simp [show o≠j by omega]
    · show ((w.setCell ⟨b,o,none⟩ v).setCells b (o+1) r).heap[c]?=_
      rw [h6 c hc,heap_setCell_other w _ c v hc]
    · show ((w.setCell ⟨b,o,none⟩ v).setCells b (o+1) r).heap.size=_
      rw [h7]
      simp [World.setCell]
def InsR (l:List Int) (x:Int) (v:V) (H:Heap):Prop:=v=.sl 1 2 0 (l.length+1)∧H=[.dead,LB 1 vi [x],LB 1 vi (x::l)]
theorem insert_done {X:Ctx}{I:Imm}{ρ:List (Option (Nat × Nat))}{w w':World}{l:List Int}{x:Int}{cb c:Nat}{cs:Array Value}{ty:TypeId}(hw:WOk X I ρ [.dead,LB 1 vi [x]] w) (hL:¬ Live [.dead,LB 1 vi [x]] ρ cb) (hI:I cb=none) (hm:X.w.heap.size≤cb∨Live X.H X.ρ cb)
    (hc:l.length+1≤c) (hcm:c≤maxLen) (hcz:c≤cs.size) (hrow:∀ i,i<l.length+1→cs[i]?=some (.int .i64 (el (x::l) i))) (hnew:w'.heap[cb]?=some (.cells cs ty (0,0))) (hold:∀ c,c≠cb→c<w.heap.size→w'.heap[c]?=w.heap[c]?) (hsize:w.heap.size≤w'.heap.size)
    (ho:w'.os=w.os) (ht:w'.tape=w.tape) (hout:w'.output=w.output) :
    ∃ v u I' ρ' H',I.le I'∧Pre ρ ρ'∧WOk X I' ρ' H' w'∧VRel I' ρ' v u∧((Ending.returned (.slice (some ⟨cb,0,none⟩) (l.length+1) c)=.returned u∧InsR l x v H')∨(Ending.returned (.slice (some ⟨cb,0,none⟩) (l.length+1) c)=.panicked [{ v:=u,recovered:=false }]∧NoP v H')):=by
  have hlen:ρ.length=2:=hw.len
  have h:=hw.adopt (w':=w') (sz:=1) (n:=(x::l).length) (f:=fun i=>vi (el (x::l) i)) hL hI hm (by simp;omega) (fun _ _=>rfl) (fun i j v hi hj=>by
    cases j with
    | zero=>cases hj;exact ⟨_,by simpa using hrow i (by simpa using hi),.s _⟩
    | succ j=>cases hj) hnew hold hsize ho ht hout
  refine ⟨.sl 1 2 0 (l.length+1),_,I,_,_,Imm.le_refl _,pre_append _,h,?_,.inl ⟨rfl,rfl,rfl⟩⟩
  have:=VRel.sl (I:=I) (ρ:=ρ++[some (cb,cs.size)]) (sz:=1) (b:=2) (i:=0) (n:=l.length+1) (cb:=cb) (z:=cs.size) (c:=c) (by rw [List.getElem?_append_right (by omega),hlen];rfl) hc hcm (by omega)
  simpa using this
theorem insRow_size (v:Value) (k:Nat):((([]++[v]:List Value).toArray++Builtin.zeroCells (Value.int .i64 0).cells k)).size=1+k:=by
  rw [Array.size_append,size_zeroCells,show (Value.int .i64 0).cells.size=1 from rfl]
  simp
theorem insRow_at (v:Value) (k:Nat):((([]++[v]:List Value).toArray++Builtin.zeroCells (Value.int .i64 0).cells k))[0]?=some v:=by
  rw [Array.getElem?_append_left (by simp)]
  rfl
theorem insert_p (l:List Int) (x:Int) (hl:l.length≤100):ACalls Tryz.prog 62 [.sl 1 0 0 l.length,vi 0,.sl 1 1 0 1] [LB 1 vi l,LB 1 vi [x]] (InsR l x) NoP:=by
  refine ⟨fun X I ρ w us hw hv=>?_⟩
  obtain ⟨hsz,hrel⟩:=hv
  have hus:us.size=3:=hsz
  obtain ⟨u0,u1,u2,rfl⟩:∃ a b c,us=#[a,b,c]:=by
    match us,hus with
    | ⟨[a,b,c]⟩,_=>exact ⟨a,b,c,rfl⟩
  have r0:=hrel 0 _ u0 rfl rfl
  have r1:=hrel 1 _ u1 rfl rfl
  have r2:=hrel 2 _ u2 rfl rfl
  cases r1
  have hlen:ρ.length=2:=hw.len
  obtain ⟨vb,z1,vc,rfl,hρ1,hvc,_,_⟩:∃ vb z1 vc,u2=.slice (some ⟨vb,0,none⟩) 1 vc∧ρ[1]?=some (some (vb,z1))∧1≤vc∧vc≤maxLen∧True:=by
    rcases r2.sl_inv with ⟨cb,z,c,h1,h2,h3,h4,_⟩|⟨_,_,_,_,h⟩
    · exact ⟨cb,z,c,by simpa using h1,h2,h3,h4,trivial⟩
    · cases h
  obtain ⟨cs1,ty1,hb1,hz1,hn1,hr1⟩:=hw.arr 1 _ _ _ _ _ rfl hρ1
  obtain ⟨y,hy,hyv⟩:=hr1 0 0 _ Nat.one_pos rfl
  have hy:cs1[0]?=some (.int .i64 x):=by cases hyv;simpa [el] using hy
  have hl1:Live [LB 1 vi l,LB 1 vi [x]] ρ vb:=⟨1,_,rfl,by simp [LB],z1,hρ1⟩
  have hvs:∀ j v,[Value.int .i64 x][j]?=some v→w.cell? ⟨vb,0+j,none⟩=some v:=fun j v hj=>by
    cases j with
    | zero=>cases hj;rw [cell_of hb1];exact hy
    | succ j=>cases hj
  have h1v:∀ v∈[Value.int .i64 x],v.oneCell'=true:=fun v hv=>by simp at hv;subst hv;rfl
  have hkill:=hw.kill 0
  have new:¬ Live [.dead,LB 1 vi [x]] ρ w.heap.size:=fun h=>by have:=hkill.lt h;omega
  have newI:I w.heap.size=none:=by
    cases e:I w.heap.size with
    | none=>rfl
    | some o=>have:=(Array.getElem?_eq_some_iff.1 (hw.imm _ o e)).1;omega
  have keepNew:∀ (o:Obj) c,c≠w.heap.size→c<w.heap.size→(w.drew.alloc o).heap[c]?=w.heap[c]?:=fun o c _ hc=>Below.heap_alloc w.drew o c hc
  rcases r0.sl_inv with ⟨cb,z,c,rfl,hρ0,hnc,hcm,hcz⟩|⟨A,rfl,hρ0,_,hn0⟩
  · rw [Nat.zero_mul]
    rw [Nat.zero_add,Nat.mul_one] at hcz
    obtain ⟨cs,t,hcs,hzz,hnz,hr0⟩:=hw.arr 0 _ _ _ _ _ rfl hρ0
    have hL0:Live [LB 1 vi l,LB 1 vi [x]] ρ cb:=⟨0,_,rfl,by simp [LB],z,hρ0⟩
    have hne:vb≠cb:=fun e=>by
      subst e
      have:=hw.inj 0 1 vb ⟨_,rfl,by simp [LB]⟩ ⟨_,rfl,by simp [LB]⟩ z z1 hρ0 hρ1
      cases this
    have hrow0:∀ i,i<l.length→cs[i]?=some (.int .i64 (el l i)):=fun i hi=>by
      obtain ⟨u,h2,h3⟩:=hr0 i 0 _ hi rfl
      cases h3
      simpa using h2
    have hdead:¬ Live [.dead,LB 1 vi [x]] ρ cb:=not_live_kill hw (k:=0) rfl (by simp [LB]) hρ0
    unfold maxLen at hcm
    by_cases h0:l.length=0
    · obtain rfl:=List.length_eq_zero_iff.1 h0
      by_cases hroom:1≤c
      · refine (Any2.slices_Insert_int_end_room insLays cb 0 0 c vb 0 1 vc [.int .i64 x] w (by omega) (by omega) (by omega) rfl (fun j hj=>?_) (fun j hj=>frozen_of_row w cb _ cs t hcs) hvs h1v).mono ?_
        · rw [cell_of hcs]
          simp [show j=0 by omega] at *
          omega
        · rintro e w' ⟨rfl,rfl⟩
          obtain ⟨cs',a1,a2,a3,a4,a5,a6,a7,a8,a9,a10⟩:=setCells_block [.int .i64 x] (0+0) w cs hcs (by simp;omega)
          refine insert_done (l:=[]) (x:=x) (cs:=cs') hkill hdead (hw.apart cb hL0) (hw.mine cb hL0) hroom (by unfold maxLen;omega) (by omega) (fun i hi=>?_) a1 (fun c hc _=>a6 c hc) (by omega) a8 a9 a10
          have:i=0:=by simpa using hi
          subst this
          simpa [el] using a4 0 (by simp)
      · have hc0:c=0:=by omega
        subst hc0
        refine (Any2.slices_Insert_int_end_grow insLays (some ⟨cb,0,none⟩) 0 0 vb 0 1 vc [] [.int .i64 x] w (by omega) (by omega) (by omega) (by omega) rfl rfl (fun h=>by cases h) (fun _ _ j v hj=>by simp at hj) hvs h1v).mono ?_
        rintro e w' ⟨rfl,rfl⟩
        refine insert_done (l:=[]) (x:=x) hkill new newI (.inl hw.grow) (grownCap_ge _ _ _ _) (grownCap_le_maxLen _ _ _ _ (by unfold maxLen;simp)) (by rw [insRow_size];omega) (fun i hi=>?_) (World.alloc_heap_new w.drew _) (keepNew _) (by show w.heap.size≤(w.heap.push _).size;rw [Array.size_push];omega) rfl rfl rfl
        have:i=0:=by simpa using hi
        subst this
        exact insRow_at _ _
    · by_cases hroom:l.length+1≤c
      · refine (Any2.slices_Insert_int_shift insLays cb 0 l.length c 0 vb 0 1 vc (l.map (Value.int .i64)) [.int .i64 x] w (by omega) (by omega) hroom (by omega) hne (by simp) rfl (fun j v hj=>?_) (fun j hj=>?_) (fun j hj=>frozen_of_row w cb _ cs t hcs) hvs (fun v hv=>?_) h1v ty1 t cs1.size cs.size ?_ ?_ (by omega) (frozen_of_row w vb _ cs1 ty1 hb1) (frozen_of_row w vb _ cs1 ty1 hb1)).mono ?_
        · rw [cell_of hcs,Nat.zero_add]
          simp only [List.getElem?_map,Option.map_eq_some_iff] at hj
          obtain ⟨q,hq,rfl⟩:=hj
          have hlt:=(List.getElem?_eq_some_iff.1 hq).1
          rw [hrow0 j hlt,el_eq hlt]
          rw [List.getElem?_eq_getElem hlt] at hq
          cases hq
          rfl
        · rw [cell_of hcs,Nat.zero_add]
          simp
          omega
        · obtain ⟨q,_,rfl⟩:=List.mem_map.1 hv
          rfl
        · simp [World.shape?,hb1]
        · simp [World.shape?,hcs]
        · rintro e w' ⟨rfl,rfl⟩
          obtain ⟨cs',a1,a2,a3,a4,a5,a6,a7,a8,a9,a10⟩:=setCells_block ((l.map (Value.int .i64)).drop 0) (0+(0+1)) w.drew cs hcs (by simp;omega)
          obtain ⟨cs2,b1,b2,b3,b4,b5,b6,b7,b8,b9,b10⟩:=setCells_block [.int .i64 x] (0+0) _ cs' a1 (by simp;omega)
          refine insert_done (cs:=cs2) hkill hdead (hw.apart cb hL0) (hw.mine cb hL0) hroom (by unfold maxLen;omega) (by omega) (fun i hi=>?_) b1 (fun c hc _=>(b6 c hc).trans (a6 c hc)) (by rw [b7,a7];exact Nat.le_refl _) (b8.trans a8) (b9.trans a9) (b10.trans a10)
          cases i with
          | zero=>simpa [el] using b4 0 (by simp)
          | succ i =>
            have hi':i<l.length:=by omega
            have e:=a4 i (by simpa using hi')
            rw [show 0+(0+1)+i=i+1 by omega] at e
            rw [b5 (i+1) (by simp),e]
            simp [hi',el]
      · refine (Any2.slices_Insert_int_grow insLays cb 0 l.length c 0 vb 0 1 vc (l.map (Value.int .i64)) [.int .i64 x] w (by omega) (by omega) hnc (by omega) (by omega) (by simp) rfl (fun j v hj=>?_) hvs (fun v hv=>?_) h1v).mono ?_
        · rw [cell_of hcs,Nat.zero_add]
          simp only [List.getElem?_map,Option.map_eq_some_iff] at hj
          obtain ⟨q,hq,rfl⟩:=hj
          have hlt:=(List.getElem?_eq_some_iff.1 hq).1
          rw [hrow0 j hlt,el_eq hlt]
          rw [List.getElem?_eq_getElem hlt] at hq
          cases hq
          rfl
        · obtain ⟨q,_,rfl⟩:=List.mem_map.1 hv
          rfl
        · rintro e w' ⟨rfl,rfl⟩
          have hge:=grownCap_ge w (l.length+1) c (insRen.t 3)
          generalize hA:((((l.map (Value.int .i64)).take 0).toArray++Builtin.zeroCells (Value.int .i64 0).cells (l.length+1-0)++Builtin.zeroCells (Value.int .i64 0).cells (grownCap w (l.length+1) c (insRen.t 3)-(l.length+1))))=A
          have hAs:A.size=grownCap w (l.length+1) c (insRen.t 3):=by
            rw [← hA]
            simp [size_zeroCells,Value.cells]
            omega
          have hnewA:(w.alloc (.cells A (insRen.t 3))).heap[w.heap.size]?=some (.cells A (insRen.t 3) (0,0)):=World.alloc_heap_new w _
          obtain ⟨cs',a1,a2,a3,a4,a5,a6,a7,a8,a9,a10⟩:=setCells_block [.int .i64 x] 0 (w.alloc (.cells A (insRen.t 3))).drew A hnewA (by simp;omega)
          obtain ⟨cs2,b1,b2,b3,b4,b5,b6,b7,b8,b9,b10⟩:=setCells_block ((l.map (Value.int .i64)).drop 0) (0+1) ((w.alloc (.cells A (insRen.t 3))).drew.setCells w.heap.size 0 [.int .i64 x]).drew cs' a1 (by simp;omega)
          refine insert_done (cs:=cs2) hkill new newI (.inl hw.grow) hge (grownCap_le_maxLen _ _ _ _ (by unfold maxLen;omega)) (by omega) (fun i hi=>?_) b1 (fun c hc hlt=>(b6 c hc).trans ((a6 c hc).trans (Below.heap_alloc w _ c hlt))) (by
            rw [b7]
            show _≤((w.alloc (.cells A (insRen.t 3))).drew.setCells w.heap.size 0 [.int .i64 x]).heap.size
            rw [a7]
            show _≤(w.heap.push _).size
            rw [Array.size_push]
            omega) (b8.trans a8) (b9.trans a9) (b10.trans a10)
          cases i with
          | zero=>rw [b3 0 (by omega)];simpa [el] using a4 0 (by simp)
          | succ i =>
            have hi':i<l.length:=by omega
            have e:=b4 i (by simpa using hi')
            rw [show 0+1+i=i+1 by omega] at e
            rw [e]
            simp [hi',el]
  · have hn0:l.length=0:=hn0
    obtain rfl:=List.length_eq_zero_iff.1 hn0
    refine (Any2.slices_Insert_int_end_grow insLays A 0 0 vb 0 1 vc [] [.int .i64 x] w (by omega) (by omega) (by omega) (by omega) rfl rfl (fun _=>rfl) (fun _ _ j v hj=>by simp at hj) hvs h1v).mono ?_
    rintro e w' ⟨rfl,rfl⟩
    refine insert_done (l:=[]) (x:=x) hkill new newI (.inl hw.grow) (grownCap_ge _ _ _ _) (grownCap_le_maxLen _ _ _ _ (by unfold maxLen;simp)) (by rw [insRow_size];omega) (fun i hi=>?_) (World.alloc_heap_new w.drew _) (keepNew _) (by show w.heap.size≤(w.heap.push _).size;rw [Array.size_push];omega) rfl rfl rfl
    have:i=0:=by simpa using hi
    subst this
    exact insRow_at _ _
theorem sub_pre {m nt t sz b:Nat}{env:Env}{H:Heap}(cs ds:List V) (ht:look env t=some (.ptr sz b 0 0)) (hb:H[b]?=some (.arr sz 1 (fun _=>.agg (cs++ds)))) (hc:V.closed.all cs=true) :
    SubK m nt env H ((t,.ref (.agg cs) 0)::env) (H.set b .dead):=.mk fun X I ρ a w _ ⟨hE,hw,hd⟩=>by
  obtain ⟨h1,h2⟩:=hE.2 t _ ht
  obtain ⟨cb,z,hu,hx⟩:=h2.ptr_inv
  have hL:Live H ρ cb:=⟨b,_,hb,by simp,z,hx⟩
  have hI:=know_le (o:=w.heap[cb]?) (hw.apart cb hL)
  obtain ⟨us,ty,hcs,hz,hn,hr⟩:=hw.arr _ _ _ _ _ _ hb hx
  refine ⟨know I cb (w.heap[cb]?),ρ,hI,⟨⟨hE.1,fun t' v hv=>?_⟩,hw.forget hb (by simp) hx,hd.mono hI⟩,fun y hy=>?_⟩
  · rw [look_cons] at hv
    split at hv
    · rename_i e;subst e;cases hv
      refine ⟨h1,?_⟩
      rw [hu,Nat.zero_mul]
      have hcell:∀ (j:Nat) x,cs[j]?=some x→∃ u,us[j]?=some u∧VRel I ρ x u:=fun j x hj=>by
        have hlt:=(List.getElem?_eq_some_iff.1 hj).1
        obtain ⟨u,h3,h4⟩:=hr 0 j x Nat.one_pos (by show (cs++ds)[j]?=_;rw [List.getElem?_append_left hlt];exact hj)
        exact ⟨u,by simpa using h3,h4⟩
      refine .ref (us:=fun j=>us.getD j undef) ⟨us,ty,(0,0),by rw [know_at];exact hcs,fun j hj=>?_⟩ fun j x hj=>?_
      · have hj:j<cs.length:=hj
        obtain ⟨u,h3,_⟩:=hcell j cs[j] (by simp [hj])
        simp [h3]
      · have hj:cs[j]?=some x:=hj
        obtain ⟨u,h3,h4⟩:=hcell j x hj
        rw [show us.getD j undef=u by simp [h3]]
        exact (h4.close (closed_all hc hj)).mono hI (Pre.refl _)
    · obtain ⟨h3,h4⟩:=hE.2 t' v hv
      exact ⟨h3,h4.mono hI (Pre.refl _)⟩
  · obtain ⟨y1,y2,y3⟩:=hy
    refine ⟨fun c o hc=>y1 c o (hI c o hc),fun k sz' n' f' b' z' hk hρ o ho=>?_,fun k mm b' z' hk hρ=>?_⟩
    · by_cases e:k=b
      · subst e
        rw [hx] at hρ
        cases hρ
        have:=y1 cb _ (by rw [know_at];exact hcs)
        simp [World.cell?,this,hcs]
      · exact y2 k sz' n' f' b' z' (by rw [List.getElem?_set_ne (Ne.symm e)];exact hk) hρ o ho
    · refine y3 k mm b' z' ?_ hρ
      by_cases e:k=b
      · subst e;rw [hb] at hk;cases hk
      · rw [List.getElem?_set_ne (Ne.symm e)];exact hk
end Go.Proofs.YtbilpbabdgfblaaGreat
-- old go
namespace Go.Proofs.YtbilpbabdgfblaaGreat
open Go.RowKit
def Screen.ok (c:Screen):Bool:=withinB c.period 2 16&&withinB c.phase 0 (c.period-1)
def vu (n:Int):V:=.s (.int .u64 n)
theorem mul64_p (x y:Int) (hx:0≤x∧x≤4294967295) (hy:0≤y∧y≤4294967295) (hxy:0≤x*y∧x*y≤4294967295):PCalls Tryz.prog 152 [vu x,vu y] (·=.tup [vu 0,vu (x*y)]):=by
  refine pcalls_of_aw Tryz.func152 rfl (dc rfl) ?_
  (repeat' (first|(refine ar_isq ?_;refine zq ?_)|refine ar_q (qs_and rfl rfl (andMask (by omega))) (dc rfl) ?_|refine ar_q (qs_shr rfl rfl (by omega) (shr0 (by omega))) (dc rfl) ?_|refine zst ?_|refine zco ?_ ?_|exact zd|(refine fun (hg:(_:Prop))=>?_;(try replace hg:=HG.out hg);(try dsimp only at hg);(try (have _h:True:=hg;clear _h hg)))))
  (refine aw_ret ?_;(repeat (first|refine ret_then ?_|refine ret_block ?_));refine bq2 rfl rfl ⟨?_,rfl⟩)
  simp [vu]
theorem mul_p (x y:Int) (hx:0≤x∧x≤4294967295) (hy:0≤y∧y≤4294967295) (hxy:0≤x*y∧x*y≤4294967295):PCalls Tryz.prog 111 [vu x,vu y] (·=.tup [vu 0,vu (x*y)]):=by
  refine pcalls_of_aw Tryz.func111 rfl (dc rfl) ?_
  (repeat' (first|(refine ar_isq ?_;refine zq ?_)|(refine zpv fn152 (mul64_p x y hx hy hxy) ?_)|refine zst ?_|refine zco ?_ ?_|exact zd|(refine fun (hg:(_:Prop))=>?_;(try replace hg:=HG.out hg);(try dsimp only at hg);(try (have _h:True:=hg;clear _h hg)))))
  all_goals ((refine aw_ret ?_;(repeat (first|refine ret_then ?_|refine ret_block ?_));refine bq2 rfl rfl ⟨?_,rfl⟩);simp [vu])
def fillN (L T:Nat):Nat→Nat
  | 0=>min L T
  | k+1=>fillN L T k+min (fillN L T k) (T-fillN L T k)
theorem fillN_le (L T:Nat):∀ k,fillN L T k≤T
  | 0=>by simp [fillN];omega
  | k+1=>by have:=fillN_le L T k;simp only [fillN];omega
theorem fillN_mod (l:List Bool) (T:Nat) (h:0<l.length):∀ k,fillN l.length T k<T→l.length ∣ fillN l.length T k∧k<fillN l.length T k
  | 0,hk=>by simp only [fillN] at hk ⊢;rw [Nat.min_eq_left (by omega)];exact ⟨Nat.dvd_refl _,h⟩
  | k+1,hk=>by
    have h1:=fillN_le l.length T k
    simp only [fillN] at hk ⊢
    have h2:fillN l.length T k<T:=by omega
    obtain ⟨h3,h4⟩:=fillN_mod l T h k h2
    rw [Nat.min_eq_left (by omega)]
    exact ⟨Nat.dvd_add h3 h3,by omega⟩
theorem join_ins {H:Heap}{b c:Nat}{l:List Int}{v:Int}(hc:H[c]?=some (LB 1 vi [v])) (_hne:b≠c):joinH [b,c] [] H [.dead,LB 1 vi [v],LB 1 vi (v::l)]=H.set b .dead++[LB 1 vi (v::l)]:=by
  unfold joinH
  refine congr (congrArg HAppend.hAppend ?_) rfl
  refine List.ext_getElem? fun i=>?_
  rw [joinAt_get,Nat.zero_add,List.getElem?_set]
  by_cases e:b=i
  · subst e
    rw [if_pos rfl]
    by_cases hlt:b<H.length
    · rw [if_pos hlt,List.getElem?_eq_getElem hlt]
      simp [pickB,List.idxOf?_cons,Blk.ren]
    · rw [if_neg hlt,List.getElem?_eq_none (by omega)]
      rfl
  · rw [if_neg e]
    by_cases e2:c=i
    · subst e2
      rw [hc]
      simp only [Option.map_some,Option.some.injEq]
      simp [pickB,List.idxOf?_cons,e]
      rfl
    · cases h:H[i]? with
      | none=>rfl
      | some x=>simp [pickB,List.idxOf?_cons,e,e2]
theorem ar_insert {r:Option Nat}{m nt i d:Nat}{Q:Post}{env:Env}{H:Heap}{ops:Array Oper}{L:List Stp}{ty:TypeId}{pos:String}{after:Array Edge}{ats:Array TypeId}{x z:Operand}{b c:Nat}(l:List Int) (v:Int)
    (h:AR Tryz.prog r m nt ops Q L ((d,.sl 1 H.length 0 (l.length+1))::env) (H.set b .dead++[LB 1 vi (v::l)])) (hx:eo env x=some (.sl 1 b 0 l.length)) (hz:eo env z=some (.sl 1 c 0 1)) (hb:H[b]?=some (LB 1 vi l)) (hc:H[c]?=some (LB 1 vi [v])) (hne:b≠c) (hl:l.length≤100) (hd:d<nt) :
    AR Tryz.prog r m nt ops Q (.l i ⟨some d,.call ⟨.value (.func 62),#[x,.const (.int .i64 0),z],ats⟩,ty,pos,after,none⟩ false::L) env H:=by
  have hh:HSub H ([b,c].map some) (·∈([]:List Nat)) 0 [LB 1 vi l,LB 1 vi [v]] :=
    ⟨.inl ⟨b,_,rfl,hb,fun _ _=>.closed rfl⟩,.inl ⟨c,_,rfl,hc,fun _ _=>.closed rfl⟩,trivial⟩
  refine ar_gcall (H0:=[LB 1 vi l,LB 1 vi [v]]) (vs:=[.sl 1 b 0 l.length,vi 0,.sl 1 c 0 1]) (first:=[]) (cap:=[]) [b,c] [] (args:=[x,.const (.int .i64 0),z]) fn62 rfl (by rw [List.mapM_cons,List.mapM_cons,List.mapM_cons,List.mapM_nil,hx,hz];rfl) (xs:=[.sl 1 0 0 l.length,vi 0,.sl 1 1 0 1]) ⟨.sl rfl,.closed rfl,.sl rfl,trivial⟩ rfl (by simpa using hne) (fun _ h=>by cases h) hh (by simp [LB]) (insert_p l v hl) hd ?_ (fun _ _ h=>h.elim)
  rintro _ _ ⟨rfl,rfl⟩
  rw [join_ins hc hne]
  exact h
def srcN (l:List Itm) (i:Int):Nat→Int
  | 0=>i
  | k+1=>(el l (srcN l i k).toNat).src
def lineTo (l:List Itm) (i:Int):Nat→List Int
  | 0=>[]
  | k+1=>srcN l i k::lineTo l i k
theorem lineTo_len (l:List Itm) (i:Int):∀ k,(lineTo l i k).length=k
  | 0=>rfl
  | k+1=>by simp [lineTo,lineTo_len l i k]
def lineN (l:List Itm) (i:Int):Nat:=(el l i.toNat).kind.toNat
structure Chain (l:List Itm) (i:Int):Prop where
  few:1≤lineN l i∧lineN l i≤3
  at_:∀ k,k<lineN l i→(0≤srcN l i k∧srcN l i k<(l.length:Int))∧(el l (srcN l i k).toNat).kind=(lineN l i:Int)-k
  stop:srcN l i (lineN l i)=-1
theorem chain_ok {l:List Itm}(h:∀ i,i<l.length→Made l i) {i:Int}(hi:0≤i∧i<(l.length:Int)):Chain l i:=by
  have h0:=h i.toNat (by omega)
  have hk:(el l i.toNat).kind=(lineN l i:Int):=by
    unfold lineN
    unfold Made at h0
    omega
  have hb:1≤lineN l i∧lineN l i≤3:=by unfold Made at h0;omega
  have all:∀ k,k<lineN l i→(0≤srcN l i k∧srcN l i k<(l.length:Int))∧(el l (srcN l i k).toNat).kind=(lineN l i:Int)-k:=fun k=>by
    induction k with
    | zero=>intro _;exact ⟨hi,by rw [show srcN l i 0=i from rfl,hk];omega⟩
    | succ k ih =>
      intro hk1
      obtain ⟨h1,h2⟩:=ih (by omega)
      have h3:=h (srcN l i k).toNat (by omega)
      unfold Made at h3
      simp only [srcN]
      rcases h3 with h3|⟨_,h4,h5⟩
      · omega
      · exact ⟨by omega,by rw [h5,h2];omega⟩
  refine ⟨hb,all,?_⟩
  obtain ⟨h1,h2⟩:=all (lineN l i-1) (by omega)
  have h3:=h (srcN l i (lineN l i-1)).toNat (by omega)
  unfold Made at h3
  obtain ⟨q,hq⟩:∃ q,lineN l i=q+1:=⟨lineN l i-1,by omega⟩
  rw [hq] at h1 h2 h3 ⊢
  simp only [Nat.add_sub_cancel] at h1 h2 h3
  simp only [srcN]
  omega
def lineE (s:Sto) (i:Int):Int:=if Valid s then (if 0≤i∧i<(s.items.length:Int) then 0 else 6) else 80
def lineF (s:Sto) (i:Int):List Int:=if lineE s i=0 then lineTo s.items i (lineN s.items i) else []
theorem lineE_bad {s:Sto}{i:Int}(h:¬ Valid s):lineE s i=80:=by simp [lineE,h]
theorem lineE_none {s:Sto}{i:Int}(h:Valid s) (h2:¬ (0≤i∧i<(s.items.length:Int))):lineE s i=6:=by simp [lineE,h,h2]
theorem lineE_ok {s:Sto}{i:Int}(h:Valid s) (h2:0≤i∧i<(s.items.length:Int)):lineE s i=0:=by simp [lineE,h,h2]
theorem lineF_ok {s:Sto}{i:Int}(h:lineE s i=0):lineF s i=lineTo s.items i (lineN s.items i):=by simp [lineF,h]
theorem lineF_no {s:Sto}{i:Int}(h:lineE s i≠0):lineF s i=[]:=by simp [lineF,h]
def stoC (s:Sto):V:=.agg [vi s.life,encItems s.items,encPrints s.prints]
theorem pline_p (s:Sto) (i:Int):PCalls Tryz.prog 61 [.ref (stoC s) 0,vi i] (·=.fn (.func 106) [] [.ref (vi i) 0,.ref (.ref (stoC s) 0) 0]):=by
  refine pcalls_of_aw Tryz.func61 rfl (dc rfl) ?_
  (repeat' (first|(refine ar_isq ?_;refine zq ?_)|refine zst ?_|refine zco ?_ ?_|exact zd|(refine fun (hg:(_:Prop))=>?_;(try replace hg:=HG.out hg);(try dsimp only at hg);(try (have _h:True:=hg;clear _h hg)))))
  (refine aw_mono_r (env':=[(4,.fn (.func 106) [] [.ref (vi i) 0,.ref (.ref (stoC s) 0) 0])]) (H':=[]) ?_ ?_;(focus ((refine sub_to [] [0,1] rfl ?_ ?_<;>(repeat' (first|exact trivial|refine ⟨⟨_,rfl,?_⟩,?_⟩|refine vs1 ?_ ?_|refine vs2 ?_ ?_|refine vs3 ?_|refine vs4 ?_ ?_|refine ⟨.inl ⟨_,_,rfl,rfl,?_⟩,?_⟩|exact ⟨.inr ⟨rfl,rfl⟩,trivial⟩|refine ⟨.inr ⟨rfl,rfl⟩,?_⟩|(intro _ _)|exact vz1|(exact fn2_sub (frzPtr' (by simp) rfl (by omega) rfl rfl) (frzPtr' (by simp) rfl (by omega) rfl rfl))|exact vz2|fail)));done)))
  (refine aw_ret ?_;(repeat (first|refine ret_then ?_|refine ret_block ?_));refine bq1 rfl ⟨?_,rfl⟩)
  rfl
end Go.Proofs.YtbilpbabdgfblaaGreat
-- old go
namespace Go.Proofs.YtbilpbabdgfblaaGreat.It
open Go.RowKit
theorem line_iter (s:Sto) (i:Int) (hC:Chain s.items i) (_hn:s.items.length≤30):Iter Tryz.prog 106 [.ref (vi i) 0,.ref (.ref (stoC s) 0) 0] (lineN s.items i) (fun k=>[.int .i64 (srcN s.items i k)]):=by
  refine iter_of_aw Tryz.func106 rfl (dc rfl) rfl fun C hN hel=>?_
  (repeat' (first|(refine ar_isq ?_;first|refine ar_q (qs_move rfl) (dc rfl) ?_|refine ar_q (qs_assign rfl) (dc rfl) ?_|(refine is_load ?_;first|refine ar_q (qs_load_ptr (ty rfl) rfl rfl (by first|exact Nat.one_pos|assumption|omega) rfl) (dc rfl) ?_|refine ar_q (qs_load_ref (ty rfl) rfl rfl) (dc rfl) ?_)|refine ar_q (qs_geq rfl rfl) (dc rfl) ?_|(refine is_fieldAddr ?_;first|refine ar_q (qs_faddr_ptr (ty rfl) rfl rfl (ty rfl) (Nat.succ_ne_zero _) rfl) (dc rfl) ?_|refine ar_q (qs_faddr_ref (ty rfl) rfl rfl (ty rfl) (Nat.succ_ne_zero _) rfl) (dc rfl) ?_)|(refine is_indexAddr ?_;first|refine ar_q (qs_iaddr_list (ty rfl) rfl (ty rfl) rfl rfl rfl rfl (by omega)) (dc rfl) ?_|refine ar_q (qs_iaddr_sl0 (ty rfl) rfl (ty rfl) rfl rfl rfl rfl (by omega)) (dc rfl) ?_|refine ar_q (qs_iaddr_sl (ty rfl) rfl (ty rfl) rfl rfl rfl rfl (by omega)) (dc rfl) ?_|refine ar_q (qs_iaddr_aptr (ty rfl) rfl (ty rfl) rfl rfl rfl (by omega)) (dc rfl) ?_|refine ar_q (qs_iaddr_aref (ty rfl) rfl (ty rfl) rfl rfl rfl (by omega)) (dc rfl) ?_|(refine ar_idx_list (ty rfl) rfl (ty rfl) rfl rfl rfl (dc rfl) (by omega) ?_;intro _ _ _)|(refine ar_idx_sl (ty rfl) rfl (ty rfl) rfl rfl rfl (dc rfl) (by omega) ?_;intro _ _ _))|(refine is_pick ?_;first|refine ar_q (qs_pick_t rfl rfl) (dc rfl) ?_|refine ar_q (qs_pick_f rfl rfl) (dc rfl) ?_))|(refine ar_guard rfl rfl rfl rfl (dc rfl) ?_ ?_<;>intro hg<;>first|exact absurd hg (by decide)|((first|replace hg:=hgT hg|replace hg:=hgF hg|replace hg:=hgNT hg|replace hg:=hgNF hg|replace hg:=hgBT hg|replace hg:=hgBF hg|replace hg:=hgV hg|replace hg:=hgW hg|skip);(try dsimp only at hg);(try (have _h:True:=hg;clear _h hg));first|(exfalso;omega)|skip))|(refine ar_guard_u rfl rfl rfl rfl (dc rfl) ?_)|(refine ar_nil ?_)|(refine aw_seq ?_)|(refine aw_skip ?_)|(refine aw_block ?_)|(refine aw_exit ?_)|(refine aw_region ?_)|(refine aw_cond rfl ?_ ?_<;>intro hg<;>first|exact absurd hg (by decide)|((first|replace hg:=hgT hg|replace hg:=hgF hg|replace hg:=hgNT hg|replace hg:=hgNF hg|replace hg:=hgBT hg|replace hg:=hgBF hg|replace hg:=hgV hg|replace hg:=hgW hg|skip);(try dsimp only at hg);(try (have _h:True:=hg;clear _h hg));first|(exfalso;omega)|skip))))
  refine aw_for (lineN s.items i) (fun k=>[(0,.s (.func (.yield C.l) #[] #[])),(1,.ref (vi i) 0),(2,.ref (.ref (stoC s) 0) 0),(4,vi (srcN s.items i k))]) (Nat.zero_le _) ⟨rfl,rfl,rfl,rfl,trivial⟩ ?_
  intro k hk
  by_cases hlt:k<lineN s.items i
  · obtain ⟨h1,h2⟩:=hC.at_ k hlt
    (repeat' (first|(refine ar_isq ?_;first|refine ar_q (qs_move rfl) (dc rfl) ?_|refine ar_q (qs_assign rfl) (dc rfl) ?_|(refine is_load ?_;first|refine ar_q (qs_load_ptr (ty rfl) rfl rfl (by first|exact Nat.one_pos|assumption|omega) rfl) (dc rfl) ?_|refine ar_q (qs_load_ref (ty rfl) rfl rfl) (dc rfl) ?_)|refine ar_q (qs_geq rfl rfl) (dc rfl) ?_|(refine is_fieldAddr ?_;first|refine ar_q (qs_faddr_ptr (ty rfl) rfl rfl (ty rfl) (Nat.succ_ne_zero _) rfl) (dc rfl) ?_|refine ar_q (qs_faddr_ref (ty rfl) rfl rfl (ty rfl) (Nat.succ_ne_zero _) rfl) (dc rfl) ?_)|(refine is_indexAddr ?_;first|refine ar_q (qs_iaddr_list (ty rfl) rfl (ty rfl) rfl rfl rfl rfl (by omega)) (dc rfl) ?_|refine ar_q (qs_iaddr_sl0 (ty rfl) rfl (ty rfl) rfl rfl rfl rfl (by omega)) (dc rfl) ?_|refine ar_q (qs_iaddr_sl (ty rfl) rfl (ty rfl) rfl rfl rfl rfl (by omega)) (dc rfl) ?_|refine ar_q (qs_iaddr_aptr (ty rfl) rfl (ty rfl) rfl rfl rfl (by omega)) (dc rfl) ?_|refine ar_q (qs_iaddr_aref (ty rfl) rfl (ty rfl) rfl rfl rfl (by omega)) (dc rfl) ?_|refine ar_q (qs_iaddr_list (j:=(srcN s.items i k).toNat) (ty rfl) rfl (ty rfl) rfl rfl rfl (by omega) (by omega)) (dc rfl) ?_|refine ar_q (qs_iaddr_sl0 (j:=(srcN s.items i k).toNat) (ty rfl) rfl (ty rfl) rfl rfl rfl (by omega) (by omega)) (dc rfl) ?_|refine ar_q (qs_iaddr_sl (j:=(srcN s.items i k).toNat) (ty rfl) rfl (ty rfl) rfl rfl rfl (by omega) (by omega)) (dc rfl) ?_|(refine ar_idx_list (ty rfl) rfl (ty rfl) rfl rfl rfl (dc rfl) (by omega) ?_;intro _ _ _)|(refine ar_idx_sl (ty rfl) rfl (ty rfl) rfl rfl rfl (dc rfl) (by omega) ?_;intro _ _ _))|(refine is_pick ?_;first|refine ar_q (qs_pick_t rfl rfl) (dc rfl) ?_|refine ar_q (qs_pick_f rfl rfl) (dc rfl) ?_))|(refine ar_yield (us:=[.int .i64 (srcN s.items i k)]) rfl rfl (by rw [hN];exact hlt) (by rw [hel]) (dc rfl) ?_)|(refine ar_q (qs_nck_ref rfl) (dc rfl) ?_)|(refine ar_guard rfl rfl rfl rfl (dc rfl) ?_ ?_<;>intro hg<;>first|exact absurd hg (by decide)|((first|replace hg:=hgT hg|replace hg:=hgF hg|replace hg:=hgNT hg|replace hg:=hgNF hg|replace hg:=hgBT hg|replace hg:=hgBF hg|replace hg:=hgV hg|replace hg:=hgW hg|skip);(try dsimp only at hg);(try (have _h:True:=hg;clear _h hg));first|(exfalso;omega)|skip))|(refine ar_guard_u rfl rfl rfl rfl (dc rfl) ?_)|(refine ar_nil ?_)|(refine aw_seq ?_)|(refine aw_skip ?_)|(refine aw_block ?_)|(refine aw_exit ?_)|(refine aw_region ?_)|(refine aw_cond rfl ?_ ?_<;>intro hg<;>first|exact absurd hg (by decide)|((first|replace hg:=hgT hg|replace hg:=hgF hg|replace hg:=hgNT hg|replace hg:=hgNF hg|replace hg:=hgBT hg|replace hg:=hgBF hg|replace hg:=hgV hg|replace hg:=hgW hg|skip);(try dsimp only at hg);(try (have _h:True:=hg;clear _h hg));first|(exfalso;omega)|skip))))
    all_goals first
      | (exfalso;omega)
      | exact loop_next hlt rfl ⟨rfl,rfl,rfl,rfl,trivial⟩
      | trace_state
  · obtain rfl:k=lineN s.items i:=by omega
    have hs:=hC.stop
    (repeat' (first|(refine ar_isq ?_;first|refine ar_q (qs_move rfl) (dc rfl) ?_|refine ar_q (qs_assign rfl) (dc rfl) ?_|(refine is_load ?_;first|refine ar_q (qs_load_ptr (ty rfl) rfl rfl (by first|exact Nat.one_pos|assumption|omega) rfl) (dc rfl) ?_|refine ar_q (qs_load_ref (ty rfl) rfl rfl) (dc rfl) ?_)|refine ar_q (qs_geq rfl rfl) (dc rfl) ?_|(refine is_fieldAddr ?_;first|refine ar_q (qs_faddr_ptr (ty rfl) rfl rfl (ty rfl) (Nat.succ_ne_zero _) rfl) (dc rfl) ?_|refine ar_q (qs_faddr_ref (ty rfl) rfl rfl (ty rfl) (Nat.succ_ne_zero _) rfl) (dc rfl) ?_)|(refine is_indexAddr ?_;first|refine ar_q (qs_iaddr_list (ty rfl) rfl (ty rfl) rfl rfl rfl rfl (by omega)) (dc rfl) ?_|refine ar_q (qs_iaddr_sl0 (ty rfl) rfl (ty rfl) rfl rfl rfl rfl (by omega)) (dc rfl) ?_|refine ar_q (qs_iaddr_sl (ty rfl) rfl (ty rfl) rfl rfl rfl rfl (by omega)) (dc rfl) ?_|refine ar_q (qs_iaddr_aptr (ty rfl) rfl (ty rfl) rfl rfl rfl (by omega)) (dc rfl) ?_|refine ar_q (qs_iaddr_aref (ty rfl) rfl (ty rfl) rfl rfl rfl (by omega)) (dc rfl) ?_|(refine ar_idx_list (ty rfl) rfl (ty rfl) rfl rfl rfl (dc rfl) (by omega) ?_;intro _ _ _)|(refine ar_idx_sl (ty rfl) rfl (ty rfl) rfl rfl rfl (dc rfl) (by omega) ?_;intro _ _ _))|(refine is_pick ?_;first|refine ar_q (qs_pick_t rfl rfl) (dc rfl) ?_|refine ar_q (qs_pick_f rfl rfl) (dc rfl) ?_))|(refine ar_guard rfl rfl rfl rfl (dc rfl) ?_ ?_<;>intro hg<;>first|exact absurd hg (by decide)|((first|replace hg:=hgT hg|replace hg:=hgF hg|replace hg:=hgNT hg|replace hg:=hgNF hg|replace hg:=hgBT hg|replace hg:=hgBF hg|replace hg:=hgV hg|replace hg:=hgW hg|skip);(try dsimp only at hg);(try (have _h:True:=hg;clear _h hg));first|(exfalso;omega)|skip))|(refine ar_guard_u rfl rfl rfl rfl (dc rfl) ?_)|(refine ar_nil ?_)|(refine aw_seq ?_)|(refine aw_skip ?_)|(refine aw_block ?_)|(refine aw_exit ?_)|(refine aw_region ?_)|(refine aw_cond rfl ?_ ?_<;>intro hg<;>first|exact absurd hg (by decide)|((first|replace hg:=hgT hg|replace hg:=hgF hg|replace hg:=hgNT hg|replace hg:=hgNF hg|replace hg:=hgBT hg|replace hg:=hgBF hg|replace hg:=hgV hg|replace hg:=hgW hg|skip);(try dsimp only at hg);(try (have _h:True:=hg;clear _h hg));first|(exfalso;omega)|skip))))
    all_goals first
      | (exfalso;omega)
      | exact aw_ret (show lineN s.items i=lineN s.items i from rfl)
      | exact (rfl:lineN s.items i=lineN s.items i)
      | trace_state
end Go.Proofs.YtbilpbabdgfblaaGreat.It
namespace Go.Proofs.YtbilpbabdgfblaaGreat
open Go.RowKit
theorem sameBools_p (l:List Bool):PCalls Tryz.prog 52 [encBools l,encBools l] (·=vb true):=by
  (refine pcalls_know (fun I us h=>rel_len (rel_arg h (j:=0) rfl)) fun hlen0=>?_)
  refine pcalls_of_aw Tryz.func52 rfl (dc rfl) ?_
  (repeat' (first|(refine ar_isq ?_;refine zq ?_)|refine zst ?_|refine aw_drawn (id:=6) [(0,0),(1,0),(2,0),(3,0),(4,0),(5,0),(6,0),(7,0),(8,0)] mixed (by kernel_rfl) ?_|refine zco ?_ ?_|exact zd|(refine fun (hg:(_:Prop))=>?_;(try replace hg:=HG.out hg);(try dsimp only at hg);(try (have _h:True:=hg;clear _h hg)))))
  refine aw_for l.length (fun _=>True) (fun k=>[(0,encBools l),(1,encBools l),(5,vi k)]) (fun _=>[]) trivial ?_ ?_
  · (exact zsb [] [])
  intro k hk _
  (repeat' (first|(refine ar_isq ?_;refine zq ?_)|refine zst ?_|refine aw_drawn (id:=6) [(0,0),(1,0),(2,0),(3,0),(4,0),(5,0),(6,0),(7,0),(8,0)] mixed (by kernel_rfl) ?_|refine zco ?_ ?_|exact zd|(refine fun (hg:(_:Prop))=>?_;(try replace hg:=HG.out hg);(try dsimp only at hg);(try (have _h:True:=hg;clear _h hg)))))
  all_goals first
    | (exfalso;simp at hg;done)
    | ((first|refine loop_next (by omega) ?_ ?_|refine (show _∧_∧SubOf _ _ _ _ _ _ from And.intro (by omega) (And.intro ?_ ?_)));(focus ((exact trivial);done));(focus (exact zsb [] [])))
    | ((refine aw_ret ?_;(repeat (first|refine ret_then ?_|refine ret_block ?_));refine bq1 rfl ⟨?_,rfl⟩);rfl)
theorem great_p (b:List (List Int)):PCalls Tryz.prog 18 [encRows b] (fun v=>v=vb true∨v=vb false∧b.length≤20∧∀ l,l∈b→l.length≤60):=by
  (refine pcalls_know (fun I us h=>And.intro (rel_len (rel_arg h (j:=0) rfl)) (fun l (hm:l∈_)=>rel_len (rel_el (rel_arg h (j:=0) rfl) (fun _=>rfl) hm))) fun hlen0=>?_)
  refine pcalls_of_aw Tryz.func18 rfl (dc rfl) ?_
  (repeat' (first|(refine ar_isq ?_;refine zq ?_)|refine zst ?_|refine zco ?_ ?_|exact zd|(refine fun (hg:(_:Prop))=>?_;(try replace hg:=HG.out hg);(try dsimp only at hg);(try (have _h:True:=hg;clear _h hg)))))
  · (refine aw_ret ?_;(repeat (first|refine ret_then ?_|refine ret_block ?_));refine bq1 rfl ⟨?_,rfl⟩)
    exact .inl rfl
  refine aw_for b.length (fun k=>∀ j,j<k→(el b j).length≤60) (fun k=>[(0,encRows b),(3,vi k)]) (fun _=>[]) (fun j hj=>by omega) ?_ ?_
  · (exact zsb [] [])
  intro k hk hJ
  by_cases hlt:k<b.length
  · have hl:=hlen0.2 _ (el_mem hlt)
    (repeat' (first|(refine ar_isq ?_;refine zq ?_)|refine zst ?_|refine zco ?_ ?_|exact zd|(refine fun (hg:(_:Prop))=>?_;(try replace hg:=HG.out hg);(try dsimp only at hg);(try (have _h:True:=hg;clear _h hg)))))
    all_goals first
      | (exfalso;omega)
      | ((first|refine loop_next (by omega) ?_ ?_|refine (show _∧_∧SubOf _ _ _ _ _ _ from And.intro (by omega) (And.intro ?_ ?_)));(focus ((exact all_step hJ (by omega));done));(focus (exact zsb [] [])))
      | ((refine aw_ret ?_;(repeat (first|refine ret_then ?_|refine ret_block ?_));refine bq1 rfl ⟨?_,rfl⟩);exact .inl rfl)
  · (repeat' (first|(refine ar_isq ?_;refine zq ?_)|refine zst ?_|refine zco ?_ ?_|exact zd|(refine fun (hg:(_:Prop))=>?_;(try replace hg:=HG.out hg);(try dsimp only at hg);(try (have _h:True:=hg;clear _h hg)))))
    all_goals first
      | (exfalso;omega)
      | ((refine aw_ret ?_;(repeat (first|refine ret_then ?_|refine ret_block ?_));refine bq1 rfl ⟨?_,rfl⟩);exact .inr ⟨rfl,by omega,fun l hl=>by obtain ⟨j,hj,rfl⟩:=mem_el hl;exact hJ j (by omega)⟩)
end Go.Proofs.YtbilpbabdgfblaaGreat
