/- Parts of the proof: a layer of values over the model, and contracts of functions. No condition. -/
import Derived.Test.YtbilpbabdgfblaaGreatKHc10
set_option maxHeartbeats 16000000
set_option linter.unusedSimpArgs false
set_option linter.unusedVariables false
namespace Go.Proofs.YtbilpbabdgfblaaGreat
open Go.RowKit
def idxG {α:Type}[Inhabited α] (p:α→Bool) (l:List α):Int:=match (List.range l.length).find? (fun i=>p (el l i)) with|some i=>(i:Int)|none=>-1
section
variable {α:Type}[Inhabited α]
theorem idxG_at {p:α→Bool}{l:List α}{i:Nat}(hi:i<l.length) (h0:∀ j,j<i→p (el l j)=false) (h:p (el l i)=true):idxG p l=i:=by
  have:(List.range l.length).find? (fun i=>p (el l i))=some i:=by
    rw [List.find?_range_eq_some]
    exact ⟨h,by simpa using hi,fun j hj=>by simp [h0 j hj]⟩
  unfold idxG
  rw [this]
theorem idxG_none {p:α→Bool}{l:List α}(h0:∀ j,j<l.length→p (el l j)=false):idxG p l=-1:=by
  have:(List.range l.length).find? (fun i=>p (el l i))=none:=by
    rw [List.find?_eq_none]
    intro j hj
    rw [List.mem_range] at hj
    simp [h0 j hj]
  unfold idxG
  rw [this]
theorem idxG_any (p:α→Bool) (l:List α):decide (0≤idxG p l)=l.any p:=by
  cases h:l.any p
  · rw [List.any_eq_false] at h
    rw [idxG_none fun j hj=>by simpa using h _ (el_mem hj)]
    rfl
  · rw [List.any_eq_true] at h
    obtain ⟨x,hx,hp⟩:=h
    obtain ⟨i,hi,rfl⟩:=mem_el hx
    unfold idxG
    split
    · simp
    · rename_i h0
      rw [List.find?_eq_none] at h0
      have:=h0 i (by simpa using hi)
      simp [hp] at this
end
theorem indexD_p (l:List Dsn) {g:FuncId}{cap:List V}(hfn:FnOk Tryz.prog g) (hcap:V.closed.all cap=true) (p:Dsn→Bool) (hc:∀ x,x∈l→PCalls Tryz.prog g (x.enc::cap) (·=vb (p x))) :
    PCalls Tryz.prog 155 [encDsns l,.fn (.func g) [] cap] (·=vi (idxG p l)):=by
  (refine pcalls_know (fun I us h=>rel_len (rel_arg h (j:=0) rfl)) fun hlen0=>?_)
  refine pcalls_of_aw Tryz.func155 rfl (dc rfl) ?_
  (repeat' (first|(refine ar_isq ?_;refine zq ?_)|refine zst ?_|refine zco ?_ ?_|exact zd|(refine fun (hg:(_:Prop))=>?_;(try replace hg:=HG.out hg);(try dsimp only at hg);(try (have _h:True:=hg;clear _h hg)))))
  refine aw_for l.length (fun k=>∀ j,j<k→p (el l j)=false) (fun k=>[(0,encDsns l),(1,.fn (.func g) [] cap),(7,vi l.length),(8,vi k)]) (fun _=>[]) (fun j hj=>by omega) ?_ ?_
  · (exact zsb [] [])
  intro k hk hJ
  by_cases hkn:k<l.length
  · (repeat' (first|(refine ar_isq ?_;refine zq ?_)|refine zil (j:=k) ?_|refine zis (j:=k) ?_|refine zit (j:=k) ?_|(refine ar_pcall (own:=false) hfn rfl rfl (args_closed (vs:=_::cap) hcap) (hc _ (el_mem hkn)) (by simp) (dc rfl) ?_;intro _ hv;subst hv)|refine zst ?_|refine zco ?_ ?_|exact zd|(refine fun (hg:(_:Prop))=>?_;(try replace hg:=HG.out hg);(try dsimp only at hg);(try (have _h:True:=hg;clear _h hg)))))
    all_goals first
      | (exfalso;omega)
      | ((first|refine loop_next (by omega) ?_ ?_|refine (show _∧_∧SubOf _ _ _ _ _ _ from And.intro (by omega) (And.intro ?_ ?_)));(focus ((exact all_step hJ (by assumption));done));(focus (exact zsb [] [])))
      | ((refine aw_ret ?_;(repeat (first|refine ret_then ?_|refine ret_block ?_));refine bq1 rfl ⟨?_,rfl⟩);rw [idxG_at hkn hJ (by assumption)];try rfl)
      | trace_state
  · (repeat' (first|(refine ar_isq ?_;refine zq ?_)|refine zst ?_|refine zco ?_ ?_|exact zd|(refine fun (hg:(_:Prop))=>?_;(try replace hg:=HG.out hg);(try dsimp only at hg);(try (have _h:True:=hg;clear _h hg)))))
    all_goals first
      | (exfalso;omega)
      | ((refine aw_ret ?_;(repeat (first|refine ret_then ?_|refine ret_block ?_));refine bq1 rfl ⟨?_,rfl⟩);rw [idxG_none (fun j hj=>hJ j (by omega))];try rfl)
theorem containsD_p (l:List Dsn) {g:FuncId}{cap:List V}(hfn:FnOk Tryz.prog g) (hcap:V.closed.all cap=true) (p:Dsn→Bool) (hc:∀ x,x∈l→PCalls Tryz.prog g (x.enc::cap) (·=vb (p x))) :
    PCalls Tryz.prog 120 [encDsns l,.fn (.func g) [] cap] (·=vb (l.any p)):=by
  refine pcalls_of_aw Tryz.func120 rfl (dc rfl) ?_
  (repeat' (first|(refine ar_isq ?_;refine zq ?_)|(refine ar_pcall (own:=false) fn155 rfl rfl (.cons (.closed rfl) (.cons (.closed hcap) .nil)) (indexD_p l hfn hcap p hc) (by simp) (dc rfl) ?_;intro _ hv;subst hv)|refine zst ?_|refine zco ?_ ?_|exact zd|(refine fun (hg:(_:Prop))=>?_;(try replace hg:=HG.out hg);(try dsimp only at hg);(try (have _h:True:=hg;clear _h hg)))))
  (refine aw_ret ?_;(repeat (first|refine ret_then ?_|refine ret_block ?_));refine bq1 rfl ⟨?_,rfl⟩)
  rw [← idxG_any]
  rfl
theorem indexC_p (l:List Lic) {g:FuncId}{cap:List V}(hfn:FnOk Tryz.prog g) (hcap:V.closed.all cap=true) (p:Lic→Bool) (hc:∀ x,x∈l→PCalls Tryz.prog g (x.enc::cap) (·=vb (p x))) :
    PCalls Tryz.prog 156 [encLics l,.fn (.func g) [] cap] (·=vi (idxG p l)):=by
  (refine pcalls_know (fun I us h=>rel_len (rel_arg h (j:=0) rfl)) fun hlen0=>?_)
  refine pcalls_of_aw Tryz.func156 rfl (dc rfl) ?_
  (repeat' (first|(refine ar_isq ?_;refine zq ?_)|refine zst ?_|refine zco ?_ ?_|exact zd|(refine fun (hg:(_:Prop))=>?_;(try replace hg:=HG.out hg);(try dsimp only at hg);(try (have _h:True:=hg;clear _h hg)))))
  refine aw_for l.length (fun k=>∀ j,j<k→p (el l j)=false) (fun k=>[(0,encLics l),(1,.fn (.func g) [] cap),(7,vi l.length),(8,vi k)]) (fun _=>[]) (fun j hj=>by omega) ?_ ?_
  · (exact zsb [] [])
  intro k hk hJ
  by_cases hkn:k<l.length
  · (repeat' (first|(refine ar_isq ?_;refine zq ?_)|refine zil (j:=k) ?_|refine zis (j:=k) ?_|refine zit (j:=k) ?_|(refine ar_pcall (own:=false) hfn rfl rfl (args_closed (vs:=_::cap) hcap) (hc _ (el_mem hkn)) (by simp) (dc rfl) ?_;intro _ hv;subst hv)|refine zst ?_|refine zco ?_ ?_|exact zd|(refine fun (hg:(_:Prop))=>?_;(try replace hg:=HG.out hg);(try dsimp only at hg);(try (have _h:True:=hg;clear _h hg)))))
    all_goals first
      | (exfalso;omega)
      | ((first|refine loop_next (by omega) ?_ ?_|refine (show _∧_∧SubOf _ _ _ _ _ _ from And.intro (by omega) (And.intro ?_ ?_)));(focus ((exact all_step hJ (by assumption));done));(focus (exact zsb [] [])))
      | ((refine aw_ret ?_;(repeat (first|refine ret_then ?_|refine ret_block ?_));refine bq1 rfl ⟨?_,rfl⟩);rw [idxG_at hkn hJ (by assumption)];try rfl)
      | trace_state
  · (repeat' (first|(refine ar_isq ?_;refine zq ?_)|refine zst ?_|refine zco ?_ ?_|exact zd|(refine fun (hg:(_:Prop))=>?_;(try replace hg:=HG.out hg);(try dsimp only at hg);(try (have _h:True:=hg;clear _h hg)))))
    all_goals first
      | (exfalso;omega)
      | ((refine aw_ret ?_;(repeat (first|refine ret_then ?_|refine ret_block ?_));refine bq1 rfl ⟨?_,rfl⟩);rw [idxG_none (fun j hj=>hJ j (by omega))];try rfl)
theorem containsC_p (l:List Lic) {g:FuncId}{cap:List V}(hfn:FnOk Tryz.prog g) (hcap:V.closed.all cap=true) (p:Lic→Bool) (hc:∀ x,x∈l→PCalls Tryz.prog g (x.enc::cap) (·=vb (p x))) :
    PCalls Tryz.prog 123 [encLics l,.fn (.func g) [] cap] (·=vb (l.any p)):=by
  refine pcalls_of_aw Tryz.func123 rfl (dc rfl) ?_
  (repeat' (first|(refine ar_isq ?_;refine zq ?_)|(refine ar_pcall (own:=false) fn156 rfl rfl (.cons (.closed rfl) (.cons (.closed hcap) .nil)) (indexC_p l hfn hcap p hc) (by simp) (dc rfl) ?_;intro _ hv;subst hv)|refine zst ?_|refine zco ?_ ?_|exact zd|(refine fun (hg:(_:Prop))=>?_;(try replace hg:=HG.out hg);(try dsimp only at hg);(try (have _h:True:=hg;clear _h hg)))))
  (refine aw_ret ?_;(repeat (first|refine ret_then ?_|refine ret_block ?_));refine bq1 rfl ⟨?_,rfl⟩)
  rw [← idxG_any]
  rfl
theorem cloneC_p (l:List Lic) (hl:l.length≤1000):FCalls Tryz.prog 117 [encLics l] 4 (fun n f=>n=l.length∧∀ i,i<n→f i=Lic.enc (el l i)):=by
  refine fcalls_of_aw Tryz.func117 rfl (dc rfl) ?_
  (repeat' (first|(refine ar_isq ?_;refine zq ?_)|(refine ar_eqnil (ty rfl) rfl rfl rfl (dc rfl) ?_;intro bq hbq)|refine zst ?_|refine zco ?_ ?_|exact zd|(refine fun (hg:(_:Prop))=>?_;(try replace hg:=HG.out hg);(try dsimp only at hg);(try (have _h:True:=hg;clear _h hg)))))
  · have h0:=hbq (by assumption)
    (refine aw_mono_r (env':=[(2,.sl 4 0 0 0)]) (H':=[.arr 4 0 (fun _=>vi 0)]) ?_ ?_;(focus (exact zsb [none] [])))
    refine aw_ret (ret_then (bq1 rfl ⟨0,_,rfl,rfl,⟨by omega,fun i hi=>by omega⟩,fun i hi=>by omega⟩))
  · refine aw_ret (bq1 rfl ⟨0+l.length,_,rfl,rfl,⟨Nat.zero_add _,fun i hi=>by rw [appF_ge (Nat.zero_le _),Nat.sub_zero]⟩,fun i hi=>by rw [appF_ge (Nat.zero_le _)];rfl⟩)
theorem cloneO_p (l:List Ordr) (hl:l.length≤1000):FCalls Tryz.prog 118 [encOrders l] 4 (fun n f=>n=l.length∧∀ i,i<n→f i=Ordr.enc (el l i)):=by
  refine fcalls_of_aw Tryz.func118 rfl (dc rfl) ?_
  (repeat' (first|(refine ar_isq ?_;refine zq ?_)|(refine ar_eqnil (ty rfl) rfl rfl rfl (dc rfl) ?_;intro bq hbq)|refine zst ?_|refine zco ?_ ?_|exact zd|(refine fun (hg:(_:Prop))=>?_;(try replace hg:=HG.out hg);(try dsimp only at hg);(try (have _h:True:=hg;clear _h hg)))))
  · have h0:=hbq (by assumption)
    (refine aw_mono_r (env':=[(2,.sl 4 0 0 0)]) (H':=[.arr 4 0 (fun _=>vi 0)]) ?_ ?_;(focus (exact zsb [none] [])))
    refine aw_ret (ret_then (bq1 rfl ⟨0,_,rfl,rfl,⟨by omega,fun i hi=>by omega⟩,fun i hi=>by omega⟩))
  · refine aw_ret (bq1 rfl ⟨0+l.length,_,rfl,rfl,⟨Nat.zero_add _,fun i hi=>by rw [appF_ge (Nat.zero_le _),Nat.sub_zero]⟩,fun i hi=>by rw [appF_ge (Nat.zero_le _)];rfl⟩)
theorem cloneB_p (l:List (List Int)) (hl:l.length≤1000):FCalls Tryz.prog 154 [encRows l] 1 (fun n f=>n=l.length∧∀ i,i<n→f i=encInts (el l i)):=by
  refine fcalls_of_aw Tryz.func154 rfl (dc rfl) ?_
  (repeat' (first|(refine ar_isq ?_;refine zq ?_)|(refine ar_eqnil (ty rfl) rfl rfl rfl (dc rfl) ?_;intro bq hbq)|refine zst ?_|refine zco ?_ ?_|exact zd|(refine fun (hg:(_:Prop))=>?_;(try replace hg:=HG.out hg);(try dsimp only at hg);(try (have _h:True:=hg;clear _h hg)))))
  · have h0:=hbq (by assumption)
    (refine aw_mono_r (env':=[(2,.sl 1 0 0 0)]) (H':=[.arr 1 0 (fun _=>vi 0)]) ?_ ?_;(focus (exact zsb [none] [])))
    refine aw_ret (ret_then (bq1 rfl ⟨0,_,rfl,rfl,⟨by omega,fun i hi=>by omega⟩,fun i hi=>by omega⟩))
  · refine aw_ret (bq1 rfl ⟨0+l.length,_,rfl,rfl,⟨Nat.zero_add _,fun i hi=>by rw [appF_ge (Nat.zero_le _),Nat.sub_zero]⟩,fun i hi=>by rw [appF_ge (Nat.zero_le _)];rfl⟩)
def Dsn.cs (d:Dsn) (v:V):V:=.agg [vi d.owner,vi d.sheet.cols,vi d.sheet.rows,vi d.sheet.weight,vi d.sheet.clear,vi d.sheet.lean,v]
def SmallB (b:List (List Int)):Prop:=b.length≤1000∧∀ l,l∈b→l.length≤1000
theorem htwin_p (d:Dsn) (hs:SmallB d.band):PCalls Tryz.prog 116 [d.enc] (·=d.enc):=by
  obtain ⟨hb,hl⟩:=hs
  refine pcalls_of_aw Tryz.func116 rfl (dc rfl) ?_
  (repeat' (first|(refine ar_isq ?_;refine zq ?_)|(refine ar_fcall fn154 rfl rfl (.cons (.closed rfl) .nil) (cloneB_p d.band hb) (dc rfl) ?_;rintro n0 g0 ⟨rfl,hg0⟩)|refine zcl ?_|refine zcs ?_|refine zst ?_|refine aw_drawn (id:=5) [(0,0),(1,0),(2,0),(3,0),(4,0),(5,0),(6,1),(7,0),(8,2)] mixed (by kernel_rfl) ?_|refine zco ?_ ?_|exact zd|(refine fun (hg:(_:Prop))=>?_;(try replace hg:=HG.out hg);(try dsimp only at hg);(try (have _h:True:=hg;clear _h hg)))))
  refine aw_for d.band.length (fun _=>True) (fun k=>[(1,.ptr 7 0 0 0),(2,.ptr 7 1 0 0),(10,.sl 1 2 0 d.band.length),(11,vi d.band.length),(12,vi k)]) (fun _=>[.arr 7 1 (fun _=>d.cs (.sl 1 2 0 d.band.length)),.arr 7 1 (fun _=>Dsn.enc ⟨0,⟨0,0,0,0,0⟩,[]⟩),LB 1 encInts d.band]) trivial ?_ ?_
  · (refine sub_to [some 0,some 1,some 2] [] rfl ?_ ?_<;>(repeat' (first|exact trivial|refine ⟨⟨_,rfl,?_⟩,?_⟩|refine vs1 ?_ ?_|refine vs2 ?_ ?_|refine vs3 ?_|refine vs4 ?_ ?_|refine ⟨.inl ⟨_,_,rfl,rfl,?_⟩,?_⟩|exact ⟨.inr ⟨rfl,rfl⟩,trivial⟩|refine ⟨.inr ⟨rfl,rfl⟩,?_⟩|(intro _ _)|exact vz1|(first|exact VSub.of_eq (hg0 _ (by assumption)) rfl|exact VSub.aggL ⟨.closed rfl,.closed rfl,.closed rfl,.closed rfl,.closed rfl,.closed rfl,.sl rfl,trivial⟩|exact VSub.aggL ⟨.closed rfl,.closed rfl,.closed rfl,.closed rfl,.closed rfl,.closed rfl,.nilList,trivial⟩)|exact vz2|fail)))
  clear hg0 g0
  intro k hk _
  by_cases hlt:k<d.band.length
  · have hll:=hl _ (el_mem hlt)
    (repeat' (first|(refine ar_isq ?_;refine zq ?_)|refine zil (j:=k) ?_|refine zis (j:=k) ?_|refine zit (j:=k) ?_|refine ar_q (qs_slice00 (ty rfl) rfl (ty rfl) rfl rfl rfl) (dc rfl) ?_|refine zcl ?_|refine zcs ?_|refine zst ?_|refine aw_drawn (id:=5) [(0,0),(1,0),(2,0),(3,0),(4,0),(5,0),(6,1),(7,0),(8,2)] mixed (by kernel_rfl) ?_|refine zco ?_ ?_|exact zd|(refine fun (hg:(_:Prop))=>?_;(try replace hg:=HG.out hg);(try dsimp only at hg);(try (have _h:True:=hg;clear _h hg)))))
    all_goals first
      | (exfalso;omega)
      | ((first|refine loop_next (by omega) ?_ ?_|refine (show _∧_∧SubOf _ _ _ _ _ _ from And.intro (by omega) (And.intro ?_ ?_)));(focus ((exact trivial);done));(focus (exact zsc [some 0,some 1,some 2] [3])))
      | trace_state
  · (repeat' (first|(refine ar_isq ?_;refine zq ?_)|refine zcl ?_|refine zcs ?_|refine zst ?_|refine aw_drawn (id:=5) [(0,0),(1,0),(2,0),(3,0),(4,0),(5,0),(6,1),(7,0),(8,2)] mixed (by kernel_rfl) ?_|refine zco ?_ ?_|exact zd|(refine fun (hg:(_:Prop))=>?_;(try replace hg:=HG.out hg);(try dsimp only at hg);(try (have _h:True:=hg;clear _h hg)))))
    all_goals first
      | (exfalso;omega)
      | ((refine aw_mono_r (env':=[(2,.ptr 7 0 0 0)]) (H':=[.arr 7 1 (fun _=>d.enc)]) ?_ ?_;(focus (exact zsc [some 1] [2])))
         refine aw_ret ?_
         exact bq1c (f:=fun _=>d.enc) (v:=d.enc) (ty rfl) rfl rfl Nat.one_pos rfl ⟨rfl,rfl⟩)
      | trace_state
theorem good_p (d:Dsn):PCalls Tryz.prog 122 [d.enc] (·=vb (decide (GoodD d))):=by
  have e0:∀ b:Bool,(b=true↔GoodD d)→vb b=vb (decide (GoodD d)):=fun b h=>by
    by_cases hg:GoodD d
    · rw [decide_eq_true hg,h.2 hg]
    · rw [decide_eq_false hg];cases b with|false=>rfl|true=>exact (hg (h.1 rfl)).elim
  refine pcalls_of_aw Tryz.func122 rfl (dc rfl) ?_
  (repeat' (first|(refine ar_isq ?_;refine zq ?_)|(((refine ar_subk_l (sub_frzL (t:=7) vi ([d.owner]) rfl rfl rfl rfl (fun _ _=>rfl) (fun _=>rfl)) ?_);refine zpv fn56 (hfrom_p _ _ [d.owner]) ?_))|refine ar_buildLE vi ([d.owner]) (by exact ty rfl) (by exact rfl) (by exact ty rfl) (by exact rfl) (by exact rfl) (by exact Nat.succ_pos _) (by exact rfl) (by exact dc rfl) (by exact rfl) (by exact fun _=>⟨rfl,rfl⟩) (by exact dc rfl) ?_|(refine zpv fn58 (check_p d.sheet d.band) ?_)|(refine zpv fn109 (lGap_p d.sheet d.band) ?_)|refine zg ?_ ?_|refine zgu ?_|refine zst ?_|refine zco ?_ ?_|(refine fun (hg:(_:Prop))=>?_;first|exact absurd hg (by decide)|((try replace hg:=HG.out hg);(try dsimp only at hg);(try rw [fromB_one] at hg);(try rw [withinB_iff] at hg);(try rw [withinB_no] at hg);(try (have _h:True:=hg;clear _h hg));first|(exfalso;omega)|skip))))
  all_goals first
    | (exfalso;omega)
    | ((refine aw_mono_r (env':=[(2,vb false)]) (H':=[]) ?_ ?_;(focus (exact zsb [] [])));(refine aw_ret ?_;(repeat (first|refine ret_then ?_|refine ret_block ?_));refine bq1 rfl ⟨?_,rfl⟩);refine e0 false ⟨fun h=>(by cases h),fun h=>?_⟩;unfold GoodD at h;omega)
    | ((refine aw_mono_r (env':=[(2,vb true)]) (H':=[]) ?_ ?_;(focus (exact zsb [] [])));(refine aw_ret ?_;(repeat (first|refine ret_then ?_|refine ret_block ?_));refine bq1 rfl ⟨?_,rfl⟩);refine e0 true ⟨fun _=>?_,fun _=>rfl⟩;unfold GoodD;omega)
    | ((refine aw_mono_r (env':=[(2,vb (decide (0<gapF d.sheet d.band)))]) (H':=[]) ?_ ?_;(focus (exact zsb [] [])));(refine aw_ret ?_;(repeat (first|refine ret_then ?_|refine ret_block ?_));refine bq1 rfl ⟨?_,rfl⟩);refine e0 _ ⟨fun h=>?_,fun h=>?_⟩;(focus (have:=of_decide_eq_true h;unfold GoodD;omega));(focus (unfold GoodD at h;exact decide_eq_true (by omega))))
    | trace_state
structure Tal where
  a:Int
  b:Int
  c:Int
instance:Inhabited Tal:=⟨⟨0,0,0⟩⟩
def Tal.enc (t:Tal):V:=.agg [vi t.a,vi t.b,vi t.c]
def shoC (a b c d e f g:Nat) (h:Hse):List V:=[vi h.per,vi h.day,vi h.store.life,.sl 5 a 0 h.store.items.length,.sl 2 b 0 h.store.prints.length,.sl 7 c 0 h.designs.length,.sl 4 d 0 h.lics.length,.sl 4 e 0 h.orders.length,.sl 1 f 0 h.made.length,.sl 1 g 0 h.fors.length]
def shoV (a b c d e f g q:Nat) (h:Hse):V:=.agg (shoC a b c d e f g h++[.map q])
def shoB (h:Hse) (m:List (Int × Tal)):Heap:=[.arr 11 1 (fun _=>shoV 1 2 3 4 5 6 7 8 h),LB 5 Itm.enc h.store.items,LB 2 Prt.enc h.store.prints,LB 7 Dsn.enc h.designs,LB 4 Lic.enc h.lics,LB 4 Ordr.enc h.orders,LB 1 vi h.made,LB 1 vi h.fors,mapE Tal.enc m]
theorem shoB_live {h:Hse}{m:List (Int × Tal)}:∀ b∈shoB h m,b≠.dead:=by simp [shoB,LB,mapE]
structure ShoAt (H:Heap) (p a b c d e f g q:Nat) (h:Hse) (m:List (Int × Tal)):Prop where
  p:H[p]?=some (.arr 11 1 (fun _=>shoV a b c d e f g q h)):=by exact rfl
  a:H[a]?=some (LB 5 Itm.enc h.store.items):=by exact rfl
  b:H[b]?=some (LB 2 Prt.enc h.store.prints):=by exact rfl
  c:H[c]?=some (LB 7 Dsn.enc h.designs):=by exact rfl
  d:H[d]?=some (LB 4 Lic.enc h.lics):=by exact rfl
  e:H[e]?=some (LB 4 Ordr.enc h.orders):=by exact rfl
  f:H[f]?=some (LB 1 vi h.made):=by exact rfl
  g:H[g]?=some (LB 1 vi h.fors):=by exact rfl
  q:H[q]?=some (mapE Tal.enc m):=by exact rfl
section
variable {H:Heap}{p a b c d e f g q:Nat}{h:Hse}{m:List (Int × Tal)}
theorem ShoAt.lent (hA:ShoAt H p a b c d e f g q h m):LentV H (.ptr 11 p 0 0) (.ref h.enc 0) :=
  .ptrL [.map q] hA.p ⟨.closed rfl,.closed rfl,.closed rfl,.row hA.a rfl (fun _=>rfl),.row hA.b rfl (fun _=>rfl),.row hA.c rfl (fun _=>rfl),.row hA.d rfl (fun _=>rfl),.row hA.e rfl (fun _=>rfl),.row hA.f rfl (fun _=>rfl),.row hA.g rfl (fun _=>rfl),trivial⟩
theorem ShoAt.hsub (hA:ShoAt H p a b c d e f g q h m):HSub H ([p,a,b,c,d,e,f,g,q].map some) (·∈([]:List Nat)) 0 (shoB h m) :=
  ⟨.inl ⟨p,_,rfl,hA.p,fun _ _=>VSub.aggL ⟨.closed rfl,.closed rfl,.closed rfl,.sl rfl,.sl rfl,.sl rfl,.sl rfl,.sl rfl,.sl rfl,.sl rfl,.map rfl,trivial⟩⟩,
    .inl ⟨a,_,rfl,hA.a,fun _ _=>.closed rfl⟩,.inl ⟨b,_,rfl,hA.b,fun _ _=>.closed rfl⟩,.inl ⟨c,_,rfl,hA.c,fun _ _=>.closed rfl⟩,.inl ⟨d,_,rfl,hA.d,fun _ _=>.closed rfl⟩,.inl ⟨e,_,rfl,hA.e,fun _ _=>.closed rfl⟩,.inl ⟨f,_,rfl,hA.f,fun _ _=>.closed rfl⟩,.inl ⟨g,_,rfl,hA.g,fun _ _=>.closed rfl⟩,bsub_mapE rfl hA.q (fun _=>rfl),trivial⟩
theorem ShoAt.same {n:Nat}(hA:ShoAt H p a b c d e f g q h m):SameAt H (rn [p,a,b,c,d,e,f,g,q] n) [p,a,b,c,d,e,f,g,q] (shoB h m) :=
  ⟨hA.p,hA.a,hA.b,hA.c,hA.d,hA.e,hA.f,hA.g,by rw [mapE_renE fun _=>rfl];exact hA.q,trivial⟩
end
section
variable {r:Option Nat}{mm nt i dd:Nat}{Q:Post}{env:Env}{H:Heap}{ops:Array Oper}{L:List Stp}{ty:TypeId}{pos:String}{after:Array Edge}{ats:Array TypeId}{x:Operand}{keep:Bool}{p a b c d e f g q:Nat}
theorem ar_read {fo:Operand}{args:List Operand}{fi:FuncId}{us:List V}(h:Hse) (m:List (Int × Tal)) {R:V→Prop}(hc:PCalls Tryz.prog fi (.ref h.enc 0::us) R) (hfn:FnOk Tryz.prog fi) (hflat:∀ v,R v→v.flat=true) (hk:∀ v,R v→AR Tryz.prog r mm nt ops Q L ((dd,v)::env) H)
    (hf:eo env fo=some (.fn (.func fi) [] []):=by exact rfl) (hargs:args.mapM (eo env)=some (.ptr 11 p 0 0::us):=by exact rfl) (hA:ShoAt H p a b c d e f g q h m:=by exact {}) (hu:V.closed.all us=true:=by exact rfl) (hd:dd<nt:=by exact dc rfl) :
    AR Tryz.prog r mm nt ops Q (.l i ⟨some dd,.call ⟨.value fo,args.toArray,ats⟩,ty,pos,after,none⟩ keep::L) env H:=by
  have hl:∀ l:List V,V.closed.all l=true→LentL H l l:=fun l=>by
    induction l with
    | nil=>intro _;trivial
    | cons v l ih=>intro hcl;simp only [V.closed.all,Bool.and_eq_true] at hcl;exact ⟨.closed hcl.1,ih hcl.2⟩
  refine ar_lcall (first:=[]) (cap:=[]) hfn hf hargs (zs:=.ref h.enc 0::us) ?_ hc hflat hd hk
  rw [List.append_nil]
  exact ⟨hA.lent,hl us hu⟩
theorem ar_still {fo:Operand}{args:List Operand}{fi:FuncId}{us:List V}(h:Hse) (m:List (Int × Tal)) {R Rp:V→Prop}(hc:ACalls Tryz.prog fi (.ptr 11 0 0 0::us) (shoB h m) (fun v H'=>R v∧H'=shoB h m) (fun v _=>Rp v)) (hfn:FnOk Tryz.prog fi)
    (hk:∀ v,R v→AR Tryz.prog r mm nt ops Q L ((dd,v.ren (rn [p,a,b,c,d,e,f,g,q] H.length))::env) H) (hp:∀ v H1,Rp v→Q (.panic (v.ren (rn [p,a,b,c,d,e,f,g,q] H.length))) [] H1)
    (hf:eo env fo=some (.fn (.func fi) [] []):=by exact rfl) (hargs:args.mapM (eo env)=some (.ptr 11 p 0 0::us):=by exact rfl) (hA:ShoAt H p a b c d e f g q h m:=by exact {}) (hu:V.closed.all us=true:=by exact rfl) (hd:dd<nt:=by exact dc rfl) (hn:[p,a,b,c,d,e,f,g,q].Nodup:=by decide) :
    AR Tryz.prog r mm nt ops Q (.l i ⟨some dd,.call ⟨.value fo,args.toArray,ats⟩,ty,pos,after,none⟩ false::L) env H:=by
  have hl:∀ l:List V,V.closed.all l=true→ArgsSub H [p,a,b,c,d,e,f,g,q] [] l l:=fun l=>by
    induction l with
    | nil=>intro _;trivial
    | cons v l ih=>intro hcl;simp only [V.closed.all,Bool.and_eq_true] at hcl;exact ⟨.closed hcl.1,ih hcl.2⟩
  refine ar_gsame [p,a,b,c,d,e,f,g,q] (first:=[]) (cap:=[]) hfn hf hargs hc ?_ hn shoB_live hA.hsub hA.same hd hk hp
  rw [List.append_nil]
  exact ⟨.ptr rfl,hl us hu⟩
end
def HSmall (h:Hse):Prop:=h.store.items.length≤1000∧h.store.prints.length≤1000∧h.designs.length≤1000∧h.lics.length≤1000∧h.orders.length≤1000∧h.made.length≤1000∧h.fors.length≤1000∧∀ d,d∈h.designs→SmallB d.band
theorem lastF_bnd {s:Sheet}{b:List (List Int)}{per:Int}(he:lastErr s b per=0):0≤lastF s b per∧lastF s b per≤30000:=by
  have h1:=he
  unfold lastErr at h1
  unfold lastF
  rw [if_pos he]
  split at h1
  · rename_i hg
    split at h1
    · rename_i hp
      rw [withinB_iff] at hp
      split at h1
      · omega
      · have hgo:=gap_ok hg
        have:=last_bnd (g:=gapF s b) (p:=per) (by omega) hp
        omega
    · omega
  · rename_i hg
    exact (hg h1).elim
theorem vb_iff {b:Bool}{P:Prop}[Decidable P] (h:b=true↔P):vb b=vb (decide P):=by
  by_cases hg:P
  · rw [decide_eq_true hg,h.2 hg]
  · rw [decide_eq_false hg];cases b with|false=>rfl|true=>exact (hg (h.1 rfl)).elim
theorem design_p (h:Hse) (n:Int) (hs:HSmall h):PCalls Tryz.prog 125 [.ref h.enc 0,vi n] (·=vb (decide (inDesigns h n))):=by
  unfold HSmall at hs
  refine pcalls_of_aw Tryz.func125 rfl (dc rfl) ?_
  (repeat' (first|(refine ar_isq ?_;refine zq ?_)|(((refine ar_subk_l (sub_frzL (t:=13) vi ([n]) rfl rfl rfl rfl (fun _ _=>rfl) (fun _=>rfl)) ?_);refine zpv fn56 (hfrom_p _ _ [n]) ?_))|refine ar_buildLE vi ([n]) (by exact ty rfl) (by exact rfl) (by exact ty rfl) (by exact rfl) (by exact rfl) (by exact Nat.succ_pos _) (by exact rfl) (by exact dc rfl) (by exact rfl) (by exact fun _=>⟨rfl,rfl⟩) (by exact dc rfl) ?_|refine zst ?_|refine zco ?_ ?_|exact zd|(refine fun (hg:(_:Prop))=>?_;(try replace hg:=HG.out hg);(try dsimp only at hg);(try (have _h:True:=hg;clear _h hg)))))
  (refine aw_ret ?_;(repeat (first|refine ret_then ?_|refine ret_block ?_));refine bq1 rfl ⟨?_,rfl⟩)
  refine vb_iff ?_
  rw [fromB_one,withinB_iff]
  unfold inDesigns
  omega
theorem order_p (h:Hse) (n:Int) (hs:HSmall h):PCalls Tryz.prog 53 [.ref h.enc 0,vi n] (·=vb (decide (inOrders h n))):=by
  unfold HSmall at hs
  refine pcalls_of_aw Tryz.func53 rfl (dc rfl) ?_
  (repeat' (first|(refine ar_isq ?_;refine zq ?_)|(((refine ar_subk_l (sub_frzL (t:=13) vi ([n]) rfl rfl rfl rfl (fun _ _=>rfl) (fun _=>rfl)) ?_);refine zpv fn56 (hfrom_p _ _ [n]) ?_))|refine ar_buildLE vi ([n]) (by exact ty rfl) (by exact rfl) (by exact ty rfl) (by exact rfl) (by exact rfl) (by exact Nat.succ_pos _) (by exact rfl) (by exact dc rfl) (by exact rfl) (by exact fun _=>⟨rfl,rfl⟩) (by exact dc rfl) ?_|refine zst ?_|refine zco ?_ ?_|exact zd|(refine fun (hg:(_:Prop))=>?_;(try replace hg:=HG.out hg);(try dsimp only at hg);(try (have _h:True:=hg;clear _h hg)))))
  (refine aw_ret ?_;(repeat (first|refine ret_then ?_|refine ret_block ?_));refine bq1 rfl ⟨?_,rfl⟩)
  refine vb_iff ?_
  rw [fromB_one,withinB_iff]
  unfold inOrders
  omega
theorem allows_p (h:Hse) (n:Int) (hn:inDesigns h n):PCalls Tryz.prog 126 [.ref h.enc 0,vi n] (·=vi (allowsF h.per h.store.life (el h.designs n.toNat))):=by
  unfold inDesigns at hn
  have hb:lastErr (el h.designs n.toNat).sheet (el h.designs n.toNat).band h.per=0→0≤lastF (el h.designs n.toNat).sheet (el h.designs n.toNat).band h.per∧lastF (el h.designs n.toNat).sheet (el h.designs n.toNat).band h.per≤1000000:=fun he=>by have:=lastF_bnd he;omega
  refine pcalls_of_aw Tryz.func126 rfl (dc rfl) ?_
  (repeat' (first|(refine ar_isq ?_;refine zq ?_)|refine zil (j:=n.toNat) ?_|refine zis (j:=n.toNat) ?_|refine zit (j:=n.toNat) ?_|(refine zpv fn64 (lLasts_p (el h.designs n.toNat).sheet (el h.designs n.toNat).band h.per) ?_)|refine zst ?_|refine aw_drawn (id:=2) [(0,0),(1,0),(2,0),(3,0),(4,0),(5,0),(6,0),(7,0),(8,0),(9,1),(10,0),(11,0),(12,0),(13,0),(14,0)] mixed (by kernel_rfl) ?_|refine aw_drawn (id:=2) [(0,0),(1,0),(2,0),(3,0),(4,0),(5,0),(6,0),(7,0),(8,0),(9,2),(10,0),(11,0),(12,0),(13,0),(14,0)] mixed (by kernel_rfl) ?_|refine zco ?_ ?_|exact zd|(refine fun (hg:(_:Prop))=>?_;(try replace hg:=HG.out hg);(try dsimp only at hg);(try (have _h:True:=hg;clear _h hg)))))
  · (refine aw_ret ?_;(repeat (first|refine ret_then ?_|refine ret_block ?_));refine bq1 rfl ⟨?_,rfl⟩)
    unfold allowsF
    rw [if_neg (by omega)]
  · (refine aw_ret ?_;(repeat (first|refine ret_then ?_|refine ret_block ?_));refine bq1 rfl ⟨?_,rfl⟩)
    unfold allowsF
    rw [if_pos (by omega)]
    rfl
theorem arch1_p (d:Dsn):PCalls Tryz.prog 121 [d.enc] (·=vb (!decide (GoodD d))):=by
  refine pcalls_of_aw Tryz.func121 rfl (dc rfl) ?_
  (repeat' (first|(refine ar_isq ?_;refine zq ?_)|(refine zpv fn122 (good_p d) ?_)|refine zst ?_|refine zco ?_ ?_|exact zd|(refine fun (hg:(_:Prop))=>?_;(try replace hg:=HG.out hg);(try dsimp only at hg);(try (have _h:True:=hg;clear _h hg)))))
  (refine aw_ret ?_;(repeat (first|refine ret_then ?_|refine ret_block ?_));refine bq1 rfl ⟨?_,rfl⟩)
  rfl
theorem inD_iff {h:Hse}{n:Int}:inDesigns h n↔(0≤n∧n<(h.designs.length:Int)):=Iff.rfl
theorem inO_iff {h:Hse}{n:Int}:inOrders h n↔(0≤n∧n<(h.orders.length:Int)):=Iff.rfl
theorem arch2_p (h:Hse) (l:Lic) (hs:HSmall h):PCalls Tryz.prog 124 [l.enc,.ref (.ref h.enc 0) 0] (·=vb (!decide (LicOk h l))):=by
  have key:∀ b:Bool,(b=false↔LicOk h l)→vb b=vb (!decide (LicOk h l)):=fun b hb=>by
    by_cases hg:LicOk h l
    · rw [decide_eq_true hg,hb.2 hg];rfl
    · rw [decide_eq_false hg];cases b with|true=>rfl|false=>exact (hg (hb.1 rfl)).elim
  refine pcalls_of_aw Tryz.func124 rfl (dc rfl) ?_
  (repeat' (first|(refine ar_isq ?_;refine zq ?_)|refine zil (j:=l.design.toNat) ?_|refine zis (j:=l.design.toNat) ?_|refine zit (j:=l.design.toNat) ?_|(refine zpv fn125 (design_p h l.design hs) ?_)|(((refine ar_subk_l (sub_frzL (t:=12) vi ([l.client]) rfl rfl rfl rfl (fun _ _=>rfl) (fun _=>rfl)) ?_);refine zpv fn56 (hfrom_p _ _ [l.client]) ?_))|(((refine ar_subk_l (sub_frzL (t:=34) vi ([l.til]) rfl rfl rfl rfl (fun _ _=>rfl) (fun _=>rfl)) ?_);refine zpv fn56 (hfrom_p _ _ [l.til]) ?_))|(((refine ar_subk_l (sub_frzL (t:=41) vi ([l.left]) rfl rfl rfl rfl (fun _ _=>rfl) (fun _=>rfl)) ?_);refine zpv fn56 (hfrom_p _ _ [l.left]) ?_))|refine ar_buildLE vi ([_]) (by exact ty rfl) (by exact rfl) (by exact ty rfl) (by exact rfl) (by exact rfl) (by exact Nat.succ_pos _) (by exact rfl) (by exact dc rfl) (by exact rfl) (by exact fun _=>⟨rfl,rfl⟩) (by exact dc rfl) ?_|refine zg ?_ ?_|refine zgu ?_|refine zst ?_|refine aw_drawn (id:=1) [(0,0),(1,0),(2,0),(3,1),(4,0),(5,0),(6,0),(7,0),(8,1),(9,1),(10,0),(11,0),(12,0),(13,0),(14,0),(15,0),(16,0),(17,0),(18,0),(19,0),(20,0),(21,0),(22,0),(23,0),(24,0),(25,0),(26,0),(27,0),(28,0),(29,0),(30,1),(31,1),(32,0),(33,0),(34,0),(35,0),(36,0),(37,1),(38,1),(39,0),(40,0),(41,0)] mixed (by kernel_rfl) ?_|refine aw_drawn (id:=1) [(0,0),(1,0),(2,0),(3,2),(4,0),(5,0),(6,0),(7,0),(8,1),(9,2),(10,0),(11,0),(12,0),(13,0),(14,0),(15,0),(16,0),(17,0),(18,0),(19,0),(20,0),(21,0),(22,0),(23,0),(24,0),(25,0),(26,0),(27,0),(28,0),(29,0),(30,1),(31,2),(32,0),(33,0),(34,0),(35,0),(36,0),(37,1),(38,2),(39,0),(40,0),(41,0)] mixed (by kernel_rfl) ?_|refine zco ?_ ?_|(refine fun (hg:(_:Prop))=>?_;first|exact absurd hg (by decide)|((try replace hg:=HG.out hg);(try dsimp only at hg);(try rw [fromB_one] at hg);(try rw [withinB_iff] at hg);(try rw [withinB_no] at hg);(try rw [inD_iff] at hg);(try rw [inO_iff] at hg);(try (have _h:True:=hg;clear _h hg));first|(exfalso;omega)|skip))))
  all_goals first
    | (exfalso;omega)
    | ((refine aw_mono_r (env':=[(3,vb true)]) (H':=[]) ?_ ?_;(focus (exact zsb [] [])));(refine aw_ret ?_;(repeat (first|refine ret_then ?_|refine ret_block ?_));refine bq1 rfl ⟨?_,rfl⟩);refine key true ⟨fun h=>(by cases h),fun hL=>?_⟩;unfold LicOk inDesigns at hL;omega)
    | ((refine aw_ret ?_;(repeat (first|refine ret_then ?_|refine ret_block ?_));refine bq1 rfl ⟨?_,rfl⟩)
       refine key _ ⟨fun hb=>?_,fun hL=>?_⟩
       · have h1:fromB 0 400 [l.left]=true:=by simpa using hb
         rw [fromB_one,withinB_iff] at h1
         unfold LicOk inDesigns
         omega
       · unfold LicOk inDesigns at hL
         have h1:fromB 0 400 [l.left]=true:=by rw [fromB_one,withinB_iff];omega
         rw [h1];rfl)
    | trace_state
def ArchOk (h:Hse):Prop:=(h.designs.length≤8∧h.lics.length≤20)∧(∀ d,d∈h.designs→GoodD d)∧∀ l,l∈h.lics→LicOk h l
theorem archived_p (h:Hse) (hs:HSmall h):PCalls Tryz.prog 81 [.ref h.enc 0] (fun v=>∃ b:Bool,v=vb b∧(b=true↔ArchOk h)):=by
  have e1:(!h.designs.any fun d=>!decide (GoodD d))=true↔∀ d,d∈h.designs→GoodD d:=by simp
  have e3:(∀ d,d∈h.designs→GoodD d)→(h.designs.any fun d=>!decide (GoodD d))=false:=fun hh=>by
    have:=e1.2 hh
    cases hq:(h.designs.any fun d=>!decide (GoodD d)) with
    | false=>rfl
    | true=>rw [hq] at this;cases this
  have e2:(!h.lics.any fun l=>!decide (LicOk h l))=true↔∀ l,l∈h.lics→LicOk h l:=by simp
  refine pcalls_of_aw Tryz.func81 rfl (dc rfl) ?_
  (repeat' (first|(refine ar_isq ?_;refine zq ?_)|(refine zpv fn120 (containsD_p h.designs fn121 rfl _ (fun x _=>arch1_p x)) ?_)|(((refine ar_sub_l (env':=[(31,encLics h.lics),(32,.fn (.func 124) [] [.ref (.ref h.enc 0) 0]),(26,vb true)]) (H':=[]) ?_ ?_;(focus ((refine sub_to [] [0] rfl ?_ ?_<;>(repeat' (first|exact trivial|refine ⟨⟨_,rfl,?_⟩,?_⟩|refine vs1 ?_ ?_|refine vs2 ?_ ?_|refine vs3 ?_|refine vs4 ?_ ?_|refine ⟨.inl ⟨_,_,rfl,rfl,?_⟩,?_⟩|exact ⟨.inr ⟨rfl,rfl⟩,trivial⟩|refine ⟨.inr ⟨rfl,rfl⟩,?_⟩|(intro _ _)|exact vz1|(exact fn1_sub (frzPtr' (List.mem_singleton.2 rfl) rfl Nat.one_pos rfl rfl))|exact vz2|fail)));done)));refine zpv fn123 (containsC_p h.lics fn124 rfl _ (fun x _=>arch2_p h x hs)) ?_))|refine zg ?_ ?_|refine zgu ?_|refine zst ?_|refine zco ?_ ?_|exact zd|(refine fun (hg:(_:Prop))=>?_;(try replace hg:=HG.out hg);(try dsimp only at hg);(try (have _h:True:=hg;clear _h hg)))))
  all_goals first
    | (exfalso;omega)
    | ((refine aw_ret ?_;(repeat (first|refine ret_then ?_|refine ret_block ?_));refine bq1 rfl ⟨?_,rfl⟩);refine ⟨_,rfl,⟨fun hb=>?_,fun hL=>?_⟩⟩;(focus (first|(cases hb;done)|(refine ⟨by omega,e1.1 (by simp_all),e2.1 (by simp_all)⟩)));(focus (first|(exact absurd hL.1 (by omega))|(exact absurd ((e3 hL.2.1).symm.trans (by assumption)) (by decide))|(have a1:=e1.2 hL.2.1;have a2:=e2.2 hL.2.2;simp_all;done))))
    | trace_state
def talAt (m:List (Int × Tal)) (n:Int):Tal:=(getE m n).getD ⟨0,0,0⟩
def Tal.bump (t:Tal) (st k:Int):Tal:=if st=0 then ⟨t.a+k,t.b,t.c⟩ else if st=1 then ⟨t.a,t.b+k,t.c⟩ else ⟨t.a,t.b,t.c+k⟩
theorem talAt_put (m:List (Int × Tal)) (a b:Int) (t:Tal):talAt (putE m a t) b=if b=a then t else talAt m b:=by
  unfold talAt
  rw [getE_put]
  split<;>rfl
def TalOk (h:Hse) (m:List (Int × Tal)):Prop:=∀ n:Int,talAt m n=⟨doneF h n 0,doneF h n 1,doneF h n 2⟩
def talTo (h:Hse):Nat→List (Int × Tal)
  | 0=>[]
  | k+1=>putE (talTo h k) (el h.fors k) ((talAt (talTo h k) (el h.fors k)).bump (el h.store.prints k).state 1)
theorem doneTo_step {h:Hse}{n st:Int}{k:Nat}:doneTo h n st (k+1)=doneTo h n st k+(if el h.fors k=n∧(el h.store.prints k).state=st then 1 else 0):=by
  unfold doneTo
  by_cases hc:el h.fors k=n∧(el h.store.prints k).state=st
  · rw [if_pos hc,cntB_yes (p:=fun j=>decide (el h.fors j=n)&&decide ((el h.store.prints j).state=st)) (by simp [hc.1,hc.2])]
  · rw [if_neg hc,cntB_no (p:=fun j=>decide (el h.fors j=n)&&decide ((el h.store.prints j).state=st)) (by
      by_cases h1:el h.fors k=n
      · have h2:¬ (el h.store.prints k).state=st:=fun h2=>hc ⟨h1,h2⟩
        simp [h2]
      · simp [h1])]
    omega
theorem talTo_at {h:Hse}:∀ {k:Nat},(∀ j,j<k→0≤(el h.store.prints j).state∧(el h.store.prints j).state≤2)→∀ n:Int,talAt (talTo h k) n=⟨doneTo h n 0 k,doneTo h n 1 k,doneTo h n 2 k⟩
  | 0,_,n=>rfl
  | k+1,hk,n=>by
    have ih:=talTo_at (h:=h) (k:=k) fun j hj=>hk j (by omega)
    have hst:=hk k (by omega)
    rw [talTo,talAt_put,doneTo_step,doneTo_step,doneTo_step]
    by_cases hn:n=el h.fors k
    · subst hn
      rw [if_pos rfl,ih]
      unfold Tal.bump
      have h3:(el h.store.prints k).state=0∨(el h.store.prints k).state=1∨(el h.store.prints k).state=2:=by omega
      rcases h3 with h3|h3|h3<;>simp [h3]
    · rw [if_neg hn,ih,if_neg (fun e=>hn e.1.symm),if_neg (fun e=>hn e.1.symm),if_neg (fun e=>hn e.1.symm)]
      simp
theorem doneTo_bnd (h:Hse) (n st:Int) (k:Nat):0≤doneTo h n st k∧doneTo h n st k≤k:=by
  induction k with
  | zero=>exact ⟨Int.le_refl _,Int.le_refl _⟩
  | succ k ih =>
    rw [doneTo_step]
    split<;>omega
def Tal.small (t:Tal):Prop:=(-100000≤t.a∧t.a≤100000)∧(-100000≤t.b∧t.b≤100000)∧(-100000≤t.c∧t.c≤100000)
section
variable {P:Program}{r:Option Nat}{mm nt:Nat}{Q:Post}{env:Env}{H:Heap}{ops:Array Oper}{L:List Stp}{ty:TypeId}{pos:String}{after:Array Edge}{T K E:TypeId}{d dk de:TyD}{x y:Operand}
theorem ar_lookupT {i f b:Nat}{m:List (Int × Tal)}{a:Int}(h:AR P r mm nt ops Q L ((f,Tal.enc (talAt m a))::env) H) (ht:TyIs P T d) (hk:d.tk=.map K E) (hK:TyIs P K dk) (hkk:dk.tk=.int .i64) (hE:TyIs P E de) (hz:constV de.zero=Tal.enc ⟨0,0,0⟩) (hx:eo env x=some (.map b)) (hy:eo env y=some (.s (.int .i64 a))) (hH:H[b]?=some (mapE Tal.enc m)) (hd:f<nt) :
    AR P r mm nt ops Q (.q i ⟨some f,.lookup T x y false,ty,pos,after,none⟩::L) env H :=
  ar_lookup (e:=Tal.enc) (ok:=false) ht hk hK hkk hE hx hy hH hd (fun v hv=>by
    have:talAt m a=v:=by unfold talAt;rw [hv];rfl
    rw [this] at h
    exact h) (fun hn=>by
    have:talAt m a=⟨0,0,0⟩:=by unfold talAt;rw [hn];rfl
    rw [this] at h
    show AR P r mm nt ops Q L ((f,constV de.zero)::env) H
    rw [hz]
    exact h)
end
theorem count_p (h:Hse) (m:List (Int × Tal)) (n st k:Int) (hst:st=0∨st=1∨st=2) (hs:(talAt m n).small) (hk:-1000≤k∧k≤1000) :
    ACalls Tryz.prog 127 [.ptr 11 0 0 0,vi n,vu8 st,vi k] (shoB h m) (fun v H=>v=.tup []∧H=shoB h (putE m n ((talAt m n).bump st k))) NoP:=by
  obtain ⟨h1,h2,h3⟩:=hs
  have e0:∀ x,st=x→vu8 st=vu8 x:=fun x e=>by rw [e]
  rcases hst with rfl|rfl|rfl
  · refine acalls_of_aw Tryz.func127 rfl (dc rfl) ?_;refine aw_post ?_
    (repeat' (first|(refine ar_isq ?_;refine zq ?_)|refine ar_lookupT ?_ (ty rfl) rfl (ty rfl) rfl (ty rfl) rfl rfl rfl rfl (dc rfl)|refine ar_q (qs_iaddr_aptr (j:=0) (ty rfl) rfl (ty rfl) rfl rfl rfl (dc rfl)) (dc rfl) ?_|refine ar_mapUpdate (e:=Tal.enc) (v:=⟨(talAt m n).a+k,(talAt m n).b,(talAt m n).c⟩) (ty rfl) rfl (ty rfl) rfl rfl rfl rfl rfl ?_|refine zst ?_|refine aw_drawn (id:=2) [(0,0),(1,0),(2,0),(3,0),(4,0),(5,0),(6,2)] mixed (by kernel_rfl) ?_|refine zco ?_ ?_|exact zd|(refine fun (hg:(_:Prop))=>?_;(try replace hg:=HG.out hg);(try dsimp only at hg);(try (have _h:True:=hg;clear _h hg)))))
    (refine subq_n [] [.arr 11 1 (fun _=>shoV 1 2 3 4 5 6 7 8 h),LB 5 Itm.enc h.store.items,LB 2 Prt.enc h.store.prints,LB 7 Dsn.enc h.designs,LB 4 Lic.enc h.lics,LB 4 Ordr.enc h.orders,LB 1 vi h.made,LB 1 vi h.fors,mapE Tal.enc (putE m n ((talAt m n).bump 0 k))] ?_ ?_;(focus (exact zsc [some 0,some 1,some 2,some 3,some 4,some 5,some 6,some 7,some 8] [])))
    exact bq0n ⟨rfl,rfl⟩
  · refine acalls_of_aw Tryz.func127 rfl (dc rfl) ?_;refine aw_post ?_
    (repeat' (first|(refine ar_isq ?_;refine zq ?_)|refine ar_lookupT ?_ (ty rfl) rfl (ty rfl) rfl (ty rfl) rfl rfl rfl rfl (dc rfl)|refine ar_q (qs_iaddr_aptr (j:=1) (ty rfl) rfl (ty rfl) rfl rfl rfl (dc rfl)) (dc rfl) ?_|refine ar_mapUpdate (e:=Tal.enc) (v:=⟨(talAt m n).a,(talAt m n).b+k,(talAt m n).c⟩) (ty rfl) rfl (ty rfl) rfl rfl rfl rfl rfl ?_|refine zst ?_|refine aw_drawn (id:=2) [(0,0),(1,0),(2,0),(3,0),(4,0),(5,0),(6,2)] mixed (by kernel_rfl) ?_|refine zco ?_ ?_|exact zd|(refine fun (hg:(_:Prop))=>?_;(try replace hg:=HG.out hg);(try dsimp only at hg);(try (have _h:True:=hg;clear _h hg)))))
    (refine subq_n [] [.arr 11 1 (fun _=>shoV 1 2 3 4 5 6 7 8 h),LB 5 Itm.enc h.store.items,LB 2 Prt.enc h.store.prints,LB 7 Dsn.enc h.designs,LB 4 Lic.enc h.lics,LB 4 Ordr.enc h.orders,LB 1 vi h.made,LB 1 vi h.fors,mapE Tal.enc (putE m n ((talAt m n).bump 1 k))] ?_ ?_;(focus (exact zsc [some 0,some 1,some 2,some 3,some 4,some 5,some 6,some 7,some 8] [])))
    exact bq0n ⟨rfl,rfl⟩
  · refine acalls_of_aw Tryz.func127 rfl (dc rfl) ?_;refine aw_post ?_
    (repeat' (first|(refine ar_isq ?_;refine zq ?_)|refine ar_lookupT ?_ (ty rfl) rfl (ty rfl) rfl (ty rfl) rfl rfl rfl rfl (dc rfl)|refine ar_q (qs_iaddr_aptr (j:=2) (ty rfl) rfl (ty rfl) rfl rfl rfl (dc rfl)) (dc rfl) ?_|refine ar_mapUpdate (e:=Tal.enc) (v:=⟨(talAt m n).a,(talAt m n).b,(talAt m n).c+k⟩) (ty rfl) rfl (ty rfl) rfl rfl rfl rfl rfl ?_|refine zst ?_|refine aw_drawn (id:=2) [(0,0),(1,0),(2,0),(3,0),(4,0),(5,0),(6,2)] mixed (by kernel_rfl) ?_|refine zco ?_ ?_|exact zd|(refine fun (hg:(_:Prop))=>?_;(try replace hg:=HG.out hg);(try dsimp only at hg);(try (have _h:True:=hg;clear _h hg)))))
    (refine subq_n [] [.arr 11 1 (fun _=>shoV 1 2 3 4 5 6 7 8 h),LB 5 Itm.enc h.store.items,LB 2 Prt.enc h.store.prints,LB 7 Dsn.enc h.designs,LB 4 Lic.enc h.lics,LB 4 Ordr.enc h.orders,LB 1 vi h.made,LB 1 vi h.fors,mapE Tal.enc (putE m n ((talAt m n).bump 2 k))] ?_ ?_;(focus (exact zsc [some 0,some 1,some 2,some 3,some 4,some 5,some 6,some 7,some 8] [])))
    exact bq0n ⟨rfl,rfl⟩
section
variable {r:Option Nat}{mm nt i dd:Nat}{Q:Post}{env:Env}{H:Heap}{ops:Array Oper}{L:List Stp}{ty:TypeId}{pos:String}{after:Array Edge}{ats:Array TypeId}{p a b c d e f g q:Nat}
theorem join_sho {h:Hse}{m m':List (Int × Tal)}(hA:ShoAt H p a b c d e f g q h m) (hn:[p,a,b,c,d,e,f,g,q].Nodup):joinH [p,a,b,c,d,e,f,g,q] [] H (shoB h m')=H.set q (mapE Tal.enc m'):=by
  have hq:q<H.length:=(List.getElem?_eq_some_iff.1 hA.q).1
  have other:∀ {k:Nat} {x:Blk},k≠q→H[k]?=some x→(H.set q (mapE Tal.enc m'))[k]?=some x:=fun {k x} hk hx=>by rw [List.getElem?_set_ne (Ne.symm hk)];exact hx
  simp only [List.nodup_cons,List.mem_cons,not_or,List.not_mem_nil] at hn
  obtain ⟨⟨_,_,_,_,_,_,_,pq,_⟩,⟨_,_,_,_,_,_,aq,_⟩,⟨_,_,_,_,_,bq,_⟩,⟨_,_,_,_,cq,_⟩,⟨_,_,_,dq,_⟩,⟨_,_,eq,_⟩,⟨_,fq,_⟩,⟨gq,_⟩,_⟩:=hn
  have hs:SameAt (H.set q (mapE Tal.enc m')) (rn [p,a,b,c,d,e,f,g,q] H.length) [p,a,b,c,d,e,f,g,q] (shoB h m') :=
    ⟨other pq hA.p,other aq hA.a,other bq hA.b,other cq hA.c,other dq hA.d,other eq hA.e,other fq hA.f,other gq hA.g,by rw [mapE_renE fun _=>rfl];simp [hq],trivial⟩
  obtain ⟨hl,hs'⟩:=sameAt_get hs
  have:=joinH_is (L:=[]) hl (List.length_set ..) (fun k hk=>by
    by_cases e:k=q
    · subst e
      exact (idxOf_none hk (by simp)).elim
    · rw [List.getElem?_set_ne (Ne.symm e)]) hs'
  simpa using this
theorem ar_count (h:Hse) (m:List (Int × Tal)) {n st k:Int}{ox oy oz ou:Operand}(hst:st=0∨st=1∨st=2) (hs:(talAt m n).small) (hk:-1000≤k∧k≤1000) (hnx:AR Tryz.prog r mm nt ops Q L ((dd,.tup [])::env) (H.set q (mapE Tal.enc (putE m n ((talAt m n).bump st k)))))
    (hargs:[ox,oy,oz,ou].mapM (eo env)=some [.ptr 11 p 0 0,vi n,vu8 st,vi k]:=by exact rfl) (hA:ShoAt H p a b c d e f g q h m:=by exact {}) (hd:dd<nt:=by exact dc rfl) (hn:[p,a,b,c,d,e,f,g,q].Nodup:=by decide) :
    AR Tryz.prog r mm nt ops Q (.l i ⟨some dd,.call ⟨.value (.func 127),#[ox,oy,oz,ou],ats⟩,ty,pos,after,none⟩ false::L) env H:=by
  refine ar_gcall (H0:=shoB h m) [p,a,b,c,d,e,f,g,q] [] (args:=[ox,oy,oz,ou]) (first:=[]) (cap:=[]) fn127 rfl hargs (xs:=[.ptr 11 0 0 0,vi n,vu8 st,vi k]) ⟨.ptr rfl,.closed rfl,.closed rfl,.closed rfl,trivial⟩ rfl hn (fun _ h=>by cases h) hA.hsub shoB_live (count_p h m n st k hst hs hk) hd ?_ (fun _ _ h=>h.elim)
  rintro _ _ ⟨rfl,rfl⟩
  rw [join_sho hA hn]
  exact hnx
end
theorem vsub_to {α:Type}[Inhabited α] {H:Heap}{σ:List (Option Nat)}{fr:Nat→Prop}{k i:Nat}{e:α→V}{L:List α}{g:Nat→V}(hik:i<k+1) (hv:g 0=e (el L k)) (hc:∀ y,(e y).closed=true):VSub H σ fr (appF k (fun i=>e (el L i)) g i) (e (el L i)):=by
  by_cases h:i<k
  · rw [appF_lt h];exact .closed (hc _)
  · obtain rfl:i=k:=by omega
    rw [appF_ge (Nat.le_refl _),Nat.sub_self,hv]
    exact .closed (hc _)
def opH (h:Hse) (k:Nat):V:=.agg [vi h.per,vi h.day,vi h.store.life,.sl 5 3 0 h.store.items.length,.sl 2 4 0 h.store.prints.length,.sl 7 5 0 k,encLics h.lics,encOrders h.orders,encInts h.made,encInts h.fors,.map 1]
theorem hopen_p (h:Hse) (hs:HSmall h):ACalls Tryz.prog 79 [h.enc] [] (fun v H=>v=.ptr 11 0 0 0∧H=shoB h []) NoP:=by
  have hs0:=hs
  unfold HSmall at hs
  obtain ⟨s1,s2,s3,s4,s5,s6,s7,s8⟩:=hs
  refine acalls_of_aw Tryz.func79 rfl (dc rfl) ?_
  (repeat' (first|(refine ar_isq ?_;refine zq ?_)|(refine zbt ?_)|refine ar_makeMap (dc rfl) ?_|(refine ar_fcall fn114 rfl rfl (.cons (.closed rfl) .nil) (cloneI_p h.store.items (by omega)) (dc rfl) ?_;rintro n0 g0 ⟨rfl,hg0⟩)|(refine ar_fcall fn115 rfl rfl (.cons (.closed rfl) .nil) (cloneP_p h.store.prints (by omega)) (dc rfl) ?_;rintro n1 g1 ⟨rfl,hg1⟩)|refine zst ?_|refine aw_drawn (id:=2) [(0,0),(1,0),(2,0),(3,0),(4,0),(6,0),(7,0),(8,0),(5,1),(9,1),(10,0),(11,0),(12,0),(13,0),(14,2),(15,0),(16,0),(17,0),(18,0),(19,2)] mixed (by kernel_rfl) ?_|refine aw_drawn (id:=7) [(0,0),(1,0),(2,0),(3,0),(4,0),(5,0),(6,0),(7,1),(8,1),(9,1),(10,0),(11,0),(12,0),(13,2)] mixed (by kernel_rfl) ?_|refine aw_drawn (id:=9) [(0,0),(1,0),(2,0),(3,0),(5,0),(6,0),(4,1),(7,1),(8,0),(9,0),(10,0),(11,2),(12,0),(13,0),(14,0),(15,2)] mixed (by kernel_rfl) ?_|refine aw_drawn (id:=10) [(0,0),(1,0),(2,0),(3,0),(5,0),(6,0),(4,1),(7,1),(8,0),(9,0),(10,0),(11,2),(12,0),(13,0),(14,0),(15,2)] mixed (by kernel_rfl) ?_|refine zco ?_ ?_|exact zd|(refine fun (hg:(_:Prop))=>?_;(try replace hg:=HG.out hg);(try dsimp only at hg);(try (have _h:True:=hg;clear _h hg)))))
  refine aw_for h.designs.length (fun _=>True) (fun k=>[(1,.ptr 10 0 0 0),(3,.ptr 11 2 0 0),(33,encDsns h.designs),(34,vi h.designs.length),(35,vi k)]) (fun k=>[.arr 10 1 (fun _=>h.enc),mapE Tal.enc [],.arr 11 1 (fun _=>opH h k),LB 5 Itm.enc h.store.items,LB 2 Prt.enc h.store.prints,.arr 7 k (fun i=>Dsn.enc (el h.designs i))]) trivial ?_ ?_
  · (refine sub_to [some 0,some 1,some 2,some 3,some 4,none] [] rfl ?_ ?_<;>(repeat' (first|exact trivial|refine ⟨⟨_,rfl,?_⟩,?_⟩|refine vs1 ?_ ?_|refine vs2 ?_ ?_|refine vs3 ?_|refine vs4 ?_ ?_|refine ⟨.inl ⟨_,_,rfl,rfl,?_⟩,?_⟩|exact ⟨.inr ⟨rfl,rfl⟩,trivial⟩|refine ⟨.inr ⟨rfl,rfl⟩,?_⟩|(intro _ _)|exact vz1|(first|exact VSub.of_eq (hg0 _ (by assumption)) rfl|exact VSub.of_eq (hg1 _ (by assumption)) rfl|refine ⟨bsub_mapE rfl rfl (fun _=>rfl),?_⟩|exact VSub.aggL ⟨.closed rfl,.closed rfl,.closed rfl,.sl rfl,.sl rfl,.nil rfl,.closed rfl,.closed rfl,.closed rfl,.closed rfl,.map rfl,trivial⟩)|exact vz2|fail)))
  clear hg0 hg1 g0 g1
  intro k hk _
  by_cases hlt:k<h.designs.length
  · have hsm:=s8 _ (el_mem hlt)
    (repeat' (first|(refine ar_isq ?_;refine zq ?_)|refine zil (j:=k) ?_|refine zis (j:=k) ?_|refine zit (j:=k) ?_|(refine zbt ?_)|(refine zpv fn116 (htwin_p (el h.designs k) hsm) ?_)|refine zst ?_|refine aw_drawn (id:=2) [(0,0),(1,0),(2,0),(3,0),(4,0),(6,0),(7,0),(8,0),(5,1),(9,1),(10,0),(11,0),(12,0),(13,0),(14,2),(15,0),(16,0),(17,0),(18,0),(19,2)] mixed (by kernel_rfl) ?_|refine aw_drawn (id:=7) [(0,0),(1,0),(2,0),(3,0),(4,0),(5,0),(6,0),(7,1),(8,1),(9,1),(10,0),(11,0),(12,0),(13,2)] mixed (by kernel_rfl) ?_|refine aw_drawn (id:=9) [(0,0),(1,0),(2,0),(3,0),(5,0),(6,0),(4,1),(7,1),(8,0),(9,0),(10,0),(11,2),(12,0),(13,0),(14,0),(15,2)] mixed (by kernel_rfl) ?_|refine aw_drawn (id:=10) [(0,0),(1,0),(2,0),(3,0),(5,0),(6,0),(4,1),(7,1),(8,0),(9,0),(10,0),(11,2),(12,0),(13,0),(14,0),(15,2)] mixed (by kernel_rfl) ?_|refine zco ?_ ?_|exact zd|(refine fun (hg:(_:Prop))=>?_;(try replace hg:=HG.out hg);(try dsimp only at hg);(try (have _h:True:=hg;clear _h hg)))))
    all_goals first
      | (exfalso;omega)
      | ((first|refine loop_next (by omega) ?_ ?_|refine (show _∧_∧SubOf _ _ _ _ _ _ from And.intro (by omega) (And.intro ?_ ?_)));(focus ((exact trivial);done));(focus ((refine sub_to [some 0,some 1,some 2,some 3,some 4,some 8] [] rfl ?_ ?_<;>(repeat' (first|exact trivial|refine ⟨⟨_,rfl,?_⟩,?_⟩|refine vs1 ?_ ?_|refine vs2 ?_ ?_|refine vs3 ?_|refine vs4 ?_ ?_|refine ⟨.inl ⟨_,_,rfl,rfl,?_⟩,?_⟩|exact ⟨.inr ⟨rfl,rfl⟩,trivial⟩|refine ⟨.inr ⟨rfl,rfl⟩,?_⟩|(intro _ _)|exact vz1|(first|exact vsub_to (e:=Dsn.enc) (by assumption) rfl (fun _=>rfl)|refine ⟨bsub_mapE rfl rfl (fun _=>rfl),?_⟩|exact VSub.aggL ⟨.closed rfl,.closed rfl,.closed rfl,.sl rfl,.sl rfl,.sl rfl,.closed rfl,.closed rfl,.closed rfl,.closed rfl,.map rfl,trivial⟩)|exact vz2|fail)));done)))
      | trace_state
  · obtain rfl:k=h.designs.length:=by omega
    (repeat' (first|(refine ar_isq ?_;refine zq ?_)|(refine zbt ?_)|(refine ar_fcall fn117 rfl rfl (.cons (.closed rfl) .nil) (cloneC_p h.lics (by omega)) (dc rfl) ?_;rintro n2 g2 ⟨rfl,hg2⟩)|(refine ar_fcall fn118 rfl rfl (.cons (.closed rfl) .nil) (cloneO_p h.orders (by omega)) (dc rfl) ?_;rintro n3 g3 ⟨rfl,hg3⟩)|(refine ar_fcall fn119 rfl rfl (.cons (.closed rfl) .nil) (clone_p h.made (by omega)) (dc rfl) ?_;rintro n4 g4 ⟨rfl,hg4⟩)|(refine ar_fcall fn119 rfl rfl (.cons (.closed rfl) .nil) (clone_p h.fors (by omega)) (dc rfl) ?_;rintro n5 g5 ⟨rfl,hg5⟩)|refine zst ?_|refine aw_drawn (id:=2) [(0,0),(1,0),(2,0),(3,0),(4,0),(6,0),(7,0),(8,0),(5,1),(9,1),(10,0),(11,0),(12,0),(13,0),(14,2),(15,0),(16,0),(17,0),(18,0),(19,2)] mixed (by kernel_rfl) ?_|refine aw_drawn (id:=7) [(0,0),(1,0),(2,0),(3,0),(4,0),(5,0),(6,0),(7,1),(8,1),(9,1),(10,0),(11,0),(12,0),(13,2)] mixed (by kernel_rfl) ?_|refine aw_drawn (id:=9) [(0,0),(1,0),(2,0),(3,0),(5,0),(6,0),(4,1),(7,1),(8,0),(9,0),(10,0),(11,2),(12,0),(13,0),(14,0),(15,2)] mixed (by kernel_rfl) ?_|refine aw_drawn (id:=10) [(0,0),(1,0),(2,0),(3,0),(5,0),(6,0),(4,1),(7,1),(8,0),(9,0),(10,0),(11,2),(12,0),(13,0),(14,0),(15,2)] mixed (by kernel_rfl) ?_|refine zco ?_ ?_|exact zd|(refine fun (hg:(_:Prop))=>?_;(try replace hg:=HG.out hg);(try dsimp only at hg);(try (have _h:True:=hg;clear _h hg)))))
    all_goals first
      | (exfalso;omega)
      | ((refine aw_mono_r (env':=[(2,.ptr 11 0 0 0)]) (H':=[.arr 11 1 (fun _=>shoV 1 2 3 4 5 6 7 8 h),LB 5 Itm.enc h.store.items,LB 2 Prt.enc h.store.prints,LB 7 Dsn.enc h.designs,LB 4 Lic.enc h.lics,LB 4 Ordr.enc h.orders,LB 1 vi h.made,LB 1 vi h.fors,mapE Tal.enc []]) ?_ ?_;(focus ((refine sub_to [some 2,some 3,some 4,some 5,some 6,some 7,some 8,some 9,some 1] [] rfl ?_ ?_<;>(repeat' (first|exact trivial|refine ⟨⟨_,rfl,?_⟩,?_⟩|refine vs1 ?_ ?_|refine vs2 ?_ ?_|refine vs3 ?_|refine vs4 ?_ ?_|refine ⟨.inl ⟨_,_,rfl,rfl,?_⟩,?_⟩|exact ⟨.inr ⟨rfl,rfl⟩,trivial⟩|refine ⟨.inr ⟨rfl,rfl⟩,?_⟩|(intro _ _)|exact vz1|(first|exact VSub.of_eq (hg2 _ (by assumption)) rfl|exact VSub.of_eq (hg3 _ (by assumption)) rfl|exact VSub.of_eq (hg4 _ (by assumption)) rfl|exact VSub.of_eq (hg5 _ (by assumption)) rfl|refine ⟨bsub_mapE rfl rfl (fun _=>rfl),?_⟩|exact VSub.aggL ⟨.closed rfl,.closed rfl,.closed rfl,.sl rfl,.sl rfl,.sl rfl,.sl rfl,.sl rfl,.sl rfl,.sl rfl,.map rfl,trivial⟩)|exact vz2|fail)));done)))
         refine aw_ret ?_
         exact bq1 rfl ⟨rfl,rfl⟩)
      | trace_state
def MadeOk (h:Hse):Prop:=h.made.length=h.store.items.length∧∀ i,i<h.store.items.length→MadeAt h i
theorem hmade_p (h:Hse) (hs:HSmall h) (hV:Valid h.store):PCalls Tryz.prog 82 [.ref h.enc 0] (fun v=>∃ b:Bool,v=vb b∧(b=true↔MadeOk h)):=by
  have hs0:=hs
  unfold HSmall at hs
  refine pcalls_of_aw Tryz.func82 rfl (dc rfl) ?_
  (repeat' (first|(refine ar_isq ?_;refine zq ?_)|refine zg ?_ ?_|refine zgu ?_|refine zst ?_|refine aw_drawn (id:=1) [(0,0),(1,0),(2,0),(3,0),(4,0),(5,0),(6,0),(7,0),(8,0),(9,0),(10,0),(11,0),(12,0),(13,0)] mixed (by kernel_rfl) ?_|refine aw_drawn (id:=6) [(0,0),(1,0),(2,0),(3,0),(4,0),(5,0),(6,0),(7,0),(8,0),(9,1),(10,0),(11,0),(12,0),(13,0),(14,0),(15,0),(16,0),(17,0),(18,0),(19,0),(20,0),(21,0),(22,0),(23,0),(24,0),(25,0),(26,0),(27,0),(28,0),(29,0),(30,0),(31,0),(32,0),(33,0),(34,0),(35,0),(36,0),(37,0),(38,0),(39,0),(40,0),(41,0),(42,0),(43,0),(44,0),(45,0),(46,0),(47,0),(48,0),(49,0),(50,0),(51,0),(52,1),(53,0),(54,0),(55,0)] mixed (by kernel_rfl) ?_|refine zco ?_ ?_|(refine fun (hg:(_:Prop))=>?_;first|exact absurd hg (by decide)|((try replace hg:=HG.out hg);(try dsimp only at hg);(try rw [inD_iff] at hg);(try (have _h:True:=hg;clear _h hg));first|(exfalso;omega)|skip))))
  · (refine aw_ret ?_;(repeat (first|refine ret_then ?_|refine ret_block ?_));refine bq1 rfl ⟨?_,rfl⟩)
    exact ⟨false,rfl,⟨fun h=>(by cases h),fun hM=>by have:=hM.1;omega⟩⟩
  · refine aw_for h.store.items.length (fun k=>∀ j,j<k→MadeAt h j) (fun k=>[(0,.ref h.enc 0),(24,encItems h.store.items),(25,vi h.store.items.length),(26,vi k)]) (fun _=>[]) (fun j hj=>by omega) ?_ ?_
    · (exact zsb [] [])
    intro k hk hJ
    by_cases hlt:k<h.store.items.length
    · have hm:=hV.2.1 k hlt
      unfold Made at hm
      (repeat' (first|(refine ar_isq ?_;refine zq ?_)|refine zil (j:=k) ?_|refine zis (j:=k) ?_|refine zit (j:=k) ?_|refine zil (j:=(el h.store.items k).src.toNat) ?_|refine zis (j:=(el h.store.items k).src.toNat) ?_|refine zit (j:=(el h.store.items k).src.toNat) ?_|(refine zpv fn125 (design_p h (el h.made k) hs0) ?_)|(refine zpv fn126 (allows_p h (el h.made k) (by assumption)) ?_)|refine zg ?_ ?_|refine zgu ?_|refine zst ?_|refine aw_drawn (id:=1) [(0,0),(1,0),(2,0),(3,0),(4,0),(5,0),(6,0),(7,0),(8,0),(9,0),(10,0),(11,0),(12,0),(13,0)] mixed (by kernel_rfl) ?_|refine aw_drawn (id:=6) [(0,0),(1,0),(2,0),(3,0),(4,0),(5,0),(6,0),(7,0),(8,0),(9,1),(10,0),(11,0),(12,0),(13,0),(14,0),(15,0),(16,0),(17,0),(18,0),(19,0),(20,0),(21,0),(22,0),(23,0),(24,0),(25,0),(26,0),(27,0),(28,0),(29,0),(30,0),(31,0),(32,0),(33,0),(34,0),(35,0),(36,0),(37,0),(38,0),(39,0),(40,0),(41,0),(42,0),(43,0),(44,0),(45,0),(46,0),(47,0),(48,0),(49,0),(50,0),(51,0),(52,1),(53,0),(54,0),(55,0)] mixed (by kernel_rfl) ?_|refine zco ?_ ?_|(refine fun (hg:(_:Prop))=>?_;first|exact absurd hg (by decide)|((try replace hg:=HG.out hg);(try dsimp only at hg);(try rw [inD_iff] at hg);(try (have _h:True:=hg;clear _h hg));first|(exfalso;omega)|skip))))
      all_goals first
        | (exfalso;omega)
        | ((refine aw_mono_r (env':=[(2,vb false)]) (H':=[]) ?_ ?_;(focus (exact zsb [] [])));(refine aw_ret ?_;(repeat (first|refine ret_then ?_|refine ret_block ?_));refine bq1 rfl ⟨?_,rfl⟩);refine ⟨false,rfl,⟨fun h=>(by cases h),fun hM=>?_⟩⟩;obtain ⟨h1,h2,h3⟩:=hM.2 k hlt;unfold inDesigns at h1;first|omega|(have:=h2 (by omega);omega)|(have:=h3 (by omega);omega))
        | ((first|refine loop_next (by omega) ?_ ?_|refine (show _∧_∧SubOf _ _ _ _ _ _ from And.intro (by omega) (And.intro ?_ ?_)));(focus (((refine all_step hJ ⟨?_,fun _=>?_,fun _=>?_⟩<;>first|assumption|omega));done));(focus (exact zsb [] [])))
        | trace_state
    · (repeat' (first|(refine ar_isq ?_;refine zq ?_)|refine zg ?_ ?_|refine zgu ?_|refine zst ?_|refine aw_drawn (id:=1) [(0,0),(1,0),(2,0),(3,0),(4,0),(5,0),(6,0),(7,0),(8,0),(9,0),(10,0),(11,0),(12,0),(13,0)] mixed (by kernel_rfl) ?_|refine aw_drawn (id:=6) [(0,0),(1,0),(2,0),(3,0),(4,0),(5,0),(6,0),(7,0),(8,0),(9,1),(10,0),(11,0),(12,0),(13,0),(14,0),(15,0),(16,0),(17,0),(18,0),(19,0),(20,0),(21,0),(22,0),(23,0),(24,0),(25,0),(26,0),(27,0),(28,0),(29,0),(30,0),(31,0),(32,0),(33,0),(34,0),(35,0),(36,0),(37,0),(38,0),(39,0),(40,0),(41,0),(42,0),(43,0),(44,0),(45,0),(46,0),(47,0),(48,0),(49,0),(50,0),(51,0),(52,1),(53,0),(54,0),(55,0)] mixed (by kernel_rfl) ?_|refine zco ?_ ?_|(refine fun (hg:(_:Prop))=>?_;first|exact absurd hg (by decide)|((try replace hg:=HG.out hg);(try dsimp only at hg);(try rw [inD_iff] at hg);(try (have _h:True:=hg;clear _h hg));first|(exfalso;omega)|skip))))
      all_goals first
        | (exfalso;omega)
        | ((refine aw_ret ?_;(repeat (first|refine ret_then ?_|refine ret_block ?_));refine bq1 rfl ⟨?_,rfl⟩);exact ⟨true,rfl,⟨fun _=>⟨by omega,fun j hj=>hJ j (by omega)⟩,fun _=>rfl⟩⟩)
        | trace_state
def OrdersOk (h:Hse):Prop:=(h.orders.length≤30∧h.fors.length=h.store.prints.length)∧(∀ j,j<h.fors.length→ForAt h j)∧∀ i,i<h.orders.length→OrdAt h i
def StOk (s:Sto):Prop:=∀ j,j<s.prints.length→0≤(el s.prints j).state
def OrderedR (h:Hse) (v:V) (H:Heap):Prop:=(v=vb true∧OrdersOk h∧∃ m,TalOk h m∧H=shoB h m)∨(v=vb false∧¬ OrdersOk h)
theorem tal_small {h:Hse}{k:Nat}(hst:∀ j,j<k→0≤(el h.store.prints j).state∧(el h.store.prints j).state≤2) (hk:k≤1000) (n:Int):(talAt (talTo h k) n).small:=by
  rw [talTo_at hst]
  have h0:=doneTo_bnd h n 0 k
  have h1:=doneTo_bnd h n 1 k
  have h2:=doneTo_bnd h n 2 k
  refine ⟨?_,?_,?_⟩<;>dsimp only<;>omega
theorem hordered_p (h:Hse) (hs:HSmall h) (hV:Valid h.store) (hM:MadeOk h) (hw:StOk h.store):ACalls Tryz.prog 83 [.ptr 11 0 0 0] (shoB h []) (OrderedR h) NoP:=by
  have hs0:=hs
  unfold HSmall at hs
  have hml:=hM.1
  refine acalls_of_aw Tryz.func83 rfl (dc rfl) ?_
  (repeat' (first|(refine ar_isq ?_;refine zq ?_)|refine zg ?_ ?_|refine zgu ?_|refine zst ?_|refine aw_drawn (id:=1) [(0,0),(1,0),(2,0),(3,0),(4,0),(5,0),(6,0),(7,0),(8,0),(9,0),(10,0),(11,0),(12,0),(13,0),(14,0),(15,0),(16,0),(17,0),(18,0),(19,0),(20,0),(21,0),(22,0)] mixed (by kernel_rfl) ?_|refine aw_drawn (id:=7) [(0,0),(1,0),(2,1),(3,0),(4,0),(5,0),(6,0),(7,0),(8,0),(9,0),(10,0),(11,0),(12,0),(13,0),(14,0),(15,0),(16,0),(17,0),(18,0),(19,0),(20,0),(21,0),(22,0),(23,0),(24,0)] mixed (by kernel_rfl) ?_|refine aw_drawn (id:=7) [(0,0),(1,0),(2,2),(3,0),(4,0),(5,0),(6,0),(7,0),(8,0),(9,0),(10,0),(11,0),(12,0),(13,0),(14,0),(15,0),(16,0),(17,0),(18,0),(19,0),(20,0),(21,0),(22,0),(23,0),(24,0)] mixed (by kernel_rfl) ?_|refine aw_drawn (id:=16) [(0,0),(1,0),(2,0),(3,0),(4,0),(5,0),(6,0),(7,0),(8,0),(9,0),(10,0),(11,0),(12,0),(13,0),(14,0),(15,0)] mixed (by kernel_rfl) ?_|refine zco ?_ ?_|(refine fun (hg:(_:Prop))=>?_;first|exact absurd hg (by decide)|((try replace hg:=HG.out hg);(try dsimp only at hg);(try rw [inD_iff] at hg);(try rw [inO_iff] at hg);(try rw [fromB_one] at hg);(try rw [withinB_iff] at hg);(try rw [withinB_no] at hg);(try (have _h:True:=hg;clear _h hg));first|(exfalso;omega)|skip))))
  all_goals (try ((refine aw_ret ?_;(repeat (first|refine ret_then ?_|refine ret_block ?_));refine bq1 rfl (.inr ⟨rfl,fun hO=>?_⟩));have:=hO.1;omega))
  have hst:∀ j,j<h.store.prints.length→0≤(el h.store.prints j).state∧(el h.store.prints j).state≤2:=fun j hj=>by have:=hV.2.2.2.1 j hj;have:=hw j hj;unfold Printed at *;omega
  have hpl:∀ j,j<h.store.prints.length→0≤(el h.store.prints j).plate∧(el h.store.prints j).plate<(h.store.items.length:Int):=fun j hj=>by have:=hV.2.2.2.1 j hj;unfold Printed at this;omega
  refine aw_for h.fors.length (fun k=>∀ j,j<k→ForAt h j) (fun k=>[(0,.ptr 11 0 0 0),(37,.sl 1 7 0 h.fors.length),(38,vi h.fors.length),(39,vi k)]) (fun k=>[.arr 11 1 (fun _=>shoV 1 2 3 4 5 6 7 8 h),LB 5 Itm.enc h.store.items,LB 2 Prt.enc h.store.prints,LB 7 Dsn.enc h.designs,LB 4 Lic.enc h.lics,LB 4 Ordr.enc h.orders,LB 1 vi h.made,LB 1 vi h.fors,mapE Tal.enc (talTo h k)]) (fun j hj=>by omega) ?_ ?_
  · (exact zsc [some 0,some 1,some 2,some 3,some 4,some 5,some 6,some 7,some 8] [])
  intro k hk hJ
  by_cases hlt:k<h.fors.length
  · have hp:=hpl k (by omega)
    have hq:=hst k (by omega)
    have hsm:=tal_small (h:=h) (k:=k) (fun j hj=>hst j (by omega)) (by omega) (el h.fors k)
    (repeat' (first|(refine ar_isq ?_;refine zq ?_)|refine zil (j:=k) ?_|refine zis (j:=k) ?_|refine zit (j:=k) ?_|refine zil (j:=(el h.fors k).toNat) ?_|refine zis (j:=(el h.fors k).toNat) ?_|refine zit (j:=(el h.fors k).toNat) ?_|refine zil (j:=(el h.store.prints k).plate.toNat) ?_|refine zis (j:=(el h.store.prints k).plate.toNat) ?_|refine zit (j:=(el h.store.prints k).plate.toNat) ?_|((refine ar_read h (talTo h k) (order_p h (el h.fors k) hs0) fn53 (by intros;subst_vars;rfl) ?_;intro _ hv;subst hv))|refine ar_count (st:=(el h.store.prints k).state) (k:=1) h (talTo h k) (by omega) hsm (by omega) ?_|refine zg ?_ ?_|refine zgu ?_|refine zst ?_|refine aw_drawn (id:=1) [(0,0),(1,0),(2,0),(3,0),(4,0),(5,0),(6,0),(7,0),(8,0),(9,0),(10,0),(11,0),(12,0),(13,0),(14,0),(15,0),(16,0),(17,0),(18,0),(19,0),(20,0),(21,0),(22,0)] mixed (by kernel_rfl) ?_|refine aw_drawn (id:=7) [(0,0),(1,0),(2,1),(3,0),(4,0),(5,0),(6,0),(7,0),(8,0),(9,0),(10,0),(11,0),(12,0),(13,0),(14,0),(15,0),(16,0),(17,0),(18,0),(19,0),(20,0),(21,0),(22,0),(23,0),(24,0)] mixed (by kernel_rfl) ?_|refine aw_drawn (id:=7) [(0,0),(1,0),(2,2),(3,0),(4,0),(5,0),(6,0),(7,0),(8,0),(9,0),(10,0),(11,0),(12,0),(13,0),(14,0),(15,0),(16,0),(17,0),(18,0),(19,0),(20,0),(21,0),(22,0),(23,0),(24,0)] mixed (by kernel_rfl) ?_|refine aw_drawn (id:=16) [(0,0),(1,0),(2,0),(3,0),(4,0),(5,0),(6,0),(7,0),(8,0),(9,0),(10,0),(11,0),(12,0),(13,0),(14,0),(15,0)] mixed (by kernel_rfl) ?_|refine zco ?_ ?_|(refine fun (hg:(_:Prop))=>?_;first|exact absurd hg (by decide)|((try replace hg:=HG.out hg);(try dsimp only at hg);(try rw [inD_iff] at hg);(try rw [inO_iff] at hg);(try rw [fromB_one] at hg);(try rw [withinB_iff] at hg);(try rw [withinB_no] at hg);(try (have _h:True:=hg;clear _h hg));first|(exfalso;omega)|skip))))
    all_goals first
      | (exfalso;omega)
      | ((refine aw_ret ?_;(repeat (first|refine ret_then ?_|refine ret_block ?_));refine bq1 rfl (.inr ⟨rfl,fun hO=>?_⟩));obtain ⟨h1,h2⟩:=hO.2.1 k hlt;unfold inOrders at h1;omega)
      | ((first|refine loop_next (by omega) ?_ ?_|refine (show _∧_∧SubOf _ _ _ _ _ _ from And.intro (by omega) (And.intro ?_ ?_)));(focus (((refine all_step hJ ⟨?_,?_⟩<;>first|assumption|omega));done));(focus (exact zsc [some 0,some 1,some 2,some 3,some 4,some 5,some 6,some 7,some 8] [])))
      | trace_state
  · (repeat' (first|(refine ar_isq ?_;refine zq ?_)|refine zg ?_ ?_|refine zgu ?_|refine zst ?_|refine aw_drawn (id:=1) [(0,0),(1,0),(2,0),(3,0),(4,0),(5,0),(6,0),(7,0),(8,0),(9,0),(10,0),(11,0),(12,0),(13,0),(14,0),(15,0),(16,0),(17,0),(18,0),(19,0),(20,0),(21,0),(22,0)] mixed (by kernel_rfl) ?_|refine aw_drawn (id:=7) [(0,0),(1,0),(2,1),(3,0),(4,0),(5,0),(6,0),(7,0),(8,0),(9,0),(10,0),(11,0),(12,0),(13,0),(14,0),(15,0),(16,0),(17,0),(18,0),(19,0),(20,0),(21,0),(22,0),(23,0),(24,0)] mixed (by kernel_rfl) ?_|refine aw_drawn (id:=7) [(0,0),(1,0),(2,2),(3,0),(4,0),(5,0),(6,0),(7,0),(8,0),(9,0),(10,0),(11,0),(12,0),(13,0),(14,0),(15,0),(16,0),(17,0),(18,0),(19,0),(20,0),(21,0),(22,0),(23,0),(24,0)] mixed (by kernel_rfl) ?_|refine aw_drawn (id:=16) [(0,0),(1,0),(2,0),(3,0),(4,0),(5,0),(6,0),(7,0),(8,0),(9,0),(10,0),(11,0),(12,0),(13,0),(14,0),(15,0)] mixed (by kernel_rfl) ?_|refine zco ?_ ?_|(refine fun (hg:(_:Prop))=>?_;first|exact absurd hg (by decide)|((try replace hg:=HG.out hg);(try dsimp only at hg);(try rw [inD_iff] at hg);(try rw [inO_iff] at hg);(try rw [fromB_one] at hg);(try rw [withinB_iff] at hg);(try rw [withinB_no] at hg);(try (have _h:True:=hg;clear _h hg));first|(exfalso;omega)|skip))))
    all_goals (try (exfalso;omega))
    have hF:∀ j,j<h.fors.length→ForAt h j:=fun j hj=>hJ j (by omega)
    obtain rfl:k=h.fors.length:=by omega
    clear hJ hlt hk
    have hta:∀ n:Int,talAt (talTo h h.fors.length) n=⟨doneF h n 0,doneF h n 1,doneF h n 2⟩:=talTo_at fun j hj=>hst j (by omega)
    refine aw_for h.orders.length (fun k=>∀ j,j<k→OrdAt h j) (fun k=>[(0,.ptr 11 0 0 0),(88,.sl 4 5 0 h.orders.length),(89,vi h.orders.length),(90,vi k)]) (fun _=>[.arr 11 1 (fun _=>shoV 1 2 3 4 5 6 7 8 h),LB 5 Itm.enc h.store.items,LB 2 Prt.enc h.store.prints,LB 7 Dsn.enc h.designs,LB 4 Lic.enc h.lics,LB 4 Ordr.enc h.orders,LB 1 vi h.made,LB 1 vi h.fors,mapE Tal.enc (talTo h h.fors.length)]) (fun j hj=>by omega) ?_ ?_
    · (exact zsc [some 0,some 1,some 2,some 3,some 4,some 5,some 6,some 7,some 8] [])
    intro k hk hJ
    by_cases hlt:k<h.orders.length
    · have ht0:(talAt (talTo h h.fors.length) k).a=doneF h k 0:=by rw [hta]
      have ht1:(talAt (talTo h h.fors.length) k).b=doneF h k 1:=by rw [hta]
      have hd0:0≤doneF h k 0:=(doneTo_bnd h k 0 h.fors.length).1
      have hd1:0≤doneF h k 1:=(doneTo_bnd h k 1 h.fors.length).1
      clear hta hF
      
      (repeat' (first|(refine ar_isq ?_;refine zq ?_)|refine zil (j:=k) ?_|refine zis (j:=k) ?_|refine zit (j:=k) ?_|(((refine ar_subk_l (sub_frzL (t:=97) vi ([(el h.orders k).client]) rfl rfl rfl rfl (fun _ _=>rfl) (fun _=>rfl)) ?_);refine zpv fn56 (hfrom_p _ _ [(el h.orders k).client]) ?_))|(((refine ar_subk_l (sub_frzL (t:=110) vi ([(el h.orders k).need]) rfl rfl rfl rfl (fun _ _=>rfl) (fun _=>rfl)) ?_);refine zpv fn56 (hfrom_p _ _ [(el h.orders k).need]) ?_))|refine ar_buildLE vi ([_]) (by exact ty rfl) (by exact rfl) (by exact ty rfl) (by exact rfl) (by exact rfl) (by exact Nat.succ_pos _) (by exact rfl) (by exact dc rfl) (by exact rfl) (by exact fun _=>⟨rfl,rfl⟩) (by exact dc rfl) ?_|((refine ar_read h (talTo h h.fors.length) (design_p h (el h.orders k).design hs0) fn125 (by intros;subst_vars;rfl) ?_;intro _ hv;subst hv))|refine ar_lookupT ?_ (ty rfl) rfl (ty rfl) rfl (ty rfl) rfl rfl rfl rfl (dc rfl)|refine ar_q (qs_index (j:=0) (ty rfl) rfl (ty rfl) rfl rfl rfl (dc rfl) rfl) (dc rfl) ?_|refine ar_q (qs_index (j:=1) (ty rfl) rfl (ty rfl) rfl rfl rfl (dc rfl) rfl) (dc rfl) ?_|refine zg ?_ ?_|refine zgu ?_|refine zst ?_|refine aw_drawn (id:=1) [(0,0),(1,0),(2,0),(3,0),(4,0),(5,0),(6,0),(7,0),(8,0),(9,0),(10,0),(11,0),(12,0),(13,0),(14,0),(15,0),(16,0),(17,0),(18,0),(19,0),(20,0),(21,0),(22,0)] mixed (by kernel_rfl) ?_|refine aw_drawn (id:=7) [(0,0),(1,0),(2,1),(3,0),(4,0),(5,0),(6,0),(7,0),(8,0),(9,0),(10,0),(11,0),(12,0),(13,0),(14,0),(15,0),(16,0),(17,0),(18,0),(19,0),(20,0),(21,0),(22,0),(23,0),(24,0)] mixed (by kernel_rfl) ?_|refine aw_drawn (id:=7) [(0,0),(1,0),(2,2),(3,0),(4,0),(5,0),(6,0),(7,0),(8,0),(9,0),(10,0),(11,0),(12,0),(13,0),(14,0),(15,0),(16,0),(17,0),(18,0),(19,0),(20,0),(21,0),(22,0),(23,0),(24,0)] mixed (by kernel_rfl) ?_|refine aw_drawn (id:=16) [(0,0),(1,0),(2,0),(3,0),(4,0),(5,0),(6,0),(7,0),(8,0),(9,0),(10,0),(11,0),(12,0),(13,0),(14,0),(15,0)] mixed (by kernel_rfl) ?_|refine zco ?_ ?_|(refine fun (hg:(_:Prop))=>?_;first|exact absurd hg (by decide)|((try replace hg:=HG.out hg);(try dsimp only at hg);(try rw [inD_iff] at hg);(try rw [inO_iff] at hg);(try rw [fromB_one] at hg);(try rw [withinB_iff] at hg);(try rw [withinB_no] at hg);(try rw [ht0] at hg);(try rw [ht1] at hg);(try (have _h:True:=hg;clear _h hg));first|(exfalso;omega)|skip))))
      all_goals first
        | ((first|refine loop_next (by omega) ?_ ?_|refine (show _∧_∧SubOf _ _ _ _ _ _ from And.intro (by omega) (And.intro ?_ ?_)));(focus (((first|exact all_step hJ ⟨by assumption,inD_iff.2 (by assumption),by assumption,fun _=>⟨by omega,by omega⟩,fun hd=>absurd (hd.symm.trans (show (el h.orders k).done=true from by assumption)) (by decide)⟩|exact all_step hJ ⟨by assumption,inD_iff.2 (by assumption),by assumption,fun hd=>absurd (hd.symm.trans (show (el h.orders k).done=false from by assumption)) (by decide),fun _=>⟨by omega,by omega⟩⟩));done));(focus (exact zsc [some 0,some 1,some 2,some 3,some 4,some 5,some 6,some 7,some 8] [])))
        | ((refine aw_ret ?_;(repeat (first|refine ret_then ?_|refine ret_block ?_));refine bq1 rfl (.inr ⟨rfl,fun hO=>?_⟩));obtain ⟨h1,h2,h3,h4,h5⟩:=hO.2.2 k hlt;first|(exact absurd h1 (by assumption))|(exact absurd h3 (by assumption))|(exact absurd (inD_iff.1 h2) (by assumption))|(have a1:=h4 (by assumption);omega)|(have a1:=h5 (by assumption);omega))
        | (exfalso;simp_all;done)
        | (exfalso;omega)
        | trace_state
    · (repeat' (first|(refine ar_isq ?_;refine zq ?_)|refine zg ?_ ?_|refine zgu ?_|refine zst ?_|refine aw_drawn (id:=1) [(0,0),(1,0),(2,0),(3,0),(4,0),(5,0),(6,0),(7,0),(8,0),(9,0),(10,0),(11,0),(12,0),(13,0),(14,0),(15,0),(16,0),(17,0),(18,0),(19,0),(20,0),(21,0),(22,0)] mixed (by kernel_rfl) ?_|refine aw_drawn (id:=7) [(0,0),(1,0),(2,1),(3,0),(4,0),(5,0),(6,0),(7,0),(8,0),(9,0),(10,0),(11,0),(12,0),(13,0),(14,0),(15,0),(16,0),(17,0),(18,0),(19,0),(20,0),(21,0),(22,0),(23,0),(24,0)] mixed (by kernel_rfl) ?_|refine aw_drawn (id:=7) [(0,0),(1,0),(2,2),(3,0),(4,0),(5,0),(6,0),(7,0),(8,0),(9,0),(10,0),(11,0),(12,0),(13,0),(14,0),(15,0),(16,0),(17,0),(18,0),(19,0),(20,0),(21,0),(22,0),(23,0),(24,0)] mixed (by kernel_rfl) ?_|refine aw_drawn (id:=16) [(0,0),(1,0),(2,0),(3,0),(4,0),(5,0),(6,0),(7,0),(8,0),(9,0),(10,0),(11,0),(12,0),(13,0),(14,0),(15,0)] mixed (by kernel_rfl) ?_|refine zco ?_ ?_|(refine fun (hg:(_:Prop))=>?_;first|exact absurd hg (by decide)|((try replace hg:=HG.out hg);(try dsimp only at hg);(try rw [inD_iff] at hg);(try rw [inO_iff] at hg);(try rw [fromB_one] at hg);(try rw [withinB_iff] at hg);(try rw [withinB_no] at hg);(try rw [ht0] at hg);(try rw [ht1] at hg);(try (have _h:True:=hg;clear _h hg));first|(exfalso;omega)|skip))))
      all_goals first
        | (exfalso;omega)
        | (refine aw_ret ?_;refine bq1 rfl (.inl ⟨rfl,⟨⟨by omega,by omega⟩,hF,fun i hi=>hJ i (by omega)⟩,_,hta,rfl⟩))
        | trace_state
end Go.Proofs.YtbilpbabdgfblaaGreat
