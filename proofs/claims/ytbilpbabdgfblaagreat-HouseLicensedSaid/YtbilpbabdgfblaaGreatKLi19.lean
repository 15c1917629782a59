/- Parts of the proof: contracts of functions. No condition. -/
import Derived.Test.YtbilpbabdgfblaaGreatKLi18
set_option maxHeartbeats 16000000
set_option linter.unusedSimpArgs false
set_option linter.unusedVariables false
namespace Go.Proofs.YtbilpbabdgfblaaGreat.Im
open Go.RowKit
section
variable {C:Cx Tryz.prog}{nt:Nat}{Q:Post}{env:Env}{H:Heap}{k:Option Nat}{ops:Array Oper}{l:List Stp}{ty:TypeId}{pos:String}{after:Array Edge}{T K E:TypeId}{d dk de:TyD}{x y:Operand}
theorem ar_lookupG {i f b:Nat}{ml:List (Int × Int)}{a c:Int}(hv:tgD ml a=c) (ht:TyIs Tryz.prog T d) (hk:d.tk=.map K E) (hK:TyIs Tryz.prog K dk) (hkk:dk.tk=.int .i64) (hE:TyIs Tryz.prog E de) (hx:eo env x=some (.map b)) (hy:eo env y=some (.s (.int .i64 a))) (hH:H[b]?=some (mapE vi ml)) (hz:constV de.zero=vi 0) (hd:f<nt)
    (h:AR C nt ops Q l ((f,vi c)::env) H k):AR C nt ops Q (.q i ⟨some f,.lookup T x y false,ty,pos,after,none⟩::l) env H k:=by
  subst hv
  refine ar_lookup ht hk hK hkk hE hx hy hH hd (fun v hv=>?_) fun hv=>?_
  · have:tgD ml a=v:=by unfold tgD;rw [hv];rfl
    rw [this] at h
    exact h
  · have:tgD ml a=0:=by unfold tgD;rw [hv];rfl
    rw [this] at h
    show AR C nt ops Q l ((f,constV de.zero)::env) H k
    rw [hz]
    exact h
end
theorem growths_iter (h:Hse) (hV:HValid h):IterX Tryz.prog 101 [.ref (.ref h.enc 0) 0] h.store.prints.length (fun k=>[.int .i64 k,.int .i64 (growF h k)]):=by
  have hper:=hV.per
  have hfew:=hV.store.1
  unfold Few at hfew
  refine iter_of_aw Tryz.func101 rfl (dc rfl) rfl fun C hN hel=>?_
  (repeat' (first|(refine ar_isq ?_;first|refine ar_q (qs_move rfl) (dc rfl) ?_|refine ar_q (qs_assign rfl) (dc rfl) ?_|(refine is_load ?_;first|refine ar_q (qs_load_ptr (ty rfl) rfl rfl (by first|exact Nat.one_pos|assumption|omega) rfl) (dc rfl) ?_|refine ar_q (qs_load_ref (ty rfl) rfl rfl) (dc rfl) ?_)|(refine is_binOp ?_;first|refine ar_q (qs_lss rfl rfl) (dc rfl) ?_|refine ar_q (qs_add rfl rfl (wrap64 (by omega))) (dc rfl) ?_|refine ar_q (qs_quo rfl rfl (by omega) (quo64 (by omega) (by omega))) (dc rfl) ?_)|(refine is_fieldAddr ?_;first|refine ar_q (qs_faddr_ptr (ty rfl) rfl rfl (ty rfl) (Nat.succ_ne_zero _) rfl) (dc rfl) ?_|refine ar_q (qs_faddr_ref (ty rfl) rfl rfl (ty rfl) (Nat.succ_ne_zero _) rfl) (dc rfl) ?_)|(refine is_indexAddr ?_;first|refine ar_q (qs_iaddr_list (ty rfl) rfl (ty rfl) rfl rfl rfl rfl (by omega)) (dc rfl) ?_|refine ar_q (qs_iaddr_sl0 (ty rfl) rfl (ty rfl) rfl rfl rfl rfl (by omega)) (dc rfl) ?_|refine ar_q (qs_iaddr_sl (ty rfl) rfl (ty rfl) rfl rfl rfl rfl (by omega)) (dc rfl) ?_|refine ar_q (qs_iaddr_aptr (ty rfl) rfl (ty rfl) rfl rfl rfl (by omega)) (dc rfl) ?_|refine ar_q (qs_iaddr_aref (ty rfl) rfl (ty rfl) rfl rfl rfl (by omega)) (dc rfl) ?_|(refine ar_idx_list (ty rfl) rfl (ty rfl) rfl rfl rfl (dc rfl) (by omega) ?_;intro _ _ _)|(refine ar_idx_sl (ty rfl) rfl (ty rfl) rfl rfl rfl (dc rfl) (by omega) ?_;intro _ _ _))|(refine is_call ?_;first|refine ar_q (qs_len_list (ty rfl) rfl rfl rfl) (dc rfl) ?_|refine ar_q (qs_len_sl (ty rfl) rfl rfl rfl) (dc rfl) ?_|refine ar_q (qs_len_nil (ty rfl) rfl rfl rfl) (dc rfl) ?_|refine ar_q (qs_len_emp (ty rfl) rfl rfl rfl) (dc rfl) ?_|refine ar_q (qs_min rfl rfl) (dc rfl) ?_)|refine ar_q (qs_not rfl) (dc rfl) ?_)|(refine ar_makeMap (dc rfl) ?_)|(refine ar_q (qs_nck_ref rfl) (dc rfl) ?_)|(refine ar_alloc (ty rfl) rfl (dc rfl) ?_)|(refine ar_store_var (ty rfl) rfl rfl rfl rfl rfl rfl (by first|(dsimp only;omega)|exact dc rfl) (.inr ⟨rfl,rfl,rfl,fun _ h=>by cases h⟩) ?_)|(refine ar_store_var (ty rfl) rfl rfl rfl rfl rfl rfl (by first|(dsimp only;omega)|exact dc rfl) (.inl ⟨_,rfl⟩) ?_)|(refine ar_store_elt (ty rfl) rfl rfl rfl rfl rfl rfl (by first|exact Nat.one_pos|assumption|omega) (by first|(dsimp only;omega)|exact dc rfl) (.inr ⟨rfl,rfl,rfl,fun _ h=>by cases h⟩) ?_)|(refine ar_store_elt (ty rfl) rfl rfl rfl rfl rfl rfl (by first|exact Nat.one_pos|assumption|omega) (by first|(dsimp only;omega)|exact dc rfl) (.inl ⟨_,rfl⟩) ?_)|(refine ar_nil ?_)|(refine aw_seq ?_)|(refine aw_skip ?_)|(refine aw_block ?_)|(refine aw_exit ?_)|(refine aw_region ?_)|(refine aw_cond rfl ?_ ?_<;>intro hg<;>first|exact absurd hg (by decide)|((first|replace hg:=hgT hg|replace hg:=hgF hg|replace hg:=hgNT hg|replace hg:=hgNF hg|replace hg:=hgBT hg|replace hg:=hgBF hg|replace hg:=hgV hg|replace hg:=hgW hg|skip);(try dsimp only at hg);(try (have _h:True:=hg;clear _h hg));first|(exfalso;omega)|skip))))
  refine aw_for h.store.prints.length (fun k=>[(0,.s (.func (.yield C.l) #[] #[])),(1,.ref (.ref h.enc 0) 0),(3,.map 0),(13,encPrints h.store.prints),(14,vi h.store.prints.length),(15,vi k)]) (fun k=>[mapE vi (tgT h.store.prints k)]) ⟨rfl,rfl,rfl,rfl,rfl,rfl,trivial⟩ rfl ?_
  intro k hk
  by_cases hlt:k<h.store.prints.length
  · have hb:=before_bnd h k
    have hg:=grow_bnd hper.1 k
    have ht:tgD (tgT h.store.prints k) (el h.store.prints k).plate=beforeF h k:=tgD_eq _ _ _
    (repeat' (first|(refine ar_isq ?_;first|refine ar_q (qs_move rfl) (dc rfl) ?_|refine ar_q (qs_assign rfl) (dc rfl) ?_|(refine is_load ?_;first|refine ar_q (qs_load_ptr (ty rfl) rfl rfl (by first|exact Nat.one_pos|assumption|omega) rfl) (dc rfl) ?_|refine ar_q (qs_load_ref (ty rfl) rfl rfl) (dc rfl) ?_)|(refine is_binOp ?_;first|refine ar_q (qs_lss rfl rfl) (dc rfl) ?_|refine ar_q (qs_add rfl rfl (wrap64 (by omega))) (dc rfl) ?_|refine ar_q (qs_quo rfl rfl (by omega) (quo64 (by omega) (by omega))) (dc rfl) ?_)|(refine is_fieldAddr ?_;first|refine ar_q (qs_faddr_ptr (ty rfl) rfl rfl (ty rfl) (Nat.succ_ne_zero _) rfl) (dc rfl) ?_|refine ar_q (qs_faddr_ref (ty rfl) rfl rfl (ty rfl) (Nat.succ_ne_zero _) rfl) (dc rfl) ?_)|(refine is_indexAddr ?_;first|refine ar_q (qs_iaddr_list (ty rfl) rfl (ty rfl) rfl rfl rfl rfl (by omega)) (dc rfl) ?_|refine ar_q (qs_iaddr_sl0 (ty rfl) rfl (ty rfl) rfl rfl rfl rfl (by omega)) (dc rfl) ?_|refine ar_q (qs_iaddr_sl (ty rfl) rfl (ty rfl) rfl rfl rfl rfl (by omega)) (dc rfl) ?_|refine ar_q (qs_iaddr_aptr (ty rfl) rfl (ty rfl) rfl rfl rfl (by omega)) (dc rfl) ?_|refine ar_q (qs_iaddr_aref (ty rfl) rfl (ty rfl) rfl rfl rfl (by omega)) (dc rfl) ?_|refine ar_q (qs_iaddr_list (j:=k) (ty rfl) rfl (ty rfl) rfl rfl rfl (by omega) (by omega)) (dc rfl) ?_|refine ar_q (qs_iaddr_sl0 (j:=k) (ty rfl) rfl (ty rfl) rfl rfl rfl (by omega) (by omega)) (dc rfl) ?_|refine ar_q (qs_iaddr_sl (j:=k) (ty rfl) rfl (ty rfl) rfl rfl rfl (by omega) (by omega)) (dc rfl) ?_|(refine ar_idx_list (ty rfl) rfl (ty rfl) rfl rfl rfl (dc rfl) (by omega) ?_;intro _ _ _)|(refine ar_idx_sl (ty rfl) rfl (ty rfl) rfl rfl rfl (dc rfl) (by omega) ?_;intro _ _ _))|(refine is_call ?_;first|refine ar_q (qs_len_list (ty rfl) rfl rfl rfl) (dc rfl) ?_|refine ar_q (qs_len_sl (ty rfl) rfl rfl rfl) (dc rfl) ?_|refine ar_q (qs_len_nil (ty rfl) rfl rfl rfl) (dc rfl) ?_|refine ar_q (qs_len_emp (ty rfl) rfl rfl rfl) (dc rfl) ?_|refine ar_q (qs_min rfl rfl) (dc rfl) ?_)|refine ar_q (qs_not rfl) (dc rfl) ?_)|(refine ar_q (qs_nck_ref rfl) (dc rfl) ?_)|(refine ar_copy (ty rfl) rfl rfl rfl rfl rfl rfl rfl rfl rfl ⟨_,rfl⟩ rfl (dc rfl) (dc rfl) ?_)|(refine ar_lookupG ht (ty rfl) rfl (ty rfl) rfl (ty rfl) rfl rfl rfl rfl (dc rfl) ?_)|(refine ar_drop_l [(0,.s (.func (.yield C.l) #[] #[])),(1,.ref (.ref h.enc 0) 0),(3,.map 0),(4,vi k),(6,vi (beforeF h k)),(13,encPrints h.store.prints),(14,vi h.store.prints.length),(15,vi k),(24,.map 0),(26,vi (el h.store.prints k).plate),(28,vi (beforeF h k+1))] (fun _=>rfl) ⟨rfl,rfl,rfl,rfl,rfl,rfl,rfl,rfl,rfl,rfl,rfl,trivial⟩ rfl ?_)|(refine ar_mapUpdate (e:=vi) (v:=beforeF h k+1) (ty rfl) rfl (ty rfl) rfl rfl rfl rfl ?_)|(refine ar_yield (us:=[.int .i64 k,.int .i64 (growF h k)]) rfl rfl (by rw [hN];exact hlt) (by rw [hel]) (dc rfl) only_mapE ?_ ?_)|(refine ar_alloc (ty rfl) rfl (dc rfl) ?_)|(refine ar_store_var (ty rfl) rfl rfl rfl rfl rfl rfl (by first|(dsimp only;omega)|exact dc rfl) (.inr ⟨rfl,rfl,rfl,fun _ h=>by cases h⟩) ?_)|(refine ar_store_var (ty rfl) rfl rfl rfl rfl rfl rfl (by first|(dsimp only;omega)|exact dc rfl) (.inl ⟨_,rfl⟩) ?_)|(refine ar_store_elt (ty rfl) rfl rfl rfl rfl rfl rfl (by first|exact Nat.one_pos|assumption|omega) (by first|(dsimp only;omega)|exact dc rfl) (.inr ⟨rfl,rfl,rfl,fun _ h=>by cases h⟩) ?_)|(refine ar_store_elt (ty rfl) rfl rfl rfl rfl rfl rfl (by first|exact Nat.one_pos|assumption|omega) (by first|(dsimp only;omega)|exact dc rfl) (.inl ⟨_,rfl⟩) ?_)|(refine ar_nil ?_)|(refine aw_seq ?_)|(refine aw_skip ?_)|(refine aw_block ?_)|(refine aw_exit ?_)|(refine aw_region ?_)|(refine aw_cond rfl ?_ ?_<;>intro hg<;>first|exact absurd hg (by decide)|((first|replace hg:=hgT hg|replace hg:=hgF hg|replace hg:=hgNT hg|replace hg:=hgNF hg|replace hg:=hgBT hg|replace hg:=hgBF hg|replace hg:=hgV hg|replace hg:=hgW hg|skip);(try dsimp only at hg);(try (have _h:True:=hg;clear _h hg));first|(exfalso;omega)|skip))))
    all_goals first
      | (exfalso;omega)
      | exact loop_next hlt rfl rfl ⟨rfl,rfl,rfl,rfl,rfl,rfl,trivial⟩
      | exact aw_ret (.inr rfl)
      | trace_state
  · obtain rfl:k=h.store.prints.length:=by omega
    (repeat' (first|(refine ar_isq ?_;first|refine ar_q (qs_move rfl) (dc rfl) ?_|refine ar_q (qs_assign rfl) (dc rfl) ?_|(refine is_load ?_;first|refine ar_q (qs_load_ptr (ty rfl) rfl rfl (by first|exact Nat.one_pos|assumption|omega) rfl) (dc rfl) ?_|refine ar_q (qs_load_ref (ty rfl) rfl rfl) (dc rfl) ?_)|(refine is_binOp ?_;first|refine ar_q (qs_lss rfl rfl) (dc rfl) ?_|refine ar_q (qs_add rfl rfl (wrap64 (by omega))) (dc rfl) ?_|refine ar_q (qs_quo rfl rfl (by omega) (quo64 (by omega) (by omega))) (dc rfl) ?_)|(refine is_fieldAddr ?_;first|refine ar_q (qs_faddr_ptr (ty rfl) rfl rfl (ty rfl) (Nat.succ_ne_zero _) rfl) (dc rfl) ?_|refine ar_q (qs_faddr_ref (ty rfl) rfl rfl (ty rfl) (Nat.succ_ne_zero _) rfl) (dc rfl) ?_)|(refine is_indexAddr ?_;first|refine ar_q (qs_iaddr_list (ty rfl) rfl (ty rfl) rfl rfl rfl rfl (by omega)) (dc rfl) ?_|refine ar_q (qs_iaddr_sl0 (ty rfl) rfl (ty rfl) rfl rfl rfl rfl (by omega)) (dc rfl) ?_|refine ar_q (qs_iaddr_sl (ty rfl) rfl (ty rfl) rfl rfl rfl rfl (by omega)) (dc rfl) ?_|refine ar_q (qs_iaddr_aptr (ty rfl) rfl (ty rfl) rfl rfl rfl (by omega)) (dc rfl) ?_|refine ar_q (qs_iaddr_aref (ty rfl) rfl (ty rfl) rfl rfl rfl (by omega)) (dc rfl) ?_|(refine ar_idx_list (ty rfl) rfl (ty rfl) rfl rfl rfl (dc rfl) (by omega) ?_;intro _ _ _)|(refine ar_idx_sl (ty rfl) rfl (ty rfl) rfl rfl rfl (dc rfl) (by omega) ?_;intro _ _ _))|(refine is_call ?_;first|refine ar_q (qs_len_list (ty rfl) rfl rfl rfl) (dc rfl) ?_|refine ar_q (qs_len_sl (ty rfl) rfl rfl rfl) (dc rfl) ?_|refine ar_q (qs_len_nil (ty rfl) rfl rfl rfl) (dc rfl) ?_|refine ar_q (qs_len_emp (ty rfl) rfl rfl rfl) (dc rfl) ?_|refine ar_q (qs_min rfl rfl) (dc rfl) ?_)|refine ar_q (qs_not rfl) (dc rfl) ?_)|(refine ar_alloc (ty rfl) rfl (dc rfl) ?_)|(refine ar_store_var (ty rfl) rfl rfl rfl rfl rfl rfl (by first|(dsimp only;omega)|exact dc rfl) (.inr ⟨rfl,rfl,rfl,fun _ h=>by cases h⟩) ?_)|(refine ar_store_var (ty rfl) rfl rfl rfl rfl rfl rfl (by first|(dsimp only;omega)|exact dc rfl) (.inl ⟨_,rfl⟩) ?_)|(refine ar_store_elt (ty rfl) rfl rfl rfl rfl rfl rfl (by first|exact Nat.one_pos|assumption|omega) (by first|(dsimp only;omega)|exact dc rfl) (.inr ⟨rfl,rfl,rfl,fun _ h=>by cases h⟩) ?_)|(refine ar_store_elt (ty rfl) rfl rfl rfl rfl rfl rfl (by first|exact Nat.one_pos|assumption|omega) (by first|(dsimp only;omega)|exact dc rfl) (.inl ⟨_,rfl⟩) ?_)|(refine ar_nil ?_)|(refine aw_seq ?_)|(refine aw_skip ?_)|(refine aw_block ?_)|(refine aw_exit ?_)|(refine aw_region ?_)|(refine aw_cond rfl ?_ ?_<;>intro hg<;>first|exact absurd hg (by decide)|((first|replace hg:=hgT hg|replace hg:=hgF hg|replace hg:=hgNT hg|replace hg:=hgNF hg|replace hg:=hgBT hg|replace hg:=hgBF hg|replace hg:=hgV hg|replace hg:=hgW hg|skip);(try dsimp only at hg);(try (have _h:True:=hg;clear _h hg));first|(exfalso;omega)|skip))))
    all_goals first
      | (exfalso;omega)
      | exact aw_ret (.inl rfl)
      | exact .inl rfl
      | trace_state
end Go.Proofs.YtbilpbabdgfblaaGreat.Im
namespace Go.Proofs.YtbilpbabdgfblaaGreat
open Go.RowKit
theorem sub_preC {m nt t sz b c:Nat}{env:Env}{H:Heap}{f:Nat→V}(cs ds:List V) (ht:look env t=some (.ptr sz b 0 0)) (hcH:H[c]?=some (.arr 1 1 f)) (hf:f 0=.ptr sz b 0 0) (hne:b≠c) (hb:H[b]?=some (.arr sz 1 (fun _=>.agg (cs++ds)))) (hc:V.closed.all cs=true) :
    SubK m nt env H ((t,.ref (.agg cs) 0)::env) ((H.set b .dead).set c (.arr 1 1 (fun _=>.ref (.agg cs) 0))):=.mk fun X I ρ a w _ ⟨hE,hw,hd⟩=>by
  have hlt:c<ρ.length:=by rw [hw.len];exact (List.getElem?_eq_some_iff.1 hcH).1
  obtain ⟨xc,hxc⟩:∃ x,ρ[c]?=some x:=⟨ρ[c],by simp [hlt]⟩
  cases xc with
  | none=>have:=hw.none _ _ _ _ hcH hxc;omega
  | some pc =>
    obtain ⟨bc,zc⟩:=pc
    obtain ⟨vs,tyc,hvs,hzc,hnc,hrc⟩:=hw.arr _ _ _ _ _ _ hcH hxc
    obtain ⟨uc,huc,hrel⟩:=hrc 0 0 (.ptr sz b 0 0) Nat.one_pos (by rw [hf];rfl)
    obtain ⟨cb,z,hu,hx⟩:=hrel.ptr_inv
    have hL:Live H ρ cb:=⟨b,_,hb,by simp,z,hx⟩
    have hI:=know_le (o:=w.heap[cb]?) (hw.apart cb hL)
    obtain ⟨us,ty,hcs,hz,hn,hr⟩:=hw.arr _ _ _ _ _ _ hb hx
    have hcell:∀ (j:Nat) x,cs[j]?=some x→∃ u,us[j]?=some u∧VRel I ρ x u:=fun j x hj=>by
      have hlt:=(List.getElem?_eq_some_iff.1 hj).1
      obtain ⟨u,h3,h4⟩:=hr 0 j x Nat.one_pos (by show (cs++ds)[j]?=_;rw [List.getElem?_append_left hlt];exact hj)
      exact ⟨u,by simpa using h3,h4⟩
    have href0:VRel (know I cb (w.heap[cb]?)) ρ (.ref (.agg cs) 0) (.pointer (some ⟨cb,0*sz+0,none⟩)):=by
      rw [Nat.zero_mul]
      refine .ref (us:=fun j=>us.getD j undef) ⟨us,ty,(0,0),by rw [know_at];exact hcs,fun j hj=>?_⟩ fun j x hj=>?_
      · have hj:j<cs.length:=hj
        obtain ⟨u,h3,_⟩:=hcell j cs[j] (by simp [hj])
        simp [h3]
      · have hj:cs[j]?=some x:=hj
        obtain ⟨u,h3,h4⟩:=hcell j x hj
        rw [show us.getD j undef=u by simp [h3]]
        exact (h4.close (closed_all hc hj)).mono hI (Pre.refl _)
    have href:VRel (know I cb (w.heap[cb]?)) ρ (.ref (.agg cs) 0) uc:=by rw [hu];exact href0
    have hw2:=hw.forget hb (by simp) hx
    have hw3:=hw2.write (w':=w) (k:=c) (g:=fun _=>.ref (.agg cs) 0) (by rw [List.getElem?_set_ne hne];exact hcH) hxc hzc (fun _ _=>rfl) (fun i j v hi hj=>by
      obtain rfl:i=0:=by omega
      cases j with
      | zero =>
        have hj:some (V.ref (.agg cs) 0)=some v:=hj
        cases hj
        exact ⟨uc,by simpa using huc,href⟩
      | succ j=>cases hj) hvs (fun _ _=>rfl) rfl rfl rfl rfl
    refine ⟨know I cb (w.heap[cb]?),ρ,hI,⟨⟨hE.1,fun t' v hv=>?_⟩,hw3,hd.mono hI⟩,fun y hy=>?_⟩
    · rw [look_cons] at hv
      split at hv
      · rename_i e
        subst e
        cases hv
        obtain ⟨h1,h2⟩:=hE.2 t _ ht
        obtain ⟨cb2,z2,hu2,hx2⟩:=h2.ptr_inv
        rw [hx] at hx2
        cases hx2
        exact ⟨h1,by rw [hu2];exact href0⟩
      · obtain ⟨h3,h4⟩:=hE.2 t' v hv
        exact ⟨h3,h4.mono hI (Pre.refl _)⟩
    obtain ⟨y1,y2,y3⟩:=hy
    have hcl:c<(H.set b Blk.dead).length:=by rw [List.length_set,← hw.len];exact hlt
    refine ⟨fun c o hc=>y1 c o (hI c o hc),fun k sz' n' f' b' z' hk hρ o ho=>?_,fun k mm b' z' hk hρ=>?_⟩
    · by_cases e:k=b
      · subst e
        rw [hx] at hρ
        cases hρ
        have:=y1 cb _ (by rw [know_at];exact hcs)
        simp [World.cell?,this,hcs]
      · by_cases e2:k=c
        · subst e2
          rw [hcH] at hk
          cases hk
          exact y2 k 1 1 (fun _=>.ref (.agg cs) 0) b' z' (List.getElem?_set_self hcl) hρ o ho
        · exact y2 k sz' n' f' b' z' (by rw [List.getElem?_set_ne (Ne.symm e2),List.getElem?_set_ne (Ne.symm e)];exact hk) hρ o ho
    · refine y3 k mm b' z' ?_ hρ
      by_cases e:k=b
      · subst e;rw [hb] at hk;cases hk
      · by_cases e2:k=c
        · subst e2;rw [hcH] at hk;cases hk
        · rw [List.getElem?_set_ne (Ne.symm e2),List.getElem?_set_ne (Ne.symm e)];exact hk
theorem aw_bad {P:Program}{r:Option Nat}{m nt b sz n i:Nat}{f:Nat→V}{c:Code}{Q:Post}{env:Env}{H:Heap}(hH:H[b]?=some (.arr sz n f)) (hi:i<n) (hs:(f i).cells.length≠sz):AW P r m nt c Q env H:=.mk fun X I ρ a w _ hst=>absurd (hst.2.1.size _ _ _ _ hH i hi) hs
theorem bq3k {P:Program}{env:Env}{H:Heap}{R Rp:V→Heap→Prop}{a1 a2 a3 b1 b2 b3:Nat}{v1 v2 v3:V}{T1 T2 T3:TypeId}{d1 d2 d3:TyD}{f1 f2 f3:Nat→V}(hT1:TyIs P T1 d1) (hT2:TyIs P T2 d2) (hT3:TyIs P T3 d3)
    (l1:look env a1=some (.ptr 1 b1 0 0)) (l2:look env a2=some (.ptr 1 b2 0 0)) (l3:look env a3=some (.ptr 1 b3 0 0)) (g1:H[b1]?=some (.arr 1 1 f1)) (g2:H[b2]?=some (.arr 1 1 f2)) (g3:H[b3]?=some (.arr 1 1 f3))
    (p1:partV d1.tk.agg (f1 0).cells 0 d1.size=some v1) (p2:partV d2.tk.agg (f2 0).cells 0 d2.size=some v2) (p3:partV d3.tk.agg (f3 0).cells 0 d3.size=some v3) (hR:R (.tup [v1,v2,v3]) H):BodyQ P #[.cell a1 T1,.cell a2 T2,.cell a3 T3] R Rp .ret env H :=
  ⟨_,.inr (.inr (.inr (.inl ⟨_,_,_,_,_,_,rfl,⟨d1,1,b1,0,0,1,f1,hT1,l1,g1,Nat.one_pos,p1⟩,⟨d2,1,b2,0,0,1,f2,hT2,l2,g2,Nat.one_pos,p2⟩,⟨d3,1,b3,0,0,1,f3,hT3,l3,g3,Nat.one_pos,p3⟩,rfl⟩))),hR⟩
def hseC (h:Hse):List V:=[vi h.per,vi h.day,vi h.store.life,encItems h.store.items,encPrints h.store.prints,encDsns h.designs,encLics h.lics,encOrders h.orders,encInts h.made,encInts h.fors]
theorem growths_p (h:Hse):PCalls Tryz.prog 57 [.ref h.enc 0] (·=.fn (.func 101) [] [.ref (.ref h.enc 0) 0]):=by
  refine pcalls_of_aw Tryz.func57 rfl (dc rfl) ?_
  (repeat' (first|(refine ar_isq ?_;refine zq ?_)|refine zst ?_|refine zco ?_ ?_|exact zd|(refine fun (hg:(_:Prop))=>?_;(try replace hg:=HG.out hg);(try dsimp only at hg);(try (have _h:True:=hg;clear _h hg)))))
  (refine aw_mono_r (env':=[(2,.fn (.func 101) [] [.ref (.ref h.enc 0) 0])]) (H':=[]) ?_ ?_;(focus ((refine sub_to [] [0] rfl ?_ ?_<;>(repeat' (first|exact trivial|refine ⟨⟨_,rfl,?_⟩,?_⟩|refine vs1 ?_ ?_|refine vs2 ?_ ?_|refine vs3 ?_|refine vs4 ?_ ?_|refine ⟨.inl ⟨_,_,rfl,rfl,?_⟩,?_⟩|exact ⟨.inr ⟨rfl,rfl⟩,trivial⟩|refine ⟨.inr ⟨rfl,rfl⟩,?_⟩|(intro _ _)|exact vz1|(exact fn1_sub (frzPtr' (by simp) rfl (by omega) rfl rfl))|exact vz2|fail)));done)))
  (refine aw_ret ?_;(repeat (first|refine ret_then ?_|refine ret_block ?_));refine bq1 rfl ⟨?_,rfl⟩)
  rfl
def vnp:V:=.s (.pointer none)
def inPrints (h:Hse) (n:Int):Prop:=0≤n∧n<(h.store.prints.length:Int)
instance (h:Hse) (n:Int):Decidable (inPrints h n):=by unfold inPrints;infer_instance
open Classical in
noncomputable def askE (h:Hse) (n:Int):Int:=if HValid h then if inPrints h n then 0 else 6 else 100
theorem askE_ok {h:Hse}{n:Int}(hV:HValid h) (hn:inPrints h n):askE h n=0:=by unfold askE;rw [if_pos hV,if_pos hn]
theorem askE_none {h:Hse}{n:Int}(hV:HValid h) (hn:¬ inPrints h n):askE h n=6:=by unfold askE;rw [if_pos hV,if_neg hn]
theorem askE_bad {h:Hse}{n:Int}(hV:¬ HValid h):askE h n=100:=by unfold askE;rw [if_neg hV]
def FindR (h:Hse) (n:Int) (v:V):Prop:=(HValid h∧inPrints h n∧v=.tup [.ref h.enc 0,vi (growF h n.toNat),vi 0])∨(¬ (HValid h∧inPrints h n)∧v=.tup [vnp,vi 0,vi (askE h n)])
def findG (n:Int) (h:Hse) (k:Nat):Heap:=[.arr 1 1 (fun _=>vi n),.arr 1 1 (fun _=>vnp),.arr 1 1 (fun _=>vi 0),.arr 1 1 (fun _=>vi 0),.dead,.dead,.arr 1 1 (fun _=>if (k:Int)≤n∨n<0 then .ref h.enc 0 else .agg [])]
theorem findG_at {n:Int}{h:Hse}{k:Nat}(hk:(k:Int)≤n∨n<0):findG n h k=[.arr 1 1 (fun _=>vi n),.arr 1 1 (fun _=>vnp),.arr 1 1 (fun _=>vi 0),.arr 1 1 (fun _=>vi 0),.dead,.dead,.arr 1 1 (fun _=>.ref h.enc 0)]:=by unfold findG;rw [if_pos hk]
theorem find_p (h:Hse) (n:Int) (hs:HSmall h) (hw:StOk h.store):PCalls Tryz.prog 54 [h.enc,vi n] (FindR h n):=by
  refine pcalls_of_aw Tryz.func54 rfl (dc rfl) ?_
  (repeat' (first|(refine ar_isq ?_;refine zq ?_)|((refine ar_gcall0 fn43 rfl rfl [h.enc] ⟨.closed rfl,trivial⟩ (hvalid_p h hs hw) (dc rfl) ?_ (fun _ _ h=>h.elim);rintro _ _ (⟨hv,rfl,m,ht,rfl⟩|⟨hv,rfl,rfl⟩)<;>(try rw [shoB_ren])))|refine zst ?_|refine zco ?_ ?_|exact zd|(refine fun (hg:(_:Prop))=>?_;(try replace hg:=HG.out hg);(try dsimp only at hg);(try (have _h:True:=hg;clear _h hg)))))
  · (refine ar_sub_l (env':=[(3,.ptr 1 0 0 0),(4,.ptr 1 1 0 0),(5,.ptr 1 2 0 0),(6,.ptr 1 3 0 0),(7,.ptr 1 6 0 0),(18,.ptr 11 4 0 0)]) (H':=[.arr 1 1 (fun _=>vi n),.arr 1 1 (fun _=>vnp),.arr 1 1 (fun _=>vi 0),.arr 1 1 (fun _=>vi 0),.arr 11 1 (fun _=>.agg (hseC h++[.map 5])),mapE Tal.enc m,.arr 1 1 (fun _=>.ptr 11 4 0 0)]) ?_ ?_;(focus ((refine sub_to [some 1,some 2,some 3,some 4,some 5,some 13,some 14] [6,7,8,9,10,11,12] rfl ?_ ?_<;>(repeat' (first|exact trivial|refine ⟨⟨_,rfl,?_⟩,?_⟩|refine vs1 ?_ ?_|refine vs2 ?_ ?_|refine vs3 ?_|refine vs4 ?_ ?_|refine ⟨.inl ⟨_,_,rfl,rfl,?_⟩,?_⟩|exact ⟨.inr ⟨rfl,rfl⟩,trivial⟩|refine ⟨.inr ⟨rfl,rfl⟩,?_⟩|(intro _ _)|exact vz1|(first|exact (VSub.ptr (b:=5) rfl:VSub _ _ _ (.ptr 11 5 0 0) (.ptr 11 4 0 0))|refine ⟨bsub_mapE rfl rfl (fun _=>rfl),?_⟩|exact VSub.aggL ⟨.closed rfl,.closed rfl,.closed rfl,frzLB (by first|decide|(simp;done)) rfl (fun _=>rfl) rfl,frzLB (by first|decide|(simp;done)) rfl (fun _=>rfl) rfl,frzLB (by first|decide|(simp;done)) rfl (fun _=>rfl) rfl,frzLB (by first|decide|(simp;done)) rfl (fun _=>rfl) rfl,frzLB (by first|decide|(simp;done)) rfl (fun _=>rfl) rfl,frzLB (by first|decide|(simp;done)) rfl (fun _=>rfl) rfl,frzLB (by first|decide|(simp;done)) rfl (fun _=>rfl) rfl,.map rfl,trivial⟩)|exact vz2|fail)));done)))
    refine ar_subk_l (sub_preC (t:=18) (b:=4) (c:=6) (hseC h) [.map 5] rfl rfl rfl (by omega) rfl rfl) ?_
    (repeat' (first|(refine ar_isq ?_;refine zq ?_)|(refine zpv fn57 (growths_p h) ?_)|refine zst ?_|refine zco ?_ ?_|exact zd|(refine fun (hg:(_:Prop))=>?_;(try replace hg:=HG.out hg);(try dsimp only at hg);(try (have _h:True:=hg;clear _h hg)))))
    refine aw_rangeX (findG n h) _ rfl rfl fn101 (Im.growths_iter h hv) (fun _ _=>rfl) (by decide) (fun k _=>rfl) ?maps ?start ?round ?done
    case maps=>intro k j ms;match j with|0|1|2|3|4|5|6=>simp [findG]|j+7=>simp [findG]
    case start =>
      rw [findG_at (by omega)]
      (exact zsc [some 0,some 1,some 2,some 3,some 4,some 5,some 6] [])
    case round =>
      intro k lp hk
      by_cases hin:(k:Int)≤n∨n<0
      · have hG:findG n h k=[.arr 1 1 (fun _=>vi n),.arr 1 1 (fun _=>vnp),.arr 1 1 (fun _=>vi 0),.arr 1 1 (fun _=>vi 0),.dead,.dead,.arr 1 1 (fun _=>.ref h.enc 0)]:=by unfold findG;rw [if_pos hin]
        rw [hG]
        (repeat' (first|(refine ar_isq ?_;refine zq ?_)|refine zst ?_|refine zco ?_ ?_|exact zd|(refine fun (hg:(_:Prop))=>?_;(try replace hg:=HG.out hg);(try dsimp only at hg);(try (have _h:True:=hg;clear _h hg)))))
        · obtain rfl:n=(k:Int):=by omega
          refine aw_ret ?_
          (repeat (first|refine ret_then ?_|refine ret_block ?_))
          refine ⟨[.arr 1 1 (fun _=>vi k),.arr 1 1 (fun _=>.ref h.enc 0),.arr 1 1 (fun _=>vi (growF h k)),.arr 1 1 (fun _=>vi 0),.dead,.dead,.arr 1 1 (fun _=>.ref h.enc 0)],?_,?_,?_⟩
          · intro j ms;match j with|0|1|2|3|4|5|6=>simp|j+7=>simp
          · (exact zsc [some 0,some 1,some 2,some 3,some 4,some 5,some 6] [])
          · (repeat (first|refine ret_then ?_|refine ret_block ?_))
            exact bq3k (ty rfl) (ty rfl) (ty rfl) rfl rfl rfl rfl rfl rfl rfl rfl rfl ⟨.inl ⟨hv,⟨by omega,by omega⟩,by rw [Int.toNat_natCast]⟩,rfl⟩
        · refine (show SubOf _ _ _ _ _ _ from ?_)
          rw [findG_at (by omega)]
          (exact zsc [some 0,some 1,some 2,some 3,some 4,some 5,some 6] [])
      · exact aw_bad (b:=6) (i:=0) rfl Nat.one_pos (by rw [if_neg hin];decide)
    case done =>
      by_cases hin:(h.store.prints.length:Int)≤n∨n<0
      · have hG:findG n h h.store.prints.length=[.arr 1 1 (fun _=>vi n),.arr 1 1 (fun _=>vnp),.arr 1 1 (fun _=>vi 0),.arr 1 1 (fun _=>vi 0),.dead,.dead,.arr 1 1 (fun _=>.ref h.enc 0)]:=by unfold findG;rw [if_pos hin]
        rw [hG]
        have hno:¬ inPrints h n:=by unfold inPrints;omega
        (repeat' (first|(refine ar_isq ?_;refine zq ?_)|refine zst ?_|refine zco ?_ ?_|exact zd|(refine fun (hg:(_:Prop))=>?_;(try replace hg:=HG.out hg);(try dsimp only at hg);(try (have _h:True:=hg;clear _h hg)))))
        refine aw_ret ?_
        (repeat (first|refine ret_then ?_|refine ret_block ?_))
        exact bq3k (ty rfl) (ty rfl) (ty rfl) rfl rfl rfl rfl rfl rfl rfl rfl rfl ⟨.inr ⟨fun h=>hno h.2,by rw [askE_none hv hno];rfl⟩,rfl⟩
      · refine (show AW Tryz.prog none 0 _ _ _ _ _ from ?_)
        exact aw_bad (b:=6) (i:=0) rfl Nat.one_pos (by rw [if_neg hin];decide)
  · refine aw_ret ?_
    (repeat (first|refine ret_then ?_|refine ret_block ?_))
    exact bq3k (ty rfl) (ty rfl) (ty rfl) rfl rfl rfl rfl rfl rfl rfl rfl rfl ⟨.inr ⟨fun h=>hv h.1,by rw [askE_bad hv];rfl⟩,rfl⟩
def dproofF (d:Dsn) (g:Int):List Bool:=proofF d.sheet d.band g true
def dsnAt (h:Hse) (n:Int):Dsn:=el h.designs n.toNat
def ordAt (h:Hse) (n:Int):Ordr:=el h.orders n.toNat
def forAt (h:Hse) (n:Int):Int:=el h.fors n.toNat
structure Org where
  order:Int
  client:Int
  design:Int
  line:List Int
  grow:Int
def Org.enc (o:Org):V:=.agg [vi o.order,vi o.client,vi o.design,encInts o.line,vi o.grow]
def orgF (h:Hse) (n:Int):Org:=⟨forAt h n,(ordAt h (forAt h n)).client,(ordAt h (forAt h n)).design,lineF h.store (el h.store.prints n.toNat).plate,growF h n.toNat⟩
def noOrg:Org:=⟨0,0,0,[],0⟩
noncomputable def traceF (h:Hse) (n:Int):Org:=if askE h n=0 then orgF h n else noOrg
noncomputable def imageF (h:Hse) (n:Int):List Bool:=if askE h n=0 then dproofF (dsnAt h (ordAt h (forAt h n)).design) (growF h n.toNat) else []
open Classical in
noncomputable def repE (h:Hse) (n:Int):Int:=if HValid h then if inOrders h n then 0 else 6 else 100
theorem repE_ok {h:Hse}{n:Int}(hV:HValid h) (hn:inOrders h n):repE h n=0:=by unfold repE;rw [if_pos hV,if_pos hn]
theorem repE_none {h:Hse}{n:Int}(hV:HValid h) (hn:¬ inOrders h n):repE h n=6:=by unfold repE;rw [if_pos hV,if_neg hn]
theorem repE_bad {h:Hse}{n:Int}(hV:¬ HValid h):repE h n=100:=by unfold repE;rw [if_neg hV]
noncomputable def repA (h:Hse) (n:Int):Int:=if repE h n=0 then doneF h n 0+doneF h n 1 else 0
noncomputable def repB (h:Hse) (n:Int):Int:=if repE h n=0 then doneF h n 2 else 0
noncomputable def repC (h:Hse) (n:Int):Int:=if repE h n=0 then (ordAt h n).need-(doneF h n 0+doneF h n 1) else 0
noncomputable def repV (h:Hse) (n:Int):V:=.tup [vi (repA h n),vi (repB h n),vi (repC h n),vi (repE h n)]
theorem repV_ok {h:Hse}{n:Int}(he:repE h n=0):repV h n=.tup [vi (doneF h n 0+doneF h n 1),vi (doneF h n 2),vi ((ordAt h n).need-(doneF h n 0+doneF h n 1)),vi 0]:=by unfold repV repA repB repC;rw [if_pos he,if_pos he,if_pos he,he]
theorem repV_no {h:Hse}{n e:Int}(he:repE h n=e) (h0:e≠0):repV h n=.tup [vi 0,vi 0,vi 0,vi e]:=by unfold repV repA repB repC;rw [he,if_neg h0,if_neg h0,if_neg h0]
theorem askE_cases {h:Hse}{n:Int}(hno:¬ (HValid h∧inPrints h n)):askE h n=6∨askE h n=100:=by
  by_cases hV:HValid h
  · exact .inl (askE_none hV fun hn=>hno ⟨hV,hn⟩)
  · exact .inr (askE_bad hV)
section
variable (h:Hse)
theorem find_yes (hs:HSmall h) (hw:StOk h.store) {k:Nat}(hV:HValid h) (hk:k<h.store.prints.length):PCalls Tryz.prog 54 [h.enc,vi k] (·=.tup [.ref h.enc 0,vi (growF h k),vi 0]) :=
  (find_p h k hs hw).mono fun v hR=>by
    rcases hR with ⟨_,_,rfl⟩|⟨hn,_⟩
    · rw [Int.toNat_natCast]
    · exact absurd ⟨hV,⟨by omega,by omega⟩⟩ hn
theorem find_no (hs:HSmall h) (hw:StOk h.store) {n:Int}(hno:¬ (HValid h∧inPrints h n)):PCalls Tryz.prog 54 [h.enc,vi n] (·=.tup [vnp,vi 0,vi (askE h n)]) :=
  (find_p h n hs hw).mono fun v hR=>by
    rcases hR with ⟨h1,h2,_⟩|⟨_,rfl⟩
    · exact absurd ⟨h1,h2⟩ hno
    · rfl
theorem proof_p (hs:HSmall h) {i:Int}(hi:inDesigns h i) (g:Int):PCalls Tryz.prog 55 [.ref h.enc 0,vi i,vi g] (·=encBools (dproofF (dsnAt h i) g)):=by
  unfold HSmall at hs
  unfold inDesigns at hi
  refine pcalls_of_aw Tryz.func55 rfl (dc rfl) ?_
  (repeat' (first|(refine ar_isq ?_;refine zq ?_)|refine zil (j:=i.toNat) ?_|refine zis (j:=i.toNat) ?_|refine zit (j:=i.toNat) ?_|(refine zpv fn30 (lProof_p (dsnAt h i).sheet (dsnAt h i).band g true) ?_)|refine zst ?_|refine zco ?_ ?_|exact zd|(refine fun (hg:(_:Prop))=>?_;(try replace hg:=HG.out hg);(try dsimp only at hg);(try (have _h:True:=hg;clear _h hg)))))
  (refine aw_ret ?_;(repeat (first|refine ret_then ?_|refine ret_block ?_));refine bq1 rfl ⟨?_,rfl⟩)
  rfl
theorem hTrace_p (n:Int) (hs:HSmall h) (hw:StOk h.store):PCalls Tryz.prog 27 [h.enc,vi n] (·=.tup [(traceF h n).enc,vi (askE h n)]):=by
  by_cases hq:HValid h∧inPrints h n
  · obtain ⟨hV,hn⟩:=hq
    obtain ⟨k,rfl⟩:=Int.eq_ofNat_of_zero_le hn.1
    have hk:k<h.store.prints.length:=by have:=hn.2;omega
    have hf:=find_yes h hs hw hV hk
    have hF:=hV.forss
    have ho:=(hV.fors k (by omega)).1
    unfold inOrders at ho
    unfold HSmall at hs
    have he:=askE_ok hV hn
    rw [he]
    have ht:traceF h k=orgF h k:=by unfold traceF;rw [if_pos he]
    rw [ht]
    refine pcalls_of_aw Tryz.func27 rfl (dc rfl) ?_
    (repeat' (first|(refine ar_isq ?_;refine zq ?_)|refine zil (j:=k) ?_|refine zis (j:=k) ?_|refine zit (j:=k) ?_|refine zil (j:=(el h.fors k).toNat) ?_|refine zis (j:=(el h.fors k).toNat) ?_|refine zit (j:=(el h.fors k).toNat) ?_|(refine zbt ?_)|(refine zpv fn54 (hf) ?_)|(refine zpv fn31 (pLine_p h.store (el h.store.prints k).plate) ?_)|refine zst ?_|refine aw_drawn (id:=6) [(0,0),(1,0),(2,0),(3,0),(4,0),(5,0),(6,0),(7,0),(8,0),(9,0),(10,0),(11,0),(12,0),(13,0),(14,0),(15,2),(16,0),(17,0),(18,0),(19,0),(20,0)] mixed (by kernel_rfl) ?_|refine aw_drawn (id:=6) [(0,0),(1,0),(2,0),(3,0),(4,0),(5,0),(6,0),(7,0),(8,0),(9,0),(10,0),(11,0),(12,0),(13,0),(14,0),(15,1),(16,0),(17,0),(18,0),(19,0),(20,0)] mixed (by kernel_rfl) ?_|refine zco ?_ ?_|exact zd|(refine fun (hg:(_:Prop))=>?_;(try replace hg:=HG.out hg);(try dsimp only at hg);(try (have _h:True:=hg;clear _h hg)))))
    (refine aw_mono_r (env':=[(4,.ptr 5 0 0 0),(5,vi 0)]) (H':=[.arr 5 1 (fun _=>(orgF h k).enc)]) ?_ ?_;(focus ((refine sub_to [some 1] [] rfl ?_ ?_<;>(repeat' (first|exact trivial|refine ⟨⟨_,rfl,?_⟩,?_⟩|refine vs1 ?_ ?_|refine vs2 ?_ ?_|refine vs3 ?_|refine vs4 ?_ ?_|refine ⟨.inl ⟨_,_,rfl,rfl,?_⟩,?_⟩|exact ⟨.inr ⟨rfl,rfl⟩,trivial⟩|refine ⟨.inr ⟨rfl,rfl⟩,?_⟩|(intro _ _)|exact vz1|(exact .of_eq (by unfold orgF forAt ordAt Org.enc;rw [Int.toNat_natCast];rfl) rfl)|exact vz2|fail)));done)))
    refine aw_ret ?_
    (repeat (first|refine ret_then ?_|refine ret_block ?_))
    exact bq2c (f:=fun _=>(orgF h k).enc) (v:=(orgF h k).enc) (ty rfl) rfl rfl Nat.one_pos rfl rfl ⟨rfl,rfl⟩
  · have hf:=find_no h hs hw hq
    have he:=askE_cases hq
    have ht:traceF h n=noOrg:=by unfold traceF;rw [if_neg (by omega)]
    rw [ht]
    refine pcalls_of_aw Tryz.func27 rfl (dc rfl) ?_
    (repeat' (first|(refine ar_isq ?_;refine zq ?_)|(refine zbt ?_)|(refine zpv fn54 (hf) ?_)|refine zst ?_|refine aw_drawn (id:=6) [(0,0),(1,0),(2,0),(3,0),(4,0),(5,0),(6,0),(7,0),(8,0),(9,0),(10,0),(11,0),(12,0),(13,0),(14,0),(15,2),(16,0),(17,0),(18,0),(19,0),(20,0)] mixed (by kernel_rfl) ?_|refine aw_drawn (id:=6) [(0,0),(1,0),(2,0),(3,0),(4,0),(5,0),(6,0),(7,0),(8,0),(9,0),(10,0),(11,0),(12,0),(13,0),(14,0),(15,1),(16,0),(17,0),(18,0),(19,0),(20,0)] mixed (by kernel_rfl) ?_|refine zco ?_ ?_|exact zd|(refine fun (hg:(_:Prop))=>?_;(try replace hg:=HG.out hg);(try dsimp only at hg);(try (have _h:True:=hg;clear _h hg)))))
    all_goals first
      | (exfalso;omega)
      | ((refine aw_mono_r (env':=[(4,.ptr 5 0 0 0),(5,vi (askE h n))]) (H':=[.arr 5 1 (fun _=>noOrg.enc)]) ?_ ?_;(focus (exact zsc [some 1] [])))
         refine aw_ret ?_
         (repeat (first|refine ret_then ?_|refine ret_block ?_))
         exact bq2c (f:=fun _=>noOrg.enc) (v:=noOrg.enc) (ty rfl) rfl rfl Nat.one_pos rfl rfl ⟨rfl,rfl⟩)
      | trace_state
theorem hImage_p (n:Int) (hs:HSmall h) (hw:StOk h.store):PCalls Tryz.prog 26 [h.enc,vi n] (·=.tup [encBools (imageF h n),vi (askE h n)]):=by
  by_cases hq:HValid h∧inPrints h n
  · obtain ⟨hV,hn⟩:=hq
    obtain ⟨k,rfl⟩:=Int.eq_ofNat_of_zero_le hn.1
    have hk:k<h.store.prints.length:=by have:=hn.2;omega
    have hf:=find_yes h hs hw hV hk
    have hF:=hV.forss
    have ho:=(hV.fors k (by omega)).1
    have hd:=(hV.orders (el h.fors k).toNat (by unfold inOrders at ho;omega)).2.1
    have hp:=proof_p h hs hd (growF h k)
    unfold inOrders at ho
    unfold HSmall at hs
    have he:=askE_ok hV hn
    rw [he]
    have ht:imageF h k=dproofF (dsnAt h (ordAt h (forAt h k)).design) (growF h k):=by unfold imageF;rw [if_pos he,Int.toNat_natCast]
    rw [ht]
    refine pcalls_of_aw Tryz.func26 rfl (dc rfl) ?_
    (repeat' (first|(refine ar_isq ?_;refine zq ?_)|refine zil (j:=k) ?_|refine zis (j:=k) ?_|refine zit (j:=k) ?_|refine zil (j:=(el h.fors k).toNat) ?_|refine zis (j:=(el h.fors k).toNat) ?_|refine zit (j:=(el h.fors k).toNat) ?_|(refine zpv fn54 (hf) ?_)|(refine zpv fn55 (hp) ?_)|refine zst ?_|refine aw_drawn (id:=4) [(0,0),(1,0),(2,0),(3,0),(4,0),(5,0),(6,0),(7,0),(8,0),(9,0),(10,0),(11,0),(12,0),(13,0),(14,0),(15,0),(16,0),(17,0),(18,1),(19,0),(20,0)] mixed (by kernel_rfl) ?_|refine aw_drawn (id:=4) [(0,0),(1,0),(2,0),(3,0),(4,0),(5,0),(6,0),(7,0),(8,0),(9,0),(10,0),(11,0),(12,0),(13,0),(14,0),(15,0),(16,0),(17,0),(18,2),(19,0),(20,0)] mixed (by kernel_rfl) ?_|refine zco ?_ ?_|exact zd|(refine fun (hg:(_:Prop))=>?_;(try replace hg:=HG.out hg);(try dsimp only at hg);(try (have _h:True:=hg;clear _h hg)))))
    (refine aw_ret ?_;(repeat (first|refine ret_then ?_|refine ret_block ?_));refine bq2 rfl rfl ⟨?_,rfl⟩)
    unfold forAt ordAt
    rw [Int.toNat_natCast]
    rfl
  · have hf:=find_no h hs hw hq
    have he:=askE_cases hq
    have ht:imageF h n=[]:=by unfold imageF;rw [if_neg (by omega)]
    rw [ht]
    refine pcalls_of_aw Tryz.func26 rfl (dc rfl) ?_
    (repeat' (first|(refine ar_isq ?_;refine zq ?_)|(refine zpv fn54 (hf) ?_)|refine zst ?_|refine aw_drawn (id:=4) [(0,0),(1,0),(2,0),(3,0),(4,0),(5,0),(6,0),(7,0),(8,0),(9,0),(10,0),(11,0),(12,0),(13,0),(14,0),(15,0),(16,0),(17,0),(18,1),(19,0),(20,0)] mixed (by kernel_rfl) ?_|refine aw_drawn (id:=4) [(0,0),(1,0),(2,0),(3,0),(4,0),(5,0),(6,0),(7,0),(8,0),(9,0),(10,0),(11,0),(12,0),(13,0),(14,0),(15,0),(16,0),(17,0),(18,2),(19,0),(20,0)] mixed (by kernel_rfl) ?_|refine zco ?_ ?_|exact zd|(refine fun (hg:(_:Prop))=>?_;(try replace hg:=HG.out hg);(try dsimp only at hg);(try (have _h:True:=hg;clear _h hg)))))
    all_goals first
      | (exfalso;omega)
      | ((refine aw_ret ?_;(repeat (first|refine ret_then ?_|refine ret_block ?_));refine bq2 rfl rfl ⟨?_,rfl⟩);rfl)
      | ((refine aw_mono_r (env':=[(4,encBools []),(5,vi (askE h n))]) (H':=[]) ?_ ?_;(focus (exact zsb [] [])));(refine aw_ret ?_;(repeat (first|refine ret_then ?_|refine ret_block ?_));refine bq2 rfl rfl ⟨?_,rfl⟩);rfl)
      | trace_state
theorem hReport_p (n:Int) (hs:HSmall h) (hw:StOk h.store):PCalls Tryz.prog 25 [h.enc,vi n] (·=repV h n):=by
  have hr:∀ st,0≤doneF h n st∧doneF h n st≤h.fors.length:=fun st=>cntB_bnd _
  have h0:=hr 0
  have h1:=hr 1
  have h2:=hr 2
  by_cases hq:HValid h∧inOrders h n
  · obtain ⟨hV,hn⟩:=hq
    have hp:=order_p h n hs
    rw [decide_eq_true hn] at hp
    have hF:=hV.forss
    have hneed:=(hV.orders n.toNat (by unfold inOrders at hn;omega)).2.2.1
    have he:=repE_ok hV hn
    have ht:=repV_ok he
    rw [ht]
    have hin:=hn
    unfold inOrders at hin
    have hsm:=hs
    unfold HSmall at hsm
    refine pcalls_of_aw Tryz.func25 rfl (dc rfl) ?_
    (repeat' (first|(refine ar_isq ?_;refine zq ?_)|refine zil (j:=n.toNat) ?_|refine zis (j:=n.toNat) ?_|refine zit (j:=n.toNat) ?_|((refine ar_gcall0 fn43 rfl rfl [h.enc] ⟨.closed rfl,trivial⟩ (hvalid_p h hs hw) (dc rfl) ?_ (fun _ _ h=>h.elim);rintro _ _ (⟨hv,rfl,m,hta,rfl⟩|⟨hv,rfl,rfl⟩)<;>(try rw [shoB_ren])<;>(try (exact absurd hV hv))))|((refine ar_read h m hp fn53 (by intros;subst_vars;rfl) ?_;intro _ hv;subst hv))|((refine ar_lookupT ?_ (ty rfl) rfl (ty rfl) rfl (ty rfl) rfl rfl rfl rfl (dc rfl);rw [show Tal.enc (talAt m n)=.agg [vi (doneF h n 0),vi (doneF h n 1),vi (doneF h n 2)] by rw [hta n];rfl]))|refine zia (j:=0) ?_|refine zia (j:=1) ?_|refine zia (j:=2) ?_|refine zst ?_|refine aw_drawn (id:=8) [(0,0),(1,0),(2,0),(3,0),(4,0),(5,0),(6,0),(7,0),(8,0),(9,0),(10,0),(11,0),(12,0),(13,0),(14,0),(15,0),(16,0),(17,0)] mixed (by kernel_rfl) ?_|refine zco ?_ ?_|exact zd|(refine fun (hg:(_:Prop))=>?_;(try replace hg:=HG.out hg);(try dsimp only at hg);(try (have _h:True:=hg;clear _h hg)))))
    all_goals first
      | (exfalso;omega)
      | ((refine aw_ret ?_;(repeat (first|refine ret_then ?_|refine ret_block ?_));refine bq4 rfl rfl rfl rfl ⟨?_,rfl⟩);rfl)
      | trace_state
  · by_cases hV:HValid h
    · have hn:¬ inOrders h n:=fun hn=>hq ⟨hV,hn⟩
      have hp:=order_p h n hs
      rw [decide_eq_false hn] at hp
      have he:=repE_none hV hn
      have ht:=repV_no he (by decide)
      rw [ht]
      refine pcalls_of_aw Tryz.func25 rfl (dc rfl) ?_
      (repeat' (first|(refine ar_isq ?_;refine zq ?_)|((refine ar_gcall0 fn43 rfl rfl [h.enc] ⟨.closed rfl,trivial⟩ (hvalid_p h hs hw) (dc rfl) ?_ (fun _ _ h=>h.elim);rintro _ _ (⟨hv,rfl,m,hta,rfl⟩|⟨hv,rfl,rfl⟩)<;>(try rw [shoB_ren])<;>(try (exact absurd hV hv))))|((refine ar_read h m hp fn53 (by intros;subst_vars;rfl) ?_;intro _ hv;subst hv))|refine zst ?_|refine aw_drawn (id:=8) [(0,0),(1,0),(2,0),(3,0),(4,0),(5,0),(6,0),(7,0),(8,0),(9,0),(10,0),(11,0),(12,0),(13,0),(14,0),(15,0),(16,0),(17,0)] mixed (by kernel_rfl) ?_|refine zco ?_ ?_|exact zd|(refine fun (hg:(_:Prop))=>?_;(try replace hg:=HG.out hg);(try dsimp only at hg);(try (have _h:True:=hg;clear _h hg)))))
      all_goals first
        | ((refine aw_ret ?_;(repeat (first|refine ret_then ?_|refine ret_block ?_));refine bq4 rfl rfl rfl rfl ⟨?_,rfl⟩);rfl)
        | trace_state
    · have he:=repE_bad (n:=n) hV
      have ht:=repV_no he (by decide)
      rw [ht]
      refine pcalls_of_aw Tryz.func25 rfl (dc rfl) ?_
      (repeat' (first|(refine ar_isq ?_;refine zq ?_)|((refine ar_gcall0 fn43 rfl rfl [h.enc] ⟨.closed rfl,trivial⟩ (hvalid_p h hs hw) (dc rfl) ?_ (fun _ _ h=>h.elim);rintro _ _ (⟨hv,rfl,m,hta,rfl⟩|⟨hv,rfl,rfl⟩)<;>(try (exact absurd hv hV))))|refine zst ?_|refine aw_drawn (id:=8) [(0,0),(1,0),(2,0),(3,0),(4,0),(5,0),(6,0),(7,0),(8,0),(9,0),(10,0),(11,0),(12,0),(13,0),(14,0),(15,0),(16,0),(17,0)] mixed (by kernel_rfl) ?_|refine zco ?_ ?_|exact zd|(refine fun (hg:(_:Prop))=>?_;(try replace hg:=HG.out hg);(try dsimp only at hg);(try (have _h:True:=hg;clear _h hg)))))
      all_goals first
        | ((refine aw_ret ?_;(repeat (first|refine ret_then ?_|refine ret_block ?_));refine bq4 rfl rfl rfl rfl ⟨?_,rfl⟩);rfl)
        | trace_state
end
structure Fnd where
  design:Int
  grow:Int
  off:Int
instance:Inhabited Fnd:=⟨⟨0,0,0⟩⟩
def Fnd.enc (x:Fnd):V:=.agg [vi x.design,vi x.grow,vi x.off]
abbrev encFnds (l:List Fnd):V:=LV 3 Fnd.enc l
def offD (h:Hse) (dots:List Bool) (i g:Nat):Int:=offTo (dproofF (el h.designs i) g) dots dots.length
def fndOk (h:Hse) (dots:List Bool) (tol:Int) (i g:Nat):Prop:=shownF h i g=true∧offD h dots i g≤tol
instance (h:Hse) (dots:List Bool) (tol:Int) (i g:Nat):Decidable (fndOk h dots tol i g):=by unfold fndOk;infer_instance
def fndG (h:Hse) (dots:List Bool) (tol:Int) (i:Nat):Nat→List Fnd
  | 0=>[]
  | g+1=>if fndOk h dots tol i g then fndG h dots tol i g++[⟨i,g,offD h dots i g⟩] else fndG h dots tol i g
def fndSize (h:Hse) (dots:List Bool) (i:Nat):Prop:=(el h.designs i).sheet.cols*(el h.designs i).sheet.rows=(dots.length:Int)
instance (h:Hse) (dots:List Bool) (i:Nat):Decidable (fndSize h dots i):=by unfold fndSize;infer_instance
def fndD (h:Hse) (dots:List Bool) (tol:Int):Nat→List Fnd
  | 0=>[]
  | i+1=>if fndSize h dots i then fndD h dots tol i++fndG h dots tol i 21 else fndD h dots tol i
def fndS (h:Hse) (dots:List Bool) (tol:Int) (i g:Nat):List Fnd:=fndD h dots tol i++fndG h dots tol i g
def expArg (dots:List Bool) (tol:Int):Prop:=dots.length≤2400∧0≤tol∧tol≤2400
instance (dots:List Bool) (tol:Int):Decidable (expArg dots tol):=by unfold expArg;infer_instance
open Classical in
noncomputable def expE (h:Hse) (dots:List Bool) (tol:Int):Int:=if HValid h then if expArg dots tol then if (fndD h dots tol h.designs.length).length=0 then 105 else 0 else 2 else 100
noncomputable def expF (h:Hse) (dots:List Bool) (tol:Int):List Fnd:=if expE h dots tol=0 then fndD h dots tol h.designs.length else []
section
variable {h:Hse}{dots:List Bool}{tol:Int}{i g:Nat}
theorem expE_bad (hV:¬ HValid h):expE h dots tol=100:=by unfold expE;rw [if_neg hV]
theorem expE_arg (hV:HValid h) (ha:¬ expArg dots tol):expE h dots tol=2:=by unfold expE;rw [if_pos hV,if_neg ha]
theorem expE_forged (hV:HValid h) (ha:expArg dots tol) (h0:(fndD h dots tol h.designs.length).length=0):expE h dots tol=105:=by unfold expE;rw [if_pos hV,if_pos ha,if_pos h0]
theorem expE_ok (hV:HValid h) (ha:expArg dots tol) (h0:(fndD h dots tol h.designs.length).length≠0):expE h dots tol=0:=by unfold expE;rw [if_pos hV,if_pos ha,if_neg h0]
theorem expF_no {e:Int}(he:expE h dots tol=e) (h0:e≠0):expF h dots tol=[]:=by unfold expF;rw [he,if_neg h0]
theorem expF_ok (he:expE h dots tol=0):expF h dots tol=fndD h dots tol h.designs.length:=by unfold expF;rw [if_pos he]
theorem fndS_zero:fndS h dots tol i 0=fndD h dots tol i:=by unfold fndS fndG;rw [List.append_nil]
theorem fndS_yes (hg:fndOk h dots tol i g):fndS h dots tol i (g+1)=fndS h dots tol i g++[⟨i,g,offD h dots i g⟩]:=by
  unfold fndS
  rw [fndG,if_pos hg,List.append_assoc]
theorem fndS_no (hg:¬ fndOk h dots tol i g):fndS h dots tol i (g+1)=fndS h dots tol i g:=by
  unfold fndS
  rw [fndG,if_neg hg]
theorem fndD_skip (hs:¬ fndSize h dots i):fndD h dots tol (i+1)=fndD h dots tol i:=by rw [fndD,if_neg hs]
theorem fndD_full (hs:fndSize h dots i):fndD h dots tol (i+1)=fndS h dots tol i 21:=by rw [fndD,if_pos hs,fndS]
theorem fndG_len:∀ g,(fndG h dots tol i g).length≤g
  | 0=>Nat.le_refl 0
  | g+1=>by
    have:=fndG_len g
    rw [fndG]
    split
    · rw [List.length_append];exact Nat.succ_le_succ this
    · omega
theorem fndD_len:∀ i,(fndD h dots tol i).length≤21*i
  | 0=>Nat.le_refl 0
  | i+1=>by
    have h1:=fndD_len i
    have h2:=fndG_len (h:=h) (dots:=dots) (tol:=tol) (i:=i) 21
    rw [fndD]
    split
    · rw [List.length_append];omega
    · omega
theorem fndS_len (i g:Nat):(fndS h dots tol i g).length≤21*i+g:=by
  have h1:=fndD_len (h:=h) (dots:=dots) (tol:=tol) i
  have h2:=fndG_len (h:=h) (dots:=dots) (tol:=tol) (i:=i) g
  unfold fndS
  rw [List.length_append]
  omega
theorem fndG_none:∀ {g:Nat},(∀ q:Nat,q<g→shownF h i q=false)→fndG h dots tol i g=[]
  | 0,_=>rfl
  | g+1,hq=>by
    rw [fndG,if_neg (fun hk=>by have:=hq g (by omega);rw [hk.1] at this;cases this),fndG_none fun q hq'=>hq q (by omega)]
theorem fndD_none (hq:∀ q:Nat,q<21→shownF h i q=false):fndD h dots tol (i+1)=fndD h dots tol i:=by
  rw [fndD,fndG_none hq,List.append_nil,ite_self]
end
def seenA (h:Hse) (k q:Nat):Bool:=shownTo h ((q/21:Nat):Int) ((q % 21:Nat):Int) k
def seenL (h:Hse) (k:Nat):List V:=(List.range 168).map fun q=>vb (seenA h k q)
def seenV (h:Hse) (k:Nat):V:=.agg (seenL h k)
def rowL (h:Hse) (i:Nat):List Bool:=(List.range 21).map fun (g:Nat)=>shownF h i g
theorem rowL_len (h:Hse) (i:Nat):(rowL h i).length=21:=by unfold rowL;rw [List.length_map,List.length_range]
theorem seenV_ok (h:Hse) (k:Nat):V.closed.all (seenV h k).cells=true:=by
  have:∀ l:List Nat,V.closed.all (l.map fun q=>vb (seenA h k q))=true:=fun l=>by
    induction l with
    | nil=>rfl
    | cons q l ih=>rw [List.map_cons,V.closed.all,ih];rfl
  exact this _
theorem seen_set {h:Hse}{k a g:Nat}(ha:dsnOf h k=a) (hg:growF h k=g) (ha8:a<8) (hg21:g<21):putPart (seenV h k) (0+a*21+g*1) (vb true)=seenV h (k+1):=by
  have hoff:0+a*21+g*1=a*21+g:=by omega
  rw [hoff]
  unfold seenV putPart
  dsimp only
  congr 1
  refine List.ext_getElem? fun q=>?_
  have hl:(seenL h k).length=168:=by unfold seenL;rw [List.length_map,List.length_range]
  have e:∀ k,(seenL h k)[q]?=if q<168 then some (vb (seenA h k q)) else none:=fun k=>by
    unfold seenL
    rw [List.getElem?_map]
    by_cases hq:q<168
    · rw [if_pos hq,List.getElem?_range hq];rfl
    · rw [if_neg hq,List.getElem?_eq_none (by rw [List.length_range];omega)];rfl
  have hs:seenA h (k+1) q=(seenA h k q||(decide ((a:Int)=((q/21:Nat):Int))&&decide ((g:Int)=((q % 21:Nat):Int)))):=by
    unfold seenA
    rw [shownTo,ha,hg]
  rw [e (k+1),hs,List.append_assoc]
  by_cases h1:q<a*21+g
  · rw [List.getElem?_append_left (by rw [List.length_take];omega),List.getElem?_take,if_pos h1,e k]
    rw [show (decide ((a:Int)=((q/21:Nat):Int))&&decide ((g:Int)=((q % 21:Nat):Int)))=false by
      by_cases e1:(a:Int)=((q/21:Nat):Int)
      · rw [decide_eq_false (p:=(g:Int)=((q % 21:Nat):Int)) (by omega),Bool.and_false]
      · rw [decide_eq_false e1,Bool.false_and]]
    rw [Bool.or_false]
  · rw [List.getElem?_append_right (by rw [List.length_take];omega),List.length_take]
    by_cases h2:q=a*21+g
    · subst h2
      rw [if_pos (by omega),show (decide ((a:Int)=(((a*21+g)/21:Nat):Int))&&decide ((g:Int)=(((a*21+g) % 21:Nat):Int)))=true by rw [decide_eq_true (by omega),decide_eq_true (by omega)];rfl,Bool.or_true]
      rw [show a*21+g-min (a*21+g) (seenL h k).length=0 by omega]
      rfl
    · rw [List.getElem?_append_right (by show 1≤_;omega),List.getElem?_drop]
      rw [show a*21+g+(vb true).cells.length+(q-min (a*21+g) (seenL h k).length-(vb true).cells.length)=q by show a*21+g+1+(q-min (a*21+g) (seenL h k).length-1)=q;omega,e k]
      rw [show (decide ((a:Int)=((q/21:Nat):Int))&&decide ((g:Int)=((q % 21:Nat):Int)))=false by
        by_cases e1:(a:Int)=((q/21:Nat):Int)
        · rw [decide_eq_false (p:=(g:Int)=((q % 21:Nat):Int)) (by omega),Bool.and_false]
        · rw [decide_eq_false e1,Bool.false_and]]
      rw [Bool.or_false]
theorem seen_part {h:Hse}{i:Nat}(hi:i<8):partV true (seenV h h.store.prints.length).cells (0+i*21) 21=some (.agg ((rowL h i).map vb)):=by
  have hl:(seenL h h.store.prints.length).length=168:=by unfold seenL;rw [List.length_map,List.length_range]
  have hc:(seenV h h.store.prints.length).cells=seenL h h.store.prints.length:=rfl
  rw [hc]
  unfold partV
  dsimp only
  rw [show Nat.ble (0+i*21+21) (seenL h h.store.prints.length).length=true from Nat.ble_eq_true_of_le (by omega)]
  simp only [cond_true,Option.some.injEq,V.agg.injEq]
  refine List.ext_getElem? fun q=>?_
  rw [List.getElem?_take,List.getElem?_drop]
  unfold rowL seenL
  rw [List.map_map,List.getElem?_map,List.getElem?_map]
  by_cases hq:q<21
  · rw [if_pos hq,List.getElem?_range (by omega),List.getElem?_range hq]
    show some (vb (seenA h h.store.prints.length (0+i*21+q)))=some (vb (shownF h i q))
    unfold seenA shownF
    rw [show (0+i*21+q)/21=i by omega,show (0+i*21+q) % 21=q by omega]
  · rw [if_neg hq,List.getElem?_eq_none (by rw [List.length_range];omega)];rfl
theorem row_part {h:Hse}{i g:Nat}(hg:g<21):partV false ((rowL h i).map vb) (g*1) 1=some (vb (shownF h i g)):=by
  show ((rowL h i).map vb)[g*1]?=_
  unfold rowL
  rw [Nat.mul_one,List.map_map,List.getElem?_map,List.getElem?_range hg]
  rfl
theorem row_none {h:Hse}{i:Nat}(hr:rowL h i=List.replicate 21 false):∀ q:Nat,q<21→shownF h i q=false:=fun q hq=>by
  have h1:el (rowL h i) q=shownF h i q:=by unfold rowL;rw [el_map_range hq]
  rw [← h1,hr]
  unfold el
  rw [List.getD_eq_getElem?_getD,List.getElem?_replicate,if_pos hq]
  rfl
def fE (l:List Fnd):V:=match l with|[]=>vnil|x::r=>.sl 3 0 0 (x::r).length
def fB (l:List Fnd):Blk:=match l with|[]=>.dead|x::r=>LB 3 Fnd.enc (x::r)
theorem fE_pos {l:List Fnd}(h:l.length≠0):fE l=.sl 3 0 0 l.length:=by cases l with|nil=>exact (h rfl).elim|cons x r=>rfl
theorem fB_pos {l:List Fnd}(h:l.length≠0):fB l=LB 3 Fnd.enc l:=by cases l with|nil=>exact (h rfl).elim|cons x r=>rfl
theorem fE_snoc (l:List Fnd) (x:Fnd):fE (l++[x])=.sl 3 0 0 (l.length+1):=by rw [fE_pos (by simp),List.length_append];rfl
theorem fB_snoc (l:List Fnd) (x:Fnd):fB (l++[x])=LB 3 Fnd.enc (l++[x]):=fB_pos (by simp)
theorem vsub_fE {H:Heap}{σ:List (Option Nat)}{fr:Nat→Prop}{l:List Fnd}(h:σ[0]?=some (some 0)):VSub H σ fr (fE l) (fE l):=by
  cases l with
  | nil=>exact .closed rfl
  | cons x r=>exact .sl h
theorem bsub_fB {H:Heap}{σ:List (Option Nat)}{fr:Nat→Prop}{l:List Fnd}(h:σ[0]?=some (some 0)) (hH:H[0]?=some (fB l)):BSub H σ fr 0 (fB l):=by
  cases l with
  | nil=>trivial
  | cons x r=>exact .inl ⟨0,_,h,hH,fun _ _=>.closed rfl⟩
theorem dproof_len {d:Dsn}(hd:GoodD d) {g:Nat}(hg:g<21):(dproofF d g).length=d.sheet.rows.toNat*d.sheet.cols.toNat:=by
  have he:proofErr d.sheet d.band g=0:=by
    unfold proofErr
    rw [if_pos hd.2.2.1,if_pos (withinB_iff.2 (by omega))]
  unfold dproofF proofF
  rw [if_pos he,proofTo_len]
theorem good_size {d:Dsn}(hd:GoodD d):(1≤d.sheet.cols∧d.sheet.cols≤40)∧(1≤d.sheet.rows∧d.sheet.rows≤60)∧0≤d.sheet.cols*d.sheet.rows∧d.sheet.cols*d.sheet.rows≤2400:=by
  have hok:=(band_of_check hd.2.2.1).1
  unfold Sheet.ok at hok
  simp only [Bool.and_eq_true,withinB_iff] at hok
  obtain ⟨⟨⟨⟨h1,h2⟩,_⟩,_⟩,_⟩:=hok
  refine ⟨h1,h2,Int.mul_nonneg (by omega) (by omega),?_⟩
  have:=Int.mul_le_mul h1.2 h2.2 (by omega) (by omega)
  omega
theorem dproof_dots {h:Hse}{dots:List Bool}{i g:Nat}(hd:GoodD (el h.designs i)) (hg:g<21) (hs:fndSize h dots i):(dproofF (el h.designs i) g).length=dots.length:=by
  obtain ⟨h1,h2,_⟩:=good_size hd
  rw [dproof_len hd hg]
  unfold fndSize at hs
  have e1:(((el h.designs i).sheet.cols.toNat:Nat):Int)=(el h.designs i).sheet.cols:=by omega
  have e2:(((el h.designs i).sheet.rows.toNat:Nat):Int)=(el h.designs i).sheet.rows:=by omega
  have:(((el h.designs i).sheet.rows.toNat*(el h.designs i).sheet.cols.toNat:Nat):Int)=(dots.length:Int):=by
    rw [Int.natCast_mul,e1,e2,Int.mul_comm]
    exact hs
  omega
theorem offTo_bnd (a b:List Bool) (k:Nat):0≤offTo a b k∧offTo a b k≤k:=cntB_bnd k
theorem offTo_yes {a b:List Bool}{k:Nat}(h:¬ el a k=el b k):offTo a b (k+1)=offTo a b k+1:=cntB_yes (by simpa using h)
theorem offTo_no {a b:List Bool}{k:Nat}(h:el a k=el b k):offTo a b (k+1)=offTo a b k:=cntB_no (by simpa using h)
section
variable (h:Hse) (dots:List Bool) (tol:Int)
set_option maxRecDepth 100000 in
theorem hExpert_p (hs:HSmall h) (hw:StOk h.store):PCalls Tryz.prog 29 [h.enc,encBools dots,vi tol] (·=.tup [encFnds (expF h dots tol),vi (expE h dots tol)]):=by
  (refine pcalls_know (fun I us h=>rel_len (rel_arg h (j:=1) rfl)) fun hlen1=>?_)
  have hend0:∀ e:Int,expE h dots tol=e→e≠0→V.tup [encFnds [],vi e]=.tup [encFnds (expF h dots tol),vi (expE h dots tol)]:=fun e he h0=>by rw [expF_no he h0,he]
  refine pcalls_of_aw Tryz.func29 rfl (dc rfl) ?_
  (repeat' (first|(refine ar_isq ?_;refine zq ?_)|(refine zbt ?_)|((refine ar_gcall0 fn43 rfl rfl [h.enc] ⟨.closed rfl,trivial⟩ (hvalid_p h hs hw) (dc rfl) ?_ (fun _ _ h=>h.elim);rintro _ _ (⟨hv,rfl,m,ht,rfl⟩|⟨hv,rfl,rfl⟩)<;>(try rw [shoB_ren])))|(((refine ar_subk_l (sub_frzL (t:=33) vi ([tol]) rfl rfl rfl rfl (fun _ _=>rfl) (fun _=>rfl)) ?_);refine zpv fn56 (hfrom_p _ _ [tol]) ?_))|refine ar_buildLE vi ([_]) (by exact ty rfl) (by exact rfl) (by exact ty rfl) (by exact rfl) (by exact rfl) (by exact Nat.succ_pos _) (by exact rfl) (by exact dc rfl) (by exact rfl) (by exact fun _=>⟨rfl,rfl⟩) (by exact dc rfl) ?_|refine zg ?_ ?_|refine zgu ?_|refine zst ?_|refine aw_drawn (id:=10) [(0,0),(1,0),(2,0),(3,0),(4,0),(5,0),(6,0),(7,0),(8,0),(9,0),(10,0),(11,0),(12,0),(13,0),(14,0),(15,0),(16,0),(17,0),(18,0),(19,0),(20,2)] mixed (by kernel_rfl) ?_|refine zco ?_ ?_|(refine fun (hg:(_:Prop))=>?_;first|exact absurd hg (by decide)|((try replace hg:=HG.out hg);(try dsimp only at hg);(try rw [fromB_one] at hg);(try rw [withinB_iff] at hg);(try rw [withinB_no] at hg);(try (have _h:True:=hg;clear _h hg));first|(exfalso;omega)|skip))))
  all_goals first
    | ((refine aw_mono_r (env':=[(6,encFnds []),(7,vi 100)]) (H':=[]) ?_ ?_;(focus (exact zsb [] [])));(refine aw_ret ?_;(repeat (first|refine ret_then ?_|refine ret_block ?_));refine bq2 rfl rfl ⟨?_,rfl⟩);exact hend0 100 (expE_bad hv) (by decide))
    | ((refine aw_mono_r (env':=[(6,encFnds []),(7,vi 2)]) (H':=[]) ?_ ?_;(focus (exact zsb [] [])));(refine aw_ret ?_;(repeat (first|refine ret_then ?_|refine ret_block ?_));refine bq2 rfl rfl ⟨?_,rfl⟩);exact hend0 2 (expE_arg hv (by unfold expArg;omega)) (by decide))
    | skip
  have hdl:=hv.few.1
  have hsm:=hs
  unfold HSmall at hsm
  have hmp:=hv.mades
  (refine ar_sub_l (env':=[(1,encBools dots),(2,vi tol),(8,.ptr 1 2 0 0),(10,.ptr 168 3 0 0),(37,.ptr 11 0 0 0)]) (H':=[.arr 11 1 (fun _=>.agg (hseC h++[.map 1])),mapE Tal.enc m,.arr 1 1 (fun _=>.ptr 11 0 0 0),.arr 168 1 (fun _=>seenV h 0)]) ?_ ?_;(focus ((refine sub_to [some 1,some 9,some 10,some 12] [2,3,4,5,6,7,8] rfl ?_ ?_<;>(repeat' (first|exact trivial|refine ⟨⟨_,rfl,?_⟩,?_⟩|refine vs1 ?_ ?_|refine vs2 ?_ ?_|refine vs3 ?_|refine vs4 ?_ ?_|refine ⟨.inl ⟨_,_,rfl,rfl,?_⟩,?_⟩|exact ⟨.inr ⟨rfl,rfl⟩,trivial⟩|refine ⟨.inr ⟨rfl,rfl⟩,?_⟩|(intro _ _)|exact vz1|(first|exact (VSub.ptr (b:=1) rfl:VSub _ _ _ (.ptr 11 1 0 0) (.ptr 11 0 0 0))|exact .of_eq rfl (seenV_ok h 0)|refine ⟨bsub_mapE rfl rfl (fun _=>rfl),?_⟩|exact VSub.aggL ⟨.closed rfl,.closed rfl,.closed rfl,frzLB (by first|decide|(simp;done)) rfl (fun _=>rfl) rfl,frzLB (by first|decide|(simp;done)) rfl (fun _=>rfl) rfl,frzLB (by first|decide|(simp;done)) rfl (fun _=>rfl) rfl,frzLB (by first|decide|(simp;done)) rfl (fun _=>rfl) rfl,frzLB (by first|decide|(simp;done)) rfl (fun _=>rfl) rfl,frzLB (by first|decide|(simp;done)) rfl (fun _=>rfl) rfl,frzLB (by first|decide|(simp;done)) rfl (fun _=>rfl) rfl,.map rfl,trivial⟩)|exact vz2|fail)));done)))
  refine ar_subk_l (sub_preC (t:=37) (b:=0) (c:=2) (hseC h) [.map 1] rfl rfl rfl (by omega) rfl rfl) ?_
  (refine ar_sub_l (env':=[(1,encBools dots),(2,vi tol),(8,.ref (.ref h.enc 0) 0),(10,.ptr 168 0 0 0),(37,.ref h.enc 0)]) (H':=[.arr 168 1 (fun _=>seenV h 0)]) ?_ ?_;(focus ((refine sub_to [some 3] [2] rfl ?_ ?_<;>(repeat' (first|exact trivial|refine ⟨⟨_,rfl,?_⟩,?_⟩|refine vs1 ?_ ?_|refine vs2 ?_ ?_|refine vs3 ?_|refine vs4 ?_ ?_|refine ⟨.inl ⟨_,_,rfl,rfl,?_⟩,?_⟩|exact ⟨.inr ⟨rfl,rfl⟩,trivial⟩|refine ⟨.inr ⟨rfl,rfl⟩,?_⟩|(intro _ _)|exact vz1|(first|exact frzPtr' (by simp;done) rfl Nat.one_pos rfl rfl|exact .of_eq rfl (seenV_ok h 0))|exact vz2|fail)));done)))
  (repeat' (first|(refine ar_isq ?_;refine zq ?_)|(refine zbt ?_)|(refine zpv fn57 (growths_p h) ?_)|refine zg ?_ ?_|refine zgu ?_|refine zst ?_|refine aw_drawn (id:=10) [(0,0),(1,0),(2,0),(3,0),(4,0),(5,0),(6,0),(7,0),(8,0),(9,0),(10,0),(11,0),(12,0),(13,0),(14,0),(15,0),(16,0),(17,0),(18,0),(19,0),(20,2)] mixed (by kernel_rfl) ?_|refine zco ?_ ?_|(refine fun (hg:(_:Prop))=>?_;first|exact absurd hg (by decide)|((try replace hg:=HG.out hg);(try dsimp only at hg);(try rw [fromB_one] at hg);(try rw [withinB_iff] at hg);(try rw [withinB_no] at hg);(try (have _h:True:=hg;clear _h hg));first|(exfalso;omega)|skip))))
  refine aw_rangeX (fun k=>[.arr 168 1 (fun _=>seenV h k)]) _ rfl rfl fn101 (Im.growths_iter h hv) (fun _ _=>rfl) (by decide) (fun k _=>rfl) ?maps ?start ?round ?done
  case maps=>intro k j ms;match j with|0=>simp|j+1=>simp
  case start=>(refine sub_to [some 0] [] rfl ?_ ?_<;>(repeat' (first|exact trivial|refine ⟨⟨_,rfl,?_⟩,?_⟩|refine vs1 ?_ ?_|refine vs2 ?_ ?_|refine vs3 ?_|refine vs4 ?_ ?_|refine ⟨.inl ⟨_,_,rfl,rfl,?_⟩,?_⟩|exact ⟨.inr ⟨rfl,rfl⟩,trivial⟩|refine ⟨.inr ⟨rfl,rfl⟩,?_⟩|(intro _ _)|exact vz1|(exact .of_eq rfl (seenV_ok h 0))|exact vz2|fail)))
  case round =>
    intro k lp hk
    have hpl:=(hv.store.2.2.2.1 k hk).1
    have hml:=(hv.made (el h.store.prints k).plate.toNat (by omega)).1
    unfold inDesigns at hml
    have hgr:=grow_bnd hv.per.1 k
    obtain ⟨a,ha⟩:∃ a:Nat,dsnOf h k=a:=Int.eq_ofNat_of_zero_le hml.1
    obtain ⟨g,hg2⟩:∃ g:Nat,growF h k=g:=Int.eq_ofNat_of_zero_le hgr.1
    have ha8:a<8:=by unfold dsnOf at ha;omega
    have hae:el h.made (el h.store.prints k).plate.toNat=(a:Int):=ha
    have hg21:g<21:=by omega
    rw [hg2]
    (repeat' (first|(refine ar_isq ?_;refine zq ?_)|refine zil (j:=k) ?_|refine zis (j:=k) ?_|refine zit (j:=k) ?_|refine zil (j:=(el h.store.prints k).plate.toNat) ?_|refine zis (j:=(el h.store.prints k).plate.toNat) ?_|refine zit (j:=(el h.store.prints k).plate.toNat) ?_|(refine zbt ?_)|((refine ar_re (t:=57) (v':=vi a) rfl (congrArg vi hae) ?_;refine zia (j:=a) ?_))|refine zia (j:=g) ?_|refine zg ?_ ?_|refine zgu ?_|refine zst ?_|refine aw_drawn (id:=10) [(0,0),(1,0),(2,0),(3,0),(4,0),(5,0),(6,0),(7,0),(8,0),(9,0),(10,0),(11,0),(12,0),(13,0),(14,0),(15,0),(16,0),(17,0),(18,0),(19,0),(20,2)] mixed (by kernel_rfl) ?_|refine zco ?_ ?_|(refine fun (hg:(_:Prop))=>?_;first|exact absurd hg (by decide)|((try replace hg:=HG.out hg);(try dsimp only at hg);(try rw [fromB_one] at hg);(try rw [withinB_iff] at hg);(try rw [withinB_no] at hg);(try (have _h:True:=hg;clear _h hg));first|(exfalso;omega)|skip))))
    refine (show SubOf _ _ _ _ _ _ from ?_)
    (refine sub_to [some 0] [] rfl ?_ ?_<;>(repeat' (first|exact trivial|refine ⟨⟨_,rfl,?_⟩,?_⟩|refine vs1 ?_ ?_|refine vs2 ?_ ?_|refine vs3 ?_|refine vs4 ?_ ?_|refine ⟨.inl ⟨_,_,rfl,rfl,?_⟩,?_⟩|exact ⟨.inr ⟨rfl,rfl⟩,trivial⟩|refine ⟨.inr ⟨rfl,rfl⟩,?_⟩|(intro _ _)|exact vz1|(exact .of_eq (seen_set ha hg2 ha8 hg21) (seenV_ok h _))|exact vz2|fail)))
  case done =>
    refine (show AW Tryz.prog none 0 _ _ _ _ _ from ?_)
    (refine aw_mono_r (env':=[(1,encBools dots),(2,vi tol),(8,.ref (.ref h.enc 0) 0),(10,.ref (seenV h h.store.prints.length) 0)]) (H':=[]) ?_ ?_;(focus ((refine sub_to [] [0] rfl ?_ ?_<;>(repeat' (first|exact trivial|refine ⟨⟨_,rfl,?_⟩,?_⟩|refine vs1 ?_ ?_|refine vs2 ?_ ?_|refine vs3 ?_|refine vs4 ?_ ?_|refine ⟨.inl ⟨_,_,rfl,rfl,?_⟩,?_⟩|exact ⟨.inr ⟨rfl,rfl⟩,trivial⟩|refine ⟨.inr ⟨rfl,rfl⟩,?_⟩|(intro _ _)|exact vz1|(exact frzPtr' (by simp;done) rfl Nat.one_pos (seenV_ok h _) rfl)|exact vz2|fail)));done)))
    (repeat' (first|(refine ar_isq ?_;refine zq ?_)|(refine zbt ?_)|refine zg ?_ ?_|refine zgu ?_|refine zst ?_|refine aw_drawn (id:=10) [(0,0),(1,0),(2,0),(3,0),(4,0),(5,0),(6,0),(7,0),(8,0),(9,0),(10,0),(11,0),(12,0),(13,0),(14,0),(15,0),(16,0),(17,0),(18,0),(19,0),(20,2)] mixed (by kernel_rfl) ?_|refine zco ?_ ?_|(refine fun (hg:(_:Prop))=>?_;first|exact absurd hg (by decide)|((try replace hg:=HG.out hg);(try dsimp only at hg);(try rw [fromB_one] at hg);(try rw [withinB_iff] at hg);(try rw [withinB_no] at hg);(try (have _h:True:=hg;clear _h hg));first|(exfalso;omega)|skip))))
    refine aw_for h.designs.length (fun _=>True) (fun i=>[(1,encBools dots),(2,vi tol),(8,.ref (.ref h.enc 0) 0),(10,.ref (seenV h h.store.prints.length) 0),(13,fE (fndD h dots tol i)),(65,encDsns h.designs),(66,vi h.designs.length),(67,vi i)]) (fun i=>[fB (fndD h dots tol i)]) trivial ?_ ?_
    · (refine sub_to [none] [] rfl ?_ ?_<;>(repeat' (first|exact trivial|refine ⟨⟨_,rfl,?_⟩,?_⟩|refine vs1 ?_ ?_|refine vs2 ?_ ?_|refine vs3 ?_|refine vs4 ?_ ?_|refine ⟨.inl ⟨_,_,rfl,rfl,?_⟩,?_⟩|exact ⟨.inr ⟨rfl,rfl⟩,trivial⟩|refine ⟨.inr ⟨rfl,rfl⟩,?_⟩|(intro _ _)|exact vz1|(first|exact ⟨trivial,trivial⟩|exact .closed (seenV_ok h _))|exact vz2|fail)))
    intro i hi _
    by_cases hlt:i<h.designs.length
    · have hG:=hv.designs i hlt
      obtain ⟨c1,c2,c3,c4⟩:=good_size hG
      have hi8:i<8:=by omega
      (repeat' (first|(refine ar_isq ?_;refine zq ?_)|refine zil (j:=i) ?_|refine zis (j:=i) ?_|refine zit (j:=i) ?_|(refine zbt ?_)|refine zir (j:=i) ?_|refine zlr (v:=.agg ((rowL h i).map vb)) ?_ (hv:=by exact seen_part hi8)|refine ar_q (qs_build_arr (ds:=(List.replicate 21 false).map vb) (ty rfl) rfl (ty rfl) rfl rfl (build rfl)) (dc rfl) ?_|refine ar_q (qs_arrB (l1:=rowL h i) (l2:=List.replicate 21 false) (ty rfl) rfl (ty rfl) rfl rfl (by kernel_rfl) rfl rfl (rowL_len h i) (List.length_replicate)) (dc rfl) ?_|refine zg ?_ ?_|refine zgu ?_|refine zst ?_|refine aw_drawn (id:=10) [(0,0),(1,0),(2,0),(3,0),(4,0),(5,0),(6,0),(7,0),(8,0),(9,0),(10,0),(11,0),(12,0),(13,0),(14,0),(15,0),(16,0),(17,0),(18,0),(19,0),(20,2)] mixed (by kernel_rfl) ?_|refine zco ?_ ?_|(refine fun (hg:(_:Prop))=>?_;first|exact absurd hg (by decide)|((try replace hg:=HG.out hg);(try dsimp only at hg);(try rw [fromB_one] at hg);(try rw [withinB_iff] at hg);(try rw [withinB_no] at hg);(try (have _h:True:=hg;clear _h hg));first|(exfalso;omega)|skip))))
      · refine loop_next hlt trivial ?_
        rw [fndD_none (row_none hg)]
        (refine sub_to [some 0] [] rfl ?_ ?_<;>(repeat' (first|exact trivial|refine ⟨⟨_,rfl,?_⟩,?_⟩|refine vs1 ?_ ?_|refine vs2 ?_ ?_|refine vs3 ?_|refine vs4 ?_ ?_|refine ⟨.inl ⟨_,_,rfl,rfl,?_⟩,?_⟩|exact ⟨.inr ⟨rfl,rfl⟩,trivial⟩|refine ⟨.inr ⟨rfl,rfl⟩,?_⟩|(intro _ _)|exact vz1|(first|exact vsub_fE rfl|refine ⟨bsub_fB rfl rfl,?_⟩|exact .closed (row_ok h i))|exact vz2|fail)))
      · refine aw_for 21 (fun _=>True) (fun g=>[(1,encBools dots),(2,vi tol),(8,.ref (.ref h.enc 0) 0),(10,.ref (seenV h h.store.prints.length) 0),(13,fE (fndS h dots tol i g)),(14,vi i),(65,encDsns h.designs),(66,vi h.designs.length),(67,vi i),(91,.agg ((rowL h i).map vb)),(92,vi g)]) (fun g=>[fB (fndS h dots tol i g)]) trivial ?_ ?_
        · rw [fndS_zero]
          (refine sub_to [some 0] [] rfl ?_ ?_<;>(repeat' (first|exact trivial|refine ⟨⟨_,rfl,?_⟩,?_⟩|refine vs1 ?_ ?_|refine vs2 ?_ ?_|refine vs3 ?_|refine vs4 ?_ ?_|refine ⟨.inl ⟨_,_,rfl,rfl,?_⟩,?_⟩|exact ⟨.inr ⟨rfl,rfl⟩,trivial⟩|refine ⟨.inr ⟨rfl,rfl⟩,?_⟩|(intro _ _)|exact vz1|(first|exact vsub_fE rfl|refine ⟨bsub_fB rfl rfl,?_⟩|exact .closed (row_ok h i))|exact vz2|fail)))
        intro g hg21 _
        by_cases hltg:g<21
        · have hin:inDesigns h i:=⟨by omega,by omega⟩
          have hpf:PCalls Tryz.prog 55 [.ref h.enc 0,vi i,vi g] (·=encBools (dproofF (el h.designs i) g)):=proof_p h hs hin g
          have hPl:=dproof_dots (g:=g) hG hltg (show fndSize h dots i from by assumption)
          (repeat' (first|(refine ar_isq ?_;refine zq ?_)|(refine zbt ?_)|refine zix (j:=g) (v:=vb (shownF h i g)) ?_ (hv:=by exact row_part hltg)|(refine zpv fn55 (hpf) ?_)|refine zg ?_ ?_|refine zgu ?_|refine zst ?_|refine aw_drawn (id:=10) [(0,0),(1,0),(2,0),(3,0),(4,0),(5,0),(6,0),(7,0),(8,0),(9,0),(10,0),(11,0),(12,0),(13,0),(14,0),(15,0),(16,0),(17,0),(18,0),(19,0),(20,2)] mixed (by kernel_rfl) ?_|refine zco ?_ ?_|(refine fun (hg:(_:Prop))=>?_;first|exact absurd hg (by decide)|((try replace hg:=HG.out hg);(try dsimp only at hg);(try rw [fromB_one] at hg);(try rw [withinB_iff] at hg);(try rw [withinB_no] at hg);(try (have _h:True:=hg;clear _h hg));first|(exfalso;omega)|skip))))
          · refine loop_next hltg trivial ?_
            rw [fndS_no (fun hk=>by have:=hk.1;simp_all)]
            (refine sub_to [some 0] [] rfl ?_ ?_<;>(repeat' (first|exact trivial|refine ⟨⟨_,rfl,?_⟩,?_⟩|refine vs1 ?_ ?_|refine vs2 ?_ ?_|refine vs3 ?_|refine vs4 ?_ ?_|refine ⟨.inl ⟨_,_,rfl,rfl,?_⟩,?_⟩|exact ⟨.inr ⟨rfl,rfl⟩,trivial⟩|refine ⟨.inr ⟨rfl,rfl⟩,?_⟩|(intro _ _)|exact vz1|(first|exact vsub_fE rfl|refine ⟨bsub_fB rfl rfl,?_⟩|exact .closed (row_ok h i))|exact vz2|fail)))
          · have hsh:shownF h i g=true:=by simp_all
            refine aw_for dots.length (fun _=>True) (fun k=>[(1,encBools dots),(2,vi tol),(8,.ref (.ref h.enc 0) 0),(10,.ref (seenV h h.store.prints.length) 0),(13,fE (fndS h dots tol i g)),(14,vi i),(16,vi g),(18,vi (offTo (dproofF (el h.designs i) g) dots k)),(65,encDsns h.designs),(66,vi h.designs.length),(67,vi i),(91,.agg ((rowL h i).map vb)),(92,vi g),(101,encBools (dproofF (el h.designs i) g)),(102,vi dots.length),(103,vi k)]) (fun _=>[fB (fndS h dots tol i g)]) trivial ?_ ?_
            · (refine sub_to [some 0] [] rfl ?_ ?_<;>(repeat' (first|exact trivial|refine ⟨⟨_,rfl,?_⟩,?_⟩|refine vs1 ?_ ?_|refine vs2 ?_ ?_|refine vs3 ?_|refine vs4 ?_ ?_|refine ⟨.inl ⟨_,_,rfl,rfl,?_⟩,?_⟩|exact ⟨.inr ⟨rfl,rfl⟩,trivial⟩|refine ⟨.inr ⟨rfl,rfl⟩,?_⟩|(intro _ _)|exact vz1|(first|exact vsub_fE rfl|refine ⟨bsub_fB rfl rfl,?_⟩|exact .closed (row_ok h i))|exact vz2|fail)))
            intro k hk2 _
            have hob:=offTo_bnd (dproofF (el h.designs i) g) dots k
            by_cases hltk:k<dots.length
            · (repeat' (first|(refine ar_isq ?_;refine zq ?_)|refine zil (j:=k) ?_|refine zis (j:=k) ?_|refine zit (j:=k) ?_|(refine zbt ?_)|refine zg ?_ ?_|refine zgu ?_|refine zst ?_|refine aw_drawn (id:=10) [(0,0),(1,0),(2,0),(3,0),(4,0),(5,0),(6,0),(7,0),(8,0),(9,0),(10,0),(11,0),(12,0),(13,0),(14,0),(15,0),(16,0),(17,0),(18,0),(19,0),(20,2)] mixed (by kernel_rfl) ?_|refine zco ?_ ?_|(refine fun (hg:(_:Prop))=>?_;first|exact absurd hg (by decide)|((try replace hg:=HG.out hg);(try dsimp only at hg);(try rw [fromB_one] at hg);(try rw [withinB_iff] at hg);(try rw [withinB_no] at hg);(try (have _h:True:=hg;clear _h hg));first|(exfalso;omega)|skip))))
              all_goals first
                | ((first|refine loop_next (by omega) ?_ ?_|refine (show _∧_∧SubOf _ _ _ _ _ _ from And.intro (by omega) (And.intro ?_ ?_)));(focus ((trivial);done));(focus ((refine sub_to [some 0] [] rfl ?_ ?_<;>(repeat' (first|exact trivial|refine ⟨⟨_,rfl,?_⟩,?_⟩|refine vs1 ?_ ?_|refine vs2 ?_ ?_|refine vs3 ?_|refine vs4 ?_ ?_|refine ⟨.inl ⟨_,_,rfl,rfl,?_⟩,?_⟩|exact ⟨.inr ⟨rfl,rfl⟩,trivial⟩|refine ⟨.inr ⟨rfl,rfl⟩,?_⟩|(intro _ _)|exact vz1|(first|exact siEq (offTo_yes (by simpa using hg)).symm|exact siEq (offTo_no (by simpa using hg)).symm|first|exact vsub_fE rfl|refine ⟨bsub_fB rfl rfl,?_⟩|exact .closed (row_ok h i))|exact vz2|fail)));done)))
                | trace_state
            · obtain rfl:k=dots.length:=by omega
              have hfl:=fndS_len (h:=h) (dots:=dots) (tol:=tol) i g
              by_cases h0:(fndS h dots tol i g).length=0
              · have hn:=List.eq_nil_of_length_eq_zero h0
                rw [hn]
                (repeat' (first|(refine ar_isq ?_;refine zq ?_)|(refine zbt ?_)|refine zg ?_ ?_|refine zgu ?_|refine zst ?_|refine aw_drawn (id:=10) [(0,0),(1,0),(2,0),(3,0),(4,0),(5,0),(6,0),(7,0),(8,0),(9,0),(10,0),(11,0),(12,0),(13,0),(14,0),(15,0),(16,0),(17,0),(18,0),(19,0),(20,2)] mixed (by kernel_rfl) ?_|refine zco ?_ ?_|(refine fun (hg:(_:Prop))=>?_;first|exact absurd hg (by decide)|((try replace hg:=HG.out hg);(try dsimp only at hg);(try rw [fromB_one] at hg);(try rw [withinB_iff] at hg);(try rw [withinB_no] at hg);(try (have _h:True:=hg;clear _h hg));first|(exfalso;omega)|skip))))
                all_goals first
                  | (exfalso;omega)
                  | (refine loop_next hltg trivial ?_
                     rw [fndS_yes ⟨hsh,by assumption⟩,fE_snoc,fB_snoc,hn]
                     (exact zsb [some 2] []))
                  | (refine loop_next hltg trivial ?_
                     rw [fndS_no (fun hk=>absurd hk.2 (by assumption)),hn]
                     (refine sub_to [some 0] [] rfl ?_ ?_<;>(repeat' (first|exact trivial|refine ⟨⟨_,rfl,?_⟩,?_⟩|refine vs1 ?_ ?_|refine vs2 ?_ ?_|refine vs3 ?_|refine vs4 ?_ ?_|refine ⟨.inl ⟨_,_,rfl,rfl,?_⟩,?_⟩|exact ⟨.inr ⟨rfl,rfl⟩,trivial⟩|refine ⟨.inr ⟨rfl,rfl⟩,?_⟩|(intro _ _)|exact vz1|(first|exact vsub_fE rfl|refine ⟨bsub_fB rfl rfl,?_⟩|exact .closed (row_ok h i))|exact vz2|fail))))
                  | trace_state
              · rw [fE_pos h0,fB_pos h0]
                (repeat' (first|(refine ar_isq ?_;refine zq ?_)|(refine zbt ?_)|refine zg ?_ ?_|refine zgu ?_|refine zst ?_|refine aw_drawn (id:=10) [(0,0),(1,0),(2,0),(3,0),(4,0),(5,0),(6,0),(7,0),(8,0),(9,0),(10,0),(11,0),(12,0),(13,0),(14,0),(15,0),(16,0),(17,0),(18,0),(19,0),(20,2)] mixed (by kernel_rfl) ?_|refine zco ?_ ?_|(refine fun (hg:(_:Prop))=>?_;first|exact absurd hg (by decide)|((try replace hg:=HG.out hg);(try dsimp only at hg);(try rw [fromB_one] at hg);(try rw [withinB_iff] at hg);(try rw [withinB_no] at hg);(try (have _h:True:=hg;clear _h hg));first|(exfalso;omega)|skip))))
                all_goals first
                  | (exfalso;omega)
                  | (refine loop_next hltg trivial ?_
                     rw [fndS_yes ⟨hsh,by assumption⟩,fE_snoc,fB_snoc]
                     (refine sub_to [some 2] [] rfl ?_ ?_<;>(repeat' (first|exact trivial|refine ⟨⟨_,rfl,?_⟩,?_⟩|refine vs1 ?_ ?_|refine vs2 ?_ ?_|refine vs3 ?_|refine vs4 ?_ ?_|refine ⟨.inl ⟨_,_,rfl,rfl,?_⟩,?_⟩|exact ⟨.inr ⟨rfl,rfl⟩,trivial⟩|refine ⟨.inr ⟨rfl,rfl⟩,?_⟩|(intro _ _)|exact vz1|(exact .closed (row_ok h i))|exact vz2|fail))))
                  | (refine loop_next hltg trivial ?_
                     rw [fndS_no (fun hk=>absurd hk.2 (by assumption)),fE_pos h0,fB_pos h0]
                     (refine sub_to [some 0] [] rfl ?_ ?_<;>(repeat' (first|exact trivial|refine ⟨⟨_,rfl,?_⟩,?_⟩|refine vs1 ?_ ?_|refine vs2 ?_ ?_|refine vs3 ?_|refine vs4 ?_ ?_|refine ⟨.inl ⟨_,_,rfl,rfl,?_⟩,?_⟩|exact ⟨.inr ⟨rfl,rfl⟩,trivial⟩|refine ⟨.inr ⟨rfl,rfl⟩,?_⟩|(intro _ _)|exact vz1|(exact .closed (row_ok h i))|exact vz2|fail))))
                  | trace_state
        · obtain rfl:g=21:=by omega
          (repeat' (first|(refine ar_isq ?_;refine zq ?_)|(refine zbt ?_)|refine zg ?_ ?_|refine zgu ?_|refine zst ?_|refine aw_drawn (id:=10) [(0,0),(1,0),(2,0),(3,0),(4,0),(5,0),(6,0),(7,0),(8,0),(9,0),(10,0),(11,0),(12,0),(13,0),(14,0),(15,0),(16,0),(17,0),(18,0),(19,0),(20,2)] mixed (by kernel_rfl) ?_|refine zco ?_ ?_|(refine fun (hg:(_:Prop))=>?_;first|exact absurd hg (by decide)|((try replace hg:=HG.out hg);(try dsimp only at hg);(try rw [fromB_one] at hg);(try rw [withinB_iff] at hg);(try rw [withinB_no] at hg);(try (have _h:True:=hg;clear _h hg));first|(exfalso;omega)|skip))))
          all_goals first
            | (refine loop_next hlt trivial ?_
               rw [fndD_full (by assumption)]
               (refine sub_to [some 0] [] rfl ?_ ?_<;>(repeat' (first|exact trivial|refine ⟨⟨_,rfl,?_⟩,?_⟩|refine vs1 ?_ ?_|refine vs2 ?_ ?_|refine vs3 ?_|refine vs4 ?_ ?_|refine ⟨.inl ⟨_,_,rfl,rfl,?_⟩,?_⟩|exact ⟨.inr ⟨rfl,rfl⟩,trivial⟩|refine ⟨.inr ⟨rfl,rfl⟩,?_⟩|(intro _ _)|exact vz1|(first|exact vsub_fE rfl|refine ⟨bsub_fB rfl rfl,?_⟩|exact .closed (row_ok h i))|exact vz2|fail))))
            | trace_state
      · refine loop_next hlt trivial ?_
        rw [fndD_skip (show ¬ fndSize h dots i from by assumption)]
        (refine sub_to [some 0] [] rfl ?_ ?_<;>(repeat' (first|exact trivial|refine ⟨⟨_,rfl,?_⟩,?_⟩|refine vs1 ?_ ?_|refine vs2 ?_ ?_|refine vs3 ?_|refine vs4 ?_ ?_|refine ⟨.inl ⟨_,_,rfl,rfl,?_⟩,?_⟩|exact ⟨.inr ⟨rfl,rfl⟩,trivial⟩|refine ⟨.inr ⟨rfl,rfl⟩,?_⟩|(intro _ _)|exact vz1|(first|exact vsub_fE rfl|refine ⟨bsub_fB rfl rfl,?_⟩|exact .closed (row_ok h i))|exact vz2|fail)))
    · obtain rfl:i=h.designs.length:=by omega
      have hA:expArg dots tol:=⟨by omega,by omega⟩
      by_cases h0:(fndD h dots tol h.designs.length).length=0
      · have hn:=List.eq_nil_of_length_eq_zero h0
        rw [hn]
        (repeat' (first|(refine ar_isq ?_;refine zq ?_)|(refine zbt ?_)|refine ar_q (qs_eqnil0 (ty rfl) rfl rfl rfl) (dc rfl) ?_|refine zg ?_ ?_|refine zgu ?_|refine zst ?_|refine aw_drawn (id:=10) [(0,0),(1,0),(2,0),(3,0),(4,0),(5,0),(6,0),(7,0),(8,0),(9,0),(10,0),(11,0),(12,0),(13,0),(14,0),(15,0),(16,0),(17,0),(18,0),(19,0),(20,2)] mixed (by kernel_rfl) ?_|refine zco ?_ ?_|(refine fun (hg:(_:Prop))=>?_;first|exact absurd hg (by decide)|((try replace hg:=HG.out hg);(try dsimp only at hg);(try rw [fromB_one] at hg);(try rw [withinB_iff] at hg);(try rw [withinB_no] at hg);(try (have _h:True:=hg;clear _h hg));first|(exfalso;omega)|skip))))
        all_goals first
          | (exfalso;omega)
          | ((refine aw_mono_r (env':=[(6,encFnds []),(7,vi 105)]) (H':=[]) ?_ ?_;(focus (exact zsb [] [])));(refine aw_ret ?_;(repeat (first|refine ret_then ?_|refine ret_block ?_));refine bq2 rfl rfl ⟨?_,rfl⟩);exact hend0 105 (expE_forged hv hA h0) (by decide))
          | trace_state
      · rw [fE_pos h0,fB_pos h0]
        (repeat' (first|(refine ar_isq ?_;refine zq ?_)|(refine zbt ?_)|refine ar_q (qs_eqnil1 h0 (ty rfl) rfl rfl rfl) (dc rfl) ?_|refine zg ?_ ?_|refine zgu ?_|refine zst ?_|refine aw_drawn (id:=10) [(0,0),(1,0),(2,0),(3,0),(4,0),(5,0),(6,0),(7,0),(8,0),(9,0),(10,0),(11,0),(12,0),(13,0),(14,0),(15,0),(16,0),(17,0),(18,0),(19,0),(20,2)] mixed (by kernel_rfl) ?_|refine zco ?_ ?_|(refine fun (hg:(_:Prop))=>?_;first|exact absurd hg (by decide)|((try replace hg:=HG.out hg);(try dsimp only at hg);(try rw [fromB_one] at hg);(try rw [withinB_iff] at hg);(try rw [withinB_no] at hg);(try (have _h:True:=hg;clear _h hg));first|(exfalso;omega)|skip))))
        all_goals first
          | (exfalso;omega)
          | ((refine aw_mono_r (env':=[(6,encFnds (fndD h dots tol h.designs.length)),(7,vi 0)]) (H':=[]) ?_ ?_;(focus ((refine sub_to [] [0] rfl ?_ ?_<;>(repeat' (first|exact trivial|refine ⟨⟨_,rfl,?_⟩,?_⟩|refine vs1 ?_ ?_|refine vs2 ?_ ?_|refine vs3 ?_|refine vs4 ?_ ?_|refine ⟨.inl ⟨_,_,rfl,rfl,?_⟩,?_⟩|exact ⟨.inr ⟨rfl,rfl⟩,trivial⟩|refine ⟨.inr ⟨rfl,rfl⟩,?_⟩|(intro _ _)|exact vz1|(exact frzLB (by simp;done) rfl (fun _=>rfl) rfl)|exact vz2|fail)));done)))
             (refine aw_ret ?_;(repeat (first|refine ret_then ?_|refine ret_block ?_));refine bq2 rfl rfl ⟨?_,rfl⟩)
             rw [expF_ok (expE_ok hv hA h0),expE_ok hv hA h0])
          | trace_state
end
end Go.Proofs.YtbilpbabdgfblaaGreat
