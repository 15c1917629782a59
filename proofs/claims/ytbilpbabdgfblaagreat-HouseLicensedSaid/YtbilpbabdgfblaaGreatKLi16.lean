/- Parts of the proof: contracts of functions. No condition. -/
import Derived.Test.YtbilpbabdgfblaaGreatKLi15
set_option maxHeartbeats 16000000
set_option linter.unusedSimpArgs false
set_option linter.unusedVariables false
namespace Go.Proofs.YtbilpbabdgfblaaGreat
open Go.RowKit
def OrdersOk (h:Hse):Prop:=(h.orders.length≤30∧h.fors.length=h.store.prints.length)∧(∀ j,j<h.fors.length→ForAt h j)∧∀ i,i<h.orders.length→OrdAt h i
def StOk (s:Sto):Prop:=∀ j,j<s.prints.length→0≤(el s.prints j).state
def OrderedR (h:Hse) (v:V) (H:Heap):Prop:=(v=vb true∧OrdersOk h∧∃ m,TalOk h m∧H=shoB h m)∨(v=vb false∧¬ OrdersOk h)
theorem tal_small {h:Hse}{k:Nat}(hst:∀ j,j<k→0≤(el h.store.prints j).state∧(el h.store.prints j).state≤2) (hk:k≤1000) (n:Int):(talAt (talTo h k) n).small:=by
  rw [talTo_at hst]
  have h0:=doneTo_bnd h n 0 k
  have h1:=doneTo_bnd h n 1 k
  have h2:=doneTo_bnd h n 2 k
  refine ⟨?_,?_,?_⟩<;>dsimp only<;>omega
theorem hordered_p (h:Hse) (hs:HSmall h) (hV:Valid h.store) (hM:MadeOk h) (hw:StOk h.store):ACalls Tryz.prog 83 [.ptr 11 0 0 0] (shoB h []) (OrderedR h) NoP:=by
  have hs0:=hs
  unfold HSmall at hs
  have hml:=hM.1
  refine acalls_of_aw Tryz.func83 rfl (dc rfl) ?_
  (repeat' (first|(refine ar_isq ?_;refine zq ?_)|refine zg ?_ ?_|refine zgu ?_|refine zst ?_|refine aw_drawn (id:=1) [(0,0),(1,0),(2,0),(3,0),(4,0),(5,0),(6,0),(7,0),(8,0),(9,0),(10,0),(11,0),(12,0),(13,0),(14,0),(15,0),(16,0),(17,0),(18,0),(19,0),(20,0),(21,0),(22,0)] mixed (by kernel_rfl) ?_|refine aw_drawn (id:=7) [(0,0),(1,0),(2,1),(3,0),(4,0),(5,0),(6,0),(7,0),(8,0),(9,0),(10,0),(11,0),(12,0),(13,0),(14,0),(15,0),(16,0),(17,0),(18,0),(19,0),(20,0),(21,0),(22,0),(23,0),(24,0)] mixed (by kernel_rfl) ?_|refine aw_drawn (id:=7) [(0,0),(1,0),(2,2),(3,0),(4,0),(5,0),(6,0),(7,0),(8,0),(9,0),(10,0),(11,0),(12,0),(13,0),(14,0),(15,0),(16,0),(17,0),(18,0),(19,0),(20,0),(21,0),(22,0),(23,0),(24,0)] mixed (by kernel_rfl) ?_|refine aw_drawn (id:=16) [(0,0),(1,0),(2,0),(3,0),(4,0),(5,0),(6,0),(7,0),(8,0),(9,0),(10,0),(11,0),(12,0),(13,0),(14,0),(15,0)] mixed (by kernel_rfl) ?_|refine zco ?_ ?_|(refine fun (hg:(_:Prop))=>?_;first|exact absurd hg (by decide)|((try replace hg:=HG.out hg);(try dsimp only at hg);(try rw [inD_iff] at hg);(try rw [inO_iff] at hg);(try rw [fromB_one] at hg);(try rw [withinB_iff] at hg);(try rw [withinB_no] at hg);(try (have _h:True:=hg;clear _h hg));first|(exfalso;omega)|skip))))
  all_goals (try ((refine aw_ret ?_;(repeat (first|refine ret_then ?_|refine ret_block ?_));refine bq1 rfl (.inr ⟨rfl,fun hO=>?_⟩));have:=hO.1;omega))
  have hst:∀ j,j<h.store.prints.length→0≤(el h.store.prints j).state∧(el h.store.prints j).state≤2:=fun j hj=>by have:=hV.2.2.2.1 j hj;have:=hw j hj;unfold Printed at *;omega
  have hpl:∀ j,j<h.store.prints.length→0≤(el h.store.prints j).plate∧(el h.store.prints j).plate<(h.store.items.length:Int):=fun j hj=>by have:=hV.2.2.2.1 j hj;unfold Printed at this;omega
  refine aw_for h.fors.length (fun k=>∀ j,j<k→ForAt h j) (fun k=>[(0,.ptr 11 0 0 0),(37,.sl 1 7 0 h.fors.length),(38,vi h.fors.length),(39,vi k)]) (fun k=>[.arr 11 1 (fun _=>shoV 1 2 3 4 5 6 7 8 h),LB 5 Itm.enc h.store.items,LB 2 Prt.enc h.store.prints,LB 7 Dsn.enc h.designs,LB 4 Lic.enc h.lics,LB 4 Ordr.enc h.orders,LB 1 vi h.made,LB 1 vi h.fors,mapE Tal.enc (talTo h k)]) (fun j hj=>by omega) ?_ ?_
  · (exact zsc [some 0,some 1,some 2,some 3,some 4,some 5,some 6,some 7,some 8] [])
  intro k hk hJ
  by_cases hlt:k<h.fors.length
  · have hp:=hpl k (by omega)
    have hq:=hst k (by omega)
    have hsm:=tal_small (h:=h) (k:=k) (fun j hj=>hst j (by omega)) (by omega) (el h.fors k)
    (repeat' (first|(refine ar_isq ?_;refine zq ?_)|refine zil (j:=k) ?_|refine zis (j:=k) ?_|refine zit (j:=k) ?_|refine zil (j:=(el h.fors k).toNat) ?_|refine zis (j:=(el h.fors k).toNat) ?_|refine zit (j:=(el h.fors k).toNat) ?_|refine zil (j:=(el h.store.prints k).plate.toNat) ?_|refine zis (j:=(el h.store.prints k).plate.toNat) ?_|refine zit (j:=(el h.store.prints k).plate.toNat) ?_|((refine ar_read h (talTo h k) (order_p h (el h.fors k) hs0) fn53 (by intros;subst_vars;rfl) ?_;intro _ hv;subst hv))|refine ar_count (st:=(el h.store.prints k).state) (k:=1) h (talTo h k) (by omega) hsm (by omega) ?_|refine zg ?_ ?_|refine zgu ?_|refine zst ?_|refine aw_drawn (id:=1) [(0,0),(1,0),(2,0),(3,0),(4,0),(5,0),(6,0),(7,0),(8,0),(9,0),(10,0),(11,0),(12,0),(13,0),(14,0),(15,0),(16,0),(17,0),(18,0),(19,0),(20,0),(21,0),(22,0)] mixed (by kernel_rfl) ?_|refine aw_drawn (id:=7) [(0,0),(1,0),(2,1),(3,0),(4,0),(5,0),(6,0),(7,0),(8,0),(9,0),(10,0),(11,0),(12,0),(13,0),(14,0),(15,0),(16,0),(17,0),(18,0),(19,0),(20,0),(21,0),(22,0),(23,0),(24,0)] mixed (by kernel_rfl) ?_|refine aw_drawn (id:=7) [(0,0),(1,0),(2,2),(3,0),(4,0),(5,0),(6,0),(7,0),(8,0),(9,0),(10,0),(11,0),(12,0),(13,0),(14,0),(15,0),(16,0),(17,0),(18,0),(19,0),(20,0),(21,0),(22,0),(23,0),(24,0)] mixed (by kernel_rfl) ?_|refine aw_drawn (id:=16) [(0,0),(1,0),(2,0),(3,0),(4,0),(5,0),(6,0),(7,0),(8,0),(9,0),(10,0),(11,0),(12,0),(13,0),(14,0),(15,0)] mixed (by kernel_rfl) ?_|refine zco ?_ ?_|(refine fun (hg:(_:Prop))=>?_;first|exact absurd hg (by decide)|((try replace hg:=HG.out hg);(try dsimp only at hg);(try rw [inD_iff] at hg);(try rw [inO_iff] at hg);(try rw [fromB_one] at hg);(try rw [withinB_iff] at hg);(try rw [withinB_no] at hg);(try (have _h:True:=hg;clear _h hg));first|(exfalso;omega)|skip))))
    all_goals first
      | (exfalso;omega)
      | ((refine aw_ret ?_;(repeat (first|refine ret_then ?_|refine ret_block ?_));refine bq1 rfl (.inr ⟨rfl,fun hO=>?_⟩));obtain ⟨h1,h2⟩:=hO.2.1 k hlt;unfold inOrders at h1;omega)
      | ((first|refine loop_next (by omega) ?_ ?_|refine (show _∧_∧SubOf _ _ _ _ _ _ from And.intro (by omega) (And.intro ?_ ?_)));(focus (((refine all_step hJ ⟨?_,?_⟩<;>first|assumption|omega));done));(focus (exact zsc [some 0,some 1,some 2,some 3,some 4,some 5,some 6,some 7,some 8] [])))
      | trace_state
  · (repeat' (first|(refine ar_isq ?_;refine zq ?_)|refine zg ?_ ?_|refine zgu ?_|refine zst ?_|refine aw_drawn (id:=1) [(0,0),(1,0),(2,0),(3,0),(4,0),(5,0),(6,0),(7,0),(8,0),(9,0),(10,0),(11,0),(12,0),(13,0),(14,0),(15,0),(16,0),(17,0),(18,0),(19,0),(20,0),(21,0),(22,0)] mixed (by kernel_rfl) ?_|refine aw_drawn (id:=7) [(0,0),(1,0),(2,1),(3,0),(4,0),(5,0),(6,0),(7,0),(8,0),(9,0),(10,0),(11,0),(12,0),(13,0),(14,0),(15,0),(16,0),(17,0),(18,0),(19,0),(20,0),(21,0),(22,0),(23,0),(24,0)] mixed (by kernel_rfl) ?_|refine aw_drawn (id:=7) [(0,0),(1,0),(2,2),(3,0),(4,0),(5,0),(6,0),(7,0),(8,0),(9,0),(10,0),(11,0),(12,0),(13,0),(14,0),(15,0),(16,0),(17,0),(18,0),(19,0),(20,0),(21,0),(22,0),(23,0),(24,0)] mixed (by kernel_rfl) ?_|refine aw_drawn (id:=16) [(0,0),(1,0),(2,0),(3,0),(4,0),(5,0),(6,0),(7,0),(8,0),(9,0),(10,0),(11,0),(12,0),(13,0),(14,0),(15,0)] mixed (by kernel_rfl) ?_|refine zco ?_ ?_|(refine fun (hg:(_:Prop))=>?_;first|exact absurd hg (by decide)|((try replace hg:=HG.out hg);(try dsimp only at hg);(try rw [inD_iff] at hg);(try rw [inO_iff] at hg);(try rw [fromB_one] at hg);(try rw [withinB_iff] at hg);(try rw [withinB_no] at hg);(try (have _h:True:=hg;clear _h hg));first|(exfalso;omega)|skip))))
    all_goals (try (exfalso;omega))
    have hF:∀ j,j<h.fors.length→ForAt h j:=fun j hj=>hJ j (by omega)
    obtain rfl:k=h.fors.length:=by omega
    clear hJ hlt hk
    have hta:∀ n:Int,talAt (talTo h h.fors.length) n=⟨doneF h n 0,doneF h n 1,doneF h n 2⟩:=talTo_at fun j hj=>hst j (by omega)
    refine aw_for h.orders.length (fun k=>∀ j,j<k→OrdAt h j) (fun k=>[(0,.ptr 11 0 0 0),(88,.sl 4 5 0 h.orders.length),(89,vi h.orders.length),(90,vi k)]) (fun _=>[.arr 11 1 (fun _=>shoV 1 2 3 4 5 6 7 8 h),LB 5 Itm.enc h.store.items,LB 2 Prt.enc h.store.prints,LB 7 Dsn.enc h.designs,LB 4 Lic.enc h.lics,LB 4 Ordr.enc h.orders,LB 1 vi h.made,LB 1 vi h.fors,mapE Tal.enc (talTo h h.fors.length)]) (fun j hj=>by omega) ?_ ?_
    · (exact zsc [some 0,some 1,some 2,some 3,some 4,some 5,some 6,some 7,some 8] [])
    intro k hk hJ
    by_cases hlt:k<h.orders.length
    · have ht0:(talAt (talTo h h.fors.length) k).a=doneF h k 0:=by rw [hta]
      have ht1:(talAt (talTo h h.fors.length) k).b=doneF h k 1:=by rw [hta]
      have hd0:0≤doneF h k 0:=(doneTo_bnd h k 0 h.fors.length).1
      have hd1:0≤doneF h k 1:=(doneTo_bnd h k 1 h.fors.length).1
      clear hta hF
      
      (repeat' (first|(refine ar_isq ?_;refine zq ?_)|refine zil (j:=k) ?_|refine zis (j:=k) ?_|refine zit (j:=k) ?_|(((refine ar_subk_l (sub_frzL (t:=97) vi ([(el h.orders k).client]) rfl rfl rfl rfl (fun _ _=>rfl) (fun _=>rfl)) ?_);refine zpv fn56 (hfrom_p _ _ [(el h.orders k).client]) ?_))|(((refine ar_subk_l (sub_frzL (t:=110) vi ([(el h.orders k).need]) rfl rfl rfl rfl (fun _ _=>rfl) (fun _=>rfl)) ?_);refine zpv fn56 (hfrom_p _ _ [(el h.orders k).need]) ?_))|refine ar_buildLE vi ([_]) (by exact ty rfl) (by exact rfl) (by exact ty rfl) (by exact rfl) (by exact rfl) (by exact Nat.succ_pos _) (by exact rfl) (by exact dc rfl) (by exact rfl) (by exact fun _=>⟨rfl,rfl⟩) (by exact dc rfl) ?_|((refine ar_read h (talTo h h.fors.length) (design_p h (el h.orders k).design hs0) fn125 (by intros;subst_vars;rfl) ?_;intro _ hv;subst hv))|refine ar_lookupT ?_ (ty rfl) rfl (ty rfl) rfl (ty rfl) rfl rfl rfl rfl (dc rfl)|refine ar_q (qs_index (j:=0) (ty rfl) rfl (ty rfl) rfl rfl rfl (dc rfl) rfl) (dc rfl) ?_|refine ar_q (qs_index (j:=1) (ty rfl) rfl (ty rfl) rfl rfl rfl (dc rfl) rfl) (dc rfl) ?_|refine zg ?_ ?_|refine zgu ?_|refine zst ?_|refine aw_drawn (id:=1) [(0,0),(1,0),(2,0),(3,0),(4,0),(5,0),(6,0),(7,0),(8,0),(9,0),(10,0),(11,0),(12,0),(13,0),(14,0),(15,0),(16,0),(17,0),(18,0),(19,0),(20,0),(21,0),(22,0)] mixed (by kernel_rfl) ?_|refine aw_drawn (id:=7) [(0,0),(1,0),(2,1),(3,0),(4,0),(5,0),(6,0),(7,0),(8,0),(9,0),(10,0),(11,0),(12,0),(13,0),(14,0),(15,0),(16,0),(17,0),(18,0),(19,0),(20,0),(21,0),(22,0),(23,0),(24,0)] mixed (by kernel_rfl) ?_|refine aw_drawn (id:=7) [(0,0),(1,0),(2,2),(3,0),(4,0),(5,0),(6,0),(7,0),(8,0),(9,0),(10,0),(11,0),(12,0),(13,0),(14,0),(15,0),(16,0),(17,0),(18,0),(19,0),(20,0),(21,0),(22,0),(23,0),(24,0)] mixed (by kernel_rfl) ?_|refine aw_drawn (id:=16) [(0,0),(1,0),(2,0),(3,0),(4,0),(5,0),(6,0),(7,0),(8,0),(9,0),(10,0),(11,0),(12,0),(13,0),(14,0),(15,0)] mixed (by kernel_rfl) ?_|refine zco ?_ ?_|(refine fun (hg:(_:Prop))=>?_;first|exact absurd hg (by decide)|((try replace hg:=HG.out hg);(try dsimp only at hg);(try rw [inD_iff] at hg);(try rw [inO_iff] at hg);(try rw [fromB_one] at hg);(try rw [withinB_iff] at hg);(try rw [withinB_no] at hg);(try rw [ht0] at hg);(try rw [ht1] at hg);(try (have _h:True:=hg;clear _h hg));first|(exfalso;omega)|skip))))
      all_goals first
        | ((first|refine loop_next (by omega) ?_ ?_|refine (show _∧_∧SubOf _ _ _ _ _ _ from And.intro (by omega) (And.intro ?_ ?_)));(focus (((first|exact all_step hJ ⟨by assumption,inD_iff.2 (by assumption),by assumption,fun _=>⟨by omega,by omega⟩,fun hd=>absurd (hd.symm.trans (show (el h.orders k).done=true from by assumption)) (by decide)⟩|exact all_step hJ ⟨by assumption,inD_iff.2 (by assumption),by assumption,fun hd=>absurd (hd.symm.trans (show (el h.orders k).done=false from by assumption)) (by decide),fun _=>⟨by omega,by omega⟩⟩));done));(focus (exact zsc [some 0,some 1,some 2,some 3,some 4,some 5,some 6,some 7,some 8] [])))
        | ((refine aw_ret ?_;(repeat (first|refine ret_then ?_|refine ret_block ?_));refine bq1 rfl (.inr ⟨rfl,fun hO=>?_⟩));obtain ⟨h1,h2,h3,h4,h5⟩:=hO.2.2 k hlt;first|(exact absurd h1 (by assumption))|(exact absurd h3 (by assumption))|(exact absurd (inD_iff.1 h2) (by assumption))|(have a1:=h4 (by assumption);omega)|(have a1:=h5 (by assumption);omega))
        | (exfalso;simp_all;done)
        | (exfalso;omega)
        | trace_state
    · (repeat' (first|(refine ar_isq ?_;refine zq ?_)|refine zg ?_ ?_|refine zgu ?_|refine zst ?_|refine aw_drawn (id:=1) [(0,0),(1,0),(2,0),(3,0),(4,0),(5,0),(6,0),(7,0),(8,0),(9,0),(10,0),(11,0),(12,0),(13,0),(14,0),(15,0),(16,0),(17,0),(18,0),(19,0),(20,0),(21,0),(22,0)] mixed (by kernel_rfl) ?_|refine aw_drawn (id:=7) [(0,0),(1,0),(2,1),(3,0),(4,0),(5,0),(6,0),(7,0),(8,0),(9,0),(10,0),(11,0),(12,0),(13,0),(14,0),(15,0),(16,0),(17,0),(18,0),(19,0),(20,0),(21,0),(22,0),(23,0),(24,0)] mixed (by kernel_rfl) ?_|refine aw_drawn (id:=7) [(0,0),(1,0),(2,2),(3,0),(4,0),(5,0),(6,0),(7,0),(8,0),(9,0),(10,0),(11,0),(12,0),(13,0),(14,0),(15,0),(16,0),(17,0),(18,0),(19,0),(20,0),(21,0),(22,0),(23,0),(24,0)] mixed (by kernel_rfl) ?_|refine aw_drawn (id:=16) [(0,0),(1,0),(2,0),(3,0),(4,0),(5,0),(6,0),(7,0),(8,0),(9,0),(10,0),(11,0),(12,0),(13,0),(14,0),(15,0)] mixed (by kernel_rfl) ?_|refine zco ?_ ?_|(refine fun (hg:(_:Prop))=>?_;first|exact absurd hg (by decide)|((try replace hg:=HG.out hg);(try dsimp only at hg);(try rw [inD_iff] at hg);(try rw [inO_iff] at hg);(try rw [fromB_one] at hg);(try rw [withinB_iff] at hg);(try rw [withinB_no] at hg);(try rw [ht0] at hg);(try rw [ht1] at hg);(try (have _h:True:=hg;clear _h hg));first|(exfalso;omega)|skip))))
      all_goals first
        | (exfalso;omega)
        | (refine aw_ret ?_;refine bq1 rfl (.inl ⟨rfl,⟨⟨by omega,by omega⟩,hF,fun i hi=>hJ i (by omega)⟩,_,hta,rfl⟩))
        | trace_state
def shoN (n:Nat) (h:Hse) (m:List (Int × Tal)):Heap:=[.arr 11 1 (fun _=>shoV (n+1) (n+2) (n+3) (n+4) (n+5) (n+6) (n+7) (n+8) h),LB 5 Itm.enc h.store.items,LB 2 Prt.enc h.store.prints,LB 7 Dsn.enc h.designs,LB 4 Lic.enc h.lics,LB 4 Ordr.enc h.orders,LB 1 vi h.made,LB 1 vi h.fors,mapE Tal.enc m]
theorem shoB_ren {h:Hse}{m:List (Int × Tal)}{n:Nat}:(shoB h m).map (Blk.ren (rn [] n))=shoN n h m:=by
  have e2:(mapE Tal.enc m).ren (rn [] n)=mapE Tal.enc m:=mapE_renE fun _=>rfl
  show _::_::_::_::_::_::_::_::[(mapE Tal.enc m).ren (rn [] n)]=_::_::_::_::_::_::_::_::[_]
  rw [e2]
  rfl
def HValidR (h:Hse) (v:V) (H:Heap):Prop:=(HValid h∧v=.tup [.ptr 11 0 0 0,vb true]∧∃ m,TalOk h m∧H=shoB h m)∨(¬ HValid h∧v=.tup [.ptr 11 0 0 0,vb false]∧H=[.dead])
theorem hvalid_of {h:Hse}(h1:1≤h.per∧h.per≤1000) (h2:0≤h.day∧h.day≤10000) (h3:Valid h.store) (h4:ArchOk h) (h5:MadeOk h) (h6:OrdersOk h):HValid h :=
  ⟨h1,h2,h3,⟨h4.1.1,h4.1.2,h6.1.1⟩,fun i hi=>h4.2.1 _ (el_mem hi),fun i hi=>h4.2.2 _ (el_mem hi),h5.1,h5.2,h6.1.2,h6.2.1,h6.2.2⟩
theorem HValid.arch {h:Hse}(hV:HValid h):ArchOk h:=⟨⟨hV.few.1,hV.few.2.1⟩,fun d hd=>by obtain ⟨i,hi,rfl⟩:=mem_el hd;exact hV.designs i hi,fun d hd=>by obtain ⟨i,hi,rfl⟩:=mem_el hd;exact hV.lics i hi⟩
theorem HValid.madeOk {h:Hse}(hV:HValid h):MadeOk h:=⟨hV.mades,hV.made⟩
theorem HValid.ordOk {h:Hse}(hV:HValid h):OrdersOk h:=⟨⟨hV.few.2.2,hV.forss⟩,hV.fors,hV.orders⟩
theorem chk_iff {s:Sto}:((if Valid s then (0:Int) else 80)=0)↔Valid s:=by
  by_cases h:Valid s
  · rw [if_pos h];exact ⟨fun _=>h,fun _=>rfl⟩
  · rw [if_neg h];exact ⟨fun e=>absurd e (by decide),fun e=>(h e).elim⟩
theorem hvalid_p (h:Hse) (hs:HSmall h) (hw:StOk h.store):ACalls Tryz.prog 43 [h.enc] [] (HValidR h) NoP:=by
  refine acalls_of_aw Tryz.func43 rfl (dc rfl) ?_
  (repeat' (first|(refine ar_isq ?_;refine zq ?_)|((refine ar_gcall0 fn79 rfl rfl [h.enc] ⟨.closed rfl,trivial⟩ (hopen_p h hs) (dc rfl) ?_ (fun _ _ h=>h.elim);rintro _ _ ⟨rfl,rfl⟩;rw [shoB_ren]))|(((refine ar_subk_l (sub_frzL (t:=13) vi ([h.per]) rfl rfl rfl rfl (fun _ _=>rfl) (fun _=>rfl)) ?_);refine zpv fn56 (hfrom_p _ _ [h.per]) ?_))|(((refine ar_subk_l (sub_frzL (t:=21) vi ([h.day]) rfl rfl rfl rfl (fun _ _=>rfl) (fun _=>rfl)) ?_);refine zpv fn56 (hfrom_p _ _ [h.day]) ?_))|refine ar_buildLE vi ([_]) (by exact ty rfl) (by exact rfl) (by exact ty rfl) (by exact rfl) (by exact rfl) (by exact Nat.succ_pos _) (by exact rfl) (by exact dc rfl) (by exact rfl) (by exact fun _=>⟨rfl,rfl⟩) (by exact dc rfl) ?_|((refine ar_lcall fn80 rfl rfl (first:=[]) (cap:=[]) (zs:=[h.store.enc]) ⟨.aggL ⟨.closed rfl,.row rfl rfl (fun _=>rfl),.row rfl rfl (fun _=>rfl),trivial⟩,trivial⟩ (pCheck_p h.store) (by intros;subst_vars;rfl) (dc rfl) ?_;intro _ hv;subst hv))|((refine ar_read h [] (archived_p h hs) fn81 (by rintro _ ⟨_,rfl,_⟩;rfl) ?_;rintro _ ⟨ba,rfl,hba⟩))|((refine ar_read h [] (hmade_p h hs (by assumption)) fn82 (by rintro _ ⟨_,rfl,_⟩;rfl) ?_;rintro _ ⟨bm,rfl,hbm⟩))|((refine ar_gcall (H0:=shoB h []) [1,2,3,4,5,6,7,8,9] [] (first:=[]) (cap:=[]) fn83 rfl rfl (xs:=[.ptr 11 0 0 0]) ⟨.ptr rfl,trivial⟩ rfl (by decide) (fun _ h=>by cases h) (show ShoAt _ 1 2 3 4 5 6 7 8 9 h [] from {}).hsub shoB_live (hordered_p h hs (by assumption) (hbm.1 (by assumption)) hw) (dc rfl) ?_ (fun _ _ h=>h.elim);rintro _ _ (⟨rfl,hO,m,ht,rfl⟩|⟨rfl,hO⟩)))|refine zg ?_ ?_|refine zgu ?_|refine zst ?_|refine zco ?_ ?_|(refine fun (hg:(_:Prop))=>?_;first|exact absurd hg (by decide)|((try replace hg:=HG.out hg);(try dsimp only at hg);(try rw [fromB_one] at hg);(try rw [withinB_iff] at hg);(try rw [withinB_no] at hg);(try rw [chk_iff] at hg);(try (have _h:True:=hg;clear _h hg));first|(exfalso;omega)|skip))))
  all_goals first
    | (exfalso;omega)
    | ((refine aw_mono_r (env':=[(2,.ptr 11 0 0 0),(3,vb false)]) (H':=[.dead]) ?_ ?_;(focus (exact zsc [some 1] [])))
       (refine aw_ret ?_;(repeat (first|refine ret_then ?_|refine ret_block ?_));refine bq2 rfl rfl (.inr ⟨fun hv=>?_,rfl,rfl⟩))
       first
         | exact absurd hv.per (by assumption)
         | exact absurd hv.day (by assumption)
         | exact absurd hv.store (by assumption)
         | exact absurd ((hba.2 hv.arch).symm.trans (show ba=false from by assumption)) (by decide)
         | exact absurd ((hbm.2 hv.madeOk).symm.trans (show bm=false from by assumption)) (by decide)
         | exact absurd hv.ordOk (by assumption))
    | (rw [join_sho {} (by decide)]
       (repeat' (first|(refine ar_isq ?_;refine zq ?_)|refine zg ?_ ?_|refine zgu ?_|refine zst ?_|refine zco ?_ ?_|(refine fun (hg:(_:Prop))=>?_;first|exact absurd hg (by decide)|((try replace hg:=HG.out hg);(try dsimp only at hg);(try rw [fromB_one] at hg);(try rw [withinB_iff] at hg);(try rw [withinB_no] at hg);(try rw [chk_iff] at hg);(try (have _h:True:=hg;clear _h hg));first|(exfalso;omega)|skip))))
       (refine aw_mono_r (env':=[(2,.ptr 11 0 0 0),(3,vb true)]) (H':=[.arr 11 1 (fun _=>shoV 1 2 3 4 5 6 7 8 h),LB 5 Itm.enc h.store.items,LB 2 Prt.enc h.store.prints,LB 7 Dsn.enc h.designs,LB 4 Lic.enc h.lics,LB 4 Ordr.enc h.orders,LB 1 vi h.made,LB 1 vi h.fors,mapE Tal.enc m]) ?_ ?_;(focus (exact zsc [some 1,some 2,some 3,some 4,some 5,some 6,some 7,some 8,some 9] [])))
       (refine aw_ret ?_;(repeat (first|refine ret_then ?_|refine ret_block ?_));refine bq2 rfl rfl (.inl ⟨hvalid_of (by assumption) (by assumption) (by assumption) (hba.1 (by assumption)) (hbm.1 (by assumption)) (by assumption),rfl,m,by assumption,rfl⟩)))
    | trace_state
def DoOwn (s:Sto) (a:Deed) (v:V) (H:Heap):Prop:=(doE s a=0∧v=.tup [.agg [vi (actF s a).life,.sl 5 0 0 (actF s a).items.length,.sl 2 1 0 (actF s a).prints.length],vi 0]∧H=[LB 5 Itm.enc (actF s a).items,LB 2 Prt.enc (actF s a).prints])∨(doE s a≠0∧v=.tup [noSto.enc,vi (doE s a)]∧H=[])
theorem doOwn_ret {V0:V}{e:Int}{R Rp:V→Heap→Prop}{H:Heap}(hH:H[2]?=some (.arr 3 1 (fun _=>V0))) (hp:partV true V0.cells 0 3=some V0) (hR:R (.tup [V0,vi e]) H):BodyQ Tryz.prog #[.cell 4 27,.tmp 5] R Rp .ret [(4,.ptr 3 2 0 0),(5,vi e)] H :=
  bq2c (f:=fun _=>V0) (v:=V0) (ty rfl) rfl hH Nat.one_pos hp rfl hR
theorem doOwn_ret0 {V0:V}{e:Int}{R Rp:V→Heap→Prop}{H:Heap}(hH:H[0]?=some (.arr 3 1 (fun _=>V0))) (hp:partV true V0.cells 0 3=some V0) (hR:R (.tup [V0,vi e]) H):BodyQ Tryz.prog #[.cell 4 27,.tmp 5] R Rp .ret [(4,.ptr 3 0 0 0),(5,vi e)] H :=
  bq2c (f:=fun _=>V0) (v:=V0) (ty rfl) rfl hH Nat.one_pos hp rfl hR
def storeC (s:Sto):V:=.agg [vi s.life,.sl 5 0 0 s.items.length,.sl 2 1 0 s.prints.length]
theorem doOwn_p (s:Sto) (a:Deed) (hu:u8ok a.kind):ACalls Tryz.prog 169 [s.enc,a.enc] [] (DoOwn s a) NoP:=by
  refine acalls_sub (R:=fun v H'=>∃ v' H'',SubOf 0 1 [(0,v)] H' [(0,v')] H''∧DoOwn s a v' H'') (Rp:=NoP) ?_ (fun _ _ h=>h) (fun _ _ h=>h.elim)
  refine acalls_of_aw Tryz.func169 rfl (dc rfl) ?_
  
  (repeat' (first|(refine ar_isq ?_;refine zq ?_)|(refine zbt ?_)|((refine ar_gcall0 fn60 rfl rfl [s.enc] ⟨.closed rfl,trivial⟩ (valid_p s) (dc rfl) ?_ (fun _ _ h=>h.elim);rintro _ _ (⟨hv,rfl,rfl⟩|⟨hv,rfl,rfl⟩)<;>(try rw [stoB_ren])))|(((refine ar_sub_l (env':=[(4,.ptr 3 2 0 0),(6,.ptr 4 3 0 0),(17,.ptr 4 3 0 0),(18,a.enc)]) (H':=[.arr 3 1 (fun _=>s.enc),.arr 4 1 (fun _=>a.enc),.arr 3 1 (fun _=>.agg [vi 0,vnil,vnil]),.arr 4 1 (fun _=>stoV 3 s),LB 5 Itm.enc s.items,LB 2 Prt.enc s.prints,mapE vi (pressTo s.items s.items.length)]) ?_ ?_;(focus (exact zsc [some 0,some 1,some 2,some 3,some 4,some 5,some 6] [])));refine ar_gcall (H0:=stoB 0 s (pressTo s.items s.items.length)) [3,4,5,6] [] (first:=[]) (cap:=[]) fn173 rfl rfl (xs:=[.ptr 4 0 0 0,a.enc]) ⟨.ptr rfl,.closed rfl,trivial⟩ rfl (by decide) (fun _ h=>by cases h) ⟨.inl ⟨3,_,rfl,rfl,fun _ _=>VSub.aggL ⟨.closed rfl,.sl rfl,.sl rfl,.map rfl,trivial⟩⟩,.inl ⟨4,_,rfl,rfl,fun _ _=>.closed rfl⟩,.inl ⟨5,_,rfl,rfl,fun _ _=>.closed rfl⟩,bsub_mapE rfl rfl (fun _=>rfl),trivial⟩ stoB_live (do_p s _ a hu hv (pressOk_of hv)) (dc rfl) ?_ (fun _ _ h=>h.elim);rintro _ _ (⟨he,rfl,rfl⟩|⟨he,rfl,rfl⟩)<;>try (rcases actH_cases (s:=s) (p:=pressTo s.items s.items.length) (a:=a) with hH|hH|hH<;>rw [hH]<;>first|rw [joinWI3]|rw [joinWP3]|rw [joinST3])))|refine zst ?_|refine zco ?_ ?_|exact zd|(refine fun (hg:(_:Prop))=>?_;(try replace hg:=HG.out hg);(try dsimp only at hg);(try (have _h:True:=hg;clear _h hg)))))
  · (refine aw_mono_r (env':=[(4,.ptr 3 2 0 0),(5,vi 0)]) (H':=[LB 5 Itm.enc (actF s a).items,LB 2 Prt.enc (actF s a).prints,.arr 3 1 (fun _=>storeC (actF s a))]) ?_ ?_;(focus (exact zsc [some 7,some 5,some 2] [])))
    refine aw_ret ?_;(repeat (first|refine ret_then ?_|refine ret_block ?_));refine doOwn_ret rfl rfl ⟨_,_,?_,.inl ⟨(doE_ok hv).trans he,rfl,rfl⟩⟩
    (exact zsc [some 0,some 1] [])
  · (refine aw_mono_r (env':=[(4,.ptr 3 2 0 0),(5,vi 0)]) (H':=[LB 5 Itm.enc (actF s a).items,LB 2 Prt.enc (actF s a).prints,.arr 3 1 (fun _=>storeC (actF s a))]) ?_ ?_;(focus (exact zsc [some 4,some 7,some 2] [])))
    refine aw_ret ?_;(repeat (first|refine ret_then ?_|refine ret_block ?_));refine doOwn_ret rfl rfl ⟨_,_,?_,.inl ⟨(doE_ok hv).trans he,rfl,rfl⟩⟩
    (exact zsc [some 0,some 1] [])
  · (refine aw_mono_r (env':=[(4,.ptr 3 2 0 0),(5,vi 0)]) (H':=[LB 5 Itm.enc (actF s a).items,LB 2 Prt.enc (actF s a).prints,.arr 3 1 (fun _=>storeC (actF s a))]) ?_ ?_;(focus (exact zsc [some 4,some 5,some 2] [])))
    refine aw_ret ?_;(repeat (first|refine ret_then ?_|refine ret_block ?_));refine doOwn_ret rfl rfl ⟨_,_,?_,.inl ⟨(doE_ok hv).trans he,rfl,rfl⟩⟩
    (exact zsc [some 0,some 1] [])
  · (refine aw_mono_r (env':=[(4,.ptr 3 0 0 0),(5,vi (actE s a))]) (H':=[.arr 3 1 (fun _=>noSto.enc)]) ?_ ?_;(focus (exact zsc [some 2] [])))
    refine aw_ret ?_;(repeat (first|refine ret_then ?_|refine ret_block ?_));refine doOwn_ret0 rfl rfl ⟨_,_,?_,.inr ⟨by rw [doE_ok hv];exact he,rfl,rfl⟩⟩
    rw [doE_ok hv]
    (exact zsb [] [])
  · (refine aw_mono_r (env':=[(4,.ptr 3 0 0 0),(5,vi 80)]) (H':=[.arr 3 1 (fun _=>noSto.enc)]) ?_ ?_;(focus (exact zsc [some 2] [])))
    refine aw_ret ?_;(repeat (first|refine ret_then ?_|refine ret_block ?_));refine doOwn_ret0 rfl rfl ⟨_,_,?_,.inr ⟨by rw [doE_bad hv];decide,rfl,rfl⟩⟩
    rw [doE_bad hv]
    (exact zsb [] [])
def shoY (h:Hse) (m:List (Int × Tal)):Heap:=[.arr 11 1 (fun _=>shoV 9 10 3 4 5 6 7 8 h),.dead,.dead,LB 7 Dsn.enc h.designs,LB 4 Lic.enc h.lics,LB 4 Ordr.enc h.orders,LB 1 vi h.made,LB 1 vi h.fors,mapE Tal.enc m,LB 5 Itm.enc h.store.items,LB 2 Prt.enc h.store.prints]
def shoX (h:Hse) (m:List (Int × Tal)):Heap:=[.arr 11 1 (fun _=>shoV 9 10 11 12 13 14 15 8 h),.dead,.dead,.dead,.dead,.dead,.dead,.dead,mapE Tal.enc m,LB 5 Itm.enc h.store.items,LB 2 Prt.enc h.store.prints,LB 7 Dsn.enc h.designs,LB 4 Lic.enc h.lics,LB 4 Ordr.enc h.orders,LB 1 vi h.made,LB 1 vi h.fors]
theorem act_p (h:Hse) (m:List (Int × Tal)) (a:Deed) (hV:Valid h.store) (hu:u8ok a.kind):ACalls Tryz.prog 158 [.ptr 11 0 0 0,a.enc] (shoB h m) (fun v H=>actE h.store a=0∧v=.tup []∧H=shoY (withS h (actF h.store a)) m) (fun v _=>actE h.store a≠0∧v=refV (actE h.store a)):=by
  have hE:=doE_ok (a:=a) hV
  refine acalls_of_aw Tryz.func158 rfl (dc rfl) ?_;refine aw_post ?_
  (repeat' (first|(refine ar_isq ?_;refine zq ?_)|((refine ar_gcall (H0:=[]) [] [1,2] (first:=[]) (cap:=[]) fn169 rfl rfl (xs:=[h.store.enc,a.enc]) ⟨.aggL ⟨.closed rfl,frzLB (List.elem_iff.1 rfl) rfl (fun _=>rfl) rfl,frzLB (List.elem_iff.1 rfl) rfl (fun _=>rfl) rfl,trivial⟩,.closed rfl,trivial⟩ rfl List.nodup_nil (fun _ _ h=>by cases h) trivial (fun _ h=>by cases h) (doOwn_p h.store a hu) (dc rfl) ?_ (fun _ _ h=>h.elim);rintro _ _ (⟨he,rfl,rfl⟩|⟨he,rfl,rfl⟩)))|(refine ar_must ?_ ?_<;>intro hrf<;>first|exact absurd hrf (by decide)|(try replace hrf:=HG.out hrf))|refine ar_forkL ?_ ?_|refine ar_lq rfl ?_|refine zst ?_|refine aw_fork (id:=1) [[(10,1),(6,2),(7,0),(8,0),(9,0),(11,2),(12,0)]] [(0,0),(1,0),(2,0),(3,0),(4,0),(5,0),(0,3),(6,2),(7,0),(8,0),(9,0),(10,1),(11,2),(12,0)] mixed (by kernel_rfl) ?_|refine zco ?_ ?_|exact zd|(refine fun (hg:(_:Prop))=>?_;(try replace hg:=HG.out hg);(try dsimp only at hg);(try (have _h:True:=hg;clear _h hg)))))
  all_goals first
    | exact absurd hrf he
    | (intro H';exact (⟨by rw [← hE];exact he,by rw [hE]⟩:actE h.store a≠0∧refV (doE h.store a)=refV (actE h.store a)))
    | ((refine subq_n [] [.arr 11 1 (fun _=>shoV 9 10 3 4 5 6 7 8 (withS h (actF h.store a))),.dead,.dead,LB 7 Dsn.enc h.designs,LB 4 Lic.enc h.lics,LB 4 Ordr.enc h.orders,LB 1 vi h.made,LB 1 vi h.fors,mapE Tal.enc m,LB 5 Itm.enc (actF h.store a).items,LB 2 Prt.enc (actF h.store a).prints] ?_ ?_;(focus (exact zsc [some 0,some 1,some 2,some 3,some 4,some 5,some 6,some 7,some 8,some 10,some 11] [])))
       exact bq0n ⟨hE▸he,rfl,rfl⟩)
    | ((refine subq_n [] [.arr 11 1 (fun _=>shoV 9 10 3 4 5 6 7 8 (withS h (actF h.store a))),.dead,.dead,LB 7 Dsn.enc h.designs,LB 4 Lic.enc h.lics,LB 4 Ordr.enc h.orders,LB 1 vi h.made,LB 1 vi h.fors,mapE Tal.enc m,LB 5 Itm.enc (actF h.store a).items,LB 2 Prt.enc (actF h.store a).prints] ?_ ?_;(focus (exact zsc [some 0,some 1,some 2,some 3,some 4,some 5,some 6,some 7,some 8,some 11,some 12] [])))
       exact bq0n ⟨hE▸he,rfl,rfl⟩)
    | trace_state
theorem small_band {s:Sheet}{b:List (List Int)}(h:checkErr s b=0):SmallB b:=by
  obtain ⟨h1,h2,h3⟩:=band_of_check h
  have hs:=Sheet.bounds h1
  refine ⟨by omega,fun l hl=>?_⟩
  have:=(isLineB_iff.1 (List.all_eq_true.1 h3 l hl)).1
  omega
theorem good_small {d:Dsn}(h:GoodD d):SmallB d.band:=small_band h.2.2.1
theorem hsmall_of {h:Hse}(hV:HValid h):HSmall h:=by
  have h1:=hV.store.1
  unfold Few at h1
  have h2:=hV.few
  have h3:=hV.mades
  have h4:=hV.forss
  refine ⟨by omega,by omega,by omega,by omega,by omega,by omega,by omega,fun d hd=>?_⟩
  obtain ⟨i,hi,rfl⟩:=mem_el hd
  exact good_small (hV.designs i hi)
def DeedR (h':Hse) (e:Int) (v:V) (H:Heap):Prop:=e=0∧v=.tup []∧∃ m',TalOk h' m'∧H=shoX h' m'
def DeedP (e:Int) (v:V) (_:Heap):Prop:=e≠0∧v=refV e
theorem dead_ret {e x:Int}(he:e=x) (hx:x≠0) (H:Heap):DeedP e (refV x) H:=by subst he;exact ⟨hx,rfl⟩
theorem vsub_snoc {α:Type}[Inhabited α] {H:Heap}{σ:List (Option Nat)}{fr:Nat→Prop}{i n:Nat}{e:α→V}{l:List α}{x:α}{f g:Nat→V}(hn:n=l.length) (hi:i<(l++[x]).length) (hf:∀ j,j<l.length→f j=e (el l j)) (hv:g 0=e x) (hc:∀ y,(e y).closed=true):VSub H σ fr (appF n f g i) (e (el (l++[x]) i)):=by
  subst hn
  by_cases h:i<l.length
  · rw [appF_lt h,el_app_lt h,hf i h];exact .closed (hc _)
  · have:i=l.length:=by rw [List.length_append,List.length_singleton] at hi;omega
    subst this
    rw [appF_ge (Nat.le_refl _),Nat.sub_self,hv,el_snoc]
    exact .closed (hc _)
theorem talOk_same {h h':Hse}{m:List (Int × Tal)}(ht:TalOk h m) (hd:∀ n st,doneF h' n st=doneF h n st):TalOk h' m:=fun n=>by rw [ht n,hd,hd,hd]
theorem archE_1 {h:Hse}{j:Job}(h1:¬ (0≤j.client∧j.client≤50)):archE h j=2:=by unfold archE;rw [if_pos (show ¬ aClient j.client from h1)]
theorem archE_2 {h:Hse}{j:Job}(h1:0≤j.client∧j.client≤50) (h2:¬ checkErr j.sheet j.band=0):archE h j=checkErr j.sheet j.band:=by unfold archE;rw [if_neg (fun h=>h h1),if_pos h2]
theorem archE_3 {h:Hse}{j:Job}(h1:0≤j.client∧j.client≤50) (h2:checkErr j.sheet j.band=0) (h3:¬ GoodD j.dsn):archE h j=101:=by unfold archE;rw [if_neg (fun h=>h h1),if_neg (fun h=>h h2),if_pos h3]
theorem archE_4 {h:Hse}{j:Job}(h1:0≤j.client∧j.client≤50) (h2:checkErr j.sheet j.band=0) (h3:GoodD j.dsn) (h4:¬ (h.designs.length:Int)<8):archE h j=9:=by unfold archE;rw [if_neg (fun h=>h h1),if_neg (fun h=>h h2),if_neg (fun h=>h h3),if_pos (by omega)]
theorem archE_5 {h:Hse}{j:Job}(h1:0≤j.client∧j.client≤50) (h2:checkErr j.sheet j.band=0) (h3:GoodD j.dsn) (h4:(h.designs.length:Int)<8):archE h j=0:=by unfold archE;rw [if_neg (fun h=>h h1),if_neg (fun h=>h h2),if_neg (fun h=>h h3),if_neg (by omega)]
theorem licnE_1 {h:Hse}{j:Job}(h1:¬ (0≤j.design∧j.design<(h.designs.length:Int))):licnE h j=6:=by unfold licnE;rw [if_pos (show ¬ inDesigns h j.design from h1)]
theorem licnE_2 {h:Hse}{j:Job}(h1:0≤j.design∧j.design<(h.designs.length:Int)) (h2:¬ (aClient j.client∧j.client≠ownerOf h j.design∧(1≤j.n∧j.n≤400)∧(h.day≤j.til∧j.til≤10000))):licnE h j=2:=by unfold licnE;rw [if_neg (fun h=>h h1),if_pos h2]
theorem licnE_3 {h:Hse}{j:Job}(h1:0≤j.design∧j.design<(h.designs.length:Int)) (h2:aClient j.client∧j.client≠ownerOf h j.design∧(1≤j.n∧j.n≤400)∧(h.day≤j.til∧j.til≤10000)) (h3:¬ (h.lics.length:Int)<20):licnE h j=9:=by unfold licnE;rw [if_neg (fun h=>h h1),if_neg (fun h=>h h2),if_pos (by omega)]
theorem licnE_4 {h:Hse}{j:Job}(h1:0≤j.design∧j.design<(h.designs.length:Int)) (h2:aClient j.client∧j.client≠ownerOf h j.design∧(1≤j.n∧j.n≤400)∧(h.day≤j.til∧j.til≤10000)) (h3:(h.lics.length:Int)<20):licnE h j=0:=by unfold licnE;rw [if_neg (fun h=>h h1),if_neg (fun h=>h h2),if_neg (by omega)]
section
variable (h:Hse) (m:List (Int × Tal)) (j:Job)
theorem archive_p (hV:HValid h) (ht:TalOk h m):ACalls Tryz.prog 128 [.ptr 11 0 0 0,j.enc] (shoB h m) (DeedR (archF h j) (archE h j)) (DeedP (archE h j)):=by
  have hs:=hsmall_of hV
  have hfew:=hV.few
  by_cases hc:checkErr j.sheet j.band=0
  · have hsb:=small_band hc
    refine acalls_of_aw Tryz.func128 rfl (dc rfl) ?_;refine aw_post ?_
    (repeat' (first|(refine ar_isq ?_;refine zq ?_)|(refine zbt ?_)|(((refine ar_subk_l (sub_frzL (t:=8) vi ([j.client]) rfl rfl rfl rfl (fun _ _=>rfl) (fun _=>rfl)) ?_);refine zpv fn56 (hfrom_p _ _ [j.client]) ?_))|refine ar_buildLE vi ([_]) (by exact ty rfl) (by exact rfl) (by exact ty rfl) (by exact rfl) (by exact rfl) (by exact Nat.succ_pos _) (by exact rfl) (by exact dc rfl) (by exact rfl) (by exact fun _=>⟨rfl,rfl⟩) (by exact dc rfl) ?_|(refine zpv fn58 (check_p j.sheet j.band) ?_)|(refine zpv fn116 (htwin_p j.dsn hsb) ?_)|(refine zpv fn122 (good_p j.dsn) ?_)|((refine ar_must ?_ ?_<;>intro hrf<;>first|exact absurd hrf (by decide)|((try replace hrf:=HG.out hrf);(try dsimp only at hrf);(try rw [fromB_one] at hrf);(try rw [withinB_iff] at hrf);(try rw [withinB_no] at hrf);(try rw [inD_iff] at hrf);(try rw [inO_iff] at hrf))))|refine zst ?_|refine aw_drawn (id:=7) [(0,0),(1,0),(2,0),(3,0),(4,0),(5,0),(6,0),(7,1),(8,1),(9,0),(10,0),(11,0),(12,2)] mixed (by kernel_rfl) ?_|refine zco ?_ ?_|(refine fun (hg:(_:Prop))=>?_;first|exact absurd hg (by decide)|((try replace hg:=HG.out hg);(try dsimp only at hg);(try rw [fromB_one] at hg);(try rw [withinB_iff] at hg);(try rw [withinB_no] at hg);(try rw [inD_iff] at hg);(try rw [inO_iff] at hg);(try (have _h:True:=hg;clear _h hg));first|(exfalso;omega)|skip))))
    all_goals first
      | exact absurd hc (by assumption)
      | exact dead_ret (archE_1 (by assumption)) (by decide)
      | exact dead_ret (archE_3 (by assumption) (by assumption) (by assumption)) (by decide)
      | exact dead_ret (archE_4 (by assumption) (by assumption) (by assumption) (by assumption)) (by decide)
      | ((refine subq_n [] [.arr 11 1 (fun _=>shoV 9 10 11 12 13 14 15 8 (archF h j)),.dead,.dead,.dead,.dead,.dead,.dead,.dead,mapE Tal.enc m,LB 5 Itm.enc (archF h j).store.items,LB 2 Prt.enc (archF h j).store.prints,LB 7 Dsn.enc (archF h j).designs,LB 4 Lic.enc (archF h j).lics,LB 4 Ordr.enc (archF h j).orders,LB 1 vi (archF h j).made,LB 1 vi (archF h j).fors] ?_ ?_;(focus ((refine sub_toL [some 0,some 1,some 2,some 3,some 4,some 5,some 6,some 7,some 8,some 1,some 2,some 13,some 4,some 5,some 6,some 7] [] rfl ?_ ?_<;>(repeat' (first|exact trivial|refine ⟨⟨_,rfl,?_⟩,?_⟩|refine vs1 ?_ ?_|refine vs2 ?_ ?_|refine vs3 ?_|refine vs4 ?_ ?_|refine ⟨.inl ⟨_,_,rfl,rfl,?_⟩,?_⟩|exact ⟨.inr ⟨rfl,rfl⟩,trivial⟩|refine ⟨.inr ⟨rfl,rfl⟩,?_⟩|(intro _ _)|exact vz1|(first|refine ⟨trivial,?_⟩|refine ⟨bsub_mapE rfl rfl (fun _=>rfl),?_⟩|exact VSub.aggL ⟨.closed rfl,.closed rfl,.closed rfl,.sl rfl,.sl rfl,slEq rfl (by simp [archF]),.sl rfl,.sl rfl,.sl rfl,.sl rfl,.map rfl,trivial⟩)|exact vz2|fail)));done)))
         exact bq0n ⟨archE_5 (by assumption) (by assumption) (by assumption) (by assumption),rfl,m,talOk_same ht (fun _ _=>rfl),rfl⟩)
      | trace_state
  · refine acalls_of_aw Tryz.func128 rfl (dc rfl) ?_
    (repeat' (first|(refine ar_isq ?_;refine zq ?_)|(refine zbt ?_)|(((refine ar_subk_l (sub_frzL (t:=8) vi ([j.client]) rfl rfl rfl rfl (fun _ _=>rfl) (fun _=>rfl)) ?_);refine zpv fn56 (hfrom_p _ _ [j.client]) ?_))|refine ar_buildLE vi ([_]) (by exact ty rfl) (by exact rfl) (by exact ty rfl) (by exact rfl) (by exact rfl) (by exact Nat.succ_pos _) (by exact rfl) (by exact dc rfl) (by exact rfl) (by exact fun _=>⟨rfl,rfl⟩) (by exact dc rfl) ?_|(refine zpv fn58 (check_p j.sheet j.band) ?_)|((refine ar_must ?_ ?_<;>intro hrf<;>first|exact absurd hrf (by decide)|((try replace hrf:=HG.out hrf);(try dsimp only at hrf);(try rw [fromB_one] at hrf);(try rw [withinB_iff] at hrf);(try rw [withinB_no] at hrf);(try rw [inD_iff] at hrf);(try rw [inO_iff] at hrf))))|refine zst ?_|refine aw_drawn (id:=7) [(0,0),(1,0),(2,0),(3,0),(4,0),(5,0),(6,0),(7,1),(8,1),(9,0),(10,0),(11,0),(12,2)] mixed (by kernel_rfl) ?_|refine zco ?_ ?_|(refine fun (hg:(_:Prop))=>?_;first|exact absurd hg (by decide)|((try replace hg:=HG.out hg);(try dsimp only at hg);(try rw [fromB_one] at hg);(try rw [withinB_iff] at hg);(try rw [withinB_no] at hg);(try rw [inD_iff] at hg);(try rw [inO_iff] at hg);(try (have _h:True:=hg;clear _h hg));first|(exfalso;omega)|skip))))
    all_goals first
      | exact absurd (by assumption) hc
      | exact dead_ret (archE_1 (by assumption))  (by decide)
      | exact dead_ret (archE_2 (by assumption) (by assumption)) hc
      | trace_state
theorem license_p (hV:HValid h) (ht:TalOk h m):ACalls Tryz.prog 129 [.ptr 11 0 0 0,j.enc] (shoB h m) (DeedR (licnF h j) (licnE h j)) (DeedP (licnE h j)):=by
  have hs:=hsmall_of hV
  have hfew:=hV.few
  refine acalls_of_aw Tryz.func129 rfl (dc rfl) ?_;refine aw_post ?_
  (repeat' (first|(refine ar_isq ?_;refine zq ?_)|refine zil (j:=j.design.toNat) ?_|refine zis (j:=j.design.toNat) ?_|refine zit (j:=j.design.toNat) ?_|(refine zbt ?_)|((refine ar_read h m (design_p h j.design hs) fn125 (by intros;subst_vars;rfl) ?_;intro _ hv;subst hv))|(((refine ar_subk_l (sub_frzL (t:=11) vi ([j.client]) rfl rfl rfl rfl (fun _ _=>rfl) (fun _=>rfl)) ?_);refine zpv fn56 (hfrom_p _ _ [j.client]) ?_))|(((refine ar_subk_l (sub_frzL (t:=31) vi ([j.n]) rfl rfl rfl rfl (fun _ _=>rfl) (fun _=>rfl)) ?_);refine zpv fn56 (hfrom_p _ _ [j.n]) ?_))|(((refine ar_subk_l (sub_frzL (t:=42) vi ([j.til]) rfl rfl rfl rfl (fun _ _=>rfl) (fun _=>rfl)) ?_);refine zpv fn56 (hfrom_p _ _ [j.til]) ?_))|refine ar_buildLE vi ([_]) (by exact ty rfl) (by exact rfl) (by exact ty rfl) (by exact rfl) (by exact rfl) (by exact Nat.succ_pos _) (by exact rfl) (by exact dc rfl) (by exact rfl) (by exact fun _=>⟨rfl,rfl⟩) (by exact dc rfl) ?_|((refine ar_must ?_ ?_<;>intro hrf<;>first|exact absurd hrf (by decide)|((try replace hrf:=HG.out hrf);(try dsimp only at hrf);(try rw [fromB_one] at hrf);(try rw [withinB_iff] at hrf);(try rw [withinB_no] at hrf);(try rw [inD_iff] at hrf);(try rw [inO_iff] at hrf))))|refine zg ?_ ?_|refine zgu ?_|refine zst ?_|refine aw_drawn (id:=2) [(0,0),(1,0),(2,1),(3,2),(4,0),(5,0),(6,0),(7,0),(8,0),(9,0),(10,0),(11,0),(12,0),(13,0),(14,0),(15,0),(16,0),(17,0),(18,0),(19,0),(20,0),(21,0),(22,1),(23,2),(24,0),(25,0),(26,0),(27,0),(28,0),(29,0),(30,0),(31,0),(32,0),(33,1),(34,2),(35,0),(36,2)] mixed (by kernel_rfl) ?_|refine aw_drawn (id:=2) [(0,0),(1,0),(2,1),(3,1),(4,0),(5,0),(6,0),(7,0),(8,0),(9,0),(10,0),(11,0),(12,0),(13,0),(14,0),(15,0),(16,0),(17,0),(18,0),(19,0),(20,0),(21,0),(22,1),(23,1),(24,0),(25,0),(26,0),(27,0),(28,0),(29,0),(30,0),(31,0),(32,0),(33,1),(34,1),(35,0),(36,1)] mixed (by kernel_rfl) ?_|refine aw_drawn (id:=4) [(0,0),(1,0),(2,0),(3,0),(4,0),(5,0),(6,0),(7,0),(8,0),(9,0),(10,0),(11,0),(12,0),(13,0),(14,0),(15,1),(16,1),(17,0),(18,0),(19,0),(20,2)] mixed (by kernel_rfl) ?_|refine zco ?_ ?_|(refine fun (hg:(_:Prop))=>?_;first|exact absurd hg (by decide)|((try replace hg:=HG.out hg);(try dsimp only at hg);(try rw [fromB_one] at hg);(try rw [withinB_iff] at hg);(try rw [withinB_no] at hg);(try rw [inD_iff] at hg);(try rw [inO_iff] at hg);(try (have _h:True:=hg;clear _h hg));first|(exfalso;omega)|skip))))
  all_goals first
    | exact dead_ret (licnE_1 (by assumption)) (by decide)
    | exact dead_ret (licnE_2 (by assumption) (fun hx=>by obtain ⟨x1,x2,x3,x4⟩:=hx;first|exact absurd x1 (by assumption)|exact absurd x3 (by assumption)|exact absurd x4 (by assumption)|exact x2 (by assumption))) (by decide)
    | exact dead_ret (licnE_3 (by assumption) ⟨by assumption,by assumption,by assumption,by assumption⟩ (by assumption)) (by decide)
    | ((refine subq_n [] [.arr 11 1 (fun _=>shoV 9 10 11 12 13 14 15 8 (licnF h j)),.dead,.dead,.dead,.dead,.dead,.dead,.dead,mapE Tal.enc m,LB 5 Itm.enc (licnF h j).store.items,LB 2 Prt.enc (licnF h j).store.prints,LB 7 Dsn.enc (licnF h j).designs,LB 4 Lic.enc (licnF h j).lics,LB 4 Ordr.enc (licnF h j).orders,LB 1 vi (licnF h j).made,LB 1 vi (licnF h j).fors] ?_ ?_;(focus ((refine sub_toL [some 0,some 1,some 2,some 3,some 4,some 5,some 6,some 7,some 8,some 1,some 2,some 3,some 14,some 5,some 6,some 7] [] rfl ?_ ?_<;>(repeat' (first|exact trivial|refine ⟨⟨_,rfl,?_⟩,?_⟩|refine vs1 ?_ ?_|refine vs2 ?_ ?_|refine vs3 ?_|refine vs4 ?_ ?_|refine ⟨.inl ⟨_,_,rfl,rfl,?_⟩,?_⟩|exact ⟨.inr ⟨rfl,rfl⟩,trivial⟩|refine ⟨.inr ⟨rfl,rfl⟩,?_⟩|(intro _ _)|exact vz1|(first|refine ⟨trivial,?_⟩|refine ⟨bsub_mapE rfl rfl (fun _=>rfl),?_⟩|exact VSub.aggL ⟨.closed rfl,.closed rfl,.closed rfl,.sl rfl,.sl rfl,.sl rfl,slEq rfl (by simp [licnF]),.sl rfl,.sl rfl,.sl rfl,.map rfl,trivial⟩)|exact vz2|fail)));done)))
       exact bq0n ⟨licnE_4 (by assumption) ⟨by assumption,by assumption,by assumption,by assumption⟩ (by assumption),rfl,m,talOk_same ht (fun _ _=>rfl),rfl⟩)
    | trace_state
theorem wait_p (hV:HValid h) (ht:TalOk h m):ACalls Tryz.prog 135 [.ptr 11 0 0 0,j.enc] (shoB h m) (DeedR (waitF h j) (waitE h j)) (DeedP (waitE h j)):=by
  have hday:=hV.day
  have h0:((1≤j.n∧j.n≤10000)∧h.day+j.n≤10000)→waitE h j=0:=fun hc=>by unfold waitE;rw [if_pos hc]
  have h2:¬ ((1≤j.n∧j.n≤10000)∧h.day+j.n≤10000)→waitE h j=2:=fun hc=>by unfold waitE;rw [if_neg hc]
  refine acalls_of_aw Tryz.func135 rfl (dc rfl) ?_;refine aw_post ?_
  (repeat' (first|(refine ar_isq ?_;refine zq ?_)|(((refine ar_subk_l (sub_frzL (t:=6) vi ([j.n]) rfl rfl rfl rfl (fun _ _=>rfl) (fun _=>rfl)) ?_);refine zpv fn56 (hfrom_p _ _ [j.n]) ?_))|refine ar_buildLE vi ([_]) (by exact ty rfl) (by exact rfl) (by exact ty rfl) (by exact rfl) (by exact rfl) (by exact Nat.succ_pos _) (by exact rfl) (by exact dc rfl) (by exact rfl) (by exact fun _=>⟨rfl,rfl⟩) (by exact dc rfl) ?_|((refine ar_must ?_ ?_<;>intro hrf<;>first|exact absurd hrf (by decide)|((try replace hrf:=HG.out hrf);(try dsimp only at hrf);(try rw [fromB_one] at hrf);(try rw [withinB_iff] at hrf);(try rw [withinB_no] at hrf);(try rw [inD_iff] at hrf);(try rw [inO_iff] at hrf))))|refine zg ?_ ?_|refine zgu ?_|refine zst ?_|refine aw_drawn (id:=1) [(0,0),(1,0),(2,2),(3,2),(4,0),(5,0),(6,0),(7,0),(8,0),(9,0),(10,0),(11,0),(12,0),(13,0),(14,0),(15,2)] mixed (by kernel_rfl) ?_|refine aw_drawn (id:=1) [(0,0),(1,0),(2,1),(3,2),(4,0),(5,0),(6,0),(7,0),(8,0),(9,0),(10,0),(11,0),(12,0),(13,0),(14,0),(15,2)] mixed (by kernel_rfl) ?_|refine aw_drawn (id:=1) [(0,0),(1,0),(2,1),(3,1),(4,0),(5,0),(6,0),(7,0),(8,0),(9,0),(10,0),(11,0),(12,0),(13,0),(14,0),(15,1)] mixed (by kernel_rfl) ?_|refine aw_drawn (id:=2) [(0,0),(1,0),(2,0),(3,0),(4,0),(5,0),(6,0),(7,0),(8,0),(9,0),(10,0),(11,2)] mixed (by kernel_rfl) ?_|refine zco ?_ ?_|(refine fun (hg:(_:Prop))=>?_;first|exact absurd hg (by decide)|((try replace hg:=HG.out hg);(try dsimp only at hg);(try rw [fromB_one] at hg);(try rw [withinB_iff] at hg);(try rw [withinB_no] at hg);(try rw [inD_iff] at hg);(try rw [inO_iff] at hg);(try (have _h:True:=hg;clear _h hg));first|(exfalso;omega)|skip))))
  all_goals first
    | exact dead_ret (h2 (by omega)) (by decide)
    | ((refine subq_n [] [.arr 11 1 (fun _=>shoV 9 10 11 12 13 14 15 8 (waitF h j)),.dead,.dead,.dead,.dead,.dead,.dead,.dead,mapE Tal.enc m,LB 5 Itm.enc (waitF h j).store.items,LB 2 Prt.enc (waitF h j).store.prints,LB 7 Dsn.enc (waitF h j).designs,LB 4 Lic.enc (waitF h j).lics,LB 4 Ordr.enc (waitF h j).orders,LB 1 vi (waitF h j).made,LB 1 vi (waitF h j).fors] ?_ ?_;(focus (exact zsl [some 0,some 1,some 2,some 3,some 4,some 5,some 6,some 7,some 8,some 1,some 2,some 3,some 4,some 5,some 6,some 7] [])))
       exact bq0n ⟨h0 (by omega),rfl,m,talOk_same ht (fun _ _=>rfl),rfl⟩)
    | trace_state
end
def licV (h:Hse) (j:Job) (b:Nat):V:=match licOf h j with
  | some k=>.ptr 4 b k 0
  | none=>.s (.pointer none)
theorem allow_iff {h:Hse}{j:Job}{l:Lic}:allowB h j l=true↔l.design=j.design∧l.client=j.client∧h.day≤l.til∧j.n≤l.left:=by unfold allowB;simp
theorem licAt_yes {h:Hse}{j:Job}{k:Nat}(h0:licAt h j k=none) (ha:allowB h j (el h.lics k)=true):∀ {n:Nat},k<n→licAt h j n=some k
  | 0,hk=>by omega
  | n+1,hk=>by
    unfold licAt
    by_cases e:k=n
    · subst e;rw [h0];exact if_pos ha
    · rw [licAt_yes h0 ha (n:=n) (by omega)]
theorem licAt_no {h:Hse}{j:Job}{k:Nat}(h0:licAt h j k=none) (ha:¬ allowB h j (el h.lics k)=true):licAt h j (k+1)=none:=by
  unfold licAt
  rw [h0]
  exact if_neg ha
section
variable (h:Hse) (m:List (Int × Tal)) (j:Job)
theorem licence_p (hs:HSmall h):ACalls Tryz.prog 157 [.ptr 11 0 0 0,j.enc] (shoB h m) (fun v H=>v=licV h j 4∧H=shoB h m) NoP:=by
  unfold HSmall at hs
  refine acalls_of_aw Tryz.func157 rfl (dc rfl) ?_
  (repeat' (first|(refine ar_isq ?_;refine zq ?_)|refine zg ?_ ?_|refine zgu ?_|refine zst ?_|refine aw_drawn (id:=5) [(0,0),(1,0),(2,0),(3,0),(4,0),(5,0),(6,0),(7,0),(8,0),(9,0),(10,0),(11,0),(12,0),(13,0),(14,0),(15,0),(16,0),(17,0),(18,0),(19,0),(20,0),(21,0),(22,0),(23,0),(24,0),(25,0),(26,0),(27,0),(28,0),(29,0),(30,0),(31,0),(32,0),(33,0),(34,0),(35,0),(36,0)] mixed (by kernel_rfl) ?_|refine zco ?_ ?_|exact zd|(refine fun (hg:(_:Prop))=>?_;(try replace hg:=HG.out hg);(try dsimp only at hg);(try (have _h:True:=hg;clear _h hg)))))
  refine aw_for h.lics.length (fun k=>licAt h j k=none) (fun k=>[(0,.ptr 11 0 0 0),(3,.ptr 16 9 0 0),(12,vi h.lics.length),(13,vi k)]) (fun _=>[.arr 11 1 (fun _=>shoV 1 2 3 4 5 6 7 8 h),LB 5 Itm.enc h.store.items,LB 2 Prt.enc h.store.prints,LB 7 Dsn.enc h.designs,LB 4 Lic.enc h.lics,LB 4 Ordr.enc h.orders,LB 1 vi h.made,LB 1 vi h.fors,mapE Tal.enc m,.arr 16 1 (fun _=>j.enc)]) rfl ?_ ?_
  · (exact zsc [some 0,some 1,some 2,some 3,some 4,some 5,some 6,some 7,some 8,some 9] [])
  intro k hk hJ
  by_cases hlt:k<h.lics.length
  · (repeat' (first|(refine ar_isq ?_;refine zq ?_)|refine zil (j:=k) ?_|refine zis (j:=k) ?_|refine zit (j:=k) ?_|refine zg ?_ ?_|refine zgu ?_|refine zst ?_|refine aw_drawn (id:=5) [(0,0),(1,0),(2,0),(3,0),(4,0),(5,0),(6,0),(7,0),(8,0),(9,0),(10,0),(11,0),(12,0),(13,0),(14,0),(15,0),(16,0),(17,0),(18,0),(19,0),(20,0),(21,0),(22,0),(23,0),(24,0),(25,0),(26,0),(27,0),(28,0),(29,0),(30,0),(31,0),(32,0),(33,0),(34,0),(35,0),(36,0)] mixed (by kernel_rfl) ?_|refine zco ?_ ?_|exact zd|(refine fun (hg:(_:Prop))=>?_;(try replace hg:=HG.out hg);(try dsimp only at hg);(try (have _h:True:=hg;clear _h hg)))))
    all_goals first
      | ((first|refine loop_next (by omega) ?_ ?_|refine (show _∧_∧SubOf _ _ _ _ _ _ from And.intro (by omega) (And.intro ?_ ?_)));(focus (((refine licAt_no hJ fun ha=>?_;obtain ⟨h1,h2,h3,h4⟩:=allow_iff.1 ha;first|exact absurd h1 (by assumption)|exact absurd h2 (by assumption)|omega));done));(focus (exact zsc [some 0,some 1,some 2,some 3,some 4,some 5,some 6,some 7,some 8,some 9] [])))
      | ((refine aw_mono_r (env':=[(4,.ptr 4 4 k 0)]) (H':=[.arr 11 1 (fun _=>shoV 1 2 3 4 5 6 7 8 h),LB 5 Itm.enc h.store.items,LB 2 Prt.enc h.store.prints,LB 7 Dsn.enc h.designs,LB 4 Lic.enc h.lics,LB 4 Ordr.enc h.orders,LB 1 vi h.made,LB 1 vi h.fors,mapE Tal.enc m]) ?_ ?_;(focus (exact zsc [some 0,some 1,some 2,some 3,some 4,some 5,some 6,some 7,some 8] [])))
         refine aw_ret ?_;(repeat (first|refine ret_then ?_|refine ret_block ?_));refine bq1 rfl ⟨?_,rfl⟩
         unfold licV licOf
         rw [licAt_yes hJ (allow_iff.2 ⟨by assumption,by assumption,by omega,by omega⟩) hlt])
      | trace_state
  · (repeat' (first|(refine ar_isq ?_;refine zq ?_)|refine zg ?_ ?_|refine zgu ?_|refine zst ?_|refine aw_drawn (id:=5) [(0,0),(1,0),(2,0),(3,0),(4,0),(5,0),(6,0),(7,0),(8,0),(9,0),(10,0),(11,0),(12,0),(13,0),(14,0),(15,0),(16,0),(17,0),(18,0),(19,0),(20,0),(21,0),(22,0),(23,0),(24,0),(25,0),(26,0),(27,0),(28,0),(29,0),(30,0),(31,0),(32,0),(33,0),(34,0),(35,0),(36,0)] mixed (by kernel_rfl) ?_|refine zco ?_ ?_|exact zd|(refine fun (hg:(_:Prop))=>?_;(try replace hg:=HG.out hg);(try dsimp only at hg);(try (have _h:True:=hg;clear _h hg)))))
    all_goals first
      | (exfalso;omega)
      | ((refine aw_mono_r (env':=[(4,.s (.pointer none))]) (H':=[.arr 11 1 (fun _=>shoV 1 2 3 4 5 6 7 8 h),LB 5 Itm.enc h.store.items,LB 2 Prt.enc h.store.prints,LB 7 Dsn.enc h.designs,LB 4 Lic.enc h.lics,LB 4 Ordr.enc h.orders,LB 1 vi h.made,LB 1 vi h.fors,mapE Tal.enc m]) ?_ ?_;(focus (exact zsc [some 0,some 1,some 2,some 3,some 4,some 5,some 6,some 7,some 8] [])))
         refine aw_ret ?_;(repeat (first|refine ret_then ?_|refine ret_block ?_));refine bq1 rfl ⟨?_,rfl⟩
         unfold licV licOf
         rw [show h.lics.length=k by omega,hJ])
      | trace_state
end
section
variable {P:Program}{nt:Nat}{env:Env}{H:Heap}{dst:Option Tmp}{ty:TypeId}{pos:String}{after:Array Edge}{guard:Option (Nat × Bool)}{T T':TypeId}{d:TyD}{x:Operand}{v:V}
theorem eq_pn (d:Nat) {e:TypeId}(w:World) (h:P.underlying T=some (.pointer e)):(Op.equalIn (d+1) T (.pointer none) (.pointer none)).run P w=.ok true w:=by simp [Op.equalIn,run_underlying h]
theorem eq_ps (d:Nat) {e:TypeId}{a:Addr}(w:World) (h:P.underlying T=some (.pointer e)):(Op.equalIn (d+1) T (.pointer (some a)) (.pointer none)).run P w=.ok false w:=by simp [Op.equalIn,run_underlying h]
theorem qs_nilPtrIsNot {e:TypeId}(ht:TyIs P T d) (hk:d.tk=.ptr e) (hx:eo env x=some (.s (.pointer none))):QS P nt env H ⟨dst,.binOp .neq T x (.const (.pointer none)) T',ty,pos,after,guard⟩ (.s (.bool false)):=.mk fun X I ρ a w h hw=>by
  have hu:=ht.ptrk hk
  refine ⟨_,.s _,fun w' _=>?_⟩
  have e:(Op.equal T (.pointer none) (.pointer none)).run P w'=.ok true w':=eq_pn 9999 w' hu
  have h2:a.eval (.const (.pointer none))=.pointer none:=rfl
  simp [execOp,sval h hx,h2,eqGuard,binOp,e]
theorem qs_ptrIsNot {e:TypeId}{sz b i off:Nat}(ht:TyIs P T d) (hk:d.tk=.ptr e) (hx:eo env x=some (.ptr sz b i off)):QS P nt env H ⟨dst,.binOp .neq T x (.const (.pointer none)) T',ty,pos,after,guard⟩ (.s (.bool true)):=.mk fun X I ρ a w h hw=>by
  have hu:=ht.ptrk hk
  have h1:=eo_rel h hx
  obtain ⟨cb,z,h1',hb⟩:=h1.ptr_inv
  refine ⟨_,.s _,fun w' _=>?_⟩
  have e:(Op.equal T (.pointer (some ⟨cb,i*sz+off,none⟩)) (.pointer none)).run P w'=.ok false w':=eq_ps 9999 w' hu
  have h2:a.eval (.const (.pointer none))=.pointer none:=rfl
  simp [execOp,h1',h2,eqGuard,binOp,e]
end
theorem before_bnd (h:Hse) (k:Nat):0≤beforeF h k∧beforeF h k≤k:=usedP_bnd _ _ _
theorem grow_bnd {h:Hse}(hp:1≤h.per) (k:Nat):0≤growF h k∧growF h k≤20∧growF h k≤(k:Int)/h.per:=by
  have hb:=before_bnd h k
  have h1:0≤beforeF h k/h.per:=Int.ediv_nonneg hb.1 (by omega)
  have h2:beforeF h k/h.per≤(k:Int)/h.per:=Int.ediv_le_ediv (by omega) hb.2
  unfold growF
  omega
def dsnOf (h:Hse) (k:Nat):Int:=el h.made (el h.store.prints k).plate.toNat
def shownTo (h:Hse) (i g:Int):Nat→Bool
  | 0=>false
  | k+1=>shownTo h i g k||(decide (dsnOf h k=i)&&decide (growF h k=g))
def shownF (h:Hse) (i g:Int):Bool:=shownTo h i g h.store.prints.length
def offTo (a b:List Bool) (k:Nat):Int:=cntB (fun q=>!(el a q==el b q)) k
section
variable {h:Hse}{j:Job}
theorem takeE_1 (h1:¬ (0≤j.design∧j.design<(h.designs.length:Int))):takeE h j=6:=by unfold takeE;rw [if_pos (show ¬ inDesigns h j.design from h1)]
theorem takeE_2 (h1:0≤j.design∧j.design<(h.designs.length:Int)) (h2:¬ ((0≤j.client∧j.client≤50)∧(1≤j.n∧j.n≤400))):takeE h j=2:=by unfold takeE;rw [if_neg (fun h=>h h1),if_pos (show ¬ (aClient j.client∧(1≤j.n∧j.n≤400)) from h2)]
theorem takeE_3 (h1:0≤j.design∧j.design<(h.designs.length:Int)) (h2:(0≤j.client∧j.client≤50)∧(1≤j.n∧j.n≤400)) (h3:j.client≠ownerOf h j.design∧licOf h j=none):takeE h j=102:=by unfold takeE;rw [if_neg (fun h=>h h1),if_neg (fun h=>h h2),if_pos h3]
theorem takeE_4 (h1:0≤j.design∧j.design<(h.designs.length:Int)) (h2:(0≤j.client∧j.client≤50)∧(1≤j.n∧j.n≤400)) (h3:¬ (j.client≠ownerOf h j.design∧licOf h j=none)) (h4:¬ (h.orders.length:Int)<30):takeE h j=9:=by unfold takeE;rw [if_neg (fun h=>h h1),if_neg (fun h=>h h2),if_neg h3,if_pos (by omega)]
theorem takeE_5 (h1:0≤j.design∧j.design<(h.designs.length:Int)) (h2:(0≤j.client∧j.client≤50)∧(1≤j.n∧j.n≤400)) (h3:¬ (j.client≠ownerOf h j.design∧licOf h j=none)) (h4:(h.orders.length:Int)<30):takeE h j=0:=by unfold takeE;rw [if_neg (fun h=>h h1),if_neg (fun h=>h h2),if_neg h3,if_neg (by omega)]
end
def newOrd (j:Job):Ordr:=⟨j.client,j.design,j.n,false⟩
def withOL (h:Hse) (ls:List Lic) (os:List Ordr):Hse:={ h with lics:=ls,orders:=os }
theorem upd_encC {l:List Lic}{j:Nat}(hj:j<l.length) {x:Lic}{v:V}(hv:v=x.enc) (i:Nat):upd (fun i=>(el l i).enc) j v i=(el (l.set j x) i).enc:=by
  by_cases e:i=j
  · subst e
    rw [upd_same,hv]
    simp [el,hj]
  · rw [upd_other e]
    simp [el,List.getElem?_set_ne (Ne.symm e)]
theorem bsub_setC {H:Heap}{σ:List (Option Nat)}{fr:Nat→Prop}{k b j:Nat}{l:List Lic}(x:Lic) {v:V}(h:σ[k]?=some (some b)) (hj:j<l.length) (hb:H[b]?=some (.arr 4 l.length (upd (fun i=>(el l i).enc) j v))) (hv:v=x.enc):BSub H σ fr k (LB 4 Lic.enc (l.set j x)):=by
  refine .inl ⟨b,_,h,?_,fun i _=>.of_eq (upd_encC hj hv i) rfl⟩
  rw [hb,List.length_set]
section
variable (h:Hse) (m:List (Int × Tal)) (j:Job)
theorem take_own (hV:HValid h) (ht:TalOk h m) (hown:j.client=(el h.designs j.design.toNat).owner):ACalls Tryz.prog 130 [.ptr 11 0 0 0,j.enc] (shoB h m) (DeedR (takeF h j) (takeE h j)) (DeedP (takeE h j)):=by
  have hs:=hsmall_of hV
  have hfew:=hV.few
  have hF:takeF h j=withOL h h.lics (h.orders++[newOrd j]):=by unfold takeF takeL ownerOf;rw [if_pos hown];rfl
  have h3:¬ (j.client≠ownerOf h j.design∧licOf h j=none):=fun hx=>hx.1 hown
  rw [hF]
  refine acalls_of_aw Tryz.func130 rfl (dc rfl) ?_;refine aw_post ?_
  (repeat' (first|(refine ar_isq ?_;refine zq ?_)|refine zil (j:=j.design.toNat) ?_|refine zis (j:=j.design.toNat) ?_|refine zit (j:=j.design.toNat) ?_|(refine zbt ?_)|((refine ar_read h m (design_p h j.design hs) fn125 (by intros;subst_vars;rfl) ?_;intro _ hv;subst hv))|(((refine ar_subk_l (sub_frzL (t:=13) vi ([j.client]) rfl rfl rfl rfl (fun _ _=>rfl) (fun _=>rfl)) ?_);refine zpv fn56 (hfrom_p _ _ [j.client]) ?_))|(((refine ar_subk_l (sub_frzL (t:=18) vi ([j.n]) rfl rfl rfl rfl (fun _ _=>rfl) (fun _=>rfl)) ?_);refine zpv fn56 (hfrom_p _ _ [j.n]) ?_))|refine ar_buildLE vi ([_]) (by exact ty rfl) (by exact rfl) (by exact ty rfl) (by exact rfl) (by exact rfl) (by exact Nat.succ_pos _) (by exact rfl) (by exact dc rfl) (by exact rfl) (by exact fun _=>⟨rfl,rfl⟩) (by exact dc rfl) ?_|((refine ar_still h m (R:=(·=licV h j 4)) (Rp:=fun _=>False) (licence_p h m j hs) fn157 ?_ (fun _ _ h=>h.elim);intro _ hv;subst hv))|((refine ar_must ?_ ?_<;>intro hrf<;>first|exact absurd hrf (by decide)|((try replace hrf:=HG.out hrf);(try dsimp only at hrf);(try rw [fromB_one] at hrf);(try rw [withinB_iff] at hrf);(try rw [withinB_no] at hrf);(try rw [inD_iff] at hrf);(try rw [inO_iff] at hrf))))|refine zg ?_ ?_|refine zgu ?_|refine zst ?_|refine aw_drawn (id:=4) [(0,0),(1,0),(2,0),(3,0),(4,0),(5,0),(6,0),(7,0),(8,0),(9,0),(10,0),(11,0),(12,0),(13,0)] mixed (by kernel_rfl) ?_|refine aw_drawn (id:=8) [(0,0),(1,0),(2,0),(3,0),(4,0),(5,0),(6,0),(7,0),(8,0),(9,2)] mixed (by kernel_rfl) ?_|refine aw_drawn (id:=9) [(0,0),(1,0),(2,0),(3,0),(4,0),(5,0),(6,0),(7,0),(8,0),(9,0),(10,0),(11,0),(12,0),(13,1),(14,1),(15,0),(16,0),(17,0),(18,2)] mixed (by kernel_rfl) ?_|refine zco ?_ ?_|(refine fun (hg:(_:Prop))=>?_;first|exact absurd hg (by decide)|((try replace hg:=HG.out hg);(try dsimp only at hg);(try rw [fromB_one] at hg);(try rw [withinB_iff] at hg);(try rw [withinB_no] at hg);(try rw [inD_iff] at hg);(try rw [inO_iff] at hg);(try (have _h:True:=hg;clear _h hg));first|(exfalso;omega)|skip))))
  all_goals first
    | exact dead_ret (takeE_1 (by assumption)) (by decide)
    | exact dead_ret (takeE_2 (by assumption) (fun hx=>by first|exact absurd hx.1 (by assumption)|exact absurd hx.2 (by assumption))) (by decide)
    | exact dead_ret (takeE_4 (by assumption) ⟨by assumption,by assumption⟩ h3 (by assumption)) (by decide)
    | ((refine subq_n [] [.arr 11 1 (fun _=>shoV 9 10 11 12 13 14 15 8 (withOL h h.lics (h.orders++[newOrd j]))),.dead,.dead,.dead,.dead,.dead,.dead,.dead,mapE Tal.enc m,LB 5 Itm.enc (withOL h h.lics (h.orders++[newOrd j])).store.items,LB 2 Prt.enc (withOL h h.lics (h.orders++[newOrd j])).store.prints,LB 7 Dsn.enc (withOL h h.lics (h.orders++[newOrd j])).designs,LB 4 Lic.enc (withOL h h.lics (h.orders++[newOrd j])).lics,LB 4 Ordr.enc (withOL h h.lics (h.orders++[newOrd j])).orders,LB 1 vi (withOL h h.lics (h.orders++[newOrd j])).made,LB 1 vi (withOL h h.lics (h.orders++[newOrd j])).fors] ?_ ?_;(focus ((refine sub_toL [some 0,some 1,some 2,some 3,some 4,some 5,some 6,some 7,some 8,some 1,some 2,some 3,some 4,some 13,some 6,some 7] [] rfl ?_ ?_<;>(repeat' (first|exact trivial|refine ⟨⟨_,rfl,?_⟩,?_⟩|refine vs1 ?_ ?_|refine vs2 ?_ ?_|refine vs3 ?_|refine vs4 ?_ ?_|refine ⟨.inl ⟨_,_,rfl,rfl,?_⟩,?_⟩|exact ⟨.inr ⟨rfl,rfl⟩,trivial⟩|refine ⟨.inr ⟨rfl,rfl⟩,?_⟩|(intro _ _)|exact vz1|(first|refine ⟨trivial,?_⟩|refine ⟨bsub_mapE rfl rfl (fun _=>rfl),?_⟩|exact VSub.aggL ⟨.closed rfl,.closed rfl,.closed rfl,.sl rfl,.sl rfl,.sl rfl,.sl rfl,slEq rfl (by simp [withOL]),.sl rfl,.sl rfl,.map rfl,trivial⟩)|exact vz2|fail)));done)))
       exact bq0n ⟨takeE_5 (by assumption) ⟨by assumption,by assumption⟩ h3 (by assumption),rfl,m,talOk_same ht (fun _ _=>rfl),rfl⟩)
    | trace_state
theorem take_none (hV:HValid h) (hown:¬ j.client=(el h.designs j.design.toNat).owner) (hl:licOf h j=none):ACalls Tryz.prog 130 [.ptr 11 0 0 0,j.enc] (shoB h m) (DeedR (takeF h j) (takeE h j)) (DeedP (takeE h j)):=by
  have hs:=hsmall_of hV
  have hfew:=hV.few
  have hv4:(licV h j 4).ren (rn [0,1,2,3,4,5,6,7,8] 12)=.s (.pointer none):=by unfold licV;rw [hl];rfl
  refine acalls_of_aw Tryz.func130 rfl (dc rfl) ?_
  (repeat' (first|(refine ar_isq ?_;refine zq ?_)|refine zil (j:=j.design.toNat) ?_|refine zis (j:=j.design.toNat) ?_|refine zit (j:=j.design.toNat) ?_|(refine zbt ?_)|((refine ar_read h m (design_p h j.design hs) fn125 (by intros;subst_vars;rfl) ?_;intro _ hv;subst hv))|(((refine ar_subk_l (sub_frzL (t:=13) vi ([j.client]) rfl rfl rfl rfl (fun _ _=>rfl) (fun _=>rfl)) ?_);refine zpv fn56 (hfrom_p _ _ [j.client]) ?_))|(((refine ar_subk_l (sub_frzL (t:=18) vi ([j.n]) rfl rfl rfl rfl (fun _ _=>rfl) (fun _=>rfl)) ?_);refine zpv fn56 (hfrom_p _ _ [j.n]) ?_))|refine ar_buildLE vi ([_]) (by exact ty rfl) (by exact rfl) (by exact ty rfl) (by exact rfl) (by exact rfl) (by exact Nat.succ_pos _) (by exact rfl) (by exact dc rfl) (by exact rfl) (by exact fun _=>⟨rfl,rfl⟩) (by exact dc rfl) ?_|((refine ar_still h m (R:=(·=licV h j 4)) (Rp:=fun _=>False) (licence_p h m j hs) fn157 ?_ (fun _ _ h=>h.elim);intro _ hv;subst hv;rw [show licV h j 4=.s (.pointer none) from (by unfold licV;rw [hl])]))|((refine ar_must ?_ ?_<;>intro hrf<;>first|exact absurd hrf (by decide)|((try replace hrf:=HG.out hrf);(try dsimp only at hrf);(try rw [fromB_one] at hrf);(try rw [withinB_iff] at hrf);(try rw [withinB_no] at hrf);(try rw [inD_iff] at hrf);(try rw [inO_iff] at hrf))))|refine ar_q (qs_nilPtrIsNot (ty rfl) rfl rfl) (dc rfl) ?_|refine zg ?_ ?_|refine zgu ?_|refine zst ?_|refine aw_drawn (id:=4) [(0,0),(1,0),(2,0),(3,0),(4,0),(5,0),(6,0),(7,0),(8,0),(9,0),(10,0),(11,0),(12,0),(13,0)] mixed (by kernel_rfl) ?_|refine aw_drawn (id:=8) [(0,0),(1,0),(2,0),(3,0),(4,0),(5,0),(6,0),(7,0),(8,0),(9,2)] mixed (by kernel_rfl) ?_|refine aw_drawn (id:=9) [(0,0),(1,0),(2,0),(3,0),(4,0),(5,0),(6,0),(7,0),(8,0),(9,0),(10,0),(11,0),(12,0),(13,1),(14,1),(15,0),(16,0),(17,0),(18,2)] mixed (by kernel_rfl) ?_|refine zco ?_ ?_|(refine fun (hg:(_:Prop))=>?_;first|exact absurd hg (by decide)|((try replace hg:=HG.out hg);(try dsimp only at hg);(try rw [fromB_one] at hg);(try rw [withinB_iff] at hg);(try rw [withinB_no] at hg);(try rw [inD_iff] at hg);(try rw [inO_iff] at hg);(try (have _h:True:=hg;clear _h hg));first|(exfalso;omega)|skip))))
  all_goals first
    | exact dead_ret (takeE_1 (by assumption)) (by decide)
    | exact dead_ret (takeE_2 (by assumption) (fun hx=>by first|exact absurd hx.1 (by assumption)|exact absurd hx.2 (by assumption))) (by decide)
    | exact absurd (by assumption) hown
    | exact dead_ret (takeE_3 (by assumption) ⟨by assumption,by assumption⟩ ⟨hown,hl⟩) (by decide)
    | trace_state
theorem take_some (hV:HValid h) (ht:TalOk h m) (hown:¬ j.client=(el h.designs j.design.toNat).owner) (k:Nat) (hl:licOf h j=some k):ACalls Tryz.prog 130 [.ptr 11 0 0 0,j.enc] (shoB h m) (DeedR (takeF h j) (takeE h j)) (DeedP (takeE h j)):=by
  have hs:=hsmall_of hV
  have hfew:=hV.few
  have hk:=(licAt_some hl).1
  have hkl:=hV.lics k hk
  unfold LicOk at hkl
  have hF:takeF h j=withOL h (h.lics.set k (lessLic (el h.lics k) j.n)) (h.orders++[newOrd j]):=by unfold takeF takeL;rw [if_neg (show ¬ j.client=ownerOf h j.design from hown),hl];rfl
  have h3:¬ (j.client≠ownerOf h j.design∧licOf h j=none):=fun hx=>by rw [hl] at hx;cases hx.2
  rw [hF]
  refine acalls_of_aw Tryz.func130 rfl (dc rfl) ?_;refine aw_post ?_
  (repeat' (first|(refine ar_isq ?_;refine zq ?_)|refine zil (j:=j.design.toNat) ?_|refine zis (j:=j.design.toNat) ?_|refine zit (j:=j.design.toNat) ?_|(refine zbt ?_)|((refine ar_read h m (design_p h j.design hs) fn125 (by intros;subst_vars;rfl) ?_;intro _ hv;subst hv))|(((refine ar_subk_l (sub_frzL (t:=13) vi ([j.client]) rfl rfl rfl rfl (fun _ _=>rfl) (fun _=>rfl)) ?_);refine zpv fn56 (hfrom_p _ _ [j.client]) ?_))|(((refine ar_subk_l (sub_frzL (t:=18) vi ([j.n]) rfl rfl rfl rfl (fun _ _=>rfl) (fun _=>rfl)) ?_);refine zpv fn56 (hfrom_p _ _ [j.n]) ?_))|refine ar_buildLE vi ([_]) (by exact ty rfl) (by exact rfl) (by exact ty rfl) (by exact rfl) (by exact rfl) (by exact Nat.succ_pos _) (by exact rfl) (by exact dc rfl) (by exact rfl) (by exact fun _=>⟨rfl,rfl⟩) (by exact dc rfl) ?_|((refine ar_still h m (R:=(·=licV h j 4)) (Rp:=fun _=>False) (licence_p h m j hs) fn157 ?_ (fun _ _ h=>h.elim);intro _ hv;subst hv;rw [show licV h j 4=.ptr 4 4 k 0 from (by unfold licV;rw [hl])]))|((refine ar_must ?_ ?_<;>intro hrf<;>first|exact absurd hrf (by decide)|((try replace hrf:=HG.out hrf);(try dsimp only at hrf);(try rw [fromB_one] at hrf);(try rw [withinB_iff] at hrf);(try rw [withinB_no] at hrf);(try rw [inD_iff] at hrf);(try rw [inO_iff] at hrf))))|refine ar_q (qs_ptrIsNot (ty rfl) rfl rfl) (dc rfl) ?_|refine zg ?_ ?_|refine zgu ?_|refine zst ?_|refine aw_drawn (id:=4) [(0,0),(1,0),(2,0),(3,0),(4,0),(5,0),(6,0),(7,0),(8,0),(9,0),(10,0),(11,0),(12,0),(13,0)] mixed (by kernel_rfl) ?_|refine aw_drawn (id:=8) [(0,0),(1,0),(2,0),(3,0),(4,0),(5,0),(6,0),(7,0),(8,0),(9,2)] mixed (by kernel_rfl) ?_|refine aw_drawn (id:=9) [(0,0),(1,0),(2,0),(3,0),(4,0),(5,0),(6,0),(7,0),(8,0),(9,0),(10,0),(11,0),(12,0),(13,1),(14,1),(15,0),(16,0),(17,0),(18,2)] mixed (by kernel_rfl) ?_|refine zco ?_ ?_|(refine fun (hg:(_:Prop))=>?_;first|exact absurd hg (by decide)|((try replace hg:=HG.out hg);(try dsimp only at hg);(try rw [fromB_one] at hg);(try rw [withinB_iff] at hg);(try rw [withinB_no] at hg);(try rw [inD_iff] at hg);(try rw [inO_iff] at hg);(try (have _h:True:=hg;clear _h hg));first|(exfalso;omega)|skip))))
  all_goals first
    | exact dead_ret (takeE_1 (by assumption)) (by decide)
    | exact dead_ret (takeE_2 (by assumption) (fun hx=>by first|exact absurd hx.1 (by assumption)|exact absurd hx.2 (by assumption))) (by decide)
    | exact absurd (by assumption) hown
    | exact dead_ret (takeE_4 (by assumption) ⟨by assumption,by assumption⟩ h3 (by assumption)) (by decide)
    | ((refine subq_n [] [.arr 11 1 (fun _=>shoV 9 10 11 12 13 14 15 8 (withOL h (h.lics.set k (lessLic (el h.lics k) j.n)) (h.orders++[newOrd j]))),.dead,.dead,.dead,.dead,.dead,.dead,.dead,mapE Tal.enc m,LB 5 Itm.enc (withOL h (h.lics.set k (lessLic (el h.lics k) j.n)) (h.orders++[newOrd j])).store.items,LB 2 Prt.enc (withOL h (h.lics.set k (lessLic (el h.lics k) j.n)) (h.orders++[newOrd j])).store.prints,LB 7 Dsn.enc (withOL h (h.lics.set k (lessLic (el h.lics k) j.n)) (h.orders++[newOrd j])).designs,LB 4 Lic.enc (withOL h (h.lics.set k (lessLic (el h.lics k) j.n)) (h.orders++[newOrd j])).lics,LB 4 Ordr.enc (withOL h (h.lics.set k (lessLic (el h.lics k) j.n)) (h.orders++[newOrd j])).orders,LB 1 vi (withOL h (h.lics.set k (lessLic (el h.lics k) j.n)) (h.orders++[newOrd j])).made,LB 1 vi (withOL h (h.lics.set k (lessLic (el h.lics k) j.n)) (h.orders++[newOrd j])).fors] ?_ ?_;(focus ((refine sub_toL [some 0,some 1,some 2,some 3,some 4,some 5,some 6,some 7,some 8,some 1,some 2,some 3,some 4,some 13,some 6,some 7] [] rfl ?_ ?_<;>(repeat' (first|exact trivial|refine ⟨⟨_,rfl,?_⟩,?_⟩|refine vs1 ?_ ?_|refine vs2 ?_ ?_|refine vs3 ?_|refine vs4 ?_ ?_|refine ⟨.inl ⟨_,_,rfl,rfl,?_⟩,?_⟩|exact ⟨.inr ⟨rfl,rfl⟩,trivial⟩|refine ⟨.inr ⟨rfl,rfl⟩,?_⟩|(intro _ _)|exact vz1|(first|refine ⟨trivial,?_⟩|refine ⟨bsub_mapE rfl rfl (fun _=>rfl),?_⟩|refine ⟨bsub_setC (lessLic (el h.lics k) j.n) rfl hk rfl rfl,?_⟩|exact VSub.aggL ⟨.closed rfl,.closed rfl,.closed rfl,.sl rfl,.sl rfl,.sl rfl,slEq rfl (by simp [withOL]),slEq rfl (by simp [withOL]),.sl rfl,.sl rfl,.map rfl,trivial⟩)|exact vz2|fail)));done)))
       exact bq0n ⟨takeE_5 (by assumption) ⟨by assumption,by assumption⟩ h3 (by assumption),rfl,m,talOk_same ht (fun _ _=>rfl),rfl⟩)
    | trace_state
theorem take_p (hV:HValid h) (ht:TalOk h m):ACalls Tryz.prog 130 [.ptr 11 0 0 0,j.enc] (shoB h m) (DeedR (takeF h j) (takeE h j)) (DeedP (takeE h j)):=by
  by_cases hown:j.client=(el h.designs j.design.toNat).owner
  · exact take_own h m j hV ht hown
  · cases hl:licOf h j with
    | none=>exact take_none h m j hV hown hl
    | some k=>exact take_some h m j hV ht hown k hl
end
theorem join9 {a0 a1 a2 a3 a4 a5 a6 a7 a8 b0 b1 b2 b3 b4 b5 b6 b7 b8:Blk}{X L:Heap}:joinH [0,1,2,3,4,5,6,7,8] [] (a0::a1::a2::a3::a4::a5::a6::a7::a8::X) (b0::b1::b2::b3::b4::b5::b6::b7::b8::L) =
    [b0,b1,b2,b3,b4,b5,b6,b7,b8].map (Blk.ren (rn [0,1,2,3,4,5,6,7,8] (X.length+9)))++(X++L.map (Blk.ren (rn [0,1,2,3,4,5,6,7,8] (X.length+9)))):=by
  have tail:∀ {r:Nat→Nat} {H1:Heap} (K:Heap) (k:Nat),9≤k→joinAt [0,1,2,3,4,5,6,7,8] [] r H1 k K=K:=fun {r H1} K=>by
    induction K with
    | nil=>intro k _;rfl
    | cons b K ih =>
      intro k hk
      simp only [joinAt]
      rw [ih (k+1) (by omega)]
      have:pickB [0,1,2,3,4,5,6,7,8] [] r H1 k b=b:=by
        unfold pickB
        have h0:([0,1,2,3,4,5,6,7,8]:List Nat).idxOf? k=none:=by
          rw [List.idxOf?_eq_none_iff]
          simp
          omega
        rw [h0]
        rfl
      rw [this]
  unfold joinH
  simp only [joinAt]
  rw [tail X _ (by omega)]
  rfl
section
variable {r:Option Nat}{mm nt i dd:Nat}{Q:Post}{env:Env}{ops:Array Oper}{L:List Stp}{ty:TypeId}{pos:String}{after:Array Edge}{ats:Array TypeId}{x y:Operand}
theorem ar_act' (h:Hse) (m:List (Int × Tal)) (a:Deed) {X:Heap}(hV:Valid h.store) (hu:u8ok a.kind)
    (h1:actE h.store a=0→AR Tryz.prog r mm nt ops Q L ((dd,.tup [])::env) (.arr 11 1 (fun _=>.agg [vi h.per,vi h.day,vi (actF h.store a).life,.sl 5 (X.length+9) 0 (actF h.store a).items.length,.sl 2 (X.length+10) 0 (actF h.store a).prints.length,.sl 7 3 0 h.designs.length,.sl 4 4 0 h.lics.length,.sl 4 5 0 h.orders.length,.sl 1 6 0 h.made.length,.sl 1 7 0 h.fors.length,.map 8])::.dead::.dead::LB 7 Dsn.enc h.designs::LB 4 Lic.enc h.lics::LB 4 Ordr.enc h.orders::LB 1 vi h.made::LB 1 vi h.fors::mapE Tal.enc m::(X++[LB 5 Itm.enc (actF h.store a).items,LB 2 Prt.enc (actF h.store a).prints])))
    (h2:actE h.store a≠0→∀ H1,Q (.panic (refV (actE h.store a))) [] H1) (hx:eo env x=some (.ptr 11 0 0 0):=by exact rfl) (hy:eo env y=some a.enc:=by exact rfl) (hd:dd<nt:=by exact dc rfl) :
    AR Tryz.prog r mm nt ops Q (.l i ⟨some dd,.call ⟨.value (.func 158),#[x,y],ats⟩,ty,pos,after,none⟩ false::L) env (.arr 11 1 (fun _=>shoV 1 2 3 4 5 6 7 8 h)::LB 5 Itm.enc h.store.items::LB 2 Prt.enc h.store.prints::LB 7 Dsn.enc h.designs::LB 4 Lic.enc h.lics::LB 4 Ordr.enc h.orders::LB 1 vi h.made::LB 1 vi h.fors::mapE Tal.enc m::X):=by
  refine ar_gcall (H0:=shoB h m) [0,1,2,3,4,5,6,7,8] [] (args:=[x,y]) (vs:=[.ptr 11 0 0 0,a.enc]) (first:=[]) (cap:=[]) fn158 rfl (by rw [List.mapM_cons,List.mapM_cons,List.mapM_nil,hx,hy];rfl) (xs:=[.ptr 11 0 0 0,a.enc]) ⟨.ptr rfl,.closed rfl,trivial⟩ rfl (by decide) (fun _ h=>by cases h) (show ShoAt _ 0 1 2 3 4 5 6 7 8 h m from {}).hsub shoB_live (act_p h m a hV hu) hd ?_ ?_
  · rintro _ _ ⟨hh,rfl,rfl⟩
    unfold shoY
    rw [join9]
    have e2:(mapE Tal.enc m).ren (rn [0,1,2,3,4,5,6,7,8] (X.length+9))=mapE Tal.enc m:=mapE_renE fun _=>rfl
    simp only [List.map_cons,List.map_nil,e2]
    exact h1 hh
  · rintro _ _ ⟨hh,rfl⟩
    exact h2 hh _
end
section
variable (h:Hse) (m:List (Int × Tal)) (j:Job)
theorem engvE_1 {h:Hse}{j:Job}(h1:¬ (0≤j.design∧j.design<(h.designs.length:Int))):engvE h j=6:=by unfold engvE;rw [if_pos (show ¬ inDesigns h j.design from h1)]
theorem engvE_2 {h:Hse}{j:Job}(h1:0≤j.design∧j.design<(h.designs.length:Int)):engvE h j=actE h.store dieAct:=by unfold engvE;rw [if_neg (fun h=>h h1)]
theorem hengrave_p (hV:HValid h) (ht:TalOk h m):ACalls Tryz.prog 131 [.ptr 11 0 0 0,j.enc] (shoB h m) (DeedR (engvF h j) (engvE h j)) (DeedP (engvE h j)):=by
  have hs:=hsmall_of hV
  have hm:=hs.2.2.2.2.2.1
  refine acalls_of_aw Tryz.func131 rfl (dc rfl) ?_;refine aw_post ?_
  (repeat' (first|(refine ar_isq ?_;refine zq ?_)|(refine zbt ?_)|((refine ar_read h m (design_p h j.design hs) fn125 (by intros;subst_vars;rfl) ?_;intro _ hv;subst hv))|((refine ar_must ?_ ?_<;>intro hrf<;>first|exact absurd hrf (by decide)|((try replace hrf:=HG.out hrf);(try dsimp only at hrf);(try rw [fromB_one] at hrf);(try rw [withinB_iff] at hrf);(try rw [withinB_no] at hrf);(try rw [inD_iff] at hrf);(try rw [inO_iff] at hrf))))|((refine ar_act' h m dieAct hV.store ⟨by decide,by decide⟩ ?_ ?_<;>intro hact))|refine zst ?_|refine aw_drawn (id:=3) [(0,0),(1,0),(2,0),(3,0),(4,0),(5,0),(6,0),(7,0),(8,1),(9,1),(10,0),(11,0),(12,0),(13,2)] mixed (by kernel_rfl) ?_|refine zco ?_ ?_|(refine fun (hg:(_:Prop))=>?_;first|exact absurd hg (by decide)|((try replace hg:=HG.out hg);(try dsimp only at hg);(try rw [fromB_one] at hg);(try rw [withinB_iff] at hg);(try rw [withinB_no] at hg);(try rw [inD_iff] at hg);(try rw [inO_iff] at hg);(try (have _h:True:=hg;clear _h hg));first|(exfalso;omega)|skip))))
  all_goals first
    | exact dead_ret (engvE_1 (by assumption)) (by decide)
    | exact dead_ret (engvE_2 (by assumption)) (by assumption)
    | ((refine subq_n [] [.arr 11 1 (fun _=>shoV 9 10 11 12 13 14 15 8 (engvF h j)),.dead,.dead,.dead,.dead,.dead,.dead,.dead,mapE Tal.enc m,LB 5 Itm.enc (engvF h j).store.items,LB 2 Prt.enc (engvF h j).store.prints,LB 7 Dsn.enc (engvF h j).designs,LB 4 Lic.enc (engvF h j).lics,LB 4 Ordr.enc (engvF h j).orders,LB 1 vi (engvF h j).made,LB 1 vi (engvF h j).fors] ?_ ?_;(focus ((refine sub_toL [some 0,some 1,some 2,some 3,some 4,some 5,some 6,some 7,some 8,some 10,some 11,some 3,some 4,some 5,some 13,some 7] [] rfl ?_ ?_<;>(repeat' (first|exact trivial|refine ⟨⟨_,rfl,?_⟩,?_⟩|refine vs1 ?_ ?_|refine vs2 ?_ ?_|refine vs3 ?_|refine vs4 ?_ ?_|refine ⟨.inl ⟨_,_,rfl,rfl,?_⟩,?_⟩|exact ⟨.inr ⟨rfl,rfl⟩,trivial⟩|refine ⟨.inr ⟨rfl,rfl⟩,?_⟩|(intro _ _)|exact vz1|(first|refine ⟨trivial,?_⟩|refine ⟨bsub_mapE rfl rfl (fun _=>rfl),?_⟩|exact VSub.aggL ⟨.closed rfl,.closed rfl,.closed rfl,.sl rfl,.sl rfl,.sl rfl,.sl rfl,.sl rfl,slEq rfl (by simp [engvF,withS]),.sl rfl,.map rfl,trivial⟩)|exact vz2|fail)));done)))
       exact bq0n ⟨(engvE_2 (by assumption)).trans (by assumption),rfl,m,talOk_same ht (fun _ _=>rfl),rfl⟩)
    | trace_state
end
end Go.Proofs.YtbilpbabdgfblaaGreat
