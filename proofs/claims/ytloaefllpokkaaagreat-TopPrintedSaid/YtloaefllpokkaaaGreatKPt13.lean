/- Parts of the proof: contracts of functions. No condition. -/
import Derived.Test.YtloaefllpokkaaaGreatKPt12
set_option maxHeartbeats 16000000
set_option linter.unusedSimpArgs false
set_option linter.unusedVariables false
namespace Go.Proofs.YtloaefllpokkaaaGreat
open Go.RowKit
def MadeOk (h:Hse):Prop:=h.made.length=h.store.items.length∧∀ i,i<h.store.items.length→MadeAt h i
theorem hmade_p (h:Hse) (hs:HSmall h) (hV:Valid h.store):PCalls Tryz.prog 36 [.ref h.enc 0] (fun v=>∃ b:Bool,v=vb b∧(b=true↔MadeOk h)):=by
  have hs0:=hs
  unfold HSmall at hs
  refine pcalls_of_aw Tryz.func36 rfl (dc rfl) ?_
  (repeat' (first|(refine ar_isq ?_;refine zq ?_)|refine zg ?_ ?_|refine zgu ?_|refine zst ?_|refine aw_drawn (id:=1) [(0,0),(1,0),(2,0),(3,0),(4,0),(5,0),(6,0),(7,0),(8,0),(9,0),(10,0),(11,0),(12,0),(13,0)] mixed (by kernel_rfl) ?_|refine aw_drawn (id:=6) [(0,0),(1,0),(2,0),(3,0),(4,0),(5,0),(6,0),(7,0),(8,0),(9,1),(10,0),(11,0),(12,0),(13,0),(14,0),(15,0),(16,0),(17,0),(18,0),(19,0),(20,0),(21,0),(22,0),(23,0),(24,0),(25,0),(26,0),(27,0),(28,0),(29,0),(30,0),(31,0),(32,0),(33,0),(34,0),(35,0),(36,0),(37,0),(38,0),(39,0),(40,0),(41,0),(42,0),(43,0),(44,0),(45,0),(46,0),(47,0),(48,0),(49,0),(50,0),(51,0),(52,1),(53,0),(54,0),(55,0)] mixed (by kernel_rfl) ?_|refine zco ?_ ?_|(refine fun (hg:(_:Prop))=>?_;first|exact absurd hg (by decide)|((try replace hg:=HG.out hg);(try dsimp only at hg);(try rw [inD_iff] at hg);(try (have _h:True:=hg;clear _h hg));first|(exfalso;omega)|skip))))
  · (refine aw_ret ?_;(repeat (first|refine ret_then ?_|refine ret_block ?_));refine bq1 rfl ⟨?_,rfl⟩)
    exact ⟨false,rfl,⟨fun h=>(by cases h),fun hM=>by have:=hM.1;omega⟩⟩
  · refine aw_for h.store.items.length (fun k=>∀ j,j<k→MadeAt h j) (fun k=>[(0,.ref h.enc 0),(24,encItems h.store.items),(25,vi h.store.items.length),(26,vi k)]) (fun _=>[]) (fun j hj=>by omega) ?_ ?_
    · (exact zsb [] [])
    intro k hk hJ
    by_cases hlt:k<h.store.items.length
    · have hm:=hV.2.1 k hlt
      unfold Made at hm
      (repeat' (first|(refine ar_isq ?_;refine zq ?_)|refine zil (j:=k) ?_|refine zis (j:=k) ?_|refine zit (j:=k) ?_|refine zil (j:=(el h.store.items k).src.toNat) ?_|refine zis (j:=(el h.store.items k).src.toNat) ?_|refine zit (j:=(el h.store.items k).src.toNat) ?_|(refine zpv fn67 (design_p h (el h.made k) hs0) ?_)|(refine zpv fn68 (allows_p h (el h.made k) (by assumption)) ?_)|refine zg ?_ ?_|refine zgu ?_|refine zst ?_|refine aw_drawn (id:=1) [(0,0),(1,0),(2,0),(3,0),(4,0),(5,0),(6,0),(7,0),(8,0),(9,0),(10,0),(11,0),(12,0),(13,0)] mixed (by kernel_rfl) ?_|refine aw_drawn (id:=6) [(0,0),(1,0),(2,0),(3,0),(4,0),(5,0),(6,0),(7,0),(8,0),(9,1),(10,0),(11,0),(12,0),(13,0),(14,0),(15,0),(16,0),(17,0),(18,0),(19,0),(20,0),(21,0),(22,0),(23,0),(24,0),(25,0),(26,0),(27,0),(28,0),(29,0),(30,0),(31,0),(32,0),(33,0),(34,0),(35,0),(36,0),(37,0),(38,0),(39,0),(40,0),(41,0),(42,0),(43,0),(44,0),(45,0),(46,0),(47,0),(48,0),(49,0),(50,0),(51,0),(52,1),(53,0),(54,0),(55,0)] mixed (by kernel_rfl) ?_|refine zco ?_ ?_|(refine fun (hg:(_:Prop))=>?_;first|exact absurd hg (by decide)|((try replace hg:=HG.out hg);(try dsimp only at hg);(try rw [inD_iff] at hg);(try (have _h:True:=hg;clear _h hg));first|(exfalso;omega)|skip))))
      all_goals first
        | (exfalso;omega)
        | ((refine aw_mono_r (env':=[(2,vb false)]) (H':=[]) ?_ ?_;(focus (exact zsb [] [])));(refine aw_ret ?_;(repeat (first|refine ret_then ?_|refine ret_block ?_));refine bq1 rfl ⟨?_,rfl⟩);refine ⟨false,rfl,⟨fun h=>(by cases h),fun hM=>?_⟩⟩;obtain ⟨h1,h2,h3⟩:=hM.2 k hlt;unfold inDesigns at h1;first|omega|(have:=h2 (by omega);omega)|(have:=h3 (by omega);omega))
        | ((first|refine loop_next (by omega) ?_ ?_|refine (show _∧_∧SubOf _ _ _ _ _ _ from And.intro (by omega) (And.intro ?_ ?_)));(focus (((refine all_step hJ ⟨?_,fun _=>?_,fun _=>?_⟩<;>first|assumption|omega));done));(focus (exact zsb [] [])))
        | trace_state
    · (repeat' (first|(refine ar_isq ?_;refine zq ?_)|refine zg ?_ ?_|refine zgu ?_|refine zst ?_|refine aw_drawn (id:=1) [(0,0),(1,0),(2,0),(3,0),(4,0),(5,0),(6,0),(7,0),(8,0),(9,0),(10,0),(11,0),(12,0),(13,0)] mixed (by kernel_rfl) ?_|refine aw_drawn (id:=6) [(0,0),(1,0),(2,0),(3,0),(4,0),(5,0),(6,0),(7,0),(8,0),(9,1),(10,0),(11,0),(12,0),(13,0),(14,0),(15,0),(16,0),(17,0),(18,0),(19,0),(20,0),(21,0),(22,0),(23,0),(24,0),(25,0),(26,0),(27,0),(28,0),(29,0),(30,0),(31,0),(32,0),(33,0),(34,0),(35,0),(36,0),(37,0),(38,0),(39,0),(40,0),(41,0),(42,0),(43,0),(44,0),(45,0),(46,0),(47,0),(48,0),(49,0),(50,0),(51,0),(52,1),(53,0),(54,0),(55,0)] mixed (by kernel_rfl) ?_|refine zco ?_ ?_|(refine fun (hg:(_:Prop))=>?_;first|exact absurd hg (by decide)|((try replace hg:=HG.out hg);(try dsimp only at hg);(try rw [inD_iff] at hg);(try (have _h:True:=hg;clear _h hg));first|(exfalso;omega)|skip))))
      all_goals first
        | (exfalso;omega)
        | ((refine aw_ret ?_;(repeat (first|refine ret_then ?_|refine ret_block ?_));refine bq1 rfl ⟨?_,rfl⟩);exact ⟨true,rfl,⟨fun _=>⟨by omega,fun j hj=>hJ j (by omega)⟩,fun _=>rfl⟩⟩)
        | trace_state
def OrdersOk (h:Hse):Prop:=(h.orders.length≤30∧h.fors.length=h.store.prints.length)∧(∀ j,j<h.fors.length→ForAt h j)∧∀ i,i<h.orders.length→OrdAt h i
def StOk (s:Sto):Prop:=∀ j,j<s.prints.length→0≤(el s.prints j).state
def OrderedR (h:Hse) (v:V) (H:Heap):Prop:=(v=vb true∧OrdersOk h∧∃ m,TalOk h m∧H=shoB h m)∨(v=vb false∧¬ OrdersOk h)
theorem tal_small {h:Hse}{k:Nat}(hst:∀ j,j<k→0≤(el h.store.prints j).state∧(el h.store.prints j).state≤2) (hk:k≤1000) (n:Int):(talAt (talTo h k) n).small:=by
  rw [talTo_at hst]
  have h0:=doneTo_bnd h n 0 k
  have h1:=doneTo_bnd h n 1 k
  have h2:=doneTo_bnd h n 2 k
  refine ⟨?_,?_,?_⟩<;>dsimp only<;>omega
theorem hordered_p (h:Hse) (hs:HSmall h) (hV:Valid h.store) (hM:MadeOk h) (hw:StOk h.store):ACalls Tryz.prog 37 [.ptr 11 0 0 0] (shoB h []) (OrderedR h) NoP:=by
  have hs0:=hs
  unfold HSmall at hs
  have hml:=hM.1
  refine acalls_of_aw Tryz.func37 rfl (dc rfl) ?_
  (repeat' (first|(refine ar_isq ?_;refine zq ?_)|refine zg ?_ ?_|refine zgu ?_|refine zst ?_|refine aw_drawn (id:=1) [(0,0),(1,0),(2,0),(3,0),(4,0),(5,0),(6,0),(7,0),(8,0),(9,0),(10,0),(11,0),(12,0),(13,0),(14,0),(15,0),(16,0),(17,0),(18,0),(19,0),(20,0),(21,0),(22,0)] mixed (by kernel_rfl) ?_|refine aw_drawn (id:=7) [(0,0),(1,0),(2,1),(3,0),(4,0),(5,0),(6,0),(7,0),(8,0),(9,0),(10,0),(11,0),(12,0),(13,0),(14,0),(15,0),(16,0),(17,0),(18,0),(19,0),(20,0),(21,0),(22,0),(23,0),(24,0)] mixed (by kernel_rfl) ?_|refine aw_drawn (id:=7) [(0,0),(1,0),(2,2),(3,0),(4,0),(5,0),(6,0),(7,0),(8,0),(9,0),(10,0),(11,0),(12,0),(13,0),(14,0),(15,0),(16,0),(17,0),(18,0),(19,0),(20,0),(21,0),(22,0),(23,0),(24,0)] mixed (by kernel_rfl) ?_|refine aw_drawn (id:=16) [(0,0),(1,0),(2,0),(3,0),(4,0),(5,0),(6,0),(7,0),(8,0),(9,0),(10,0),(11,0),(12,0),(13,0),(14,0),(15,0)] mixed (by kernel_rfl) ?_|refine zco ?_ ?_|(refine fun (hg:(_:Prop))=>?_;first|exact absurd hg (by decide)|((try replace hg:=HG.out hg);(try dsimp only at hg);(try rw [inD_iff] at hg);(try rw [inO_iff] at hg);(try rw [fromB_one] at hg);(try rw [withinB_iff] at hg);(try rw [withinB_no] at hg);(try (have _h:True:=hg;clear _h hg));first|(exfalso;omega)|skip))))
  all_goals (try ((refine aw_ret ?_;(repeat (first|refine ret_then ?_|refine ret_block ?_));refine bq1 rfl (.inr ⟨rfl,fun hO=>?_⟩));have:=hO.1;omega))
  have hst:∀ j,j<h.store.prints.length→0≤(el h.store.prints j).state∧(el h.store.prints j).state≤2:=fun j hj=>by have:=hV.2.2.2.1 j hj;have:=hw j hj;unfold Printed at *;omega
  have hpl:∀ j,j<h.store.prints.length→0≤(el h.store.prints j).plate∧(el h.store.prints j).plate<(h.store.items.length:Int):=fun j hj=>by have:=hV.2.2.2.1 j hj;unfold Printed at this;omega
  refine aw_for h.fors.length (fun k=>∀ j,j<k→ForAt h j) (fun k=>[(0,.ptr 11 0 0 0),(37,.sl 1 7 0 h.fors.length),(38,vi h.fors.length),(39,vi k)]) (fun k=>[.arr 11 1 (fun _=>shoV 1 2 3 4 5 6 7 8 h),LB 5 Itm.enc h.store.items,LB 2 Prt.enc h.store.prints,LB 7 Dsn.enc h.designs,LB 4 Lic.enc h.lics,LB 4 Ordr.enc h.orders,LB 1 vi h.made,LB 1 vi h.fors,mapE Tal.enc (talTo h k)]) (fun j hj=>by omega) ?_ ?_
  · (exact zsc [some 0,some 1,some 2,some 3,some 4,some 5,some 6,some 7,some 8] [])
  intro k hk hJ
  by_cases hlt:k<h.fors.length
  · have hp:=hpl k (by omega)
    have hq:=hst k (by omega)
    have hsm:=tal_small (h:=h) (k:=k) (fun j hj=>hst j (by omega)) (by omega) (el h.fors k)
    (repeat' (first|(refine ar_isq ?_;refine zq ?_)|refine zil (j:=k) ?_|refine zis (j:=k) ?_|refine zit (j:=k) ?_|refine zil (j:=(el h.fors k).toNat) ?_|refine zis (j:=(el h.fors k).toNat) ?_|refine zit (j:=(el h.fors k).toNat) ?_|refine zil (j:=(el h.store.prints k).plate.toNat) ?_|refine zis (j:=(el h.store.prints k).plate.toNat) ?_|refine zit (j:=(el h.store.prints k).plate.toNat) ?_|((refine ar_read h (talTo h k) (order_p h (el h.fors k) hs0) fn69 (by intros;subst_vars;rfl) ?_;intro _ hv;subst hv))|refine ar_count (st:=(el h.store.prints k).state) (k:=1) h (talTo h k) (by omega) hsm (by omega) ?_|refine zg ?_ ?_|refine zgu ?_|refine zst ?_|refine aw_drawn (id:=1) [(0,0),(1,0),(2,0),(3,0),(4,0),(5,0),(6,0),(7,0),(8,0),(9,0),(10,0),(11,0),(12,0),(13,0),(14,0),(15,0),(16,0),(17,0),(18,0),(19,0),(20,0),(21,0),(22,0)] mixed (by kernel_rfl) ?_|refine aw_drawn (id:=7) [(0,0),(1,0),(2,1),(3,0),(4,0),(5,0),(6,0),(7,0),(8,0),(9,0),(10,0),(11,0),(12,0),(13,0),(14,0),(15,0),(16,0),(17,0),(18,0),(19,0),(20,0),(21,0),(22,0),(23,0),(24,0)] mixed (by kernel_rfl) ?_|refine aw_drawn (id:=7) [(0,0),(1,0),(2,2),(3,0),(4,0),(5,0),(6,0),(7,0),(8,0),(9,0),(10,0),(11,0),(12,0),(13,0),(14,0),(15,0),(16,0),(17,0),(18,0),(19,0),(20,0),(21,0),(22,0),(23,0),(24,0)] mixed (by kernel_rfl) ?_|refine aw_drawn (id:=16) [(0,0),(1,0),(2,0),(3,0),(4,0),(5,0),(6,0),(7,0),(8,0),(9,0),(10,0),(11,0),(12,0),(13,0),(14,0),(15,0)] mixed (by kernel_rfl) ?_|refine zco ?_ ?_|(refine fun (hg:(_:Prop))=>?_;first|exact absurd hg (by decide)|((try replace hg:=HG.out hg);(try dsimp only at hg);(try rw [inD_iff] at hg);(try rw [inO_iff] at hg);(try rw [fromB_one] at hg);(try rw [withinB_iff] at hg);(try rw [withinB_no] at hg);(try (have _h:True:=hg;clear _h hg));first|(exfalso;omega)|skip))))
    all_goals first
      | (exfalso;omega)
      | ((refine aw_ret ?_;(repeat (first|refine ret_then ?_|refine ret_block ?_));refine bq1 rfl (.inr ⟨rfl,fun hO=>?_⟩));obtain ⟨h1,h2⟩:=hO.2.1 k hlt;unfold inOrders at h1;omega)
      | ((first|refine loop_next (by omega) ?_ ?_|refine (show _∧_∧SubOf _ _ _ _ _ _ from And.intro (by omega) (And.intro ?_ ?_)));(focus (((refine all_step hJ ⟨?_,?_⟩<;>first|assumption|omega));done));(focus (exact zsc [some 0,some 1,some 2,some 3,some 4,some 5,some 6,some 7,some 8] [])))
      | trace_state
  · (repeat' (first|(refine ar_isq ?_;refine zq ?_)|refine zg ?_ ?_|refine zgu ?_|refine zst ?_|refine aw_drawn (id:=1) [(0,0),(1,0),(2,0),(3,0),(4,0),(5,0),(6,0),(7,0),(8,0),(9,0),(10,0),(11,0),(12,0),(13,0),(14,0),(15,0),(16,0),(17,0),(18,0),(19,0),(20,0),(21,0),(22,0)] mixed (by kernel_rfl) ?_|refine aw_drawn (id:=7) [(0,0),(1,0),(2,1),(3,0),(4,0),(5,0),(6,0),(7,0),(8,0),(9,0),(10,0),(11,0),(12,0),(13,0),(14,0),(15,0),(16,0),(17,0),(18,0),(19,0),(20,0),(21,0),(22,0),(23,0),(24,0)] mixed (by kernel_rfl) ?_|refine aw_drawn (id:=7) [(0,0),(1,0),(2,2),(3,0),(4,0),(5,0),(6,0),(7,0),(8,0),(9,0),(10,0),(11,0),(12,0),(13,0),(14,0),(15,0),(16,0),(17,0),(18,0),(19,0),(20,0),(21,0),(22,0),(23,0),(24,0)] mixed (by kernel_rfl) ?_|refine aw_drawn (id:=16) [(0,0),(1,0),(2,0),(3,0),(4,0),(5,0),(6,0),(7,0),(8,0),(9,0),(10,0),(11,0),(12,0),(13,0),(14,0),(15,0)] mixed (by kernel_rfl) ?_|refine zco ?_ ?_|(refine fun (hg:(_:Prop))=>?_;first|exact absurd hg (by decide)|((try replace hg:=HG.out hg);(try dsimp only at hg);(try rw [inD_iff] at hg);(try rw [inO_iff] at hg);(try rw [fromB_one] at hg);(try rw [withinB_iff] at hg);(try rw [withinB_no] at hg);(try (have _h:True:=hg;clear _h hg));first|(exfalso;omega)|skip))))
    all_goals (try (exfalso;omega))
    have hF:∀ j,j<h.fors.length→ForAt h j:=fun j hj=>hJ j (by omega)
    obtain rfl:k=h.fors.length:=by omega
    clear hJ hlt hk
    have hta:∀ n:Int,talAt (talTo h h.fors.length) n=⟨doneF h n 0,doneF h n 1,doneF h n 2⟩:=talTo_at fun j hj=>hst j (by omega)
    refine aw_for h.orders.length (fun k=>∀ j,j<k→OrdAt h j) (fun k=>[(0,.ptr 11 0 0 0),(88,.sl 4 5 0 h.orders.length),(89,vi h.orders.length),(90,vi k)]) (fun _=>[.arr 11 1 (fun _=>shoV 1 2 3 4 5 6 7 8 h),LB 5 Itm.enc h.store.items,LB 2 Prt.enc h.store.prints,LB 7 Dsn.enc h.designs,LB 4 Lic.enc h.lics,LB 4 Ordr.enc h.orders,LB 1 vi h.made,LB 1 vi h.fors,mapE Tal.enc (talTo h h.fors.length)]) (fun j hj=>by omega) ?_ ?_
    · (exact zsc [some 0,some 1,some 2,some 3,some 4,some 5,some 6,some 7,some 8] [])
    intro k hk hJ
    by_cases hlt:k<h.orders.length
    · have ht0:(talAt (talTo h h.fors.length) k).a=doneF h k 0:=by rw [hta]
      have ht1:(talAt (talTo h h.fors.length) k).b=doneF h k 1:=by rw [hta]
      have hd0:0≤doneF h k 0:=(doneTo_bnd h k 0 h.fors.length).1
      have hd1:0≤doneF h k 1:=(doneTo_bnd h k 1 h.fors.length).1
      clear hta hF
      
      (repeat' (first|(refine ar_isq ?_;refine zq ?_)|refine zil (j:=k) ?_|refine zis (j:=k) ?_|refine zit (j:=k) ?_|(((refine ar_subk_l (sub_frzL (t:=97) vi ([(el h.orders k).client]) rfl rfl rfl rfl (fun _ _=>rfl) (fun _=>rfl)) ?_);refine zpv fn27 (hfrom_p _ _ [(el h.orders k).client]) ?_))|(((refine ar_subk_l (sub_frzL (t:=110) vi ([(el h.orders k).need]) rfl rfl rfl rfl (fun _ _=>rfl) (fun _=>rfl)) ?_);refine zpv fn27 (hfrom_p _ _ [(el h.orders k).need]) ?_))|refine ar_buildLE vi ([_]) (by exact ty rfl) (by exact rfl) (by exact ty rfl) (by exact rfl) (by exact rfl) (by exact Nat.succ_pos _) (by exact rfl) (by exact dc rfl) (by exact rfl) (by exact fun _=>⟨rfl,rfl⟩) (by exact dc rfl) ?_|((refine ar_read h (talTo h h.fors.length) (design_p h (el h.orders k).design hs0) fn67 (by intros;subst_vars;rfl) ?_;intro _ hv;subst hv))|refine ar_lookupT ?_ (ty rfl) rfl (ty rfl) rfl (ty rfl) rfl rfl rfl rfl (dc rfl)|refine ar_q (qs_index (j:=0) (ty rfl) rfl (ty rfl) rfl rfl rfl (dc rfl) rfl) (dc rfl) ?_|refine ar_q (qs_index (j:=1) (ty rfl) rfl (ty rfl) rfl rfl rfl (dc rfl) rfl) (dc rfl) ?_|refine zg ?_ ?_|refine zgu ?_|refine zst ?_|refine aw_drawn (id:=1) [(0,0),(1,0),(2,0),(3,0),(4,0),(5,0),(6,0),(7,0),(8,0),(9,0),(10,0),(11,0),(12,0),(13,0),(14,0),(15,0),(16,0),(17,0),(18,0),(19,0),(20,0),(21,0),(22,0)] mixed (by kernel_rfl) ?_|refine aw_drawn (id:=7) [(0,0),(1,0),(2,1),(3,0),(4,0),(5,0),(6,0),(7,0),(8,0),(9,0),(10,0),(11,0),(12,0),(13,0),(14,0),(15,0),(16,0),(17,0),(18,0),(19,0),(20,0),(21,0),(22,0),(23,0),(24,0)] mixed (by kernel_rfl) ?_|refine aw_drawn (id:=7) [(0,0),(1,0),(2,2),(3,0),(4,0),(5,0),(6,0),(7,0),(8,0),(9,0),(10,0),(11,0),(12,0),(13,0),(14,0),(15,0),(16,0),(17,0),(18,0),(19,0),(20,0),(21,0),(22,0),(23,0),(24,0)] mixed (by kernel_rfl) ?_|refine aw_drawn (id:=16) [(0,0),(1,0),(2,0),(3,0),(4,0),(5,0),(6,0),(7,0),(8,0),(9,0),(10,0),(11,0),(12,0),(13,0),(14,0),(15,0)] mixed (by kernel_rfl) ?_|refine zco ?_ ?_|(refine fun (hg:(_:Prop))=>?_;first|exact absurd hg (by decide)|((try replace hg:=HG.out hg);(try dsimp only at hg);(try rw [inD_iff] at hg);(try rw [inO_iff] at hg);(try rw [fromB_one] at hg);(try rw [withinB_iff] at hg);(try rw [withinB_no] at hg);(try rw [ht0] at hg);(try rw [ht1] at hg);(try (have _h:True:=hg;clear _h hg));first|(exfalso;omega)|skip))))
      all_goals first
        | ((first|refine loop_next (by omega) ?_ ?_|refine (show _∧_∧SubOf _ _ _ _ _ _ from And.intro (by omega) (And.intro ?_ ?_)));(focus (((first|exact all_step hJ ⟨by assumption,inD_iff.2 (by assumption),by assumption,fun _=>⟨by omega,by omega⟩,fun hd=>absurd (hd.symm.trans (show (el h.orders k).done=true from by assumption)) (by decide)⟩|exact all_step hJ ⟨by assumption,inD_iff.2 (by assumption),by assumption,fun hd=>absurd (hd.symm.trans (show (el h.orders k).done=false from by assumption)) (by decide),fun _=>⟨by omega,by omega⟩⟩));done));(focus (exact zsc [some 0,some 1,some 2,some 3,some 4,some 5,some 6,some 7,some 8] [])))
        | ((refine aw_ret ?_;(repeat (first|refine ret_then ?_|refine ret_block ?_));refine bq1 rfl (.inr ⟨rfl,fun hO=>?_⟩));obtain ⟨h1,h2,h3,h4,h5⟩:=hO.2.2 k hlt;first|(exact absurd h1 (by assumption))|(exact absurd h3 (by assumption))|(exact absurd (inD_iff.1 h2) (by assumption))|(have a1:=h4 (by assumption);omega)|(have a1:=h5 (by assumption);omega))
        | (exfalso;simp_all;done)
        | (exfalso;omega)
        | trace_state
    · (repeat' (first|(refine ar_isq ?_;refine zq ?_)|refine zg ?_ ?_|refine zgu ?_|refine zst ?_|refine aw_drawn (id:=1) [(0,0),(1,0),(2,0),(3,0),(4,0),(5,0),(6,0),(7,0),(8,0),(9,0),(10,0),(11,0),(12,0),(13,0),(14,0),(15,0),(16,0),(17,0),(18,0),(19,0),(20,0),(21,0),(22,0)] mixed (by kernel_rfl) ?_|refine aw_drawn (id:=7) [(0,0),(1,0),(2,1),(3,0),(4,0),(5,0),(6,0),(7,0),(8,0),(9,0),(10,0),(11,0),(12,0),(13,0),(14,0),(15,0),(16,0),(17,0),(18,0),(19,0),(20,0),(21,0),(22,0),(23,0),(24,0)] mixed (by kernel_rfl) ?_|refine aw_drawn (id:=7) [(0,0),(1,0),(2,2),(3,0),(4,0),(5,0),(6,0),(7,0),(8,0),(9,0),(10,0),(11,0),(12,0),(13,0),(14,0),(15,0),(16,0),(17,0),(18,0),(19,0),(20,0),(21,0),(22,0),(23,0),(24,0)] mixed (by kernel_rfl) ?_|refine aw_drawn (id:=16) [(0,0),(1,0),(2,0),(3,0),(4,0),(5,0),(6,0),(7,0),(8,0),(9,0),(10,0),(11,0),(12,0),(13,0),(14,0),(15,0)] mixed (by kernel_rfl) ?_|refine zco ?_ ?_|(refine fun (hg:(_:Prop))=>?_;first|exact absurd hg (by decide)|((try replace hg:=HG.out hg);(try dsimp only at hg);(try rw [inD_iff] at hg);(try rw [inO_iff] at hg);(try rw [fromB_one] at hg);(try rw [withinB_iff] at hg);(try rw [withinB_no] at hg);(try rw [ht0] at hg);(try rw [ht1] at hg);(try (have _h:True:=hg;clear _h hg));first|(exfalso;omega)|skip))))
      all_goals first
        | (exfalso;omega)
        | (refine aw_ret ?_;refine bq1 rfl (.inl ⟨rfl,⟨⟨by omega,by omega⟩,hF,fun i hi=>hJ i (by omega)⟩,_,hta,rfl⟩))
        | trace_state
end Go.Proofs.YtloaefllpokkaaaGreat
