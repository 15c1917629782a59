/- Parts of the proof: a layer of values over the model, and contracts of functions. No condition. -/
import Derived.Test.YtbilpbabdgfblaaGreatKHc13
set_option maxHeartbeats 16000000
set_option linter.unusedSimpArgs false
set_option linter.unusedVariables false
namespace Go.Proofs.YtbilpbabdgfblaaGreat
open Go.RowKit
theorem rdesign_p (d:Dsn):PCalls Tryz.prog 95 [d.enc] (·=vb (decide (GoodD d))):=by
  have e0:∀ b:Bool,(b=true↔GoodD d)→vb b=vb (decide (GoodD d)):=fun b h=>vb_iff h
  refine pcalls_of_aw Tryz.func95 rfl (dc rfl) ?_
  (repeat' (first|(refine ar_isq ?_;refine zq ?_)|(refine zpv fn136 (hclient_p d.owner) ?_)|(refine zpv fn137 (rCheck_p d.sheet d.band) ?_)|(refine zpv fn145 (rGap_p d.sheet d.band) ?_)|refine zg ?_ ?_|refine zgu ?_|refine zst ?_|refine zco ?_ ?_|(refine fun (hg:(_:Prop))=>?_;first|exact absurd hg (by decide)|((try replace hg:=HG.out hg);(try dsimp only at hg);(try rw [withinB_iff] at hg);(try rw [withinB_no] at hg);(try (have _h:True:=hg;clear _h hg));first|(exfalso;omega)|skip))))
  all_goals first
    | (exfalso;omega)
    | ((refine aw_mono_r (env':=[(2,vb false)]) (H':=[]) ?_ ?_;(focus (exact zsb [] [])));(refine aw_ret ?_;(repeat (first|refine ret_then ?_|refine ret_block ?_));refine bq1 rfl ⟨?_,rfl⟩);refine e0 false ⟨fun h=>(by cases h),fun h=>?_⟩;unfold GoodD at h;omega)
    | ((refine aw_mono_r (env':=[(2,vb true)]) (H':=[]) ?_ ?_;(focus (exact zsb [] [])));(refine aw_ret ?_;(repeat (first|refine ret_then ?_|refine ret_block ?_));refine bq1 rfl ⟨?_,rfl⟩);refine e0 true ⟨fun _=>?_,fun _=>rfl⟩;unfold GoodD;omega)
    | ((refine aw_mono_r (env':=[(2,vb (decide (0<gapF d.sheet d.band)))]) (H':=[]) ?_ ?_;(focus (exact zsb [] [])));(refine aw_ret ?_;(repeat (first|refine ret_then ?_|refine ret_block ?_));refine bq1 rfl ⟨?_,rfl⟩);refine e0 _ ⟨fun h=>?_,fun h=>?_⟩;(focus (have:=of_decide_eq_true h;unfold GoodD;omega));(focus (unfold GoodD at h;exact decide_eq_true (by omega))))
    | trace_state
theorem rallows_p (d:Dsn) (per life:Int):PCalls Tryz.prog 140 [d.enc,vi per,vi life] (·=vi (allowsF per life d)):=by
  have hb:lastErr d.sheet d.band per=0→0≤lastF d.sheet d.band per∧lastF d.sheet d.band per≤1000000:=fun he=>by have:=lastF_bnd he;omega
  refine pcalls_of_aw Tryz.func140 rfl (dc rfl) ?_
  (repeat' (first|(refine ar_isq ?_;refine zq ?_)|(refine zpv fn167 (rLasts_p d.sheet d.band per) ?_)|refine zst ?_|refine zco ?_ ?_|(refine fun (hg:(_:Prop))=>?_;first|exact absurd hg (by decide)|((try replace hg:=HG.out hg);(try dsimp only at hg);(try rw [withinB_iff] at hg);(try rw [withinB_no] at hg);(try (have _h:True:=hg;clear _h hg));first|(exfalso;omega)|skip))))
  · (refine aw_ret ?_;(repeat (first|refine ret_then ?_|refine ret_block ?_));refine bq1 rfl ⟨?_,rfl⟩)
    unfold allowsF
    rw [if_neg (by omega)]
  · (refine aw_ret ?_;(repeat (first|refine ret_then ?_|refine ret_block ?_));refine bq1 rfl ⟨?_,rfl⟩)
    unfold allowsF
    rw [if_pos (by omega)]
    rfl
theorem rcount_p (h:Hse) (n st:Int) (hf:h.fors.length≤h.store.prints.length) (hs:h.fors.length≤1000):PCalls Tryz.prog 139 [h.enc,vi n,vu8 st] (·=vi (doneF h n st)):=by
  refine pcalls_of_aw Tryz.func139 rfl (dc rfl) ?_
  ((repeat refine aw_seq ?_);(first|(refine aw_region ?_));(repeat' (first|(refine ar_isq ?_;refine zq ?_)|refine zg ?_ ?_|refine zgu ?_|refine zsr ?_|exact zd|(refine fun (hg:(_:Prop))=>?_;(try replace hg:=HG.out hg);(try dsimp only at hg);(try (have _h:True:=hg;clear _h hg))))))
  (refine aw_mono_r (env':=[(1,vi n),(2,vu8 st),(3,.ref h.enc 0)]) (H':=[]) ?_ ?_;(focus (exact zsb [] [0])))
  (repeat' (first|(refine ar_isq ?_;refine zq ?_)|refine zg ?_ ?_|refine zgu ?_|refine zst ?_|refine zco ?_ ?_|exact zd|(refine fun (hg:(_:Prop))=>?_;(try replace hg:=HG.out hg);(try dsimp only at hg);(try (have _h:True:=hg;clear _h hg)))))
  refine aw_for h.fors.length (fun _=>True) (fun k=>[(1,vi n),(2,vu8 st),(3,.ref h.enc 0),(7,vi (doneTo h n st k)),(8,vi k)]) (fun _=>[]) trivial ?_ ?_
  · (exact zsb [] [])
  intro k hk _
  have hb:=doneTo_bnd h n st k
  have hstep:=doneTo_step (h:=h) (n:=n) (st:=st) (k:=k)
  by_cases hlt:k<h.fors.length
  · (repeat' (first|(refine ar_isq ?_;refine zq ?_)|refine zil (j:=k) ?_|refine zis (j:=k) ?_|refine zit (j:=k) ?_|refine zg ?_ ?_|refine zgu ?_|refine zst ?_|refine zco ?_ ?_|exact zd|(refine fun (hg:(_:Prop))=>?_;(try replace hg:=HG.out hg);(try dsimp only at hg);(try (have _h:True:=hg;clear _h hg)))))
    all_goals first
      | (exfalso;omega)
      | ((first|refine loop_next (by omega) ?_ ?_|refine (show _∧_∧SubOf _ _ _ _ _ _ from And.intro (by omega) (And.intro ?_ ?_)));(focus ((trivial);done));(focus ((refine sub_to [] [] rfl ?_ ?_<;>(repeat' (first|exact trivial|refine ⟨⟨_,rfl,?_⟩,?_⟩|refine vs1 ?_ ?_|refine vs2 ?_ ?_|refine vs3 ?_|refine vs4 ?_ ?_|refine ⟨.inl ⟨_,_,rfl,rfl,?_⟩,?_⟩|exact ⟨.inr ⟨rfl,rfl⟩,trivial⟩|refine ⟨.inr ⟨rfl,rfl⟩,?_⟩|(intro _ _)|exact vz1|(exact siEq (by rw [hstep,if_pos ⟨by assumption,by assumption⟩]))|exact vz2|fail)));done)))
      | ((first|refine loop_next (by omega) ?_ ?_|refine (show _∧_∧SubOf _ _ _ _ _ _ from And.intro (by omega) (And.intro ?_ ?_)));(focus ((trivial);done));(focus ((refine sub_to [] [] rfl ?_ ?_<;>(repeat' (first|exact trivial|refine ⟨⟨_,rfl,?_⟩,?_⟩|refine vs1 ?_ ?_|refine vs2 ?_ ?_|refine vs3 ?_|refine vs4 ?_ ?_|refine ⟨.inl ⟨_,_,rfl,rfl,?_⟩,?_⟩|exact ⟨.inr ⟨rfl,rfl⟩,trivial⟩|refine ⟨.inr ⟨rfl,rfl⟩,?_⟩|(intro _ _)|exact vz1|(exact siEq (by rw [hstep,if_neg (fun e=>by first|exact absurd e.1 (by assumption)|exact absurd e.2 (by assumption))]<;>omega))|exact vz2|fail)));done)))
      | trace_state
  · (repeat' (first|(refine ar_isq ?_;refine zq ?_)|refine zg ?_ ?_|refine zgu ?_|refine zst ?_|refine zco ?_ ?_|exact zd|(refine fun (hg:(_:Prop))=>?_;(try replace hg:=HG.out hg);(try dsimp only at hg);(try (have _h:True:=hg;clear _h hg)))))
    all_goals first
      | (exfalso;omega)
      | ((refine aw_ret ?_;(repeat (first|refine ret_then ?_|refine ret_block ?_));refine bq1 rfl ⟨?_,rfl⟩);exact congrArg vi (by rw [doneF,show k=h.fors.length by omega]))
      | trace_state
theorem rlicence_p (h:Hse) (l:Lic) (hs:h.designs.length≤1000):PCalls Tryz.prog 96 [h.enc,l.enc] (fun v=>∃ b:Bool,v=vb b∧(b=true↔LicOk h l)):=by
  refine pcalls_of_aw Tryz.func96 rfl (dc rfl) ?_
  ((repeat refine aw_seq ?_);(first|(refine aw_region ?_)|(refine aw_drawn (id:=1) [(0,0),(1,0),(2,0),(3,0),(4,0),(5,0),(6,1),(7,0),(8,0),(9,0),(10,1),(11,0),(12,0),(13,0),(14,0),(15,0),(16,0),(17,0),(18,0),(19,0),(20,0),(21,0),(22,0),(23,0),(24,0),(25,0),(26,0),(27,1),(28,0),(29,0),(30,0),(31,0),(32,1),(33,0),(34,0)] mixed (by kernel_rfl) ?_)|(refine aw_drawn (id:=1) [(0,0),(1,0),(2,0),(3,0),(4,0),(5,0),(6,2),(7,0),(8,0),(9,0),(10,2),(11,0),(12,0),(13,0),(14,0),(15,0),(16,0),(17,0),(18,0),(19,0),(20,0),(21,0),(22,0),(23,0),(24,0),(25,0),(26,0),(27,2),(28,0),(29,0),(30,0),(31,0),(32,2),(33,0),(34,0)] mixed (by kernel_rfl) ?_));(repeat' (first|(refine ar_isq ?_;refine zq ?_)|refine zg ?_ ?_|refine zgu ?_|refine zsr ?_|(refine fun (hg:(_:Prop))=>?_;first|exact absurd hg (by decide)|((try replace hg:=HG.out hg);(try dsimp only at hg);(try rw [withinB_iff] at hg);(try rw [withinB_no] at hg);(try (have _h:True:=hg;clear _h hg));first|(exfalso;omega)|skip)))))
  (refine aw_mono_r (env':=[(2,.ref h.enc 0),(3,.ref l.enc 0)]) (H':=[]) ?_ ?_;(focus (exact zsb [] [0,1])))
  (repeat' (first|(refine ar_isq ?_;refine zq ?_)|refine zil (j:=l.design.toNat) ?_|refine zis (j:=l.design.toNat) ?_|refine zit (j:=l.design.toNat) ?_|(refine zpv fn45 (hwithin_p l.design 0 (h.designs.length-1)) ?_)|(refine zpv fn45 (hwithin_p l.til 0 10000) ?_)|(refine zpv fn45 (hwithin_p l.left 0 400) ?_)|(refine zpv fn136 (hclient_p l.client) ?_)|refine zg ?_ ?_|refine zgu ?_|refine zst ?_|refine aw_drawn (id:=1) [(0,0),(1,0),(2,0),(3,0),(4,0),(5,0),(6,1),(7,0),(8,0),(9,0),(10,1),(11,0),(12,0),(13,0),(14,0),(15,0),(16,0),(17,0),(18,0),(19,0),(20,0),(21,0),(22,0),(23,0),(24,0),(25,0),(26,0),(27,1),(28,0),(29,0),(30,0),(31,0),(32,1),(33,0),(34,0)] mixed (by kernel_rfl) ?_|refine aw_drawn (id:=1) [(0,0),(1,0),(2,0),(3,0),(4,0),(5,0),(6,2),(7,0),(8,0),(9,0),(10,2),(11,0),(12,0),(13,0),(14,0),(15,0),(16,0),(17,0),(18,0),(19,0),(20,0),(21,0),(22,0),(23,0),(24,0),(25,0),(26,0),(27,2),(28,0),(29,0),(30,0),(31,0),(32,2),(33,0),(34,0)] mixed (by kernel_rfl) ?_|refine zco ?_ ?_|(refine fun (hg:(_:Prop))=>?_;first|exact absurd hg (by decide)|((try replace hg:=HG.out hg);(try dsimp only at hg);(try rw [withinB_iff] at hg);(try rw [withinB_no] at hg);(try (have _h:True:=hg;clear _h hg));first|(exfalso;omega)|skip))))
  all_goals first
    | ((refine aw_ret ?_;(repeat (first|refine ret_then ?_|refine ret_block ?_));refine bq1 rfl ⟨?_,rfl⟩);refine ⟨_,rfl,⟨fun hb=>(by cases hb),fun hL=>?_⟩⟩;unfold LicOk inDesigns at hL;omega)
    | ((refine aw_ret ?_;(repeat (first|refine ret_then ?_|refine ret_block ?_));refine bq1 rfl ⟨?_,rfl⟩);refine ⟨_,rfl,⟨fun hb=>?_,fun hL=>?_⟩⟩;(focus (rw [withinB_iff] at hb;unfold LicOk inDesigns;omega));(focus (unfold LicOk inDesigns at hL;rw [withinB_iff];omega)))
    | trace_state
theorem rordered_p (h:Hse) (k:Nat) (hk:k<h.orders.length) (hd:h.designs.length≤1000) (hf:h.fors.length≤h.store.prints.length) (hs:h.fors.length≤1000):PCalls Tryz.prog 98 [h.enc,vi k] (fun v=>∃ b:Bool,v=vb b∧(b=true↔OrdAt h k)):=by
  refine pcalls_of_aw Tryz.func98 rfl (dc rfl) ?_
  ((repeat refine aw_seq ?_);(first|(refine aw_region ?_)|(refine aw_drawn (id:=4) [(0,0),(1,0),(3,0),(4,0),(2,1),(5,1),(6,0),(7,0)] mixed (by kernel_rfl) ?_));(repeat' (first|(refine ar_isq ?_;refine zq ?_)|refine zg ?_ ?_|refine zgu ?_|refine zsr ?_|(refine fun (hg:(_:Prop))=>?_;first|exact absurd hg (by decide)|((try replace hg:=HG.out hg);(try dsimp only at hg);(try rw [withinB_iff] at hg);(try rw [withinB_no] at hg);(try (have _h:True:=hg;clear _h hg));first|(exfalso;omega)|skip)))))
  (refine aw_mono_r (env':=[(1,vi k),(2,.ref h.enc 0)]) (H':=[]) ?_ ?_;(focus (exact zsb [] [0])))
  (repeat' (first|(refine ar_isq ?_;refine zq ?_)|refine zil (j:=k) ?_|refine zis (j:=k) ?_|refine zit (j:=k) ?_|(refine zpv fn45 (hwithin_p (el h.orders k).design 0 (h.designs.length-1)) ?_)|(refine zpv fn45 (hwithin_p (el h.orders k).need 1 400) ?_)|(refine zpv fn136 (hclient_p (el h.orders k).client) ?_)|(refine zpv fn139 (rcount_p h k 0 hf hs) ?_)|(refine zpv fn139 (rcount_p h k 1 hf hs) ?_)|refine zg ?_ ?_|refine zgu ?_|refine zst ?_|refine aw_drawn (id:=4) [(0,0),(1,0),(3,0),(4,0),(2,1),(5,1),(6,0),(7,0)] mixed (by kernel_rfl) ?_|refine zco ?_ ?_|(refine fun (hg:(_:Prop))=>?_;first|exact absurd hg (by decide)|((try replace hg:=HG.out hg);(try dsimp only at hg);(try rw [withinB_iff] at hg);(try rw [withinB_no] at hg);(try (have _h:True:=hg;clear _h hg));first|(exfalso;omega)|skip))))
  all_goals first
    | ((refine aw_ret ?_;(repeat (first|refine ret_then ?_|refine ret_block ?_));refine bq1 rfl ⟨?_,rfl⟩);refine ⟨_,rfl,⟨fun hb=>?_,fun hO=>?_⟩⟩
       · first
           | (cases hb;done)
           | exact ⟨by assumption,inD_iff.2 (by omega),by assumption,fun _=>⟨by assumption,of_decide_eq_true hb⟩,fun hd=>absurd (hd.symm.trans (show (el h.orders k).done=true from by assumption)) (by decide)⟩
           | exact ⟨by assumption,inD_iff.2 (by omega),by assumption,fun hd=>absurd (hd.symm.trans (show (el h.orders k).done=false from by assumption)) (by decide),fun _=>⟨by assumption,of_decide_eq_true hb⟩⟩
       · obtain ⟨h1,h2,h3,h4,h5⟩:=hO
         first
           | exact absurd h1 (by assumption)
           | exact absurd h3 (by assumption)
           | (have a1:=h4 (by assumption);first|exact absurd a1.1 (by assumption)|exact decide_eq_true a1.2)
           | (have a1:=h5 (by assumption);first|exact absurd a1.1 (by assumption)|exact decide_eq_true a1.2)
           | (unfold inDesigns at h2;omega))
    | trace_state
theorem rmade_p (h:Hse) (hs:HSmall h) (hV:Valid h.store):PCalls Tryz.prog 97 [h.enc] (fun v=>∃ b:Bool,v=vb b∧(b=true↔MadeOk h)):=by
  unfold HSmall at hs
  refine pcalls_of_aw Tryz.func97 rfl (dc rfl) ?_
  ((repeat refine aw_seq ?_);(first|(refine aw_region ?_)|(refine aw_drawn (id:=7) [(0,0),(1,0),(2,0),(3,0),(4,0),(5,0),(6,0),(7,0),(8,0),(9,1),(10,0),(11,0),(12,0),(13,0),(14,0),(15,0),(16,0),(17,0),(18,0),(19,0),(20,0),(21,0),(22,0),(23,0),(24,0),(25,0),(26,0),(27,0),(28,0),(29,0)] mixed (by kernel_rfl) ?_)|(refine aw_drawn (id:=7) [(0,0),(1,0),(2,0),(3,0),(4,0),(5,0),(6,0),(7,0),(8,0),(9,2),(10,0),(11,0),(12,0),(13,0),(14,0),(15,0),(16,0),(17,0),(18,0),(19,0),(20,0),(21,0),(22,0),(23,0),(24,0),(25,0),(26,0),(27,0),(28,0),(29,0)] mixed (by kernel_rfl) ?_)|(refine aw_drawn (id:=9) [(0,0),(1,0),(2,0),(3,0),(4,0),(5,0),(6,0),(7,0),(8,0),(9,0),(10,0),(11,0),(12,0),(13,0),(14,0),(15,0),(16,0),(17,0),(18,0),(19,0),(20,1),(21,0),(22,0)] mixed (by kernel_rfl) ?_));(repeat' (first|(refine ar_isq ?_;refine zq ?_)|refine zg ?_ ?_|refine zgu ?_|refine zsr ?_|(refine fun (hg:(_:Prop))=>?_;first|exact absurd hg (by decide)|((try replace hg:=HG.out hg);(try dsimp only at hg);(try rw [withinB_iff] at hg);(try rw [withinB_no] at hg);(try (have _h:True:=hg;clear _h hg));first|(exfalso;omega)|skip)))))
  (refine aw_mono_r (env':=[(1,.ref h.enc 0),(2,vb false)]) (H':=[]) ?_ ?_;(focus (exact zsb [] [0])))
  (repeat' (first|(refine ar_isq ?_;refine zq ?_)|refine zg ?_ ?_|refine zgu ?_|refine zst ?_|refine aw_drawn (id:=7) [(0,0),(1,0),(2,0),(3,0),(4,0),(5,0),(6,0),(7,0),(8,0),(9,1),(10,0),(11,0),(12,0),(13,0),(14,0),(15,0),(16,0),(17,0),(18,0),(19,0),(20,0),(21,0),(22,0),(23,0),(24,0),(25,0),(26,0),(27,0),(28,0),(29,0)] mixed (by kernel_rfl) ?_|refine aw_drawn (id:=7) [(0,0),(1,0),(2,0),(3,0),(4,0),(5,0),(6,0),(7,0),(8,0),(9,2),(10,0),(11,0),(12,0),(13,0),(14,0),(15,0),(16,0),(17,0),(18,0),(19,0),(20,0),(21,0),(22,0),(23,0),(24,0),(25,0),(26,0),(27,0),(28,0),(29,0)] mixed (by kernel_rfl) ?_|refine aw_drawn (id:=9) [(0,0),(1,0),(2,0),(3,0),(4,0),(5,0),(6,0),(7,0),(8,0),(9,0),(10,0),(11,0),(12,0),(13,0),(14,0),(15,0),(16,0),(17,0),(18,0),(19,0),(20,1),(21,0),(22,0)] mixed (by kernel_rfl) ?_|refine zco ?_ ?_|(refine fun (hg:(_:Prop))=>?_;first|exact absurd hg (by decide)|((try replace hg:=HG.out hg);(try dsimp only at hg);(try rw [withinB_iff] at hg);(try rw [withinB_no] at hg);(try (have _h:True:=hg;clear _h hg));first|(exfalso;omega)|skip))))
  · (refine aw_ret ?_;(repeat (first|refine ret_then ?_|refine ret_block ?_));refine bq1 rfl ⟨?_,rfl⟩)
    exact ⟨false,rfl,⟨fun h=>(by cases h),fun hM=>by have:=hM.1;omega⟩⟩
  · refine aw_for h.made.length (fun k=>∀ j,j<k→MadeAt h j) (fun k=>[(1,.ref h.enc 0),(3,vi k)]) (fun _=>[]) (fun j hj=>by omega) ?_ ?_
    · (exact zsb [] [])
    intro k hk hJ
    by_cases hlt:k<h.made.length
    · have hm:=hV.2.1 k (by omega)
      unfold Made at hm
      (repeat' (first|(refine ar_isq ?_;refine zq ?_)|refine zil (j:=k) ?_|refine zis (j:=k) ?_|refine zit (j:=k) ?_|refine zil (j:=(el h.store.items k).src.toNat) ?_|refine zis (j:=(el h.store.items k).src.toNat) ?_|refine zit (j:=(el h.store.items k).src.toNat) ?_|refine zil (j:=(el h.made k).toNat) ?_|refine zis (j:=(el h.made k).toNat) ?_|refine zit (j:=(el h.made k).toNat) ?_|(refine zpv fn45 (hwithin_p (el h.made k) 0 (h.designs.length-1)) ?_)|(refine zpv fn140 (rallows_p (el h.designs (el h.made k).toNat) h.per h.store.life) ?_)|refine zg ?_ ?_|refine zgu ?_|refine zst ?_|refine aw_drawn (id:=7) [(0,0),(1,0),(2,0),(3,0),(4,0),(5,0),(6,0),(7,0),(8,0),(9,1),(10,0),(11,0),(12,0),(13,0),(14,0),(15,0),(16,0),(17,0),(18,0),(19,0),(20,0),(21,0),(22,0),(23,0),(24,0),(25,0),(26,0),(27,0),(28,0),(29,0)] mixed (by kernel_rfl) ?_|refine aw_drawn (id:=7) [(0,0),(1,0),(2,0),(3,0),(4,0),(5,0),(6,0),(7,0),(8,0),(9,2),(10,0),(11,0),(12,0),(13,0),(14,0),(15,0),(16,0),(17,0),(18,0),(19,0),(20,0),(21,0),(22,0),(23,0),(24,0),(25,0),(26,0),(27,0),(28,0),(29,0)] mixed (by kernel_rfl) ?_|refine aw_drawn (id:=9) [(0,0),(1,0),(2,0),(3,0),(4,0),(5,0),(6,0),(7,0),(8,0),(9,0),(10,0),(11,0),(12,0),(13,0),(14,0),(15,0),(16,0),(17,0),(18,0),(19,0),(20,1),(21,0),(22,0)] mixed (by kernel_rfl) ?_|refine zco ?_ ?_|(refine fun (hg:(_:Prop))=>?_;first|exact absurd hg (by decide)|((try replace hg:=HG.out hg);(try dsimp only at hg);(try rw [withinB_iff] at hg);(try rw [withinB_no] at hg);(try (have _h:True:=hg;clear _h hg));first|(exfalso;omega)|skip))))
      all_goals first
        | (exfalso;omega)
        | ((refine aw_ret ?_;(repeat (first|refine ret_then ?_|refine ret_block ?_));refine bq1 rfl ⟨?_,rfl⟩);refine ⟨false,rfl,⟨fun h=>(by cases h),fun hM=>?_⟩⟩;obtain ⟨h1,h2,h3⟩:=hM.2 k (by omega);unfold inDesigns at h1;first|omega|(have:=h2 (by omega);omega)|(have:=h3 (by omega);omega))
        | ((first|refine loop_next (by omega) ?_ ?_|refine (show _∧_∧SubOf _ _ _ _ _ _ from And.intro (by omega) (And.intro ?_ ?_)));(focus (((refine all_step hJ ⟨inD_iff.2 (by omega),fun _=>?_,fun _=>?_⟩<;>first|assumption|omega));done));(focus (exact zsb [] [])))
        | trace_state
    · (repeat' (first|(refine ar_isq ?_;refine zq ?_)|refine zg ?_ ?_|refine zgu ?_|refine zst ?_|refine aw_drawn (id:=7) [(0,0),(1,0),(2,0),(3,0),(4,0),(5,0),(6,0),(7,0),(8,0),(9,1),(10,0),(11,0),(12,0),(13,0),(14,0),(15,0),(16,0),(17,0),(18,0),(19,0),(20,0),(21,0),(22,0),(23,0),(24,0),(25,0),(26,0),(27,0),(28,0),(29,0)] mixed (by kernel_rfl) ?_|refine aw_drawn (id:=7) [(0,0),(1,0),(2,0),(3,0),(4,0),(5,0),(6,0),(7,0),(8,0),(9,2),(10,0),(11,0),(12,0),(13,0),(14,0),(15,0),(16,0),(17,0),(18,0),(19,0),(20,0),(21,0),(22,0),(23,0),(24,0),(25,0),(26,0),(27,0),(28,0),(29,0)] mixed (by kernel_rfl) ?_|refine aw_drawn (id:=9) [(0,0),(1,0),(2,0),(3,0),(4,0),(5,0),(6,0),(7,0),(8,0),(9,0),(10,0),(11,0),(12,0),(13,0),(14,0),(15,0),(16,0),(17,0),(18,0),(19,0),(20,1),(21,0),(22,0)] mixed (by kernel_rfl) ?_|refine zco ?_ ?_|(refine fun (hg:(_:Prop))=>?_;first|exact absurd hg (by decide)|((try replace hg:=HG.out hg);(try dsimp only at hg);(try rw [withinB_iff] at hg);(try rw [withinB_no] at hg);(try (have _h:True:=hg;clear _h hg));first|(exfalso;omega)|skip))))
      all_goals first
        | (exfalso;omega)
        | ((refine aw_ret ?_;(repeat (first|refine ret_then ?_|refine ret_block ?_));refine bq1 rfl ⟨?_,rfl⟩);exact ⟨true,rfl,⟨fun _=>⟨by omega,fun j hj=>hJ j (by omega)⟩,fun _=>rfl⟩⟩)
        | trace_state
def DoOwn (s:Sto) (a:Deed) (v:V) (H:Heap):Prop:=(doE s a=0∧v=.tup [.agg [vi (actF s a).life,.sl 5 0 0 (actF s a).items.length,.sl 2 1 0 (actF s a).prints.length],vi 0]∧H=[LB 5 Itm.enc (actF s a).items,LB 2 Prt.enc (actF s a).prints])∨(doE s a≠0∧v=.tup [noSto.enc,vi (doE s a)]∧H=[])
theorem doOwn_ret {V0:V}{e:Int}{R Rp:V→Heap→Prop}{H:Heap}(hH:H[2]?=some (.arr 3 1 (fun _=>V0))) (hp:partV true V0.cells 0 3=some V0) (hR:R (.tup [V0,vi e]) H):BodyQ Tryz.prog #[.cell 4 27,.tmp 5] R Rp .ret [(4,.ptr 3 2 0 0),(5,vi e)] H :=
  bq2c (f:=fun _=>V0) (v:=V0) (ty rfl) rfl hH Nat.one_pos hp rfl hR
theorem doOwn_ret0 {V0:V}{e:Int}{R Rp:V→Heap→Prop}{H:Heap}(hH:H[0]?=some (.arr 3 1 (fun _=>V0))) (hp:partV true V0.cells 0 3=some V0) (hR:R (.tup [V0,vi e]) H):BodyQ Tryz.prog #[.cell 4 27,.tmp 5] R Rp .ret [(4,.ptr 3 0 0 0),(5,vi e)] H :=
  bq2c (f:=fun _=>V0) (v:=V0) (ty rfl) rfl hH Nat.one_pos hp rfl hR
def storeC (s:Sto):V:=.agg [vi s.life,.sl 5 0 0 s.items.length,.sl 2 1 0 s.prints.length]
theorem doOwn_p (s:Sto) (a:Deed) (hu:u8ok a.kind):ACalls Tryz.prog 169 [s.enc,a.enc] [] (DoOwn s a) NoP:=by
  refine acalls_sub (R:=fun v H'=>∃ v' H'',SubOf 0 1 [(0,v)] H' [(0,v')] H''∧DoOwn s a v' H'') (Rp:=NoP) ?_ (fun _ _ h=>h) (fun _ _ h=>h.elim)
  refine acalls_of_aw Tryz.func169 rfl (dc rfl) ?_
  
  (repeat' (first|(refine ar_isq ?_;refine zq ?_)|(refine zbt ?_)|((refine ar_gcall0 fn60 rfl rfl [s.enc] ⟨.closed rfl,trivial⟩ (valid_p s) (dc rfl) ?_ (fun _ _ h=>h.elim);rintro _ _ (⟨hv,rfl,rfl⟩|⟨hv,rfl,rfl⟩)<;>(try rw [stoB_ren])))|(((refine ar_sub_l (env':=[(4,.ptr 3 2 0 0),(6,.ptr 4 3 0 0),(17,.ptr 4 3 0 0),(18,a.enc)]) (H':=[.arr 3 1 (fun _=>s.enc),.arr 4 1 (fun _=>a.enc),.arr 3 1 (fun _=>.agg [vi 0,vnil,vnil]),.arr 4 1 (fun _=>stoV 3 s),LB 5 Itm.enc s.items,LB 2 Prt.enc s.prints,mapE vi (pressTo s.items s.items.length)]) ?_ ?_;(focus (exact zsc [some 0,some 1,some 2,some 3,some 4,some 5,some 6] [])));refine ar_gcall (H0:=stoB 0 s (pressTo s.items s.items.length)) [3,4,5,6] [] (first:=[]) (cap:=[]) fn173 rfl rfl (xs:=[.ptr 4 0 0 0,a.enc]) ⟨.ptr rfl,.closed rfl,trivial⟩ rfl (by decide) (fun _ h=>by cases h) ⟨.inl ⟨3,_,rfl,rfl,fun _ _=>VSub.aggL ⟨.closed rfl,.sl rfl,.sl rfl,.map rfl,trivial⟩⟩,.inl ⟨4,_,rfl,rfl,fun _ _=>.closed rfl⟩,.inl ⟨5,_,rfl,rfl,fun _ _=>.closed rfl⟩,bsub_mapE rfl rfl (fun _=>rfl),trivial⟩ stoB_live (do_p s _ a hu hv (pressOk_of hv)) (dc rfl) ?_ (fun _ _ h=>h.elim);rintro _ _ (⟨he,rfl,rfl⟩|⟨he,rfl,rfl⟩)<;>try (rcases actH_cases (s:=s) (p:=pressTo s.items s.items.length) (a:=a) with hH|hH|hH<;>rw [hH]<;>first|rw [joinWI3]|rw [joinWP3]|rw [joinST3])))|refine zst ?_|refine zco ?_ ?_|exact zd|(refine fun (hg:(_:Prop))=>?_;(try replace hg:=HG.out hg);(try dsimp only at hg);(try (have _h:True:=hg;clear _h hg)))))
  · (refine aw_mono_r (env':=[(4,.ptr 3 2 0 0),(5,vi 0)]) (H':=[LB 5 Itm.enc (actF s a).items,LB 2 Prt.enc (actF s a).prints,.arr 3 1 (fun _=>storeC (actF s a))]) ?_ ?_;(focus (exact zsc [some 7,some 5,some 2] [])))
    refine aw_ret ?_;(repeat (first|refine ret_then ?_|refine ret_block ?_));refine doOwn_ret rfl rfl ⟨_,_,?_,.inl ⟨(doE_ok hv).trans he,rfl,rfl⟩⟩
    (exact zsc [some 0,some 1] [])
  · (refine aw_mono_r (env':=[(4,.ptr 3 2 0 0),(5,vi 0)]) (H':=[LB 5 Itm.enc (actF s a).items,LB 2 Prt.enc (actF s a).prints,.arr 3 1 (fun _=>storeC (actF s a))]) ?_ ?_;(focus (exact zsc [some 4,some 7,some 2] [])))
    refine aw_ret ?_;(repeat (first|refine ret_then ?_|refine ret_block ?_));refine doOwn_ret rfl rfl ⟨_,_,?_,.inl ⟨(doE_ok hv).trans he,rfl,rfl⟩⟩
    (exact zsc [some 0,some 1] [])
  · (refine aw_mono_r (env':=[(4,.ptr 3 2 0 0),(5,vi 0)]) (H':=[LB 5 Itm.enc (actF s a).items,LB 2 Prt.enc (actF s a).prints,.arr 3 1 (fun _=>storeC (actF s a))]) ?_ ?_;(focus (exact zsc [some 4,some 5,some 2] [])))
    refine aw_ret ?_;(repeat (first|refine ret_then ?_|refine ret_block ?_));refine doOwn_ret rfl rfl ⟨_,_,?_,.inl ⟨(doE_ok hv).trans he,rfl,rfl⟩⟩
    (exact zsc [some 0,some 1] [])
  · (refine aw_mono_r (env':=[(4,.ptr 3 0 0 0),(5,vi (actE s a))]) (H':=[.arr 3 1 (fun _=>noSto.enc)]) ?_ ?_;(focus (exact zsc [some 2] [])))
    refine aw_ret ?_;(repeat (first|refine ret_then ?_|refine ret_block ?_));refine doOwn_ret0 rfl rfl ⟨_,_,?_,.inr ⟨by rw [doE_ok hv];exact he,rfl,rfl⟩⟩
    rw [doE_ok hv]
    (exact zsb [] [])
  · (refine aw_mono_r (env':=[(4,.ptr 3 0 0 0),(5,vi 80)]) (H':=[.arr 3 1 (fun _=>noSto.enc)]) ?_ ?_;(focus (exact zsc [some 2] [])))
    refine aw_ret ?_;(repeat (first|refine ret_then ?_|refine ret_block ?_));refine doOwn_ret0 rfl rfl ⟨_,_,?_,.inr ⟨by rw [doE_bad hv];decide,rfl,rfl⟩⟩
    rw [doE_bad hv]
    (exact zsb [] [])
def sv (i j:Nat) (s:Sto):V:=.agg [vi s.life,.sl 5 i 0 s.items.length,.sl 2 j 0 s.prints.length]
def svH (s:Sto):Heap:=[LB 5 Itm.enc s.items,LB 2 Prt.enc s.prints]
def zeroV:V:=.agg [vi 0,vnil,vnil]
theorem copied8_p (s:Sto) (h1:s.items.length≤500) (h2:s.prints.length≤500):ACalls Tryz.prog 161 [s.enc] [] (fun v H=>v=sv 0 1 s∧H=[LB 5 Itm.enc s.items,LB 2 Prt.enc s.prints,.arr 3 1 (fun _=>sv 0 1 s)]) NoP:=by
  refine acalls_of_aw Tryz.func161 rfl (dc rfl) ?_;refine aw_post ?_
  (repeat' (first|(refine ar_isq ?_;refine zq ?_)|refine zst ?_|refine zco ?_ ?_|exact zd|(refine fun (hg:(_:Prop))=>?_;(try replace hg:=HG.out hg);(try dsimp only at hg);(try (have _h:True:=hg;clear _h hg)))))
  refine aw_ret ?_
  (refine subq_r [(2,.ptr 3 2 0 0)] [LB 5 Itm.enc s.items,LB 2 Prt.enc s.prints,.arr 3 1 (fun _=>sv 0 1 s)] ?_ ?_;(focus ((refine sub_to [some 2,some 3,some 1] [] rfl ?_ ?_<;>(repeat' (first|exact trivial|refine ⟨⟨_,rfl,?_⟩,?_⟩|refine vs1 ?_ ?_|refine vs2 ?_ ?_|refine vs3 ?_|refine vs4 ?_ ?_|refine ⟨.inl ⟨_,_,rfl,rfl,?_⟩,?_⟩|exact ⟨.inr ⟨rfl,rfl⟩,trivial⟩|refine ⟨.inr ⟨rfl,rfl⟩,?_⟩|(intro _ _)|exact vz1|(first|refine ⟨bsub_len (L:=s.items) rfl rfl (by omega) (fun i _=>(appF_ge (Nat.zero_le _)).trans (by rw [Nat.sub_zero])) (fun _=>rfl),?_⟩|refine ⟨bsub_len (L:=s.prints) rfl rfl (by omega) (fun i _=>(appF_ge (Nat.zero_le _)).trans (by rw [Nat.sub_zero])) (fun _=>rfl),?_⟩|exact VSub.aggL ⟨.closed rfl,slEq rfl (by simp),slEq rfl (by simp),trivial⟩)|exact vz2|fail)));done)))
  exact bq1c (f:=fun _=>sv 0 1 s) (v:=sv 0 1 s) (ty rfl) rfl rfl Nat.one_pos rfl ⟨rfl,rfl⟩
theorem here8_p (s:Sto) (i:Int) (h1:s.items.length≤500):ACalls Tryz.prog 163 [sv 0 1 s,vi i] (svH s) (fun v H=>v=vb (decide (hereB s i))∧H=svH s) NoP:=by
  refine acalls_of_aw Tryz.func163 rfl (dc rfl) ?_;refine aw_post ?_
  (repeat' (first|(refine ar_isq ?_;refine zq ?_)|refine zil (j:=i.toNat) ?_|refine zis (j:=i.toNat) ?_|refine zit (j:=i.toNat) ?_|(refine zpv fn141 (within8_p _ _ _) ?_)|refine zg ?_ ?_|refine zgu ?_|refine zst ?_|refine zco ?_ ?_|(refine fun (hg:(_:Prop))=>?_;first|exact absurd hg (by decide)|((try replace hg:=HG.out hg);(try dsimp only at hg);(try rw [withinB_iff] at hg);(try rw [withinB_no] at hg);(try (have _h:True:=hg;clear _h hg));first|(exfalso;omega)|skip))))
  · refine aw_ret ?_
    (refine subq_r [(4,vb (!(el s.items i.toNat).gone))] [LB 5 Itm.enc s.items,LB 2 Prt.enc s.prints] ?_ ?_;(focus (exact zsb [some 0,some 1] [])))
    refine bq1 rfl ⟨congrArg vb ?_,rfl⟩
    cases hg:(el s.items i.toNat).gone
    · exact (decide_eq_true (show hereB s i from ⟨by omega,hg⟩)).symm
    · exact (decide_eq_false (fun h:hereB s i=>by have:=h.2;rw [hg] at this;cases this)).symm
  · refine aw_ret ?_
    (refine subq_r [(4,vb false)] [LB 5 Itm.enc s.items,LB 2 Prt.enc s.prints] ?_ ?_;(focus (exact zsb [some 0,some 1] [])))
    refine bq1 rfl ⟨congrArg vb (decide_eq_false (fun h:hereB s i=>?_)).symm,rfl⟩
    have:=h.1
    omega
theorem any_yes {α:Type}[Inhabited α] {l:List α}{p:α→Bool}{i:Nat}(hi:i<l.length) (h:p (el l i)=true):l.any p=true:=by
  refine List.any_eq_true.2 ⟨l[i],List.getElem_mem hi,?_⟩
  rwa [show el l i=l[i] by simp [el,hi]] at h
theorem any_no {α:Type}[Inhabited α] {l:List α}{p:α→Bool}(h:∀ i,i<l.length→p (el l i)=false):l.any p=false:=by
  refine List.any_eq_false.2 fun x hx=>?_
  obtain ⟨i,hi,rfl⟩:=List.mem_iff_getElem.1 hx
  have:=h i hi
  rw [show el l i=l[i] by simp [el,hi]] at this
  rw [this]
  decide
theorem spend8_p (s:Sto) (first n st:Int) (hV:Valid s):ACalls Tryz.prog 162 [sv 0 1 s,vi first,vi n,vu8 st] (svH s)
    (fun v H=>(spendE s first n=0∧v=.tup [sv 0 1 (spendF s first n st),vi 0]∧H=[LB 5 Itm.enc s.items,LB 2 Prt.enc (spendF s first n st).prints,.arr 3 1 (fun _=>sv 0 1 (spendF s first n st))])∨(spendE s first n≠0∧v=.tup [zeroV,vi (spendE s first n)]∧H=[.dead,.dead,.arr 3 1 (fun _=>zeroV)])) NoP:=by
  have hfew:=hV.1
  unfold Few at hfew
  have e2:¬ (1≤n∧n≤400)→spendE s first n=2:=fun h=>by unfold spendE;rw [if_neg h]
  have e6:(1≤n∧n≤400)→¬ (0≤first∧first≤(s.prints.length:Int)-n)→spendE s first n=6:=fun h h2=>by unfold spendE;rw [if_pos h,if_neg h2]
  have e83:(1≤n∧n≤400)→(0≤first∧first≤(s.prints.length:Int)-n)→(cutP s first n).any spentB=true→spendE s first n=83:=fun h h2 h3=>by unfold spendE;rw [if_pos h,if_pos h2,if_pos h3]
  have e0:(1≤n∧n≤400)→(0≤first∧first≤(s.prints.length:Int)-n)→(cutP s first n).any spentB=false→spendE s first n=0:=fun h h2 h3=>by unfold spendE;rw [if_pos h,if_pos h2,if_neg (by rw [h3];decide)]
  have hcl:(1≤n∧n≤400)→(0≤first∧first≤(s.prints.length:Int)-n)→(cutP s first n).length=n.toNat:=fun h h2=>by unfold cutP;rw [List.length_take,List.length_drop];omega
  have hce:∀ k,k<n.toNat→el (cutP s first n) k=el s.prints (first.toNat+k):=fun k hk=>by unfold cutP;rw [el_take hk,el_drop]
  
  refine acalls_of_aw Tryz.func162 rfl (dc rfl) ?_;refine aw_post ?_
  (repeat' (first|(refine ar_isq ?_;refine zq ?_)|(refine zbt ?_)|(refine zpv fn141 (within8_p _ _ _) ?_)|refine zst ?_|refine zco ?_ ?_|(refine fun (hg:(_:Prop))=>?_;first|exact absurd hg (by decide)|((try replace hg:=HG.out hg);(try dsimp only at hg);(try rw [withinB_iff] at hg);(try rw [withinB_no] at hg);(try (have _h:True:=hg;clear _h hg));first|(exfalso;omega)|skip))))
  · refine aw_ret ?_;(repeat (first|refine ret_then ?_|refine ret_block ?_))
    (refine subq_r [(8,.ptr 3 2 0 0),(9,vi 2)] [.dead,.dead,.arr 3 1 (fun _=>zeroV)] ?_ ?_;(focus (exact zsc [some 0,some 1,some 3] [])))
    exact bq2c (f:=fun _=>zeroV) (v:=zeroV) (ty rfl) rfl rfl Nat.one_pos rfl rfl (.inr ⟨by rw [e2 (by omega)];decide,by rw [e2 (by omega)],rfl⟩)
  · refine aw_ret ?_;(repeat (first|refine ret_then ?_|refine ret_block ?_))
    (refine subq_r [(8,.ptr 3 2 0 0),(9,vi 6)] [.dead,.dead,.arr 3 1 (fun _=>zeroV)] ?_ ?_;(focus (exact zsc [some 0,some 1,some 3] [])))
    exact bq2c (f:=fun _=>zeroV) (v:=zeroV) (ty rfl) rfl rfl Nat.one_pos rfl rfl (.inr ⟨by rw [e6 (by omega) (by omega)];decide,by rw [e6 (by omega) (by omega)],rfl⟩)
  refine aw_for n.toNat (fun k=>∀ j,j<k→spentB (el (cutP s first n) j)=false) (fun k=>[(1,vi first),(2,vi n),(3,vu8 st),(4,.ptr 3 2 0 0),(8,.ptr 3 3 0 0),(10,vi (first+k))]) (fun k=>[LB 5 Itm.enc s.items,.arr 2 s.prints.length (fun j=>(stateAt s.prints first.toNat k st j).enc),.arr 3 1 (fun _=>sv 0 1 s),.arr 3 1 (fun _=>zeroV)]) (fun j hj=>by omega) ?_ ?_
  · (refine sub_to [some 0,some 1,some 2,some 3] [] rfl ?_ ?_<;>(repeat' (first|exact trivial|refine ⟨⟨_,rfl,?_⟩,?_⟩|refine vs1 ?_ ?_|refine vs2 ?_ ?_|refine vs3 ?_|refine vs4 ?_ ?_|refine ⟨.inl ⟨_,_,rfl,rfl,?_⟩,?_⟩|exact ⟨.inr ⟨rfl,rfl⟩,trivial⟩|refine ⟨.inr ⟨rfl,rfl⟩,?_⟩|(intro _ _)|exact vz1|(first|exact siEq (by omega)|exact VSub.of_eq (congrArg Prt.enc (state_zero _ _ _ _).symm) rfl|exact VSub.aggL ⟨.closed rfl,.sl rfl,.sl rfl,trivial⟩)|exact vz2|fail)))
  intro k hk hJ
  by_cases hlt:k<n.toNat
  · have hst:stateAt s.prints first.toNat k st (first.toNat+k)=el s.prints (first.toNat+k):=by unfold stateAt;rw [if_neg (by omega)]
    (repeat' (first|(refine ar_isq ?_;refine zq ?_)|refine zil (j:=first.toNat+k) ?_|refine zis (j:=first.toNat+k) ?_|refine zit (j:=first.toNat+k) ?_|(refine zbt ?_)|refine zst ?_|refine zco ?_ ?_|(refine fun (hg:(_:Prop))=>?_;first|exact absurd hg (by decide)|((try replace hg:=HG.out hg);(try dsimp only at hg);(try rw [withinB_iff] at hg);(try rw [withinB_no] at hg);(try (have _h:True:=hg;clear _h hg));first|(exfalso;omega)|skip))))
    · have hbad:=hg
      rw [hst] at hbad
      have ha:(cutP s first n).any spentB=true:=any_yes (i:=k) (by rw [hcl (by omega) (by omega)];exact hlt) (by rw [hce k hlt];unfold spentB;rw [decide_eq_false hbad];rfl)
      refine aw_ret ?_;(repeat (first|refine ret_then ?_|refine ret_block ?_))
      (refine subq_r [(8,.ptr 3 2 0 0),(9,vi 83)] [.dead,.dead,.arr 3 1 (fun _=>zeroV)] ?_ ?_;(focus (exact zsc [some 0,some 1,some 3] [])))
      exact bq2c (f:=fun _=>zeroV) (v:=zeroV) (ty rfl) rfl rfl Nat.one_pos rfl rfl (.inr ⟨by rw [e83 (by omega) (by omega) ha];decide,by rw [e83 (by omega) (by omega) ha],rfl⟩)
    · have hok:=hg
      rw [hst] at hok
      ((first|refine loop_next (by omega) ?_ ?_|refine (show _∧_∧SubOf _ _ _ _ _ _ from And.intro (by omega) (And.intro ?_ ?_)));(focus (((refine all_step hJ ?_;rw [hce k hlt];unfold spentB;rw [decide_eq_true hok];rfl));done));(focus ((refine sub_to [some 0,some 1,some 2,some 3] [] rfl ?_ ?_<;>(repeat' (first|exact trivial|refine ⟨⟨_,rfl,?_⟩,?_⟩|refine vs1 ?_ ?_|refine vs2 ?_ ?_|refine vs3 ?_|refine vs4 ?_ ?_|refine ⟨.inl ⟨_,_,rfl,rfl,?_⟩,?_⟩|exact ⟨.inr ⟨rfl,rfl⟩,trivial⟩|refine ⟨.inr ⟨rfl,rfl⟩,?_⟩|(intro _ _)|exact vz1|(first|exact siEq (by omega)|exact state_sub (by rw [hst];rfl)|exact VSub.aggL ⟨.closed rfl,.sl rfl,.sl rfl,trivial⟩)|exact vz2|fail)));done)))
  · obtain rfl:k=n.toNat:=by omega
    (repeat' (first|(refine ar_isq ?_;refine zq ?_)|(refine zbt ?_)|refine zst ?_|refine zco ?_ ?_|(refine fun (hg:(_:Prop))=>?_;first|exact absurd hg (by decide)|((try replace hg:=HG.out hg);(try dsimp only at hg);(try rw [withinB_iff] at hg);(try rw [withinB_no] at hg);(try (have _h:True:=hg;clear _h hg));first|(exfalso;omega)|skip))))
    have ha:(cutP s first n).any spentB=false:=any_no fun i hi=>hJ i (by rw [hcl (by omega) (by omega)] at hi;exact hi)
    refine aw_ret ?_;(repeat (first|refine ret_then ?_|refine ret_block ?_))
    (refine subq_r [(8,.ptr 3 2 0 0),(9,vi 0)] [LB 5 Itm.enc s.items,LB 2 Prt.enc (spendF s first n st).prints,.arr 3 1 (fun _=>sv 0 1 (spendF s first n st))] ?_ ?_;(focus ((refine sub_to [some 0,some 1,some 3] [] rfl ?_ ?_<;>(repeat' (first|exact trivial|refine ⟨⟨_,rfl,?_⟩,?_⟩|refine vs1 ?_ ?_|refine vs2 ?_ ?_|refine vs3 ?_|refine vs4 ?_ ?_|refine ⟨.inl ⟨_,_,rfl,rfl,?_⟩,?_⟩|exact ⟨.inr ⟨rfl,rfl⟩,trivial⟩|refine ⟨.inr ⟨rfl,rfl⟩,?_⟩|(intro _ _)|exact vz1|(first|refine ⟨bsub_len rfl rfl (spendF_len _ _ _ _) (fun j hj=>by rw [spendF_el hj]) (fun _=>rfl),?_⟩|exact VSub.aggL ⟨.closed rfl,.sl rfl,slEq rfl (spendF_len _ _ _ _).symm,trivial⟩)|exact vz2|fail)));done)))
    exact bq2c (f:=fun _=>sv 0 1 (spendF s first n st)) (v:=sv 0 1 (spendF s first n st)) (ty rfl) rfl rfl Nat.one_pos rfl rfl (.inl ⟨e0 (by omega) (by omega) ha,rfl,rfl⟩)
theorem bsub_app1 {α:Type}[Inhabited α] {H:Heap}{σ:List (Option Nat)}{fr:Nat→Prop}{k b sz n:Nat}{e:α→V}{l:List α}{x:α}{f g:Nat→V}(h:σ[k]?=some (some b)) (hb:H[b]?=some (.arr sz (n+1) (appF n f g))) (hn:l.length=n) (hf:∀ i,i<n→f i=e (el l i)) (hc:∀ y,(e y).closed=true) (hv:g 0=e x):BSub H σ fr k (LB sz e (l++[x])):=by
  refine bsub_app h hb hn rfl hf hc fun j hj=>?_
  obtain rfl:j=0:=by simpa using hj
  exact .of_eq hv (hc _)
theorem transfer8_p (s:Sto) (i:Int) (hV:Valid s) (hh:hereB s i):ACalls Tryz.prog 164 [sv 0 1 s,vi i] (svH s)
    (fun v H=>(transE s i=0∧v=.tup [sv 3 1 (transF s i),vi 0]∧H=[.dead,LB 2 Prt.enc s.prints,.arr 3 1 (fun _=>sv 3 1 (transF s i)),LB 5 Itm.enc (transF s i).items])∨(transE s i≠0∧v=.tup [zeroV,vi (transE s i)]∧H=[.dead,.dead,.arr 3 1 (fun _=>zeroV)])) NoP:=by
  have hfew:=hV.1
  unfold Few at hfew
  have hn:=hfew.2.1
  have hlt:i.toNat<s.items.length:=by unfold hereB at hh;omega
  have h0:=hh.1
  have hm:=hV.2.1 i.toNat hlt
  unfold Made at hm
  have hu:=hV.2.2.2.2 i.toNat hlt
  have hul:=usedI_bnd s.items i.toNat s.items.length
  have hup:=usedP_bnd s.prints i.toNat s.prints.length
  have hu1:=hu.1
  unfold usedS at hu1
  have e2:(el s.items i.toNat).kind=3∨(el s.items i.toNat).place≠1→transE s i=2:=fun h=>by unfold transE;rw [if_pos hh,if_pos h]
  have e81:¬ ((el s.items i.toNat).kind=3∨(el s.items i.toNat).place≠1)→(el s.items i.toNat).uses=10→transE s i=81:=fun h h2=>by unfold transE;rw [if_pos hh,if_neg h,if_pos h2]
  have e9:¬ ((el s.items i.toNat).kind=3∨(el s.items i.toNat).place≠1)→¬ (el s.items i.toNat).uses=10→s.items.length=30→transE s i=9:=fun h h2 h3=>by unfold transE;rw [if_pos hh,if_neg h,if_neg h2,if_pos h3]
  have e0:¬ ((el s.items i.toNat).kind=3∨(el s.items i.toNat).place≠1)→¬ (el s.items i.toNat).uses=10→¬ s.items.length=30→transE s i=0:=fun h h2 h3=>by unfold transE;rw [if_pos hh,if_neg h,if_neg h2,if_neg h3]
  have bad:∀ e:Int,transE s i=e→e≠0→(transE s i=0∧V.tup [zeroV,vi e]=.tup [sv 3 1 (transF s i),vi 0]∧([.dead,.dead,.arr 3 1 (fun _=>zeroV)]:Heap)=[.dead,LB 2 Prt.enc s.prints,.arr 3 1 (fun _=>sv 3 1 (transF s i)),LB 5 Itm.enc (transF s i).items])∨(transE s i≠0∧V.tup [zeroV,vi e]=.tup [zeroV,vi (transE s i)]∧([.dead,.dead,.arr 3 1 (fun _=>zeroV)]:Heap)=[.dead,.dead,.arr 3 1 (fun _=>zeroV)]):=fun e h h0=>.inr ⟨by rw [h];exact h0,by rw [h],rfl⟩
  
  refine acalls_of_aw Tryz.func164 rfl (dc rfl) ?_;refine aw_post ?_
  (repeat' (first|(refine ar_isq ?_;refine zq ?_)|refine zil (j:=i.toNat) ?_|refine zis (j:=i.toNat) ?_|refine zit (j:=i.toNat) ?_|(refine zbt ?_)|refine zg ?_ ?_|refine zgu ?_|refine zst ?_|refine zco ?_ ?_|exact zd|(refine fun (hg:(_:Prop))=>?_;(try replace hg:=HG.out hg);(try dsimp only at hg);(try (have _h:True:=hg;clear _h hg)))))
  · refine aw_ret ?_;(repeat (first|refine ret_then ?_|refine ret_block ?_))
    (refine subq_r [(4,.ptr 3 2 0 0),(5,vi 2)] [.dead,.dead,.arr 3 1 (fun _=>zeroV)] ?_ ?_;(focus (exact zsc [some 0,some 1,some 3] [])))
    exact bq2c (f:=fun _=>zeroV) (v:=zeroV) (ty rfl) rfl rfl Nat.one_pos rfl rfl (bad 2 (e2 (by omega)) (by decide))
  · refine aw_ret ?_;(repeat (first|refine ret_then ?_|refine ret_block ?_))
    (refine subq_r [(4,.ptr 3 2 0 0),(5,vi 81)] [.dead,.dead,.arr 3 1 (fun _=>zeroV)] ?_ ?_;(focus (exact zsc [some 0,some 1,some 3] [])))
    exact bq2c (f:=fun _=>zeroV) (v:=zeroV) (ty rfl) rfl rfl Nat.one_pos rfl rfl (bad 81 (e81 (by omega) (by omega)) (by decide))
  · refine aw_ret ?_;(repeat (first|refine ret_then ?_|refine ret_block ?_))
    (refine subq_r [(4,.ptr 3 2 0 0),(5,vi 9)] [.dead,.dead,.arr 3 1 (fun _=>zeroV)] ?_ ?_;(focus (exact zsc [some 0,some 1,some 3] [])))
    exact bq2c (f:=fun _=>zeroV) (v:=zeroV) (ty rfl) rfl rfl Nat.one_pos rfl rfl (bad 9 (e9 (by omega) (by omega) (by omega)) (by decide))
  · refine aw_ret ?_
    (refine subq_r [(4,.ptr 3 2 0 0),(5,vi 0)] [.dead,LB 2 Prt.enc s.prints,.arr 3 1 (fun _=>sv 3 1 (transF s i)),LB 5 Itm.enc (s.items.set i.toNat (used1 (el s.items i.toNat) 1)++[made1 (el s.items i.toNat) i])] ?_ ?_;(focus ((refine sub_to [some 0,some 1,some 3,some 6] [] rfl ?_ ?_<;>(repeat' (first|exact trivial|refine ⟨⟨_,rfl,?_⟩,?_⟩|refine vs1 ?_ ?_|refine vs2 ?_ ?_|refine vs3 ?_|refine vs4 ?_ ?_|refine ⟨.inl ⟨_,_,rfl,rfl,?_⟩,?_⟩|exact ⟨.inr ⟨rfl,rfl⟩,trivial⟩|refine ⟨.inr ⟨rfl,rfl⟩,?_⟩|(intro _ _)|exact vz1|(first|refine ⟨trivial,?_⟩|refine ⟨bsub_app1 rfl rfl (by simp) (fun j _=>upd_enc hlt (by exact rfl) j) (fun _=>rfl) rfl,?_⟩|exact VSub.aggL ⟨.closed rfl,slEq rfl (by simp [transF,addS,setS]),.sl rfl,trivial⟩)|exact vz2|fail)));done)))
    exact bq2c (f:=fun _=>sv 3 1 (transF s i)) (v:=sv 3 1 (transF s i)) (ty rfl) rfl rfl Nat.one_pos rfl rfl (.inl ⟨e0 (by omega) (by omega) (by omega),rfl,rfl⟩)
  · refine aw_ret ?_;(repeat (first|refine ret_then ?_|refine ret_block ?_))
    (refine subq_r [(4,.ptr 3 2 0 0),(5,vi 2)] [.dead,.dead,.arr 3 1 (fun _=>zeroV)] ?_ ?_;(focus (exact zsc [some 0,some 1,some 3] [])))
    exact bq2c (f:=fun _=>zeroV) (v:=zeroV) (ty rfl) rfl rfl Nat.one_pos rfl rfl (bad 2 (e2 (by omega)) (by decide))
def BadR (E:Int) (v:V) (H:Heap):Prop:=E≠0∧v=.tup [zeroV,vi E]∧H=[.dead,.dead,.arr 3 1 (fun _=>zeroV)]
theorem move8_p (s:Sto) (i dest:Int) (hV:Valid s) (hh:hereB s i):ACalls Tryz.prog 165 [sv 0 1 s,vi i,vi dest] (svH s)
    (fun v H=>(moveE s i dest=0∧v=.tup [sv 0 1 (moveF s i dest),vi 0]∧H=[LB 5 Itm.enc (moveF s i dest).items,LB 2 Prt.enc s.prints,.arr 3 1 (fun _=>sv 0 1 (moveF s i dest))])∨BadR (moveE s i dest) v H) NoP:=by
  have hfew:=hV.1
  unfold Few at hfew
  have hn:=hfew.2.1
  have hlt:i.toNat<s.items.length:=by unfold hereB at hh;omega
  have h0:=hh.1
  have e2:¬ (0≤dest∧dest≤9)∨(2≤dest∧(el s.items i.toNat).kind≠3)→moveE s i dest=2:=fun h=>by unfold moveE;rw [if_pos hh,if_pos h]
  have e82:¬ (¬ (0≤dest∧dest≤9)∨(2≤dest∧(el s.items i.toNat).kind≠3))→takenB s i dest→moveE s i dest=82:=fun h h2=>by unfold moveE;rw [if_pos hh,if_neg h,if_pos h2]
  have e0:¬ (¬ (0≤dest∧dest≤9)∨(2≤dest∧(el s.items i.toNat).kind≠3))→¬ takenB s i dest→moveE s i dest=0:=fun h h2=>by unfold moveE;rw [if_pos hh,if_neg h,if_neg h2]
  have bad:∀ (P0:Prop) (e:Int),moveE s i dest=e→e≠0→P0∨BadR (moveE s i dest) (.tup [zeroV,vi e]) [.dead,.dead,.arr 3 1 (fun _=>zeroV)]:=fun _ e h h0=>.inr ⟨by rw [h];exact h0,by rw [h],rfl⟩
  
  refine acalls_of_aw Tryz.func165 rfl (dc rfl) ?_;refine aw_post ?_
  (repeat' (first|(refine ar_isq ?_;refine zq ?_)|refine zil (j:=i.toNat) ?_|refine zis (j:=i.toNat) ?_|refine zit (j:=i.toNat) ?_|(refine zbt ?_)|(refine zpv fn141 (within8_p _ _ _) ?_)|refine zg ?_ ?_|refine zgu ?_|refine zst ?_|refine zco ?_ ?_|(refine fun (hg:(_:Prop))=>?_;first|exact absurd hg (by decide)|((try replace hg:=HG.out hg);(try dsimp only at hg);(try rw [withinB_iff] at hg);(try rw [withinB_no] at hg);(try (have _h:True:=hg;clear _h hg));first|(exfalso;omega)|skip))))
  all_goals try
    (refine aw_ret ?_;(repeat (first|refine ret_then ?_|refine ret_block ?_))
     (refine subq_r [(6,.ptr 3 2 0 0),(7,vi 2)] [.dead,.dead,.arr 3 1 (fun _=>zeroV)] ?_ ?_;(focus (exact zsc [some 0,some 1,some 3] [])))
     exact bq2c (f:=fun _=>zeroV) (v:=zeroV) (ty rfl) rfl rfl Nat.one_pos rfl rfl (bad _ 2 (e2 (by omega)) (by decide)))
  all_goals
    have hc:¬ (¬ (0≤dest∧dest≤9)∨(2≤dest∧(el s.items i.toNat).kind≠3)):=by omega
    refine aw_for s.items.length (fun k=>∀ j,j<k→¬ (2≤dest∧j≠i.toNat∧(el s.items j).place=dest)) (fun k=>[(1,vi i),(2,vi dest),(3,.ptr 3 2 0 0),(6,.ptr 3 3 0 0),(8,vi k)]) (fun k=>[LB 5 Itm.enc s.items,LB 2 Prt.enc s.prints,.arr 3 1 (fun _=>sv 0 1 s),.arr 3 1 (fun _=>zeroV)]) (fun j hj=>by omega) ?_ ?_
    · (exact zsc [some 0,some 1,some 2,some 3] [])
    intro k hk hJ
    by_cases hlk:k<s.items.length
    · (repeat' (first|(refine ar_isq ?_;refine zq ?_)|refine zil (j:=k) ?_|refine zis (j:=k) ?_|refine zit (j:=k) ?_|(refine zbt ?_)|refine zg ?_ ?_|refine zgu ?_|refine zst ?_|refine zco ?_ ?_|(refine fun (hg:(_:Prop))=>?_;first|exact absurd hg (by decide)|((try replace hg:=HG.out hg);(try dsimp only at hg);(try rw [withinB_iff] at hg);(try rw [withinB_no] at hg);(try (have _h:True:=hg;clear _h hg));first|(exfalso;omega)|skip))))
      all_goals first
        | (exfalso;omega)
        | (((first|refine loop_next (by omega) ?_ ?_|refine (show _∧_∧SubOf _ _ _ _ _ _ from And.intro (by omega) (And.intro ?_ ?_)));(focus (((refine all_step hJ ?_;omega));done));(focus (exact zsc [some 0,some 1,some 2,some 3] []))))
        | (have ht:takenB s i dest:=⟨by omega,fun h=>by have:=h k hlk (by omega);omega⟩
           refine aw_ret ?_;(repeat (first|refine ret_then ?_|refine ret_block ?_))
           (refine subq_r [(6,.ptr 3 2 0 0),(7,vi 82)] [.dead,.dead,.arr 3 1 (fun _=>zeroV)] ?_ ?_;(focus (exact zsc [some 0,some 1,some 3] [])))
           exact bq2c (f:=fun _=>zeroV) (v:=zeroV) (ty rfl) rfl rfl Nat.one_pos rfl rfl (bad _ 82 (e82 hc ht) (by decide)))
        | trace_state
    · obtain rfl:k=s.items.length:=by omega
      have ht:¬ takenB s i dest:=fun h=>h.2 fun j hj hne=>by have:=hJ j hj;have:=h.1;omega
      (repeat' (first|(refine ar_isq ?_;refine zq ?_)|refine zil (j:=i.toNat) ?_|refine zis (j:=i.toNat) ?_|refine zit (j:=i.toNat) ?_|(refine zbt ?_)|refine zg ?_ ?_|refine zgu ?_|refine zst ?_|refine zco ?_ ?_|(refine fun (hg:(_:Prop))=>?_;first|exact absurd hg (by decide)|((try replace hg:=HG.out hg);(try dsimp only at hg);(try rw [withinB_iff] at hg);(try rw [withinB_no] at hg);(try (have _h:True:=hg;clear _h hg));first|(exfalso;omega)|skip))))
      all_goals first
        | (exfalso;omega)
        | (refine aw_ret ?_
           (refine subq_r [(6,.ptr 3 2 0 0),(7,vi 0)] [LB 5 Itm.enc (s.items.set i.toNat (place1 (el s.items i.toNat) dest)),LB 2 Prt.enc s.prints,.arr 3 1 (fun _=>sv 0 1 (moveF s i dest))] ?_ ?_;(focus ((refine sub_to [some 0,some 1,some 3] [] rfl ?_ ?_<;>(repeat' (first|exact trivial|refine ⟨⟨_,rfl,?_⟩,?_⟩|refine vs1 ?_ ?_|refine vs2 ?_ ?_|refine vs3 ?_|refine vs4 ?_ ?_|refine ⟨.inl ⟨_,_,rfl,rfl,?_⟩,?_⟩|exact ⟨.inr ⟨rfl,rfl⟩,trivial⟩|refine ⟨.inr ⟨rfl,rfl⟩,?_⟩|(intro _ _)|exact vz1|(first|refine ⟨bsub_set (place1 (el s.items i.toNat) dest) rfl hlt rfl rfl,?_⟩|exact VSub.aggL ⟨.closed rfl,slEq rfl (by simp [moveF,setS]),.sl rfl,trivial⟩)|exact vz2|fail)));done)))
           exact bq2c (f:=fun _=>sv 0 1 (moveF s i dest)) (v:=sv 0 1 (moveF s i dest)) (ty rfl) rfl rfl Nat.one_pos rfl rfl (.inl ⟨e0 hc ht,rfl,rfl⟩))
        | trace_state
def prG (s:Sto) (i n:Int):Nat→Heap
  | 0=>[LB 5 Itm.enc (s.items.set i.toNat (used1 (el s.items i.toNat) n)),LB 2 Prt.enc s.prints,.arr 3 1 (fun _=>.agg [vi s.life,.sl 5 0 0 s.items.length,.sl 2 1 0 s.prints.length]),.arr 3 1 (fun _=>zeroV)]
  | k+1=>[LB 5 Itm.enc (s.items.set i.toNat (used1 (el s.items i.toNat) n)),.dead,.arr 3 1 (fun _=>.agg [vi s.life,.sl 5 0 0 s.items.length,.sl 2 4 0 (s.prints++List.replicate (k+1) (⟨i,0⟩:Prt)).length]),.arr 3 1 (fun _=>zeroV),LB 2 Prt.enc (s.prints++List.replicate (k+1) ⟨i,0⟩)]
theorem bsub_rep {α:Type}[Inhabited α] {H:Heap}{σ:List (Option Nat)}{fr:Nat→Prop}{q b sz N k:Nat}{e:α→V}{l:List α}{x:α}{f g:Nat→V}(h:σ[q]?=some (some b)) (hb:H[b]?=some (.arr sz (N+1) (appF N f g))) (hn:(l++List.replicate k x).length=N) (hf:∀ i,i<N→f i=e (el (l++List.replicate k x) i)) (hc:∀ y,(e y).closed=true) (hv:g 0=e x):BSub H σ fr q (LB sz e (l++List.replicate (k+1) x)):=by
  rw [List.replicate_succ',← List.append_assoc]
  exact bsub_app1 h hb hn hf hc hv
theorem print8_p (s:Sto) (i n:Int) (hV:Valid s) (hh:hereB s i):ACalls Tryz.prog 166 [sv 0 1 s,vi i,vi n] (svH s)
    (fun v H=>(printE s i n=0∧v=.tup [sv 0 3 (printF s i n),vi 0]∧H=[LB 5 Itm.enc (printF s i n).items,.dead,.arr 3 1 (fun _=>sv 0 3 (printF s i n)),LB 2 Prt.enc (printF s i n).prints])∨BadR (printE s i n) v H) NoP:=by
  have hfew:=hV.1
  unfold Few at hfew
  have hn:=hfew.2.1
  have hlt:i.toNat<s.items.length:=by unfold hereB at hh;omega
  have h0:=hh.1
  have hu:=hV.2.2.2.2 i.toNat hlt
  have hul:=usedI_bnd s.items i.toNat s.items.length
  have hup:=usedP_bnd s.prints i.toNat s.prints.length
  have hu1:=hu.1
  unfold usedS at hu1
  have e2:(el s.items i.toNat).kind≠3∨(el s.items i.toNat).place<2∨¬ (1≤n∧n≤400)→printE s i n=2:=fun h=>by unfold printE;rw [if_pos hh,if_pos h]
  have e81:¬ ((el s.items i.toNat).kind≠3∨(el s.items i.toNat).place<2∨¬ (1≤n∧n≤400))→s.life<(el s.items i.toNat).uses+n→printE s i n=81:=fun h h2=>by unfold printE;rw [if_pos hh,if_neg h,if_pos h2]
  have e9:¬ ((el s.items i.toNat).kind≠3∨(el s.items i.toNat).place<2∨¬ (1≤n∧n≤400))→¬ s.life<(el s.items i.toNat).uses+n→400<(s.prints.length:Int)+n→printE s i n=9:=fun h h2 h3=>by unfold printE;rw [if_pos hh,if_neg h,if_neg h2,if_pos h3]
  have e0:¬ ((el s.items i.toNat).kind≠3∨(el s.items i.toNat).place<2∨¬ (1≤n∧n≤400))→¬ s.life<(el s.items i.toNat).uses+n→¬ 400<(s.prints.length:Int)+n→printE s i n=0:=fun h h2 h3=>by unfold printE;rw [if_pos hh,if_neg h,if_neg h2,if_neg h3]
  have bad:∀ (P0:Prop) (e:Int),printE s i n=e→e≠0→P0∨BadR (printE s i n) (.tup [zeroV,vi e]) [.dead,.dead,.arr 3 1 (fun _=>zeroV)]:=fun _ e h h0=>.inr ⟨by rw [h];exact h0,by rw [h],rfl⟩
  
  refine acalls_of_aw Tryz.func166 rfl (dc rfl) ?_;refine aw_post ?_
  (repeat' (first|(refine ar_isq ?_;refine zq ?_)|refine zil (j:=i.toNat) ?_|refine zis (j:=i.toNat) ?_|refine zit (j:=i.toNat) ?_|(refine zbt ?_)|(refine zpv fn141 (within8_p _ _ _) ?_)|refine zg ?_ ?_|refine zgu ?_|refine zst ?_|refine aw_drawn (id:=3) [(0,0),(1,0),(2,0),(3,0),(4,0),(5,0),(6,0),(7,0),(8,0),(9,0),(10,0)] mixed (by kernel_rfl) ?_|refine aw_drawn (id:=7) [(0,0),(1,0),(2,0),(3,0),(4,0),(5,0),(6,0),(7,0),(8,0),(9,0),(10,0),(11,0),(12,0),(13,2)] mixed (by kernel_rfl) ?_|refine zco ?_ ?_|(refine fun (hg:(_:Prop))=>?_;first|exact absurd hg (by decide)|((try replace hg:=HG.out hg);(try dsimp only at hg);(try rw [withinB_iff] at hg);(try rw [withinB_no] at hg);(try (have _h:True:=hg;clear _h hg));first|(exfalso;omega)|skip))))
  all_goals try
    (refine aw_ret ?_;(repeat (first|refine ret_then ?_|refine ret_block ?_))
     (refine subq_r [(6,.ptr 3 2 0 0),(7,vi 2)] [.dead,.dead,.arr 3 1 (fun _=>zeroV)] ?_ ?_;(focus (exact zsc [some 0,some 1,some 3] [])))
     exact bq2c (f:=fun _=>zeroV) (v:=zeroV) (ty rfl) rfl rfl Nat.one_pos rfl rfl (bad _ 2 (e2 (by omega)) (by decide)))
  all_goals try
    (refine aw_ret ?_;(repeat (first|refine ret_then ?_|refine ret_block ?_))
     (refine subq_r [(6,.ptr 3 2 0 0),(7,vi 81)] [.dead,.dead,.arr 3 1 (fun _=>zeroV)] ?_ ?_;(focus (exact zsc [some 0,some 1,some 3] [])))
     exact bq2c (f:=fun _=>zeroV) (v:=zeroV) (ty rfl) rfl rfl Nat.one_pos rfl rfl (bad _ 81 (e81 (by omega) (by omega)) (by decide)))
  all_goals try
    (refine aw_ret ?_;(repeat (first|refine ret_then ?_|refine ret_block ?_))
     (refine subq_r [(6,.ptr 3 2 0 0),(7,vi 9)] [.dead,.dead,.arr 3 1 (fun _=>zeroV)] ?_ ?_;(focus (exact zsc [some 0,some 1,some 3] [])))
     exact bq2c (f:=fun _=>zeroV) (v:=zeroV) (ty rfl) rfl rfl Nat.one_pos rfl rfl (bad _ 9 (e9 (by omega) (by omega) (by omega)) (by decide)))
  have hp2:¬ ((el s.items i.toNat).kind≠3∨(el s.items i.toNat).place<2∨¬ (1≤n∧n≤400)):=by omega
  refine aw_for n.toNat (fun _=>True) (fun k=>[(1,vi i),(2,vi n),(3,.ptr 3 2 0 0),(6,.ptr 3 3 0 0),(8,vi k)]) (prG s i n) trivial ?_ ?_
  · show SubOf _ _ _ _ _ [LB 5 Itm.enc (s.items.set i.toNat (used1 (el s.items i.toNat) n)),LB 2 Prt.enc s.prints,.arr 3 1 (fun _=>.agg [vi s.life,.sl 5 0 0 s.items.length,.sl 2 1 0 s.prints.length]),.arr 3 1 (fun _=>zeroV)]
    (refine sub_to [some 0,some 1,some 2,some 3] [] rfl ?_ ?_<;>(repeat' (first|exact trivial|refine ⟨⟨_,rfl,?_⟩,?_⟩|refine vs1 ?_ ?_|refine vs2 ?_ ?_|refine vs3 ?_|refine vs4 ?_ ?_|refine ⟨.inl ⟨_,_,rfl,rfl,?_⟩,?_⟩|exact ⟨.inr ⟨rfl,rfl⟩,trivial⟩|refine ⟨.inr ⟨rfl,rfl⟩,?_⟩|(intro _ _)|exact vz1|(first|exact siEq (by omega)|refine ⟨bsub_set (used1 (el s.items i.toNat) n) rfl hlt rfl rfl,?_⟩|exact VSub.aggL ⟨.closed rfl,slEq rfl (by simp),slEq rfl (by simp),trivial⟩|exact VSub.aggL ⟨.closed rfl,.sl rfl,.sl rfl,trivial⟩|exact VSub.aggL ⟨.closed rfl,.sl rfl,slEq rfl (by simp),trivial⟩|exact VSub.aggL ⟨.closed rfl,.sl rfl,slEq rfl (by omega),trivial⟩)|exact vz2|fail)))
  intro k hk _
  have hset:(s.items.set i.toNat (used1 (el s.items i.toNat) n)).length=s.items.length:=by simp
  rcases k with _|k
  · dsimp only [prG]
    (repeat' (first|(refine ar_isq ?_;refine zq ?_)|refine zil (j:=0) ?_|refine zis (j:=0) ?_|refine zit (j:=0) ?_|(refine zbt ?_)|refine zg ?_ ?_|refine zgu ?_|refine zst ?_|refine aw_drawn (id:=3) [(0,0),(1,0),(2,0),(3,0),(4,0),(5,0),(6,0),(7,0),(8,0),(9,0),(10,0)] mixed (by kernel_rfl) ?_|refine aw_drawn (id:=7) [(0,0),(1,0),(2,0),(3,0),(4,0),(5,0),(6,0),(7,0),(8,0),(9,0),(10,0),(11,0),(12,0),(13,2)] mixed (by kernel_rfl) ?_|refine zco ?_ ?_|(refine fun (hg:(_:Prop))=>?_;first|exact absurd hg (by decide)|((try replace hg:=HG.out hg);(try dsimp only at hg);(try rw [withinB_iff] at hg);(try rw [withinB_no] at hg);(try (have _h:True:=hg;clear _h hg));first|(exfalso;omega)|skip))))
    refine loop_next (by omega) trivial ?_
    show SubOf _ _ _ _ _ [LB 5 Itm.enc (s.items.set i.toNat (used1 (el s.items i.toNat) n)),.dead,.arr 3 1 (fun _=>.agg [vi s.life,.sl 5 0 0 s.items.length,.sl 2 4 0 (s.prints++List.replicate (0+1) (⟨i,0⟩:Prt)).length]),.arr 3 1 (fun _=>zeroV),LB 2 Prt.enc (s.prints++List.replicate (0+1) ⟨i,0⟩)]
    (refine sub_to [some 0,some 1,some 2,some 3,some 5] [] rfl ?_ ?_<;>(repeat' (first|exact trivial|refine ⟨⟨_,rfl,?_⟩,?_⟩|refine vs1 ?_ ?_|refine vs2 ?_ ?_|refine vs3 ?_|refine vs4 ?_ ?_|refine ⟨.inl ⟨_,_,rfl,rfl,?_⟩,?_⟩|exact ⟨.inr ⟨rfl,rfl⟩,trivial⟩|refine ⟨.inr ⟨rfl,rfl⟩,?_⟩|(intro _ _)|exact vz1|(first|exact siEq (by omega)|refine ⟨trivial,?_⟩|refine ⟨bsub_rep rfl rfl (by simp) (fun j _=>congrArg Prt.enc (congrArg (fun l=>el l j) (List.append_nil _).symm)) (fun _=>rfl) (by exact rfl),?_⟩|exact VSub.aggL ⟨.closed rfl,slEq rfl (by first|rfl|(simp;done)|(simp;omega)),slEq rfl (by first|rfl|(simp;done)|(simp;omega)),trivial⟩)|exact vz2|fail)))
  · have hlen:(s.prints++List.replicate (k+1) (⟨i,0⟩:Prt)).length=s.prints.length+(k+1):=by simp
    dsimp only [prG]
    by_cases hlk:k+1<n.toNat
    · (repeat' (first|(refine ar_isq ?_;refine zq ?_)|refine zil (j:=0) ?_|refine zis (j:=0) ?_|refine zit (j:=0) ?_|(refine zbt ?_)|refine zg ?_ ?_|refine zgu ?_|refine zst ?_|refine aw_drawn (id:=3) [(0,0),(1,0),(2,0),(3,0),(4,0),(5,0),(6,0),(7,0),(8,0),(9,0),(10,0)] mixed (by kernel_rfl) ?_|refine aw_drawn (id:=7) [(0,0),(1,0),(2,0),(3,0),(4,0),(5,0),(6,0),(7,0),(8,0),(9,0),(10,0),(11,0),(12,0),(13,2)] mixed (by kernel_rfl) ?_|refine zco ?_ ?_|(refine fun (hg:(_:Prop))=>?_;first|exact absurd hg (by decide)|((try replace hg:=HG.out hg);(try dsimp only at hg);(try rw [withinB_iff] at hg);(try rw [withinB_no] at hg);(try (have _h:True:=hg;clear _h hg));first|(exfalso;omega)|skip))))
      refine loop_next (by omega) trivial ?_
      show SubOf _ _ _ _ _ [LB 5 Itm.enc (s.items.set i.toNat (used1 (el s.items i.toNat) n)),.dead,.arr 3 1 (fun _=>.agg [vi s.life,.sl 5 0 0 s.items.length,.sl 2 4 0 (s.prints++List.replicate (k+1+1) (⟨i,0⟩:Prt)).length]),.arr 3 1 (fun _=>zeroV),LB 2 Prt.enc (s.prints++List.replicate (k+1+1) ⟨i,0⟩)]
      (refine sub_to [some 0,some 1,some 2,some 3,some 6] [] rfl ?_ ?_<;>(repeat' (first|exact trivial|refine ⟨⟨_,rfl,?_⟩,?_⟩|refine vs1 ?_ ?_|refine vs2 ?_ ?_|refine vs3 ?_|refine vs4 ?_ ?_|refine ⟨.inl ⟨_,_,rfl,rfl,?_⟩,?_⟩|exact ⟨.inr ⟨rfl,rfl⟩,trivial⟩|refine ⟨.inr ⟨rfl,rfl⟩,?_⟩|(intro _ _)|exact vz1|(first|exact siEq (by omega)|refine ⟨trivial,?_⟩|refine ⟨bsub_rep rfl rfl (by simp) (fun _ _=>rfl) (fun _=>rfl) (by exact rfl),?_⟩|exact VSub.aggL ⟨.closed rfl,slEq rfl (by first|rfl|(simp;done)|(simp;omega)),slEq rfl (by first|rfl|(simp;done)|(simp;omega)),trivial⟩)|exact vz2|fail)))
    · have hk2:n.toNat=k+1:=by omega
      (repeat' (first|(refine ar_isq ?_;refine zq ?_)|refine zil (j:=0) ?_|refine zis (j:=0) ?_|refine zit (j:=0) ?_|(refine zbt ?_)|refine zg ?_ ?_|refine zgu ?_|refine zst ?_|refine aw_drawn (id:=3) [(0,0),(1,0),(2,0),(3,0),(4,0),(5,0),(6,0),(7,0),(8,0),(9,0),(10,0)] mixed (by kernel_rfl) ?_|refine aw_drawn (id:=7) [(0,0),(1,0),(2,0),(3,0),(4,0),(5,0),(6,0),(7,0),(8,0),(9,0),(10,0),(11,0),(12,0),(13,2)] mixed (by kernel_rfl) ?_|refine zco ?_ ?_|(refine fun (hg:(_:Prop))=>?_;first|exact absurd hg (by decide)|((try replace hg:=HG.out hg);(try dsimp only at hg);(try rw [withinB_iff] at hg);(try rw [withinB_no] at hg);(try (have _h:True:=hg;clear _h hg));first|(exfalso;omega)|skip))))
      refine aw_ret ?_
      have hF:printF s i n=⟨s.life,s.items.set i.toNat (used1 (el s.items i.toNat) n),s.prints++List.replicate (k+1) ⟨i,0⟩⟩:=by unfold printF;rw [hk2]
      rw [hF,e0 (by omega) (by omega) (by omega)]
      (refine subq_r [(6,.ptr 3 2 0 0),(7,vi 0)] [LB 5 Itm.enc (s.items.set i.toNat (used1 (el s.items i.toNat) n)),.dead,.arr 3 1 (fun _=>sv 0 3 ⟨s.life,s.items.set i.toNat (used1 (el s.items i.toNat) n),s.prints++List.replicate (k+1) ⟨i,0⟩⟩),LB 2 Prt.enc (s.prints++List.replicate (k+1) ⟨i,0⟩)] ?_ ?_;(focus (exact zsc [some 0,some 1,some 3,some 4] [])))
      exact bq2c (f:=fun _=>sv 0 3 ⟨s.life,s.items.set i.toNat (used1 (el s.items i.toNat) n),s.prints++List.replicate (k+1) ⟨i,0⟩⟩) (v:=sv 0 3 ⟨s.life,s.items.set i.toNat (used1 (el s.items i.toNat) n),s.prints++List.replicate (k+1) ⟨i,0⟩⟩) (ty rfl) rfl rfl Nat.one_pos rfl rfl (.inl ⟨rfl,rfl,rfl⟩)
theorem svH_live {s:Sto}:∀ b∈svH s,b≠.dead:=by simp [svH,LB]
theorem svH_sub {H:Heap}{s:Sto}(h3:H[3]?=some (LB 5 Itm.enc s.items)) (h4:H[4]?=some (LB 2 Prt.enc s.prints)):HSub H ([3,4].map some) (·∈([]:List Nat)) 0 (svH s) :=
  ⟨.inl ⟨3,_,rfl,h3,fun _ _=>.closed rfl⟩,.inl ⟨4,_,rfl,h4,fun _ _=>.closed rfl⟩,trivial⟩
section
variable {s:Sto}{a:Deed}
theorem actE_1 (h:a.kind=1):actE s a=engrE s:=by unfold actE;rw [h];rfl
theorem actE_2 (h:a.kind=2):actE s a=transE s a.item:=by unfold actE;rw [h];rfl
theorem actE_3 (h:a.kind=3):actE s a=moveE s a.item a.dest:=by unfold actE;rw [h];rfl
theorem actE_4 (h:a.kind=4):actE s a=printE s a.item a.n:=by unfold actE;rw [h];rfl
theorem actE_5 (h:a.kind=5):actE s a=spendE s a.item a.n:=by unfold actE;rw [h];rfl
theorem actE_6 (h:a.kind=6):actE s a=spendE s a.item a.n:=by unfold actE;rw [h];rfl
theorem actE_7 (h:a.kind=7):actE s a=destE s a.item:=by unfold actE;rw [h];rfl
theorem actE_no (h1:¬ a.kind=1) (h2:¬ a.kind=2) (h3:¬ a.kind=3) (h4:¬ a.kind=4) (h5:¬ a.kind=5) (h6:¬ a.kind=6) (h7:¬ a.kind=7):actE s a=2:=by unfold actE;rw [if_neg h1,if_neg h2,if_neg h3,if_neg h4,if_neg h5,if_neg h6,if_neg h7]
theorem actF_1 (h:a.kind=1):actF s a=addS s newDie:=by unfold actF;rw [h];rfl
theorem actF_2 (h:a.kind=2):actF s a=transF s a.item:=by unfold actF;rw [h];rfl
theorem actF_3 (h:a.kind=3):actF s a=moveF s a.item a.dest:=by unfold actF;rw [h];rfl
theorem actF_4 (h:a.kind=4):actF s a=printF s a.item a.n:=by unfold actF;rw [h];rfl
theorem actF_5 (h:a.kind=5):actF s a=spendF s a.item a.n 1:=by unfold actF;rw [h];rfl
theorem actF_6 (h:a.kind=6):actF s a=spendF s a.item a.n 2:=by unfold actF;rw [h];rfl
theorem actF_7 (h:a.kind=7):actF s a=destF s a.item:=by unfold actF;rw [h];rfl
theorem do_ok {F:Sto}(hV:Valid s) (hE:actE s a=0) (hF:actF s a=F):V.tup [F.enc,vi 0]=.tup [(doF s a).enc,vi (doE s a)]:=by rw [doF_ok ((doE_ok hV).trans hE),doE_ok hV,hE,hF]
theorem do_no {e:Int}(hV:Valid s) (hE:actE s a=e) (h0:e≠0):V.tup [noSto.enc,vi e]=.tup [(doF s a).enc,vi (doE s a)]:=by rw [doF_bad (by rw [doE_ok hV,hE];exact h0),doE_ok hV,hE]
theorem transE_no {i:Int}(h:¬ hereB s i):transE s i=6:=by unfold transE;rw [if_neg h]
theorem moveE_no {i d:Int}(h:¬ hereB s i):moveE s i d=6:=by unfold moveE;rw [if_neg h]
theorem printE_no {i d:Int}(h:¬ hereB s i):printE s i d=6:=by unfold printE;rw [if_neg h]
theorem destE_no {i:Int}(h:¬ hereB s i):destE s i=6:=by unfold destE;rw [if_neg h]
end
theorem vz1R {H:Heap}{σ:List (Option Nat)}{fr:Nat→Prop}{v x:V}(h:VSub H σ fr v x:=by first|exact .closed rfl|exact .sl rfl|exact .ptr rfl|exact .map rfl|exact .nil rfl|exact .emp rfl|exact .nilList|exact .empList|exact frzPtr' (by first|exact List.elem_iff.1 rfl|(simp;done)) rfl (by omega) rfl rfl|exact frzLB (by first|exact List.elem_iff.1 rfl|(simp;done)) rfl (fun _=>rfl) rfl|exact frz_all (by first|exact List.elem_iff.1 rfl|(simp;done)) rfl (fun _ _=>rfl) (fun _=>rfl) rfl|exact .frz (by first|exact List.elem_iff.1 rfl|(simp;done)) rfl (by omega) (fun _ _=>rfl) (fun _ _=>rfl)|exact slEq rfl (by first|(simp;done)|(simp;omega))|exact siEq (by omega)|fail):VSub H σ fr v x:=h
theorem vzaR {H:Heap}{σ:List (Option Nat)}{fr:Nat→Prop}{cs ds:List V}(h:VSubsL H σ fr cs ds:=by ((repeat' (first|exact trivial|refine ⟨?_,?_⟩|exact vz1R|fail));first|done|fail)):VSub H σ fr (.agg cs) (.agg ds):=VSub.aggL h
theorem zscR {m nt:Nat}{env env0:Env}{H H0:Heap}(σ:List (Option Nat)) (fr:List Nat) (h:(Nat.beq σ.length H0.length&&preB m σ&&injB σ&&apartB fr σ)=true:=by exact rfl) (he:EnvSub H σ (·∈fr) env env0:=by ((repeat' (first|exact trivial|refine ⟨⟨_,rfl,?_⟩,?_⟩|refine vs1 ?_ ?_|refine vs2 ?_ ?_|refine vs3 ?_|refine vs4 ?_ ?_|refine ⟨.inl ⟨_,_,rfl,rfl,?_⟩,?_⟩|exact ⟨.inr ⟨rfl,rfl⟩,trivial⟩|refine ⟨.inr ⟨rfl,rfl⟩,?_⟩|(intro _ _)|exact vz1R|refine ⟨trivial,?_⟩|refine ⟨bsub_mapE rfl rfl (fun _=>rfl),?_⟩|exact vzaR|exact vzt|exact vz2|fail));first|done|fail)) (hh:HSub H σ (·∈fr) 0 H0:=by ((repeat' (first|exact trivial|refine ⟨⟨_,rfl,?_⟩,?_⟩|refine vs1 ?_ ?_|refine vs2 ?_ ?_|refine vs3 ?_|refine vs4 ?_ ?_|refine ⟨.inl ⟨_,_,rfl,rfl,?_⟩,?_⟩|exact ⟨.inr ⟨rfl,rfl⟩,trivial⟩|refine ⟨.inr ⟨rfl,rfl⟩,?_⟩|(intro _ _)|exact vz1R|refine ⟨trivial,?_⟩|refine ⟨bsub_mapE rfl rfl (fun _=>rfl),?_⟩|exact vzaR|exact vzt|exact vz2|fail));first|done|fail)):SubOf m nt env H env0 H0:=sub_to σ fr h he hh
theorem done8_p (s:Sto) (a:Deed) (hu:u8ok a.kind) (hV:Valid s):PCalls Tryz.prog 138 [s.enc,a.enc] (·=.tup [(doF s a).enc,vi (doE s a)]):=by
  have hfew:=hV.1
  unfold Few at hfew
  have hu2:=hu
  unfold u8ok at hu2
  refine pcalls_of_aw Tryz.func138 rfl (dc rfl) ?_
  (repeat' (first|(refine ar_isq ?_;refine zq ?_)|refine zil (j:=a.item.toNat) ?_|refine zis (j:=a.item.toNat) ?_|refine zit (j:=a.item.toNat) ?_|(refine zbt ?_)|((refine ar_gcall0 fn161 rfl rfl [s.enc] ⟨.closed rfl,trivial⟩ (copied8_p s (by omega) (by omega)) (dc rfl) ?_ (fun _ _ h=>h.elim);rintro _ _ ⟨rfl,rfl⟩))|((refine ar_gcall (H0:=svH s) [3,4] [] (first:=[]) (cap:=[]) fn163 rfl rfl (xs:=[sv 0 1 s,vi a.item]) ⟨VSub.aggL ⟨.closed rfl,.sl rfl,.sl rfl,trivial⟩,.closed rfl,trivial⟩ rfl (by decide) (fun _ h=>by cases h) (svH_sub (by exact rfl) (by exact rfl)) svH_live (here8_p s a.item (by omega)) (dc rfl) ?_ (fun _ _ h=>h.elim);rintro _ _ ⟨rfl,rfl⟩))|((refine ar_gcall (H0:=svH s) [3,4] [] (first:=[]) (cap:=[]) fn162 rfl rfl (xs:=[sv 0 1 s,vi a.item,vi a.n,vu8 1]) ⟨VSub.aggL ⟨.closed rfl,.sl rfl,.sl rfl,trivial⟩,.closed rfl,.closed rfl,.closed rfl,trivial⟩ rfl (by decide) (fun _ h=>by cases h) (svH_sub (by exact rfl) (by exact rfl)) svH_live (spend8_p s a.item a.n 1 hV) (dc rfl) ?_ (fun _ _ h=>h.elim);rintro _ _ (⟨he,rfl,rfl⟩|⟨he,rfl,rfl⟩)))|((refine ar_gcall (H0:=svH s) [3,4] [] (first:=[]) (cap:=[]) fn162 rfl rfl (xs:=[sv 0 1 s,vi a.item,vi a.n,vu8 2]) ⟨VSub.aggL ⟨.closed rfl,.sl rfl,.sl rfl,trivial⟩,.closed rfl,.closed rfl,.closed rfl,trivial⟩ rfl (by decide) (fun _ h=>by cases h) (svH_sub (by exact rfl) (by exact rfl)) svH_live (spend8_p s a.item a.n 2 hV) (dc rfl) ?_ (fun _ _ h=>h.elim);rintro _ _ (⟨he,rfl,rfl⟩|⟨he,rfl,rfl⟩)))|((refine ar_gcall (H0:=svH s) [3,4] [] (first:=[]) (cap:=[]) fn164 rfl rfl (xs:=[sv 0 1 s,vi a.item]) ⟨VSub.aggL ⟨.closed rfl,.sl rfl,.sl rfl,trivial⟩,.closed rfl,trivial⟩ rfl (by decide) (fun _ h=>by cases h) (svH_sub (by exact rfl) (by exact rfl)) svH_live (transfer8_p s a.item hV (by assumption)) (dc rfl) ?_ (fun _ _ h=>h.elim);rintro _ _ (⟨he,rfl,rfl⟩|⟨he,rfl,rfl⟩)))|((refine ar_gcall (H0:=svH s) [3,4] [] (first:=[]) (cap:=[]) fn165 rfl rfl (xs:=[sv 0 1 s,vi a.item,vi a.dest]) ⟨VSub.aggL ⟨.closed rfl,.sl rfl,.sl rfl,trivial⟩,.closed rfl,.closed rfl,trivial⟩ rfl (by decide) (fun _ h=>by cases h) (svH_sub (by exact rfl) (by exact rfl)) svH_live (move8_p s a.item a.dest hV (by assumption)) (dc rfl) ?_ (fun _ _ h=>h.elim);rintro _ _ (⟨he,rfl,rfl⟩|⟨he,rfl,rfl⟩)))|((refine ar_gcall (H0:=svH s) [3,4] [] (first:=[]) (cap:=[]) fn166 rfl rfl (xs:=[sv 0 1 s,vi a.item,vi a.n]) ⟨VSub.aggL ⟨.closed rfl,.sl rfl,.sl rfl,trivial⟩,.closed rfl,.closed rfl,trivial⟩ rfl (by decide) (fun _ h=>by cases h) (svH_sub (by exact rfl) (by exact rfl)) svH_live (print8_p s a.item a.n hV (by assumption)) (dc rfl) ?_ (fun _ _ h=>h.elim);rintro _ _ (⟨he,rfl,rfl⟩|⟨he,rfl,rfl⟩)))|refine zst ?_|refine zco ?_ ?_|exact zd|(refine fun (hg:(_:Prop))=>?_;(try replace hg:=HG.out hg);(try dsimp only at hg);(try (have _h:True:=hg;clear _h hg)))))
  · (refine aw_mono_r (env':=[(4,.ptr 3 0 0 0),(5,vi (9))]) (H':=[.arr 3 1 (fun _=>noSto.enc)]) ?_ ?_;(focus (exact zsc [some 2] [])))
    refine aw_ret ?_;(repeat (first|refine ret_then ?_|refine ret_block ?_))
    exact do_ret ⟨do_no hV ((actE_1 (by assumption)).trans (by unfold engrE;rw [if_pos (by omega)])) (by decide),rfl⟩
  · (refine aw_mono_r (env':=[(4,.ptr 3 0 0 0),(5,vi 0)]) (H':=[.arr 3 1 (fun _=>sv 1 2 (addS s newDie)),LB 5 Itm.enc (s.items++[newDie]),LB 2 Prt.enc s.prints]) ?_ ?_;(focus ((refine sub_to [some 2,some 7,some 4] [] rfl ?_ ?_<;>(repeat' (first|exact trivial|refine ⟨⟨_,rfl,?_⟩,?_⟩|refine vs1 ?_ ?_|refine vs2 ?_ ?_|refine vs3 ?_|refine vs4 ?_ ?_|refine ⟨.inl ⟨_,_,rfl,rfl,?_⟩,?_⟩|exact ⟨.inr ⟨rfl,rfl⟩,trivial⟩|refine ⟨.inr ⟨rfl,rfl⟩,?_⟩|(intro _ _)|exact vz1|(first|refine ⟨bsub_app1 rfl rfl (by exact rfl) (by exact fun _ _=>rfl) (fun _=>rfl) (by exact rfl),?_⟩|exact VSub.aggL ⟨.closed rfl,slEq rfl (by first|rfl|(simp [addS,destF,setS];done)),.sl rfl,trivial⟩)|exact vz2|fail)));done)))
    (refine aw_mono_r (env':=[(4,.ptr 3 0 0 0),(5,vi 0)]) (H':=[.arr 3 1 (fun _=>(addS s newDie).enc)]) ?_ ?_;(focus (exact zsc [some 0] [1,2])))
    refine aw_ret ?_;(repeat (first|refine ret_then ?_|refine ret_block ?_))
    exact do_ret ⟨do_ok hV ((actE_1 (by assumption)).trans (by unfold engrE;rw [if_neg (by omega)])) (actF_1 (by assumption)),rfl⟩
  · (refine aw_mono_r (env':=[(4,.ptr 3 0 0 0),(5,vi 0)]) (H':=[.arr 3 1 (fun _=>(spendF s a.item a.n 1).enc)]) ?_ ?_;(focus (exact zscR [some 2] [3,4])))
    refine aw_ret ?_;(repeat (first|refine ret_then ?_|refine ret_block ?_))
    exact do_ret ⟨do_ok hV ((actE_5 (by assumption)).trans he) (actF_5 (by assumption)),rfl⟩
  · (refine aw_mono_r (env':=[(4,.ptr 3 0 0 0),(5,vi (spendE s a.item a.n))]) (H':=[.arr 3 1 (fun _=>noSto.enc)]) ?_ ?_;(focus (exact zsc [some 2] [])))
    refine aw_ret ?_;(repeat (first|refine ret_then ?_|refine ret_block ?_))
    exact do_ret ⟨do_no hV (actE_5 (by assumption)) (he),rfl⟩
  · (refine aw_mono_r (env':=[(4,.ptr 3 0 0 0),(5,vi 0)]) (H':=[.arr 3 1 (fun _=>(spendF s a.item a.n 2).enc)]) ?_ ?_;(focus (exact zscR [some 2] [3,4])))
    refine aw_ret ?_;(repeat (first|refine ret_then ?_|refine ret_block ?_))
    exact do_ret ⟨do_ok hV ((actE_6 (by assumption)).trans he) (actF_6 (by assumption)),rfl⟩
  · (refine aw_mono_r (env':=[(4,.ptr 3 0 0 0),(5,vi (spendE s a.item a.n))]) (H':=[.arr 3 1 (fun _=>noSto.enc)]) ?_ ?_;(focus (exact zsc [some 2] [])))
    refine aw_ret ?_;(repeat (first|refine ret_then ?_|refine ret_block ?_))
    exact do_ret ⟨do_no hV (actE_6 (by assumption)) (he),rfl⟩
  · (refine aw_mono_r (env':=[(4,.ptr 3 0 0 0),(5,vi (6))]) (H':=[.arr 3 1 (fun _=>noSto.enc)]) ?_ ?_;(focus (exact zsc [some 2] [])))
    refine aw_ret ?_;(repeat (first|refine ret_then ?_|refine ret_block ?_))
    exact do_ret ⟨do_no hV ((actE_2 (by assumption)).trans (transE_no (by assumption))) (by decide),rfl⟩
  · (refine aw_mono_r (env':=[(4,.ptr 3 0 0 0),(5,vi 0)]) (H':=[.arr 3 1 (fun _=>(transF s a.item).enc)]) ?_ ?_;(focus (exact zscR [some 2] [7,4])))
    refine aw_ret ?_;(repeat (first|refine ret_then ?_|refine ret_block ?_))
    exact do_ret ⟨do_ok hV ((actE_2 (by assumption)).trans he) (actF_2 (by assumption)),rfl⟩
  · (refine aw_mono_r (env':=[(4,.ptr 3 0 0 0),(5,vi (transE s a.item))]) (H':=[.arr 3 1 (fun _=>noSto.enc)]) ?_ ?_;(focus (exact zsc [some 2] [])))
    refine aw_ret ?_;(repeat (first|refine ret_then ?_|refine ret_block ?_))
    exact do_ret ⟨do_no hV (actE_2 (by assumption)) (he),rfl⟩
  · (refine aw_mono_r (env':=[(4,.ptr 3 0 0 0),(5,vi (6))]) (H':=[.arr 3 1 (fun _=>noSto.enc)]) ?_ ?_;(focus (exact zsc [some 2] [])))
    refine aw_ret ?_;(repeat (first|refine ret_then ?_|refine ret_block ?_))
    exact do_ret ⟨do_no hV ((actE_3 (by assumption)).trans (moveE_no (by assumption))) (by decide),rfl⟩
  · (refine aw_mono_r (env':=[(4,.ptr 3 0 0 0),(5,vi 0)]) (H':=[.arr 3 1 (fun _=>(moveF s a.item a.dest).enc)]) ?_ ?_;(focus (exact zscR [some 2] [3,4])))
    refine aw_ret ?_;(repeat (first|refine ret_then ?_|refine ret_block ?_))
    exact do_ret ⟨do_ok hV ((actE_3 (by assumption)).trans he) (actF_3 (by assumption)),rfl⟩
  · (refine aw_mono_r (env':=[(4,.ptr 3 0 0 0),(5,vi (moveE s a.item a.dest))]) (H':=[.arr 3 1 (fun _=>noSto.enc)]) ?_ ?_;(focus (exact zsc [some 2] [])))
    refine aw_ret ?_;(repeat (first|refine ret_then ?_|refine ret_block ?_))
    exact do_ret ⟨do_no hV (actE_3 (by assumption)) (he),rfl⟩
  · (refine aw_mono_r (env':=[(4,.ptr 3 0 0 0),(5,vi (6))]) (H':=[.arr 3 1 (fun _=>noSto.enc)]) ?_ ?_;(focus (exact zsc [some 2] [])))
    refine aw_ret ?_;(repeat (first|refine ret_then ?_|refine ret_block ?_))
    exact do_ret ⟨do_no hV ((actE_4 (by assumption)).trans (printE_no (by assumption))) (by decide),rfl⟩
  · (refine aw_mono_r (env':=[(4,.ptr 3 0 0 0),(5,vi 0)]) (H':=[.arr 3 1 (fun _=>(printF s a.item a.n).enc)]) ?_ ?_;(focus (exact zscR [some 2] [3,7])))
    refine aw_ret ?_;(repeat (first|refine ret_then ?_|refine ret_block ?_))
    exact do_ret ⟨do_ok hV ((actE_4 (by assumption)).trans he) (actF_4 (by assumption)),rfl⟩
  · (refine aw_mono_r (env':=[(4,.ptr 3 0 0 0),(5,vi (printE s a.item a.n))]) (H':=[.arr 3 1 (fun _=>noSto.enc)]) ?_ ?_;(focus (exact zsc [some 2] [])))
    refine aw_ret ?_;(repeat (first|refine ret_then ?_|refine ret_block ?_))
    exact do_ret ⟨do_no hV (actE_4 (by assumption)) (he),rfl⟩
  · (refine aw_mono_r (env':=[(4,.ptr 3 0 0 0),(5,vi (6))]) (H':=[.arr 3 1 (fun _=>noSto.enc)]) ?_ ?_;(focus (exact zsc [some 2] [])))
    refine aw_ret ?_;(repeat (first|refine ret_then ?_|refine ret_block ?_))
    exact do_ret ⟨do_no hV ((actE_7 (by assumption)).trans (destE_no (by assumption))) (by decide),rfl⟩
  · have hh:hereB s a.item:=by assumption
    have hlt:a.item.toNat<s.items.length:=by unfold hereB at hh;omega
    have h0:=hh.1
    (repeat' (first|(refine ar_isq ?_;refine zq ?_)|refine zil (j:=a.item.toNat) ?_|refine zis (j:=a.item.toNat) ?_|refine zit (j:=a.item.toNat) ?_|(refine zbt ?_)|refine zst ?_|refine zco ?_ ?_|exact zd|(refine fun (hg:(_:Prop))=>?_;(try replace hg:=HG.out hg);(try dsimp only at hg);(try (have _h:True:=hg;clear _h hg)))))
    · (refine aw_mono_r (env':=[(4,.ptr 3 0 0 0),(5,vi (2))]) (H':=[.arr 3 1 (fun _=>noSto.enc)]) ?_ ?_;(focus (exact zsc [some 2] [])))
      refine aw_ret ?_;(repeat (first|refine ret_then ?_|refine ret_block ?_))
      exact do_ret ⟨do_no hV ((actE_7 (by assumption)).trans (by unfold destE;rw [if_pos hh,if_pos (by omega)])) (by decide),rfl⟩
    · (refine aw_mono_r (env':=[(4,.ptr 3 0 0 0),(5,vi 0)]) (H':=[.arr 3 1 (fun _=>sv 1 2 (destF s a.item)),LB 5 Itm.enc (s.items.set a.item.toNat (gone1 (el s.items a.item.toNat))),LB 2 Prt.enc s.prints]) ?_ ?_;(focus ((refine sub_to [some 2,some 3,some 4] [] rfl ?_ ?_<;>(repeat' (first|exact trivial|refine ⟨⟨_,rfl,?_⟩,?_⟩|refine vs1 ?_ ?_|refine vs2 ?_ ?_|refine vs3 ?_|refine vs4 ?_ ?_|refine ⟨.inl ⟨_,_,rfl,rfl,?_⟩,?_⟩|exact ⟨.inr ⟨rfl,rfl⟩,trivial⟩|refine ⟨.inr ⟨rfl,rfl⟩,?_⟩|(intro _ _)|exact vz1|(first|refine ⟨bsub_set (gone1 (el s.items a.item.toNat)) rfl hlt rfl rfl,?_⟩|exact VSub.aggL ⟨.closed rfl,slEq rfl (by first|rfl|(simp [addS,destF,setS];done)),.sl rfl,trivial⟩)|exact vz2|fail)));done)))
      (refine aw_mono_r (env':=[(4,.ptr 3 0 0 0),(5,vi 0)]) (H':=[.arr 3 1 (fun _=>(destF s a.item).enc)]) ?_ ?_;(focus (exact zsc [some 0] [1,2])))
      refine aw_ret ?_;(repeat (first|refine ret_then ?_|refine ret_block ?_))
      exact do_ret ⟨do_ok hV ((actE_7 (by assumption)).trans (by unfold destE;rw [if_pos hh,if_neg (by omega)])) (actF_7 (by assumption)),rfl⟩
  · (refine aw_mono_r (env':=[(4,.ptr 3 0 0 0),(5,vi (2))]) (H':=[.arr 3 1 (fun _=>noSto.enc)]) ?_ ?_;(focus (exact zsc [some 2] [])))
    refine aw_ret ?_;(repeat (first|refine ret_then ?_|refine ret_block ?_))
    exact do_ret ⟨do_no hV (actE_no (by assumption) (by assumption) (by assumption) (by assumption) (by assumption) (by assumption) (by assumption)) (by decide),rfl⟩
end Go.Proofs.YtbilpbabdgfblaaGreat
namespace Go.Proofs.YtbilpbabdgfblaaGreat
theorem el_setI {α:Type}[Inhabited α] {l:List α}{i j:Nat}{x:α}(hi:i<l.length):el (l.set i x) j=if j=i then x else el l j:=by
  by_cases h:j=i
  · subst h
    simp [el,hi]
  · rw [if_neg h]
    simp [el,List.getElem?_set_ne (Ne.symm h)]
theorem made_of {l l':List Itm}{i:Nat}(hi:i<l.length) (hk:∀ j,j<l.length→(el l' j).kind=(el l j).kind∧(el l' j).src=(el l j).src) (h:Made l i):Made l' i:=by
  obtain ⟨k1,k2⟩:=hk i hi
  unfold Made at h ⊢
  rw [k1,k2]
  rcases h with h|⟨h1,h2,h3⟩
  · exact .inl h
  · exact .inr ⟨h1,h2,by rw [(hk _ (by omega)).1];exact h3⟩
theorem printed_of {l l':List Itm}{p:Prt}(hl:l.length≤l'.length) (hk:∀ j,j<l.length→(el l' j).kind=(el l j).kind) (h:Printed l p):Printed l' p:=by
  obtain ⟨h1,h2,h3⟩:=h
  exact ⟨⟨h1.1,by omega⟩,by rw [hk _ (by omega)];exact h2,h3⟩
theorem usedI_same {l l':List Itm}{q:Int}{k:Nat}(h:∀ j,j<k→(el l' j).src=(el l j).src):usedI l' q k=usedI l q k:=cntB_congr fun j hj=>by rw [h j hj]
theorem usedP_same {l l':List Prt}{q:Int}{k:Nat}(h:∀ j,j<k→(el l' j).plate=(el l j).plate):usedP l' q k=usedP l q k:=cntB_congr fun j hj=>by rw [h j hj]
theorem usedI_snoc {l:List Itm}{x:Itm}{q:Int}:usedI (l++[x]) q (l.length+1)=usedI l q l.length+(if x.src=q then 1 else 0):=by
  show usedI (l++[x]) q l.length+(if decide ((el (l++[x]) l.length).src=q)=true then 1 else 0)=_
  rw [usedI_same (l:=l) (l':=l++[x]) fun j hj=>by rw [el_app_lt hj],el_snoc]
  simp
theorem usedP_snoc {l:List Prt}{x:Prt}{q:Int}:usedP (l++[x]) q (l.length+1)=usedP l q l.length+(if x.plate=q then 1 else 0):=by
  show usedP (l++[x]) q l.length+(if decide ((el (l++[x]) l.length).plate=q)=true then 1 else 0)=_
  rw [usedP_same (l:=l) (l':=l++[x]) fun j hj=>by rw [el_app_lt hj],el_snoc]
  simp
theorem usedP_rep {l:List Prt}{x:Prt}{q:Int}:∀ n:Nat,usedP (l++List.replicate n x) q (l.length+n)=usedP l q l.length+(if x.plate=q then (n:Int) else 0)
  | 0=>by simp
  | n+1=>by
    have h:=usedP_snoc (l:=l++List.replicate n x) (x:=x) (q:=q)
    rw [List.append_assoc,← List.replicate_succ',List.length_append,List.length_replicate,usedP_rep n] at h
    rw [← Nat.add_assoc,h]
    split<;>omega
def Core (s:Sto):Prop:=Few s∧(∀ i,i<s.items.length→Made s.items i)∧(∀ i,i<s.items.length→Placed s.items i)∧∀ j,j<s.prints.length→Printed s.items (el s.prints j)
theorem core_of {s:Sto}(h:Valid s):Core s:=⟨h.1,h.2.1,h.2.2.1,h.2.2.2.1⟩
theorem valid_of {s:Sto}(h:Core s) (hu:∀ i,i<s.items.length→UsedOk s i):Valid s:=⟨h.1,h.2.1,h.2.2.1,h.2.2.2,hu⟩
theorem core_set {s:Sto}{i:Nat}{x:Itm}(hC:Core s) (hi:i<s.items.length) (hk:x.kind=(el s.items i).kind) (hs:x.src=(el s.items i).src)
    (hp:(0≤x.place∧x.place≤9)∧(x.gone=true→x.place=0)∧(2≤x.place→x.kind=3∧∀ j,j<s.items.length→j≠i→(el s.items j).place≠x.place)):Core (setS s i x):=by
  obtain ⟨h1,h2,h3,h4⟩:=hC
  have hl:(s.items.set i x).length=s.items.length:=by simp
  have ks:∀ j,j<s.items.length→(el (s.items.set i x) j).kind=(el s.items j).kind∧(el (s.items.set i x) j).src=(el s.items j).src:=fun j _=>by
    rw [el_setI hi]
    split
    · rename_i e;rw [e];exact ⟨hk,hs⟩
    · exact ⟨rfl,rfl⟩
  refine ⟨⟨h1.1,by show (s.items.set i x).length≤30;rw [hl];exact h1.2.1,h1.2.2⟩,fun j hj=>?_,fun j hj=>?_,fun j hj=>printed_of (by show _≤(s.items.set i x).length;omega) (fun k hk=>(ks k hk).1) (h4 j hj)⟩
  · have hj:j<s.items.length:=by rw [← hl];exact hj
    exact made_of hj ks (h2 j hj)
  · have hj:j<s.items.length:=by rw [← hl];exact hj
    show PlacedTo (s.items.set i x) j (s.items.set i x).length
    rw [hl]
    have hpj:=h3 j hj
    unfold Placed PlacedTo at hpj
    unfold PlacedTo
    by_cases e:j=i
    · subst e
      rw [el_setI hi,if_pos rfl]
      refine ⟨hp.1,hp.2.1,fun h=>⟨(hp.2.2 h).1,fun k hk hne=>?_⟩⟩
      rw [el_setI hi,if_neg hne]
      exact (hp.2.2 h).2 k hk hne
    · rw [el_setI hi,if_neg e]
      refine ⟨hpj.1,hpj.2.1,fun h=>⟨(hpj.2.2 h).1,fun k hk hne=>?_⟩⟩
      rw [el_setI hi]
      split
      · rename_i ek
        intro hpl
        exact (hp.2.2 (by omega)).2 j hj e hpl.symm
      · exact (hpj.2.2 h).2 k hk hne
theorem usedS_set {s:Sto}{i:Nat}{x:Itm}{q:Int}(hi:i<s.items.length) (hs:x.src=(el s.items i).src):usedS (setS s i x) q=usedS s q:=by
  unfold usedS
  show usedI (s.items.set i x) q (s.items.set i x).length+_=_
  rw [show (s.items.set i x).length=s.items.length by simp,usedI_same (l:=s.items) fun k _=>by
    rw [el_setI hi]
    split
    · rename_i e;rw [e];exact hs
    · rfl]
  rfl
theorem core_add {s:Sto}{x:Itm}(hC:Core s) (hn:s.items.length<30) (hm:(x.kind=1∧x.src=-1)∨((x.kind=2∨x.kind=3)∧(0≤x.src∧x.src<(s.items.length:Int))∧(el s.items x.src.toNat).kind=x.kind-1)) (hp:0≤x.place∧x.place<2) (hg:x.gone=false):Core (addS s x):=by
  obtain ⟨h1,h2,h3,h4⟩:=hC
  have hl:(s.items++[x]).length=s.items.length+1:=by simp
  have ks:∀ j,j<s.items.length→el (s.items++[x]) j=el s.items j:=fun j hj=>el_app_lt hj
  refine ⟨⟨h1.1,by show (s.items++[x]).length≤30;omega,h1.2.2⟩,fun j hj=>?_,fun j hj=>?_,fun j hj=>printed_of (by show _≤(s.items++[x]).length;omega) (fun k hk=>by show (el (s.items++[x]) k).kind=_;rw [ks k hk]) (h4 j hj)⟩
  · have hj:j<s.items.length+1:=by rw [← hl];exact hj
    show Made (s.items++[x]) j
    by_cases e:j=s.items.length
    · subst e
      unfold Made
      rw [el_snoc]
      rcases hm with h|⟨a,b,c⟩
      · exact .inl h
      · exact .inr ⟨a,b,by rw [ks _ (by omega)];exact c⟩
    · exact made_of (l:=s.items) (by omega) (fun k hk=>by rw [ks k hk];exact ⟨rfl,rfl⟩) (h2 j (by omega))
  · have hj:j<s.items.length+1:=by rw [← hl];exact hj
    show PlacedTo (s.items++[x]) j (s.items++[x]).length
    rw [hl]
    by_cases e:j=s.items.length
    · subst e
      unfold PlacedTo
      rw [el_snoc]
      exact ⟨by omega,fun h=>(by rw [hg] at h;cases h),fun h=>(by omega)⟩
    · have hpj:=h3 j (by omega)
      unfold Placed PlacedTo at hpj
      unfold PlacedTo
      rw [ks j (by omega)]
      refine ⟨hpj.1,hpj.2.1,fun h=>⟨(hpj.2.2 h).1,fun k hk hne=>?_⟩⟩
      by_cases ek:k=s.items.length
      · subst ek
        rw [el_snoc]
        omega
      · rw [ks k (by omega)]
        exact (hpj.2.2 h).2 k (by omega) hne
theorem usedS_add {s:Sto}{x:Itm}{q:Int}:usedS (addS s x) q=usedS s q+(if x.src=q then 1 else 0):=by
  unfold usedS
  show usedI (s.items++[x]) q (s.items++[x]).length+usedP s.prints q s.prints.length=_
  rw [show (s.items++[x]).length=s.items.length+1 by simp,usedI_snoc]
  split<;>omega
theorem add_used {s:Sto}{x:Itm}(hC:Core s) (h0:x.uses=0) (hl:1≤s.life) (hs:x.src<(s.items.length:Int)) (hm:∀ j,j<s.items.length→(el s.items j).src<(s.items.length:Int)) (hU:∀ i,i<s.items.length→(el s.items i).uses=usedS s i+(if x.src=i then 1 else 0)∧(el s.items i).uses≤mostOf s.life (el s.items i)) :
    ∀ i,i<(addS s x).items.length→UsedOk (addS s x) i:=by
  intro i hi
  have hi:i<s.items.length+1:=by
    have:(addS s x).items.length=s.items.length+1:=by simp [addS]
    omega
  unfold UsedOk
  rw [usedS_add]
  show (el (s.items++[x]) i).uses=_∧(el (s.items++[x]) i).uses≤mostOf s.life (el (s.items++[x]) i)
  by_cases e:i=s.items.length
  · subst e
    rw [el_snoc,h0,if_neg (by omega)]
    have hz:usedS s s.items.length=0:=by
      have h1:usedI s.items s.items.length s.items.length=0:=cntB_none fun j hj=>by
        have:=hm j hj
        exact decide_eq_false (by omega)
      have h2:usedP s.prints s.items.length s.prints.length=0:=cntB_none fun j hj=>by
        have:=(hC.2.2.2 j hj).1
        exact decide_eq_false (by omega)
      unfold usedS
      omega
    refine ⟨by omega,?_⟩
    unfold mostOf
    split<;>omega
  · rw [el_app_lt (by omega)]
    exact hU i (by omega)
end Go.Proofs.YtbilpbabdgfblaaGreat
