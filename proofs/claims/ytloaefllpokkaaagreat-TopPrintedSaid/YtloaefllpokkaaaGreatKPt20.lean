/- Parts of the proof: contracts of functions. No condition. -/
import Derived.Test.YtloaefllpokkaaaGreatKPt19
set_option maxHeartbeats 16000000
set_option linter.unusedSimpArgs false
set_option linter.unusedVariables false
namespace Go.Proofs.YtloaefllpokkaaaGreat
open Go.RowKit
section
variable (h:Hse) (dots:List Bool) (tol:Int)
set_option maxRecDepth 100000 in
theorem hExpert_p (hs:HSmall h) (hw:StOk h.store):PCalls Tryz.prog 14 [h.enc,encBools dots,vi tol] (·=.tup [encFnds (expF h dots tol),vi (expE h dots tol)]):=by
  (refine pcalls_know (fun I us h=>rel_len (rel_arg h (j:=1) rfl)) fun hlen1=>?_)
  have hend0:∀ e:Int,expE h dots tol=e→e≠0→V.tup [encFnds [],vi e]=.tup [encFnds (expF h dots tol),vi (expE h dots tol)]:=fun e he h0=>by rw [expF_no he h0,he]
  refine pcalls_of_aw Tryz.func14 rfl (dc rfl) ?_
  (repeat' (first|(refine ar_isq ?_;refine zq ?_)|(refine zbt ?_)|((refine ar_gcall0 fn18 rfl rfl [h.enc] ⟨.closed rfl,trivial⟩ (hvalid_p h hs hw) (dc rfl) ?_ (fun _ _ h=>h.elim);rintro _ _ (⟨hv,rfl,m,ht,rfl⟩|⟨hv,rfl,rfl⟩)<;>(try rw [shoB_ren])))|(((refine ar_subk_l (sub_frzL (t:=33) vi ([tol]) rfl rfl rfl rfl (fun _ _=>rfl) (fun _=>rfl)) ?_);refine zpv fn27 (hfrom_p _ _ [tol]) ?_))|refine ar_buildLE vi ([_]) (by exact ty rfl) (by exact rfl) (by exact ty rfl) (by exact rfl) (by exact rfl) (by exact Nat.succ_pos _) (by exact rfl) (by exact dc rfl) (by exact rfl) (by exact fun _=>⟨rfl,rfl⟩) (by exact dc rfl) ?_|refine zg ?_ ?_|refine zgu ?_|refine zst ?_|refine aw_drawn (id:=10) [(0,0),(1,0),(2,0),(3,0),(4,0),(5,0),(6,0),(7,0),(8,0),(9,0),(10,0),(11,0),(12,0),(13,0),(14,0),(15,0),(16,0),(17,0),(18,0),(19,0),(20,2)] mixed (by kernel_rfl) ?_|refine zco ?_ ?_|(refine fun (hg:(_:Prop))=>?_;first|exact absurd hg (by decide)|((try replace hg:=HG.out hg);(try dsimp only at hg);(try rw [fromB_one] at hg);(try rw [withinB_iff] at hg);(try rw [withinB_no] at hg);(try (have _h:True:=hg;clear _h hg));first|(exfalso;omega)|skip))))
  all_goals first
    | ((refine aw_mono_r (env':=[(6,encFnds []),(7,vi 100)]) (H':=[]) ?_ ?_;(focus (exact zsb [] [])));(refine aw_ret ?_;(repeat (first|refine ret_then ?_|refine ret_block ?_));refine bq2 rfl rfl ⟨?_,rfl⟩);exact hend0 100 (expE_bad hv) (by decide))
    | ((refine aw_mono_r (env':=[(6,encFnds []),(7,vi 2)]) (H':=[]) ?_ ?_;(focus (exact zsb [] [])));(refine aw_ret ?_;(repeat (first|refine ret_then ?_|refine ret_block ?_));refine bq2 rfl rfl ⟨?_,rfl⟩);exact hend0 2 (expE_arg hv (by unfold expArg;omega)) (by decide))
    | skip
  have hdl:=hv.few.1
  have hsm:=hs
  unfold HSmall at hsm
  have hmp:=hv.mades
  (refine ar_sub_l (env':=[(1,encBools dots),(2,vi tol),(8,.ptr 1 2 0 0),(10,.ptr 168 3 0 0),(37,.ptr 11 0 0 0)]) (H':=[.arr 11 1 (fun _=>.agg (hseC h++[.map 1])),mapE Tal.enc m,.arr 1 1 (fun _=>.ptr 11 0 0 0),.arr 168 1 (fun _=>seenV h 0)]) ?_ ?_;(focus ((refine sub_to [some 1,some 9,some 10,some 12] [2,3,4,5,6,7,8] rfl ?_ ?_<;>(repeat' (first|exact trivial|refine ⟨⟨_,rfl,?_⟩,?_⟩|refine vs1 ?_ ?_|refine vs2 ?_ ?_|refine vs3 ?_|refine vs4 ?_ ?_|refine ⟨.inl ⟨_,_,rfl,rfl,?_⟩,?_⟩|exact ⟨.inr ⟨rfl,rfl⟩,trivial⟩|refine ⟨.inr ⟨rfl,rfl⟩,?_⟩|(intro _ _)|exact vz1|(first|exact (VSub.ptr (b:=1) rfl:VSub _ _ _ (.ptr 11 1 0 0) (.ptr 11 0 0 0))|exact .of_eq rfl (seenV_ok h 0)|refine ⟨bsub_mapE rfl rfl (fun _=>rfl),?_⟩|exact VSub.aggL ⟨.closed rfl,.closed rfl,.closed rfl,frzLB (by first|decide|(simp;done)) rfl (fun _=>rfl) rfl,frzLB (by first|decide|(simp;done)) rfl (fun _=>rfl) rfl,frzLB (by first|decide|(simp;done)) rfl (fun _=>rfl) rfl,frzLB (by first|decide|(simp;done)) rfl (fun _=>rfl) rfl,frzLB (by first|decide|(simp;done)) rfl (fun _=>rfl) rfl,frzLB (by first|decide|(simp;done)) rfl (fun _=>rfl) rfl,frzLB (by first|decide|(simp;done)) rfl (fun _=>rfl) rfl,.map rfl,trivial⟩)|exact vz2|fail)));done)))
  refine ar_subk_l (sub_preC (t:=37) (b:=0) (c:=2) (hseC h) [.map 1] rfl rfl rfl (by omega) rfl rfl) ?_
  (refine ar_sub_l (env':=[(1,encBools dots),(2,vi tol),(8,.ref (.ref h.enc 0) 0),(10,.ptr 168 0 0 0),(37,.ref h.enc 0)]) (H':=[.arr 168 1 (fun _=>seenV h 0)]) ?_ ?_;(focus ((refine sub_to [some 3] [2] rfl ?_ ?_<;>(repeat' (first|exact trivial|refine ⟨⟨_,rfl,?_⟩,?_⟩|refine vs1 ?_ ?_|refine vs2 ?_ ?_|refine vs3 ?_|refine vs4 ?_ ?_|refine ⟨.inl ⟨_,_,rfl,rfl,?_⟩,?_⟩|exact ⟨.inr ⟨rfl,rfl⟩,trivial⟩|refine ⟨.inr ⟨rfl,rfl⟩,?_⟩|(intro _ _)|exact vz1|(first|exact frzPtr' (by simp;done) rfl Nat.one_pos rfl rfl|exact .of_eq rfl (seenV_ok h 0))|exact vz2|fail)));done)))
  (repeat' (first|(refine ar_isq ?_;refine zq ?_)|(refine zbt ?_)|(refine zpv fn28 (growths_p h) ?_)|refine zg ?_ ?_|refine zgu ?_|refine zst ?_|refine aw_drawn (id:=10) [(0,0),(1,0),(2,0),(3,0),(4,0),(5,0),(6,0),(7,0),(8,0),(9,0),(10,0),(11,0),(12,0),(13,0),(14,0),(15,0),(16,0),(17,0),(18,0),(19,0),(20,2)] mixed (by kernel_rfl) ?_|refine zco ?_ ?_|(refine fun (hg:(_:Prop))=>?_;first|exact absurd hg (by decide)|((try replace hg:=HG.out hg);(try dsimp only at hg);(try rw [fromB_one] at hg);(try rw [withinB_iff] at hg);(try rw [withinB_no] at hg);(try (have _h:True:=hg;clear _h hg));first|(exfalso;omega)|skip))))
  refine aw_rangeX (fun k=>[.arr 168 1 (fun _=>seenV h k)]) _ rfl rfl fn52 (Im.growths_iter h hv) (fun _ _=>rfl) (by decide) (fun k _=>rfl) ?maps ?start ?round ?done
  case maps=>intro k j ms;match j with|0=>simp|j+1=>simp
  case start=>(refine sub_to [some 0] [] rfl ?_ ?_<;>(repeat' (first|exact trivial|refine ⟨⟨_,rfl,?_⟩,?_⟩|refine vs1 ?_ ?_|refine vs2 ?_ ?_|refine vs3 ?_|refine vs4 ?_ ?_|refine ⟨.inl ⟨_,_,rfl,rfl,?_⟩,?_⟩|exact ⟨.inr ⟨rfl,rfl⟩,trivial⟩|refine ⟨.inr ⟨rfl,rfl⟩,?_⟩|(intro _ _)|exact vz1|(exact .of_eq rfl (seenV_ok h 0))|exact vz2|fail)))
  case round =>
    intro k lp hk
    have hpl:=(hv.store.2.2.2.1 k hk).1
    have hml:=(hv.made (el h.store.prints k).plate.toNat (by omega)).1
    unfold inDesigns at hml
    have hgr:=grow_bnd hv.per.1 k
    obtain ⟨a,ha⟩:∃ a:Nat,dsnOf h k=a:=Int.eq_ofNat_of_zero_le hml.1
    obtain ⟨g,hg2⟩:∃ g:Nat,growF h k=g:=Int.eq_ofNat_of_zero_le hgr.1
    have ha8:a<8:=by unfold dsnOf at ha;omega
    have hae:el h.made (el h.store.prints k).plate.toNat=(a:Int):=ha
    have hg21:g<21:=by omega
    rw [hg2]
    (repeat' (first|(refine ar_isq ?_;refine zq ?_)|refine zil (j:=k) ?_|refine zis (j:=k) ?_|refine zit (j:=k) ?_|refine zil (j:=(el h.store.prints k).plate.toNat) ?_|refine zis (j:=(el h.store.prints k).plate.toNat) ?_|refine zit (j:=(el h.store.prints k).plate.toNat) ?_|(refine zbt ?_)|((refine ar_re (t:=57) (v':=vi a) rfl (congrArg vi hae) ?_;refine zia (j:=a) ?_))|refine zia (j:=g) ?_|refine zg ?_ ?_|refine zgu ?_|refine zst ?_|refine aw_drawn (id:=10) [(0,0),(1,0),(2,0),(3,0),(4,0),(5,0),(6,0),(7,0),(8,0),(9,0),(10,0),(11,0),(12,0),(13,0),(14,0),(15,0),(16,0),(17,0),(18,0),(19,0),(20,2)] mixed (by kernel_rfl) ?_|refine zco ?_ ?_|(refine fun (hg:(_:Prop))=>?_;first|exact absurd hg (by decide)|((try replace hg:=HG.out hg);(try dsimp only at hg);(try rw [fromB_one] at hg);(try rw [withinB_iff] at hg);(try rw [withinB_no] at hg);(try (have _h:True:=hg;clear _h hg));first|(exfalso;omega)|skip))))
    refine (show SubOf _ _ _ _ _ _ from ?_)
    (refine sub_to [some 0] [] rfl ?_ ?_<;>(repeat' (first|exact trivial|refine ⟨⟨_,rfl,?_⟩,?_⟩|refine vs1 ?_ ?_|refine vs2 ?_ ?_|refine vs3 ?_|refine vs4 ?_ ?_|refine ⟨.inl ⟨_,_,rfl,rfl,?_⟩,?_⟩|exact ⟨.inr ⟨rfl,rfl⟩,trivial⟩|refine ⟨.inr ⟨rfl,rfl⟩,?_⟩|(intro _ _)|exact vz1|(exact .of_eq (seen_set ha hg2 ha8 hg21) (seenV_ok h _))|exact vz2|fail)))
  case done =>
    refine (show AW Tryz.prog none 0 _ _ _ _ _ from ?_)
    (refine aw_mono_r (env':=[(1,encBools dots),(2,vi tol),(8,.ref (.ref h.enc 0) 0),(10,.ref (seenV h h.store.prints.length) 0)]) (H':=[]) ?_ ?_;(focus ((refine sub_to [] [0] rfl ?_ ?_<;>(repeat' (first|exact trivial|refine ⟨⟨_,rfl,?_⟩,?_⟩|refine vs1 ?_ ?_|refine vs2 ?_ ?_|refine vs3 ?_|refine vs4 ?_ ?_|refine ⟨.inl ⟨_,_,rfl,rfl,?_⟩,?_⟩|exact ⟨.inr ⟨rfl,rfl⟩,trivial⟩|refine ⟨.inr ⟨rfl,rfl⟩,?_⟩|(intro _ _)|exact vz1|(exact frzPtr' (by simp;done) rfl Nat.one_pos (seenV_ok h _) rfl)|exact vz2|fail)));done)))
    (repeat' (first|(refine ar_isq ?_;refine zq ?_)|(refine zbt ?_)|refine zg ?_ ?_|refine zgu ?_|refine zst ?_|refine aw_drawn (id:=10) [(0,0),(1,0),(2,0),(3,0),(4,0),(5,0),(6,0),(7,0),(8,0),(9,0),(10,0),(11,0),(12,0),(13,0),(14,0),(15,0),(16,0),(17,0),(18,0),(19,0),(20,2)] mixed (by kernel_rfl) ?_|refine zco ?_ ?_|(refine fun (hg:(_:Prop))=>?_;first|exact absurd hg (by decide)|((try replace hg:=HG.out hg);(try dsimp only at hg);(try rw [fromB_one] at hg);(try rw [withinB_iff] at hg);(try rw [withinB_no] at hg);(try (have _h:True:=hg;clear _h hg));first|(exfalso;omega)|skip))))
    refine aw_for h.designs.length (fun _=>True) (fun i=>[(1,encBools dots),(2,vi tol),(8,.ref (.ref h.enc 0) 0),(10,.ref (seenV h h.store.prints.length) 0),(13,fE (fndD h dots tol i)),(65,encDsns h.designs),(66,vi h.designs.length),(67,vi i)]) (fun i=>[fB (fndD h dots tol i)]) trivial ?_ ?_
    · (refine sub_to [none] [] rfl ?_ ?_<;>(repeat' (first|exact trivial|refine ⟨⟨_,rfl,?_⟩,?_⟩|refine vs1 ?_ ?_|refine vs2 ?_ ?_|refine vs3 ?_|refine vs4 ?_ ?_|refine ⟨.inl ⟨_,_,rfl,rfl,?_⟩,?_⟩|exact ⟨.inr ⟨rfl,rfl⟩,trivial⟩|refine ⟨.inr ⟨rfl,rfl⟩,?_⟩|(intro _ _)|exact vz1|(first|exact ⟨trivial,trivial⟩|exact .closed (seenV_ok h _))|exact vz2|fail)))
    intro i hi _
    by_cases hlt:i<h.designs.length
    · have hG:=hv.designs i hlt
      obtain ⟨c1,c2,c3,c4⟩:=good_size hG
      have hi8:i<8:=by omega
      (repeat' (first|(refine ar_isq ?_;refine zq ?_)|refine zil (j:=i) ?_|refine zis (j:=i) ?_|refine zit (j:=i) ?_|(refine zbt ?_)|refine zir (j:=i) ?_|refine zlr (v:=.agg ((rowL h i).map vb)) ?_ (hv:=by exact seen_part hi8)|refine ar_q (qs_build_arr (ds:=(List.replicate 21 false).map vb) (ty rfl) rfl (ty rfl) rfl rfl (build rfl)) (dc rfl) ?_|refine ar_q (qs_arrB (l1:=rowL h i) (l2:=List.replicate 21 false) (ty rfl) rfl (ty rfl) rfl rfl (by kernel_rfl) rfl rfl (rowL_len h i) (List.length_replicate)) (dc rfl) ?_|refine zg ?_ ?_|refine zgu ?_|refine zst ?_|refine aw_drawn (id:=10) [(0,0),(1,0),(2,0),(3,0),(4,0),(5,0),(6,0),(7,0),(8,0),(9,0),(10,0),(11,0),(12,0),(13,0),(14,0),(15,0),(16,0),(17,0),(18,0),(19,0),(20,2)] mixed (by kernel_rfl) ?_|refine zco ?_ ?_|(refine fun (hg:(_:Prop))=>?_;first|exact absurd hg (by decide)|((try replace hg:=HG.out hg);(try dsimp only at hg);(try rw [fromB_one] at hg);(try rw [withinB_iff] at hg);(try rw [withinB_no] at hg);(try (have _h:True:=hg;clear _h hg));first|(exfalso;omega)|skip))))
      · refine loop_next hlt trivial ?_
        rw [fndD_none (row_none hg)]
        (refine sub_to [some 0] [] rfl ?_ ?_<;>(repeat' (first|exact trivial|refine ⟨⟨_,rfl,?_⟩,?_⟩|refine vs1 ?_ ?_|refine vs2 ?_ ?_|refine vs3 ?_|refine vs4 ?_ ?_|refine ⟨.inl ⟨_,_,rfl,rfl,?_⟩,?_⟩|exact ⟨.inr ⟨rfl,rfl⟩,trivial⟩|refine ⟨.inr ⟨rfl,rfl⟩,?_⟩|(intro _ _)|exact vz1|(first|exact vsub_fE rfl|refine ⟨bsub_fB rfl rfl,?_⟩|exact .closed (row_ok h i))|exact vz2|fail)))
      · refine aw_for 21 (fun _=>True) (fun g=>[(1,encBools dots),(2,vi tol),(8,.ref (.ref h.enc 0) 0),(10,.ref (seenV h h.store.prints.length) 0),(13,fE (fndS h dots tol i g)),(14,vi i),(65,encDsns h.designs),(66,vi h.designs.length),(67,vi i),(91,.agg ((rowL h i).map vb)),(92,vi g)]) (fun g=>[fB (fndS h dots tol i g)]) trivial ?_ ?_
        · rw [fndS_zero]
          (refine sub_to [some 0] [] rfl ?_ ?_<;>(repeat' (first|exact trivial|refine ⟨⟨_,rfl,?_⟩,?_⟩|refine vs1 ?_ ?_|refine vs2 ?_ ?_|refine vs3 ?_|refine vs4 ?_ ?_|refine ⟨.inl ⟨_,_,rfl,rfl,?_⟩,?_⟩|exact ⟨.inr ⟨rfl,rfl⟩,trivial⟩|refine ⟨.inr ⟨rfl,rfl⟩,?_⟩|(intro _ _)|exact vz1|(first|exact vsub_fE rfl|refine ⟨bsub_fB rfl rfl,?_⟩|exact .closed (row_ok h i))|exact vz2|fail)))
        intro g hg21 _
        by_cases hltg:g<21
        · have hin:inDesigns h i:=⟨by omega,by omega⟩
          have hpf:PCalls Tryz.prog 25 [.ref h.enc 0,vi i,vi g] (·=encBools (dproofF (el h.designs i) g)):=proof_p h hs hin g
          have hPl:=dproof_dots (g:=g) hG hltg (show fndSize h dots i from by assumption)
          (repeat' (first|(refine ar_isq ?_;refine zq ?_)|(refine zbt ?_)|refine zix (j:=g) (v:=vb (shownF h i g)) ?_ (hv:=by exact row_part hltg)|(refine zpv fn25 (hpf) ?_)|refine zg ?_ ?_|refine zgu ?_|refine zst ?_|refine aw_drawn (id:=10) [(0,0),(1,0),(2,0),(3,0),(4,0),(5,0),(6,0),(7,0),(8,0),(9,0),(10,0),(11,0),(12,0),(13,0),(14,0),(15,0),(16,0),(17,0),(18,0),(19,0),(20,2)] mixed (by kernel_rfl) ?_|refine zco ?_ ?_|(refine fun (hg:(_:Prop))=>?_;first|exact absurd hg (by decide)|((try replace hg:=HG.out hg);(try dsimp only at hg);(try rw [fromB_one] at hg);(try rw [withinB_iff] at hg);(try rw [withinB_no] at hg);(try (have _h:True:=hg;clear _h hg));first|(exfalso;omega)|skip))))
          · refine loop_next hltg trivial ?_
            rw [fndS_no (fun hk=>by have:=hk.1;simp_all)]
            (refine sub_to [some 0] [] rfl ?_ ?_<;>(repeat' (first|exact trivial|refine ⟨⟨_,rfl,?_⟩,?_⟩|refine vs1 ?_ ?_|refine vs2 ?_ ?_|refine vs3 ?_|refine vs4 ?_ ?_|refine ⟨.inl ⟨_,_,rfl,rfl,?_⟩,?_⟩|exact ⟨.inr ⟨rfl,rfl⟩,trivial⟩|refine ⟨.inr ⟨rfl,rfl⟩,?_⟩|(intro _ _)|exact vz1|(first|exact vsub_fE rfl|refine ⟨bsub_fB rfl rfl,?_⟩|exact .closed (row_ok h i))|exact vz2|fail)))
          · have hsh:shownF h i g=true:=by simp_all
            refine aw_for dots.length (fun _=>True) (fun k=>[(1,encBools dots),(2,vi tol),(8,.ref (.ref h.enc 0) 0),(10,.ref (seenV h h.store.prints.length) 0),(13,fE (fndS h dots tol i g)),(14,vi i),(16,vi g),(18,vi (offTo (dproofF (el h.designs i) g) dots k)),(65,encDsns h.designs),(66,vi h.designs.length),(67,vi i),(91,.agg ((rowL h i).map vb)),(92,vi g),(101,encBools (dproofF (el h.designs i) g)),(102,vi dots.length),(103,vi k)]) (fun _=>[fB (fndS h dots tol i g)]) trivial ?_ ?_
            · (refine sub_to [some 0] [] rfl ?_ ?_<;>(repeat' (first|exact trivial|refine ⟨⟨_,rfl,?_⟩,?_⟩|refine vs1 ?_ ?_|refine vs2 ?_ ?_|refine vs3 ?_|refine vs4 ?_ ?_|refine ⟨.inl ⟨_,_,rfl,rfl,?_⟩,?_⟩|exact ⟨.inr ⟨rfl,rfl⟩,trivial⟩|refine ⟨.inr ⟨rfl,rfl⟩,?_⟩|(intro _ _)|exact vz1|(first|exact vsub_fE rfl|refine ⟨bsub_fB rfl rfl,?_⟩|exact .closed (row_ok h i))|exact vz2|fail)))
            intro k hk2 _
            have hob:=offTo_bnd (dproofF (el h.designs i) g) dots k
            by_cases hltk:k<dots.length
            · (repeat' (first|(refine ar_isq ?_;refine zq ?_)|refine zil (j:=k) ?_|refine zis (j:=k) ?_|refine zit (j:=k) ?_|(refine zbt ?_)|refine zg ?_ ?_|refine zgu ?_|refine zst ?_|refine aw_drawn (id:=10) [(0,0),(1,0),(2,0),(3,0),(4,0),(5,0),(6,0),(7,0),(8,0),(9,0),(10,0),(11,0),(12,0),(13,0),(14,0),(15,0),(16,0),(17,0),(18,0),(19,0),(20,2)] mixed (by kernel_rfl) ?_|refine zco ?_ ?_|(refine fun (hg:(_:Prop))=>?_;first|exact absurd hg (by decide)|((try replace hg:=HG.out hg);(try dsimp only at hg);(try rw [fromB_one] at hg);(try rw [withinB_iff] at hg);(try rw [withinB_no] at hg);(try (have _h:True:=hg;clear _h hg));first|(exfalso;omega)|skip))))
              all_goals first
                | ((first|refine loop_next (by omega) ?_ ?_|refine (show _∧_∧SubOf _ _ _ _ _ _ from And.intro (by omega) (And.intro ?_ ?_)));(focus ((trivial);done));(focus ((refine sub_to [some 0] [] rfl ?_ ?_<;>(repeat' (first|exact trivial|refine ⟨⟨_,rfl,?_⟩,?_⟩|refine vs1 ?_ ?_|refine vs2 ?_ ?_|refine vs3 ?_|refine vs4 ?_ ?_|refine ⟨.inl ⟨_,_,rfl,rfl,?_⟩,?_⟩|exact ⟨.inr ⟨rfl,rfl⟩,trivial⟩|refine ⟨.inr ⟨rfl,rfl⟩,?_⟩|(intro _ _)|exact vz1|(first|exact siEq (offTo_yes (by simpa using hg)).symm|exact siEq (offTo_no (by simpa using hg)).symm|first|exact vsub_fE rfl|refine ⟨bsub_fB rfl rfl,?_⟩|exact .closed (row_ok h i))|exact vz2|fail)));done)))
                | trace_state
            · obtain rfl:k=dots.length:=by omega
              have hfl:=fndS_len (h:=h) (dots:=dots) (tol:=tol) i g
              by_cases h0:(fndS h dots tol i g).length=0
              · have hn:=List.eq_nil_of_length_eq_zero h0
                rw [hn]
                (repeat' (first|(refine ar_isq ?_;refine zq ?_)|(refine zbt ?_)|refine zg ?_ ?_|refine zgu ?_|refine zst ?_|refine aw_drawn (id:=10) [(0,0),(1,0),(2,0),(3,0),(4,0),(5,0),(6,0),(7,0),(8,0),(9,0),(10,0),(11,0),(12,0),(13,0),(14,0),(15,0),(16,0),(17,0),(18,0),(19,0),(20,2)] mixed (by kernel_rfl) ?_|refine zco ?_ ?_|(refine fun (hg:(_:Prop))=>?_;first|exact absurd hg (by decide)|((try replace hg:=HG.out hg);(try dsimp only at hg);(try rw [fromB_one] at hg);(try rw [withinB_iff] at hg);(try rw [withinB_no] at hg);(try (have _h:True:=hg;clear _h hg));first|(exfalso;omega)|skip))))
                all_goals first
                  | (exfalso;omega)
                  | (refine loop_next hltg trivial ?_
                     rw [fndS_yes ⟨hsh,by assumption⟩,fE_snoc,fB_snoc,hn]
                     (exact zsb [some 2] []))
                  | (refine loop_next hltg trivial ?_
                     rw [fndS_no (fun hk=>absurd hk.2 (by assumption)),hn]
                     (refine sub_to [some 0] [] rfl ?_ ?_<;>(repeat' (first|exact trivial|refine ⟨⟨_,rfl,?_⟩,?_⟩|refine vs1 ?_ ?_|refine vs2 ?_ ?_|refine vs3 ?_|refine vs4 ?_ ?_|refine ⟨.inl ⟨_,_,rfl,rfl,?_⟩,?_⟩|exact ⟨.inr ⟨rfl,rfl⟩,trivial⟩|refine ⟨.inr ⟨rfl,rfl⟩,?_⟩|(intro _ _)|exact vz1|(first|exact vsub_fE rfl|refine ⟨bsub_fB rfl rfl,?_⟩|exact .closed (row_ok h i))|exact vz2|fail))))
                  | trace_state
              · rw [fE_pos h0,fB_pos h0]
                (repeat' (first|(refine ar_isq ?_;refine zq ?_)|(refine zbt ?_)|refine zg ?_ ?_|refine zgu ?_|refine zst ?_|refine aw_drawn (id:=10) [(0,0),(1,0),(2,0),(3,0),(4,0),(5,0),(6,0),(7,0),(8,0),(9,0),(10,0),(11,0),(12,0),(13,0),(14,0),(15,0),(16,0),(17,0),(18,0),(19,0),(20,2)] mixed (by kernel_rfl) ?_|refine zco ?_ ?_|(refine fun (hg:(_:Prop))=>?_;first|exact absurd hg (by decide)|((try replace hg:=HG.out hg);(try dsimp only at hg);(try rw [fromB_one] at hg);(try rw [withinB_iff] at hg);(try rw [withinB_no] at hg);(try (have _h:True:=hg;clear _h hg));first|(exfalso;omega)|skip))))
                all_goals first
                  | (exfalso;omega)
                  | (refine loop_next hltg trivial ?_
                     rw [fndS_yes ⟨hsh,by assumption⟩,fE_snoc,fB_snoc]
                     (refine sub_to [some 2] [] rfl ?_ ?_<;>(repeat' (first|exact trivial|refine ⟨⟨_,rfl,?_⟩,?_⟩|refine vs1 ?_ ?_|refine vs2 ?_ ?_|refine vs3 ?_|refine vs4 ?_ ?_|refine ⟨.inl ⟨_,_,rfl,rfl,?_⟩,?_⟩|exact ⟨.inr ⟨rfl,rfl⟩,trivial⟩|refine ⟨.inr ⟨rfl,rfl⟩,?_⟩|(intro _ _)|exact vz1|(exact .closed (row_ok h i))|exact vz2|fail))))
                  | (refine loop_next hltg trivial ?_
                     rw [fndS_no (fun hk=>absurd hk.2 (by assumption)),fE_pos h0,fB_pos h0]
                     (refine sub_to [some 0] [] rfl ?_ ?_<;>(repeat' (first|exact trivial|refine ⟨⟨_,rfl,?_⟩,?_⟩|refine vs1 ?_ ?_|refine vs2 ?_ ?_|refine vs3 ?_|refine vs4 ?_ ?_|refine ⟨.inl ⟨_,_,rfl,rfl,?_⟩,?_⟩|exact ⟨.inr ⟨rfl,rfl⟩,trivial⟩|refine ⟨.inr ⟨rfl,rfl⟩,?_⟩|(intro _ _)|exact vz1|(exact .closed (row_ok h i))|exact vz2|fail))))
                  | trace_state
        · obtain rfl:g=21:=by omega
          (repeat' (first|(refine ar_isq ?_;refine zq ?_)|(refine zbt ?_)|refine zg ?_ ?_|refine zgu ?_|refine zst ?_|refine aw_drawn (id:=10) [(0,0),(1,0),(2,0),(3,0),(4,0),(5,0),(6,0),(7,0),(8,0),(9,0),(10,0),(11,0),(12,0),(13,0),(14,0),(15,0),(16,0),(17,0),(18,0),(19,0),(20,2)] mixed (by kernel_rfl) ?_|refine zco ?_ ?_|(refine fun (hg:(_:Prop))=>?_;first|exact absurd hg (by decide)|((try replace hg:=HG.out hg);(try dsimp only at hg);(try rw [fromB_one] at hg);(try rw [withinB_iff] at hg);(try rw [withinB_no] at hg);(try (have _h:True:=hg;clear _h hg));first|(exfalso;omega)|skip))))
          all_goals first
            | (refine loop_next hlt trivial ?_
               rw [fndD_full (by assumption)]
               (refine sub_to [some 0] [] rfl ?_ ?_<;>(repeat' (first|exact trivial|refine ⟨⟨_,rfl,?_⟩,?_⟩|refine vs1 ?_ ?_|refine vs2 ?_ ?_|refine vs3 ?_|refine vs4 ?_ ?_|refine ⟨.inl ⟨_,_,rfl,rfl,?_⟩,?_⟩|exact ⟨.inr ⟨rfl,rfl⟩,trivial⟩|refine ⟨.inr ⟨rfl,rfl⟩,?_⟩|(intro _ _)|exact vz1|(first|exact vsub_fE rfl|refine ⟨bsub_fB rfl rfl,?_⟩|exact .closed (row_ok h i))|exact vz2|fail))))
            | trace_state
      · refine loop_next hlt trivial ?_
        rw [fndD_skip (show ¬ fndSize h dots i from by assumption)]
        (refine sub_to [some 0] [] rfl ?_ ?_<;>(repeat' (first|exact trivial|refine ⟨⟨_,rfl,?_⟩,?_⟩|refine vs1 ?_ ?_|refine vs2 ?_ ?_|refine vs3 ?_|refine vs4 ?_ ?_|refine ⟨.inl ⟨_,_,rfl,rfl,?_⟩,?_⟩|exact ⟨.inr ⟨rfl,rfl⟩,trivial⟩|refine ⟨.inr ⟨rfl,rfl⟩,?_⟩|(intro _ _)|exact vz1|(first|exact vsub_fE rfl|refine ⟨bsub_fB rfl rfl,?_⟩|exact .closed (row_ok h i))|exact vz2|fail)))
    · obtain rfl:i=h.designs.length:=by omega
      have hA:expArg dots tol:=⟨by omega,by omega⟩
      by_cases h0:(fndD h dots tol h.designs.length).length=0
      · have hn:=List.eq_nil_of_length_eq_zero h0
        rw [hn]
        (repeat' (first|(refine ar_isq ?_;refine zq ?_)|(refine zbt ?_)|refine ar_q (qs_eqnil0 (ty rfl) rfl rfl rfl) (dc rfl) ?_|refine zg ?_ ?_|refine zgu ?_|refine zst ?_|refine aw_drawn (id:=10) [(0,0),(1,0),(2,0),(3,0),(4,0),(5,0),(6,0),(7,0),(8,0),(9,0),(10,0),(11,0),(12,0),(13,0),(14,0),(15,0),(16,0),(17,0),(18,0),(19,0),(20,2)] mixed (by kernel_rfl) ?_|refine zco ?_ ?_|(refine fun (hg:(_:Prop))=>?_;first|exact absurd hg (by decide)|((try replace hg:=HG.out hg);(try dsimp only at hg);(try rw [fromB_one] at hg);(try rw [withinB_iff] at hg);(try rw [withinB_no] at hg);(try (have _h:True:=hg;clear _h hg));first|(exfalso;omega)|skip))))
        all_goals first
          | (exfalso;omega)
          | ((refine aw_mono_r (env':=[(6,encFnds []),(7,vi 105)]) (H':=[]) ?_ ?_;(focus (exact zsb [] [])));(refine aw_ret ?_;(repeat (first|refine ret_then ?_|refine ret_block ?_));refine bq2 rfl rfl ⟨?_,rfl⟩);exact hend0 105 (expE_forged hv hA h0) (by decide))
          | trace_state
      · rw [fE_pos h0,fB_pos h0]
        (repeat' (first|(refine ar_isq ?_;refine zq ?_)|(refine zbt ?_)|refine ar_q (qs_eqnil1 h0 (ty rfl) rfl rfl rfl) (dc rfl) ?_|refine zg ?_ ?_|refine zgu ?_|refine zst ?_|refine aw_drawn (id:=10) [(0,0),(1,0),(2,0),(3,0),(4,0),(5,0),(6,0),(7,0),(8,0),(9,0),(10,0),(11,0),(12,0),(13,0),(14,0),(15,0),(16,0),(17,0),(18,0),(19,0),(20,2)] mixed (by kernel_rfl) ?_|refine zco ?_ ?_|(refine fun (hg:(_:Prop))=>?_;first|exact absurd hg (by decide)|((try replace hg:=HG.out hg);(try dsimp only at hg);(try rw [fromB_one] at hg);(try rw [withinB_iff] at hg);(try rw [withinB_no] at hg);(try (have _h:True:=hg;clear _h hg));first|(exfalso;omega)|skip))))
        all_goals first
          | (exfalso;omega)
          | ((refine aw_mono_r (env':=[(6,encFnds (fndD h dots tol h.designs.length)),(7,vi 0)]) (H':=[]) ?_ ?_;(focus ((refine sub_to [] [0] rfl ?_ ?_<;>(repeat' (first|exact trivial|refine ⟨⟨_,rfl,?_⟩,?_⟩|refine vs1 ?_ ?_|refine vs2 ?_ ?_|refine vs3 ?_|refine vs4 ?_ ?_|refine ⟨.inl ⟨_,_,rfl,rfl,?_⟩,?_⟩|exact ⟨.inr ⟨rfl,rfl⟩,trivial⟩|refine ⟨.inr ⟨rfl,rfl⟩,?_⟩|(intro _ _)|exact vz1|(exact frzLB (by simp;done) rfl (fun _=>rfl) rfl)|exact vz2|fail)));done)))
             (refine aw_ret ?_;(repeat (first|refine ret_then ?_|refine ret_block ?_));refine bq2 rfl rfl ⟨?_,rfl⟩)
             rw [expF_ok (expE_ok hv hA h0),expE_ok hv hA h0])
          | trace_state
end
def noAct:Deed:=⟨0,0,0,0⟩
def noSheet:Sheet:=⟨0,0,0,0,0⟩
def actJob (k i d:Int):Job:=⟨5,0,0,0,0,0,⟨k,i,d,0⟩,noSheet,[]⟩
def exEngv:Job:=⟨4,0,0,0,0,0,noAct,noSheet,[]⟩
def exGive:Job:=⟨7,0,0,0,0,0,noAct,noSheet,[]⟩
theorem jobs_u8d {bk:List Job}(h:(bk.all fun j=>decide (0≤j.kind)&&(decide (j.kind≤255)&&(decide (0≤j.act.kind)&&decide (j.act.kind≤255))))=true):∀ j,j<bk.length→u8ok (el bk j).kind∧u8ok (el bk j).act.kind:=fun j hj=>by
  have:=List.all_eq_true.1 h _ (el_mem hj)
  simp only [Bool.and_eq_true,decide_eq_true_eq] at this
  exact ⟨⟨this.1,this.2.1⟩,this.2.2.1,this.2.2.2⟩
def hV (c:Screen) (b:Bool):Int:=if b=true then c.period/2 else 0
def pPaper (w cl:Int) (d:Nat→Bool):Nat→Int × Int × Int
  | 0=>(cl,0,0)
  | r+1=>if d r=true then (if (pPaper w cl d r).2.1 % w=0 then (0,(pPaper w cl d r).2.1+1,(pPaper w cl d r).2.2+1) else ((pPaper w cl d r).1,(pPaper w cl d r).2.1+1,(pPaper w cl d r).2.2)) else ((pPaper w cl d r).1+1,0,(pPaper w cl d r).2.2)
def cntD (d:Nat→Bool):Nat→Nat
  | 0=>0
  | r+1=>cntD d r+(if d r=true then 1 else 0)
structure Col (w cl R:Int) (n:Nat) (l:Nat→Int) (d:Nat→Bool):Prop where
  hw:1≤w
  hc:0≤cl
  low:∀ i,i<n→0≤l i∧l i+w≤R
  gap:∀ i,i+1<n→l i+w+cl≤l (i+1)
  dot:∀ r:Nat,d r=true↔∃ i,i<n∧l i≤r∧(r:Int)<l i+w
theorem Col.far {w cl R:Int}{n:Nat}{l:Nat→Int}{d:Nat→Bool}(h:Col w cl R n l d):∀ (e i:Nat),i+(e+1)<n→l i+w+cl≤l (i+(e+1))
  | 0,i,hi=>h.gap i hi
  | e+1,i,hi=>by
    have h1:=h.far e i (by omega)
    have h2:=h.gap (i+(e+1)) (by omega)
    have:=h.hw
    have:=h.hc
    rw [show i+(e+1+1)=i+(e+1)+1 by omega]
    omega
theorem Col.apart {w cl R:Int}{n:Nat}{l:Nat→Int}{d:Nat→Bool}(h:Col w cl R n l d) {i j:Nat}(hij:i<j) (hj:j<n):l i+w+cl≤l j:=by
  have:=h.far (j-i-1) i (by omega)
  rw [show i+(j-i-1+1)=j by omega] at this
  exact this
structure At (w cl:Int) (n:Nat) (l:Nat→Int) (d:Nat→Bool) (r L:Nat):Prop where
  le:L≤n
  old:∀ i,i<L→l i<r
  new:∀ i,L≤i→i<n→(r:Int)≤l i
  zero:L=0→(pPaper w cl d r).2.1=0∧(pPaper w cl d r).2.2=0∧cntD d r=0
  lines:(pPaper w cl d r).2.2=L
  ink:0<L→(r:Int)<l (L-1)+w→(pPaper w cl d r).2.1 % w=r-l (L-1)∧(pPaper w cl d r).1=0∧(cntD d r:Int)=(L:Int)*w-w+(r-l (L-1))
  edge:0<L→l (L-1)+w≤r→(pPaper w cl d r).2.1 % w=0∧(pPaper w cl d r).1=r-l (L-1)-w∧(cntD d r:Int)=(L:Int)*w
theorem Col.at_ {w cl R:Int}{n:Nat}{l:Nat→Int}{d:Nat→Bool}(h:Col w cl R n l d):∀ r,∃ L,At w cl n l d r L∧(d r=false→(pPaper w cl d r).2.1 % w=0)∧(d r=true→(pPaper w cl d r).2.1 % w=0→(pPaper w cl d r).2.2=0∨cl≤(pPaper w cl d r).1):=by
  have hw:=h.hw
  have hc:=h.hc
  have key:∀ {r L:Nat},At w cl n l d r L→(d r=true↔(0<L∧(r:Int)<l (L-1)+w)∨(L<n∧l L=r)):=fun {r L} a=>by
    rw [h.dot]
    constructor
    · rintro ⟨i,hi,h1,h2⟩
      rcases Nat.lt_or_ge i L with h3|h3
      · rcases Nat.lt_or_ge (i+1) L with h4|h4
        · have:=h.apart (i:=i) (j:=L-1) (by omega) (by have:=a.le;omega)
          have:=a.old (L-1) (by omega)
          omega
        · obtain rfl:i=L-1:=by omega
          exact .inl ⟨by omega,h2⟩
      · have h4:=a.new i h3 hi
        rcases Nat.lt_or_ge L i with h5|h5
        · have:=h.apart h5 hi
          have:=a.new L (Nat.le_refl _) (by omega)
          omega
        · obtain rfl:i=L:=by omega
          exact .inr ⟨hi,by omega⟩
    · rintro (⟨h1,h2⟩|⟨h1,h2⟩)
      · exact ⟨L-1,by have:=a.le;omega,by have:=a.old (L-1) (by omega);omega,h2⟩
      · exact ⟨L,h1,by omega,by omega⟩
  have asks:∀ {r L:Nat},At w cl n l d r L→(d r=false→(pPaper w cl d r).2.1 % w=0)∧(d r=true→(pPaper w cl d r).2.1 % w=0→(pPaper w cl d r).2.2=0∨cl≤(pPaper w cl d r).1):=fun {r L} a=>by
    have k:=key a
    refine ⟨fun hf=>?_,fun ht h0=>?_⟩
    · rw [hf] at k
      have k':¬ ((0<L∧(r:Int)<l (L-1)+w)∨(L<n∧l L=r)):=fun x=>by have:=k.2 x;cases this
      rcases Nat.eq_zero_or_pos L with h1|h1
      · rw [(a.zero h1).1];exact Int.zero_emod _
      · by_cases h2:(r:Int)<l (L-1)+w
        · exact (k' (.inl ⟨h1,h2⟩)).elim
        · exact (a.edge h1 (by omega)).1
    · rcases Nat.eq_zero_or_pos L with h1|h1
      · exact .inl (a.zero h1).2.1
      · by_cases h2:(r:Int)<l (L-1)+w
        · have:=(a.ink h1 h2).1
          have:=a.old (L-1) (by omega)
          omega
        · rcases k.1 ht with ⟨_,h3⟩|⟨h3,h4⟩
          · omega
          · have:=(a.edge h1 (by omega)).2.1
            have:=h.apart (i:=L-1) (j:=L) (by omega) h3
            right
            omega
  intro r
  induction r with
  | zero =>
    refine ⟨0,?_⟩
    have a:At w cl n l d 0 0:=⟨Nat.zero_le _,fun i hi=>by omega,fun i _ hi=>(h.low i hi).1,fun _=>⟨rfl,rfl,rfl⟩,rfl,fun h=>by omega,fun h=>by omega⟩
    exact ⟨a,asks a⟩
  | succ r ih =>
    obtain ⟨L,a,_⟩:=ih
    have k:=key a
    have ak:=asks a
    have hle:=a.le
    have hlines:=a.lines
    have inkStep:∀ (L':Nat),L'≤n→0<L'→(∀ i,i<L'→l i<(r:Int)+1)→(∀ i,L'≤i→i<n→(r:Int)+1≤l i)→(pPaper w cl d (r+1)).2.2=L'→(pPaper w cl d (r+1)).1=0→(r:Int)<l (L'-1)+w →
        (pPaper w cl d (r+1)).2.1 % w=(if (r:Int)+1-l (L'-1)=w then 0 else (r:Int)+1-l (L'-1))→(cntD d (r+1):Int)=(L':Int)*w-w+((r:Int)+1-l (L'-1))→At w cl n l d (r+1) L':=fun L' h1 h2 h3 h4 h5 h6 h7 h8 h9=>{
      le:=h1,old:=fun i hi=>by have:=h3 i hi;omega,new:=fun i hi hn=>by have:=h4 i hi hn;omega,zero:=fun h=>by omega,lines:=h5
      ink:=fun _ hb=>by
        rw [if_neg (by omega)] at h8
        refine ⟨by omega,h6,by omega⟩
      edge:=fun _ hb=>by
        rw [if_pos (by omega)] at h8
        refine ⟨h8,by omega,by omega⟩ }
    by_cases hA:0<L∧(r:Int)<l (L-1)+w
    · have hd:d r=true:=k.2 (.inl hA)
      obtain ⟨i1,i2,i3⟩:=a.ink hA.1 hA.2
      have hold:=a.old (L-1) (by omega)
      have hne:¬ (pPaper w cl d r).2.1 % w=0:=by omega
      have e:(pPaper w cl d (r+1)).2.1=(pPaper w cl d r).2.1+1∧(pPaper w cl d (r+1)).2.2=(pPaper w cl d r).2.2∧(pPaper w cl d (r+1)).1=(pPaper w cl d r).1:=by simp only [pPaper,hd,if_true];rw [if_neg hne];exact ⟨rfl,rfl,rfl⟩
      obtain ⟨e1,e2,e3⟩:=e
      have e4:cntD d (r+1)=cntD d r+1:=by simp [cntD,hd]
      have b:At w cl n l d (r+1) L:=by
        refine inkStep L hle hA.1 (fun i hi=>by have:=a.old i hi;omega) (fun i hi hn=>?_) (by omega) (by omega) hA.2 ?_ (by rw [e4];omega)
        · have:=h.apart (i:=L-1) (j:=i) (by omega) hn
          omega
        · rw [e1,Int.add_emod,i1]
          by_cases hw1:w=1
          · omega
          · rw [Int.emod_eq_of_lt (show (0:Int)≤1 by omega) (by omega)]
            split
            · rw [show (r:Int)-l (L-1)+1=w by omega];exact Int.emod_self
            · rw [Int.emod_eq_of_lt (by omega) (by omega)];omega
      exact ⟨L,b,(asks b).1,(asks b).2⟩
    · have h0:(pPaper w cl d r).2.1 % w=0∧(cntD d r:Int)=(L:Int)*w:=by
        rcases Nat.eq_zero_or_pos L with h1|h1
        · obtain ⟨z1,z2,z3⟩:=a.zero h1
          rw [z1,z3,h1]
          exact ⟨Int.zero_emod _,by simp⟩
        · obtain ⟨z1,z2,z3⟩:=a.edge h1 (by omega)
          exact ⟨z1,z3⟩
      by_cases hB:L<n∧l L=r
      · have hd:d r=true:=k.2 (.inr hB)
        have e:(pPaper w cl d (r+1)).2.1=(pPaper w cl d r).2.1+1∧(pPaper w cl d (r+1)).2.2=(pPaper w cl d r).2.2+1∧(pPaper w cl d (r+1)).1=0:=by simp only [pPaper,hd,if_true];rw [if_pos h0.1];exact ⟨rfl,rfl,rfl⟩
        obtain ⟨e1,e2,e3⟩:=e
        have e4:cntD d (r+1)=cntD d r+1:=by simp [cntD,hd]
        have hm:((L+1:Nat):Int)*w=(L:Int)*w+w:=by rw [Int.natCast_succ,Int.add_mul,Int.one_mul]
        have b:At w cl n l d (r+1) (L+1):=by
          refine inkStep (L+1) hB.1 (by omega) (fun i hi=>?_) (fun i hi hn=>?_) (by omega) e3 (by rw [show L+1-1=L by omega];omega) ?_ ?_
          · rcases Nat.lt_or_ge i L with h1|h1
            · have:=a.old i h1;omega
            · obtain rfl:i=L:=by omega
              omega
          · have:=h.apart (i:=L) (j:=i) (by omega) hn
            omega
          · rw [show L+1-1=L by omega,e1,Int.add_emod,h0.1,Int.zero_add,Int.emod_emod]
            split
            · rw [show w=1 by omega];rfl
            · rw [Int.emod_eq_of_lt (by omega) (by omega)];omega
          · rw [e4,hm,show L+1-1=L by omega]
            omega
        exact ⟨L+1,b,(asks b).1,(asks b).2⟩
      · have hd:d r=false:=by
          cases hd:d r
          · rfl
          · rcases k.1 hd with h1|h1
            · exact (hA h1).elim
            · exact (hB h1).elim
        have e:(pPaper w cl d (r+1)).2.1=0∧(pPaper w cl d (r+1)).2.2=(pPaper w cl d r).2.2∧(pPaper w cl d (r+1)).1=(pPaper w cl d r).1+1:=by simp only [pPaper,hd];exact ⟨rfl,rfl,rfl⟩
        obtain ⟨e1,e2,e3⟩:=e
        have e4:cntD d (r+1)=cntD d r:=by simp [cntD,hd]
        have b:At w cl n l d (r+1) L:={
          le:=hle,old:=fun i hi=>by have:=a.old i hi;omega
          new:=fun i hi hn=>by
            have h1:=a.new i hi hn
            rcases Nat.lt_or_ge L i with h2|h2
            · have:=h.apart h2 hn
              have:=a.new L (Nat.le_refl _) (by omega)
              omega
            · obtain rfl:i=L:=by omega
              have:¬ l i=r:=fun e=>hB ⟨hn,e⟩
              omega
          zero:=fun h1=>by
            obtain ⟨z1,z2,z3⟩:=a.zero h1
            exact ⟨e1,by omega,by omega⟩
          lines:=by omega
          ink:=fun h1 h2=>(hA ⟨h1,by omega⟩).elim
          edge:=fun h1 h2=>by
            obtain ⟨z1,z2,z3⟩:=a.edge h1 (by omega)
            exact ⟨by rw [e1];exact Int.zero_emod _,by omega,by rw [e4];exact z3⟩ }
        exact ⟨L,b,(asks b).1,(asks b).2⟩
theorem Col.all {w cl:Int}{R n:Nat}{l:Nat→Int}{d:Nat→Bool}(h:Col w cl R n l d):(pPaper w cl d R).2.2=n∧(cntD d R:Int)=(n:Int)*w:=by
  have hw:=h.hw
  obtain ⟨L,a,_,_⟩:=h.at_ R
  have hn:L=n:=by
    rcases Nat.lt_or_ge L n with h1|h1
    · have:=a.new L (Nat.le_refl _) h1
      have:=h.low L h1
      omega
    · have:=a.le;omega
  subst hn
  refine ⟨a.lines,?_⟩
  rcases Nat.eq_zero_or_pos L with h1|h1
  · rw [(a.zero h1).2.2,h1];simp
  · have:=h.low (L-1) (by omega)
    exact (a.edge h1 (by omega)).2.2
section
variable {s:Sheet}{b:List (List Int)}
def spJob (s:Sheet) (b:List (List Int)):Job:=⟨1,1,0,0,0,0,noAct,s,b⟩
def spDsn (s:Sheet) (b:List (List Int)):Dsn:=⟨1,s,b⟩
theorem sp_dot (h:checkErr s b=0) {r c:Nat}(hr:(r:Int)<s.rows) (hc:c<s.cols.toNat):el (proofF s b 0 true) (r*s.cols.toNat+(s.cols.toNat-1-c))=dotB s b r c:=by
  have he:proofErr s b 0=0:=by unfold proofErr;rw [if_pos h,if_pos (by decide)]
  unfold proofF
  rw [if_pos he,proofTo_el,proof_idx (by omega)]
  · unfold proofB dotB
    have e:pCol s true (s.cols.toNat-1-c)=c:=by unfold pCol;rw [if_pos rfl];omega
    rw [e]
    congr 1
    funext l
    rw [Bool.eq_iff_iff,hitB_iff]
    unfold dotAt
    rw [withinB_iff]
    omega
  · have h1:(r+1)*s.cols.toNat≤s.rows.toNat*s.cols.toNat:=Nat.mul_le_mul_right _ (by omega)
    rw [Nat.add_mul,Nat.one_mul] at h1
    omega
theorem sp_len2 (h:checkErr s b=0):(proofF s b 0 true).length=s.rows.toNat*s.cols.toNat:=by
  have he:proofErr s b 0=0:=by unfold proofErr;rw [if_pos h,if_pos (by decide)]
  unfold proofF
  rw [if_pos he,proofTo_len]
end
def isTake:Job:=⟨3,1,0,0,1,0,noAct,noSheet,[]⟩
def isPrnt:Job:=⟨6,0,0,0,0,0,⟨0,2,0,1⟩,noSheet,[]⟩
section
variable {s:Sheet}{b:List (List Int)}
def isJobs (s:Sheet) (b:List (List Int)):List Job:=[spJob s b,isTake,exEngv,actJob 3 0 1,actJob 2 0 0,actJob 2 1 0,actJob 3 2 2,isPrnt,exGive]
def isStore:Sto:=⟨1,[⟨1,-1,1,1,false⟩,⟨2,0,1,1,false⟩,⟨3,1,2,1,false⟩],[⟨2,1⟩]⟩
def isHse (s:Sheet) (b:List (List Int)):Hse:=⟨1,0,isStore,[spDsn s b],[],[⟨1,0,1,true⟩],[0,0,0],[0]⟩
theorem is_err0 (s:Sheet) (b:List (List Int)):hErrAt 1 1 (isJobs s b) 0=if checkErr s b≠0 then checkErr s b else if GoodD (spDsn s b) then 0 else 101:=by
  show archE (hAt 1 1 (isJobs s b) 0) (spJob s b)=_
  unfold archE
  rw [if_neg (fun q=>q (show aClient 1 by decide))]
  by_cases h:checkErr s b≠0
  · rw [if_pos h,if_pos (show checkErr (spJob s b).sheet (spJob s b).band≠0 from h)]
    rfl
  · rw [if_neg h,if_neg (show ¬ checkErr (spJob s b).sheet (spJob s b).band≠0 from h)]
    by_cases hg:GoodD (spDsn s b)
    · rw [if_neg (show ¬ ¬ GoodD (spJob s b).dsn from fun q=>q hg),if_neg (show ¬ 8≤(hAt 1 1 (isJobs s b) 0).designs.length from (show ¬ 8≤0 by decide)),if_pos hg]
    · rw [if_pos (show ¬ GoodD (spJob s b).dsn from hg),if_neg hg]
theorem is_allow (hg:GoodD (spDsn s b)):1≤allowsF 1 1 (spDsn s b):=by
  unfold allowsF
  split
  · rename_i hl
    have hl2:=hl
    unfold lastErr at hl2
    unfold lastF
    rw [if_pos hl]
    split at hl2
    · rename_i h0
      have h1:=(gap_ok h0).2.2.1
      split at hl2
      · split at hl2
        · omega
        · have:0<gapF (spDsn s b).sheet (spDsn s b).band:=by omega
          omega
      · omega
    · omega
  · omega
theorem is_err7 (hg:GoodD (spDsn s b)):hErrAt 1 1 (isJobs s b) 7=0:=by
  have h1:hErrAt 1 1 (isJobs s b) 7=if allowsF 1 1 (spDsn s b)<0+1 then 104 else 0:=by kernel_rfl
  have:=is_allow hg
  rw [h1,if_neg (by omega)]
theorem is_errs (h:checkErr s b=0) (hg:GoodD (spDsn s b)):∀ j,j<9→hErrAt 1 1 (isJobs s b) j=0
  | 0,_=>by rw [is_err0,if_neg (fun q=>q h),if_pos hg]
  | 1,_=>by kernel_rfl
  | 2,_=>by kernel_rfl
  | 3,_=>by kernel_rfl
  | 4,_=>by kernel_rfl
  | 5,_=>by kernel_rfl
  | 6,_=>by kernel_rfl
  | 7,_=>is_err7 hg
  | 8,_=>by kernel_rfl
  | j+9,hj=>absurd hj (by omega)
theorem isHse_eq:hAt 1 1 (isJobs s b) 9=isHse s b:=by kernel_rfl
theorem is_len:(isJobs s b).length=9:=rfl
theorem is_life:(1≤(1:Int)∧(1:Int)≤1000)∧(1≤(1:Int)∧(1:Int)≤1000):=by decide
theorem isX (h:checkErr s b=0) (hg:GoodD (spDsn s b)):hplayX 1 1 (isJobs s b)=(0,0):=hplayX_ok (by rw [is_len];decide) is_life (is_errs h hg)
theorem isX_no (e:Int) (he:hErrAt 1 1 (isJobs s b) 0=e) (h0:e≠0):hplayX 1 1 (isJobs s b)=(0,e):=by
  rw [hplayX_bad (k:=0) (by rw [is_len];decide) is_life (fun j hj=>absurd hj (by omega)) (by rw [is_len];decide) (by rw [he];exact h0),he]
  rfl
theorem isF (h:checkErr s b=0) (hg:GoodD (spDsn s b)):hplayF 1 1 (isJobs s b)=isHse s b:=(hplayF_ok (by rw [isX h hg])).trans isHse_eq
theorem isValid (h:checkErr s b=0) (hg:GoodD (spDsn s b)):HValid (isHse s b):=by rw [← isHse_eq];exact hAt_ok (hvalid0.2 is_life) (is_errs h hg)
theorem isSt:StOk (isHse s b).store:=by
  intro j hj
  match j,hj with
  | 0,_=>show (0:Int)≤1;decide
theorem is_u8:∀ j,j<(isJobs s b).length→u8ok (el (isJobs s b) j).kind∧u8ok (el (isJobs s b) j).act.kind:=jobs_u8d rfl
theorem is_ask (hV:HValid (isHse s b)):askE (isHse s b) 0=0:=askE_ok hV ⟨Int.le_refl _,by show (0:Int)<1;omega⟩
theorem is_image (hV:HValid (isHse s b)):imageF (isHse s b) 0=proofF s b 0 true:=by
  unfold imageF
  rw [if_pos (is_ask hV)]
  kernel_rfl
theorem is_lineTo:lineTo isStore.items 2 (lineN isStore.items 2)=[0,1,2]:=by decide +kernel
def isOrg:Org:=⟨0,1,0,[0,1,2],0⟩
theorem is_org (hV:HValid (isHse s b)):traceF (isHse s b) 0=isOrg:=by
  unfold traceF
  rw [if_pos (is_ask hV)]
  have he:=lineE_ok (i:=2) hV.store (by show (0:Int)≤2∧(2:Int)<((3:Nat):Int);decide)
  unfold orgF
  rw [show (el (isHse s b).store.prints (Int.toNat 0)).plate=2 from rfl,lineF_ok he,show lineTo (isHse s b).store.items 2 (lineN (isHse s b).store.items 2)=[0,1,2] from is_lineTo]
  rfl
theorem is_shown (g:Nat):shownF (isHse s b) ((0:Nat):Int) g=decide (g=0):=by
  show (false||(decide ((0:Int)=((0:Nat):Int))&&decide (growF (isHse s b) 0=(g:Int))))=_
  rw [show growF (isHse s b) 0=0 by kernel_rfl,Bool.false_or]
  by_cases h:g=0
  · subst h;rfl
  · rw [decide_eq_false h,decide_eq_false (p:=(0:Int)=(g:Int)) (by omega),Bool.and_false]
theorem off_same (a:List Bool):∀ k,offTo a a k=0
  | 0=>rfl
  | k+1=>by rw [offTo_no rfl];exact off_same a k
theorem is_fndG {tol:Int}(h0:0≤tol):∀ g,fndG (isHse s b) (proofF s b 0 true) tol 0 (g+1)=[⟨0,0,0⟩]
  | 0=>by
    have ho:offD (isHse s b) (proofF s b 0 true) 0 0=0:=off_same _ _
    rw [fndG,if_pos ⟨is_shown 0,by rw [ho];exact h0⟩,ho]
    rfl
  | g+1=>by
    rw [fndG,if_neg (fun h=>by have:=is_shown (s:=s) (b:=b) (g+1);rw [h.1] at this;exact absurd this.symm (by simp)),is_fndG h0 g]
theorem is_fnd (h:checkErr s b=0) {tol:Int}(h0:0≤tol):fndD (isHse s b) (proofF s b 0 true) tol (isHse s b).designs.length=[⟨0,0,0⟩]:=by
  have hb:=Sheet.bounds (band_of_check h).1
  have hs:fndSize (isHse s b) (proofF s b 0 true) 0:=by
    show s.cols*s.rows=((proofF s b 0 true).length:Int)
    rw [sp_len2 h,Int.natCast_mul,Int.mul_comm,show ((s.rows.toNat:Nat):Int)=s.rows by omega,show ((s.cols.toNat:Nat):Int)=s.cols by omega]
  show fndD (isHse s b) (proofF s b 0 true) tol (0+1)=_
  rw [fndD,if_pos hs,is_fndG h0 20]
  rfl
theorem is_exp (h:checkErr s b=0) (hV:HValid (isHse s b)) {tol:Int}(h0:0≤tol∧tol≤2400):expE (isHse s b) (proofF s b 0 true) tol=0∧expF (isHse s b) (proofF s b 0 true) tol=[⟨0,0,0⟩]:=by
  have hb:=Sheet.bounds (band_of_check h).1
  have hl:(proofF s b 0 true).length≤2400:=by
    rw [sp_len2 h]
    have:s.rows.toNat*s.cols.toNat≤60*40:=Nat.mul_le_mul (by omega) (by omega)
    omega
  have he:=expE_ok hV ⟨hl,h0⟩ (by rw [is_fnd h h0.1];decide)
  exact ⟨he,(expF_ok he).trans (is_fnd h h0.1)⟩
theorem is_exp_no (hV:HValid (isHse s b)) {L:List Bool}{tol:Int}(h0:¬ (0≤tol∧tol≤2400)):expE (isHse s b) L tol=2∧expF (isHse s b) L tol=[]:=by
  have he:=expE_arg (dots:=L) hV (tol:=tol) fun h=>h0 h.2
  exact ⟨he,expF_no he (by decide)⟩
def wantB (s:Sheet) (b:List (List Int)) (i:Nat):Bool:=dotB s b (i/s.cols.toNat) (s.cols.toNat-1-i % s.cols.toNat)
theorem is_dot (h:checkErr s b=0) {i:Nat}(hi:i<s.rows.toNat*s.cols.toNat):el (proofF s b 0 true) i=wantB s b i:=by
  have hb:=Sheet.bounds (band_of_check h).1
  have hm:=Nat.mod_lt i (show 0<s.cols.toNat by omega)
  have hd:=Nat.div_add_mod i s.cols.toNat
  have hr:i/s.cols.toNat<s.rows.toNat:=Nat.div_lt_of_lt_mul (by rw [Nat.mul_comm];exact hi)
  have:=sp_dot h (r:=i/s.cols.toNat) (c:=s.cols.toNat-1-i % s.cols.toNat) (by omega) (by omega)
  rw [show s.cols.toNat-1-(s.cols.toNat-1-i % s.cols.toNat)=i % s.cols.toNat by omega,Nat.mul_comm (i/s.cols.toNat),hd] at this
  exact this
end
theorem iact_p (k i d:Int):PCalls Tryz.prog 20 [vu8 k,vi i,vi d] (·=(actJob k i d).enc):=by
  refine pcalls_of_aw Tryz.func20 rfl (dc rfl) ?_
  (repeat' (first|(refine ar_isq ?_;refine zq ?_)|(refine zbt ?_)|refine zst ?_|refine zco ?_ ?_|exact zd|(refine fun (hg:(_:Prop))=>?_;(try replace hg:=HG.out hg);(try dsimp only at hg);(try (have _h:True:=hg;clear _h hg)))))
  first
    | ((refine aw_mono_r (env':=[(6,.ptr 16 0 0 0)]) (H':=[.arr 16 1 (fun _=>(actJob k i d).enc)]) ?_ ?_;(focus (exact zsc [some 0] [])))
       refine aw_ret ?_
       (repeat (first|refine ret_then ?_|refine ret_block ?_))
       exact bq1c (f:=fun _=>(actJob k i d).enc) (v:=(actJob k i d).enc) (ty rfl) rfl rfl Nat.one_pos rfl ⟨rfl,rfl⟩)
    | trace_state
set_option maxRecDepth 20000 in
theorem issued_p (s:Sheet) (b:List (List Int)):PCalls Tryz.prog 8 [s.enc,encRows b] (·=encJobs (isJobs s b)):=by
  refine pcalls_of_aw Tryz.func8 rfl (dc rfl) ?_
  ((repeat refine aw_seq ?_);(first|(refine aw_region ?_)|(refine aw_drawn (id:=2) [(0,0),(1,0),(2,0),(3,0),(4,0),(5,0),(7,0),(9,0),(11,0),(13,0),(14,0),(15,0),(6,1),(8,1),(10,1),(12,1),(16,1),(17,0)] mixed (by kernel_rfl) ?_));(repeat' (first|(refine ar_isq ?_;refine zq ?_)|(refine zbt ?_)|refine zsr ?_)))
  (refine aw_mono_r (env':=[(1,encRows b),(2,.ref s.enc 0)]) (H':=[]) ?_ ?_;(focus ((refine sub_to [] [0] rfl ?_ ?_<;>(repeat' (first|exact trivial|refine ⟨⟨_,rfl,?_⟩,?_⟩|refine vs1 ?_ ?_|refine vs2 ?_ ?_|refine vs3 ?_|refine vs4 ?_ ?_|refine ⟨.inl ⟨_,_,rfl,rfl,?_⟩,?_⟩|exact ⟨.inr ⟨rfl,rfl⟩,trivial⟩|refine ⟨.inr ⟨rfl,rfl⟩,?_⟩|(intro _ _)|exact vz1|(exact frzPtr' (by simp) rfl (by omega) rfl rfl)|exact vz2|fail)));done)))
  (repeat' (first|(refine ar_isq ?_;refine zq ?_)|(refine zbt ?_)|(refine zpv fn20 (iact_p _ _ _) ?_)|(((refine ar_subk_l (sub_nilC (t:=9) (isTake.enc) rfl rfl (by repeat' (first|exact trivial|refine ⟨.inl rfl,?_⟩|refine ⟨.inr ⟨rfl,_,_,rfl⟩,?_⟩))) ?_);(refine ar_subk_l (sub_nilC (t:=10) (exEngv.enc) rfl rfl (by repeat' (first|exact trivial|refine ⟨.inl rfl,?_⟩|refine ⟨.inr ⟨rfl,_,_,rfl⟩,?_⟩))) ?_);(refine ar_subk_l (sub_nilC (t:=20) (isPrnt.enc) rfl rfl (by repeat' (first|exact trivial|refine ⟨.inl rfl,?_⟩|refine ⟨.inr ⟨rfl,_,_,rfl⟩,?_⟩))) ?_);(refine ar_subk_l (sub_nilC (t:=21) (exGive.enc) rfl rfl (by repeat' (first|exact trivial|refine ⟨.inl rfl,?_⟩|refine ⟨.inr ⟨rfl,_,_,rfl⟩,?_⟩))) ?_);refine ar_buildLE Job.enc (isJobs s b) (by exact ty rfl) (by exact rfl) (by exact ty rfl) (by exact rfl) (by exact rfl) (by exact Nat.succ_pos _) (by exact rfl) (by exact dc rfl) (by exact rfl) (by exact fun _=>⟨rfl,rfl⟩) (by exact dc rfl) ?_))|refine zst ?_|refine aw_drawn (id:=2) [(0,0),(1,0),(2,0),(3,0),(4,0),(5,0),(7,0),(9,0),(11,0),(13,0),(14,0),(15,0),(6,1),(8,1),(10,1),(12,1),(16,1),(17,0)] mixed (by kernel_rfl) ?_|refine zco ?_ ?_|exact zd|(refine fun (hg:(_:Prop))=>?_;(try replace hg:=HG.out hg);(try dsimp only at hg);(try (have _h:True:=hg;clear _h hg)))))
  first
    | ((refine aw_mono_r (env':=[(4,encJobs (isJobs s b))]) (H':=[]) ?_ ?_;(focus (exact zsb [] [0])));(refine aw_ret ?_;(repeat (first|refine ret_then ?_|refine ret_block ?_));refine bq1 rfl ⟨?_,rfl⟩);rfl)
    | trace_state
theorem take_snocR {l:List (List Int)}{k:Nat}(h:k<l.length):l.take (k+1)=l.take k++[el l k]:=by
  rw [List.take_succ_eq_append_getElem h]
  congr 2
  unfold el
  simp [h]
def wTo (s:Sheet) (b:List (List Int)) (r c:Nat):Nat→Bool
  | 0=>false
  | k+1=>wTo s b r c k||dotAt s r c (el b k)
theorem wTo_any (s:Sheet) (b:List (List Int)) (r c:Nat):∀ k,k≤b.length→wTo s b r c k=(b.take k).any (dotAt s r c)
  | 0,_=>by rw [List.take_zero];rfl
  | k+1,h=>by rw [take_snocR (show k<b.length by omega),List.any_append,wTo,wTo_any s b r c k (by omega)];simp
theorem wTo_all (s:Sheet) (b:List (List Int)) (r c:Nat):wTo s b r c b.length=dotB s b r c:=by rw [wTo_any s b r c _ (Nat.le_refl _),List.take_length];rfl
theorem vbEqI {H:Heap}{σ:List (Option Nat)}{fr:Nat→Prop}{a b:Bool}(h:a=b):VSub H σ fr (.s (.bool a)) (vb b):=VSub.of_eq (congrArg (fun x=>V.s (.bool x)) h) rfl
theorem dotAt_iff {s:Sheet}{r c:Nat}{l:List Int}:dotAt s r c l=decide (el l c≤(r:Int)∧(r:Int)<el l c+s.weight):=by
  rw [Bool.eq_iff_iff,decide_eq_true_iff]
  unfold dotAt
  rw [withinB_iff]
  omega
set_option maxRecDepth 20000 in
theorem printed_p (s:Sheet) (b:List (List Int)) (h:checkErr s b=0):PCalls Tryz.prog 13 [encBools (proofF s b 0 true),s.enc,encRows b] (·=vb true):=by
  have hbd:=Sheet.bounds (band_of_check h).1
  have hL:=sp_len2 h
  have hD:=fun i (hi:i<s.rows.toNat*s.cols.toNat)=>is_dot h hi
  obtain ⟨_,h12,hlines⟩:=band_of_check h
  generalize proofF s b 0 true=L at *
  have hmul:IntKind.i64.wrap (s.cols*s.rows)=(L.length:Int):=by
    have e:(L.length:Int)=s.cols*s.rows:=by
      rw [hL,Int.natCast_mul,Int.mul_comm,show ((s.rows.toNat:Nat):Int)=s.rows by omega,show ((s.cols.toNat:Nat):Int)=s.cols by omega]
    have:s.rows.toNat*s.cols.toNat≤60*40:=Nat.mul_le_mul (by omega) (by omega)
    rw [← e]
    exact wrap64 (by omega)
  have hsz:L.length≤2400:=by
    have:s.rows.toNat*s.cols.toNat≤60*40:=Nat.mul_le_mul (by omega) (by omega)
    omega
  obtain ⟨C,hC⟩:∃ C:Nat,s.cols=(C:Int):=⟨s.cols.toNat,by omega⟩
  have hC2:s.cols.toNat=C:=by omega
  rw [hC2] at hD hL
  refine pcalls_of_aw Tryz.func13 rfl (dc rfl) ?_
  ((repeat refine aw_seq ?_);(first|(refine aw_region ?_)|(refine aw_drawn (id:=6) [(0,0),(1,0),(2,0),(3,0),(4,0),(5,0),(6,0),(7,0),(8,0),(9,0),(10,0),(11,0),(12,0),(13,0)] mixed (by kernel_rfl) ?_)|(refine aw_drawn (id:=11) [(0,0),(1,0),(2,0),(3,0),(4,0),(5,0),(6,0),(7,0),(8,0),(9,0),(10,0),(11,0),(12,0),(13,0),(14,0),(15,0),(16,0),(17,0),(18,0),(19,0),(20,0)] mixed (by kernel_rfl) ?_));(repeat' (first|(refine ar_isq ?_;refine zq ?_)|refine zg ?_ ?_|refine zgu ?_|refine zsr ?_|exact zd|(refine fun (hg:(_:Prop))=>?_;(try replace hg:=HG.out hg);(try dsimp only at hg);(try (have _h:True:=hg;clear _h hg))))))
  (refine aw_mono_r (env':=[(0,encBools L),(2,encRows b),(4,.ref s.enc 0)]) (H':=[]) ?_ ?_;(focus ((refine sub_to [] [0] rfl ?_ ?_<;>(repeat' (first|exact trivial|refine ⟨⟨_,rfl,?_⟩,?_⟩|refine vs1 ?_ ?_|refine vs2 ?_ ?_|refine vs3 ?_|refine vs4 ?_ ?_|refine ⟨.inl ⟨_,_,rfl,rfl,?_⟩,?_⟩|exact ⟨.inr ⟨rfl,rfl⟩,trivial⟩|refine ⟨.inr ⟨rfl,rfl⟩,?_⟩|(intro _ _)|exact vz1|(exact frzPtr' (by simp) rfl (by omega) rfl rfl)|exact vz2|fail)));done)))
  (repeat' (first|(refine ar_isq ?_;refine zq ?_)|refine ar_q (qs_mul (r:=(L.length:Int)) rfl rfl hmul) (dc rfl) ?_|refine zg ?_ ?_|refine zgu ?_|refine zst ?_|refine aw_drawn (id:=6) [(0,0),(1,0),(2,0),(3,0),(4,0),(5,0),(6,0),(7,0),(8,0),(9,0),(10,0),(11,0),(12,0),(13,0)] mixed (by kernel_rfl) ?_|refine aw_drawn (id:=11) [(0,0),(1,0),(2,0),(3,0),(4,0),(5,0),(6,0),(7,0),(8,0),(9,0),(10,0),(11,0),(12,0),(13,0),(14,0),(15,0),(16,0),(17,0),(18,0),(19,0),(20,0)] mixed (by kernel_rfl) ?_|refine zco ?_ ?_|exact zd|(refine fun (hg:(_:Prop))=>?_;(try replace hg:=HG.out hg);(try dsimp only at hg);(try (have _h:True:=hg;clear _h hg)))))
  all_goals (try (exfalso;omega))
  refine aw_for L.length (fun _=>True) (fun i=>[(0,encBools L),(2,encRows b),(4,.ref s.enc 0),(22,encBools L),(23,vi L.length),(24,vi i)]) (fun _=>[]) trivial ?_ ?_
  · (exact zsb [] [])
  intro i hi _
  by_cases hin:i<L.length
  · have hd:=hD i (by omega)
    have hCp:0<C:=by omega
    have hm:=Nat.mod_lt i hCp
    have hqs:=Nat.div_le_self i C
    unfold wantB at hd
    rw [hC2,← wTo_all] at hd
    have hqr:(i:Int)/s.cols=((i/C:Nat):Int):=by rw [hC];exact (Int.natCast_ediv i C).symm
    have hmr:(i:Int) % s.cols=((i % C:Nat):Int):=by rw [hC];exact (Int.natCast_emod i C).symm
    generalize i/C=q at *
    generalize i % C=m at *
    (repeat' (first|(refine ar_isq ?_;refine zq ?_)|refine zil (j:=i) ?_|refine zis (j:=i) ?_|refine zit (j:=i) ?_|refine zg ?_ ?_|refine zgu ?_|refine zst ?_|refine aw_drawn (id:=6) [(0,0),(1,0),(2,0),(3,0),(4,0),(5,0),(6,0),(7,0),(8,0),(9,0),(10,0),(11,0),(12,0),(13,0)] mixed (by kernel_rfl) ?_|refine aw_drawn (id:=11) [(0,0),(1,0),(2,0),(3,0),(4,0),(5,0),(6,0),(7,0),(8,0),(9,0),(10,0),(11,0),(12,0),(13,0),(14,0),(15,0),(16,0),(17,0),(18,0),(19,0),(20,0)] mixed (by kernel_rfl) ?_|refine zco ?_ ?_|exact zd|(refine fun (hg:(_:Prop))=>?_;(try replace hg:=HG.out hg);(try dsimp only at hg);(try (have _h:True:=hg;clear _h hg)))))
    refine aw_for b.length (fun _=>True) (fun k=>[(0,encBools L),(2,encRows b),(4,.ref s.enc 0),(22,encBools L),(23,vi L.length),(24,vi i),(8,vb (wTo s b q (C-1-m) b.length)),(9,vi q),(10,vi (s.cols-1-m)),(11,vb (wTo s b q (C-1-m) k)),(41,encRows b),(42,vi b.length),(43,vi k)]) (fun _=>[]) trivial ?_ ?_
    · (refine sub_to [] [] rfl ?_ ?_<;>(repeat' (first|exact trivial|refine ⟨⟨_,rfl,?_⟩,?_⟩|refine vs1 ?_ ?_|refine vs2 ?_ ?_|refine vs3 ?_|refine vs4 ?_ ?_|refine ⟨.inl ⟨_,_,rfl,rfl,?_⟩,?_⟩|exact ⟨.inr ⟨rfl,rfl⟩,trivial⟩|refine ⟨.inr ⟨rfl,rfl⟩,?_⟩|(intro _ _)|exact vz1|(exact vbEqI hd)|exact vz2|fail)))
    intro k hk _
    by_cases hkn:k<b.length
    · have hline:isLineB s (el b k)=true:=List.all_eq_true.1 hlines _ (el_mem hkn)
      have hll:=isLine_len hline
      have hla:=isLine_at hline (j:=C-1-m) (by omega)
      have hdt:=dotAt_iff (s:=s) (r:=q) (c:=C-1-m) (l:=el b k)
      cases hv:wTo s b q (C-1-m) k
      · (repeat' (first|(refine ar_isq ?_;refine zq ?_)|refine zil (j:=k) ?_|refine zis (j:=k) ?_|refine zit (j:=k) ?_|refine zil (j:=C-1-m) ?_|refine zis (j:=C-1-m) ?_|refine zit (j:=C-1-m) ?_|refine zg ?_ ?_|refine zgu ?_|refine zst ?_|refine aw_drawn (id:=6) [(0,0),(1,0),(2,0),(3,0),(4,0),(5,0),(6,0),(7,0),(8,0),(9,0),(10,0),(11,0),(12,0),(13,0)] mixed (by kernel_rfl) ?_|refine aw_drawn (id:=11) [(0,0),(1,0),(2,0),(3,0),(4,0),(5,0),(6,0),(7,0),(8,0),(9,0),(10,0),(11,0),(12,0),(13,0),(14,0),(15,0),(16,0),(17,0),(18,0),(19,0),(20,0)] mixed (by kernel_rfl) ?_|refine zco ?_ ?_|exact zd|(refine fun (hg:(_:Prop))=>?_;(try replace hg:=HG.out hg);(try dsimp only at hg);(try (have _h:True:=hg;clear _h hg)))))
        all_goals first
          | (exfalso;omega)
          | ((first|refine loop_next (by omega) ?_ ?_|refine (show _∧_∧SubOf _ _ _ _ _ _ from And.intro (by omega) (And.intro ?_ ?_)));(focus ((trivial);done));(focus ((refine sub_to [] [] rfl ?_ ?_<;>(repeat' (first|exact trivial|refine ⟨⟨_,rfl,?_⟩,?_⟩|refine vs1 ?_ ?_|refine vs2 ?_ ?_|refine vs3 ?_|refine vs4 ?_ ?_|refine ⟨.inl ⟨_,_,rfl,rfl,?_⟩,?_⟩|exact ⟨.inr ⟨rfl,rfl⟩,trivial⟩|refine ⟨.inr ⟨rfl,rfl⟩,?_⟩|(intro _ _)|exact vz1|(exact vbEqI (by rw [wTo,hv,Bool.false_or,hdt];first|(symm;rw [decide_eq_true_iff];omega)|(symm;rw [decide_eq_false_iff_not];omega)|(rw [decide_eq_decide];omega)))|exact vz2|fail)));done)))
          | trace_state
      · (repeat' (first|(refine ar_isq ?_;refine zq ?_)|refine zil (j:=k) ?_|refine zis (j:=k) ?_|refine zit (j:=k) ?_|refine zil (j:=C-1-m) ?_|refine zis (j:=C-1-m) ?_|refine zit (j:=C-1-m) ?_|refine zg ?_ ?_|refine zgu ?_|refine zst ?_|refine aw_drawn (id:=6) [(0,0),(1,0),(2,0),(3,0),(4,0),(5,0),(6,0),(7,0),(8,0),(9,0),(10,0),(11,0),(12,0),(13,0)] mixed (by kernel_rfl) ?_|refine aw_drawn (id:=11) [(0,0),(1,0),(2,0),(3,0),(4,0),(5,0),(6,0),(7,0),(8,0),(9,0),(10,0),(11,0),(12,0),(13,0),(14,0),(15,0),(16,0),(17,0),(18,0),(19,0),(20,0)] mixed (by kernel_rfl) ?_|refine zco ?_ ?_|exact zd|(refine fun (hg:(_:Prop))=>?_;(try replace hg:=HG.out hg);(try dsimp only at hg);(try (have _h:True:=hg;clear _h hg)))))
        all_goals first
          | (exfalso;omega)
          | ((first|refine loop_next (by omega) ?_ ?_|refine (show _∧_∧SubOf _ _ _ _ _ _ from And.intro (by omega) (And.intro ?_ ?_)));(focus ((trivial);done));(focus ((refine sub_to [] [] rfl ?_ ?_<;>(repeat' (first|exact trivial|refine ⟨⟨_,rfl,?_⟩,?_⟩|refine vs1 ?_ ?_|refine vs2 ?_ ?_|refine vs3 ?_|refine vs4 ?_ ?_|refine ⟨.inl ⟨_,_,rfl,rfl,?_⟩,?_⟩|exact ⟨.inr ⟨rfl,rfl⟩,trivial⟩|refine ⟨.inr ⟨rfl,rfl⟩,?_⟩|(intro _ _)|exact vz1|(exact vbEqI (by rw [wTo,hv,Bool.true_or]))|exact vz2|fail)));done)))
          | trace_state
    · obtain rfl:k=b.length:=by omega
      generalize wTo s b q (C-1-m) b.length=X at *
      cases X
      all_goals
        (repeat' (first|(refine ar_isq ?_;refine zq ?_)|refine zg ?_ ?_|refine zgu ?_|refine zst ?_|refine aw_drawn (id:=6) [(0,0),(1,0),(2,0),(3,0),(4,0),(5,0),(6,0),(7,0),(8,0),(9,0),(10,0),(11,0),(12,0),(13,0)] mixed (by kernel_rfl) ?_|refine aw_drawn (id:=11) [(0,0),(1,0),(2,0),(3,0),(4,0),(5,0),(6,0),(7,0),(8,0),(9,0),(10,0),(11,0),(12,0),(13,0),(14,0),(15,0),(16,0),(17,0),(18,0),(19,0),(20,0)] mixed (by kernel_rfl) ?_|refine zco ?_ ?_|exact zd|(refine fun (hg:(_:Prop))=>?_;(try replace hg:=HG.out hg);(try dsimp only at hg);(try (have _h:True:=hg;clear _h hg)))))
        all_goals first
          | (exfalso;omega)
          | ((first|refine loop_next (by omega) ?_ ?_|refine (show _∧_∧SubOf _ _ _ _ _ _ from And.intro (by omega) (And.intro ?_ ?_)));(focus ((trivial);done));(focus (exact zsb [] [])))
          | trace_state
  · obtain rfl:i=L.length:=by omega
    (repeat' (first|(refine ar_isq ?_;refine zq ?_)|refine zg ?_ ?_|refine zgu ?_|refine zst ?_|refine aw_drawn (id:=6) [(0,0),(1,0),(2,0),(3,0),(4,0),(5,0),(6,0),(7,0),(8,0),(9,0),(10,0),(11,0),(12,0),(13,0)] mixed (by kernel_rfl) ?_|refine aw_drawn (id:=11) [(0,0),(1,0),(2,0),(3,0),(4,0),(5,0),(6,0),(7,0),(8,0),(9,0),(10,0),(11,0),(12,0),(13,0),(14,0),(15,0),(16,0),(17,0),(18,0),(19,0),(20,0)] mixed (by kernel_rfl) ?_|refine zco ?_ ?_|exact zd|(refine fun (hg:(_:Prop))=>?_;(try replace hg:=HG.out hg);(try dsimp only at hg);(try (have _h:True:=hg;clear _h hg)))))
    all_goals first
      | (exfalso;omega)
      | ((refine aw_ret ?_;(repeat (first|refine ret_then ?_|refine ret_block ?_));refine bq1 rfl ⟨?_,rfl⟩);rfl)
      | trace_state
structure Pat where
  ros:List Int
  rub:List Int
  start:Int
  throw:Int
  adv:Int
  shifts:List Int
instance:Inhabited Pat:=⟨⟨[],[],0,0,0,[]⟩⟩
abbrev Pat.enc (p:Pat):V:=.agg [encInts p.ros,encInts p.rub,vi p.start,vi p.throw,vi p.adv,encInts p.shifts]
def oddB (n:Int):Bool:=decide (n<0)||decide (n>10000)
theorem oddB_iff {n:Int}:oddB n=true↔n<0∨n>10000:=by simp [oddB]
theorem oddB_no {n:Int}:oddB n=false↔0≤n∧n≤10000:=by simp [oddB]
def rosE (f:List Int):Int:=if f.length<3∨96<f.length∨f.any oddB=true then 30 else 0
def rubE (b:List Int) (n:Int):Int:=if b.length % 2=0∨n<b.length∨31<b.length∨b.any oddB=true∨0<el b (b.length/2) then 31 else 0
def liftX (f b:List Int) (p k:Nat):Int:=el f ((p+f.length+k-b.length/2) % f.length)-el b k
def liftTo (f b:List Int) (p:Nat):Nat→Int
  | 0=>0
  | k+1=>if k=0 then liftX f b p 0 else max (liftTo f b p k) (liftX f b p k)
def liftF (f b:List Int):List Int:=(List.range f.length).map fun p=>liftTo f b p b.length
def turnF (f:List Int) (s:Nat):List Int:=f.drop (f.length-s)++f.take (f.length-s)
def symB (f:List Int) (s:Nat):Bool:=decide (turnF f s=f)
def symL (f:List Int) (k:Nat):List Nat:=(List.range k).filter (symB f)
def perF (f:List Int):Nat:=f.length/(symL f f.length).length
def sumS (l:List Int):Nat→Int
  | 0=>0
  | k+1=>sumS l k+el l k
def Pat.lift (p:Pat):List Int:=liftF p.ros p.rub
def Pat.per (p:Pat):Nat:=perF p.lift
def Pat.phase (p:Pat) (j:Int):Int:=(j/p.shifts.length*sumS p.shifts p.shifts.length+sumS p.shifts (j % p.shifts.length).toNat) % p.ros.length
def Pat.at (p:Pat) (i:Int):Int:=el p.lift (i % p.ros.length).toNat
def Pat.cut (p:Pat) (j:Int):List Int:=(List.range p.ros.length).map fun (i:Nat)=>p.start+j*p.adv+p.throw*p.at ((i:Int)-p.phase j)
def shiftB (n:Nat) (s:Int):Bool:=!withinB s 0 ((n:Int)-1)
def Pat.err (p:Pat):Int:=if rosE p.ros≠0 then 30 else if rubE p.rub p.ros.length≠0 then 31 else
  if withinB p.start 0 10000=true∧withinB p.throw 1 16=true∧withinB p.adv (-1000) 1000=true∧withinB p.shifts.length 1 12=true∧p.shifts.any (shiftB p.ros.length)=false then 0 else 40
def Pat.dif (p:Pat) (s:Int) (i:Nat):Int:=p.adv+p.throw*(p.at (i-s)-el p.lift i)
theorem rosE_zero {f:List Int}:rosE f=0↔3≤f.length∧f.length≤96∧f.any oddB=false:=by
  unfold rosE
  split
  · rename_i h
    refine ⟨fun e=>by omega,fun ⟨h1,h2,h3⟩=>?_⟩
    rw [h3] at h
    simp at h
    omega
  · rename_i h
    refine ⟨fun _=>⟨by omega,by omega,?_⟩,fun _=>rfl⟩
    rw [← Bool.not_eq_true]
    exact fun e=>h (.inr (.inr e))
theorem rosE_or (f:List Int):rosE f=0∨rosE f=30:=by unfold rosE;split<;>simp
theorem rubE_or (b:List Int) (n:Int):rubE b n=0∨rubE b n=31:=by unfold rubE;split<;>simp
theorem rubE_zero {b:List Int}{n:Int}:rubE b n=0↔b.length % 2=1∧(b.length:Int)≤n∧b.length≤31∧b.any oddB=false∧el b (b.length/2)≤0:=by
  unfold rubE
  split
  · rename_i h
    refine ⟨fun e=>by omega,fun ⟨h1,h2,h3,h4,h5⟩=>?_⟩
    rw [h4] at h
    simp at h
    omega
  · rename_i h
    refine ⟨fun _=>⟨by omega,by omega,by omega,?_,by omega⟩,fun _=>rfl⟩
    rw [← Bool.not_eq_true]
    exact fun e=>h (.inr (.inr (.inr (.inl e))))
theorem odd_el {l:List Int}(h:l.any oddB=false) {k:Nat}(hk:k<l.length):0≤el l k∧el l k≤10000:=by
  rw [← oddB_no,← Bool.not_eq_true]
  intro e
  rw [List.any_eq_true.2 ⟨_,el_mem hk,e⟩] at h
  cases h
theorem lift_len (f b:List Int):(liftF f b).length=f.length:=by simp [liftF]
theorem lift_el {f b:List Int}{i:Nat}(h:i<f.length):el (liftF f b) i=liftTo f b i b.length:=el_map_range h
theorem liftX_bnd {f b:List Int}(hf:rosE f=0) (hb:rubE b f.length=0) {p k:Nat}(hk:k<b.length):liftX f b p k≤10000:=by
  obtain ⟨f1,f2,f3⟩:=rosE_zero.1 hf
  obtain ⟨b1,b2,b3,b4,b5⟩:=rubE_zero.1 hb
  have h1:=odd_el f3 (Nat.mod_lt (p+f.length+k-b.length/2) (show 0<f.length by omega))
  have h2:=odd_el b4 hk
  unfold liftX
  omega
theorem liftTo_le {f b:List Int}(hf:rosE f=0) (hb:rubE b f.length=0) {p:Nat}:∀ k,k≤b.length→liftTo f b p k≤10000
  | 0,_=>by unfold liftTo;omega
  | k+1,h=>by
    have h1:=liftX_bnd hf hb (p:=p) (k:=k) (by omega)
    have h2:=liftTo_le hf hb (p:=p) k (by omega)
    unfold liftTo
    split
    · rename_i e;subst e;exact h1
    · omega
theorem liftTo_ge {f b:List Int}{p j:Nat}:∀ k,j<k→liftX f b p j≤liftTo f b p k
  | 0,h=>by omega
  | k+1,h=>by
    unfold liftTo
    by_cases e:j=k
    · subst e
      split
      · rename_i e;subst e;exact Int.le_refl _
      · omega
    · have:=liftTo_ge (f:=f) (b:=b) (p:=p) (j:=j) k (by omega)
      split
      · omega
      · omega
theorem lift_bnd {f b:List Int}(hf:rosE f=0) (hb:rubE b f.length=0) {i:Nat}(hi:i<f.length):0≤el (liftF f b) i∧el (liftF f b) i≤10000:=by
  obtain ⟨f1,f2,f3⟩:=rosE_zero.1 hf
  obtain ⟨b1,b2,b3,b4,b5⟩:=rubE_zero.1 hb
  rw [lift_el hi]
  refine ⟨?_,liftTo_le hf hb _ (Nat.le_refl _)⟩
  refine Int.le_trans ?_ (liftTo_ge (j:=b.length/2) _ (by omega))
  have h1:=odd_el f3 (Nat.mod_lt (i+f.length+b.length/2-b.length/2) (show 0<f.length by omega))
  unfold liftX
  omega
theorem lift_rosE {f b:List Int}(hf:rosE f=0) (hb:rubE b f.length=0):rosE (liftF f b)=0:=by
  obtain ⟨f1,f2,f3⟩:=rosE_zero.1 hf
  refine rosE_zero.2 ⟨by rw [lift_len];exact f1,by rw [lift_len];exact f2,?_⟩
  rw [← Bool.not_eq_true]
  intro e
  obtain ⟨x,hx,h⟩:=List.any_eq_true.1 e
  obtain ⟨k,hk,rfl⟩:=mem_el hx
  rw [lift_len] at hk
  have:=lift_bnd hf hb hk
  rw [oddB_iff] at h
  omega
theorem mod_unique {a b q r:Int}(hb:0<b) (h:r+b*q=a) (h0:0≤r) (h1:r<b):a/b=q∧a % b=r:=(Int.ediv_emod_unique hb).2 ⟨h,h0,h1⟩
theorem tmod_gt (a:Int) {n:Int}(hn:0<n):-n<a.tmod n:=by
  rcases Int.le_total 0 a with h|h
  · have:=Int.tmod_nonneg n h;omega
  · have h4:=Int.tmod_lt_of_pos (-a) hn
    rw [Int.neg_tmod] at h4
    omega
theorem tmod_mod (a:Int) {n:Int}(hn:0<n):a % n=if a.tmod n<0 then a.tmod n+n else a.tmod n:=by
  have h1:=Int.tmod_add_mul_tdiv a n
  have h2:=Int.tmod_lt_of_pos a hn
  have h3:-n<a.tmod n:=by
    rcases Int.le_total 0 a with h|h
    · have:=Int.tmod_nonneg n h;omega
    · have h4:=Int.tmod_lt_of_pos (-a) hn
      rw [Int.neg_tmod] at h4
      omega
  split
  · refine (mod_unique hn (q:=a.tdiv n-1) ?_ (by omega) (by omega)).2
    rw [Int.mul_sub,Int.mul_one]
    omega
  · exact (mod_unique hn h1 (by omega) h2).2
section
variable {p:Pat}
theorem phase_bnd (j:Int) (hn:0<p.ros.length):0≤p.phase j∧p.phase j<p.ros.length:=⟨Int.emod_nonneg _ (by omega),Int.emod_lt_of_pos _ (by omega)⟩
theorem cut_len (j:Int):(p.cut j).length=p.ros.length:=by simp [Pat.cut]
theorem cut_el {j:Int}{i:Nat}(h:i<p.ros.length):el (p.cut j) i=p.start+j*p.adv+p.throw*p.at (i-p.phase j):=el_map_range h
def Pat.difs (p:Pat):List Int:=p.shifts.flatMap fun s=>(List.range p.ros.length).map (p.dif s)
end
def minTo (l:List Int):Nat→Int
  | 0=>el l 0
  | k+1=>min (minTo l k) (el l k)
def minF (l:List Int):Int:=minTo l l.length
def Pat.gap (p:Pat):Int:=minF p.difs
theorem turn_len {f:List Int}{s:Nat}(hs:s≤f.length):(turnF f s).length=f.length:=by unfold turnF;rw [List.length_append,List.length_drop,List.length_take];omega
theorem el_turn {f:List Int}{s i:Nat}(hs:s≤f.length) (hi:i<f.length):el (turnF f s) i=el f ((i+(f.length-s)) % f.length):=by
  have hd:(f.drop (f.length-s)).length=s:=by rw [List.length_drop];omega
  unfold turnF
  by_cases h:i<s
  · rw [el_app_lt (by omega),el_drop,Nat.mod_eq_of_lt (by omega),Nat.add_comm]
  · rw [el_app_ge (by omega),hd,el_take (by omega),show i+(f.length-s)=i-s+f.length by omega,Nat.add_mod_right,Nat.mod_eq_of_lt (by omega)]
def PerB (f:List Int) (t:Nat):Prop:=∀ i,i<f.length→el f ((i+t) % f.length)=el f i
theorem sym_iff {f:List Int}{s:Nat}(hs:s≤f.length):symB f s=true↔PerB f (f.length-s):=by
  unfold symB
  rw [decide_eq_true_iff]
  refine ⟨fun h i hi=>?_,fun h=>ext_el (turn_len hs) fun i hi=>?_⟩
  · rw [← el_turn hs hi,h]
  · rw [turn_len hs] at hi
    rw [el_turn hs hi,h i hi]
section
variable {f:List Int}{t u:Nat}
theorem per_n:PerB f f.length:=fun i hi=>by rw [Nat.add_mod_right,Nat.mod_eq_of_lt hi]
theorem per_add (ht:PerB f t) (hu:PerB f u):PerB f (t+u):=fun i hi=>by
  rw [← Nat.add_assoc,← Nat.mod_add_mod,hu _ (Nat.mod_lt _ (by omega)),ht i hi]
theorem per_sub (hs:PerB f (t+u)) (ht:PerB f t):PerB f u:=fun i hi=>by
  have:=ht ((i+u) % f.length) (Nat.mod_lt _ (by omega))
  rw [Nat.mod_add_mod,Nat.add_assoc,Nat.add_comm u t,hs i hi] at this
  exact this.symm
theorem per_zero:PerB f 0:=fun i hi=>by rw [Nat.add_zero,Nat.mod_eq_of_lt hi]
theorem per_mul (ht:PerB f t):∀ q,PerB f (t*q)
  | 0=>per_zero
  | q+1=>by rw [Nat.mul_succ];exact per_add (per_mul ht q) ht
end
theorem least_nat {P:Nat→Prop}:∀ n,P n→∃ d,P d∧d≤n∧∀ t,t<d→¬ P t:=by
  intro n
  induction n using Nat.strongRecOn with
  | _ n ih =>
    intro h
    by_cases g:∃ t,t<n∧P t
    · obtain ⟨t,h1,h2⟩:=g
      obtain ⟨d,h3,h4,h5⟩:=ih t h1 h2
      exact ⟨d,h3,by omega,h5⟩
    · exact ⟨n,h,Nat.le_refl _,fun t ht hp=>g ⟨t,ht,hp⟩⟩
theorem sym_count {f:List Int}{d:Nat}(hd:0<d) (hs:∀ s,s<f.length→(symB f s=true↔s % d=0)):∀ k,k≤f.length→(symL f k).length=(k+(d-1))/d
  | 0,_=>by
    rw [Nat.zero_add,Nat.div_eq_of_lt (by omega)];rfl
  | k+1,h=>by
    have ih:=sym_count hd hs k (by omega)
    have hk:=hs k (by omega)
    have h1:=Nat.div_add_mod k d
    have h2:=Nat.mod_lt k hd
    have e1:symL f (k+1)=symL f k++(if symB f k=true then [k] else []):=by
      unfold symL
      rw [List.range_succ,List.filter_append,List.filter_cons,List.filter_nil]
    have e2:(k+1+(d-1))/d=k/d+1:=by
      rw [show k+1+(d-1)=k+d by omega,Nat.add_div_right _ hd]
    rw [e1,List.length_append,ih,e2]
    by_cases hz:k % d=0
    · rw [if_pos (hk.2 hz)]
      have:(k+(d-1))/d=k/d:=by
        refine Nat.div_eq_of_lt_le ?_ ?_
        · rw [Nat.mul_comm];omega
        · rw [Nat.succ_mul,Nat.mul_comm];omega
      rw [this];rfl
    · rw [if_neg (fun e=>hz (hk.1 e))]
      refine Nat.div_eq_of_lt_le ?_ ?_
      · rw [Nat.succ_mul,Nat.mul_comm];omega
      · rw [Nat.succ_mul,Nat.succ_mul,Nat.mul_comm];omega
theorem per_spec {f:List Int}(hn:0<f.length):0<perF f∧perF f≤f.length∧f.length % perF f=0∧PerB f (perF f)∧0<(symL f f.length).length:=by
  obtain ⟨d,⟨h1,h2⟩,h3,h4⟩:=least_nat (P:=fun d=>0<d∧PerB f d) f.length ⟨hn,per_n⟩
  have hdv:∀ t,PerB f t→t % d=0:=fun t ht=>by
    have e:=Nat.div_add_mod t d
    have hl:=Nat.mod_lt t h1
    rw [← e] at ht
    have hp:=per_sub ht (per_mul h2 _)
    have:=h4 (t % d) hl
    by_cases hz:t % d=0
    · exact hz
    · exact (this ⟨by omega,hp⟩).elim
  have hmul:∀ t,t % d=0→PerB f t:=fun t ht=>by
    have e:=Nat.div_add_mod t d
    rw [ht,Nat.add_zero] at e
    rw [← e]
    exact per_mul h2 _
  have hnd:=hdv _ (per_n (f:=f))
  have hs:∀ s,s<f.length→(symB f s=true↔s % d=0):=fun s hs=>by
    rw [sym_iff (by omega)]
    have e1:=Nat.div_add_mod f.length d
    have e2:=Nat.div_add_mod s d
    refine ⟨fun h=>?_,fun h=>?_⟩
    · have hp:PerB f s:=per_sub (t:=f.length-s) (by rw [show f.length-s+s=f.length by omega];exact per_n) h
      exact hdv _ hp
    · exact per_sub (t:=s) (by rw [show s+(f.length-s)=f.length by omega];exact per_n) (hmul _ h)
  have hq:=Nat.div_add_mod f.length d
  rw [hnd,Nat.add_zero] at hq
  have hcnt:(symL f f.length).length=f.length/d:=by
    rw [sym_count h1 hs _ (Nat.le_refl _)]
    refine Nat.div_eq_of_lt_le ?_ ?_
    · rw [Nat.mul_comm,hq];omega
    · rw [Nat.succ_mul,Nat.mul_comm,hq];omega
  have hpos:0<f.length/d:=Nat.div_pos h3 h1
  have hp:perF f=d:=by
    unfold perF
    rw [hcnt]
    refine Nat.div_eq_of_lt_le ?_ ?_
    · exact Nat.le_of_eq hq
    · rw [Nat.succ_mul,hq];omega
  rw [hp,hcnt]
  exact ⟨h1,h3,hnd,h2,hpos⟩
section
variable {p:Pat}
theorem lift_plen:p.lift.length=p.ros.length:=lift_len _ _
end
def wovF (p:Pat) (k:Nat):List (List Int):=(List.range k).map fun (j:Nat)=>p.cut (j:Int)
theorem wov_len (p:Pat) (k:Nat):(wovF p k).length=k:=by simp [wovF]
theorem wov_succ (p:Pat) (k:Nat):wovF p (k+1)=wovF p k++[p.cut (k:Int)]:=by simp [wovF,List.range_succ]
end Go.Proofs.YtloaefllpokkaaaGreat
