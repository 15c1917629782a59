/- Parts of the proof: a layer of values over the model, and contracts of functions. No condition. -/
import Derived.Test.YtbilpbabdgfblaaGreatKHc19
set_option maxHeartbeats 16000000
set_option linter.unusedSimpArgs false
set_option linter.unusedVariables false
namespace Go.Proofs.YtbilpbabdgfblaaGreat
open Go.RowKit
section
variable (h:Hse) (j:Job)
theorem rorder_own (hV:HValid h) (hd:0≤j.design∧j.design<(h.designs.length:Int)) (ho:j.client=(el h.designs j.design.toNat).owner):ACalls Tryz.prog 89 [hseV h,j.enc] (hseR h) (RDeed (takeF h j) (takeE h j)) NoP:=by
  have hF:takeF h j=(withOL h h.lics (h.orders++[newOrd j])):=by unfold takeF takeL;rw [if_pos (show j.client=ownerOf h j.design from ho)];rfl
  rw [hF]
  refine acalls_sub (R:=fun v H'=>∃ v' H'',SubOf 7 1 [(0,v)] H' [(0,v')] H''∧RDeed _ (takeE h j) v' H'') (Rp:=NoP) ?_ (fun _ _ h=>h) (fun _ _ h=>h.elim)
  have hll:=hV.few.2.1
  have hol:=hV.few.2.2
  refine acalls_of_aw Tryz.func89 rfl (dc rfl) ?_
  (repeat' (first|(refine ar_isq ?_;refine zq ?_)|(refine zbt ?_)|(refine zpv fn136 (rclient_p _) ?_)|(refine zpv fn45 (hwithin_p _ _ _) ?_)|refine zg ?_ ?_|refine zgu ?_|refine zst ?_|refine aw_drawn (id:=10) [(0,0),(1,0),(2,0),(3,0),(4,0),(5,0),(6,0),(7,0),(8,0),(9,0),(10,0)] mixed (by kernel_rfl) ?_|refine aw_drawn (id:=16) [(0,0),(1,0),(2,0),(3,0),(4,0),(5,0),(6,0),(7,0),(8,0),(9,0),(10,0),(11,0),(12,0),(13,0),(14,2)] mixed (by kernel_rfl) ?_|refine zco ?_ ?_|(refine fun (hg:(_:Prop))=>?_;first|exact absurd hg (by decide)|((try replace hg:=HG.out hg);(try dsimp only at hg);(try rw [withinB_iff] at hg);(try rw [withinB_no] at hg);(try (have _h:True:=hg;clear _h hg));first|(exfalso;omega)|skip))))
  all_goals first
    | ((refine aw_mono_r (env':=[(4,.ptr 10 7 0 0),(5,vi (2))]) (H':=[.dead,.dead,.dead,.dead,.dead,.dead,.dead,.arr 10 1 (fun _=>noHse.enc)]) ?_ ?_;(focus (exact zsl [some 0,some 1,some 2,some 3,some 4,some 5,some 6,some 9] [])));refine aw_ret ?_;(repeat (first|refine ret_then ?_|refine ret_block ?_));exact hret rfl rfl (rdeed_bad (takeE_2 hd (fun hx=>by first|exact absurd hx.1 (by assumption)|exact absurd hx.2 (by assumption))) (by decide)))
    | skip
  refine aw_for h.lics.length (fun _=>True) (fun k=>[(2,.ptr 10 7 0 0),(3,.ptr 16 8 0 0),(4,.ptr 10 9 0 0),(5,vi 0),(6,vi (byAt h j k)),(7,vi ((h.lics.length:Int)-1-k))]) (fun _=>[LB 5 Itm.enc h.store.items,LB 2 Prt.enc h.store.prints,LB 7 Dsn.enc h.designs,LB 4 Lic.enc h.lics,LB 4 Ordr.enc h.orders,LB 1 vi h.made,LB 1 vi h.fors,.arr 10 1 (fun _=>hseV h),.arr 16 1 (fun _=>j.enc),.arr 10 1 (fun _=>noHv)]) trivial ?_ ?_
  · (exact zsc [some 0,some 1,some 2,some 3,some 4,some 5,some 6,some 7,some 8,some 9] [])
  intro k hk _
  by_cases hlt:k<h.lics.length
  · have hix:((h.lics.length:Int)-1-k).toNat=h.lics.length-1-k:=by omega
    (repeat' (first|(refine ar_isq ?_;refine zq ?_)|refine zil (j:=(h.lics.length-1-k)) ?_|refine zis (j:=(h.lics.length-1-k)) ?_|refine zit (j:=(h.lics.length-1-k)) ?_|(refine zbt ?_)|refine zg ?_ ?_|refine zgu ?_|refine zst ?_|refine aw_drawn (id:=10) [(0,0),(1,0),(2,0),(3,0),(4,0),(5,0),(6,0),(7,0),(8,0),(9,0),(10,0)] mixed (by kernel_rfl) ?_|refine aw_drawn (id:=16) [(0,0),(1,0),(2,0),(3,0),(4,0),(5,0),(6,0),(7,0),(8,0),(9,0),(10,0),(11,0),(12,0),(13,0),(14,2)] mixed (by kernel_rfl) ?_|refine zco ?_ ?_|(refine fun (hg:(_:Prop))=>?_;first|exact absurd hg (by decide)|((try replace hg:=HG.out hg);(try dsimp only at hg);(try rw [withinB_iff] at hg);(try rw [withinB_no] at hg);(try (have _h:True:=hg;clear _h hg));first|(exfalso;omega)|skip))))
    · rw [show byAt h j (k+1)=((h.lics.length-1-k:Nat):Int) by rw [byAt,if_pos (allow_iff.2 ⟨by assumption,by assumption,by assumption,by assumption⟩)]]
      ((first|refine loop_next (by omega) ?_ ?_|refine (show _∧_∧SubOf _ _ _ _ _ _ from And.intro (by omega) (And.intro ?_ ?_)));(focus ((trivial);done));(focus (exact zsc [some 0,some 1,some 2,some 3,some 4,some 5,some 6,some 7,some 8,some 9] [])))
    all_goals
      rw [show byAt h j (k+1)=byAt h j k by rw [byAt,if_neg (fun hx=>by obtain ⟨x1,x2,x3,x4⟩:=allow_iff.1 hx;first|exact absurd x1 (by assumption)|exact absurd x2 (by assumption)|exact absurd x3 (by assumption)|exact absurd x4 (by assumption))]]
      ((first|refine loop_next (by omega) ?_ ?_|refine (show _∧_∧SubOf _ _ _ _ _ _ from And.intro (by omega) (And.intro ?_ ?_)));(focus ((trivial);done));(focus (exact zsc [some 0,some 1,some 2,some 3,some 4,some 5,some 6,some 7,some 8,some 9] [])))
  · obtain rfl:k=h.lics.length:=by omega
    (repeat' (first|(refine ar_isq ?_;refine zq ?_)|refine zil (j:=j.design.toNat) ?_|refine zis (j:=j.design.toNat) ?_|refine zit (j:=j.design.toNat) ?_|(refine zbt ?_)|refine zg ?_ ?_|refine zgu ?_|refine zst ?_|refine aw_drawn (id:=10) [(0,0),(1,0),(2,0),(3,0),(4,0),(5,0),(6,0),(7,0),(8,0),(9,0),(10,0)] mixed (by kernel_rfl) ?_|refine aw_drawn (id:=16) [(0,0),(1,0),(2,0),(3,0),(4,0),(5,0),(6,0),(7,0),(8,0),(9,0),(10,0),(11,0),(12,0),(13,0),(14,2)] mixed (by kernel_rfl) ?_|refine zco ?_ ?_|(refine fun (hg:(_:Prop))=>?_;first|exact absurd hg (by decide)|((try replace hg:=HG.out hg);(try dsimp only at hg);(try rw [withinB_iff] at hg);(try rw [withinB_no] at hg);(try (have _h:True:=hg;clear _h hg));first|(exfalso;omega)|skip))))
    all_goals first
      | (exfalso;omega)
      | exact absurd ho (by assumption)
      | ((refine aw_mono_r (env':=[(4,.ptr 10 7 0 0),(5,vi (9))]) (H':=[.dead,.dead,.dead,.dead,.dead,.dead,.dead,.arr 10 1 (fun _=>noHse.enc)]) ?_ ?_;(focus (exact zsl [some 0,some 1,some 2,some 3,some 4,some 5,some 6,some 9] [])));refine aw_ret ?_;(repeat (first|refine ret_then ?_|refine ret_block ?_));exact hret rfl rfl (rdeed_bad (takeE_4 hd ⟨by assumption,by assumption⟩ (fun x=>x.1 ho) (by omega)) (by decide)))
      | ((refine aw_mono_r (env':=[(4,.ptr 10 14 0 0),(5,vi 0)]) (H':=[.dead,.dead,.dead,.dead,.dead,.dead,.dead,LB 5 Itm.enc (withOL h h.lics (h.orders++[newOrd j])).store.items,LB 2 Prt.enc (withOL h h.lics (h.orders++[newOrd j])).store.prints,LB 7 Dsn.enc (withOL h h.lics (h.orders++[newOrd j])).designs,LB 4 Lic.enc (withOL h h.lics (h.orders++[newOrd j])).lics,LB 4 Ordr.enc (withOL h h.lics (h.orders++[newOrd j])).orders,LB 1 vi (withOL h h.lics (h.orders++[newOrd j])).made,LB 1 vi (withOL h h.lics (h.orders++[newOrd j])).fors,.arr 10 1 (fun _=>hseXV (withOL h h.lics (h.orders++[newOrd j])))]) ?_ ?_;(focus ((refine sub_toL [some 0,some 1,some 2,some 3,some 4,some 5,some 6,some 0,some 1,some 2,some 3,some 11,some 5,some 6,some 9] [] rfl ?_ ?_<;>(repeat' (first|exact trivial|refine ⟨⟨_,rfl,?_⟩,?_⟩|refine vs1 ?_ ?_|refine vs2 ?_ ?_|refine vs3 ?_|refine vs4 ?_ ?_|refine ⟨.inl ⟨_,_,rfl,rfl,?_⟩,?_⟩|exact ⟨.inr ⟨rfl,rfl⟩,trivial⟩|refine ⟨.inr ⟨rfl,rfl⟩,?_⟩|(intro _ _)|exact vz1|(first|refine ⟨trivial,?_⟩|exact VSub.aggL ⟨.closed rfl,.closed rfl,.closed rfl,.sl rfl,.sl rfl,.sl rfl,.sl rfl,slEq rfl (by first|rfl|simp [archF,licnF,takeF,takeL,engvF,workF,runF,giveF,withS,withOL]),.sl rfl,.sl rfl,trivial⟩)|exact vz2|fail)));done)));refine aw_ret ?_;(repeat (first|refine ret_then ?_|refine ret_block ?_));exact hret rfl rfl (rdeed_ok (takeE_5 hd ⟨by assumption,by assumption⟩ (fun x=>x.1 ho) (by omega))))
      | trace_state
theorem rorder_none (hV:HValid h) (hd:0≤j.design∧j.design<(h.designs.length:Int)) (ho:¬ j.client=(el h.designs j.design.toNat).owner) (hl:licOf h j=none) (hb:byAt h j h.lics.length=-1):ACalls Tryz.prog 89 [hseV h,j.enc] (hseR h) (RDeed (takeF h j) (takeE h j)) NoP:=by
  have hl2:=hl
  refine acalls_sub (R:=fun v H'=>∃ v' H'',SubOf 7 1 [(0,v)] H' [(0,v')] H''∧RDeed _ (takeE h j) v' H'') (Rp:=NoP) ?_ (fun _ _ h=>h) (fun _ _ h=>h.elim)
  have hll:=hV.few.2.1
  have hol:=hV.few.2.2
  refine acalls_of_aw Tryz.func89 rfl (dc rfl) ?_
  (repeat' (first|(refine ar_isq ?_;refine zq ?_)|(refine zbt ?_)|(refine zpv fn136 (rclient_p _) ?_)|(refine zpv fn45 (hwithin_p _ _ _) ?_)|refine zg ?_ ?_|refine zgu ?_|refine zst ?_|refine aw_drawn (id:=10) [(0,0),(1,0),(2,0),(3,0),(4,0),(5,0),(6,0),(7,0),(8,0),(9,0),(10,0)] mixed (by kernel_rfl) ?_|refine aw_drawn (id:=16) [(0,0),(1,0),(2,0),(3,0),(4,0),(5,0),(6,0),(7,0),(8,0),(9,0),(10,0),(11,0),(12,0),(13,0),(14,2)] mixed (by kernel_rfl) ?_|refine zco ?_ ?_|(refine fun (hg:(_:Prop))=>?_;first|exact absurd hg (by decide)|((try replace hg:=HG.out hg);(try dsimp only at hg);(try rw [withinB_iff] at hg);(try rw [withinB_no] at hg);(try (have _h:True:=hg;clear _h hg));first|(exfalso;omega)|skip))))
  all_goals first
    | ((refine aw_mono_r (env':=[(4,.ptr 10 7 0 0),(5,vi (2))]) (H':=[.dead,.dead,.dead,.dead,.dead,.dead,.dead,.arr 10 1 (fun _=>noHse.enc)]) ?_ ?_;(focus (exact zsl [some 0,some 1,some 2,some 3,some 4,some 5,some 6,some 9] [])));refine aw_ret ?_;(repeat (first|refine ret_then ?_|refine ret_block ?_));exact hret rfl rfl (rdeed_bad (takeE_2 hd (fun hx=>by first|exact absurd hx.1 (by assumption)|exact absurd hx.2 (by assumption))) (by decide)))
    | skip
  refine aw_for h.lics.length (fun _=>True) (fun k=>[(2,.ptr 10 7 0 0),(3,.ptr 16 8 0 0),(4,.ptr 10 9 0 0),(5,vi 0),(6,vi (byAt h j k)),(7,vi ((h.lics.length:Int)-1-k))]) (fun _=>[LB 5 Itm.enc h.store.items,LB 2 Prt.enc h.store.prints,LB 7 Dsn.enc h.designs,LB 4 Lic.enc h.lics,LB 4 Ordr.enc h.orders,LB 1 vi h.made,LB 1 vi h.fors,.arr 10 1 (fun _=>hseV h),.arr 16 1 (fun _=>j.enc),.arr 10 1 (fun _=>noHv)]) trivial ?_ ?_
  · (exact zsc [some 0,some 1,some 2,some 3,some 4,some 5,some 6,some 7,some 8,some 9] [])
  intro k hk _
  by_cases hlt:k<h.lics.length
  · have hix:((h.lics.length:Int)-1-k).toNat=h.lics.length-1-k:=by omega
    (repeat' (first|(refine ar_isq ?_;refine zq ?_)|refine zil (j:=(h.lics.length-1-k)) ?_|refine zis (j:=(h.lics.length-1-k)) ?_|refine zit (j:=(h.lics.length-1-k)) ?_|(refine zbt ?_)|refine zg ?_ ?_|refine zgu ?_|refine zst ?_|refine aw_drawn (id:=10) [(0,0),(1,0),(2,0),(3,0),(4,0),(5,0),(6,0),(7,0),(8,0),(9,0),(10,0)] mixed (by kernel_rfl) ?_|refine aw_drawn (id:=16) [(0,0),(1,0),(2,0),(3,0),(4,0),(5,0),(6,0),(7,0),(8,0),(9,0),(10,0),(11,0),(12,0),(13,0),(14,2)] mixed (by kernel_rfl) ?_|refine zco ?_ ?_|(refine fun (hg:(_:Prop))=>?_;first|exact absurd hg (by decide)|((try replace hg:=HG.out hg);(try dsimp only at hg);(try rw [withinB_iff] at hg);(try rw [withinB_no] at hg);(try (have _h:True:=hg;clear _h hg));first|(exfalso;omega)|skip))))
    · rw [show byAt h j (k+1)=((h.lics.length-1-k:Nat):Int) by rw [byAt,if_pos (allow_iff.2 ⟨by assumption,by assumption,by assumption,by assumption⟩)]]
      ((first|refine loop_next (by omega) ?_ ?_|refine (show _∧_∧SubOf _ _ _ _ _ _ from And.intro (by omega) (And.intro ?_ ?_)));(focus ((trivial);done));(focus (exact zsc [some 0,some 1,some 2,some 3,some 4,some 5,some 6,some 7,some 8,some 9] [])))
    all_goals
      rw [show byAt h j (k+1)=byAt h j k by rw [byAt,if_neg (fun hx=>by obtain ⟨x1,x2,x3,x4⟩:=allow_iff.1 hx;first|exact absurd x1 (by assumption)|exact absurd x2 (by assumption)|exact absurd x3 (by assumption)|exact absurd x4 (by assumption))]]
      ((first|refine loop_next (by omega) ?_ ?_|refine (show _∧_∧SubOf _ _ _ _ _ _ from And.intro (by omega) (And.intro ?_ ?_)));(focus ((trivial);done));(focus (exact zsc [some 0,some 1,some 2,some 3,some 4,some 5,some 6,some 7,some 8,some 9] [])))
  · obtain rfl:k=h.lics.length:=by omega
    (repeat' (first|(refine ar_isq ?_;refine zq ?_)|refine zil (j:=j.design.toNat) ?_|refine zis (j:=j.design.toNat) ?_|refine zit (j:=j.design.toNat) ?_|(refine zbt ?_)|refine zg ?_ ?_|refine zgu ?_|refine zst ?_|refine aw_drawn (id:=10) [(0,0),(1,0),(2,0),(3,0),(4,0),(5,0),(6,0),(7,0),(8,0),(9,0),(10,0)] mixed (by kernel_rfl) ?_|refine aw_drawn (id:=16) [(0,0),(1,0),(2,0),(3,0),(4,0),(5,0),(6,0),(7,0),(8,0),(9,0),(10,0),(11,0),(12,0),(13,0),(14,2)] mixed (by kernel_rfl) ?_|refine zco ?_ ?_|(refine fun (hg:(_:Prop))=>?_;first|exact absurd hg (by decide)|((try replace hg:=HG.out hg);(try dsimp only at hg);(try rw [withinB_iff] at hg);(try rw [withinB_no] at hg);(try (have _h:True:=hg;clear _h hg));first|(exfalso;omega)|skip))))
    all_goals first
      | (exfalso;omega)
      | exact absurd (by assumption) ho
      | ((refine aw_mono_r (env':=[(4,.ptr 10 7 0 0),(5,vi (102))]) (H':=[.dead,.dead,.dead,.dead,.dead,.dead,.dead,.arr 10 1 (fun _=>noHse.enc)]) ?_ ?_;(focus (exact zsl [some 0,some 1,some 2,some 3,some 4,some 5,some 6,some 9] [])));refine aw_ret ?_;(repeat (first|refine ret_then ?_|refine ret_block ?_));exact hret rfl rfl (rdeed_bad (takeE_3 hd ⟨by assumption,by assumption⟩ ⟨ho,hl⟩) (by decide)))
      | trace_state
theorem rorder_some (hV:HValid h) (hd:0≤j.design∧j.design<(h.designs.length:Int)) (ho:¬ j.client=(el h.designs j.design.toNat).owner) (i:Nat) (hi:i<h.lics.length) (hl:licOf h j=some i) (hb:byAt h j h.lics.length=i):ACalls Tryz.prog 89 [hseV h,j.enc] (hseR h) (RDeed (takeF h j) (takeE h j)) NoP:=by
  have hF:takeF h j=(withOL h (h.lics.set i (lessLic (el h.lics i) j.n)) (h.orders++[newOrd j])):=by unfold takeF takeL;rw [if_neg (show ¬ j.client=ownerOf h j.design from ho),hl];rfl
  rw [hF]
  have hli:=(hV.lics i hi).2.2.2.2
  refine acalls_sub (R:=fun v H'=>∃ v' H'',SubOf 7 1 [(0,v)] H' [(0,v')] H''∧RDeed _ (takeE h j) v' H'') (Rp:=NoP) ?_ (fun _ _ h=>h) (fun _ _ h=>h.elim)
  have hll:=hV.few.2.1
  have hol:=hV.few.2.2
  refine acalls_of_aw Tryz.func89 rfl (dc rfl) ?_
  (repeat' (first|(refine ar_isq ?_;refine zq ?_)|(refine zbt ?_)|(refine zpv fn136 (rclient_p _) ?_)|(refine zpv fn45 (hwithin_p _ _ _) ?_)|refine zg ?_ ?_|refine zgu ?_|refine zst ?_|refine aw_drawn (id:=10) [(0,0),(1,0),(2,0),(3,0),(4,0),(5,0),(6,0),(7,0),(8,0),(9,0),(10,0)] mixed (by kernel_rfl) ?_|refine aw_drawn (id:=16) [(0,0),(1,0),(2,0),(3,0),(4,0),(5,0),(6,0),(7,0),(8,0),(9,0),(10,0),(11,0),(12,0),(13,0),(14,2)] mixed (by kernel_rfl) ?_|refine zco ?_ ?_|(refine fun (hg:(_:Prop))=>?_;first|exact absurd hg (by decide)|((try replace hg:=HG.out hg);(try dsimp only at hg);(try rw [withinB_iff] at hg);(try rw [withinB_no] at hg);(try (have _h:True:=hg;clear _h hg));first|(exfalso;omega)|skip))))
  all_goals first
    | ((refine aw_mono_r (env':=[(4,.ptr 10 7 0 0),(5,vi (2))]) (H':=[.dead,.dead,.dead,.dead,.dead,.dead,.dead,.arr 10 1 (fun _=>noHse.enc)]) ?_ ?_;(focus (exact zsl [some 0,some 1,some 2,some 3,some 4,some 5,some 6,some 9] [])));refine aw_ret ?_;(repeat (first|refine ret_then ?_|refine ret_block ?_));exact hret rfl rfl (rdeed_bad (takeE_2 hd (fun hx=>by first|exact absurd hx.1 (by assumption)|exact absurd hx.2 (by assumption))) (by decide)))
    | skip
  refine aw_for h.lics.length (fun _=>True) (fun k=>[(2,.ptr 10 7 0 0),(3,.ptr 16 8 0 0),(4,.ptr 10 9 0 0),(5,vi 0),(6,vi (byAt h j k)),(7,vi ((h.lics.length:Int)-1-k))]) (fun _=>[LB 5 Itm.enc h.store.items,LB 2 Prt.enc h.store.prints,LB 7 Dsn.enc h.designs,LB 4 Lic.enc h.lics,LB 4 Ordr.enc h.orders,LB 1 vi h.made,LB 1 vi h.fors,.arr 10 1 (fun _=>hseV h),.arr 16 1 (fun _=>j.enc),.arr 10 1 (fun _=>noHv)]) trivial ?_ ?_
  · (exact zsc [some 0,some 1,some 2,some 3,some 4,some 5,some 6,some 7,some 8,some 9] [])
  intro k hk _
  by_cases hlt:k<h.lics.length
  · have hix:((h.lics.length:Int)-1-k).toNat=h.lics.length-1-k:=by omega
    (repeat' (first|(refine ar_isq ?_;refine zq ?_)|refine zil (j:=(h.lics.length-1-k)) ?_|refine zis (j:=(h.lics.length-1-k)) ?_|refine zit (j:=(h.lics.length-1-k)) ?_|(refine zbt ?_)|refine zg ?_ ?_|refine zgu ?_|refine zst ?_|refine aw_drawn (id:=10) [(0,0),(1,0),(2,0),(3,0),(4,0),(5,0),(6,0),(7,0),(8,0),(9,0),(10,0)] mixed (by kernel_rfl) ?_|refine aw_drawn (id:=16) [(0,0),(1,0),(2,0),(3,0),(4,0),(5,0),(6,0),(7,0),(8,0),(9,0),(10,0),(11,0),(12,0),(13,0),(14,2)] mixed (by kernel_rfl) ?_|refine zco ?_ ?_|(refine fun (hg:(_:Prop))=>?_;first|exact absurd hg (by decide)|((try replace hg:=HG.out hg);(try dsimp only at hg);(try rw [withinB_iff] at hg);(try rw [withinB_no] at hg);(try (have _h:True:=hg;clear _h hg));first|(exfalso;omega)|skip))))
    · rw [show byAt h j (k+1)=((h.lics.length-1-k:Nat):Int) by rw [byAt,if_pos (allow_iff.2 ⟨by assumption,by assumption,by assumption,by assumption⟩)]]
      ((first|refine loop_next (by omega) ?_ ?_|refine (show _∧_∧SubOf _ _ _ _ _ _ from And.intro (by omega) (And.intro ?_ ?_)));(focus ((trivial);done));(focus (exact zsc [some 0,some 1,some 2,some 3,some 4,some 5,some 6,some 7,some 8,some 9] [])))
    all_goals
      rw [show byAt h j (k+1)=byAt h j k by rw [byAt,if_neg (fun hx=>by obtain ⟨x1,x2,x3,x4⟩:=allow_iff.1 hx;first|exact absurd x1 (by assumption)|exact absurd x2 (by assumption)|exact absurd x3 (by assumption)|exact absurd x4 (by assumption))]]
      ((first|refine loop_next (by omega) ?_ ?_|refine (show _∧_∧SubOf _ _ _ _ _ _ from And.intro (by omega) (And.intro ?_ ?_)));(focus ((trivial);done));(focus (exact zsc [some 0,some 1,some 2,some 3,some 4,some 5,some 6,some 7,some 8,some 9] [])))
  · obtain rfl:k=h.lics.length:=by omega
    (repeat' (first|(refine ar_isq ?_;refine zq ?_)|refine zil (j:=j.design.toNat) ?_|refine zis (j:=j.design.toNat) ?_|refine zit (j:=j.design.toNat) ?_|refine zil (j:=i) ?_|refine zis (j:=i) ?_|refine zit (j:=i) ?_|(refine zbt ?_)|refine zg ?_ ?_|refine zgu ?_|refine zst ?_|refine aw_drawn (id:=10) [(0,0),(1,0),(2,0),(3,0),(4,0),(5,0),(6,0),(7,0),(8,0),(9,0),(10,0)] mixed (by kernel_rfl) ?_|refine aw_drawn (id:=16) [(0,0),(1,0),(2,0),(3,0),(4,0),(5,0),(6,0),(7,0),(8,0),(9,0),(10,0),(11,0),(12,0),(13,0),(14,2)] mixed (by kernel_rfl) ?_|refine zco ?_ ?_|(refine fun (hg:(_:Prop))=>?_;first|exact absurd hg (by decide)|((try replace hg:=HG.out hg);(try dsimp only at hg);(try rw [withinB_iff] at hg);(try rw [withinB_no] at hg);(try (have _h:True:=hg;clear _h hg));first|(exfalso;omega)|skip))))
    all_goals first
      | (exfalso;omega)
      | exact absurd (by assumption) ho
      | ((refine aw_mono_r (env':=[(4,.ptr 10 7 0 0),(5,vi (9))]) (H':=[.dead,.dead,.dead,.dead,.dead,.dead,.dead,.arr 10 1 (fun _=>noHse.enc)]) ?_ ?_;(focus (exact zsl [some 0,some 1,some 2,some 3,some 4,some 5,some 6,some 9] [])));refine aw_ret ?_;(repeat (first|refine ret_then ?_|refine ret_block ?_));exact hret rfl rfl (rdeed_bad (takeE_4 hd ⟨by assumption,by assumption⟩ (fun x=>by rw [hl] at x;cases x.2) (by omega)) (by decide)))
      | ((refine aw_mono_r (env':=[(4,.ptr 10 14 0 0),(5,vi 0)]) (H':=[.dead,.dead,.dead,.dead,.dead,.dead,.dead,LB 5 Itm.enc (withOL h (h.lics.set i (lessLic (el h.lics i) j.n)) (h.orders++[newOrd j])).store.items,LB 2 Prt.enc (withOL h (h.lics.set i (lessLic (el h.lics i) j.n)) (h.orders++[newOrd j])).store.prints,LB 7 Dsn.enc (withOL h (h.lics.set i (lessLic (el h.lics i) j.n)) (h.orders++[newOrd j])).designs,LB 4 Lic.enc (withOL h (h.lics.set i (lessLic (el h.lics i) j.n)) (h.orders++[newOrd j])).lics,LB 4 Ordr.enc (withOL h (h.lics.set i (lessLic (el h.lics i) j.n)) (h.orders++[newOrd j])).orders,LB 1 vi (withOL h (h.lics.set i (lessLic (el h.lics i) j.n)) (h.orders++[newOrd j])).made,LB 1 vi (withOL h (h.lics.set i (lessLic (el h.lics i) j.n)) (h.orders++[newOrd j])).fors,.arr 10 1 (fun _=>hseXV (withOL h (h.lics.set i (lessLic (el h.lics i) j.n)) (h.orders++[newOrd j])))]) ?_ ?_;(focus ((refine sub_toL [some 0,some 1,some 2,some 3,some 4,some 5,some 6,some 0,some 1,some 2,some 3,some 11,some 5,some 6,some 9] [] rfl ?_ ?_<;>(repeat' (first|exact trivial|refine ⟨⟨_,rfl,?_⟩,?_⟩|refine vs1 ?_ ?_|refine vs2 ?_ ?_|refine vs3 ?_|refine vs4 ?_ ?_|refine ⟨.inl ⟨_,_,rfl,rfl,?_⟩,?_⟩|exact ⟨.inr ⟨rfl,rfl⟩,trivial⟩|refine ⟨.inr ⟨rfl,rfl⟩,?_⟩|(intro _ _)|exact vz1|(first|refine ⟨trivial,?_⟩|refine ⟨bsub_setC (lessLic (el h.lics i) j.n) rfl hi rfl rfl,?_⟩|exact VSub.aggL ⟨.closed rfl,.closed rfl,.closed rfl,.sl rfl,.sl rfl,.sl rfl,slEq rfl (by first|rfl|simp [archF,licnF,takeF,takeL,engvF,workF,runF,giveF,withS,withOL]),slEq rfl (by first|rfl|simp [archF,licnF,takeF,takeL,engvF,workF,runF,giveF,withS,withOL]),.sl rfl,.sl rfl,trivial⟩)|exact vz2|fail)));done)));refine aw_ret ?_;(repeat (first|refine ret_then ?_|refine ret_block ?_));exact hret rfl rfl (rdeed_ok (takeE_5 hd ⟨by assumption,by assumption⟩ (fun x=>by rw [hl] at x;cases x.2) (by omega))))
      | trace_state
theorem rorder_p (hV:HValid h) (hd:0≤j.design∧j.design<(h.designs.length:Int)):ACalls Tryz.prog 89 [hseV h,j.enc] (hseR h) (RDeed (takeF h j) (takeE h j)) NoP:=by
  by_cases ho:j.client=(el h.designs j.design.toNat).owner
  · exact rorder_own h j hV hd ho
  · rcases by_end (h:=h) (j:=j) with ⟨h1,h2⟩|⟨i,h1,h2,h3⟩
    · exact rorder_none h j hV hd ho h2 h1
    · exact rorder_some h j hV hd ho i h1 h3 h2
end
end Go.Proofs.YtbilpbabdgfblaaGreat
