/- Parts of the proof: a layer of values over the model, and contracts of functions. No condition. -/
import Derived.Test.YtbilpbabdgfblaaGreatKHc18
set_option maxHeartbeats 16000000
set_option linter.unusedSimpArgs false
set_option linter.unusedVariables false
namespace Go.Proofs.YtbilpbabdgfblaaGreat
open Go.RowKit
def hseX (h:Hse):Heap:=[.dead,.dead,.dead,.dead,.dead,.dead,.dead,LB 5 Itm.enc h.store.items,LB 2 Prt.enc h.store.prints,LB 7 Dsn.enc h.designs,LB 4 Lic.enc h.lics,LB 4 Ordr.enc h.orders,LB 1 vi h.made,LB 1 vi h.fors]
def hseXV (h:Hse):V:=.agg (shoC 7 8 9 10 11 12 13 h)
def rdF (h':Hse) (e:Int):Hse:=if e=0 then h' else noHse
def RDeed (h':Hse) (e:Int) (v:V) (H:Heap):Prop:=v=.tup [(rdF h' e).enc,vi e]∧H=[.dead,.dead,.dead,.dead,.dead,.dead,.dead]
theorem rdeed_bad {h':Hse}{e x:Int}{B:Blk}(he:e=x) (hx:x≠0):∃ v' H'',SubOf 7 1 [(0,.tup [noHse.enc,vi x])] [.dead,.dead,.dead,.dead,.dead,.dead,.dead,B] [(0,v')] H''∧RDeed h' e v' H'':=by
  subst he
  refine ⟨_,_,?_,by unfold rdF;rw [if_neg hx],rfl⟩
  (exact zsc [some 0,some 1,some 2,some 3,some 4,some 5,some 6] [])
theorem rdeed_ok {h':Hse}{e:Int}{B:Blk}(he:e=0):∃ v' H'',SubOf 7 1 [(0,.tup [hseXV h',vi 0])] (hseX h'++[B]) [(0,v')] H''∧RDeed h' e v' H'':=by
  subst he
  refine ⟨.tup [h'.enc,vi 0],_,?_,by unfold rdF;rw [if_pos rfl],rfl⟩
  unfold hseX
  (exact zsl [some 0,some 1,some 2,some 3,some 4,some 5,some 6] [7,8,9,10,11,12,13])
def hseY (h:Hse):Heap:=[.dead,.dead,.dead,.dead,.dead,.dead,.dead,LB 7 Dsn.enc h.designs,LB 4 Lic.enc h.lics,LB 4 Ordr.enc h.orders,LB 1 vi h.made,LB 1 vi h.fors]
def hseYV (h:Hse):V:=.agg [vi h.per,vi h.day,vi h.store.life,LV 5 Itm.enc h.store.items,LV 2 Prt.enc h.store.prints,.sl 7 7 0 h.designs.length,.sl 4 8 0 h.lics.length,.sl 4 9 0 h.orders.length,.sl 1 10 0 h.made.length,.sl 1 11 0 h.fors.length]
theorem rdeed_okY {h':Hse}{e:Int}{B:Blk}(he:e=0):∃ v' H'',SubOf 7 1 [(0,.tup [hseYV h',vi 0])] (hseY h'++[B]) [(0,v')] H''∧RDeed h' e v' H'':=by
  subst he
  refine ⟨.tup [h'.enc,vi 0],_,?_,by unfold rdF;rw [if_pos rfl],rfl⟩
  unfold hseY
  (exact zsl [some 0,some 1,some 2,some 3,some 4,some 5,some 6] [7,8,9,10,11])
theorem rclient_p (n:Int):PCalls Tryz.prog 136 [vi n] (·=vb (withinB n 0 50)):=by
  
  refine pcalls_of_aw Tryz.func136 rfl (dc rfl) ?_
  (repeat' (first|(refine ar_isq ?_;refine zq ?_)|(refine zpv fn45 (hwithin_p n 0 50) ?_)|refine zst ?_|refine zco ?_ ?_|exact zd|(refine fun (hg:(_:Prop))=>?_;(try replace hg:=HG.out hg);(try dsimp only at hg);(try (have _h:True:=hg;clear _h hg)))))
  (refine aw_ret ?_;(repeat (first|refine ret_then ?_|refine ret_block ?_));refine bq1 rfl ⟨?_,rfl⟩)
  rfl
section
variable (h:Hse) (j:Job)
theorem rarchive_p (hV:HValid h) (hb:SmallB j.band):ACalls Tryz.prog 87 [hseV h,j.enc] (hseR h) (RDeed (archF h j) (archE h j)) NoP:=by
  refine acalls_sub (R:=fun v H'=>∃ v' H'',SubOf 7 1 [(0,v)] H' [(0,v')] H''∧RDeed (archF h j) (archE h j) v' H'') (Rp:=NoP) ?_ (fun _ _ h=>h) (fun _ _ h=>h.elim)
  have hdl:=hV.few.1
  refine acalls_of_aw Tryz.func87 rfl (dc rfl) ?_
  (repeat' (first|(refine ar_isq ?_;refine zq ?_)|(refine zbt ?_)|(refine zpv fn136 (rclient_p _) ?_)|(refine zpv fn137 (rCheck_p j.sheet j.band) ?_)|(refine zpv fn49 (rband_p j.band hb) ?_)|(refine zpv fn95 (rdesign_p j.dsn) ?_)|refine ar_forkL ?_ ?_|refine ar_lq rfl ?_|refine zst ?_|refine aw_fork (id:=6) [[(8,1),(6,1),(7,0),(9,2)]] [(0,0),(1,0),(2,0),(3,0),(4,0),(5,0),(0,3),(6,1),(7,0),(8,1),(9,2)] mixed (by kernel_rfl) ?_|refine zco ?_ ?_|(refine fun (hg:(_:Prop))=>?_;first|exact absurd hg (by decide)|((try replace hg:=HG.out hg);(try dsimp only at hg);(try rw [withinB_iff] at hg);(try rw [withinB_no] at hg);(try (have _h:True:=hg;clear _h hg));first|(exfalso;omega)|skip))))
  all_goals first
    | ((refine aw_mono_r (env':=[(4,.ptr 10 7 0 0),(5,vi (2))]) (H':=[.dead,.dead,.dead,.dead,.dead,.dead,.dead,.arr 10 1 (fun _=>noHse.enc)]) ?_ ?_;(focus (exact zsl [some 0,some 1,some 2,some 3,some 4,some 5,some 6,some 9] [])));refine aw_ret ?_;(repeat (first|refine ret_then ?_|refine ret_block ?_));exact hret rfl rfl (rdeed_bad (archE_1 (by assumption)) (by decide)))
    | ((refine aw_mono_r (env':=[(4,.ptr 10 7 0 0),(5,vi (checkErr j.sheet j.band))]) (H':=[.dead,.dead,.dead,.dead,.dead,.dead,.dead,.arr 10 1 (fun _=>noHse.enc)]) ?_ ?_;(focus (exact zsl [some 0,some 1,some 2,some 3,some 4,some 5,some 6,some 9] [])));refine aw_ret ?_;(repeat (first|refine ret_then ?_|refine ret_block ?_));exact hret rfl rfl (rdeed_bad (archE_2 (by assumption) (by assumption)) (by assumption)))
    | ((refine aw_mono_r (env':=[(4,.ptr 10 7 0 0),(5,vi (101))]) (H':=[.dead,.dead,.dead,.dead,.dead,.dead,.dead,.arr 10 1 (fun _=>noHse.enc)]) ?_ ?_;(focus (exact zsl [some 0,some 1,some 2,some 3,some 4,some 5,some 6,some 9] [])));refine aw_ret ?_;(repeat (first|refine ret_then ?_|refine ret_block ?_));exact hret rfl rfl (rdeed_bad (archE_3 (by assumption) (by assumption) (by assumption)) (by decide)))
    | ((refine aw_mono_r (env':=[(4,.ptr 10 7 0 0),(5,vi (9))]) (H':=[.dead,.dead,.dead,.dead,.dead,.dead,.dead,.arr 10 1 (fun _=>noHse.enc)]) ?_ ?_;(focus (exact zsl [some 0,some 1,some 2,some 3,some 4,some 5,some 6,some 9] [])));refine aw_ret ?_;(repeat (first|refine ret_then ?_|refine ret_block ?_));exact hret rfl rfl (rdeed_bad (archE_4 (by assumption) (by assumption) (by assumption) (by omega)) (by decide)))
    | ((refine aw_mono_r (env':=[(4,.ptr 10 14 0 0),(5,vi 0)]) (H':=[.dead,.dead,.dead,.dead,.dead,.dead,.dead,LB 5 Itm.enc (archF h j).store.items,LB 2 Prt.enc (archF h j).store.prints,LB 7 Dsn.enc (archF h j).designs,LB 4 Lic.enc (archF h j).lics,LB 4 Ordr.enc (archF h j).orders,LB 1 vi (archF h j).made,LB 1 vi (archF h j).fors,.arr 10 1 (fun _=>hseXV (archF h j))]) ?_ ?_;(focus ((refine sub_toL [some 0,some 1,some 2,some 3,some 4,some 5,some 6,some 0,some 1,some 12,some 3,some 4,some 5,some 6,some 9] [] rfl ?_ ?_<;>(repeat' (first|exact trivial|refine ⟨⟨_,rfl,?_⟩,?_⟩|refine vs1 ?_ ?_|refine vs2 ?_ ?_|refine vs3 ?_|refine vs4 ?_ ?_|refine ⟨.inl ⟨_,_,rfl,rfl,?_⟩,?_⟩|exact ⟨.inr ⟨rfl,rfl⟩,trivial⟩|refine ⟨.inr ⟨rfl,rfl⟩,?_⟩|(intro _ _)|exact vz1|(first|refine ⟨trivial,?_⟩|exact VSub.aggL ⟨.closed rfl,.closed rfl,.closed rfl,.sl rfl,.sl rfl,slEq rfl (by first|rfl|simp [archF,licnF,takeF,takeL,engvF,workF,runF,giveF,withS,withOL]),.sl rfl,.sl rfl,.sl rfl,.sl rfl,trivial⟩)|exact vz2|fail)));done)));refine aw_ret ?_;(repeat (first|refine ret_then ?_|refine ret_block ?_));exact hret rfl rfl (rdeed_ok (archE_5 (by assumption) (by assumption) (by assumption) (by omega))))
    | trace_state
end
section
variable (h:Hse) (j:Job)
theorem rallow_p (hV:HValid h) (hd:0≤j.design∧j.design<(h.designs.length:Int)):ACalls Tryz.prog 88 [hseV h,j.enc] (hseR h) (RDeed (licnF h j) (licnE h j)) NoP:=by
  refine acalls_sub (R:=fun v H'=>∃ v' H'',SubOf 7 1 [(0,v)] H' [(0,v')] H''∧RDeed (licnF h j) (licnE h j) v' H'') (Rp:=NoP) ?_ (fun _ _ h=>h) (fun _ _ h=>h.elim)
  have hll:=hV.few.2.1
  refine acalls_of_aw Tryz.func88 rfl (dc rfl) ?_
  (repeat' (first|(refine ar_isq ?_;refine zq ?_)|refine zil (j:=j.design.toNat) ?_|refine zis (j:=j.design.toNat) ?_|refine zit (j:=j.design.toNat) ?_|(refine zbt ?_)|(refine zpv fn136 (rclient_p _) ?_)|(refine zpv fn45 (hwithin_p _ _ _) ?_)|refine zg ?_ ?_|refine zgu ?_|refine zst ?_|refine aw_drawn (id:=1) [(0,0),(1,0),(2,2),(3,0),(4,0),(5,0),(6,0),(7,0),(8,0),(9,0),(10,0),(11,0),(12,0),(13,0),(14,0),(15,0),(16,0),(17,0),(18,0),(19,2),(20,0),(21,0),(22,0),(23,0),(24,0),(25,0),(26,0),(27,2),(28,0),(29,0)] mixed (by kernel_rfl) ?_|refine aw_drawn (id:=1) [(0,0),(1,0),(2,1),(3,0),(4,0),(5,0),(6,0),(7,0),(8,0),(9,0),(10,0),(11,0),(12,0),(13,0),(14,0),(15,0),(16,0),(17,0),(18,0),(19,1),(20,0),(21,0),(22,0),(23,0),(24,0),(25,0),(26,0),(27,1),(28,0),(29,0)] mixed (by kernel_rfl) ?_|refine zco ?_ ?_|(refine fun (hg:(_:Prop))=>?_;first|exact absurd hg (by decide)|((try replace hg:=HG.out hg);(try dsimp only at hg);(try rw [withinB_iff] at hg);(try rw [withinB_no] at hg);(try (have _h:True:=hg;clear _h hg));first|(exfalso;omega)|skip))))
  all_goals first
    | (exfalso;omega)
    | ((refine aw_mono_r (env':=[(4,.ptr 10 7 0 0),(5,vi (2))]) (H':=[.dead,.dead,.dead,.dead,.dead,.dead,.dead,.arr 10 1 (fun _=>noHse.enc)]) ?_ ?_;(focus (exact zsl [some 0,some 1,some 2,some 3,some 4,some 5,some 6,some 9] [])));refine aw_ret ?_;(repeat (first|refine ret_then ?_|refine ret_block ?_));exact hret rfl rfl (rdeed_bad (licnE_2 hd (fun hx=>by obtain ⟨x1,x2,x3,x4⟩:=hx;first|exact absurd x1 (by assumption)|exact absurd x3 (by assumption)|exact absurd x4 (by assumption)|exact x2 (by assumption))) (by decide)))
    | ((refine aw_mono_r (env':=[(4,.ptr 10 7 0 0),(5,vi (9))]) (H':=[.dead,.dead,.dead,.dead,.dead,.dead,.dead,.arr 10 1 (fun _=>noHse.enc)]) ?_ ?_;(focus (exact zsl [some 0,some 1,some 2,some 3,some 4,some 5,some 6,some 9] [])));refine aw_ret ?_;(repeat (first|refine ret_then ?_|refine ret_block ?_));exact hret rfl rfl (rdeed_bad (licnE_3 hd ⟨by assumption,by assumption,by assumption,by assumption⟩ (by omega)) (by decide)))
    | ((refine aw_mono_r (env':=[(4,.ptr 10 14 0 0),(5,vi 0)]) (H':=[.dead,.dead,.dead,.dead,.dead,.dead,.dead,LB 5 Itm.enc (licnF h j).store.items,LB 2 Prt.enc (licnF h j).store.prints,LB 7 Dsn.enc (licnF h j).designs,LB 4 Lic.enc (licnF h j).lics,LB 4 Ordr.enc (licnF h j).orders,LB 1 vi (licnF h j).made,LB 1 vi (licnF h j).fors,.arr 10 1 (fun _=>hseXV (licnF h j))]) ?_ ?_;(focus ((refine sub_toL [some 0,some 1,some 2,some 3,some 4,some 5,some 6,some 0,some 1,some 2,some 11,some 4,some 5,some 6,some 9] [] rfl ?_ ?_<;>(repeat' (first|exact trivial|refine ⟨⟨_,rfl,?_⟩,?_⟩|refine vs1 ?_ ?_|refine vs2 ?_ ?_|refine vs3 ?_|refine vs4 ?_ ?_|refine ⟨.inl ⟨_,_,rfl,rfl,?_⟩,?_⟩|exact ⟨.inr ⟨rfl,rfl⟩,trivial⟩|refine ⟨.inr ⟨rfl,rfl⟩,?_⟩|(intro _ _)|exact vz1|(first|refine ⟨trivial,?_⟩|exact VSub.aggL ⟨.closed rfl,.closed rfl,.closed rfl,.sl rfl,.sl rfl,.sl rfl,slEq rfl (by first|rfl|simp [archF,licnF,takeF,takeL,engvF,workF,runF,giveF,withS,withOL]),.sl rfl,.sl rfl,.sl rfl,trivial⟩)|exact vz2|fail)));done)));refine aw_ret ?_;(repeat (first|refine ret_then ?_|refine ret_block ?_));exact hret rfl rfl (rdeed_ok (licnE_4 hd ⟨by assumption,by assumption,by assumption,by assumption⟩ (by omega))))
    | trace_state
end
section
variable {h:Hse}{j:Job}
def byAt (h:Hse) (j:Job):Nat→Int
  | 0=>-1
  | k+1=>if allowB h j (el h.lics (h.lics.length-1-k))=true then ((h.lics.length-1-k:Nat):Int) else byAt h j k
theorem licAt_none {n:Nat}(hn:∀ i,i<n→¬ allowB h j (el h.lics i)=true):licAt h j n=none:=by
  induction n with
  | zero=>rfl
  | succ n ih=>exact licAt_no (ih fun i hi=>hn i (by omega)) (hn n (by omega))
theorem by_spec:∀ k,k≤h.lics.length→(byAt h j k=-1∧∀ i,h.lics.length-k≤i→i<h.lics.length→¬ allowB h j (el h.lics i)=true)∨∃ i:Nat,h.lics.length-k≤i∧i<h.lics.length∧byAt h j k=i∧allowB h j (el h.lics i)=true∧∀ i',h.lics.length-k≤i'→i'<i→¬ allowB h j (el h.lics i')=true
  | 0,_=>.inl ⟨rfl,fun i h1 h2=>by omega⟩
  | k+1,hk=>by
    by_cases ha:allowB h j (el h.lics (h.lics.length-1-k))=true
    · refine .inr ⟨h.lics.length-1-k,by omega,by omega,?_,ha,fun i' h1 h2=>by omega⟩
      unfold byAt
      rw [if_pos ha]
    · have e:byAt h j (k+1)=byAt h j k:=by rw [byAt,if_neg ha]
      rcases by_spec k (by omega) with ⟨h1,h2⟩|⟨i,h1,h2,h3,h4,h5⟩
      · refine .inl ⟨e.trans h1,fun i hi hl=>?_⟩
        by_cases e2:i=h.lics.length-1-k
        · subst e2;exact ha
        · exact h2 i (by omega) hl
      · refine .inr ⟨i,by omega,h2,e.trans h3,h4,fun i' hi hl=>?_⟩
        by_cases e2:i'=h.lics.length-1-k
        · subst e2;exact ha
        · exact h5 i' (by omega) hl
theorem by_end:(byAt h j h.lics.length=-1∧licOf h j=none)∨∃ i:Nat,i<h.lics.length∧byAt h j h.lics.length=i∧licOf h j=some i:=by
  rcases by_spec (h:=h) (j:=j) _ (Nat.le_refl _) with ⟨h1,h2⟩|⟨i,h1,h2,h3,h4,h5⟩
  · exact .inl ⟨h1,licAt_none fun i hi=>h2 i (by omega) hi⟩
  · exact .inr ⟨i,h2,h3,licAt_yes (licAt_none fun i' hi=>h5 i' (by omega) hi) h4 h2⟩
end
end Go.Proofs.YtbilpbabdgfblaaGreat
