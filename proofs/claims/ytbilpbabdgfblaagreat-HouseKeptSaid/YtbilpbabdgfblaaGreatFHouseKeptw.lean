/- HouseKept: the walk of the law. No condition. -/
import Derived.Test.YtbilpbabdgfblaaGreatKJ720
set_option maxHeartbeats 16000000
set_option linter.unusedSimpArgs false
set_option linter.unusedVariables false
namespace Go.Proofs.YtbilpbabdgfblaaGreat
open Go.RowKit
theorem made_line {h:Hse}(hV:HValid h) {i:Int}(hi:0≤i∧i<(h.store.items.length:Int)):∀ k,k<lineN h.store.items i→el h.made (srcN h.store.items i k).toNat=el h.made i.toNat
  | 0,_=>rfl
  | k+1,hk=>by
    have hC:=chain_ok hV.store.2.1 hi
    obtain ⟨h1,h2⟩:=hC.at_ k (by omega)
    have ih:=made_line hV hi k (by omega)
    have:=(hV.made (srcN h.store.items i k).toNat (by omega)).2.1 (by omega)
    rw [← ih,this]
    rfl
/-- The tallies of prints in a state, by their orders. -/
def cmT (h:Hse) (st:Int):Nat→List (Int × Int)
  | 0=>[]
  | k+1=>if (el h.store.prints k).state=st then putE (cmT h st k) (el h.fors k) (getD0 (cmT h st k) (el h.fors k)+1) else cmT h st k
theorem cmT_get (h:Hse) (st n:Int):∀ k,getD0 (cmT h st k) n=doneTo h n st k
  | 0=>rfl
  | k+1=>by
    have ih:=cmT_get h st n k
    rw [doneTo_step,cmT]
    by_cases hs:(el h.store.prints k).state=st
    · rw [if_pos hs,getD0_put]
      by_cases hf:el h.fors k=n
      · rw [if_pos hf.symm,if_pos ⟨hf,hs⟩,hf,ih]
      · rw [if_neg (fun e=>hf e.symm),if_neg (fun e=>hf e.1),ih,Int.add_zero]
    · rw [if_neg hs,if_neg (fun e=>hs e.2),ih,Int.add_zero]
theorem cmT_yes {h:Hse}{st:Int}{k:Nat}(hs:(el h.store.prints k).state=st):cmT h st (k+1)=putE (cmT h st k) (el h.fors k) (getD0 (cmT h st k) (el h.fors k)+1):=by rw [cmT,if_pos hs]
theorem cmT_no {h:Hse}{st:Int}{k:Nat}(hs:¬ (el h.store.prints k).state=st):cmT h st (k+1)=cmT h st k:=by rw [cmT,if_neg hs]

set_option maxRecDepth 20000 in
theorem sound_p (h:Hse) (hV:HValid h):PCalls Tryz.prog 37 [h.enc] (·=vb true):=by
  have hs:=hsmall_of hV
  have hsm:=hs
  unfold HSmall at hsm
  have hF:=hV.forss
  have hmp:=hV.mades
  refine pcalls_of_aw Tryz.func37 rfl (Nat.le_of_ble_eq_true rfl) ?_
  (repeat' (first|(refine ar_isq ?_;refine zq ?_)|refine ar_makeMap (dc rfl) ?_|refine zg ?_ ?_|refine zgu ?_|refine zst ?_|refine aw_drawn (id:=14) [(0,0),(1,0),(2,0),(3,0),(4,0),(5,0),(6,0),(7,0),(8,0),(9,0),(10,0),(11,0)] mixed (by kernel_rfl) ?_|refine aw_drawn (id:=33) [(0,0),(1,0),(2,0),(3,0),(4,0),(5,0),(6,0),(7,0),(8,0),(9,1),(10,2)] mixed (by kernel_rfl) ?_|refine zco ?_ ?_|exact zd|(refine fun (hg:(_:Prop))=>?_;(try replace hg:=HG.out hg);(try dsimp only at hg);(try (have _h:True:=hg;clear _h hg)))))
  all_goals (try (exfalso;omega))
  refine aw_for h.fors.length (fun _=>True) (fun k=>[(1,.ref h.enc 0),(3,.map 0),(4,.map 1),(40,encInts h.fors),(41,vi h.fors.length),(42,vi k)]) (fun k=>[mapE vi (cmT h 1 k),mapE vi (cmT h 0 k)]) trivial ?_ ?_
  · (exact zscD [some 1,some 2] [0])
  intro k hk _
  by_cases hlt:k<h.fors.length
  · have hpr:=hV.store.2.2.2.1 k (by omega)
    have hpl:=hpr.1
    have hle:=lineE_ok hV.store hpl
    have hli:=pLine_p h.store (el h.store.prints k).plate
    rw [hle] at hli
    obtain ⟨ho,hd⟩:=hV.fors k hlt
    unfold inOrders at ho
    have hn3:lineN h.store.items (el h.store.prints k).plate=3:=by unfold lineN;rw [hpr.2.1];rfl
    have hLo:=line_ok hV.store hpl
    rw [← lineF_ok hle] at hLo
    have hLl:(lineF h.store (el h.store.prints k).plate).length=3:=by rw [lineF_ok hle,lineTo_len,hn3]
    have hmq:∀ q,q<(lineF h.store (el h.store.prints k).plate).length→el h.made (el (lineF h.store (el h.store.prints k).plate) q).toNat=(el h.orders (el h.fors k).toNat).design:=fun q hq=>by
      rw [hd,lineF_ok hle,lineTo_el (by omega)]
      exact made_line hV hpl _ (by omega)
    have g0:=cmT_get h 0 (el h.fors k) k
    have g1:=cmT_get h 1 (el h.fors k) k
    have b0:=doneTo_bnd h (el h.fors k) 0 k
    have b1:=doneTo_bnd h (el h.fors k) 1 k
    (repeat' (first|(refine ar_isq ?_;refine zq ?_)|refine zil (j:=k) ?_|refine zis (j:=k) ?_|refine zit (j:=k) ?_|(refine zpvD fn31 (hli) ?_)|refine zg ?_ ?_|refine zgu ?_|refine zst ?_|refine aw_drawn (id:=14) [(0,0),(1,0),(2,0),(3,0),(4,0),(5,0),(6,0),(7,0),(8,0),(9,0),(10,0),(11,0)] mixed (by kernel_rfl) ?_|refine aw_drawn (id:=33) [(0,0),(1,0),(2,0),(3,0),(4,0),(5,0),(6,0),(7,0),(8,0),(9,1),(10,2)] mixed (by kernel_rfl) ?_|refine zco ?_ ?_|exact zd|(refine fun (hg:(_:Prop))=>?_;(try replace hg:=HG.out hg);(try dsimp only at hg);(try (have _h:True:=hg;clear _h hg)))))
    all_goals (try (exfalso;omega))
    generalize hLe:lineF h.store (el h.store.prints k).plate=L at hLo hLl hmq
    refine aw_for L.length (fun _=>True) (fun q=>[(1,.ref h.enc 0),(3,.map 0),(4,.map 1),(5,vi k),(6,vi (el h.fors k)),(7,.ptr 2 2 0 0),(40,encInts h.fors),(41,vi h.fors.length),(42,vi k),(79,encInts L),(80,vi L.length),(81,vi q)]) (fun _=>[mapE vi (cmT h 1 k),mapE vi (cmT h 0 k),.arr 2 1 (fun _=>(el h.store.prints k).enc)]) trivial ?_ ?_
    · (exact zscD [some 0,some 1,some 2] [])
    intro q hq _
    by_cases hltq:q<L.length
    · have hin:=hLo.inside q hltq
      have hmq2:=hmq q hltq
      (repeat' (first|(refine ar_isq ?_;refine zq ?_)|refine zil (j:=q) ?_|refine zis (j:=q) ?_|refine zit (j:=q) ?_|refine zil (j:=(el L q).toNat) ?_|refine zis (j:=(el L q).toNat) ?_|refine zit (j:=(el L q).toNat) ?_|refine zil (j:=(el h.fors k).toNat) ?_|refine zis (j:=(el h.fors k).toNat) ?_|refine zit (j:=(el h.fors k).toNat) ?_|refine zg ?_ ?_|refine zgu ?_|refine zst ?_|refine aw_drawn (id:=14) [(0,0),(1,0),(2,0),(3,0),(4,0),(5,0),(6,0),(7,0),(8,0),(9,0),(10,0),(11,0)] mixed (by kernel_rfl) ?_|refine aw_drawn (id:=33) [(0,0),(1,0),(2,0),(3,0),(4,0),(5,0),(6,0),(7,0),(8,0),(9,1),(10,2)] mixed (by kernel_rfl) ?_|refine zco ?_ ?_|exact zd|(refine fun (hg:(_:Prop))=>?_;(try replace hg:=HG.out hg);(try dsimp only at hg);(try (have _h:True:=hg;clear _h hg)))))
      all_goals first
        | (exfalso;omega)
        | ((first|refine loop_next (by omega) ?_ ?_|refine (show _∧_∧SubOf _ _ _ _ _ _ from And.intro (by omega) (And.intro ?_ ?_)));(focus ((trivial);done));(focus (exact zscD [some 0,some 1,some 2] [])))
        | trace_state
    · obtain rfl:q=L.length:=by omega
      (repeat' (first|(refine ar_isq ?_;refine zq ?_)|refine ar_lookupD (ty rfl) rfl (ty rfl) rfl (ty rfl) rfl rfl rfl rfl (dc rfl) ?_|refine ar_mapUpdate (e:=vi) (v:=getD0 (cmT h 1 k) (el h.fors k)+1) (ty rfl) rfl (ty rfl) rfl rfl rfl rfl rfl ?_|refine ar_mapUpdate (e:=vi) (v:=getD0 (cmT h 0 k) (el h.fors k)+1) (ty rfl) rfl (ty rfl) rfl rfl rfl rfl rfl ?_|refine zg ?_ ?_|refine zgu ?_|refine zst ?_|refine aw_drawn (id:=14) [(0,0),(1,0),(2,0),(3,0),(4,0),(5,0),(6,0),(7,0),(8,0),(9,0),(10,0),(11,0)] mixed (by kernel_rfl) ?_|refine aw_drawn (id:=33) [(0,0),(1,0),(2,0),(3,0),(4,0),(5,0),(6,0),(7,0),(8,0),(9,1),(10,2)] mixed (by kernel_rfl) ?_|refine zco ?_ ?_|exact zd|(refine fun (hg:(_:Prop))=>?_;(try replace hg:=HG.out hg);(try dsimp only at hg);(try (have _h:True:=hg;clear _h hg)))))
      all_goals first
        | (exfalso;omega)
        | (refine loop_next hlt trivial ?_
           rw [cmT_yes (st:=1) (by assumption),cmT_no (st:=0) (by omega)]
           (exact zscD [some 0,some 1] []))
        | (refine loop_next hlt trivial ?_
           rw [cmT_no (st:=1) (by assumption),cmT_yes (st:=0) (by assumption)]
           (exact zscD [some 0,some 1] []))
        | (refine loop_next hlt trivial ?_
           rw [cmT_no (st:=1) (by assumption),cmT_no (st:=0) (by assumption)]
           (exact zscD [some 0,some 1] []))
        | trace_state
  · obtain rfl:k=h.fors.length:=by omega
    (repeat' (first|(refine ar_isq ?_;refine zq ?_)|refine zg ?_ ?_|refine zgu ?_|refine zst ?_|refine aw_drawn (id:=14) [(0,0),(1,0),(2,0),(3,0),(4,0),(5,0),(6,0),(7,0),(8,0),(9,0),(10,0),(11,0)] mixed (by kernel_rfl) ?_|refine aw_drawn (id:=33) [(0,0),(1,0),(2,0),(3,0),(4,0),(5,0),(6,0),(7,0),(8,0),(9,1),(10,2)] mixed (by kernel_rfl) ?_|refine zco ?_ ?_|exact zd|(refine fun (hg:(_:Prop))=>?_;(try replace hg:=HG.out hg);(try dsimp only at hg);(try (have _h:True:=hg;clear _h hg)))))
    all_goals (try (exfalso;omega))
    refine aw_for h.orders.length (fun _=>True) (fun k=>[(1,.ref h.enc 0),(3,.map 0),(4,.map 1),(114,encOrders h.orders),(115,vi h.orders.length),(116,vi k)]) (fun _=>[mapE vi (cmT h 1 h.fors.length),mapE vi (cmT h 0 h.fors.length)]) trivial ?_ ?_
    · (exact zscD [some 0,some 1] [])
    intro k hk _
    by_cases hlt:k<h.orders.length
    · have g0:getD0 (cmT h 0 h.fors.length) k=doneF h k 0:=cmT_get h 0 k _
      have g1:getD0 (cmT h 1 h.fors.length) k=doneF h k 1:=cmT_get h 1 k _
      obtain ⟨_,_,o3,o4,o5⟩:=hV.orders k hlt
      cases hdn:(el h.orders k).done
      · have o6:=o5 hdn
        (repeat' (first|(refine ar_isq ?_;refine zq ?_)|refine zil (j:=k) ?_|refine zis (j:=k) ?_|refine zit (j:=k) ?_|refine ar_lookupD (ty rfl) rfl (ty rfl) rfl (ty rfl) rfl rfl rfl rfl (dc rfl) ?_|refine zg ?_ ?_|refine zgu ?_|refine zst ?_|refine aw_drawn (id:=14) [(0,0),(1,0),(2,0),(3,0),(4,0),(5,0),(6,0),(7,0),(8,0),(9,0),(10,0),(11,0)] mixed (by kernel_rfl) ?_|refine aw_drawn (id:=33) [(0,0),(1,0),(2,0),(3,0),(4,0),(5,0),(6,0),(7,0),(8,0),(9,1),(10,2)] mixed (by kernel_rfl) ?_|refine zco ?_ ?_|exact zd|(refine fun (hg:(_:Prop))=>?_;(try replace hg:=HG.out hg);(try dsimp only at hg);(try (have _h:True:=hg;clear _h hg)))))
        all_goals first
          | (exfalso;omega)
          | (exfalso;simp_all;done)
          | ((first|refine loop_next (by omega) ?_ ?_|refine (show _∧_∧SubOf _ _ _ _ _ _ from And.intro (by omega) (And.intro ?_ ?_)));(focus ((trivial);done));(focus (exact zscD [some 0,some 1] [])))
          | trace_state
      · have o6:=o4 hdn
        (repeat' (first|(refine ar_isq ?_;refine zq ?_)|refine zil (j:=k) ?_|refine zis (j:=k) ?_|refine zit (j:=k) ?_|refine ar_lookupD (ty rfl) rfl (ty rfl) rfl (ty rfl) rfl rfl rfl rfl (dc rfl) ?_|refine zg ?_ ?_|refine zgu ?_|refine zst ?_|refine aw_drawn (id:=14) [(0,0),(1,0),(2,0),(3,0),(4,0),(5,0),(6,0),(7,0),(8,0),(9,0),(10,0),(11,0)] mixed (by kernel_rfl) ?_|refine aw_drawn (id:=33) [(0,0),(1,0),(2,0),(3,0),(4,0),(5,0),(6,0),(7,0),(8,0),(9,1),(10,2)] mixed (by kernel_rfl) ?_|refine zco ?_ ?_|exact zd|(refine fun (hg:(_:Prop))=>?_;(try replace hg:=HG.out hg);(try dsimp only at hg);(try (have _h:True:=hg;clear _h hg)))))
        all_goals first
          | (exfalso;omega)
          | (exfalso;simp_all;done)
          | ((first|refine loop_next (by omega) ?_ ?_|refine (show _∧_∧SubOf _ _ _ _ _ _ from And.intro (by omega) (And.intro ?_ ?_)));(focus ((trivial);done));(focus (exact zscD [some 0,some 1] [])))
          | trace_state
    · obtain rfl:k=h.orders.length:=by omega
      (repeat' (first|(refine ar_isq ?_;refine zq ?_)|refine zg ?_ ?_|refine zgu ?_|refine zst ?_|refine aw_drawn (id:=14) [(0,0),(1,0),(2,0),(3,0),(4,0),(5,0),(6,0),(7,0),(8,0),(9,0),(10,0),(11,0)] mixed (by kernel_rfl) ?_|refine aw_drawn (id:=33) [(0,0),(1,0),(2,0),(3,0),(4,0),(5,0),(6,0),(7,0),(8,0),(9,1),(10,2)] mixed (by kernel_rfl) ?_|refine zco ?_ ?_|exact zd|(refine fun (hg:(_:Prop))=>?_;(try replace hg:=HG.out hg);(try dsimp only at hg);(try (have _h:True:=hg;clear _h hg)))))
      all_goals (try (exfalso;omega))
      refine aw_for h.store.items.length (fun _=>True) (fun k=>[(1,.ref h.enc 0),(159,encItems h.store.items),(160,vi h.store.items.length),(161,vi k)]) (fun _=>[]) trivial ?_ ?_
      · (exact zsbD [] [])
      intro k hk _
      by_cases hlt:k<h.store.items.length
      · obtain ⟨m1,m2,m3⟩:=hV.made k hlt
        unfold inDesigns at m1
        have hla:=lLasts_p (el h.designs (el h.made k).toNat).sheet (el h.designs (el h.made k).toNat).band h.per
        unfold encLast at hla
        have hlb:lastErr (el h.designs (el h.made k).toNat).sheet (el h.designs (el h.made k).toNat).band h.per=0→0≤lastF (el h.designs (el h.made k).toNat).sheet (el h.designs (el h.made k).toNat).band h.per∧lastF (el h.designs (el h.made k).toNat).sheet (el h.designs (el h.made k).toNat).band h.per≤30000:=fun he=>lastF_bnd he
        have hal:lastErr (el h.designs (el h.made k).toNat).sheet (el h.designs (el h.made k).toNat).band h.per=0→allowsF h.per h.store.life (el h.designs (el h.made k).toNat)=lastF (el h.designs (el h.made k).toNat).sheet (el h.designs (el h.made k).toNat).band h.per+1:=fun he=>by unfold allowsF;rw [if_pos he]
        (repeat' (first|(refine ar_isq ?_;refine zq ?_)|refine zil (j:=k) ?_|refine zis (j:=k) ?_|refine zit (j:=k) ?_|refine zil (j:=(el h.made k).toNat) ?_|refine zis (j:=(el h.made k).toNat) ?_|refine zit (j:=(el h.made k).toNat) ?_|(refine zpvD fn64 (hla) ?_)|refine zg ?_ ?_|refine zgu ?_|refine zst ?_|refine aw_drawn (id:=14) [(0,0),(1,0),(2,0),(3,0),(4,0),(5,0),(6,0),(7,0),(8,0),(9,0),(10,0),(11,0)] mixed (by kernel_rfl) ?_|refine aw_drawn (id:=33) [(0,0),(1,0),(2,0),(3,0),(4,0),(5,0),(6,0),(7,0),(8,0),(9,1),(10,2)] mixed (by kernel_rfl) ?_|refine zco ?_ ?_|exact zd|(refine fun (hg:(_:Prop))=>?_;(try replace hg:=HG.out hg);(try dsimp only at hg);(try (have _h:True:=hg;clear _h hg)))))
        all_goals first
          | (exfalso;omega)
          | ((first|refine loop_next (by omega) ?_ ?_|refine (show _∧_∧SubOf _ _ _ _ _ _ from And.intro (by omega) (And.intro ?_ ?_)));(focus ((trivial);done));(focus (exact zsbD [] [])))
          | trace_state
      · obtain rfl:k=h.store.items.length:=by omega
        (repeat' (first|(refine ar_isq ?_;refine zq ?_)|refine zg ?_ ?_|refine zgu ?_|refine zst ?_|refine aw_drawn (id:=14) [(0,0),(1,0),(2,0),(3,0),(4,0),(5,0),(6,0),(7,0),(8,0),(9,0),(10,0),(11,0)] mixed (by kernel_rfl) ?_|refine aw_drawn (id:=33) [(0,0),(1,0),(2,0),(3,0),(4,0),(5,0),(6,0),(7,0),(8,0),(9,1),(10,2)] mixed (by kernel_rfl) ?_|refine zco ?_ ?_|exact zd|(refine fun (hg:(_:Prop))=>?_;(try replace hg:=HG.out hg);(try dsimp only at hg);(try (have _h:True:=hg;clear _h hg)))))
        all_goals first
          | (exfalso;omega)
          | ((refine aw_ret ?_;(repeat (first|refine ret_then ?_|refine ret_block ?_));refine bq1 rfl ⟨?_,rfl⟩);rfl)
          | trace_state
theorem cutI_arg {own:Bool}{H:Heap}{L l:List Int}(h:∀ i,i<l.length→el L i=el l i):ArgOk own H (.list 1 (l.length-0) (fun k=>vi (el L (0+k)))) (encInts l):=.ext (n:=l.length) fun k hk=>by rw [Nat.zero_add,h k hk]
section
variable (h:Hse) (j:Job)

set_option maxRecDepth 20000 in
theorem hkept_no (hs:HSmall h) (T:Hse) (e c:Int) (hc:(c≠0∧e=100)∨(c=0∧HValid h∧e≠0∧T=noHse)) (hd:PCalls Tryz.prog 20 [h.enc,j.enc] (·=.tup [T.enc,vi e])) (hk:PCalls Tryz.prog 22 [h.enc] (·=vi c)):PCalls Tryz.prog 10 [h.enc,j.enc] (·=vb true):=by
  rcases hc with ⟨h1,h2⟩|⟨h1,h2,h3,h4⟩
  · refine pcalls_of_aw Tryz.func10 rfl (Nat.le_of_ble_eq_true rfl) ?_
    (repeat' (first|(refine ar_isq ?_;refine zq ?_)|refine ar_q (qs_sneq (seq rfl) rfl rfl (.int (ty rfl) rfl rfl rfl rfl (.int (ty rfl) rfl rfl rfl rfl .nil))) (dc rfl) ?_|refine ar_q (qs_sneq (seq rfl) rfl rfl (.int (ty rfl) rfl rfl rfl rfl (.int (ty rfl) rfl rfl rfl rfl (.int (ty rfl) rfl rfl rfl rfl .nil)))) (dc rfl) ?_|refine ar_q (qs_sneq (seq rfl) rfl rfl (.int (ty rfl) rfl rfl rfl rfl (.int (ty rfl) rfl rfl rfl rfl (.int (ty rfl) rfl rfl rfl rfl (.int (ty rfl) rfl rfl rfl rfl .nil))))) (dc rfl) ?_|refine ar_q (qs_sneq (seq rfl) rfl rfl (.int (ty rfl) rfl rfl rfl rfl (.int (ty rfl) rfl rfl rfl rfl (.int (ty rfl) rfl rfl rfl rfl (.int (ty rfl) rfl rfl rfl rfl (.int (ty rfl) rfl rfl rfl rfl .nil)))))) (dc rfl) ?_|(refine zbt ?_)|(refine zpvD fn24 (halive_p) ?_)|(refine ar_pcall (own:=false) fn17 rfl rfl (.cons (.closed rfl) .nil) (rgreat_p h) (by simp) (dc rfl) ?_;rintro _ (rfl|⟨rfl,hs2⟩))|(refine ar_pcall (own:=false) fn18 rfl rfl (.cons (.closed rfl) .nil) (great_p j.band) (by simp) (dc rfl) ?_;rintro _ (rfl|⟨rfl,b20,b60⟩))|(refine zpvD fn20 (hd) ?_)|(refine zpvD fn22 (hk) ?_)|refine zcl ?_|refine zcs ?_|refine zg ?_ ?_|refine zgu ?_|refine zst ?_|refine aw_drawn (id:=34) [(0,0),(1,0),(2,0),(3,0),(4,0),(5,0),(6,0),(7,0),(8,0),(9,0),(10,1),(11,0),(12,0),(13,0),(14,0),(15,0),(16,0),(17,0),(18,0),(19,0),(20,0),(21,1),(22,0),(23,0)] mixed (by kernel_rfl) ?_|refine aw_drawn (id:=34) [(0,0),(1,0),(2,0),(3,0),(4,0),(5,0),(6,0),(7,0),(8,0),(9,0),(10,2),(11,0),(12,0),(13,0),(14,0),(15,0),(16,0),(17,0),(18,0),(19,0),(20,0),(21,2),(22,0),(23,0)] mixed (by kernel_rfl) ?_|refine zco ?_ ?_|exact zd|(refine fun (hg:(_:Prop))=>?_;(try replace hg:=HG.out hg);(try dsimp only at hg);(try (have _h:True:=hg;clear _h hg)))))
    all_goals first
      | (exfalso;omega)
      | ((refine aw_ret ?_;(repeat (first|refine ret_then ?_|refine ret_block ?_));refine bq1 rfl ⟨?_,rfl⟩);rfl)
      | ((refine aw_ret ?_;(repeat (first|refine ret_then ?_|refine ret_block ?_));refine bq1 rfl ⟨?_,rfl⟩);refine congrArg vb ?_;first|rfl|exact decide_eq_true (by omega))
      | trace_state
  · subst h1 h4
    refine pcalls_of_aw Tryz.func10 rfl (Nat.le_of_ble_eq_true rfl) ?_
    (repeat' (first|(refine ar_isq ?_;refine zq ?_)|refine ar_q (qs_sneq (seq rfl) rfl rfl (.int (ty rfl) rfl rfl rfl rfl (.int (ty rfl) rfl rfl rfl rfl .nil))) (dc rfl) ?_|refine ar_q (qs_sneq (seq rfl) rfl rfl (.int (ty rfl) rfl rfl rfl rfl (.int (ty rfl) rfl rfl rfl rfl (.int (ty rfl) rfl rfl rfl rfl .nil)))) (dc rfl) ?_|refine ar_q (qs_sneq (seq rfl) rfl rfl (.int (ty rfl) rfl rfl rfl rfl (.int (ty rfl) rfl rfl rfl rfl (.int (ty rfl) rfl rfl rfl rfl (.int (ty rfl) rfl rfl rfl rfl .nil))))) (dc rfl) ?_|refine ar_q (qs_sneq (seq rfl) rfl rfl (.int (ty rfl) rfl rfl rfl rfl (.int (ty rfl) rfl rfl rfl rfl (.int (ty rfl) rfl rfl rfl rfl (.int (ty rfl) rfl rfl rfl rfl (.int (ty rfl) rfl rfl rfl rfl .nil)))))) (dc rfl) ?_|(refine zbt ?_)|(refine zpvD fn24 (halive_p) ?_)|(refine ar_pcall (own:=false) fn17 rfl rfl (.cons (.closed rfl) .nil) (rgreat_p h) (by simp) (dc rfl) ?_;rintro _ (rfl|⟨rfl,hs2⟩))|(refine ar_pcall (own:=false) fn18 rfl rfl (.cons (.closed rfl) .nil) (great_p j.band) (by simp) (dc rfl) ?_;rintro _ (rfl|⟨rfl,b20,b60⟩))|(refine zpvD fn20 (hd) ?_)|(refine zpvD fn22 (hk) ?_)|(refine zpvD fn37 (sound_p h h2) ?_)|(((refine ar_subk_l (sub_nilC (t:=52) (noHse.enc) rfl rfl (by repeat' (first|exact trivial|refine ⟨.inl rfl,?_⟩|refine ⟨.inr ⟨rfl,_,_,rfl⟩,?_⟩))) ?_);refine zpvD fn16 (rsame_p noHse) ?_))|refine zcl ?_|refine zcs ?_|refine zg ?_ ?_|refine zgu ?_|refine zst ?_|refine aw_drawn (id:=34) [(0,0),(1,0),(2,0),(3,0),(4,0),(5,0),(6,0),(7,0),(8,0),(9,0),(10,1),(11,0),(12,0),(13,0),(14,0),(15,0),(16,0),(17,0),(18,0),(19,0),(20,0),(21,1),(22,0),(23,0)] mixed (by kernel_rfl) ?_|refine aw_drawn (id:=34) [(0,0),(1,0),(2,0),(3,0),(4,0),(5,0),(6,0),(7,0),(8,0),(9,0),(10,2),(11,0),(12,0),(13,0),(14,0),(15,0),(16,0),(17,0),(18,0),(19,0),(20,0),(21,2),(22,0),(23,0)] mixed (by kernel_rfl) ?_|refine zco ?_ ?_|exact zd|(refine fun (hg:(_:Prop))=>?_;(try replace hg:=HG.out hg);(try dsimp only at hg);(try (have _h:True:=hg;clear _h hg)))))
    all_goals first
      | (exfalso;omega)
      | ((refine aw_ret ?_;(repeat (first|refine ret_then ?_|refine ret_block ?_));refine bq1 rfl ⟨?_,rfl⟩);rfl)
      | ((refine aw_ret ?_;(repeat (first|refine ret_then ?_|refine ret_block ?_));refine bq1 rfl ⟨?_,rfl⟩);refine congrArg vb ?_;first|rfl|exact decide_eq_true (by omega))
      | trace_state
set_option maxRecDepth 20000 in
theorem hkept_yes (T:Hse) (hV:HValid h) (hT:HValid T) (hTs:StOk T.store) (hSs:StOk h.store) (K:HKept h T) (hd:PCalls Tryz.prog 20 [h.enc,j.enc] (·=.tup [T.enc,vi 0])):PCalls Tryz.prog 10 [h.enc,j.enc] (·=vb true):=by
  have hck:PCalls Tryz.prog 22 [h.enc] (·=vi 0):=(hcheck_p h (hsmall_of hV) hSs).mono fun v e=>by rw [e];unfold hchkE;rw [if_pos hV]
  have hck2:PCalls Tryz.prog 22 [T.enc] (·=vi 0):=(hcheck_p T (hsmall_of hT) hTs).mono fun v e=>by rw [e];unfold hchkE;rw [if_pos hT]
  have hsm:=hsmall_of hV
  unfold HSmall at hsm
  have hsT:=hsmall_of hT
  unfold HSmall at hsT
  have k1:=K.per
  have k2:=K.day
  have k3:=K.dl
  have k4:=K.ol
  have k5:=K.ll
  have k6:=K.fl
  have k7:=K.ml
  refine pcalls_of_aw Tryz.func10 rfl (Nat.le_of_ble_eq_true rfl) ?_
  (repeat' (first|(refine ar_isq ?_;refine zq ?_)|refine ar_q (qs_sneq (seq rfl) rfl rfl (.int (ty rfl) rfl rfl rfl rfl (.int (ty rfl) rfl rfl rfl rfl .nil))) (dc rfl) ?_|refine ar_q (qs_sneq (seq rfl) rfl rfl (.int (ty rfl) rfl rfl rfl rfl (.int (ty rfl) rfl rfl rfl rfl (.int (ty rfl) rfl rfl rfl rfl .nil)))) (dc rfl) ?_|refine ar_q (qs_sneq (seq rfl) rfl rfl (.int (ty rfl) rfl rfl rfl rfl (.int (ty rfl) rfl rfl rfl rfl (.int (ty rfl) rfl rfl rfl rfl (.int (ty rfl) rfl rfl rfl rfl .nil))))) (dc rfl) ?_|refine ar_q (qs_sneq (seq rfl) rfl rfl (.int (ty rfl) rfl rfl rfl rfl (.int (ty rfl) rfl rfl rfl rfl (.int (ty rfl) rfl rfl rfl rfl (.int (ty rfl) rfl rfl rfl rfl (.int (ty rfl) rfl rfl rfl rfl .nil)))))) (dc rfl) ?_|(refine zbt ?_)|(refine zpvD fn24 (halive_p) ?_)|(refine ar_pcall (own:=false) fn17 rfl rfl (.cons (.closed rfl) .nil) (rgreat_p h) (by simp) (dc rfl) ?_;rintro _ (rfl|⟨rfl,hs2⟩))|(refine ar_pcall (own:=false) fn18 rfl rfl (.cons (.closed rfl) .nil) (great_p j.band) (by simp) (dc rfl) ?_;rintro _ (rfl|⟨rfl,b20,b60⟩))|(refine zpvD fn20 (hd) ?_)|(refine zpvD fn22 (hck) ?_)|(refine zpvD fn22 (hck2) ?_)|(refine zpvD fn37 (sound_p h hV) ?_)|(refine zpvD fn37 (sound_p T hT) ?_)|refine zcl ?_|refine zcs ?_|refine zg ?_ ?_|refine zgu ?_|refine zst ?_|refine aw_drawn (id:=34) [(0,0),(1,0),(2,0),(3,0),(4,0),(5,0),(6,0),(7,0),(8,0),(9,0),(10,1),(11,0),(12,0),(13,0),(14,0),(15,0),(16,0),(17,0),(18,0),(19,0),(20,0),(21,1),(22,0),(23,0)] mixed (by kernel_rfl) ?_|refine aw_drawn (id:=34) [(0,0),(1,0),(2,0),(3,0),(4,0),(5,0),(6,0),(7,0),(8,0),(9,0),(10,2),(11,0),(12,0),(13,0),(14,0),(15,0),(16,0),(17,0),(18,0),(19,0),(20,0),(21,2),(22,0),(23,0)] mixed (by kernel_rfl) ?_|refine zco ?_ ?_|exact zd|(refine fun (hg:(_:Prop))=>?_;(try replace hg:=HG.out hg);(try dsimp only at hg);(try (have _h:True:=hg;clear _h hg)))))
  all_goals first
    | (exfalso;omega)
    | ((refine aw_ret ?_;(repeat (first|refine ret_then ?_|refine ret_block ?_));refine bq1 rfl ⟨?_,rfl⟩);rfl)
    | skip
  refine aw_for h.designs.length (fun _=>True) (fun k=>[(2,.ptr 10 0 0 0),(5,vb true),(6,.ptr 10 1 0 0),(123,encDsns h.designs),(124,vi h.designs.length),(125,vi k)]) (fun _=>[.arr 10 1 (fun _=>h.enc),.arr 10 1 (fun _=>T.enc)]) trivial ?_ ?_
  · (exact zsbD [some 0,some 2] [])
  intro k hk _
  by_cases hlt:k<h.designs.length
  · have hy:=K.design k hlt
    (repeat' (first|(refine ar_isq ?_;refine zq ?_)|refine ar_q (qs_sneq (seq rfl) rfl rfl (.int (ty rfl) rfl rfl rfl rfl (.int (ty rfl) rfl rfl rfl rfl .nil))) (dc rfl) ?_|refine ar_q (qs_sneq (seq rfl) rfl rfl (.int (ty rfl) rfl rfl rfl rfl (.int (ty rfl) rfl rfl rfl rfl (.int (ty rfl) rfl rfl rfl rfl .nil)))) (dc rfl) ?_|refine ar_q (qs_sneq (seq rfl) rfl rfl (.int (ty rfl) rfl rfl rfl rfl (.int (ty rfl) rfl rfl rfl rfl (.int (ty rfl) rfl rfl rfl rfl (.int (ty rfl) rfl rfl rfl rfl .nil))))) (dc rfl) ?_|refine ar_q (qs_sneq (seq rfl) rfl rfl (.int (ty rfl) rfl rfl rfl rfl (.int (ty rfl) rfl rfl rfl rfl (.int (ty rfl) rfl rfl rfl rfl (.int (ty rfl) rfl rfl rfl rfl (.int (ty rfl) rfl rfl rfl rfl .nil)))))) (dc rfl) ?_|refine zil (j:=k) ?_|refine zis (j:=k) ?_|refine zit (j:=k) ?_|(refine zbt ?_)|((rw [hy];refine zpvD fn38 (sameBand_p (el h.designs k).band) ?_))|(refine zpvD fn38 (sameBand_p (el h.designs k).band) ?_)|refine ar_q (qs_sneq (seq rfl) rfl rfl (.int (ty rfl) rfl rfl rfl rfl (.int (ty rfl) rfl rfl rfl rfl (.int (ty rfl) rfl rfl rfl rfl (.int (ty rfl) rfl rfl rfl rfl (.int (ty rfl) rfl rfl rfl rfl .nil)))))) (dc rfl) ?_|refine zcl ?_|refine zcs ?_|refine zg ?_ ?_|refine zgu ?_|refine zst ?_|refine aw_drawn (id:=34) [(0,0),(1,0),(2,0),(3,0),(4,0),(5,0),(6,0),(7,0),(8,0),(9,0),(10,1),(11,0),(12,0),(13,0),(14,0),(15,0),(16,0),(17,0),(18,0),(19,0),(20,0),(21,1),(22,0),(23,0)] mixed (by kernel_rfl) ?_|refine aw_drawn (id:=34) [(0,0),(1,0),(2,0),(3,0),(4,0),(5,0),(6,0),(7,0),(8,0),(9,0),(10,2),(11,0),(12,0),(13,0),(14,0),(15,0),(16,0),(17,0),(18,0),(19,0),(20,0),(21,2),(22,0),(23,0)] mixed (by kernel_rfl) ?_|refine zco ?_ ?_|exact zd|(refine fun (hg:(_:Prop))=>?_;(try replace hg:=HG.out hg);(try dsimp only at hg);(try (have _h:True:=hg;clear _h hg)))))
    all_goals first
      | (exfalso;omega)
      | (exfalso;rw [hy] at *;simp at *;done)
      | ((first|refine loop_next (by omega) ?_ ?_|refine (show _∧_∧SubOf _ _ _ _ _ _ from And.intro (by omega) (And.intro ?_ ?_)));(focus ((trivial);done));(focus (exact zsbD [some 0,some 1] [])))
      | trace_state
  · obtain rfl:k=h.designs.length:=by omega
    (repeat' (first|(refine ar_isq ?_;refine zq ?_)|refine ar_q (qs_sneq (seq rfl) rfl rfl (.int (ty rfl) rfl rfl rfl rfl (.int (ty rfl) rfl rfl rfl rfl .nil))) (dc rfl) ?_|refine ar_q (qs_sneq (seq rfl) rfl rfl (.int (ty rfl) rfl rfl rfl rfl (.int (ty rfl) rfl rfl rfl rfl (.int (ty rfl) rfl rfl rfl rfl .nil)))) (dc rfl) ?_|refine ar_q (qs_sneq (seq rfl) rfl rfl (.int (ty rfl) rfl rfl rfl rfl (.int (ty rfl) rfl rfl rfl rfl (.int (ty rfl) rfl rfl rfl rfl (.int (ty rfl) rfl rfl rfl rfl .nil))))) (dc rfl) ?_|refine ar_q (qs_sneq (seq rfl) rfl rfl (.int (ty rfl) rfl rfl rfl rfl (.int (ty rfl) rfl rfl rfl rfl (.int (ty rfl) rfl rfl rfl rfl (.int (ty rfl) rfl rfl rfl rfl (.int (ty rfl) rfl rfl rfl rfl .nil)))))) (dc rfl) ?_|(refine zbt ?_)|refine zcl ?_|refine zcs ?_|refine zg ?_ ?_|refine zgu ?_|refine zst ?_|refine aw_drawn (id:=34) [(0,0),(1,0),(2,0),(3,0),(4,0),(5,0),(6,0),(7,0),(8,0),(9,0),(10,1),(11,0),(12,0),(13,0),(14,0),(15,0),(16,0),(17,0),(18,0),(19,0),(20,0),(21,1),(22,0),(23,0)] mixed (by kernel_rfl) ?_|refine aw_drawn (id:=34) [(0,0),(1,0),(2,0),(3,0),(4,0),(5,0),(6,0),(7,0),(8,0),(9,0),(10,2),(11,0),(12,0),(13,0),(14,0),(15,0),(16,0),(17,0),(18,0),(19,0),(20,0),(21,2),(22,0),(23,0)] mixed (by kernel_rfl) ?_|refine zco ?_ ?_|exact zd|(refine fun (hg:(_:Prop))=>?_;(try replace hg:=HG.out hg);(try dsimp only at hg);(try (have _h:True:=hg;clear _h hg)))))
    all_goals (try (exfalso;omega))
    refine aw_for h.orders.length (fun _=>True) (fun k=>[(2,.ptr 10 0 0 0),(5,vb true),(6,.ptr 10 1 0 0),(157,encOrders h.orders),(158,vi h.orders.length),(159,vi k)]) (fun _=>[.arr 10 1 (fun _=>h.enc),.arr 10 1 (fun _=>T.enc)]) trivial ?_ ?_
    · (exact zsbD [some 0,some 1] [])
    intro k hk _
    by_cases hlt:k<h.orders.length
    · obtain ⟨o1,o2,o3,o4⟩:=K.order k hlt
      (repeat' (first|(refine ar_isq ?_;refine zq ?_)|refine ar_q (qs_sneq (seq rfl) rfl rfl (.int (ty rfl) rfl rfl rfl rfl (.int (ty rfl) rfl rfl rfl rfl .nil))) (dc rfl) ?_|refine ar_q (qs_sneq (seq rfl) rfl rfl (.int (ty rfl) rfl rfl rfl rfl (.int (ty rfl) rfl rfl rfl rfl (.int (ty rfl) rfl rfl rfl rfl .nil)))) (dc rfl) ?_|refine ar_q (qs_sneq (seq rfl) rfl rfl (.int (ty rfl) rfl rfl rfl rfl (.int (ty rfl) rfl rfl rfl rfl (.int (ty rfl) rfl rfl rfl rfl (.int (ty rfl) rfl rfl rfl rfl .nil))))) (dc rfl) ?_|refine ar_q (qs_sneq (seq rfl) rfl rfl (.int (ty rfl) rfl rfl rfl rfl (.int (ty rfl) rfl rfl rfl rfl (.int (ty rfl) rfl rfl rfl rfl (.int (ty rfl) rfl rfl rfl rfl (.int (ty rfl) rfl rfl rfl rfl .nil)))))) (dc rfl) ?_|refine zil (j:=k) ?_|refine zis (j:=k) ?_|refine zit (j:=k) ?_|(refine zbt ?_)|refine zcl ?_|refine zcs ?_|refine zg ?_ ?_|refine zgu ?_|refine zst ?_|refine aw_drawn (id:=34) [(0,0),(1,0),(2,0),(3,0),(4,0),(5,0),(6,0),(7,0),(8,0),(9,0),(10,1),(11,0),(12,0),(13,0),(14,0),(15,0),(16,0),(17,0),(18,0),(19,0),(20,0),(21,1),(22,0),(23,0)] mixed (by kernel_rfl) ?_|refine aw_drawn (id:=34) [(0,0),(1,0),(2,0),(3,0),(4,0),(5,0),(6,0),(7,0),(8,0),(9,0),(10,2),(11,0),(12,0),(13,0),(14,0),(15,0),(16,0),(17,0),(18,0),(19,0),(20,0),(21,2),(22,0),(23,0)] mixed (by kernel_rfl) ?_|refine zco ?_ ?_|exact zd|(refine fun (hg:(_:Prop))=>?_;(try replace hg:=HG.out hg);(try dsimp only at hg);(try (have _h:True:=hg;clear _h hg)))))
      all_goals first
        | (exfalso;omega)
        | (exfalso;simp_all;done)
        | ((first|refine loop_next (by omega) ?_ ?_|refine (show _∧_∧SubOf _ _ _ _ _ _ from And.intro (by omega) (And.intro ?_ ?_)));(focus ((trivial);done));(focus (exact zsbD [some 0,some 1] [])))
        | trace_state
    · obtain rfl:k=h.orders.length:=by omega
      (repeat' (first|(refine ar_isq ?_;refine zq ?_)|refine ar_q (qs_sneq (seq rfl) rfl rfl (.int (ty rfl) rfl rfl rfl rfl (.int (ty rfl) rfl rfl rfl rfl .nil))) (dc rfl) ?_|refine ar_q (qs_sneq (seq rfl) rfl rfl (.int (ty rfl) rfl rfl rfl rfl (.int (ty rfl) rfl rfl rfl rfl (.int (ty rfl) rfl rfl rfl rfl .nil)))) (dc rfl) ?_|refine ar_q (qs_sneq (seq rfl) rfl rfl (.int (ty rfl) rfl rfl rfl rfl (.int (ty rfl) rfl rfl rfl rfl (.int (ty rfl) rfl rfl rfl rfl (.int (ty rfl) rfl rfl rfl rfl .nil))))) (dc rfl) ?_|refine ar_q (qs_sneq (seq rfl) rfl rfl (.int (ty rfl) rfl rfl rfl rfl (.int (ty rfl) rfl rfl rfl rfl (.int (ty rfl) rfl rfl rfl rfl (.int (ty rfl) rfl rfl rfl rfl (.int (ty rfl) rfl rfl rfl rfl .nil)))))) (dc rfl) ?_|(refine zbt ?_)|refine zcl ?_|refine zcs ?_|refine zg ?_ ?_|refine zgu ?_|refine zst ?_|refine aw_drawn (id:=34) [(0,0),(1,0),(2,0),(3,0),(4,0),(5,0),(6,0),(7,0),(8,0),(9,0),(10,1),(11,0),(12,0),(13,0),(14,0),(15,0),(16,0),(17,0),(18,0),(19,0),(20,0),(21,1),(22,0),(23,0)] mixed (by kernel_rfl) ?_|refine aw_drawn (id:=34) [(0,0),(1,0),(2,0),(3,0),(4,0),(5,0),(6,0),(7,0),(8,0),(9,0),(10,2),(11,0),(12,0),(13,0),(14,0),(15,0),(16,0),(17,0),(18,0),(19,0),(20,0),(21,2),(22,0),(23,0)] mixed (by kernel_rfl) ?_|refine zco ?_ ?_|exact zd|(refine fun (hg:(_:Prop))=>?_;(try replace hg:=HG.out hg);(try dsimp only at hg);(try (have _h:True:=hg;clear _h hg)))))
      all_goals (try (exfalso;omega))
      refine aw_for h.lics.length (fun _=>True) (fun k=>[(2,.ptr 10 0 0 0),(5,vb true),(6,.ptr 10 1 0 0),(199,encLics h.lics),(200,vi h.lics.length),(201,vi k)]) (fun _=>[.arr 10 1 (fun _=>h.enc),.arr 10 1 (fun _=>T.enc)]) trivial ?_ ?_
      · (exact zsbD [some 0,some 1] [])
      intro k hk _
      by_cases hlt:k<h.lics.length
      · obtain ⟨o1,o2,o3,o4⟩:=K.lic k hlt
        (repeat' (first|(refine ar_isq ?_;refine zq ?_)|refine ar_q (qs_sneq (seq rfl) rfl rfl (.int (ty rfl) rfl rfl rfl rfl (.int (ty rfl) rfl rfl rfl rfl .nil))) (dc rfl) ?_|refine ar_q (qs_sneq (seq rfl) rfl rfl (.int (ty rfl) rfl rfl rfl rfl (.int (ty rfl) rfl rfl rfl rfl (.int (ty rfl) rfl rfl rfl rfl .nil)))) (dc rfl) ?_|refine ar_q (qs_sneq (seq rfl) rfl rfl (.int (ty rfl) rfl rfl rfl rfl (.int (ty rfl) rfl rfl rfl rfl (.int (ty rfl) rfl rfl rfl rfl (.int (ty rfl) rfl rfl rfl rfl .nil))))) (dc rfl) ?_|refine ar_q (qs_sneq (seq rfl) rfl rfl (.int (ty rfl) rfl rfl rfl rfl (.int (ty rfl) rfl rfl rfl rfl (.int (ty rfl) rfl rfl rfl rfl (.int (ty rfl) rfl rfl rfl rfl (.int (ty rfl) rfl rfl rfl rfl .nil)))))) (dc rfl) ?_|refine zil (j:=k) ?_|refine zis (j:=k) ?_|refine zit (j:=k) ?_|(refine zbt ?_)|refine zcl ?_|refine zcs ?_|refine zg ?_ ?_|refine zgu ?_|refine zst ?_|refine aw_drawn (id:=34) [(0,0),(1,0),(2,0),(3,0),(4,0),(5,0),(6,0),(7,0),(8,0),(9,0),(10,1),(11,0),(12,0),(13,0),(14,0),(15,0),(16,0),(17,0),(18,0),(19,0),(20,0),(21,1),(22,0),(23,0)] mixed (by kernel_rfl) ?_|refine aw_drawn (id:=34) [(0,0),(1,0),(2,0),(3,0),(4,0),(5,0),(6,0),(7,0),(8,0),(9,0),(10,2),(11,0),(12,0),(13,0),(14,0),(15,0),(16,0),(17,0),(18,0),(19,0),(20,0),(21,2),(22,0),(23,0)] mixed (by kernel_rfl) ?_|refine zco ?_ ?_|exact zd|(refine fun (hg:(_:Prop))=>?_;(try replace hg:=HG.out hg);(try dsimp only at hg);(try (have _h:True:=hg;clear _h hg)))))
        all_goals first
          | (exfalso;omega)
          | ((first|refine loop_next (by omega) ?_ ?_|refine (show _∧_∧SubOf _ _ _ _ _ _ from And.intro (by omega) (And.intro ?_ ?_)));(focus ((trivial);done));(focus (exact zsbD [some 0,some 1] [])))
          | trace_state
      · obtain rfl:k=h.lics.length:=by omega
        (repeat' (first|(refine ar_isq ?_;refine zq ?_)|refine ar_q (qs_sneq (seq rfl) rfl rfl (.int (ty rfl) rfl rfl rfl rfl (.int (ty rfl) rfl rfl rfl rfl .nil))) (dc rfl) ?_|refine ar_q (qs_sneq (seq rfl) rfl rfl (.int (ty rfl) rfl rfl rfl rfl (.int (ty rfl) rfl rfl rfl rfl (.int (ty rfl) rfl rfl rfl rfl .nil)))) (dc rfl) ?_|refine ar_q (qs_sneq (seq rfl) rfl rfl (.int (ty rfl) rfl rfl rfl rfl (.int (ty rfl) rfl rfl rfl rfl (.int (ty rfl) rfl rfl rfl rfl (.int (ty rfl) rfl rfl rfl rfl .nil))))) (dc rfl) ?_|refine ar_q (qs_sneq (seq rfl) rfl rfl (.int (ty rfl) rfl rfl rfl rfl (.int (ty rfl) rfl rfl rfl rfl (.int (ty rfl) rfl rfl rfl rfl (.int (ty rfl) rfl rfl rfl rfl (.int (ty rfl) rfl rfl rfl rfl .nil)))))) (dc rfl) ?_|(refine zbt ?_)|((refine ar_pcall (own:=false) fn32 rfl rfl (.cons (cutI_arg K.fors) (.cons (.closed rfl) .nil)) (sameInts_p h.fors) (by simp) (dc rfl) ?_;intro _ hv;subst hv))|((refine ar_pcall (own:=false) fn32 rfl rfl (.cons (cutI_arg K.made) (.cons (.closed rfl) .nil)) (sameInts_p h.made) (by simp) (dc rfl) ?_;intro _ hv;subst hv))|refine zcl (a:=0) (b:=h.fors.length) ?_|refine zcs (a:=0) (b:=h.fors.length) ?_|refine zcl (a:=0) (b:=h.made.length) ?_|refine zcs (a:=0) (b:=h.made.length) ?_|refine zg ?_ ?_|refine zgu ?_|refine zst ?_|refine aw_drawn (id:=34) [(0,0),(1,0),(2,0),(3,0),(4,0),(5,0),(6,0),(7,0),(8,0),(9,0),(10,1),(11,0),(12,0),(13,0),(14,0),(15,0),(16,0),(17,0),(18,0),(19,0),(20,0),(21,1),(22,0),(23,0)] mixed (by kernel_rfl) ?_|refine aw_drawn (id:=34) [(0,0),(1,0),(2,0),(3,0),(4,0),(5,0),(6,0),(7,0),(8,0),(9,0),(10,2),(11,0),(12,0),(13,0),(14,0),(15,0),(16,0),(17,0),(18,0),(19,0),(20,0),(21,2),(22,0),(23,0)] mixed (by kernel_rfl) ?_|refine zco ?_ ?_|exact zd|(refine fun (hg:(_:Prop))=>?_;(try replace hg:=HG.out hg);(try dsimp only at hg);(try (have _h:True:=hg;clear _h hg)))))
        all_goals first
          | (exfalso;omega)
          | ((refine aw_ret ?_;(repeat (first|refine ret_then ?_|refine ret_block ?_));refine bq1 rfl ⟨?_,rfl⟩);rfl)
          | trace_state
end
theorem houseKept_p (h:Hse) (hw:h.wf) (j:Job) (hj:j.wf):PCalls Tryz.prog 10 [h.enc,j.enc] (·=vb true):=by
  have hst:StOk h.store:=stOk_wf hw.2.2.1
  by_cases hs:HSmall h
  · have hd:=hDoV_p h j hs hst hj.1 hj.2.2.2.2.2.2.1.1
    by_cases hV:HValid h
    · by_cases he:jobE h j=0
      · have hE:hdoE h j=0:=(hdoE_ok hV).trans he
        rw [hE,show hdoF h j=jobF h j by unfold hdoF;rw [if_pos hE]] at hd
        exact hkept_yes h j (jobF h j) hV (hvalid_job hV he) (stOk_all (stAll_job (stAll_ok hst))) hst (hkept_job he) hd
      · have hE:hdoE h j≠0:=fun e=>he ((hdoE_ok hV).symm.trans e)
        exact hkept_no h j hs _ _ 0 (.inr ⟨rfl,hV,hE,by unfold hdoF;rw [if_neg hE]⟩) hd ((hcheck_p h hs hst).mono fun v e=>by rw [e];unfold hchkE;rw [if_pos hV])
    · exact hkept_no h j hs _ _ 100 (.inl ⟨by decide,hdoE_bad hV⟩) hd ((hcheck_p h hs hst).mono fun v e=>by rw [e];unfold hchkE;rw [if_neg hV])
  · refine pcalls_of_aw Tryz.func10 rfl (Nat.le_of_ble_eq_true rfl) ?_
    (repeat' (first|(refine ar_isq ?_;refine zq ?_)|refine ar_q (qs_sneq (seq rfl) rfl rfl (.int (ty rfl) rfl rfl rfl rfl (.int (ty rfl) rfl rfl rfl rfl .nil))) (dc rfl) ?_|refine ar_q (qs_sneq (seq rfl) rfl rfl (.int (ty rfl) rfl rfl rfl rfl (.int (ty rfl) rfl rfl rfl rfl (.int (ty rfl) rfl rfl rfl rfl .nil)))) (dc rfl) ?_|refine ar_q (qs_sneq (seq rfl) rfl rfl (.int (ty rfl) rfl rfl rfl rfl (.int (ty rfl) rfl rfl rfl rfl (.int (ty rfl) rfl rfl rfl rfl (.int (ty rfl) rfl rfl rfl rfl .nil))))) (dc rfl) ?_|refine ar_q (qs_sneq (seq rfl) rfl rfl (.int (ty rfl) rfl rfl rfl rfl (.int (ty rfl) rfl rfl rfl rfl (.int (ty rfl) rfl rfl rfl rfl (.int (ty rfl) rfl rfl rfl rfl (.int (ty rfl) rfl rfl rfl rfl .nil)))))) (dc rfl) ?_|(refine zbt ?_)|(refine zpvD fn24 (halive_p) ?_)|(refine ar_pcall (own:=false) fn17 rfl rfl (.cons (.closed rfl) .nil) (rgreat_p h) (by simp) (dc rfl) ?_;rintro _ (rfl|⟨rfl,hs2⟩))|refine zcl ?_|refine zcs ?_|refine zg ?_ ?_|refine zgu ?_|refine zst ?_|refine aw_drawn (id:=34) [(0,0),(1,0),(2,0),(3,0),(4,0),(5,0),(6,0),(7,0),(8,0),(9,0),(10,1),(11,0),(12,0),(13,0),(14,0),(15,0),(16,0),(17,0),(18,0),(19,0),(20,0),(21,1),(22,0),(23,0)] mixed (by kernel_rfl) ?_|refine aw_drawn (id:=34) [(0,0),(1,0),(2,0),(3,0),(4,0),(5,0),(6,0),(7,0),(8,0),(9,0),(10,2),(11,0),(12,0),(13,0),(14,0),(15,0),(16,0),(17,0),(18,0),(19,0),(20,0),(21,2),(22,0),(23,0)] mixed (by kernel_rfl) ?_|refine zco ?_ ?_|exact zd|(refine fun (hg:(_:Prop))=>?_;(try replace hg:=HG.out hg);(try dsimp only at hg);(try (have _h:True:=hg;clear _h hg)))))
    all_goals first
      | (exact absurd hs2 hs)
      | ((refine aw_ret ?_;(repeat (first|refine ret_then ?_|refine ret_block ?_));refine bq1 rfl ⟨?_,rfl⟩);rfl)
      | trace_state
end Go.Proofs.YtbilpbabdgfblaaGreat
