/- HouseTraced: the walk of the law. No condition. -/
import Derived.Test.YtbilpbabdgfblaaGreatKJ720
set_option maxHeartbeats 16000000
set_option linter.unusedSimpArgs false
set_option linter.unusedVariables false
namespace Go.Proofs.YtbilpbabdgfblaaGreat
open Go.RowKit
theorem ord_in {h:Hse}(hV:HValid h) (hst:StOk h.store):∀ j,j<h.fors.length→inOrders h (el h.fors j)∧0≤(el h.store.prints j).state∧(el h.store.prints j).state≤2:=fun j hj=>by
  have h1:=(hV.fors j hj).1
  have h2:=hV.forss
  have h3:=hst j (by omega)
  have h4:=(hV.store.2.2.2.1 j (by omega)).2.2
  exact ⟨h1,h3,h4⟩
theorem tell_bnd {h:Hse}(n:Int) (k:Nat):0≤doneTo h n 0 k∧0≤doneTo h n 1 k∧0≤doneTo h n 2 k:=⟨(cntB_bnd k).1,(cntB_bnd k).1,(cntB_bnd k).1⟩
def tellF (h:Hse) (i:Nat):Int:=tellTo h i h.fors.length
theorem tellF_eq (h:Hse) (i:Nat):tellF h i=doneF h i 0+doneF h i 1+doneF h i 2:=rfl
theorem sumTell_bnd {h:Hse}(h0:∀ i,0≤tellF h i∧tellF h i≤3000):∀ k,0≤sumN (tellF h) k∧sumN (tellF h) k≤3000*k
  | 0=>⟨Int.le_refl 0,by simp [sumN]⟩
  | k+1=>by
    have:=sumTell_bnd h0 k
    have:=h0 k
    simp only [sumN]
    omega

set_option maxRecDepth 20000 in
theorem traced_bad (h:Hse) (n:Int) (hs:HSmall h) (hst:StOk h.store) (hV:¬ HValid h):PCalls Tryz.prog 8 [h.enc,vi n] (·=vb true):=by
  have he:=askE_bad (n:=n) hV
  have htr:=hTrace_p h n hs hst
  rw [he] at htr
  have hck:PCalls Tryz.prog 22 [h.enc] (·=vi 100):=(hcheck_p h hs hst).mono fun v h=>by rw [h];unfold hchkE;rw [if_neg hV]
  refine pcalls_of_aw Tryz.func8 rfl (Nat.le_of_ble_eq_true rfl) ?_
  (repeat' (first|(refine ar_isq ?_;refine zq ?_)|(refine zpvD fn24 (halive_p) ?_)|(refine ar_pcall (own:=false) fn17 rfl rfl (.cons (.closed rfl) .nil) (rgreat_p h) (by simp) (dc rfl) ?_;rintro _ (rfl|⟨rfl,hs2⟩))|(refine zpvD fn27 (htr) ?_)|(refine zpvD fn22 (hck) ?_)|refine zg ?_ ?_|refine zgu ?_|refine zst ?_|refine aw_drawn (id:=20) [(0,0),(1,0),(2,0),(3,0),(4,0),(5,0),(6,0),(7,0),(8,0),(9,1),(10,0),(11,0),(12,0),(13,0),(14,0)] mixed (by kernel_rfl) ?_|refine aw_drawn (id:=20) [(0,0),(1,0),(2,0),(3,0),(4,0),(5,0),(6,0),(7,0),(8,0),(9,2),(10,0),(11,0),(12,0),(13,0),(14,0)] mixed (by kernel_rfl) ?_|refine aw_drawn (id:=21) [(0,0),(1,0),(2,0),(3,0),(4,0),(5,0),(6,0),(7,0),(8,0),(9,0),(10,1),(11,0),(12,0),(13,0),(14,0),(15,0),(16,0),(17,0),(18,0),(19,0),(20,0),(21,0),(22,0),(23,0),(24,0),(25,0),(26,0),(27,0),(28,0),(29,0),(30,0),(31,0),(32,0),(33,0),(34,0),(35,0)] mixed (by kernel_rfl) ?_|refine aw_drawn (id:=21) [(0,0),(1,0),(2,0),(3,0),(4,0),(5,0),(6,0),(7,0),(8,0),(9,0),(10,2),(11,0),(12,0),(13,0),(14,0),(15,0),(16,0),(17,0),(18,0),(19,0),(20,0),(21,0),(22,0),(23,0),(24,0),(25,0),(26,0),(27,0),(28,0),(29,0),(30,0),(31,0),(32,0),(33,0),(34,0),(35,0)] mixed (by kernel_rfl) ?_|refine aw_drawn (id:=24) [(0,0),(1,0),(2,0),(3,0),(4,0),(5,0),(6,0),(7,0),(8,0),(9,0),(10,0),(11,0),(12,0),(13,0),(14,0),(15,0),(16,0),(17,0),(18,0),(19,0),(20,0),(21,0),(22,0),(23,0),(24,0),(25,0),(26,0),(27,0),(28,0),(29,0),(30,0),(31,0),(32,0),(33,0),(34,0)] mixed (by kernel_rfl) ?_|refine zco ?_ ?_|exact zd|(refine fun (hg:(_:Prop))=>?_;(try replace hg:=HG.out hg);(try dsimp only at hg);(try (have _h:True:=hg;clear _h hg)))))
  all_goals first
    | (exfalso;omega)
    | ((refine aw_ret ?_;(repeat (first|refine ret_then ?_|refine ret_block ?_));refine bq1 rfl ⟨?_,rfl⟩);rfl)
    | trace_state
set_option maxRecDepth 20000 in
theorem traced_ok (h:Hse) (n:Int) (hs:HSmall h) (hst:StOk h.store) (hV:HValid h):PCalls Tryz.prog 8 [h.enc,vi n] (·=vb true):=by
  have hck:PCalls Tryz.prog 22 [h.enc] (·=vi 0):=(hcheck_p h hs hst).mono fun v h=>by rw [h];unfold hchkE;rw [if_pos hV]
  have htr:=hTrace_p h n hs hst
  have hsm:=hs
  unfold HSmall at hsm
  have hF:=hV.forss
  have hper:=hV.per
  have hT:∀ i,0≤tellF h i∧tellF h i≤3000:=fun i=>by
    have b:∀ st,0≤doneF h i st∧doneF h i st≤h.fors.length:=fun st=>cntB_bnd _
    have:=b 0;have:=b 1;have:=b 2
    rw [tellF_eq]
    omega
  have hall:sumN (tellF h) h.orders.length=h.fors.length:=tell_all (ord_in hV hst)
  refine pcalls_of_aw Tryz.func8 rfl (Nat.le_of_ble_eq_true rfl) ?_
  (repeat' (first|(refine ar_isq ?_;refine zq ?_)|(refine zpvD fn24 (halive_p) ?_)|(refine ar_pcall (own:=false) fn17 rfl rfl (.cons (.closed rfl) .nil) (rgreat_p h) (by simp) (dc rfl) ?_;rintro _ (rfl|⟨rfl,hs2⟩))|(refine zpvD fn27 (htr) ?_)|(refine zpvD fn22 (hck) ?_)|refine zg ?_ ?_|refine zgu ?_|refine zst ?_|refine aw_drawn (id:=20) [(0,0),(1,0),(2,0),(3,0),(4,0),(5,0),(6,0),(7,0),(8,0),(9,1),(10,0),(11,0),(12,0),(13,0),(14,0)] mixed (by kernel_rfl) ?_|refine aw_drawn (id:=20) [(0,0),(1,0),(2,0),(3,0),(4,0),(5,0),(6,0),(7,0),(8,0),(9,2),(10,0),(11,0),(12,0),(13,0),(14,0)] mixed (by kernel_rfl) ?_|refine aw_drawn (id:=21) [(0,0),(1,0),(2,0),(3,0),(4,0),(5,0),(6,0),(7,0),(8,0),(9,0),(10,1),(11,0),(12,0),(13,0),(14,0),(15,0),(16,0),(17,0),(18,0),(19,0),(20,0),(21,0),(22,0),(23,0),(24,0),(25,0),(26,0),(27,0),(28,0),(29,0),(30,0),(31,0),(32,0),(33,0),(34,0),(35,0)] mixed (by kernel_rfl) ?_|refine aw_drawn (id:=21) [(0,0),(1,0),(2,0),(3,0),(4,0),(5,0),(6,0),(7,0),(8,0),(9,0),(10,2),(11,0),(12,0),(13,0),(14,0),(15,0),(16,0),(17,0),(18,0),(19,0),(20,0),(21,0),(22,0),(23,0),(24,0),(25,0),(26,0),(27,0),(28,0),(29,0),(30,0),(31,0),(32,0),(33,0),(34,0),(35,0)] mixed (by kernel_rfl) ?_|refine aw_drawn (id:=24) [(0,0),(1,0),(2,0),(3,0),(4,0),(5,0),(6,0),(7,0),(8,0),(9,0),(10,0),(11,0),(12,0),(13,0),(14,0),(15,0),(16,0),(17,0),(18,0),(19,0),(20,0),(21,0),(22,0),(23,0),(24,0),(25,0),(26,0),(27,0),(28,0),(29,0),(30,0),(31,0),(32,0),(33,0),(34,0)] mixed (by kernel_rfl) ?_|refine zco ?_ ?_|exact zd|(refine fun (hg:(_:Prop))=>?_;(try replace hg:=HG.out hg);(try dsimp only at hg);(try (have _h:True:=hg;clear _h hg)))))
  all_goals first
    | (exfalso;omega)
    | ((refine aw_ret ?_;(repeat (first|refine ret_then ?_|refine ret_block ?_));refine bq1 rfl ⟨?_,rfl⟩);rfl)
    | skip
  refine aw_for h.orders.length (fun _=>True) (fun k=>[(1,vi n),(2,.ref h.enc 0),(5,vb true),(6,.ref (traceF h n).enc 0),(7,vi (askE h n)),(8,vi (sumN (tellF h) k)),(41,encOrders h.orders),(42,vi h.orders.length),(43,vi k)]) (fun _=>[]) trivial ?_ ?_
  · (exact zsbD [] [0,1])
  intro k hk _
  have hsb:=sumTell_bnd hT k
  by_cases hlt:k<h.orders.length
  · have hin:inOrders h k:=⟨by omega,by omega⟩
    have hrep:=hReport_p h k hs hst
    rw [repV_ok (repE_ok hV hin)] at hrep
    obtain ⟨r0,r1,r2,r3,_⟩:=report_ok hV hlt
    have hoe:ordAt h k=el h.orders k:=rfl
    rw [hoe] at hrep
    have hneed:=(hV.orders k hlt).2.2.1
    have hst2:sumN (tellF h) (k+1)=sumN (tellF h) k+(doneF h k 0+doneF h k 1+doneF h k 2):=rfl
    have hTk:=hT k
    rw [tellF_eq] at hTk
    (repeat' (first|(refine ar_isq ?_;refine zq ?_)|refine zil (j:=k) ?_|refine zis (j:=k) ?_|refine zit (j:=k) ?_|(refine zpvD fn25 (hrep) ?_)|refine zg ?_ ?_|refine zgu ?_|refine zst ?_|refine aw_drawn (id:=20) [(0,0),(1,0),(2,0),(3,0),(4,0),(5,0),(6,0),(7,0),(8,0),(9,1),(10,0),(11,0),(12,0),(13,0),(14,0)] mixed (by kernel_rfl) ?_|refine aw_drawn (id:=20) [(0,0),(1,0),(2,0),(3,0),(4,0),(5,0),(6,0),(7,0),(8,0),(9,2),(10,0),(11,0),(12,0),(13,0),(14,0)] mixed (by kernel_rfl) ?_|refine aw_drawn (id:=21) [(0,0),(1,0),(2,0),(3,0),(4,0),(5,0),(6,0),(7,0),(8,0),(9,0),(10,1),(11,0),(12,0),(13,0),(14,0),(15,0),(16,0),(17,0),(18,0),(19,0),(20,0),(21,0),(22,0),(23,0),(24,0),(25,0),(26,0),(27,0),(28,0),(29,0),(30,0),(31,0),(32,0),(33,0),(34,0),(35,0)] mixed (by kernel_rfl) ?_|refine aw_drawn (id:=21) [(0,0),(1,0),(2,0),(3,0),(4,0),(5,0),(6,0),(7,0),(8,0),(9,0),(10,2),(11,0),(12,0),(13,0),(14,0),(15,0),(16,0),(17,0),(18,0),(19,0),(20,0),(21,0),(22,0),(23,0),(24,0),(25,0),(26,0),(27,0),(28,0),(29,0),(30,0),(31,0),(32,0),(33,0),(34,0),(35,0)] mixed (by kernel_rfl) ?_|refine aw_drawn (id:=24) [(0,0),(1,0),(2,0),(3,0),(4,0),(5,0),(6,0),(7,0),(8,0),(9,0),(10,0),(11,0),(12,0),(13,0),(14,0),(15,0),(16,0),(17,0),(18,0),(19,0),(20,0),(21,0),(22,0),(23,0),(24,0),(25,0),(26,0),(27,0),(28,0),(29,0),(30,0),(31,0),(32,0),(33,0),(34,0)] mixed (by kernel_rfl) ?_|refine zco ?_ ?_|exact zd|(refine fun (hg:(_:Prop))=>?_;(try replace hg:=HG.out hg);(try dsimp only at hg);(try (have _h:True:=hg;clear _h hg)))))
    all_goals first
      | (exfalso;omega)
      | ((first|refine loop_next (by omega) ?_ ?_|refine (show _∧_∧SubOf _ _ _ _ _ _ from And.intro (by omega) (And.intro ?_ ?_)));(focus ((trivial);done));(focus (exact zscD [] [])))
      | trace_state
  · obtain rfl:k=h.orders.length:=by omega
    by_cases hn:inPrints h n
    · have he:=askE_ok hV hn
      obtain ⟨q,rfl⟩:=Int.eq_ofNat_of_zero_le hn.1
      have hq:q<h.store.prints.length:=by have:=hn.2;omega
      have hpl:=(hV.store.2.2.2.1 q hq).1
      have hle:=lineE_ok hV.store hpl
      have hli:=pLine_p h.store (el h.store.prints q).plate
      rw [hle] at hli
      have ho:=(hV.fors q (by omega)).1
      unfold inOrders at ho
      have hgb:=grow_bnd hper.1 q
      have ht:traceF h q=orgF h q:=by unfold traceF;rw [if_pos he]
      rw [ht,he]
      have horg:(orgF h q).enc=.agg [vi (el h.fors q),vi (el h.orders (el h.fors q).toNat).client,vi (el h.orders (el h.fors q).toNat).design,encInts (lineF h.store (el h.store.prints q).plate),vi (growF h q)]:=rfl
      rw [horg]
      have hqn:inPrints h q:=hn
      unfold inPrints at hqn
      (repeat' (first|(refine ar_isq ?_;refine zq ?_)|refine zil (j:=q) ?_|refine zis (j:=q) ?_|refine zit (j:=q) ?_|refine zil (j:=(el h.fors q).toNat) ?_|refine zis (j:=(el h.fors q).toNat) ?_|refine zit (j:=(el h.fors q).toNat) ?_|(refine zpvD fn31 (hli) ?_)|(refine zpvD fn32 (sameInts_p (lineF h.store (el h.store.prints q).plate)) ?_)|refine zg ?_ ?_|refine zgu ?_|refine zst ?_|refine aw_drawn (id:=20) [(0,0),(1,0),(2,0),(3,0),(4,0),(5,0),(6,0),(7,0),(8,0),(9,1),(10,0),(11,0),(12,0),(13,0),(14,0)] mixed (by kernel_rfl) ?_|refine aw_drawn (id:=20) [(0,0),(1,0),(2,0),(3,0),(4,0),(5,0),(6,0),(7,0),(8,0),(9,2),(10,0),(11,0),(12,0),(13,0),(14,0)] mixed (by kernel_rfl) ?_|refine aw_drawn (id:=21) [(0,0),(1,0),(2,0),(3,0),(4,0),(5,0),(6,0),(7,0),(8,0),(9,0),(10,1),(11,0),(12,0),(13,0),(14,0),(15,0),(16,0),(17,0),(18,0),(19,0),(20,0),(21,0),(22,0),(23,0),(24,0),(25,0),(26,0),(27,0),(28,0),(29,0),(30,0),(31,0),(32,0),(33,0),(34,0),(35,0)] mixed (by kernel_rfl) ?_|refine aw_drawn (id:=21) [(0,0),(1,0),(2,0),(3,0),(4,0),(5,0),(6,0),(7,0),(8,0),(9,0),(10,2),(11,0),(12,0),(13,0),(14,0),(15,0),(16,0),(17,0),(18,0),(19,0),(20,0),(21,0),(22,0),(23,0),(24,0),(25,0),(26,0),(27,0),(28,0),(29,0),(30,0),(31,0),(32,0),(33,0),(34,0),(35,0)] mixed (by kernel_rfl) ?_|refine aw_drawn (id:=24) [(0,0),(1,0),(2,0),(3,0),(4,0),(5,0),(6,0),(7,0),(8,0),(9,0),(10,0),(11,0),(12,0),(13,0),(14,0),(15,0),(16,0),(17,0),(18,0),(19,0),(20,0),(21,0),(22,0),(23,0),(24,0),(25,0),(26,0),(27,0),(28,0),(29,0),(30,0),(31,0),(32,0),(33,0),(34,0)] mixed (by kernel_rfl) ?_|refine zco ?_ ?_|exact zd|(refine fun (hg:(_:Prop))=>?_;(try replace hg:=HG.out hg);(try dsimp only at hg);(try (have _h:True:=hg;clear _h hg)))))
      all_goals first
        | (exfalso;omega)
        | ((refine aw_ret ?_;(repeat (first|refine ret_then ?_|refine ret_block ?_));refine bq1 rfl ⟨?_,rfl⟩);rfl)
        | ((refine aw_ret ?_;(repeat (first|refine ret_then ?_|refine ret_block ?_));refine bq1 rfl ⟨?_,rfl⟩);refine congrArg vb ?_;exact decide_eq_true (by omega))
        | trace_state
    · have he:=askE_none hV hn
      rw [he]
      unfold inPrints at hn
      (repeat' (first|(refine ar_isq ?_;refine zq ?_)|refine zg ?_ ?_|refine zgu ?_|refine zst ?_|refine aw_drawn (id:=20) [(0,0),(1,0),(2,0),(3,0),(4,0),(5,0),(6,0),(7,0),(8,0),(9,1),(10,0),(11,0),(12,0),(13,0),(14,0)] mixed (by kernel_rfl) ?_|refine aw_drawn (id:=20) [(0,0),(1,0),(2,0),(3,0),(4,0),(5,0),(6,0),(7,0),(8,0),(9,2),(10,0),(11,0),(12,0),(13,0),(14,0)] mixed (by kernel_rfl) ?_|refine aw_drawn (id:=21) [(0,0),(1,0),(2,0),(3,0),(4,0),(5,0),(6,0),(7,0),(8,0),(9,0),(10,1),(11,0),(12,0),(13,0),(14,0),(15,0),(16,0),(17,0),(18,0),(19,0),(20,0),(21,0),(22,0),(23,0),(24,0),(25,0),(26,0),(27,0),(28,0),(29,0),(30,0),(31,0),(32,0),(33,0),(34,0),(35,0)] mixed (by kernel_rfl) ?_|refine aw_drawn (id:=21) [(0,0),(1,0),(2,0),(3,0),(4,0),(5,0),(6,0),(7,0),(8,0),(9,0),(10,2),(11,0),(12,0),(13,0),(14,0),(15,0),(16,0),(17,0),(18,0),(19,0),(20,0),(21,0),(22,0),(23,0),(24,0),(25,0),(26,0),(27,0),(28,0),(29,0),(30,0),(31,0),(32,0),(33,0),(34,0),(35,0)] mixed (by kernel_rfl) ?_|refine aw_drawn (id:=24) [(0,0),(1,0),(2,0),(3,0),(4,0),(5,0),(6,0),(7,0),(8,0),(9,0),(10,0),(11,0),(12,0),(13,0),(14,0),(15,0),(16,0),(17,0),(18,0),(19,0),(20,0),(21,0),(22,0),(23,0),(24,0),(25,0),(26,0),(27,0),(28,0),(29,0),(30,0),(31,0),(32,0),(33,0),(34,0)] mixed (by kernel_rfl) ?_|refine zco ?_ ?_|exact zd|(refine fun (hg:(_:Prop))=>?_;(try replace hg:=HG.out hg);(try dsimp only at hg);(try (have _h:True:=hg;clear _h hg)))))
      all_goals first
        | (exfalso;omega)
        | ((refine aw_ret ?_;(repeat (first|refine ret_then ?_|refine ret_block ?_));refine bq1 rfl ⟨?_,rfl⟩);rfl)
        | trace_state
theorem houseTraced_p (h:Hse) (hw:h.wf) (n:Int) (_hn:i64ok n):PCalls Tryz.prog 8 [h.enc,vi n] (·=vb true):=by
  have hst:StOk h.store:=stOk_wf hw.2.2.1
  by_cases hs:HSmall h
  · by_cases hV:HValid h
    · exact traced_ok h n hs hst hV
    · exact traced_bad h n hs hst hV
  · refine pcalls_of_aw Tryz.func8 rfl (Nat.le_of_ble_eq_true rfl) ?_
    (repeat' (first|(refine ar_isq ?_;refine zq ?_)|(refine zpvD fn24 (halive_p) ?_)|(refine ar_pcall (own:=false) fn17 rfl rfl (.cons (.closed rfl) .nil) (rgreat_p h) (by simp) (dc rfl) ?_;rintro _ (rfl|⟨rfl,hs2⟩))|refine zg ?_ ?_|refine zgu ?_|refine zst ?_|refine aw_drawn (id:=20) [(0,0),(1,0),(2,0),(3,0),(4,0),(5,0),(6,0),(7,0),(8,0),(9,1),(10,0),(11,0),(12,0),(13,0),(14,0)] mixed (by kernel_rfl) ?_|refine aw_drawn (id:=20) [(0,0),(1,0),(2,0),(3,0),(4,0),(5,0),(6,0),(7,0),(8,0),(9,2),(10,0),(11,0),(12,0),(13,0),(14,0)] mixed (by kernel_rfl) ?_|refine aw_drawn (id:=21) [(0,0),(1,0),(2,0),(3,0),(4,0),(5,0),(6,0),(7,0),(8,0),(9,0),(10,1),(11,0),(12,0),(13,0),(14,0),(15,0),(16,0),(17,0),(18,0),(19,0),(20,0),(21,0),(22,0),(23,0),(24,0),(25,0),(26,0),(27,0),(28,0),(29,0),(30,0),(31,0),(32,0),(33,0),(34,0),(35,0)] mixed (by kernel_rfl) ?_|refine aw_drawn (id:=21) [(0,0),(1,0),(2,0),(3,0),(4,0),(5,0),(6,0),(7,0),(8,0),(9,0),(10,2),(11,0),(12,0),(13,0),(14,0),(15,0),(16,0),(17,0),(18,0),(19,0),(20,0),(21,0),(22,0),(23,0),(24,0),(25,0),(26,0),(27,0),(28,0),(29,0),(30,0),(31,0),(32,0),(33,0),(34,0),(35,0)] mixed (by kernel_rfl) ?_|refine aw_drawn (id:=24) [(0,0),(1,0),(2,0),(3,0),(4,0),(5,0),(6,0),(7,0),(8,0),(9,0),(10,0),(11,0),(12,0),(13,0),(14,0),(15,0),(16,0),(17,0),(18,0),(19,0),(20,0),(21,0),(22,0),(23,0),(24,0),(25,0),(26,0),(27,0),(28,0),(29,0),(30,0),(31,0),(32,0),(33,0),(34,0)] mixed (by kernel_rfl) ?_|refine zco ?_ ?_|exact zd|(refine fun (hg:(_:Prop))=>?_;(try replace hg:=HG.out hg);(try dsimp only at hg);(try (have _h:True:=hg;clear _h hg)))))
    all_goals first
      | (exact absurd hs2 hs)
      | ((refine aw_ret ?_;(repeat (first|refine ret_then ?_|refine ret_block ?_));refine bq1 rfl ⟨?_,rfl⟩);rfl)
      | trace_state
end Go.Proofs.YtbilpbabdgfblaaGreat
