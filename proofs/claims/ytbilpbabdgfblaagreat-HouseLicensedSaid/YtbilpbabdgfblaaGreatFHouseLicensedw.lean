/- HouseLicensed: the walk of the law. No condition. -/
import Derived.Test.YtbilpbabdgfblaaGreatKLi20
set_option maxHeartbeats 16000000
set_option linter.unusedSimpArgs false
set_option linter.unusedVariables false
namespace Go.Proofs.YtbilpbabdgfblaaGreat
open Go.RowKit
def pairOf (j:Job):Int × Int:=(j.client,j.design)
/-- What the licences of the first k deeds allow, by client and design. -/
def mayM (bk:List Job):Nat→List ((Int × Int) × Int)
  | 0=>[]
  | k+1=>if (el bk k).kind=2 then putK (mayM bk k) (pairOf (el bk k)) (getP0 (mayM bk k) (pairOf (el bk k))+(el bk k).n) else mayM bk k
/-- What they order. -/
def ordM (bk:List Job):Nat→List ((Int × Int) × Int)
  | 0=>[]
  | k+1=>if (el bk k).kind=3 then putK (ordM bk k) (pairOf (el bk k)) (getP0 (ordM bk k) (pairOf (el bk k))+(el bk k).n) else ordM bk k
def ordN (bk:List Job):Nat→Nat
  | 0=>0
  | k+1=>if (el bk k).kind=3 then ordN bk k+1 else ordN bk k
section
variable {bk:List Job}
theorem mayM_yes {k:Nat}(h:(el bk k).kind=2):mayM bk (k+1)=putK (mayM bk k) (pairOf (el bk k)) (getP0 (mayM bk k) (pairOf (el bk k))+(el bk k).n):=by rw [mayM,if_pos h]
theorem mayM_no {k:Nat}(h:¬ (el bk k).kind=2):mayM bk (k+1)=mayM bk k:=by rw [mayM,if_neg h]
theorem ordM_yes {k:Nat}(h:(el bk k).kind=3):ordM bk (k+1)=putK (ordM bk k) (pairOf (el bk k)) (getP0 (ordM bk k) (pairOf (el bk k))+(el bk k).n):=by rw [ordM,if_pos h]
theorem ordM_no {k:Nat}(h:¬ (el bk k).kind=3):ordM bk (k+1)=ordM bk k:=by rw [ordM,if_neg h]
theorem ordN_yes {k:Nat}(h:(el bk k).kind=3):ordN bk (k+1)=ordN bk k+1:=by rw [ordN,if_pos h]
theorem ordN_no {k:Nat}(h:¬ (el bk k).kind=3):ordN bk (k+1)=ordN bk k:=by rw [ordN,if_neg h]
theorem ordN_le:∀ k,ordN bk k≤k
  | 0=>Nat.le_refl _
  | k+1=>by
    have:=ordN_le k
    rw [ordN]
    split<;>omega
theorem mayM_get (c d:Int):∀ k,getP0 (mayM bk k) (c,d)=mayTo bk c d k
  | 0=>rfl
  | k+1=>by
    have ih:=mayM_get c d k
    have e:mayTo bk c d (k+1)=mayTo bk c d k+mayOf c d (el bk k):=rfl
    rw [e]
    unfold mayOf
    by_cases h:(el bk k).kind=2
    · rw [mayM_yes h,getP0_put]
      by_cases hp:(c,d)=pairOf (el bk k)
      · have hp2:(el bk k).client=c∧(el bk k).design=d:=by unfold pairOf at hp;rw [Prod.mk.injEq] at hp;exact ⟨hp.1.symm,hp.2.symm⟩
        rw [if_pos hp,if_pos ⟨h,hp2⟩,← hp,ih]
      · rw [if_neg hp,if_neg (fun q=>hp (by unfold pairOf;rw [q.2.1,q.2.2])),ih,Int.add_zero]
    · rw [mayM_no h,if_neg (fun q=>h q.1),ih,Int.add_zero]
theorem ordM_get (c d:Int):∀ k,getP0 (ordM bk k) (c,d)=ordTo bk c d k
  | 0=>rfl
  | k+1=>by
    have ih:=ordM_get c d k
    have e:ordTo bk c d (k+1)=ordTo bk c d k+ordOf c d (el bk k):=rfl
    rw [e]
    unfold ordOf
    by_cases h:(el bk k).kind=3
    · rw [ordM_yes h,getP0_put]
      by_cases hp:(c,d)=pairOf (el bk k)
      · have hp2:(el bk k).client=c∧(el bk k).design=d:=by unfold pairOf at hp;rw [Prod.mk.injEq] at hp;exact ⟨hp.1.symm,hp.2.symm⟩
        rw [if_pos hp,if_pos ⟨h,hp2⟩,← hp,ih]
      · rw [if_neg hp,if_neg (fun q=>hp (by unfold pairOf;rw [q.2.1,q.2.2])),ih,Int.add_zero]
    · rw [ordM_no h,if_neg (fun q=>h q.1),ih,Int.add_zero]
theorem licn_n {h:Hse}{j:Job}(he:licnE h j=0):1≤j.n∧j.n≤400:=by
  unfold licnE at he
  split at he
  · omega
  · split at he
    · omega
    · rename_i h2
      exact (Classical.byContradiction h2).2.2.1
theorem take_n2 {h:Hse}{j:Job}(he:takeE h j=0):1≤j.n∧j.n≤400:=by
  unfold takeE at he
  split at he
  · omega
  · split at he
    · omega
    · rename_i h2
      exact (Classical.byContradiction h2).2
theorem job2 {h:Hse}{j:Job}(hk:j.kind=2):jobE h j=licnE h j:=by unfold jobE;rw [if_neg (by omega),if_pos hk]
theorem job3 {h:Hse}{j:Job}(hk:j.kind=3):jobE h j=takeE h j:=by unfold jobE;rw [if_neg (by omega),if_neg (by omega),if_pos hk]
variable {per life:Int}
theorem may_bnd (c d:Int):∀ {k:Nat},(∀ j,j<k→hErrAt per life bk j=0)→0≤mayTo bk c d k∧mayTo bk c d k≤400*k
  | 0,_=>⟨Int.le_refl _,Int.le_refl _⟩
  | k+1,hJ=>by
    have ih:=may_bnd c d (k:=k) fun j hj=>hJ j (by omega)
    have he:jobE (hAt per life bk k) (el bk k)=0:=hJ k (by omega)
    have e:mayTo bk c d (k+1)=mayTo bk c d k+mayOf c d (el bk k):=rfl
    rw [e]
    unfold mayOf
    split
    · rename_i h
      rw [job2 h.1] at he
      have:=licn_n he
      omega
    · omega
theorem ord_bnd (c d:Int):∀ {k:Nat},(∀ j,j<k→hErrAt per life bk j=0)→0≤ordTo bk c d k∧ordTo bk c d k≤400*k
  | 0,_=>⟨Int.le_refl _,Int.le_refl _⟩
  | k+1,hJ=>by
    have ih:=ord_bnd c d (k:=k) fun j hj=>hJ j (by omega)
    have he:jobE (hAt per life bk k) (el bk k)=0:=hJ k (by omega)
    have e:ordTo bk c d (k+1)=ordTo bk c d k+ordOf c d (el bk k):=rfl
    rw [e]
    unfold ordOf
    split
    · rename_i h
      rw [job3 h.1] at he
      have:=take_n2 he
      omega
    · omega
theorem job_orders (h:Hse) (j:Job):(jobF h j).orders.length=if j.kind=3 then h.orders.length+1 else h.orders.length:=by
  unfold jobF
  by_cases k1:j.kind=1
  · rw [if_pos k1,if_neg (by omega)];rfl
  · rw [if_neg k1]
    by_cases k2:j.kind=2
    · rw [if_pos k2,if_neg (by omega)];rfl
    · rw [if_neg k2]
      by_cases k3:j.kind=3
      · rw [if_pos k3,if_pos k3]
        show (h.orders++[_]).length=_
        rw [List.length_append];rfl
      · rw [if_neg k3,if_neg k3]
        repeat' split
        all_goals first|rfl|(show (h.orders.set _ _).length=_;rw [List.length_set])
theorem ordN_len:∀ k,(hAt per life bk k).orders.length=ordN bk k
  | 0=>rfl
  | k+1=>by
    show (jobF (hAt per life bk k) (el bk k)).orders.length=_
    rw [job_orders,ordN_len k,ordN]
end
section
variable (per life:Int) (bk:List Job)

set_option maxRecDepth 20000 in
theorem licensed_no (F:Hse) (x e:Int) (he:e≠0) (hp:PCalls Tryz.prog 14 [vi per,vi life,encJobs bk] (·=.tup [F.enc,vi x,vi e])):PCalls Tryz.prog 5 [vi per,vi life,encJobs bk] (·=vb true):=by
  refine pcalls_of_aw Tryz.func5 rfl (Nat.le_of_ble_eq_true rfl) ?_
  (repeat' (first|(refine ar_isq ?_;refine zq ?_)|(refine zbt ?_)|(refine zpv fn24 (halive_p) ?_)|(refine ar_pcall (own:=false) fn13 rfl rfl (.cons (.ext (fun _ _=>rfl)) .nil) (greatBook_p bk) (by simp) (dc rfl) ?_;rintro _ (rfl|⟨rfl,h220,hb⟩))|(refine zpv fn14 (hp) ?_)|refine zg ?_ ?_|refine zgu ?_|refine ar_forkL ?_ ?_|refine ar_lq rfl ?_|refine zst ?_|refine aw_fork (id:=14) [[(10,2),(6,0),(9,0),(11,0),(12,2)],[(10,2),(9,0),(11,0),(12,2)]] [(0,0),(1,0),(2,0),(3,0),(4,0),(5,0),(7,0),(8,0),(0,3),(6,1),(1,3),(9,1),(10,2),(11,0),(12,2)] mixed (by kernel_rfl) ?_|refine aw_fork (id:=16) [[(10,2),(6,0),(9,0),(11,0),(12,2)],[(10,2),(9,0),(11,0),(12,2)]] [(0,0),(1,0),(2,0),(3,0),(4,0),(5,0),(7,0),(8,0),(0,3),(6,1),(1,3),(9,1),(10,2),(11,0),(12,2)] mixed (by kernel_rfl) ?_|refine aw_drawn (id:=27) [(0,0),(1,0),(2,0),(3,0),(4,0),(5,0),(6,0),(7,0),(8,0),(9,0),(10,0),(11,0),(12,0),(13,0),(14,0),(15,0),(16,0),(17,0),(18,0)] mixed (by kernel_rfl) ?_|refine zco ?_ ?_|exact zd|(refine fun (hg:(_:Prop))=>?_;(try replace hg:=HG.out hg);(try dsimp only at hg);(try (have _h:True:=hg;clear _h hg)))))
  all_goals first
    | (exfalso;omega)
    | ((refine aw_ret ?_;(repeat (first|refine ret_then ?_|refine ret_block ?_));refine bq1 rfl ⟨?_,rfl⟩);rfl)
    | trace_state
set_option maxRecDepth 20000 in
theorem licensed_yes (h:Hse) (hh:h=hAt per life bk bk.length) (hV:HValid h) (hst:StOk h.store) (hJ:∀ j,j<bk.length→hErrAt per life bk j=0) (hp:PCalls Tryz.prog 14 [vi per,vi life,encJobs bk] (·=.tup [h.enc,vi 0,vi 0])):PCalls Tryz.prog 5 [vi per,vi life,encJobs bk] (·=vb true):=by
  have hN:h.orders.length=ordN bk bk.length:=by rw [hh];exact ordN_len _
  have hsm:=hsmall_of hV
  have hsm2:=hsm
  unfold HSmall at hsm2
  refine pcalls_of_aw Tryz.func5 rfl (Nat.le_of_ble_eq_true rfl) ?_
  (repeat' (first|(refine ar_isq ?_;refine zq ?_)|(refine zbt ?_)|(refine zpv fn24 (halive_p) ?_)|(refine ar_pcall (own:=false) fn13 rfl rfl (.cons (.ext (fun _ _=>rfl)) .nil) (greatBook_p bk) (by simp) (dc rfl) ?_;rintro _ (rfl|⟨rfl,h220,hb⟩))|(refine zpv fn14 (hp) ?_)|refine ar_makeMap (dc rfl) ?_|refine zg ?_ ?_|refine zgu ?_|refine ar_forkL ?_ ?_|refine ar_lq rfl ?_|refine zst ?_|refine aw_fork (id:=14) [[(10,2),(6,0),(9,0),(11,0),(12,2)],[(10,2),(9,0),(11,0),(12,2)]] [(0,0),(1,0),(2,0),(3,0),(4,0),(5,0),(7,0),(8,0),(0,3),(6,1),(1,3),(9,1),(10,2),(11,0),(12,2)] mixed (by kernel_rfl) ?_|refine aw_fork (id:=16) [[(10,2),(6,0),(9,0),(11,0),(12,2)],[(10,2),(9,0),(11,0),(12,2)]] [(0,0),(1,0),(2,0),(3,0),(4,0),(5,0),(7,0),(8,0),(0,3),(6,1),(1,3),(9,1),(10,2),(11,0),(12,2)] mixed (by kernel_rfl) ?_|refine aw_drawn (id:=27) [(0,0),(1,0),(2,0),(3,0),(4,0),(5,0),(6,0),(7,0),(8,0),(9,0),(10,0),(11,0),(12,0),(13,0),(14,0),(15,0),(16,0),(17,0),(18,0)] mixed (by kernel_rfl) ?_|refine zco ?_ ?_|exact zd|(refine fun (hg:(_:Prop))=>?_;(try replace hg:=HG.out hg);(try dsimp only at hg);(try (have _h:True:=hg;clear _h hg)))))
  all_goals first
    | (exfalso;omega)
    | ((refine aw_ret ?_;(repeat (first|refine ret_then ?_|refine ret_block ?_));refine bq1 rfl ⟨?_,rfl⟩);rfl)
    | skip
  refine aw_for bk.length (fun _=>True) (fun k=>[(7,vb true),(8,.ptr 10 0 0 0),(11,.map 1),(12,.map 2),(13,vi (ordN bk k)),(44,encJobs bk),(45,vi bk.length),(46,vi k)]) (fun k=>[.arr 10 1 (fun _=>h.enc),mapP vi (mayM bk k),mapP vi (ordM bk k)]) trivial ?_ ?_
  · (refine sub_to [some 0,some 1,some 2] [] rfl ?_ ?_<;>(repeat' (first|exact trivial|refine ⟨⟨_,rfl,?_⟩,?_⟩|refine vs1 ?_ ?_|refine vs2 ?_ ?_|refine vs3 ?_|refine vs4 ?_ ?_|refine ⟨.inl ⟨_,_,rfl,rfl,?_⟩,?_⟩|exact ⟨.inr ⟨rfl,rfl⟩,trivial⟩|refine ⟨.inr ⟨rfl,rfl⟩,?_⟩|(intro _ _)|exact vz1|(refine ⟨bsub_mapP rfl rfl (fun _=>rfl),?_⟩)|exact vz2|fail)))
  intro k hk _
  by_cases hlt:k<bk.length
  · have he:jobE (hAt per life bk k) (el bk k)=0:=hJ k hlt
    have g2:getP0 (mayM bk k) (pairOf (el bk k))=mayTo bk (el bk k).client (el bk k).design k:=mayM_get _ _ k
    have g3:getP0 (ordM bk k) (pairOf (el bk k))=ordTo bk (el bk k).client (el bk k).design k:=ordM_get _ _ k
    have b2:=may_bnd (per:=per) (life:=life) (bk:=bk) (el bk k).client (el bk k).design (k:=k) fun j hj=>hJ j (by omega)
    have b3:=ord_bnd (per:=per) (life:=life) (bk:=bk) (el bk k).client (el bk k).design (k:=k) fun j hj=>hJ j (by omega)
    have hn:ordN bk k≤k:=ordN_le k
    by_cases k2:(el bk k).kind=2
    · have n2:=licn_n ((job2 k2).symm.trans he)
      (repeat' (first|(refine ar_isq ?_;refine zq ?_)|refine zil (j:=k) ?_|refine zis (j:=k) ?_|refine zit (j:=k) ?_|(refine zbt ?_)|((refine zbt ?_))|refine ar_lookupPD (a:=pairOf (el bk k)) (ty rfl) rfl ⟨⟨_,_,seq rfl,ty rfl,rfl,rfl⟩⟩ (ty rfl) rfl rfl rfl rfl (dc rfl) ?_|((refine ar_mapAddA (a:=pairOf (el bk k)) (n:=(el bk k).n) (v:=getP0 (mayM bk k) (pairOf (el bk k))+(el bk k).n) (ty rfl) rfl ⟨⟨_,_,seq rfl,ty rfl,rfl,rfl⟩⟩ (ty rfl) rfl rfl rfl rfl (dc rfl) (dc rfl) (dc rfl) (dc rfl) (by decide) (by decide) (fun _=>rfl) (fun _=>rfl) (fun _=>rfl) (wrap64 (by omega)) (fun _ _=>rfl) (fun _ _=>rfl) ?_;intro _ _))|((refine ar_mapAddB (a:=pairOf (el bk k)) (p:=getP0 (mayM bk k) (pairOf (el bk k))) (n:=(el bk k).n) (v:=getP0 (mayM bk k) (pairOf (el bk k))+(el bk k).n) (ty rfl) rfl ⟨⟨_,_,seq rfl,ty rfl,rfl,rfl⟩⟩ (ty rfl) rfl rfl rfl (dc rfl) (dc rfl) (dc rfl) (by decide) (fun _=>rfl) (fun _=>rfl) (wrap64 (by omega)) (fun _ _=>rfl) (fun _ _=>rfl) ?_;intro _ _))|((refine ar_mapAddP (e:=vi) (a:=pairOf (el bk k)) (v:=getP0 (mayM bk k) (pairOf (el bk k))+(el bk k).n) (ty rfl) rfl ⟨⟨_,_,seq rfl,ty rfl,rfl,rfl⟩⟩ (ty rfl) rfl rfl rfl (dc rfl) (dc rfl) (by decide) (fun _ _=>rfl) (fun _ _=>rfl) ?_;intro _ _))|refine zg ?_ ?_|refine zgu ?_|refine ar_forkL ?_ ?_|refine ar_lq rfl ?_|refine zst ?_|refine aw_fork (id:=14) [[(10,2),(6,0),(9,0),(11,0),(12,2)],[(10,2),(9,0),(11,0),(12,2)]] [(0,0),(1,0),(2,0),(3,0),(4,0),(5,0),(7,0),(8,0),(0,3),(6,1),(1,3),(9,1),(10,2),(11,0),(12,2)] mixed (by kernel_rfl) ?_|refine aw_fork (id:=16) [[(10,2),(6,0),(9,0),(11,0),(12,2)],[(10,2),(9,0),(11,0),(12,2)]] [(0,0),(1,0),(2,0),(3,0),(4,0),(5,0),(7,0),(8,0),(0,3),(6,1),(1,3),(9,1),(10,2),(11,0),(12,2)] mixed (by kernel_rfl) ?_|refine aw_drawn (id:=27) [(0,0),(1,0),(2,0),(3,0),(4,0),(5,0),(6,0),(7,0),(8,0),(9,0),(10,0),(11,0),(12,0),(13,0),(14,0),(15,0),(16,0),(17,0),(18,0)] mixed (by kernel_rfl) ?_|refine zco ?_ ?_|exact zd|(refine fun (hg:(_:Prop))=>?_;(try replace hg:=HG.out hg);(try dsimp only at hg);(try (have _h:True:=hg;clear _h hg)))))
      all_goals first
        | (exfalso;omega)
        | (refine loop_next hlt trivial ?_
           rw [mayM_yes k2,ordM_no (by omega),ordN_no (by omega)]
           (refine sub_to [some 0,some 1,some 2] [] rfl ?_ ?_<;>(repeat' (first|exact trivial|refine ⟨⟨_,rfl,?_⟩,?_⟩|refine vs1 ?_ ?_|refine vs2 ?_ ?_|refine vs3 ?_|refine vs4 ?_ ?_|refine ⟨.inl ⟨_,_,rfl,rfl,?_⟩,?_⟩|exact ⟨.inr ⟨rfl,rfl⟩,trivial⟩|refine ⟨.inr ⟨rfl,rfl⟩,?_⟩|(intro _ _)|exact vz1|(refine ⟨bsub_mapP rfl rfl (fun _=>rfl),?_⟩)|exact vz2|fail))))
        | trace_state
    · by_cases k3:(el bk k).kind=3
      · have n3:=take_n2 ((job3 k3).symm.trans he)
        (repeat' (first|(refine ar_isq ?_;refine zq ?_)|refine zil (j:=k) ?_|refine zis (j:=k) ?_|refine zit (j:=k) ?_|(refine zbt ?_)|((refine zbt ?_))|refine ar_lookupPD (a:=pairOf (el bk k)) (ty rfl) rfl ⟨⟨_,_,seq rfl,ty rfl,rfl,rfl⟩⟩ (ty rfl) rfl rfl rfl rfl (dc rfl) ?_|((refine ar_mapAddA (a:=pairOf (el bk k)) (n:=(el bk k).n) (v:=getP0 (ordM bk k) (pairOf (el bk k))+(el bk k).n) (ty rfl) rfl ⟨⟨_,_,seq rfl,ty rfl,rfl,rfl⟩⟩ (ty rfl) rfl rfl rfl rfl (dc rfl) (dc rfl) (dc rfl) (dc rfl) (by decide) (by decide) (fun _=>rfl) (fun _=>rfl) (fun _=>rfl) (wrap64 (by omega)) (fun _ _=>rfl) (fun _ _=>rfl) ?_;intro _ _))|((refine ar_mapAddB (a:=pairOf (el bk k)) (p:=getP0 (ordM bk k) (pairOf (el bk k))) (n:=(el bk k).n) (v:=getP0 (ordM bk k) (pairOf (el bk k))+(el bk k).n) (ty rfl) rfl ⟨⟨_,_,seq rfl,ty rfl,rfl,rfl⟩⟩ (ty rfl) rfl rfl rfl (dc rfl) (dc rfl) (dc rfl) (by decide) (fun _=>rfl) (fun _=>rfl) (wrap64 (by omega)) (fun _ _=>rfl) (fun _ _=>rfl) ?_;intro _ _))|((refine ar_mapAddP (e:=vi) (a:=pairOf (el bk k)) (v:=getP0 (ordM bk k) (pairOf (el bk k))+(el bk k).n) (ty rfl) rfl ⟨⟨_,_,seq rfl,ty rfl,rfl,rfl⟩⟩ (ty rfl) rfl rfl rfl (dc rfl) (dc rfl) (by decide) (fun _ _=>rfl) (fun _ _=>rfl) ?_;intro _ _))|refine zg ?_ ?_|refine zgu ?_|refine ar_forkL ?_ ?_|refine ar_lq rfl ?_|refine zst ?_|refine aw_fork (id:=14) [[(10,2),(6,0),(9,0),(11,0),(12,2)],[(10,2),(9,0),(11,0),(12,2)]] [(0,0),(1,0),(2,0),(3,0),(4,0),(5,0),(7,0),(8,0),(0,3),(6,1),(1,3),(9,1),(10,2),(11,0),(12,2)] mixed (by kernel_rfl) ?_|refine aw_fork (id:=16) [[(10,2),(6,0),(9,0),(11,0),(12,2)],[(10,2),(9,0),(11,0),(12,2)]] [(0,0),(1,0),(2,0),(3,0),(4,0),(5,0),(7,0),(8,0),(0,3),(6,1),(1,3),(9,1),(10,2),(11,0),(12,2)] mixed (by kernel_rfl) ?_|refine aw_drawn (id:=27) [(0,0),(1,0),(2,0),(3,0),(4,0),(5,0),(6,0),(7,0),(8,0),(9,0),(10,0),(11,0),(12,0),(13,0),(14,0),(15,0),(16,0),(17,0),(18,0)] mixed (by kernel_rfl) ?_|refine zco ?_ ?_|exact zd|(refine fun (hg:(_:Prop))=>?_;(try replace hg:=HG.out hg);(try dsimp only at hg);(try (have _h:True:=hg;clear _h hg)))))
        all_goals first
          | (exfalso;omega)
          | (refine loop_next hlt trivial ?_
             rw [mayM_no k2,ordM_yes k3,ordN_yes k3]
             (refine sub_to [some 0,some 1,some 2] [] rfl ?_ ?_<;>(repeat' (first|exact trivial|refine ⟨⟨_,rfl,?_⟩,?_⟩|refine vs1 ?_ ?_|refine vs2 ?_ ?_|refine vs3 ?_|refine vs4 ?_ ?_|refine ⟨.inl ⟨_,_,rfl,rfl,?_⟩,?_⟩|exact ⟨.inr ⟨rfl,rfl⟩,trivial⟩|refine ⟨.inr ⟨rfl,rfl⟩,?_⟩|(intro _ _)|exact vz1|(first|refine ⟨bsub_mapP rfl rfl (fun _=>rfl),?_⟩|exact siEq (by omega))|exact vz2|fail))))
          | trace_state
      · (repeat' (first|(refine ar_isq ?_;refine zq ?_)|refine zil (j:=k) ?_|refine zis (j:=k) ?_|refine zit (j:=k) ?_|(refine zbt ?_)|((refine zbt ?_))|refine zg ?_ ?_|refine zgu ?_|refine ar_forkL ?_ ?_|refine ar_lq rfl ?_|refine zst ?_|refine aw_fork (id:=14) [[(10,2),(6,0),(9,0),(11,0),(12,2)],[(10,2),(9,0),(11,0),(12,2)]] [(0,0),(1,0),(2,0),(3,0),(4,0),(5,0),(7,0),(8,0),(0,3),(6,1),(1,3),(9,1),(10,2),(11,0),(12,2)] mixed (by kernel_rfl) ?_|refine aw_fork (id:=16) [[(10,2),(6,0),(9,0),(11,0),(12,2)],[(10,2),(9,0),(11,0),(12,2)]] [(0,0),(1,0),(2,0),(3,0),(4,0),(5,0),(7,0),(8,0),(0,3),(6,1),(1,3),(9,1),(10,2),(11,0),(12,2)] mixed (by kernel_rfl) ?_|refine aw_drawn (id:=27) [(0,0),(1,0),(2,0),(3,0),(4,0),(5,0),(6,0),(7,0),(8,0),(9,0),(10,0),(11,0),(12,0),(13,0),(14,0),(15,0),(16,0),(17,0),(18,0)] mixed (by kernel_rfl) ?_|refine zco ?_ ?_|exact zd|(refine fun (hg:(_:Prop))=>?_;(try replace hg:=HG.out hg);(try dsimp only at hg);(try (have _h:True:=hg;clear _h hg)))))
        all_goals first
          | (exfalso;omega)
          | (refine loop_next hlt trivial ?_
             rw [mayM_no k2,ordM_no k3,ordN_no k3]
             (refine sub_to [some 0,some 1,some 2] [] rfl ?_ ?_<;>(repeat' (first|exact trivial|refine ⟨⟨_,rfl,?_⟩,?_⟩|refine vs1 ?_ ?_|refine vs2 ?_ ?_|refine vs3 ?_|refine vs4 ?_ ?_|refine ⟨.inl ⟨_,_,rfl,rfl,?_⟩,?_⟩|exact ⟨.inr ⟨rfl,rfl⟩,trivial⟩|refine ⟨.inr ⟨rfl,rfl⟩,?_⟩|(intro _ _)|exact vz1|(refine ⟨bsub_mapP rfl rfl (fun _=>rfl),?_⟩)|exact vz2|fail))))
          | trace_state
  · obtain rfl:k=bk.length:=by omega
    (repeat' (first|(refine ar_isq ?_;refine zq ?_)|(refine zbt ?_)|refine zg ?_ ?_|refine zgu ?_|refine ar_forkL ?_ ?_|refine ar_lq rfl ?_|refine zst ?_|refine aw_fork (id:=14) [[(10,2),(6,0),(9,0),(11,0),(12,2)],[(10,2),(9,0),(11,0),(12,2)]] [(0,0),(1,0),(2,0),(3,0),(4,0),(5,0),(7,0),(8,0),(0,3),(6,1),(1,3),(9,1),(10,2),(11,0),(12,2)] mixed (by kernel_rfl) ?_|refine aw_fork (id:=16) [[(10,2),(6,0),(9,0),(11,0),(12,2)],[(10,2),(9,0),(11,0),(12,2)]] [(0,0),(1,0),(2,0),(3,0),(4,0),(5,0),(7,0),(8,0),(0,3),(6,1),(1,3),(9,1),(10,2),(11,0),(12,2)] mixed (by kernel_rfl) ?_|refine aw_drawn (id:=27) [(0,0),(1,0),(2,0),(3,0),(4,0),(5,0),(6,0),(7,0),(8,0),(9,0),(10,0),(11,0),(12,0),(13,0),(14,0),(15,0),(16,0),(17,0),(18,0)] mixed (by kernel_rfl) ?_|refine zco ?_ ?_|exact zd|(refine fun (hg:(_:Prop))=>?_;(try replace hg:=HG.out hg);(try dsimp only at hg);(try (have _h:True:=hg;clear _h hg)))))
    all_goals (try (exfalso;omega))
    refine aw_for h.orders.length (fun _=>True) (fun k=>[(7,vb true),(8,.ptr 10 0 0 0),(11,.map 1),(12,.map 2),(89,encOrders h.orders),(90,vi h.orders.length),(91,vi k)]) (fun _=>[.arr 10 1 (fun _=>h.enc),mapP vi (mayM bk bk.length),mapP vi (ordM bk bk.length)]) trivial ?_ ?_
    · (refine sub_to [some 0,some 1,some 2] [] rfl ?_ ?_<;>(repeat' (first|exact trivial|refine ⟨⟨_,rfl,?_⟩,?_⟩|refine vs1 ?_ ?_|refine vs2 ?_ ?_|refine vs3 ?_|refine vs4 ?_ ?_|refine ⟨.inl ⟨_,_,rfl,rfl,?_⟩,?_⟩|exact ⟨.inr ⟨rfl,rfl⟩,trivial⟩|refine ⟨.inr ⟨rfl,rfl⟩,?_⟩|(intro _ _)|exact vz1|(refine ⟨bsub_mapP rfl rfl (fun _=>rfl),?_⟩)|exact vz2|fail)))
    intro k hk _
    by_cases hlt:k<h.orders.length
    · obtain ⟨o1,o2,o3,o4,o5⟩:=hV.orders k hlt
      unfold inDesigns at o2
      obtain ⟨r0,r1,r2,r3,r4⟩:=report_ok hV hlt
      have hr:=hReport_p h k hsm hst
      rw [repV_ok (repE_ok hV ⟨by omega,by omega⟩),show ordAt h (k:Int)=el h.orders k from by unfold ordAt;rw [Int.toNat_natCast]] at hr
      have g2:getP0 (mayM bk bk.length) ((el h.orders k).client,(el h.orders k).design)=mayTo bk (el h.orders k).client (el h.orders k).design bk.length:=mayM_get _ _ _
      have g3:getP0 (ordM bk bk.length) ((el h.orders k).client,(el h.orders k).design)=ordTo bk (el h.orders k).client (el h.orders k).design bk.length:=ordM_get _ _ _
      have hL:(el h.orders k).client≠(el h.designs (el h.orders k).design.toNat).owner→ordTo bk (el h.orders k).client (el h.orders k).design bk.length≤mayTo bk (el h.orders k).client (el h.orders k).design bk.length:=fun hne=>by
        have:=licensed_to (per:=per) (life:=life) (bk:=bk) (c:=(el h.orders k).client) (d:=(el h.orders k).design) (k:=bk.length) hJ (fun _=>by rw [← hh];exact hne)
        have:=leftSum_pos (by rw [← hh];exact hV:HValid (hAt per life bk bk.length)) (el h.orders k).client (el h.orders k).design
        omega
      have hdn:(el h.orders k).done=true∨(el h.orders k).done=false:=by cases (el h.orders k).done<;>simp
      by_cases hown:(el h.orders k).client=(el h.designs (el h.orders k).design.toNat).owner
      · (repeat' (first|(refine ar_isq ?_;refine zq ?_)|refine zil (j:=k) ?_|refine zis (j:=k) ?_|refine zit (j:=k) ?_|refine zil (j:=(el h.orders k).design.toNat) ?_|refine zis (j:=(el h.orders k).design.toNat) ?_|refine zit (j:=(el h.orders k).design.toNat) ?_|(refine zbt ?_)|((refine zbt ?_))|refine ar_lookupPD (a:=((el h.orders k).client,(el h.orders k).design)) (ty rfl) rfl ⟨⟨_,_,seq rfl,ty rfl,rfl,rfl⟩⟩ (ty rfl) rfl rfl rfl rfl (dc rfl) ?_|(refine zpv fn25 (hr) ?_)|refine zg ?_ ?_|refine zgu ?_|refine ar_forkL ?_ ?_|refine ar_lq rfl ?_|refine zst ?_|refine aw_fork (id:=14) [[(10,2),(6,0),(9,0),(11,0),(12,2)],[(10,2),(9,0),(11,0),(12,2)]] [(0,0),(1,0),(2,0),(3,0),(4,0),(5,0),(7,0),(8,0),(0,3),(6,1),(1,3),(9,1),(10,2),(11,0),(12,2)] mixed (by kernel_rfl) ?_|refine aw_fork (id:=16) [[(10,2),(6,0),(9,0),(11,0),(12,2)],[(10,2),(9,0),(11,0),(12,2)]] [(0,0),(1,0),(2,0),(3,0),(4,0),(5,0),(7,0),(8,0),(0,3),(6,1),(1,3),(9,1),(10,2),(11,0),(12,2)] mixed (by kernel_rfl) ?_|refine aw_drawn (id:=27) [(0,0),(1,0),(2,0),(3,0),(4,0),(5,0),(6,0),(7,0),(8,0),(9,0),(10,0),(11,0),(12,0),(13,0),(14,0),(15,0),(16,0),(17,0),(18,0)] mixed (by kernel_rfl) ?_|refine zco ?_ ?_|exact zd|(refine fun (hg:(_:Prop))=>?_;(try replace hg:=HG.out hg);(try dsimp only at hg);(try (have _h:True:=hg;clear _h hg)))))
        all_goals first
          | (exfalso;omega)
          | ((first|refine loop_next (by omega) ?_ ?_|refine (show _∧_∧SubOf _ _ _ _ _ _ from And.intro (by omega) (And.intro ?_ ?_)));(focus ((trivial);done));(focus ((refine sub_to [some 0,some 1,some 2] [] rfl ?_ ?_<;>(repeat' (first|exact trivial|refine ⟨⟨_,rfl,?_⟩,?_⟩|refine vs1 ?_ ?_|refine vs2 ?_ ?_|refine vs3 ?_|refine vs4 ?_ ?_|refine ⟨.inl ⟨_,_,rfl,rfl,?_⟩,?_⟩|exact ⟨.inr ⟨rfl,rfl⟩,trivial⟩|refine ⟨.inr ⟨rfl,rfl⟩,?_⟩|(intro _ _)|exact vz1|(refine ⟨bsub_mapP rfl rfl (fun _=>rfl),?_⟩)|exact vz2|fail)));done)))
          | (exfalso;have:=r4 (by assumption);omega)
          | trace_state
      · have hL2:=hL hown
        (repeat' (first|(refine ar_isq ?_;refine zq ?_)|refine zil (j:=k) ?_|refine zis (j:=k) ?_|refine zit (j:=k) ?_|refine zil (j:=(el h.orders k).design.toNat) ?_|refine zis (j:=(el h.orders k).design.toNat) ?_|refine zit (j:=(el h.orders k).design.toNat) ?_|(refine zbt ?_)|((refine zbt ?_))|refine ar_lookupPD (a:=((el h.orders k).client,(el h.orders k).design)) (ty rfl) rfl ⟨⟨_,_,seq rfl,ty rfl,rfl,rfl⟩⟩ (ty rfl) rfl rfl rfl rfl (dc rfl) ?_|(refine zpv fn25 (hr) ?_)|refine zg ?_ ?_|refine zgu ?_|refine ar_forkL ?_ ?_|refine ar_lq rfl ?_|refine zst ?_|refine aw_fork (id:=14) [[(10,2),(6,0),(9,0),(11,0),(12,2)],[(10,2),(9,0),(11,0),(12,2)]] [(0,0),(1,0),(2,0),(3,0),(4,0),(5,0),(7,0),(8,0),(0,3),(6,1),(1,3),(9,1),(10,2),(11,0),(12,2)] mixed (by kernel_rfl) ?_|refine aw_fork (id:=16) [[(10,2),(6,0),(9,0),(11,0),(12,2)],[(10,2),(9,0),(11,0),(12,2)]] [(0,0),(1,0),(2,0),(3,0),(4,0),(5,0),(7,0),(8,0),(0,3),(6,1),(1,3),(9,1),(10,2),(11,0),(12,2)] mixed (by kernel_rfl) ?_|refine aw_drawn (id:=27) [(0,0),(1,0),(2,0),(3,0),(4,0),(5,0),(6,0),(7,0),(8,0),(9,0),(10,0),(11,0),(12,0),(13,0),(14,0),(15,0),(16,0),(17,0),(18,0)] mixed (by kernel_rfl) ?_|refine zco ?_ ?_|exact zd|(refine fun (hg:(_:Prop))=>?_;(try replace hg:=HG.out hg);(try dsimp only at hg);(try (have _h:True:=hg;clear _h hg)))))
        all_goals first
          | (exfalso;omega)
          | ((first|refine loop_next (by omega) ?_ ?_|refine (show _∧_∧SubOf _ _ _ _ _ _ from And.intro (by omega) (And.intro ?_ ?_)));(focus ((trivial);done));(focus ((refine sub_to [some 0,some 1,some 2] [] rfl ?_ ?_<;>(repeat' (first|exact trivial|refine ⟨⟨_,rfl,?_⟩,?_⟩|refine vs1 ?_ ?_|refine vs2 ?_ ?_|refine vs3 ?_|refine vs4 ?_ ?_|refine ⟨.inl ⟨_,_,rfl,rfl,?_⟩,?_⟩|exact ⟨.inr ⟨rfl,rfl⟩,trivial⟩|refine ⟨.inr ⟨rfl,rfl⟩,?_⟩|(intro _ _)|exact vz1|(refine ⟨bsub_mapP rfl rfl (fun _=>rfl),?_⟩)|exact vz2|fail)));done)))
          | (exfalso;have:=r4 (by assumption);omega)
          | trace_state
    · obtain rfl:k=h.orders.length:=by omega
      (repeat' (first|(refine ar_isq ?_;refine zq ?_)|(refine zbt ?_)|refine zg ?_ ?_|refine zgu ?_|refine ar_forkL ?_ ?_|refine ar_lq rfl ?_|refine zst ?_|refine aw_fork (id:=14) [[(10,2),(6,0),(9,0),(11,0),(12,2)],[(10,2),(9,0),(11,0),(12,2)]] [(0,0),(1,0),(2,0),(3,0),(4,0),(5,0),(7,0),(8,0),(0,3),(6,1),(1,3),(9,1),(10,2),(11,0),(12,2)] mixed (by kernel_rfl) ?_|refine aw_fork (id:=16) [[(10,2),(6,0),(9,0),(11,0),(12,2)],[(10,2),(9,0),(11,0),(12,2)]] [(0,0),(1,0),(2,0),(3,0),(4,0),(5,0),(7,0),(8,0),(0,3),(6,1),(1,3),(9,1),(10,2),(11,0),(12,2)] mixed (by kernel_rfl) ?_|refine aw_drawn (id:=27) [(0,0),(1,0),(2,0),(3,0),(4,0),(5,0),(6,0),(7,0),(8,0),(9,0),(10,0),(11,0),(12,0),(13,0),(14,0),(15,0),(16,0),(17,0),(18,0)] mixed (by kernel_rfl) ?_|refine zco ?_ ?_|exact zd|(refine fun (hg:(_:Prop))=>?_;(try replace hg:=HG.out hg);(try dsimp only at hg);(try (have _h:True:=hg;clear _h hg)))))
      all_goals first
        | (exfalso;omega)
        | ((refine aw_ret ?_;(repeat (first|refine ret_then ?_|refine ret_block ?_));refine bq1 rfl ⟨?_,rfl⟩);rfl)
        | trace_state
end
theorem houseLicensed_p (per:Int) (_h0:i64ok per) (life:Int) (_h1:i64ok life) (bk:List Job) (hw:∀ x,x∈bk→x.wf):PCalls Tryz.prog 5 [vi per,vi life,encJobs bk] (·=vb true):=by
  have hp:=hPlay_p per life bk (jobs_u8 hw)
  by_cases hy:(hplayX per life bk).2=0
  · have hY:=hplayX_zero hy
    obtain ⟨g1,g2,g3⟩:=hplayX_all hY
    rw [hplayF_ok hy,hY] at hp
    exact licensed_yes per life bk _ rfl (hAt_ok (hvalid0.2 g2) g3) (stOk_at _ _ _ _) g3 hp
  · exact licensed_no per life bk _ _ _ hy hp
end Go.Proofs.YtbilpbabdgfblaaGreat
