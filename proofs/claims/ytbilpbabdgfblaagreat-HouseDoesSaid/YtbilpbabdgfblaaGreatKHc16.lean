/- Parts of the proof: a layer of values over the model, and contracts of functions. No condition. -/
import Derived.Test.YtbilpbabdgfblaaGreatKHc15
set_option maxHeartbeats 16000000
set_option linter.unusedSimpArgs false
set_option linter.unusedVariables false
namespace Go.Proofs.YtbilpbabdgfblaaGreat
open Go.RowKit
theorem allows_pos {d:Dsn}{per life:Int}(hd:GoodD d) (hp:1≤per∧per≤1000) (hl:1≤life):1≤allowsF per life d:=by
  unfold allowsF
  split
  · rename_i he
    have hge:gapErr d.sheet d.band=0:=Classical.byContradiction fun hn=>by rw [lastErr_gap hn] at he;exact hn he
    have hg:0<gapF d.sheet d.band:=hd.2.2.2.elim (fun h=>(h hge).elim) id
    obtain ⟨_,_,_,hg60⟩:=gap_ok hge
    have hb:=last_bnd (g:=gapF d.sheet d.band) (p:=per) (by omega) hp
    rw [lastF_ok he]
    omega
  · exact hl
theorem trans_ok {s:Sto}{i:Int}(h:transE s i=0):hereB s i∧(el s.items i.toNat).kind≠3:=by
  unfold transE at h
  split at h
  · rename_i hh
    split at h
    · omega
    · exact ⟨hh,by omega⟩
  · omega
theorem hvalid_trans {h:Hse}{j:Job}(hV:HValid h) (hk2:j.act.kind=2) (he:actE h.store j.act=0):HValid (workF h j):=by
  have he2:=he
  rw [actE_2 hk2] at he2
  obtain ⟨hh,hk3⟩:=trans_ok he2
  have hi0:=hh.1
  have hmm:=hV.mades
  have hk:j.act.item.toNat<h.store.items.length:=by omega
  have hst:(workF h j).store=transF h.store j.act.item:=actF_2 hk2
  have hit:(workF h j).store.items=h.store.items.set j.act.item.toNat (used1 (el h.store.items j.act.item.toNat) 1)++[made1 (el h.store.items j.act.item.toNat) j.act.item]:=by rw [hst];rfl
  have hpr:(workF h j).store.prints=h.store.prints:=by rw [hst];rfl
  have hlf:(workF h j).store.life=h.store.life:=by rw [hst];rfl
  have hml:(workF h j).made=h.made++[el h.made j.act.item.toNat]:=if_pos hk2
  have hfo:(workF h j).fors=h.fors:=rfl
  have hils:(h.store.items.set j.act.item.toNat (used1 (el h.store.items j.act.item.toNat) 1)).length=h.store.items.length:=List.length_set
  refine { per:=hV.per,day:=hV.day,store:=?_,few:=hV.few,designs:=hV.designs,lics:=hV.lics,mades:=by rw [hit,hml,List.length_append,List.length_append,hils,hmm];rfl,made:=fun i hi=>?_,forss:=by rw [hpr];exact hV.forss,fors:=fun i hi=>?_,orders:=fun i hi=>ordAt_same (h:=h) (t:=workF h j) rfl (Nat.le_refl _) (doneTo_same fun q _=>⟨rfl,by rw [hpr]⟩) (doneTo_same fun q _=>⟨rfl,by rw [hpr]⟩) (hV.orders i hi) }
  · exact valid_act hV.store he
  · rw [hit,List.length_append,List.length_singleton,hils] at hi
    unfold MadeAt
    rw [hit,hml,hlf]
    by_cases e:i<h.store.items.length
    · obtain ⟨a,b,c⟩:=hV.made i e
      have hsrc:=hV.store.2.1 i e
      unfold Made at hsrc
      rw [el_app_lt (by omega),el_app_lt (by omega),el_setI hk]
      by_cases e2:i=j.act.item.toNat
      · rw [if_pos e2]
        subst e2
        refine ⟨a,fun hne=>?_,fun h3=>(hk3 h3).elim⟩
        have hne2:(el h.store.items j.act.item.toNat).kind≠1:=hne
        show el h.made j.act.item.toNat=el (h.made++[el h.made j.act.item.toNat]) (el h.store.items j.act.item.toNat).src.toNat
        rw [el_app_lt (by omega)]
        exact b hne2
      · rw [if_neg e2]
        refine ⟨a,fun hne=>?_,c⟩
        rw [el_app_lt (by omega)]
        exact b hne
    · have e2:i=h.store.items.length:=by omega
      have e3:el (h.made++[el h.made j.act.item.toNat]) i=el h.made j.act.item.toNat:=by rw [e2,← hmm];exact el_snoc
      have e4:el (h.store.items.set j.act.item.toNat (used1 (el h.store.items j.act.item.toNat) 1)++[made1 (el h.store.items j.act.item.toNat) j.act.item]) i=made1 (el h.store.items j.act.item.toNat) j.act.item:=by rw [e2,← hils];exact el_snoc
      obtain ⟨a,_,_⟩:=hV.made _ hk
      rw [e3,e4]
      have hin:=a
      unfold inDesigns at hin
      refine ⟨a,fun _=>?_,fun _=>?_⟩
      · show el h.made j.act.item.toNat=el (h.made++[el h.made j.act.item.toNat]) j.act.item.toNat
        rw [el_app_lt (by omega)]
      · have hl:=hV.store.1
        unfold Few at hl
        have:=allows_pos (per:=h.per) (life:=h.store.life) (hV.designs (el h.made j.act.item.toNat).toNat (by omega)) hV.per hl.1.1
        show (0:Int)≤allowsF h.per h.store.life (el h.designs (el h.made j.act.item.toNat).toNat)
        omega
  · have hi2:i<h.fors.length:=hi
    obtain ⟨a,b⟩:=hV.fors i hi2
    have hff:=hV.forss
    have hp:=(hV.store.2.2.2.1 i (by omega)).1
    refine ⟨a,?_⟩
    rw [hpr,hml,el_app_lt (by omega)]
    exact b
theorem hvalid_work {h:Hse}{j:Job}(hV:HValid h) (he:workE h j=0):HValid (workF h j):=by
  unfold workE at he
  split at he
  · rename_i hk
    rcases hk with k|k|k|k
    · exact hvalid_trans hV k he
    · have he2:=he
      rw [actE_3 k] at he2
      have hh:=here_move he2
      have hi0:=hh.1
      exact hvalid_item (k:=j.act.item.toNat) (x:=place1 (el h.store.items j.act.item.toNat) j.act.dest) hV (by omega) (valid_act hV.store he) (by show (actF h.store j.act).items=_;rw [actF_3 k];rfl) (by show (actF h.store j.act).prints=_;rw [actF_3 k];rfl) (by show (actF h.store j.act).life=_;rw [actF_3 k];rfl) rfl rfl rfl rfl rfl (if_neg (by omega)) rfl rfl rfl (fun _=>rfl)
    · have he2:=he
      rw [actE_6 k] at he2
      have hs:=hvalid_spoil hV he2
      have e:workF h j=withS h (spendF h.store j.act.item j.act.n 2):=by
        unfold workF withS
        rw [actF_6 k,if_neg (by omega)]
      rw [e]
      exact hs
    · have he2:=he
      rw [actE_7 k] at he2
      have hh:=here_dest he2
      have hi0:=hh.1
      exact hvalid_item (k:=j.act.item.toNat) (x:=gone1 (el h.store.items j.act.item.toNat)) hV (by omega) (valid_act hV.store he) (by show (actF h.store j.act).items=_;rw [actF_7 k];rfl) (by show (actF h.store j.act).prints=_;rw [actF_7 k];rfl) (by show (actF h.store j.act).life=_;rw [actF_7 k];rfl) rfl rfl rfl rfl rfl (if_neg (by omega)) rfl rfl rfl (fun _=>rfl)
  · omega
theorem hvalid_job {h:Hse}{j:Job}(hV:HValid h) (he:jobE h j=0):HValid (jobF h j):=by
  unfold jobE at he
  unfold jobF
  split
  · rename_i k;rw [if_pos k] at he;exact hvalid_arch hV he
  · rename_i k1;rw [if_neg k1] at he
    split
    · rename_i k;rw [if_pos k] at he;exact hvalid_licn hV he
    · rename_i k2;rw [if_neg k2] at he
      split
      · rename_i k;rw [if_pos k] at he;exact hvalid_take hV he
      · rename_i k3;rw [if_neg k3] at he
        split
        · rename_i k;rw [if_pos k] at he;exact hvalid_engv hV he
        · rename_i k4;rw [if_neg k4] at he
          split
          · rename_i k;rw [if_pos k] at he;exact hvalid_work hV he
          · rename_i k5;rw [if_neg k5] at he
            split
            · rename_i k;rw [if_pos k] at he;exact hvalid_run hV he
            · rename_i k6;rw [if_neg k6] at he
              split
              · rename_i k;rw [if_pos k] at he;exact hvalid_give hV he
              · rename_i k7;rw [if_neg k7] at he
                split at he
                · exact hvalid_wait hV he
                · omega
def hse0 (per life:Int):Hse:=⟨per,0,⟨life,[],[]⟩,[],[],[],[],[]⟩
def hAt (per life:Int) (bk:List Job):Nat→Hse
  | 0=>hse0 per life
  | k+1=>jobF (hAt per life bk k) (el bk k)
def hErrAt (per life:Int) (bk:List Job) (k:Nat):Int:=jobE (hAt per life bk k) (el bk k)
theorem hvalid0 {per life:Int}:HValid (hse0 per life)↔(1≤per∧per≤1000)∧(1≤life∧life≤1000):=by
  constructor
  · intro h
    have hs:=h.store.1
    unfold Few at hs
    exact ⟨h.per,hs.1⟩
  · intro h
    refine { per:=h.1,day:=by show (0:Int)≤0∧(0:Int)≤10000;omega,store:=⟨⟨h.2,by simp [hse0],by simp [hse0]⟩,fun i hi=>by simp [hse0] at hi,fun i hi=>by simp [hse0] at hi,fun i hi=>by simp [hse0] at hi,fun i hi=>by simp [hse0] at hi⟩,few:=by simp [hse0],designs:=fun i hi=>by simp [hse0] at hi,lics:=fun i hi=>by simp [hse0] at hi,mades:=rfl,made:=fun i hi=>by simp [hse0] at hi,forss:=rfl,fors:=fun i hi=>by simp [hse0] at hi,orders:=fun i hi=>by simp [hse0] at hi }
theorem hAt_ok {per life:Int}{bk:List Job}(h0:HValid (hse0 per life)):∀ {k:Nat},(∀ j,j<k→hErrAt per life bk j=0)→HValid (hAt per life bk k)
  | 0,_=>h0
  | k+1,h=>hvalid_job (hAt_ok h0 (k:=k) fun j hj=>h j (by omega)) (h k (by omega))
def hFirst (per life:Int) (bk:List Job):Nat→Option Nat
  | 0=>none
  | k+1=>match hFirst per life bk k with
    | some j=>some j
    | none=>if hErrAt per life bk k=0 then none else some k
theorem hFirst_none {per life:Int}{bk:List Job}:∀ {k:Nat},(∀ j,j<k→hErrAt per life bk j=0)→hFirst per life bk k=none
  | 0,_=>rfl
  | k+1,h=>by
    unfold hFirst
    rw [hFirst_none fun j hj=>h j (by omega)]
    exact if_pos (h k (by omega))
theorem hFirst_at {per life:Int}{bk:List Job}{k:Nat}(h:∀ j,j<k→hErrAt per life bk j=0) (he:hErrAt per life bk k≠0):∀ {n:Nat},k<n→hFirst per life bk n=some k
  | 0,hk=>by omega
  | n+1,hk=>by
    unfold hFirst
    by_cases e:k=n
    · subst e
      rw [hFirst_none h]
      exact if_neg he
    · rw [hFirst_at h he (n:=n) (by omega)]
def hplayX (per life:Int) (bk:List Job):Int × Int :=
  if 200<bk.length then (0,4) else if (1≤per∧per≤1000)∧(1≤life∧life≤1000) then (match hFirst per life bk bk.length with|some j=>((j:Int),hErrAt per life bk j)|none=>(0,0)) else (0,2)
def noHse:Hse:=⟨0,0,⟨0,[],[]⟩,[],[],[],[],[]⟩
def hplayF (per life:Int) (bk:List Job):Hse:=if (hplayX per life bk).2=0 then hAt per life bk bk.length else noHse
theorem hplayX_many {per life:Int}{bk:List Job}(h:200<bk.length):hplayX per life bk=(0,4):=by unfold hplayX;rw [if_pos h]
theorem hplayX_arg {per life:Int}{bk:List Job}(h:¬ 200<bk.length) (hl:¬ ((1≤per∧per≤1000)∧(1≤life∧life≤1000))):hplayX per life bk=(0,2):=by unfold hplayX;rw [if_neg h,if_neg hl]
theorem hplayX_bad {per life:Int}{bk:List Job}{k:Nat}(h:¬ 200<bk.length) (hl:(1≤per∧per≤1000)∧(1≤life∧life≤1000)) (hJ:∀ j,j<k→hErrAt per life bk j=0) (hk:k<bk.length) (he:hErrAt per life bk k≠0):hplayX per life bk=((k:Int),hErrAt per life bk k):=by
  unfold hplayX
  rw [if_neg h,if_pos hl,hFirst_at hJ he hk]
theorem hplayX_ok {per life:Int}{bk:List Job}(h:¬ 200<bk.length) (hl:(1≤per∧per≤1000)∧(1≤life∧life≤1000)) (hJ:∀ j,j<bk.length→hErrAt per life bk j=0):hplayX per life bk=(0,0):=by
  unfold hplayX
  rw [if_neg h,if_pos hl,hFirst_none hJ]
theorem hplayF_bad {per life:Int}{bk:List Job}(h:(hplayX per life bk).2≠0):hplayF per life bk=noHse:=by unfold hplayF;rw [if_neg h]
theorem hplayF_ok {per life:Int}{bk:List Job}(h:(hplayX per life bk).2=0):hplayF per life bk=hAt per life bk bk.length:=by unfold hplayF;rw [if_pos h]
section
variable {h:Hse}{j:Job}
theorem takeE_1 (h1:¬ (0≤j.design∧j.design<(h.designs.length:Int))):takeE h j=6:=by unfold takeE;rw [if_pos (show ¬ inDesigns h j.design from h1)]
theorem takeE_2 (h1:0≤j.design∧j.design<(h.designs.length:Int)) (h2:¬ ((0≤j.client∧j.client≤50)∧(1≤j.n∧j.n≤400))):takeE h j=2:=by unfold takeE;rw [if_neg (fun h=>h h1),if_pos (show ¬ (aClient j.client∧(1≤j.n∧j.n≤400)) from h2)]
theorem takeE_3 (h1:0≤j.design∧j.design<(h.designs.length:Int)) (h2:(0≤j.client∧j.client≤50)∧(1≤j.n∧j.n≤400)) (h3:j.client≠ownerOf h j.design∧licOf h j=none):takeE h j=102:=by unfold takeE;rw [if_neg (fun h=>h h1),if_neg (fun h=>h h2),if_pos h3]
theorem takeE_4 (h1:0≤j.design∧j.design<(h.designs.length:Int)) (h2:(0≤j.client∧j.client≤50)∧(1≤j.n∧j.n≤400)) (h3:¬ (j.client≠ownerOf h j.design∧licOf h j=none)) (h4:¬ (h.orders.length:Int)<30):takeE h j=9:=by unfold takeE;rw [if_neg (fun h=>h h1),if_neg (fun h=>h h2),if_neg h3,if_pos (by omega)]
theorem takeE_5 (h1:0≤j.design∧j.design<(h.designs.length:Int)) (h2:(0≤j.client∧j.client≤50)∧(1≤j.n∧j.n≤400)) (h3:¬ (j.client≠ownerOf h j.design∧licOf h j=none)) (h4:(h.orders.length:Int)<30):takeE h j=0:=by unfold takeE;rw [if_neg (fun h=>h h1),if_neg (fun h=>h h2),if_neg h3,if_neg (by omega)]
end
def newOrd (j:Job):Ordr:=⟨j.client,j.design,j.n,false⟩
def withOL (h:Hse) (ls:List Lic) (os:List Ordr):Hse:={ h with lics:=ls,orders:=os }
theorem upd_encC {l:List Lic}{j:Nat}(hj:j<l.length) {x:Lic}{v:V}(hv:v=x.enc) (i:Nat):upd (fun i=>(el l i).enc) j v i=(el (l.set j x) i).enc:=by
  by_cases e:i=j
  · subst e
    rw [upd_same,hv]
    simp [el,hj]
  · rw [upd_other e]
    simp [el,List.getElem?_set_ne (Ne.symm e)]
theorem bsub_setC {H:Heap}{σ:List (Option Nat)}{fr:Nat→Prop}{k b j:Nat}{l:List Lic}(x:Lic) {v:V}(h:σ[k]?=some (some b)) (hj:j<l.length) (hb:H[b]?=some (.arr 4 l.length (upd (fun i=>(el l i).enc) j v))) (hv:v=x.enc):BSub H σ fr k (LB 4 Lic.enc (l.set j x)):=by
  refine .inl ⟨b,_,h,?_,fun i _=>.of_eq (upd_encC hj hv i) rfl⟩
  rw [hb,List.length_set]
section
variable (h:Hse) (m:List (Int × Tal)) (j:Job)
theorem take_own (hV:HValid h) (ht:TalOk h m) (hown:j.client=(el h.designs j.design.toNat).owner):ACalls Tryz.prog 130 [.ptr 11 0 0 0,j.enc] (shoB h m) (DeedR (takeF h j) (takeE h j)) (DeedP (takeE h j)):=by
  have hs:=hsmall_of hV
  have hfew:=hV.few
  have hF:takeF h j=withOL h h.lics (h.orders++[newOrd j]):=by unfold takeF takeL ownerOf;rw [if_pos hown];rfl
  have h3:¬ (j.client≠ownerOf h j.design∧licOf h j=none):=fun hx=>hx.1 hown
  rw [hF]
  refine acalls_of_aw Tryz.func130 rfl (dc rfl) ?_;refine aw_post ?_
  (repeat' (first|(refine ar_isq ?_;refine zq ?_)|refine zil (j:=j.design.toNat) ?_|refine zis (j:=j.design.toNat) ?_|refine zit (j:=j.design.toNat) ?_|(refine zbt ?_)|((refine ar_read h m (design_p h j.design hs) fn125 (by intros;subst_vars;rfl) ?_;intro _ hv;subst hv))|(((refine ar_subk_l (sub_frzL (t:=13) vi ([j.client]) rfl rfl rfl rfl (fun _ _=>rfl) (fun _=>rfl)) ?_);refine zpv fn56 (hfrom_p _ _ [j.client]) ?_))|(((refine ar_subk_l (sub_frzL (t:=18) vi ([j.n]) rfl rfl rfl rfl (fun _ _=>rfl) (fun _=>rfl)) ?_);refine zpv fn56 (hfrom_p _ _ [j.n]) ?_))|refine ar_buildLE vi ([_]) (by exact ty rfl) (by exact rfl) (by exact ty rfl) (by exact rfl) (by exact rfl) (by exact Nat.succ_pos _) (by exact rfl) (by exact dc rfl) (by exact rfl) (by exact fun _=>⟨rfl,rfl⟩) (by exact dc rfl) ?_|((refine ar_still h m (R:=(·=licV h j 4)) (Rp:=fun _=>False) (licence_p h m j hs) fn157 ?_ (fun _ _ h=>h.elim);intro _ hv;subst hv))|((refine ar_must ?_ ?_<;>intro hrf<;>first|exact absurd hrf (by decide)|((try replace hrf:=HG.out hrf);(try dsimp only at hrf);(try rw [fromB_one] at hrf);(try rw [withinB_iff] at hrf);(try rw [withinB_no] at hrf);(try rw [inD_iff] at hrf);(try rw [inO_iff] at hrf))))|refine zg ?_ ?_|refine zgu ?_|refine zst ?_|refine aw_drawn (id:=4) [(0,0),(1,0),(2,0),(3,0),(4,0),(5,0),(6,0),(7,0),(8,0),(9,0),(10,0),(11,0),(12,0),(13,0)] mixed (by kernel_rfl) ?_|refine aw_drawn (id:=8) [(0,0),(1,0),(2,0),(3,0),(4,0),(5,0),(6,0),(7,0),(8,0),(9,2)] mixed (by kernel_rfl) ?_|refine aw_drawn (id:=9) [(0,0),(1,0),(2,0),(3,0),(4,0),(5,0),(6,0),(7,0),(8,0),(9,0),(10,0),(11,0),(12,0),(13,1),(14,1),(15,0),(16,0),(17,0),(18,2)] mixed (by kernel_rfl) ?_|refine zco ?_ ?_|(refine fun (hg:(_:Prop))=>?_;first|exact absurd hg (by decide)|((try replace hg:=HG.out hg);(try dsimp only at hg);(try rw [fromB_one] at hg);(try rw [withinB_iff] at hg);(try rw [withinB_no] at hg);(try rw [inD_iff] at hg);(try rw [inO_iff] at hg);(try (have _h:True:=hg;clear _h hg));first|(exfalso;omega)|skip))))
  all_goals first
    | exact dead_ret (takeE_1 (by assumption)) (by decide)
    | exact dead_ret (takeE_2 (by assumption) (fun hx=>by first|exact absurd hx.1 (by assumption)|exact absurd hx.2 (by assumption))) (by decide)
    | exact dead_ret (takeE_4 (by assumption) ⟨by assumption,by assumption⟩ h3 (by assumption)) (by decide)
    | ((refine subq_n [] [.arr 11 1 (fun _=>shoV 9 10 11 12 13 14 15 8 (withOL h h.lics (h.orders++[newOrd j]))),.dead,.dead,.dead,.dead,.dead,.dead,.dead,mapE Tal.enc m,LB 5 Itm.enc (withOL h h.lics (h.orders++[newOrd j])).store.items,LB 2 Prt.enc (withOL h h.lics (h.orders++[newOrd j])).store.prints,LB 7 Dsn.enc (withOL h h.lics (h.orders++[newOrd j])).designs,LB 4 Lic.enc (withOL h h.lics (h.orders++[newOrd j])).lics,LB 4 Ordr.enc (withOL h h.lics (h.orders++[newOrd j])).orders,LB 1 vi (withOL h h.lics (h.orders++[newOrd j])).made,LB 1 vi (withOL h h.lics (h.orders++[newOrd j])).fors] ?_ ?_;(focus ((refine sub_toL [some 0,some 1,some 2,some 3,some 4,some 5,some 6,some 7,some 8,some 1,some 2,some 3,some 4,some 13,some 6,some 7] [] rfl ?_ ?_<;>(repeat' (first|exact trivial|refine ⟨⟨_,rfl,?_⟩,?_⟩|refine vs1 ?_ ?_|refine vs2 ?_ ?_|refine vs3 ?_|refine vs4 ?_ ?_|refine ⟨.inl ⟨_,_,rfl,rfl,?_⟩,?_⟩|exact ⟨.inr ⟨rfl,rfl⟩,trivial⟩|refine ⟨.inr ⟨rfl,rfl⟩,?_⟩|(intro _ _)|exact vz1|(first|refine ⟨trivial,?_⟩|refine ⟨bsub_mapE rfl rfl (fun _=>rfl),?_⟩|exact VSub.aggL ⟨.closed rfl,.closed rfl,.closed rfl,.sl rfl,.sl rfl,.sl rfl,.sl rfl,slEq rfl (by simp [withOL]),.sl rfl,.sl rfl,.map rfl,trivial⟩)|exact vz2|fail)));done)))
       exact bq0n ⟨takeE_5 (by assumption) ⟨by assumption,by assumption⟩ h3 (by assumption),rfl,m,talOk_same ht (fun _ _=>rfl),rfl⟩)
    | trace_state
theorem take_none (hV:HValid h) (hown:¬ j.client=(el h.designs j.design.toNat).owner) (hl:licOf h j=none):ACalls Tryz.prog 130 [.ptr 11 0 0 0,j.enc] (shoB h m) (DeedR (takeF h j) (takeE h j)) (DeedP (takeE h j)):=by
  have hs:=hsmall_of hV
  have hfew:=hV.few
  have hv4:(licV h j 4).ren (rn [0,1,2,3,4,5,6,7,8] 12)=.s (.pointer none):=by unfold licV;rw [hl];rfl
  refine acalls_of_aw Tryz.func130 rfl (dc rfl) ?_
  (repeat' (first|(refine ar_isq ?_;refine zq ?_)|refine zil (j:=j.design.toNat) ?_|refine zis (j:=j.design.toNat) ?_|refine zit (j:=j.design.toNat) ?_|(refine zbt ?_)|((refine ar_read h m (design_p h j.design hs) fn125 (by intros;subst_vars;rfl) ?_;intro _ hv;subst hv))|(((refine ar_subk_l (sub_frzL (t:=13) vi ([j.client]) rfl rfl rfl rfl (fun _ _=>rfl) (fun _=>rfl)) ?_);refine zpv fn56 (hfrom_p _ _ [j.client]) ?_))|(((refine ar_subk_l (sub_frzL (t:=18) vi ([j.n]) rfl rfl rfl rfl (fun _ _=>rfl) (fun _=>rfl)) ?_);refine zpv fn56 (hfrom_p _ _ [j.n]) ?_))|refine ar_buildLE vi ([_]) (by exact ty rfl) (by exact rfl) (by exact ty rfl) (by exact rfl) (by exact rfl) (by exact Nat.succ_pos _) (by exact rfl) (by exact dc rfl) (by exact rfl) (by exact fun _=>⟨rfl,rfl⟩) (by exact dc rfl) ?_|((refine ar_still h m (R:=(·=licV h j 4)) (Rp:=fun _=>False) (licence_p h m j hs) fn157 ?_ (fun _ _ h=>h.elim);intro _ hv;subst hv;rw [show licV h j 4=.s (.pointer none) from (by unfold licV;rw [hl])]))|((refine ar_must ?_ ?_<;>intro hrf<;>first|exact absurd hrf (by decide)|((try replace hrf:=HG.out hrf);(try dsimp only at hrf);(try rw [fromB_one] at hrf);(try rw [withinB_iff] at hrf);(try rw [withinB_no] at hrf);(try rw [inD_iff] at hrf);(try rw [inO_iff] at hrf))))|refine ar_q (qs_nilPtrIsNot (ty rfl) rfl rfl) (dc rfl) ?_|refine zg ?_ ?_|refine zgu ?_|refine zst ?_|refine aw_drawn (id:=4) [(0,0),(1,0),(2,0),(3,0),(4,0),(5,0),(6,0),(7,0),(8,0),(9,0),(10,0),(11,0),(12,0),(13,0)] mixed (by kernel_rfl) ?_|refine aw_drawn (id:=8) [(0,0),(1,0),(2,0),(3,0),(4,0),(5,0),(6,0),(7,0),(8,0),(9,2)] mixed (by kernel_rfl) ?_|refine aw_drawn (id:=9) [(0,0),(1,0),(2,0),(3,0),(4,0),(5,0),(6,0),(7,0),(8,0),(9,0),(10,0),(11,0),(12,0),(13,1),(14,1),(15,0),(16,0),(17,0),(18,2)] mixed (by kernel_rfl) ?_|refine zco ?_ ?_|(refine fun (hg:(_:Prop))=>?_;first|exact absurd hg (by decide)|((try replace hg:=HG.out hg);(try dsimp only at hg);(try rw [fromB_one] at hg);(try rw [withinB_iff] at hg);(try rw [withinB_no] at hg);(try rw [inD_iff] at hg);(try rw [inO_iff] at hg);(try (have _h:True:=hg;clear _h hg));first|(exfalso;omega)|skip))))
  all_goals first
    | exact dead_ret (takeE_1 (by assumption)) (by decide)
    | exact dead_ret (takeE_2 (by assumption) (fun hx=>by first|exact absurd hx.1 (by assumption)|exact absurd hx.2 (by assumption))) (by decide)
    | exact absurd (by assumption) hown
    | exact dead_ret (takeE_3 (by assumption) ⟨by assumption,by assumption⟩ ⟨hown,hl⟩) (by decide)
    | trace_state
theorem take_some (hV:HValid h) (ht:TalOk h m) (hown:¬ j.client=(el h.designs j.design.toNat).owner) (k:Nat) (hl:licOf h j=some k):ACalls Tryz.prog 130 [.ptr 11 0 0 0,j.enc] (shoB h m) (DeedR (takeF h j) (takeE h j)) (DeedP (takeE h j)):=by
  have hs:=hsmall_of hV
  have hfew:=hV.few
  have hk:=(licAt_some hl).1
  have hkl:=hV.lics k hk
  unfold LicOk at hkl
  have hF:takeF h j=withOL h (h.lics.set k (lessLic (el h.lics k) j.n)) (h.orders++[newOrd j]):=by unfold takeF takeL;rw [if_neg (show ¬ j.client=ownerOf h j.design from hown),hl];rfl
  have h3:¬ (j.client≠ownerOf h j.design∧licOf h j=none):=fun hx=>by rw [hl] at hx;cases hx.2
  rw [hF]
  refine acalls_of_aw Tryz.func130 rfl (dc rfl) ?_;refine aw_post ?_
  (repeat' (first|(refine ar_isq ?_;refine zq ?_)|refine zil (j:=j.design.toNat) ?_|refine zis (j:=j.design.toNat) ?_|refine zit (j:=j.design.toNat) ?_|(refine zbt ?_)|((refine ar_read h m (design_p h j.design hs) fn125 (by intros;subst_vars;rfl) ?_;intro _ hv;subst hv))|(((refine ar_subk_l (sub_frzL (t:=13) vi ([j.client]) rfl rfl rfl rfl (fun _ _=>rfl) (fun _=>rfl)) ?_);refine zpv fn56 (hfrom_p _ _ [j.client]) ?_))|(((refine ar_subk_l (sub_frzL (t:=18) vi ([j.n]) rfl rfl rfl rfl (fun _ _=>rfl) (fun _=>rfl)) ?_);refine zpv fn56 (hfrom_p _ _ [j.n]) ?_))|refine ar_buildLE vi ([_]) (by exact ty rfl) (by exact rfl) (by exact ty rfl) (by exact rfl) (by exact rfl) (by exact Nat.succ_pos _) (by exact rfl) (by exact dc rfl) (by exact rfl) (by exact fun _=>⟨rfl,rfl⟩) (by exact dc rfl) ?_|((refine ar_still h m (R:=(·=licV h j 4)) (Rp:=fun _=>False) (licence_p h m j hs) fn157 ?_ (fun _ _ h=>h.elim);intro _ hv;subst hv;rw [show licV h j 4=.ptr 4 4 k 0 from (by unfold licV;rw [hl])]))|((refine ar_must ?_ ?_<;>intro hrf<;>first|exact absurd hrf (by decide)|((try replace hrf:=HG.out hrf);(try dsimp only at hrf);(try rw [fromB_one] at hrf);(try rw [withinB_iff] at hrf);(try rw [withinB_no] at hrf);(try rw [inD_iff] at hrf);(try rw [inO_iff] at hrf))))|refine ar_q (qs_ptrIsNot (ty rfl) rfl rfl) (dc rfl) ?_|refine zg ?_ ?_|refine zgu ?_|refine zst ?_|refine aw_drawn (id:=4) [(0,0),(1,0),(2,0),(3,0),(4,0),(5,0),(6,0),(7,0),(8,0),(9,0),(10,0),(11,0),(12,0),(13,0)] mixed (by kernel_rfl) ?_|refine aw_drawn (id:=8) [(0,0),(1,0),(2,0),(3,0),(4,0),(5,0),(6,0),(7,0),(8,0),(9,2)] mixed (by kernel_rfl) ?_|refine aw_drawn (id:=9) [(0,0),(1,0),(2,0),(3,0),(4,0),(5,0),(6,0),(7,0),(8,0),(9,0),(10,0),(11,0),(12,0),(13,1),(14,1),(15,0),(16,0),(17,0),(18,2)] mixed (by kernel_rfl) ?_|refine zco ?_ ?_|(refine fun (hg:(_:Prop))=>?_;first|exact absurd hg (by decide)|((try replace hg:=HG.out hg);(try dsimp only at hg);(try rw [fromB_one] at hg);(try rw [withinB_iff] at hg);(try rw [withinB_no] at hg);(try rw [inD_iff] at hg);(try rw [inO_iff] at hg);(try (have _h:True:=hg;clear _h hg));first|(exfalso;omega)|skip))))
  all_goals first
    | exact dead_ret (takeE_1 (by assumption)) (by decide)
    | exact dead_ret (takeE_2 (by assumption) (fun hx=>by first|exact absurd hx.1 (by assumption)|exact absurd hx.2 (by assumption))) (by decide)
    | exact absurd (by assumption) hown
    | exact dead_ret (takeE_4 (by assumption) ⟨by assumption,by assumption⟩ h3 (by assumption)) (by decide)
    | ((refine subq_n [] [.arr 11 1 (fun _=>shoV 9 10 11 12 13 14 15 8 (withOL h (h.lics.set k (lessLic (el h.lics k) j.n)) (h.orders++[newOrd j]))),.dead,.dead,.dead,.dead,.dead,.dead,.dead,mapE Tal.enc m,LB 5 Itm.enc (withOL h (h.lics.set k (lessLic (el h.lics k) j.n)) (h.orders++[newOrd j])).store.items,LB 2 Prt.enc (withOL h (h.lics.set k (lessLic (el h.lics k) j.n)) (h.orders++[newOrd j])).store.prints,LB 7 Dsn.enc (withOL h (h.lics.set k (lessLic (el h.lics k) j.n)) (h.orders++[newOrd j])).designs,LB 4 Lic.enc (withOL h (h.lics.set k (lessLic (el h.lics k) j.n)) (h.orders++[newOrd j])).lics,LB 4 Ordr.enc (withOL h (h.lics.set k (lessLic (el h.lics k) j.n)) (h.orders++[newOrd j])).orders,LB 1 vi (withOL h (h.lics.set k (lessLic (el h.lics k) j.n)) (h.orders++[newOrd j])).made,LB 1 vi (withOL h (h.lics.set k (lessLic (el h.lics k) j.n)) (h.orders++[newOrd j])).fors] ?_ ?_;(focus ((refine sub_toL [some 0,some 1,some 2,some 3,some 4,some 5,some 6,some 7,some 8,some 1,some 2,some 3,some 4,some 13,some 6,some 7] [] rfl ?_ ?_<;>(repeat' (first|exact trivial|refine ⟨⟨_,rfl,?_⟩,?_⟩|refine vs1 ?_ ?_|refine vs2 ?_ ?_|refine vs3 ?_|refine vs4 ?_ ?_|refine ⟨.inl ⟨_,_,rfl,rfl,?_⟩,?_⟩|exact ⟨.inr ⟨rfl,rfl⟩,trivial⟩|refine ⟨.inr ⟨rfl,rfl⟩,?_⟩|(intro _ _)|exact vz1|(first|refine ⟨trivial,?_⟩|refine ⟨bsub_mapE rfl rfl (fun _=>rfl),?_⟩|refine ⟨bsub_setC (lessLic (el h.lics k) j.n) rfl hk rfl rfl,?_⟩|exact VSub.aggL ⟨.closed rfl,.closed rfl,.closed rfl,.sl rfl,.sl rfl,.sl rfl,slEq rfl (by simp [withOL]),slEq rfl (by simp [withOL]),.sl rfl,.sl rfl,.map rfl,trivial⟩)|exact vz2|fail)));done)))
       exact bq0n ⟨takeE_5 (by assumption) ⟨by assumption,by assumption⟩ h3 (by assumption),rfl,m,talOk_same ht (fun _ _=>rfl),rfl⟩)
    | trace_state
theorem take_p (hV:HValid h) (ht:TalOk h m):ACalls Tryz.prog 130 [.ptr 11 0 0 0,j.enc] (shoB h m) (DeedR (takeF h j) (takeE h j)) (DeedP (takeE h j)):=by
  by_cases hown:j.client=(el h.designs j.design.toNat).owner
  · exact take_own h m j hV ht hown
  · cases hl:licOf h j with
    | none=>exact take_none h m j hV hown hl
    | some k=>exact take_some h m j hV ht hown k hl
end
theorem join9 {a0 a1 a2 a3 a4 a5 a6 a7 a8 b0 b1 b2 b3 b4 b5 b6 b7 b8:Blk}{X L:Heap}:joinH [0,1,2,3,4,5,6,7,8] [] (a0::a1::a2::a3::a4::a5::a6::a7::a8::X) (b0::b1::b2::b3::b4::b5::b6::b7::b8::L) =
    [b0,b1,b2,b3,b4,b5,b6,b7,b8].map (Blk.ren (rn [0,1,2,3,4,5,6,7,8] (X.length+9)))++(X++L.map (Blk.ren (rn [0,1,2,3,4,5,6,7,8] (X.length+9)))):=by
  have tail:∀ {r:Nat→Nat} {H1:Heap} (K:Heap) (k:Nat),9≤k→joinAt [0,1,2,3,4,5,6,7,8] [] r H1 k K=K:=fun {r H1} K=>by
    induction K with
    | nil=>intro k _;rfl
    | cons b K ih =>
      intro k hk
      simp only [joinAt]
      rw [ih (k+1) (by omega)]
      have:pickB [0,1,2,3,4,5,6,7,8] [] r H1 k b=b:=by
        unfold pickB
        have h0:([0,1,2,3,4,5,6,7,8]:List Nat).idxOf? k=none:=by
          rw [List.idxOf?_eq_none_iff]
          simp
          omega
        rw [h0]
        rfl
      rw [this]
  unfold joinH
  simp only [joinAt]
  rw [tail X _ (by omega)]
  rfl
section
variable {r:Option Nat}{mm nt i dd:Nat}{Q:Post}{env:Env}{ops:Array Oper}{L:List Stp}{ty:TypeId}{pos:String}{after:Array Edge}{ats:Array TypeId}{x y:Operand}
theorem ar_act' (h:Hse) (m:List (Int × Tal)) (a:Deed) {X:Heap}(hV:Valid h.store) (hu:u8ok a.kind)
    (h1:actE h.store a=0→AR Tryz.prog r mm nt ops Q L ((dd,.tup [])::env) (.arr 11 1 (fun _=>.agg [vi h.per,vi h.day,vi (actF h.store a).life,.sl 5 (X.length+9) 0 (actF h.store a).items.length,.sl 2 (X.length+10) 0 (actF h.store a).prints.length,.sl 7 3 0 h.designs.length,.sl 4 4 0 h.lics.length,.sl 4 5 0 h.orders.length,.sl 1 6 0 h.made.length,.sl 1 7 0 h.fors.length,.map 8])::.dead::.dead::LB 7 Dsn.enc h.designs::LB 4 Lic.enc h.lics::LB 4 Ordr.enc h.orders::LB 1 vi h.made::LB 1 vi h.fors::mapE Tal.enc m::(X++[LB 5 Itm.enc (actF h.store a).items,LB 2 Prt.enc (actF h.store a).prints])))
    (h2:actE h.store a≠0→∀ H1,Q (.panic (refV (actE h.store a))) [] H1) (hx:eo env x=some (.ptr 11 0 0 0):=by exact rfl) (hy:eo env y=some a.enc:=by exact rfl) (hd:dd<nt:=by exact dc rfl) :
    AR Tryz.prog r mm nt ops Q (.l i ⟨some dd,.call ⟨.value (.func 158),#[x,y],ats⟩,ty,pos,after,none⟩ false::L) env (.arr 11 1 (fun _=>shoV 1 2 3 4 5 6 7 8 h)::LB 5 Itm.enc h.store.items::LB 2 Prt.enc h.store.prints::LB 7 Dsn.enc h.designs::LB 4 Lic.enc h.lics::LB 4 Ordr.enc h.orders::LB 1 vi h.made::LB 1 vi h.fors::mapE Tal.enc m::X):=by
  refine ar_gcall (H0:=shoB h m) [0,1,2,3,4,5,6,7,8] [] (args:=[x,y]) (vs:=[.ptr 11 0 0 0,a.enc]) (first:=[]) (cap:=[]) fn158 rfl (by rw [List.mapM_cons,List.mapM_cons,List.mapM_nil,hx,hy];rfl) (xs:=[.ptr 11 0 0 0,a.enc]) ⟨.ptr rfl,.closed rfl,trivial⟩ rfl (by decide) (fun _ h=>by cases h) (show ShoAt _ 0 1 2 3 4 5 6 7 8 h m from {}).hsub shoB_live (act_p h m a hV hu) hd ?_ ?_
  · rintro _ _ ⟨hh,rfl,rfl⟩
    unfold shoY
    rw [join9]
    have e2:(mapE Tal.enc m).ren (rn [0,1,2,3,4,5,6,7,8] (X.length+9))=mapE Tal.enc m:=mapE_renE fun _=>rfl
    simp only [List.map_cons,List.map_nil,e2]
    exact h1 hh
  · rintro _ _ ⟨hh,rfl⟩
    exact h2 hh _
end
section
variable (h:Hse) (m:List (Int × Tal)) (j:Job)
theorem engvE_1 {h:Hse}{j:Job}(h1:¬ (0≤j.design∧j.design<(h.designs.length:Int))):engvE h j=6:=by unfold engvE;rw [if_pos (show ¬ inDesigns h j.design from h1)]
theorem engvE_2 {h:Hse}{j:Job}(h1:0≤j.design∧j.design<(h.designs.length:Int)):engvE h j=actE h.store dieAct:=by unfold engvE;rw [if_neg (fun h=>h h1)]
theorem hengrave_p (hV:HValid h) (ht:TalOk h m):ACalls Tryz.prog 131 [.ptr 11 0 0 0,j.enc] (shoB h m) (DeedR (engvF h j) (engvE h j)) (DeedP (engvE h j)):=by
  have hs:=hsmall_of hV
  have hm:=hs.2.2.2.2.2.1
  refine acalls_of_aw Tryz.func131 rfl (dc rfl) ?_;refine aw_post ?_
  (repeat' (first|(refine ar_isq ?_;refine zq ?_)|(refine zbt ?_)|((refine ar_read h m (design_p h j.design hs) fn125 (by intros;subst_vars;rfl) ?_;intro _ hv;subst hv))|((refine ar_must ?_ ?_<;>intro hrf<;>first|exact absurd hrf (by decide)|((try replace hrf:=HG.out hrf);(try dsimp only at hrf);(try rw [fromB_one] at hrf);(try rw [withinB_iff] at hrf);(try rw [withinB_no] at hrf);(try rw [inD_iff] at hrf);(try rw [inO_iff] at hrf))))|((refine ar_act' h m dieAct hV.store ⟨by decide,by decide⟩ ?_ ?_<;>intro hact))|refine zst ?_|refine aw_drawn (id:=3) [(0,0),(1,0),(2,0),(3,0),(4,0),(5,0),(6,0),(7,0),(8,1),(9,1),(10,0),(11,0),(12,0),(13,2)] mixed (by kernel_rfl) ?_|refine zco ?_ ?_|(refine fun (hg:(_:Prop))=>?_;first|exact absurd hg (by decide)|((try replace hg:=HG.out hg);(try dsimp only at hg);(try rw [fromB_one] at hg);(try rw [withinB_iff] at hg);(try rw [withinB_no] at hg);(try rw [inD_iff] at hg);(try rw [inO_iff] at hg);(try (have _h:True:=hg;clear _h hg));first|(exfalso;omega)|skip))))
  all_goals first
    | exact dead_ret (engvE_1 (by assumption)) (by decide)
    | exact dead_ret (engvE_2 (by assumption)) (by assumption)
    | ((refine subq_n [] [.arr 11 1 (fun _=>shoV 9 10 11 12 13 14 15 8 (engvF h j)),.dead,.dead,.dead,.dead,.dead,.dead,.dead,mapE Tal.enc m,LB 5 Itm.enc (engvF h j).store.items,LB 2 Prt.enc (engvF h j).store.prints,LB 7 Dsn.enc (engvF h j).designs,LB 4 Lic.enc (engvF h j).lics,LB 4 Ordr.enc (engvF h j).orders,LB 1 vi (engvF h j).made,LB 1 vi (engvF h j).fors] ?_ ?_;(focus ((refine sub_toL [some 0,some 1,some 2,some 3,some 4,some 5,some 6,some 7,some 8,some 10,some 11,some 3,some 4,some 5,some 13,some 7] [] rfl ?_ ?_<;>(repeat' (first|exact trivial|refine ⟨⟨_,rfl,?_⟩,?_⟩|refine vs1 ?_ ?_|refine vs2 ?_ ?_|refine vs3 ?_|refine vs4 ?_ ?_|refine ⟨.inl ⟨_,_,rfl,rfl,?_⟩,?_⟩|exact ⟨.inr ⟨rfl,rfl⟩,trivial⟩|refine ⟨.inr ⟨rfl,rfl⟩,?_⟩|(intro _ _)|exact vz1|(first|refine ⟨trivial,?_⟩|refine ⟨bsub_mapE rfl rfl (fun _=>rfl),?_⟩|exact VSub.aggL ⟨.closed rfl,.closed rfl,.closed rfl,.sl rfl,.sl rfl,.sl rfl,.sl rfl,.sl rfl,slEq rfl (by simp [engvF,withS]),.sl rfl,.map rfl,trivial⟩)|exact vz2|fail)));done)))
       exact bq0n ⟨(engvE_2 (by assumption)).trans (by assumption),rfl,m,talOk_same ht (fun _ _=>rfl),rfl⟩)
    | trace_state
end
def one (b:Prop) [Decidable b]:Int:=if b then 1 else 0
theorem doneTo_st {h:Hse}{n st:Int}{k:Nat}:doneTo h n st (k+1)=doneTo h n st k+(if el h.fors k=n then one ((el h.store.prints k).state=st) else 0):=by
  rw [doneTo_step]
  unfold one
  by_cases h1:el h.fors k=n
  · by_cases h2:(el h.store.prints k).state=st
    · rw [if_pos ⟨h1,h2⟩,if_pos h1,if_pos h2]
    · rw [if_neg (fun e=>h2 e.2),if_pos h1,if_neg h2]
  · rw [if_neg (fun e=>h1 e.1),if_neg h1]
theorem done_one {h t:Hse}{p:Nat}(hf:t.fors=h.fors) (hp:∀ j,j≠p→(el t.store.prints j).state=(el h.store.prints j).state) (n st:Int):∀ k:Nat,
    doneTo t n st k=doneTo h n st k+(if p<k∧el h.fors p=n then one ((el t.store.prints p).state=st)-one ((el h.store.prints p).state=st) else 0)
  | 0=>by rw [if_neg (fun e=>by omega)];rfl
  | k+1=>by
    have ih:=done_one hf hp n st k
    rw [doneTo_st,doneTo_st,ih,hf]
    by_cases e:k=p
    · subst e
      rw [if_neg (show ¬ (k<k∧el h.fors k=n) from fun x=>by omega)]
      by_cases hn:el h.fors k=n
      · rw [if_pos hn,if_pos hn,if_pos ⟨by omega,hn⟩];omega
      · rw [if_neg hn,if_neg hn,if_neg (fun x=>hn x.2)]<;>omega
    · rw [hp k e]
      have:(p<k+1∧el h.fors p=n)↔(p<k∧el h.fors p=n):=⟨fun x=>⟨by omega,x.2⟩,fun x=>⟨by omega,x.2⟩⟩
      by_cases hc:p<k∧el h.fors p=n
      · rw [if_pos hc,if_pos (this.2 hc)];omega
      · rw [if_neg hc,if_neg (fun x=>hc (this.1 x))];omega
def spM (h:Hse) (m:List (Int × Tal)) (F:Nat):Nat→List (Int × Tal)
  | 0=>m
  | i+1 =>
    let m1:=putE (spM h m F i) (el h.fors (F+i)) ((talAt (spM h m F i) (el h.fors (F+i))).bump 0 (-1))
    putE m1 (el h.fors (F+i)) ((talAt m1 (el h.fors (F+i))).bump 2 1)
def partS (h:Hse) (F i:Nat):Hse:=withS h (spendF h.store F i 2)
theorem partS_el {h:Hse}{F i j:Nat}(hj:j<h.store.prints.length):el (partS h F i).store.prints j=stateAt h.store.prints F i 2 j:=by
  show el (spendF h.store F i 2).prints j=_
  rw [spendF_el hj]
  rfl
theorem el_out {α:Type}[Inhabited α] {l:List α}{j:Nat}(h:l.length≤j):el l j=default:=by simp [el,List.getElem?_eq_none h]
theorem part_step {h:Hse}{F i:Nat}(hp:F+i<h.store.prints.length) (j:Nat) (hj:j≠F+i):(el (partS h F (i+1)).store.prints j).state=(el (partS h F i).store.prints j).state:=by
  by_cases hl:j<h.store.prints.length
  · rw [partS_el hl,partS_el hl]
    unfold stateAt
    by_cases hc:F≤j∧j<F+i
    · rw [if_pos hc,if_pos (show F≤j∧j<F+(i+1) by omega)]
    · rw [if_neg hc,if_neg (show ¬ (F≤j∧j<F+(i+1)) by omega)]
  · have h1:(partS h F (i+1)).store.prints.length≤j:=by rw [show (partS h F (i+1)).store.prints.length=h.store.prints.length from spendF_len ..];omega
    have h2:(partS h F i).store.prints.length≤j:=by rw [show (partS h F i).store.prints.length=h.store.prints.length from spendF_len ..];omega
    rw [el_out h1,el_out h2]
theorem tal_ext {a b:Tal}(h1:a.a=b.a) (h2:a.b=b.b) (h3:a.c=b.c):a=b:=by cases a;cases b;cases h1;cases h2;cases h3;rfl
theorem bump_0 (t:Tal) (k:Int):t.bump 0 k=⟨t.a+k,t.b,t.c⟩:=rfl
theorem bump_1 (t:Tal) (k:Int):t.bump 1 k=⟨t.a,t.b+k,t.c⟩:=rfl
theorem bump_2 (t:Tal) (k:Int):t.bump 2 k=⟨t.a,t.b,t.c+k⟩:=rfl
theorem spM_ok {h:Hse}{m:List (Int × Tal)}{F N:Nat}(ht:TalOk h m) (hl:h.fors.length=h.store.prints.length) (hF:F+N≤h.store.prints.length) (h0:∀ q,q<N→(el h.store.prints (F+q)).state=0) :
    ∀ {i:Nat},i≤N→TalOk (partS h F i) (spM h m F i)
  | 0,_=>fun n=>by
    have e:∀ st,doneF (partS h F 0) n st=doneF h n st:=fun st=>doneTo_same fun j hj=>⟨rfl,by rw [partS_el (by rw [← hl];exact hj),state_zero]⟩
    rw [e,e,e]
    exact ht n
  | i+1,hi=>fun n=>by
    have ih:=spM_ok ht hl hF h0 (i:=i) (by omega)
    have hp:F+i<h.store.prints.length:=by omega
    have step:∀ st,doneF (partS h F (i+1)) n st=doneF (partS h F i) n st+(if F+i<h.fors.length∧el h.fors (F+i)=n then one ((2:Int)=st)-one ((0:Int)=st) else 0):=fun st=>by
      have:=done_one (h:=partS h F i) (t:=partS h F (i+1)) (p:=F+i) rfl (part_step hp) n st h.fors.length
      have e1:(el (partS h F (i+1)).store.prints (F+i)).state=2:=by rw [partS_el hp];unfold stateAt;rw [if_pos (by omega)]
      have e2:(el (partS h F i).store.prints (F+i)).state=0:=by rw [partS_el hp];unfold stateAt;rw [if_neg (by omega)];exact h0 i (by omega)
      rw [e1,e2] at this
      exact this
    rw [step,step,step]
    simp only [spM]
    rw [talAt_put,talAt_put,talAt_put,ih n]
    by_cases hn:n=el h.fors (F+i)
    · subst hn
      rw [if_pos rfl,if_pos rfl,ih,if_pos ⟨by omega,rfl⟩,if_pos ⟨by omega,rfl⟩,if_pos ⟨by omega,rfl⟩,bump_0,bump_2]
      refine tal_ext ?_ ?_ ?_<;>simp [one]<;>omega
    · rw [if_neg hn,if_neg hn,if_neg (fun x=>hn x.2.symm),if_neg (fun x=>hn x.2.symm),if_neg (fun x=>hn x.2.symm)]
      refine tal_ext ?_ ?_ ?_<;>simp
theorem run_tal {h:Hse}{m:List (Int × Tal)}{j:Job}(ht:TalOk h m) (hf:h.fors.length=h.store.prints.length) (hn:0≤j.act.n):TalOk (runF h j) (putE m j.order ((talAt m j.order).bump 0 j.act.n)):=fun n=>by
  have hlen:(runF h j).fors.length=h.fors.length+j.act.n.toNat:=by simp [runF]
  have e:∀ st,doneF (runF h j) n st=doneF h n st+(if n=j.order∧st=0 then j.act.n else 0):=fun st=>by
    unfold doneF
    rw [hlen,run_done hf n st (Nat.le_refl _)]
    unfold doneF
    split<;>omega
  rw [talAt_put,e,e,e]
  by_cases hc:n=j.order
  · subst hc
    rw [if_pos rfl,ht,bump_0,if_pos ⟨rfl,rfl⟩,if_neg (fun x=>by cases x.2),if_neg (fun x=>by cases x.2)]
    refine tal_ext rfl ?_ ?_<;>simp
  · rw [if_neg hc,ht,if_neg (fun x=>hc x.1),if_neg (fun x=>hc x.1),if_neg (fun x=>hc x.1)]
    refine tal_ext ?_ ?_ ?_<;>simp
theorem give_two {h:Hse}{j:Job}:∀ {k:Nat},k≤h.store.prints.length→doneTo (giveF h j) j.order 2 k=doneTo h j.order 2 k
  | 0,_=>rfl
  | k+1,hk=>by
    have ih:=give_two (h:=h) (j:=j) (k:=k) (by omega)
    have hel:=give_el (h:=h) (j:=j) (show k<h.store.prints.length by omega)
    have hs:one ((el (giveF h j).store.prints k).state=2)=one ((el h.store.prints k).state=2):=by
      rw [hel]
      unfold giveP
      split
      · rename_i hc
        unfold one
        rw [hc.2]
        rfl
      · rfl
    rw [doneTo_st,doneTo_st,ih,hs]
    rfl
def giveM (h:Hse) (m:List (Int × Tal)) (j:Job):List (Int × Tal) :=
  let m1:=putE m j.order ((talAt m j.order).bump 0 (-(el h.orders j.order.toNat).need))
  putE m1 j.order ((talAt m1 j.order).bump 1 (el h.orders j.order.toNat).need)
theorem give_tal {h:Hse}{m:List (Int × Tal)}{j:Job}(ht:TalOk h m) (hf:h.fors.length=h.store.prints.length) (hd:doneF h j.order 0=(el h.orders j.order.toNat).need):TalOk (giveF h j) (giveM h m j):=fun n=>by
  have hle:h.fors.length≤h.store.prints.length:=by omega
  unfold giveM
  simp only
  rw [talAt_put,talAt_put,talAt_put]
  by_cases hc:n=j.order
  · subst hc
    have e0:doneF (giveF h j) j.order 0=0:=(give_own hle).1
    have e1:doneF (giveF h j) j.order 1=doneF h j.order 0+doneF h j.order 1:=(give_own hle).2
    have e2:doneF (giveF h j) j.order 2=doneF h j.order 2:=give_two hle
    rw [if_pos rfl,if_pos rfl,ht,bump_0,bump_1,e0,e1,e2,← hd]
    refine tal_ext ?_ ?_ ?_<;>dsimp only<;>omega
  · have e:∀ st,doneF (giveF h j) n st=doneF h n st:=fun st=>give_other hc hle
    rw [if_neg hc,if_neg hc,ht,e,e,e]
theorem dsmall_of {h:Hse}{m:List (Int × Tal)}(ht:TalOk h m) (hf:h.fors.length≤1000) (n:Int):(-1000≤(talAt m n).a∧(talAt m n).a≤1000)∧(-1000≤(talAt m n).b∧(talAt m n).b≤1000)∧(-1000≤(talAt m n).c∧(talAt m n).c≤1000):=by
  rw [ht n]
  have h0:=doneTo_bnd h n 0 h.fors.length
  have h1:=doneTo_bnd h n 1 h.fors.length
  have h2:=doneTo_bnd h n 2 h.fors.length
  unfold doneF
  dsimp only
  omega
theorem small_of {t:Tal}(h:(-1000≤t.a∧t.a≤1000)∧(-1000≤t.b∧t.b≤1000)∧(-1000≤t.c∧t.c≤1000)):t.small:=by unfold Tal.small;omega
theorem small_put {m:List (Int × Tal)}{n st k:Int}(h:(-1000≤(talAt m n).a∧(talAt m n).a≤1000)∧(-1000≤(talAt m n).b∧(talAt m n).b≤1000)∧(-1000≤(talAt m n).c∧(talAt m n).c≤1000)) (hk:-1000≤k∧k≤1000):(talAt (putE m n ((talAt m n).bump st k)) n).small:=by
  rw [talAt_put,if_pos rfl]
  unfold Tal.bump Tal.small
  split
  · dsimp only;omega
  · split<;>dsimp only<;>omega
theorem spend_ok {s:Sto}{first n:Int}(he:spendE s first n=0):(1≤n∧n≤400)∧(0≤first∧first+n≤s.prints.length)∧∀ q,q<n.toNat→(el s.prints (first.toNat+q)).state=0:=by
  have he0:=he
  unfold spendE at he
  split at he
  · rename_i h1
    split at he
    · rename_i h2
      split at he
      · omega
      · refine ⟨h1,by omega,fun q hq=>?_⟩
        by_cases hz:(el s.prints (first.toNat+q)).state=0
        · exact hz
        · have h3:=stateAt_kept (st:=(el s.prints (first.toNat+q)).state+1) he0 (j:=first.toNat+q) (by omega) hz
          unfold stateAt at h3
          rw [if_pos (by omega)] at h3
          dsimp only at h3
          omega
    · omega
  · omega
section
variable {h:Hse}{j:Job}
theorem workE_in (hk:j.act.kind=2∨j.act.kind=3∨j.act.kind=6∨j.act.kind=7):workE h j=actE h.store j.act:=by unfold workE;rw [if_pos hk]
theorem workE_out (hk:¬ (j.act.kind=2∨j.act.kind=3∨j.act.kind=6∨j.act.kind=7)):workE h j=2:=by unfold workE;rw [if_neg hk]
theorem workF_not (hk:j.act.kind≠2):workF h j=withS h (actF h.store j.act):=by unfold workF withS;rw [if_neg hk]
theorem workF_two (hk:j.act.kind=2):workF h j={ withS h (actF h.store j.act) with made:=h.made++[el h.made j.act.item.toNat] }:=by unfold workF withS;rw [if_pos hk]
theorem act_prints (s:Sto) (a:Deed) (hk:a.kind=2∨a.kind=3∨a.kind=7):(actF s a).prints=s.prints:=by
  unfold actF
  rcases hk with hk|hk|hk<;>rw [hk]<;>rfl
end
section
variable (h:Hse) (m:List (Int × Tal)) (j:Job)
theorem work_two (hV:HValid h) (ht:TalOk h m) (hu:u8ok j.act.kind) (hk:j.act.kind=2):ACalls Tryz.prog 132 [.ptr 11 0 0 0,j.enc] (shoB h m) (DeedR (workF h j) (workE h j)) (DeedP (workE h j)):=by
  have hs:=hsmall_of hV
  have hm:=hs.2.2.2.2.2.1
  have hE:=workE_in (h:=h) (j:=j) (.inl hk)
  have hml:=hV.mades
  have hin:actE h.store j.act=0→0≤j.act.item∧j.act.item<(h.made.length:Int):=fun he=>by
    unfold actE at he
    rw [hk] at he
    have:=(trans_ok (s:=h.store) (i:=j.act.item) he).1.1
    omega
  rw [workF_two hk]
  refine acalls_of_aw Tryz.func132 rfl (dc rfl) ?_;refine aw_post ?_
  (repeat' (first|(refine ar_isq ?_;refine zq ?_)|refine zil (j:=j.act.item.toNat) ?_|refine zis (j:=j.act.item.toNat) ?_|refine zit (j:=j.act.item.toNat) ?_|((refine ar_act' h m j.act hV.store hu ?_ ?_<;>intro hact<;>(try have hi:=hin hact)))|((refine ar_must ?_ ?_<;>intro hrf<;>first|exact absurd hrf (by decide)|((try replace hrf:=HG.out hrf);(try dsimp only at hrf);(try rw [fromB_one] at hrf);(try rw [withinB_iff] at hrf);(try rw [withinB_no] at hrf);(try rw [inD_iff] at hrf);(try rw [inO_iff] at hrf))))|refine zst ?_|refine aw_drawn (id:=6) [(0,0),(1,0),(2,0),(3,0),(4,0),(5,0),(6,0),(7,0),(8,0),(9,0),(10,0),(11,0),(12,0),(13,0),(14,0),(15,1),(16,1),(17,0),(18,0),(19,0),(20,2)] mixed (by kernel_rfl) ?_|refine aw_drawn (id:=12) [(0,0),(1,0),(2,0),(3,0),(4,0),(5,0),(6,0),(7,0),(8,0),(9,0),(10,0),(11,0)] mixed (by kernel_rfl) ?_|refine zco ?_ ?_|exact zd|(refine fun (hg:(_:Prop))=>?_;(try replace hg:=HG.out hg);(try dsimp only at hg);(try (have _h:True:=hg;clear _h hg)))))
  all_goals first
    | (exfalso;omega)
    | exact dead_ret hE (by assumption)
    | ((refine subq_n [] [.arr 11 1 (fun _=>shoV 9 10 11 12 13 14 15 8 ({ withS h (actF h.store j.act) with made:=h.made++[el h.made j.act.item.toNat] }:Hse)),.dead,.dead,.dead,.dead,.dead,.dead,.dead,mapE Tal.enc m,LB 5 Itm.enc ({ withS h (actF h.store j.act) with made:=h.made++[el h.made j.act.item.toNat] }:Hse).store.items,LB 2 Prt.enc ({ withS h (actF h.store j.act) with made:=h.made++[el h.made j.act.item.toNat] }:Hse).store.prints,LB 7 Dsn.enc ({ withS h (actF h.store j.act) with made:=h.made++[el h.made j.act.item.toNat] }:Hse).designs,LB 4 Lic.enc ({ withS h (actF h.store j.act) with made:=h.made++[el h.made j.act.item.toNat] }:Hse).lics,LB 4 Ordr.enc ({ withS h (actF h.store j.act) with made:=h.made++[el h.made j.act.item.toNat] }:Hse).orders,LB 1 vi ({ withS h (actF h.store j.act) with made:=h.made++[el h.made j.act.item.toNat] }:Hse).made,LB 1 vi ({ withS h (actF h.store j.act) with made:=h.made++[el h.made j.act.item.toNat] }:Hse).fors] ?_ ?_;(focus ((refine sub_toL [some 0,some 1,some 2,some 3,some 4,some 5,some 6,some 7,some 8,some 11,some 12,some 3,some 4,some 5,some 14,some 7] [] rfl ?_ ?_<;>(repeat' (first|exact trivial|refine ⟨⟨_,rfl,?_⟩,?_⟩|refine vs1 ?_ ?_|refine vs2 ?_ ?_|refine vs3 ?_|refine vs4 ?_ ?_|refine ⟨.inl ⟨_,_,rfl,rfl,?_⟩,?_⟩|exact ⟨.inr ⟨rfl,rfl⟩,trivial⟩|refine ⟨.inr ⟨rfl,rfl⟩,?_⟩|(intro _ _)|exact vz1|(first|refine ⟨trivial,?_⟩|refine ⟨bsub_mapE rfl rfl (fun _=>rfl),?_⟩|exact VSub.aggL ⟨.closed rfl,.closed rfl,.closed rfl,.sl rfl,.sl rfl,.sl rfl,.sl rfl,.sl rfl,slEq rfl (by simp [withS]),.sl rfl,.map rfl,trivial⟩)|exact vz2|fail)));done)))
       exact bq0n ⟨hE.trans (by assumption),rfl,m,talOk_same ht (fun n st=>doneTo_same fun q hq=>⟨rfl,by show (el (actF h.store j.act).prints q).state=_;rw [act_prints _ _ (.inl hk)]⟩),rfl⟩)
    | trace_state
theorem work_move (hV:HValid h) (ht:TalOk h m) (hu:u8ok j.act.kind) (hk:j.act.kind=3∨j.act.kind=7):ACalls Tryz.prog 132 [.ptr 11 0 0 0,j.enc] (shoB h m) (DeedR (workF h j) (workE h j)) (DeedP (workE h j)):=by
  have hE:=workE_in (h:=h) (j:=j) (by omega)
  rw [workF_not (by omega)]
  refine acalls_of_aw Tryz.func132 rfl (dc rfl) ?_;refine aw_post ?_
  (repeat' (first|(refine ar_isq ?_;refine zq ?_)|refine zil (j:=j.act.item.toNat) ?_|refine zis (j:=j.act.item.toNat) ?_|refine zit (j:=j.act.item.toNat) ?_|((refine ar_act' h m j.act hV.store hu ?_ ?_<;>intro hact))|((refine ar_must ?_ ?_<;>intro hrf<;>first|exact absurd hrf (by decide)|((try replace hrf:=HG.out hrf);(try dsimp only at hrf);(try rw [fromB_one] at hrf);(try rw [withinB_iff] at hrf);(try rw [withinB_no] at hrf);(try rw [inD_iff] at hrf);(try rw [inO_iff] at hrf))))|refine zst ?_|refine aw_drawn (id:=6) [(0,0),(1,0),(2,0),(3,0),(4,0),(5,0),(6,0),(7,0),(8,0),(9,0),(10,0),(11,0),(12,0),(13,0),(14,0),(15,1),(16,1),(17,0),(18,0),(19,0),(20,2)] mixed (by kernel_rfl) ?_|refine aw_drawn (id:=12) [(0,0),(1,0),(2,0),(3,0),(4,0),(5,0),(6,0),(7,0),(8,0),(9,0),(10,0),(11,0)] mixed (by kernel_rfl) ?_|refine zco ?_ ?_|exact zd|(refine fun (hg:(_:Prop))=>?_;(try replace hg:=HG.out hg);(try dsimp only at hg);(try (have _h:True:=hg;clear _h hg)))))
  all_goals first
    | (exfalso;omega)
    | exact dead_ret hE (by assumption)
    | ((refine subq_n [] [.arr 11 1 (fun _=>shoV 9 10 11 12 13 14 15 8 (withS h (actF h.store j.act))),.dead,.dead,.dead,.dead,.dead,.dead,.dead,mapE Tal.enc m,LB 5 Itm.enc (withS h (actF h.store j.act)).store.items,LB 2 Prt.enc (withS h (actF h.store j.act)).store.prints,LB 7 Dsn.enc (withS h (actF h.store j.act)).designs,LB 4 Lic.enc (withS h (actF h.store j.act)).lics,LB 4 Ordr.enc (withS h (actF h.store j.act)).orders,LB 1 vi (withS h (actF h.store j.act)).made,LB 1 vi (withS h (actF h.store j.act)).fors] ?_ ?_;(focus (exact zsl [some 0,some 1,some 2,some 3,some 4,some 5,some 6,some 7,some 8,some 11,some 12,some 3,some 4,some 5,some 6,some 7] [])))
       exact bq0n ⟨hE.trans (by assumption),rfl,m,talOk_same ht (fun n st=>doneTo_same fun q hq=>⟨rfl,by show (el (actF h.store j.act).prints q).state=_;rw [act_prints _ _ (.inr hk)]⟩),rfl⟩)
    | trace_state
theorem work_none (hk:¬ (j.act.kind=2∨j.act.kind=3∨j.act.kind=6∨j.act.kind=7)):ACalls Tryz.prog 132 [.ptr 11 0 0 0,j.enc] (shoB h m) (DeedR (workF h j) (workE h j)) (DeedP (workE h j)):=by
  have hE:=workE_out (h:=h) (j:=j) hk
  refine acalls_of_aw Tryz.func132 rfl (dc rfl) ?_
  (repeat' (first|(refine ar_isq ?_;refine zq ?_)|((refine ar_must ?_ ?_<;>intro hrf<;>first|exact absurd hrf (by decide)|((try replace hrf:=HG.out hrf);(try dsimp only at hrf);(try rw [fromB_one] at hrf);(try rw [withinB_iff] at hrf);(try rw [withinB_no] at hrf);(try rw [inD_iff] at hrf);(try rw [inO_iff] at hrf))))|refine zst ?_|refine aw_drawn (id:=6) [(0,0),(1,0),(2,0),(3,0),(4,0),(5,0),(6,0),(7,0),(8,0),(9,0),(10,0),(11,0),(12,0),(13,0),(14,0),(15,1),(16,1),(17,0),(18,0),(19,0),(20,2)] mixed (by kernel_rfl) ?_|refine aw_drawn (id:=12) [(0,0),(1,0),(2,0),(3,0),(4,0),(5,0),(6,0),(7,0),(8,0),(9,0),(10,0),(11,0)] mixed (by kernel_rfl) ?_|refine zco ?_ ?_|exact zd|(refine fun (hg:(_:Prop))=>?_;(try replace hg:=HG.out hg);(try dsimp only at hg);(try (have _h:True:=hg;clear _h hg)))))
  all_goals first
    | (exfalso;omega)
    | exact dead_ret hE (by decide)
    | trace_state
end
def actV (h:Hse) (s:Sto) (a b c d e f g q:Nat):V:=.agg [vi h.per,vi h.day,vi s.life,.sl 5 a 0 s.items.length,.sl 2 b 0 s.prints.length,.sl 7 c 0 h.designs.length,.sl 4 d 0 h.lics.length,.sl 4 e 0 h.orders.length,.sl 1 f 0 h.made.length,.sl 1 g 0 h.fors.length,.map q]
section
variable (h:Hse) (m:List (Int × Tal)) (j:Job)
theorem work_spoil (hV:HValid h) (ht:TalOk h m) (hu:u8ok j.act.kind) (hk:j.act.kind=6):ACalls Tryz.prog 132 [.ptr 11 0 0 0,j.enc] (shoB h m) (DeedR (workF h j) (workE h j)) (DeedP (workE h j)):=by
  have hs:=hsmall_of hV
  have hff:=hV.forss
  have hfl:h.fors.length≤1000:=hs.2.2.2.2.2.2.1
  have hE:=workE_in (h:=h) (j:=j) (by omega)
  have hA:actE h.store j.act=spendE h.store j.act.item j.act.n:=by unfold actE;rw [hk];rfl
  have hS:actF h.store j.act=spendF h.store j.act.item j.act.n 2:=by unfold actF;rw [hk];rfl
  rw [workF_not (by omega)]
  refine acalls_of_aw Tryz.func132 rfl (dc rfl) ?_;refine aw_post ?_
  (repeat' (first|(refine ar_isq ?_;refine zq ?_)|refine zil (j:=j.act.item.toNat) ?_|refine zis (j:=j.act.item.toNat) ?_|refine zit (j:=j.act.item.toNat) ?_|((refine ar_act' h m j.act hV.store hu ?_ ?_<;>intro hact))|((refine ar_must ?_ ?_<;>intro hrf<;>first|exact absurd hrf (by decide)|((try replace hrf:=HG.out hrf);(try dsimp only at hrf);(try rw [fromB_one] at hrf);(try rw [withinB_iff] at hrf);(try rw [withinB_no] at hrf);(try rw [inD_iff] at hrf);(try rw [inO_iff] at hrf))))|refine zst ?_|refine aw_drawn (id:=6) [(0,0),(1,0),(2,0),(3,0),(4,0),(5,0),(6,0),(7,0),(8,0),(9,0),(10,0),(11,0),(12,0),(13,0),(14,0),(15,1),(16,1),(17,0),(18,0),(19,0),(20,2)] mixed (by kernel_rfl) ?_|refine aw_drawn (id:=12) [(0,0),(1,0),(2,0),(3,0),(4,0),(5,0),(6,0),(7,0),(8,0),(9,0),(10,0),(11,0)] mixed (by kernel_rfl) ?_|refine zco ?_ ?_|exact zd|(refine fun (hg:(_:Prop))=>?_;(try replace hg:=HG.out hg);(try dsimp only at hg);(try (have _h:True:=hg;clear _h hg)))))
  all_goals first
    | (exfalso;omega)
    | exact dead_ret hE (by assumption)
    | skip
  obtain ⟨b1,b2,b3⟩:=spend_ok (hA▸hact)
  have hF:j.act.item.toNat+j.act.n.toNat≤h.store.prints.length:=by omega
  have hT:∀ {i:Nat},i≤j.act.n.toNat→TalOk (partS h j.act.item.toNat i) (spM h m j.act.item.toNat i):=fun hi=>spM_ok ht hff hF b3 hi
  refine aw_for j.act.n.toNat (fun _=>True) (fun k=>[(0,.ptr 11 0 0 0),(4,.ptr 4 10 0 0),(43,vi j.act.n.toNat),(44,vi k)]) (fun k=>[.arr 11 1 (fun _=>actV h (actF h.store j.act) 11 12 3 4 5 6 7 8),.dead,.dead,LB 7 Dsn.enc h.designs,LB 4 Lic.enc h.lics,LB 4 Ordr.enc h.orders,LB 1 vi h.made,LB 1 vi h.fors,mapE Tal.enc (spM h m j.act.item.toNat k),.dead,.arr 4 1 (fun _=>j.act.enc),LB 5 Itm.enc (actF h.store j.act).items,LB 2 Prt.enc (actF h.store j.act).prints]) trivial ?_ ?_
  · (exact zsc [some 0,some 1,some 2,some 3,some 4,some 5,some 6,some 7,some 8,some 9,some 10,some 11,some 12] [])
  intro k hk2 _
  by_cases hlt:k<j.act.n.toNat
  · have hd:=dsmall_of (hT (i:=k) (by omega)) hfl (el h.fors (j.act.item.toNat+k))
    (repeat' (first|(refine ar_isq ?_;refine zq ?_)|refine zil (j:=(j.act.item.toNat+k)) ?_|refine zis (j:=(j.act.item.toNat+k)) ?_|refine zit (j:=(j.act.item.toNat+k)) ?_|((refine ar_count (p:=0) (a:=11) (b:=12) (c:=3) (d:=4) (e:=5) (f:=6) (g:=7) (q:=8) (st:=0) (k:=-1) (withS h (actF h.store j.act)) (spM h m j.act.item.toNat k) (.inl rfl) (small_of hd) (by decide) ?_))|((refine ar_count (p:=0) (a:=11) (b:=12) (c:=3) (d:=4) (e:=5) (f:=6) (g:=7) (q:=8) (st:=2) (k:=1) (withS h (actF h.store j.act)) (putE (spM h m j.act.item.toNat k) (el h.fors (j.act.item.toNat+k)) ((talAt (spM h m j.act.item.toNat k) (el h.fors (j.act.item.toNat+k))).bump 0 (-1))) (.inr (.inr rfl)) (small_put hd (by decide)) (by decide) ?_))|refine zst ?_|refine aw_drawn (id:=6) [(0,0),(1,0),(2,0),(3,0),(4,0),(5,0),(6,0),(7,0),(8,0),(9,0),(10,0),(11,0),(12,0),(13,0),(14,0),(15,1),(16,1),(17,0),(18,0),(19,0),(20,2)] mixed (by kernel_rfl) ?_|refine aw_drawn (id:=12) [(0,0),(1,0),(2,0),(3,0),(4,0),(5,0),(6,0),(7,0),(8,0),(9,0),(10,0),(11,0)] mixed (by kernel_rfl) ?_|refine zco ?_ ?_|exact zd|(refine fun (hg:(_:Prop))=>?_;(try replace hg:=HG.out hg);(try dsimp only at hg);(try (have _h:True:=hg;clear _h hg)))))
    all_goals first
      | (exfalso;omega)
      | ((first|refine loop_next (by omega) ?_ ?_|refine (show _∧_∧SubOf _ _ _ _ _ _ from And.intro (by omega) (And.intro ?_ ?_)));(focus ((trivial);done));(focus (exact zsc [some 0,some 1,some 2,some 3,some 4,some 5,some 6,some 7,some 8,some 9,some 10,some 11,some 12] [])))
      | trace_state
  · (repeat' (first|(refine ar_isq ?_;refine zq ?_)|refine zst ?_|refine aw_drawn (id:=6) [(0,0),(1,0),(2,0),(3,0),(4,0),(5,0),(6,0),(7,0),(8,0),(9,0),(10,0),(11,0),(12,0),(13,0),(14,0),(15,1),(16,1),(17,0),(18,0),(19,0),(20,2)] mixed (by kernel_rfl) ?_|refine aw_drawn (id:=12) [(0,0),(1,0),(2,0),(3,0),(4,0),(5,0),(6,0),(7,0),(8,0),(9,0),(10,0),(11,0)] mixed (by kernel_rfl) ?_|refine zco ?_ ?_|exact zd|(refine fun (hg:(_:Prop))=>?_;(try replace hg:=HG.out hg);(try dsimp only at hg);(try (have _h:True:=hg;clear _h hg)))))
    all_goals first
      | (exfalso;omega)
      | ((refine subq_n [] [.arr 11 1 (fun _=>shoV 9 10 11 12 13 14 15 8 (withS h (actF h.store j.act))),.dead,.dead,.dead,.dead,.dead,.dead,.dead,mapE Tal.enc (spM h m j.act.item.toNat j.act.n.toNat),LB 5 Itm.enc (withS h (actF h.store j.act)).store.items,LB 2 Prt.enc (withS h (actF h.store j.act)).store.prints,LB 7 Dsn.enc (withS h (actF h.store j.act)).designs,LB 4 Lic.enc (withS h (actF h.store j.act)).lics,LB 4 Ordr.enc (withS h (actF h.store j.act)).orders,LB 1 vi (withS h (actF h.store j.act)).made,LB 1 vi (withS h (actF h.store j.act)).fors] ?_ ?_;(focus ((refine sub_toL [some 0,some 1,some 2,some 3,some 4,some 5,some 6,some 7,some 8,some 11,some 12,some 3,some 4,some 5,some 6,some 7] [] rfl ?_ ?_<;>(repeat' (first|exact trivial|refine ⟨⟨_,rfl,?_⟩,?_⟩|refine vs1 ?_ ?_|refine vs2 ?_ ?_|refine vs3 ?_|refine vs4 ?_ ?_|refine ⟨.inl ⟨_,_,rfl,rfl,?_⟩,?_⟩|exact ⟨.inr ⟨rfl,rfl⟩,trivial⟩|refine ⟨.inr ⟨rfl,rfl⟩,?_⟩|(intro _ _)|exact vz1|(first|refine ⟨trivial,?_⟩|refine ⟨bsub_mapE' rfl rfl (by rw [show k=j.act.n.toNat by omega]) (fun _=>rfl),?_⟩|exact VSub.aggL ⟨.closed rfl,.closed rfl,.closed rfl,.sl rfl,.sl rfl,.sl rfl,.sl rfl,.sl rfl,.sl rfl,.sl rfl,.map rfl,trivial⟩)|exact vz2|fail)));done)))
         refine bq0n ⟨hE.trans (by assumption),rfl,_,?_,rfl⟩
         have hq:=hT (i:=j.act.n.toNat) (Nat.le_refl _)
         unfold partS at hq
         rw [show ((j.act.item.toNat:Nat):Int)=j.act.item by omega,show ((j.act.n.toNat:Nat):Int)=j.act.n by omega,← hS] at hq
         exact hq)
      | trace_state
theorem work_p (hV:HValid h) (ht:TalOk h m) (hu:u8ok j.act.kind):ACalls Tryz.prog 132 [.ptr 11 0 0 0,j.enc] (shoB h m) (DeedR (workF h j) (workE h j)) (DeedP (workE h j)):=by
  by_cases h2:j.act.kind=2
  · exact work_two h m j hV ht hu h2
  · by_cases h3:j.act.kind=3∨j.act.kind=7
    · exact work_move h m j hV ht hu h3
    · by_cases h6:j.act.kind=6
      · exact work_spoil h m j hV ht hu h6
      · exact work_none h m j (by omega)
end
section
variable {X:Ctx}{I J:Imm}{ρ ρ':List (Option (Nat × Nat))}{H Hk:Heap}{w w':World}
def Weak (Hk H:Heap):Prop:=∀ (k:Nat) blk,Hk[k]?=some blk→blk=.dead∨H[k]?=some blk
theorem keeps_weak (hk:Weak Hk H) {x:World}(h:Keeps I ρ H w x):Keeps I ρ Hk w x :=
  ⟨h.1,fun k sz n f b z e hρ o ho=>by
    rcases hk k _ e with e'|e'
    · cases e'
    · exact h.2.1 k sz n f b z e' hρ o ho,fun k m b z e hρ=>by
    rcases hk k _ e with e'|e'
    · cases e'
    · exact h.2.2 k m b z e' hρ⟩
theorem keeps_trans (hw:WOk X I ρ H w) (hk:Weak Hk H) (hI:I.le J) (hp:Pre ρ ρ') (h:Keeps I ρ Hk w w') {x:World}(h':Keeps J ρ' Hk w' x):Keeps I ρ Hk w x :=
  ⟨fun b o hb=>h'.1 b o (hI b o hb),fun k sz n f b z e hρ o ho=>(h'.2.1 k sz n f b z e (hp _ _ hρ) o ho).trans (h.2.1 k sz n f b z e hρ o ho),fun k m b z e hρ=>(h'.2.2 k m b z e (hp _ _ hρ)).trans (h.2.2 k m b z e hρ)⟩
theorem keeps_row (hw:WOk X I ρ H w) {k cb z sz n:Nat}{f:Nat→V}(hH:H[k]?=some (.arr sz n f)) (hb:ρ[k]?=some (some (cb,z))) (hold:∀ c,c≠cb→w'.heap[c]?=w.heap[c]?):Keeps I ρ (H.set k .dead) w w':=by
  have out:∀ (i b' z':Nat) blk,(H.set k .dead)[i]?=some blk→blk≠.dead→ρ[i]?=some (some (b',z'))→b'≠cb:=fun i b' z' blk h1 h2 h3 e=>by
    subst e
    by_cases hik:i=k
    · subst hik
      have:i<H.length:=(List.getElem?_eq_some_iff.1 hH).1
      rw [List.getElem?_set_self this] at h1
      cases h1;exact h2 rfl
    · rw [List.getElem?_set_ne (Ne.symm hik)] at h1
      exact hik (hw.inj i k b' ⟨_,h1,h2⟩ ⟨_,hH,by simp⟩ _ _ h3 hb)
  refine ⟨fun b o h=>?_,fun i sz n f b z h hρ o ho=>World.cell?_of_block (a:=⟨b,o,none⟩) (hold b (out i b z _ h (by simp) hρ)),fun i m b z h hρ=>hold b (out i b z _ h (by simp) hρ)⟩
  rw [hold b (fun e=>by subst e;rw [hw.apart b ⟨k,_,hH,by simp,z,hb⟩] at h;cases h)]
  exact hw.imm b o h
end
section
variable {P:Program}{r:Option Nat}{m nt:Nat}{Q:Post}{env:Env}{H Hk:Heap}{ops:Array Oper}{l:List Stp}{dst:Option Tmp}{ty:TypeId}{pos:String}{after:Array Edge}{guard:Option (Nat × Bool)}{keep:Bool}{T:TypeId}{d:TyD}{x y:Operand}{v:V}
structure LSW (P:Program) (r:Option Nat) (m nt:Nat) (env:Env) (H:Heap) (b:Nat) (o:Oper) (H':Heap):Prop where
  out:∀ X I ρ a w next (Qx:Exit→Act→World→Prop),X.ρ.length=m→St X nt env H I ρ a w→(∀ u w',WOk X I ρ H' w'→Keeps I ρ (H.set b .dead) w w'→next (a.put o.dst u) w')→o.wpIn (Fw r) 0 P a w next Qx
theorem lsw_store_g {sz b i off n:Nat}{f g:Nat→V}(ht:TyIs P T d) (hx:eo env x=some (.ptr sz b i off)) (hy:eo env y=some v) (hok:v.ok=true) (hone:v.cells.all V.one=true) (hH:H[b]?=some (.arr sz n f)) (hi:i<n)
    (hsz:v.cells.length=d.size) (hoff:off+d.size≤sz) (ha:(∃ cs,f i=.agg cs)∨(off=0∧v.cells.length=1∧(f i).cells.length=1∧∀ cs,v≠.agg cs)) (hgi:g i=putPart (f i) off v) (hg:∀ j,j<n→j≠i→g j=f j) :
    LSW P r m nt env H b ⟨dst,.store T x y,ty,pos,after,guard⟩ (H.set b (.arr sz n g)):=.mk
  fun X I ρ a w next Qx hX hs hk=>by
    obtain ⟨he,hw,hdf⟩:=hs
    have h1:=eo_rel he hx
    have h2:=eo_rel he hy
    obtain ⟨cb,z,h1',hb⟩:=h1.ptr_inv
    obtain ⟨hc1,hc2⟩:=h2.cells (V.ok_ne hok)
    obtain ⟨cs,t,hcs,hz,hn,hr⟩:=hw.arr _ _ _ _ _ _ hH hb
    have hlen:=hw.size _ _ _ _ hH i hi
    have hlt:i*sz+sz≤n*sz:=by rw [← Nat.succ_mul];exact Nat.mul_le_mul_right _ hi
    have hfit:i*sz+off+(a.eval y).cells.toList.length≤cs.size:=by simp [hc1];omega
    have hones:∀ u∈(a.eval y).cells.toList,u.oneCell'=true:=fun u hu=>by
      obtain ⟨j,hj,rfl⟩:=List.getElem_of_mem hu
      have hj':j<v.cells.length:=by simp at hj;omega
      have:=List.all_eq_true.1 hone v.cells[j] (List.getElem_mem _)
      exact (hc2 j v.cells[j] _ (by simp [hj']) (by simp at hj;simp [hj])).one this
    have hst:=run_storeCells_at P cb (i*sz+off) t (a.eval y).cells.toList 0 cs w hcs (by simpa using hfit) hones
    rw [Nat.add_zero] at hst
    have hrun:(execOp a.eval ⟨dst,.store T x y,ty,pos,after,guard⟩).run P w=.ok .skip (w.setRow cb (cs.toList.take (i*sz+off)++(a.eval y).cells.toList++cs.toList.drop (i*sz+off+(a.eval y).cells.toList.length)).toArray):=by
      have hst':=hst
      simp [hc1,hsz] at hst'
      simp [execOp,h1',Instr.storeAt,Instr.sureAddr,storeVar,ht.sizeOf,hc1,hsz,hst']
    obtain ⟨s1,s2,s3⟩:=setRow_facts (new:=(cs.toList.take (i*sz+off)++(a.eval y).cells.toList++cs.toList.drop (i*sz+off+(a.eval y).cells.toList.length)).toArray) hcs
    have hcell:=cells_put (x:=f i) (v:=v) (off:=off) (by omega) ha
    have hgsz:∀ j,j<n→(g j).cells.length=sz:=fun j hj=>by
      by_cases e:j=i
      · subst e;rw [hgi,hcell];simp;omega
      · rw [hg j hj e];exact hw.size _ _ _ _ hH j hj
    refine wpIn_of_run (by simp) hrun ?_
    refine hk undef _ (hw.write hH hb (by simp;simp at hfit;omega) hgsz ?_ s1 s2 s3 rfl rfl rfl) (keeps_row hw hH hb s2)
    intro j k u hj hu
    simp only [List.getElem?_toArray]
    rw [splice_get (by simpa using hfit)]
    by_cases e:j=i
    · subst e
      rw [hgi,hcell] at hu
      have hk':k<sz:=by have:=(List.getElem?_eq_some_iff.1 hu).1;simp at this;omega
      by_cases hin:off≤k∧k<off+v.cells.length
      · rw [if_pos (by simp [hc1];omega)]
        rw [List.append_assoc,List.getElem?_append_right (by simp;omega),List.getElem?_append_left (by simp;omega)] at hu
        have e2:k-(List.take off (f j).cells).length=k-off:=by simp;omega
        rw [e2] at hu
        have hlt2:k-off<(a.eval y).cells.size:=by rw [hc1];omega
        refine ⟨(a.eval y).cells[k-off],?_,hc2 _ _ _ hu (by simp [hlt2])⟩
        rw [show j*sz+k-(j*sz+off)=k-off by omega]
        simp [hlt2]
      · rw [if_neg (by simp [hc1];omega)]
        have:(f j).cells[k]?=some u:=by
          by_cases hlo:k<off
          · rw [List.append_assoc,List.getElem?_append_left (by simp;omega),List.getElem?_take,if_pos hlo] at hu;exact hu
          · rw [List.getElem?_append_right (by simp;omega),List.getElem?_drop] at hu
            rw [← hu];congr 1;simp;omega
        simpa using hr j k u hj this
    · rw [hg j hj e] at hu
      have hk':k<sz:=by have:=(List.getElem?_eq_some_iff.1 hu).1;rw [hw.size _ _ _ _ hH j hj] at this;exact this
      rw [if_neg ?_]
      · simpa using hr j k u hj hu
      · rintro ⟨q1,q2⟩
        simp [hc1] at q2
        rcases Nat.lt_or_gt_of_ne e with hlt'|hgt'
        · have:j*sz+sz≤i*sz:=by rw [← Nat.succ_mul];exact Nat.mul_le_mul_right _ hlt'
          omega
        · have:i*sz+sz≤j*sz:=by rw [← Nat.succ_mul];exact Nat.mul_le_mul_right _ hgt'
          omega
structure ARK (P:Program) (r:Option Nat) (m nt:Nat) (ops:Array Oper) (Q:Post) (l:List Stp) (env:Env) (H Hk:Heap):Prop where
  out:∀ X I ρ a w (S:World→Prop),X.ρ.length=m→St X nt env H I ρ a w→Weak Hk H→(∀ x,Keeps I ρ Hk w x→S x)→runP P r ops (Lift X nt Q) l S a w
theorem ar_k (h:ARK P r m nt ops Q l env H H):AR P r m nt ops Q l env H:=.mk fun X I ρ a w hX hs=>h.1 X I ρ a w _ hX hs (fun _ _ h=>.inr h) fun _ h=>h
theorem ar_k2 {i j e:Nat}{op:Op}{pos2:String}{after2:Array Edge}{ty2:TypeId}(h:ARK P r m nt ops Q (.l i ⟨some e,op,ty,pos,after,none⟩ true::.l j ⟨none,.store T x y,ty2,pos2,after2,none⟩ true::l) env H H):AR P r m nt ops Q (.l i ⟨some e,op,ty,pos,after,none⟩ true::.l j ⟨none,.store T x y,ty2,pos2,after2,none⟩ true::l) env H:=ar_k h
theorem ark_nil (h:Q .normal env H):ARK P r m nt ops Q [] env H Hk:=.mk fun X I ρ a w _ _ hs _ _=>⟨env,H,I,ρ,hs,h⟩
theorem ark_assign {i e:Nat}(hx:eo env x=some v) (hd:e<nt) (h:ARK P r m nt ops Q l ((e,v)::env) H Hk):ARK P r m nt ops Q (.q i ⟨some e,.assign x,ty,pos,after,none⟩::l) env H Hk:=.mk fun X I ρ a w S hX hs hW hS=>by
  refine ⟨fun _=>⟨a.eval x,fun w' _=>by simp [execOp],?_⟩,fun hw=>by rw [wanted_none rfl] at hw;cases hw⟩
  exact h.1 X I ρ _ w S hX ⟨hs.1.put (eo_rel hs.1 hx) hd,hs.2.1,hs.2.2⟩ hW hS
theorem ark_alloc {i e:Nat}(ht:TyIs P T d) (hok:(constV d.zero).ok=true) (hd:e<nt) (h:ARK P r m nt ops Q l ((e,.ptr (constV d.zero).cells.length H.length 0 0)::env) (H++[.arr (constV d.zero).cells.length 1 (fun _=>constV d.zero)]) Hk) :
    ARK P r m nt ops Q (.l i ⟨some e,.alloc T,ty,pos,after,none⟩ keep::l) env H Hk:=.mk fun X I ρ a w S hX hs hW hS=>by
  refine ⟨fun _=>?_,fun hw=>by rw [wanted_none rfl] at hw;cases hw⟩
  refine (ls_alloc ht hok).1 X I ρ a w _ _ hX hs (fun I' ρ' H' v u w' hR hI hρ hw hv hK=>?_) (fun _ _ _ _ _ _ h=>h.elim)
  obtain ⟨rfl,rfl⟩:=hR
  have k1:Keeps I ρ Hk w w':=keeps_weak hW (hK rfl w' (Keeps.refl hw))
  refine ⟨S,hS w' k1,fun _ _ h=>h,h.1 X I' ρ' _ w' S hX ⟨(hs.1.mono hI hρ).put hv hd,hw,hs.2.2.mono hI⟩ (fun k blk hk=>?_) fun x hx=>hS x (keeps_trans hs.2.1 hW hI hρ k1 hx)⟩
  rcases hW k blk hk with e1|e1
  · exact .inl e1
  · exact .inr (by rw [List.getElem?_append_left (List.getElem?_eq_some_iff.1 e1).1];exact e1)
theorem ark_store {i sz b off:Nat}{f:Nat→V}(ht:TyIs P T d) (hx:eo env x=some (.ptr sz b 0 off)) (hy:eo env y=some v) (hH:H[b]?=some (.arr sz 1 f)) (hok:v.ok=true) (hone:v.cells.all V.one=true) (hsz:v.cells.length=d.size) (hoff:off+d.size≤sz)
    (ha:(∃ cs,f 0=.agg cs)∨(off=0∧v.cells.length=1∧(f 0).cells.length=1∧∀ cs,v≠.agg cs)) (hb:Hk.length≤b) (h:ARK P r m nt ops Q l env (H.set b (.arr sz 1 (fun _=>putPart (f 0) off v))) Hk) :
    ARK P r m nt ops Q (.l i ⟨none,.store T x y,ty,pos,after,none⟩ keep::l) env H Hk:=.mk fun X I ρ a w S hX hs hW hS=>by
  refine ⟨fun _=>?_,fun hw=>by rw [wanted_none rfl] at hw;cases hw⟩
  have hW2:Weak Hk (H.set b .dead):=fun k blk hk=>by
    have hlt:k<Hk.length:=(List.getElem?_eq_some_iff.1 hk).1
    rcases hW k blk hk with e1|e1
    · exact .inl e1
    · exact .inr (by rw [List.getElem?_set_ne (by omega)];exact e1)
  refine (lsw_store_g (g:=fun _=>putPart (f 0) off v) ht hx hy hok hone hH Nat.one_pos hsz hoff ha rfl (fun j h1 h2=>by omega)).1 X I ρ a w _ _ hX hs fun u w' hw hK=>?_
  have k1:Keeps I ρ Hk w w':=keeps_weak hW2 hK
  refine ⟨S,hS w' k1,fun _ _ h=>h,h.1 X I ρ _ w' S hX ⟨hs.1,hw,hs.2.2⟩ (fun k blk hk=>?_) fun x hx=>hS x (keeps_trans hs.2.1 hW (Imm.le_refl _) (Pre.refl _) k1 hx)⟩
  have hlt:k<Hk.length:=(List.getElem?_eq_some_iff.1 hk).1
  rcases hW k blk hk with e1|e1
  · exact .inl e1
  · exact .inr (by rw [List.getElem?_set_ne (by omega)];exact e1)
theorem ls_gcall0k {fo:Operand}{args:List Operand}{ats:Array TypeId}{f:FuncId}{first cap vs xs:List V}{R Rp:V→Heap→Prop}(hfn:FnOk P f) (hf:eo env fo=some (.fn (.func f) first cap)) (hargs:args.mapM (eo env)=some vs)
    (ha:ArgsSub H [] [] (first++vs++cap) xs) (h:ACalls P f xs [] R Rp) :
    LS P r m nt keep env H ⟨dst,.call ⟨.value fo,args.toArray,ats⟩,ty,pos,after,guard⟩ (fun v H'=>∃ v1 H1,R v1 H1∧v=v1.ren (rn [] H.length)∧H'=joinH [] [] H H1) (fun v H'=>∃ v1 H1,Rp v1 H1∧v=v1.ren (rn [] H.length)∧H'=joinH [] [] H H1):=.mk
  fun X I ρ a w next Qx hX hs hk hp=>by
    have hw:=hs.2.1
    have h1:=eo_rel hs.1 hf
    cases h1':a.eval fo<;>rw [h1'] at h1<;>cases h1
    rename_i us ws e1 e2 e3 e4
    have hrel:VRels I ρ (first++vs++cap) (us++(args.map a.eval).toArray++ws):=(VRels.append ⟨e1,e2⟩ (evals hs.1 hargs)).append ⟨e3,e4⟩
    obtain ⟨J,hJ,hJn,hwJ,rel⟩:=relocate_ok hw [] [] (H0:=[]) rfl List.nodup_nil (fun _ h=>by cases h) trivial
    have hrel':=argsSub_rel (us:=(us++(args.map a.eval).toArray++ws).toList) rel ha (by rw [Array.toArray_toList];exact hrel)
    rw [Array.toArray_toList] at hrel'
    refine wpIn_of_run (by simp) (call_run hfn h1' w) ⟨fun h=>by simp [Fw,Fence.wide] at h,callsIn_fw.2 ((h.1 _ J _ w _ hwJ hrel').mono fun e w' ⟨v,u,I',ρ1,H1,hle,hpre,hw',hr,h2⟩=>?_)⟩
    obtain ⟨hj,hren⟩:=hw.joinG [] [] (H0:=[]) rfl List.nodup_nil (fun _ h=>by cases h) trivial (fun _ h=>by cases h) hJ hJn hw'
    have hold:∀ b,b<w.heap.size→w'.heap[b]?=w.heap[b]?:=fun b hb=>hw'.keep b hb fun ⟨k,blk,h1,_⟩=>by simp [Ctx.self] at h1
    rcases h2 with ⟨rfl,hR⟩|⟨rfl,hR⟩
    · refine hk I' _ _ _ u w' ⟨v,H1,hR,rfl,rfl⟩ (Imm.le_trans hJ hle) (fun i x h=>by rw [List.getElem?_append_left (List.getElem?_eq_some_iff.1 h).1];exact h) hj (hr.ren hren) fun _ x hx=>?_
      have get:∀ {k:Nat} {blk:Blk},H[k]?=some blk→(joinH [] [] H H1)[k]?=some blk:=fun {k blk} e=>by rw [joinH_nil,List.getElem?_append_left (List.getElem?_eq_some_iff.1 e).1];exact e
      have gρ:∀ {k:Nat} {y},ρ[k]?=some y→(ρ++ρ1.drop ([]:List Nat).length)[k]?=some y:=fun {k y} e=>by rw [List.getElem?_append_left (List.getElem?_eq_some_iff.1 e).1];exact e
      refine ⟨fun b o hb=>hx.1 b o (Imm.le_trans hJ hle b o hb),fun k sz n f b z e hρ o ho=>?_,fun k m b z e hρ=>?_⟩
      · exact (hx.2.1 k sz n f b z (get e) (gρ hρ) o ho).trans (World.cell?_of_block (a:=⟨b,o,none⟩) (hold b (hw.lt ⟨k,_,e,by simp,z,hρ⟩)))
      · exact (hx.2.2 k m b z (get e) (gρ hρ)).trans (hold b (hw.lt ⟨k,_,e,by simp,z,hρ⟩))
    · exact hp I' _ _ _ u w' ⟨v,H1,hR,rfl,rfl⟩ (Imm.le_trans hJ hle) hj (hr.ren hren)
theorem ar_gcall0k {i e:Nat}{fo:Operand}{args:List Operand}{ats:Array TypeId}{f:FuncId}{first cap vs:List V}{R Rp:V→Heap→Prop}(hfn:FnOk P f) (hf:eo env fo=some (.fn (.func f) first cap)) (hargs:args.mapM (eo env)=some vs)
    (xs:List V) (ha:ArgsSub H [] [] (first++vs++cap) xs) (h:ACalls P f xs [] R Rp) (hd:e<nt)
    (hk:∀ v1 H1,R v1 H1→AR P r m nt ops Q l ((e,v1.ren (rn [] H.length))::env) (H++H1.map (Blk.ren (rn [] H.length)))) (hp:∀ v1 H1,Rp v1 H1→Q (.panic (v1.ren (rn [] H.length))) [] (H++H1.map (Blk.ren (rn [] H.length)))) :
    AR P r m nt ops Q (.l i ⟨some e,.call ⟨.value fo,args.toArray,ats⟩,ty,pos,after,none⟩ keep::l) env H :=
  ar_l (ls_gcall0k hfn hf hargs ha h) hd (fun v H' ⟨v1,H1,hR,a,b⟩=>by subst a;subst b;rw [joinH_nil];exact hk v1 H1 hR) (fun v H' ⟨v1,H1,hR,a,b⟩=>by subst a;subst b;rw [joinH_nil];exact hp v1 H1 hR)
end
end Go.Proofs.YtbilpbabdgfblaaGreat
