/- Parts of the proof: contracts of functions. No condition. -/
import Derived.Test.YtbilpbabdgfblaaGreatKLi12
set_option maxHeartbeats 16000000
set_option linter.unusedSimpArgs false
set_option linter.unusedVariables false
namespace Go.Proofs.YtbilpbabdgfblaaGreat
open Go.RowKit
theorem lastErr_gap {s:Sheet}{b:List (List Int)}{per:Int}(h:gapErr s b≠0):lastErr s b per=gapErr s b:=by simp [lastErr,h]
theorem lastErr_arg {s:Sheet}{b:List (List Int)}{per:Int}(h:gapErr s b=0) (h2:withinB per 1 1000=false):lastErr s b per=2:=by simp [lastErr,h,h2]
theorem lastErr_none {s:Sheet}{b:List (List Int)}{per:Int}(h:gapErr s b=0) (h2:withinB per 1 1000=true) (h3:gapF s b=0):lastErr s b per=6:=by simp [lastErr,h,h2,h3]
theorem lastErr_ok {s:Sheet}{b:List (List Int)}{per:Int}(h:gapErr s b=0) (h2:withinB per 1 1000=true) (h3:gapF s b≠0):lastErr s b per=0:=by simp [lastErr,h,h2,h3]
theorem lastF_bad {s:Sheet}{b:List (List Int)}{per:Int}(h:lastErr s b per≠0):lastF s b per=0:=by simp [lastF,h]
theorem lastF_ok {s:Sheet}{b:List (List Int)}{per:Int}(h:lastErr s b per=0):lastF s b per=(gapF s b+1)/2*per-1:=by simp [lastF,h]
def encLast (s:Sheet) (b:List (List Int)) (per:Int):V:=.tup [vi (lastF s b per),vi (lastErr s b per)]
theorem last_bnd {g p:Int}(hg:1≤g∧g≤60) (hp:1≤p∧p≤1000):1≤(g+1)/2*p∧(g+1)/2*p≤30000:=by
  have h1:1≤(g+1)/2∧(g+1)/2≤30:=by omega
  constructor
  · have:=Int.mul_le_mul h1.1 hp.1 (by omega) (by omega)
    omega
  · have:=Int.mul_le_mul h1.2 hp.2 (by omega) (by omega)
    omega
theorem lLasts_p (s:Sheet) (b:List (List Int)) (per:Int):PCalls Tryz.prog 64 [s.enc,encRows b,vi per] (·=encLast s b per):=by
  by_cases hge:gapErr s b=0
  · cases hp:withinB per 1 1000
    · have he:=lastErr_arg hge hp
      rw [encLast,lastF_bad (by omega),he]
      refine pcalls_of_aw Tryz.func64 rfl (dc rfl) ?_
      (repeat' (first|(refine ar_isq ?_;refine zq ?_)|(refine zpv fn109 (lGap_p s b) ?_)|(refine ar_pcall (own:=true) fn59 rfl rfl (.cons (.closed rfl) (.cons (.closed rfl) (.cons (.lent rfl rfl (by omega) (fun _ _=>rfl) (fun k hk=>match k,hk with|0,_=>rfl)) .nil))) (from1_p 1 1000 per) (by intros;subst_vars;rfl) (dc rfl) ?_;intro _ hv;subst hv)|refine zst ?_|refine zco ?_ ?_|exact zd|(refine fun (hg:(_:Prop))=>?_;(try replace hg:=HG.out hg);(try dsimp only at hg);(try (have _h:True:=hg;clear _h hg)))))
      all_goals first
        | (exfalso;simp_all;done)
        | ((refine aw_ret ?_;(repeat (first|refine ret_then ?_|refine ret_block ?_));refine bq2 rfl rfl ⟨?_,rfl⟩);rfl)
    · obtain ⟨hce,h2,hg0,hg60⟩:=gap_ok hge
      have hpb:=withinB_iff.1 hp
      by_cases hz:gapF s b=0
      · have he:=lastErr_none hge hp hz
        rw [encLast,lastF_bad (by omega),he]
        refine pcalls_of_aw Tryz.func64 rfl (dc rfl) ?_
        (repeat' (first|(refine ar_isq ?_;refine zq ?_)|(refine zpv fn109 (lGap_p s b) ?_)|(refine ar_pcall (own:=true) fn59 rfl rfl (.cons (.closed rfl) (.cons (.closed rfl) (.cons (.lent rfl rfl (by omega) (fun _ _=>rfl) (fun k hk=>match k,hk with|0,_=>rfl)) .nil))) (from1_p 1 1000 per) (by intros;subst_vars;rfl) (dc rfl) ?_;intro _ hv;subst hv)|refine zst ?_|refine zco ?_ ?_|exact zd|(refine fun (hg:(_:Prop))=>?_;(try replace hg:=HG.out hg);(try dsimp only at hg);(try (have _h:True:=hg;clear _h hg)))))
        all_goals first
          | (exfalso;simp_all;done)
          | ((refine aw_ret ?_;(repeat (first|refine ret_then ?_|refine ret_block ?_));refine bq2 rfl rfl ⟨?_,rfl⟩);rfl)
      · have he:=lastErr_ok hge hp hz
        rw [encLast,lastF_ok he,he]
        have hlb:=last_bnd (g:=gapF s b) (p:=per) (by omega) hpb
        refine pcalls_of_aw Tryz.func64 rfl (dc rfl) ?_
        (repeat' (first|(refine ar_isq ?_;refine zq ?_)|(refine zpv fn109 (lGap_p s b) ?_)|(refine ar_pcall (own:=true) fn59 rfl rfl (.cons (.closed rfl) (.cons (.closed rfl) (.cons (.lent rfl rfl (by omega) (fun _ _=>rfl) (fun k hk=>match k,hk with|0,_=>rfl)) .nil))) (from1_p 1 1000 per) (by intros;subst_vars;rfl) (dc rfl) ?_;intro _ hv;subst hv)|refine zst ?_|refine zco ?_ ?_|exact zd|(refine fun (hg:(_:Prop))=>?_;(try replace hg:=HG.out hg);(try dsimp only at hg);(try (have _h:True:=hg;clear _h hg)))))
        all_goals first
          | (exfalso;simp_all;done)
          | ((refine aw_ret ?_;(repeat (first|refine ret_then ?_|refine ret_block ?_));refine bq2 rfl rfl ⟨?_,rfl⟩);rfl)
  · have he:=lastErr_gap (per:=per) hge
    rw [encLast,lastF_bad (by omega),he]
    refine pcalls_of_aw Tryz.func64 rfl (dc rfl) ?_
    (repeat' (first|(refine ar_isq ?_;refine zq ?_)|(refine zpv fn109 (lGap_p s b) ?_)|refine zst ?_|refine zco ?_ ?_|exact zd|(refine fun (hg:(_:Prop))=>?_;(try replace hg:=HG.out hg);(try dsimp only at hg);(try (have _h:True:=hg;clear _h hg)))))
    all_goals first
      | (exfalso;omega)
      | ((refine aw_ret ?_;(repeat (first|refine ret_then ?_|refine ret_block ?_));refine bq2 rfl rfl ⟨?_,rfl⟩);rfl)
theorem here_move {s:Sto}{i d:Int}(h:moveE s i d=0):hereB s i:=Classical.byContradiction fun hn=>by unfold moveE at h;rw [if_neg hn] at h;omega
theorem here_dest {s:Sto}{i:Int}(h:destE s i=0):hereB s i:=Classical.byContradiction fun hn=>by unfold destE at h;rw [if_neg hn] at h;omega
theorem stateAt_kept {s:Sto}{first n st:Int}(h:spendE s first n=0) {j:Nat}(hj:j<s.prints.length) (h0:(el s.prints j).state≠0):(stateAt s.prints first.toNat n.toNat st j).state=(el s.prints j).state:=by
  unfold stateAt
  split
  · rename_i hin
    exfalso
    unfold spendE at h
    split at h
    · rename_i hn
      split at h
      · rename_i hf
        split at h
        · omega
        · rename_i hany
          refine hany (List.any_eq_true.2 ⟨el (cutP s first n) (j-first.toNat),?_,?_⟩)
          · refine el_mem ?_
            unfold cutP
            rw [List.length_take,List.length_drop]
            omega
          · have e:el (cutP s first n) (j-first.toNat)=el s.prints j:=by
              unfold cutP
              rw [el_take (by omega),el_drop,show first.toNat+(j-first.toNat)=j by omega]
            rw [e]
            unfold spentB
            rw [decide_eq_false h0]
            rfl
      · omega
    · omega
  · rfl
theorem hvalid_item {h t:Hse}{k:Nat}{x:Itm}(hV:HValid h) (hk:k<h.store.items.length) (hs:Valid t.store) (hit:t.store.items=h.store.items.set k x) (hpr:t.store.prints=h.store.prints) (hlife:t.store.life=h.store.life) (h1:t.per=h.per) (h2:t.day=h.day) (h3:t.designs=h.designs) (h4:t.lics=h.lics) (h5:t.orders=h.orders) (h6:t.made=h.made) (h7:t.fors=h.fors)
    (x1:x.kind=(el h.store.items k).kind) (x2:x.src=(el h.store.items k).src) (x3:x.kind=3→x.uses=(el h.store.items k).uses):HValid t:=by
  obtain ⟨tper,tday,⟨tlife,titems,tprints⟩,tdes,tlics,tord,tmade,tfors⟩:=t
  dsimp only at hit hpr hlife h1 h2 h3 h4 h5 h6 h7 hs
  subst h1 h2 h3 h4 h5 h6 h7 hit hpr hlife
  refine { per:=hV.per,day:=hV.day,store:=hs,few:=hV.few,designs:=hV.designs,lics:=hV.lics,mades:=by rw [List.length_set];exact hV.mades,made:=fun i hi=>?_,forss:=hV.forss,fors:=hV.fors,orders:=hV.orders }
  have hi2:i<h.store.items.length:=by rw [List.length_set] at hi;exact hi
  obtain ⟨a,b,c⟩:=hV.made i hi2
  unfold MadeAt
  dsimp only
  rw [el_setI hk]
  by_cases e:i=k
  · rw [if_pos e]
    subst e
    exact ⟨a,fun hne=>by rw [x2];exact b (by rw [← x1];exact hne),fun h3=>by rw [x3 h3];exact c (by rw [← x1];exact h3)⟩
  · rw [if_neg e]
    exact ⟨a,b,c⟩
theorem done_spoil {h:Hse}{first n:Int}(he:spendE h.store first n=0) (m:Int):∀ {k:Nat},k≤h.store.prints.length→doneTo (withS h (spendF h.store first n 2)) m 1 k=doneTo h m 1 k∧doneTo (withS h (spendF h.store first n 2)) m 0 k≤doneTo h m 0 k
  | 0,_=>⟨rfl,Int.le_refl _⟩
  | k+1,hk=>by
    obtain ⟨i1,i0⟩:=done_spoil he m (k:=k) (by omega)
    have hkl:k<h.store.prints.length:=by omega
    have hel:el (withS h (spendF h.store first n 2)).store.prints k=stateAt h.store.prints first.toNat n.toNat 2 k:=spendF_el hkl
    have hfo:el (withS h (spendF h.store first n 2)).fors k=el h.fors k:=rfl
    unfold doneTo at i1 i0 ⊢
    by_cases hsame:(stateAt h.store.prints first.toNat n.toNat 2 k).state=(el h.store.prints k).state
    · have key:∀ st,cntB (fun q=>decide (el (withS h (spendF h.store first n 2)).fors q=m)&&decide ((el (withS h (spendF h.store first n 2)).store.prints q).state=st)) (k+1)-cntB (fun q=>decide (el (withS h (spendF h.store first n 2)).fors q=m)&&decide ((el (withS h (spendF h.store first n 2)).store.prints q).state=st)) k=cntB (fun q=>decide (el h.fors q=m)&&decide ((el h.store.prints q).state=st)) (k+1)-cntB (fun q=>decide (el h.fors q=m)&&decide ((el h.store.prints q).state=st)) k:=fun st=>by
        cases hb:(decide (el h.fors k=m)&&decide ((el h.store.prints k).state=st))
        · rw [cntB_no (p:=fun q=>decide (el h.fors q=m)&&decide ((el h.store.prints q).state=st)) hb,cntB_no (p:=fun q=>decide (el (withS h (spendF h.store first n 2)).fors q=m)&&decide ((el (withS h (spendF h.store first n 2)).store.prints q).state=st)) (by rw [hel,hsame,hfo];exact hb)]
          omega
        · rw [cntB_yes (p:=fun q=>decide (el h.fors q=m)&&decide ((el h.store.prints q).state=st)) hb,cntB_yes (p:=fun q=>decide (el (withS h (spendF h.store first n 2)).fors q=m)&&decide ((el (withS h (spendF h.store first n 2)).store.prints q).state=st)) (by rw [hel,hsame,hfo];exact hb)]
          omega
      have k1:=key 1
      have k0:=key 0
      omega
    · have h0:(el h.store.prints k).state=0:=Classical.byContradiction fun h0=>hsame (stateAt_kept he hkl h0)
      have h2:(stateAt h.store.prints first.toNat n.toNat 2 k).state=2:=by
        unfold stateAt at hsame ⊢
        split
        · rfl
        · rename_i hn;rw [if_neg hn] at hsame;exact (hsame rfl).elim
      rw [cntB_no (p:=fun q=>decide (el (withS h (spendF h.store first n 2)).fors q=m)&&decide ((el (withS h (spendF h.store first n 2)).store.prints q).state=1)) (by rw [hel,h2];simp),
        cntB_no (p:=fun q=>decide (el (withS h (spendF h.store first n 2)).fors q=m)&&decide ((el (withS h (spendF h.store first n 2)).store.prints q).state=0)) (by rw [hel,h2];simp),
        cntB_no (p:=fun q=>decide (el h.fors q=m)&&decide ((el h.store.prints q).state=1)) (by rw [h0];simp)]
      have:cntB (fun q=>decide (el h.fors q=m)&&decide ((el h.store.prints q).state=0)) k≤cntB (fun q=>decide (el h.fors q=m)&&decide ((el h.store.prints q).state=0)) (k+1):=by
        simp only [cntB]
        split<;>omega
      omega
theorem hvalid_spoil {h:Hse}{first n:Int}(hV:HValid h) (he:spendE h.store first n=0):HValid (withS h (spendF h.store first n 2)):=by
  have hff:=hV.forss
  have hl:=spendF_len h.store first n 2
  refine { per:=hV.per,day:=hV.day,store:=valid_spend hV.store (by decide),few:=hV.few,designs:=hV.designs,lics:=hV.lics,mades:=hV.mades,made:=hV.made,forss:=by show h.fors.length=_;rw [hff];exact hl.symm,fors:=fun i hi=>?_,orders:=fun i hi=>?_ }
  · have hi2:i<h.fors.length:=hi
    obtain ⟨a,b⟩:=hV.fors i hi2
    refine ⟨a,?_⟩
    show (el h.orders (el h.fors i).toNat).design=el h.made (el (spendF h.store first n 2).prints i).plate.toNat
    rw [spendF_el (by omega),show (stateAt h.store.prints first.toNat n.toNat 2 i).plate=(el h.store.prints i).plate by unfold stateAt;split<;>rfl]
    exact b
  · obtain ⟨a,b,c,d,f⟩:=hV.orders i hi
    obtain ⟨d1,d0⟩:=done_spoil he (i:Int) (k:=h.fors.length) (by omega)
    have hb:=(cntB_bnd (p:=fun q=>decide (el (withS h (spendF h.store first n 2)).fors q=(i:Int))&&decide ((el (withS h (spendF h.store first n 2)).store.prints q).state=0)) h.fors.length).1
    have e1:doneF (withS h (spendF h.store first n 2)) i 1=doneF h i 1:=d1
    have e0:doneF (withS h (spendF h.store first n 2)) i 0≤doneF h i 0:=d0
    have eb:0≤doneF (withS h (spendF h.store first n 2)) i 0:=hb
    exact ⟨a,b,c,fun hd=>⟨by have:=(d hd).1;omega,by rw [e1];exact (d hd).2⟩,fun hd=>⟨by rw [e1];exact (f hd).1,by have:=(f hd).2;show doneF (withS h (spendF h.store first n 2)) i 0≤(el h.orders i).need;omega⟩⟩
theorem allows_pos {d:Dsn}{per life:Int}(hd:GoodD d) (hp:1≤per∧per≤1000) (hl:1≤life):1≤allowsF per life d:=by
  unfold allowsF
  split
  · rename_i he
    have hge:gapErr d.sheet d.band=0:=Classical.byContradiction fun hn=>by rw [lastErr_gap hn] at he;exact hn he
    have hg:0<gapF d.sheet d.band:=hd.2.2.2.elim (fun h=>(h hge).elim) id
    obtain ⟨_,_,_,hg60⟩:=gap_ok hge
    have hb:=last_bnd (g:=gapF d.sheet d.band) (p:=per) (by omega) hp
    rw [lastF_ok he]
    omega
  · exact hl
theorem trans_ok {s:Sto}{i:Int}(h:transE s i=0):hereB s i∧(el s.items i.toNat).kind≠3:=by
  unfold transE at h
  split at h
  · rename_i hh
    split at h
    · omega
    · exact ⟨hh,by omega⟩
  · omega
theorem hvalid_trans {h:Hse}{j:Job}(hV:HValid h) (hk2:j.act.kind=2) (he:actE h.store j.act=0):HValid (workF h j):=by
  have he2:=he
  rw [actE_2 hk2] at he2
  obtain ⟨hh,hk3⟩:=trans_ok he2
  have hi0:=hh.1
  have hmm:=hV.mades
  have hk:j.act.item.toNat<h.store.items.length:=by omega
  have hst:(workF h j).store=transF h.store j.act.item:=actF_2 hk2
  have hit:(workF h j).store.items=h.store.items.set j.act.item.toNat (used1 (el h.store.items j.act.item.toNat) 1)++[made1 (el h.store.items j.act.item.toNat) j.act.item]:=by rw [hst];rfl
  have hpr:(workF h j).store.prints=h.store.prints:=by rw [hst];rfl
  have hlf:(workF h j).store.life=h.store.life:=by rw [hst];rfl
  have hml:(workF h j).made=h.made++[el h.made j.act.item.toNat]:=if_pos hk2
  have hfo:(workF h j).fors=h.fors:=rfl
  have hils:(h.store.items.set j.act.item.toNat (used1 (el h.store.items j.act.item.toNat) 1)).length=h.store.items.length:=List.length_set
  refine { per:=hV.per,day:=hV.day,store:=?_,few:=hV.few,designs:=hV.designs,lics:=hV.lics,mades:=by rw [hit,hml,List.length_append,List.length_append,hils,hmm];rfl,made:=fun i hi=>?_,forss:=by rw [hpr];exact hV.forss,fors:=fun i hi=>?_,orders:=fun i hi=>ordAt_same (h:=h) (t:=workF h j) rfl (Nat.le_refl _) (doneTo_same fun q _=>⟨rfl,by rw [hpr]⟩) (doneTo_same fun q _=>⟨rfl,by rw [hpr]⟩) (hV.orders i hi) }
  · exact valid_act hV.store he
  · rw [hit,List.length_append,List.length_singleton,hils] at hi
    unfold MadeAt
    rw [hit,hml,hlf]
    by_cases e:i<h.store.items.length
    · obtain ⟨a,b,c⟩:=hV.made i e
      have hsrc:=hV.store.2.1 i e
      unfold Made at hsrc
      rw [el_app_lt (by omega),el_app_lt (by omega),el_setI hk]
      by_cases e2:i=j.act.item.toNat
      · rw [if_pos e2]
        subst e2
        refine ⟨a,fun hne=>?_,fun h3=>(hk3 h3).elim⟩
        have hne2:(el h.store.items j.act.item.toNat).kind≠1:=hne
        show el h.made j.act.item.toNat=el (h.made++[el h.made j.act.item.toNat]) (el h.store.items j.act.item.toNat).src.toNat
        rw [el_app_lt (by omega)]
        exact b hne2
      · rw [if_neg e2]
        refine ⟨a,fun hne=>?_,c⟩
        rw [el_app_lt (by omega)]
        exact b hne
    · have e2:i=h.store.items.length:=by omega
      have e3:el (h.made++[el h.made j.act.item.toNat]) i=el h.made j.act.item.toNat:=by rw [e2,← hmm];exact el_snoc
      have e4:el (h.store.items.set j.act.item.toNat (used1 (el h.store.items j.act.item.toNat) 1)++[made1 (el h.store.items j.act.item.toNat) j.act.item]) i=made1 (el h.store.items j.act.item.toNat) j.act.item:=by rw [e2,← hils];exact el_snoc
      obtain ⟨a,_,_⟩:=hV.made _ hk
      rw [e3,e4]
      have hin:=a
      unfold inDesigns at hin
      refine ⟨a,fun _=>?_,fun _=>?_⟩
      · show el h.made j.act.item.toNat=el (h.made++[el h.made j.act.item.toNat]) j.act.item.toNat
        rw [el_app_lt (by omega)]
      · have hl:=hV.store.1
        unfold Few at hl
        have:=allows_pos (per:=h.per) (life:=h.store.life) (hV.designs (el h.made j.act.item.toNat).toNat (by omega)) hV.per hl.1.1
        show (0:Int)≤allowsF h.per h.store.life (el h.designs (el h.made j.act.item.toNat).toNat)
        omega
  · have hi2:i<h.fors.length:=hi
    obtain ⟨a,b⟩:=hV.fors i hi2
    have hff:=hV.forss
    have hp:=(hV.store.2.2.2.1 i (by omega)).1
    refine ⟨a,?_⟩
    rw [hpr,hml,el_app_lt (by omega)]
    exact b
theorem hvalid_work {h:Hse}{j:Job}(hV:HValid h) (he:workE h j=0):HValid (workF h j):=by
  unfold workE at he
  split at he
  · rename_i hk
    rcases hk with k|k|k|k
    · exact hvalid_trans hV k he
    · have he2:=he
      rw [actE_3 k] at he2
      have hh:=here_move he2
      have hi0:=hh.1
      exact hvalid_item (k:=j.act.item.toNat) (x:=place1 (el h.store.items j.act.item.toNat) j.act.dest) hV (by omega) (valid_act hV.store he) (by show (actF h.store j.act).items=_;rw [actF_3 k];rfl) (by show (actF h.store j.act).prints=_;rw [actF_3 k];rfl) (by show (actF h.store j.act).life=_;rw [actF_3 k];rfl) rfl rfl rfl rfl rfl (if_neg (by omega)) rfl rfl rfl (fun _=>rfl)
    · have he2:=he
      rw [actE_6 k] at he2
      have hs:=hvalid_spoil hV he2
      have e:workF h j=withS h (spendF h.store j.act.item j.act.n 2):=by
        unfold workF withS
        rw [actF_6 k,if_neg (by omega)]
      rw [e]
      exact hs
    · have he2:=he
      rw [actE_7 k] at he2
      have hh:=here_dest he2
      have hi0:=hh.1
      exact hvalid_item (k:=j.act.item.toNat) (x:=gone1 (el h.store.items j.act.item.toNat)) hV (by omega) (valid_act hV.store he) (by show (actF h.store j.act).items=_;rw [actF_7 k];rfl) (by show (actF h.store j.act).prints=_;rw [actF_7 k];rfl) (by show (actF h.store j.act).life=_;rw [actF_7 k];rfl) rfl rfl rfl rfl rfl (if_neg (by omega)) rfl rfl rfl (fun _=>rfl)
  · omega
theorem hvalid_job {h:Hse}{j:Job}(hV:HValid h) (he:jobE h j=0):HValid (jobF h j):=by
  unfold jobE at he
  unfold jobF
  split
  · rename_i k;rw [if_pos k] at he;exact hvalid_arch hV he
  · rename_i k1;rw [if_neg k1] at he
    split
    · rename_i k;rw [if_pos k] at he;exact hvalid_licn hV he
    · rename_i k2;rw [if_neg k2] at he
      split
      · rename_i k;rw [if_pos k] at he;exact hvalid_take hV he
      · rename_i k3;rw [if_neg k3] at he
        split
        · rename_i k;rw [if_pos k] at he;exact hvalid_engv hV he
        · rename_i k4;rw [if_neg k4] at he
          split
          · rename_i k;rw [if_pos k] at he;exact hvalid_work hV he
          · rename_i k5;rw [if_neg k5] at he
            split
            · rename_i k;rw [if_pos k] at he;exact hvalid_run hV he
            · rename_i k6;rw [if_neg k6] at he
              split
              · rename_i k;rw [if_pos k] at he;exact hvalid_give hV he
              · rename_i k7;rw [if_neg k7] at he
                split at he
                · exact hvalid_wait hV he
                · omega
def hse0 (per life:Int):Hse:=⟨per,0,⟨life,[],[]⟩,[],[],[],[],[]⟩
def hAt (per life:Int) (bk:List Job):Nat→Hse
  | 0=>hse0 per life
  | k+1=>jobF (hAt per life bk k) (el bk k)
def hErrAt (per life:Int) (bk:List Job) (k:Nat):Int:=jobE (hAt per life bk k) (el bk k)
theorem hvalid0 {per life:Int}:HValid (hse0 per life)↔(1≤per∧per≤1000)∧(1≤life∧life≤1000):=by
  constructor
  · intro h
    have hs:=h.store.1
    unfold Few at hs
    exact ⟨h.per,hs.1⟩
  · intro h
    refine { per:=h.1,day:=by show (0:Int)≤0∧(0:Int)≤10000;omega,store:=⟨⟨h.2,by simp [hse0],by simp [hse0]⟩,fun i hi=>by simp [hse0] at hi,fun i hi=>by simp [hse0] at hi,fun i hi=>by simp [hse0] at hi,fun i hi=>by simp [hse0] at hi⟩,few:=by simp [hse0],designs:=fun i hi=>by simp [hse0] at hi,lics:=fun i hi=>by simp [hse0] at hi,mades:=rfl,made:=fun i hi=>by simp [hse0] at hi,forss:=rfl,fors:=fun i hi=>by simp [hse0] at hi,orders:=fun i hi=>by simp [hse0] at hi }
theorem hAt_ok {per life:Int}{bk:List Job}(h0:HValid (hse0 per life)):∀ {k:Nat},(∀ j,j<k→hErrAt per life bk j=0)→HValid (hAt per life bk k)
  | 0,_=>h0
  | k+1,h=>hvalid_job (hAt_ok h0 (k:=k) fun j hj=>h j (by omega)) (h k (by omega))
def hFirst (per life:Int) (bk:List Job):Nat→Option Nat
  | 0=>none
  | k+1=>match hFirst per life bk k with
    | some j=>some j
    | none=>if hErrAt per life bk k=0 then none else some k
theorem hFirst_none {per life:Int}{bk:List Job}:∀ {k:Nat},(∀ j,j<k→hErrAt per life bk j=0)→hFirst per life bk k=none
  | 0,_=>rfl
  | k+1,h=>by
    unfold hFirst
    rw [hFirst_none fun j hj=>h j (by omega)]
    exact if_pos (h k (by omega))
theorem hFirst_at {per life:Int}{bk:List Job}{k:Nat}(h:∀ j,j<k→hErrAt per life bk j=0) (he:hErrAt per life bk k≠0):∀ {n:Nat},k<n→hFirst per life bk n=some k
  | 0,hk=>by omega
  | n+1,hk=>by
    unfold hFirst
    by_cases e:k=n
    · subst e
      rw [hFirst_none h]
      exact if_neg he
    · rw [hFirst_at h he (n:=n) (by omega)]
def hplayX (per life:Int) (bk:List Job):Int × Int :=
  if 200<bk.length then (0,4) else if (1≤per∧per≤1000)∧(1≤life∧life≤1000) then (match hFirst per life bk bk.length with|some j=>((j:Int),hErrAt per life bk j)|none=>(0,0)) else (0,2)
def noHse:Hse:=⟨0,0,⟨0,[],[]⟩,[],[],[],[],[]⟩
def hplayF (per life:Int) (bk:List Job):Hse:=if (hplayX per life bk).2=0 then hAt per life bk bk.length else noHse
theorem hplayX_many {per life:Int}{bk:List Job}(h:200<bk.length):hplayX per life bk=(0,4):=by unfold hplayX;rw [if_pos h]
theorem hplayX_arg {per life:Int}{bk:List Job}(h:¬ 200<bk.length) (hl:¬ ((1≤per∧per≤1000)∧(1≤life∧life≤1000))):hplayX per life bk=(0,2):=by unfold hplayX;rw [if_neg h,if_neg hl]
theorem hplayX_bad {per life:Int}{bk:List Job}{k:Nat}(h:¬ 200<bk.length) (hl:(1≤per∧per≤1000)∧(1≤life∧life≤1000)) (hJ:∀ j,j<k→hErrAt per life bk j=0) (hk:k<bk.length) (he:hErrAt per life bk k≠0):hplayX per life bk=((k:Int),hErrAt per life bk k):=by
  unfold hplayX
  rw [if_neg h,if_pos hl,hFirst_at hJ he hk]
theorem hplayX_ok {per life:Int}{bk:List Job}(h:¬ 200<bk.length) (hl:(1≤per∧per≤1000)∧(1≤life∧life≤1000)) (hJ:∀ j,j<bk.length→hErrAt per life bk j=0):hplayX per life bk=(0,0):=by
  unfold hplayX
  rw [if_neg h,if_pos hl,hFirst_none hJ]
theorem hplayF_bad {per life:Int}{bk:List Job}(h:(hplayX per life bk).2≠0):hplayF per life bk=noHse:=by unfold hplayF;rw [if_neg h]
theorem hplayF_ok {per life:Int}{bk:List Job}(h:(hplayX per life bk).2=0):hplayF per life bk=hAt per life bk bk.length:=by unfold hplayF;rw [if_pos h]
def beforeF (h:Hse) (k:Nat):Int:=usedP h.store.prints (el h.store.prints k).plate k
def growF (h:Hse) (k:Nat):Int:=min (beforeF h k/h.per) 20
theorem hfirst_bad {per life:Int}{bk:List Job}:∀ {j:Nat},j<bk.length→hErrAt per life bk j≠0→∃ m,m<bk.length∧(∀ q,q<m→hErrAt per life bk q=0)∧hErrAt per life bk m≠0
  | j,hj,he=>by
    by_cases h:∀ q,q<j→hErrAt per life bk q=0
    · exact ⟨j,hj,h,he⟩
    · have h2:∃ q,q<j∧hErrAt per life bk q≠0:=Classical.byContradiction fun hn=>h fun q hq=>Classical.byContradiction fun hb=>hn ⟨q,hq,hb⟩
      obtain ⟨q,hq,hb⟩:=h2
      exact hfirst_bad (j:=q) (by omega) hb
theorem hplayX_all {per life:Int}{bk:List Job}(h:hplayX per life bk=(0,0)):¬ 200<bk.length∧((1≤per∧per≤1000)∧(1≤life∧life≤1000))∧∀ j,j<bk.length→hErrAt per life bk j=0:=by
  by_cases hn:200<bk.length
  · rw [hplayX_many hn] at h;simp at h
  · by_cases hl:(1≤per∧per≤1000)∧(1≤life∧life≤1000)
    · refine ⟨hn,hl,fun j hj=>Classical.byContradiction fun he=>?_⟩
      obtain ⟨m,hm,hb,hne⟩:=hfirst_bad hj he
      rw [hplayX_bad hn hl hb hm hne] at h
      exact hne (congrArg Prod.snd h)
    · rw [hplayX_arg hn hl] at h;simp at h
theorem hplayX_zero {per life:Int}{bk:List Job}(h:(hplayX per life bk).2=0):hplayX per life bk=(0,0):=by
  by_cases hn:200<bk.length
  · rw [hplayX_many hn] at h;simp at h
  · by_cases hl:(1≤per∧per≤1000)∧(1≤life∧life≤1000)
    · by_cases hJ:∀ j,j<bk.length→hErrAt per life bk j=0
      · exact hplayX_ok hn hl hJ
      · obtain ⟨j,hj,he⟩:∃ j,j<bk.length∧hErrAt per life bk j≠0:=Classical.byContradiction fun h2=>hJ fun j hj=>Classical.byContradiction fun he=>h2 ⟨j,hj,he⟩
        obtain ⟨m,hm,hb,hne⟩:=hfirst_bad hj he
        rw [hplayX_bad hn hl hb hm hne] at h
        exact (hne h).elim
    · rw [hplayX_arg hn hl] at h;simp at h
structure HKept (h t:Hse):Prop where
  per:t.per=h.per
  day:h.day≤t.day
  dl:h.designs.length≤t.designs.length
  ol:h.orders.length≤t.orders.length
  ll:h.lics.length≤t.lics.length
  fl:h.fors.length≤t.fors.length
  ml:h.made.length≤t.made.length
  design:∀ i,i<h.designs.length→el t.designs i=el h.designs i
  order:∀ i,i<h.orders.length→(el t.orders i).client=(el h.orders i).client∧(el t.orders i).design=(el h.orders i).design∧(el t.orders i).need=(el h.orders i).need∧((el h.orders i).done=true→(el t.orders i).done=true)
  lic:∀ i,i<h.lics.length→(el t.lics i).client=(el h.lics i).client∧(el t.lics i).design=(el h.lics i).design∧(el t.lics i).til=(el h.lics i).til∧(el t.lics i).left≤(el h.lics i).left
  fors:∀ i,i<h.fors.length→el t.fors i=el h.fors i
  made:∀ i,i<h.made.length→el t.made i=el h.made i
theorem hkept_self (h:Hse):HKept h h:=⟨rfl,Int.le_refl _,Nat.le_refl _,Nat.le_refl _,Nat.le_refl _,Nat.le_refl _,Nat.le_refl _,fun _ _=>rfl,fun _ _=>⟨rfl,rfl,rfl,id⟩,fun _ _=>⟨rfl,rfl,rfl,Int.le_refl _⟩,fun _ _=>rfl,fun _ _=>rfl⟩
theorem app_le {α:Type}{l l':List α}:l.length≤(l++l').length:=by rw [List.length_append];omega
theorem takeL_kept {h:Hse}{j:Job}(hn:1≤j.n):(takeL h j).length=h.lics.length∧∀ i,i<h.lics.length→(el (takeL h j) i).client=(el h.lics i).client∧(el (takeL h j) i).design=(el h.lics i).design∧(el (takeL h j) i).til=(el h.lics i).til∧(el (takeL h j) i).left≤(el h.lics i).left:=by
  unfold takeL
  split
  · exact ⟨rfl,fun _ _=>⟨rfl,rfl,rfl,Int.le_refl _⟩⟩
  · split
    · rename_i k hk
      obtain ⟨h1,_⟩:=licAt_some hk
      refine ⟨List.length_set,fun i hi=>?_⟩
      rw [el_setI h1]
      split
      · rename_i e
        rw [e]
        exact ⟨rfl,rfl,rfl,by show (el h.lics k).left-j.n≤(el h.lics k).left;omega⟩
      · exact ⟨rfl,rfl,rfl,Int.le_refl _⟩
    · exact ⟨rfl,fun _ _=>⟨rfl,rfl,rfl,Int.le_refl _⟩⟩
theorem take_n {h:Hse}{j:Job}(he:takeE h j=0):1≤j.n:=by
  unfold takeE at he
  split at he
  · omega
  · split at he
    · omega
    · rename_i h2
      exact (Classical.byContradiction h2).2.1
theorem hkept_job {h:Hse}{j:Job}(he:jobE h j=0):HKept h (jobF h j):=by
  have hs:=hkept_self h
  unfold jobE at he
  unfold jobF
  split
  · exact { hs with dl:=app_le,design:=fun i hi=>el_app_lt hi,order:=hs.order,lic:=hs.lic,fors:=hs.fors,made:=hs.made }
  · rename_i k1;rw [if_neg k1] at he
    split
    · exact { hs with ll:=app_le,lic:=fun i hi=>by rw [show el (licnF h j).lics i=el h.lics i from el_app_lt hi];exact ⟨rfl,rfl,rfl,Int.le_refl _⟩,design:=hs.design,order:=hs.order,fors:=hs.fors,made:=hs.made }
    · rename_i k2;rw [if_neg k2] at he
      split
      · rename_i k;rw [if_pos k] at he
        obtain ⟨l1,l2⟩:=takeL_kept (h:=h) (take_n he)
        exact { hs with ol:=app_le,ll:=by show h.lics.length≤(takeL h j).length;omega,lic:=l2,order:=fun i hi=>by rw [show el (takeF h j).orders i=el h.orders i from el_app_lt hi];exact ⟨rfl,rfl,rfl,id⟩,design:=hs.design,fors:=hs.fors,made:=hs.made }
      · rename_i k3;rw [if_neg k3] at he
        split
        · exact { hs with ml:=app_le,made:=fun i hi=>el_app_lt hi,design:=hs.design,order:=hs.order,lic:=hs.lic,fors:=hs.fors }
        · rename_i k4;rw [if_neg k4] at he
          split
          · refine { hs with ml:=?_,made:=fun i hi=>?_,design:=hs.design,order:=hs.order,lic:=hs.lic,fors:=hs.fors }
            · show h.made.length≤(if j.act.kind=2 then h.made++[el h.made j.act.item.toNat] else h.made).length
              split
              · exact app_le
              · exact Nat.le_refl _
            · show el (if j.act.kind=2 then h.made++[el h.made j.act.item.toNat] else h.made) i=_
              split
              · exact el_app_lt hi
              · rfl
          · rename_i k5;rw [if_neg k5] at he
            split
            · exact { hs with fl:=app_le,fors:=fun i hi=>el_app_lt hi,design:=hs.design,order:=hs.order,lic:=hs.lic,made:=hs.made }
            · rename_i k6;rw [if_neg k6] at he
              split
              · rename_i k;rw [if_pos k] at he
                have hk:j.order.toNat<h.orders.length:=by
                  unfold giveE at he
                  split at he
                  · omega
                  · rename_i h1
                    have h1:inOrders h j.order:=Classical.byContradiction h1
                    unfold inOrders at h1
                    omega
                refine { hs with ol:=by show h.orders.length≤(h.orders.set _ _).length;rw [List.length_set];exact Nat.le_refl _,order:=fun i hi=>?_,design:=hs.design,lic:=hs.lic,fors:=hs.fors,made:=hs.made }
                rw [show el (giveF h j).orders i=if i=j.order.toNat then doneO (el h.orders j.order.toNat) else el h.orders i from el_setI hk]
                split
                · rename_i e;rw [e];exact ⟨rfl,rfl,rfl,fun _=>rfl⟩
                · exact ⟨rfl,rfl,rfl,id⟩
              · rename_i k7;rw [if_neg k7] at he
                split at he
                · refine { hs with day:=?_,design:=hs.design,order:=hs.order,lic:=hs.lic,fors:=hs.fors,made:=hs.made }
                  unfold waitE at he
                  split at he
                  · show h.day≤h.day+j.n;omega
                  · omega
                · omega
def sumN (f:Nat→Int):Nat→Int
  | 0=>0
  | k+1=>sumN f k+f k
theorem sumN_same {f g:Nat→Int}:∀ {k:Nat},(∀ i,i<k→f i=g i)→sumN f k=sumN g k
  | 0,_=>rfl
  | k+1,h=>by
    simp only [sumN]
    rw [sumN_same fun i hi=>h i (by omega),h k (by omega)]
theorem report_ok {h:Hse}(hV:HValid h) {i:Nat}(hi:i<h.orders.length):0≤doneF h i 0∧0≤doneF h i 1∧0≤doneF h i 2∧doneF h i 0+doneF h i 1≤(el h.orders i).need∧((el h.orders i).done=true→doneF h i 0+doneF h i 1=(el h.orders i).need):=by
  have b:∀ st,0≤doneF h i st:=fun st=>(cntB_bnd (p:=fun j=>decide (el h.fors j=(i:Int))&&decide ((el h.store.prints j).state=st)) h.fors.length).1
  obtain ⟨_,_,_,d,f⟩:=hV.orders i hi
  refine ⟨b 0,b 1,b 2,?_,fun hd=>?_⟩
  · cases hd:(el h.orders i).done
    · have:=f hd;omega
    · have:=d hd;omega
  · have:=d hd;omega
def leftOf (c d:Int) (l:Lic):Int:=if l.client=c∧l.design=d then l.left else 0
def leftSum (ls:List Lic) (c d:Int):Int:=sumN (fun i=>leftOf c d (el ls i)) ls.length
def mayOf (c d:Int) (j:Job):Int:=if j.kind=2∧j.client=c∧j.design=d then j.n else 0
def ordOf (c d:Int) (j:Job):Int:=if j.kind=3∧j.client=c∧j.design=d then j.n else 0
def mayTo (bk:List Job) (c d:Int) (k:Nat):Int:=sumN (fun i=>mayOf c d (el bk i)) k
def ordTo (bk:List Job) (c d:Int) (k:Nat):Int:=sumN (fun i=>ordOf c d (el bk i)) k
theorem sumN_set {α:Type}[Inhabited α] {l:List α}{f:α→Int}{k:Nat}{x:α}(hk:k<l.length):∀ {n:Nat},sumN (fun i=>f (el (l.set k x) i)) n=sumN (fun i=>f (el l i)) n+(if k<n then f x-f (el l k) else 0)
  | 0=>by simp [sumN]
  | n+1=>by
    simp only [sumN]
    rw [sumN_set hk,el_setI hk]
    by_cases e:n=k
    · subst e
      rw [if_pos rfl,if_neg (Nat.lt_irrefl _),if_pos (Nat.lt_succ_self _)]
      omega
    · rw [if_neg e]
      by_cases h:k<n
      · rw [if_pos h,if_pos (Nat.lt_succ_of_lt h)];omega
      · rw [if_neg h,if_neg (by omega)];omega
theorem leftSum_snoc {ls:List Lic}{x:Lic}{c d:Int}:leftSum (ls++[x]) c d=leftSum ls c d+leftOf c d x:=by
  unfold leftSum
  rw [List.length_append,List.length_singleton]
  simp only [sumN]
  rw [el_snoc,sumN_same (g:=fun i=>leftOf c d (el ls i)) fun i hi=>by rw [el_app_lt hi]]
theorem leftSum_set {ls:List Lic}{k:Nat}{x:Lic}{c d:Int}(hk:k<ls.length):leftSum (ls.set k x) c d=leftSum ls c d+(leftOf c d x-leftOf c d (el ls k)):=by
  unfold leftSum
  rw [List.length_set,sumN_set (f:=leftOf c d) hk,if_pos hk]
theorem take_ok {h:Hse}{j:Job}(he:takeE h j=0):inDesigns h j.design∧(j.client≠ownerOf h j.design→∃ k,licOf h j=some k):=by
  unfold takeE at he
  split at he
  · omega
  · split at he
    · omega
    · split at he
      · omega
      · rename_i h1 _ h3
        refine ⟨Classical.byContradiction h1,fun hn=>?_⟩
        cases hl:licOf h j with
        | none=>exact (h3 ⟨hn,hl⟩).elim
        | some k=>exact ⟨k,rfl⟩
theorem take_left {h:Hse}{j:Job}{c d:Int}(hown:inDesigns h d→c≠ownerOf h d) (he:takeE h j=0):leftSum (takeL h j) c d=leftSum h.lics c d-(if j.client=c∧j.design=d then j.n else 0):=by
  obtain ⟨h1,h2⟩:=take_ok he
  unfold takeL
  by_cases ho:j.client=ownerOf h j.design
  · rw [if_pos ho,if_neg (fun q:j.client=c∧j.design=d=>hown (q.2▸h1) (by rw [← q.1,← q.2];exact ho))]
    omega
  · rw [if_neg ho]
    obtain ⟨k,hk⟩:=h2 ho
    rw [hk]
    obtain ⟨k1,k2⟩:=licAt_some hk
    unfold allowB at k2
    rw [Bool.and_eq_true,Bool.and_eq_true,Bool.and_eq_true,decide_eq_true_iff,decide_eq_true_iff,decide_eq_true_iff,decide_eq_true_iff] at k2
    dsimp only
    rw [leftSum_set k1]
    unfold leftOf lessLic
    dsimp only
    rw [k2.1,k2.2.1]
    by_cases hc:j.client=c∧j.design=d
    · rw [if_pos hc,if_pos hc,if_pos hc];omega
    · rw [if_neg hc,if_neg hc,if_neg hc];omega
theorem licensed_to {per life:Int}{bk:List Job}{c d:Int}:∀ {k:Nat},(∀ j,j<k→hErrAt per life bk j=0)→(inDesigns (hAt per life bk k) d→c≠ownerOf (hAt per life bk k) d)→ordTo bk c d k+leftSum (hAt per life bk k).lics c d=mayTo bk c d k
  | 0,_,_=>rfl
  | k+1,hJ,hown=>by
    have he:jobE (hAt per life bk k) (el bk k)=0:=hJ k (by omega)
    have hK:=hkept_job he
    have hown0:inDesigns (hAt per life bk k) d→c≠ownerOf (hAt per life bk k) d:=fun hin=>by
      have hin2:=hin
      unfold inDesigns at hin2
      have h1:=hown (by
        unfold inDesigns
        have:=hK.dl
        show 0≤d∧d<((jobF (hAt per life bk k) (el bk k)).designs.length:Int)
        omega)
      unfold ownerOf at h1 ⊢
      rwa [show (hAt per life bk (k+1))=jobF (hAt per life bk k) (el bk k) from rfl,hK.design _ (by omega)] at h1
    have ih:=licensed_to (per:=per) (life:=life) (bk:=bk) (c:=c) (d:=d) (k:=k) (fun j hj=>hJ j (by omega)) hown0
    have hstep:leftSum (hAt per life bk (k+1)).lics c d=leftSum (hAt per life bk k).lics c d+mayOf c d (el bk k)-ordOf c d (el bk k):=by
      show leftSum (jobF (hAt per life bk k) (el bk k)).lics c d=_
      generalize hAt per life bk k=h at *
      generalize el bk k=j at *
      unfold jobE at he
      unfold jobF mayOf ordOf
      have n2:j.kind≠2→¬ (j.kind=2∧j.client=c∧j.design=d):=fun hn q=>hn q.1
      have n3:j.kind≠3→¬ (j.kind=3∧j.client=c∧j.design=d):=fun hn q=>hn q.1
      by_cases k2:j.kind=2
      · rw [if_neg (by omega),if_pos k2,if_neg (n3 (by omega)),show (licnF h j).lics=h.lics++[⟨j.design,j.client,j.til,j.n⟩] from rfl,leftSum_snoc]
        unfold leftOf
        dsimp only
        by_cases hc:j.client=c∧j.design=d
        · rw [if_pos hc,if_pos ⟨k2,hc⟩];omega
        · rw [if_neg hc,if_neg (fun q=>hc q.2)];omega
      · by_cases k3:j.kind=3
        · rw [if_neg (by omega),if_neg k2,if_pos k3] at he
          rw [if_neg (by omega),if_neg k2,if_pos k3,if_neg (n2 k2),show (takeF h j).lics=takeL h j from rfl,take_left hown0 he]
          by_cases hc:j.client=c∧j.design=d
          · rw [if_pos hc,if_pos ⟨k3,hc⟩];omega
          · rw [if_neg hc,if_neg (fun q=>hc q.2)];omega
        · rw [if_neg (n2 k2),if_neg (n3 k3)]
          have:(if j.kind=1 then archF h j else if j.kind=2 then licnF h j else if j.kind=3 then takeF h j else if j.kind=4 then engvF h j else if j.kind=5 then workF h j else if j.kind=6 then runF h j else if j.kind=7 then giveF h j else waitF h j).lics=h.lics:=by
            rw [if_neg k2,if_neg k3]
            repeat (first|rfl|split)
          rw [this]
          omega
    have e1:ordTo bk c d (k+1)=ordTo bk c d k+ordOf c d (el bk k):=rfl
    have e2:mayTo bk c d (k+1)=mayTo bk c d k+mayOf c d (el bk k):=rfl
    omega
theorem sumN_pos {f:Nat→Int}:∀ {k:Nat},(∀ i,i<k→0≤f i)→0≤sumN f k
  | 0,_=>Int.le_refl _
  | k+1,h=>by
    have:=sumN_pos (f:=f) (k:=k) fun i hi=>h i (by omega)
    have:=h k (by omega)
    simp only [sumN]
    omega
theorem leftSum_pos {h:Hse}(hV:HValid h) (c d:Int):0≤leftSum h.lics c d:=sumN_pos fun i hi=>by
  unfold leftOf
  split
  · exact (hV.lics i hi).2.2.2.2.1
  · exact Int.le_refl _
def LiveAt (H:Heap) (i:Nat):Prop:=∃ x:Blk,H[i]?=some x∧x≠.dead
section
variable {I J:Imm}{ρ:List (Option (Nat × Nat))}{X:Ctx}{H:Heap}{w:World}{σ:List (Option Nat)}{fr:Nat→Prop}
theorem sub_genL {m nt:Nat}{env env0:Env}{H H0:Heap}(σ:List (Option Nat)) (fr:List Nat) (hlen:σ.length=H0.length) (hm:∀ k,k<m→σ[k]?=some (some k)) (hinj:∀ i j b,LiveAt H0 i→LiveAt H0 j→σ[i]?=some (some b)→σ[j]?=some (some b)→i=j) (hfr:∀ b∈fr,∀ i,LiveAt H0 i→σ[i]?≠some (some b))
    (he:EnvSub H σ (·∈fr) env env0) (hh:HSub H σ (·∈fr) 0 H0):SubOf m nt env H env0 H0:=by
  classical
  refine ⟨?_⟩
  intro X I ρ a w hX ⟨hE,hw,hd⟩
  let frz:Nat→Prop:=fun cb=>∃ b z,b∈fr∧(∃ x:Blk,H[b]?=some x∧x≠.dead)∧ρ[b]?=some (some (cb,z))
  let J:Imm:=fun cb=>if frz cb then w.heap[cb]? else I cb
  have liveF:∀ cb,frz cb→Live H ρ cb:=fun cb ⟨b,z,_,⟨x,h1,h2⟩,h3⟩=>⟨b,x,h1,h2,z,h3⟩
  have hI:I.le J:=fun b o h=>by
    show (if frz b then w.heap[b]? else I b)=some o
    rw [if_neg (fun hf=>by rw [hw.apart b (liveF b hf)] at h;cases h)]
    exact h
  have hJok:∀ b o,J b=some o→w.heap[b]?=some o:=fun b o h=>by
    have h:(if frz b then w.heap[b]? else I b)=some o:=h
    split at h
    · exact h
    · exact hw.imm b o h
  have hJ:∀ b cb z o,b∈fr→(∃ x:Blk,H[b]?=some x∧x≠.dead)→ρ[b]?=some (some (cb,z))→w.heap[cb]?=some o→J cb=some o:=fun b cb z o h1 h2 h3 h4=>by
    show (if frz cb then w.heap[cb]? else I cb)=some o
    rw [if_pos ⟨b,z,h1,h2,h3⟩]
    exact h4
  have rel:∀ {v x:V} {u:Value},VSub H σ (·∈fr) v x→VRel I ρ v u→VRel J (relocate σ ρ) x u:=fun h hu=>h.rel hw hI hJ hu
  have blk:∀ (k:Nat) b,H0[k]?=some b→BSub H σ (·∈fr) k b:=fun k b h=>by have:=hSub_get hh h;rwa [Nat.zero_add] at this
  have alive:∀ (k cb z:Nat) b,H0[k]?=some b→b≠.dead→(relocate σ ρ)[k]?=some (some (cb,z))→∃ b',σ[k]?=some (some b')∧(∃ x:Blk,H[b']?=some x∧x≠.dead)∧ρ[b']?=some (some (cb,z)):=by
    intro k cb z b hk hb hρ
    obtain ⟨b',h1,h2⟩:=relocate_some hρ
    refine ⟨b',h1,?_,h2⟩
    cases b with
    | dead=>exact (hb rfl).elim
    | arr sz n g =>
      rcases blk k _ hk with ⟨c,f,h3,h4,_⟩|⟨h3,_⟩
      · rw [h1] at h3;cases h3;exact ⟨_,h4,by simp⟩
      · rw [h1] at h3;cases h3
    | map ms =>
      obtain ⟨c,ns,h3,h4,_⟩:=blk k _ hk
      rw [h1] at h3;cases h3;exact ⟨_,h4,by simp⟩
  have live:∀ cb,Live H0 (relocate σ ρ) cb→Live H ρ cb:=fun cb ⟨k,b,h1,h2,z,h3⟩=>by
    obtain ⟨b',_,⟨x,h5,h6⟩,h7⟩:=alive k cb z b h1 h2 h3
    exact ⟨b',x,h5,h6,z,h7⟩
  refine ⟨J,relocate σ ρ,hI,⟨hE.1,fun t x hx=>?_⟩,{ len:=by simp [relocate,hlen],inj:=?_,imm:=hJok,apart:=?_,size:=?_,none:=?_,arr:=?_,map:=?_,mine:=fun b hb=>hw.mine b (live b hb),news:=?_,le:=Imm.le_trans hw.le hI,pre:=?_,os:=hw.os,tape:=hw.tape,out:=hw.out,grow:=hw.grow,keep:=hw.keep },hd.mono hI⟩
  · obtain ⟨v,h1,h2⟩:=envSub_get he hx
    obtain ⟨h3,h4⟩:=hE.2 t v h1
    exact ⟨h3,rel h2 h4⟩
  · rintro i j b ⟨x,hx,hx'⟩ ⟨y,hy,hy'⟩ z1 z2 h1 h2
    obtain ⟨i',a1,a2,a3⟩:=alive i b z1 x hx hx' h1
    obtain ⟨j',b1,b2,b3⟩:=alive j b z2 y hy hy' h2
    have:=hw.inj i' j' b a2 b2 z1 z2 a3 b3
    subst this
    exact hinj i j i' ⟨x,hx,hx'⟩ ⟨y,hy,hy'⟩ a1 b1
  · rintro cb ⟨k,b,h1,h2,z,h3⟩
    obtain ⟨b',h4,h5,h6⟩:=alive k cb z b h1 h2 h3
    have hl:Live H ρ cb:=by obtain ⟨x,h7,h8⟩:=h5;exact ⟨b',x,h7,h8,z,h6⟩
    show (if frz cb then w.heap[cb]? else I cb)=none
    rw [if_neg]
    · exact hw.apart cb hl
    · rintro ⟨c,z',h7,h8,h9⟩
      have:=hw.inj b' c cb h5 h8 z z' h6 h9
      subst this
      exact hfr b' h7 k ⟨b,h1,h2⟩ h4
  · intro k sz n g hk i hi
    rcases blk k _ hk with ⟨b,f,h1,h2,h3⟩|⟨_,rfl⟩
    · rw [(h3 i hi).len]
      exact hw.size b sz n f h2 i hi
    · omega
  · intro k sz n g hk hρ
    rcases blk k _ hk with ⟨b,f,h1,h2,h3⟩|⟨_,rfl⟩
    · cases hb:ρ[b]? with
      | none =>
        have h4:=(List.getElem?_eq_some_iff.1 h2).1
        have h5:=List.getElem?_eq_none_iff.1 hb
        rw [hw.len] at h5
        omega
      | some q =>
        rw [relocate_get h1 hb] at hρ
        cases hρ
        exact hw.none b sz n f h2 hb
    · rfl
  · intro k sz n g cb z hk hρ
    obtain ⟨b',h4,h5,h6⟩:=alive k cb z _ hk (by simp) hρ
    rcases blk k _ hk with ⟨b,f,h1,h2,h3⟩|⟨h1,_⟩
    · rw [h4] at h1
      cases h1
      obtain ⟨cs,ty,a1,a2,a3,a4⟩:=hw.arr _ _ _ _ _ _ h2 h6
      refine ⟨cs,ty,a1,a2,a3,fun i j x hi hx=>?_⟩
      have e:=h3 i hi
      have cell:∃ v,(f i).cells[j]?=some v∧VSub H σ (·∈fr) v x:=by
        revert hx
        generalize f i=q at e ⊢
        generalize g i=q' at e ⊢
        intro hx
        cases e with
        | agg h hv =>
          rename_i cs ds
          have hlt:=(List.getElem?_eq_some_iff.1 hx).1
          have hlt':j<cs.length:=by simp [V.cells] at hlt;omega
          exact ⟨cs[j],by simp [V.cells,hlt'],hv j _ x (by simp [hlt']) hx⟩
        | closed hc =>
          refine ⟨x,hx,.closed ?_⟩
          cases q<;>simp only [V.cells] at hx<;>first
            | exact closed_all (by simp only [V.closed] at hc;exact hc) hx
            | (cases j<;>simp at hx;subst hx;exact hc)
        | sl h=>cases j<;>simp [V.cells] at hx;subst hx;exact ⟨_,rfl,.sl h⟩
        | ptr h=>cases j<;>simp [V.cells] at hx;subst hx;exact ⟨_,rfl,.ptr h⟩
        | map h=>cases j<;>simp [V.cells] at hx;subst hx;exact ⟨_,rfl,.map h⟩
        | nil h=>cases j<;>simp [V.cells] at hx;subst hx;exact ⟨_,rfl,.nil h⟩
        | emp h=>cases j<;>simp [V.cells] at hx;subst hx;exact ⟨_,rfl,.emp h⟩
        | nilList=>cases j<;>simp [V.cells] at hx;subst hx;exact ⟨_,rfl,.nilList⟩
        | empList=>cases j<;>simp [V.cells] at hx;subst hx;exact ⟨_,rfl,.empList⟩
        | frz a b c d e=>cases j<;>simp [V.cells] at hx;subst hx;exact ⟨_,rfl,.frz a b c d e⟩
        | frzPtr a b c d=>cases j<;>simp [V.cells] at hx;subst hx;exact ⟨_,rfl,.frzPtr a b c d⟩
        | ext a=>cases j<;>simp [V.cells] at hx;subst hx;exact ⟨_,rfl,.ext a⟩
        | tup a b=>cases j<;>simp [V.cells] at hx;subst hx;exact ⟨_,rfl,.tup a b⟩
        | fn a b c d=>cases j<;>simp [V.cells] at hx;subst hx;exact ⟨_,rfl,.fn a b c d⟩
      obtain ⟨v,b1,b2⟩:=cell
      obtain ⟨u,c1,c2⟩:=a4 i j v hi b1
      exact ⟨u,c1,rel b2 c2⟩
    · rw [h4] at h1;cases h1
  · intro k ms hk
    obtain ⟨b,ns,h1,h2,h3,h4⟩:=blk k _ hk
    obtain ⟨cb,h5,es,clk,h6,h7,h8⟩:=hw.map _ _ h2
    refine ⟨cb,relocate_get h1 h5,es,clk,h6,⟨h7.size.trans h3,h7.born⟩,fun i e y he hy=>?_⟩
    have hlt:i<ns.length:=by have:=(List.getElem?_eq_some_iff.1 hy).1;omega
    obtain ⟨c1,c2⟩:=h8 i e ns[i] he (by simp [hlt])
    obtain ⟨d1,d2⟩:=h4 i ns[i] y (by simp [hlt]) hy
    exact ⟨c1.trans d1,rel d2 c2⟩
  · intro b hb
    have hb:(if frz b then w.heap[b]? else I b)≠none:=hb
    split at hb
    · rename_i hf
      exact .inr (hw.mine b (liveF b hf))
    · exact hw.news b hb
  · intro k x hk
    have hlt:k<m:=by rw [← hX];exact (List.getElem?_eq_some_iff.1 hk).1
    exact relocate_get (hm k hlt) (hw.pre k x hk)
end
def deadB:Blk→Bool
  | .dead=>true
  | _=>false
def deadAt (H:Heap) (i:Nat):Bool:=match H[i]? with
  | some b=>deadB b
  | none=>true
theorem deadAt_of {H:Heap}{i:Nat}(h:LiveAt H i):deadAt H i=false:=by
  obtain ⟨x,h1,h2⟩:=h
  unfold deadAt
  rw [h1]
  cases x<;>first|rfl|exact (h2 rfl).elim
def injL (σ:List (Option Nat)) (H:Heap):Bool:=(List.range σ.length).all fun i=>(List.range σ.length).all fun j=>i==j||deadAt H i||deadAt H j||match σ[i]?,σ[j]? with|some (some a),some (some b)=>a != b|_,_=>true
def apartL (fr:List Nat) (σ:List (Option Nat)) (H:Heap):Bool:=fr.all fun b=>(List.range σ.length).all fun i=>deadAt H i||match σ[i]? with|some (some a)=>a != b|_=>true
theorem injL_of {σ:List (Option Nat)}{H:Heap}(h:injL σ H=true) (i j b:Nat) (hi:LiveAt H i) (hj:LiveAt H j) (h1:σ[i]?=some (some b)) (h2:σ[j]?=some (some b)):i=j:=by
  have h3:=(List.getElem?_eq_some_iff.1 h1).1
  have h4:=(List.getElem?_eq_some_iff.1 h2).1
  have h5:=List.all_eq_true.1 h i (List.mem_range.2 h3)
  have h6:=List.all_eq_true.1 h5 j (List.mem_range.2 h4)
  rw [h1,h2,deadAt_of hi,deadAt_of hj] at h6
  simpa using h6
theorem apartL_of {fr:List Nat}{σ:List (Option Nat)}{H:Heap}(h:apartL fr σ H=true) (b:Nat) (hb:b∈fr) (i:Nat) (hi:LiveAt H i):σ[i]?≠some (some b):=fun h1=>by
  have h3:=(List.getElem?_eq_some_iff.1 h1).1
  have h5:=List.all_eq_true.1 (List.all_eq_true.1 h b hb) i (List.mem_range.2 h3)
  rw [h1,deadAt_of hi] at h5
  simp at h5
theorem sub_toL {m nt:Nat}{env env0:Env}{H H0:Heap}(σ:List (Option Nat)) (fr:List Nat) (h:(Nat.beq σ.length H0.length&&preB m σ&&injL σ H0&&apartL fr σ H0)=true) (he:EnvSub H σ (·∈fr) env env0) (hh:HSub H σ (·∈fr) 0 H0):SubOf m nt env H env0 H0:=by
  simp only [Bool.and_eq_true] at h
  exact sub_genL σ fr (Nat.eq_of_beq_eq_true h.1.1.1) (pre_of h.1.1.2) (injL_of h.1.2) (apartL_of h.2) he hh
theorem zsl {m nt:Nat}{env env0:Env}{H H0:Heap}(σ:List (Option Nat)) (fr:List Nat) (h:(Nat.beq σ.length H0.length&&preB m σ&&injL σ H0&&apartL fr σ H0)=true:=by exact rfl) (he:EnvSub H σ (·∈fr) env env0:=by ((repeat' (first|exact trivial|refine ⟨⟨_,rfl,?_⟩,?_⟩|refine vs1 ?_ ?_|refine vs2 ?_ ?_|refine vs3 ?_|refine vs4 ?_ ?_|refine ⟨.inl ⟨_,_,rfl,rfl,?_⟩,?_⟩|exact ⟨.inr ⟨rfl,rfl⟩,trivial⟩|refine ⟨.inr ⟨rfl,rfl⟩,?_⟩|(intro _ _)|exact vz1|refine ⟨trivial,?_⟩|refine ⟨bsub_mapE rfl rfl (fun _=>rfl),?_⟩|exact vza|exact vzt|exact vz2|fail));first|done|fail)) (hh:HSub H σ (·∈fr) 0 H0:=by ((repeat' (first|exact trivial|refine ⟨⟨_,rfl,?_⟩,?_⟩|refine vs1 ?_ ?_|refine vs2 ?_ ?_|refine vs3 ?_|refine vs4 ?_ ?_|refine ⟨.inl ⟨_,_,rfl,rfl,?_⟩,?_⟩|exact ⟨.inr ⟨rfl,rfl⟩,trivial⟩|refine ⟨.inr ⟨rfl,rfl⟩,?_⟩|(intro _ _)|exact vz1|refine ⟨trivial,?_⟩|refine ⟨bsub_mapE rfl rfl (fun _=>rfl),?_⟩|exact vza|exact vzt|exact vz2|fail));first|done|fail)):SubOf m nt env H env0 H0:=sub_toL σ fr h he hh
theorem joinH_is {σ:List Nat}{H H1 L G:Heap}(hl:σ.length=H1.length) (hg:G.length=H.length) (ho:∀ i,σ.idxOf? i=none→G[i]?=H[i]?) (h:∀ j k,σ[j]?=some k→G[k]?=some ((H1.getD j .dead).ren (rn σ H.length))) :
    joinH σ [] H (H1++L)=G++L.map (Blk.ren (rn σ H.length)):=by
  unfold joinH
  rw [List.drop_append_of_le_length (by omega),List.drop_eq_nil_of_le (by omega),List.nil_append]
  congr 1
  refine List.ext_getElem? fun i=>?_
  rw [joinAt_get,Nat.zero_add]
  cases hi:H[i]? with
  | none =>
    have h1:=List.getElem?_eq_none_iff.1 hi
    rw [List.getElem?_eq_none_iff.2 (by omega)]
    rfl
  | some b =>
    show some (pickB σ [] (rn σ H.length) (H1++L) i b)=G[i]?
    unfold pickB
    rw [show ([]:List Nat).contains i=false from rfl,cond_false]
    cases e:σ.idxOf? i with
    | none=>exact hi.symm.trans (ho i e).symm
    | some j =>
      have h1:=idxOf_some e
      have hj:=(List.getElem?_eq_some_iff.1 h1).1
      have h2:=h j i h1
      rw [h2]
      show some (Blk.ren (rn σ H.length) ((H1++L).getD j .dead))=_
      rw [List.getD_eq_getElem?_getD,List.getD_eq_getElem?_getD,List.getElem?_append_left (by omega)]
theorem joinH_same {σ:List Nat}{H H0:Heap}(hl:σ.length=H0.length) (h:∀ j k,σ[j]?=some k→H[k]?=some ((H0.getD j .dead).ren (rn σ H.length))):joinH σ [] H H0=H:=by
  have:=joinH_is (L:=[]) hl rfl (fun _ _=>rfl) h
  simpa using this
def SameAt (H:Heap) (r:Nat→Nat):List Nat→Heap→Prop
  | [],[]=>True
  | k::σ,b::H0=>H[k]?=some (b.ren r)∧SameAt H r σ H0
  | _,_=>False
theorem sameAt_get {H:Heap}{r:Nat→Nat}:∀ {σ:List Nat}{H0:Heap},SameAt H r σ H0→σ.length=H0.length∧∀ j k,σ[j]?=some k→H[k]?=some ((H0.getD j .dead).ren r)
  | [],[],_=>⟨rfl,fun j k h=>by simp at h⟩
  | k::σ,b::H0,⟨h1,h2⟩=>by
    obtain ⟨h3,h4⟩:=sameAt_get h2
    refine ⟨by simp [h3],fun j k' h=>?_⟩
    cases j with
    | zero=>simp at h;subst h;exact h1
    | succ j=>simp only [List.getElem?_cons_succ] at h;simpa using h4 j k' h
  | [],_::_,h=>h.elim
  | _::_,[],h=>h.elim
theorem mapE_renE {α:Type}{e:α→V}{m:List (Int × α)}{r:Nat→Nat}(he:∀ y,(e y).ren r=e y):(mapE e m).ren r=mapE e m:=by
  have h:entsE e m=(entsE e m).map fun p=>(p.1,p.2.ren r):=by
    unfold entsE
    rw [List.map_map]
    exact List.map_congr_left fun p _=>by show _=(Value.int .i64 p.1,(e p.2).ren r);rw [he]
  exact (congrArg Blk.map h).symm
section
variable {P:Program}{r:Option Nat}{m nt:Nat}{Q:Post}{env:Env}{H:Heap}{ops:Array Oper}{l:List Stp}{ty:TypeId}{pos:String}{after:Array Edge}
theorem ar_gsame (σ:List Nat) {H0:Heap}{i d:Nat}{fo:Operand}{args:List Operand}{ats:Array TypeId}{f:FuncId}{first cap vs xs:List V}{R:V→Prop}{Rp:V→Prop}(hfn:FnOk P f) (hf:eo env fo=some (.fn (.func f) first cap)) (hargs:args.mapM (eo env)=some vs)
    (h:ACalls P f xs H0 (fun v H'=>R v∧H'=H0) (fun v _=>Rp v)) (ha:ArgsSub H σ [] (first++vs++cap) xs) (hinj:σ.Nodup) (hlive:∀ b∈H0,b≠.dead) (hh:HSub H (σ.map some) (·∈([]:List Nat)) 0 H0)
    (hs:SameAt H (rn σ H.length) σ H0) (hd:d<nt) (hk:∀ v,R v→AR P r m nt ops Q l ((d,v.ren (rn σ H.length))::env) H) (hp:∀ v H1,Rp v→Q (.panic (v.ren (rn σ H.length))) [] H1) :
    AR P r m nt ops Q (.l i ⟨some d,.call ⟨.value fo,args.toArray,ats⟩,ty,pos,after,none⟩ false::l) env H:=by
  obtain ⟨hl,hs'⟩:=sameAt_get hs
  refine ar_gcall (H0:=H0) σ [] hfn hf hargs ha hl hinj (fun _ h=>by cases h) hh hlive h hd ?_ ?_
  · rintro v H1 ⟨hR,rfl⟩
    rw [joinH_same hl hs']
    exact hk v hR
  · rintro v H1 hR
    exact hp v _ hR
end
def KpW (B:Nat) (W W':World):Prop:=∀ r es clk,B≤r→W.heap[r]?=some (.map es clk)→W'.heap[r]?=some (.map es clk)
def RowMap (B:Nat) (W:World) (row:Option Nat):Prop:=∀ r,row=some r→B≤r∧∃ es clk,W.heap[r]?=some (.map es clk)
structure IterX (P:Program) (gf:FuncId) (vs:List V) (N:Nat) (el:Nat→List Value):Prop where
  out:∀ (I:Imm) us (l:Nat) (J:Nat→World→Prop) (K:World→Prop) (W:World),(∀ b o,I b=some o→W.heap[b]?=some o)→VRels I [] vs us →
    (∀ k W1 W2 row,J k W1→W1.grownBy W2 row→RowMap W.heap.size W1 row→J k W2) →
    (∀ k W1,J k W1→k<N→YieldAt Fence.wide 0 P l (el k).toArray W1 fun e W'=>((e=.returned (.bool true)∧J (k+1) W')∨(e=.returned (.bool false)∧K W'))∧KpI I W1 W'∧KpW W.heap.size W1 W')→J 0 W →
    CallsIn Fence.wide 1 P gf (#[.func (.yield l) #[] #[]]++us) W fun e W'=>(∃ v,e=.returned v)∧(J N W'∨K W')
def NoMaps (G:Heap):Prop:=∀ (b:Nat) ms,G[b]?≠some (.map ms)
def RangeXQ (m nt:Nat) (G':Heap) (E:AE→Heap→Prop):Post
  | .normal,env,H=>SubOf m nt env H [] G'
  | .ret,env,H=>∃ GX,NoMaps GX∧SubOf m nt env H [] GX∧E .ret GX
  | .exit id,env,H=>∃ GX,NoMaps GX∧SubOf m nt env H [] GX∧E (.exit id) GX
  | _,_,_=>False
theorem aw_rangeX {P:Program}{m nt:Nat}{Q:Post}{env:Env}{H:Heap}{g:Operand}{ps:Array Tmp}{assign body:Code}{gf:FuncId}{vs:List V}{N:Nat}{el:Nat→List Value}(G:Nat→Heap) (E1:Nat→Env)
    (hg:eo env g=some (.fn (.func gf) [] vs)) (hvs:V.closed.all vs=true) (hfn:FnOk P gf) (hit:IterX P gf vs N el) (hps:∀ k,k<N→(el k).length=ps.size) (hpn:∀ p∈ps.toList,p<nt)
    (hmv:∀ k,k<N→movesC nt assign (setsE (ps.toList.zip (el k)) env)=some (E1 k)) (hmaps:∀ k,NoMaps (G k)) (h0:SubOf H.length nt env H [] (G 0))
    (round:∀ k lp,k<N→AW P (some lp) H.length nt body (RangeXQ H.length nt (G (k+1)) (fun e GX=>Q e env GX)) (E1 k) (G k)) (hdone:Q .normal env (G N)):AW P none m nt (.rangeFunc g ps assign body) Q env H:=by
  classical
  refine ⟨fun X I ρ a w hX hst=>?_⟩
  obtain ⟨hE,hw,hD⟩:=hst
  refine (wpIn_wide (n:=0)).2 ((wpIn_wide (n:=2)).1 (wpIn_rangeFunc (F:=Fence.wide) ?_))
  intro fn hfn'
  have hIlt:∀ b o,I b=some o→b<w.heap.size:=fun b o hb=>(Array.getElem?_eq_some_iff.1 (hw.imm b o hb)).1
  have hgv:=eo_rel hE hg
  obtain ⟨lb,hev,hrel⟩:∃ lb,a.eval g=.func (.func gf) #[] lb∧VRels I [] vs lb:=by
    cases e:a.eval g<;>rw [e] at hgv<;>cases hgv
    rename_i us ws h1 h2 h3 h4
    have:us=#[]:=by cases us;simp at h1;simp [h1]
    subst this
    exact ⟨ws,rfl,h3,fun j v u hj hu=>(h4 j v u hj hu).close (closed_all hvs hj)⟩
  obtain ⟨rec,hrec⟩:∃ rec:LoopState→Option Code→Loop,rec=fun st pe=>{ state:=st,pending:=pe,fn,tmps:=a.tmps,params:=ps,assign,body,defers:=w.heap.size }:=⟨_,rfl⟩
  obtain ⟨W1,hW1⟩:∃ W1,(w.alloc (.deferred (some []))).alloc (.loop (rec .ready none))=W1:=⟨_,rfl⟩
  have hL1:W1.heap[w.heap.size+1]?=some (.loop (rec .ready none)):=by
    rw [← hW1];have:=World.alloc_heap_new (w.alloc (.deferred (some []))) (.loop (rec .ready none));rwa [World.size_alloc] at this
  have hK1:W1.heap[w.heap.size]?=some (.deferred (some [])):=by
    rw [← hW1];exact (Below.heap_alloc _ _ _ (by simp)).trans (World.alloc_heap_new w _)
  let InvH:Heap→World→Prop:=fun GX W=>∃ I' ρ',WOk (Ctx.self w ρ H I) I' ρ' GX W∧∀ b o,I' b=some o→I b=some o∨o.isCells=true
  let Inv:Nat→World→Prop:=fun k W=>InvH (G k) W
  have invGrowH:∀ GX W W' row,NoMaps GX→InvH GX W→W.grownBy W' row→(∀ r,row=some r→w.heap.size≤r∧∃ o:Obj,W.heap[r]?=some o∧o.isCells=false)→InvH GX W':=by
    rintro GX W W' row hno ⟨I',ρ',h1,h2⟩ hg hr
    refine ⟨I',ρ',h1.grown hg (fun r e=>?_) hno,h2⟩
    obtain ⟨h3,o,h4,h5⟩:=hr r e
    refine ⟨h3,?_,o,h4,h5⟩
    cases e':I' r with
    | none=>rfl
    | some o' =>
      have h6:=h1.imm r o' e'
      rw [h4] at h6;cases h6
      rcases h2 r _ e' with h7|h7
      · have:=hIlt r _ h7;omega
      · rw [h5] at h7;cases h7
  have invGrow:∀ k W W' row,Inv k W→W.grownBy W' row→(∀ r,row=some r→w.heap.size≤r∧∃ o:Obj,W.heap[r]?=some o∧o.isCells=false)→Inv k W':=fun k W W' row=>invGrowH (G k) W W' row (hmaps k)
  have cutInvH:∀ GX W I' ρ',WOk (Ctx.self w ρ H I) I' ρ' GX W→InvH GX W:=fun GX W I' ρ' h1=>by
    let I4:Imm:=fun b=>if I b=none∧(∀ o,I' b=some o→o.isCells=false) then none else I' b
    refine ⟨I4,ρ',h1.cut (fun b o hb=>?_) (fun b o hb=>?_) (fun b cs ty fz hb=>?_),fun b o hb=>?_⟩
    · have hb:(if I b=none∧(∀ o,I' b=some o→o.isCells=false) then none else I' b)=some o:=hb
      split at hb
      · cases hb
      · exact hb
    · show (if I b=none∧(∀ o,I' b=some o→o.isCells=false) then none else I' b)=some o
      have hb':I b=some o:=hb
      rw [if_neg (fun h=>by rw [hb'] at h;cases h.1)]
      exact h1.le b o hb
    · show (if I b=none∧(∀ o,I' b=some o→o.isCells=false) then none else I' b)=_
      rw [if_neg (fun h=>by have:=h.2 _ hb;cases this)]
      exact hb
    · have hb:(if I b=none∧(∀ o,I' b=some o→o.isCells=false) then none else I' b)=some o:=hb
      split at hb
      · cases hb
      · rename_i hno
        cases hI:I b with
        | none =>
          right
          cases ho:o.isCells with
          | true=>rfl
          | false=>exact (hno ⟨hI,fun o' ho'=>by rw [hb] at ho';cases ho';exact ho⟩).elim
        | some o2 =>
          have:=h1.le b o2 hI
          rw [hb] at this;cases this
          exact .inl rfl
  have cutInv:∀ k W I' ρ',WOk (Ctx.self w ρ H I) I' ρ' (G k) W→Inv k W:=fun k=>cutInvH (G k)
  have hInv0:Inv 0 W1:=by
    have hself:St (Ctx.self w ρ H I) nt env H I ρ { a with defers:=[] } w:=⟨hE,hw.self,DOk.nil rfl⟩
    obtain ⟨I1,ρ1,hle,h2⟩:=h0.1 (Ctx.self w ρ H I) I ρ _ w hw.len hself
    have h3:=cutInv 0 w I1 ρ1 h2.2.1
    rw [← hW1]
    refine invGrow 0 _ _ none (invGrow 0 _ _ none h3 (World.grownBy_alloc _ _ none) (fun r e=>by cases e)) (World.grownBy_alloc _ _ none) (fun r e=>by cases e)
  let Left:World→Prop:=fun W=>∃ (e:AE) (c:Code) (GX:Heap),((e=.ret∧c=.ret)∨(∃ id,e=.exit id∧c=.exit id))∧NoMaps GX∧InvH GX W∧Q e env GX∧W.heap[w.heap.size+1]?=some (.loop { rec .ready (some c) with state:=.done })∧W.heap[w.heap.size]?=some (.deferred (some []))
  have hB:W1.heap.size=w.heap.size+2:=by rw [← hW1];simp
  refine ⟨w.heap.size+1,[{ target:=.collected w.heap.size,args:=#[] }],W1,{ target:=.fn (.func gf) lb,args:=#[.func (.yield (w.heap.size+1)) #[] #[]] },W1,gf,
    #[.func (.yield (w.heap.size+1)) #[] #[]]++lb,W1,?_,?_,?_,?_,fun _=>by omega,?_⟩
  · rw [← hW1,hrec];exact run_enterLoop_outer _ _ _ _ _
  · simp only [resolve,hev]
    simp [go_sem]
  · intro f' hf';simp [Target.leads] at hf';subst hf';exact trivial
  · have:=hfn
    simp only [FnOk] at this
    simp [invoke,go_sem,this]
  · refine (hit.out I lb (w.heap.size+1) (fun k W=>Inv k W∧W.heap[w.heap.size+1]?=some (.loop (rec .ready none))∧W.heap[w.heap.size]?=some (.deferred (some []))) Left W1 ?_ hrel ?_ ?_ ⟨hInv0,hL1,hK1⟩).mono ?_
    · intro b o hb
      have hlt:=hIlt b o hb
      rw [← hW1]
      exact (Below.heap_alloc _ _ _ (by simp;omega)).trans ((Below.heap_alloc _ _ _ hlt).trans (hw.imm b o hb))
    · rintro k W W' row ⟨h1,h2,h3⟩ hg hr
      refine ⟨invGrow k W W' row h1 hg (fun r e=>by obtain ⟨a,es,clk,b⟩:=hr r e;exact ⟨by omega,_,b,rfl⟩),?_,?_⟩
      · exact (hg.block _ (Array.getElem?_eq_some_iff.1 h2).1 (fun e=>by obtain ⟨a,es,clk,b⟩:=hr _ e.symm;omega)).trans h2
      · exact (hg.block _ (Array.getElem?_eq_some_iff.1 h3).1 (fun e=>by obtain ⟨a,es,clk,b⟩:=hr _ e.symm;omega)).trans h3
    · -- one round
      rintro k W ⟨hi,hl,hk⟩ hlen
      have hlt:w.heap.size+1<W.heap.size:=(Array.getElem?_eq_some_iff.1 hl).1
      have hy:=run_yield (P:=P) (args:=(el k).toArray) hl (by rw [hrec];simpa using hps k hlen)
      rw [hrec] at hy
      refine ⟨fn,_,assign,body,hy,roundIn_of_wpIn hfn' ?_⟩
      have hE1:EnvOk I ρ nt (setsE (ps.toList.zip (el k)) env) { tmps:=(ps.toList.zip (el k)).foldl (fun t pv=>t.setIfInBounds pv.1 pv.2) a.tmps,defers:=[] } :=
        env_sets _ _ _ hE fun p hp=>hpn p.1 (List.of_mem_zip hp).1
      have etmps:(ps.zip (el k).toArray).foldl (fun t (p,v)=>t.setIfInBounds p v) a.tmps=(ps.toList.zip (el k)).foldl (fun t pv=>t.setIfInBounds pv.1 pv.2) a.tmps:=by
        rw [← Array.foldl_toList,Array.toList_zip]
      refine wp_moves (r:=some (w.heap.size+1)) (I:=I) (ρ:=ρ) (hmv k hlen) (by rw [← etmps] at hE1;exact hE1) fun a' ha' hd'=>?_
      refine ⟨_,run_beginRound hl (by rw [hrec]),?_⟩
      obtain ⟨W2,hW2⟩:∃ W2,W.putObj (w.heap.size+1) (.loop { rec .ready none with state:=.busy })=W2:=⟨_,rfl⟩
      rw [hW2]
      have hl2:W2.heap[w.heap.size+1]?=some (.loop { rec .ready none with state:=.busy }):=by rw [← hW2];exact World.putObj_heap_same hlt
      have hk2:W2.heap[w.heap.size]?=some (.deferred (some [])):=by rw [← hW2];exact (World.putObj_heap_other (by omega)).trans hk
      obtain ⟨I',ρ',hwk,hcells⟩:Inv k W2:=by
        rw [← hW2]
        exact invGrow k W _ (some (w.heap.size+1)) hi (grownBy_putObj' W _ _) (fun r e=>by cases e;exact ⟨by omega,_,hl,rfl⟩)
      let I2:Imm:=fun b=>if I' b=none∧w.heap.size≤b∧(∃ o,W2.heap[b]?=some o∧o.isCells=false) then W2.heap[b]? else I' b
      have hle2:I'.le I2:=fun b o hb=>by
        show (if I' b=none∧w.heap.size≤b∧(∃ o,W2.heap[b]?=some o∧o.isCells=false) then W2.heap[b]? else I' b)=some o
        rw [if_neg (fun h=>by rw [hb] at h;cases h.1)]
        exact hb
      have notLive:∀ b o,W2.heap[b]?=some o→o.isCells=false→¬ Live (G k) ρ' b:=by
        rintro b o hb ho ⟨j,blk,h1,h2,z,h3⟩
        cases blk with
        | dead=>exact h2 rfl
        | map ms=>exact hmaps k j ms h1
        | arr sz n f =>
          obtain ⟨cs,ty,h4,_⟩:=hwk.arr _ _ _ _ _ _ h1 h3
          rw [hb] at h4;cases h4;cases ho
      have hwk2:WOk (Ctx.self w ρ H I) I2 ρ' (G k) W2:=hwk.more hle2 (fun b o hb=>by
          have hb:(if I' b=none∧w.heap.size≤b∧(∃ o,W2.heap[b]?=some o∧o.isCells=false) then W2.heap[b]? else I' b)=some o:=hb
          split at hb
          · exact hb
          · exact hwk.imm b o hb) (fun b hb=>by
          have hb:(if I' b=none∧w.heap.size≤b∧(∃ o,W2.heap[b]?=some o∧o.isCells=false) then W2.heap[b]? else I' b)≠none:=hb
          split at hb
          · rename_i h
            obtain ⟨_,h1,o,h2,h3⟩:=h
            exact .inr ⟨h1,notLive b o h2 h3⟩
          · exact .inl hb)
      have inI2:∀ b o,w.heap.size≤b→W2.heap[b]?=some o→o.isCells=false→I2 b=some o:=fun b o h1 h2 h3=>by
        show (if I' b=none∧w.heap.size≤b∧(∃ o,W2.heap[b]?=some o∧o.isCells=false) then W2.heap[b]? else I' b)=some o
        split
        · exact h2
        · rename_i hno
          cases e:I' b with
          | none=>exact (hno ⟨e,h1,o,h2,h3⟩).elim
          | some o'=>have:=hwk.imm b o' e;rw [h2] at this;cases this;rfl
      have hbody:=(round k (w.heap.size+1) hlen).1 ⟨w,ρ,H,I2,[]⟩ I2 ρ' a' W2 hw.len ⟨(ha'.mono hwk.le hwk.pre).mono hle2 (Pre.refl _),hwk2.ctx,DOk.nil hd'⟩
      have fin:∀ (GX:Heap) (env3:Env) (H3:Heap) (I3:Imm) (ρ3:List (Option (Nat × Nat))) (a3:Act) (W3:World) (jump:Option Code),NoMaps GX→St ⟨w,ρ,H,I2,[]⟩ nt env3 H3 I3 ρ3 a3 W3→SubOf H.length nt env3 H3 [] GX →
          ∃ W4,(Instr.endRound (w.heap.size+1) jump).run P W3=.ok (.bool jump.isNone) W4∧InvH GX W4∧W4.heap[w.heap.size+1]?=some (.loop { rec .ready jump with state:=if jump.isNone then .ready else .done })∧W4.heap[w.heap.size]?=some (.deferred (some []))∧KpI I W W4∧KpW W1.heap.size W W4:=by
        intro GX env3 H3 I3 ρ3 a3 W3 jump hno hst3 hsub
        obtain ⟨I4,ρ4,_,hst4⟩:=hsub.1 ⟨w,ρ,H,I2,[]⟩ I3 ρ3 a3 W3 hw.len hst3
        have hw4:=hst4.2.1
        have hl3:W3.heap[w.heap.size+1]?=some (.loop { rec .ready none with state:=.busy }):=hw4.imm _ _ (hw4.le _ _ (inI2 _ _ (by omega) hl2 rfl))
        have hk3:W3.heap[w.heap.size]?=some (.deferred (some [])):=hw4.imm _ _ (hw4.le _ _ (inI2 _ _ (Nat.le_refl _) hk2 rfl))
        have hw5:WOk (Ctx.self w ρ H I) I4 ρ4 GX W3:=WOk.unctx (X:=Ctx.self w ρ H I) (K:=I2) hw4 (Imm.le_trans hwk.le hle2) fun b hb=>hwk2.news b hb
        have hinv:=cutInvH GX W3 I4 ρ4 hw5
        have hend:=run_endRound (P:=P) jump hl3
        rw [hrec] at hend
        have hlt3:=(Array.getElem?_eq_some_iff.1 hl3).1
        refine ⟨_,hend,?_,?_,?_,?_,?_⟩
        · exact invGrowH GX W3 _ (some (w.heap.size+1)) hno hinv (grownBy_putObj' W3 _ _) (fun r e=>by cases e;exact ⟨by omega,_,hl3,rfl⟩)
        · rw [hrec];exact World.putObj_heap_same hlt3
        · exact (World.putObj_heap_other (by omega)).trans hk3
        · intro b o hb hWb
          have hlt:=hIlt b o hb
          refine (World.putObj_heap_other (by omega)).trans (hw5.imm b o (hw5.le b o hb))
        · intro r es clk hr hWr
          have hW2r:W2.heap[r]?=some (.map es clk):=by rw [← hW2];exact (World.putObj_heap_other (by omega)).trans hWr
          exact (World.putObj_heap_other (by omega)).trans (hw4.imm _ _ (hw4.le _ _ (inI2 _ _ (by omega) hW2r rfl)))
      refine wpIn_mono hbody fun e a3 W3 hq=>?_
      cases e with
      | normal =>
        obtain ⟨env3,H3,I3,ρ3,hst3,hsub⟩:=hq
        obtain ⟨W4,h1,h2,h3,h4,h5,h6⟩:=fin (G (k+1)) env3 H3 I3 ρ3 a3 W3 none (hmaps _) hst3 hsub
        exact ⟨_,W4,h1,.inl ⟨rfl,h2,by rw [h3,hrec];rfl,h4⟩,h5,h6⟩
      | exit id =>
        obtain ⟨env3,H3,I3,ρ3,hst3,GX,hno,hsub,hE⟩:=hq
        obtain ⟨W4,h1,h2,h3,h4,h5,h6⟩:=fin GX env3 H3 I3 ρ3 a3 W3 (some (.exit id)) hno hst3 hsub
        exact ⟨_,W4,h1,.inr ⟨rfl,.exit id,.exit id,GX,.inr ⟨id,rfl,rfl⟩,hno,h2,hE,h3,h4⟩,h5,h6⟩
      | goto t=>obtain ⟨_,_,_,_,_,h⟩:=hq;exact h.elim
      | ret =>
        obtain ⟨env3,H3,I3,ρ3,hst3,GX,hno,hsub,hE⟩:=hq
        obtain ⟨W4,h1,h2,h3,h4,h5,h6⟩:=fin GX env3 H3 I3 ρ3 a3 W3 (some .ret) hno hst3 hsub
        exact ⟨_,W4,h1,.inr ⟨rfl,.ret,.ret,GX,.inl ⟨rfl,rfl⟩,hno,h2,hE,h3,h4⟩,h5,h6⟩
      | panic c=>obtain ⟨_,_,_,_,_,_,_,_,_,h⟩:=hq;exact h.elim
      | outgrown=>exact hq.elim
    · -- behind the iterator
      have fin:∀ (GX:Heap) (W2:World) (L:Loop),NoMaps GX→InvH GX W2→W2.heap[w.heap.size+1]?=some (.loop L)→L.state≠.busy→W2.heap[w.heap.size]?=some (.deferred (some [])) →
          ∃ W3,(Instr.endLoop (w.heap.size+1)).run P W2=.ok L.pending W3∧∃ I2 ρ',St X nt env GX I2 ρ' { a with defers:=[{ target:=.collected w.heap.size,args:=#[] }]++a.defers } W3:=by
        intro GX W2 L hno hi hl hL hk
        have hend:=run_endLoop (P:=P) hl hL
        obtain ⟨o4,ho4⟩:∃ o4,Obj.loop { L with state:=.exhausted }=o4:=⟨_,rfl⟩
        rw [ho4] at hend
        refine ⟨_,hend,?_⟩
        obtain ⟨I',ρ',h1,h2⟩:=invGrowH GX W2 _ (some (w.heap.size+1)) hno hi (grownBy_putObj' W2 _ o4) (fun r e=>by cases e;exact ⟨by omega,_,hl,rfl⟩)
        have hkk:(W2.putObj (w.heap.size+1) o4).heap[w.heap.size]?=some (.deferred (some [])):=(World.putObj_heap_other (by omega)).trans hk
        let I2:Imm:=fun b=>if b=w.heap.size then some (.deferred (some [])) else I' b
        have hIn:I' w.heap.size=none:=by
          cases e:I' w.heap.size with
          | none=>rfl
          | some o =>
            have h3:=h1.imm _ o e
            rw [hkk] at h3;cases h3
            rcases h2 _ _ e with h4|h4
            · have:=hIlt _ _ h4;omega
            · cases h4
        have hle2:I'.le I2:=fun b o hb=>by
          show (if b=w.heap.size then some (.deferred (some [])) else I' b)=some o
          rw [if_neg (fun e=>by subst e;rw [hIn] at hb;cases hb)]
          exact hb
        have h3:=h1.more hle2 (fun b o hb=>by
          have hb':(if b=w.heap.size then some (.deferred (some [])) else I' b)=some o:=hb
          clear hb
          split at hb'
          · rename_i e;rw [e,← hb'];exact hkk
          · exact h1.imm b o hb') (fun b hb=>by
          have hb:(if b=w.heap.size then some (Obj.deferred (some [])) else I' b)≠none:=hb
          split at hb
          · rename_i e
            subst e
            refine .inr ⟨Nat.le_refl _,?_⟩
            rintro ⟨j,blk,g1,g2,z,g3⟩
            cases blk with
            | dead=>exact g2 rfl
            | map ms=>exact hno j ms g1
            | arr sz n f =>
              obtain ⟨cs,ty,g4,_⟩:=h1.arr _ _ _ _ _ _ g1 g3
              rw [hkk] at g4;cases g4
          · exact .inl hb)
        obtain ⟨Ds,d1,d2,d3⟩:=hD
        refine ⟨I2,ρ',hE.mono (Imm.le_trans h1.le hle2) h1.pre,hw.trans h3,w.heap.size::Ds,?_,?_,?_⟩
        · rw [List.nodup_cons]
          exact ⟨fun hd=>by have:=hIlt _ _ (d3 _ hd).2;omega,d1⟩
        · show [_]++a.defers=_
          rw [d2];rfl
        · intro D hD
          rcases List.mem_cons.1 hD with e|e
          · subst e
            refine ⟨hw.grow,?_⟩
            show (if w.heap.size=w.heap.size then some (Obj.deferred (some [])) else _)=_
            rw [if_pos rfl]
          · exact ⟨(d3 D e).1,hle2 _ _ (h1.le _ _ (d3 D e).2)⟩
      rintro e W2 ⟨⟨v,rfl⟩,(⟨hi,hl,hk⟩|⟨e,c,GX,hec,hno,hi,hQ,hl,hk⟩)⟩
      · obtain ⟨W3,h1,I2,ρ',h2⟩:=fin (G N) W2 _ (hmaps N) hi hl (by rw [hrec];simp) hk
        refine ⟨none,W3,by rw [h1,hrec],?_⟩
        exact ⟨env,G N,I2,ρ',h2,hdone⟩
      · obtain ⟨W3,h1,I2,ρ',h2⟩:=fin GX W2 _ hno hi hl (by simp) hk
        refine ⟨some c,W3,by rw [h1,hrec],?_⟩
        rcases hec with ⟨rfl,rfl⟩|⟨id,rfl,rfl⟩
        · exact wpIn_ret ⟨env,GX,I2,ρ',h2,hQ⟩
        · exact wpIn_exit ⟨env,GX,I2,ρ',h2,hQ⟩
end Go.Proofs.YtbilpbabdgfblaaGreat
