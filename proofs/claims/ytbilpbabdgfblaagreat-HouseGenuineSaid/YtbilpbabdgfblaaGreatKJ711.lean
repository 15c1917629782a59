/- Parts of the proof: a layer of values over the model, and contracts of functions. No condition. -/
import Derived.Test.YtbilpbabdgfblaaGreatKJ710
set_option maxHeartbeats 16000000
set_option linter.unusedSimpArgs false
set_option linter.unusedVariables false
namespace Go.Proofs.YtbilpbabdgfblaaGreat
open Go.RowKit
theorem from1_p (lo hi x:Int):PCalls Tryz.prog 59 [vi lo,vi hi,encInts [x]] (·=vb (withinB x lo hi)):=(from_p lo hi [x]).mono fun v hv=>by rw [hv];simp [fromB]
theorem proofErr_check {s:Sheet}{b:List (List Int)}{g:Int}(h:checkErr s b≠0):proofErr s b g=checkErr s b:=by simp [proofErr,h]
theorem proofErr_arg {s:Sheet}{b:List (List Int)}{g:Int}(h:checkErr s b=0) (h2:withinB g 0 20=false):proofErr s b g=2:=by simp [proofErr,h,h2]
theorem proofErr_ok {s:Sheet}{b:List (List Int)}{g:Int}(h:checkErr s b=0) (h2:withinB g 0 20=true):proofErr s b g=0:=by simp [proofErr,h,h2]
theorem proofF_bad {s:Sheet}{b:List (List Int)}{g:Int}{m:Bool}(h:proofErr s b g≠0):proofF s b g m=[]:=by simp [proofF,h]
theorem proofF_ok {s:Sheet}{b:List (List Int)}{g:Int}{m:Bool}(h:proofErr s b g=0):proofF s b g m=proofTo s b g m (s.rows.toNat*s.cols.toNat):=by simp [proofF,h]
theorem pCol_int {s:Sheet}{m:Bool}{c:Nat}(h:c<s.cols.toNat):(pCol s m c:Int)=if m=true then s.cols-1-c else (c:Int):=by unfold pCol;split<;>omega
theorem lProof_p (s:Sheet) (b:List (List Int)) (g:Int) (m:Bool):PCalls Tryz.prog 30 [s.enc,encRows b,vi g,vb m] (·=.tup [encBools (proofF s b g m),vi (proofErr s b g)]):=by
  by_cases hce:checkErr s b=0
  · cases hok:withinB g 0 20
    · have he:=proofErr_arg hce hok
      rw [proofF_bad (by omega),he]
      refine pcalls_of_aw Tryz.func30 rfl (dc rfl) ?_
      (repeat' (first|(refine ar_isq ?_;refine zq ?_)|(refine zpv fn58 (check_p s b) ?_)|(refine ar_pcall (own:=true) fn59 rfl rfl (.cons (.closed rfl) (.cons (.closed rfl) (.cons (.lent rfl rfl (by omega) (fun _ _=>rfl) (fun k hk=>match k,hk with|0,_=>rfl)) .nil))) (from1_p 0 20 g) (by intros;subst_vars;rfl) (dc rfl) ?_;intro _ hv;subst hv)|refine zst ?_|refine zco ?_ ?_|exact zd|(intro hg;(try replace hg:=HG.out hg);(try dsimp only at hg);(try (have _h:True:=hg;clear _h hg)))))
      all_goals first
        | (exfalso;simp_all;done)
        | ((refine aw_mono_r (env':=[(8,encBools []),(9,vi 2)]) (H':=[]) ?_ ?_;(focus (exact zsb [] [])));(refine aw_ret ?_;(repeat (first|refine ret_then ?_|refine ret_block ?_));refine bq2 rfl rfl ⟨?_,rfl⟩);rfl)
    · have he:=proofErr_ok hce hok
      rw [proofF_ok he,he]
      obtain ⟨hs,h12,hl⟩:=band_of_check hce
      have hbd:=Sheet.bounds hs
      have hgb:=withinB_iff.1 hok
      have hN:s.rows.toNat*s.cols.toNat≤60*40:=Nat.mul_le_mul (by omega) (by omega)
      have hmk:s.cols*s.rows=((s.rows.toNat*s.cols.toNat:Nat):Int):=by
        rw [Int.natCast_mul,Int.toNat_of_nonneg (by omega),Int.toNat_of_nonneg (by omega),Int.mul_comm]
      have hq:∀ (r c:Nat),r<s.rows.toNat→c<s.cols.toNat→r*s.cols.toNat+c<s.rows.toNat*s.cols.toNat:=fun r c hr hc=>by
        have h1:(r+1)*s.cols.toNat≤s.rows.toNat*s.cols.toNat:=Nat.mul_le_mul_right _ hr
        rw [Nat.add_mul,Nat.one_mul] at h1
        omega
      have hmu:∀ r:Nat,(r:Int)*s.cols=((r*s.cols.toNat:Nat):Int):=fun r=>by rw [Int.natCast_mul,Int.toNat_of_nonneg (by omega)]
      have hdiv:∀ j,j<s.rows.toNat*s.cols.toNat→((j/s.cols.toNat:Nat):Int)<s.rows:=fun j hj=>by
        have:=(Nat.div_lt_iff_lt_mul (show 0<s.cols.toNat by omega)).2 hj
        omega
      refine pcalls_of_aw Tryz.func30 rfl (dc rfl) ?_
      (repeat' (first|(refine ar_isq ?_;refine zq ?_)|(refine zpv fn58 (check_p s b) ?_)|(refine ar_pcall (own:=true) fn59 rfl rfl (.cons (.closed rfl) (.cons (.closed rfl) (.cons (.lent rfl rfl (by omega) (fun _ _=>rfl) (fun k hk=>match k,hk with|0,_=>rfl)) .nil))) (from1_p 0 20 g) (by intros;subst_vars;rfl) (dc rfl) ?_;intro _ hv;subst hv)|(refine ar_make_v (n:=s.rows.toNat*s.cols.toNat) (ty rfl) rfl (ty rfl) rfl rfl (by omega) (by omega) (dc rfl) rfl rfl (by dsimp only;omega) (maxLen_ok (by omega)) ?_)|refine zst ?_|refine zco ?_ ?_|exact zd|(intro hg;(try replace hg:=HG.out hg);(try dsimp only at hg);(try (have _h:True:=hg;clear _h hg)))))
      all_goals (try (exfalso;simp_all;done))
      refine aw_for b.length (fun _=>True) (fun i=>[(1,encRows b),(2,vi g),(3,vb m),(4,.ptr 5 0 0 0),(11,.sl 1 1 0 (s.rows.toNat*s.cols.toNat)),(33,encRows b),(34,vi b.length),(35,vi i)]) (fun i=>[.arr 5 1 (fun _=>s.enc),.arr 1 (s.rows.toNat*s.cols.toNat) (fun j=>vb (stLine s b g m i j))]) trivial ?_ ?_
      · (exact zsb [some 0,some 2] [])
      intro i hi _
      by_cases hlti:i<b.length
      · have hli:=of_all_el hl hlti
        have hln:=isLine_len hli
        (repeat' (first|(refine ar_isq ?_;refine zq ?_)|refine zst ?_|refine zco ?_ ?_|exact zd|(intro hg;(try replace hg:=HG.out hg);(try dsimp only at hg);(try (have _h:True:=hg;clear _h hg)))))
        all_goals (try (exfalso;omega))
        refine aw_for (el b i).length (fun _=>True) (fun c=>[(1,encRows b),(2,vi g),(3,vb m),(4,.ptr 5 0 0 0),(11,.sl 1 1 0 (s.rows.toNat*s.cols.toNat)),(33,encRows b),(34,vi b.length),(35,vi i),(39,encInts (el b i)),(40,vi (el b i).length),(41,vi c)]) (fun c=>[.arr 5 1 (fun _=>s.enc),.arr 1 (s.rows.toNat*s.cols.toNat) (fun j=>vb (stCol s b g m i c j))]) trivial ?_ ?_
        · (refine sub_to [some 0,some 1] [] rfl ?_ ?_<;>(repeat' (first|exact trivial|refine ⟨⟨_,rfl,?_⟩,?_⟩|refine vs1 ?_ ?_|refine vs2 ?_ ?_|refine vs3 ?_|refine vs4 ?_ ?_|refine ⟨.inl ⟨_,_,rfl,rfl,?_⟩,?_⟩|exact ⟨.inr ⟨rfl,rfl⟩,trivial⟩|refine ⟨.inr ⟨rfl,rfl⟩,?_⟩|(intro _ _)|exact vz1|(exact VSub.of_eq (congrArg vb (stCol_zero _ _ _ _ _ _).symm) rfl)|exact vz2)))
        intro c hc _
        by_cases hltc:c<(el b i).length
        · have hlc:=isLine_at hli hltc
          have hcc:c<s.cols.toNat:=by omega
          have hpcT:m=true→(pCol s m c:Int)=s.cols-1-c:=fun h=>by rw [pCol_int hcc,if_pos h]
          have hpcF:m=false→(pCol s m c:Int)=c:=fun h=>by rw [pCol_int hcc,if_neg (by simp [h])]
          have hpl:=pCol_lt (m:=m) hcc
          obtain ⟨R0,hR0⟩:∃ R0:Nat,(R0:Int)=max (el (el b i) c-g) 0:=⟨(max (el (el b i) c-g) 0).toNat,by omega⟩
          obtain ⟨cnt,hcnt⟩:∃ cnt:Nat,((R0+cnt:Nat):Int)=min (el (el b i) c+s.weight-1+g) (s.rows-1)+1:=⟨(min (el (el b i) c+s.weight-1+g) (s.rows-1)+1-R0).toNat,by omega⟩
          have hstart:∀ j,vb (stCol s b g m i c j)=vb (stRow s b g m i c (R0+0) j):=fun j=>congrArg vb (stRow_zero (by omega)).symm
          (repeat' (first|(refine ar_isq ?_;refine zq ?_)|refine zil (j:=c) ?_|refine zis (j:=c) ?_|refine zit (j:=c) ?_|refine zst ?_|refine zco ?_ ?_|exact zd|(intro hg;(try replace hg:=HG.out hg);(try dsimp only at hg);(try (have _h:True:=hg;clear _h hg)))))
          all_goals (try (exfalso;omega))
          all_goals
            refine aw_for cnt (fun _=>True) (fun k=>[(1,encRows b),(2,vi g),(3,vb m),(4,.ptr 5 0 0 0),(11,.sl 1 1 0 (s.rows.toNat*s.cols.toNat)),(33,encRows b),(34,vi b.length),(35,vi i),(39,encInts (el b i)),(40,vi (el b i).length),(41,vi c),(14,vi (pCol s m c)),(15,vi (el (el b i) c)),(16,vi ((R0+k:Nat):Int))]) (fun k=>[.arr 5 1 (fun _=>s.enc),.arr 1 (s.rows.toNat*s.cols.toNat) (fun j=>vb (stRow s b g m i c (R0+k) j))]) trivial ?_ ?_
            · (refine sub_to [some 0,some 1] [] rfl ?_ ?_<;>(repeat' (first|exact trivial|refine ⟨⟨_,rfl,?_⟩,?_⟩|refine vs1 ?_ ?_|refine vs2 ?_ ?_|refine vs3 ?_|refine vs4 ?_ ?_|refine ⟨.inl ⟨_,_,rfl,rfl,?_⟩,?_⟩|exact ⟨.inr ⟨rfl,rfl⟩,trivial⟩|refine ⟨.inr ⟨rfl,rfl⟩,?_⟩|(intro _ _)|exact vz1|(first|exact siEq (by omega)|exact siEq (by have:=hpcT (by assumption);omega)|exact siEq (by have:=hpcF (by assumption);omega)|exact VSub.of_eq (hstart _) rfl)|exact vz2)))
            intro k hk _
            by_cases hltk:k<cnt
            · have hrk:R0+k<s.rows.toNat:=by omega
              have hidx:=hq (R0+k) (pCol s m c) hrk hpl
              have hm2:=hmu (R0+k)
              have hst:∀ j,_:=fun j=>stRow_succ (s:=s) (b:=b) (g:=g) (m:=m) (i:=i) (c:=c) (r:=R0+k) (j:=j) hcc (by omega) (by omega)
              have hst1:vb (stRow s b g m i c (R0+k+1) ((R0+k)*s.cols.toNat+pCol s m c))=vb true:=by rw [← hst];simp
              have hst2:∀ j,j≠(R0+k)*s.cols.toNat+pCol s m c→vb (stRow s b g m i c (R0+k+1) j)=vb (stRow s b g m i c (R0+k) j):=fun j hj=>by
                rw [← hst,show Nat.beq j ((R0+k)*s.cols.toNat+pCol s m c)=false by cases q:Nat.beq j ((R0+k)*s.cols.toNat+pCol s m c) with|false=>rfl|true=>exact (hj (Nat.eq_of_beq_eq_true q)).elim]
                rfl
              (repeat' (first|(refine ar_isq ?_;refine zq ?_)|refine zil (j:=(R0+k)*s.cols.toNat+pCol s m c) ?_|refine zis (j:=(R0+k)*s.cols.toNat+pCol s m c) ?_|refine zit (j:=(R0+k)*s.cols.toNat+pCol s m c) ?_|(refine ar_store_as (fun j=>vb (stRow s b g m i c (R0+k+1) j)) (ty rfl) rfl rfl rfl rfl rfl rfl (by omega) (by dsimp only;omega) (fun _ h=>by cases h) rfl rfl (fun _ h=>by cases h) hst1 (fun j _ hj=>hst2 j hj) ?_)|refine zst ?_|refine zco ?_ ?_|exact zd|(intro hg;(try replace hg:=HG.out hg);(try dsimp only at hg);(try (have _h:True:=hg;clear _h hg)))))
              all_goals first
                | (exfalso;omega)
                | ((first|refine loop_next (by omega) ?_ ?_|refine (show _∧_∧SubOf _ _ _ _ _ _ from And.intro (by omega) (And.intro ?_ ?_)));(focus ((trivial);done));(focus (exact zsb [some 0,some 1] [])))
            · (repeat' (first|(refine ar_isq ?_;refine zq ?_)|refine zst ?_|refine zco ?_ ?_|exact zd|(intro hg;(try replace hg:=HG.out hg);(try dsimp only at hg);(try (have _h:True:=hg;clear _h hg)))))
              all_goals first
                | (exfalso;omega)
                | ((first|refine loop_next (by omega) ?_ ?_|refine (show _∧_∧SubOf _ _ _ _ _ _ from And.intro (by omega) (And.intro ?_ ?_)));(focus ((trivial);done));(focus ((refine sub_to [some 0,some 1] [] rfl ?_ ?_<;>(repeat' (first|exact trivial|refine ⟨⟨_,rfl,?_⟩,?_⟩|refine vs1 ?_ ?_|refine vs2 ?_ ?_|refine vs3 ?_|refine vs4 ?_ ?_|refine ⟨.inl ⟨_,_,rfl,rfl,?_⟩,?_⟩|exact ⟨.inr ⟨rfl,rfl⟩,trivial⟩|refine ⟨.inr ⟨rfl,rfl⟩,?_⟩|(intro _ _)|exact vz1|(exact VSub.of_eq (congrArg vb (stRow_end (hdiv _ (by assumption)) (by omega))) rfl)|exact vz2)));done)))
        · (repeat' (first|(refine ar_isq ?_;refine zq ?_)|refine zst ?_|refine zco ?_ ?_|exact zd|(intro hg;(try replace hg:=HG.out hg);(try dsimp only at hg);(try (have _h:True:=hg;clear _h hg)))))
          all_goals first
            | (exfalso;omega)
            | ((first|refine loop_next (by omega) ?_ ?_|refine (show _∧_∧SubOf _ _ _ _ _ _ from And.intro (by omega) (And.intro ?_ ?_)));(focus ((trivial);done));(focus ((refine sub_to [some 0,some 1] [] rfl ?_ ?_<;>(repeat' (first|exact trivial|refine ⟨⟨_,rfl,?_⟩,?_⟩|refine vs1 ?_ ?_|refine vs2 ?_ ?_|refine vs3 ?_|refine vs4 ?_ ?_|refine ⟨.inl ⟨_,_,rfl,rfl,?_⟩,?_⟩|exact ⟨.inr ⟨rfl,rfl⟩,trivial⟩|refine ⟨.inr ⟨rfl,rfl⟩,?_⟩|(intro _ _)|exact vz1|(exact VSub.of_eq (congrArg vb (stCol_end (by omega) (by omega) hlti)) rfl)|exact vz2)));done)))
      · (repeat' (first|(refine ar_isq ?_;refine zq ?_)|refine zst ?_|refine zco ?_ ?_|exact zd|(intro hg;(try replace hg:=HG.out hg);(try dsimp only at hg);(try (have _h:True:=hg;clear _h hg)))))
        all_goals first
          | (exfalso;omega)
          | ((refine aw_mono_r (env':=[(8,encBools (proofTo s b g m (s.rows.toNat*s.cols.toNat))),(9,vi 0)]) (H':=[]) ?_ ?_;(focus ((refine sub_to [] [1] rfl ?_ ?_<;>(repeat' (first|exact trivial|refine ⟨⟨_,rfl,?_⟩,?_⟩|refine vs1 ?_ ?_|refine vs2 ?_ ?_|refine vs3 ?_|refine vs4 ?_ ?_|refine ⟨.inl ⟨_,_,rfl,rfl,?_⟩,?_⟩|exact ⟨.inr ⟨rfl,rfl⟩,trivial⟩|refine ⟨.inr ⟨rfl,rfl⟩,?_⟩|(intro _ _)|exact vz1|(exact frz_as (by simp) rfl rfl (proofTo_len _ _ _ _ _) (fun j hj=>by rw [proofTo_el hj,stLine_end (by omega)]) (fun _=>rfl))|exact vz2)));done)));(refine aw_ret ?_;(repeat (first|refine ret_then ?_|refine ret_block ?_));refine bq2 rfl rfl ⟨?_,rfl⟩);rfl)
  · have he:=proofErr_check (g:=g) hce
    rw [proofF_bad (by omega),he]
    refine pcalls_of_aw Tryz.func30 rfl (dc rfl) ?_
    (repeat' (first|(refine ar_isq ?_;refine zq ?_)|(refine zpv fn58 (check_p s b) ?_)|refine zst ?_|refine zco ?_ ?_|exact zd|(intro hg;(try replace hg:=HG.out hg);(try dsimp only at hg);(try (have _h:True:=hg;clear _h hg)))))
    all_goals first
      | (exfalso;omega)
      | ((refine aw_mono_r (env':=[(8,encBools []),(9,vi (checkErr s b))]) (H':=[]) ?_ ?_;(focus (exact zsb [] [])));(refine aw_ret ?_;(repeat (first|refine ret_then ?_|refine ret_block ?_));refine bq2 rfl rfl ⟨?_,rfl⟩);rfl)
theorem gapErr_check {s:Sheet}{b:List (List Int)}(h:checkErr s b≠0):gapErr s b=checkErr s b:=by simp [gapErr,h]
theorem gapErr_few {s:Sheet}{b:List (List Int)}(h:checkErr s b=0) (h2:b.length<2):gapErr s b=6:=by simp [gapErr,h,h2]
theorem gapErr_ok {s:Sheet}{b:List (List Int)}(h:checkErr s b=0) (h2:¬ b.length<2):gapErr s b=0:=by simp [gapErr,h,h2]
theorem gapF_bad {s:Sheet}{b:List (List Int)}(h:gapErr s b≠0):gapF s b=0:=by simp [gapF,h]
theorem gapF_ok {s:Sheet}{b:List (List Int)}(h:gapErr s b=0):gapF s b=gapTo s b (b.length-1):=by simp [gapF,h]
def encGap (s:Sheet) (b:List (List Int)):V:=.tup [vi (gapF s b),vi (gapErr s b)]
theorem gap_next {s:Sheet}{b:List (List Int)}{k c:Nat}{x y z:Int}(hx:x=gapRow s b k (gapTo s b k) c) (hy:y=el (el b (k+1)) c) (hz:z=el (el b k) c):min x (y-z-s.weight)=gapRow s b k (gapTo s b k) (c+1):=by
  subst hx hy hz
  rw [gapRow_succ,gapAt]
theorem lGap_p (s:Sheet) (b:List (List Int)):PCalls Tryz.prog 109 [s.enc,encRows b] (·=encGap s b):=by
  by_cases hce:checkErr s b=0
  · by_cases h2:b.length<2
    · have he:=gapErr_few hce h2
      rw [encGap,gapF_bad (by omega),he]
      refine pcalls_of_aw Tryz.func109 rfl (dc rfl) ?_
      (repeat' (first|(refine ar_isq ?_;refine zq ?_)|(refine zpv fn58 (check_p s b) ?_)|refine zcl ?_|refine zcs ?_|refine zst ?_|refine aw_drawn (id:=13) [(0,0),(1,0),(2,0),(3,0),(4,0),(5,0),(6,0),(7,0),(8,0),(9,0),(10,0),(11,0),(12,0),(13,0),(14,0)] mixed (by kernel_rfl) ?_|refine zco ?_ ?_|exact zd|(intro hg;(try replace hg:=HG.out hg);(try dsimp only at hg);(try (have _h:True:=hg;clear _h hg)))))
      all_goals first
        | (exfalso;omega)
        | ((refine aw_ret ?_;(repeat (first|refine ret_then ?_|refine ret_block ?_));refine bq2 rfl rfl ⟨?_,rfl⟩);rfl)
    · have he:=gapErr_ok hce h2
      rw [encGap,gapF_ok he,he]
      obtain ⟨hs,h12,hl⟩:=band_of_check hce
      have hbd:=Sheet.bounds hs
      refine pcalls_of_aw Tryz.func109 rfl (dc rfl) ?_
      (repeat' (first|(refine ar_isq ?_;refine zq ?_)|(refine zpv fn58 (check_p s b) ?_)|refine zcl (a:=1) (b:=b.length) ?_|refine zcs (a:=1) (b:=b.length) ?_|refine zst ?_|refine aw_drawn (id:=13) [(0,0),(1,0),(2,0),(3,0),(4,0),(5,0),(6,0),(7,0),(8,0),(9,0),(10,0),(11,0),(12,0),(13,0),(14,0)] mixed (by kernel_rfl) ?_|refine zco ?_ ?_|exact zd|(intro hg;(try replace hg:=HG.out hg);(try dsimp only at hg);(try (have _h:True:=hg;clear _h hg)))))
      all_goals (try (exfalso;omega))
      refine aw_for (b.length-1) (fun _=>True) (fun k=>[(1,encRows b),(2,.ptr 5 0 0 0),(7,vi (gapTo s b k)),(24,.list 1 (b.length-1) (fun j=>encInts (el b (1+j)))),(25,vi ((b.length-1:Nat):Int)),(26,vi k)]) (fun _=>[.arr 5 1 (fun _=>s.enc)]) trivial ?_ ?_
      · (exact zsb [some 0] [])
      intro k hk _
      by_cases hlt:k<b.length-1
      · have e1:1+k=k+1:=Nat.add_comm _ _
        have ha1:=of_all_el hl (k:=1+k) (by omega)
        have ha0:=of_all_el hl (k:=k) (by omega)
        have hn1:=isLine_len ha1
        have hn0:=isLine_len ha0
        (repeat' (first|(refine ar_isq ?_;refine zq ?_)|refine zil (j:=k) ?_|refine zis (j:=k) ?_|refine zit (j:=k) ?_|refine zcl ?_|refine zcs ?_|refine zst ?_|refine aw_drawn (id:=13) [(0,0),(1,0),(2,0),(3,0),(4,0),(5,0),(6,0),(7,0),(8,0),(9,0),(10,0),(11,0),(12,0),(13,0),(14,0)] mixed (by kernel_rfl) ?_|refine zco ?_ ?_|exact zd|(intro hg;(try replace hg:=HG.out hg);(try dsimp only at hg);(try (have _h:True:=hg;clear _h hg)))))
        all_goals (try (exfalso;omega))
        refine aw_for (el b (1+k)).length (fun _=>True) (fun c=>[(1,encRows b),(2,.ptr 5 0 0 0),(7,vi (gapRow s b k (gapTo s b k) c)),(8,vi k),(24,.list 1 (b.length-1) (fun j=>encInts (el b (1+j)))),(25,vi ((b.length-1:Nat):Int)),(26,vi k),(31,encInts (el b (1+k))),(32,vi (el b (1+k)).length),(33,vi c)]) (fun _=>[.arr 5 1 (fun _=>s.enc)]) trivial ?_ ?_
        · (exact zsb [some 0] [])
        intro c hc _
        by_cases hltc:c<(el b (1+k)).length
        · have hv1:=isLine_at ha1 (j:=c) (by omega)
          have hv0:=isLine_at ha0 (j:=c) (by omega)
          (repeat' (first|(refine ar_isq ?_;refine zq ?_)|refine zil (j:=c) ?_|refine zis (j:=c) ?_|refine zit (j:=c) ?_|refine zil (j:=k) ?_|refine zis (j:=k) ?_|refine zit (j:=k) ?_|refine zcl ?_|refine zcs ?_|refine zst ?_|refine aw_drawn (id:=13) [(0,0),(1,0),(2,0),(3,0),(4,0),(5,0),(6,0),(7,0),(8,0),(9,0),(10,0),(11,0),(12,0),(13,0),(14,0)] mixed (by kernel_rfl) ?_|refine zco ?_ ?_|exact zd|(intro hg;(try replace hg:=HG.out hg);(try dsimp only at hg);(try (have _h:True:=hg;clear _h hg)))))
          all_goals first
            | (exfalso;omega)
            | ((first|refine loop_next (by omega) ?_ ?_|refine (show _∧_∧SubOf _ _ _ _ _ _ from And.intro (by omega) (And.intro ?_ ?_)));(focus ((trivial);done));(focus ((refine sub_to [some 0] [] rfl ?_ ?_<;>(repeat' (first|exact trivial|refine ⟨⟨_,rfl,?_⟩,?_⟩|refine vs1 ?_ ?_|refine vs2 ?_ ?_|refine vs3 ?_|refine vs4 ?_ ?_|refine ⟨.inl ⟨_,_,rfl,rfl,?_⟩,?_⟩|exact ⟨.inr ⟨rfl,rfl⟩,trivial⟩|refine ⟨.inr ⟨rfl,rfl⟩,?_⟩|(intro _ _)|exact vz1|(exact siEq (gap_next rfl (by rw [e1]) rfl))|exact vz2)));done)))
        · (repeat' (first|(refine ar_isq ?_;refine zq ?_)|refine zcl ?_|refine zcs ?_|refine zst ?_|refine aw_drawn (id:=13) [(0,0),(1,0),(2,0),(3,0),(4,0),(5,0),(6,0),(7,0),(8,0),(9,0),(10,0),(11,0),(12,0),(13,0),(14,0)] mixed (by kernel_rfl) ?_|refine zco ?_ ?_|exact zd|(intro hg;(try replace hg:=HG.out hg);(try dsimp only at hg);(try (have _h:True:=hg;clear _h hg)))))
          all_goals first
            | (exfalso;omega)
            | (rw [gapTo_succ,show s.cols.toNat=c by omega];((first|refine loop_next (by omega) ?_ ?_|refine (show _∧_∧SubOf _ _ _ _ _ _ from And.intro (by omega) (And.intro ?_ ?_)));(focus ((trivial);done));(focus (exact zsb [some 0] []))))
      · (repeat' (first|(refine ar_isq ?_;refine zq ?_)|refine zcl ?_|refine zcs ?_|refine zst ?_|refine aw_drawn (id:=13) [(0,0),(1,0),(2,0),(3,0),(4,0),(5,0),(6,0),(7,0),(8,0),(9,0),(10,0),(11,0),(12,0),(13,0),(14,0)] mixed (by kernel_rfl) ?_|refine zco ?_ ?_|exact zd|(intro hg;(try replace hg:=HG.out hg);(try dsimp only at hg);(try (have _h:True:=hg;clear _h hg)))))
        all_goals first
          | (exfalso;omega)
          | ((refine aw_mono_r (env':=[(4,vi (gapTo s b k)),(5,vi 0)]) (H':=[]) ?_ ?_;(focus (exact zsb [] [])));(refine aw_ret ?_;(repeat (first|refine ret_then ?_|refine ret_block ?_));refine bq2 rfl rfl ⟨?_,rfl⟩);rw [show k=b.length-1 by omega];try rfl)
  · have he:=gapErr_check hce
    rw [encGap,gapF_bad (by omega),he]
    refine pcalls_of_aw Tryz.func109 rfl (dc rfl) ?_
    (repeat' (first|(refine ar_isq ?_;refine zq ?_)|(refine zpv fn58 (check_p s b) ?_)|refine zcl ?_|refine zcs ?_|refine zst ?_|refine aw_drawn (id:=13) [(0,0),(1,0),(2,0),(3,0),(4,0),(5,0),(6,0),(7,0),(8,0),(9,0),(10,0),(11,0),(12,0),(13,0),(14,0)] mixed (by kernel_rfl) ?_|refine zco ?_ ?_|exact zd|(intro hg;(try replace hg:=HG.out hg);(try dsimp only at hg);(try (have _h:True:=hg;clear _h hg)))))
    all_goals first
      | (exfalso;omega)
      | ((refine aw_ret ?_;(repeat (first|refine ret_then ?_|refine ret_block ?_));refine bq2 rfl rfl ⟨?_,rfl⟩);rfl)
theorem lastErr_gap {s:Sheet}{b:List (List Int)}{per:Int}(h:gapErr s b≠0):lastErr s b per=gapErr s b:=by simp [lastErr,h]
theorem lastErr_arg {s:Sheet}{b:List (List Int)}{per:Int}(h:gapErr s b=0) (h2:withinB per 1 1000=false):lastErr s b per=2:=by simp [lastErr,h,h2]
theorem lastErr_none {s:Sheet}{b:List (List Int)}{per:Int}(h:gapErr s b=0) (h2:withinB per 1 1000=true) (h3:gapF s b=0):lastErr s b per=6:=by simp [lastErr,h,h2,h3]
theorem lastErr_ok {s:Sheet}{b:List (List Int)}{per:Int}(h:gapErr s b=0) (h2:withinB per 1 1000=true) (h3:gapF s b≠0):lastErr s b per=0:=by simp [lastErr,h,h2,h3]
theorem lastF_bad {s:Sheet}{b:List (List Int)}{per:Int}(h:lastErr s b per≠0):lastF s b per=0:=by simp [lastF,h]
theorem lastF_ok {s:Sheet}{b:List (List Int)}{per:Int}(h:lastErr s b per=0):lastF s b per=(gapF s b+1)/2*per-1:=by simp [lastF,h]
def encLast (s:Sheet) (b:List (List Int)) (per:Int):V:=.tup [vi (lastF s b per),vi (lastErr s b per)]
theorem last_bnd {g p:Int}(hg:1≤g∧g≤60) (hp:1≤p∧p≤1000):1≤(g+1)/2*p∧(g+1)/2*p≤30000:=by
  have h1:1≤(g+1)/2∧(g+1)/2≤30:=by omega
  constructor
  · have:=Int.mul_le_mul h1.1 hp.1 (by omega) (by omega)
    omega
  · have:=Int.mul_le_mul h1.2 hp.2 (by omega) (by omega)
    omega
theorem lLasts_p (s:Sheet) (b:List (List Int)) (per:Int):PCalls Tryz.prog 64 [s.enc,encRows b,vi per] (·=encLast s b per):=by
  by_cases hge:gapErr s b=0
  · cases hp:withinB per 1 1000
    · have he:=lastErr_arg hge hp
      rw [encLast,lastF_bad (by omega),he]
      refine pcalls_of_aw Tryz.func64 rfl (dc rfl) ?_
      (repeat' (first|(refine ar_isq ?_;refine zq ?_)|(refine zpv fn109 (lGap_p s b) ?_)|(refine ar_pcall (own:=true) fn59 rfl rfl (.cons (.closed rfl) (.cons (.closed rfl) (.cons (.lent rfl rfl (by omega) (fun _ _=>rfl) (fun k hk=>match k,hk with|0,_=>rfl)) .nil))) (from1_p 1 1000 per) (by intros;subst_vars;rfl) (dc rfl) ?_;intro _ hv;subst hv)|refine zst ?_|refine zco ?_ ?_|exact zd|(intro hg;(try replace hg:=HG.out hg);(try dsimp only at hg);(try (have _h:True:=hg;clear _h hg)))))
      all_goals first
        | (exfalso;simp_all;done)
        | ((refine aw_ret ?_;(repeat (first|refine ret_then ?_|refine ret_block ?_));refine bq2 rfl rfl ⟨?_,rfl⟩);rfl)
    · obtain ⟨hce,h2,hg0,hg60⟩:=gap_ok hge
      have hpb:=withinB_iff.1 hp
      by_cases hz:gapF s b=0
      · have he:=lastErr_none hge hp hz
        rw [encLast,lastF_bad (by omega),he]
        refine pcalls_of_aw Tryz.func64 rfl (dc rfl) ?_
        (repeat' (first|(refine ar_isq ?_;refine zq ?_)|(refine zpv fn109 (lGap_p s b) ?_)|(refine ar_pcall (own:=true) fn59 rfl rfl (.cons (.closed rfl) (.cons (.closed rfl) (.cons (.lent rfl rfl (by omega) (fun _ _=>rfl) (fun k hk=>match k,hk with|0,_=>rfl)) .nil))) (from1_p 1 1000 per) (by intros;subst_vars;rfl) (dc rfl) ?_;intro _ hv;subst hv)|refine zst ?_|refine zco ?_ ?_|exact zd|(intro hg;(try replace hg:=HG.out hg);(try dsimp only at hg);(try (have _h:True:=hg;clear _h hg)))))
        all_goals first
          | (exfalso;simp_all;done)
          | ((refine aw_ret ?_;(repeat (first|refine ret_then ?_|refine ret_block ?_));refine bq2 rfl rfl ⟨?_,rfl⟩);rfl)
      · have he:=lastErr_ok hge hp hz
        rw [encLast,lastF_ok he,he]
        have hlb:=last_bnd (g:=gapF s b) (p:=per) (by omega) hpb
        refine pcalls_of_aw Tryz.func64 rfl (dc rfl) ?_
        (repeat' (first|(refine ar_isq ?_;refine zq ?_)|(refine zpv fn109 (lGap_p s b) ?_)|(refine ar_pcall (own:=true) fn59 rfl rfl (.cons (.closed rfl) (.cons (.closed rfl) (.cons (.lent rfl rfl (by omega) (fun _ _=>rfl) (fun k hk=>match k,hk with|0,_=>rfl)) .nil))) (from1_p 1 1000 per) (by intros;subst_vars;rfl) (dc rfl) ?_;intro _ hv;subst hv)|refine zst ?_|refine zco ?_ ?_|exact zd|(intro hg;(try replace hg:=HG.out hg);(try dsimp only at hg);(try (have _h:True:=hg;clear _h hg)))))
        all_goals first
          | (exfalso;simp_all;done)
          | ((refine aw_ret ?_;(repeat (first|refine ret_then ?_|refine ret_block ?_));refine bq2 rfl rfl ⟨?_,rfl⟩);rfl)
  · have he:=lastErr_gap (per:=per) hge
    rw [encLast,lastF_bad (by omega),he]
    refine pcalls_of_aw Tryz.func64 rfl (dc rfl) ?_
    (repeat' (first|(refine ar_isq ?_;refine zq ?_)|(refine zpv fn109 (lGap_p s b) ?_)|refine zst ?_|refine zco ?_ ?_|exact zd|(intro hg;(try replace hg:=HG.out hg);(try dsimp only at hg);(try (have _h:True:=hg;clear _h hg)))))
    all_goals first
      | (exfalso;omega)
      | ((refine aw_ret ?_;(repeat (first|refine ret_then ?_|refine ret_block ?_));refine bq2 rfl rfl ⟨?_,rfl⟩);rfl)
theorem great8_p (s:Sto):PCalls Tryz.prog 48 [s.enc] (fun v=>v=vb true∨v=vb false∧s.items.length≤40∧s.prints.length≤500):=by
  refine pcalls_of_aw Tryz.func48 rfl (dc rfl) ?_
  (repeat' (first|(refine ar_isq ?_;refine zq ?_)|refine zg ?_ ?_|refine zgu ?_|refine zst ?_|refine zco ?_ ?_|exact zd|(intro hg;(try replace hg:=HG.out hg);(try dsimp only at hg);(try (have _h:True:=hg;clear _h hg)))))
  all_goals first
    | ((refine aw_ret ?_;(repeat (first|refine ret_then ?_|refine ret_block ?_));refine bq1 rfl ?_);exact ⟨.inl rfl,rfl⟩)
    | ((refine aw_ret ?_;(repeat (first|refine ret_then ?_|refine ret_block ?_));refine bq1 rfl ?_);refine ⟨?_,rfl⟩;by_cases hgg:(500:Int)<(s.prints.length:Int);exact .inl (congrArg vb (decide_eq_true hgg));exact .inr ⟨congrArg vb (decide_eq_false hgg),by omega,by omega⟩)
    | trace_state
theorem usedI_yes {l:List Itm}{i:Int}{k:Nat}(h:(el l k).src=i):usedI l i (k+1)=usedI l i k+1:=cntB_yes (by simpa using h)
theorem usedI_no {l:List Itm}{i:Int}{k:Nat}(h:¬ (el l k).src=i):usedI l i (k+1)=usedI l i k:=cntB_no (by simpa using h)
theorem usedP_yes {l:List Prt}{i:Int}{k:Nat}(h:(el l k).plate=i):usedP l i (k+1)=usedP l i k+1:=cntB_yes (by simpa using h)
theorem usedP_no {l:List Prt}{i:Int}{k:Nat}(h:¬ (el l k).plate=i):usedP l i (k+1)=usedP l i k:=cntB_no (by simpa using h)
theorem usedI_bnd (l:List Itm) (i:Int) (k:Nat):0≤usedI l i k∧usedI l i k≤k:=cntB_bnd k
theorem usedP_bnd (l:List Prt) (i:Int) (k:Nat):0≤usedP l i k∧usedP l i k≤k:=cntB_bnd k
theorem sameStore_p (s:Sto):PCalls Tryz.prog 47 [s.enc,s.enc] (·=vb true):=by
  refine pcalls_know (Φ:=s.items.length≤9223372036854775807∧s.prints.length≤9223372036854775807) (fun I us h=>?_) fun hlen=>?_
  · obtain ⟨u,hu⟩:=rel_arg h (j:=0) rfl
    obtain ⟨cs,_,h1,h2⟩:=agg_inv hu
    have hsz:cs.size=3:=h1
    exact ⟨rel_len ⟨_,h2 1 _ cs[1] rfl (by simp [hsz])⟩,rel_len ⟨_,h2 2 _ cs[2] rfl (by simp [hsz])⟩⟩
  obtain ⟨hl1,hl2⟩:=hlen
  refine pcalls_of_aw Tryz.func47 rfl (dc rfl) ?_
  (repeat' (first|(refine ar_isq ?_;refine zq ?_)|refine ar_q (qs_sneq (seq rfl) rfl rfl (.int (ty rfl) rfl rfl rfl rfl (.int (ty rfl) rfl rfl rfl rfl .nil))) (dc rfl) ?_|refine ar_q (qs_sneq (seq rfl) rfl rfl (.int (ty rfl) rfl rfl rfl rfl (.int (ty rfl) rfl rfl rfl rfl (.int (ty rfl) rfl rfl rfl rfl .nil)))) (dc rfl) ?_|refine ar_q (qs_sneq (seq rfl) rfl rfl (.int (ty rfl) rfl rfl rfl rfl (.int (ty rfl) rfl rfl rfl rfl (.int (ty rfl) rfl rfl rfl rfl (.int (ty rfl) rfl rfl rfl rfl .nil))))) (dc rfl) ?_|refine ar_q (qs_sneq (seq rfl) rfl rfl (.int (ty rfl) rfl rfl rfl rfl (.int (ty rfl) rfl rfl rfl rfl (.int (ty rfl) rfl rfl rfl rfl (.int (ty rfl) rfl rfl rfl rfl (.int (ty rfl) rfl rfl rfl rfl .nil)))))) (dc rfl) ?_|refine zg ?_ ?_|refine zgu ?_|refine zst ?_|refine aw_drawn (id:=6) [(0,0),(1,0),(2,0),(3,0),(4,0),(5,0),(6,0),(7,0),(8,0),(9,0),(10,0)] mixed (by kernel_rfl) ?_|refine aw_drawn (id:=11) [(0,0),(1,0),(2,0),(3,0),(4,0),(5,0),(6,0),(7,0),(8,0),(9,0),(10,0)] mixed (by kernel_rfl) ?_|refine zco ?_ ?_|exact zd|(intro hg;(try replace hg:=HG.out hg);(try dsimp only at hg);(try (have _h:True:=hg;clear _h hg)))))
  all_goals (try (exfalso;simp at *;done))
  refine aw_for s.items.length (fun _=>True) (fun k=>[(2,.ptr 3 0 0 0),(3,.ptr 3 1 0 0),(5,vi k)]) (fun _=>[.arr 3 1 (fun _=>s.enc),.arr 3 1 (fun _=>s.enc)]) trivial ?_ ?_
  · (exact zsb [some 0,some 1] [])
  intro k hk _
  by_cases hlt:k<s.items.length
  · (repeat' (first|(refine ar_isq ?_;refine zq ?_)|refine ar_q (qs_sneq (seq rfl) rfl rfl (.int (ty rfl) rfl rfl rfl rfl (.int (ty rfl) rfl rfl rfl rfl .nil))) (dc rfl) ?_|refine ar_q (qs_sneq (seq rfl) rfl rfl (.int (ty rfl) rfl rfl rfl rfl (.int (ty rfl) rfl rfl rfl rfl (.int (ty rfl) rfl rfl rfl rfl .nil)))) (dc rfl) ?_|refine ar_q (qs_sneq (seq rfl) rfl rfl (.int (ty rfl) rfl rfl rfl rfl (.int (ty rfl) rfl rfl rfl rfl (.int (ty rfl) rfl rfl rfl rfl (.int (ty rfl) rfl rfl rfl rfl .nil))))) (dc rfl) ?_|refine ar_q (qs_sneq (seq rfl) rfl rfl (.int (ty rfl) rfl rfl rfl rfl (.int (ty rfl) rfl rfl rfl rfl (.int (ty rfl) rfl rfl rfl rfl (.int (ty rfl) rfl rfl rfl rfl (.int (ty rfl) rfl rfl rfl rfl .nil)))))) (dc rfl) ?_|refine zil (j:=k) ?_|refine zis (j:=k) ?_|refine zit (j:=k) ?_|refine ar_q (qs_sneq (seq rfl) rfl rfl (.int (ty rfl) rfl rfl rfl rfl (.int (ty rfl) rfl rfl rfl rfl (.int (ty rfl) rfl rfl rfl rfl (.int (ty rfl) rfl rfl rfl rfl (.bool (ty rfl) rfl rfl rfl rfl .nil)))))) (dc rfl) ?_|refine zg ?_ ?_|refine zgu ?_|refine zst ?_|refine aw_drawn (id:=6) [(0,0),(1,0),(2,0),(3,0),(4,0),(5,0),(6,0),(7,0),(8,0),(9,0),(10,0)] mixed (by kernel_rfl) ?_|refine aw_drawn (id:=11) [(0,0),(1,0),(2,0),(3,0),(4,0),(5,0),(6,0),(7,0),(8,0),(9,0),(10,0)] mixed (by kernel_rfl) ?_|refine zco ?_ ?_|exact zd|(intro hg;(try replace hg:=HG.out hg);(try dsimp only at hg);(try (have _h:True:=hg;clear _h hg)))))
    all_goals first
      | (exfalso;omega)
      | (exfalso;simp at *;done)
      | ((first|refine loop_next (by omega) ?_ ?_|refine (show _∧_∧SubOf _ _ _ _ _ _ from And.intro (by omega) (And.intro ?_ ?_)));(focus ((trivial);done));(focus (exact zsb [some 0,some 1] [])))
      | trace_state
  · (repeat' (first|(refine ar_isq ?_;refine zq ?_)|refine ar_q (qs_sneq (seq rfl) rfl rfl (.int (ty rfl) rfl rfl rfl rfl (.int (ty rfl) rfl rfl rfl rfl .nil))) (dc rfl) ?_|refine ar_q (qs_sneq (seq rfl) rfl rfl (.int (ty rfl) rfl rfl rfl rfl (.int (ty rfl) rfl rfl rfl rfl (.int (ty rfl) rfl rfl rfl rfl .nil)))) (dc rfl) ?_|refine ar_q (qs_sneq (seq rfl) rfl rfl (.int (ty rfl) rfl rfl rfl rfl (.int (ty rfl) rfl rfl rfl rfl (.int (ty rfl) rfl rfl rfl rfl (.int (ty rfl) rfl rfl rfl rfl .nil))))) (dc rfl) ?_|refine ar_q (qs_sneq (seq rfl) rfl rfl (.int (ty rfl) rfl rfl rfl rfl (.int (ty rfl) rfl rfl rfl rfl (.int (ty rfl) rfl rfl rfl rfl (.int (ty rfl) rfl rfl rfl rfl (.int (ty rfl) rfl rfl rfl rfl .nil)))))) (dc rfl) ?_|refine zg ?_ ?_|refine zgu ?_|refine zst ?_|refine aw_drawn (id:=6) [(0,0),(1,0),(2,0),(3,0),(4,0),(5,0),(6,0),(7,0),(8,0),(9,0),(10,0)] mixed (by kernel_rfl) ?_|refine aw_drawn (id:=11) [(0,0),(1,0),(2,0),(3,0),(4,0),(5,0),(6,0),(7,0),(8,0),(9,0),(10,0)] mixed (by kernel_rfl) ?_|refine zco ?_ ?_|exact zd|(intro hg;(try replace hg:=HG.out hg);(try dsimp only at hg);(try (have _h:True:=hg;clear _h hg)))))
    all_goals (try (exfalso;omega))
    refine aw_for s.prints.length (fun _=>True) (fun k=>[(2,.ptr 3 0 0 0),(3,.ptr 3 1 0 0),(6,vi k)]) (fun _=>[.arr 3 1 (fun _=>s.enc),.arr 3 1 (fun _=>s.enc)]) trivial ?_ ?_
    · (exact zsb [some 0,some 1] [])
    intro q hq _
    by_cases hlq:q<s.prints.length
    · (repeat' (first|(refine ar_isq ?_;refine zq ?_)|refine ar_q (qs_sneq (seq rfl) rfl rfl (.int (ty rfl) rfl rfl rfl rfl (.int (ty rfl) rfl rfl rfl rfl .nil))) (dc rfl) ?_|refine ar_q (qs_sneq (seq rfl) rfl rfl (.int (ty rfl) rfl rfl rfl rfl (.int (ty rfl) rfl rfl rfl rfl (.int (ty rfl) rfl rfl rfl rfl .nil)))) (dc rfl) ?_|refine ar_q (qs_sneq (seq rfl) rfl rfl (.int (ty rfl) rfl rfl rfl rfl (.int (ty rfl) rfl rfl rfl rfl (.int (ty rfl) rfl rfl rfl rfl (.int (ty rfl) rfl rfl rfl rfl .nil))))) (dc rfl) ?_|refine ar_q (qs_sneq (seq rfl) rfl rfl (.int (ty rfl) rfl rfl rfl rfl (.int (ty rfl) rfl rfl rfl rfl (.int (ty rfl) rfl rfl rfl rfl (.int (ty rfl) rfl rfl rfl rfl (.int (ty rfl) rfl rfl rfl rfl .nil)))))) (dc rfl) ?_|refine zil (j:=q) ?_|refine zis (j:=q) ?_|refine zit (j:=q) ?_|refine ar_q (qs_sneq (seq rfl) rfl rfl (.int (ty rfl) rfl rfl rfl rfl (.int (ty rfl) rfl rfl rfl rfl .nil))) (dc rfl) ?_|refine zg ?_ ?_|refine zgu ?_|refine zst ?_|refine aw_drawn (id:=6) [(0,0),(1,0),(2,0),(3,0),(4,0),(5,0),(6,0),(7,0),(8,0),(9,0),(10,0)] mixed (by kernel_rfl) ?_|refine aw_drawn (id:=11) [(0,0),(1,0),(2,0),(3,0),(4,0),(5,0),(6,0),(7,0),(8,0),(9,0),(10,0)] mixed (by kernel_rfl) ?_|refine zco ?_ ?_|exact zd|(intro hg;(try replace hg:=HG.out hg);(try dsimp only at hg);(try (have _h:True:=hg;clear _h hg)))))
      all_goals first
        | (exfalso;omega)
        | (exfalso;simp at *;done)
        | ((first|refine loop_next (by omega) ?_ ?_|refine (show _∧_∧SubOf _ _ _ _ _ _ from And.intro (by omega) (And.intro ?_ ?_)));(focus ((trivial);done));(focus (exact zsb [some 0,some 1] [])))
        | trace_state
    · (repeat' (first|(refine ar_isq ?_;refine zq ?_)|refine ar_q (qs_sneq (seq rfl) rfl rfl (.int (ty rfl) rfl rfl rfl rfl (.int (ty rfl) rfl rfl rfl rfl .nil))) (dc rfl) ?_|refine ar_q (qs_sneq (seq rfl) rfl rfl (.int (ty rfl) rfl rfl rfl rfl (.int (ty rfl) rfl rfl rfl rfl (.int (ty rfl) rfl rfl rfl rfl .nil)))) (dc rfl) ?_|refine ar_q (qs_sneq (seq rfl) rfl rfl (.int (ty rfl) rfl rfl rfl rfl (.int (ty rfl) rfl rfl rfl rfl (.int (ty rfl) rfl rfl rfl rfl (.int (ty rfl) rfl rfl rfl rfl .nil))))) (dc rfl) ?_|refine ar_q (qs_sneq (seq rfl) rfl rfl (.int (ty rfl) rfl rfl rfl rfl (.int (ty rfl) rfl rfl rfl rfl (.int (ty rfl) rfl rfl rfl rfl (.int (ty rfl) rfl rfl rfl rfl (.int (ty rfl) rfl rfl rfl rfl .nil)))))) (dc rfl) ?_|refine zg ?_ ?_|refine zgu ?_|refine zst ?_|refine aw_drawn (id:=6) [(0,0),(1,0),(2,0),(3,0),(4,0),(5,0),(6,0),(7,0),(8,0),(9,0),(10,0)] mixed (by kernel_rfl) ?_|refine aw_drawn (id:=11) [(0,0),(1,0),(2,0),(3,0),(4,0),(5,0),(6,0),(7,0),(8,0),(9,0),(10,0)] mixed (by kernel_rfl) ?_|refine zco ?_ ?_|exact zd|(intro hg;(try replace hg:=HG.out hg);(try dsimp only at hg);(try (have _h:True:=hg;clear _h hg)))))
      all_goals first
        | (exfalso;omega)
        | ((refine aw_ret ?_;(repeat (first|refine ret_then ?_|refine ret_block ?_));refine bq1 rfl ⟨?_,rfl⟩);rfl)
        | trace_state
def stoV (b:Nat) (s:Sto):V:=.agg [vi s.life,.sl 5 (b+1) 0 s.items.length,.sl 2 (b+2) 0 s.prints.length,.map (b+3)]
def stoB (b:Nat) (s:Sto) (m:List (Int × Int)):Heap:=[.arr 4 1 (fun _=>stoV b s),LB 5 Itm.enc s.items,LB 2 Prt.enc s.prints,mapE vi m]
theorem stoB_ren {s:Sto}{m:List (Int × Int)}{n:Nat}:(stoB 0 s m).map (Blk.ren (rn [] n))=stoB n s m:=by
  have e:entsE vi m=(entsE vi m).map fun p=>(p.1,p.2.ren (rn [] n)):=by
    unfold entsE
    rw [List.map_map]
    exact List.map_congr_left fun p _=>rfl
  have e2:mapE vi m=(mapE vi m).ren (rn [] n):=congrArg Blk.map e
  show _::_::_::[_]=_::_::_::[_]
  rw [← e2]
  rfl
theorem fromB_one {lo hi n:Int}:fromB lo hi [n]=withinB n lo hi:=by simp [fromB]
def AllPlaced (l:List Itm):Prop:=∀ i,i<l.length→PlacedTo l i i
theorem cloneI_p (l:List Itm) (hl:l.length≤1000):FCalls Tryz.prog 114 [encItems l] 5 (fun n f=>n=l.length∧∀ i,i<n→f i=Itm.enc (el l i)):=by
  refine fcalls_of_aw Tryz.func114 rfl (dc rfl) ?_
  (repeat' (first|(refine ar_isq ?_;refine zq ?_)|(refine ar_eqnil (ty rfl) rfl rfl rfl (dc rfl) ?_;intro bq hbq)|refine zst ?_|refine zco ?_ ?_|exact zd|(intro hg;(try replace hg:=HG.out hg);(try dsimp only at hg);(try (have _h:True:=hg;clear _h hg)))))
  · have h0:=hbq (by assumption)
    (refine aw_mono_r (env':=[(2,.sl 5 0 0 0)]) (H':=[.arr 5 0 (fun _=>vi 0)]) ?_ ?_;(focus (exact zsb [none] [])))
    refine aw_ret (ret_then (bq1 rfl ⟨0,_,rfl,rfl,⟨by omega,fun i hi=>by omega⟩,fun i hi=>by omega⟩))
  · refine aw_ret (bq1 rfl ⟨0+l.length,_,rfl,rfl,⟨Nat.zero_add _,fun i hi=>by rw [appF_ge (Nat.zero_le _),Nat.sub_zero]⟩,fun i hi=>by rw [appF_ge (Nat.zero_le _)];rfl⟩)
theorem cloneP_p (l:List Prt) (hl:l.length≤1000):FCalls Tryz.prog 115 [encPrints l] 2 (fun n f=>n=l.length∧∀ i,i<n→f i=Prt.enc (el l i)):=by
  refine fcalls_of_aw Tryz.func115 rfl (dc rfl) ?_
  (repeat' (first|(refine ar_isq ?_;refine zq ?_)|(refine ar_eqnil (ty rfl) rfl rfl rfl (dc rfl) ?_;intro bq hbq)|refine zst ?_|refine zco ?_ ?_|exact zd|(intro hg;(try replace hg:=HG.out hg);(try dsimp only at hg);(try (have _h:True:=hg;clear _h hg)))))
  · have h0:=hbq (by assumption)
    (refine aw_mono_r (env':=[(2,.sl 2 0 0 0)]) (H':=[.arr 2 0 (fun _=>vi 0)]) ?_ ?_;(focus (exact zsb [none] [])))
    refine aw_ret (ret_then (bq1 rfl ⟨0,_,rfl,rfl,⟨by omega,fun i hi=>by omega⟩,fun i hi=>by omega⟩))
  · refine aw_ret (bq1 rfl ⟨0+l.length,_,rfl,rfl,⟨Nat.zero_add _,fun i hi=>by rw [appF_ge (Nat.zero_le _),Nat.sub_zero]⟩,fun i hi=>by rw [appF_ge (Nat.zero_le _)];rfl⟩)
def OpenR (s:Sto) (v:V) (H:Heap):Prop:=(v=.tup [.ptr 4 0 0 0,vb true]∧H=stoB 0 s (pressTo s.items s.items.length)∧AllPlaced s.items)∨(v=.tup [.s (.pointer none),vb false]∧H=[]∧¬ AllPlaced s.items)
theorem open_p (s:Sto) (hn:s.items.length≤30) (hm:s.prints.length≤400):ACalls Tryz.prog 105 [s.enc] [] (OpenR s) NoP:=by
  refine acalls_of_aw Tryz.func105 rfl (dc rfl) ?_
  (repeat' (first|(refine ar_isq ?_;refine zq ?_)|(refine zbt ?_)|refine ar_makeMap (dc rfl) ?_|(refine ar_fcall fn114 rfl rfl (.cons (.closed rfl) .nil) (cloneI_p s.items (by omega)) (dc rfl) ?_;rintro n0 g0 ⟨rfl,hg0⟩)|(refine ar_fcall fn115 rfl rfl (.cons (.closed rfl) .nil) (cloneP_p s.prints (by omega)) (dc rfl) ?_;rintro n1 g1 ⟨rfl,hg1⟩)|refine zg ?_ ?_|refine zgu ?_|refine ar_forkL ?_ ?_|refine ar_lq rfl ?_|refine zst ?_|refine aw_fork (id:=1) [[(9,1),(4,1),(7,1),(8,0),(10,0),(11,1),(12,0)],[(9,1),(7,1),(8,0),(10,0),(11,1),(12,0)]] [(0,0),(1,0),(2,0),(3,0),(5,0),(6,0),(0,3),(4,1),(1,3),(7,1),(8,0),(9,1),(10,0),(11,1),(12,0)] mixed (by kernel_rfl) ?_|refine aw_drawn (id:=8) [(0,0),(1,0),(2,0),(3,0),(4,0),(5,0),(6,0),(7,0),(8,0),(9,0),(10,0),(11,0)] mixed (by kernel_rfl) ?_|refine aw_drawn (id:=11) [(0,0),(1,0),(2,0),(3,0),(4,0),(5,0),(6,0),(7,2)] mixed (by kernel_rfl) ?_|refine zco ?_ ?_|exact zd|(intro hg;(try replace hg:=HG.out hg);(try dsimp only at hg);(try (have _h:True:=hg;clear _h hg)))))
  all_goals (
    refine aw_for s.items.length (fun k=>∀ j,j<k→PlacedTo s.items j j) (fun k=>[(1,.ptr 3 0 0 0),(4,.ptr 4 1 0 0),(22,encItems s.items),(23,vi s.items.length),(24,vi k)]) (fun k=>[.arr 3 1 (fun _=>s.enc),.arr 4 1 (fun _=>stoV 1 s),LB 5 Itm.enc s.items,LB 2 Prt.enc s.prints,mapE vi (pressTo s.items k)]) (fun j hj=>by omega) ?_ ?_
    · first
        | ((refine sub_to [some 0,some 4,some 1,some 2,some 3] [] rfl ?_ ?_<;>(repeat' (first|exact trivial|refine ⟨⟨_,rfl,?_⟩,?_⟩|refine vs1 ?_ ?_|refine vs2 ?_ ?_|refine vs3 ?_|refine vs4 ?_ ?_|refine ⟨.inl ⟨_,_,rfl,rfl,?_⟩,?_⟩|exact ⟨.inr ⟨rfl,rfl⟩,trivial⟩|refine ⟨.inr ⟨rfl,rfl⟩,?_⟩|(intro _ _)|exact vz1|(first|exact VSub.of_eq (hg0 _ (by assumption)) rfl|exact VSub.of_eq (hg1 _ (by assumption)) rfl|refine ⟨bsub_mapE rfl rfl (fun _=>rfl),?_⟩|exact VSub.aggL ⟨.closed rfl,.sl rfl,.sl rfl,.map rfl,trivial⟩)|exact vz2)));done)
        | ((refine sub_to [some 0,some 4,some 1,some 3,some 2] [] rfl ?_ ?_<;>(repeat' (first|exact trivial|refine ⟨⟨_,rfl,?_⟩,?_⟩|refine vs1 ?_ ?_|refine vs2 ?_ ?_|refine vs3 ?_|refine vs4 ?_ ?_|refine ⟨.inl ⟨_,_,rfl,rfl,?_⟩,?_⟩|exact ⟨.inr ⟨rfl,rfl⟩,trivial⟩|refine ⟨.inr ⟨rfl,rfl⟩,?_⟩|(intro _ _)|exact vz1|(first|exact VSub.of_eq (hg0 _ (by assumption)) rfl|exact VSub.of_eq (hg1 _ (by assumption)) rfl|refine ⟨bsub_mapE rfl rfl (fun _=>rfl),?_⟩|exact VSub.aggL ⟨.closed rfl,.sl rfl,.sl rfl,.map rfl,trivial⟩)|exact vz2)));done)
        | ((refine sub_to [some 0,some 4,some 2,some 1,some 3] [] rfl ?_ ?_<;>(repeat' (first|exact trivial|refine ⟨⟨_,rfl,?_⟩,?_⟩|refine vs1 ?_ ?_|refine vs2 ?_ ?_|refine vs3 ?_|refine vs4 ?_ ?_|refine ⟨.inl ⟨_,_,rfl,rfl,?_⟩,?_⟩|exact ⟨.inr ⟨rfl,rfl⟩,trivial⟩|refine ⟨.inr ⟨rfl,rfl⟩,?_⟩|(intro _ _)|exact vz1|(first|exact VSub.of_eq (hg0 _ (by assumption)) rfl|exact VSub.of_eq (hg1 _ (by assumption)) rfl|refine ⟨bsub_mapE rfl rfl (fun _=>rfl),?_⟩|exact VSub.aggL ⟨.closed rfl,.sl rfl,.sl rfl,.map rfl,trivial⟩)|exact vz2)));done)
        | ((refine sub_to [some 0,some 4,some 2,some 3,some 1] [] rfl ?_ ?_<;>(repeat' (first|exact trivial|refine ⟨⟨_,rfl,?_⟩,?_⟩|refine vs1 ?_ ?_|refine vs2 ?_ ?_|refine vs3 ?_|refine vs4 ?_ ?_|refine ⟨.inl ⟨_,_,rfl,rfl,?_⟩,?_⟩|exact ⟨.inr ⟨rfl,rfl⟩,trivial⟩|refine ⟨.inr ⟨rfl,rfl⟩,?_⟩|(intro _ _)|exact vz1|(first|exact VSub.of_eq (hg0 _ (by assumption)) rfl|exact VSub.of_eq (hg1 _ (by assumption)) rfl|refine ⟨bsub_mapE rfl rfl (fun _=>rfl),?_⟩|exact VSub.aggL ⟨.closed rfl,.sl rfl,.sl rfl,.map rfl,trivial⟩)|exact vz2)));done)
        | ((refine sub_to [some 0,some 4,some 3,some 1,some 2] [] rfl ?_ ?_<;>(repeat' (first|exact trivial|refine ⟨⟨_,rfl,?_⟩,?_⟩|refine vs1 ?_ ?_|refine vs2 ?_ ?_|refine vs3 ?_|refine vs4 ?_ ?_|refine ⟨.inl ⟨_,_,rfl,rfl,?_⟩,?_⟩|exact ⟨.inr ⟨rfl,rfl⟩,trivial⟩|refine ⟨.inr ⟨rfl,rfl⟩,?_⟩|(intro _ _)|exact vz1|(first|exact VSub.of_eq (hg0 _ (by assumption)) rfl|exact VSub.of_eq (hg1 _ (by assumption)) rfl|refine ⟨bsub_mapE rfl rfl (fun _=>rfl),?_⟩|exact VSub.aggL ⟨.closed rfl,.sl rfl,.sl rfl,.map rfl,trivial⟩)|exact vz2)));done)
        | ((refine sub_to [some 0,some 4,some 3,some 2,some 1] [] rfl ?_ ?_<;>(repeat' (first|exact trivial|refine ⟨⟨_,rfl,?_⟩,?_⟩|refine vs1 ?_ ?_|refine vs2 ?_ ?_|refine vs3 ?_|refine vs4 ?_ ?_|refine ⟨.inl ⟨_,_,rfl,rfl,?_⟩,?_⟩|exact ⟨.inr ⟨rfl,rfl⟩,trivial⟩|refine ⟨.inr ⟨rfl,rfl⟩,?_⟩|(intro _ _)|exact vz1|(first|exact VSub.of_eq (hg0 _ (by assumption)) rfl|exact VSub.of_eq (hg1 _ (by assumption)) rfl|refine ⟨bsub_mapE rfl rfl (fun _=>rfl),?_⟩|exact VSub.aggL ⟨.closed rfl,.sl rfl,.sl rfl,.map rfl,trivial⟩)|exact vz2)));done)
    clear hg0 hg1 g0 g1
    intro k hk hJ
    by_cases hlt:k<s.items.length
    · 
      (repeat' (first|(refine ar_isq ?_;refine zq ?_)|refine zil (j:=k) ?_|refine zis (j:=k) ?_|refine zit (j:=k) ?_|(refine zbt ?_)|(((refine ar_subk_l (sub_frzL (t:=31) vi ([(el s.items k).place]) rfl rfl rfl rfl (fun _ _=>rfl) (fun _=>rfl)) ?_);refine zpv fn59 (from_p _ _ [(el s.items k).place]) ?_))|refine ar_buildLE vi ([(el s.items k).place]) (by exact ty rfl) (by exact rfl) (by exact ty rfl) (by exact rfl) (by exact rfl) (by exact Nat.succ_pos _) (by exact rfl) (by exact dc rfl) (by exact rfl) (by exact fun _=>⟨rfl,rfl⟩) (by exact dc rfl) ?_|(refine ar_lookup (e:=vi) (ty rfl) rfl (ty rfl) rfl (ty rfl) rfl rfl rfl (dc rfl) ?_ ?_<;>intros)|refine ar_mapUpdate (e:=vi) (v:=(k:Int)) (ty rfl) rfl (ty rfl) rfl rfl rfl rfl rfl ?_|refine zg ?_ ?_|refine zgu ?_|refine ar_forkL ?_ ?_|refine ar_lq rfl ?_|refine zst ?_|refine aw_fork (id:=1) [[(9,1),(4,1),(7,1),(8,0),(10,0),(11,1),(12,0)],[(9,1),(7,1),(8,0),(10,0),(11,1),(12,0)]] [(0,0),(1,0),(2,0),(3,0),(5,0),(6,0),(0,3),(4,1),(1,3),(7,1),(8,0),(9,1),(10,0),(11,1),(12,0)] mixed (by kernel_rfl) ?_|refine aw_drawn (id:=8) [(0,0),(1,0),(2,0),(3,0),(4,0),(5,0),(6,0),(7,0),(8,0),(9,0),(10,0),(11,0)] mixed (by kernel_rfl) ?_|refine aw_drawn (id:=11) [(0,0),(1,0),(2,0),(3,0),(4,0),(5,0),(6,0),(7,2)] mixed (by kernel_rfl) ?_|refine zco ?_ ?_|(intro hg;first|exact absurd hg (by decide)|((try replace hg:=HG.out hg);(try dsimp only at hg);(try rw [fromB_one] at hg);(try rw [withinB_iff] at hg);(try rw [withinB_no] at hg);(try (have _h:True:=hg;clear _h hg));first|(exfalso;omega)|skip))))
      all_goals first
        | (exfalso;omega)
        | (exfalso;simp at *;done)
        | ((refine aw_mono_r (env':=[(2,.s (.pointer none)),(3,vb false)]) (H':=[]) ?_ ?_;(focus (exact zsb [] [])));refine aw_ret ?_;(repeat (first|refine ret_then ?_|refine ret_block ?_));refine bq2 rfl rfl (.inr ⟨rfl,rfl,fun h=>?_⟩);have hp:=h k hlt;unfold PlacedTo at hp;omega)
        | ((refine aw_mono_r (env':=[(2,.s (.pointer none)),(3,vb false)]) (H':=[]) ?_ ?_;(focus (exact zsb [] [])));refine aw_ret ?_;(repeat (first|refine ret_then ?_|refine ret_block ?_));refine bq2 rfl rfl (.inr ⟨rfl,rfl,fun h=>?_⟩);have hp:=h k hlt;unfold PlacedTo at hp;simp_all;done)
        | ((refine aw_mono_r (env':=[(2,.s (.pointer none)),(3,vb false)]) (H':=[]) ?_ ?_;(focus (exact zsb [] [])));refine aw_ret ?_;(repeat (first|refine ret_then ?_|refine ret_block ?_));refine bq2 rfl rfl (.inr ⟨rfl,rfl,fun h=>?_⟩);have hp:=h k hlt;unfold PlacedTo at hp;obtain ⟨q1,q,q2,q3⟩:=press_taken hJ (by assumption);exact (hp.2.2 q1).2 q q2 (by omega) q3)
        | ((first|refine loop_next (by omega) ?_ ?_|refine (show _∧_∧SubOf _ _ _ _ _ _ from And.intro (by omega) (And.intro ?_ ?_)));(focus (((refine all_step hJ ⟨by omega,fun hh=>?_,fun hh=>⟨by omega,?_⟩⟩;(focus first|omega|simp_all);(focus exact fun j hj _=>press_free hJ hh (by assumption) j hj)));done));(focus ((refine sub_to [some 0,some 1,some 2,some 3,some 4] [] rfl ?_ ?_<;>(repeat' (first|exact trivial|refine ⟨⟨_,rfl,?_⟩,?_⟩|refine vs1 ?_ ?_|refine vs2 ?_ ?_|refine vs3 ?_|refine vs4 ?_ ?_|refine ⟨.inl ⟨_,_,rfl,rfl,?_⟩,?_⟩|exact ⟨.inr ⟨rfl,rfl⟩,trivial⟩|refine ⟨.inr ⟨rfl,rfl⟩,?_⟩|(intro _ _)|exact vz1|(first|refine ⟨bsub_mapE' rfl rfl (pressTo_yes (by omega)) (fun _=>rfl),?_⟩|exact VSub.aggL ⟨.closed rfl,.sl rfl,.sl rfl,.map rfl,trivial⟩)|exact vz2)));done)))
        | ((first|refine loop_next (by omega) ?_ ?_|refine (show _∧_∧SubOf _ _ _ _ _ _ from And.intro (by omega) (And.intro ?_ ?_)));(focus (((refine all_step hJ ⟨by omega,fun hh=>?_,fun hh=>absurd hh (by omega)⟩;first|omega|simp_all));done));(focus ((refine sub_to [some 0,some 1,some 2,some 3,some 4] [] rfl ?_ ?_<;>(repeat' (first|exact trivial|refine ⟨⟨_,rfl,?_⟩,?_⟩|refine vs1 ?_ ?_|refine vs2 ?_ ?_|refine vs3 ?_|refine vs4 ?_ ?_|refine ⟨.inl ⟨_,_,rfl,rfl,?_⟩,?_⟩|exact ⟨.inr ⟨rfl,rfl⟩,trivial⟩|refine ⟨.inr ⟨rfl,rfl⟩,?_⟩|(intro _ _)|exact vz1|(first|refine ⟨bsub_mapE' rfl rfl (pressTo_no (by omega)) (fun _=>rfl),?_⟩|exact VSub.aggL ⟨.closed rfl,.sl rfl,.sl rfl,.map rfl,trivial⟩)|exact vz2)));done)))
        | trace_state
    · 
      (repeat' (first|(refine ar_isq ?_;refine zq ?_)|(refine zbt ?_)|refine zg ?_ ?_|refine zgu ?_|refine ar_forkL ?_ ?_|refine ar_lq rfl ?_|refine zst ?_|refine aw_fork (id:=1) [[(9,1),(4,1),(7,1),(8,0),(10,0),(11,1),(12,0)],[(9,1),(7,1),(8,0),(10,0),(11,1),(12,0)]] [(0,0),(1,0),(2,0),(3,0),(5,0),(6,0),(0,3),(4,1),(1,3),(7,1),(8,0),(9,1),(10,0),(11,1),(12,0)] mixed (by kernel_rfl) ?_|refine aw_drawn (id:=8) [(0,0),(1,0),(2,0),(3,0),(4,0),(5,0),(6,0),(7,0),(8,0),(9,0),(10,0),(11,0)] mixed (by kernel_rfl) ?_|refine aw_drawn (id:=11) [(0,0),(1,0),(2,0),(3,0),(4,0),(5,0),(6,0),(7,2)] mixed (by kernel_rfl) ?_|refine zco ?_ ?_|exact zd|(intro hg;(try replace hg:=HG.out hg);(try dsimp only at hg);(try (have _h:True:=hg;clear _h hg)))))
      all_goals first
        | (exfalso;omega)
        | (obtain rfl:k=s.items.length:=by omega
           (refine aw_mono_r (env':=[(2,.ptr 4 0 0 0),(3,vb true)]) (H':=[.arr 4 1 (fun _=>stoV 0 s),LB 5 Itm.enc s.items,LB 2 Prt.enc s.prints,mapE vi (pressTo s.items s.items.length)]) ?_ ?_;(focus (exact zsc [some 1,some 2,some 3,some 4] [])))
           refine aw_ret (bq2 rfl rfl (.inl ⟨rfl,rfl,hJ⟩)))
        | trace_state)
end Go.Proofs.YtbilpbabdgfblaaGreat
-- old go
namespace Go.Proofs.YtbilpbabdgfblaaGreat
open Go.RowKit
def Screen.ok (c:Screen):Bool:=withinB c.period 2 16&&withinB c.phase 0 (c.period-1)
theorem clone_p (l:List Int) (hl:l.length≤1000):FCalls Tryz.prog 119 [encInts l] 1 (fun n f=>n=l.length∧∀ i,i<n→f i=vi (el l i)):=by
  refine fcalls_of_aw Tryz.func119 rfl (dc rfl) ?_
  (repeat' (first|(refine ar_isq ?_;refine zq ?_)|(refine ar_eqnil (ty rfl) rfl rfl rfl (dc rfl) ?_;intro bq hbq)|refine zst ?_|refine zco ?_ ?_|exact zd|(intro hg;(try replace hg:=HG.out hg);(try dsimp only at hg);(try (have _h:True:=hg;clear _h hg)))))
  · have h0:=hbq (by assumption)
    (refine aw_mono_r (env':=[(2,.sl 1 0 0 0)]) (H':=[.arr 1 0 (fun _=>vi 0)]) ?_ ?_;(focus (exact zsb [none] [])))
    refine aw_ret (ret_then (bq1 rfl ⟨0,_,rfl,rfl,⟨by omega,fun i hi=>by omega⟩,fun i hi=>by omega⟩))
  · refine aw_ret (bq1 rfl ⟨0+l.length,_,rfl,rfl,⟨Nat.zero_add _,fun i hi=>by rw [appF_ge (Nat.zero_le _),Nat.sub_zero]⟩,fun i hi=>by rw [appF_ge (Nat.zero_le _)];rfl⟩)
def idxG {α:Type}[Inhabited α] (p:α→Bool) (l:List α):Int:=match (List.range l.length).find? (fun i=>p (el l i)) with|some i=>(i:Int)|none=>-1
section
variable {α:Type}[Inhabited α]
theorem idxG_at {p:α→Bool}{l:List α}{i:Nat}(hi:i<l.length) (h0:∀ j,j<i→p (el l j)=false) (h:p (el l i)=true):idxG p l=i:=by
  have:(List.range l.length).find? (fun i=>p (el l i))=some i:=by
    rw [List.find?_range_eq_some]
    exact ⟨h,by simpa using hi,fun j hj=>by simp [h0 j hj]⟩
  unfold idxG
  rw [this]
theorem idxG_none {p:α→Bool}{l:List α}(h0:∀ j,j<l.length→p (el l j)=false):idxG p l=-1:=by
  have:(List.range l.length).find? (fun i=>p (el l i))=none:=by
    rw [List.find?_eq_none]
    intro j hj
    rw [List.mem_range] at hj
    simp [h0 j hj]
  unfold idxG
  rw [this]
theorem idxG_any (p:α→Bool) (l:List α):decide (0≤idxG p l)=l.any p:=by
  cases h:l.any p
  · rw [List.any_eq_false] at h
    rw [idxG_none fun j hj=>by simpa using h _ (el_mem hj)]
    rfl
  · rw [List.any_eq_true] at h
    obtain ⟨x,hx,hp⟩:=h
    obtain ⟨i,hi,rfl⟩:=mem_el hx
    unfold idxG
    split
    · simp
    · rename_i h0
      rw [List.find?_eq_none] at h0
      have:=h0 i (by simpa using hi)
      simp [hp] at this
end
theorem indexD_p (l:List Dsn) {g:FuncId}{cap:List V}(hfn:FnOk Tryz.prog g) (hcap:V.closed.all cap=true) (p:Dsn→Bool) (hc:∀ x,x∈l→PCalls Tryz.prog g (x.enc::cap) (·=vb (p x))) :
    PCalls Tryz.prog 155 [encDsns l,.fn (.func g) [] cap] (·=vi (idxG p l)):=by
  (refine pcalls_know (fun I us h=>rel_len (rel_arg h (j:=0) rfl)) fun hlen0=>?_)
  refine pcalls_of_aw Tryz.func155 rfl (dc rfl) ?_
  (repeat' (first|(refine ar_isq ?_;refine zq ?_)|refine zst ?_|refine zco ?_ ?_|exact zd|(intro hg;(try replace hg:=HG.out hg);(try dsimp only at hg);(try (have _h:True:=hg;clear _h hg)))))
  refine aw_for l.length (fun k=>∀ j,j<k→p (el l j)=false) (fun k=>[(0,encDsns l),(1,.fn (.func g) [] cap),(7,vi l.length),(8,vi k)]) (fun _=>[]) (fun j hj=>by omega) ?_ ?_
  · (exact zsb [] [])
  intro k hk hJ
  by_cases hkn:k<l.length
  · (repeat' (first|(refine ar_isq ?_;refine zq ?_)|refine zil (j:=k) ?_|refine zis (j:=k) ?_|refine zit (j:=k) ?_|(refine ar_pcall (own:=false) hfn rfl rfl (args_closed (vs:=_::cap) hcap) (hc _ (el_mem hkn)) (by simp) (dc rfl) ?_;intro _ hv;subst hv)|refine zst ?_|refine zco ?_ ?_|exact zd|(intro hg;(try replace hg:=HG.out hg);(try dsimp only at hg);(try (have _h:True:=hg;clear _h hg)))))
    all_goals first
      | (exfalso;omega)
      | ((first|refine loop_next (by omega) ?_ ?_|refine (show _∧_∧SubOf _ _ _ _ _ _ from And.intro (by omega) (And.intro ?_ ?_)));(focus ((exact all_step hJ (by assumption));done));(focus (exact zsb [] [])))
      | ((refine aw_ret ?_;(repeat (first|refine ret_then ?_|refine ret_block ?_));refine bq1 rfl ⟨?_,rfl⟩);rw [idxG_at hkn hJ (by assumption)];try rfl)
      | trace_state
  · (repeat' (first|(refine ar_isq ?_;refine zq ?_)|refine zst ?_|refine zco ?_ ?_|exact zd|(intro hg;(try replace hg:=HG.out hg);(try dsimp only at hg);(try (have _h:True:=hg;clear _h hg)))))
    all_goals first
      | (exfalso;omega)
      | ((refine aw_ret ?_;(repeat (first|refine ret_then ?_|refine ret_block ?_));refine bq1 rfl ⟨?_,rfl⟩);rw [idxG_none (fun j hj=>hJ j (by omega))];try rfl)
theorem containsD_p (l:List Dsn) {g:FuncId}{cap:List V}(hfn:FnOk Tryz.prog g) (hcap:V.closed.all cap=true) (p:Dsn→Bool) (hc:∀ x,x∈l→PCalls Tryz.prog g (x.enc::cap) (·=vb (p x))) :
    PCalls Tryz.prog 120 [encDsns l,.fn (.func g) [] cap] (·=vb (l.any p)):=by
  refine pcalls_of_aw Tryz.func120 rfl (dc rfl) ?_
  (repeat' (first|(refine ar_isq ?_;refine zq ?_)|(refine ar_pcall (own:=false) fn155 rfl rfl (.cons (.closed rfl) (.cons (.closed hcap) .nil)) (indexD_p l hfn hcap p hc) (by simp) (dc rfl) ?_;intro _ hv;subst hv)|refine zst ?_|refine zco ?_ ?_|exact zd|(intro hg;(try replace hg:=HG.out hg);(try dsimp only at hg);(try (have _h:True:=hg;clear _h hg)))))
  (refine aw_ret ?_;(repeat (first|refine ret_then ?_|refine ret_block ?_));refine bq1 rfl ⟨?_,rfl⟩)
  rw [← idxG_any]
  rfl
theorem indexC_p (l:List Lic) {g:FuncId}{cap:List V}(hfn:FnOk Tryz.prog g) (hcap:V.closed.all cap=true) (p:Lic→Bool) (hc:∀ x,x∈l→PCalls Tryz.prog g (x.enc::cap) (·=vb (p x))) :
    PCalls Tryz.prog 156 [encLics l,.fn (.func g) [] cap] (·=vi (idxG p l)):=by
  (refine pcalls_know (fun I us h=>rel_len (rel_arg h (j:=0) rfl)) fun hlen0=>?_)
  refine pcalls_of_aw Tryz.func156 rfl (dc rfl) ?_
  (repeat' (first|(refine ar_isq ?_;refine zq ?_)|refine zst ?_|refine zco ?_ ?_|exact zd|(intro hg;(try replace hg:=HG.out hg);(try dsimp only at hg);(try (have _h:True:=hg;clear _h hg)))))
  refine aw_for l.length (fun k=>∀ j,j<k→p (el l j)=false) (fun k=>[(0,encLics l),(1,.fn (.func g) [] cap),(7,vi l.length),(8,vi k)]) (fun _=>[]) (fun j hj=>by omega) ?_ ?_
  · (exact zsb [] [])
  intro k hk hJ
  by_cases hkn:k<l.length
  · (repeat' (first|(refine ar_isq ?_;refine zq ?_)|refine zil (j:=k) ?_|refine zis (j:=k) ?_|refine zit (j:=k) ?_|(refine ar_pcall (own:=false) hfn rfl rfl (args_closed (vs:=_::cap) hcap) (hc _ (el_mem hkn)) (by simp) (dc rfl) ?_;intro _ hv;subst hv)|refine zst ?_|refine zco ?_ ?_|exact zd|(intro hg;(try replace hg:=HG.out hg);(try dsimp only at hg);(try (have _h:True:=hg;clear _h hg)))))
    all_goals first
      | (exfalso;omega)
      | ((first|refine loop_next (by omega) ?_ ?_|refine (show _∧_∧SubOf _ _ _ _ _ _ from And.intro (by omega) (And.intro ?_ ?_)));(focus ((exact all_step hJ (by assumption));done));(focus (exact zsb [] [])))
      | ((refine aw_ret ?_;(repeat (first|refine ret_then ?_|refine ret_block ?_));refine bq1 rfl ⟨?_,rfl⟩);rw [idxG_at hkn hJ (by assumption)];try rfl)
      | trace_state
  · (repeat' (first|(refine ar_isq ?_;refine zq ?_)|refine zst ?_|refine zco ?_ ?_|exact zd|(intro hg;(try replace hg:=HG.out hg);(try dsimp only at hg);(try (have _h:True:=hg;clear _h hg)))))
    all_goals first
      | (exfalso;omega)
      | ((refine aw_ret ?_;(repeat (first|refine ret_then ?_|refine ret_block ?_));refine bq1 rfl ⟨?_,rfl⟩);rw [idxG_none (fun j hj=>hJ j (by omega))];try rfl)
theorem containsC_p (l:List Lic) {g:FuncId}{cap:List V}(hfn:FnOk Tryz.prog g) (hcap:V.closed.all cap=true) (p:Lic→Bool) (hc:∀ x,x∈l→PCalls Tryz.prog g (x.enc::cap) (·=vb (p x))) :
    PCalls Tryz.prog 123 [encLics l,.fn (.func g) [] cap] (·=vb (l.any p)):=by
  refine pcalls_of_aw Tryz.func123 rfl (dc rfl) ?_
  (repeat' (first|(refine ar_isq ?_;refine zq ?_)|(refine ar_pcall (own:=false) fn156 rfl rfl (.cons (.closed rfl) (.cons (.closed hcap) .nil)) (indexC_p l hfn hcap p hc) (by simp) (dc rfl) ?_;intro _ hv;subst hv)|refine zst ?_|refine zco ?_ ?_|exact zd|(intro hg;(try replace hg:=HG.out hg);(try dsimp only at hg);(try (have _h:True:=hg;clear _h hg)))))
  (refine aw_ret ?_;(repeat (first|refine ret_then ?_|refine ret_block ?_));refine bq1 rfl ⟨?_,rfl⟩)
  rw [← idxG_any]
  rfl
theorem cloneC_p (l:List Lic) (hl:l.length≤1000):FCalls Tryz.prog 117 [encLics l] 4 (fun n f=>n=l.length∧∀ i,i<n→f i=Lic.enc (el l i)):=by
  refine fcalls_of_aw Tryz.func117 rfl (dc rfl) ?_
  (repeat' (first|(refine ar_isq ?_;refine zq ?_)|(refine ar_eqnil (ty rfl) rfl rfl rfl (dc rfl) ?_;intro bq hbq)|refine zst ?_|refine zco ?_ ?_|exact zd|(intro hg;(try replace hg:=HG.out hg);(try dsimp only at hg);(try (have _h:True:=hg;clear _h hg)))))
  · have h0:=hbq (by assumption)
    (refine aw_mono_r (env':=[(2,.sl 4 0 0 0)]) (H':=[.arr 4 0 (fun _=>vi 0)]) ?_ ?_;(focus (exact zsb [none] [])))
    refine aw_ret (ret_then (bq1 rfl ⟨0,_,rfl,rfl,⟨by omega,fun i hi=>by omega⟩,fun i hi=>by omega⟩))
  · refine aw_ret (bq1 rfl ⟨0+l.length,_,rfl,rfl,⟨Nat.zero_add _,fun i hi=>by rw [appF_ge (Nat.zero_le _),Nat.sub_zero]⟩,fun i hi=>by rw [appF_ge (Nat.zero_le _)];rfl⟩)
theorem cloneO_p (l:List Ordr) (hl:l.length≤1000):FCalls Tryz.prog 118 [encOrders l] 4 (fun n f=>n=l.length∧∀ i,i<n→f i=Ordr.enc (el l i)):=by
  refine fcalls_of_aw Tryz.func118 rfl (dc rfl) ?_
  (repeat' (first|(refine ar_isq ?_;refine zq ?_)|(refine ar_eqnil (ty rfl) rfl rfl rfl (dc rfl) ?_;intro bq hbq)|refine zst ?_|refine zco ?_ ?_|exact zd|(intro hg;(try replace hg:=HG.out hg);(try dsimp only at hg);(try (have _h:True:=hg;clear _h hg)))))
  · have h0:=hbq (by assumption)
    (refine aw_mono_r (env':=[(2,.sl 4 0 0 0)]) (H':=[.arr 4 0 (fun _=>vi 0)]) ?_ ?_;(focus (exact zsb [none] [])))
    refine aw_ret (ret_then (bq1 rfl ⟨0,_,rfl,rfl,⟨by omega,fun i hi=>by omega⟩,fun i hi=>by omega⟩))
  · refine aw_ret (bq1 rfl ⟨0+l.length,_,rfl,rfl,⟨Nat.zero_add _,fun i hi=>by rw [appF_ge (Nat.zero_le _),Nat.sub_zero]⟩,fun i hi=>by rw [appF_ge (Nat.zero_le _)];rfl⟩)
theorem cloneB_p (l:List (List Int)) (hl:l.length≤1000):FCalls Tryz.prog 154 [encRows l] 1 (fun n f=>n=l.length∧∀ i,i<n→f i=encInts (el l i)):=by
  refine fcalls_of_aw Tryz.func154 rfl (dc rfl) ?_
  (repeat' (first|(refine ar_isq ?_;refine zq ?_)|(refine ar_eqnil (ty rfl) rfl rfl rfl (dc rfl) ?_;intro bq hbq)|refine zst ?_|refine zco ?_ ?_|exact zd|(intro hg;(try replace hg:=HG.out hg);(try dsimp only at hg);(try (have _h:True:=hg;clear _h hg)))))
  · have h0:=hbq (by assumption)
    (refine aw_mono_r (env':=[(2,.sl 1 0 0 0)]) (H':=[.arr 1 0 (fun _=>vi 0)]) ?_ ?_;(focus (exact zsb [none] [])))
    refine aw_ret (ret_then (bq1 rfl ⟨0,_,rfl,rfl,⟨by omega,fun i hi=>by omega⟩,fun i hi=>by omega⟩))
  · refine aw_ret (bq1 rfl ⟨0+l.length,_,rfl,rfl,⟨Nat.zero_add _,fun i hi=>by rw [appF_ge (Nat.zero_le _),Nat.sub_zero]⟩,fun i hi=>by rw [appF_ge (Nat.zero_le _)];rfl⟩)
def Dsn.cs (d:Dsn) (v:V):V:=.agg [vi d.owner,vi d.sheet.cols,vi d.sheet.rows,vi d.sheet.weight,vi d.sheet.clear,vi d.sheet.lean,v]
def SmallB (b:List (List Int)):Prop:=b.length≤1000∧∀ l,l∈b→l.length≤1000
theorem htwin_p (d:Dsn) (hs:SmallB d.band):PCalls Tryz.prog 116 [d.enc] (·=d.enc):=by
  obtain ⟨hb,hl⟩:=hs
  refine pcalls_of_aw Tryz.func116 rfl (dc rfl) ?_
  (repeat' (first|(refine ar_isq ?_;refine zq ?_)|(refine ar_fcall fn154 rfl rfl (.cons (.closed rfl) .nil) (cloneB_p d.band hb) (dc rfl) ?_;rintro n0 g0 ⟨rfl,hg0⟩)|refine zcl ?_|refine zcs ?_|refine zst ?_|refine aw_drawn (id:=5) [(0,0),(1,0),(2,0),(3,0),(4,0),(5,0),(6,1),(7,0),(8,2)] mixed (by kernel_rfl) ?_|refine zco ?_ ?_|exact zd|(intro hg;(try replace hg:=HG.out hg);(try dsimp only at hg);(try (have _h:True:=hg;clear _h hg)))))
  refine aw_for d.band.length (fun _=>True) (fun k=>[(1,.ptr 7 0 0 0),(2,.ptr 7 1 0 0),(10,.sl 1 2 0 d.band.length),(11,vi d.band.length),(12,vi k)]) (fun _=>[.arr 7 1 (fun _=>d.cs (.sl 1 2 0 d.band.length)),.arr 7 1 (fun _=>Dsn.enc ⟨0,⟨0,0,0,0,0⟩,[]⟩),LB 1 encInts d.band]) trivial ?_ ?_
  · (refine sub_to [some 0,some 1,some 2] [] rfl ?_ ?_<;>(repeat' (first|exact trivial|refine ⟨⟨_,rfl,?_⟩,?_⟩|refine vs1 ?_ ?_|refine vs2 ?_ ?_|refine vs3 ?_|refine vs4 ?_ ?_|refine ⟨.inl ⟨_,_,rfl,rfl,?_⟩,?_⟩|exact ⟨.inr ⟨rfl,rfl⟩,trivial⟩|refine ⟨.inr ⟨rfl,rfl⟩,?_⟩|(intro _ _)|exact vz1|(first|exact VSub.of_eq (hg0 _ (by assumption)) rfl|exact VSub.aggL ⟨.closed rfl,.closed rfl,.closed rfl,.closed rfl,.closed rfl,.closed rfl,.sl rfl,trivial⟩|exact VSub.aggL ⟨.closed rfl,.closed rfl,.closed rfl,.closed rfl,.closed rfl,.closed rfl,.nilList,trivial⟩)|exact vz2)))
  clear hg0 g0
  intro k hk _
  by_cases hlt:k<d.band.length
  · have hll:=hl _ (el_mem hlt)
    (repeat' (first|(refine ar_isq ?_;refine zq ?_)|refine zil (j:=k) ?_|refine zis (j:=k) ?_|refine zit (j:=k) ?_|refine ar_q (qs_slice00 (ty rfl) rfl (ty rfl) rfl rfl rfl) (dc rfl) ?_|refine zcl ?_|refine zcs ?_|refine zst ?_|refine aw_drawn (id:=5) [(0,0),(1,0),(2,0),(3,0),(4,0),(5,0),(6,1),(7,0),(8,2)] mixed (by kernel_rfl) ?_|refine zco ?_ ?_|exact zd|(intro hg;(try replace hg:=HG.out hg);(try dsimp only at hg);(try (have _h:True:=hg;clear _h hg)))))
    all_goals first
      | (exfalso;omega)
      | ((first|refine loop_next (by omega) ?_ ?_|refine (show _∧_∧SubOf _ _ _ _ _ _ from And.intro (by omega) (And.intro ?_ ?_)));(focus ((exact trivial);done));(focus (exact zsc [some 0,some 1,some 2] [3])))
      | trace_state
  · (repeat' (first|(refine ar_isq ?_;refine zq ?_)|refine zcl ?_|refine zcs ?_|refine zst ?_|refine aw_drawn (id:=5) [(0,0),(1,0),(2,0),(3,0),(4,0),(5,0),(6,1),(7,0),(8,2)] mixed (by kernel_rfl) ?_|refine zco ?_ ?_|exact zd|(intro hg;(try replace hg:=HG.out hg);(try dsimp only at hg);(try (have _h:True:=hg;clear _h hg)))))
    all_goals first
      | (exfalso;omega)
      | ((refine aw_mono_r (env':=[(2,.ptr 7 0 0 0)]) (H':=[.arr 7 1 (fun _=>d.enc)]) ?_ ?_;(focus (exact zsc [some 1] [2])))
         refine aw_ret ?_
         exact bq1c (f:=fun _=>d.enc) (v:=d.enc) (ty rfl) rfl rfl Nat.one_pos rfl ⟨rfl,rfl⟩)
      | trace_state
theorem good_p (d:Dsn):PCalls Tryz.prog 122 [d.enc] (·=vb (decide (GoodD d))):=by
  have e0:∀ b:Bool,(b=true↔GoodD d)→vb b=vb (decide (GoodD d)):=fun b h=>by
    by_cases hg:GoodD d
    · rw [decide_eq_true hg,h.2 hg]
    · rw [decide_eq_false hg];cases b with|false=>rfl|true=>exact (hg (h.1 rfl)).elim
  refine pcalls_of_aw Tryz.func122 rfl (dc rfl) ?_
  (repeat' (first|(refine ar_isq ?_;refine zq ?_)|(((refine ar_subk_l (sub_frzL (t:=7) vi ([d.owner]) rfl rfl rfl rfl (fun _ _=>rfl) (fun _=>rfl)) ?_);refine zpv fn56 (hfrom_p _ _ [d.owner]) ?_))|refine ar_buildLE vi ([d.owner]) (by exact ty rfl) (by exact rfl) (by exact ty rfl) (by exact rfl) (by exact rfl) (by exact Nat.succ_pos _) (by exact rfl) (by exact dc rfl) (by exact rfl) (by exact fun _=>⟨rfl,rfl⟩) (by exact dc rfl) ?_|(refine zpv fn58 (check_p d.sheet d.band) ?_)|(refine zpv fn109 (lGap_p d.sheet d.band) ?_)|refine zg ?_ ?_|refine zgu ?_|refine zst ?_|refine zco ?_ ?_|(intro hg;first|exact absurd hg (by decide)|((try replace hg:=HG.out hg);(try dsimp only at hg);(try rw [fromB_one] at hg);(try rw [withinB_iff] at hg);(try rw [withinB_no] at hg);(try (have _h:True:=hg;clear _h hg));first|(exfalso;omega)|skip))))
  all_goals first
    | (exfalso;omega)
    | ((refine aw_mono_r (env':=[(2,vb false)]) (H':=[]) ?_ ?_;(focus (exact zsb [] [])));(refine aw_ret ?_;(repeat (first|refine ret_then ?_|refine ret_block ?_));refine bq1 rfl ⟨?_,rfl⟩);refine e0 false ⟨fun h=>(by cases h),fun h=>?_⟩;unfold GoodD at h;omega)
    | ((refine aw_mono_r (env':=[(2,vb true)]) (H':=[]) ?_ ?_;(focus (exact zsb [] [])));(refine aw_ret ?_;(repeat (first|refine ret_then ?_|refine ret_block ?_));refine bq1 rfl ⟨?_,rfl⟩);refine e0 true ⟨fun _=>?_,fun _=>rfl⟩;unfold GoodD;omega)
    | ((refine aw_mono_r (env':=[(2,vb (decide (0<gapF d.sheet d.band)))]) (H':=[]) ?_ ?_;(focus (exact zsb [] [])));(refine aw_ret ?_;(repeat (first|refine ret_then ?_|refine ret_block ?_));refine bq1 rfl ⟨?_,rfl⟩);refine e0 _ ⟨fun h=>?_,fun h=>?_⟩;(focus (have:=of_decide_eq_true h;unfold GoodD;omega));(focus (unfold GoodD at h;exact decide_eq_true (by omega))))
    | trace_state
end Go.Proofs.YtbilpbabdgfblaaGreat
