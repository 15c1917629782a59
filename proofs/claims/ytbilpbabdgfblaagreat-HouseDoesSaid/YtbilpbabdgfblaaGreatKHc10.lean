/- Parts of the proof: a layer of values over the model, and contracts of functions. No condition. -/
import Derived.Test.YtbilpbabdgfblaaGreatKHc9
set_option maxHeartbeats 16000000
set_option linter.unusedSimpArgs false
set_option linter.unusedVariables false
namespace Go.Proofs.YtbilpbabdgfblaaGreat
open Go.RowKit
theorem gapErr_check {s:Sheet}{b:List (List Int)}(h:checkErr s b≠0):gapErr s b=checkErr s b:=by simp [gapErr,h]
theorem gapErr_few {s:Sheet}{b:List (List Int)}(h:checkErr s b=0) (h2:b.length<2):gapErr s b=6:=by simp [gapErr,h,h2]
theorem gapErr_ok {s:Sheet}{b:List (List Int)}(h:checkErr s b=0) (h2:¬ b.length<2):gapErr s b=0:=by simp [gapErr,h,h2]
theorem gapF_bad {s:Sheet}{b:List (List Int)}(h:gapErr s b≠0):gapF s b=0:=by simp [gapF,h]
theorem gapF_ok {s:Sheet}{b:List (List Int)}(h:gapErr s b=0):gapF s b=gapTo s b (b.length-1):=by simp [gapF,h]
def encGap (s:Sheet) (b:List (List Int)):V:=.tup [vi (gapF s b),vi (gapErr s b)]
theorem gap_next {s:Sheet}{b:List (List Int)}{k c:Nat}{x y z:Int}(hx:x=gapRow s b k (gapTo s b k) c) (hy:y=el (el b (k+1)) c) (hz:z=el (el b k) c):min x (y-z-s.weight)=gapRow s b k (gapTo s b k) (c+1):=by
  subst hx hy hz
  rw [gapRow_succ,gapAt]
theorem lGap_p (s:Sheet) (b:List (List Int)):PCalls Tryz.prog 109 [s.enc,encRows b] (·=encGap s b):=by
  by_cases hce:checkErr s b=0
  · by_cases h2:b.length<2
    · have he:=gapErr_few hce h2
      rw [encGap,gapF_bad (by omega),he]
      refine pcalls_of_aw Tryz.func109 rfl (dc rfl) ?_
      (repeat' (first|(refine ar_isq ?_;refine zq ?_)|(refine zpv fn58 (check_p s b) ?_)|refine zcl ?_|refine zcs ?_|refine zst ?_|refine aw_drawn (id:=13) [(0,0),(1,0),(2,0),(3,0),(4,0),(5,0),(6,0),(7,0),(8,0),(9,0),(10,0),(11,0),(12,0),(13,0),(14,0)] mixed (by kernel_rfl) ?_|refine zco ?_ ?_|exact zd|(refine fun (hg:(_:Prop))=>?_;(try replace hg:=HG.out hg);(try dsimp only at hg);(try (have _h:True:=hg;clear _h hg)))))
      all_goals first
        | (exfalso;omega)
        | ((refine aw_ret ?_;(repeat (first|refine ret_then ?_|refine ret_block ?_));refine bq2 rfl rfl ⟨?_,rfl⟩);rfl)
    · have he:=gapErr_ok hce h2
      rw [encGap,gapF_ok he,he]
      obtain ⟨hs,h12,hl⟩:=band_of_check hce
      have hbd:=Sheet.bounds hs
      refine pcalls_of_aw Tryz.func109 rfl (dc rfl) ?_
      (repeat' (first|(refine ar_isq ?_;refine zq ?_)|(refine zpv fn58 (check_p s b) ?_)|refine zcl (a:=1) (b:=b.length) ?_|refine zcs (a:=1) (b:=b.length) ?_|refine zst ?_|refine aw_drawn (id:=13) [(0,0),(1,0),(2,0),(3,0),(4,0),(5,0),(6,0),(7,0),(8,0),(9,0),(10,0),(11,0),(12,0),(13,0),(14,0)] mixed (by kernel_rfl) ?_|refine zco ?_ ?_|exact zd|(refine fun (hg:(_:Prop))=>?_;(try replace hg:=HG.out hg);(try dsimp only at hg);(try (have _h:True:=hg;clear _h hg)))))
      all_goals (try (exfalso;omega))
      refine aw_for (b.length-1) (fun _=>True) (fun k=>[(1,encRows b),(2,.ptr 5 0 0 0),(7,vi (gapTo s b k)),(24,.list 1 (b.length-1) (fun j=>encInts (el b (1+j)))),(25,vi ((b.length-1:Nat):Int)),(26,vi k)]) (fun _=>[.arr 5 1 (fun _=>s.enc)]) trivial ?_ ?_
      · (exact zsb [some 0] [])
      intro k hk _
      by_cases hlt:k<b.length-1
      · have e1:1+k=k+1:=Nat.add_comm _ _
        have ha1:=of_all_el hl (k:=1+k) (by omega)
        have ha0:=of_all_el hl (k:=k) (by omega)
        have hn1:=isLine_len ha1
        have hn0:=isLine_len ha0
        (repeat' (first|(refine ar_isq ?_;refine zq ?_)|refine zil (j:=k) ?_|refine zis (j:=k) ?_|refine zit (j:=k) ?_|refine zcl ?_|refine zcs ?_|refine zst ?_|refine aw_drawn (id:=13) [(0,0),(1,0),(2,0),(3,0),(4,0),(5,0),(6,0),(7,0),(8,0),(9,0),(10,0),(11,0),(12,0),(13,0),(14,0)] mixed (by kernel_rfl) ?_|refine zco ?_ ?_|exact zd|(refine fun (hg:(_:Prop))=>?_;(try replace hg:=HG.out hg);(try dsimp only at hg);(try (have _h:True:=hg;clear _h hg)))))
        all_goals (try (exfalso;omega))
        refine aw_for (el b (1+k)).length (fun _=>True) (fun c=>[(1,encRows b),(2,.ptr 5 0 0 0),(7,vi (gapRow s b k (gapTo s b k) c)),(8,vi k),(24,.list 1 (b.length-1) (fun j=>encInts (el b (1+j)))),(25,vi ((b.length-1:Nat):Int)),(26,vi k),(31,encInts (el b (1+k))),(32,vi (el b (1+k)).length),(33,vi c)]) (fun _=>[.arr 5 1 (fun _=>s.enc)]) trivial ?_ ?_
        · (exact zsb [some 0] [])
        intro c hc _
        by_cases hltc:c<(el b (1+k)).length
        · have hv1:=isLine_at ha1 (j:=c) (by omega)
          have hv0:=isLine_at ha0 (j:=c) (by omega)
          (repeat' (first|(refine ar_isq ?_;refine zq ?_)|refine zil (j:=c) ?_|refine zis (j:=c) ?_|refine zit (j:=c) ?_|refine zil (j:=k) ?_|refine zis (j:=k) ?_|refine zit (j:=k) ?_|refine zcl ?_|refine zcs ?_|refine zst ?_|refine aw_drawn (id:=13) [(0,0),(1,0),(2,0),(3,0),(4,0),(5,0),(6,0),(7,0),(8,0),(9,0),(10,0),(11,0),(12,0),(13,0),(14,0)] mixed (by kernel_rfl) ?_|refine zco ?_ ?_|exact zd|(refine fun (hg:(_:Prop))=>?_;(try replace hg:=HG.out hg);(try dsimp only at hg);(try (have _h:True:=hg;clear _h hg)))))
          all_goals first
            | (exfalso;omega)
            | ((first|refine loop_next (by omega) ?_ ?_|refine (show _∧_∧SubOf _ _ _ _ _ _ from And.intro (by omega) (And.intro ?_ ?_)));(focus ((trivial);done));(focus ((refine sub_to [some 0] [] rfl ?_ ?_<;>(repeat' (first|exact trivial|refine ⟨⟨_,rfl,?_⟩,?_⟩|refine vs1 ?_ ?_|refine vs2 ?_ ?_|refine vs3 ?_|refine vs4 ?_ ?_|refine ⟨.inl ⟨_,_,rfl,rfl,?_⟩,?_⟩|exact ⟨.inr ⟨rfl,rfl⟩,trivial⟩|refine ⟨.inr ⟨rfl,rfl⟩,?_⟩|(intro _ _)|exact vz1|(exact siEq (gap_next rfl (by rw [e1]) rfl))|exact vz2|fail)));done)))
        · (repeat' (first|(refine ar_isq ?_;refine zq ?_)|refine zcl ?_|refine zcs ?_|refine zst ?_|refine aw_drawn (id:=13) [(0,0),(1,0),(2,0),(3,0),(4,0),(5,0),(6,0),(7,0),(8,0),(9,0),(10,0),(11,0),(12,0),(13,0),(14,0)] mixed (by kernel_rfl) ?_|refine zco ?_ ?_|exact zd|(refine fun (hg:(_:Prop))=>?_;(try replace hg:=HG.out hg);(try dsimp only at hg);(try (have _h:True:=hg;clear _h hg)))))
          all_goals first
            | (exfalso;omega)
            | (rw [gapTo_succ,show s.cols.toNat=c by omega];((first|refine loop_next (by omega) ?_ ?_|refine (show _∧_∧SubOf _ _ _ _ _ _ from And.intro (by omega) (And.intro ?_ ?_)));(focus ((trivial);done));(focus (exact zsb [some 0] []))))
      · (repeat' (first|(refine ar_isq ?_;refine zq ?_)|refine zcl ?_|refine zcs ?_|refine zst ?_|refine aw_drawn (id:=13) [(0,0),(1,0),(2,0),(3,0),(4,0),(5,0),(6,0),(7,0),(8,0),(9,0),(10,0),(11,0),(12,0),(13,0),(14,0)] mixed (by kernel_rfl) ?_|refine zco ?_ ?_|exact zd|(refine fun (hg:(_:Prop))=>?_;(try replace hg:=HG.out hg);(try dsimp only at hg);(try (have _h:True:=hg;clear _h hg)))))
        all_goals first
          | (exfalso;omega)
          | ((refine aw_mono_r (env':=[(4,vi (gapTo s b k)),(5,vi 0)]) (H':=[]) ?_ ?_;(focus (exact zsb [] [])));(refine aw_ret ?_;(repeat (first|refine ret_then ?_|refine ret_block ?_));refine bq2 rfl rfl ⟨?_,rfl⟩);rw [show k=b.length-1 by omega];try rfl)
  · have he:=gapErr_check hce
    rw [encGap,gapF_bad (by omega),he]
    refine pcalls_of_aw Tryz.func109 rfl (dc rfl) ?_
    (repeat' (first|(refine ar_isq ?_;refine zq ?_)|(refine zpv fn58 (check_p s b) ?_)|refine zcl ?_|refine zcs ?_|refine zst ?_|refine aw_drawn (id:=13) [(0,0),(1,0),(2,0),(3,0),(4,0),(5,0),(6,0),(7,0),(8,0),(9,0),(10,0),(11,0),(12,0),(13,0),(14,0)] mixed (by kernel_rfl) ?_|refine zco ?_ ?_|exact zd|(refine fun (hg:(_:Prop))=>?_;(try replace hg:=HG.out hg);(try dsimp only at hg);(try (have _h:True:=hg;clear _h hg)))))
    all_goals first
      | (exfalso;omega)
      | ((refine aw_ret ?_;(repeat (first|refine ret_then ?_|refine ret_block ?_));refine bq2 rfl rfl ⟨?_,rfl⟩);rfl)
theorem rGap_p (s:Sheet) (b:List (List Int)):PCalls Tryz.prog 145 [s.enc,encRows b] (·=encGap s b):=by
  by_cases hce:checkErr s b=0
  · by_cases h2:b.length<2
    · have he:=gapErr_few hce h2
      rw [encGap,gapF_bad (by omega),he]
      refine pcalls_of_aw Tryz.func145 rfl (dc rfl) ?_
      (repeat' (first|(refine ar_isq ?_;refine zq ?_)|(refine zpv fn137 (rCheck_p s b) ?_)|refine zst ?_|refine aw_drawn (id:=13) [(0,0),(1,0),(2,0),(3,0),(4,0),(5,0),(6,0),(7,0),(8,0),(9,0),(10,0),(11,0),(12,0),(13,0),(14,0),(15,0),(16,0),(17,0),(18,0),(19,0),(20,0),(21,0)] mixed (by kernel_rfl) ?_|refine zco ?_ ?_|exact zd|(refine fun (hg:(_:Prop))=>?_;(try replace hg:=HG.out hg);(try dsimp only at hg);(try (have _h:True:=hg;clear _h hg)))))
      all_goals first
        | (exfalso;omega)
        | ((refine aw_ret ?_;(repeat (first|refine ret_then ?_|refine ret_block ?_));refine bq2 rfl rfl ⟨?_,rfl⟩);rfl)
    · have he:=gapErr_ok hce h2
      rw [encGap,gapF_ok he,he]
      obtain ⟨hs,h12,hl⟩:=band_of_check hce
      have hbd:=Sheet.bounds hs
      refine pcalls_of_aw Tryz.func145 rfl (dc rfl) ?_
      (repeat' (first|(refine ar_isq ?_;refine zq ?_)|(refine zpv fn137 (rCheck_p s b) ?_)|refine zst ?_|refine aw_drawn (id:=13) [(0,0),(1,0),(2,0),(3,0),(4,0),(5,0),(6,0),(7,0),(8,0),(9,0),(10,0),(11,0),(12,0),(13,0),(14,0),(15,0),(16,0),(17,0),(18,0),(19,0),(20,0),(21,0)] mixed (by kernel_rfl) ?_|refine zco ?_ ?_|exact zd|(refine fun (hg:(_:Prop))=>?_;(try replace hg:=HG.out hg);(try dsimp only at hg);(try (have _h:True:=hg;clear _h hg)))))
      all_goals (try (exfalso;omega))
      refine aw_for (b.length-1) (fun _=>True) (fun k=>[(1,encRows b),(2,.ptr 5 0 0 0),(7,vi (gapTo s b k)),(8,vi (k+1))]) (fun _=>[.arr 5 1 (fun _=>s.enc)]) trivial ?_ ?_
      · (exact zsb [some 0] [])
      intro k hk _
      by_cases hlt:k<b.length-1
      · have ha1:=of_all_el hl (k:=k+1) (by omega)
        have ha0:=of_all_el hl (k:=k) (by omega)
        have hn1:=isLine_len ha1
        have hn0:=isLine_len ha0
        (repeat' (first|(refine ar_isq ?_;refine zq ?_)|refine zst ?_|refine aw_drawn (id:=13) [(0,0),(1,0),(2,0),(3,0),(4,0),(5,0),(6,0),(7,0),(8,0),(9,0),(10,0),(11,0),(12,0),(13,0),(14,0),(15,0),(16,0),(17,0),(18,0),(19,0),(20,0),(21,0)] mixed (by kernel_rfl) ?_|refine zco ?_ ?_|exact zd|(refine fun (hg:(_:Prop))=>?_;(try replace hg:=HG.out hg);(try dsimp only at hg);(try (have _h:True:=hg;clear _h hg)))))
        all_goals (try (exfalso;omega))
        refine aw_for s.cols.toNat (fun _=>True) (fun c=>[(1,encRows b),(2,.ptr 5 0 0 0),(7,vi (gapRow s b k (gapTo s b k) c)),(8,vi (k+1)),(9,vi c)]) (fun _=>[.arr 5 1 (fun _=>s.enc)]) trivial ?_ ?_
        · (exact zsb [some 0] [])
        intro c hc _
        by_cases hltc:c<s.cols.toNat
        · have hv1:=isLine_at ha1 (j:=c) (by omega)
          have hv0:=isLine_at ha0 (j:=c) (by omega)
          (repeat' (first|(refine ar_isq ?_;refine zq ?_)|refine zil (j:=k+1) ?_|refine zis (j:=k+1) ?_|refine zit (j:=k+1) ?_|refine zil (j:=c) ?_|refine zis (j:=c) ?_|refine zit (j:=c) ?_|refine zil (j:=k) ?_|refine zis (j:=k) ?_|refine zit (j:=k) ?_|refine zst ?_|refine aw_drawn (id:=13) [(0,0),(1,0),(2,0),(3,0),(4,0),(5,0),(6,0),(7,0),(8,0),(9,0),(10,0),(11,0),(12,0),(13,0),(14,0),(15,0),(16,0),(17,0),(18,0),(19,0),(20,0),(21,0)] mixed (by kernel_rfl) ?_|refine zco ?_ ?_|exact zd|(refine fun (hg:(_:Prop))=>?_;(try replace hg:=HG.out hg);(try dsimp only at hg);(try (have _h:True:=hg;clear _h hg)))))
          all_goals first
            | (exfalso;omega)
            | ((first|refine loop_next (by omega) ?_ ?_|refine (show _∧_∧SubOf _ _ _ _ _ _ from And.intro (by omega) (And.intro ?_ ?_)));(focus ((trivial);done));(focus ((refine sub_to [some 0] [] rfl ?_ ?_<;>(repeat' (first|exact trivial|refine ⟨⟨_,rfl,?_⟩,?_⟩|refine vs1 ?_ ?_|refine vs2 ?_ ?_|refine vs3 ?_|refine vs4 ?_ ?_|refine ⟨.inl ⟨_,_,rfl,rfl,?_⟩,?_⟩|exact ⟨.inr ⟨rfl,rfl⟩,trivial⟩|refine ⟨.inr ⟨rfl,rfl⟩,?_⟩|(intro _ _)|exact vz1|(exact siEq (gap_next rfl rfl rfl))|exact vz2|fail)));done)))
        · (repeat' (first|(refine ar_isq ?_;refine zq ?_)|refine zst ?_|refine aw_drawn (id:=13) [(0,0),(1,0),(2,0),(3,0),(4,0),(5,0),(6,0),(7,0),(8,0),(9,0),(10,0),(11,0),(12,0),(13,0),(14,0),(15,0),(16,0),(17,0),(18,0),(19,0),(20,0),(21,0)] mixed (by kernel_rfl) ?_|refine zco ?_ ?_|exact zd|(refine fun (hg:(_:Prop))=>?_;(try replace hg:=HG.out hg);(try dsimp only at hg);(try (have _h:True:=hg;clear _h hg)))))
          all_goals first
            | (exfalso;omega)
            | (rw [gapTo_succ,show s.cols.toNat=c by omega];((first|refine loop_next (by omega) ?_ ?_|refine (show _∧_∧SubOf _ _ _ _ _ _ from And.intro (by omega) (And.intro ?_ ?_)));(focus ((trivial);done));(focus (exact zsb [some 0] []))))
      · (repeat' (first|(refine ar_isq ?_;refine zq ?_)|refine zst ?_|refine aw_drawn (id:=13) [(0,0),(1,0),(2,0),(3,0),(4,0),(5,0),(6,0),(7,0),(8,0),(9,0),(10,0),(11,0),(12,0),(13,0),(14,0),(15,0),(16,0),(17,0),(18,0),(19,0),(20,0),(21,0)] mixed (by kernel_rfl) ?_|refine zco ?_ ?_|exact zd|(refine fun (hg:(_:Prop))=>?_;(try replace hg:=HG.out hg);(try dsimp only at hg);(try (have _h:True:=hg;clear _h hg)))))
        all_goals first
          | (exfalso;omega)
          | ((refine aw_mono_r (env':=[(4,vi (gapTo s b k)),(5,vi 0)]) (H':=[]) ?_ ?_;(focus (exact zsb [] [])));(refine aw_ret ?_;(repeat (first|refine ret_then ?_|refine ret_block ?_));refine bq2 rfl rfl ⟨?_,rfl⟩);rw [show k=b.length-1 by omega];try rfl)
  · have he:=gapErr_check hce
    rw [encGap,gapF_bad (by omega),he]
    refine pcalls_of_aw Tryz.func145 rfl (dc rfl) ?_
    (repeat' (first|(refine ar_isq ?_;refine zq ?_)|(refine zpv fn137 (rCheck_p s b) ?_)|refine zst ?_|refine aw_drawn (id:=13) [(0,0),(1,0),(2,0),(3,0),(4,0),(5,0),(6,0),(7,0),(8,0),(9,0),(10,0),(11,0),(12,0),(13,0),(14,0),(15,0),(16,0),(17,0),(18,0),(19,0),(20,0),(21,0)] mixed (by kernel_rfl) ?_|refine zco ?_ ?_|exact zd|(refine fun (hg:(_:Prop))=>?_;(try replace hg:=HG.out hg);(try dsimp only at hg);(try (have _h:True:=hg;clear _h hg)))))
    all_goals first
      | (exfalso;omega)
      | ((refine aw_ret ?_;(repeat (first|refine ret_then ?_|refine ret_block ?_));refine bq2 rfl rfl ⟨?_,rfl⟩);rfl)
theorem lastErr_gap {s:Sheet}{b:List (List Int)}{per:Int}(h:gapErr s b≠0):lastErr s b per=gapErr s b:=by simp [lastErr,h]
theorem lastErr_arg {s:Sheet}{b:List (List Int)}{per:Int}(h:gapErr s b=0) (h2:withinB per 1 1000=false):lastErr s b per=2:=by simp [lastErr,h,h2]
theorem lastErr_none {s:Sheet}{b:List (List Int)}{per:Int}(h:gapErr s b=0) (h2:withinB per 1 1000=true) (h3:gapF s b=0):lastErr s b per=6:=by simp [lastErr,h,h2,h3]
theorem lastErr_ok {s:Sheet}{b:List (List Int)}{per:Int}(h:gapErr s b=0) (h2:withinB per 1 1000=true) (h3:gapF s b≠0):lastErr s b per=0:=by simp [lastErr,h,h2,h3]
theorem lastF_bad {s:Sheet}{b:List (List Int)}{per:Int}(h:lastErr s b per≠0):lastF s b per=0:=by simp [lastF,h]
theorem lastF_ok {s:Sheet}{b:List (List Int)}{per:Int}(h:lastErr s b per=0):lastF s b per=(gapF s b+1)/2*per-1:=by simp [lastF,h]
def encLast (s:Sheet) (b:List (List Int)) (per:Int):V:=.tup [vi (lastF s b per),vi (lastErr s b per)]
theorem last_bnd {g p:Int}(hg:1≤g∧g≤60) (hp:1≤p∧p≤1000):1≤(g+1)/2*p∧(g+1)/2*p≤30000:=by
  have h1:1≤(g+1)/2∧(g+1)/2≤30:=by omega
  constructor
  · have:=Int.mul_le_mul h1.1 hp.1 (by omega) (by omega)
    omega
  · have:=Int.mul_le_mul h1.2 hp.2 (by omega) (by omega)
    omega
theorem lLasts_p (s:Sheet) (b:List (List Int)) (per:Int):PCalls Tryz.prog 64 [s.enc,encRows b,vi per] (·=encLast s b per):=by
  by_cases hge:gapErr s b=0
  · cases hp:withinB per 1 1000
    · have he:=lastErr_arg hge hp
      rw [encLast,lastF_bad (by omega),he]
      refine pcalls_of_aw Tryz.func64 rfl (dc rfl) ?_
      (repeat' (first|(refine ar_isq ?_;refine zq ?_)|(refine zpv fn109 (lGap_p s b) ?_)|(refine ar_pcall (own:=true) fn59 rfl rfl (.cons (.closed rfl) (.cons (.closed rfl) (.cons (.lent rfl rfl (by omega) (fun _ _=>rfl) (fun k hk=>match k,hk with|0,_=>rfl)) .nil))) (from1_p 1 1000 per) (by intros;subst_vars;rfl) (dc rfl) ?_;intro _ hv;subst hv)|refine zst ?_|refine zco ?_ ?_|exact zd|(refine fun (hg:(_:Prop))=>?_;(try replace hg:=HG.out hg);(try dsimp only at hg);(try (have _h:True:=hg;clear _h hg)))))
      all_goals first
        | (exfalso;simp_all;done)
        | ((refine aw_ret ?_;(repeat (first|refine ret_then ?_|refine ret_block ?_));refine bq2 rfl rfl ⟨?_,rfl⟩);rfl)
    · obtain ⟨hce,h2,hg0,hg60⟩:=gap_ok hge
      have hpb:=withinB_iff.1 hp
      by_cases hz:gapF s b=0
      · have he:=lastErr_none hge hp hz
        rw [encLast,lastF_bad (by omega),he]
        refine pcalls_of_aw Tryz.func64 rfl (dc rfl) ?_
        (repeat' (first|(refine ar_isq ?_;refine zq ?_)|(refine zpv fn109 (lGap_p s b) ?_)|(refine ar_pcall (own:=true) fn59 rfl rfl (.cons (.closed rfl) (.cons (.closed rfl) (.cons (.lent rfl rfl (by omega) (fun _ _=>rfl) (fun k hk=>match k,hk with|0,_=>rfl)) .nil))) (from1_p 1 1000 per) (by intros;subst_vars;rfl) (dc rfl) ?_;intro _ hv;subst hv)|refine zst ?_|refine zco ?_ ?_|exact zd|(refine fun (hg:(_:Prop))=>?_;(try replace hg:=HG.out hg);(try dsimp only at hg);(try (have _h:True:=hg;clear _h hg)))))
        all_goals first
          | (exfalso;simp_all;done)
          | ((refine aw_ret ?_;(repeat (first|refine ret_then ?_|refine ret_block ?_));refine bq2 rfl rfl ⟨?_,rfl⟩);rfl)
      · have he:=lastErr_ok hge hp hz
        rw [encLast,lastF_ok he,he]
        have hlb:=last_bnd (g:=gapF s b) (p:=per) (by omega) hpb
        refine pcalls_of_aw Tryz.func64 rfl (dc rfl) ?_
        (repeat' (first|(refine ar_isq ?_;refine zq ?_)|(refine zpv fn109 (lGap_p s b) ?_)|(refine ar_pcall (own:=true) fn59 rfl rfl (.cons (.closed rfl) (.cons (.closed rfl) (.cons (.lent rfl rfl (by omega) (fun _ _=>rfl) (fun k hk=>match k,hk with|0,_=>rfl)) .nil))) (from1_p 1 1000 per) (by intros;subst_vars;rfl) (dc rfl) ?_;intro _ hv;subst hv)|refine zst ?_|refine zco ?_ ?_|exact zd|(refine fun (hg:(_:Prop))=>?_;(try replace hg:=HG.out hg);(try dsimp only at hg);(try (have _h:True:=hg;clear _h hg)))))
        all_goals first
          | (exfalso;simp_all;done)
          | ((refine aw_ret ?_;(repeat (first|refine ret_then ?_|refine ret_block ?_));refine bq2 rfl rfl ⟨?_,rfl⟩);rfl)
  · have he:=lastErr_gap (per:=per) hge
    rw [encLast,lastF_bad (by omega),he]
    refine pcalls_of_aw Tryz.func64 rfl (dc rfl) ?_
    (repeat' (first|(refine ar_isq ?_;refine zq ?_)|(refine zpv fn109 (lGap_p s b) ?_)|refine zst ?_|refine zco ?_ ?_|exact zd|(refine fun (hg:(_:Prop))=>?_;(try replace hg:=HG.out hg);(try dsimp only at hg);(try (have _h:True:=hg;clear _h hg)))))
    all_goals first
      | (exfalso;omega)
      | ((refine aw_ret ?_;(repeat (first|refine ret_then ?_|refine ret_block ?_));refine bq2 rfl rfl ⟨?_,rfl⟩);rfl)
theorem rLasts_p (s:Sheet) (b:List (List Int)) (per:Int):PCalls Tryz.prog 167 [s.enc,encRows b,vi per] (·=encLast s b per):=by
  by_cases hge:gapErr s b=0
  · cases hp:withinB per 1 1000
    · have he:=lastErr_arg hge hp
      rw [encLast,lastF_bad (by omega),he]
      refine pcalls_of_aw Tryz.func167 rfl (dc rfl) ?_
      (repeat' (first|(refine ar_isq ?_;refine zq ?_)|(refine zpv fn145 (rGap_p s b) ?_)|(refine zpv fn141 (r8within_p _ _ _) ?_)|refine zst ?_|refine zco ?_ ?_|exact zd|(refine fun (hg:(_:Prop))=>?_;(try replace hg:=HG.out hg);(try dsimp only at hg);(try (have _h:True:=hg;clear _h hg)))))
      all_goals first
        | (exfalso;simp_all;done)
        | ((refine aw_ret ?_;(repeat (first|refine ret_then ?_|refine ret_block ?_));refine bq2 rfl rfl ⟨?_,rfl⟩);rfl)
    · obtain ⟨hce,h2,hg0,hg60⟩:=gap_ok hge
      have hpb:=withinB_iff.1 hp
      by_cases hz:gapF s b=0
      · have he:=lastErr_none hge hp hz
        rw [encLast,lastF_bad (by omega),he]
        refine pcalls_of_aw Tryz.func167 rfl (dc rfl) ?_
        (repeat' (first|(refine ar_isq ?_;refine zq ?_)|(refine zpv fn145 (rGap_p s b) ?_)|(refine zpv fn141 (r8within_p _ _ _) ?_)|refine zst ?_|refine zco ?_ ?_|exact zd|(refine fun (hg:(_:Prop))=>?_;(try replace hg:=HG.out hg);(try dsimp only at hg);(try (have _h:True:=hg;clear _h hg)))))
        all_goals first
          | (exfalso;simp_all;done)
          | ((refine aw_ret ?_;(repeat (first|refine ret_then ?_|refine ret_block ?_));refine bq2 rfl rfl ⟨?_,rfl⟩);rfl)
      · have he:=lastErr_ok hge hp hz
        rw [encLast,lastF_ok he,he]
        have hlb:=last_bnd (g:=gapF s b) (p:=per) (by omega) hpb
        obtain ⟨M,hM⟩:∃ M:Nat,(M:Int)=(gapF s b+1)/2*per-1:=⟨((gapF s b+1)/2*per-1).toNat,by omega⟩
        refine pcalls_of_aw Tryz.func167 rfl (dc rfl) ?_
        (repeat' (first|(refine ar_isq ?_;refine zq ?_)|(refine zpv fn145 (rGap_p s b) ?_)|(refine zpv fn141 (r8within_p _ _ _) ?_)|refine zst ?_|refine zco ?_ ?_|exact zd|(refine fun (hg:(_:Prop))=>?_;(try replace hg:=HG.out hg);(try dsimp only at hg);(try (have _h:True:=hg;clear _h hg)))))
        all_goals (try (exfalso;simp_all;done))
        refine aw_for M (fun _=>True) (fun n=>[(2,vi per),(8,vi (gapF s b)),(10,vi n)]) (fun _=>[]) trivial ?_ ?_
        · (exact zsb [] [])
        intro n hn _
        have hdv:0≤((n:Int)+1)/per∧((n:Int)+1)/per≤(n:Int)+1:=⟨Int.ediv_nonneg (by omega) (by omega),Int.ediv_le_self _ (by omega)⟩
        by_cases hlt:n<M
        · have hst:=last_step (g:=gapF s b) (p:=per) (n:=n) (by omega) hpb.1 (by omega) (by omega)
          (repeat' (first|(refine ar_isq ?_;refine zq ?_)|refine zst ?_|refine zco ?_ ?_|exact zd|(refine fun (hg:(_:Prop))=>?_;(try replace hg:=HG.out hg);(try dsimp only at hg);(try (have _h:True:=hg;clear _h hg)))))
          all_goals first
            | (exfalso;omega)
            | ((first|refine loop_next (by omega) ?_ ?_|refine (show _∧_∧SubOf _ _ _ _ _ _ from And.intro (by omega) (And.intro ?_ ?_)));(focus ((trivial);done));(focus (exact zsb [] [])))
        · obtain rfl:n=M:=by omega
          have hst:=last_end (g:=gapF s b) hpb.1
          rw [← hM] at hst
          (repeat' (first|(refine ar_isq ?_;refine zq ?_)|refine zst ?_|refine zco ?_ ?_|exact zd|(refine fun (hg:(_:Prop))=>?_;(try replace hg:=HG.out hg);(try dsimp only at hg);(try (have _h:True:=hg;clear _h hg)))))
          all_goals first
            | (exfalso;omega)
            | ((refine aw_ret ?_;(repeat (first|refine ret_then ?_|refine ret_block ?_));refine bq2 rfl rfl ⟨?_,rfl⟩);rw [hM];try rfl)
  · have he:=lastErr_gap (per:=per) hge
    rw [encLast,lastF_bad (by omega),he]
    refine pcalls_of_aw Tryz.func167 rfl (dc rfl) ?_
    (repeat' (first|(refine ar_isq ?_;refine zq ?_)|(refine zpv fn145 (rGap_p s b) ?_)|refine zst ?_|refine zco ?_ ?_|exact zd|(refine fun (hg:(_:Prop))=>?_;(try replace hg:=HG.out hg);(try dsimp only at hg);(try (have _h:True:=hg;clear _h hg)))))
    all_goals first
      | (exfalso;omega)
      | ((refine aw_ret ?_;(repeat (first|refine ret_then ?_|refine ret_block ?_));refine bq2 rfl rfl ⟨?_,rfl⟩);rfl)
theorem within8_p (n lo hi:Int):PCalls Tryz.prog 141 [vi n,vi lo,vi hi] (·=vb (withinB n lo hi)):=by
  refine pcalls_of_aw Tryz.func141 rfl (dc rfl) ?_
  (repeat' (first|(refine ar_isq ?_;refine zq ?_)|refine zg ?_ ?_|refine zgu ?_|refine zst ?_|refine zco ?_ ?_|exact zd|(refine fun (hg:(_:Prop))=>?_;(try replace hg:=HG.out hg);(try dsimp only at hg);(try (have _h:True:=hg;clear _h hg)))))
  all_goals (refine aw_ret ?_;(repeat (first|refine ret_then ?_|refine ret_block ?_));refine bq1 rfl ⟨?_,rfl⟩)
  all_goals (simp only [vb,constV,withinB];congr 2;simp;try omega)
theorem great8_p (s:Sto):PCalls Tryz.prog 48 [s.enc] (fun v=>v=vb true∨v=vb false∧s.items.length≤40∧s.prints.length≤500):=by
  refine pcalls_of_aw Tryz.func48 rfl (dc rfl) ?_
  (repeat' (first|(refine ar_isq ?_;refine zq ?_)|refine zg ?_ ?_|refine zgu ?_|refine zst ?_|refine zco ?_ ?_|exact zd|(refine fun (hg:(_:Prop))=>?_;(try replace hg:=HG.out hg);(try dsimp only at hg);(try (have _h:True:=hg;clear _h hg)))))
  all_goals first
    | ((refine aw_ret ?_;(repeat (first|refine ret_then ?_|refine ret_block ?_));refine bq1 rfl ?_);exact ⟨.inl rfl,rfl⟩)
    | ((refine aw_ret ?_;(repeat (first|refine ret_then ?_|refine ret_block ?_));refine bq1 rfl ?_);refine ⟨?_,rfl⟩;by_cases hgg:(500:Int)<(s.prints.length:Int);exact .inl (congrArg vb (decide_eq_true hgg));exact .inr ⟨congrArg vb (decide_eq_false hgg),by omega,by omega⟩)
    | trace_state
theorem made8_p (s:Sto) (i:Nat) (hi:i<s.items.length) (hn:s.items.length≤40):PCalls Tryz.prog 142 [s.enc,vi i] (·=vb (decide (Made s.items i))):=by
  refine pcalls_of_aw Tryz.func142 rfl (dc rfl) ?_
  (repeat' (first|(refine ar_isq ?_;refine zq ?_)|refine zil (j:=i) ?_|refine zis (j:=i) ?_|refine zit (j:=i) ?_|refine zil (j:=(el s.items i).src.toNat) ?_|refine zis (j:=(el s.items i).src.toNat) ?_|refine zit (j:=(el s.items i).src.toNat) ?_|(refine zpv fn141 (within8_p _ _ _) ?_)|refine zg ?_ ?_|refine zgu ?_|refine zst ?_|refine aw_drawn (id:=6) [(0,0),(1,0),(2,0),(3,0),(4,1),(5,0),(6,0),(7,0),(8,0),(9,0),(10,0),(11,0),(12,0),(13,0),(14,0),(15,0),(16,0),(17,0),(18,0)] mixed (by kernel_rfl) ?_|refine aw_drawn (id:=6) [(0,0),(1,0),(2,0),(3,0),(4,2),(5,0),(6,0),(7,0),(8,0),(9,0),(10,0),(11,0),(12,0),(13,0),(14,0),(15,0),(16,0),(17,0),(18,0)] mixed (by kernel_rfl) ?_|refine zco ?_ ?_|(refine fun (hg:(_:Prop))=>?_;first|exact absurd hg (by decide)|((try replace hg:=HG.out hg);(try dsimp only at hg);(try rw [withinB_iff] at hg);(try rw [withinB_no] at hg);(try (have _h:True:=hg;clear _h hg));first|(exfalso;omega)|skip))))
  all_goals first
    | ((refine aw_ret ?_;(repeat (first|refine ret_then ?_|refine ret_block ?_));refine bq1 rfl ⟨?_,rfl⟩);refine congrArg vb ?_;refine decide_eq_decide.2 ?_;unfold Made;constructor<;>intro h<;>omega)
    | ((refine aw_ret ?_;(repeat (first|refine ret_then ?_|refine ret_block ?_));refine bq1 rfl ⟨?_,rfl⟩);refine congrArg vb ?_;refine (decide_eq_false ?_).symm;unfold Made;omega)
    | ((refine aw_ret ?_;(repeat (first|refine ret_then ?_|refine ret_block ?_));refine bq1 rfl ⟨?_,rfl⟩);refine congrArg vb ?_;refine (decide_eq_true ?_).symm;unfold Made;omega)
    | trace_state
theorem placed8_p (s:Sto) (i:Nat) (hi:i<s.items.length) (hn:s.items.length≤40):PCalls Tryz.prog 143 [s.enc,vi i] (·=vb (decide (Placed s.items i))):=by
  refine pcalls_of_aw Tryz.func143 rfl (dc rfl) ?_
  (repeat' (first|(refine ar_isq ?_;refine zq ?_)|refine zil (j:=i) ?_|refine zis (j:=i) ?_|refine zit (j:=i) ?_|refine zil (j:=(el s.items i).src.toNat) ?_|refine zis (j:=(el s.items i).src.toNat) ?_|refine zit (j:=(el s.items i).src.toNat) ?_|(refine zpv fn141 (within8_p _ _ _) ?_)|refine zg ?_ ?_|refine zgu ?_|refine zst ?_|refine aw_drawn (id:=9) [(0,0),(1,0),(2,0),(3,0),(4,0),(5,0),(6,0),(7,0),(8,0),(9,0),(10,0),(11,0),(12,0),(13,0)] mixed (by kernel_rfl) ?_|refine zco ?_ ?_|(refine fun (hg:(_:Prop))=>?_;first|exact absurd hg (by decide)|((try replace hg:=HG.out hg);(try dsimp only at hg);(try rw [withinB_iff] at hg);(try rw [withinB_no] at hg);(try (have _h:True:=hg;clear _h hg));first|(exfalso;omega)|skip))))
  all_goals first
    | ((refine aw_ret ?_;(repeat (first|refine ret_then ?_|refine ret_block ?_));refine bq1 rfl ⟨?_,rfl⟩);refine congrArg vb ?_;refine (decide_eq_false ?_).symm;unfold Placed PlacedTo;intro h;simp_all;done)
    | ((refine aw_ret ?_;(repeat (first|refine ret_then ?_|refine ret_block ?_));refine bq1 rfl ⟨?_,rfl⟩);refine congrArg vb ?_;refine (decide_eq_false ?_).symm;unfold Placed PlacedTo;intro h;omega)
    | ((refine aw_ret ?_;(repeat (first|refine ret_then ?_|refine ret_block ?_));refine bq1 rfl ⟨?_,rfl⟩);refine congrArg vb ?_;refine (decide_eq_true ?_).symm;refine ⟨by omega,by simp_all,fun h=>by omega⟩)
    | skip
  all_goals (
    refine aw_for s.items.length (fun k=>∀ j,j<k→j≠i→(el s.items j).place≠(el s.items i).place) (fun k=>[(1,vi i),(2,.ptr 3 0 0 0),(5,.ptr 5 1 0 0),(6,vi k)]) (fun _=>[.arr 3 1 (fun _=>s.enc),.arr 5 1 (fun _=>(el s.items i).enc)]) (fun j hj=>by omega) ?_ ?_
    · (exact zsb [some 0,some 1] [])
    intro k hk hJ
    by_cases hlt:k<s.items.length
    · (repeat' (first|(refine ar_isq ?_;refine zq ?_)|refine zil (j:=k) ?_|refine zis (j:=k) ?_|refine zit (j:=k) ?_|refine zg ?_ ?_|refine zgu ?_|refine zst ?_|refine aw_drawn (id:=9) [(0,0),(1,0),(2,0),(3,0),(4,0),(5,0),(6,0),(7,0),(8,0),(9,0),(10,0),(11,0),(12,0),(13,0)] mixed (by kernel_rfl) ?_|refine zco ?_ ?_|(refine fun (hg:(_:Prop))=>?_;first|exact absurd hg (by decide)|((try replace hg:=HG.out hg);(try dsimp only at hg);(try rw [withinB_iff] at hg);(try rw [withinB_no] at hg);(try (have _h:True:=hg;clear _h hg));first|(exfalso;omega)|skip))))
      all_goals first
        | (exfalso;omega)
        | ((refine aw_ret ?_;(repeat (first|refine ret_then ?_|refine ret_block ?_));refine bq1 rfl ⟨?_,rfl⟩);refine congrArg vb ?_;refine (decide_eq_false ?_).symm;unfold Placed PlacedTo;intro h;exact (h.2.2 (by omega)).2 k hlt (by omega) (by omega))
        | ((first|refine loop_next (by omega) ?_ ?_|refine (show _∧_∧SubOf _ _ _ _ _ _ from And.intro (by omega) (And.intro ?_ ?_)));(focus ((exact all_step hJ (fun hne=>by omega));done));(focus (exact zsb [some 0,some 1] [])))
        | trace_state
    · (repeat' (first|(refine ar_isq ?_;refine zq ?_)|refine zil (j:=k) ?_|refine zis (j:=k) ?_|refine zit (j:=k) ?_|refine zg ?_ ?_|refine zgu ?_|refine zst ?_|refine aw_drawn (id:=9) [(0,0),(1,0),(2,0),(3,0),(4,0),(5,0),(6,0),(7,0),(8,0),(9,0),(10,0),(11,0),(12,0),(13,0)] mixed (by kernel_rfl) ?_|refine zco ?_ ?_|(refine fun (hg:(_:Prop))=>?_;first|exact absurd hg (by decide)|((try replace hg:=HG.out hg);(try dsimp only at hg);(try rw [withinB_iff] at hg);(try rw [withinB_no] at hg);(try (have _h:True:=hg;clear _h hg));first|(exfalso;omega)|skip))))
      all_goals first
        | (exfalso;omega)
        | ((refine aw_ret ?_;(repeat (first|refine ret_then ?_|refine ret_block ?_));refine bq1 rfl ⟨?_,rfl⟩);refine congrArg vb ?_;refine decide_eq_decide.2 ?_;obtain rfl:k=s.items.length:=by omega
           constructor
           · intro h;refine ⟨by omega,by simp_all,fun _=>⟨h,hJ⟩⟩
           · intro h;exact (h.2.2 (by omega)).1)
        | trace_state)
theorem usedI_yes {l:List Itm}{i:Int}{k:Nat}(h:(el l k).src=i):usedI l i (k+1)=usedI l i k+1:=cntB_yes (by simpa using h)
theorem usedI_no {l:List Itm}{i:Int}{k:Nat}(h:¬ (el l k).src=i):usedI l i (k+1)=usedI l i k:=cntB_no (by simpa using h)
theorem usedP_yes {l:List Prt}{i:Int}{k:Nat}(h:(el l k).plate=i):usedP l i (k+1)=usedP l i k+1:=cntB_yes (by simpa using h)
theorem usedP_no {l:List Prt}{i:Int}{k:Nat}(h:¬ (el l k).plate=i):usedP l i (k+1)=usedP l i k:=cntB_no (by simpa using h)
theorem usedI_bnd (l:List Itm) (i:Int) (k:Nat):0≤usedI l i k∧usedI l i k≤k:=cntB_bnd k
theorem usedP_bnd (l:List Prt) (i:Int) (k:Nat):0≤usedP l i k∧usedP l i k≤k:=cntB_bnd k
theorem used8_p (s:Sto) (i:Int) (hn:s.items.length≤40) (hm:s.prints.length≤500):PCalls Tryz.prog 144 [s.enc,vi i] (·=vi (usedS s i)):=by
  refine pcalls_of_aw Tryz.func144 rfl (dc rfl) ?_
  (repeat' (first|(refine ar_isq ?_;refine zq ?_)|refine zst ?_|refine zco ?_ ?_|exact zd|(refine fun (hg:(_:Prop))=>?_;(try replace hg:=HG.out hg);(try dsimp only at hg);(try (have _h:True:=hg;clear _h hg)))))
  refine aw_for s.items.length (fun _=>True) (fun k=>[(1,vi i),(2,.ptr 3 0 0 0),(5,vi (usedI s.items i k)),(6,vi k)]) (fun _=>[.arr 3 1 (fun _=>s.enc)]) trivial ?_ ?_
  · (exact zsb [some 0] [])
  intro k hk _
  have hb:=usedI_bnd s.items i k
  by_cases hlt:k<s.items.length
  · (repeat' (first|(refine ar_isq ?_;refine zq ?_)|refine zil (j:=k) ?_|refine zis (j:=k) ?_|refine zit (j:=k) ?_|refine zst ?_|refine zco ?_ ?_|exact zd|(refine fun (hg:(_:Prop))=>?_;(try replace hg:=HG.out hg);(try dsimp only at hg);(try (have _h:True:=hg;clear _h hg)))))
    all_goals first
      | (exfalso;omega)
      | ((first|refine loop_next (by omega) ?_ ?_|refine (show _∧_∧SubOf _ _ _ _ _ _ from And.intro (by omega) (And.intro ?_ ?_)));(focus ((trivial);done));(focus ((refine sub_to [some 0] [] rfl ?_ ?_<;>(repeat' (first|exact trivial|refine ⟨⟨_,rfl,?_⟩,?_⟩|refine vs1 ?_ ?_|refine vs2 ?_ ?_|refine vs3 ?_|refine vs4 ?_ ?_|refine ⟨.inl ⟨_,_,rfl,rfl,?_⟩,?_⟩|exact ⟨.inr ⟨rfl,rfl⟩,trivial⟩|refine ⟨.inr ⟨rfl,rfl⟩,?_⟩|(intro _ _)|exact vz1|(exact siEq (by rw [usedI_yes (by omega)]))|exact vz2|fail)));done)))
      | ((first|refine loop_next (by omega) ?_ ?_|refine (show _∧_∧SubOf _ _ _ _ _ _ from And.intro (by omega) (And.intro ?_ ?_)));(focus ((trivial);done));(focus ((refine sub_to [some 0] [] rfl ?_ ?_<;>(repeat' (first|exact trivial|refine ⟨⟨_,rfl,?_⟩,?_⟩|refine vs1 ?_ ?_|refine vs2 ?_ ?_|refine vs3 ?_|refine vs4 ?_ ?_|refine ⟨.inl ⟨_,_,rfl,rfl,?_⟩,?_⟩|exact ⟨.inr ⟨rfl,rfl⟩,trivial⟩|refine ⟨.inr ⟨rfl,rfl⟩,?_⟩|(intro _ _)|exact vz1|(exact siEq (by rw [usedI_no (by omega)]))|exact vz2|fail)));done)))
      | trace_state
  · obtain rfl:k=s.items.length:=by omega
    (repeat' (first|(refine ar_isq ?_;refine zq ?_)|refine zil (j:=k) ?_|refine zis (j:=k) ?_|refine zit (j:=k) ?_|refine zst ?_|refine zco ?_ ?_|exact zd|(refine fun (hg:(_:Prop))=>?_;(try replace hg:=HG.out hg);(try dsimp only at hg);(try (have _h:True:=hg;clear _h hg)))))
    all_goals (try (exfalso;omega))
    refine aw_for s.prints.length (fun _=>True) (fun q=>[(1,vi i),(2,.ptr 3 0 0 0),(5,vi (usedI s.items i s.items.length+usedP s.prints i q)),(7,vi q)]) (fun _=>[.arr 3 1 (fun _=>s.enc)]) trivial ?_ ?_
    · (refine sub_to [some 0] [] rfl ?_ ?_<;>(repeat' (first|exact trivial|refine ⟨⟨_,rfl,?_⟩,?_⟩|refine vs1 ?_ ?_|refine vs2 ?_ ?_|refine vs3 ?_|refine vs4 ?_ ?_|refine ⟨.inl ⟨_,_,rfl,rfl,?_⟩,?_⟩|exact ⟨.inr ⟨rfl,rfl⟩,trivial⟩|refine ⟨.inr ⟨rfl,rfl⟩,?_⟩|(intro _ _)|exact vz1|(exact siEq (by simp [usedP,cntB]))|exact vz2|fail)))
    intro q hq _
    have hb2:=usedP_bnd s.prints i q
    by_cases hlq:q<s.prints.length
    · (repeat' (first|(refine ar_isq ?_;refine zq ?_)|refine zil (j:=q) ?_|refine zis (j:=q) ?_|refine zit (j:=q) ?_|refine zst ?_|refine zco ?_ ?_|exact zd|(refine fun (hg:(_:Prop))=>?_;(try replace hg:=HG.out hg);(try dsimp only at hg);(try (have _h:True:=hg;clear _h hg)))))
      all_goals first
        | (exfalso;omega)
        | ((first|refine loop_next (by omega) ?_ ?_|refine (show _∧_∧SubOf _ _ _ _ _ _ from And.intro (by omega) (And.intro ?_ ?_)));(focus ((trivial);done));(focus ((refine sub_to [some 0] [] rfl ?_ ?_<;>(repeat' (first|exact trivial|refine ⟨⟨_,rfl,?_⟩,?_⟩|refine vs1 ?_ ?_|refine vs2 ?_ ?_|refine vs3 ?_|refine vs4 ?_ ?_|refine ⟨.inl ⟨_,_,rfl,rfl,?_⟩,?_⟩|exact ⟨.inr ⟨rfl,rfl⟩,trivial⟩|refine ⟨.inr ⟨rfl,rfl⟩,?_⟩|(intro _ _)|exact vz1|(exact siEq (by rw [usedP_yes (by omega)];omega))|exact vz2|fail)));done)))
        | ((first|refine loop_next (by omega) ?_ ?_|refine (show _∧_∧SubOf _ _ _ _ _ _ from And.intro (by omega) (And.intro ?_ ?_)));(focus ((trivial);done));(focus ((refine sub_to [some 0] [] rfl ?_ ?_<;>(repeat' (first|exact trivial|refine ⟨⟨_,rfl,?_⟩,?_⟩|refine vs1 ?_ ?_|refine vs2 ?_ ?_|refine vs3 ?_|refine vs4 ?_ ?_|refine ⟨.inl ⟨_,_,rfl,rfl,?_⟩,?_⟩|exact ⟨.inr ⟨rfl,rfl⟩,trivial⟩|refine ⟨.inr ⟨rfl,rfl⟩,?_⟩|(intro _ _)|exact vz1|(exact siEq (by rw [usedP_no (by omega)]))|exact vz2|fail)));done)))
        | trace_state
    · obtain rfl:q=s.prints.length:=by omega
      (repeat' (first|(refine ar_isq ?_;refine zq ?_)|refine zst ?_|refine zco ?_ ?_|exact zd|(refine fun (hg:(_:Prop))=>?_;(try replace hg:=HG.out hg);(try dsimp only at hg);(try (have _h:True:=hg;clear _h hg)))))
      all_goals first
        | (exfalso;omega)
        | ((refine aw_ret ?_;(repeat (first|refine ret_then ?_|refine ret_block ?_));refine bq1 rfl ⟨?_,rfl⟩);rfl)
        | trace_state
theorem store8_p (s:Sto):PCalls Tryz.prog 94 [s.enc] (·=vb (decide (Valid s))):=by
  have bad:¬ Few s→decide (Valid s)=false:=fun h=>decide_eq_false fun v=>h v.1
  refine pcalls_of_aw Tryz.func94 rfl (dc rfl) ?_
  
  (repeat' (first|(refine ar_isq ?_;refine zq ?_)|(refine zpv fn141 (within8_p _ _ _) ?_)|refine zg ?_ ?_|refine zgu ?_|refine zst ?_|refine aw_drawn (id:=20) [(0,0),(1,0),(2,0),(3,0),(4,0),(5,0),(6,0),(7,0),(8,1),(9,0),(10,0),(11,0),(12,0),(13,0),(14,0),(15,0),(16,0),(17,0),(18,0),(19,0)] mixed (by kernel_rfl) ?_|refine zco ?_ ?_|(refine fun (hg:(_:Prop))=>?_;first|exact absurd hg (by decide)|((try replace hg:=HG.out hg);(try dsimp only at hg);(try rw [withinB_iff] at hg);(try rw [withinB_no] at hg);(try (have _h:True:=hg;clear _h hg));first|(exfalso;omega)|skip))))
  all_goals (try ((refine aw_ret ?_;(repeat (first|refine ret_then ?_|refine ret_block ?_));refine bq1 rfl ⟨?_,rfl⟩);refine congrArg vb (bad ?_).symm;unfold Few;omega))
  refine aw_for s.items.length (fun k=>∀ j,j<k→Made s.items j∧Placed s.items j) (fun k=>[(1,.ptr 3 0 0 0),(3,vi k)]) (fun _=>[.arr 3 1 (fun _=>s.enc)]) (fun j hj=>by omega) ?_ ?_
  · (exact zsb [some 0] [])
  intro k hk hJ
  by_cases hlt:k<s.items.length
  · 
    (repeat' (first|(refine ar_isq ?_;refine zq ?_)|refine zil (j:=k) ?_|refine zis (j:=k) ?_|refine zit (j:=k) ?_|(refine zpv fn142 (made8_p s k hlt (by omega)) ?_)|(refine zpv fn143 (placed8_p s k hlt (by omega)) ?_)|refine zg ?_ ?_|refine zgu ?_|refine zst ?_|refine aw_drawn (id:=20) [(0,0),(1,0),(2,0),(3,0),(4,0),(5,0),(6,0),(7,0),(8,1),(9,0),(10,0),(11,0),(12,0),(13,0),(14,0),(15,0),(16,0),(17,0),(18,0),(19,0)] mixed (by kernel_rfl) ?_|refine zco ?_ ?_|(refine fun (hg:(_:Prop))=>?_;first|exact absurd hg (by decide)|((try replace hg:=HG.out hg);(try dsimp only at hg);(try rw [decide_eq_true_iff] at hg);(try rw [decide_eq_false_iff_not] at hg);(try (have _h:True:=hg;clear _h hg));first|(exfalso;omega)|skip))))
    all_goals first
      | (exfalso;omega)
      | ((refine aw_ret ?_;(repeat (first|refine ret_then ?_|refine ret_block ?_));refine bq1 rfl ⟨?_,rfl⟩);refine congrArg vb (decide_eq_false fun v=>?_).symm;exact absurd (v.2.1 k hlt) (by assumption))
      | ((refine aw_ret ?_;(repeat (first|refine ret_then ?_|refine ret_block ?_));refine bq1 rfl ⟨?_,rfl⟩);refine congrArg vb (decide_eq_false fun v=>?_).symm;exact absurd (v.2.2.1 k hlt) (by assumption))
      | ((first|refine loop_next (by omega) ?_ ?_|refine (show _∧_∧SubOf _ _ _ _ _ _ from And.intro (by omega) (And.intro ?_ ?_)));(focus ((exact all_step hJ ⟨by assumption,by assumption⟩);done));(focus (exact zsb [some 0] [])))
      | trace_state
  · 
    (repeat' (first|(refine ar_isq ?_;refine zq ?_)|refine zil (j:=k) ?_|refine zis (j:=k) ?_|refine zit (j:=k) ?_|refine zg ?_ ?_|refine zgu ?_|refine zst ?_|refine aw_drawn (id:=20) [(0,0),(1,0),(2,0),(3,0),(4,0),(5,0),(6,0),(7,0),(8,1),(9,0),(10,0),(11,0),(12,0),(13,0),(14,0),(15,0),(16,0),(17,0),(18,0),(19,0)] mixed (by kernel_rfl) ?_|refine zco ?_ ?_|exact zd|(refine fun (hg:(_:Prop))=>?_;(try replace hg:=HG.out hg);(try dsimp only at hg);(try (have _h:True:=hg;clear _h hg)))))
    all_goals (try (exfalso;omega))
    have hJ1:∀ j,j<s.items.length→Made s.items j:=fun j hj=>(hJ j (by omega)).1
    have hJ2:∀ j,j<s.items.length→Placed s.items j:=fun j hj=>(hJ j (by omega)).2
    clear hJ hlt hk
    refine aw_for s.prints.length (fun q=>∀ j,j<q→Printed s.items (el s.prints j)) (fun q=>[(1,.ptr 3 0 0 0),(4,vi q)]) (fun _=>[.arr 3 1 (fun _=>s.enc)]) (fun j hj=>by omega) ?_ ?_
    · (exact zsb [some 0] [])
    intro q hq hP
    by_cases hlq:q<s.prints.length
    · 
      (repeat' (first|(refine ar_isq ?_;refine zq ?_)|refine zil (j:=q) ?_|refine zis (j:=q) ?_|refine zit (j:=q) ?_|refine zil (j:=(el s.prints q).plate.toNat) ?_|refine zis (j:=(el s.prints q).plate.toNat) ?_|refine zit (j:=(el s.prints q).plate.toNat) ?_|(refine zpv fn141 (within8_p _ _ _) ?_)|refine zg ?_ ?_|refine zgu ?_|refine zst ?_|refine aw_drawn (id:=20) [(0,0),(1,0),(2,0),(3,0),(4,0),(5,0),(6,0),(7,0),(8,1),(9,0),(10,0),(11,0),(12,0),(13,0),(14,0),(15,0),(16,0),(17,0),(18,0),(19,0)] mixed (by kernel_rfl) ?_|refine zco ?_ ?_|(refine fun (hg:(_:Prop))=>?_;first|exact absurd hg (by decide)|((try replace hg:=HG.out hg);(try dsimp only at hg);(try rw [withinB_iff] at hg);(try rw [withinB_no] at hg);(try (have _h:True:=hg;clear _h hg));first|(exfalso;omega)|skip))))
      all_goals first
        | (exfalso;omega)
        | ((refine aw_ret ?_;(repeat (first|refine ret_then ?_|refine ret_block ?_));refine bq1 rfl ⟨?_,rfl⟩);refine congrArg vb (decide_eq_false fun v=>?_).symm;have hv:=v.2.2.2.1 q hlq;unfold Printed at hv;omega)
        | ((first|refine loop_next (by omega) ?_ ?_|refine (show _∧_∧SubOf _ _ _ _ _ _ from And.intro (by omega) (And.intro ?_ ?_)));(focus (((refine all_step hP ?_;unfold Printed;omega));done));(focus (exact zsb [some 0] [])))
        | trace_state
    · 
      (repeat' (first|(refine ar_isq ?_;refine zq ?_)|refine zil (j:=q) ?_|refine zis (j:=q) ?_|refine zit (j:=q) ?_|refine zg ?_ ?_|refine zgu ?_|refine zst ?_|refine aw_drawn (id:=20) [(0,0),(1,0),(2,0),(3,0),(4,0),(5,0),(6,0),(7,0),(8,1),(9,0),(10,0),(11,0),(12,0),(13,0),(14,0),(15,0),(16,0),(17,0),(18,0),(19,0)] mixed (by kernel_rfl) ?_|refine zco ?_ ?_|exact zd|(refine fun (hg:(_:Prop))=>?_;(try replace hg:=HG.out hg);(try dsimp only at hg);(try (have _h:True:=hg;clear _h hg)))))
      all_goals (try (exfalso;omega))
      have hP1:∀ j,j<s.prints.length→Printed s.items (el s.prints j):=fun j hj=>hP j (by omega)
      clear hP hlq hq
      refine aw_for s.items.length (fun k=>∀ j,j<k→UsedOk s j) (fun k=>[(1,.ptr 3 0 0 0),(6,vi k)]) (fun _=>[.arr 3 1 (fun _=>s.enc)]) (fun j hj=>by omega) ?_ ?_
      · (exact zsb [some 0] [])
      intro k hk hU
      by_cases hlt:k<s.items.length
      · (repeat' (first|(refine ar_isq ?_;refine zq ?_)|refine zil (j:=k) ?_|refine zis (j:=k) ?_|refine zit (j:=k) ?_|(refine zpv fn144 (used8_p s k (by omega) (by omega)) ?_)|refine zg ?_ ?_|refine zgu ?_|refine zst ?_|refine aw_drawn (id:=20) [(0,0),(1,0),(2,0),(3,0),(4,0),(5,0),(6,0),(7,0),(8,1),(9,0),(10,0),(11,0),(12,0),(13,0),(14,0),(15,0),(16,0),(17,0),(18,0),(19,0)] mixed (by kernel_rfl) ?_|refine zco ?_ ?_|exact zd|(refine fun (hg:(_:Prop))=>?_;(try replace hg:=HG.out hg);(try dsimp only at hg);(try (have _h:True:=hg;clear _h hg)))))
        all_goals first
          | (exfalso;omega)
          | ((refine aw_ret ?_;(repeat (first|refine ret_then ?_|refine ret_block ?_));refine bq1 rfl ⟨?_,rfl⟩);refine congrArg vb (decide_eq_false fun v=>?_).symm;have hv:=v.2.2.2.2 k hlt;unfold UsedOk mostOf at hv;simp_all;done)
          | ((refine aw_ret ?_;(repeat (first|refine ret_then ?_|refine ret_block ?_));refine bq1 rfl ⟨?_,rfl⟩);refine congrArg vb (decide_eq_false fun v=>?_).symm;have hv:=v.2.2.2.2 k hlt;unfold UsedOk mostOf at hv;simp_all;omega)
          | ((first|refine loop_next (by omega) ?_ ?_|refine (show _∧_∧SubOf _ _ _ _ _ _ from And.intro (by omega) (And.intro ?_ ?_)));(focus (((refine all_step hU ?_;unfold UsedOk mostOf;simp_all));done));(focus (exact zsb [some 0] [])))
          | ((first|refine loop_next (by omega) ?_ ?_|refine (show _∧_∧SubOf _ _ _ _ _ _ from And.intro (by omega) (And.intro ?_ ?_)));(focus (((refine all_step hU ?_;unfold UsedOk mostOf;simp_all;omega));done));(focus (exact zsb [some 0] [])))
          | trace_state
      · (repeat' (first|(refine ar_isq ?_;refine zq ?_)|refine zil (j:=k) ?_|refine zis (j:=k) ?_|refine zit (j:=k) ?_|refine zg ?_ ?_|refine zgu ?_|refine zst ?_|refine aw_drawn (id:=20) [(0,0),(1,0),(2,0),(3,0),(4,0),(5,0),(6,0),(7,0),(8,1),(9,0),(10,0),(11,0),(12,0),(13,0),(14,0),(15,0),(16,0),(17,0),(18,0),(19,0)] mixed (by kernel_rfl) ?_|refine zco ?_ ?_|exact zd|(refine fun (hg:(_:Prop))=>?_;(try replace hg:=HG.out hg);(try dsimp only at hg);(try (have _h:True:=hg;clear _h hg)))))
        all_goals first
          | (exfalso;omega)
          | ((refine aw_ret ?_;(repeat (first|refine ret_then ?_|refine ret_block ?_));refine bq1 rfl ⟨?_,rfl⟩);exact congrArg vb (decide_eq_true (p:=Valid s) ⟨⟨by omega,by omega,by omega⟩,hJ1,hJ2,hP1,fun i hi=>hU i (by omega)⟩).symm)
          | trace_state
theorem sameStore_p (s:Sto):PCalls Tryz.prog 47 [s.enc,s.enc] (·=vb true):=by
  refine pcalls_know (Φ:=s.items.length≤9223372036854775807∧s.prints.length≤9223372036854775807) (fun I us h=>?_) fun hlen=>?_
  · obtain ⟨u,hu⟩:=rel_arg h (j:=0) rfl
    obtain ⟨cs,_,h1,h2⟩:=agg_inv hu
    have hsz:cs.size=3:=h1
    exact ⟨rel_len ⟨_,h2 1 _ cs[1] rfl (by simp [hsz])⟩,rel_len ⟨_,h2 2 _ cs[2] rfl (by simp [hsz])⟩⟩
  obtain ⟨hl1,hl2⟩:=hlen
  refine pcalls_of_aw Tryz.func47 rfl (dc rfl) ?_
  (repeat' (first|(refine ar_isq ?_;refine zq ?_)|refine ar_q (qs_sneq (seq rfl) rfl rfl (.int (ty rfl) rfl rfl rfl rfl (.int (ty rfl) rfl rfl rfl rfl .nil))) (dc rfl) ?_|refine ar_q (qs_sneq (seq rfl) rfl rfl (.int (ty rfl) rfl rfl rfl rfl (.int (ty rfl) rfl rfl rfl rfl (.int (ty rfl) rfl rfl rfl rfl .nil)))) (dc rfl) ?_|refine ar_q (qs_sneq (seq rfl) rfl rfl (.int (ty rfl) rfl rfl rfl rfl (.int (ty rfl) rfl rfl rfl rfl (.int (ty rfl) rfl rfl rfl rfl (.int (ty rfl) rfl rfl rfl rfl .nil))))) (dc rfl) ?_|refine ar_q (qs_sneq (seq rfl) rfl rfl (.int (ty rfl) rfl rfl rfl rfl (.int (ty rfl) rfl rfl rfl rfl (.int (ty rfl) rfl rfl rfl rfl (.int (ty rfl) rfl rfl rfl rfl (.int (ty rfl) rfl rfl rfl rfl .nil)))))) (dc rfl) ?_|refine zg ?_ ?_|refine zgu ?_|refine zst ?_|refine aw_drawn (id:=6) [(0,0),(1,0),(2,0),(3,0),(4,0),(5,0),(6,0),(7,0),(8,0),(9,0),(10,0)] mixed (by kernel_rfl) ?_|refine aw_drawn (id:=11) [(0,0),(1,0),(2,0),(3,0),(4,0),(5,0),(6,0),(7,0),(8,0),(9,0),(10,0)] mixed (by kernel_rfl) ?_|refine zco ?_ ?_|exact zd|(refine fun (hg:(_:Prop))=>?_;(try replace hg:=HG.out hg);(try dsimp only at hg);(try (have _h:True:=hg;clear _h hg)))))
  all_goals (try (exfalso;simp at *;done))
  refine aw_for s.items.length (fun _=>True) (fun k=>[(2,.ptr 3 0 0 0),(3,.ptr 3 1 0 0),(5,vi k)]) (fun _=>[.arr 3 1 (fun _=>s.enc),.arr 3 1 (fun _=>s.enc)]) trivial ?_ ?_
  · (exact zsb [some 0,some 1] [])
  intro k hk _
  by_cases hlt:k<s.items.length
  · (repeat' (first|(refine ar_isq ?_;refine zq ?_)|refine ar_q (qs_sneq (seq rfl) rfl rfl (.int (ty rfl) rfl rfl rfl rfl (.int (ty rfl) rfl rfl rfl rfl .nil))) (dc rfl) ?_|refine ar_q (qs_sneq (seq rfl) rfl rfl (.int (ty rfl) rfl rfl rfl rfl (.int (ty rfl) rfl rfl rfl rfl (.int (ty rfl) rfl rfl rfl rfl .nil)))) (dc rfl) ?_|refine ar_q (qs_sneq (seq rfl) rfl rfl (.int (ty rfl) rfl rfl rfl rfl (.int (ty rfl) rfl rfl rfl rfl (.int (ty rfl) rfl rfl rfl rfl (.int (ty rfl) rfl rfl rfl rfl .nil))))) (dc rfl) ?_|refine ar_q (qs_sneq (seq rfl) rfl rfl (.int (ty rfl) rfl rfl rfl rfl (.int (ty rfl) rfl rfl rfl rfl (.int (ty rfl) rfl rfl rfl rfl (.int (ty rfl) rfl rfl rfl rfl (.int (ty rfl) rfl rfl rfl rfl .nil)))))) (dc rfl) ?_|refine zil (j:=k) ?_|refine zis (j:=k) ?_|refine zit (j:=k) ?_|refine ar_q (qs_sneq (seq rfl) rfl rfl (.int (ty rfl) rfl rfl rfl rfl (.int (ty rfl) rfl rfl rfl rfl (.int (ty rfl) rfl rfl rfl rfl (.int (ty rfl) rfl rfl rfl rfl (.bool (ty rfl) rfl rfl rfl rfl .nil)))))) (dc rfl) ?_|refine zg ?_ ?_|refine zgu ?_|refine zst ?_|refine aw_drawn (id:=6) [(0,0),(1,0),(2,0),(3,0),(4,0),(5,0),(6,0),(7,0),(8,0),(9,0),(10,0)] mixed (by kernel_rfl) ?_|refine aw_drawn (id:=11) [(0,0),(1,0),(2,0),(3,0),(4,0),(5,0),(6,0),(7,0),(8,0),(9,0),(10,0)] mixed (by kernel_rfl) ?_|refine zco ?_ ?_|exact zd|(refine fun (hg:(_:Prop))=>?_;(try replace hg:=HG.out hg);(try dsimp only at hg);(try (have _h:True:=hg;clear _h hg)))))
    all_goals first
      | (exfalso;omega)
      | (exfalso;simp at *;done)
      | ((first|refine loop_next (by omega) ?_ ?_|refine (show _∧_∧SubOf _ _ _ _ _ _ from And.intro (by omega) (And.intro ?_ ?_)));(focus ((trivial);done));(focus (exact zsb [some 0,some 1] [])))
      | trace_state
  · (repeat' (first|(refine ar_isq ?_;refine zq ?_)|refine ar_q (qs_sneq (seq rfl) rfl rfl (.int (ty rfl) rfl rfl rfl rfl (.int (ty rfl) rfl rfl rfl rfl .nil))) (dc rfl) ?_|refine ar_q (qs_sneq (seq rfl) rfl rfl (.int (ty rfl) rfl rfl rfl rfl (.int (ty rfl) rfl rfl rfl rfl (.int (ty rfl) rfl rfl rfl rfl .nil)))) (dc rfl) ?_|refine ar_q (qs_sneq (seq rfl) rfl rfl (.int (ty rfl) rfl rfl rfl rfl (.int (ty rfl) rfl rfl rfl rfl (.int (ty rfl) rfl rfl rfl rfl (.int (ty rfl) rfl rfl rfl rfl .nil))))) (dc rfl) ?_|refine ar_q (qs_sneq (seq rfl) rfl rfl (.int (ty rfl) rfl rfl rfl rfl (.int (ty rfl) rfl rfl rfl rfl (.int (ty rfl) rfl rfl rfl rfl (.int (ty rfl) rfl rfl rfl rfl (.int (ty rfl) rfl rfl rfl rfl .nil)))))) (dc rfl) ?_|refine zg ?_ ?_|refine zgu ?_|refine zst ?_|refine aw_drawn (id:=6) [(0,0),(1,0),(2,0),(3,0),(4,0),(5,0),(6,0),(7,0),(8,0),(9,0),(10,0)] mixed (by kernel_rfl) ?_|refine aw_drawn (id:=11) [(0,0),(1,0),(2,0),(3,0),(4,0),(5,0),(6,0),(7,0),(8,0),(9,0),(10,0)] mixed (by kernel_rfl) ?_|refine zco ?_ ?_|exact zd|(refine fun (hg:(_:Prop))=>?_;(try replace hg:=HG.out hg);(try dsimp only at hg);(try (have _h:True:=hg;clear _h hg)))))
    all_goals (try (exfalso;omega))
    refine aw_for s.prints.length (fun _=>True) (fun k=>[(2,.ptr 3 0 0 0),(3,.ptr 3 1 0 0),(6,vi k)]) (fun _=>[.arr 3 1 (fun _=>s.enc),.arr 3 1 (fun _=>s.enc)]) trivial ?_ ?_
    · (exact zsb [some 0,some 1] [])
    intro q hq _
    by_cases hlq:q<s.prints.length
    · (repeat' (first|(refine ar_isq ?_;refine zq ?_)|refine ar_q (qs_sneq (seq rfl) rfl rfl (.int (ty rfl) rfl rfl rfl rfl (.int (ty rfl) rfl rfl rfl rfl .nil))) (dc rfl) ?_|refine ar_q (qs_sneq (seq rfl) rfl rfl (.int (ty rfl) rfl rfl rfl rfl (.int (ty rfl) rfl rfl rfl rfl (.int (ty rfl) rfl rfl rfl rfl .nil)))) (dc rfl) ?_|refine ar_q (qs_sneq (seq rfl) rfl rfl (.int (ty rfl) rfl rfl rfl rfl (.int (ty rfl) rfl rfl rfl rfl (.int (ty rfl) rfl rfl rfl rfl (.int (ty rfl) rfl rfl rfl rfl .nil))))) (dc rfl) ?_|refine ar_q (qs_sneq (seq rfl) rfl rfl (.int (ty rfl) rfl rfl rfl rfl (.int (ty rfl) rfl rfl rfl rfl (.int (ty rfl) rfl rfl rfl rfl (.int (ty rfl) rfl rfl rfl rfl (.int (ty rfl) rfl rfl rfl rfl .nil)))))) (dc rfl) ?_|refine zil (j:=q) ?_|refine zis (j:=q) ?_|refine zit (j:=q) ?_|refine ar_q (qs_sneq (seq rfl) rfl rfl (.int (ty rfl) rfl rfl rfl rfl (.int (ty rfl) rfl rfl rfl rfl .nil))) (dc rfl) ?_|refine zg ?_ ?_|refine zgu ?_|refine zst ?_|refine aw_drawn (id:=6) [(0,0),(1,0),(2,0),(3,0),(4,0),(5,0),(6,0),(7,0),(8,0),(9,0),(10,0)] mixed (by kernel_rfl) ?_|refine aw_drawn (id:=11) [(0,0),(1,0),(2,0),(3,0),(4,0),(5,0),(6,0),(7,0),(8,0),(9,0),(10,0)] mixed (by kernel_rfl) ?_|refine zco ?_ ?_|exact zd|(refine fun (hg:(_:Prop))=>?_;(try replace hg:=HG.out hg);(try dsimp only at hg);(try (have _h:True:=hg;clear _h hg)))))
      all_goals first
        | (exfalso;omega)
        | (exfalso;simp at *;done)
        | ((first|refine loop_next (by omega) ?_ ?_|refine (show _∧_∧SubOf _ _ _ _ _ _ from And.intro (by omega) (And.intro ?_ ?_)));(focus ((trivial);done));(focus (exact zsb [some 0,some 1] [])))
        | trace_state
    · (repeat' (first|(refine ar_isq ?_;refine zq ?_)|refine ar_q (qs_sneq (seq rfl) rfl rfl (.int (ty rfl) rfl rfl rfl rfl (.int (ty rfl) rfl rfl rfl rfl .nil))) (dc rfl) ?_|refine ar_q (qs_sneq (seq rfl) rfl rfl (.int (ty rfl) rfl rfl rfl rfl (.int (ty rfl) rfl rfl rfl rfl (.int (ty rfl) rfl rfl rfl rfl .nil)))) (dc rfl) ?_|refine ar_q (qs_sneq (seq rfl) rfl rfl (.int (ty rfl) rfl rfl rfl rfl (.int (ty rfl) rfl rfl rfl rfl (.int (ty rfl) rfl rfl rfl rfl (.int (ty rfl) rfl rfl rfl rfl .nil))))) (dc rfl) ?_|refine ar_q (qs_sneq (seq rfl) rfl rfl (.int (ty rfl) rfl rfl rfl rfl (.int (ty rfl) rfl rfl rfl rfl (.int (ty rfl) rfl rfl rfl rfl (.int (ty rfl) rfl rfl rfl rfl (.int (ty rfl) rfl rfl rfl rfl .nil)))))) (dc rfl) ?_|refine zg ?_ ?_|refine zgu ?_|refine zst ?_|refine aw_drawn (id:=6) [(0,0),(1,0),(2,0),(3,0),(4,0),(5,0),(6,0),(7,0),(8,0),(9,0),(10,0)] mixed (by kernel_rfl) ?_|refine aw_drawn (id:=11) [(0,0),(1,0),(2,0),(3,0),(4,0),(5,0),(6,0),(7,0),(8,0),(9,0),(10,0)] mixed (by kernel_rfl) ?_|refine zco ?_ ?_|exact zd|(refine fun (hg:(_:Prop))=>?_;(try replace hg:=HG.out hg);(try dsimp only at hg);(try (have _h:True:=hg;clear _h hg)))))
      all_goals first
        | (exfalso;omega)
        | ((refine aw_ret ?_;(repeat (first|refine ret_then ?_|refine ret_block ?_));refine bq1 rfl ⟨?_,rfl⟩);rfl)
        | trace_state
def stoV (b:Nat) (s:Sto):V:=.agg [vi s.life,.sl 5 (b+1) 0 s.items.length,.sl 2 (b+2) 0 s.prints.length,.map (b+3)]
def stoB (b:Nat) (s:Sto) (m:List (Int × Int)):Heap:=[.arr 4 1 (fun _=>stoV b s),LB 5 Itm.enc s.items,LB 2 Prt.enc s.prints,mapE vi m]
theorem stoB_ren {s:Sto}{m:List (Int × Int)}{n:Nat}:(stoB 0 s m).map (Blk.ren (rn [] n))=stoB n s m:=by
  have e:entsE vi m=(entsE vi m).map fun p=>(p.1,p.2.ren (rn [] n)):=by
    unfold entsE
    rw [List.map_map]
    exact List.map_congr_left fun p _=>rfl
  have e2:mapE vi m=(mapE vi m).ren (rn [] n):=congrArg Blk.map e
  show _::_::_::[_]=_::_::_::[_]
  rw [← e2]
  rfl
theorem fromB_one {lo hi n:Int}:fromB lo hi [n]=withinB n lo hi:=by simp [fromB]
def AllPlaced (l:List Itm):Prop:=∀ i,i<l.length→PlacedTo l i i
theorem cloneI_p (l:List Itm) (hl:l.length≤1000):FCalls Tryz.prog 114 [encItems l] 5 (fun n f=>n=l.length∧∀ i,i<n→f i=Itm.enc (el l i)):=by
  refine fcalls_of_aw Tryz.func114 rfl (dc rfl) ?_
  (repeat' (first|(refine ar_isq ?_;refine zq ?_)|(refine ar_eqnil (ty rfl) rfl rfl rfl (dc rfl) ?_;intro bq hbq)|refine zst ?_|refine zco ?_ ?_|exact zd|(refine fun (hg:(_:Prop))=>?_;(try replace hg:=HG.out hg);(try dsimp only at hg);(try (have _h:True:=hg;clear _h hg)))))
  · have h0:=hbq (by assumption)
    (refine aw_mono_r (env':=[(2,.sl 5 0 0 0)]) (H':=[.arr 5 0 (fun _=>vi 0)]) ?_ ?_;(focus (exact zsb [none] [])))
    refine aw_ret (ret_then (bq1 rfl ⟨0,_,rfl,rfl,⟨by omega,fun i hi=>by omega⟩,fun i hi=>by omega⟩))
  · refine aw_ret (bq1 rfl ⟨0+l.length,_,rfl,rfl,⟨Nat.zero_add _,fun i hi=>by rw [appF_ge (Nat.zero_le _),Nat.sub_zero]⟩,fun i hi=>by rw [appF_ge (Nat.zero_le _)];rfl⟩)
theorem cloneP_p (l:List Prt) (hl:l.length≤1000):FCalls Tryz.prog 115 [encPrints l] 2 (fun n f=>n=l.length∧∀ i,i<n→f i=Prt.enc (el l i)):=by
  refine fcalls_of_aw Tryz.func115 rfl (dc rfl) ?_
  (repeat' (first|(refine ar_isq ?_;refine zq ?_)|(refine ar_eqnil (ty rfl) rfl rfl rfl (dc rfl) ?_;intro bq hbq)|refine zst ?_|refine zco ?_ ?_|exact zd|(refine fun (hg:(_:Prop))=>?_;(try replace hg:=HG.out hg);(try dsimp only at hg);(try (have _h:True:=hg;clear _h hg)))))
  · have h0:=hbq (by assumption)
    (refine aw_mono_r (env':=[(2,.sl 2 0 0 0)]) (H':=[.arr 2 0 (fun _=>vi 0)]) ?_ ?_;(focus (exact zsb [none] [])))
    refine aw_ret (ret_then (bq1 rfl ⟨0,_,rfl,rfl,⟨by omega,fun i hi=>by omega⟩,fun i hi=>by omega⟩))
  · refine aw_ret (bq1 rfl ⟨0+l.length,_,rfl,rfl,⟨Nat.zero_add _,fun i hi=>by rw [appF_ge (Nat.zero_le _),Nat.sub_zero]⟩,fun i hi=>by rw [appF_ge (Nat.zero_le _)];rfl⟩)
def OpenR (s:Sto) (v:V) (H:Heap):Prop:=(v=.tup [.ptr 4 0 0 0,vb true]∧H=stoB 0 s (pressTo s.items s.items.length)∧AllPlaced s.items)∨(v=.tup [.s (.pointer none),vb false]∧H=[]∧¬ AllPlaced s.items)
theorem open_p (s:Sto) (hn:s.items.length≤30) (hm:s.prints.length≤400):ACalls Tryz.prog 105 [s.enc] [] (OpenR s) NoP:=by
  refine acalls_of_aw Tryz.func105 rfl (dc rfl) ?_
  (repeat' (first|(refine ar_isq ?_;refine zq ?_)|(refine zbt ?_)|refine ar_makeMap (dc rfl) ?_|(refine ar_fcall fn114 rfl rfl (.cons (.closed rfl) .nil) (cloneI_p s.items (by omega)) (dc rfl) ?_;rintro n0 g0 ⟨rfl,hg0⟩)|(refine ar_fcall fn115 rfl rfl (.cons (.closed rfl) .nil) (cloneP_p s.prints (by omega)) (dc rfl) ?_;rintro n1 g1 ⟨rfl,hg1⟩)|refine zg ?_ ?_|refine zgu ?_|refine ar_forkL ?_ ?_|refine ar_lq rfl ?_|refine zst ?_|refine aw_fork (id:=1) [[(9,1),(4,1),(7,1),(8,0),(10,0),(11,1),(12,0)],[(9,1),(7,1),(8,0),(10,0),(11,1),(12,0)]] [(0,0),(1,0),(2,0),(3,0),(5,0),(6,0),(0,3),(4,1),(1,3),(7,1),(8,0),(9,1),(10,0),(11,1),(12,0)] mixed (by kernel_rfl) ?_|refine aw_drawn (id:=8) [(0,0),(1,0),(2,0),(3,0),(4,0),(5,0),(6,0),(7,0),(8,0),(9,0),(10,0),(11,0)] mixed (by kernel_rfl) ?_|refine aw_drawn (id:=11) [(0,0),(1,0),(2,0),(3,0),(4,0),(5,0),(6,0),(7,2)] mixed (by kernel_rfl) ?_|refine zco ?_ ?_|exact zd|(refine fun (hg:(_:Prop))=>?_;(try replace hg:=HG.out hg);(try dsimp only at hg);(try (have _h:True:=hg;clear _h hg)))))
  all_goals (
    refine aw_for s.items.length (fun k=>∀ j,j<k→PlacedTo s.items j j) (fun k=>[(1,.ptr 3 0 0 0),(4,.ptr 4 1 0 0),(22,encItems s.items),(23,vi s.items.length),(24,vi k)]) (fun k=>[.arr 3 1 (fun _=>s.enc),.arr 4 1 (fun _=>stoV 1 s),LB 5 Itm.enc s.items,LB 2 Prt.enc s.prints,mapE vi (pressTo s.items k)]) (fun j hj=>by omega) ?_ ?_
    · first
        | ((refine sub_to [some 0,some 4,some 1,some 2,some 3] [] rfl ?_ ?_<;>(repeat' (first|exact trivial|refine ⟨⟨_,rfl,?_⟩,?_⟩|refine vs1 ?_ ?_|refine vs2 ?_ ?_|refine vs3 ?_|refine vs4 ?_ ?_|refine ⟨.inl ⟨_,_,rfl,rfl,?_⟩,?_⟩|exact ⟨.inr ⟨rfl,rfl⟩,trivial⟩|refine ⟨.inr ⟨rfl,rfl⟩,?_⟩|(intro _ _)|exact vz1|(first|exact VSub.of_eq (hg0 _ (by assumption)) rfl|exact VSub.of_eq (hg1 _ (by assumption)) rfl|refine ⟨bsub_mapE rfl rfl (fun _=>rfl),?_⟩|exact VSub.aggL ⟨.closed rfl,.sl rfl,.sl rfl,.map rfl,trivial⟩)|exact vz2|fail)));done)
        | ((refine sub_to [some 0,some 4,some 1,some 3,some 2] [] rfl ?_ ?_<;>(repeat' (first|exact trivial|refine ⟨⟨_,rfl,?_⟩,?_⟩|refine vs1 ?_ ?_|refine vs2 ?_ ?_|refine vs3 ?_|refine vs4 ?_ ?_|refine ⟨.inl ⟨_,_,rfl,rfl,?_⟩,?_⟩|exact ⟨.inr ⟨rfl,rfl⟩,trivial⟩|refine ⟨.inr ⟨rfl,rfl⟩,?_⟩|(intro _ _)|exact vz1|(first|exact VSub.of_eq (hg0 _ (by assumption)) rfl|exact VSub.of_eq (hg1 _ (by assumption)) rfl|refine ⟨bsub_mapE rfl rfl (fun _=>rfl),?_⟩|exact VSub.aggL ⟨.closed rfl,.sl rfl,.sl rfl,.map rfl,trivial⟩)|exact vz2|fail)));done)
        | ((refine sub_to [some 0,some 4,some 2,some 1,some 3] [] rfl ?_ ?_<;>(repeat' (first|exact trivial|refine ⟨⟨_,rfl,?_⟩,?_⟩|refine vs1 ?_ ?_|refine vs2 ?_ ?_|refine vs3 ?_|refine vs4 ?_ ?_|refine ⟨.inl ⟨_,_,rfl,rfl,?_⟩,?_⟩|exact ⟨.inr ⟨rfl,rfl⟩,trivial⟩|refine ⟨.inr ⟨rfl,rfl⟩,?_⟩|(intro _ _)|exact vz1|(first|exact VSub.of_eq (hg0 _ (by assumption)) rfl|exact VSub.of_eq (hg1 _ (by assumption)) rfl|refine ⟨bsub_mapE rfl rfl (fun _=>rfl),?_⟩|exact VSub.aggL ⟨.closed rfl,.sl rfl,.sl rfl,.map rfl,trivial⟩)|exact vz2|fail)));done)
        | ((refine sub_to [some 0,some 4,some 2,some 3,some 1] [] rfl ?_ ?_<;>(repeat' (first|exact trivial|refine ⟨⟨_,rfl,?_⟩,?_⟩|refine vs1 ?_ ?_|refine vs2 ?_ ?_|refine vs3 ?_|refine vs4 ?_ ?_|refine ⟨.inl ⟨_,_,rfl,rfl,?_⟩,?_⟩|exact ⟨.inr ⟨rfl,rfl⟩,trivial⟩|refine ⟨.inr ⟨rfl,rfl⟩,?_⟩|(intro _ _)|exact vz1|(first|exact VSub.of_eq (hg0 _ (by assumption)) rfl|exact VSub.of_eq (hg1 _ (by assumption)) rfl|refine ⟨bsub_mapE rfl rfl (fun _=>rfl),?_⟩|exact VSub.aggL ⟨.closed rfl,.sl rfl,.sl rfl,.map rfl,trivial⟩)|exact vz2|fail)));done)
        | ((refine sub_to [some 0,some 4,some 3,some 1,some 2] [] rfl ?_ ?_<;>(repeat' (first|exact trivial|refine ⟨⟨_,rfl,?_⟩,?_⟩|refine vs1 ?_ ?_|refine vs2 ?_ ?_|refine vs3 ?_|refine vs4 ?_ ?_|refine ⟨.inl ⟨_,_,rfl,rfl,?_⟩,?_⟩|exact ⟨.inr ⟨rfl,rfl⟩,trivial⟩|refine ⟨.inr ⟨rfl,rfl⟩,?_⟩|(intro _ _)|exact vz1|(first|exact VSub.of_eq (hg0 _ (by assumption)) rfl|exact VSub.of_eq (hg1 _ (by assumption)) rfl|refine ⟨bsub_mapE rfl rfl (fun _=>rfl),?_⟩|exact VSub.aggL ⟨.closed rfl,.sl rfl,.sl rfl,.map rfl,trivial⟩)|exact vz2|fail)));done)
        | ((refine sub_to [some 0,some 4,some 3,some 2,some 1] [] rfl ?_ ?_<;>(repeat' (first|exact trivial|refine ⟨⟨_,rfl,?_⟩,?_⟩|refine vs1 ?_ ?_|refine vs2 ?_ ?_|refine vs3 ?_|refine vs4 ?_ ?_|refine ⟨.inl ⟨_,_,rfl,rfl,?_⟩,?_⟩|exact ⟨.inr ⟨rfl,rfl⟩,trivial⟩|refine ⟨.inr ⟨rfl,rfl⟩,?_⟩|(intro _ _)|exact vz1|(first|exact VSub.of_eq (hg0 _ (by assumption)) rfl|exact VSub.of_eq (hg1 _ (by assumption)) rfl|refine ⟨bsub_mapE rfl rfl (fun _=>rfl),?_⟩|exact VSub.aggL ⟨.closed rfl,.sl rfl,.sl rfl,.map rfl,trivial⟩)|exact vz2|fail)));done)
    clear hg0 hg1 g0 g1
    intro k hk hJ
    by_cases hlt:k<s.items.length
    · 
      (repeat' (first|(refine ar_isq ?_;refine zq ?_)|refine zil (j:=k) ?_|refine zis (j:=k) ?_|refine zit (j:=k) ?_|(refine zbt ?_)|(((refine ar_subk_l (sub_frzL (t:=31) vi ([(el s.items k).place]) rfl rfl rfl rfl (fun _ _=>rfl) (fun _=>rfl)) ?_);refine zpv fn59 (from_p _ _ [(el s.items k).place]) ?_))|refine ar_buildLE vi ([(el s.items k).place]) (by exact ty rfl) (by exact rfl) (by exact ty rfl) (by exact rfl) (by exact rfl) (by exact Nat.succ_pos _) (by exact rfl) (by exact dc rfl) (by exact rfl) (by exact fun _=>⟨rfl,rfl⟩) (by exact dc rfl) ?_|(refine ar_lookup (e:=vi) (ty rfl) rfl (ty rfl) rfl (ty rfl) rfl rfl rfl (dc rfl) ?_ ?_<;>intros)|refine ar_mapUpdate (e:=vi) (v:=(k:Int)) (ty rfl) rfl (ty rfl) rfl rfl rfl rfl rfl ?_|refine zg ?_ ?_|refine zgu ?_|refine ar_forkL ?_ ?_|refine ar_lq rfl ?_|refine zst ?_|refine aw_fork (id:=1) [[(9,1),(4,1),(7,1),(8,0),(10,0),(11,1),(12,0)],[(9,1),(7,1),(8,0),(10,0),(11,1),(12,0)]] [(0,0),(1,0),(2,0),(3,0),(5,0),(6,0),(0,3),(4,1),(1,3),(7,1),(8,0),(9,1),(10,0),(11,1),(12,0)] mixed (by kernel_rfl) ?_|refine aw_drawn (id:=8) [(0,0),(1,0),(2,0),(3,0),(4,0),(5,0),(6,0),(7,0),(8,0),(9,0),(10,0),(11,0)] mixed (by kernel_rfl) ?_|refine aw_drawn (id:=11) [(0,0),(1,0),(2,0),(3,0),(4,0),(5,0),(6,0),(7,2)] mixed (by kernel_rfl) ?_|refine zco ?_ ?_|(refine fun (hg:(_:Prop))=>?_;first|exact absurd hg (by decide)|((try replace hg:=HG.out hg);(try dsimp only at hg);(try rw [fromB_one] at hg);(try rw [withinB_iff] at hg);(try rw [withinB_no] at hg);(try (have _h:True:=hg;clear _h hg));first|(exfalso;omega)|skip))))
      all_goals first
        | (exfalso;omega)
        | (exfalso;simp at *;done)
        | ((refine aw_mono_r (env':=[(2,.s (.pointer none)),(3,vb false)]) (H':=[]) ?_ ?_;(focus (exact zsb [] [])));refine aw_ret ?_;(repeat (first|refine ret_then ?_|refine ret_block ?_));refine bq2 rfl rfl (.inr ⟨rfl,rfl,fun h=>?_⟩);have hp:=h k hlt;unfold PlacedTo at hp;omega)
        | ((refine aw_mono_r (env':=[(2,.s (.pointer none)),(3,vb false)]) (H':=[]) ?_ ?_;(focus (exact zsb [] [])));refine aw_ret ?_;(repeat (first|refine ret_then ?_|refine ret_block ?_));refine bq2 rfl rfl (.inr ⟨rfl,rfl,fun h=>?_⟩);have hp:=h k hlt;unfold PlacedTo at hp;simp_all;done)
        | ((refine aw_mono_r (env':=[(2,.s (.pointer none)),(3,vb false)]) (H':=[]) ?_ ?_;(focus (exact zsb [] [])));refine aw_ret ?_;(repeat (first|refine ret_then ?_|refine ret_block ?_));refine bq2 rfl rfl (.inr ⟨rfl,rfl,fun h=>?_⟩);have hp:=h k hlt;unfold PlacedTo at hp;obtain ⟨q1,q,q2,q3⟩:=press_taken hJ (by assumption);exact (hp.2.2 q1).2 q q2 (by omega) q3)
        | ((first|refine loop_next (by omega) ?_ ?_|refine (show _∧_∧SubOf _ _ _ _ _ _ from And.intro (by omega) (And.intro ?_ ?_)));(focus (((refine all_step hJ ⟨by omega,fun hh=>?_,fun hh=>⟨by omega,?_⟩⟩;(focus first|omega|simp_all);(focus exact fun j hj _=>press_free hJ hh (by assumption) j hj)));done));(focus ((refine sub_to [some 0,some 1,some 2,some 3,some 4] [] rfl ?_ ?_<;>(repeat' (first|exact trivial|refine ⟨⟨_,rfl,?_⟩,?_⟩|refine vs1 ?_ ?_|refine vs2 ?_ ?_|refine vs3 ?_|refine vs4 ?_ ?_|refine ⟨.inl ⟨_,_,rfl,rfl,?_⟩,?_⟩|exact ⟨.inr ⟨rfl,rfl⟩,trivial⟩|refine ⟨.inr ⟨rfl,rfl⟩,?_⟩|(intro _ _)|exact vz1|(first|refine ⟨bsub_mapE' rfl rfl (pressTo_yes (by omega)) (fun _=>rfl),?_⟩|exact VSub.aggL ⟨.closed rfl,.sl rfl,.sl rfl,.map rfl,trivial⟩)|exact vz2|fail)));done)))
        | ((first|refine loop_next (by omega) ?_ ?_|refine (show _∧_∧SubOf _ _ _ _ _ _ from And.intro (by omega) (And.intro ?_ ?_)));(focus (((refine all_step hJ ⟨by omega,fun hh=>?_,fun hh=>absurd hh (by omega)⟩;first|omega|simp_all));done));(focus ((refine sub_to [some 0,some 1,some 2,some 3,some 4] [] rfl ?_ ?_<;>(repeat' (first|exact trivial|refine ⟨⟨_,rfl,?_⟩,?_⟩|refine vs1 ?_ ?_|refine vs2 ?_ ?_|refine vs3 ?_|refine vs4 ?_ ?_|refine ⟨.inl ⟨_,_,rfl,rfl,?_⟩,?_⟩|exact ⟨.inr ⟨rfl,rfl⟩,trivial⟩|refine ⟨.inr ⟨rfl,rfl⟩,?_⟩|(intro _ _)|exact vz1|(first|refine ⟨bsub_mapE' rfl rfl (pressTo_no (by omega)) (fun _=>rfl),?_⟩|exact VSub.aggL ⟨.closed rfl,.sl rfl,.sl rfl,.map rfl,trivial⟩)|exact vz2|fail)));done)))
        | trace_state
    · 
      (repeat' (first|(refine ar_isq ?_;refine zq ?_)|(refine zbt ?_)|refine zg ?_ ?_|refine zgu ?_|refine ar_forkL ?_ ?_|refine ar_lq rfl ?_|refine zst ?_|refine aw_fork (id:=1) [[(9,1),(4,1),(7,1),(8,0),(10,0),(11,1),(12,0)],[(9,1),(7,1),(8,0),(10,0),(11,1),(12,0)]] [(0,0),(1,0),(2,0),(3,0),(5,0),(6,0),(0,3),(4,1),(1,3),(7,1),(8,0),(9,1),(10,0),(11,1),(12,0)] mixed (by kernel_rfl) ?_|refine aw_drawn (id:=8) [(0,0),(1,0),(2,0),(3,0),(4,0),(5,0),(6,0),(7,0),(8,0),(9,0),(10,0),(11,0)] mixed (by kernel_rfl) ?_|refine aw_drawn (id:=11) [(0,0),(1,0),(2,0),(3,0),(4,0),(5,0),(6,0),(7,2)] mixed (by kernel_rfl) ?_|refine zco ?_ ?_|exact zd|(refine fun (hg:(_:Prop))=>?_;(try replace hg:=HG.out hg);(try dsimp only at hg);(try (have _h:True:=hg;clear _h hg)))))
      all_goals first
        | (exfalso;omega)
        | (obtain rfl:k=s.items.length:=by omega
           (refine aw_mono_r (env':=[(2,.ptr 4 0 0 0),(3,vb true)]) (H':=[.arr 4 1 (fun _=>stoV 0 s),LB 5 Itm.enc s.items,LB 2 Prt.enc s.prints,mapE vi (pressTo s.items s.items.length)]) ?_ ?_;(focus (exact zsc [some 1,some 2,some 3,some 4] [])))
           refine aw_ret (bq2 rfl rfl (.inl ⟨rfl,rfl,hJ⟩)))
        | trace_state)
end Go.Proofs.YtbilpbabdgfblaaGreat
-- old go
namespace Go.Proofs.YtbilpbabdgfblaaGreat
open Go.RowKit
def Screen.ok (c:Screen):Bool:=withinB c.period 2 16&&withinB c.phase 0 (c.period-1)
theorem clone_p (l:List Int) (hl:l.length≤1000):FCalls Tryz.prog 119 [encInts l] 1 (fun n f=>n=l.length∧∀ i,i<n→f i=vi (el l i)):=by
  refine fcalls_of_aw Tryz.func119 rfl (dc rfl) ?_
  (repeat' (first|(refine ar_isq ?_;refine zq ?_)|(refine ar_eqnil (ty rfl) rfl rfl rfl (dc rfl) ?_;intro bq hbq)|refine zst ?_|refine zco ?_ ?_|exact zd|(refine fun (hg:(_:Prop))=>?_;(try replace hg:=HG.out hg);(try dsimp only at hg);(try (have _h:True:=hg;clear _h hg)))))
  · have h0:=hbq (by assumption)
    (refine aw_mono_r (env':=[(2,.sl 1 0 0 0)]) (H':=[.arr 1 0 (fun _=>vi 0)]) ?_ ?_;(focus (exact zsb [none] [])))
    refine aw_ret (ret_then (bq1 rfl ⟨0,_,rfl,rfl,⟨by omega,fun i hi=>by omega⟩,fun i hi=>by omega⟩))
  · refine aw_ret (bq1 rfl ⟨0+l.length,_,rfl,rfl,⟨Nat.zero_add _,fun i hi=>by rw [appF_ge (Nat.zero_le _),Nat.sub_zero]⟩,fun i hi=>by rw [appF_ge (Nat.zero_le _)];rfl⟩)
end Go.Proofs.YtbilpbabdgfblaaGreat
