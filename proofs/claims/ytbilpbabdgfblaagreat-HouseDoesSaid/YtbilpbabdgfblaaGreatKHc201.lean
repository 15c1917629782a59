/- Parts of the proof: a layer of values over the model, and contracts of functions. No condition. -/
import Derived.Test.YtbilpbabdgfblaaGreatKHc20
import Derived.Test.YtbilpbabdgfblaaGreatKHc202
set_option maxHeartbeats 16000000
set_option linter.unusedSimpArgs false
set_option linter.unusedVariables false
namespace Go.Proofs.YtbilpbabdgfblaaGreat
open Go.RowKit
theorem rdF_ok {h':Hse}{e:Int}(h:e=0):rdF h' e=h':=by unfold rdF;rw [if_pos h]
theorem hdoF_rd {h:Hse}{j:Job}(hV:HValid h):rdF (jobF h j) (jobE h j)=hdoF h j:=by
  unfold rdF hdoF
  rw [hdoE_ok hV]
theorem hdoF_no {h:Hse}{j:Job}(hV:¬ HValid h):hdoF h j=noHse:=by
  unfold hdoF
  rw [hdoE_bad hV,if_neg (by decide)]
theorem rDo_p (h:Hse) (j:Job) (hs:HSmall h) (hu:u8ok j.kind) (hua:u8ok j.act.kind) (hb:SmallB j.band):PCalls Tryz.prog 21 [h.enc,j.enc] (·=.tup [(hdoF h j).enc,vi (hdoE h j)]):=by
  
  by_cases hV:HValid h
  · have hd:=rdone_p h j hV hu hua hb
    rw [hdoF_rd hV,← hdoE_ok hV] at hd
    refine pcalls_of_aw Tryz.func21 rfl (dc rfl) ?_
    (repeat' (first|(refine ar_isq ?_;refine zq ?_)|(refine zbt ?_)|((refine ar_pcall (own:=false) fn50 rfl rfl (.cons (.closed rfl) .nil) (rhouse_p h hs) (by simp) (dc rfl) ?_;rintro _ ⟨bx,rfl,hbx⟩))|(refine zpv fn46 (hd) ?_)|refine zst ?_|refine zco ?_ ?_|exact zd|(refine fun (hg:(_:Prop))=>?_;(try replace hg:=HG.out hg);(try dsimp only at hg);(try (have _h:True:=hg;clear _h hg)))))
    all_goals first
      | (exfalso;have:=hbx.2 hV;simp_all;done)
      | ((refine aw_mono_r (env':=[(4,.ptr 10 0 0 0),(5,vi (hdoE h j))]) (H':=[.arr 10 1 (fun _=>(hdoF h j).enc)]) ?_ ?_;(focus (exact zsb [some 2] [])));refine aw_ret ?_;(repeat (first|refine ret_then ?_|refine ret_block ?_));exact hret rfl rfl ⟨rfl,rfl⟩)
      | trace_state
  · refine pcalls_of_aw Tryz.func21 rfl (dc rfl) ?_
    (repeat' (first|(refine ar_isq ?_;refine zq ?_)|(refine zbt ?_)|((refine ar_pcall (own:=false) fn50 rfl rfl (.cons (.closed rfl) .nil) (rhouse_p h hs) (by simp) (dc rfl) ?_;rintro _ ⟨bx,rfl,hbx⟩))|refine zst ?_|refine zco ?_ ?_|exact zd|(refine fun (hg:(_:Prop))=>?_;(try replace hg:=HG.out hg);(try dsimp only at hg);(try (have _h:True:=hg;clear _h hg)))))
    all_goals first
      | (exfalso;exact hV (hbx.1 (by assumption)))
      | (exfalso;exact hV (hbx.1 rfl))
      | ((refine aw_mono_r (env':=[(4,.ptr 10 0 0 0),(5,vi 100)]) (H':=[.arr 10 1 (fun _=>noHse.enc)]) ?_ ?_;(focus (exact zsc [some 2] [])));refine aw_ret ?_;(repeat (first|refine ret_then ?_|refine ret_block ?_));exact hret rfl rfl ⟨by rw [hdoF_no hV,hdoE_bad hV],rfl⟩)
      | trace_state
theorem rPlay_p (per life:Int) (bk:List Job) (hu:∀ k,k<bk.length→u8ok (el bk k).kind∧u8ok (el bk k).act.kind) (hbk:∀ k,k<bk.length→SmallB (el bk k).band):PCalls Tryz.prog 15 [vi per,vi life,encJobs bk] (·=.tup [(hplayF per life bk).enc,vi (hplayX per life bk).1,vi (hplayX per life bk).2]):=by
  
  refine pcalls_of_aw Tryz.func15 rfl (dc rfl) ?_
  (repeat' (first|(refine ar_isq ?_;refine zq ?_)|(refine zbt ?_)|(refine zpv fn45 (hwithin_p _ _ _) ?_)|refine zg ?_ ?_|refine zgu ?_|refine ar_forkL ?_ ?_|refine ar_lq rfl ?_|refine zst ?_|refine aw_fork (id:=9) [[(9,1),(5,2),(6,0),(7,0),(8,0),(10,2),(11,0)]] [(0,0),(1,0),(2,0),(3,0),(4,0),(0,3),(5,2),(6,0),(7,0),(8,0),(9,1),(10,2),(11,0)] mixed (by kernel_rfl) ?_|refine zco ?_ ?_|(refine fun (hg:(_:Prop))=>?_;first|exact absurd hg (by decide)|((try replace hg:=HG.out hg);(try dsimp only at hg);(try rw [withinB_iff] at hg);(try rw [withinB_no] at hg);(try (have _h:True:=hg;clear _h hg));first|(exfalso;omega)|skip))))
  all_goals first
    | ((refine aw_mono_r (env':=[(6,.ptr 10 0 0 0),(7,vi 0),(8,vi 4)]) (H':=[.arr 10 1 (fun _=>noHse.enc)]) ?_ ?_;(focus (exact zsc [some 0] [])));refine aw_ret ?_;(repeat (first|refine ret_then ?_|refine ret_block ?_));exact bq3h ⟨hplayR_bad (hplayX_many (by omega)) (by decide),rfl⟩)
    | ((refine aw_mono_r (env':=[(6,.ptr 10 0 0 0),(7,vi 0),(8,vi 2)]) (H':=[.arr 10 1 (fun _=>noHse.enc)]) ?_ ?_;(focus (exact zsc [some 0] [])));refine aw_ret ?_;(repeat (first|refine ret_then ?_|refine ret_block ?_));exact bq3h ⟨hplayR_bad (hplayX_arg (by omega) (by omega)) (by decide),rfl⟩)
    | skip
  have hl:(1≤per∧per≤1000)∧(1≤life∧life≤1000):=⟨by assumption,by assumption⟩
  have hn:¬ 200<bk.length:=by omega
  have hv:=hvalid0.2 hl
  refine aw_for bk.length (fun k=>∀ q,q<k→hErrAt per life bk q=0) (fun k=>[(2,encJobs bk),(6,.ptr 10 0 0 0),(9,.ptr 10 1 0 0),(10,vi k)]) (fun k=>[.arr 10 1 (fun _=>noHse.enc),.arr 10 1 (fun _=>(hAt per life bk k).enc)]) (fun q hq=>by omega) ?_ ?_
  · (exact zsc [some 0,some 1] [])
  intro k hk hJ
  have hV:HValid (hAt per life bk k):=hAt_ok hv hJ
  by_cases hlt:k<bk.length
  · have hdo:=rdone_p (hAt per life bk k) (el bk k) hV (hu k hlt).1 (hu k hlt).2 (hbk k hlt)
    (repeat' (first|(refine ar_isq ?_;refine zq ?_)|refine zil (j:=k) ?_|refine zis (j:=k) ?_|refine zit (j:=k) ?_|(refine zbt ?_)|(refine zpv fn46 (hdo) ?_)|refine zg ?_ ?_|refine zgu ?_|refine ar_forkL ?_ ?_|refine ar_lq rfl ?_|refine zst ?_|refine aw_fork (id:=9) [[(9,1),(5,1),(6,0),(7,0),(8,0),(10,2),(11,0)]] [(0,0),(1,0),(2,0),(3,0),(4,0),(0,3),(5,1),(6,0),(7,0),(8,0),(9,1),(10,2),(11,0)] mixed (by kernel_rfl) ?_|refine zco ?_ ?_|(refine fun (hg:(_:Prop))=>?_;first|exact absurd hg (by decide)|((try replace hg:=HG.out hg);(try dsimp only at hg);(try rw [withinB_iff] at hg);(try rw [withinB_no] at hg);(try (have _h:True:=hg;clear _h hg));first|(exfalso;omega)|skip))))
    all_goals first
      | (((first|refine loop_next (by omega) ?_ ?_|refine (show _∧_∧SubOf _ _ _ _ _ _ from And.intro (by omega) (And.intro ?_ ?_)));(focus (((refine all_step hJ ?_;exact hg));done));(focus ((refine sub_to [some 0,some 1] [] rfl ?_ ?_<;>(repeat' (first|exact trivial|refine ⟨⟨_,rfl,?_⟩,?_⟩|refine vs1 ?_ ?_|refine vs2 ?_ ?_|refine vs3 ?_|refine vs4 ?_ ?_|refine ⟨.inl ⟨_,_,rfl,rfl,?_⟩,?_⟩|exact ⟨.inr ⟨rfl,rfl⟩,trivial⟩|refine ⟨.inr ⟨rfl,rfl⟩,?_⟩|(intro _ _)|exact vz1|(exact .of_eq (congrArg Hse.enc (rdF_ok hg)) rfl)|exact vz2|fail)));done))))
      | ((refine aw_mono_r (env':=[(6,.ptr 10 0 0 0),(7,vi k),(8,vi (hErrAt per life bk k))]) (H':=[.arr 10 1 (fun _=>noHse.enc)]) ?_ ?_;(focus (exact zsc [some 0] [])))
         refine aw_ret ?_;(repeat (first|refine ret_then ?_|refine ret_block ?_))
         exact bq3h ⟨hplayR_bad (hplayX_bad hn hl hJ hlt hg) hg,rfl⟩)
      | trace_state
  · obtain rfl:k=bk.length:=by omega
    (repeat' (first|(refine ar_isq ?_;refine zq ?_)|(refine zbt ?_)|refine zg ?_ ?_|refine zgu ?_|refine ar_forkL ?_ ?_|refine ar_lq rfl ?_|refine zst ?_|refine aw_fork (id:=9) [[(9,1),(5,1),(6,0),(7,0),(8,0),(10,2),(11,0)]] [(0,0),(1,0),(2,0),(3,0),(4,0),(0,3),(5,1),(6,0),(7,0),(8,0),(9,1),(10,2),(11,0)] mixed (by kernel_rfl) ?_|refine zco ?_ ?_|(refine fun (hg:(_:Prop))=>?_;first|exact absurd hg (by decide)|((try replace hg:=HG.out hg);(try dsimp only at hg);(try rw [withinB_iff] at hg);(try rw [withinB_no] at hg);(try (have _h:True:=hg;clear _h hg));first|(exfalso;omega)|skip))))
    all_goals first
      | ((refine aw_mono_r (env':=[(6,.ptr 10 0 0 0),(7,vi 0),(8,vi 0)]) (H':=[.arr 10 1 (fun _=>(hAt per life bk bk.length).enc)]) ?_ ?_;(focus (exact zsb [some 0] [])))
         refine aw_ret ?_;(repeat (first|refine ret_then ?_|refine ret_block ?_))
         exact bq3h ⟨hplayR_ok (hplayX_ok hn hl hJ),rfl⟩)
      | trace_state
end Go.Proofs.YtbilpbabdgfblaaGreat
