/- Parts of the proof: a layer of values over the model, and contracts of functions. No condition. -/
import Derived.Test.YtbilpbabdgfblaaGreatKHc191
import Derived.Test.YtbilpbabdgfblaaGreatKHc192
import Derived.Test.YtbilpbabdgfblaaGreatKHc193
set_option maxHeartbeats 16000000
set_option linter.unusedSimpArgs false
set_option linter.unusedVariables false
namespace Go.Proofs.YtbilpbabdgfblaaGreat
open Go.RowKit
section
variable {r:Option Nat}{mm nt i d:Nat}{Q:Post}{env:Env}{ops:Array Oper}{L:List Stp}{ty:TypeId}{pos:String}{after:Array Edge}{ats:Array TypeId}{x y:Operand}
theorem ar_rdeed {h h':Hse}{A:V}{E:Int}{f:FuncId}{B7 B8 B9:Blk}(hfn:FnOk Tryz.prog f) (hc:ACalls Tryz.prog f [hseV h,A] (hseR h) (RDeed h' E) NoP) (hA:A.closed=true)
    (h1:AR Tryz.prog r mm nt ops Q L ((d,.tup [(rdF h' E).enc,vi E])::env) [.dead,.dead,.dead,.dead,.dead,.dead,.dead,B7,B8,B9]) (hx:eo env x=some (hseV h):=by exact rfl) (hy:eo env y=some A:=by exact rfl) (hd:d<nt:=by exact dc rfl) :
    AR Tryz.prog r mm nt ops Q (.l i ⟨some d,.call ⟨.value (.func f),#[x,y],ats⟩,ty,pos,after,none⟩ false::L) env [LB 5 Itm.enc h.store.items,LB 2 Prt.enc h.store.prints,LB 7 Dsn.enc h.designs,LB 4 Lic.enc h.lics,LB 4 Ordr.enc h.orders,LB 1 vi h.made,LB 1 vi h.fors,B7,B8,B9]:=by
  refine ar_gcall (H0:=hseR h) [0,1,2,3,4,5,6] [] (args:=[x,y]) (vs:=[hseV h,A]) (first:=[]) (cap:=[]) hfn rfl (by rw [List.mapM_cons,List.mapM_cons,List.mapM_nil,hx,hy];rfl) (xs:=[hseV h,A]) ⟨.aggL ⟨.closed rfl,.closed rfl,.closed rfl,.sl rfl,.sl rfl,.sl rfl,.sl rfl,.sl rfl,.sl rfl,.sl rfl,trivial⟩,.closed hA,trivial⟩ rfl (by decide) (fun _ h=>by cases h) ?_ ?_ hc hd ?_ (fun _ _ h=>h.elim)
  · exact ⟨.inl ⟨0,_,rfl,rfl,fun _ _=>.closed rfl⟩,.inl ⟨1,_,rfl,rfl,fun _ _=>.closed rfl⟩,.inl ⟨2,_,rfl,rfl,fun _ _=>.closed rfl⟩,.inl ⟨3,_,rfl,rfl,fun _ _=>.closed rfl⟩,.inl ⟨4,_,rfl,rfl,fun _ _=>.closed rfl⟩,.inl ⟨5,_,rfl,rfl,fun _ _=>.closed rfl⟩,.inl ⟨6,_,rfl,rfl,fun _ _=>.closed rfl⟩,trivial⟩
  · simp [hseR,LB]
  · rintro _ _ ⟨rfl,rfl⟩
    exact h1
end
theorem hseR_ren {h:Hse}{n:Nat}:(hseR h).map (Blk.ren (rn [] n))=hseR h:=rfl
theorem job_k1 {h:Hse}{j:Job}(hk:j.kind=1):jobE h j=archE h j∧jobF h j=archF h j:=by
  unfold jobE jobF
  rw [hk]
  exact ⟨rfl,rfl⟩
theorem job_k2 {h:Hse}{j:Job}(hk:j.kind=2):jobE h j=licnE h j∧jobF h j=licnF h j:=by
  unfold jobE jobF
  rw [hk]
  exact ⟨rfl,rfl⟩
theorem job_k3 {h:Hse}{j:Job}(hk:j.kind=3):jobE h j=takeE h j∧jobF h j=takeF h j:=by
  unfold jobE jobF
  rw [hk]
  exact ⟨rfl,rfl⟩
theorem job_k4 {h:Hse}{j:Job}(hk:j.kind=4):jobE h j=engvE h j∧jobF h j=engvF h j:=by
  unfold jobE jobF
  rw [hk]
  exact ⟨rfl,rfl⟩
theorem job_k5 {h:Hse}{j:Job}(hk:j.kind=5):jobE h j=workE h j∧jobF h j=workF h j:=by
  unfold jobE jobF
  rw [hk]
  exact ⟨rfl,rfl⟩
theorem job_k6 {h:Hse}{j:Job}(hk:j.kind=6):jobE h j=runE h j∧jobF h j=runF h j:=by
  unfold jobE jobF
  rw [hk]
  exact ⟨rfl,rfl⟩
theorem job_k7 {h:Hse}{j:Job}(hk:j.kind=7):jobE h j=giveE h j∧jobF h j=giveF h j:=by
  unfold jobE jobF
  rw [hk]
  exact ⟨rfl,rfl⟩
theorem job_k8 {h:Hse}{j:Job}(hk:j.kind=8):jobE h j=waitE h j∧jobF h j=waitF h j:=by
  unfold jobE jobF
  rw [hk]
  exact ⟨rfl,rfl⟩
theorem rdone_end {h F:Hse}{j:Job}{E:Int}(he:jobE h j=E) (hf:jobF h j=F):V.tup [(rdF F E).enc,vi E]=.tup [(rdF (jobF h j) (jobE h j)).enc,vi (jobE h j)]:=by rw [he,hf]
theorem rdone_bad {h:Hse}{j:Job}{x:Int}(he:jobE h j=x) (hx:x≠0):V.tup [noHse.enc,vi x]=.tup [(rdF (jobF h j) (jobE h j)).enc,vi (jobE h j)]:=by
  rw [he]
  unfold rdF
  rw [if_neg hx]
theorem rdone_ok {h F:Hse}{j:Job}(he:jobE h j=0) (hf:jobF h j=F):V.tup [F.enc,vi 0]=.tup [(rdF (jobF h j) (jobE h j)).enc,vi (jobE h j)]:=by
  rw [he,hf]
  unfold rdF
  rw [if_pos rfl]
section
variable (h:Hse) (j:Job)
set_option maxRecDepth 20000 in
theorem rdone_p (hV:HValid h) (hu:u8ok j.kind) (hua:u8ok j.act.kind) (hb:SmallB j.band):PCalls Tryz.prog 46 [h.enc,j.enc] (·=.tup [(rdF (jobF h j) (jobE h j)).enc,vi (jobE h j)]):=by
  have hs:=hsmall_of hV
  obtain ⟨s1,s2,s3,s4,s5,s6,s7,-⟩:=hs
  have hday:=hV.day
  refine pcalls_of_aw Tryz.func46 rfl (dc rfl) ?_
  ((repeat refine aw_seq ?_);(first|(refine aw_region ?_));(repeat' (first|(refine ar_isq ?_;refine zq ?_)|(refine zbt ?_)|refine zg ?_ ?_|refine zgu ?_|refine zsr ?_|(refine fun (hg:(_:Prop))=>?_;first|exact absurd hg (by decide)|((try replace hg:=HG.out hg);(try dsimp only at hg);(try rw [withinB_iff] at hg);(try rw [withinB_no] at hg);(try (have _h:True:=hg;clear _h hg));first|(exfalso;omega)|skip)))))
  ((repeat refine aw_seq ?_);(first|(refine aw_region ?_));(repeat' (first|(refine ar_isq ?_;refine zq ?_)|(refine zbt ?_)|((refine ar_gcall0 fn19 rfl rfl [h.enc] ⟨.closed rfl,trivial⟩ (rcopied_p h (hsmall_of hV)) (dc rfl) ?_ (fun _ _ h=>h.elim);rintro _ _ ⟨rfl,rfl⟩;rw [hseR_ren];unfold hseR;refine ar_re (t:=7) (v':=.agg (shoC 3 4 5 6 7 8 9 h)) rfl rfl ?_))|refine zg ?_ ?_|refine zgu ?_|refine zsr ?_|(refine fun (hg:(_:Prop))=>?_;first|exact absurd hg (by decide)|((try replace hg:=HG.out hg);(try dsimp only at hg);(try rw [withinB_iff] at hg);(try rw [withinB_no] at hg);(try (have _h:True:=hg;clear _h hg));first|(exfalso;omega)|skip)))))
  (refine aw_mono_r (env':=[(2,.ptr 10 7 0 0),(3,.ptr 16 8 0 0),(4,.ptr 10 9 0 0),(5,vi 0)]) (H':=[LB 5 Itm.enc h.store.items,LB 2 Prt.enc h.store.prints,LB 7 Dsn.enc h.designs,LB 4 Lic.enc h.lics,LB 4 Ordr.enc h.orders,LB 1 vi h.made,LB 1 vi h.fors,.arr 10 1 (fun _=>hseV h),.arr 16 1 (fun _=>j.enc),.arr 10 1 (fun _=>noHv)]) ?_ ?_;(focus (exact zsc [some 3,some 4,some 5,some 6,some 7,some 8,some 9,some 0,some 1,some 2] [])))
  (repeat' (first|(refine ar_isq ?_;refine zq ?_)|(refine zbt ?_)|(refine zpv fn45 (hwithin_p _ _ _) ?_)|((refine ar_rdeed (h':=archF h j) (E:=archE h j) fn87 (rarchive_p h j hV hb) rfl ?_))|((refine ar_rdeed (h':=licnF h j) (E:=licnE h j) fn88 (rallow_p h j hV (by omega)) rfl ?_))|((refine ar_rdeed (h':=takeF h j) (E:=takeE h j) fn89 (rorder_p h j hV (by omega)) rfl ?_))|((refine ar_rdeed (h':=engvF h j) (E:=engvE h j) fn90 (rengrave_p h j hV (by omega)) rfl ?_))|((refine ar_rdeed (h':=workF h j) (E:=workE h j) fn91 (ract_p h j hV hua) rfl ?_))|((refine ar_rdeed (h':=runF h j) (E:=runE h j) fn92 (rprint_p h j hV (by omega)) rfl ?_))|((refine ar_rdeed (h':=giveF h j) (E:=giveE h j) fn93 (rdeliver_p h j hV (by omega)) rfl ?_))|refine zg ?_ ?_|refine zgu ?_|refine zst ?_|refine zco ?_ ?_|(refine fun (hg:(_:Prop))=>?_;first|exact absurd hg (by decide)|((try replace hg:=HG.out hg);(try dsimp only at hg);(try rw [withinB_iff] at hg);(try rw [withinB_no] at hg);(try (have _h:True:=hg;clear _h hg));first|(exfalso;omega)|skip))))
  all_goals first
    | (exfalso;omega)
    | ((refine aw_mono_r (env':=[(4,.ptr 10 0 0 0),(5,vi 6)]) (H':=[.arr 10 1 (fun _=>noHse.enc)]) ?_ ?_;(focus (exact zsc [some 9] [])));refine aw_ret ?_;(repeat (first|refine ret_then ?_|refine ret_block ?_));exact hret rfl rfl ⟨rdone_bad (by first|exact (job_k2 (by assumption)).1.trans (licnE_1 (by omega))|exact (job_k3 (by assumption)).1.trans (takeE_1 (by omega))|exact (job_k4 (by assumption)).1.trans (engvE_1 (by omega))|exact (job_k6 (by assumption)).1.trans (runE_1 (by omega))|exact (job_k7 (by assumption)).1.trans (giveE_1 (by omega))) (by decide),rfl⟩)
    | ((refine aw_mono_r (env':=[(4,.ptr 10 0 0 0),(5,vi 2)]) (H':=[.arr 10 1 (fun _=>noHse.enc)]) ?_ ?_;(focus (exact zsc [some 9] [])));refine aw_ret ?_;(repeat (first|refine ret_then ?_|refine ret_block ?_));exact hret rfl rfl ⟨rdone_bad (by first|exact Pn.hdo_no (by omega)|exact (job_k8 (by assumption)).1.trans (by unfold waitE;rw [if_neg (by omega)])) (by decide),rfl⟩)
    | ((refine aw_mono_r (env':=[(4,.ptr 10 0 0 0),(5,vi (archE h j))]) (H':=[.arr 10 1 (fun _=>(rdF (archF h j) (archE h j)).enc)]) ?_ ?_;(focus (exact zsb [some 9] [])));refine aw_ret ?_;(repeat (first|refine ret_then ?_|refine ret_block ?_));exact hret rfl rfl ⟨rdone_end (job_k1 (by assumption)).1 (job_k1 (by assumption)).2,rfl⟩)
    | ((refine aw_mono_r (env':=[(4,.ptr 10 0 0 0),(5,vi (licnE h j))]) (H':=[.arr 10 1 (fun _=>(rdF (licnF h j) (licnE h j)).enc)]) ?_ ?_;(focus (exact zsb [some 9] [])));refine aw_ret ?_;(repeat (first|refine ret_then ?_|refine ret_block ?_));exact hret rfl rfl ⟨rdone_end (job_k2 (by assumption)).1 (job_k2 (by assumption)).2,rfl⟩)
    | ((refine aw_mono_r (env':=[(4,.ptr 10 0 0 0),(5,vi (takeE h j))]) (H':=[.arr 10 1 (fun _=>(rdF (takeF h j) (takeE h j)).enc)]) ?_ ?_;(focus (exact zsb [some 9] [])));refine aw_ret ?_;(repeat (first|refine ret_then ?_|refine ret_block ?_));exact hret rfl rfl ⟨rdone_end (job_k3 (by assumption)).1 (job_k3 (by assumption)).2,rfl⟩)
    | ((refine aw_mono_r (env':=[(4,.ptr 10 0 0 0),(5,vi (engvE h j))]) (H':=[.arr 10 1 (fun _=>(rdF (engvF h j) (engvE h j)).enc)]) ?_ ?_;(focus (exact zsb [some 9] [])));refine aw_ret ?_;(repeat (first|refine ret_then ?_|refine ret_block ?_));exact hret rfl rfl ⟨rdone_end (job_k4 (by assumption)).1 (job_k4 (by assumption)).2,rfl⟩)
    | ((refine aw_mono_r (env':=[(4,.ptr 10 0 0 0),(5,vi (workE h j))]) (H':=[.arr 10 1 (fun _=>(rdF (workF h j) (workE h j)).enc)]) ?_ ?_;(focus (exact zsb [some 9] [])));refine aw_ret ?_;(repeat (first|refine ret_then ?_|refine ret_block ?_));exact hret rfl rfl ⟨rdone_end (job_k5 (by assumption)).1 (job_k5 (by assumption)).2,rfl⟩)
    | ((refine aw_mono_r (env':=[(4,.ptr 10 0 0 0),(5,vi (runE h j))]) (H':=[.arr 10 1 (fun _=>(rdF (runF h j) (runE h j)).enc)]) ?_ ?_;(focus (exact zsb [some 9] [])));refine aw_ret ?_;(repeat (first|refine ret_then ?_|refine ret_block ?_));exact hret rfl rfl ⟨rdone_end (job_k6 (by assumption)).1 (job_k6 (by assumption)).2,rfl⟩)
    | ((refine aw_mono_r (env':=[(4,.ptr 10 0 0 0),(5,vi (giveE h j))]) (H':=[.arr 10 1 (fun _=>(rdF (giveF h j) (giveE h j)).enc)]) ?_ ?_;(focus (exact zsb [some 9] [])));refine aw_ret ?_;(repeat (first|refine ret_then ?_|refine ret_block ?_));exact hret rfl rfl ⟨rdone_end (job_k7 (by assumption)).1 (job_k7 (by assumption)).2,rfl⟩)
    | ((refine aw_mono_r (env':=[(4,.ptr 10 0 0 0),(5,vi 0)]) (H':=[.arr 10 1 (fun _=>(waitF h j).enc)]) ?_ ?_;(focus (exact zsc [some 9] [0,1,2,3,4,5,6])));refine aw_ret ?_;(repeat (first|refine ret_then ?_|refine ret_block ?_));exact hret rfl rfl ⟨rdone_ok ((job_k8 (by omega)).1.trans (by unfold waitE;rw [if_pos (by omega)])) (job_k8 (by omega)).2,rfl⟩)
    | trace_state
end
end Go.Proofs.YtbilpbabdgfblaaGreat
