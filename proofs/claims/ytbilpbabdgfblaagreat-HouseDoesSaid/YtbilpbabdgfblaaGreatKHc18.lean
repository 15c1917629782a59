/- Parts of the proof: a layer of values over the model, and contracts of functions. No condition. -/
import Derived.Test.YtbilpbabdgfblaaGreatKHc17
set_option maxHeartbeats 16000000
set_option linter.unusedSimpArgs false
set_option linter.unusedVariables false
namespace Go.Proofs.YtbilpbabdgfblaaGreat
open Go.RowKit
section
variable {r:Option Nat}{m nt i d:Nat}{Q:Post}{env:Env}{H:Heap}{ops:Array Oper}{L:List Stp}{ty:TypeId}{pos:String}{after:Array Edge}{ats:Array TypeId}{x y z:Operand}
theorem ar_mustL {b:Bool}{e:Int}(h1:b=true→AR Tryz.prog r m nt ops Q L ((d,.tup [])::env) H) (h2:b=false→∀ L',Q (.panic (refV e)) [] (H++L')) (hx:eo env x=some (.s (.bool b)):=by exact rfl) (hy:eo env y=some (.s (.int .i64 e)):=by exact rfl) (hd:d<nt:=by exact dc rfl) :
    AR Tryz.prog r m nt ops Q (.l i ⟨some d,.call ⟨.value (.func 86),#[x,y],ats⟩,ty,pos,after,none⟩ false::L) env H:=by
  refine ar_gcall0 (args:=[x,y]) (vs:=[vb b,vi e]) (first:=[]) (cap:=[]) fn86 rfl (by rw [List.mapM_cons,List.mapM_cons,List.mapM_nil,hx,hy];rfl) [vb b,vi e] ⟨.closed rfl,.closed rfl,trivial⟩ (must_p b e) hd ?_ ?_
  · rintro _ _ ⟨hb,rfl,rfl⟩
    have:H++List.map (Blk.ren (rn [] H.length)) []=H:=by simp
    rw [this]
    exact h1 hb
  · rintro _ _ ⟨hb,rfl⟩
    exact h2 hb _
end
namespace Pn
variable (h:Hse) (m:List (Int × Tal)) (j:Job)
theorem hdo1_p (hk:j.kind=1) (hua:u8ok j.act.kind) (hV:HValid h) (ht:TalOk h m):ACalls Tryz.prog 44 [.ptr 11 0 0 0,j.enc] (shoB h m) (DoHR h j) NoP:=by
  have hE:jobE h j=archE h j:=by unfold jobE;rw [hk];rfl
  have hF:jobF h j=archF h j:=by unfold jobF;rw [hk];rfl
  have hc:=archive_p h m j hV ht
  rw [← hE,← hF] at hc
  refine acalls_sub (R:=fun v H'=>∃ v' H'',SubOf 9 1 [(0,v)] H' [(0,v')] H''∧DoHR h j v' H'') (Rp:=NoP) ?_ (fun _ _ h=>h) (fun _ _ h=>h.elim)
  refine acalls_of_try Tryz.func44 rfl Tryz.func84 rfl (by kernel_rfl) (dc rfl) (dc rfl) (by decide) ?_
  have ha:j.enc=.agg [vu8 1,vi j.client,vi j.design,vi j.order,vi j.n,vi j.til,vu8 j.act.kind,vi j.act.item,vi j.act.dest,vi j.act.n,vi j.sheet.cols,vi j.sheet.rows,vi j.sheet.weight,vi j.sheet.clear,vi j.sheet.lean,encRows j.band]:=by unfold Job.enc;rw [hk]
  rw [ha] at hc ⊢
  refine Go.Proofs.YtbilpbabdgfblaaGreat.aw_region ?_
  (repeat' (first|refine zq ?_|(refine zxl ?_;intro _ _ _)|(refine zxs ?_;intro _ _ _)|refine zbx ?_|refine zal ?_|refine zsvs ?_|refine zsva ?_|refine zses ?_|refine zsea ?_|refine zg ?_ ?_|refine zgu ?_|refine ar_nil ?_|refine aw_seq ?_|refine aw_skip ?_|refine aw_block ?_|refine aw_exit ?_|refine aw_region ?_|refine aw_drawn (id:=4) [(0,0),(1,0),(2,0),(3,0),(4,0),(5,0),(6,1)] mixed (by kernel_rfl) ?_|refine aw_drawn (id:=4) [(0,0),(1,0),(2,0),(3,0),(4,0),(5,0),(6,2)] mixed (by kernel_rfl) ?_|refine zco ?_ ?_|exact zd|(refine fun (hg:(_:Prop))=>?_;(try replace hg:=HG.out hg);(try dsimp only at hg);(try (have _h:True:=hg;clear _h hg)))))
  refine ⟨1,10,0,0,rfl,?_⟩
  refine aw_sub (m:=11) (env':=[(0,.ptr 11 0 0 0),(3,.ptr 16 9 0 0),(4,.ptr 1 10 0 0)]) (H':=[.arr 11 1 (fun _=>shoV 1 2 3 4 5 6 7 8 h),LB 5 Itm.enc h.store.items,LB 2 Prt.enc h.store.prints,LB 7 Dsn.enc h.designs,LB 4 Lic.enc h.lics,LB 4 Ordr.enc h.orders,LB 1 vi h.made,LB 1 vi h.fors,mapE Tal.enc m,.arr 16 1 (fun _=>.agg [vu8 1,vi j.client,vi j.design,vi j.order,vi j.n,vi j.til,vu8 j.act.kind,vi j.act.item,vi j.act.dest,vi j.act.n,vi j.sheet.cols,vi j.sheet.rows,vi j.sheet.weight,vi j.sheet.clear,vi j.sheet.lean,encRows j.band]),.arr 1 1 (fun _=>vi 0)]) ?_ ?_
  · (exact zsc [some 0,some 1,some 2,some 3,some 4,some 5,some 6,some 7,some 8,some 9,some 10] [])
  (repeat' (first|refine zq ?_|(refine zxl ?_;intro _ _ _)|(refine zxs ?_;intro _ _ _)|(refine zpv fn85 (hdoers_p) ?_)|refine ar_q (qs_funcIsNot (ty rfl) rfl rfl) (dc rfl) ?_|refine ar_q (qs_iaddr_aptr (j:=1) (ty rfl) rfl (ty rfl) rfl rfl rfl (dc rfl)) (dc rfl) ?_|((refine ar_must ?_ ?_<;>intro hrf<;>first|exact absurd hrf (by decide)|((try replace hrf:=HG.out hrf);(try dsimp only at hrf);(try rw [fromB_one] at hrf);(try rw [withinB_iff] at hrf);(try rw [withinB_no] at hrf);(try rw [inD_iff] at hrf);(try rw [inO_iff] at hrf))))|((refine ar_deed fn128 hc rfl ?_ ?_<;>intro hrf))|refine zbx ?_|refine zal ?_|refine zsvs ?_|refine zsva ?_|refine zses ?_|refine zsea ?_|refine zg ?_ ?_|refine zgu ?_|refine ar_nil ?_|refine aw_seq ?_|refine aw_skip ?_|refine aw_block ?_|refine aw_exit ?_|refine aw_region ?_|refine aw_drawn (id:=4) [(0,0),(1,0),(2,0),(3,0),(4,0),(5,0),(6,2)] mixed (by kernel_rfl) ?_|refine aw_drawn (id:=4) [(0,0),(1,0),(2,0),(3,0),(4,0),(5,0),(6,1)] mixed (by kernel_rfl) ?_|refine zco ?_ ?_|exact zd|(refine fun (hg:(_:Prop))=>?_;(try replace hg:=HG.out hg);(try dsimp only at hg);(try (have _h:True:=hg;clear _h hg)))))
  · intro m' hm'
    unfold shoE
    (repeat' (first|refine zq ?_|(refine zxl ?_;intro _ _ _)|(refine zxs ?_;intro _ _ _)|refine zbx ?_|refine zal ?_|refine zsvs ?_|refine zsva ?_|refine zses ?_|refine zsea ?_|refine zg ?_ ?_|refine zgu ?_|refine ar_nil ?_|refine aw_seq ?_|refine aw_skip ?_|refine aw_block ?_|refine aw_exit ?_|refine aw_region ?_|refine aw_drawn (id:=4) [(0,0),(1,0),(2,0),(3,0),(4,0),(5,0),(6,1)] mixed (by kernel_rfl) ?_|refine aw_drawn (id:=4) [(0,0),(1,0),(2,0),(3,0),(4,0),(5,0),(6,2)] mixed (by kernel_rfl) ?_|refine zco ?_ ?_|exact zd|(refine fun (hg:(_:Prop))=>?_;(try replace hg:=HG.out hg);(try dsimp only at hg);(try (have _h:True:=hg;clear _h hg)))))
    exact aw_ret (hdo_end hm' hrf rfl)
  · intro H1
    exact hdo_bad (join_out rfl rfl rfl) hrf rfl
theorem hdo2_p (hk:j.kind=2) (hua:u8ok j.act.kind) (hV:HValid h) (ht:TalOk h m):ACalls Tryz.prog 44 [.ptr 11 0 0 0,j.enc] (shoB h m) (DoHR h j) NoP:=by
  have hE:jobE h j=licnE h j:=by unfold jobE;rw [hk];rfl
  have hF:jobF h j=licnF h j:=by unfold jobF;rw [hk];rfl
  have hc:=license_p h m j hV ht
  rw [← hE,← hF] at hc
  refine acalls_sub (R:=fun v H'=>∃ v' H'',SubOf 9 1 [(0,v)] H' [(0,v')] H''∧DoHR h j v' H'') (Rp:=NoP) ?_ (fun _ _ h=>h) (fun _ _ h=>h.elim)
  refine acalls_of_try Tryz.func44 rfl Tryz.func84 rfl (by kernel_rfl) (dc rfl) (dc rfl) (by decide) ?_
  have ha:j.enc=.agg [vu8 2,vi j.client,vi j.design,vi j.order,vi j.n,vi j.til,vu8 j.act.kind,vi j.act.item,vi j.act.dest,vi j.act.n,vi j.sheet.cols,vi j.sheet.rows,vi j.sheet.weight,vi j.sheet.clear,vi j.sheet.lean,encRows j.band]:=by unfold Job.enc;rw [hk]
  rw [ha] at hc ⊢
  refine Go.Proofs.YtbilpbabdgfblaaGreat.aw_region ?_
  (repeat' (first|refine zq ?_|(refine zxl ?_;intro _ _ _)|(refine zxs ?_;intro _ _ _)|refine zbx ?_|refine zal ?_|refine zsvs ?_|refine zsva ?_|refine zses ?_|refine zsea ?_|refine zg ?_ ?_|refine zgu ?_|refine ar_nil ?_|refine aw_seq ?_|refine aw_skip ?_|refine aw_block ?_|refine aw_exit ?_|refine aw_region ?_|refine aw_drawn (id:=4) [(0,0),(1,0),(2,0),(3,0),(4,0),(5,0),(6,1)] mixed (by kernel_rfl) ?_|refine aw_drawn (id:=4) [(0,0),(1,0),(2,0),(3,0),(4,0),(5,0),(6,2)] mixed (by kernel_rfl) ?_|refine zco ?_ ?_|exact zd|(refine fun (hg:(_:Prop))=>?_;(try replace hg:=HG.out hg);(try dsimp only at hg);(try (have _h:True:=hg;clear _h hg)))))
  refine ⟨1,10,0,0,rfl,?_⟩
  refine aw_sub (m:=11) (env':=[(0,.ptr 11 0 0 0),(3,.ptr 16 9 0 0),(4,.ptr 1 10 0 0)]) (H':=[.arr 11 1 (fun _=>shoV 1 2 3 4 5 6 7 8 h),LB 5 Itm.enc h.store.items,LB 2 Prt.enc h.store.prints,LB 7 Dsn.enc h.designs,LB 4 Lic.enc h.lics,LB 4 Ordr.enc h.orders,LB 1 vi h.made,LB 1 vi h.fors,mapE Tal.enc m,.arr 16 1 (fun _=>.agg [vu8 2,vi j.client,vi j.design,vi j.order,vi j.n,vi j.til,vu8 j.act.kind,vi j.act.item,vi j.act.dest,vi j.act.n,vi j.sheet.cols,vi j.sheet.rows,vi j.sheet.weight,vi j.sheet.clear,vi j.sheet.lean,encRows j.band]),.arr 1 1 (fun _=>vi 0)]) ?_ ?_
  · (exact zsc [some 0,some 1,some 2,some 3,some 4,some 5,some 6,some 7,some 8,some 9,some 10] [])
  (repeat' (first|refine zq ?_|(refine zxl ?_;intro _ _ _)|(refine zxs ?_;intro _ _ _)|(refine zpv fn85 (hdoers_p) ?_)|refine ar_q (qs_funcIsNot (ty rfl) rfl rfl) (dc rfl) ?_|refine ar_q (qs_iaddr_aptr (j:=2) (ty rfl) rfl (ty rfl) rfl rfl rfl (dc rfl)) (dc rfl) ?_|((refine ar_must ?_ ?_<;>intro hrf<;>first|exact absurd hrf (by decide)|((try replace hrf:=HG.out hrf);(try dsimp only at hrf);(try rw [fromB_one] at hrf);(try rw [withinB_iff] at hrf);(try rw [withinB_no] at hrf);(try rw [inD_iff] at hrf);(try rw [inO_iff] at hrf))))|((refine ar_deed fn129 hc rfl ?_ ?_<;>intro hrf))|refine zbx ?_|refine zal ?_|refine zsvs ?_|refine zsva ?_|refine zses ?_|refine zsea ?_|refine zg ?_ ?_|refine zgu ?_|refine ar_nil ?_|refine aw_seq ?_|refine aw_skip ?_|refine aw_block ?_|refine aw_exit ?_|refine aw_region ?_|refine aw_drawn (id:=4) [(0,0),(1,0),(2,0),(3,0),(4,0),(5,0),(6,2)] mixed (by kernel_rfl) ?_|refine aw_drawn (id:=4) [(0,0),(1,0),(2,0),(3,0),(4,0),(5,0),(6,1)] mixed (by kernel_rfl) ?_|refine zco ?_ ?_|exact zd|(refine fun (hg:(_:Prop))=>?_;(try replace hg:=HG.out hg);(try dsimp only at hg);(try (have _h:True:=hg;clear _h hg)))))
  · intro m' hm'
    unfold shoE
    (repeat' (first|refine zq ?_|(refine zxl ?_;intro _ _ _)|(refine zxs ?_;intro _ _ _)|refine zbx ?_|refine zal ?_|refine zsvs ?_|refine zsva ?_|refine zses ?_|refine zsea ?_|refine zg ?_ ?_|refine zgu ?_|refine ar_nil ?_|refine aw_seq ?_|refine aw_skip ?_|refine aw_block ?_|refine aw_exit ?_|refine aw_region ?_|refine aw_drawn (id:=4) [(0,0),(1,0),(2,0),(3,0),(4,0),(5,0),(6,1)] mixed (by kernel_rfl) ?_|refine aw_drawn (id:=4) [(0,0),(1,0),(2,0),(3,0),(4,0),(5,0),(6,2)] mixed (by kernel_rfl) ?_|refine zco ?_ ?_|exact zd|(refine fun (hg:(_:Prop))=>?_;(try replace hg:=HG.out hg);(try dsimp only at hg);(try (have _h:True:=hg;clear _h hg)))))
    exact aw_ret (hdo_end hm' hrf rfl)
  · intro H1
    exact hdo_bad (join_out rfl rfl rfl) hrf rfl
theorem hdo3_p (hk:j.kind=3) (hua:u8ok j.act.kind) (hV:HValid h) (ht:TalOk h m):ACalls Tryz.prog 44 [.ptr 11 0 0 0,j.enc] (shoB h m) (DoHR h j) NoP:=by
  have hE:jobE h j=takeE h j:=by unfold jobE;rw [hk];rfl
  have hF:jobF h j=takeF h j:=by unfold jobF;rw [hk];rfl
  have hc:=take_p h m j hV ht
  rw [← hE,← hF] at hc
  refine acalls_sub (R:=fun v H'=>∃ v' H'',SubOf 9 1 [(0,v)] H' [(0,v')] H''∧DoHR h j v' H'') (Rp:=NoP) ?_ (fun _ _ h=>h) (fun _ _ h=>h.elim)
  refine acalls_of_try Tryz.func44 rfl Tryz.func84 rfl (by kernel_rfl) (dc rfl) (dc rfl) (by decide) ?_
  have ha:j.enc=.agg [vu8 3,vi j.client,vi j.design,vi j.order,vi j.n,vi j.til,vu8 j.act.kind,vi j.act.item,vi j.act.dest,vi j.act.n,vi j.sheet.cols,vi j.sheet.rows,vi j.sheet.weight,vi j.sheet.clear,vi j.sheet.lean,encRows j.band]:=by unfold Job.enc;rw [hk]
  rw [ha] at hc ⊢
  refine Go.Proofs.YtbilpbabdgfblaaGreat.aw_region ?_
  (repeat' (first|refine zq ?_|(refine zxl ?_;intro _ _ _)|(refine zxs ?_;intro _ _ _)|refine zbx ?_|refine zal ?_|refine zsvs ?_|refine zsva ?_|refine zses ?_|refine zsea ?_|refine zg ?_ ?_|refine zgu ?_|refine ar_nil ?_|refine aw_seq ?_|refine aw_skip ?_|refine aw_block ?_|refine aw_exit ?_|refine aw_region ?_|refine aw_drawn (id:=4) [(0,0),(1,0),(2,0),(3,0),(4,0),(5,0),(6,1)] mixed (by kernel_rfl) ?_|refine aw_drawn (id:=4) [(0,0),(1,0),(2,0),(3,0),(4,0),(5,0),(6,2)] mixed (by kernel_rfl) ?_|refine zco ?_ ?_|exact zd|(refine fun (hg:(_:Prop))=>?_;(try replace hg:=HG.out hg);(try dsimp only at hg);(try (have _h:True:=hg;clear _h hg)))))
  refine ⟨1,10,0,0,rfl,?_⟩
  refine aw_sub (m:=11) (env':=[(0,.ptr 11 0 0 0),(3,.ptr 16 9 0 0),(4,.ptr 1 10 0 0)]) (H':=[.arr 11 1 (fun _=>shoV 1 2 3 4 5 6 7 8 h),LB 5 Itm.enc h.store.items,LB 2 Prt.enc h.store.prints,LB 7 Dsn.enc h.designs,LB 4 Lic.enc h.lics,LB 4 Ordr.enc h.orders,LB 1 vi h.made,LB 1 vi h.fors,mapE Tal.enc m,.arr 16 1 (fun _=>.agg [vu8 3,vi j.client,vi j.design,vi j.order,vi j.n,vi j.til,vu8 j.act.kind,vi j.act.item,vi j.act.dest,vi j.act.n,vi j.sheet.cols,vi j.sheet.rows,vi j.sheet.weight,vi j.sheet.clear,vi j.sheet.lean,encRows j.band]),.arr 1 1 (fun _=>vi 0)]) ?_ ?_
  · (exact zsc [some 0,some 1,some 2,some 3,some 4,some 5,some 6,some 7,some 8,some 9,some 10] [])
  (repeat' (first|refine zq ?_|(refine zxl ?_;intro _ _ _)|(refine zxs ?_;intro _ _ _)|(refine zpv fn85 (hdoers_p) ?_)|refine ar_q (qs_funcIsNot (ty rfl) rfl rfl) (dc rfl) ?_|refine ar_q (qs_iaddr_aptr (j:=3) (ty rfl) rfl (ty rfl) rfl rfl rfl (dc rfl)) (dc rfl) ?_|((refine ar_must ?_ ?_<;>intro hrf<;>first|exact absurd hrf (by decide)|((try replace hrf:=HG.out hrf);(try dsimp only at hrf);(try rw [fromB_one] at hrf);(try rw [withinB_iff] at hrf);(try rw [withinB_no] at hrf);(try rw [inD_iff] at hrf);(try rw [inO_iff] at hrf))))|((refine ar_deed fn130 hc rfl ?_ ?_<;>intro hrf))|refine zbx ?_|refine zal ?_|refine zsvs ?_|refine zsva ?_|refine zses ?_|refine zsea ?_|refine zg ?_ ?_|refine zgu ?_|refine ar_nil ?_|refine aw_seq ?_|refine aw_skip ?_|refine aw_block ?_|refine aw_exit ?_|refine aw_region ?_|refine aw_drawn (id:=4) [(0,0),(1,0),(2,0),(3,0),(4,0),(5,0),(6,2)] mixed (by kernel_rfl) ?_|refine aw_drawn (id:=4) [(0,0),(1,0),(2,0),(3,0),(4,0),(5,0),(6,1)] mixed (by kernel_rfl) ?_|refine zco ?_ ?_|exact zd|(refine fun (hg:(_:Prop))=>?_;(try replace hg:=HG.out hg);(try dsimp only at hg);(try (have _h:True:=hg;clear _h hg)))))
  · intro m' hm'
    unfold shoE
    (repeat' (first|refine zq ?_|(refine zxl ?_;intro _ _ _)|(refine zxs ?_;intro _ _ _)|refine zbx ?_|refine zal ?_|refine zsvs ?_|refine zsva ?_|refine zses ?_|refine zsea ?_|refine zg ?_ ?_|refine zgu ?_|refine ar_nil ?_|refine aw_seq ?_|refine aw_skip ?_|refine aw_block ?_|refine aw_exit ?_|refine aw_region ?_|refine aw_drawn (id:=4) [(0,0),(1,0),(2,0),(3,0),(4,0),(5,0),(6,1)] mixed (by kernel_rfl) ?_|refine aw_drawn (id:=4) [(0,0),(1,0),(2,0),(3,0),(4,0),(5,0),(6,2)] mixed (by kernel_rfl) ?_|refine zco ?_ ?_|exact zd|(refine fun (hg:(_:Prop))=>?_;(try replace hg:=HG.out hg);(try dsimp only at hg);(try (have _h:True:=hg;clear _h hg)))))
    exact aw_ret (hdo_end hm' hrf rfl)
  · intro H1
    exact hdo_bad (join_out rfl rfl rfl) hrf rfl
theorem hdo4_p (hk:j.kind=4) (hua:u8ok j.act.kind) (hV:HValid h) (ht:TalOk h m):ACalls Tryz.prog 44 [.ptr 11 0 0 0,j.enc] (shoB h m) (DoHR h j) NoP:=by
  have hE:jobE h j=engvE h j:=by unfold jobE;rw [hk];rfl
  have hF:jobF h j=engvF h j:=by unfold jobF;rw [hk];rfl
  have hc:=hengrave_p h m j hV ht
  rw [← hE,← hF] at hc
  refine acalls_sub (R:=fun v H'=>∃ v' H'',SubOf 9 1 [(0,v)] H' [(0,v')] H''∧DoHR h j v' H'') (Rp:=NoP) ?_ (fun _ _ h=>h) (fun _ _ h=>h.elim)
  refine acalls_of_try Tryz.func44 rfl Tryz.func84 rfl (by kernel_rfl) (dc rfl) (dc rfl) (by decide) ?_
  have ha:j.enc=.agg [vu8 4,vi j.client,vi j.design,vi j.order,vi j.n,vi j.til,vu8 j.act.kind,vi j.act.item,vi j.act.dest,vi j.act.n,vi j.sheet.cols,vi j.sheet.rows,vi j.sheet.weight,vi j.sheet.clear,vi j.sheet.lean,encRows j.band]:=by unfold Job.enc;rw [hk]
  rw [ha] at hc ⊢
  refine Go.Proofs.YtbilpbabdgfblaaGreat.aw_region ?_
  (repeat' (first|refine zq ?_|(refine zxl ?_;intro _ _ _)|(refine zxs ?_;intro _ _ _)|refine zbx ?_|refine zal ?_|refine zsvs ?_|refine zsva ?_|refine zses ?_|refine zsea ?_|refine zg ?_ ?_|refine zgu ?_|refine ar_nil ?_|refine aw_seq ?_|refine aw_skip ?_|refine aw_block ?_|refine aw_exit ?_|refine aw_region ?_|refine aw_drawn (id:=4) [(0,0),(1,0),(2,0),(3,0),(4,0),(5,0),(6,1)] mixed (by kernel_rfl) ?_|refine aw_drawn (id:=4) [(0,0),(1,0),(2,0),(3,0),(4,0),(5,0),(6,2)] mixed (by kernel_rfl) ?_|refine zco ?_ ?_|exact zd|(refine fun (hg:(_:Prop))=>?_;(try replace hg:=HG.out hg);(try dsimp only at hg);(try (have _h:True:=hg;clear _h hg)))))
  refine ⟨1,10,0,0,rfl,?_⟩
  refine aw_sub (m:=11) (env':=[(0,.ptr 11 0 0 0),(3,.ptr 16 9 0 0),(4,.ptr 1 10 0 0)]) (H':=[.arr 11 1 (fun _=>shoV 1 2 3 4 5 6 7 8 h),LB 5 Itm.enc h.store.items,LB 2 Prt.enc h.store.prints,LB 7 Dsn.enc h.designs,LB 4 Lic.enc h.lics,LB 4 Ordr.enc h.orders,LB 1 vi h.made,LB 1 vi h.fors,mapE Tal.enc m,.arr 16 1 (fun _=>.agg [vu8 4,vi j.client,vi j.design,vi j.order,vi j.n,vi j.til,vu8 j.act.kind,vi j.act.item,vi j.act.dest,vi j.act.n,vi j.sheet.cols,vi j.sheet.rows,vi j.sheet.weight,vi j.sheet.clear,vi j.sheet.lean,encRows j.band]),.arr 1 1 (fun _=>vi 0)]) ?_ ?_
  · (exact zsc [some 0,some 1,some 2,some 3,some 4,some 5,some 6,some 7,some 8,some 9,some 10] [])
  (repeat' (first|refine zq ?_|(refine zxl ?_;intro _ _ _)|(refine zxs ?_;intro _ _ _)|(refine zpv fn85 (hdoers_p) ?_)|refine ar_q (qs_funcIsNot (ty rfl) rfl rfl) (dc rfl) ?_|refine ar_q (qs_iaddr_aptr (j:=4) (ty rfl) rfl (ty rfl) rfl rfl rfl (dc rfl)) (dc rfl) ?_|((refine ar_must ?_ ?_<;>intro hrf<;>first|exact absurd hrf (by decide)|((try replace hrf:=HG.out hrf);(try dsimp only at hrf);(try rw [fromB_one] at hrf);(try rw [withinB_iff] at hrf);(try rw [withinB_no] at hrf);(try rw [inD_iff] at hrf);(try rw [inO_iff] at hrf))))|((refine ar_deed fn131 hc rfl ?_ ?_<;>intro hrf))|refine zbx ?_|refine zal ?_|refine zsvs ?_|refine zsva ?_|refine zses ?_|refine zsea ?_|refine zg ?_ ?_|refine zgu ?_|refine ar_nil ?_|refine aw_seq ?_|refine aw_skip ?_|refine aw_block ?_|refine aw_exit ?_|refine aw_region ?_|refine aw_drawn (id:=4) [(0,0),(1,0),(2,0),(3,0),(4,0),(5,0),(6,2)] mixed (by kernel_rfl) ?_|refine aw_drawn (id:=4) [(0,0),(1,0),(2,0),(3,0),(4,0),(5,0),(6,1)] mixed (by kernel_rfl) ?_|refine zco ?_ ?_|exact zd|(refine fun (hg:(_:Prop))=>?_;(try replace hg:=HG.out hg);(try dsimp only at hg);(try (have _h:True:=hg;clear _h hg)))))
  · intro m' hm'
    unfold shoE
    (repeat' (first|refine zq ?_|(refine zxl ?_;intro _ _ _)|(refine zxs ?_;intro _ _ _)|refine zbx ?_|refine zal ?_|refine zsvs ?_|refine zsva ?_|refine zses ?_|refine zsea ?_|refine zg ?_ ?_|refine zgu ?_|refine ar_nil ?_|refine aw_seq ?_|refine aw_skip ?_|refine aw_block ?_|refine aw_exit ?_|refine aw_region ?_|refine aw_drawn (id:=4) [(0,0),(1,0),(2,0),(3,0),(4,0),(5,0),(6,1)] mixed (by kernel_rfl) ?_|refine aw_drawn (id:=4) [(0,0),(1,0),(2,0),(3,0),(4,0),(5,0),(6,2)] mixed (by kernel_rfl) ?_|refine zco ?_ ?_|exact zd|(refine fun (hg:(_:Prop))=>?_;(try replace hg:=HG.out hg);(try dsimp only at hg);(try (have _h:True:=hg;clear _h hg)))))
    exact aw_ret (hdo_end hm' hrf rfl)
  · intro H1
    exact hdo_bad (join_out rfl rfl rfl) hrf rfl
theorem hdo5_p (hk:j.kind=5) (hua:u8ok j.act.kind) (hV:HValid h) (ht:TalOk h m):ACalls Tryz.prog 44 [.ptr 11 0 0 0,j.enc] (shoB h m) (DoHR h j) NoP:=by
  have hE:jobE h j=workE h j:=by unfold jobE;rw [hk];rfl
  have hF:jobF h j=workF h j:=by unfold jobF;rw [hk];rfl
  have hc:=work_p h m j hV ht hua
  rw [← hE,← hF] at hc
  refine acalls_sub (R:=fun v H'=>∃ v' H'',SubOf 9 1 [(0,v)] H' [(0,v')] H''∧DoHR h j v' H'') (Rp:=NoP) ?_ (fun _ _ h=>h) (fun _ _ h=>h.elim)
  refine acalls_of_try Tryz.func44 rfl Tryz.func84 rfl (by kernel_rfl) (dc rfl) (dc rfl) (by decide) ?_
  have ha:j.enc=.agg [vu8 5,vi j.client,vi j.design,vi j.order,vi j.n,vi j.til,vu8 j.act.kind,vi j.act.item,vi j.act.dest,vi j.act.n,vi j.sheet.cols,vi j.sheet.rows,vi j.sheet.weight,vi j.sheet.clear,vi j.sheet.lean,encRows j.band]:=by unfold Job.enc;rw [hk]
  rw [ha] at hc ⊢
  refine Go.Proofs.YtbilpbabdgfblaaGreat.aw_region ?_
  (repeat' (first|refine zq ?_|(refine zxl ?_;intro _ _ _)|(refine zxs ?_;intro _ _ _)|refine zbx ?_|refine zal ?_|refine zsvs ?_|refine zsva ?_|refine zses ?_|refine zsea ?_|refine zg ?_ ?_|refine zgu ?_|refine ar_nil ?_|refine aw_seq ?_|refine aw_skip ?_|refine aw_block ?_|refine aw_exit ?_|refine aw_region ?_|refine aw_drawn (id:=4) [(0,0),(1,0),(2,0),(3,0),(4,0),(5,0),(6,1)] mixed (by kernel_rfl) ?_|refine aw_drawn (id:=4) [(0,0),(1,0),(2,0),(3,0),(4,0),(5,0),(6,2)] mixed (by kernel_rfl) ?_|refine zco ?_ ?_|exact zd|(refine fun (hg:(_:Prop))=>?_;(try replace hg:=HG.out hg);(try dsimp only at hg);(try (have _h:True:=hg;clear _h hg)))))
  refine ⟨1,10,0,0,rfl,?_⟩
  refine aw_sub (m:=11) (env':=[(0,.ptr 11 0 0 0),(3,.ptr 16 9 0 0),(4,.ptr 1 10 0 0)]) (H':=[.arr 11 1 (fun _=>shoV 1 2 3 4 5 6 7 8 h),LB 5 Itm.enc h.store.items,LB 2 Prt.enc h.store.prints,LB 7 Dsn.enc h.designs,LB 4 Lic.enc h.lics,LB 4 Ordr.enc h.orders,LB 1 vi h.made,LB 1 vi h.fors,mapE Tal.enc m,.arr 16 1 (fun _=>.agg [vu8 5,vi j.client,vi j.design,vi j.order,vi j.n,vi j.til,vu8 j.act.kind,vi j.act.item,vi j.act.dest,vi j.act.n,vi j.sheet.cols,vi j.sheet.rows,vi j.sheet.weight,vi j.sheet.clear,vi j.sheet.lean,encRows j.band]),.arr 1 1 (fun _=>vi 0)]) ?_ ?_
  · (exact zsc [some 0,some 1,some 2,some 3,some 4,some 5,some 6,some 7,some 8,some 9,some 10] [])
  (repeat' (first|refine zq ?_|(refine zxl ?_;intro _ _ _)|(refine zxs ?_;intro _ _ _)|(refine zpv fn85 (hdoers_p) ?_)|refine ar_q (qs_funcIsNot (ty rfl) rfl rfl) (dc rfl) ?_|refine ar_q (qs_iaddr_aptr (j:=5) (ty rfl) rfl (ty rfl) rfl rfl rfl (dc rfl)) (dc rfl) ?_|((refine ar_must ?_ ?_<;>intro hrf<;>first|exact absurd hrf (by decide)|((try replace hrf:=HG.out hrf);(try dsimp only at hrf);(try rw [fromB_one] at hrf);(try rw [withinB_iff] at hrf);(try rw [withinB_no] at hrf);(try rw [inD_iff] at hrf);(try rw [inO_iff] at hrf))))|((refine ar_deed fn132 hc rfl ?_ ?_<;>intro hrf))|refine zbx ?_|refine zal ?_|refine zsvs ?_|refine zsva ?_|refine zses ?_|refine zsea ?_|refine zg ?_ ?_|refine zgu ?_|refine ar_nil ?_|refine aw_seq ?_|refine aw_skip ?_|refine aw_block ?_|refine aw_exit ?_|refine aw_region ?_|refine aw_drawn (id:=4) [(0,0),(1,0),(2,0),(3,0),(4,0),(5,0),(6,2)] mixed (by kernel_rfl) ?_|refine aw_drawn (id:=4) [(0,0),(1,0),(2,0),(3,0),(4,0),(5,0),(6,1)] mixed (by kernel_rfl) ?_|refine zco ?_ ?_|exact zd|(refine fun (hg:(_:Prop))=>?_;(try replace hg:=HG.out hg);(try dsimp only at hg);(try (have _h:True:=hg;clear _h hg)))))
  · intro m' hm'
    unfold shoE
    (repeat' (first|refine zq ?_|(refine zxl ?_;intro _ _ _)|(refine zxs ?_;intro _ _ _)|refine zbx ?_|refine zal ?_|refine zsvs ?_|refine zsva ?_|refine zses ?_|refine zsea ?_|refine zg ?_ ?_|refine zgu ?_|refine ar_nil ?_|refine aw_seq ?_|refine aw_skip ?_|refine aw_block ?_|refine aw_exit ?_|refine aw_region ?_|refine aw_drawn (id:=4) [(0,0),(1,0),(2,0),(3,0),(4,0),(5,0),(6,1)] mixed (by kernel_rfl) ?_|refine aw_drawn (id:=4) [(0,0),(1,0),(2,0),(3,0),(4,0),(5,0),(6,2)] mixed (by kernel_rfl) ?_|refine zco ?_ ?_|exact zd|(refine fun (hg:(_:Prop))=>?_;(try replace hg:=HG.out hg);(try dsimp only at hg);(try (have _h:True:=hg;clear _h hg)))))
    exact aw_ret (hdo_end hm' hrf rfl)
  · intro H1
    exact hdo_bad (join_out rfl rfl rfl) hrf rfl
theorem hdo6_p (hk:j.kind=6) (hua:u8ok j.act.kind) (hV:HValid h) (ht:TalOk h m):ACalls Tryz.prog 44 [.ptr 11 0 0 0,j.enc] (shoB h m) (DoHR h j) NoP:=by
  have hE:jobE h j=runE h j:=by unfold jobE;rw [hk];rfl
  have hF:jobF h j=runF h j:=by unfold jobF;rw [hk];rfl
  have hc:=hprint_p h m j hV ht
  rw [← hE,← hF] at hc
  refine acalls_sub (R:=fun v H'=>∃ v' H'',SubOf 9 1 [(0,v)] H' [(0,v')] H''∧DoHR h j v' H'') (Rp:=NoP) ?_ (fun _ _ h=>h) (fun _ _ h=>h.elim)
  refine acalls_of_try Tryz.func44 rfl Tryz.func84 rfl (by kernel_rfl) (dc rfl) (dc rfl) (by decide) ?_
  have ha:j.enc=.agg [vu8 6,vi j.client,vi j.design,vi j.order,vi j.n,vi j.til,vu8 j.act.kind,vi j.act.item,vi j.act.dest,vi j.act.n,vi j.sheet.cols,vi j.sheet.rows,vi j.sheet.weight,vi j.sheet.clear,vi j.sheet.lean,encRows j.band]:=by unfold Job.enc;rw [hk]
  rw [ha] at hc ⊢
  refine Go.Proofs.YtbilpbabdgfblaaGreat.aw_region ?_
  (repeat' (first|refine zq ?_|(refine zxl ?_;intro _ _ _)|(refine zxs ?_;intro _ _ _)|refine zbx ?_|refine zal ?_|refine zsvs ?_|refine zsva ?_|refine zses ?_|refine zsea ?_|refine zg ?_ ?_|refine zgu ?_|refine ar_nil ?_|refine aw_seq ?_|refine aw_skip ?_|refine aw_block ?_|refine aw_exit ?_|refine aw_region ?_|refine aw_drawn (id:=4) [(0,0),(1,0),(2,0),(3,0),(4,0),(5,0),(6,1)] mixed (by kernel_rfl) ?_|refine aw_drawn (id:=4) [(0,0),(1,0),(2,0),(3,0),(4,0),(5,0),(6,2)] mixed (by kernel_rfl) ?_|refine zco ?_ ?_|exact zd|(refine fun (hg:(_:Prop))=>?_;(try replace hg:=HG.out hg);(try dsimp only at hg);(try (have _h:True:=hg;clear _h hg)))))
  refine ⟨1,10,0,0,rfl,?_⟩
  refine aw_sub (m:=11) (env':=[(0,.ptr 11 0 0 0),(3,.ptr 16 9 0 0),(4,.ptr 1 10 0 0)]) (H':=[.arr 11 1 (fun _=>shoV 1 2 3 4 5 6 7 8 h),LB 5 Itm.enc h.store.items,LB 2 Prt.enc h.store.prints,LB 7 Dsn.enc h.designs,LB 4 Lic.enc h.lics,LB 4 Ordr.enc h.orders,LB 1 vi h.made,LB 1 vi h.fors,mapE Tal.enc m,.arr 16 1 (fun _=>.agg [vu8 6,vi j.client,vi j.design,vi j.order,vi j.n,vi j.til,vu8 j.act.kind,vi j.act.item,vi j.act.dest,vi j.act.n,vi j.sheet.cols,vi j.sheet.rows,vi j.sheet.weight,vi j.sheet.clear,vi j.sheet.lean,encRows j.band]),.arr 1 1 (fun _=>vi 0)]) ?_ ?_
  · (exact zsc [some 0,some 1,some 2,some 3,some 4,some 5,some 6,some 7,some 8,some 9,some 10] [])
  (repeat' (first|refine zq ?_|(refine zxl ?_;intro _ _ _)|(refine zxs ?_;intro _ _ _)|(refine zpv fn85 (hdoers_p) ?_)|refine ar_q (qs_funcIsNot (ty rfl) rfl rfl) (dc rfl) ?_|refine ar_q (qs_iaddr_aptr (j:=6) (ty rfl) rfl (ty rfl) rfl rfl rfl (dc rfl)) (dc rfl) ?_|((refine ar_must ?_ ?_<;>intro hrf<;>first|exact absurd hrf (by decide)|((try replace hrf:=HG.out hrf);(try dsimp only at hrf);(try rw [fromB_one] at hrf);(try rw [withinB_iff] at hrf);(try rw [withinB_no] at hrf);(try rw [inD_iff] at hrf);(try rw [inO_iff] at hrf))))|((refine ar_deed fn133 hc rfl ?_ ?_<;>intro hrf))|refine zbx ?_|refine zal ?_|refine zsvs ?_|refine zsva ?_|refine zses ?_|refine zsea ?_|refine zg ?_ ?_|refine zgu ?_|refine ar_nil ?_|refine aw_seq ?_|refine aw_skip ?_|refine aw_block ?_|refine aw_exit ?_|refine aw_region ?_|refine aw_drawn (id:=4) [(0,0),(1,0),(2,0),(3,0),(4,0),(5,0),(6,2)] mixed (by kernel_rfl) ?_|refine aw_drawn (id:=4) [(0,0),(1,0),(2,0),(3,0),(4,0),(5,0),(6,1)] mixed (by kernel_rfl) ?_|refine zco ?_ ?_|exact zd|(refine fun (hg:(_:Prop))=>?_;(try replace hg:=HG.out hg);(try dsimp only at hg);(try (have _h:True:=hg;clear _h hg)))))
  · intro m' hm'
    unfold shoE
    (repeat' (first|refine zq ?_|(refine zxl ?_;intro _ _ _)|(refine zxs ?_;intro _ _ _)|refine zbx ?_|refine zal ?_|refine zsvs ?_|refine zsva ?_|refine zses ?_|refine zsea ?_|refine zg ?_ ?_|refine zgu ?_|refine ar_nil ?_|refine aw_seq ?_|refine aw_skip ?_|refine aw_block ?_|refine aw_exit ?_|refine aw_region ?_|refine aw_drawn (id:=4) [(0,0),(1,0),(2,0),(3,0),(4,0),(5,0),(6,1)] mixed (by kernel_rfl) ?_|refine aw_drawn (id:=4) [(0,0),(1,0),(2,0),(3,0),(4,0),(5,0),(6,2)] mixed (by kernel_rfl) ?_|refine zco ?_ ?_|exact zd|(refine fun (hg:(_:Prop))=>?_;(try replace hg:=HG.out hg);(try dsimp only at hg);(try (have _h:True:=hg;clear _h hg)))))
    exact aw_ret (hdo_end hm' hrf rfl)
  · intro H1
    exact hdo_bad (join_out rfl rfl rfl) hrf rfl
theorem hdo7_p (hk:j.kind=7) (hua:u8ok j.act.kind) (hV:HValid h) (ht:TalOk h m):ACalls Tryz.prog 44 [.ptr 11 0 0 0,j.enc] (shoB h m) (DoHR h j) NoP:=by
  have hE:jobE h j=giveE h j:=by unfold jobE;rw [hk];rfl
  have hF:jobF h j=giveF h j:=by unfold jobF;rw [hk];rfl
  have hc:=hdeliver_p h m j hV ht
  rw [← hE,← hF] at hc
  refine acalls_sub (R:=fun v H'=>∃ v' H'',SubOf 9 1 [(0,v)] H' [(0,v')] H''∧DoHR h j v' H'') (Rp:=NoP) ?_ (fun _ _ h=>h) (fun _ _ h=>h.elim)
  refine acalls_of_try Tryz.func44 rfl Tryz.func84 rfl (by kernel_rfl) (dc rfl) (dc rfl) (by decide) ?_
  have ha:j.enc=.agg [vu8 7,vi j.client,vi j.design,vi j.order,vi j.n,vi j.til,vu8 j.act.kind,vi j.act.item,vi j.act.dest,vi j.act.n,vi j.sheet.cols,vi j.sheet.rows,vi j.sheet.weight,vi j.sheet.clear,vi j.sheet.lean,encRows j.band]:=by unfold Job.enc;rw [hk]
  rw [ha] at hc ⊢
  refine Go.Proofs.YtbilpbabdgfblaaGreat.aw_region ?_
  (repeat' (first|refine zq ?_|(refine zxl ?_;intro _ _ _)|(refine zxs ?_;intro _ _ _)|refine zbx ?_|refine zal ?_|refine zsvs ?_|refine zsva ?_|refine zses ?_|refine zsea ?_|refine zg ?_ ?_|refine zgu ?_|refine ar_nil ?_|refine aw_seq ?_|refine aw_skip ?_|refine aw_block ?_|refine aw_exit ?_|refine aw_region ?_|refine aw_drawn (id:=4) [(0,0),(1,0),(2,0),(3,0),(4,0),(5,0),(6,1)] mixed (by kernel_rfl) ?_|refine aw_drawn (id:=4) [(0,0),(1,0),(2,0),(3,0),(4,0),(5,0),(6,2)] mixed (by kernel_rfl) ?_|refine zco ?_ ?_|exact zd|(refine fun (hg:(_:Prop))=>?_;(try replace hg:=HG.out hg);(try dsimp only at hg);(try (have _h:True:=hg;clear _h hg)))))
  refine ⟨1,10,0,0,rfl,?_⟩
  refine aw_sub (m:=11) (env':=[(0,.ptr 11 0 0 0),(3,.ptr 16 9 0 0),(4,.ptr 1 10 0 0)]) (H':=[.arr 11 1 (fun _=>shoV 1 2 3 4 5 6 7 8 h),LB 5 Itm.enc h.store.items,LB 2 Prt.enc h.store.prints,LB 7 Dsn.enc h.designs,LB 4 Lic.enc h.lics,LB 4 Ordr.enc h.orders,LB 1 vi h.made,LB 1 vi h.fors,mapE Tal.enc m,.arr 16 1 (fun _=>.agg [vu8 7,vi j.client,vi j.design,vi j.order,vi j.n,vi j.til,vu8 j.act.kind,vi j.act.item,vi j.act.dest,vi j.act.n,vi j.sheet.cols,vi j.sheet.rows,vi j.sheet.weight,vi j.sheet.clear,vi j.sheet.lean,encRows j.band]),.arr 1 1 (fun _=>vi 0)]) ?_ ?_
  · (exact zsc [some 0,some 1,some 2,some 3,some 4,some 5,some 6,some 7,some 8,some 9,some 10] [])
  (repeat' (first|refine zq ?_|(refine zxl ?_;intro _ _ _)|(refine zxs ?_;intro _ _ _)|(refine zpv fn85 (hdoers_p) ?_)|refine ar_q (qs_funcIsNot (ty rfl) rfl rfl) (dc rfl) ?_|refine ar_q (qs_iaddr_aptr (j:=7) (ty rfl) rfl (ty rfl) rfl rfl rfl (dc rfl)) (dc rfl) ?_|((refine ar_must ?_ ?_<;>intro hrf<;>first|exact absurd hrf (by decide)|((try replace hrf:=HG.out hrf);(try dsimp only at hrf);(try rw [fromB_one] at hrf);(try rw [withinB_iff] at hrf);(try rw [withinB_no] at hrf);(try rw [inD_iff] at hrf);(try rw [inO_iff] at hrf))))|((refine ar_deed fn134 hc rfl ?_ ?_<;>intro hrf))|refine zbx ?_|refine zal ?_|refine zsvs ?_|refine zsva ?_|refine zses ?_|refine zsea ?_|refine zg ?_ ?_|refine zgu ?_|refine ar_nil ?_|refine aw_seq ?_|refine aw_skip ?_|refine aw_block ?_|refine aw_exit ?_|refine aw_region ?_|refine aw_drawn (id:=4) [(0,0),(1,0),(2,0),(3,0),(4,0),(5,0),(6,2)] mixed (by kernel_rfl) ?_|refine aw_drawn (id:=4) [(0,0),(1,0),(2,0),(3,0),(4,0),(5,0),(6,1)] mixed (by kernel_rfl) ?_|refine zco ?_ ?_|exact zd|(refine fun (hg:(_:Prop))=>?_;(try replace hg:=HG.out hg);(try dsimp only at hg);(try (have _h:True:=hg;clear _h hg)))))
  · intro m' hm'
    unfold shoE
    (repeat' (first|refine zq ?_|(refine zxl ?_;intro _ _ _)|(refine zxs ?_;intro _ _ _)|refine zbx ?_|refine zal ?_|refine zsvs ?_|refine zsva ?_|refine zses ?_|refine zsea ?_|refine zg ?_ ?_|refine zgu ?_|refine ar_nil ?_|refine aw_seq ?_|refine aw_skip ?_|refine aw_block ?_|refine aw_exit ?_|refine aw_region ?_|refine aw_drawn (id:=4) [(0,0),(1,0),(2,0),(3,0),(4,0),(5,0),(6,1)] mixed (by kernel_rfl) ?_|refine aw_drawn (id:=4) [(0,0),(1,0),(2,0),(3,0),(4,0),(5,0),(6,2)] mixed (by kernel_rfl) ?_|refine zco ?_ ?_|exact zd|(refine fun (hg:(_:Prop))=>?_;(try replace hg:=HG.out hg);(try dsimp only at hg);(try (have _h:True:=hg;clear _h hg)))))
    exact aw_ret (hdo_end hm' hrf rfl)
  · intro H1
    exact hdo_bad (join_out rfl rfl rfl) hrf rfl
theorem hdo8_p (hk:j.kind=8) (hua:u8ok j.act.kind) (hV:HValid h) (ht:TalOk h m):ACalls Tryz.prog 44 [.ptr 11 0 0 0,j.enc] (shoB h m) (DoHR h j) NoP:=by
  have hE:jobE h j=waitE h j:=by unfold jobE;rw [hk];rfl
  have hF:jobF h j=waitF h j:=by unfold jobF;rw [hk];rfl
  have hc:=wait_p h m j hV ht
  rw [← hE,← hF] at hc
  refine acalls_sub (R:=fun v H'=>∃ v' H'',SubOf 9 1 [(0,v)] H' [(0,v')] H''∧DoHR h j v' H'') (Rp:=NoP) ?_ (fun _ _ h=>h) (fun _ _ h=>h.elim)
  refine acalls_of_try Tryz.func44 rfl Tryz.func84 rfl (by kernel_rfl) (dc rfl) (dc rfl) (by decide) ?_
  have ha:j.enc=.agg [vu8 8,vi j.client,vi j.design,vi j.order,vi j.n,vi j.til,vu8 j.act.kind,vi j.act.item,vi j.act.dest,vi j.act.n,vi j.sheet.cols,vi j.sheet.rows,vi j.sheet.weight,vi j.sheet.clear,vi j.sheet.lean,encRows j.band]:=by unfold Job.enc;rw [hk]
  rw [ha] at hc ⊢
  refine Go.Proofs.YtbilpbabdgfblaaGreat.aw_region ?_
  (repeat' (first|refine zq ?_|(refine zxl ?_;intro _ _ _)|(refine zxs ?_;intro _ _ _)|refine zbx ?_|refine zal ?_|refine zsvs ?_|refine zsva ?_|refine zses ?_|refine zsea ?_|refine zg ?_ ?_|refine zgu ?_|refine ar_nil ?_|refine aw_seq ?_|refine aw_skip ?_|refine aw_block ?_|refine aw_exit ?_|refine aw_region ?_|refine aw_drawn (id:=4) [(0,0),(1,0),(2,0),(3,0),(4,0),(5,0),(6,1)] mixed (by kernel_rfl) ?_|refine aw_drawn (id:=4) [(0,0),(1,0),(2,0),(3,0),(4,0),(5,0),(6,2)] mixed (by kernel_rfl) ?_|refine zco ?_ ?_|exact zd|(refine fun (hg:(_:Prop))=>?_;(try replace hg:=HG.out hg);(try dsimp only at hg);(try (have _h:True:=hg;clear _h hg)))))
  refine ⟨1,10,0,0,rfl,?_⟩
  refine aw_sub (m:=11) (env':=[(0,.ptr 11 0 0 0),(3,.ptr 16 9 0 0),(4,.ptr 1 10 0 0)]) (H':=[.arr 11 1 (fun _=>shoV 1 2 3 4 5 6 7 8 h),LB 5 Itm.enc h.store.items,LB 2 Prt.enc h.store.prints,LB 7 Dsn.enc h.designs,LB 4 Lic.enc h.lics,LB 4 Ordr.enc h.orders,LB 1 vi h.made,LB 1 vi h.fors,mapE Tal.enc m,.arr 16 1 (fun _=>.agg [vu8 8,vi j.client,vi j.design,vi j.order,vi j.n,vi j.til,vu8 j.act.kind,vi j.act.item,vi j.act.dest,vi j.act.n,vi j.sheet.cols,vi j.sheet.rows,vi j.sheet.weight,vi j.sheet.clear,vi j.sheet.lean,encRows j.band]),.arr 1 1 (fun _=>vi 0)]) ?_ ?_
  · (exact zsc [some 0,some 1,some 2,some 3,some 4,some 5,some 6,some 7,some 8,some 9,some 10] [])
  (repeat' (first|refine zq ?_|(refine zxl ?_;intro _ _ _)|(refine zxs ?_;intro _ _ _)|(refine zpv fn85 (hdoers_p) ?_)|refine ar_q (qs_funcIsNot (ty rfl) rfl rfl) (dc rfl) ?_|refine ar_q (qs_iaddr_aptr (j:=8) (ty rfl) rfl (ty rfl) rfl rfl rfl (dc rfl)) (dc rfl) ?_|((refine ar_must ?_ ?_<;>intro hrf<;>first|exact absurd hrf (by decide)|((try replace hrf:=HG.out hrf);(try dsimp only at hrf);(try rw [fromB_one] at hrf);(try rw [withinB_iff] at hrf);(try rw [withinB_no] at hrf);(try rw [inD_iff] at hrf);(try rw [inO_iff] at hrf))))|((refine ar_deed fn135 hc rfl ?_ ?_<;>intro hrf))|refine zbx ?_|refine zal ?_|refine zsvs ?_|refine zsva ?_|refine zses ?_|refine zsea ?_|refine zg ?_ ?_|refine zgu ?_|refine ar_nil ?_|refine aw_seq ?_|refine aw_skip ?_|refine aw_block ?_|refine aw_exit ?_|refine aw_region ?_|refine aw_drawn (id:=4) [(0,0),(1,0),(2,0),(3,0),(4,0),(5,0),(6,2)] mixed (by kernel_rfl) ?_|refine aw_drawn (id:=4) [(0,0),(1,0),(2,0),(3,0),(4,0),(5,0),(6,1)] mixed (by kernel_rfl) ?_|refine zco ?_ ?_|exact zd|(refine fun (hg:(_:Prop))=>?_;(try replace hg:=HG.out hg);(try dsimp only at hg);(try (have _h:True:=hg;clear _h hg)))))
  · intro m' hm'
    unfold shoE
    (repeat' (first|refine zq ?_|(refine zxl ?_;intro _ _ _)|(refine zxs ?_;intro _ _ _)|refine zbx ?_|refine zal ?_|refine zsvs ?_|refine zsva ?_|refine zses ?_|refine zsea ?_|refine zg ?_ ?_|refine zgu ?_|refine ar_nil ?_|refine aw_seq ?_|refine aw_skip ?_|refine aw_block ?_|refine aw_exit ?_|refine aw_region ?_|refine aw_drawn (id:=4) [(0,0),(1,0),(2,0),(3,0),(4,0),(5,0),(6,1)] mixed (by kernel_rfl) ?_|refine aw_drawn (id:=4) [(0,0),(1,0),(2,0),(3,0),(4,0),(5,0),(6,2)] mixed (by kernel_rfl) ?_|refine zco ?_ ?_|exact zd|(refine fun (hg:(_:Prop))=>?_;(try replace hg:=HG.out hg);(try dsimp only at hg);(try (have _h:True:=hg;clear _h hg)))))
    exact aw_ret (hdo_end hm' hrf rfl)
  · intro H1
    exact hdo_bad (join_out rfl rfl rfl) hrf rfl
theorem hdo_no {h:Hse}{j:Job}(hk:¬ (1≤j.kind∧j.kind≤8)):jobE h j=2:=by
  unfold jobE
  rw [if_neg (by omega),if_neg (by omega),if_neg (by omega),if_neg (by omega),if_neg (by omega),if_neg (by omega),if_neg (by omega),if_neg (by omega)]
theorem hdo0_p (hk:j.kind=0):ACalls Tryz.prog 44 [.ptr 11 0 0 0,j.enc] (shoB h m) (DoHR h j) NoP:=by
  have hE:jobE h j=2:=hdo_no (by omega)
  refine acalls_sub (R:=fun v H'=>∃ v' H'',SubOf 9 1 [(0,v)] H' [(0,v')] H''∧DoHR h j v' H'') (Rp:=NoP) ?_ (fun _ _ h=>h) (fun _ _ h=>h.elim)
  refine acalls_of_try Tryz.func44 rfl Tryz.func84 rfl (by kernel_rfl) (dc rfl) (dc rfl) (by decide) ?_
  have ha:j.enc=.agg [vu8 0,vi j.client,vi j.design,vi j.order,vi j.n,vi j.til,vu8 j.act.kind,vi j.act.item,vi j.act.dest,vi j.act.n,vi j.sheet.cols,vi j.sheet.rows,vi j.sheet.weight,vi j.sheet.clear,vi j.sheet.lean,encRows j.band]:=by unfold Job.enc;rw [hk]
  rw [ha]
  refine Go.Proofs.YtbilpbabdgfblaaGreat.aw_region ?_
  (repeat' (first|refine zq ?_|(refine zxl ?_;intro _ _ _)|(refine zxs ?_;intro _ _ _)|refine zbx ?_|refine zal ?_|refine zsvs ?_|refine zsva ?_|refine zses ?_|refine zsea ?_|refine zg ?_ ?_|refine zgu ?_|refine ar_nil ?_|refine aw_seq ?_|refine aw_skip ?_|refine aw_block ?_|refine aw_exit ?_|refine aw_region ?_|refine aw_drawn (id:=4) [(0,0),(1,0),(2,0),(3,0),(4,0),(5,0),(6,1)] mixed (by kernel_rfl) ?_|refine aw_drawn (id:=4) [(0,0),(1,0),(2,0),(3,0),(4,0),(5,0),(6,2)] mixed (by kernel_rfl) ?_|refine zco ?_ ?_|exact zd|(refine fun (hg:(_:Prop))=>?_;(try replace hg:=HG.out hg);(try dsimp only at hg);(try (have _h:True:=hg;clear _h hg)))))
  refine ⟨1,10,0,0,rfl,?_⟩
  refine aw_sub (m:=11) (env':=[(0,.ptr 11 0 0 0),(3,.ptr 16 9 0 0),(4,.ptr 1 10 0 0)]) (H':=[.arr 11 1 (fun _=>shoV 1 2 3 4 5 6 7 8 h),LB 5 Itm.enc h.store.items,LB 2 Prt.enc h.store.prints,LB 7 Dsn.enc h.designs,LB 4 Lic.enc h.lics,LB 4 Ordr.enc h.orders,LB 1 vi h.made,LB 1 vi h.fors,mapE Tal.enc m,.arr 16 1 (fun _=>.agg [vu8 0,vi j.client,vi j.design,vi j.order,vi j.n,vi j.til,vu8 j.act.kind,vi j.act.item,vi j.act.dest,vi j.act.n,vi j.sheet.cols,vi j.sheet.rows,vi j.sheet.weight,vi j.sheet.clear,vi j.sheet.lean,encRows j.band]),.arr 1 1 (fun _=>vi 0)]) ?_ ?_
  · (exact zsc [some 0,some 1,some 2,some 3,some 4,some 5,some 6,some 7,some 8,some 9,some 10] [])
  (repeat' (first|refine zq ?_|(refine zxl ?_;intro _ _ _)|(refine zxs ?_;intro _ _ _)|(refine zpv fn85 (hdoers_p) ?_)|refine ar_q (qs_nilFuncIsNot (ty rfl) rfl rfl) (dc rfl) ?_|refine ar_q (qs_iaddr_aptr (j:=0) (ty rfl) rfl (ty rfl) rfl rfl rfl (dc rfl)) (dc rfl) ?_|((refine ar_mustL ?_ ?_<;>intro hrf<;>first|exact absurd hrf (by decide)|((try replace hrf:=HG.out hrf);(try dsimp only at hrf);(try rw [fromB_one] at hrf);(try rw [withinB_iff] at hrf);(try rw [withinB_no] at hrf);(try rw [inD_iff] at hrf);(try rw [inO_iff] at hrf))))|refine zbx ?_|refine zal ?_|refine zsvs ?_|refine zsva ?_|refine zses ?_|refine zsea ?_|refine zg ?_ ?_|refine zgu ?_|refine ar_nil ?_|refine aw_seq ?_|refine aw_skip ?_|refine aw_block ?_|refine aw_exit ?_|refine aw_region ?_|refine aw_drawn (id:=4) [(0,0),(1,0),(2,0),(3,0),(4,0),(5,0),(6,2)] mixed (by kernel_rfl) ?_|refine aw_drawn (id:=4) [(0,0),(1,0),(2,0),(3,0),(4,0),(5,0),(6,1)] mixed (by kernel_rfl) ?_|refine zco ?_ ?_|exact zd|(refine fun (hg:(_:Prop))=>?_;(try replace hg:=HG.out hg);(try dsimp only at hg);(try (have _h:True:=hg;clear _h hg)))))
  all_goals (intro L';exact hdo_bad (app_lt rfl) (by decide) hE)
theorem hdo9_p (hk:9≤j.kind) (hu:j.kind≤255):ACalls Tryz.prog 44 [.ptr 11 0 0 0,j.enc] (shoB h m) (DoHR h j) NoP:=by
  have hE:jobE h j=2:=hdo_no (by omega)
  refine acalls_sub (R:=fun v H'=>∃ v' H'',SubOf 9 1 [(0,v)] H' [(0,v')] H''∧DoHR h j v' H'') (Rp:=NoP) ?_ (fun _ _ h=>h) (fun _ _ h=>h.elim)
  refine acalls_of_try Tryz.func44 rfl Tryz.func84 rfl (by kernel_rfl) (dc rfl) (dc rfl) (by decide) ?_
  have ha:j.enc=.agg [vu8 j.kind,vi j.client,vi j.design,vi j.order,vi j.n,vi j.til,vu8 j.act.kind,vi j.act.item,vi j.act.dest,vi j.act.n,vi j.sheet.cols,vi j.sheet.rows,vi j.sheet.weight,vi j.sheet.clear,vi j.sheet.lean,encRows j.band]:=rfl
  rw [ha]
  refine Go.Proofs.YtbilpbabdgfblaaGreat.aw_region ?_
  (repeat' (first|refine zq ?_|(refine zxl ?_;intro _ _ _)|(refine zxs ?_;intro _ _ _)|refine zbx ?_|refine zal ?_|refine zsvs ?_|refine zsva ?_|refine zses ?_|refine zsea ?_|refine zg ?_ ?_|refine zgu ?_|refine ar_nil ?_|refine aw_seq ?_|refine aw_skip ?_|refine aw_block ?_|refine aw_exit ?_|refine aw_region ?_|refine aw_drawn (id:=4) [(0,0),(1,0),(2,0),(3,0),(4,0),(5,0),(6,1)] mixed (by kernel_rfl) ?_|refine aw_drawn (id:=4) [(0,0),(1,0),(2,0),(3,0),(4,0),(5,0),(6,2)] mixed (by kernel_rfl) ?_|refine zco ?_ ?_|exact zd|(refine fun (hg:(_:Prop))=>?_;(try replace hg:=HG.out hg);(try dsimp only at hg);(try (have _h:True:=hg;clear _h hg)))))
  refine ⟨1,10,0,0,rfl,?_⟩
  refine aw_sub (m:=11) (env':=[(0,.ptr 11 0 0 0),(3,.ptr 16 9 0 0),(4,.ptr 1 10 0 0)]) (H':=[.arr 11 1 (fun _=>shoV 1 2 3 4 5 6 7 8 h),LB 5 Itm.enc h.store.items,LB 2 Prt.enc h.store.prints,LB 7 Dsn.enc h.designs,LB 4 Lic.enc h.lics,LB 4 Ordr.enc h.orders,LB 1 vi h.made,LB 1 vi h.fors,mapE Tal.enc m,.arr 16 1 (fun _=>.agg [vu8 j.kind,vi j.client,vi j.design,vi j.order,vi j.n,vi j.til,vu8 j.act.kind,vi j.act.item,vi j.act.dest,vi j.act.n,vi j.sheet.cols,vi j.sheet.rows,vi j.sheet.weight,vi j.sheet.clear,vi j.sheet.lean,encRows j.band]),.arr 1 1 (fun _=>vi 0)]) ?_ ?_
  · (exact zsc [some 0,some 1,some 2,some 3,some 4,some 5,some 6,some 7,some 8,some 9,some 10] [])
  (repeat' (first|refine zq ?_|(refine zxl ?_;intro _ _ _)|(refine zxs ?_;intro _ _ _)|(refine zpv fn85 (hdoers_p) ?_)|((refine ar_mustL ?_ ?_<;>intro hrf<;>first|exact absurd hrf (by decide)|((try replace hrf:=HG.out hrf);(try dsimp only at hrf);(try rw [fromB_one] at hrf);(try rw [withinB_iff] at hrf);(try rw [withinB_no] at hrf);(try rw [inD_iff] at hrf);(try rw [inO_iff] at hrf))))|refine zbx ?_|refine zal ?_|refine zsvs ?_|refine zsva ?_|refine zses ?_|refine zsea ?_|refine zg ?_ ?_|refine zgu ?_|refine ar_nil ?_|refine aw_seq ?_|refine aw_skip ?_|refine aw_block ?_|refine aw_exit ?_|refine aw_region ?_|refine aw_drawn (id:=4) [(0,0),(1,0),(2,0),(3,0),(4,0),(5,0),(6,2)] mixed (by kernel_rfl) ?_|refine aw_drawn (id:=4) [(0,0),(1,0),(2,0),(3,0),(4,0),(5,0),(6,1)] mixed (by kernel_rfl) ?_|refine zco ?_ ?_|exact zd|(refine fun (hg:(_:Prop))=>?_;(try replace hg:=HG.out hg);(try dsimp only at hg);(try (have _h:True:=hg;clear _h hg)))))
  all_goals (intro L';exact hdo_bad (app_lt rfl) (by decide) hE)
end Pn
theorem hdo_p (h:Hse) (m:List (Int × Tal)) (j:Job) (hu:u8ok j.kind) (hua:u8ok j.act.kind) (hV:HValid h) (ht:TalOk h m):ACalls Tryz.prog 44 [.ptr 11 0 0 0,j.enc] (shoB h m) (DoHR h j) NoP:=by
  have h0:j.kind=0∨j.kind=1∨j.kind=2∨j.kind=3∨j.kind=4∨j.kind=5∨j.kind=6∨j.kind=7∨j.kind=8∨9≤j.kind:=by unfold u8ok at hu;omega
  rcases h0 with h0|h0|h0|h0|h0|h0|h0|h0|h0|h0
  · exact Pn.hdo0_p h m j h0
  · exact Pn.hdo1_p h m j h0 hua hV ht
  · exact Pn.hdo2_p h m j h0 hua hV ht
  · exact Pn.hdo3_p h m j h0 hua hV ht
  · exact Pn.hdo4_p h m j h0 hua hV ht
  · exact Pn.hdo5_p h m j h0 hua hV ht
  · exact Pn.hdo6_p h m j h0 hua hV ht
  · exact Pn.hdo7_p h m j h0 hua hV ht
  · exact Pn.hdo8_p h m j h0 hua hV ht
  · exact Pn.hdo9_p h m j h0 hu.2
theorem aw_forE {α:Type}{P:Program}{r:Option Nat}{m nt:Nat}{Q:Post}{env:Env}{H:Heap}{c:Code}(N:Nat) (J:Nat→α→Prop) (E:Nat→Env) (G:Nat→α→Heap) (x0:α) (hJ:J 0 x0) (h0:SubOf m nt env H (E 0) (G 0 x0))
    (round:∀ k x,k≤N→J k x→AW P r m nt c (AE.then (fun env' H'=>k<N∧∃ x',J (k+1) x'∧SubOf m nt env' H' (E (k+1)) (G (k+1) x')) Q) (E k) (G k x)):AW P r m nt (.loop c) Q env H:=by
  refine aw_loop (fun n env H=>∃ k x,k≤N∧n=N-k∧J k x∧SubOf m nt env H (E k) (G k x)) ⟨N,0,x0,by omega,by omega,hJ,h0⟩ ?_
  rintro n env H ⟨k,x,hk,rfl,hj,hs⟩
  refine aw_sub hs (aw_mono (round k x hk hj) fun e env' H' h=>?_)
  cases e<;>first|exact h|skip
  obtain ⟨h1,x',h2,h3⟩:=h
  exact ⟨N-(k+1),by omega,k+1,x',h1,rfl,h2,h3⟩
def hseV (h:Hse):V:=.agg (shoC 0 1 2 3 4 5 6 h)
def hseR (h:Hse):Heap:=[LB 5 Itm.enc h.store.items,LB 2 Prt.enc h.store.prints,LB 7 Dsn.enc h.designs,LB 4 Lic.enc h.lics,LB 4 Ordr.enc h.orders,LB 1 vi h.made,LB 1 vi h.fors]
def noHv:V:=.agg [vi 0,vi 0,vi 0,vnil,vnil,vnil,vnil,vnil,vnil,vnil]
open Classical in
noncomputable def hchkE (h:Hse):Int:=if HValid h then 0 else 100
open Classical in
noncomputable def hdoE (h:Hse) (j:Job):Int:=if HValid h then jobE h j else 100
open Classical in
noncomputable def hdoF (h:Hse) (j:Job):Hse:=if hdoE h j=0 then jobF h j else noHse
def HDoR (h:Hse) (j:Job) (v:V) (H:Heap):Prop:=(hdoE h j=0∧v=.tup [hseV (jobF h j),vi 0]∧H=hseR (jobF h j))∨(hdoE h j≠0∧v=.tup [noHse.enc,vi (hdoE h j)]∧H=[])
theorem hdoE_ok {h:Hse}{j:Job}(hv:HValid h):hdoE h j=jobE h j:=by unfold hdoE;rw [if_pos hv]
theorem hdoE_bad {h:Hse}{j:Job}(hv:¬ HValid h):hdoE h j=100:=by unfold hdoE;rw [if_neg hv]
theorem hret {V0:V}{e:Int}{R Rp:V→Heap→Prop}{H:Heap}{b:Nat}(hH:H[b]?=some (.arr 10 1 (fun _=>V0))) (hp:partV true V0.cells 0 10=some V0) (hR:R (.tup [V0,vi e]) H):BodyQ Tryz.prog #[.cell 4 33,.tmp 5] R Rp .ret [(4,.ptr 10 b 0 0),(5,vi e)] H :=
  bq2c (f:=fun _=>V0) (v:=V0) (ty rfl) rfl hH Nat.one_pos hp rfl hR
def shoF (h':Hse) (m':List (Int × Tal)) (X:Heap):Heap:=.arr 11 1 (fun _=>shoV (X.length+9) (X.length+10) (X.length+11) (X.length+12) (X.length+13) (X.length+14) (X.length+15) 8 h')::.dead::.dead::.dead::.dead::.dead::.dead::.dead::mapE Tal.enc m'::(X++[LB 5 Itm.enc h'.store.items,LB 2 Prt.enc h'.store.prints,LB 7 Dsn.enc h'.designs,LB 4 Lic.enc h'.lics,LB 4 Ordr.enc h'.orders,LB 1 vi h'.made,LB 1 vi h'.fors])
theorem join_shoF {a0 a1 a2 a3 a4 a5 a6 a7 a8:Blk}{X:Heap}{h':Hse}{m':List (Int × Tal)}:joinH [0,1,2,3,4,5,6,7,8] [] (a0::a1::a2::a3::a4::a5::a6::a7::a8::X) (shoX h' m')=shoF h' m' X:=by
  unfold shoX shoF
  rw [join9]
  have e2:(mapE Tal.enc m').ren (rn [0,1,2,3,4,5,6,7,8] (X.length+9))=mapE Tal.enc m':=mapE_renE fun _=>rfl
  simp only [List.map_cons,List.map_nil,e2]
  rfl
section
variable {r:Option Nat}{mm nt i d:Nat}{Q:Post}{env:Env}{ops:Array Oper}{L:List Stp}{ty:TypeId}{pos:String}{after:Array Edge}{ats:Array TypeId}{x y z:Operand}
theorem ar_hdo (h:Hse) (m:List (Int × Tal)) (j:Job) {X:Heap}(hu:u8ok j.kind) (hua:u8ok j.act.kind) (hV:HValid h) (ht:TalOk h m)
    (h1:jobE h j=0→∀ m',TalOk (jobF h j) m'→AR Tryz.prog r mm nt ops Q L ((d,vi 0)::env) (shoF (jobF h j) m' X))
    (h2:jobE h j≠0→AR Tryz.prog r mm nt ops Q L ((d,vi (jobE h j))::env) (.dead::.dead::.dead::.dead::.dead::.dead::.dead::.dead::.dead::X)) (hx:eo env x=some (.ptr 11 0 0 0):=by exact rfl) (hy:eo env y=some j.enc:=by exact rfl) (hd:d<nt:=by exact dc rfl) :
    AR Tryz.prog r mm nt ops Q (.l i ⟨some d,.call ⟨.value (.func 44),#[x,y],ats⟩,ty,pos,after,none⟩ false::L) env (.arr 11 1 (fun _=>shoV 1 2 3 4 5 6 7 8 h)::LB 5 Itm.enc h.store.items::LB 2 Prt.enc h.store.prints::LB 7 Dsn.enc h.designs::LB 4 Lic.enc h.lics::LB 4 Ordr.enc h.orders::LB 1 vi h.made::LB 1 vi h.fors::mapE Tal.enc m::X):=by
  refine ar_gcall (H0:=shoB h m) [0,1,2,3,4,5,6,7,8] [] (args:=[x,y]) (vs:=[.ptr 11 0 0 0,j.enc]) (first:=[]) (cap:=[]) fn44 rfl (by rw [List.mapM_cons,List.mapM_cons,List.mapM_nil,hx,hy];rfl) (xs:=[.ptr 11 0 0 0,j.enc]) ⟨.ptr rfl,.closed rfl,trivial⟩ rfl (by decide) (fun _ h=>by cases h) (show ShoAt _ 0 1 2 3 4 5 6 7 8 h m from {}).hsub shoB_live (hdo_p h m j hu hua hV ht) hd ?_ (fun _ _ h=>h.elim)
  rintro _ _ (⟨hh,rfl,m',ht',rfl⟩|⟨hh,rfl,rfl⟩)
  · rw [join_shoF]
    exact h1 hh m' ht'
  · rw [show List.replicate 9 Blk.dead=[.dead,.dead,.dead,.dead,.dead,.dead,.dead,.dead,.dead] from rfl,join9]
    simp only [List.map_cons,List.map_nil,List.append_nil]
    exact h2 hh
end
section
variable (h:Hse) (j:Job)
theorem hcheck_p (hs:HSmall h) (hw:StOk h.store):PCalls Tryz.prog 22 [h.enc] (·=vi (hchkE h)):=by
  refine pcalls_of_aw Tryz.func22 rfl (dc rfl) ?_
  (repeat' (first|(refine ar_isq ?_;refine zq ?_)|((refine ar_gcall0 fn43 rfl rfl [h.enc] ⟨.closed rfl,trivial⟩ (hvalid_p h hs hw) (dc rfl) ?_ (fun _ _ h=>h.elim);rintro _ _ (⟨hv,rfl,m,ht,rfl⟩|⟨hv,rfl,rfl⟩)))|refine zst ?_|refine zco ?_ ?_|exact zd|(refine fun (hg:(_:Prop))=>?_;(try replace hg:=HG.out hg);(try dsimp only at hg);(try (have _h:True:=hg;clear _h hg)))))
  · refine aw_ret ?_;(repeat (first|refine ret_then ?_|refine ret_block ?_));exact bq1 rfl ⟨by unfold hchkE;rw [if_pos hv];rfl,rfl⟩
  · refine aw_ret ?_;(repeat (first|refine ret_then ?_|refine ret_block ?_));exact bq1 rfl ⟨by unfold hchkE;rw [if_neg hv];rfl,rfl⟩
theorem hDo_p (hs:HSmall h) (hw:StOk h.store) (hu:u8ok j.kind) (hua:u8ok j.act.kind):ACalls Tryz.prog 20 [h.enc,j.enc] [] (HDoR h j) NoP:=by
  refine acalls_sub (R:=fun v H'=>∃ v' H'',SubOf 0 1 [(0,v)] H' [(0,v')] H''∧HDoR h j v' H'') (Rp:=NoP) ?_ (fun _ _ h=>h) (fun _ _ h=>h.elim)
  refine acalls_of_aw Tryz.func20 rfl (dc rfl) ?_
  (repeat' (first|(refine ar_isq ?_;refine zq ?_)|(refine zbt ?_)|((refine ar_gcall0 fn43 rfl rfl [h.enc] ⟨.closed rfl,trivial⟩ (hvalid_p h hs hw) (dc rfl) ?_ (fun _ _ h=>h.elim);rintro _ _ (⟨hv,rfl,m,ht,rfl⟩|⟨hv,rfl,rfl⟩)<;>(try rw [shoB_ren])))|(((refine ar_sub_l (env':=[(4,.ptr 10 11 0 0),(6,.ptr 11 0 0 0),(17,.ptr 11 0 0 0),(18,j.enc)]) (H':=[.arr 11 1 (fun _=>shoV 1 2 3 4 5 6 7 8 h),LB 5 Itm.enc h.store.items,LB 2 Prt.enc h.store.prints,LB 7 Dsn.enc h.designs,LB 4 Lic.enc h.lics,LB 4 Ordr.enc h.orders,LB 1 vi h.made,LB 1 vi h.fors,mapE Tal.enc m,.arr 10 1 (fun _=>h.enc),.arr 16 1 (fun _=>j.enc),.arr 10 1 (fun _=>noHv)]) ?_ ?_;(focus (exact zsc [some 3,some 4,some 5,some 6,some 7,some 8,some 9,some 10,some 11,some 0,some 1,some 2] [])));refine ar_hdo h m j hu hua hv ht (fun he m' ht'=>?_) (fun he=>?_)<;>(try (unfold shoF;dsimp only [List.length_cons,List.length_nil,List.cons_append,List.nil_append]))))|refine zst ?_|refine zco ?_ ?_|exact zd|(refine fun (hg:(_:Prop))=>?_;(try replace hg:=HG.out hg);(try dsimp only at hg);(try (have _h:True:=hg;clear _h hg)))))
  · (refine aw_mono_r (env':=[(4,.ptr 10 7 0 0),(5,vi 0)]) (H':=[LB 5 Itm.enc (jobF h j).store.items,LB 2 Prt.enc (jobF h j).store.prints,LB 7 Dsn.enc (jobF h j).designs,LB 4 Lic.enc (jobF h j).lics,LB 4 Ordr.enc (jobF h j).orders,LB 1 vi (jobF h j).made,LB 1 vi (jobF h j).fors,.arr 10 1 (fun _=>hseV (jobF h j))]) ?_ ?_;(focus (exact zsc [some 12,some 13,some 14,some 15,some 16,some 17,some 18,some 11] [])))
    refine aw_ret ?_;(repeat (first|refine ret_then ?_|refine ret_block ?_));refine hret rfl rfl ⟨_,_,?_,.inl ⟨(hdoE_ok hv).trans he,rfl,rfl⟩⟩
    unfold hseR
    (exact zsc [some 0,some 1,some 2,some 3,some 4,some 5,some 6] [])
  · (refine aw_mono_r (env':=[(4,.ptr 10 0 0 0),(5,vi (jobE h j))]) (H':=[.arr 10 1 (fun _=>noHse.enc)]) ?_ ?_;(focus (exact zsc [some 11] [])))
    refine aw_ret ?_;(repeat (first|refine ret_then ?_|refine ret_block ?_));refine hret rfl rfl ⟨_,_,?_,.inr ⟨by rw [hdoE_ok hv];exact he,rfl,rfl⟩⟩
    rw [hdoE_ok hv]
    (exact zsb [] [])
  · (refine aw_mono_r (env':=[(4,.ptr 10 0 0 0),(5,vi 100)]) (H':=[.arr 10 1 (fun _=>noHse.enc)]) ?_ ?_;(focus (exact zsc [some 2] [])))
    refine aw_ret ?_;(repeat (first|refine ret_then ?_|refine ret_block ?_));refine hret rfl rfl ⟨_,_,?_,.inr ⟨by rw [hdoE_bad hv];decide,rfl,rfl⟩⟩
    rw [hdoE_bad hv]
    (exact zsb [] [])
end
section
variable (h:Hse)
theorem rhouse_p (hs:HSmall h):PCalls Tryz.prog 50 [h.enc] (fun v=>∃ b:Bool,v=vb b∧(b=true↔HValid h)):=by
  have hs0:=hs
  unfold HSmall at hs
  have no:∀ {p:Prop},(HValid h→¬ p)→p→∃ b:Bool,vb false=vb b∧(b=true↔HValid h):=fun hn hp=>⟨false,rfl,⟨fun h=>(by cases h),fun hV=>(hn hV hp).elim⟩⟩
  refine pcalls_of_aw Tryz.func50 rfl (dc rfl) ?_
  ((repeat refine aw_seq ?_);(first|(refine aw_region ?_)|(refine aw_drawn (id:=11) [(0,0),(1,0),(2,0),(3,0),(4,0),(5,0),(6,1),(7,0)] mixed (by kernel_rfl) ?_)|(refine aw_drawn (id:=11) [(0,0),(1,0),(2,0),(3,0),(4,0),(5,0),(6,2),(7,0)] mixed (by kernel_rfl) ?_)|(refine aw_drawn (id:=18) [(0,0),(1,0),(2,0),(3,0),(4,0),(5,0),(6,0),(7,0),(8,0),(9,1),(10,0),(11,0),(12,0),(13,0),(14,0),(15,0),(16,0),(17,0),(18,0),(19,0),(20,0),(21,0),(22,0),(23,0),(24,0),(25,0),(26,0),(27,0),(28,0),(29,0),(30,0),(31,0),(32,0),(33,0),(34,0)] mixed (by kernel_rfl) ?_)|(refine aw_drawn (id:=18) [(0,0),(1,0),(2,0),(3,0),(4,0),(5,0),(6,0),(7,0),(8,0),(9,2),(10,0),(11,0),(12,0),(13,0),(14,0),(15,0),(16,0),(17,0),(18,0),(19,0),(20,0),(21,0),(22,0),(23,0),(24,0),(25,0),(26,0),(27,0),(28,0),(29,0),(30,0),(31,0),(32,0),(33,0),(34,0)] mixed (by kernel_rfl) ?_));(repeat' (first|(refine ar_isq ?_;refine zq ?_)|refine zg ?_ ?_|refine zgu ?_|refine zsr ?_|(refine fun (hg:(_:Prop))=>?_;first|exact absurd hg (by decide)|((try replace hg:=HG.out hg);(try dsimp only at hg);(try rw [withinB_iff] at hg);(try rw [withinB_no] at hg);(try (have _h:True:=hg;clear _h hg));first|(exfalso;omega)|skip)))))
  (refine aw_mono_r (env':=[(1,.ref h.enc 0),(2,vb false)]) (H':=[]) ?_ ?_;(focus (exact zsb [] [0])))
  (repeat' (first|(refine ar_isq ?_;refine zq ?_)|(refine zpv fn45 (hwithin_p _ _ _) ?_)|(refine zpv fn94 (store8_p h.store) ?_)|refine zg ?_ ?_|refine zgu ?_|refine zst ?_|refine aw_drawn (id:=11) [(0,0),(1,0),(2,0),(3,0),(4,0),(5,0),(6,1),(7,0)] mixed (by kernel_rfl) ?_|refine aw_drawn (id:=11) [(0,0),(1,0),(2,0),(3,0),(4,0),(5,0),(6,2),(7,0)] mixed (by kernel_rfl) ?_|refine aw_drawn (id:=18) [(0,0),(1,0),(2,0),(3,0),(4,0),(5,0),(6,0),(7,0),(8,0),(9,1),(10,0),(11,0),(12,0),(13,0),(14,0),(15,0),(16,0),(17,0),(18,0),(19,0),(20,0),(21,0),(22,0),(23,0),(24,0),(25,0),(26,0),(27,0),(28,0),(29,0),(30,0),(31,0),(32,0),(33,0),(34,0)] mixed (by kernel_rfl) ?_|refine aw_drawn (id:=18) [(0,0),(1,0),(2,0),(3,0),(4,0),(5,0),(6,0),(7,0),(8,0),(9,2),(10,0),(11,0),(12,0),(13,0),(14,0),(15,0),(16,0),(17,0),(18,0),(19,0),(20,0),(21,0),(22,0),(23,0),(24,0),(25,0),(26,0),(27,0),(28,0),(29,0),(30,0),(31,0),(32,0),(33,0),(34,0)] mixed (by kernel_rfl) ?_|refine zco ?_ ?_|(refine fun (hg:(_:Prop))=>?_;first|exact absurd hg (by decide)|((try replace hg:=HG.out hg);(try dsimp only at hg);(try rw [withinB_iff] at hg);(try rw [withinB_no] at hg);(try (have _h:True:=hg;clear _h hg));first|(exfalso;omega)|skip))))
  all_goals first
    | ((refine aw_ret ?_;(repeat (first|refine ret_then ?_|refine ret_block ?_));refine bq1 rfl ⟨?_,rfl⟩);refine ⟨false,rfl,⟨fun h=>(by cases h),fun hV=>?_⟩⟩;have h1:=hV.per;have h2:=hV.day;have h3:=hV.store;have h4:=hV.few;have h5:=hV.forss;first|omega|contradiction)
    | skip
  have hst:Valid h.store:=by assumption
  refine aw_for h.designs.length (fun k=>∀ j,j<k→GoodD (el h.designs j)) (fun k=>[(1,.ref h.enc 0),(3,vi k)]) (fun _=>[]) (fun j hj=>by omega) ?_ ?_
  · (exact zsb [] [])
  intro k hk hJ3
  by_cases hlt:k<h.designs.length
  · (repeat' (first|(refine ar_isq ?_;refine zq ?_)|refine zil (j:=k) ?_|refine zis (j:=k) ?_|refine zit (j:=k) ?_|(refine zpv fn95 (rdesign_p (el h.designs k)) ?_)|refine zg ?_ ?_|refine zgu ?_|refine zst ?_|refine aw_drawn (id:=11) [(0,0),(1,0),(2,0),(3,0),(4,0),(5,0),(6,2),(7,0)] mixed (by kernel_rfl) ?_|refine aw_drawn (id:=11) [(0,0),(1,0),(2,0),(3,0),(4,0),(5,0),(6,1),(7,0)] mixed (by kernel_rfl) ?_|refine aw_drawn (id:=18) [(0,0),(1,0),(2,0),(3,0),(4,0),(5,0),(6,0),(7,0),(8,0),(9,2),(10,0),(11,0),(12,0),(13,0),(14,0),(15,0),(16,0),(17,0),(18,0),(19,0),(20,0),(21,0),(22,0),(23,0),(24,0),(25,0),(26,0),(27,0),(28,0),(29,0),(30,0),(31,0),(32,0),(33,0),(34,0)] mixed (by kernel_rfl) ?_|refine aw_drawn (id:=18) [(0,0),(1,0),(2,0),(3,0),(4,0),(5,0),(6,0),(7,0),(8,0),(9,1),(10,0),(11,0),(12,0),(13,0),(14,0),(15,0),(16,0),(17,0),(18,0),(19,0),(20,0),(21,0),(22,0),(23,0),(24,0),(25,0),(26,0),(27,0),(28,0),(29,0),(30,0),(31,0),(32,0),(33,0),(34,0)] mixed (by kernel_rfl) ?_|refine zco ?_ ?_|(refine fun (hg:(_:Prop))=>?_;first|exact absurd hg (by decide)|((try replace hg:=HG.out hg);(try dsimp only at hg);(try rw [withinB_iff] at hg);(try rw [withinB_no] at hg);(try (have _h:True:=hg;clear _h hg));first|(exfalso;omega)|skip))))
    all_goals first
      | (exfalso;omega)
      | ((refine aw_ret ?_;(repeat (first|refine ret_then ?_|refine ret_block ?_));refine bq1 rfl ⟨?_,rfl⟩);refine ⟨false,rfl,⟨fun h=>(by cases h),fun hV=>?_⟩⟩;have:=hV.designs k hlt;simp_all)
      | ((first|refine loop_next (by omega) ?_ ?_|refine (show _∧_∧SubOf _ _ _ _ _ _ from And.intro (by omega) (And.intro ?_ ?_)));(focus ((exact all_step hJ3 (by simp_all));done));(focus (exact zsb [] [])))
      | trace_state
  · obtain rfl:k=h.designs.length:=by omega
    (repeat' (first|(refine ar_isq ?_;refine zq ?_)|refine zg ?_ ?_|refine zgu ?_|refine zst ?_|refine aw_drawn (id:=11) [(0,0),(1,0),(2,0),(3,0),(4,0),(5,0),(6,2),(7,0)] mixed (by kernel_rfl) ?_|refine aw_drawn (id:=11) [(0,0),(1,0),(2,0),(3,0),(4,0),(5,0),(6,1),(7,0)] mixed (by kernel_rfl) ?_|refine aw_drawn (id:=18) [(0,0),(1,0),(2,0),(3,0),(4,0),(5,0),(6,0),(7,0),(8,0),(9,2),(10,0),(11,0),(12,0),(13,0),(14,0),(15,0),(16,0),(17,0),(18,0),(19,0),(20,0),(21,0),(22,0),(23,0),(24,0),(25,0),(26,0),(27,0),(28,0),(29,0),(30,0),(31,0),(32,0),(33,0),(34,0)] mixed (by kernel_rfl) ?_|refine aw_drawn (id:=18) [(0,0),(1,0),(2,0),(3,0),(4,0),(5,0),(6,0),(7,0),(8,0),(9,1),(10,0),(11,0),(12,0),(13,0),(14,0),(15,0),(16,0),(17,0),(18,0),(19,0),(20,0),(21,0),(22,0),(23,0),(24,0),(25,0),(26,0),(27,0),(28,0),(29,0),(30,0),(31,0),(32,0),(33,0),(34,0)] mixed (by kernel_rfl) ?_|refine zco ?_ ?_|(refine fun (hg:(_:Prop))=>?_;first|exact absurd hg (by decide)|((try replace hg:=HG.out hg);(try dsimp only at hg);(try rw [withinB_iff] at hg);(try rw [withinB_no] at hg);(try (have _h:True:=hg;clear _h hg));first|(exfalso;omega)|skip))))
    all_goals first
      | (exfalso;omega)
      | skip
    refine aw_for h.lics.length (fun k=>∀ j,j<k→LicOk h (el h.lics j)) (fun k=>[(1,.ref h.enc 0),(4,vi k)]) (fun _=>[]) (fun j hj=>by omega) ?_ ?_
    · (exact zsb [] [])
    intro k hk hJ4
    by_cases hlt:k<h.lics.length
    · (repeat' (first|(refine ar_isq ?_;refine zq ?_)|refine zil (j:=k) ?_|refine zis (j:=k) ?_|refine zit (j:=k) ?_|((refine ar_pcall (own:=false) fn96 rfl rfl (.cons (.closed rfl) (.cons (.closed rfl) .nil)) (rlicence_p h (el h.lics k) (by omega)) (by simp) (dc rfl) ?_;rintro _ ⟨bx,rfl,hbx⟩))|refine zg ?_ ?_|refine zgu ?_|refine zst ?_|refine aw_drawn (id:=11) [(0,0),(1,0),(2,0),(3,0),(4,0),(5,0),(6,2),(7,0)] mixed (by kernel_rfl) ?_|refine aw_drawn (id:=11) [(0,0),(1,0),(2,0),(3,0),(4,0),(5,0),(6,1),(7,0)] mixed (by kernel_rfl) ?_|refine aw_drawn (id:=18) [(0,0),(1,0),(2,0),(3,0),(4,0),(5,0),(6,0),(7,0),(8,0),(9,2),(10,0),(11,0),(12,0),(13,0),(14,0),(15,0),(16,0),(17,0),(18,0),(19,0),(20,0),(21,0),(22,0),(23,0),(24,0),(25,0),(26,0),(27,0),(28,0),(29,0),(30,0),(31,0),(32,0),(33,0),(34,0)] mixed (by kernel_rfl) ?_|refine aw_drawn (id:=18) [(0,0),(1,0),(2,0),(3,0),(4,0),(5,0),(6,0),(7,0),(8,0),(9,1),(10,0),(11,0),(12,0),(13,0),(14,0),(15,0),(16,0),(17,0),(18,0),(19,0),(20,0),(21,0),(22,0),(23,0),(24,0),(25,0),(26,0),(27,0),(28,0),(29,0),(30,0),(31,0),(32,0),(33,0),(34,0)] mixed (by kernel_rfl) ?_|refine zco ?_ ?_|(refine fun (hg:(_:Prop))=>?_;first|exact absurd hg (by decide)|((try replace hg:=HG.out hg);(try dsimp only at hg);(try rw [withinB_iff] at hg);(try rw [withinB_no] at hg);(try (have _h:True:=hg;clear _h hg));first|(exfalso;omega)|skip))))
      all_goals first
        | (exfalso;omega)
        | ((refine aw_ret ?_;(repeat (first|refine ret_then ?_|refine ret_block ?_));refine bq1 rfl ⟨?_,rfl⟩);refine ⟨false,rfl,⟨fun h=>(by cases h),fun hV=>?_⟩⟩;have:=hV.lics k hlt;simp_all)
        | ((first|refine loop_next (by omega) ?_ ?_|refine (show _∧_∧SubOf _ _ _ _ _ _ from And.intro (by omega) (And.intro ?_ ?_)));(focus ((exact all_step hJ4 (by simp_all));done));(focus (exact zsb [] [])))
        | trace_state
    · obtain rfl:k=h.lics.length:=by omega
      (repeat' (first|(refine ar_isq ?_;refine zq ?_)|((refine ar_pcall (own:=false) fn97 rfl rfl (.cons (.closed rfl) .nil) (rmade_p h hs0 hst) (by simp) (dc rfl) ?_;rintro _ ⟨bm,rfl,hbm⟩))|refine zg ?_ ?_|refine zgu ?_|refine zst ?_|refine aw_drawn (id:=11) [(0,0),(1,0),(2,0),(3,0),(4,0),(5,0),(6,2),(7,0)] mixed (by kernel_rfl) ?_|refine aw_drawn (id:=11) [(0,0),(1,0),(2,0),(3,0),(4,0),(5,0),(6,1),(7,0)] mixed (by kernel_rfl) ?_|refine aw_drawn (id:=18) [(0,0),(1,0),(2,0),(3,0),(4,0),(5,0),(6,0),(7,0),(8,0),(9,2),(10,0),(11,0),(12,0),(13,0),(14,0),(15,0),(16,0),(17,0),(18,0),(19,0),(20,0),(21,0),(22,0),(23,0),(24,0),(25,0),(26,0),(27,0),(28,0),(29,0),(30,0),(31,0),(32,0),(33,0),(34,0)] mixed (by kernel_rfl) ?_|refine aw_drawn (id:=18) [(0,0),(1,0),(2,0),(3,0),(4,0),(5,0),(6,0),(7,0),(8,0),(9,1),(10,0),(11,0),(12,0),(13,0),(14,0),(15,0),(16,0),(17,0),(18,0),(19,0),(20,0),(21,0),(22,0),(23,0),(24,0),(25,0),(26,0),(27,0),(28,0),(29,0),(30,0),(31,0),(32,0),(33,0),(34,0)] mixed (by kernel_rfl) ?_|refine zco ?_ ?_|(refine fun (hg:(_:Prop))=>?_;first|exact absurd hg (by decide)|((try replace hg:=HG.out hg);(try dsimp only at hg);(try rw [withinB_iff] at hg);(try rw [withinB_no] at hg);(try (have _h:True:=hg;clear _h hg));first|(exfalso;omega)|skip))))
      all_goals first
        | ((refine aw_ret ?_;(repeat (first|refine ret_then ?_|refine ret_block ?_));refine bq1 rfl ⟨?_,rfl⟩);refine ⟨false,rfl,⟨fun h=>(by cases h),fun hV=>?_⟩⟩;have h5:=hV.forss;have h6:=hbm.2 hV.madeOk;first|omega|simp_all)
        | skip
      have hmd:=hbm.1 (by assumption)
      refine aw_for h.fors.length (fun k=>∀ j,j<k→ForAt h j) (fun k=>[(1,.ref h.enc 0),(5,vi k)]) (fun _=>[]) (fun j hj=>by omega) ?_ ?_
      · (exact zsb [] [])
      intro k hk hJ5
      by_cases hlt:k<h.fors.length
      · have hpl:=(hst.2.2.2.1 k (by omega)).1;have hml:=hmd.1
        (repeat' (first|(refine ar_isq ?_;refine zq ?_)|refine zil (j:=k) ?_|refine zis (j:=k) ?_|refine zit (j:=k) ?_|refine zil (j:=(el h.fors k).toNat) ?_|refine zis (j:=(el h.fors k).toNat) ?_|refine zit (j:=(el h.fors k).toNat) ?_|refine zil (j:=(el h.store.prints k).plate.toNat) ?_|refine zis (j:=(el h.store.prints k).plate.toNat) ?_|refine zit (j:=(el h.store.prints k).plate.toNat) ?_|(refine zpv fn45 (hwithin_p _ _ _) ?_)|refine zg ?_ ?_|refine zgu ?_|refine zst ?_|refine aw_drawn (id:=11) [(0,0),(1,0),(2,0),(3,0),(4,0),(5,0),(6,2),(7,0)] mixed (by kernel_rfl) ?_|refine aw_drawn (id:=11) [(0,0),(1,0),(2,0),(3,0),(4,0),(5,0),(6,1),(7,0)] mixed (by kernel_rfl) ?_|refine aw_drawn (id:=18) [(0,0),(1,0),(2,0),(3,0),(4,0),(5,0),(6,0),(7,0),(8,0),(9,2),(10,0),(11,0),(12,0),(13,0),(14,0),(15,0),(16,0),(17,0),(18,0),(19,0),(20,0),(21,0),(22,0),(23,0),(24,0),(25,0),(26,0),(27,0),(28,0),(29,0),(30,0),(31,0),(32,0),(33,0),(34,0)] mixed (by kernel_rfl) ?_|refine aw_drawn (id:=18) [(0,0),(1,0),(2,0),(3,0),(4,0),(5,0),(6,0),(7,0),(8,0),(9,1),(10,0),(11,0),(12,0),(13,0),(14,0),(15,0),(16,0),(17,0),(18,0),(19,0),(20,0),(21,0),(22,0),(23,0),(24,0),(25,0),(26,0),(27,0),(28,0),(29,0),(30,0),(31,0),(32,0),(33,0),(34,0)] mixed (by kernel_rfl) ?_|refine zco ?_ ?_|(refine fun (hg:(_:Prop))=>?_;first|exact absurd hg (by decide)|((try replace hg:=HG.out hg);(try dsimp only at hg);(try rw [withinB_iff] at hg);(try rw [withinB_no] at hg);(try (have _h:True:=hg;clear _h hg));first|(exfalso;omega)|skip))))
        all_goals first
          | (exfalso;omega)
          | ((refine aw_ret ?_;(repeat (first|refine ret_then ?_|refine ret_block ?_));refine bq1 rfl ⟨?_,rfl⟩);refine ⟨false,rfl,⟨fun h=>(by cases h),fun hV=>?_⟩⟩;have:=hV.fors k hlt;unfold ForAt inOrders at this;first|omega|simp_all)
          | ((first|refine loop_next (by omega) ?_ ?_|refine (show _∧_∧SubOf _ _ _ _ _ _ from And.intro (by omega) (And.intro ?_ ?_)));(focus ((exact all_step hJ5 ⟨by unfold inOrders;omega,by assumption⟩);done));(focus (exact zsb [] [])))
          | trace_state
      · obtain rfl:k=h.fors.length:=by omega
        (repeat' (first|(refine ar_isq ?_;refine zq ?_)|refine zg ?_ ?_|refine zgu ?_|refine zst ?_|refine aw_drawn (id:=11) [(0,0),(1,0),(2,0),(3,0),(4,0),(5,0),(6,2),(7,0)] mixed (by kernel_rfl) ?_|refine aw_drawn (id:=11) [(0,0),(1,0),(2,0),(3,0),(4,0),(5,0),(6,1),(7,0)] mixed (by kernel_rfl) ?_|refine aw_drawn (id:=18) [(0,0),(1,0),(2,0),(3,0),(4,0),(5,0),(6,0),(7,0),(8,0),(9,2),(10,0),(11,0),(12,0),(13,0),(14,0),(15,0),(16,0),(17,0),(18,0),(19,0),(20,0),(21,0),(22,0),(23,0),(24,0),(25,0),(26,0),(27,0),(28,0),(29,0),(30,0),(31,0),(32,0),(33,0),(34,0)] mixed (by kernel_rfl) ?_|refine aw_drawn (id:=18) [(0,0),(1,0),(2,0),(3,0),(4,0),(5,0),(6,0),(7,0),(8,0),(9,1),(10,0),(11,0),(12,0),(13,0),(14,0),(15,0),(16,0),(17,0),(18,0),(19,0),(20,0),(21,0),(22,0),(23,0),(24,0),(25,0),(26,0),(27,0),(28,0),(29,0),(30,0),(31,0),(32,0),(33,0),(34,0)] mixed (by kernel_rfl) ?_|refine zco ?_ ?_|(refine fun (hg:(_:Prop))=>?_;first|exact absurd hg (by decide)|((try replace hg:=HG.out hg);(try dsimp only at hg);(try rw [withinB_iff] at hg);(try rw [withinB_no] at hg);(try (have _h:True:=hg;clear _h hg));first|(exfalso;omega)|skip))))
        all_goals first
          | (exfalso;omega)
          | skip
        refine aw_for h.orders.length (fun k=>∀ j,j<k→OrdAt h j) (fun k=>[(1,.ref h.enc 0),(6,vi k)]) (fun _=>[]) (fun j hj=>by omega) ?_ ?_
        · (exact zsb [] [])
        intro k hk hJ6
        by_cases hlt:k<h.orders.length
        · (repeat' (first|(refine ar_isq ?_;refine zq ?_)|refine zil (j:=k) ?_|refine zis (j:=k) ?_|refine zit (j:=k) ?_|((refine ar_pcall (own:=false) fn98 rfl rfl (.cons (.closed rfl) (.cons (.closed rfl) .nil)) (rordered_p h k hlt (by omega) (by omega) (by omega)) (by simp) (dc rfl) ?_;rintro _ ⟨bx,rfl,hbx⟩))|refine zg ?_ ?_|refine zgu ?_|refine zst ?_|refine aw_drawn (id:=11) [(0,0),(1,0),(2,0),(3,0),(4,0),(5,0),(6,2),(7,0)] mixed (by kernel_rfl) ?_|refine aw_drawn (id:=11) [(0,0),(1,0),(2,0),(3,0),(4,0),(5,0),(6,1),(7,0)] mixed (by kernel_rfl) ?_|refine aw_drawn (id:=18) [(0,0),(1,0),(2,0),(3,0),(4,0),(5,0),(6,0),(7,0),(8,0),(9,2),(10,0),(11,0),(12,0),(13,0),(14,0),(15,0),(16,0),(17,0),(18,0),(19,0),(20,0),(21,0),(22,0),(23,0),(24,0),(25,0),(26,0),(27,0),(28,0),(29,0),(30,0),(31,0),(32,0),(33,0),(34,0)] mixed (by kernel_rfl) ?_|refine aw_drawn (id:=18) [(0,0),(1,0),(2,0),(3,0),(4,0),(5,0),(6,0),(7,0),(8,0),(9,1),(10,0),(11,0),(12,0),(13,0),(14,0),(15,0),(16,0),(17,0),(18,0),(19,0),(20,0),(21,0),(22,0),(23,0),(24,0),(25,0),(26,0),(27,0),(28,0),(29,0),(30,0),(31,0),(32,0),(33,0),(34,0)] mixed (by kernel_rfl) ?_|refine zco ?_ ?_|(refine fun (hg:(_:Prop))=>?_;first|exact absurd hg (by decide)|((try replace hg:=HG.out hg);(try dsimp only at hg);(try rw [withinB_iff] at hg);(try rw [withinB_no] at hg);(try (have _h:True:=hg;clear _h hg));first|(exfalso;omega)|skip))))
          all_goals first
            | (exfalso;omega)
            | ((refine aw_ret ?_;(repeat (first|refine ret_then ?_|refine ret_block ?_));refine bq1 rfl ⟨?_,rfl⟩);refine ⟨false,rfl,⟨fun h=>(by cases h),fun hV=>?_⟩⟩;have:=hV.orders k hlt;simp_all)
            | ((first|refine loop_next (by omega) ?_ ?_|refine (show _∧_∧SubOf _ _ _ _ _ _ from And.intro (by omega) (And.intro ?_ ?_)));(focus ((exact all_step hJ6 (by simp_all));done));(focus (exact zsb [] [])))
            | trace_state
        · obtain rfl:k=h.orders.length:=by omega
          (repeat' (first|(refine ar_isq ?_;refine zq ?_)|refine zg ?_ ?_|refine zgu ?_|refine zst ?_|refine aw_drawn (id:=11) [(0,0),(1,0),(2,0),(3,0),(4,0),(5,0),(6,2),(7,0)] mixed (by kernel_rfl) ?_|refine aw_drawn (id:=11) [(0,0),(1,0),(2,0),(3,0),(4,0),(5,0),(6,1),(7,0)] mixed (by kernel_rfl) ?_|refine aw_drawn (id:=18) [(0,0),(1,0),(2,0),(3,0),(4,0),(5,0),(6,0),(7,0),(8,0),(9,2),(10,0),(11,0),(12,0),(13,0),(14,0),(15,0),(16,0),(17,0),(18,0),(19,0),(20,0),(21,0),(22,0),(23,0),(24,0),(25,0),(26,0),(27,0),(28,0),(29,0),(30,0),(31,0),(32,0),(33,0),(34,0)] mixed (by kernel_rfl) ?_|refine aw_drawn (id:=18) [(0,0),(1,0),(2,0),(3,0),(4,0),(5,0),(6,0),(7,0),(8,0),(9,1),(10,0),(11,0),(12,0),(13,0),(14,0),(15,0),(16,0),(17,0),(18,0),(19,0),(20,0),(21,0),(22,0),(23,0),(24,0),(25,0),(26,0),(27,0),(28,0),(29,0),(30,0),(31,0),(32,0),(33,0),(34,0)] mixed (by kernel_rfl) ?_|refine zco ?_ ?_|(refine fun (hg:(_:Prop))=>?_;first|exact absurd hg (by decide)|((try replace hg:=HG.out hg);(try dsimp only at hg);(try rw [withinB_iff] at hg);(try rw [withinB_no] at hg);(try (have _h:True:=hg;clear _h hg));first|(exfalso;omega)|skip))))
          all_goals first
            | (exfalso;omega)
            | ((refine aw_ret ?_;(repeat (first|refine ret_then ?_|refine ret_block ?_));refine bq1 rfl ⟨?_,rfl⟩);exact ⟨true,rfl,⟨fun _=>⟨by assumption,by assumption,hst,by omega,hJ3,hJ4,hmd.1,hmd.2,by omega,hJ5,hJ6⟩,fun _=>rfl⟩⟩)
            | trace_state
end
theorem vsub_band {H:Heap}{σ:List (Option Nat)}{fr:Nat→Prop}{b:List (List Int)}{k i:Nat}{g:Nat→V}(hi:i<k+1) (hv:VSub H σ fr (g 0) (encInts (el b k))):VSub H σ fr (appF k (fun i=>encInts (el b i)) g i) (encInts (el b i)):=by
  by_cases h:i<k
  · rw [appF_lt h];exact .closed rfl
  · obtain rfl:i=k:=by omega
    rw [appF_ge (Nat.le_refl _),Nat.sub_self]
    exact hv
section
variable (h:Hse)
theorem rcheck_p (hs:HSmall h):PCalls Tryz.prog 23 [h.enc] (·=vi (hchkE h)):=by
  refine pcalls_of_aw Tryz.func23 rfl (dc rfl) ?_
  (repeat' (first|(refine ar_isq ?_;refine zq ?_)|((refine ar_pcall (own:=false) fn50 rfl rfl (.cons (.closed rfl) .nil) (rhouse_p h hs) (by simp) (dc rfl) ?_;rintro _ ⟨bx,rfl,hbx⟩))|refine zst ?_|refine zco ?_ ?_|exact zd|(refine fun (hg:(_:Prop))=>?_;(try replace hg:=HG.out hg);(try dsimp only at hg);(try (have _h:True:=hg;clear _h hg)))))
  all_goals first
    | ((refine aw_ret ?_;(repeat (first|refine ret_then ?_|refine ret_block ?_));refine bq1 rfl ⟨?_,rfl⟩);unfold hchkE;rw [if_pos (by first|exact hbx.1 (by assumption)|exact hbx.1 rfl)];rfl)
    | ((refine aw_ret ?_;(repeat (first|refine ret_then ?_|refine ret_block ?_));refine bq1 rfl ⟨?_,rfl⟩);unfold hchkE;rw [if_neg (fun hv=>by have:=hbx.2 hv;simp_all)];rfl)
    | trace_state
theorem rband_p (b:List (List Int)) (hb:SmallB b):PCalls Tryz.prog 49 [encRows b] (·=encRows b):=by
  unfold SmallB at hb
  obtain ⟨hb1,hb2⟩:=hb
  refine pcalls_of_aw Tryz.func49 rfl (dc rfl) ?_
  (repeat' (first|(refine ar_isq ?_;refine zq ?_)|refine zst ?_|refine zco ?_ ?_|exact zd|(refine fun (hg:(_:Prop))=>?_;(try replace hg:=HG.out hg);(try dsimp only at hg);(try (have _h:True:=hg;clear _h hg)))))
  refine aw_for b.length (fun _=>True) (fun k=>[(0,encRows b),(3,.sl 1 0 0 k),(4,vi k)]) (fun k=>[.arr 1 k (fun i=>encInts (el b i))]) trivial ?_ ?_
  · (exact zsb [none] [])
  intro k hk _
  by_cases hlt:k<b.length
  · have hbk:=hb2 _ (el_mem hlt)
    (repeat' (first|(refine ar_isq ?_;refine zq ?_)|refine zil (j:=k) ?_|refine zis (j:=k) ?_|refine zit (j:=k) ?_|refine zst ?_|refine zco ?_ ?_|exact zd|(refine fun (hg:(_:Prop))=>?_;(try replace hg:=HG.out hg);(try dsimp only at hg);(try (have _h:True:=hg;clear _h hg)))))
    ((first|refine loop_next (by omega) ?_ ?_|refine (show _∧_∧SubOf _ _ _ _ _ _ from And.intro (by omega) (And.intro ?_ ?_)));(focus ((trivial);done));(focus ((refine sub_to [some 3] [1] rfl ?_ ?_<;>(repeat' (first|exact trivial|refine ⟨⟨_,rfl,?_⟩,?_⟩|refine vs1 ?_ ?_|refine vs2 ?_ ?_|refine vs3 ?_|refine vs4 ?_ ?_|refine ⟨.inl ⟨_,_,rfl,rfl,?_⟩,?_⟩|exact ⟨.inr ⟨rfl,rfl⟩,trivial⟩|refine ⟨.inr ⟨rfl,rfl⟩,?_⟩|(intro _ _)|exact vz1|(exact vsub_band (by assumption) (frz_all (by simp) rfl (fun _ _=>rfl) (fun _=>rfl) rfl))|exact vz2|fail)));done)))
  · obtain rfl:k=b.length:=by omega
    (repeat' (first|(refine ar_isq ?_;refine zq ?_)|refine zst ?_|refine zco ?_ ?_|exact zd|(refine fun (hg:(_:Prop))=>?_;(try replace hg:=HG.out hg);(try dsimp only at hg);(try (have _h:True:=hg;clear _h hg)))))
    (refine aw_mono_r (env':=[(2,encRows b)]) (H':=[]) ?_ ?_;(focus ((refine sub_to [] [0] rfl ?_ ?_<;>(repeat' (first|exact trivial|refine ⟨⟨_,rfl,?_⟩,?_⟩|refine vs1 ?_ ?_|refine vs2 ?_ ?_|refine vs3 ?_|refine vs4 ?_ ?_|refine ⟨.inl ⟨_,_,rfl,rfl,?_⟩,?_⟩|exact ⟨.inr ⟨rfl,rfl⟩,trivial⟩|refine ⟨.inr ⟨rfl,rfl⟩,?_⟩|(intro _ _)|exact vz1|(exact frzLB (by simp) rfl (fun _=>rfl) rfl)|exact vz2|fail)));done)))
    (refine aw_ret ?_;(repeat (first|refine ret_then ?_|refine ret_block ?_));refine bq1 rfl ⟨?_,rfl⟩)
    rfl
end
section
variable (h:Hse)
theorem rcopied_p (hs:HSmall h):ACalls Tryz.prog 19 [h.enc] [] (fun v H=>v=hseV h∧H=hseR h) NoP:=by
  obtain ⟨h1,h2,h3,h4,h5,h6,h7,h8⟩:=hs
  refine acalls_sub (R:=fun v H'=>∃ v' H'',SubOf 0 1 [(0,v)] H' [(0,v')] H''∧v'=hseV h∧H''=hseR h) (Rp:=NoP) ?_ (fun _ _ h=>h) (fun _ _ h=>h.elim)
  refine acalls_of_aw Tryz.func19 rfl (dc rfl) ?_
  (repeat' (first|(refine ar_isq ?_;refine zq ?_)|refine zst ?_|refine aw_drawn (id:=7) [(0,0),(1,0),(2,0),(3,0),(4,0),(5,0),(6,0),(7,0),(8,0),(9,1),(10,0),(11,0),(12,2)] mixed (by kernel_rfl) ?_|refine zco ?_ ?_|exact zd|(refine fun (hg:(_:Prop))=>?_;(try replace hg:=HG.out hg);(try dsimp only at hg);(try (have _h:True:=hg;clear _h hg)))))
  refine aw_for h.designs.length (fun _=>True) (fun k=>[(1,.ptr 10 0 0 0),(2,.ptr 10 1 0 0),(3,vi k)]) (fun k=>[.arr 10 1 (fun _=>.agg [vi h.per,vi h.day,vi h.store.life,.sl 5 2 0 h.store.items.length,.sl 2 3 0 h.store.prints.length,.sl 7 4 0 h.designs.length,encLics h.lics,encOrders h.orders,encInts h.made,encInts h.fors]),.arr 10 1 (fun _=>noHv),LB 5 Itm.enc h.store.items,LB 2 Prt.enc h.store.prints,LB 7 Dsn.enc h.designs]) trivial ?_ ?_
  · (exact zsc [some 0,some 1,some 2,some 3,some 4] [])
  intro k hk _
  by_cases hlt:k<h.designs.length
  · have hbk:=h8 _ (el_mem hlt)
    (repeat' (first|(refine ar_isq ?_;refine zq ?_)|refine zil (j:=k) ?_|refine zis (j:=k) ?_|refine zit (j:=k) ?_|(refine zpv fn49 (rband_p (el h.designs k).band hbk) ?_)|refine zst ?_|refine aw_drawn (id:=7) [(0,0),(1,0),(2,0),(3,0),(4,0),(5,0),(6,0),(7,0),(8,0),(9,1),(10,0),(11,0),(12,2)] mixed (by kernel_rfl) ?_|refine zco ?_ ?_|exact zd|(refine fun (hg:(_:Prop))=>?_;(try replace hg:=HG.out hg);(try dsimp only at hg);(try (have _h:True:=hg;clear _h hg)))))
    ((first|refine loop_next (by omega) ?_ ?_|refine (show _∧_∧SubOf _ _ _ _ _ _ from And.intro (by omega) (And.intro ?_ ?_)));(focus ((trivial);done));(focus (exact zsc [some 0,some 1,some 2,some 3,some 4] [])))
  · obtain rfl:k=h.designs.length:=by omega
    (repeat' (first|(refine ar_isq ?_;refine zq ?_)|refine zst ?_|refine aw_drawn (id:=7) [(0,0),(1,0),(2,0),(3,0),(4,0),(5,0),(6,0),(7,0),(8,0),(9,1),(10,0),(11,0),(12,2)] mixed (by kernel_rfl) ?_|refine zco ?_ ?_|exact zd|(refine fun (hg:(_:Prop))=>?_;(try replace hg:=HG.out hg);(try dsimp only at hg);(try (have _h:True:=hg;clear _h hg)))))
    (refine aw_mono_r (env':=[(2,.ptr 10 7 0 0)]) (H':=[LB 5 Itm.enc h.store.items,LB 2 Prt.enc h.store.prints,LB 7 Dsn.enc h.designs,LB 4 Lic.enc h.lics,LB 4 Ordr.enc h.orders,LB 1 vi h.made,LB 1 vi h.fors,.arr 10 1 (fun _=>hseV h)]) ?_ ?_;(focus (exact zsc [some 2,some 3,some 4,some 5,some 6,some 7,some 8,some 1] [])))
    refine aw_ret ?_;(repeat (first|refine ret_then ?_|refine ret_block ?_));refine bq1c (f:=fun _=>hseV h) (v:=hseV h) (ty rfl) rfl rfl Nat.one_pos rfl ⟨_,_,?_,rfl,rfl⟩
    unfold hseR
    (exact zsc [some 0,some 1,some 2,some 3,some 4,some 5,some 6] [])
end
end Go.Proofs.YtbilpbabdgfblaaGreat
