/- Parts of the proof: contracts of functions. No condition. -/
import Derived.Test.YtbilpbabdgfblaaGreatKSq17
set_option maxHeartbeats 16000000
set_option linter.unusedSimpArgs false
set_option linter.unusedVariables false
namespace Go.Proofs.YtbilpbabdgfblaaGreat
open Go.RowKit
section
variable {r:Option Nat}{m nt i d:Nat}{Q:Post}{env:Env}{H:Heap}{ops:Array Oper}{L:List Stp}{ty:TypeId}{pos:String}{after:Array Edge}{ats:Array TypeId}{x y z:Operand}
theorem ar_mustL {b:Bool}{e:Int}(h1:b=true→AR Tryz.prog r m nt ops Q L ((d,.tup [])::env) H) (h2:b=false→∀ L',Q (.panic (refV e)) [] (H++L')) (hx:eo env x=some (.s (.bool b)):=by exact rfl) (hy:eo env y=some (.s (.int .i64 e)):=by exact rfl) (hd:d<nt:=by exact dc rfl) :
  AR Tryz.prog r m nt ops Q (.l i ⟨some d,.call ⟨.value (.func 86),#[x,y],ats⟩,ty,pos,after,none⟩ false::L) env H:=by
 refine ar_gcall0 (args:=[x,y]) (vs:=[vb b,vi e]) (first:=[]) (cap:=[]) fn86 rfl (by rw [List.mapM_cons,List.mapM_cons,List.mapM_nil,hx,hy];rfl) [vb b,vi e] ⟨.closed rfl,.closed rfl,trivial⟩ (must_p b e) hd ?_ ?_
 ·rintro _ _ ⟨hb,rfl,rfl⟩
  have:H++List.map (Blk.ren (rn [] H.length)) []=H:=by simp
  rw [this]
  exact h1 hb
 ·rintro _ _ ⟨hb,rfl⟩
  exact h2 hb _
end
namespace Pn
variable (h:Hse) (m:List (Int × Tal)) (j:Job)
theorem hdo1_p (hk:j.kind=1) (hua:u8ok j.act.kind) (hV:HValid h) (ht:TalOk h m):ACalls Tryz.prog 44 [.ptr 11 0 0 0,j.enc] (shoB h m) (DoHR h j) NoP:=by
 have hE:jobE h j=archE h j:=by unfold jobE;rw [hk];rfl
 have hF:jobF h j=archF h j:=by unfold jobF;rw [hk];rfl
 have hc:=archive_p h m j hV ht
 rw [← hE,← hF] at hc
 refine acalls_sub (R:=fun v H'=>∃ v' H'',SubOf 9 1 [(0,v)] H' [(0,v')] H''∧DoHR h j v' H'') (Rp:=NoP) ?_ (fun _ _ h=>h) (fun _ _ h=>h.elim)
 refine acalls_of_try Tryz.func44 rfl Tryz.func84 rfl (by kernel_rfl) (dc rfl) (dc rfl) (by decide) ?_
 have ha:j.enc=.agg [vu8 1,vi j.client,vi j.design,vi j.order,vi j.n,vi j.til,vu8 j.act.kind,vi j.act.item,vi j.act.dest,vi j.act.n,vi j.sheet.cols,vi j.sheet.rows,vi j.sheet.weight,vi j.sheet.clear,vi j.sheet.lean,encRows j.band]:=by unfold Job.enc;rw [hk]
 rw [ha] at hc ⊢
 refine Go.Proofs.YtbilpbabdgfblaaGreat.aw_region ?_
 (repeat' (first|refine zq ?_|(refine zxl ?_;intro _ _ _)|(refine zxs ?_;intro _ _ _)|refine zbx ?_|refine zal ?_|refine zsvs ?_|refine zsva ?_|refine zses ?_|refine zsea ?_|refine zg ?_ ?_|refine zgu ?_|refine ar_nil ?_|refine aw_seq ?_|refine aw_skip ?_|refine aw_block ?_|refine aw_exit ?_|refine aw_region ?_|refine aw_drawn (id:=4) [(0,0),(1,0),(2,0),(3,0),(4,0),(5,0),(6,1)] mixed (by kernel_rfl) ?_|refine aw_drawn (id:=4) [(0,0),(1,0),(2,0),(3,0),(4,0),(5,0),(6,2)] mixed (by kernel_rfl) ?_|refine zco ?_ ?_|exact zd|(refine fun (hg:(_:Prop))=>?_;(try replace hg:=HG.out hg);(try dsimp only at hg);(try (have _h:True:=hg;clear _h hg)))))
 refine ⟨1,10,0,0,rfl,?_⟩
 refine aw_sub (m:=11) (env':=[(0,.ptr 11 0 0 0),(3,.ptr 16 9 0 0),(4,.ptr 1 10 0 0)]) (H':=[.arr 11 1 (fun _=>shoV 1 2 3 4 5 6 7 8 h),LB 5 Itm.enc h.store.items,LB 2 Prt.enc h.store.prints,LB 7 Dsn.enc h.designs,LB 4 Lic.enc h.lics,LB 4 Ordr.enc h.orders,LB 1 vi h.made,LB 1 vi h.fors,mapE Tal.enc m,.arr 16 1 (fun _=>.agg [vu8 1,vi j.client,vi j.design,vi j.order,vi j.n,vi j.til,vu8 j.act.kind,vi j.act.item,vi j.act.dest,vi j.act.n,vi j.sheet.cols,vi j.sheet.rows,vi j.sheet.weight,vi j.sheet.clear,vi j.sheet.lean,encRows j.band]),.arr 1 1 (fun _=>vi 0)]) ?_ ?_
 ·(exact zsc [some 0,some 1,some 2,some 3,some 4,some 5,some 6,some 7,some 8,some 9,some 10] [])
 (repeat' (first|refine zq ?_|(refine zxl ?_;intro _ _ _)|(refine zxs ?_;intro _ _ _)|(refine zpv fn85 (hdoers_p) ?_)|refine ar_q (qs_funcIsNot (ty rfl) rfl rfl) (dc rfl) ?_|refine ar_q (qs_iaddr_aptr (j:=1) (ty rfl) rfl (ty rfl) rfl rfl rfl (dc rfl)) (dc rfl) ?_|((refine ar_must ?_ ?_<;>intro hrf<;>first|exact absurd hrf (by decide)|((try replace hrf:=HG.out hrf);(try dsimp only at hrf);(try rw [fromB_one] at hrf);(try rw [withinB_iff] at hrf);(try rw [withinB_no] at hrf);(try rw [inD_iff] at hrf);(try rw [inO_iff] at hrf))))|((refine ar_deed fn128 hc rfl ?_ ?_<;>intro hrf))|refine zbx ?_|refine zal ?_|refine zsvs ?_|refine zsva ?_|refine zses ?_|refine zsea ?_|refine zg ?_ ?_|refine zgu ?_|refine ar_nil ?_|refine aw_seq ?_|refine aw_skip ?_|refine aw_block ?_|refine aw_exit ?_|refine aw_region ?_|refine aw_drawn (id:=4) [(0,0),(1,0),(2,0),(3,0),(4,0),(5,0),(6,2)] mixed (by kernel_rfl) ?_|refine aw_drawn (id:=4) [(0,0),(1,0),(2,0),(3,0),(4,0),(5,0),(6,1)] mixed (by kernel_rfl) ?_|refine zco ?_ ?_|exact zd|(refine fun (hg:(_:Prop))=>?_;(try replace hg:=HG.out hg);(try dsimp only at hg);(try (have _h:True:=hg;clear _h hg)))))
 ·intro m' hm'
  unfold shoE
  (repeat' (first|refine zq ?_|(refine zxl ?_;intro _ _ _)|(refine zxs ?_;intro _ _ _)|refine zbx ?_|refine zal ?_|refine zsvs ?_|refine zsva ?_|refine zses ?_|refine zsea ?_|refine zg ?_ ?_|refine zgu ?_|refine ar_nil ?_|refine aw_seq ?_|refine aw_skip ?_|refine aw_block ?_|refine aw_exit ?_|refine aw_region ?_|refine aw_drawn (id:=4) [(0,0),(1,0),(2,0),(3,0),(4,0),(5,0),(6,1)] mixed (by kernel_rfl) ?_|refine aw_drawn (id:=4) [(0,0),(1,0),(2,0),(3,0),(4,0),(5,0),(6,2)] mixed (by kernel_rfl) ?_|refine zco ?_ ?_|exact zd|(refine fun (hg:(_:Prop))=>?_;(try replace hg:=HG.out hg);(try dsimp only at hg);(try (have _h:True:=hg;clear _h hg)))))
  exact aw_ret (hdo_end hm' hrf rfl)
 ·intro H1
  exact hdo_bad (join_out rfl rfl rfl) hrf rfl
theorem hdo2_p (hk:j.kind=2) (hua:u8ok j.act.kind) (hV:HValid h) (ht:TalOk h m):ACalls Tryz.prog 44 [.ptr 11 0 0 0,j.enc] (shoB h m) (DoHR h j) NoP:=by
 have hE:jobE h j=licnE h j:=by unfold jobE;rw [hk];rfl
 have hF:jobF h j=licnF h j:=by unfold jobF;rw [hk];rfl
 have hc:=license_p h m j hV ht
 rw [← hE,← hF] at hc
 refine acalls_sub (R:=fun v H'=>∃ v' H'',SubOf 9 1 [(0,v)] H' [(0,v')] H''∧DoHR h j v' H'') (Rp:=NoP) ?_ (fun _ _ h=>h) (fun _ _ h=>h.elim)
 refine acalls_of_try Tryz.func44 rfl Tryz.func84 rfl (by kernel_rfl) (dc rfl) (dc rfl) (by decide) ?_
 have ha:j.enc=.agg [vu8 2,vi j.client,vi j.design,vi j.order,vi j.n,vi j.til,vu8 j.act.kind,vi j.act.item,vi j.act.dest,vi j.act.n,vi j.sheet.cols,vi j.sheet.rows,vi j.sheet.weight,vi j.sheet.clear,vi j.sheet.lean,encRows j.band]:=by unfold Job.enc;rw [hk]
 rw [ha] at hc ⊢
 refine Go.Proofs.YtbilpbabdgfblaaGreat.aw_region ?_
 (repeat' (first|refine zq ?_|(refine zxl ?_;intro _ _ _)|(refine zxs ?_;intro _ _ _)|refine zbx ?_|refine zal ?_|refine zsvs ?_|refine zsva ?_|refine zses ?_|refine zsea ?_|refine zg ?_ ?_|refine zgu ?_|refine ar_nil ?_|refine aw_seq ?_|refine aw_skip ?_|refine aw_block ?_|refine aw_exit ?_|refine aw_region ?_|refine aw_drawn (id:=4) [(0,0),(1,0),(2,0),(3,0),(4,0),(5,0),(6,1)] mixed (by kernel_rfl) ?_|refine aw_drawn (id:=4) [(0,0),(1,0),(2,0),(3,0),(4,0),(5,0),(6,2)] mixed (by kernel_rfl) ?_|refine zco ?_ ?_|exact zd|(refine fun (hg:(_:Prop))=>?_;(try replace hg:=HG.out hg);(try dsimp only at hg);(try (have _h:True:=hg;clear _h hg)))))
 refine ⟨1,10,0,0,rfl,?_⟩
 refine aw_sub (m:=11) (env':=[(0,.ptr 11 0 0 0),(3,.ptr 16 9 0 0),(4,.ptr 1 10 0 0)]) (H':=[.arr 11 1 (fun _=>shoV 1 2 3 4 5 6 7 8 h),LB 5 Itm.enc h.store.items,LB 2 Prt.enc h.store.prints,LB 7 Dsn.enc h.designs,LB 4 Lic.enc h.lics,LB 4 Ordr.enc h.orders,LB 1 vi h.made,LB 1 vi h.fors,mapE Tal.enc m,.arr 16 1 (fun _=>.agg [vu8 2,vi j.client,vi j.design,vi j.order,vi j.n,vi j.til,vu8 j.act.kind,vi j.act.item,vi j.act.dest,vi j.act.n,vi j.sheet.cols,vi j.sheet.rows,vi j.sheet.weight,vi j.sheet.clear,vi j.sheet.lean,encRows j.band]),.arr 1 1 (fun _=>vi 0)]) ?_ ?_
 ·(exact zsc [some 0,some 1,some 2,some 3,some 4,some 5,some 6,some 7,some 8,some 9,some 10] [])
 (repeat' (first|refine zq ?_|(refine zxl ?_;intro _ _ _)|(refine zxs ?_;intro _ _ _)|(refine zpv fn85 (hdoers_p) ?_)|refine ar_q (qs_funcIsNot (ty rfl) rfl rfl) (dc rfl) ?_|refine ar_q (qs_iaddr_aptr (j:=2) (ty rfl) rfl (ty rfl) rfl rfl rfl (dc rfl)) (dc rfl) ?_|((refine ar_must ?_ ?_<;>intro hrf<;>first|exact absurd hrf (by decide)|((try replace hrf:=HG.out hrf);(try dsimp only at hrf);(try rw [fromB_one] at hrf);(try rw [withinB_iff] at hrf);(try rw [withinB_no] at hrf);(try rw [inD_iff] at hrf);(try rw [inO_iff] at hrf))))|((refine ar_deed fn129 hc rfl ?_ ?_<;>intro hrf))|refine zbx ?_|refine zal ?_|refine zsvs ?_|refine zsva ?_|refine zses ?_|refine zsea ?_|refine zg ?_ ?_|refine zgu ?_|refine ar_nil ?_|refine aw_seq ?_|refine aw_skip ?_|refine aw_block ?_|refine aw_exit ?_|refine aw_region ?_|refine aw_drawn (id:=4) [(0,0),(1,0),(2,0),(3,0),(4,0),(5,0),(6,2)] mixed (by kernel_rfl) ?_|refine aw_drawn (id:=4) [(0,0),(1,0),(2,0),(3,0),(4,0),(5,0),(6,1)] mixed (by kernel_rfl) ?_|refine zco ?_ ?_|exact zd|(refine fun (hg:(_:Prop))=>?_;(try replace hg:=HG.out hg);(try dsimp only at hg);(try (have _h:True:=hg;clear _h hg)))))
 ·intro m' hm'
  unfold shoE
  (repeat' (first|refine zq ?_|(refine zxl ?_;intro _ _ _)|(refine zxs ?_;intro _ _ _)|refine zbx ?_|refine zal ?_|refine zsvs ?_|refine zsva ?_|refine zses ?_|refine zsea ?_|refine zg ?_ ?_|refine zgu ?_|refine ar_nil ?_|refine aw_seq ?_|refine aw_skip ?_|refine aw_block ?_|refine aw_exit ?_|refine aw_region ?_|refine aw_drawn (id:=4) [(0,0),(1,0),(2,0),(3,0),(4,0),(5,0),(6,1)] mixed (by kernel_rfl) ?_|refine aw_drawn (id:=4) [(0,0),(1,0),(2,0),(3,0),(4,0),(5,0),(6,2)] mixed (by kernel_rfl) ?_|refine zco ?_ ?_|exact zd|(refine fun (hg:(_:Prop))=>?_;(try replace hg:=HG.out hg);(try dsimp only at hg);(try (have _h:True:=hg;clear _h hg)))))
  exact aw_ret (hdo_end hm' hrf rfl)
 ·intro H1
  exact hdo_bad (join_out rfl rfl rfl) hrf rfl
theorem hdo3_p (hk:j.kind=3) (hua:u8ok j.act.kind) (hV:HValid h) (ht:TalOk h m):ACalls Tryz.prog 44 [.ptr 11 0 0 0,j.enc] (shoB h m) (DoHR h j) NoP:=by
 have hE:jobE h j=takeE h j:=by unfold jobE;rw [hk];rfl
 have hF:jobF h j=takeF h j:=by unfold jobF;rw [hk];rfl
 have hc:=take_p h m j hV ht
 rw [← hE,← hF] at hc
 refine acalls_sub (R:=fun v H'=>∃ v' H'',SubOf 9 1 [(0,v)] H' [(0,v')] H''∧DoHR h j v' H'') (Rp:=NoP) ?_ (fun _ _ h=>h) (fun _ _ h=>h.elim)
 refine acalls_of_try Tryz.func44 rfl Tryz.func84 rfl (by kernel_rfl) (dc rfl) (dc rfl) (by decide) ?_
 have ha:j.enc=.agg [vu8 3,vi j.client,vi j.design,vi j.order,vi j.n,vi j.til,vu8 j.act.kind,vi j.act.item,vi j.act.dest,vi j.act.n,vi j.sheet.cols,vi j.sheet.rows,vi j.sheet.weight,vi j.sheet.clear,vi j.sheet.lean,encRows j.band]:=by unfold Job.enc;rw [hk]
 rw [ha] at hc ⊢
 refine Go.Proofs.YtbilpbabdgfblaaGreat.aw_region ?_
 (repeat' (first|refine zq ?_|(refine zxl ?_;intro _ _ _)|(refine zxs ?_;intro _ _ _)|refine zbx ?_|refine zal ?_|refine zsvs ?_|refine zsva ?_|refine zses ?_|refine zsea ?_|refine zg ?_ ?_|refine zgu ?_|refine ar_nil ?_|refine aw_seq ?_|refine aw_skip ?_|refine aw_block ?_|refine aw_exit ?_|refine aw_region ?_|refine aw_drawn (id:=4) [(0,0),(1,0),(2,0),(3,0),(4,0),(5,0),(6,1)] mixed (by kernel_rfl) ?_|refine aw_drawn (id:=4) [(0,0),(1,0),(2,0),(3,0),(4,0),(5,0),(6,2)] mixed (by kernel_rfl) ?_|refine zco ?_ ?_|exact zd|(refine fun (hg:(_:Prop))=>?_;(try replace hg:=HG.out hg);(try dsimp only at hg);(try (have _h:True:=hg;clear _h hg)))))
 refine ⟨1,10,0,0,rfl,?_⟩
 refine aw_sub (m:=11) (env':=[(0,.ptr 11 0 0 0),(3,.ptr 16 9 0 0),(4,.ptr 1 10 0 0)]) (H':=[.arr 11 1 (fun _=>shoV 1 2 3 4 5 6 7 8 h),LB 5 Itm.enc h.store.items,LB 2 Prt.enc h.store.prints,LB 7 Dsn.enc h.designs,LB 4 Lic.enc h.lics,LB 4 Ordr.enc h.orders,LB 1 vi h.made,LB 1 vi h.fors,mapE Tal.enc m,.arr 16 1 (fun _=>.agg [vu8 3,vi j.client,vi j.design,vi j.order,vi j.n,vi j.til,vu8 j.act.kind,vi j.act.item,vi j.act.dest,vi j.act.n,vi j.sheet.cols,vi j.sheet.rows,vi j.sheet.weight,vi j.sheet.clear,vi j.sheet.lean,encRows j.band]),.arr 1 1 (fun _=>vi 0)]) ?_ ?_
 ·(exact zsc [some 0,some 1,some 2,some 3,some 4,some 5,some 6,some 7,some 8,some 9,some 10] [])
 (repeat' (first|refine zq ?_|(refine zxl ?_;intro _ _ _)|(refine zxs ?_;intro _ _ _)|(refine zpv fn85 (hdoers_p) ?_)|refine ar_q (qs_funcIsNot (ty rfl) rfl rfl) (dc rfl) ?_|refine ar_q (qs_iaddr_aptr (j:=3) (ty rfl) rfl (ty rfl) rfl rfl rfl (dc rfl)) (dc rfl) ?_|((refine ar_must ?_ ?_<;>intro hrf<;>first|exact absurd hrf (by decide)|((try replace hrf:=HG.out hrf);(try dsimp only at hrf);(try rw [fromB_one] at hrf);(try rw [withinB_iff] at hrf);(try rw [withinB_no] at hrf);(try rw [inD_iff] at hrf);(try rw [inO_iff] at hrf))))|((refine ar_deed fn130 hc rfl ?_ ?_<;>intro hrf))|refine zbx ?_|refine zal ?_|refine zsvs ?_|refine zsva ?_|refine zses ?_|refine zsea ?_|refine zg ?_ ?_|refine zgu ?_|refine ar_nil ?_|refine aw_seq ?_|refine aw_skip ?_|refine aw_block ?_|refine aw_exit ?_|refine aw_region ?_|refine aw_drawn (id:=4) [(0,0),(1,0),(2,0),(3,0),(4,0),(5,0),(6,2)] mixed (by kernel_rfl) ?_|refine aw_drawn (id:=4) [(0,0),(1,0),(2,0),(3,0),(4,0),(5,0),(6,1)] mixed (by kernel_rfl) ?_|refine zco ?_ ?_|exact zd|(refine fun (hg:(_:Prop))=>?_;(try replace hg:=HG.out hg);(try dsimp only at hg);(try (have _h:True:=hg;clear _h hg)))))
 ·intro m' hm'
  unfold shoE
  (repeat' (first|refine zq ?_|(refine zxl ?_;intro _ _ _)|(refine zxs ?_;intro _ _ _)|refine zbx ?_|refine zal ?_|refine zsvs ?_|refine zsva ?_|refine zses ?_|refine zsea ?_|refine zg ?_ ?_|refine zgu ?_|refine ar_nil ?_|refine aw_seq ?_|refine aw_skip ?_|refine aw_block ?_|refine aw_exit ?_|refine aw_region ?_|refine aw_drawn (id:=4) [(0,0),(1,0),(2,0),(3,0),(4,0),(5,0),(6,1)] mixed (by kernel_rfl) ?_|refine aw_drawn (id:=4) [(0,0),(1,0),(2,0),(3,0),(4,0),(5,0),(6,2)] mixed (by kernel_rfl) ?_|refine zco ?_ ?_|exact zd|(refine fun (hg:(_:Prop))=>?_;(try replace hg:=HG.out hg);(try dsimp only at hg);(try (have _h:True:=hg;clear _h hg)))))
  exact aw_ret (hdo_end hm' hrf rfl)
 ·intro H1
  exact hdo_bad (join_out rfl rfl rfl) hrf rfl
theorem hdo4_p (hk:j.kind=4) (hua:u8ok j.act.kind) (hV:HValid h) (ht:TalOk h m):ACalls Tryz.prog 44 [.ptr 11 0 0 0,j.enc] (shoB h m) (DoHR h j) NoP:=by
 have hE:jobE h j=engvE h j:=by unfold jobE;rw [hk];rfl
 have hF:jobF h j=engvF h j:=by unfold jobF;rw [hk];rfl
 have hc:=hengrave_p h m j hV ht
 rw [← hE,← hF] at hc
 refine acalls_sub (R:=fun v H'=>∃ v' H'',SubOf 9 1 [(0,v)] H' [(0,v')] H''∧DoHR h j v' H'') (Rp:=NoP) ?_ (fun _ _ h=>h) (fun _ _ h=>h.elim)
 refine acalls_of_try Tryz.func44 rfl Tryz.func84 rfl (by kernel_rfl) (dc rfl) (dc rfl) (by decide) ?_
 have ha:j.enc=.agg [vu8 4,vi j.client,vi j.design,vi j.order,vi j.n,vi j.til,vu8 j.act.kind,vi j.act.item,vi j.act.dest,vi j.act.n,vi j.sheet.cols,vi j.sheet.rows,vi j.sheet.weight,vi j.sheet.clear,vi j.sheet.lean,encRows j.band]:=by unfold Job.enc;rw [hk]
 rw [ha] at hc ⊢
 refine Go.Proofs.YtbilpbabdgfblaaGreat.aw_region ?_
 (repeat' (first|refine zq ?_|(refine zxl ?_;intro _ _ _)|(refine zxs ?_;intro _ _ _)|refine zbx ?_|refine zal ?_|refine zsvs ?_|refine zsva ?_|refine zses ?_|refine zsea ?_|refine zg ?_ ?_|refine zgu ?_|refine ar_nil ?_|refine aw_seq ?_|refine aw_skip ?_|refine aw_block ?_|refine aw_exit ?_|refine aw_region ?_|refine aw_drawn (id:=4) [(0,0),(1,0),(2,0),(3,0),(4,0),(5,0),(6,1)] mixed (by kernel_rfl) ?_|refine aw_drawn (id:=4) [(0,0),(1,0),(2,0),(3,0),(4,0),(5,0),(6,2)] mixed (by kernel_rfl) ?_|refine zco ?_ ?_|exact zd|(refine fun (hg:(_:Prop))=>?_;(try replace hg:=HG.out hg);(try dsimp only at hg);(try (have _h:True:=hg;clear _h hg)))))
 refine ⟨1,10,0,0,rfl,?_⟩
 refine aw_sub (m:=11) (env':=[(0,.ptr 11 0 0 0),(3,.ptr 16 9 0 0),(4,.ptr 1 10 0 0)]) (H':=[.arr 11 1 (fun _=>shoV 1 2 3 4 5 6 7 8 h),LB 5 Itm.enc h.store.items,LB 2 Prt.enc h.store.prints,LB 7 Dsn.enc h.designs,LB 4 Lic.enc h.lics,LB 4 Ordr.enc h.orders,LB 1 vi h.made,LB 1 vi h.fors,mapE Tal.enc m,.arr 16 1 (fun _=>.agg [vu8 4,vi j.client,vi j.design,vi j.order,vi j.n,vi j.til,vu8 j.act.kind,vi j.act.item,vi j.act.dest,vi j.act.n,vi j.sheet.cols,vi j.sheet.rows,vi j.sheet.weight,vi j.sheet.clear,vi j.sheet.lean,encRows j.band]),.arr 1 1 (fun _=>vi 0)]) ?_ ?_
 ·(exact zsc [some 0,some 1,some 2,some 3,some 4,some 5,some 6,some 7,some 8,some 9,some 10] [])
 (repeat' (first|refine zq ?_|(refine zxl ?_;intro _ _ _)|(refine zxs ?_;intro _ _ _)|(refine zpv fn85 (hdoers_p) ?_)|refine ar_q (qs_funcIsNot (ty rfl) rfl rfl) (dc rfl) ?_|refine ar_q (qs_iaddr_aptr (j:=4) (ty rfl) rfl (ty rfl) rfl rfl rfl (dc rfl)) (dc rfl) ?_|((refine ar_must ?_ ?_<;>intro hrf<;>first|exact absurd hrf (by decide)|((try replace hrf:=HG.out hrf);(try dsimp only at hrf);(try rw [fromB_one] at hrf);(try rw [withinB_iff] at hrf);(try rw [withinB_no] at hrf);(try rw [inD_iff] at hrf);(try rw [inO_iff] at hrf))))|((refine ar_deed fn131 hc rfl ?_ ?_<;>intro hrf))|refine zbx ?_|refine zal ?_|refine zsvs ?_|refine zsva ?_|refine zses ?_|refine zsea ?_|refine zg ?_ ?_|refine zgu ?_|refine ar_nil ?_|refine aw_seq ?_|refine aw_skip ?_|refine aw_block ?_|refine aw_exit ?_|refine aw_region ?_|refine aw_drawn (id:=4) [(0,0),(1,0),(2,0),(3,0),(4,0),(5,0),(6,2)] mixed (by kernel_rfl) ?_|refine aw_drawn (id:=4) [(0,0),(1,0),(2,0),(3,0),(4,0),(5,0),(6,1)] mixed (by kernel_rfl) ?_|refine zco ?_ ?_|exact zd|(refine fun (hg:(_:Prop))=>?_;(try replace hg:=HG.out hg);(try dsimp only at hg);(try (have _h:True:=hg;clear _h hg)))))
 ·intro m' hm'
  unfold shoE
  (repeat' (first|refine zq ?_|(refine zxl ?_;intro _ _ _)|(refine zxs ?_;intro _ _ _)|refine zbx ?_|refine zal ?_|refine zsvs ?_|refine zsva ?_|refine zses ?_|refine zsea ?_|refine zg ?_ ?_|refine zgu ?_|refine ar_nil ?_|refine aw_seq ?_|refine aw_skip ?_|refine aw_block ?_|refine aw_exit ?_|refine aw_region ?_|refine aw_drawn (id:=4) [(0,0),(1,0),(2,0),(3,0),(4,0),(5,0),(6,1)] mixed (by kernel_rfl) ?_|refine aw_drawn (id:=4) [(0,0),(1,0),(2,0),(3,0),(4,0),(5,0),(6,2)] mixed (by kernel_rfl) ?_|refine zco ?_ ?_|exact zd|(refine fun (hg:(_:Prop))=>?_;(try replace hg:=HG.out hg);(try dsimp only at hg);(try (have _h:True:=hg;clear _h hg)))))
  exact aw_ret (hdo_end hm' hrf rfl)
 ·intro H1
  exact hdo_bad (join_out rfl rfl rfl) hrf rfl
theorem hdo5_p (hk:j.kind=5) (hua:u8ok j.act.kind) (hV:HValid h) (ht:TalOk h m):ACalls Tryz.prog 44 [.ptr 11 0 0 0,j.enc] (shoB h m) (DoHR h j) NoP:=by
 have hE:jobE h j=workE h j:=by unfold jobE;rw [hk];rfl
 have hF:jobF h j=workF h j:=by unfold jobF;rw [hk];rfl
 have hc:=work_p h m j hV ht hua
 rw [← hE,← hF] at hc
 refine acalls_sub (R:=fun v H'=>∃ v' H'',SubOf 9 1 [(0,v)] H' [(0,v')] H''∧DoHR h j v' H'') (Rp:=NoP) ?_ (fun _ _ h=>h) (fun _ _ h=>h.elim)
 refine acalls_of_try Tryz.func44 rfl Tryz.func84 rfl (by kernel_rfl) (dc rfl) (dc rfl) (by decide) ?_
 have ha:j.enc=.agg [vu8 5,vi j.client,vi j.design,vi j.order,vi j.n,vi j.til,vu8 j.act.kind,vi j.act.item,vi j.act.dest,vi j.act.n,vi j.sheet.cols,vi j.sheet.rows,vi j.sheet.weight,vi j.sheet.clear,vi j.sheet.lean,encRows j.band]:=by unfold Job.enc;rw [hk]
 rw [ha] at hc ⊢
 refine Go.Proofs.YtbilpbabdgfblaaGreat.aw_region ?_
 (repeat' (first|refine zq ?_|(refine zxl ?_;intro _ _ _)|(refine zxs ?_;intro _ _ _)|refine zbx ?_|refine zal ?_|refine zsvs ?_|refine zsva ?_|refine zses ?_|refine zsea ?_|refine zg ?_ ?_|refine zgu ?_|refine ar_nil ?_|refine aw_seq ?_|refine aw_skip ?_|refine aw_block ?_|refine aw_exit ?_|refine aw_region ?_|refine aw_drawn (id:=4) [(0,0),(1,0),(2,0),(3,0),(4,0),(5,0),(6,1)] mixed (by kernel_rfl) ?_|refine aw_drawn (id:=4) [(0,0),(1,0),(2,0),(3,0),(4,0),(5,0),(6,2)] mixed (by kernel_rfl) ?_|refine zco ?_ ?_|exact zd|(refine fun (hg:(_:Prop))=>?_;(try replace hg:=HG.out hg);(try dsimp only at hg);(try (have _h:True:=hg;clear _h hg)))))
 refine ⟨1,10,0,0,rfl,?_⟩
 refine aw_sub (m:=11) (env':=[(0,.ptr 11 0 0 0),(3,.ptr 16 9 0 0),(4,.ptr 1 10 0 0)]) (H':=[.arr 11 1 (fun _=>shoV 1 2 3 4 5 6 7 8 h),LB 5 Itm.enc h.store.items,LB 2 Prt.enc h.store.prints,LB 7 Dsn.enc h.designs,LB 4 Lic.enc h.lics,LB 4 Ordr.enc h.orders,LB 1 vi h.made,LB 1 vi h.fors,mapE Tal.enc m,.arr 16 1 (fun _=>.agg [vu8 5,vi j.client,vi j.design,vi j.order,vi j.n,vi j.til,vu8 j.act.kind,vi j.act.item,vi j.act.dest,vi j.act.n,vi j.sheet.cols,vi j.sheet.rows,vi j.sheet.weight,vi j.sheet.clear,vi j.sheet.lean,encRows j.band]),.arr 1 1 (fun _=>vi 0)]) ?_ ?_
 ·(exact zsc [some 0,some 1,some 2,some 3,some 4,some 5,some 6,some 7,some 8,some 9,some 10] [])
 (repeat' (first|refine zq ?_|(refine zxl ?_;intro _ _ _)|(refine zxs ?_;intro _ _ _)|(refine zpv fn85 (hdoers_p) ?_)|refine ar_q (qs_funcIsNot (ty rfl) rfl rfl) (dc rfl) ?_|refine ar_q (qs_iaddr_aptr (j:=5) (ty rfl) rfl (ty rfl) rfl rfl rfl (dc rfl)) (dc rfl) ?_|((refine ar_must ?_ ?_<;>intro hrf<;>first|exact absurd hrf (by decide)|((try replace hrf:=HG.out hrf);(try dsimp only at hrf);(try rw [fromB_one] at hrf);(try rw [withinB_iff] at hrf);(try rw [withinB_no] at hrf);(try rw [inD_iff] at hrf);(try rw [inO_iff] at hrf))))|((refine ar_deed fn132 hc rfl ?_ ?_<;>intro hrf))|refine zbx ?_|refine zal ?_|refine zsvs ?_|refine zsva ?_|refine zses ?_|refine zsea ?_|refine zg ?_ ?_|refine zgu ?_|refine ar_nil ?_|refine aw_seq ?_|refine aw_skip ?_|refine aw_block ?_|refine aw_exit ?_|refine aw_region ?_|refine aw_drawn (id:=4) [(0,0),(1,0),(2,0),(3,0),(4,0),(5,0),(6,2)] mixed (by kernel_rfl) ?_|refine aw_drawn (id:=4) [(0,0),(1,0),(2,0),(3,0),(4,0),(5,0),(6,1)] mixed (by kernel_rfl) ?_|refine zco ?_ ?_|exact zd|(refine fun (hg:(_:Prop))=>?_;(try replace hg:=HG.out hg);(try dsimp only at hg);(try (have _h:True:=hg;clear _h hg)))))
 ·intro m' hm'
  unfold shoE
  (repeat' (first|refine zq ?_|(refine zxl ?_;intro _ _ _)|(refine zxs ?_;intro _ _ _)|refine zbx ?_|refine zal ?_|refine zsvs ?_|refine zsva ?_|refine zses ?_|refine zsea ?_|refine zg ?_ ?_|refine zgu ?_|refine ar_nil ?_|refine aw_seq ?_|refine aw_skip ?_|refine aw_block ?_|refine aw_exit ?_|refine aw_region ?_|refine aw_drawn (id:=4) [(0,0),(1,0),(2,0),(3,0),(4,0),(5,0),(6,1)] mixed (by kernel_rfl) ?_|refine aw_drawn (id:=4) [(0,0),(1,0),(2,0),(3,0),(4,0),(5,0),(6,2)] mixed (by kernel_rfl) ?_|refine zco ?_ ?_|exact zd|(refine fun (hg:(_:Prop))=>?_;(try replace hg:=HG.out hg);(try dsimp only at hg);(try (have _h:True:=hg;clear _h hg)))))
  exact aw_ret (hdo_end hm' hrf rfl)
 ·intro H1
  exact hdo_bad (join_out rfl rfl rfl) hrf rfl
theorem hdo6_p (hk:j.kind=6) (hua:u8ok j.act.kind) (hV:HValid h) (ht:TalOk h m):ACalls Tryz.prog 44 [.ptr 11 0 0 0,j.enc] (shoB h m) (DoHR h j) NoP:=by
 have hE:jobE h j=runE h j:=by unfold jobE;rw [hk];rfl
 have hF:jobF h j=runF h j:=by unfold jobF;rw [hk];rfl
 have hc:=hprint_p h m j hV ht
 rw [← hE,← hF] at hc
 refine acalls_sub (R:=fun v H'=>∃ v' H'',SubOf 9 1 [(0,v)] H' [(0,v')] H''∧DoHR h j v' H'') (Rp:=NoP) ?_ (fun _ _ h=>h) (fun _ _ h=>h.elim)
 refine acalls_of_try Tryz.func44 rfl Tryz.func84 rfl (by kernel_rfl) (dc rfl) (dc rfl) (by decide) ?_
 have ha:j.enc=.agg [vu8 6,vi j.client,vi j.design,vi j.order,vi j.n,vi j.til,vu8 j.act.kind,vi j.act.item,vi j.act.dest,vi j.act.n,vi j.sheet.cols,vi j.sheet.rows,vi j.sheet.weight,vi j.sheet.clear,vi j.sheet.lean,encRows j.band]:=by unfold Job.enc;rw [hk]
 rw [ha] at hc ⊢
 refine Go.Proofs.YtbilpbabdgfblaaGreat.aw_region ?_
 (repeat' (first|refine zq ?_|(refine zxl ?_;intro _ _ _)|(refine zxs ?_;intro _ _ _)|refine zbx ?_|refine zal ?_|refine zsvs ?_|refine zsva ?_|refine zses ?_|refine zsea ?_|refine zg ?_ ?_|refine zgu ?_|refine ar_nil ?_|refine aw_seq ?_|refine aw_skip ?_|refine aw_block ?_|refine aw_exit ?_|refine aw_region ?_|refine aw_drawn (id:=4) [(0,0),(1,0),(2,0),(3,0),(4,0),(5,0),(6,1)] mixed (by kernel_rfl) ?_|refine aw_drawn (id:=4) [(0,0),(1,0),(2,0),(3,0),(4,0),(5,0),(6,2)] mixed (by kernel_rfl) ?_|refine zco ?_ ?_|exact zd|(refine fun (hg:(_:Prop))=>?_;(try replace hg:=HG.out hg);(try dsimp only at hg);(try (have _h:True:=hg;clear _h hg)))))
 refine ⟨1,10,0,0,rfl,?_⟩
 refine aw_sub (m:=11) (env':=[(0,.ptr 11 0 0 0),(3,.ptr 16 9 0 0),(4,.ptr 1 10 0 0)]) (H':=[.arr 11 1 (fun _=>shoV 1 2 3 4 5 6 7 8 h),LB 5 Itm.enc h.store.items,LB 2 Prt.enc h.store.prints,LB 7 Dsn.enc h.designs,LB 4 Lic.enc h.lics,LB 4 Ordr.enc h.orders,LB 1 vi h.made,LB 1 vi h.fors,mapE Tal.enc m,.arr 16 1 (fun _=>.agg [vu8 6,vi j.client,vi j.design,vi j.order,vi j.n,vi j.til,vu8 j.act.kind,vi j.act.item,vi j.act.dest,vi j.act.n,vi j.sheet.cols,vi j.sheet.rows,vi j.sheet.weight,vi j.sheet.clear,vi j.sheet.lean,encRows j.band]),.arr 1 1 (fun _=>vi 0)]) ?_ ?_
 ·(exact zsc [some 0,some 1,some 2,some 3,some 4,some 5,some 6,some 7,some 8,some 9,some 10] [])
 (repeat' (first|refine zq ?_|(refine zxl ?_;intro _ _ _)|(refine zxs ?_;intro _ _ _)|(refine zpv fn85 (hdoers_p) ?_)|refine ar_q (qs_funcIsNot (ty rfl) rfl rfl) (dc rfl) ?_|refine ar_q (qs_iaddr_aptr (j:=6) (ty rfl) rfl (ty rfl) rfl rfl rfl (dc rfl)) (dc rfl) ?_|((refine ar_must ?_ ?_<;>intro hrf<;>first|exact absurd hrf (by decide)|((try replace hrf:=HG.out hrf);(try dsimp only at hrf);(try rw [fromB_one] at hrf);(try rw [withinB_iff] at hrf);(try rw [withinB_no] at hrf);(try rw [inD_iff] at hrf);(try rw [inO_iff] at hrf))))|((refine ar_deed fn133 hc rfl ?_ ?_<;>intro hrf))|refine zbx ?_|refine zal ?_|refine zsvs ?_|refine zsva ?_|refine zses ?_|refine zsea ?_|refine zg ?_ ?_|refine zgu ?_|refine ar_nil ?_|refine aw_seq ?_|refine aw_skip ?_|refine aw_block ?_|refine aw_exit ?_|refine aw_region ?_|refine aw_drawn (id:=4) [(0,0),(1,0),(2,0),(3,0),(4,0),(5,0),(6,2)] mixed (by kernel_rfl) ?_|refine aw_drawn (id:=4) [(0,0),(1,0),(2,0),(3,0),(4,0),(5,0),(6,1)] mixed (by kernel_rfl) ?_|refine zco ?_ ?_|exact zd|(refine fun (hg:(_:Prop))=>?_;(try replace hg:=HG.out hg);(try dsimp only at hg);(try (have _h:True:=hg;clear _h hg)))))
 ·intro m' hm'
  unfold shoE
  (repeat' (first|refine zq ?_|(refine zxl ?_;intro _ _ _)|(refine zxs ?_;intro _ _ _)|refine zbx ?_|refine zal ?_|refine zsvs ?_|refine zsva ?_|refine zses ?_|refine zsea ?_|refine zg ?_ ?_|refine zgu ?_|refine ar_nil ?_|refine aw_seq ?_|refine aw_skip ?_|refine aw_block ?_|refine aw_exit ?_|refine aw_region ?_|refine aw_drawn (id:=4) [(0,0),(1,0),(2,0),(3,0),(4,0),(5,0),(6,1)] mixed (by kernel_rfl) ?_|refine aw_drawn (id:=4) [(0,0),(1,0),(2,0),(3,0),(4,0),(5,0),(6,2)] mixed (by kernel_rfl) ?_|refine zco ?_ ?_|exact zd|(refine fun (hg:(_:Prop))=>?_;(try replace hg:=HG.out hg);(try dsimp only at hg);(try (have _h:True:=hg;clear _h hg)))))
  exact aw_ret (hdo_end hm' hrf rfl)
 ·intro H1
  exact hdo_bad (join_out rfl rfl rfl) hrf rfl
theorem hdo7_p (hk:j.kind=7) (hua:u8ok j.act.kind) (hV:HValid h) (ht:TalOk h m):ACalls Tryz.prog 44 [.ptr 11 0 0 0,j.enc] (shoB h m) (DoHR h j) NoP:=by
 have hE:jobE h j=giveE h j:=by unfold jobE;rw [hk];rfl
 have hF:jobF h j=giveF h j:=by unfold jobF;rw [hk];rfl
 have hc:=hdeliver_p h m j hV ht
 rw [← hE,← hF] at hc
 refine acalls_sub (R:=fun v H'=>∃ v' H'',SubOf 9 1 [(0,v)] H' [(0,v')] H''∧DoHR h j v' H'') (Rp:=NoP) ?_ (fun _ _ h=>h) (fun _ _ h=>h.elim)
 refine acalls_of_try Tryz.func44 rfl Tryz.func84 rfl (by kernel_rfl) (dc rfl) (dc rfl) (by decide) ?_
 have ha:j.enc=.agg [vu8 7,vi j.client,vi j.design,vi j.order,vi j.n,vi j.til,vu8 j.act.kind,vi j.act.item,vi j.act.dest,vi j.act.n,vi j.sheet.cols,vi j.sheet.rows,vi j.sheet.weight,vi j.sheet.clear,vi j.sheet.lean,encRows j.band]:=by unfold Job.enc;rw [hk]
 rw [ha] at hc ⊢
 refine Go.Proofs.YtbilpbabdgfblaaGreat.aw_region ?_
 (repeat' (first|refine zq ?_|(refine zxl ?_;intro _ _ _)|(refine zxs ?_;intro _ _ _)|refine zbx ?_|refine zal ?_|refine zsvs ?_|refine zsva ?_|refine zses ?_|refine zsea ?_|refine zg ?_ ?_|refine zgu ?_|refine ar_nil ?_|refine aw_seq ?_|refine aw_skip ?_|refine aw_block ?_|refine aw_exit ?_|refine aw_region ?_|refine aw_drawn (id:=4) [(0,0),(1,0),(2,0),(3,0),(4,0),(5,0),(6,1)] mixed (by kernel_rfl) ?_|refine aw_drawn (id:=4) [(0,0),(1,0),(2,0),(3,0),(4,0),(5,0),(6,2)] mixed (by kernel_rfl) ?_|refine zco ?_ ?_|exact zd|(refine fun (hg:(_:Prop))=>?_;(try replace hg:=HG.out hg);(try dsimp only at hg);(try (have _h:True:=hg;clear _h hg)))))
 refine ⟨1,10,0,0,rfl,?_⟩
 refine aw_sub (m:=11) (env':=[(0,.ptr 11 0 0 0),(3,.ptr 16 9 0 0),(4,.ptr 1 10 0 0)]) (H':=[.arr 11 1 (fun _=>shoV 1 2 3 4 5 6 7 8 h),LB 5 Itm.enc h.store.items,LB 2 Prt.enc h.store.prints,LB 7 Dsn.enc h.designs,LB 4 Lic.enc h.lics,LB 4 Ordr.enc h.orders,LB 1 vi h.made,LB 1 vi h.fors,mapE Tal.enc m,.arr 16 1 (fun _=>.agg [vu8 7,vi j.client,vi j.design,vi j.order,vi j.n,vi j.til,vu8 j.act.kind,vi j.act.item,vi j.act.dest,vi j.act.n,vi j.sheet.cols,vi j.sheet.rows,vi j.sheet.weight,vi j.sheet.clear,vi j.sheet.lean,encRows j.band]),.arr 1 1 (fun _=>vi 0)]) ?_ ?_
 ·(exact zsc [some 0,some 1,some 2,some 3,some 4,some 5,some 6,some 7,some 8,some 9,some 10] [])
 (repeat' (first|refine zq ?_|(refine zxl ?_;intro _ _ _)|(refine zxs ?_;intro _ _ _)|(refine zpv fn85 (hdoers_p) ?_)|refine ar_q (qs_funcIsNot (ty rfl) rfl rfl) (dc rfl) ?_|refine ar_q (qs_iaddr_aptr (j:=7) (ty rfl) rfl (ty rfl) rfl rfl rfl (dc rfl)) (dc rfl) ?_|((refine ar_must ?_ ?_<;>intro hrf<;>first|exact absurd hrf (by decide)|((try replace hrf:=HG.out hrf);(try dsimp only at hrf);(try rw [fromB_one] at hrf);(try rw [withinB_iff] at hrf);(try rw [withinB_no] at hrf);(try rw [inD_iff] at hrf);(try rw [inO_iff] at hrf))))|((refine ar_deed fn134 hc rfl ?_ ?_<;>intro hrf))|refine zbx ?_|refine zal ?_|refine zsvs ?_|refine zsva ?_|refine zses ?_|refine zsea ?_|refine zg ?_ ?_|refine zgu ?_|refine ar_nil ?_|refine aw_seq ?_|refine aw_skip ?_|refine aw_block ?_|refine aw_exit ?_|refine aw_region ?_|refine aw_drawn (id:=4) [(0,0),(1,0),(2,0),(3,0),(4,0),(5,0),(6,2)] mixed (by kernel_rfl) ?_|refine aw_drawn (id:=4) [(0,0),(1,0),(2,0),(3,0),(4,0),(5,0),(6,1)] mixed (by kernel_rfl) ?_|refine zco ?_ ?_|exact zd|(refine fun (hg:(_:Prop))=>?_;(try replace hg:=HG.out hg);(try dsimp only at hg);(try (have _h:True:=hg;clear _h hg)))))
 ·intro m' hm'
  unfold shoE
  (repeat' (first|refine zq ?_|(refine zxl ?_;intro _ _ _)|(refine zxs ?_;intro _ _ _)|refine zbx ?_|refine zal ?_|refine zsvs ?_|refine zsva ?_|refine zses ?_|refine zsea ?_|refine zg ?_ ?_|refine zgu ?_|refine ar_nil ?_|refine aw_seq ?_|refine aw_skip ?_|refine aw_block ?_|refine aw_exit ?_|refine aw_region ?_|refine aw_drawn (id:=4) [(0,0),(1,0),(2,0),(3,0),(4,0),(5,0),(6,1)] mixed (by kernel_rfl) ?_|refine aw_drawn (id:=4) [(0,0),(1,0),(2,0),(3,0),(4,0),(5,0),(6,2)] mixed (by kernel_rfl) ?_|refine zco ?_ ?_|exact zd|(refine fun (hg:(_:Prop))=>?_;(try replace hg:=HG.out hg);(try dsimp only at hg);(try (have _h:True:=hg;clear _h hg)))))
  exact aw_ret (hdo_end hm' hrf rfl)
 ·intro H1
  exact hdo_bad (join_out rfl rfl rfl) hrf rfl
theorem hdo8_p (hk:j.kind=8) (hua:u8ok j.act.kind) (hV:HValid h) (ht:TalOk h m):ACalls Tryz.prog 44 [.ptr 11 0 0 0,j.enc] (shoB h m) (DoHR h j) NoP:=by
 have hE:jobE h j=waitE h j:=by unfold jobE;rw [hk];rfl
 have hF:jobF h j=waitF h j:=by unfold jobF;rw [hk];rfl
 have hc:=wait_p h m j hV ht
 rw [← hE,← hF] at hc
 refine acalls_sub (R:=fun v H'=>∃ v' H'',SubOf 9 1 [(0,v)] H' [(0,v')] H''∧DoHR h j v' H'') (Rp:=NoP) ?_ (fun _ _ h=>h) (fun _ _ h=>h.elim)
 refine acalls_of_try Tryz.func44 rfl Tryz.func84 rfl (by kernel_rfl) (dc rfl) (dc rfl) (by decide) ?_
 have ha:j.enc=.agg [vu8 8,vi j.client,vi j.design,vi j.order,vi j.n,vi j.til,vu8 j.act.kind,vi j.act.item,vi j.act.dest,vi j.act.n,vi j.sheet.cols,vi j.sheet.rows,vi j.sheet.weight,vi j.sheet.clear,vi j.sheet.lean,encRows j.band]:=by unfold Job.enc;rw [hk]
 rw [ha] at hc ⊢
 refine Go.Proofs.YtbilpbabdgfblaaGreat.aw_region ?_
 (repeat' (first|refine zq ?_|(refine zxl ?_;intro _ _ _)|(refine zxs ?_;intro _ _ _)|refine zbx ?_|refine zal ?_|refine zsvs ?_|refine zsva ?_|refine zses ?_|refine zsea ?_|refine zg ?_ ?_|refine zgu ?_|refine ar_nil ?_|refine aw_seq ?_|refine aw_skip ?_|refine aw_block ?_|refine aw_exit ?_|refine aw_region ?_|refine aw_drawn (id:=4) [(0,0),(1,0),(2,0),(3,0),(4,0),(5,0),(6,1)] mixed (by kernel_rfl) ?_|refine aw_drawn (id:=4) [(0,0),(1,0),(2,0),(3,0),(4,0),(5,0),(6,2)] mixed (by kernel_rfl) ?_|refine zco ?_ ?_|exact zd|(refine fun (hg:(_:Prop))=>?_;(try replace hg:=HG.out hg);(try dsimp only at hg);(try (have _h:True:=hg;clear _h hg)))))
 refine ⟨1,10,0,0,rfl,?_⟩
 refine aw_sub (m:=11) (env':=[(0,.ptr 11 0 0 0),(3,.ptr 16 9 0 0),(4,.ptr 1 10 0 0)]) (H':=[.arr 11 1 (fun _=>shoV 1 2 3 4 5 6 7 8 h),LB 5 Itm.enc h.store.items,LB 2 Prt.enc h.store.prints,LB 7 Dsn.enc h.designs,LB 4 Lic.enc h.lics,LB 4 Ordr.enc h.orders,LB 1 vi h.made,LB 1 vi h.fors,mapE Tal.enc m,.arr 16 1 (fun _=>.agg [vu8 8,vi j.client,vi j.design,vi j.order,vi j.n,vi j.til,vu8 j.act.kind,vi j.act.item,vi j.act.dest,vi j.act.n,vi j.sheet.cols,vi j.sheet.rows,vi j.sheet.weight,vi j.sheet.clear,vi j.sheet.lean,encRows j.band]),.arr 1 1 (fun _=>vi 0)]) ?_ ?_
 ·(exact zsc [some 0,some 1,some 2,some 3,some 4,some 5,some 6,some 7,some 8,some 9,some 10] [])
 (repeat' (first|refine zq ?_|(refine zxl ?_;intro _ _ _)|(refine zxs ?_;intro _ _ _)|(refine zpv fn85 (hdoers_p) ?_)|refine ar_q (qs_funcIsNot (ty rfl) rfl rfl) (dc rfl) ?_|refine ar_q (qs_iaddr_aptr (j:=8) (ty rfl) rfl (ty rfl) rfl rfl rfl (dc rfl)) (dc rfl) ?_|((refine ar_must ?_ ?_<;>intro hrf<;>first|exact absurd hrf (by decide)|((try replace hrf:=HG.out hrf);(try dsimp only at hrf);(try rw [fromB_one] at hrf);(try rw [withinB_iff] at hrf);(try rw [withinB_no] at hrf);(try rw [inD_iff] at hrf);(try rw [inO_iff] at hrf))))|((refine ar_deed fn135 hc rfl ?_ ?_<;>intro hrf))|refine zbx ?_|refine zal ?_|refine zsvs ?_|refine zsva ?_|refine zses ?_|refine zsea ?_|refine zg ?_ ?_|refine zgu ?_|refine ar_nil ?_|refine aw_seq ?_|refine aw_skip ?_|refine aw_block ?_|refine aw_exit ?_|refine aw_region ?_|refine aw_drawn (id:=4) [(0,0),(1,0),(2,0),(3,0),(4,0),(5,0),(6,2)] mixed (by kernel_rfl) ?_|refine aw_drawn (id:=4) [(0,0),(1,0),(2,0),(3,0),(4,0),(5,0),(6,1)] mixed (by kernel_rfl) ?_|refine zco ?_ ?_|exact zd|(refine fun (hg:(_:Prop))=>?_;(try replace hg:=HG.out hg);(try dsimp only at hg);(try (have _h:True:=hg;clear _h hg)))))
 ·intro m' hm'
  unfold shoE
  (repeat' (first|refine zq ?_|(refine zxl ?_;intro _ _ _)|(refine zxs ?_;intro _ _ _)|refine zbx ?_|refine zal ?_|refine zsvs ?_|refine zsva ?_|refine zses ?_|refine zsea ?_|refine zg ?_ ?_|refine zgu ?_|refine ar_nil ?_|refine aw_seq ?_|refine aw_skip ?_|refine aw_block ?_|refine aw_exit ?_|refine aw_region ?_|refine aw_drawn (id:=4) [(0,0),(1,0),(2,0),(3,0),(4,0),(5,0),(6,1)] mixed (by kernel_rfl) ?_|refine aw_drawn (id:=4) [(0,0),(1,0),(2,0),(3,0),(4,0),(5,0),(6,2)] mixed (by kernel_rfl) ?_|refine zco ?_ ?_|exact zd|(refine fun (hg:(_:Prop))=>?_;(try replace hg:=HG.out hg);(try dsimp only at hg);(try (have _h:True:=hg;clear _h hg)))))
  exact aw_ret (hdo_end hm' hrf rfl)
 ·intro H1
  exact hdo_bad (join_out rfl rfl rfl) hrf rfl
theorem hdo_no {h:Hse}{j:Job}(hk:¬ (1≤j.kind∧j.kind≤8)):jobE h j=2:=by
 unfold jobE
 rw [if_neg (by omega),if_neg (by omega),if_neg (by omega),if_neg (by omega),if_neg (by omega),if_neg (by omega),if_neg (by omega),if_neg (by omega)]
theorem hdo0_p (hk:j.kind=0):ACalls Tryz.prog 44 [.ptr 11 0 0 0,j.enc] (shoB h m) (DoHR h j) NoP:=by
 have hE:jobE h j=2:=hdo_no (by omega)
 refine acalls_sub (R:=fun v H'=>∃ v' H'',SubOf 9 1 [(0,v)] H' [(0,v')] H''∧DoHR h j v' H'') (Rp:=NoP) ?_ (fun _ _ h=>h) (fun _ _ h=>h.elim)
 refine acalls_of_try Tryz.func44 rfl Tryz.func84 rfl (by kernel_rfl) (dc rfl) (dc rfl) (by decide) ?_
 have ha:j.enc=.agg [vu8 0,vi j.client,vi j.design,vi j.order,vi j.n,vi j.til,vu8 j.act.kind,vi j.act.item,vi j.act.dest,vi j.act.n,vi j.sheet.cols,vi j.sheet.rows,vi j.sheet.weight,vi j.sheet.clear,vi j.sheet.lean,encRows j.band]:=by unfold Job.enc;rw [hk]
 rw [ha]
 refine Go.Proofs.YtbilpbabdgfblaaGreat.aw_region ?_
 (repeat' (first|refine zq ?_|(refine zxl ?_;intro _ _ _)|(refine zxs ?_;intro _ _ _)|refine zbx ?_|refine zal ?_|refine zsvs ?_|refine zsva ?_|refine zses ?_|refine zsea ?_|refine zg ?_ ?_|refine zgu ?_|refine ar_nil ?_|refine aw_seq ?_|refine aw_skip ?_|refine aw_block ?_|refine aw_exit ?_|refine aw_region ?_|refine aw_drawn (id:=4) [(0,0),(1,0),(2,0),(3,0),(4,0),(5,0),(6,1)] mixed (by kernel_rfl) ?_|refine aw_drawn (id:=4) [(0,0),(1,0),(2,0),(3,0),(4,0),(5,0),(6,2)] mixed (by kernel_rfl) ?_|refine zco ?_ ?_|exact zd|(refine fun (hg:(_:Prop))=>?_;(try replace hg:=HG.out hg);(try dsimp only at hg);(try (have _h:True:=hg;clear _h hg)))))
 refine ⟨1,10,0,0,rfl,?_⟩
 refine aw_sub (m:=11) (env':=[(0,.ptr 11 0 0 0),(3,.ptr 16 9 0 0),(4,.ptr 1 10 0 0)]) (H':=[.arr 11 1 (fun _=>shoV 1 2 3 4 5 6 7 8 h),LB 5 Itm.enc h.store.items,LB 2 Prt.enc h.store.prints,LB 7 Dsn.enc h.designs,LB 4 Lic.enc h.lics,LB 4 Ordr.enc h.orders,LB 1 vi h.made,LB 1 vi h.fors,mapE Tal.enc m,.arr 16 1 (fun _=>.agg [vu8 0,vi j.client,vi j.design,vi j.order,vi j.n,vi j.til,vu8 j.act.kind,vi j.act.item,vi j.act.dest,vi j.act.n,vi j.sheet.cols,vi j.sheet.rows,vi j.sheet.weight,vi j.sheet.clear,vi j.sheet.lean,encRows j.band]),.arr 1 1 (fun _=>vi 0)]) ?_ ?_
 ·(exact zsc [some 0,some 1,some 2,some 3,some 4,some 5,some 6,some 7,some 8,some 9,some 10] [])
 (repeat' (first|refine zq ?_|(refine zxl ?_;intro _ _ _)|(refine zxs ?_;intro _ _ _)|(refine zpv fn85 (hdoers_p) ?_)|refine ar_q (qs_nilFuncIsNot (ty rfl) rfl rfl) (dc rfl) ?_|refine ar_q (qs_iaddr_aptr (j:=0) (ty rfl) rfl (ty rfl) rfl rfl rfl (dc rfl)) (dc rfl) ?_|((refine ar_mustL ?_ ?_<;>intro hrf<;>first|exact absurd hrf (by decide)|((try replace hrf:=HG.out hrf);(try dsimp only at hrf);(try rw [fromB_one] at hrf);(try rw [withinB_iff] at hrf);(try rw [withinB_no] at hrf);(try rw [inD_iff] at hrf);(try rw [inO_iff] at hrf))))|refine zbx ?_|refine zal ?_|refine zsvs ?_|refine zsva ?_|refine zses ?_|refine zsea ?_|refine zg ?_ ?_|refine zgu ?_|refine ar_nil ?_|refine aw_seq ?_|refine aw_skip ?_|refine aw_block ?_|refine aw_exit ?_|refine aw_region ?_|refine aw_drawn (id:=4) [(0,0),(1,0),(2,0),(3,0),(4,0),(5,0),(6,2)] mixed (by kernel_rfl) ?_|refine aw_drawn (id:=4) [(0,0),(1,0),(2,0),(3,0),(4,0),(5,0),(6,1)] mixed (by kernel_rfl) ?_|refine zco ?_ ?_|exact zd|(refine fun (hg:(_:Prop))=>?_;(try replace hg:=HG.out hg);(try dsimp only at hg);(try (have _h:True:=hg;clear _h hg)))))
 all_goals (intro L';exact hdo_bad (app_lt rfl) (by decide) hE)
theorem hdo9_p (hk:9≤j.kind) (hu:j.kind≤255):ACalls Tryz.prog 44 [.ptr 11 0 0 0,j.enc] (shoB h m) (DoHR h j) NoP:=by
 have hE:jobE h j=2:=hdo_no (by omega)
 refine acalls_sub (R:=fun v H'=>∃ v' H'',SubOf 9 1 [(0,v)] H' [(0,v')] H''∧DoHR h j v' H'') (Rp:=NoP) ?_ (fun _ _ h=>h) (fun _ _ h=>h.elim)
 refine acalls_of_try Tryz.func44 rfl Tryz.func84 rfl (by kernel_rfl) (dc rfl) (dc rfl) (by decide) ?_
 have ha:j.enc=.agg [vu8 j.kind,vi j.client,vi j.design,vi j.order,vi j.n,vi j.til,vu8 j.act.kind,vi j.act.item,vi j.act.dest,vi j.act.n,vi j.sheet.cols,vi j.sheet.rows,vi j.sheet.weight,vi j.sheet.clear,vi j.sheet.lean,encRows j.band]:=rfl
 rw [ha]
 refine Go.Proofs.YtbilpbabdgfblaaGreat.aw_region ?_
 (repeat' (first|refine zq ?_|(refine zxl ?_;intro _ _ _)|(refine zxs ?_;intro _ _ _)|refine zbx ?_|refine zal ?_|refine zsvs ?_|refine zsva ?_|refine zses ?_|refine zsea ?_|refine zg ?_ ?_|refine zgu ?_|refine ar_nil ?_|refine aw_seq ?_|refine aw_skip ?_|refine aw_block ?_|refine aw_exit ?_|refine aw_region ?_|refine aw_drawn (id:=4) [(0,0),(1,0),(2,0),(3,0),(4,0),(5,0),(6,1)] mixed (by kernel_rfl) ?_|refine aw_drawn (id:=4) [(0,0),(1,0),(2,0),(3,0),(4,0),(5,0),(6,2)] mixed (by kernel_rfl) ?_|refine zco ?_ ?_|exact zd|(refine fun (hg:(_:Prop))=>?_;(try replace hg:=HG.out hg);(try dsimp only at hg);(try (have _h:True:=hg;clear _h hg)))))
 refine ⟨1,10,0,0,rfl,?_⟩
 refine aw_sub (m:=11) (env':=[(0,.ptr 11 0 0 0),(3,.ptr 16 9 0 0),(4,.ptr 1 10 0 0)]) (H':=[.arr 11 1 (fun _=>shoV 1 2 3 4 5 6 7 8 h),LB 5 Itm.enc h.store.items,LB 2 Prt.enc h.store.prints,LB 7 Dsn.enc h.designs,LB 4 Lic.enc h.lics,LB 4 Ordr.enc h.orders,LB 1 vi h.made,LB 1 vi h.fors,mapE Tal.enc m,.arr 16 1 (fun _=>.agg [vu8 j.kind,vi j.client,vi j.design,vi j.order,vi j.n,vi j.til,vu8 j.act.kind,vi j.act.item,vi j.act.dest,vi j.act.n,vi j.sheet.cols,vi j.sheet.rows,vi j.sheet.weight,vi j.sheet.clear,vi j.sheet.lean,encRows j.band]),.arr 1 1 (fun _=>vi 0)]) ?_ ?_
 ·(exact zsc [some 0,some 1,some 2,some 3,some 4,some 5,some 6,some 7,some 8,some 9,some 10] [])
 (repeat' (first|refine zq ?_|(refine zxl ?_;intro _ _ _)|(refine zxs ?_;intro _ _ _)|(refine zpv fn85 (hdoers_p) ?_)|((refine ar_mustL ?_ ?_<;>intro hrf<;>first|exact absurd hrf (by decide)|((try replace hrf:=HG.out hrf);(try dsimp only at hrf);(try rw [fromB_one] at hrf);(try rw [withinB_iff] at hrf);(try rw [withinB_no] at hrf);(try rw [inD_iff] at hrf);(try rw [inO_iff] at hrf))))|refine zbx ?_|refine zal ?_|refine zsvs ?_|refine zsva ?_|refine zses ?_|refine zsea ?_|refine zg ?_ ?_|refine zgu ?_|refine ar_nil ?_|refine aw_seq ?_|refine aw_skip ?_|refine aw_block ?_|refine aw_exit ?_|refine aw_region ?_|refine aw_drawn (id:=4) [(0,0),(1,0),(2,0),(3,0),(4,0),(5,0),(6,2)] mixed (by kernel_rfl) ?_|refine aw_drawn (id:=4) [(0,0),(1,0),(2,0),(3,0),(4,0),(5,0),(6,1)] mixed (by kernel_rfl) ?_|refine zco ?_ ?_|exact zd|(refine fun (hg:(_:Prop))=>?_;(try replace hg:=HG.out hg);(try dsimp only at hg);(try (have _h:True:=hg;clear _h hg)))))
 all_goals (intro L';exact hdo_bad (app_lt rfl) (by decide) hE)
end Pn
theorem hdo_p (h:Hse) (m:List (Int × Tal)) (j:Job) (hu:u8ok j.kind) (hua:u8ok j.act.kind) (hV:HValid h) (ht:TalOk h m):ACalls Tryz.prog 44 [.ptr 11 0 0 0,j.enc] (shoB h m) (DoHR h j) NoP:=by
 have h0:j.kind=0∨j.kind=1∨j.kind=2∨j.kind=3∨j.kind=4∨j.kind=5∨j.kind=6∨j.kind=7∨j.kind=8∨9≤j.kind:=by unfold u8ok at hu;omega
 rcases h0 with h0|h0|h0|h0|h0|h0|h0|h0|h0|h0
 ·exact Pn.hdo0_p h m j h0
 ·exact Pn.hdo1_p h m j h0 hua hV ht
 ·exact Pn.hdo2_p h m j h0 hua hV ht
 ·exact Pn.hdo3_p h m j h0 hua hV ht
 ·exact Pn.hdo4_p h m j h0 hua hV ht
 ·exact Pn.hdo5_p h m j h0 hua hV ht
 ·exact Pn.hdo6_p h m j h0 hua hV ht
 ·exact Pn.hdo7_p h m j h0 hua hV ht
 ·exact Pn.hdo8_p h m j h0 hua hV ht
 ·exact Pn.hdo9_p h m j h0 hu.2
theorem aw_forE {α:Type}{P:Program}{r:Option Nat}{m nt:Nat}{Q:Post}{env:Env}{H:Heap}{c:Code}(N:Nat) (J:Nat→α→Prop) (E:Nat→Env) (G:Nat→α→Heap) (x0:α) (hJ:J 0 x0) (h0:SubOf m nt env H (E 0) (G 0 x0))
  (round:∀ k x,k≤N→J k x→AW P r m nt c (AE.then (fun env' H'=>k<N∧∃ x',J (k+1) x'∧SubOf m nt env' H' (E (k+1)) (G (k+1) x')) Q) (E k) (G k x)):AW P r m nt (.loop c) Q env H:=by
 refine aw_loop (fun n env H=>∃ k x,k≤N∧n=N-k∧J k x∧SubOf m nt env H (E k) (G k x)) ⟨N,0,x0,by omega,by omega,hJ,h0⟩ ?_
 rintro n env H ⟨k,x,hk,rfl,hj,hs⟩
 refine aw_sub hs (aw_mono (round k x hk hj) fun e env' H' h=>?_)
 cases e<;>first|exact h|skip
 obtain ⟨h1,x',h2,h3⟩:=h
 exact ⟨N-(k+1),by omega,k+1,x',h1,rfl,h2,h3⟩
def noHv:V:=.agg [vi 0,vi 0,vi 0,vnil,vnil,vnil,vnil,vnil,vnil,vnil]
def shoF (h':Hse) (m':List (Int × Tal)) (X:Heap):Heap:=.arr 11 1 (fun _=>shoV (X.length+9) (X.length+10) (X.length+11) (X.length+12) (X.length+13) (X.length+14) (X.length+15) 8 h')::.dead::.dead::.dead::.dead::.dead::.dead::.dead::mapE Tal.enc m'::(X++[LB 5 Itm.enc h'.store.items,LB 2 Prt.enc h'.store.prints,LB 7 Dsn.enc h'.designs,LB 4 Lic.enc h'.lics,LB 4 Ordr.enc h'.orders,LB 1 vi h'.made,LB 1 vi h'.fors])
theorem join_shoF {a0 a1 a2 a3 a4 a5 a6 a7 a8:Blk}{X:Heap}{h':Hse}{m':List (Int × Tal)}:joinH [0,1,2,3,4,5,6,7,8] [] (a0::a1::a2::a3::a4::a5::a6::a7::a8::X) (shoX h' m')=shoF h' m' X:=by
 unfold shoX shoF
 rw [join9]
 have e2:(mapE Tal.enc m').ren (rn [0,1,2,3,4,5,6,7,8] (X.length+9))=mapE Tal.enc m':=mapE_renE fun _=>rfl
 simp only [List.map_cons,List.map_nil,e2]
 rfl
section
variable {r:Option Nat}{mm nt i d:Nat}{Q:Post}{env:Env}{ops:Array Oper}{L:List Stp}{ty:TypeId}{pos:String}{after:Array Edge}{ats:Array TypeId}{x y z:Operand}
theorem ar_hdo (h:Hse) (m:List (Int × Tal)) (j:Job) {X:Heap}(hu:u8ok j.kind) (hua:u8ok j.act.kind) (hV:HValid h) (ht:TalOk h m)
  (h1:jobE h j=0→∀ m',TalOk (jobF h j) m'→AR Tryz.prog r mm nt ops Q L ((d,vi 0)::env) (shoF (jobF h j) m' X))
  (h2:jobE h j≠0→AR Tryz.prog r mm nt ops Q L ((d,vi (jobE h j))::env) (.dead::.dead::.dead::.dead::.dead::.dead::.dead::.dead::.dead::X)) (hx:eo env x=some (.ptr 11 0 0 0):=by exact rfl) (hy:eo env y=some j.enc:=by exact rfl) (hd:d<nt:=by exact dc rfl) :
  AR Tryz.prog r mm nt ops Q (.l i ⟨some d,.call ⟨.value (.func 44),#[x,y],ats⟩,ty,pos,after,none⟩ false::L) env (.arr 11 1 (fun _=>shoV 1 2 3 4 5 6 7 8 h)::LB 5 Itm.enc h.store.items::LB 2 Prt.enc h.store.prints::LB 7 Dsn.enc h.designs::LB 4 Lic.enc h.lics::LB 4 Ordr.enc h.orders::LB 1 vi h.made::LB 1 vi h.fors::mapE Tal.enc m::X):=by
 refine ar_gcall (H0:=shoB h m) [0,1,2,3,4,5,6,7,8] [] (args:=[x,y]) (vs:=[.ptr 11 0 0 0,j.enc]) (first:=[]) (cap:=[]) fn44 rfl (by rw [List.mapM_cons,List.mapM_cons,List.mapM_nil,hx,hy];rfl) (xs:=[.ptr 11 0 0 0,j.enc]) ⟨.ptr rfl,.closed rfl,trivial⟩ rfl (by decide) (fun _ h=>by cases h) (show ShoAt _ 0 1 2 3 4 5 6 7 8 h m from {}).hsub shoB_live (hdo_p h m j hu hua hV ht) hd ?_ (fun _ _ h=>h.elim)
 rintro _ _ (⟨hh,rfl,m',ht',rfl⟩|⟨hh,rfl,rfl⟩)
 ·rw [join_shoF]
  exact h1 hh m' ht'
 ·rw [show List.replicate 9 Blk.dead=[.dead,.dead,.dead,.dead,.dead,.dead,.dead,.dead,.dead] from rfl,join9]
  simp only [List.map_cons,List.map_nil,List.append_nil]
  exact h2 hh
end
theorem hse0_small {per life:Int}:HSmall (hse0 per life):=by
 unfold HSmall hse0
 simp
theorem hse0_st {per life:Int}:StOk (hse0 per life).store:=fun j hj=>by simp [hse0] at hj
theorem bq3h {F:Hse}{x e:Int}{R Rp:V→Heap→Prop}{L:Heap}(hR:R (.tup [F.enc,vi x,vi e]) (.arr 10 1 (fun _=>F.enc)::L)):BodyQ Tryz.prog #[.cell 6 33,.tmp 7,.tmp 8] R Rp .ret [(6,.ptr 10 0 0 0),(7,vi x),(8,vi e)] (.arr 10 1 (fun _=>F.enc)::L) :=
 bq3c (f:=fun _=>F.enc) (v:=F.enc) (ty rfl) rfl rfl Nat.one_pos rfl rfl rfl hR
theorem hplayR_bad {per life:Int}{bk:List Job}{x e:Int}(h:hplayX per life bk=(x,e)) (he:e≠0):V.tup [noHse.enc,vi x,vi e]=.tup [(hplayF per life bk).enc,vi (hplayX per life bk).1,vi (hplayX per life bk).2]:=by rw [hplayF_bad (by rw [h];exact he),h]
theorem hplayR_ok {per life:Int}{bk:List Job}(h:hplayX per life bk=(0,0)):V.tup [(hAt per life bk bk.length).enc,vi 0,vi 0]=.tup [(hplayF per life bk).enc,vi (hplayX per life bk).1,vi (hplayX per life bk).2]:=by rw [hplayF_ok (by rw [h]),h]
theorem hPlay_p (per life:Int) (bk:List Job) (hu:∀ j,j<bk.length→u8ok (el bk j).kind∧u8ok (el bk j).act.kind):PCalls Tryz.prog 14 [vi per,vi life,encJobs bk] (·=.tup [(hplayF per life bk).enc,vi (hplayX per life bk).1,vi (hplayX per life bk).2]):=by
 refine pcalls_of_aw Tryz.func14 rfl (dc rfl) ?_
 (repeat' (first|(refine ar_isq ?_;refine zq ?_)|(refine zbt ?_)|((refine ar_gcall0 fn43 rfl rfl [(hse0 per life).enc] ⟨.aggL ⟨.closed rfl,.closed rfl,.closed rfl,.nilList,.nilList,.nilList,.nilList,.nilList,.nilList,.nilList,trivial⟩,trivial⟩ (hvalid_p (hse0 per life) hse0_small hse0_st) (dc rfl) ?_ (fun _ _ h=>h.elim);rintro _ _ (⟨hv,rfl,m0,ht0,rfl⟩|⟨hv,rfl,rfl⟩)<;>(try rw [shoB_ren])))|refine zst ?_|refine zco ?_ ?_|exact zd|(refine fun (hg:(_:Prop))=>?_;(try replace hg:=HG.out hg);(try dsimp only at hg);(try (have _h:True:=hg;clear _h hg)))))
 ·(refine aw_mono_r (env':=[(6,.ptr 10 0 0 0),(7,vi 0),(8,vi 4)]) (H':=[.arr 10 1 (fun _=>noHse.enc)]) ?_ ?_;(focus (exact zsc [some 0] [])))
  refine aw_ret ?_;(repeat (first|refine ret_then ?_|refine ret_block ?_));exact bq3h ⟨hplayR_bad (hplayX_many (by omega)) (by decide),rfl⟩
 ·have hl:=hvalid0.1 hv
  have hn:¬ 200<bk.length:=by omega
  refine aw_forE bk.length (fun k m=>(∀ q,q<k→hErrAt per life bk q=0)∧TalOk (hAt per life bk k) m) (fun k=>[(6,.ptr 10 9 0 0),(9,.ptr 11 0 0 0),(29,encJobs bk),(30,vi bk.length),(31,vi k)]) (fun k m=>[.arr 11 1 (fun _=>shoV 1 2 3 4 5 6 7 8 (hAt per life bk k)),LB 5 Itm.enc (hAt per life bk k).store.items,LB 2 Prt.enc (hAt per life bk k).store.prints,LB 7 Dsn.enc (hAt per life bk k).designs,LB 4 Lic.enc (hAt per life bk k).lics,LB 4 Ordr.enc (hAt per life bk k).orders,LB 1 vi (hAt per life bk k).made,LB 1 vi (hAt per life bk k).fors,mapE Tal.enc m,.arr 10 1 (fun _=>noHv)]) m0 ⟨fun q hq=>by omega,ht0⟩ ?_ ?_
  ·(exact zsc [some 1,some 2,some 3,some 4,some 5,some 6,some 7,some 8,some 9,some 0] [])
  rintro k m hk2 ⟨hb,ht⟩
  have hV:HValid (hAt per life bk k):=hAt_ok hv hb
  by_cases hlt:k<bk.length
  ·(repeat' (first|(refine ar_isq ?_;refine zq ?_)|refine zil (j:=k) ?_|refine zis (j:=k) ?_|refine zit (j:=k) ?_|(refine zbt ?_)|((refine ar_hdo (hAt per life bk k) m (el bk k) (hu k hlt).1 (hu k hlt).2 hV ht (fun he m' ht'=>?_) (fun he=>?_)<;>(try (unfold shoF;dsimp only [List.length_cons,List.length_nil,List.cons_append,List.nil_append]))))|refine zst ?_|refine zco ?_ ?_|exact zd|(refine fun (hg:(_:Prop))=>?_;(try replace hg:=HG.out hg);(try dsimp only at hg);(try (have _h:True:=hg;clear _h hg)))))
   ·refine (show k<bk.length∧∃ m1,((∀ q,q<k+1→hErrAt per life bk q=0)∧TalOk (hAt per life bk (k+1)) m1)∧SubOf _ _ _ _ _ _ from ⟨hlt,m',⟨fun q hq=>?_,ht'⟩,?_⟩)
    ·rcases Nat.lt_succ_iff_lt_or_eq.1 hq with h|rfl
     ·exact hb q h
     ·exact he
    ·(exact zsl [some 0,some 11,some 12,some 13,some 14,some 15,some 16,some 17,some 8,some 9] [])
   ·(refine aw_mono_r (env':=[(6,.ptr 10 0 0 0),(7,vi k),(8,vi (hErrAt per life bk k))]) (H':=[.arr 10 1 (fun _=>noHse.enc)]) ?_ ?_;(focus (exact zsc [some 9] [])))
    refine aw_ret ?_;(repeat (first|refine ret_then ?_|refine ret_block ?_));exact bq3h ⟨hplayR_bad (hplayX_bad hn hl hb hlt he) he,rfl⟩
  ·obtain rfl:k=bk.length:=by omega
   (repeat' (first|(refine ar_isq ?_;refine zq ?_)|(refine zbt ?_)|refine zst ?_|refine zco ?_ ?_|exact zd|(refine fun (hg:(_:Prop))=>?_;(try replace hg:=HG.out hg);(try dsimp only at hg);(try (have _h:True:=hg;clear _h hg)))))
   (refine aw_mono_r (env':=[(6,.ptr 10 0 0 0),(7,vi 0),(8,vi 0)]) (H':=[.arr 10 1 (fun _=>(hAt per life bk bk.length).enc)]) ?_ ?_;(focus (exact zsc [some 9] [1,2,3,4,5,6,7])))
   refine aw_ret ?_;(repeat (first|refine ret_then ?_|refine ret_block ?_));exact bq3h ⟨hplayR_ok (hplayX_ok hn hl hb),rfl⟩
 ·(refine aw_mono_r (env':=[(6,.ptr 10 0 0 0),(7,vi 0),(8,vi 2)]) (H':=[.arr 10 1 (fun _=>noHse.enc)]) ?_ ?_;(focus (exact zsc [some 0] [])))
  refine aw_ret ?_;(repeat (first|refine ret_then ?_|refine ret_block ?_));exact bq3h ⟨hplayR_bad (hplayX_arg (by omega) (fun h=>hv (hvalid0.2 h))) (by decide),rfl⟩
section
variable {P:Program}{nt:Nat}{env:Env}{H:Heap}{dst:Option Tmp}{ty T T' E:TypeId}{pos:String}{after:Array Edge}{guard:Option (Nat × Bool)}{x y:Operand}{d de:TyD}
theorem TyIs.cellsE (h:TyIs P E de):P.cellsOf E=de.size:=by
 obtain ⟨i,hi,hs,_⟩:=h.inf
 unfold Program.cellsOf
 rw [hi]
 exact hs
theorem boolsOf_at {l:List Bool}{i:Nat}(h:i<l.length):(l.map vb)[i]?=some (.s (.bool (el l i))):=by
 rw [List.getElem?_map,List.getElem?_eq_getElem h]
 simp [el,h,vb,constV]
theorem eqItems_bools {I:Imm}{ρ:List (Option (Nat × Nat))}{l1 l2:List Bool}{us vs:Array Value}(he:TyIs P E de) (hk:de.tk=.bool) (hs:de.size=1) (h1:us.size=(l1.map vb).length) (hr:∀ (j:Nat) x u,(l1.map vb)[j]?=some x→us[j]?=some u→VRel I ρ x u)
  (h2:vs.size=(l2.map vb).length) (hr2:∀ (j:Nat) x u,(l2.map vb)[j]?=some x→vs[j]?=some u→VRel I ρ x u) (e:Nat) (w:World):∀ is:List Nat,(∀ i,i∈is→i<l1.length∧i<l2.length)→(Op.eqItems (e+1) E 1 us vs is).run P w=.ok (is.all fun i=>el l1 i==el l2 i) w
 | [],_=>by simp [Op.eqItems]
 | i::is,hi=>by
  have ih:=eqItems_bools he hk hs h1 hr h2 hr2 e w is fun j hj=>hi j (by simp [hj])
  obtain ⟨a1,a2⟩:=hi i (by simp)
  have p1:=part1_run (I:=I) (ρ:=ρ) he (by rw [hk];rfl) hs h1 hr (boolsOf_at a1) w
  have p2:=part1_run (I:=I) (ρ:=ρ) he (by rw [hk];rfl) hs h2 hr2 (boolsOf_at a2) w
  simp only [Op.eqItems,Nat.mul_one,Sem.run_bind,p1,p2,Result.andThen_ok,run_equalIn_bool w e _ _ _ (he.boolk hk),List.all_cons]
  cases hb:(el l1 i==el l2 i)
  ·simp
  ·simpa using ih
theorem all_elB {l1 l2:List Bool}{n:Nat}(h1:l1.length=n) (h2:l2.length=n):((List.range n).all fun i=>el l1 i==el l2 i)=decide (l1=l2):=by
 have:(((List.range n).all fun i=>el l1 i==el l2 i)=true)↔l1=l2:=by
  rw [List.all_eq_true]
  constructor
  ·intro h
   refine List.ext_getElem (by omega) fun i a b=>?_
   have:=h i (List.mem_range.2 (by omega))
   simpa [el,a,b] using this
  ·rintro rfl i _
   simp
 by_cases e:l1=l2
 ·rw [decide_eq_true e,this.2 e]
 ·rw [decide_eq_false e]
  cases hb:((List.range n).all fun i=>el l1 i==el l2 i) with
  | false=>rfl
  | true=>exact (e (this.1 hb)).elim
theorem qs_eqnil0 (ht:TyIs P T d) (hk:d.tk=.slice E) (hx:eo env x=some (.s (.slice none 0 0))) (hy:eo env y=some (.s (.slice none 0 0))):QS P nt env H ⟨dst,.binOp .eql T x y T',ty,pos,after,guard⟩ (.s (.bool true)):=.mk
 fun _ I ρ a w h hw=>⟨_,.s _,fun w' _=>by simp [execOp,sval h hx,sval h hy,eqGuard,binOp,run_equal_slice_nil w' T E none 0 0 (ht.slice hk)]⟩
theorem qs_eqnil1 {sz b i n:Nat}(hn:n≠0) (ht:TyIs P T d) (hk:d.tk=.slice E) (hx:eo env x=some (.sl sz b i n)) (hy:eo env y=some (.s (.slice none 0 0))):QS P nt env H ⟨dst,.binOp .eql T x y T',ty,pos,after,guard⟩ (.s (.bool false)):=.mk
 fun _ I ρ a w h hw=>by
  rcases (eo_rel h hx).sl_inv with ⟨cb,z,c,h1,_⟩|⟨A,_,_,_,h0⟩
  ·exact ⟨_,.s _,fun w' _=>by simp [execOp,h1,sval h hy,eqGuard,binOp,run_equal_slice_nil w' T E (some ⟨cb,i*sz,none⟩) n c (ht.slice hk)]⟩
  ·exact absurd h0 hn
theorem qs_arrB {l1 l2:List Bool}{n:Nat}(ht:TyIs P T d) (hk:d.tk=.array n E) (he:TyIs P E de) (heb:de.tk=.bool) (hes:de.size=1) (hg:P.eqGuardType P.depth T=false) (hx:eo env x=some (.agg (l1.map vb))) (hy:eo env y=some (.agg (l2.map vb))) (h1:l1.length=n) (h2:l2.length=n) :
  QS P nt env H ⟨dst,.binOp .eql T x y T',ty,pos,after,guard⟩ (.s (.bool (decide (l1=l2)))):=.mk
 fun _ I ρ a w h hw=>by
  obtain ⟨us,e1,g1,hr⟩:=agg_inv (eo_rel h hx)
  obtain ⟨vs,e2,g2,hr2⟩:=agg_inv (eo_rel h hy)
  obtain ⟨i,hi,_⟩:=he.inf
  have key:∀ w',(Op.eqItems (9998+1) E 1 us vs (List.range n)).run P w'=.ok (decide (l1=l2)) w':=fun w'=>by
   rw [eqItems_bools he heb hes g1 hr g2 hr2 9998 w' (List.range n) (fun j hj=>by have:=List.mem_range.1 hj;omega),all_elB h1 h2]
  exact ⟨_,.s _,fun w' _=>by
   simp only [execOp,e1,e2,Sem.run_bind,run_eqGuard_agg w' _ T x y us vs hg,Result.andThen_ok,run_eql_struct,run_equalIn_array w' 9999 us vs (ht.arr hk) hi,he.cellsE,hes,key]
   rfl⟩
end
def NilC:List V→List V→Prop
 | [],[]=>True
 | v::l,x::r=>(v=x∨v=vnil∧∃ sz g,x=.list sz 0 g)∧NilC l r
 | _,_=>False
theorem nilC_at:∀ {cs ds:List V},NilC cs ds→cs.length=ds.length∧∀ (j:Nat) v x,cs[j]?=some v→ds[j]?=some x→v=x∨v=vnil∧∃ sz g,x=.list sz 0 g
 | [],[],_=>⟨rfl,fun j v x h _=>by simp at h⟩
 | v::l,x::r,h=>by
  obtain ⟨h1,h2⟩:=nilC_at h.2
  refine ⟨by simp [h1],fun j a b ha hb=>?_⟩
  cases j with
  | zero=>simp at ha hb;subst ha hb;exact h.1
  | succ j=>exact h2 j a b (by simpa using ha) (by simpa using hb)
 | [],_::_,h=>h.elim
 | _::_,[],h=>h.elim
theorem rel_nilC {I:Imm}{ρ:List (Option (Nat × Nat))}{cs ds:List V}{u:Value}(hn:NilC cs ds) (h:VRel I ρ (.agg cs) u):VRel I ρ (.agg ds) u:=by
 obtain ⟨us,rfl,h1,hr⟩:=agg_inv h
 obtain ⟨h2,h3⟩:=nilC_at hn
 refine .agg (by rw [h1,h2]) fun j x u hx hu=>?_
 have hlt:j<cs.length:=by rw [h2];exact (List.getElem?_eq_some_iff.1 hx).1
 have hc:cs[j]?=some cs[j]:=by simp [hlt]
 have hv:=hr j cs[j] u hc hu
 rcases h3 j cs[j] x hc hx with e|⟨e,sz,g,rfl⟩
 ·rw [e] at hv;exact hv
 ·rw [e] at hv
  cases hv
  exact .list (us:=fun _ _=>undef) (Nat.le_refl 0) (Nat.zero_le _) (fun h=>absurd h (Nat.lt_irrefl 0)) (fun i h=>absurd h (Nat.not_lt_zero i)) (fun i _ _ h _=>absurd h (Nat.not_lt_zero i))
theorem sub_nilC {m nt t:Nat}{env:Env}{H:Heap}{cs ds:List V}(x:V) (hx:x=.agg ds) (ht:look env t=some (.agg cs)) (hn:NilC cs ds):SubK m nt env H ((t,x)::env) H:=.mk fun X I ρ a w _ hs=>by
 subst hx
 refine ⟨I,ρ,Imm.le_refl I,⟨⟨hs.1.1,fun t' v hv=>?_⟩,hs.2⟩,fun _ h=>h⟩
 rw [look_cons] at hv
 split at hv
 ·rename_i e
  subst e
  cases hv
  obtain ⟨h1,h2⟩:=hs.1.2 t _ ht
  exact ⟨h1,rel_nilC hn h2⟩
 ·exact hs.1.2 t' v hv
def rowI (c:Screen) (i:Nat):Int:=c.phase+(i:Int)*c.period
def drawRow (s:Sheet) (c:Screen) (w:List (List Int)) (i:Nat):List Int:=(List.range s.cols.toNat).map fun j=>leanAt s.lean (el (el w i)) s.cols.toNat j+rowI c i
def drawTo (s:Sheet) (c:Screen) (w:List (List Int)) (k:Nat):List (List Int):=(List.range k).map (drawRow s c w)
theorem drawRow_len (s:Sheet) (c:Screen) (w:List (List Int)) (i:Nat):(drawRow s c w i).length=s.cols.toNat:=by simp [drawRow]
theorem drawRow_el {s:Sheet}{c:Screen}{w:List (List Int)}{i j:Nat}(h:j<s.cols.toNat):el (drawRow s c w i) j=leanAt s.lean (el (el w i)) s.cols.toNat j+rowI c i:=by unfold drawRow;rw [el_map_range h]
theorem drawTo_len (s:Sheet) (c:Screen) (w:List (List Int)) (k:Nat):(drawTo s c w k).length=k:=by simp [drawTo]
theorem drawTo_succ (s:Sheet) (c:Screen) (w:List (List Int)) (k:Nat):drawTo s c w (k+1)=drawTo s c w k++[drawRow s c w k]:=by simp [drawTo,List.range_succ]
def stAt (g:Nat→Int) (x:Int) (j q:Nat):Int:=if q<j then g q+x else g q
theorem stAt_zero (g:Nat→Int) (x:Int) (q:Nat):stAt g x 0 q=g q:=by simp [stAt]
theorem stAt_at (g:Nat→Int) (x:Int) (j:Nat):stAt g x j j=g j:=by simp [stAt]
theorem stAt_succ (g:Nat→Int) (x:Int) (j:Nat):stAt g x (j+1) j=stAt g x j j+x:=by simp [stAt]
theorem stAt_ne {g:Nat→Int}{x:Int}{j q:Nat}(h:q≠j):stAt g x (j+1) q=stAt g x j q:=by
 unfold stAt
 by_cases h1:q<j
 ·rw [if_pos h1,if_pos (by omega)]
 ·rw [if_neg h1,if_neg (by omega)]
theorem stAt_end {g:Nat→Int}{x:Int}{j q:Nat}(h:q<j):stAt g x j q=g q+x:=by simp [stAt,h]
theorem draw_p (s:Sheet) (hs:s.ok=true) (c:Screen) (hc:c.ok=true) (w:List (List Int)) (hn:w.length=cntF s c) (hw:∀ l,l∈w→l.length=s.cols.toNat∧∀ k,k<l.length→0≤el l k∧el l k≤100):PCalls Tryz.prog 75 [s.enc,c.enc,encRows w] (·=encRows (drawTo s c w (cntF s c))):=by
 have hbd:=Sheet.bounds hs
 have hcb:=Screen.bounds hc
 have hc12:=cntF_le s c
 refine pcalls_of_aw Tryz.func75 rfl (dc rfl) ?_
 (repeat' (first|(refine ar_isq ?_;refine zq ?_)|(refine zpv fn67 (rows_p s c) ?_)|refine zst ?_|refine aw_drawn (id:=5) [(0,0),(1,0),(2,0),(3,0),(4,0),(5,1),(6,0)] mixed (by kernel_rfl) ?_|refine aw_drawn (id:=5) [(0,0),(1,0),(2,0),(3,0),(4,0),(5,2),(6,0)] mixed (by kernel_rfl) ?_|refine zco ?_ ?_|exact zd|(refine fun (hg:(_:Prop))=>?_;(try replace hg:=HG.out hg);(try dsimp only at hg);(try (have _h:True:=hg;clear _h hg)))))
 (refine aw_mono_r (env':=[(3,.ptr 5 0 0 0),(5,.ptr 1 2 0 0),(7,.ptr 1 3 0 0),(14,.fn (.func 110) [] [.ref c.enc 0,.ref s.enc 0])]) (H':=[.arr 5 1 (fun _=>s.enc),.arr 2 1 (fun _=>c.enc),.arr 1 1 (fun _=>encRows w),.arr 1 1 (fun _=>vnil)]) ?_ ?_;(focus (exact zsb [some 0,some 1,some 2,some 3] [])))
 refine aw_range (fun k=>[.arr 5 1 (fun _=>s.enc),.arr 2 1 (fun _=>c.enc),.arr 1 1 (fun _=>encRows w),.arr 1 1 (fun _=>.sl 1 4 0 (drawTo s c w k).length),LB 1 encInts (drawTo s c w k)]) _ rfl rfl fn110 (It.rows_iter s hs c hc) (fun _ _=>rfl) (by decide) (fun k _=>rfl) ?maps ?start ?round ?done
 case maps=>intro k j ms;match j with|0|1|2|3|4=>simp [LB]|j+5=>simp
 case start=>(exact zsb [some 0,some 1,some 2,some 3,none] [])
 case round =>
  intro k lp hk
  have hm:=mulP hc (k:=k) (by omega)
  have hin:=cntF_in hk
  have hkw:k<w.length:=by omega
  obtain ⟨hl,hv⟩:=hw _ (el_mem hkw)
  have hlb:=fun q (hq:q<s.cols.toNat)=>lean_bnd (a:=s.lean) (w:=el (el w k)) (n:=s.cols.toNat) (k:=q) (by omega) (fun k' hk'=>hv k' (by omega)) hq
  (repeat' (first|(refine ar_isq ?_;refine zq ?_)|refine zil (j:=k) ?_|refine zis (j:=k) ?_|refine zit (j:=k) ?_|(refine ar_fcall fn113 rfl rfl (.cons (.closed rfl) (.cons (.closed rfl) .nil)) (lean_p s hs (el w k) (by omega) hv) (dc rfl) ?_;rintro n0 g0 ⟨rfl,hg0⟩)|refine zst ?_|refine aw_drawn (id:=5) [(0,0),(1,0),(2,0),(3,0),(4,0),(5,1),(6,0)] mixed (by kernel_rfl) ?_|refine aw_drawn (id:=5) [(0,0),(1,0),(2,0),(3,0),(4,0),(5,2),(6,0)] mixed (by kernel_rfl) ?_|refine zco ?_ ?_|exact zd|(refine fun (hg:(_:Prop))=>?_;(try replace hg:=HG.out hg);(try dsimp only at hg);(try (have _h:True:=hg;clear _h hg)))))
  refine aw_for (el w k).length (fun _=>True) (fun j=>[(7,.ptr 1 3 0 0),(9,vi (rowI c k)),(10,.sl 1 5 0 (el w k).length),(23,.sl 1 5 0 (el w k).length),(24,vi (el w k).length),(25,vi j)]) (fun j=>[.arr 5 1 (fun _=>s.enc),.arr 2 1 (fun _=>c.enc),.arr 1 1 (fun _=>encRows w),.arr 1 1 (fun _=>.sl 1 4 0 (drawTo s c w k).length),LB 1 encInts (drawTo s c w k),.arr 1 (el w k).length (fun q=>vi (stAt (leanAt s.lean (el (el w k)) (el w k).length) (rowI c k) j q))]) trivial ?_ ?_
  ·(refine sub_to [some 0,some 1,some 2,some 3,some 4,some 5] [] rfl ?_ ?_<;>(repeat' (first|exact trivial|refine ⟨⟨_,rfl,?_⟩,?_⟩|refine vs1 ?_ ?_|refine vs2 ?_ ?_|refine vs3 ?_|refine vs4 ?_ ?_|refine ⟨.inl ⟨_,_,rfl,rfl,?_⟩,?_⟩|exact ⟨.inr ⟨rfl,rfl⟩,trivial⟩|refine ⟨.inr ⟨rfl,rfl⟩,?_⟩|(intro _ _)|exact vz1|(exact VSub.of_eq ((hg0 _ (by assumption)).trans (congrArg vi (stAt_zero _ _ _).symm)) rfl)|exact vz2|fail)))
  intro j hj _
  rw [hl] at hj ⊢
  have hdl:=drawTo_len s c w k
  have hrI:rowI c k=c.phase+(k:Int)*c.period:=rfl
  by_cases hlt:j<s.cols.toNat
  ·have hjb:=hlb j hlt
   have hsj:=stAt_at (leanAt s.lean (el (el w k)) s.cols.toNat) (rowI c k) j
   (repeat' (first|(refine ar_isq ?_;refine zq ?_)|(refine ar_store_as (fun q=>vi (stAt (leanAt s.lean (el (el w k)) s.cols.toNat) (rowI c k) (j+1) q)) (ty rfl) rfl rfl rfl rfl rfl rfl (by assumption) (by dsimp only;omega) (fun _ h=>by cases h) rfl rfl (fun _ h=>by cases h) (congrArg vi (stAt_succ _ _ _)) (fun q _ hq=>congrArg vi (stAt_ne hq)) ?_)|refine zst ?_|refine aw_drawn (id:=5) [(0,0),(1,0),(2,0),(3,0),(4,0),(5,1),(6,0)] mixed (by kernel_rfl) ?_|refine aw_drawn (id:=5) [(0,0),(1,0),(2,0),(3,0),(4,0),(5,2),(6,0)] mixed (by kernel_rfl) ?_|refine zco ?_ ?_|exact zd|(refine fun (hg:(_:Prop))=>?_;(try replace hg:=HG.out hg);(try dsimp only at hg);(try (have _h:True:=hg;clear _h hg)))))
   all_goals first
    | (exfalso;omega)
    | ((first|refine loop_next (by omega) ?_ ?_|refine (show _∧_∧SubOf _ _ _ _ _ _ from And.intro (by omega) (And.intro ?_ ?_)));(focus ((trivial);done));(focus (exact zsb [some 0,some 1,some 2,some 3,some 4,some 5] [])))
  ·(repeat' (first|(refine ar_isq ?_;refine zq ?_)|refine zst ?_|refine aw_drawn (id:=5) [(0,0),(1,0),(2,0),(3,0),(4,0),(5,1),(6,0)] mixed (by kernel_rfl) ?_|refine aw_drawn (id:=5) [(0,0),(1,0),(2,0),(3,0),(4,0),(5,2),(6,0)] mixed (by kernel_rfl) ?_|refine zco ?_ ?_|exact zd|(refine fun (hg:(_:Prop))=>?_;(try replace hg:=HG.out hg);(try dsimp only at hg);(try (have _h:True:=hg;clear _h hg)))))
   all_goals first
    | (exfalso;omega)
    | (refine (show SubOf _ _ _ _ _ _ from ?_);rw [drawTo_succ];(refine sub_to [some 0,some 1,some 2,some 3,some 7] [5] rfl ?_ ?_<;>(repeat' (first|exact trivial|refine ⟨⟨_,rfl,?_⟩,?_⟩|refine vs1 ?_ ?_|refine vs2 ?_ ?_|refine vs3 ?_|refine vs4 ?_ ?_|refine ⟨.inl ⟨_,_,rfl,rfl,?_⟩,?_⟩|exact ⟨.inr ⟨rfl,rfl⟩,trivial⟩|refine ⟨.inr ⟨rfl,rfl⟩,?_⟩|(intro _ _)|exact vz1|(exact frz_as (by simp) rfl rfl (drawRow_len _ _ _ _) (fun q hq=>by rw [drawRow_el hq,stAt_end (by omega)]) (fun _=>rfl))|exact vz2|fail))))
 case done =>
  (repeat' (first|(refine ar_isq ?_;refine zq ?_)|refine zst ?_|refine aw_drawn (id:=5) [(0,0),(1,0),(2,0),(3,0),(4,0),(5,1),(6,0)] mixed (by kernel_rfl) ?_|refine aw_drawn (id:=5) [(0,0),(1,0),(2,0),(3,0),(4,0),(5,2),(6,0)] mixed (by kernel_rfl) ?_|refine zco ?_ ?_|exact zd|(refine fun (hg:(_:Prop))=>?_;(try replace hg:=HG.out hg);(try dsimp only at hg);(try (have _h:True:=hg;clear _h hg)))))
  (refine aw_mono_r (env':=[(6,encRows (drawTo s c w (cntF s c)))]) (H':=[]) ?_ ?_;(focus (exact zsb [] [4])))
  (refine aw_ret ?_;(repeat (first|refine ret_then ?_|refine ret_block ?_));refine bq1 rfl ⟨?_,rfl⟩)
  rfl
theorem everyInts_p (b:List Int) {g:FuncId}{cap:List V}(hfn:FnOk Tryz.prog g) (hcap:V.closed.all cap=true) (p:Int→Bool) (hc:∀ l,l∈b→PCalls Tryz.prog g (vi l::cap) (·=vb (p l))) :
  PCalls Tryz.prog 68 [encInts b,.fn (.func g) [] cap] (·=vb (b.all p)):=by
 (refine pcalls_know (fun I us h=>rel_len (rel_arg h (j:=0) rfl)) fun hlen0=>?_)
 refine pcalls_of_aw Tryz.func68 rfl (dc rfl) ?_
 (repeat' (first|(refine ar_isq ?_;refine zq ?_)|refine zst ?_|refine zco ?_ ?_|exact zd|(refine fun (hg:(_:Prop))=>?_;(try replace hg:=HG.out hg);(try dsimp only at hg);(try (have _h:True:=hg;clear _h hg)))))
 refine aw_for b.length (fun k=>∀ j,j<k→p (el b j)=true) (fun k=>[(1,.fn (.func g) [] cap),(7,encInts b),(8,vi b.length),(9,vi k)]) (fun _=>[]) (fun j hj=>by omega) ?_ ?_
 ·(exact zsb [] [])
 intro k hk hJ
 by_cases hkn:k<b.length
 ·(repeat' (first|(refine ar_isq ?_;refine zq ?_)|(refine ar_pcall (own:=false) hfn rfl rfl (args_closed hcap) (hc _ (el_mem hkn)) (by simp) (dc rfl) ?_;intro _ hv;subst hv)|refine zst ?_|refine zco ?_ ?_|exact zd|(refine fun (hg:(_:Prop))=>?_;(try replace hg:=HG.out hg);(try dsimp only at hg);(try (have _h:True:=hg;clear _h hg)))))
  all_goals first
   | (exfalso;omega)
   | ((first|refine loop_next (by omega) ?_ ?_|refine (show _∧_∧SubOf _ _ _ _ _ _ from And.intro (by omega) (And.intro ?_ ?_)));(focus ((exact all_step hJ (by assumption));done));(focus (exact zsb [] [])))
   | ((refine aw_ret ?_;(repeat (first|refine ret_then ?_|refine ret_block ?_));refine bq1 rfl ⟨?_,rfl⟩);rw [not_all_el hkn (by simp_all)];rfl)
 ·(repeat' (first|(refine ar_isq ?_;refine zq ?_)|refine zst ?_|refine zco ?_ ?_|exact zd|(refine fun (hg:(_:Prop))=>?_;(try replace hg:=HG.out hg);(try dsimp only at hg);(try (have _h:True:=hg;clear _h hg)))))
  all_goals first|omega|((refine aw_ret ?_;(repeat (first|refine ret_then ?_|refine ret_block ?_));refine bq1 rfl ⟨?_,rfl⟩);rw [all_el (fun j hj=>hJ j (by omega))];rfl)
theorem everyBools_p (b:List (List Bool)) {g:FuncId}{cap:List V}(hfn:FnOk Tryz.prog g) (hcap:V.closed.all cap=true) (p:List Bool→Bool) (hc:∀ l,l∈b→PCalls Tryz.prog g (encBools l::cap) (·=vb (p l))) :
  PCalls Tryz.prog 76 [encMask b,.fn (.func g) [] cap] (·=vb (b.all p)):=by
 (refine pcalls_know (fun I us h=>rel_len (rel_arg h (j:=0) rfl)) fun hlen0=>?_)
 refine pcalls_of_aw Tryz.func76 rfl (dc rfl) ?_
 (repeat' (first|(refine ar_isq ?_;refine zq ?_)|refine zst ?_|refine zco ?_ ?_|exact zd|(refine fun (hg:(_:Prop))=>?_;(try replace hg:=HG.out hg);(try dsimp only at hg);(try (have _h:True:=hg;clear _h hg)))))
 refine aw_for b.length (fun k=>∀ j,j<k→p (el b j)=true) (fun k=>[(1,.fn (.func g) [] cap),(7,encMask b),(8,vi b.length),(9,vi k)]) (fun _=>[]) (fun j hj=>by omega) ?_ ?_
 ·(exact zsb [] [])
 intro k hk hJ
 by_cases hkn:k<b.length
 ·(repeat' (first|(refine ar_isq ?_;refine zq ?_)|(refine ar_pcall (own:=false) hfn rfl rfl (args_closed hcap) (hc _ (el_mem hkn)) (by simp) (dc rfl) ?_;intro _ hv;subst hv)|refine zst ?_|refine zco ?_ ?_|exact zd|(refine fun (hg:(_:Prop))=>?_;(try replace hg:=HG.out hg);(try dsimp only at hg);(try (have _h:True:=hg;clear _h hg)))))
  all_goals first
   | (exfalso;omega)
   | ((first|refine loop_next (by omega) ?_ ?_|refine (show _∧_∧SubOf _ _ _ _ _ _ from And.intro (by omega) (And.intro ?_ ?_)));(focus ((exact all_step hJ (by assumption));done));(focus (exact zsb [] [])))
   | ((refine aw_ret ?_;(repeat (first|refine ret_then ?_|refine ret_block ?_));refine bq1 rfl ⟨?_,rfl⟩);rw [not_all_el hkn (by simp_all)];rfl)
 ·(repeat' (first|(refine ar_isq ?_;refine zq ?_)|refine zst ?_|refine zco ?_ ?_|exact zd|(refine fun (hg:(_:Prop))=>?_;(try replace hg:=HG.out hg);(try dsimp only at hg);(try (have _h:True:=hg;clear _h hg)))))
  all_goals first|omega|((refine aw_ret ?_;(repeat (first|refine ret_then ?_|refine ret_block ?_));refine bq1 rfl ⟨?_,rfl⟩);rw [all_el (fun j hj=>hJ j (by omega))];rfl)
def lenB (e n:Int):Bool:=decide (n=e)
theorem shapedB_p (b:List (List Bool)) (n e:Int):PCalls Tryz.prog 74 [encMask b,vi n,vi e] (·=vb (decide ((b.length:Int)=n)&&b.all fun x=>lenB e x.length)):=by
 have h1:∀ l,l∈b→PCalls Tryz.prog 112 (encBools l::[.ref (vi e) 0]) (·=vb (lenB e l.length)):=fun l _=>by
  refine pcalls_of_aw Tryz.func112 rfl (dc rfl) ?_
  (repeat' (first|(refine ar_isq ?_;refine zq ?_)|refine zst ?_|refine zco ?_ ?_|exact zd|(refine fun (hg:(_:Prop))=>?_;(try replace hg:=HG.out hg);(try dsimp only at hg);(try (have _h:True:=hg;clear _h hg)))))
  (refine aw_ret ?_;(repeat (first|refine ret_then ?_|refine ret_block ?_));refine bq1 rfl ⟨?_,rfl⟩)
  rfl
 refine pcalls_of_aw Tryz.func74 rfl (dc rfl) ?_
 ((repeat refine aw_seq ?_);(first|(refine aw_region ?_));(repeat' (first|(refine ar_isq ?_;refine zq ?_)|refine zg ?_ ?_|refine zgu ?_|refine zsr ?_|exact zd|(refine fun (hg:(_:Prop))=>?_;(try replace hg:=HG.out hg);(try dsimp only at hg);(try (have _h:True:=hg;clear _h hg))))))
 (refine aw_mono_r (env':=[(0,encMask b),(1,vi n),(2,vi e),(5,.ref (vi e) 0)]) (H':=[]) ?_ ?_;(focus (exact zsb [] [0])))
 (repeat' (first|(refine ar_isq ?_;refine zq ?_)|(refine zpv fn76 (everyBools_p b fn112 rfl _ h1) ?_)|refine zg ?_ ?_|refine zgu ?_|refine zst ?_|refine zco ?_ ?_|exact zd|(refine fun (hg:(_:Prop))=>?_;(try replace hg:=HG.out hg);(try dsimp only at hg);(try (have _h:True:=hg;clear _h hg)))))
 all_goals (refine aw_ret ?_;(repeat (first|refine ret_then ?_|refine ret_block ?_));refine bq1 rfl ⟨?_,rfl⟩)
 all_goals (simp_all [vb,constV])
def pow2:Nat→Nat
 | 0=>1
 | k+1=>2*pow2 k
theorem pow2_le:∀ {k},k≤15→pow2 k≤32768:=by
 intro k hk
 have:∀ k:Fin 16,pow2 k.val≤32768:=by decide
 exact this ⟨k,by omega⟩
def bitB (n j:Nat):Bool:=decide (n/pow2 (14-j) % 2=1)
def gF (n d j:Nat):Bool:=decide (15≤j+d)&&bitB n j
def gAgg (f:Nat→Bool):V:=.agg ((List.range 15).map fun j=>vb (f j))
theorem gAgg_ext {f g:Nat→Bool}(h:∀ j,j<15→f j=g j):gAgg f=gAgg g:=by
 unfold gAgg
 congr 1
 exact List.map_congr_left fun j hj=>by rw [h j (List.mem_range.1 hj)]
theorem gAgg_put (f:Nat→Bool) (b:Bool) {o:Nat}(h:o<15):putPart (gAgg f) o (vb b)=gAgg (fun j=>if j=o then b else f j):=by
 have key:∀ o:Fin 15,putPart (gAgg f) o.val (vb b)=gAgg (fun j=>if j=o.val then b else f j):=by
  intro o
  unfold gAgg putPart
  simp only [cells_vb,List.length_cons,List.length_nil]
  congr 1
  refine List.ext_getElem? fun i=>?_
  have ho:=o.isLt
  by_cases h1:i<o.val
  ·rw [List.append_assoc,List.getElem?_append_left (by simp;omega),List.getElem?_take,if_pos h1]
   simp [show i<15 by omega,show i≠o.val by omega]
  ·by_cases h2:i=o.val
   ·rw [List.append_assoc,List.getElem?_append_right (by simp;omega),List.getElem?_append_left (by simp;omega)]
    simp [h2]
   ·rw [List.getElem?_append_right (by simp;omega),List.getElem?_drop]
    by_cases h3:i<15
    ·have:(o.val+(0+1)+(i-(List.take o.val ((List.range 15).map fun j=>vb (f j))++[vb b]).length))=i:=by simp;omega
     rw [this]
     simp [h3,h2]
    ·rw [List.getElem?_eq_none (by simp;omega),List.getElem?_eq_none (by simp;omega)]
 exact key ⟨o,h⟩
def shN (n d:Nat):Nat:=n/pow2 d
theorem half_pow (n d:Nat):shN n (d+1)=shN n d/2:=by simp only [shN,pow2];rw [Nat.mul_comm,Nat.div_div_eq_div_mul]
theorem bit_at {n d:Nat}(h:d<15):decide (((shN n d:Nat):Int) % 2=1)=bitB n (14-d):=by
 unfold bitB
 change _=decide (shN n _ % 2=1)
 rw [show 14-(14-d)=d by omega,decide_eq_decide]
 omega
theorem gF_step {n d o:Nat}{b:Bool}(h:d<15) (ho:o=14-d) (hb:b=bitB n (14-d)):putPart (gAgg (gF n d)) o (vb b)=gAgg (gF n (d+1)):=by
 rw [gAgg_put _ _ (by omega)]
 refine gAgg_ext fun j hj=>?_
 by_cases e:j=o
 ·rw [if_pos e,hb,e,ho]
  unfold gF
  rw [show decide (15≤14-d+(d+1))=true by simp;omega,Bool.true_and]
 ·rw [if_neg e]
  unfold gF
  rw [show decide (15≤j+(d+1))=decide (15≤j+d) by rw [decide_eq_decide];omega]
theorem gF_end {n d:Nat}(h:15≤d):gAgg (gF n d)=gAgg (bitB n):=gAgg_ext fun j hj=>by
 unfold gF
 rw [show decide (15≤j+d)=true by simp;omega,Bool.true_and]
def rowV (f:Nat→Bool) (i:Nat):V:=.agg [vb (f (3*i)),vb (f (3*i+1)),vb (f (3*i+2))]
theorem rowV_part (f:Nat→Bool) {i:Nat}(h:i<5):partV true (gAgg f).cells (i*3) 3=some (rowV f i):=by
 match i,h with
 | 0,_=>rfl
 | 1,_=>rfl
 | 2,_=>rfl
 | 3,_=>rfl
 | 4,_=>rfl
theorem cellV_part (f:Nat→Bool) (i:Nat) {k:Nat}(h:k<3):partV false (rowV f i).cells (k*1) 1=some (vb (f (3*i+k))):=by
 match k,h with
 | 0,_=>rfl
 | 1,_=>rfl
 | 2,_=>rfl
def numTo (f:Nat→Bool):Nat→Nat
 | 0=>0
 | j+1=>2*numTo f j+(if f j=true then 1 else 0)
theorem numTo_lt (f:Nat→Bool):∀ j,numTo f j<pow2 j
 | 0=>Nat.zero_lt_one
 | j+1=>by
  have:=numTo_lt f j
  simp only [numTo,pow2]
  split<;>omega
theorem wide_p (size glyphs:Int) (_hs:-1000≤size∧size≤1000) (hg:0≤glyphs∧glyphs≤1000) (hm:-10000000≤size*(4*glyphs-1)∧size*(4*glyphs-1)≤10000000):PCalls Tryz.prog 71 [vi size,vi glyphs] (·=vi (size*(4*glyphs-1))):=by
 refine pcalls_of_aw Tryz.func71 rfl (dc rfl) ?_
 (repeat' (first|(refine ar_isq ?_;refine zq ?_)|refine zst ?_|refine zco ?_ ?_|exact zd|(refine fun (hg:(_:Prop))=>?_;(try replace hg:=HG.out hg);(try dsimp only at hg);(try (have _h:True:=hg;clear _h hg)))))
 (refine aw_ret ?_;(repeat (first|refine ret_then ?_|refine ret_block ?_));refine bq1 rfl ⟨?_,rfl⟩)
 rfl
theorem glyphOf_p (n:Nat) (hn:n≤32767):PCalls Tryz.prog 72 [vi n] (·=gAgg (bitB n)):=by
 have hdb:∀ d,shN n d≤n:=fun d=>Nat.div_le_self _ _
 refine pcalls_of_aw Tryz.func72 rfl (dc rfl) ?_
 (repeat' (first|(refine ar_isq ?_;refine zq ?_)|refine ar_q (qs_and rfl rfl (andMask (by omega))) (dc rfl) ?_|refine ar_q (qs_shr rfl rfl (by omega) (shr0 (by omega))) (dc rfl) ?_|refine zst ?_|refine zco ?_ ?_|exact zd|(refine fun (hg:(_:Prop))=>?_;(try replace hg:=HG.out hg);(try dsimp only at hg);(try (have _h:True:=hg;clear _h hg)))))
 refine aw_for 5 (fun _=>True) (fun R=>[(0,vi ((shN n (3*R):Nat):Int)),(2,.ptr 15 0 0 0),(3,.ptr 15 1 0 0),(4,vi (4-(R:Int)))]) (fun R=>[.arr 15 1 (fun _=>gAgg fun _=>false),.arr 15 1 (fun _=>gAgg (gF n (3*R)))]) trivial ?_ ?_
 ·(refine sub_to [some 0,some 1] [] rfl ?_ ?_<;>(repeat' (first|exact trivial|refine ⟨⟨_,rfl,?_⟩,?_⟩|refine vs1 ?_ ?_|refine vs2 ?_ ?_|refine vs3 ?_|refine vs4 ?_ ?_|refine ⟨.inl ⟨_,_,rfl,rfl,?_⟩,?_⟩|exact ⟨.inr ⟨rfl,rfl⟩,trivial⟩|refine ⟨.inr ⟨rfl,rfl⟩,?_⟩|(intro _ _)|exact vz1|(first|exact siEq (by simp [shN,pow2])|exact VSub.of_eq (gAgg_ext fun j hj=>by simp [gF];omega) rfl|exact VSub.of_eq rfl rfl)|exact vz2|fail)))
 intro R hR _
 by_cases hlt:R<5
 ·(repeat' (first|(refine ar_isq ?_;refine zq ?_)|refine ar_q (qs_and rfl rfl (andMask (by omega))) (dc rfl) ?_|refine ar_q (qs_shr rfl rfl (by omega) (shr0 (by omega))) (dc rfl) ?_|refine zst ?_|refine zco ?_ ?_|exact zd|(refine fun (hg:(_:Prop))=>?_;(try replace hg:=HG.out hg);(try dsimp only at hg);(try (have _h:True:=hg;clear _h hg)))))
  all_goals (try (exfalso;omega))
  refine aw_for 3 (fun _=>True) (fun K=>[(0,vi ((shN n (3*R+K):Nat):Int)),(2,.ptr 15 0 0 0),(3,.ptr 15 1 0 0),(4,vi (4-(R:Int))),(5,vi (2-(K:Int)))]) (fun K=>[.arr 15 1 (fun _=>gAgg fun _=>false),.arr 15 1 (fun _=>gAgg (gF n (3*R+K)))]) trivial ?_ ?_
  ·(exact zsb [some 0,some 1] [])
  intro K hK _
  have hd:=hdb (3*R+K)
  have hhp:=half_pow n (3*R+K)
  by_cases hltk:K<3
  ·(repeat' (first|(refine ar_isq ?_;refine zq ?_)|refine ar_q (qs_and rfl rfl (andMask (by omega))) (dc rfl) ?_|refine ar_q (qs_shr rfl rfl (by omega) (shr0 (by omega))) (dc rfl) ?_|refine ar_q (qs_and rfl rfl (andOne (by omega))) (dc rfl) ?_|refine ar_q (qs_shr rfl rfl (by omega) (shrOne (by omega))) (dc rfl) ?_|refine ar_q (qs_iaddr_aptr (j:=4-R) (ty rfl) rfl (ty rfl) rfl rfl (by omega) (by omega)) (dc rfl) ?_|refine ar_q (qs_iaddr_aptr (j:=2-K) (ty rfl) rfl (ty rfl) rfl rfl (by omega) (by omega)) (dc rfl) ?_|refine zst ?_|refine zco ?_ ?_|exact zd|(refine fun (hg:(_:Prop))=>?_;(try replace hg:=HG.out hg);(try dsimp only at hg);(try (have _h:True:=hg;clear _h hg)))))
   all_goals first
    | (exfalso;omega)
    | ((first|refine loop_next (by omega) ?_ ?_|refine (show _∧_∧SubOf _ _ _ _ _ _ from And.intro (by omega) (And.intro ?_ ?_)));(focus ((trivial);done));(focus ((refine sub_to [some 0,some 1] [] rfl ?_ ?_<;>(repeat' (first|exact trivial|refine ⟨⟨_,rfl,?_⟩,?_⟩|refine vs1 ?_ ?_|refine vs2 ?_ ?_|refine vs3 ?_|refine vs4 ?_ ?_|refine ⟨.inl ⟨_,_,rfl,rfl,?_⟩,?_⟩|exact ⟨.inr ⟨rfl,rfl⟩,trivial⟩|refine ⟨.inr ⟨rfl,rfl⟩,?_⟩|(intro _ _)|exact vz1|(first|exact siEq (by omega)|exact siEq (by rw [← Nat.add_assoc,hhp];omega)|exact VSub.of_eq (gF_step (by omega) (by dsimp only;omega) (bit_at (by omega))) rfl)|exact vz2|fail)));done)))
    | trace_state
  ·obtain rfl:K=3:=by omega
   (repeat' (first|(refine ar_isq ?_;refine zq ?_)|refine ar_q (qs_and rfl rfl (andMask (by omega))) (dc rfl) ?_|refine ar_q (qs_shr rfl rfl (by omega) (shr0 (by omega))) (dc rfl) ?_|refine zst ?_|refine zco ?_ ?_|exact zd|(refine fun (hg:(_:Prop))=>?_;(try replace hg:=HG.out hg);(try dsimp only at hg);(try (have _h:True:=hg;clear _h hg)))))
   all_goals first
    | (exfalso;omega)
    | ((first|refine loop_next (by omega) ?_ ?_|refine (show _∧_∧SubOf _ _ _ _ _ _ from And.intro (by omega) (And.intro ?_ ?_)));(focus ((trivial);done));(focus ((refine sub_to [some 0,some 1] [] rfl ?_ ?_<;>(repeat' (first|exact trivial|refine ⟨⟨_,rfl,?_⟩,?_⟩|refine vs1 ?_ ?_|refine vs2 ?_ ?_|refine vs3 ?_|refine vs4 ?_ ?_|refine ⟨.inl ⟨_,_,rfl,rfl,?_⟩,?_⟩|exact ⟨.inr ⟨rfl,rfl⟩,trivial⟩|refine ⟨.inr ⟨rfl,rfl⟩,?_⟩|(intro _ _)|exact vz1|(first|exact siEq (by omega)|exact VSub.closed rfl)|exact vz2|fail)));done)))
    | trace_state
 ·obtain rfl:R=5:=by omega
  (repeat' (first|(refine ar_isq ?_;refine zq ?_)|refine ar_q (qs_and rfl rfl (andMask (by omega))) (dc rfl) ?_|refine ar_q (qs_shr rfl rfl (by omega) (shr0 (by omega))) (dc rfl) ?_|refine zst ?_|refine zco ?_ ?_|exact zd|(refine fun (hg:(_:Prop))=>?_;(try replace hg:=HG.out hg);(try dsimp only at hg);(try (have _h:True:=hg;clear _h hg)))))
  all_goals first
   | (exfalso;omega)
   | (refine aw_ret ?_;(repeat (first|refine ret_then ?_|refine ret_block ?_));refine bq1c (ty rfl) rfl rfl Nat.one_pos rfl ⟨?_,rfl⟩;exact (gF_end (n:=n) (d:=3*5) (by omega)))
   | trace_state
theorem number_p (f:Nat→Bool):PCalls Tryz.prog 78 [gAgg f] (·=vi ((numTo f 15:Nat):Int)):=by
 have hb:∀ j,j≤15→numTo f j<32769:=fun j hj=>Nat.lt_of_lt_of_le (numTo_lt f j) (Nat.le_trans (pow2_le hj) (by decide))
 refine pcalls_of_aw Tryz.func78 rfl (dc rfl) ?_
 (repeat' (first|(refine ar_isq ?_;refine zq ?_)|refine zst ?_|refine zco ?_ ?_|exact zd|(refine fun (hg:(_:Prop))=>?_;(try replace hg:=HG.out hg);(try dsimp only at hg);(try (have _h:True:=hg;clear _h hg)))))
 refine aw_for 5 (fun _=>True) (fun i=>[(3,vi ((numTo f (3*i):Nat):Int)),(8,gAgg f),(9,vi i)]) (fun _=>[]) trivial ?_ ?_
 ·(exact zsb [] [])
 intro i hi _
 by_cases hlt:i<5
 ·(repeat' (first|(refine ar_isq ?_;refine zq ?_)|refine ar_q (qs_index (v:=rowV f i) (j:=i) (ty rfl) rfl (ty rfl) rfl rfl rfl (by omega) (rowV_part f hlt)) (dc rfl) ?_|refine zst ?_|refine zco ?_ ?_|exact zd|(refine fun (hg:(_:Prop))=>?_;(try replace hg:=HG.out hg);(try dsimp only at hg);(try (have _h:True:=hg;clear _h hg)))))
  all_goals (try (exfalso;omega))
  refine aw_for 3 (fun _=>True) (fun k=>[(3,vi ((numTo f (3*i+k):Nat):Int)),(8,gAgg f),(9,vi i),(12,rowV f i),(13,vi k)]) (fun _=>[]) trivial ?_ ?_
  ·(exact zsb [] [])
  intro k hk _
  have hnb:=hb (3*i+k) (by omega)
  by_cases hltk:k<3
  ·(repeat' (first|(refine ar_isq ?_;refine zq ?_)|refine ar_q (qs_index (v:=vb (f (3*i+k))) (j:=k) (ty rfl) rfl (ty rfl) rfl rfl rfl (by omega) (cellV_part f i hltk)) (dc rfl) ?_|refine ar_q (qs_shl rfl rfl (by omega) (shlOne (by omega))) (dc rfl) ?_|refine ar_q (qs_or rfl rfl (orOne (by omega) (by omega))) (dc rfl) ?_|refine zst ?_|refine zco ?_ ?_|exact zd|(refine fun (hg:(_:Prop))=>?_;(try replace hg:=HG.out hg);(try dsimp only at hg);(try (have _h:True:=hg;clear _h hg)))))
   all_goals first
    | (exfalso;omega)
    | ((first|refine loop_next (by omega) ?_ ?_|refine (show _∧_∧SubOf _ _ _ _ _ _ from And.intro (by omega) (And.intro ?_ ?_)));(focus ((trivial);done));(focus ((refine sub_to [] [] rfl ?_ ?_<;>(repeat' (first|exact trivial|refine ⟨⟨_,rfl,?_⟩,?_⟩|refine vs1 ?_ ?_|refine vs2 ?_ ?_|refine vs3 ?_|refine vs4 ?_ ?_|refine ⟨.inl ⟨_,_,rfl,rfl,?_⟩,?_⟩|exact ⟨.inr ⟨rfl,rfl⟩,trivial⟩|refine ⟨.inr ⟨rfl,rfl⟩,?_⟩|(intro _ _)|exact vz1|(first|exact siEq (by omega)|exact siEq (by rw [← Nat.add_assoc];simp only [numTo];rw [if_pos (by assumption)];omega)|exact siEq (by rw [← Nat.add_assoc];simp only [numTo];rw [if_neg (by simp_all)];omega))|exact vz2|fail)));done)))
    | trace_state
  ·obtain rfl:k=3:=by omega
   (repeat' (first|(refine ar_isq ?_;refine zq ?_)|refine zst ?_|refine zco ?_ ?_|exact zd|(refine fun (hg:(_:Prop))=>?_;(try replace hg:=HG.out hg);(try dsimp only at hg);(try (have _h:True:=hg;clear _h hg)))))
   all_goals first
    | (exfalso;omega)
    | ((first|refine loop_next (by omega) ?_ ?_|refine (show _∧_∧SubOf _ _ _ _ _ _ from And.intro (by omega) (And.intro ?_ ?_)));(focus ((trivial);done));(focus (exact zsb [] [])))
    | trace_state
 ·obtain rfl:i=5:=by omega
  (repeat' (first|(refine ar_isq ?_;refine zq ?_)|refine zst ?_|refine zco ?_ ?_|exact zd|(refine fun (hg:(_:Prop))=>?_;(try replace hg:=HG.out hg);(try dsimp only at hg);(try (have _h:True:=hg;clear _h hg)))))
  all_goals first
   | (exfalso;omega)
   | ((refine aw_ret ?_;(repeat (first|refine ret_then ?_|refine ret_block ?_));refine bq1 rfl ⟨?_,rfl⟩);rfl)
   | trace_state
end Go.Proofs.YtbilpbabdgfblaaGreat
