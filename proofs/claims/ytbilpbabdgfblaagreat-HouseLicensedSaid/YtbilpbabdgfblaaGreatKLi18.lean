/- Parts of the proof: contracts of functions. No condition. -/
import Derived.Test.YtbilpbabdgfblaaGreatKLi17
set_option maxHeartbeats 16000000
set_option linter.unusedSimpArgs false
set_option linter.unusedVariables false
namespace Go.Proofs.YtbilpbabdgfblaaGreat
open Go.RowKit
theorem app_at {H:Heap}{b:Blk}:(H++[b])[H.length]?=some b:=by simp
theorem app_set {H:Heap}{b c:Blk}:(H++[b]).set H.length c=H++[c]:=by simp
theorem app_lt {H L:Heap}{k:Nat}{b:Blk}(h:H[k]?=some b):(H++L)[k]?=some b:=by
  rw [List.getElem?_append_left (List.getElem?_eq_some_iff.1 h).1];exact h
theorem app_setlt {H:Heap}{b c y:Blk}{k:Nat}(h:H[k]?=some y):(H++[b]).set k c=H.set k c++[b]:=List.set_append_left _ _ (List.getElem?_eq_some_iff.1 h).1
namespace Pn
theorem hdo1_ret (H:Heap) (p:V):DCalls Tryz.prog 84 [p] H none (fun H'=>∃ L,H'=H++L):=by
  refine dcalls_of_aw2 #[] Tryz.func84 rfl (dc rfl) (dc rfl) (dc rfl) rfl (fun v h=>by cases h) ?_
  show AW _ true _ _ _ _ _ _ ((1,.s .nilIface)::_) _
  (repeat' (first|refine zq ?_|((refine aw_region2 ?_))|refine ar_q (qs_assertN (ty rfl) rfl rfl) (dc rfl) ?_|refine ar_q (qs_nilIsNot (ty rfl) rfl rfl) (dc rfl) ?_|((refine ar_store_var (ty rfl) rfl rfl app_at rfl rfl rfl (dc rfl) (.inl ⟨_,rfl⟩) ?_;rw [app_set]))|((refine ar_isq ?_;refine is_load ?_;refine zlp (hH:=app_at) ?_))|refine zal ?_|refine zsvs ?_|refine zsva ?_|refine zses ?_|refine zsea ?_|refine ar_nil ?_|refine aw_seq ?_|refine aw_skip ?_|refine aw_block ?_|refine aw_exit ?_|refine aw_region ?_|refine zco ?_ ?_|exact zd|(refine fun (hg:(_:Prop))=>?_;(try replace hg:=HG.out hg);(try dsimp only at hg);(try (have _h:True:=hg;clear _h hg)))))
  all_goals exact (⟨_,rfl⟩:∃ L,H++_=H++L)
theorem hdo1_pan (H:Heap) (k:Nat) (e z:Int) (hH:H[k]?=some (.arr 1 1 (fun _=>vi z))):DCalls Tryz.prog 84 [.ptr 1 k 0 0] H (some (refV e)) (fun H'=>∃ L,H'=H.set k (.arr 1 1 (fun _=>vi e))++L):=by
  refine dcalls_of_aw2 #[] Tryz.func84 rfl (dc rfl) (dc rfl) (dc rfl) rfl (fun v h=>by cases h;exact ⟨_,_,rfl⟩) ?_
  show AW _ true _ _ _ _ _ _ ((1,refV e)::_) _
  (repeat' (first|refine zq ?_|((refine aw_region2 ?_))|refine ar_q (qs_assertS (ty rfl) rfl rfl) (dc rfl) ?_|((refine ar_store_var (ty rfl) rfl rfl app_at rfl rfl rfl (dc rfl) (.inl ⟨_,rfl⟩) ?_;rw [app_set]))|((refine ar_isq ?_;refine is_load ?_;refine zlp (hH:=app_at) ?_))|refine ar_store_var (ty rfl) rfl rfl (app_lt hH) rfl rfl rfl (dc rfl) (.inr ⟨rfl,rfl,rfl,fun _ h=>by cases h⟩) ?_|refine zal ?_|refine zsvs ?_|refine zsva ?_|refine zses ?_|refine zsea ?_|refine ar_nil ?_|refine aw_seq ?_|refine aw_skip ?_|refine aw_block ?_|refine aw_exit ?_|refine aw_region ?_|refine zco ?_ ?_|exact zd|(refine fun (hg:(_:Prop))=>?_;(try replace hg:=HG.out hg);(try dsimp only at hg);(try (have _h:True:=hg;clear _h hg)))))
  all_goals exact (⟨[_],app_setlt hH⟩:∃ L,List.set (H++[_]) k (.arr 1 1 fun _=>vi e)=List.set H k (.arr 1 1 fun _=>vi e)++L)
end Pn
def doersHL:List V:=[.s .nilFunc,.fn (.func 128) [] [],.fn (.func 129) [] [],.fn (.func 130) [] [],.fn (.func 131) [] [],.fn (.func 132) [] [],.fn (.func 133) [] [],.fn (.func 134) [] [],.fn (.func 135) [] []]
def doersHV:V:=.agg doersHL
theorem hdoers_p:PCalls Tryz.prog 85 [] (·=doersHV):=by
  refine pcalls_of_aw Tryz.func85 rfl (dc rfl) ?_
  (repeat' (first|(refine zbt ?_)|refine ar_q (qs_build_arr (ds:=doersHL) (ty rfl) rfl (ty rfl) rfl rfl (build rfl)) (dc rfl) ?_|refine zst ?_|refine zco ?_ ?_|exact zd|(refine fun (hg:(_:Prop))=>?_;(try replace hg:=HG.out hg);(try dsimp only at hg);(try (have _h:True:=hg;clear _h hg)))))
  refine aw_ret (bq1c (ty rfl) rfl rfl Nat.one_pos rfl ⟨rfl,rfl⟩)
def DoHR (h:Hse) (j:Job) (v:V) (H:Heap):Prop:=(jobE h j=0∧v=vi 0∧∃ m',TalOk (jobF h j) m'∧H=shoX (jobF h j) m')∨(jobE h j≠0∧v=vi (jobE h j)∧H=List.replicate 9 .dead)
theorem htry_ret {H:Heap}{e:Int}{R:V→Heap→Prop}(hH:H[10]?=some (.arr 1 1 (fun _=>vi e))) (hR:∀ L,R (vi e) (H++L)):DCalls Tryz.prog 84 [.ptr 1 10 0 0] H none fun H'=>∃ v,ResV Tryz.prog [(4,.ptr 1 10 0 0)] H' Tryz.f44.results v∧R v H' :=
  (Pn.hdo1_ret H _).mono fun _ h=>by obtain ⟨L,rfl⟩:=h;exact ⟨vi e,.inl ⟨_,rfl,⟨_,1,10,0,0,1,_,ty rfl,rfl,app_lt hH,Nat.one_pos,rfl⟩⟩,hR L⟩
theorem htry_pan {H:Heap}{e:Int}{R:V→Heap→Prop}(hH:H[10]?=some (.arr 1 1 (fun _=>vi 0))) (hR:∀ L,R (vi e) (H.set 10 (.arr 1 1 (fun _=>vi e))++L)):DCalls Tryz.prog 84 [.ptr 1 10 0 0] H (some (refV e)) fun H'=>∃ v,ResV Tryz.prog [(4,.ptr 1 10 0 0)] H' Tryz.f44.results v∧R v H' :=
  (Pn.hdo1_pan H 10 e 0 hH).mono fun H' h=>by obtain ⟨L,rfl⟩:=h;exact ⟨vi e,.inl ⟨_,rfl,⟨_,1,10,0,0,1,_,ty rfl,rfl,app_lt (set_get hH),Nat.one_pos,rfl⟩⟩,hR L⟩
theorem sub_dead9 {H:Heap}{e:Int}(h:9≤H.length):SubOf 9 1 [(0,vi e)] H [(0,vi e)] (List.replicate 9 .dead):=by
  match H,h with
  | a::b::c::d::e'::f::g::i::k::L,_ =>
    show SubOf 9 1 _ _ _ [.dead,.dead,.dead,.dead,.dead,.dead,.dead,.dead,.dead]
    (exact zsc [some 0,some 1,some 2,some 3,some 4,some 5,some 6,some 7,some 8] [])
section
variable {X4 X5 X6:Blk}{h h':Hse}{m m':List (Int × Tal)}{j:Job}
def shoE (h':Hse) (m':List (Int × Tal)) (X4 X5 X6:Blk):Heap:=[.arr 11 1 (fun _=>shoV 12 13 14 15 16 17 18 8 h'),.dead,.dead,.dead,.dead,.dead,.dead,.dead,mapE Tal.enc m',X4,X5,X6,LB 5 Itm.enc h'.store.items,LB 2 Prt.enc h'.store.prints,LB 7 Dsn.enc h'.designs,LB 4 Lic.enc h'.lics,LB 4 Ordr.enc h'.orders,LB 1 vi h'.made,LB 1 vi h'.fors]
theorem join_shoX {a0 a1 a2 a3 a4 a5 a6 a7 a8:Blk}:joinH [0,1,2,3,4,5,6,7,8] [] [a0,a1,a2,a3,a4,a5,a6,a7,a8,X4,X5,X6] (shoX h' m')=shoE h' m' X4 X5 X6:=by
  unfold shoX shoE
  rw [join9]
  have e2:(mapE Tal.enc m').ren (rn [0,1,2,3,4,5,6,7,8] ([X4,X5,X6].length+9))=mapE Tal.enc m':=mapE_renE fun _=>rfl
  simp only [List.map_cons,List.map_nil,e2]
  rfl
theorem end_shoX {L:Heap}:SubOf 9 1 [(0,vi 0)] (shoE h' m' X4 X5 X6++L) [(0,vi 0)] (shoX h' m'):=by
  unfold shoE shoX
  (exact zsl [some 0,some 1,some 2,some 3,some 4,some 5,some 6,some 7,some 8,some 12,some 13,some 14,some 15,some 16,some 17,some 18] [])
theorem hdo_end (ht:TalOk (jobF h j) m') (hE:jobE h j=0) {H:Heap}(hH:H=shoE (jobF h j) m' X4 (.arr 1 1 (fun _=>vi 0)) X6) :
    DCalls Tryz.prog 84 [.ptr 1 10 0 0] H none fun H'=>∃ v,ResV Tryz.prog [(4,.ptr 1 10 0 0)] H' Tryz.f44.results v∧∃ v' H'',SubOf 9 1 [(0,v)] H' [(0,v')] H''∧DoHR h j v' H'':=by
  subst hH
  exact htry_ret rfl fun L=>⟨vi 0,_,end_shoX,.inl ⟨hE,rfl,m',ht,rfl⟩⟩
theorem hdo_bad {H:Heap}{E:Int}(h5:H[10]?=some (.arr 1 1 (fun _=>vi 0))) (h0:E≠0) (hE:jobE h j=E) :
    DCalls Tryz.prog 84 [.ptr 1 10 0 0] H (some (refV E)) fun H'=>∃ v,ResV Tryz.prog [(4,.ptr 1 10 0 0)] H' Tryz.f44.results v∧∃ v' H'',SubOf 9 1 [(0,v)] H' [(0,v')] H''∧DoHR h j v' H'' :=
  htry_pan h5 fun L=>⟨vi E,_,sub_dead9 (by rw [List.length_append,List.length_set];have:=(List.getElem?_eq_some_iff.1 h5).1;omega),.inr ⟨by rw [hE];exact h0,by rw [hE],rfl⟩⟩
end
section
variable {r:Option Nat}{mm nt i d:Nat}{Q:Post}{env:Env}{ops:Array Oper}{L:List Stp}{ty:TypeId}{pos:String}{after:Array Edge}{ats:Array TypeId}{x y z:Operand}
theorem ar_deed {h h':Hse}{m:List (Int × Tal)}{X4 X5 X6:Blk}{A:V}{f:FuncId}{E:Int}(hfn:FnOk Tryz.prog f) (hc:ACalls Tryz.prog f [.ptr 11 0 0 0,A] (shoB h m) (DeedR h' E) (DeedP E)) (hA:A.closed=true)
    (h1:E=0→∀ m',TalOk h' m'→AR Tryz.prog r mm nt ops Q L ((d,.tup [])::env) (shoE h' m' X4 X5 X6))
    (h2:E≠0→∀ H1,Q (.panic (refV E)) [] (joinH [0,1,2,3,4,5,6,7,8] [] [.arr 11 1 (fun _=>shoV 1 2 3 4 5 6 7 8 h),LB 5 Itm.enc h.store.items,LB 2 Prt.enc h.store.prints,LB 7 Dsn.enc h.designs,LB 4 Lic.enc h.lics,LB 4 Ordr.enc h.orders,LB 1 vi h.made,LB 1 vi h.fors,mapE Tal.enc m,X4,X5,X6] H1))
    (hz:eo env z=some (.fn (.func f) [] []):=by exact rfl) (hx:eo env x=some (.ptr 11 0 0 0):=by exact rfl) (hy:eo env y=some A:=by exact rfl) (hd:d<nt:=by exact dc rfl) :
    AR Tryz.prog r mm nt ops Q (.l i ⟨some d,.call ⟨.value z,#[x,y],ats⟩,ty,pos,after,none⟩ false::L) env [.arr 11 1 (fun _=>shoV 1 2 3 4 5 6 7 8 h),LB 5 Itm.enc h.store.items,LB 2 Prt.enc h.store.prints,LB 7 Dsn.enc h.designs,LB 4 Lic.enc h.lics,LB 4 Ordr.enc h.orders,LB 1 vi h.made,LB 1 vi h.fors,mapE Tal.enc m,X4,X5,X6]:=by
  refine ar_gcall (H0:=shoB h m) [0,1,2,3,4,5,6,7,8] [] (args:=[x,y]) (vs:=[.ptr 11 0 0 0,A]) (first:=[]) (cap:=[]) hfn hz (by rw [List.mapM_cons,List.mapM_cons,List.mapM_nil,hx,hy];rfl) (xs:=[.ptr 11 0 0 0,A]) ⟨.ptr rfl,.closed hA,trivial⟩ rfl (by decide) (fun _ h=>by cases h) (show ShoAt _ 0 1 2 3 4 5 6 7 8 h m from {}).hsub shoB_live hc hd ?_ ?_
  · rintro _ _ ⟨hh,rfl,m',ht,rfl⟩
    rw [join_shoX]
    exact h1 hh m' ht
  · rintro _ _ ⟨hh,rfl⟩
    exact h2 hh _
end
section
variable {r:Option Nat}{m nt i d:Nat}{Q:Post}{env:Env}{H:Heap}{ops:Array Oper}{L:List Stp}{ty:TypeId}{pos:String}{after:Array Edge}{ats:Array TypeId}{x y z:Operand}
theorem ar_mustL {b:Bool}{e:Int}(h1:b=true→AR Tryz.prog r m nt ops Q L ((d,.tup [])::env) H) (h2:b=false→∀ L',Q (.panic (refV e)) [] (H++L')) (hx:eo env x=some (.s (.bool b)):=by exact rfl) (hy:eo env y=some (.s (.int .i64 e)):=by exact rfl) (hd:d<nt:=by exact dc rfl) :
    AR Tryz.prog r m nt ops Q (.l i ⟨some d,.call ⟨.value (.func 86),#[x,y],ats⟩,ty,pos,after,none⟩ false::L) env H:=by
  refine ar_gcall0 (args:=[x,y]) (vs:=[vb b,vi e]) (first:=[]) (cap:=[]) fn86 rfl (by rw [List.mapM_cons,List.mapM_cons,List.mapM_nil,hx,hy];rfl) [vb b,vi e] ⟨.closed rfl,.closed rfl,trivial⟩ (must_p b e) hd ?_ ?_
  · rintro _ _ ⟨hb,rfl,rfl⟩
    have:H++List.map (Blk.ren (rn [] H.length)) []=H:=by simp
    rw [this]
    exact h1 hb
  · rintro _ _ ⟨hb,rfl⟩
    exact h2 hb _
end
namespace Pn
variable (h:Hse) (m:List (Int × Tal)) (j:Job)
theorem hdo1_p (hk:j.kind=1) (hua:u8ok j.act.kind) (hV:HValid h) (ht:TalOk h m):ACalls Tryz.prog 44 [.ptr 11 0 0 0,j.enc] (shoB h m) (DoHR h j) NoP:=by
  have hE:jobE h j=archE h j:=by unfold jobE;rw [hk];rfl
  have hF:jobF h j=archF h j:=by unfold jobF;rw [hk];rfl
  have hc:=archive_p h m j hV ht
  rw [← hE,← hF] at hc
  refine acalls_sub (R:=fun v H'=>∃ v' H'',SubOf 9 1 [(0,v)] H' [(0,v')] H''∧DoHR h j v' H'') (Rp:=NoP) ?_ (fun _ _ h=>h) (fun _ _ h=>h.elim)
  refine acalls_of_try Tryz.func44 rfl Tryz.func84 rfl (by kernel_rfl) (dc rfl) (dc rfl) (by decide) ?_
  have ha:j.enc=.agg [vu8 1,vi j.client,vi j.design,vi j.order,vi j.n,vi j.til,vu8 j.act.kind,vi j.act.item,vi j.act.dest,vi j.act.n,vi j.sheet.cols,vi j.sheet.rows,vi j.sheet.weight,vi j.sheet.clear,vi j.sheet.lean,encRows j.band]:=by unfold Job.enc;rw [hk]
  rw [ha] at hc ⊢
  refine Go.Proofs.YtbilpbabdgfblaaGreat.aw_region ?_
  (repeat' (first|refine zq ?_|(refine zxl ?_;intro _ _ _)|(refine zxs ?_;intro _ _ _)|refine zbx ?_|refine zal ?_|refine zsvs ?_|refine zsva ?_|refine zses ?_|refine zsea ?_|refine zg ?_ ?_|refine zgu ?_|refine ar_nil ?_|refine aw_seq ?_|refine aw_skip ?_|refine aw_block ?_|refine aw_exit ?_|refine aw_region ?_|refine aw_drawn (id:=4) [(0,0),(1,0),(2,0),(3,0),(4,0),(5,0),(6,1)] mixed (by kernel_rfl) ?_|refine aw_drawn (id:=4) [(0,0),(1,0),(2,0),(3,0),(4,0),(5,0),(6,2)] mixed (by kernel_rfl) ?_|refine zco ?_ ?_|exact zd|(refine fun (hg:(_:Prop))=>?_;(try replace hg:=HG.out hg);(try dsimp only at hg);(try (have _h:True:=hg;clear _h hg)))))
  refine ⟨1,10,0,0,rfl,?_⟩
  refine aw_sub (m:=11) (env':=[(0,.ptr 11 0 0 0),(3,.ptr 16 9 0 0),(4,.ptr 1 10 0 0)]) (H':=[.arr 11 1 (fun _=>shoV 1 2 3 4 5 6 7 8 h),LB 5 Itm.enc h.store.items,LB 2 Prt.enc h.store.prints,LB 7 Dsn.enc h.designs,LB 4 Lic.enc h.lics,LB 4 Ordr.enc h.orders,LB 1 vi h.made,LB 1 vi h.fors,mapE Tal.enc m,.arr 16 1 (fun _=>.agg [vu8 1,vi j.client,vi j.design,vi j.order,vi j.n,vi j.til,vu8 j.act.kind,vi j.act.item,vi j.act.dest,vi j.act.n,vi j.sheet.cols,vi j.sheet.rows,vi j.sheet.weight,vi j.sheet.clear,vi j.sheet.lean,encRows j.band]),.arr 1 1 (fun _=>vi 0)]) ?_ ?_
  · (exact zsc [some 0,some 1,some 2,some 3,some 4,some 5,some 6,some 7,some 8,some 9,some 10] [])
  (repeat' (first|refine zq ?_|(refine zxl ?_;intro _ _ _)|(refine zxs ?_;intro _ _ _)|(refine zpv fn85 (hdoers_p) ?_)|refine ar_q (qs_funcIsNot (ty rfl) rfl rfl) (dc rfl) ?_|refine ar_q (qs_iaddr_aptr (j:=1) (ty rfl) rfl (ty rfl) rfl rfl rfl (dc rfl)) (dc rfl) ?_|((refine ar_must ?_ ?_<;>intro hrf<;>first|exact absurd hrf (by decide)|((try replace hrf:=HG.out hrf);(try dsimp only at hrf);(try rw [fromB_one] at hrf);(try rw [withinB_iff] at hrf);(try rw [withinB_no] at hrf);(try rw [inD_iff] at hrf);(try rw [inO_iff] at hrf))))|((refine ar_deed fn128 hc rfl ?_ ?_<;>intro hrf))|refine zbx ?_|refine zal ?_|refine zsvs ?_|refine zsva ?_|refine zses ?_|refine zsea ?_|refine zg ?_ ?_|refine zgu ?_|refine ar_nil ?_|refine aw_seq ?_|refine aw_skip ?_|refine aw_block ?_|refine aw_exit ?_|refine aw_region ?_|refine aw_drawn (id:=4) [(0,0),(1,0),(2,0),(3,0),(4,0),(5,0),(6,2)] mixed (by kernel_rfl) ?_|refine aw_drawn (id:=4) [(0,0),(1,0),(2,0),(3,0),(4,0),(5,0),(6,1)] mixed (by kernel_rfl) ?_|refine zco ?_ ?_|exact zd|(refine fun (hg:(_:Prop))=>?_;(try replace hg:=HG.out hg);(try dsimp only at hg);(try (have _h:True:=hg;clear _h hg)))))
  · intro m' hm'
    unfold shoE
    (repeat' (first|refine zq ?_|(refine zxl ?_;intro _ _ _)|(refine zxs ?_;intro _ _ _)|refine zbx ?_|refine zal ?_|refine zsvs ?_|refine zsva ?_|refine zses ?_|refine zsea ?_|refine zg ?_ ?_|refine zgu ?_|refine ar_nil ?_|refine aw_seq ?_|refine aw_skip ?_|refine aw_block ?_|refine aw_exit ?_|refine aw_region ?_|refine aw_drawn (id:=4) [(0,0),(1,0),(2,0),(3,0),(4,0),(5,0),(6,1)] mixed (by kernel_rfl) ?_|refine aw_drawn (id:=4) [(0,0),(1,0),(2,0),(3,0),(4,0),(5,0),(6,2)] mixed (by kernel_rfl) ?_|refine zco ?_ ?_|exact zd|(refine fun (hg:(_:Prop))=>?_;(try replace hg:=HG.out hg);(try dsimp only at hg);(try (have _h:True:=hg;clear _h hg)))))
    exact aw_ret (hdo_end hm' hrf rfl)
  · intro H1
    exact hdo_bad (join_out rfl rfl rfl) hrf rfl
theorem hdo2_p (hk:j.kind=2) (hua:u8ok j.act.kind) (hV:HValid h) (ht:TalOk h m):ACalls Tryz.prog 44 [.ptr 11 0 0 0,j.enc] (shoB h m) (DoHR h j) NoP:=by
  have hE:jobE h j=licnE h j:=by unfold jobE;rw [hk];rfl
  have hF:jobF h j=licnF h j:=by unfold jobF;rw [hk];rfl
  have hc:=license_p h m j hV ht
  rw [← hE,← hF] at hc
  refine acalls_sub (R:=fun v H'=>∃ v' H'',SubOf 9 1 [(0,v)] H' [(0,v')] H''∧DoHR h j v' H'') (Rp:=NoP) ?_ (fun _ _ h=>h) (fun _ _ h=>h.elim)
  refine acalls_of_try Tryz.func44 rfl Tryz.func84 rfl (by kernel_rfl) (dc rfl) (dc rfl) (by decide) ?_
  have ha:j.enc=.agg [vu8 2,vi j.client,vi j.design,vi j.order,vi j.n,vi j.til,vu8 j.act.kind,vi j.act.item,vi j.act.dest,vi j.act.n,vi j.sheet.cols,vi j.sheet.rows,vi j.sheet.weight,vi j.sheet.clear,vi j.sheet.lean,encRows j.band]:=by unfold Job.enc;rw [hk]
  rw [ha] at hc ⊢
  refine Go.Proofs.YtbilpbabdgfblaaGreat.aw_region ?_
  (repeat' (first|refine zq ?_|(refine zxl ?_;intro _ _ _)|(refine zxs ?_;intro _ _ _)|refine zbx ?_|refine zal ?_|refine zsvs ?_|refine zsva ?_|refine zses ?_|refine zsea ?_|refine zg ?_ ?_|refine zgu ?_|refine ar_nil ?_|refine aw_seq ?_|refine aw_skip ?_|refine aw_block ?_|refine aw_exit ?_|refine aw_region ?_|refine aw_drawn (id:=4) [(0,0),(1,0),(2,0),(3,0),(4,0),(5,0),(6,1)] mixed (by kernel_rfl) ?_|refine aw_drawn (id:=4) [(0,0),(1,0),(2,0),(3,0),(4,0),(5,0),(6,2)] mixed (by kernel_rfl) ?_|refine zco ?_ ?_|exact zd|(refine fun (hg:(_:Prop))=>?_;(try replace hg:=HG.out hg);(try dsimp only at hg);(try (have _h:True:=hg;clear _h hg)))))
  refine ⟨1,10,0,0,rfl,?_⟩
  refine aw_sub (m:=11) (env':=[(0,.ptr 11 0 0 0),(3,.ptr 16 9 0 0),(4,.ptr 1 10 0 0)]) (H':=[.arr 11 1 (fun _=>shoV 1 2 3 4 5 6 7 8 h),LB 5 Itm.enc h.store.items,LB 2 Prt.enc h.store.prints,LB 7 Dsn.enc h.designs,LB 4 Lic.enc h.lics,LB 4 Ordr.enc h.orders,LB 1 vi h.made,LB 1 vi h.fors,mapE Tal.enc m,.arr 16 1 (fun _=>.agg [vu8 2,vi j.client,vi j.design,vi j.order,vi j.n,vi j.til,vu8 j.act.kind,vi j.act.item,vi j.act.dest,vi j.act.n,vi j.sheet.cols,vi j.sheet.rows,vi j.sheet.weight,vi j.sheet.clear,vi j.sheet.lean,encRows j.band]),.arr 1 1 (fun _=>vi 0)]) ?_ ?_
  · (exact zsc [some 0,some 1,some 2,some 3,some 4,some 5,some 6,some 7,some 8,some 9,some 10] [])
  (repeat' (first|refine zq ?_|(refine zxl ?_;intro _ _ _)|(refine zxs ?_;intro _ _ _)|(refine zpv fn85 (hdoers_p) ?_)|refine ar_q (qs_funcIsNot (ty rfl) rfl rfl) (dc rfl) ?_|refine ar_q (qs_iaddr_aptr (j:=2) (ty rfl) rfl (ty rfl) rfl rfl rfl (dc rfl)) (dc rfl) ?_|((refine ar_must ?_ ?_<;>intro hrf<;>first|exact absurd hrf (by decide)|((try replace hrf:=HG.out hrf);(try dsimp only at hrf);(try rw [fromB_one] at hrf);(try rw [withinB_iff] at hrf);(try rw [withinB_no] at hrf);(try rw [inD_iff] at hrf);(try rw [inO_iff] at hrf))))|((refine ar_deed fn129 hc rfl ?_ ?_<;>intro hrf))|refine zbx ?_|refine zal ?_|refine zsvs ?_|refine zsva ?_|refine zses ?_|refine zsea ?_|refine zg ?_ ?_|refine zgu ?_|refine ar_nil ?_|refine aw_seq ?_|refine aw_skip ?_|refine aw_block ?_|refine aw_exit ?_|refine aw_region ?_|refine aw_drawn (id:=4) [(0,0),(1,0),(2,0),(3,0),(4,0),(5,0),(6,2)] mixed (by kernel_rfl) ?_|refine aw_drawn (id:=4) [(0,0),(1,0),(2,0),(3,0),(4,0),(5,0),(6,1)] mixed (by kernel_rfl) ?_|refine zco ?_ ?_|exact zd|(refine fun (hg:(_:Prop))=>?_;(try replace hg:=HG.out hg);(try dsimp only at hg);(try (have _h:True:=hg;clear _h hg)))))
  · intro m' hm'
    unfold shoE
    (repeat' (first|refine zq ?_|(refine zxl ?_;intro _ _ _)|(refine zxs ?_;intro _ _ _)|refine zbx ?_|refine zal ?_|refine zsvs ?_|refine zsva ?_|refine zses ?_|refine zsea ?_|refine zg ?_ ?_|refine zgu ?_|refine ar_nil ?_|refine aw_seq ?_|refine aw_skip ?_|refine aw_block ?_|refine aw_exit ?_|refine aw_region ?_|refine aw_drawn (id:=4) [(0,0),(1,0),(2,0),(3,0),(4,0),(5,0),(6,1)] mixed (by kernel_rfl) ?_|refine aw_drawn (id:=4) [(0,0),(1,0),(2,0),(3,0),(4,0),(5,0),(6,2)] mixed (by kernel_rfl) ?_|refine zco ?_ ?_|exact zd|(refine fun (hg:(_:Prop))=>?_;(try replace hg:=HG.out hg);(try dsimp only at hg);(try (have _h:True:=hg;clear _h hg)))))
    exact aw_ret (hdo_end hm' hrf rfl)
  · intro H1
    exact hdo_bad (join_out rfl rfl rfl) hrf rfl
theorem hdo3_p (hk:j.kind=3) (hua:u8ok j.act.kind) (hV:HValid h) (ht:TalOk h m):ACalls Tryz.prog 44 [.ptr 11 0 0 0,j.enc] (shoB h m) (DoHR h j) NoP:=by
  have hE:jobE h j=takeE h j:=by unfold jobE;rw [hk];rfl
  have hF:jobF h j=takeF h j:=by unfold jobF;rw [hk];rfl
  have hc:=take_p h m j hV ht
  rw [← hE,← hF] at hc
  refine acalls_sub (R:=fun v H'=>∃ v' H'',SubOf 9 1 [(0,v)] H' [(0,v')] H''∧DoHR h j v' H'') (Rp:=NoP) ?_ (fun _ _ h=>h) (fun _ _ h=>h.elim)
  refine acalls_of_try Tryz.func44 rfl Tryz.func84 rfl (by kernel_rfl) (dc rfl) (dc rfl) (by decide) ?_
  have ha:j.enc=.agg [vu8 3,vi j.client,vi j.design,vi j.order,vi j.n,vi j.til,vu8 j.act.kind,vi j.act.item,vi j.act.dest,vi j.act.n,vi j.sheet.cols,vi j.sheet.rows,vi j.sheet.weight,vi j.sheet.clear,vi j.sheet.lean,encRows j.band]:=by unfold Job.enc;rw [hk]
  rw [ha] at hc ⊢
  refine Go.Proofs.YtbilpbabdgfblaaGreat.aw_region ?_
  (repeat' (first|refine zq ?_|(refine zxl ?_;intro _ _ _)|(refine zxs ?_;intro _ _ _)|refine zbx ?_|refine zal ?_|refine zsvs ?_|refine zsva ?_|refine zses ?_|refine zsea ?_|refine zg ?_ ?_|refine zgu ?_|refine ar_nil ?_|refine aw_seq ?_|refine aw_skip ?_|refine aw_block ?_|refine aw_exit ?_|refine aw_region ?_|refine aw_drawn (id:=4) [(0,0),(1,0),(2,0),(3,0),(4,0),(5,0),(6,1)] mixed (by kernel_rfl) ?_|refine aw_drawn (id:=4) [(0,0),(1,0),(2,0),(3,0),(4,0),(5,0),(6,2)] mixed (by kernel_rfl) ?_|refine zco ?_ ?_|exact zd|(refine fun (hg:(_:Prop))=>?_;(try replace hg:=HG.out hg);(try dsimp only at hg);(try (have _h:True:=hg;clear _h hg)))))
  refine ⟨1,10,0,0,rfl,?_⟩
  refine aw_sub (m:=11) (env':=[(0,.ptr 11 0 0 0),(3,.ptr 16 9 0 0),(4,.ptr 1 10 0 0)]) (H':=[.arr 11 1 (fun _=>shoV 1 2 3 4 5 6 7 8 h),LB 5 Itm.enc h.store.items,LB 2 Prt.enc h.store.prints,LB 7 Dsn.enc h.designs,LB 4 Lic.enc h.lics,LB 4 Ordr.enc h.orders,LB 1 vi h.made,LB 1 vi h.fors,mapE Tal.enc m,.arr 16 1 (fun _=>.agg [vu8 3,vi j.client,vi j.design,vi j.order,vi j.n,vi j.til,vu8 j.act.kind,vi j.act.item,vi j.act.dest,vi j.act.n,vi j.sheet.cols,vi j.sheet.rows,vi j.sheet.weight,vi j.sheet.clear,vi j.sheet.lean,encRows j.band]),.arr 1 1 (fun _=>vi 0)]) ?_ ?_
  · (exact zsc [some 0,some 1,some 2,some 3,some 4,some 5,some 6,some 7,some 8,some 9,some 10] [])
  (repeat' (first|refine zq ?_|(refine zxl ?_;intro _ _ _)|(refine zxs ?_;intro _ _ _)|(refine zpv fn85 (hdoers_p) ?_)|refine ar_q (qs_funcIsNot (ty rfl) rfl rfl) (dc rfl) ?_|refine ar_q (qs_iaddr_aptr (j:=3) (ty rfl) rfl (ty rfl) rfl rfl rfl (dc rfl)) (dc rfl) ?_|((refine ar_must ?_ ?_<;>intro hrf<;>first|exact absurd hrf (by decide)|((try replace hrf:=HG.out hrf);(try dsimp only at hrf);(try rw [fromB_one] at hrf);(try rw [withinB_iff] at hrf);(try rw [withinB_no] at hrf);(try rw [inD_iff] at hrf);(try rw [inO_iff] at hrf))))|((refine ar_deed fn130 hc rfl ?_ ?_<;>intro hrf))|refine zbx ?_|refine zal ?_|refine zsvs ?_|refine zsva ?_|refine zses ?_|refine zsea ?_|refine zg ?_ ?_|refine zgu ?_|refine ar_nil ?_|refine aw_seq ?_|refine aw_skip ?_|refine aw_block ?_|refine aw_exit ?_|refine aw_region ?_|refine aw_drawn (id:=4) [(0,0),(1,0),(2,0),(3,0),(4,0),(5,0),(6,2)] mixed (by kernel_rfl) ?_|refine aw_drawn (id:=4) [(0,0),(1,0),(2,0),(3,0),(4,0),(5,0),(6,1)] mixed (by kernel_rfl) ?_|refine zco ?_ ?_|exact zd|(refine fun (hg:(_:Prop))=>?_;(try replace hg:=HG.out hg);(try dsimp only at hg);(try (have _h:True:=hg;clear _h hg)))))
  · intro m' hm'
    unfold shoE
    (repeat' (first|refine zq ?_|(refine zxl ?_;intro _ _ _)|(refine zxs ?_;intro _ _ _)|refine zbx ?_|refine zal ?_|refine zsvs ?_|refine zsva ?_|refine zses ?_|refine zsea ?_|refine zg ?_ ?_|refine zgu ?_|refine ar_nil ?_|refine aw_seq ?_|refine aw_skip ?_|refine aw_block ?_|refine aw_exit ?_|refine aw_region ?_|refine aw_drawn (id:=4) [(0,0),(1,0),(2,0),(3,0),(4,0),(5,0),(6,1)] mixed (by kernel_rfl) ?_|refine aw_drawn (id:=4) [(0,0),(1,0),(2,0),(3,0),(4,0),(5,0),(6,2)] mixed (by kernel_rfl) ?_|refine zco ?_ ?_|exact zd|(refine fun (hg:(_:Prop))=>?_;(try replace hg:=HG.out hg);(try dsimp only at hg);(try (have _h:True:=hg;clear _h hg)))))
    exact aw_ret (hdo_end hm' hrf rfl)
  · intro H1
    exact hdo_bad (join_out rfl rfl rfl) hrf rfl
theorem hdo4_p (hk:j.kind=4) (hua:u8ok j.act.kind) (hV:HValid h) (ht:TalOk h m):ACalls Tryz.prog 44 [.ptr 11 0 0 0,j.enc] (shoB h m) (DoHR h j) NoP:=by
  have hE:jobE h j=engvE h j:=by unfold jobE;rw [hk];rfl
  have hF:jobF h j=engvF h j:=by unfold jobF;rw [hk];rfl
  have hc:=hengrave_p h m j hV ht
  rw [← hE,← hF] at hc
  refine acalls_sub (R:=fun v H'=>∃ v' H'',SubOf 9 1 [(0,v)] H' [(0,v')] H''∧DoHR h j v' H'') (Rp:=NoP) ?_ (fun _ _ h=>h) (fun _ _ h=>h.elim)
  refine acalls_of_try Tryz.func44 rfl Tryz.func84 rfl (by kernel_rfl) (dc rfl) (dc rfl) (by decide) ?_
  have ha:j.enc=.agg [vu8 4,vi j.client,vi j.design,vi j.order,vi j.n,vi j.til,vu8 j.act.kind,vi j.act.item,vi j.act.dest,vi j.act.n,vi j.sheet.cols,vi j.sheet.rows,vi j.sheet.weight,vi j.sheet.clear,vi j.sheet.lean,encRows j.band]:=by unfold Job.enc;rw [hk]
  rw [ha] at hc ⊢
  refine Go.Proofs.YtbilpbabdgfblaaGreat.aw_region ?_
  (repeat' (first|refine zq ?_|(refine zxl ?_;intro _ _ _)|(refine zxs ?_;intro _ _ _)|refine zbx ?_|refine zal ?_|refine zsvs ?_|refine zsva ?_|refine zses ?_|refine zsea ?_|refine zg ?_ ?_|refine zgu ?_|refine ar_nil ?_|refine aw_seq ?_|refine aw_skip ?_|refine aw_block ?_|refine aw_exit ?_|refine aw_region ?_|refine aw_drawn (id:=4) [(0,0),(1,0),(2,0),(3,0),(4,0),(5,0),(6,1)] mixed (by kernel_rfl) ?_|refine aw_drawn (id:=4) [(0,0),(1,0),(2,0),(3,0),(4,0),(5,0),(6,2)] mixed (by kernel_rfl) ?_|refine zco ?_ ?_|exact zd|(refine fun (hg:(_:Prop))=>?_;(try replace hg:=HG.out hg);(try dsimp only at hg);(try (have _h:True:=hg;clear _h hg)))))
  refine ⟨1,10,0,0,rfl,?_⟩
  refine aw_sub (m:=11) (env':=[(0,.ptr 11 0 0 0),(3,.ptr 16 9 0 0),(4,.ptr 1 10 0 0)]) (H':=[.arr 11 1 (fun _=>shoV 1 2 3 4 5 6 7 8 h),LB 5 Itm.enc h.store.items,LB 2 Prt.enc h.store.prints,LB 7 Dsn.enc h.designs,LB 4 Lic.enc h.lics,LB 4 Ordr.enc h.orders,LB 1 vi h.made,LB 1 vi h.fors,mapE Tal.enc m,.arr 16 1 (fun _=>.agg [vu8 4,vi j.client,vi j.design,vi j.order,vi j.n,vi j.til,vu8 j.act.kind,vi j.act.item,vi j.act.dest,vi j.act.n,vi j.sheet.cols,vi j.sheet.rows,vi j.sheet.weight,vi j.sheet.clear,vi j.sheet.lean,encRows j.band]),.arr 1 1 (fun _=>vi 0)]) ?_ ?_
  · (exact zsc [some 0,some 1,some 2,some 3,some 4,some 5,some 6,some 7,some 8,some 9,some 10] [])
  (repeat' (first|refine zq ?_|(refine zxl ?_;intro _ _ _)|(refine zxs ?_;intro _ _ _)|(refine zpv fn85 (hdoers_p) ?_)|refine ar_q (qs_funcIsNot (ty rfl) rfl rfl) (dc rfl) ?_|refine ar_q (qs_iaddr_aptr (j:=4) (ty rfl) rfl (ty rfl) rfl rfl rfl (dc rfl)) (dc rfl) ?_|((refine ar_must ?_ ?_<;>intro hrf<;>first|exact absurd hrf (by decide)|((try replace hrf:=HG.out hrf);(try dsimp only at hrf);(try rw [fromB_one] at hrf);(try rw [withinB_iff] at hrf);(try rw [withinB_no] at hrf);(try rw [inD_iff] at hrf);(try rw [inO_iff] at hrf))))|((refine ar_deed fn131 hc rfl ?_ ?_<;>intro hrf))|refine zbx ?_|refine zal ?_|refine zsvs ?_|refine zsva ?_|refine zses ?_|refine zsea ?_|refine zg ?_ ?_|refine zgu ?_|refine ar_nil ?_|refine aw_seq ?_|refine aw_skip ?_|refine aw_block ?_|refine aw_exit ?_|refine aw_region ?_|refine aw_drawn (id:=4) [(0,0),(1,0),(2,0),(3,0),(4,0),(5,0),(6,2)] mixed (by kernel_rfl) ?_|refine aw_drawn (id:=4) [(0,0),(1,0),(2,0),(3,0),(4,0),(5,0),(6,1)] mixed (by kernel_rfl) ?_|refine zco ?_ ?_|exact zd|(refine fun (hg:(_:Prop))=>?_;(try replace hg:=HG.out hg);(try dsimp only at hg);(try (have _h:True:=hg;clear _h hg)))))
  · intro m' hm'
    unfold shoE
    (repeat' (first|refine zq ?_|(refine zxl ?_;intro _ _ _)|(refine zxs ?_;intro _ _ _)|refine zbx ?_|refine zal ?_|refine zsvs ?_|refine zsva ?_|refine zses ?_|refine zsea ?_|refine zg ?_ ?_|refine zgu ?_|refine ar_nil ?_|refine aw_seq ?_|refine aw_skip ?_|refine aw_block ?_|refine aw_exit ?_|refine aw_region ?_|refine aw_drawn (id:=4) [(0,0),(1,0),(2,0),(3,0),(4,0),(5,0),(6,1)] mixed (by kernel_rfl) ?_|refine aw_drawn (id:=4) [(0,0),(1,0),(2,0),(3,0),(4,0),(5,0),(6,2)] mixed (by kernel_rfl) ?_|refine zco ?_ ?_|exact zd|(refine fun (hg:(_:Prop))=>?_;(try replace hg:=HG.out hg);(try dsimp only at hg);(try (have _h:True:=hg;clear _h hg)))))
    exact aw_ret (hdo_end hm' hrf rfl)
  · intro H1
    exact hdo_bad (join_out rfl rfl rfl) hrf rfl
theorem hdo5_p (hk:j.kind=5) (hua:u8ok j.act.kind) (hV:HValid h) (ht:TalOk h m):ACalls Tryz.prog 44 [.ptr 11 0 0 0,j.enc] (shoB h m) (DoHR h j) NoP:=by
  have hE:jobE h j=workE h j:=by unfold jobE;rw [hk];rfl
  have hF:jobF h j=workF h j:=by unfold jobF;rw [hk];rfl
  have hc:=work_p h m j hV ht hua
  rw [← hE,← hF] at hc
  refine acalls_sub (R:=fun v H'=>∃ v' H'',SubOf 9 1 [(0,v)] H' [(0,v')] H''∧DoHR h j v' H'') (Rp:=NoP) ?_ (fun _ _ h=>h) (fun _ _ h=>h.elim)
  refine acalls_of_try Tryz.func44 rfl Tryz.func84 rfl (by kernel_rfl) (dc rfl) (dc rfl) (by decide) ?_
  have ha:j.enc=.agg [vu8 5,vi j.client,vi j.design,vi j.order,vi j.n,vi j.til,vu8 j.act.kind,vi j.act.item,vi j.act.dest,vi j.act.n,vi j.sheet.cols,vi j.sheet.rows,vi j.sheet.weight,vi j.sheet.clear,vi j.sheet.lean,encRows j.band]:=by unfold Job.enc;rw [hk]
  rw [ha] at hc ⊢
  refine Go.Proofs.YtbilpbabdgfblaaGreat.aw_region ?_
  (repeat' (first|refine zq ?_|(refine zxl ?_;intro _ _ _)|(refine zxs ?_;intro _ _ _)|refine zbx ?_|refine zal ?_|refine zsvs ?_|refine zsva ?_|refine zses ?_|refine zsea ?_|refine zg ?_ ?_|refine zgu ?_|refine ar_nil ?_|refine aw_seq ?_|refine aw_skip ?_|refine aw_block ?_|refine aw_exit ?_|refine aw_region ?_|refine aw_drawn (id:=4) [(0,0),(1,0),(2,0),(3,0),(4,0),(5,0),(6,1)] mixed (by kernel_rfl) ?_|refine aw_drawn (id:=4) [(0,0),(1,0),(2,0),(3,0),(4,0),(5,0),(6,2)] mixed (by kernel_rfl) ?_|refine zco ?_ ?_|exact zd|(refine fun (hg:(_:Prop))=>?_;(try replace hg:=HG.out hg);(try dsimp only at hg);(try (have _h:True:=hg;clear _h hg)))))
  refine ⟨1,10,0,0,rfl,?_⟩
  refine aw_sub (m:=11) (env':=[(0,.ptr 11 0 0 0),(3,.ptr 16 9 0 0),(4,.ptr 1 10 0 0)]) (H':=[.arr 11 1 (fun _=>shoV 1 2 3 4 5 6 7 8 h),LB 5 Itm.enc h.store.items,LB 2 Prt.enc h.store.prints,LB 7 Dsn.enc h.designs,LB 4 Lic.enc h.lics,LB 4 Ordr.enc h.orders,LB 1 vi h.made,LB 1 vi h.fors,mapE Tal.enc m,.arr 16 1 (fun _=>.agg [vu8 5,vi j.client,vi j.design,vi j.order,vi j.n,vi j.til,vu8 j.act.kind,vi j.act.item,vi j.act.dest,vi j.act.n,vi j.sheet.cols,vi j.sheet.rows,vi j.sheet.weight,vi j.sheet.clear,vi j.sheet.lean,encRows j.band]),.arr 1 1 (fun _=>vi 0)]) ?_ ?_
  · (exact zsc [some 0,some 1,some 2,some 3,some 4,some 5,some 6,some 7,some 8,some 9,some 10] [])
  (repeat' (first|refine zq ?_|(refine zxl ?_;intro _ _ _)|(refine zxs ?_;intro _ _ _)|(refine zpv fn85 (hdoers_p) ?_)|refine ar_q (qs_funcIsNot (ty rfl) rfl rfl) (dc rfl) ?_|refine ar_q (qs_iaddr_aptr (j:=5) (ty rfl) rfl (ty rfl) rfl rfl rfl (dc rfl)) (dc rfl) ?_|((refine ar_must ?_ ?_<;>intro hrf<;>first|exact absurd hrf (by decide)|((try replace hrf:=HG.out hrf);(try dsimp only at hrf);(try rw [fromB_one] at hrf);(try rw [withinB_iff] at hrf);(try rw [withinB_no] at hrf);(try rw [inD_iff] at hrf);(try rw [inO_iff] at hrf))))|((refine ar_deed fn132 hc rfl ?_ ?_<;>intro hrf))|refine zbx ?_|refine zal ?_|refine zsvs ?_|refine zsva ?_|refine zses ?_|refine zsea ?_|refine zg ?_ ?_|refine zgu ?_|refine ar_nil ?_|refine aw_seq ?_|refine aw_skip ?_|refine aw_block ?_|refine aw_exit ?_|refine aw_region ?_|refine aw_drawn (id:=4) [(0,0),(1,0),(2,0),(3,0),(4,0),(5,0),(6,2)] mixed (by kernel_rfl) ?_|refine aw_drawn (id:=4) [(0,0),(1,0),(2,0),(3,0),(4,0),(5,0),(6,1)] mixed (by kernel_rfl) ?_|refine zco ?_ ?_|exact zd|(refine fun (hg:(_:Prop))=>?_;(try replace hg:=HG.out hg);(try dsimp only at hg);(try (have _h:True:=hg;clear _h hg)))))
  · intro m' hm'
    unfold shoE
    (repeat' (first|refine zq ?_|(refine zxl ?_;intro _ _ _)|(refine zxs ?_;intro _ _ _)|refine zbx ?_|refine zal ?_|refine zsvs ?_|refine zsva ?_|refine zses ?_|refine zsea ?_|refine zg ?_ ?_|refine zgu ?_|refine ar_nil ?_|refine aw_seq ?_|refine aw_skip ?_|refine aw_block ?_|refine aw_exit ?_|refine aw_region ?_|refine aw_drawn (id:=4) [(0,0),(1,0),(2,0),(3,0),(4,0),(5,0),(6,1)] mixed (by kernel_rfl) ?_|refine aw_drawn (id:=4) [(0,0),(1,0),(2,0),(3,0),(4,0),(5,0),(6,2)] mixed (by kernel_rfl) ?_|refine zco ?_ ?_|exact zd|(refine fun (hg:(_:Prop))=>?_;(try replace hg:=HG.out hg);(try dsimp only at hg);(try (have _h:True:=hg;clear _h hg)))))
    exact aw_ret (hdo_end hm' hrf rfl)
  · intro H1
    exact hdo_bad (join_out rfl rfl rfl) hrf rfl
theorem hdo6_p (hk:j.kind=6) (hua:u8ok j.act.kind) (hV:HValid h) (ht:TalOk h m):ACalls Tryz.prog 44 [.ptr 11 0 0 0,j.enc] (shoB h m) (DoHR h j) NoP:=by
  have hE:jobE h j=runE h j:=by unfold jobE;rw [hk];rfl
  have hF:jobF h j=runF h j:=by unfold jobF;rw [hk];rfl
  have hc:=hprint_p h m j hV ht
  rw [← hE,← hF] at hc
  refine acalls_sub (R:=fun v H'=>∃ v' H'',SubOf 9 1 [(0,v)] H' [(0,v')] H''∧DoHR h j v' H'') (Rp:=NoP) ?_ (fun _ _ h=>h) (fun _ _ h=>h.elim)
  refine acalls_of_try Tryz.func44 rfl Tryz.func84 rfl (by kernel_rfl) (dc rfl) (dc rfl) (by decide) ?_
  have ha:j.enc=.agg [vu8 6,vi j.client,vi j.design,vi j.order,vi j.n,vi j.til,vu8 j.act.kind,vi j.act.item,vi j.act.dest,vi j.act.n,vi j.sheet.cols,vi j.sheet.rows,vi j.sheet.weight,vi j.sheet.clear,vi j.sheet.lean,encRows j.band]:=by unfold Job.enc;rw [hk]
  rw [ha] at hc ⊢
  refine Go.Proofs.YtbilpbabdgfblaaGreat.aw_region ?_
  (repeat' (first|refine zq ?_|(refine zxl ?_;intro _ _ _)|(refine zxs ?_;intro _ _ _)|refine zbx ?_|refine zal ?_|refine zsvs ?_|refine zsva ?_|refine zses ?_|refine zsea ?_|refine zg ?_ ?_|refine zgu ?_|refine ar_nil ?_|refine aw_seq ?_|refine aw_skip ?_|refine aw_block ?_|refine aw_exit ?_|refine aw_region ?_|refine aw_drawn (id:=4) [(0,0),(1,0),(2,0),(3,0),(4,0),(5,0),(6,1)] mixed (by kernel_rfl) ?_|refine aw_drawn (id:=4) [(0,0),(1,0),(2,0),(3,0),(4,0),(5,0),(6,2)] mixed (by kernel_rfl) ?_|refine zco ?_ ?_|exact zd|(refine fun (hg:(_:Prop))=>?_;(try replace hg:=HG.out hg);(try dsimp only at hg);(try (have _h:True:=hg;clear _h hg)))))
  refine ⟨1,10,0,0,rfl,?_⟩
  refine aw_sub (m:=11) (env':=[(0,.ptr 11 0 0 0),(3,.ptr 16 9 0 0),(4,.ptr 1 10 0 0)]) (H':=[.arr 11 1 (fun _=>shoV 1 2 3 4 5 6 7 8 h),LB 5 Itm.enc h.store.items,LB 2 Prt.enc h.store.prints,LB 7 Dsn.enc h.designs,LB 4 Lic.enc h.lics,LB 4 Ordr.enc h.orders,LB 1 vi h.made,LB 1 vi h.fors,mapE Tal.enc m,.arr 16 1 (fun _=>.agg [vu8 6,vi j.client,vi j.design,vi j.order,vi j.n,vi j.til,vu8 j.act.kind,vi j.act.item,vi j.act.dest,vi j.act.n,vi j.sheet.cols,vi j.sheet.rows,vi j.sheet.weight,vi j.sheet.clear,vi j.sheet.lean,encRows j.band]),.arr 1 1 (fun _=>vi 0)]) ?_ ?_
  · (exact zsc [some 0,some 1,some 2,some 3,some 4,some 5,some 6,some 7,some 8,some 9,some 10] [])
  (repeat' (first|refine zq ?_|(refine zxl ?_;intro _ _ _)|(refine zxs ?_;intro _ _ _)|(refine zpv fn85 (hdoers_p) ?_)|refine ar_q (qs_funcIsNot (ty rfl) rfl rfl) (dc rfl) ?_|refine ar_q (qs_iaddr_aptr (j:=6) (ty rfl) rfl (ty rfl) rfl rfl rfl (dc rfl)) (dc rfl) ?_|((refine ar_must ?_ ?_<;>intro hrf<;>first|exact absurd hrf (by decide)|((try replace hrf:=HG.out hrf);(try dsimp only at hrf);(try rw [fromB_one] at hrf);(try rw [withinB_iff] at hrf);(try rw [withinB_no] at hrf);(try rw [inD_iff] at hrf);(try rw [inO_iff] at hrf))))|((refine ar_deed fn133 hc rfl ?_ ?_<;>intro hrf))|refine zbx ?_|refine zal ?_|refine zsvs ?_|refine zsva ?_|refine zses ?_|refine zsea ?_|refine zg ?_ ?_|refine zgu ?_|refine ar_nil ?_|refine aw_seq ?_|refine aw_skip ?_|refine aw_block ?_|refine aw_exit ?_|refine aw_region ?_|refine aw_drawn (id:=4) [(0,0),(1,0),(2,0),(3,0),(4,0),(5,0),(6,2)] mixed (by kernel_rfl) ?_|refine aw_drawn (id:=4) [(0,0),(1,0),(2,0),(3,0),(4,0),(5,0),(6,1)] mixed (by kernel_rfl) ?_|refine zco ?_ ?_|exact zd|(refine fun (hg:(_:Prop))=>?_;(try replace hg:=HG.out hg);(try dsimp only at hg);(try (have _h:True:=hg;clear _h hg)))))
  · intro m' hm'
    unfold shoE
    (repeat' (first|refine zq ?_|(refine zxl ?_;intro _ _ _)|(refine zxs ?_;intro _ _ _)|refine zbx ?_|refine zal ?_|refine zsvs ?_|refine zsva ?_|refine zses ?_|refine zsea ?_|refine zg ?_ ?_|refine zgu ?_|refine ar_nil ?_|refine aw_seq ?_|refine aw_skip ?_|refine aw_block ?_|refine aw_exit ?_|refine aw_region ?_|refine aw_drawn (id:=4) [(0,0),(1,0),(2,0),(3,0),(4,0),(5,0),(6,1)] mixed (by kernel_rfl) ?_|refine aw_drawn (id:=4) [(0,0),(1,0),(2,0),(3,0),(4,0),(5,0),(6,2)] mixed (by kernel_rfl) ?_|refine zco ?_ ?_|exact zd|(refine fun (hg:(_:Prop))=>?_;(try replace hg:=HG.out hg);(try dsimp only at hg);(try (have _h:True:=hg;clear _h hg)))))
    exact aw_ret (hdo_end hm' hrf rfl)
  · intro H1
    exact hdo_bad (join_out rfl rfl rfl) hrf rfl
theorem hdo7_p (hk:j.kind=7) (hua:u8ok j.act.kind) (hV:HValid h) (ht:TalOk h m):ACalls Tryz.prog 44 [.ptr 11 0 0 0,j.enc] (shoB h m) (DoHR h j) NoP:=by
  have hE:jobE h j=giveE h j:=by unfold jobE;rw [hk];rfl
  have hF:jobF h j=giveF h j:=by unfold jobF;rw [hk];rfl
  have hc:=hdeliver_p h m j hV ht
  rw [← hE,← hF] at hc
  refine acalls_sub (R:=fun v H'=>∃ v' H'',SubOf 9 1 [(0,v)] H' [(0,v')] H''∧DoHR h j v' H'') (Rp:=NoP) ?_ (fun _ _ h=>h) (fun _ _ h=>h.elim)
  refine acalls_of_try Tryz.func44 rfl Tryz.func84 rfl (by kernel_rfl) (dc rfl) (dc rfl) (by decide) ?_
  have ha:j.enc=.agg [vu8 7,vi j.client,vi j.design,vi j.order,vi j.n,vi j.til,vu8 j.act.kind,vi j.act.item,vi j.act.dest,vi j.act.n,vi j.sheet.cols,vi j.sheet.rows,vi j.sheet.weight,vi j.sheet.clear,vi j.sheet.lean,encRows j.band]:=by unfold Job.enc;rw [hk]
  rw [ha] at hc ⊢
  refine Go.Proofs.YtbilpbabdgfblaaGreat.aw_region ?_
  (repeat' (first|refine zq ?_|(refine zxl ?_;intro _ _ _)|(refine zxs ?_;intro _ _ _)|refine zbx ?_|refine zal ?_|refine zsvs ?_|refine zsva ?_|refine zses ?_|refine zsea ?_|refine zg ?_ ?_|refine zgu ?_|refine ar_nil ?_|refine aw_seq ?_|refine aw_skip ?_|refine aw_block ?_|refine aw_exit ?_|refine aw_region ?_|refine aw_drawn (id:=4) [(0,0),(1,0),(2,0),(3,0),(4,0),(5,0),(6,1)] mixed (by kernel_rfl) ?_|refine aw_drawn (id:=4) [(0,0),(1,0),(2,0),(3,0),(4,0),(5,0),(6,2)] mixed (by kernel_rfl) ?_|refine zco ?_ ?_|exact zd|(refine fun (hg:(_:Prop))=>?_;(try replace hg:=HG.out hg);(try dsimp only at hg);(try (have _h:True:=hg;clear _h hg)))))
  refine ⟨1,10,0,0,rfl,?_⟩
  refine aw_sub (m:=11) (env':=[(0,.ptr 11 0 0 0),(3,.ptr 16 9 0 0),(4,.ptr 1 10 0 0)]) (H':=[.arr 11 1 (fun _=>shoV 1 2 3 4 5 6 7 8 h),LB 5 Itm.enc h.store.items,LB 2 Prt.enc h.store.prints,LB 7 Dsn.enc h.designs,LB 4 Lic.enc h.lics,LB 4 Ordr.enc h.orders,LB 1 vi h.made,LB 1 vi h.fors,mapE Tal.enc m,.arr 16 1 (fun _=>.agg [vu8 7,vi j.client,vi j.design,vi j.order,vi j.n,vi j.til,vu8 j.act.kind,vi j.act.item,vi j.act.dest,vi j.act.n,vi j.sheet.cols,vi j.sheet.rows,vi j.sheet.weight,vi j.sheet.clear,vi j.sheet.lean,encRows j.band]),.arr 1 1 (fun _=>vi 0)]) ?_ ?_
  · (exact zsc [some 0,some 1,some 2,some 3,some 4,some 5,some 6,some 7,some 8,some 9,some 10] [])
  (repeat' (first|refine zq ?_|(refine zxl ?_;intro _ _ _)|(refine zxs ?_;intro _ _ _)|(refine zpv fn85 (hdoers_p) ?_)|refine ar_q (qs_funcIsNot (ty rfl) rfl rfl) (dc rfl) ?_|refine ar_q (qs_iaddr_aptr (j:=7) (ty rfl) rfl (ty rfl) rfl rfl rfl (dc rfl)) (dc rfl) ?_|((refine ar_must ?_ ?_<;>intro hrf<;>first|exact absurd hrf (by decide)|((try replace hrf:=HG.out hrf);(try dsimp only at hrf);(try rw [fromB_one] at hrf);(try rw [withinB_iff] at hrf);(try rw [withinB_no] at hrf);(try rw [inD_iff] at hrf);(try rw [inO_iff] at hrf))))|((refine ar_deed fn134 hc rfl ?_ ?_<;>intro hrf))|refine zbx ?_|refine zal ?_|refine zsvs ?_|refine zsva ?_|refine zses ?_|refine zsea ?_|refine zg ?_ ?_|refine zgu ?_|refine ar_nil ?_|refine aw_seq ?_|refine aw_skip ?_|refine aw_block ?_|refine aw_exit ?_|refine aw_region ?_|refine aw_drawn (id:=4) [(0,0),(1,0),(2,0),(3,0),(4,0),(5,0),(6,2)] mixed (by kernel_rfl) ?_|refine aw_drawn (id:=4) [(0,0),(1,0),(2,0),(3,0),(4,0),(5,0),(6,1)] mixed (by kernel_rfl) ?_|refine zco ?_ ?_|exact zd|(refine fun (hg:(_:Prop))=>?_;(try replace hg:=HG.out hg);(try dsimp only at hg);(try (have _h:True:=hg;clear _h hg)))))
  · intro m' hm'
    unfold shoE
    (repeat' (first|refine zq ?_|(refine zxl ?_;intro _ _ _)|(refine zxs ?_;intro _ _ _)|refine zbx ?_|refine zal ?_|refine zsvs ?_|refine zsva ?_|refine zses ?_|refine zsea ?_|refine zg ?_ ?_|refine zgu ?_|refine ar_nil ?_|refine aw_seq ?_|refine aw_skip ?_|refine aw_block ?_|refine aw_exit ?_|refine aw_region ?_|refine aw_drawn (id:=4) [(0,0),(1,0),(2,0),(3,0),(4,0),(5,0),(6,1)] mixed (by kernel_rfl) ?_|refine aw_drawn (id:=4) [(0,0),(1,0),(2,0),(3,0),(4,0),(5,0),(6,2)] mixed (by kernel_rfl) ?_|refine zco ?_ ?_|exact zd|(refine fun (hg:(_:Prop))=>?_;(try replace hg:=HG.out hg);(try dsimp only at hg);(try (have _h:True:=hg;clear _h hg)))))
    exact aw_ret (hdo_end hm' hrf rfl)
  · intro H1
    exact hdo_bad (join_out rfl rfl rfl) hrf rfl
theorem hdo8_p (hk:j.kind=8) (hua:u8ok j.act.kind) (hV:HValid h) (ht:TalOk h m):ACalls Tryz.prog 44 [.ptr 11 0 0 0,j.enc] (shoB h m) (DoHR h j) NoP:=by
  have hE:jobE h j=waitE h j:=by unfold jobE;rw [hk];rfl
  have hF:jobF h j=waitF h j:=by unfold jobF;rw [hk];rfl
  have hc:=wait_p h m j hV ht
  rw [← hE,← hF] at hc
  refine acalls_sub (R:=fun v H'=>∃ v' H'',SubOf 9 1 [(0,v)] H' [(0,v')] H''∧DoHR h j v' H'') (Rp:=NoP) ?_ (fun _ _ h=>h) (fun _ _ h=>h.elim)
  refine acalls_of_try Tryz.func44 rfl Tryz.func84 rfl (by kernel_rfl) (dc rfl) (dc rfl) (by decide) ?_
  have ha:j.enc=.agg [vu8 8,vi j.client,vi j.design,vi j.order,vi j.n,vi j.til,vu8 j.act.kind,vi j.act.item,vi j.act.dest,vi j.act.n,vi j.sheet.cols,vi j.sheet.rows,vi j.sheet.weight,vi j.sheet.clear,vi j.sheet.lean,encRows j.band]:=by unfold Job.enc;rw [hk]
  rw [ha] at hc ⊢
  refine Go.Proofs.YtbilpbabdgfblaaGreat.aw_region ?_
  (repeat' (first|refine zq ?_|(refine zxl ?_;intro _ _ _)|(refine zxs ?_;intro _ _ _)|refine zbx ?_|refine zal ?_|refine zsvs ?_|refine zsva ?_|refine zses ?_|refine zsea ?_|refine zg ?_ ?_|refine zgu ?_|refine ar_nil ?_|refine aw_seq ?_|refine aw_skip ?_|refine aw_block ?_|refine aw_exit ?_|refine aw_region ?_|refine aw_drawn (id:=4) [(0,0),(1,0),(2,0),(3,0),(4,0),(5,0),(6,1)] mixed (by kernel_rfl) ?_|refine aw_drawn (id:=4) [(0,0),(1,0),(2,0),(3,0),(4,0),(5,0),(6,2)] mixed (by kernel_rfl) ?_|refine zco ?_ ?_|exact zd|(refine fun (hg:(_:Prop))=>?_;(try replace hg:=HG.out hg);(try dsimp only at hg);(try (have _h:True:=hg;clear _h hg)))))
  refine ⟨1,10,0,0,rfl,?_⟩
  refine aw_sub (m:=11) (env':=[(0,.ptr 11 0 0 0),(3,.ptr 16 9 0 0),(4,.ptr 1 10 0 0)]) (H':=[.arr 11 1 (fun _=>shoV 1 2 3 4 5 6 7 8 h),LB 5 Itm.enc h.store.items,LB 2 Prt.enc h.store.prints,LB 7 Dsn.enc h.designs,LB 4 Lic.enc h.lics,LB 4 Ordr.enc h.orders,LB 1 vi h.made,LB 1 vi h.fors,mapE Tal.enc m,.arr 16 1 (fun _=>.agg [vu8 8,vi j.client,vi j.design,vi j.order,vi j.n,vi j.til,vu8 j.act.kind,vi j.act.item,vi j.act.dest,vi j.act.n,vi j.sheet.cols,vi j.sheet.rows,vi j.sheet.weight,vi j.sheet.clear,vi j.sheet.lean,encRows j.band]),.arr 1 1 (fun _=>vi 0)]) ?_ ?_
  · (exact zsc [some 0,some 1,some 2,some 3,some 4,some 5,some 6,some 7,some 8,some 9,some 10] [])
  (repeat' (first|refine zq ?_|(refine zxl ?_;intro _ _ _)|(refine zxs ?_;intro _ _ _)|(refine zpv fn85 (hdoers_p) ?_)|refine ar_q (qs_funcIsNot (ty rfl) rfl rfl) (dc rfl) ?_|refine ar_q (qs_iaddr_aptr (j:=8) (ty rfl) rfl (ty rfl) rfl rfl rfl (dc rfl)) (dc rfl) ?_|((refine ar_must ?_ ?_<;>intro hrf<;>first|exact absurd hrf (by decide)|((try replace hrf:=HG.out hrf);(try dsimp only at hrf);(try rw [fromB_one] at hrf);(try rw [withinB_iff] at hrf);(try rw [withinB_no] at hrf);(try rw [inD_iff] at hrf);(try rw [inO_iff] at hrf))))|((refine ar_deed fn135 hc rfl ?_ ?_<;>intro hrf))|refine zbx ?_|refine zal ?_|refine zsvs ?_|refine zsva ?_|refine zses ?_|refine zsea ?_|refine zg ?_ ?_|refine zgu ?_|refine ar_nil ?_|refine aw_seq ?_|refine aw_skip ?_|refine aw_block ?_|refine aw_exit ?_|refine aw_region ?_|refine aw_drawn (id:=4) [(0,0),(1,0),(2,0),(3,0),(4,0),(5,0),(6,2)] mixed (by kernel_rfl) ?_|refine aw_drawn (id:=4) [(0,0),(1,0),(2,0),(3,0),(4,0),(5,0),(6,1)] mixed (by kernel_rfl) ?_|refine zco ?_ ?_|exact zd|(refine fun (hg:(_:Prop))=>?_;(try replace hg:=HG.out hg);(try dsimp only at hg);(try (have _h:True:=hg;clear _h hg)))))
  · intro m' hm'
    unfold shoE
    (repeat' (first|refine zq ?_|(refine zxl ?_;intro _ _ _)|(refine zxs ?_;intro _ _ _)|refine zbx ?_|refine zal ?_|refine zsvs ?_|refine zsva ?_|refine zses ?_|refine zsea ?_|refine zg ?_ ?_|refine zgu ?_|refine ar_nil ?_|refine aw_seq ?_|refine aw_skip ?_|refine aw_block ?_|refine aw_exit ?_|refine aw_region ?_|refine aw_drawn (id:=4) [(0,0),(1,0),(2,0),(3,0),(4,0),(5,0),(6,1)] mixed (by kernel_rfl) ?_|refine aw_drawn (id:=4) [(0,0),(1,0),(2,0),(3,0),(4,0),(5,0),(6,2)] mixed (by kernel_rfl) ?_|refine zco ?_ ?_|exact zd|(refine fun (hg:(_:Prop))=>?_;(try replace hg:=HG.out hg);(try dsimp only at hg);(try (have _h:True:=hg;clear _h hg)))))
    exact aw_ret (hdo_end hm' hrf rfl)
  · intro H1
    exact hdo_bad (join_out rfl rfl rfl) hrf rfl
theorem hdo_no {h:Hse}{j:Job}(hk:¬ (1≤j.kind∧j.kind≤8)):jobE h j=2:=by
  unfold jobE
  rw [if_neg (by omega),if_neg (by omega),if_neg (by omega),if_neg (by omega),if_neg (by omega),if_neg (by omega),if_neg (by omega),if_neg (by omega)]
theorem hdo0_p (hk:j.kind=0):ACalls Tryz.prog 44 [.ptr 11 0 0 0,j.enc] (shoB h m) (DoHR h j) NoP:=by
  have hE:jobE h j=2:=hdo_no (by omega)
  refine acalls_sub (R:=fun v H'=>∃ v' H'',SubOf 9 1 [(0,v)] H' [(0,v')] H''∧DoHR h j v' H'') (Rp:=NoP) ?_ (fun _ _ h=>h) (fun _ _ h=>h.elim)
  refine acalls_of_try Tryz.func44 rfl Tryz.func84 rfl (by kernel_rfl) (dc rfl) (dc rfl) (by decide) ?_
  have ha:j.enc=.agg [vu8 0,vi j.client,vi j.design,vi j.order,vi j.n,vi j.til,vu8 j.act.kind,vi j.act.item,vi j.act.dest,vi j.act.n,vi j.sheet.cols,vi j.sheet.rows,vi j.sheet.weight,vi j.sheet.clear,vi j.sheet.lean,encRows j.band]:=by unfold Job.enc;rw [hk]
  rw [ha]
  refine Go.Proofs.YtbilpbabdgfblaaGreat.aw_region ?_
  (repeat' (first|refine zq ?_|(refine zxl ?_;intro _ _ _)|(refine zxs ?_;intro _ _ _)|refine zbx ?_|refine zal ?_|refine zsvs ?_|refine zsva ?_|refine zses ?_|refine zsea ?_|refine zg ?_ ?_|refine zgu ?_|refine ar_nil ?_|refine aw_seq ?_|refine aw_skip ?_|refine aw_block ?_|refine aw_exit ?_|refine aw_region ?_|refine aw_drawn (id:=4) [(0,0),(1,0),(2,0),(3,0),(4,0),(5,0),(6,1)] mixed (by kernel_rfl) ?_|refine aw_drawn (id:=4) [(0,0),(1,0),(2,0),(3,0),(4,0),(5,0),(6,2)] mixed (by kernel_rfl) ?_|refine zco ?_ ?_|exact zd|(refine fun (hg:(_:Prop))=>?_;(try replace hg:=HG.out hg);(try dsimp only at hg);(try (have _h:True:=hg;clear _h hg)))))
  refine ⟨1,10,0,0,rfl,?_⟩
  refine aw_sub (m:=11) (env':=[(0,.ptr 11 0 0 0),(3,.ptr 16 9 0 0),(4,.ptr 1 10 0 0)]) (H':=[.arr 11 1 (fun _=>shoV 1 2 3 4 5 6 7 8 h),LB 5 Itm.enc h.store.items,LB 2 Prt.enc h.store.prints,LB 7 Dsn.enc h.designs,LB 4 Lic.enc h.lics,LB 4 Ordr.enc h.orders,LB 1 vi h.made,LB 1 vi h.fors,mapE Tal.enc m,.arr 16 1 (fun _=>.agg [vu8 0,vi j.client,vi j.design,vi j.order,vi j.n,vi j.til,vu8 j.act.kind,vi j.act.item,vi j.act.dest,vi j.act.n,vi j.sheet.cols,vi j.sheet.rows,vi j.sheet.weight,vi j.sheet.clear,vi j.sheet.lean,encRows j.band]),.arr 1 1 (fun _=>vi 0)]) ?_ ?_
  · (exact zsc [some 0,some 1,some 2,some 3,some 4,some 5,some 6,some 7,some 8,some 9,some 10] [])
  (repeat' (first|refine zq ?_|(refine zxl ?_;intro _ _ _)|(refine zxs ?_;intro _ _ _)|(refine zpv fn85 (hdoers_p) ?_)|refine ar_q (qs_nilFuncIsNot (ty rfl) rfl rfl) (dc rfl) ?_|refine ar_q (qs_iaddr_aptr (j:=0) (ty rfl) rfl (ty rfl) rfl rfl rfl (dc rfl)) (dc rfl) ?_|((refine ar_mustL ?_ ?_<;>intro hrf<;>first|exact absurd hrf (by decide)|((try replace hrf:=HG.out hrf);(try dsimp only at hrf);(try rw [fromB_one] at hrf);(try rw [withinB_iff] at hrf);(try rw [withinB_no] at hrf);(try rw [inD_iff] at hrf);(try rw [inO_iff] at hrf))))|refine zbx ?_|refine zal ?_|refine zsvs ?_|refine zsva ?_|refine zses ?_|refine zsea ?_|refine zg ?_ ?_|refine zgu ?_|refine ar_nil ?_|refine aw_seq ?_|refine aw_skip ?_|refine aw_block ?_|refine aw_exit ?_|refine aw_region ?_|refine aw_drawn (id:=4) [(0,0),(1,0),(2,0),(3,0),(4,0),(5,0),(6,2)] mixed (by kernel_rfl) ?_|refine aw_drawn (id:=4) [(0,0),(1,0),(2,0),(3,0),(4,0),(5,0),(6,1)] mixed (by kernel_rfl) ?_|refine zco ?_ ?_|exact zd|(refine fun (hg:(_:Prop))=>?_;(try replace hg:=HG.out hg);(try dsimp only at hg);(try (have _h:True:=hg;clear _h hg)))))
  all_goals (intro L';exact hdo_bad (app_lt rfl) (by decide) hE)
theorem hdo9_p (hk:9≤j.kind) (hu:j.kind≤255):ACalls Tryz.prog 44 [.ptr 11 0 0 0,j.enc] (shoB h m) (DoHR h j) NoP:=by
  have hE:jobE h j=2:=hdo_no (by omega)
  refine acalls_sub (R:=fun v H'=>∃ v' H'',SubOf 9 1 [(0,v)] H' [(0,v')] H''∧DoHR h j v' H'') (Rp:=NoP) ?_ (fun _ _ h=>h) (fun _ _ h=>h.elim)
  refine acalls_of_try Tryz.func44 rfl Tryz.func84 rfl (by kernel_rfl) (dc rfl) (dc rfl) (by decide) ?_
  have ha:j.enc=.agg [vu8 j.kind,vi j.client,vi j.design,vi j.order,vi j.n,vi j.til,vu8 j.act.kind,vi j.act.item,vi j.act.dest,vi j.act.n,vi j.sheet.cols,vi j.sheet.rows,vi j.sheet.weight,vi j.sheet.clear,vi j.sheet.lean,encRows j.band]:=rfl
  rw [ha]
  refine Go.Proofs.YtbilpbabdgfblaaGreat.aw_region ?_
  (repeat' (first|refine zq ?_|(refine zxl ?_;intro _ _ _)|(refine zxs ?_;intro _ _ _)|refine zbx ?_|refine zal ?_|refine zsvs ?_|refine zsva ?_|refine zses ?_|refine zsea ?_|refine zg ?_ ?_|refine zgu ?_|refine ar_nil ?_|refine aw_seq ?_|refine aw_skip ?_|refine aw_block ?_|refine aw_exit ?_|refine aw_region ?_|refine aw_drawn (id:=4) [(0,0),(1,0),(2,0),(3,0),(4,0),(5,0),(6,1)] mixed (by kernel_rfl) ?_|refine aw_drawn (id:=4) [(0,0),(1,0),(2,0),(3,0),(4,0),(5,0),(6,2)] mixed (by kernel_rfl) ?_|refine zco ?_ ?_|exact zd|(refine fun (hg:(_:Prop))=>?_;(try replace hg:=HG.out hg);(try dsimp only at hg);(try (have _h:True:=hg;clear _h hg)))))
  refine ⟨1,10,0,0,rfl,?_⟩
  refine aw_sub (m:=11) (env':=[(0,.ptr 11 0 0 0),(3,.ptr 16 9 0 0),(4,.ptr 1 10 0 0)]) (H':=[.arr 11 1 (fun _=>shoV 1 2 3 4 5 6 7 8 h),LB 5 Itm.enc h.store.items,LB 2 Prt.enc h.store.prints,LB 7 Dsn.enc h.designs,LB 4 Lic.enc h.lics,LB 4 Ordr.enc h.orders,LB 1 vi h.made,LB 1 vi h.fors,mapE Tal.enc m,.arr 16 1 (fun _=>.agg [vu8 j.kind,vi j.client,vi j.design,vi j.order,vi j.n,vi j.til,vu8 j.act.kind,vi j.act.item,vi j.act.dest,vi j.act.n,vi j.sheet.cols,vi j.sheet.rows,vi j.sheet.weight,vi j.sheet.clear,vi j.sheet.lean,encRows j.band]),.arr 1 1 (fun _=>vi 0)]) ?_ ?_
  · (exact zsc [some 0,some 1,some 2,some 3,some 4,some 5,some 6,some 7,some 8,some 9,some 10] [])
  (repeat' (first|refine zq ?_|(refine zxl ?_;intro _ _ _)|(refine zxs ?_;intro _ _ _)|(refine zpv fn85 (hdoers_p) ?_)|((refine ar_mustL ?_ ?_<;>intro hrf<;>first|exact absurd hrf (by decide)|((try replace hrf:=HG.out hrf);(try dsimp only at hrf);(try rw [fromB_one] at hrf);(try rw [withinB_iff] at hrf);(try rw [withinB_no] at hrf);(try rw [inD_iff] at hrf);(try rw [inO_iff] at hrf))))|refine zbx ?_|refine zal ?_|refine zsvs ?_|refine zsva ?_|refine zses ?_|refine zsea ?_|refine zg ?_ ?_|refine zgu ?_|refine ar_nil ?_|refine aw_seq ?_|refine aw_skip ?_|refine aw_block ?_|refine aw_exit ?_|refine aw_region ?_|refine aw_drawn (id:=4) [(0,0),(1,0),(2,0),(3,0),(4,0),(5,0),(6,2)] mixed (by kernel_rfl) ?_|refine aw_drawn (id:=4) [(0,0),(1,0),(2,0),(3,0),(4,0),(5,0),(6,1)] mixed (by kernel_rfl) ?_|refine zco ?_ ?_|exact zd|(refine fun (hg:(_:Prop))=>?_;(try replace hg:=HG.out hg);(try dsimp only at hg);(try (have _h:True:=hg;clear _h hg)))))
  all_goals (intro L';exact hdo_bad (app_lt rfl) (by decide) hE)
end Pn
theorem hdo_p (h:Hse) (m:List (Int × Tal)) (j:Job) (hu:u8ok j.kind) (hua:u8ok j.act.kind) (hV:HValid h) (ht:TalOk h m):ACalls Tryz.prog 44 [.ptr 11 0 0 0,j.enc] (shoB h m) (DoHR h j) NoP:=by
  have h0:j.kind=0∨j.kind=1∨j.kind=2∨j.kind=3∨j.kind=4∨j.kind=5∨j.kind=6∨j.kind=7∨j.kind=8∨9≤j.kind:=by unfold u8ok at hu;omega
  rcases h0 with h0|h0|h0|h0|h0|h0|h0|h0|h0|h0
  · exact Pn.hdo0_p h m j h0
  · exact Pn.hdo1_p h m j h0 hua hV ht
  · exact Pn.hdo2_p h m j h0 hua hV ht
  · exact Pn.hdo3_p h m j h0 hua hV ht
  · exact Pn.hdo4_p h m j h0 hua hV ht
  · exact Pn.hdo5_p h m j h0 hua hV ht
  · exact Pn.hdo6_p h m j h0 hua hV ht
  · exact Pn.hdo7_p h m j h0 hua hV ht
  · exact Pn.hdo8_p h m j h0 hua hV ht
  · exact Pn.hdo9_p h m j h0 hu.2
theorem aw_forE {α:Type}{P:Program}{r:Option Nat}{m nt:Nat}{Q:Post}{env:Env}{H:Heap}{c:Code}(N:Nat) (J:Nat→α→Prop) (E:Nat→Env) (G:Nat→α→Heap) (x0:α) (hJ:J 0 x0) (h0:SubOf m nt env H (E 0) (G 0 x0))
    (round:∀ k x,k≤N→J k x→AW P r m nt c (AE.then (fun env' H'=>k<N∧∃ x',J (k+1) x'∧SubOf m nt env' H' (E (k+1)) (G (k+1) x')) Q) (E k) (G k x)):AW P r m nt (.loop c) Q env H:=by
  refine aw_loop (fun n env H=>∃ k x,k≤N∧n=N-k∧J k x∧SubOf m nt env H (E k) (G k x)) ⟨N,0,x0,by omega,by omega,hJ,h0⟩ ?_
  rintro n env H ⟨k,x,hk,rfl,hj,hs⟩
  refine aw_sub hs (aw_mono (round k x hk hj) fun e env' H' h=>?_)
  cases e<;>first|exact h|skip
  obtain ⟨h1,x',h2,h3⟩:=h
  exact ⟨N-(k+1),by omega,k+1,x',h1,rfl,h2,h3⟩
def noHv:V:=.agg [vi 0,vi 0,vi 0,vnil,vnil,vnil,vnil,vnil,vnil,vnil]
def shoF (h':Hse) (m':List (Int × Tal)) (X:Heap):Heap:=.arr 11 1 (fun _=>shoV (X.length+9) (X.length+10) (X.length+11) (X.length+12) (X.length+13) (X.length+14) (X.length+15) 8 h')::.dead::.dead::.dead::.dead::.dead::.dead::.dead::mapE Tal.enc m'::(X++[LB 5 Itm.enc h'.store.items,LB 2 Prt.enc h'.store.prints,LB 7 Dsn.enc h'.designs,LB 4 Lic.enc h'.lics,LB 4 Ordr.enc h'.orders,LB 1 vi h'.made,LB 1 vi h'.fors])
theorem join_shoF {a0 a1 a2 a3 a4 a5 a6 a7 a8:Blk}{X:Heap}{h':Hse}{m':List (Int × Tal)}:joinH [0,1,2,3,4,5,6,7,8] [] (a0::a1::a2::a3::a4::a5::a6::a7::a8::X) (shoX h' m')=shoF h' m' X:=by
  unfold shoX shoF
  rw [join9]
  have e2:(mapE Tal.enc m').ren (rn [0,1,2,3,4,5,6,7,8] (X.length+9))=mapE Tal.enc m':=mapE_renE fun _=>rfl
  simp only [List.map_cons,List.map_nil,e2]
  rfl
section
variable {r:Option Nat}{mm nt i d:Nat}{Q:Post}{env:Env}{ops:Array Oper}{L:List Stp}{ty:TypeId}{pos:String}{after:Array Edge}{ats:Array TypeId}{x y z:Operand}
theorem ar_hdo (h:Hse) (m:List (Int × Tal)) (j:Job) {X:Heap}(hu:u8ok j.kind) (hua:u8ok j.act.kind) (hV:HValid h) (ht:TalOk h m)
    (h1:jobE h j=0→∀ m',TalOk (jobF h j) m'→AR Tryz.prog r mm nt ops Q L ((d,vi 0)::env) (shoF (jobF h j) m' X))
    (h2:jobE h j≠0→AR Tryz.prog r mm nt ops Q L ((d,vi (jobE h j))::env) (.dead::.dead::.dead::.dead::.dead::.dead::.dead::.dead::.dead::X)) (hx:eo env x=some (.ptr 11 0 0 0):=by exact rfl) (hy:eo env y=some j.enc:=by exact rfl) (hd:d<nt:=by exact dc rfl) :
    AR Tryz.prog r mm nt ops Q (.l i ⟨some d,.call ⟨.value (.func 44),#[x,y],ats⟩,ty,pos,after,none⟩ false::L) env (.arr 11 1 (fun _=>shoV 1 2 3 4 5 6 7 8 h)::LB 5 Itm.enc h.store.items::LB 2 Prt.enc h.store.prints::LB 7 Dsn.enc h.designs::LB 4 Lic.enc h.lics::LB 4 Ordr.enc h.orders::LB 1 vi h.made::LB 1 vi h.fors::mapE Tal.enc m::X):=by
  refine ar_gcall (H0:=shoB h m) [0,1,2,3,4,5,6,7,8] [] (args:=[x,y]) (vs:=[.ptr 11 0 0 0,j.enc]) (first:=[]) (cap:=[]) fn44 rfl (by rw [List.mapM_cons,List.mapM_cons,List.mapM_nil,hx,hy];rfl) (xs:=[.ptr 11 0 0 0,j.enc]) ⟨.ptr rfl,.closed rfl,trivial⟩ rfl (by decide) (fun _ h=>by cases h) (show ShoAt _ 0 1 2 3 4 5 6 7 8 h m from {}).hsub shoB_live (hdo_p h m j hu hua hV ht) hd ?_ (fun _ _ h=>h.elim)
  rintro _ _ (⟨hh,rfl,m',ht',rfl⟩|⟨hh,rfl,rfl⟩)
  · rw [join_shoF]
    exact h1 hh m' ht'
  · rw [show List.replicate 9 Blk.dead=[.dead,.dead,.dead,.dead,.dead,.dead,.dead,.dead,.dead] from rfl,join9]
    simp only [List.map_cons,List.map_nil,List.append_nil]
    exact h2 hh
end
theorem hse0_small {per life:Int}:HSmall (hse0 per life):=by
  unfold HSmall hse0
  simp
theorem hse0_st {per life:Int}:StOk (hse0 per life).store:=fun j hj=>by simp [hse0] at hj
theorem bq3h {F:Hse}{x e:Int}{R Rp:V→Heap→Prop}{L:Heap}(hR:R (.tup [F.enc,vi x,vi e]) (.arr 10 1 (fun _=>F.enc)::L)):BodyQ Tryz.prog #[.cell 6 33,.tmp 7,.tmp 8] R Rp .ret [(6,.ptr 10 0 0 0),(7,vi x),(8,vi e)] (.arr 10 1 (fun _=>F.enc)::L) :=
  bq3c (f:=fun _=>F.enc) (v:=F.enc) (ty rfl) rfl rfl Nat.one_pos rfl rfl rfl hR
theorem hplayR_bad {per life:Int}{bk:List Job}{x e:Int}(h:hplayX per life bk=(x,e)) (he:e≠0):V.tup [noHse.enc,vi x,vi e]=.tup [(hplayF per life bk).enc,vi (hplayX per life bk).1,vi (hplayX per life bk).2]:=by rw [hplayF_bad (by rw [h];exact he),h]
theorem hplayR_ok {per life:Int}{bk:List Job}(h:hplayX per life bk=(0,0)):V.tup [(hAt per life bk bk.length).enc,vi 0,vi 0]=.tup [(hplayF per life bk).enc,vi (hplayX per life bk).1,vi (hplayX per life bk).2]:=by rw [hplayF_ok (by rw [h]),h]
theorem hPlay_p (per life:Int) (bk:List Job) (hu:∀ j,j<bk.length→u8ok (el bk j).kind∧u8ok (el bk j).act.kind):PCalls Tryz.prog 14 [vi per,vi life,encJobs bk] (·=.tup [(hplayF per life bk).enc,vi (hplayX per life bk).1,vi (hplayX per life bk).2]):=by
  refine pcalls_of_aw Tryz.func14 rfl (dc rfl) ?_
  (repeat' (first|(refine ar_isq ?_;refine zq ?_)|(refine zbt ?_)|((refine ar_gcall0 fn43 rfl rfl [(hse0 per life).enc] ⟨.aggL ⟨.closed rfl,.closed rfl,.closed rfl,.nilList,.nilList,.nilList,.nilList,.nilList,.nilList,.nilList,trivial⟩,trivial⟩ (hvalid_p (hse0 per life) hse0_small hse0_st) (dc rfl) ?_ (fun _ _ h=>h.elim);rintro _ _ (⟨hv,rfl,m0,ht0,rfl⟩|⟨hv,rfl,rfl⟩)<;>(try rw [shoB_ren])))|refine zst ?_|refine zco ?_ ?_|exact zd|(refine fun (hg:(_:Prop))=>?_;(try replace hg:=HG.out hg);(try dsimp only at hg);(try (have _h:True:=hg;clear _h hg)))))
  · (refine aw_mono_r (env':=[(6,.ptr 10 0 0 0),(7,vi 0),(8,vi 4)]) (H':=[.arr 10 1 (fun _=>noHse.enc)]) ?_ ?_;(focus (exact zsc [some 0] [])))
    refine aw_ret ?_;(repeat (first|refine ret_then ?_|refine ret_block ?_));exact bq3h ⟨hplayR_bad (hplayX_many (by omega)) (by decide),rfl⟩
  · have hl:=hvalid0.1 hv
    have hn:¬ 200<bk.length:=by omega
    refine aw_forE bk.length (fun k m=>(∀ q,q<k→hErrAt per life bk q=0)∧TalOk (hAt per life bk k) m) (fun k=>[(6,.ptr 10 9 0 0),(9,.ptr 11 0 0 0),(29,encJobs bk),(30,vi bk.length),(31,vi k)]) (fun k m=>[.arr 11 1 (fun _=>shoV 1 2 3 4 5 6 7 8 (hAt per life bk k)),LB 5 Itm.enc (hAt per life bk k).store.items,LB 2 Prt.enc (hAt per life bk k).store.prints,LB 7 Dsn.enc (hAt per life bk k).designs,LB 4 Lic.enc (hAt per life bk k).lics,LB 4 Ordr.enc (hAt per life bk k).orders,LB 1 vi (hAt per life bk k).made,LB 1 vi (hAt per life bk k).fors,mapE Tal.enc m,.arr 10 1 (fun _=>noHv)]) m0 ⟨fun q hq=>by omega,ht0⟩ ?_ ?_
    · (exact zsc [some 1,some 2,some 3,some 4,some 5,some 6,some 7,some 8,some 9,some 0] [])
    rintro k m hk2 ⟨hb,ht⟩
    have hV:HValid (hAt per life bk k):=hAt_ok hv hb
    by_cases hlt:k<bk.length
    · (repeat' (first|(refine ar_isq ?_;refine zq ?_)|refine zil (j:=k) ?_|refine zis (j:=k) ?_|refine zit (j:=k) ?_|(refine zbt ?_)|((refine ar_hdo (hAt per life bk k) m (el bk k) (hu k hlt).1 (hu k hlt).2 hV ht (fun he m' ht'=>?_) (fun he=>?_)<;>(try (unfold shoF;dsimp only [List.length_cons,List.length_nil,List.cons_append,List.nil_append]))))|refine zst ?_|refine zco ?_ ?_|exact zd|(refine fun (hg:(_:Prop))=>?_;(try replace hg:=HG.out hg);(try dsimp only at hg);(try (have _h:True:=hg;clear _h hg)))))
      · refine (show k<bk.length∧∃ m1,((∀ q,q<k+1→hErrAt per life bk q=0)∧TalOk (hAt per life bk (k+1)) m1)∧SubOf _ _ _ _ _ _ from ⟨hlt,m',⟨fun q hq=>?_,ht'⟩,?_⟩)
        · rcases Nat.lt_succ_iff_lt_or_eq.1 hq with h|rfl
          · exact hb q h
          · exact he
        · (exact zsl [some 0,some 11,some 12,some 13,some 14,some 15,some 16,some 17,some 8,some 9] [])
      · (refine aw_mono_r (env':=[(6,.ptr 10 0 0 0),(7,vi k),(8,vi (hErrAt per life bk k))]) (H':=[.arr 10 1 (fun _=>noHse.enc)]) ?_ ?_;(focus (exact zsc [some 9] [])))
        refine aw_ret ?_;(repeat (first|refine ret_then ?_|refine ret_block ?_));exact bq3h ⟨hplayR_bad (hplayX_bad hn hl hb hlt he) he,rfl⟩
    · obtain rfl:k=bk.length:=by omega
      (repeat' (first|(refine ar_isq ?_;refine zq ?_)|(refine zbt ?_)|refine zst ?_|refine zco ?_ ?_|exact zd|(refine fun (hg:(_:Prop))=>?_;(try replace hg:=HG.out hg);(try dsimp only at hg);(try (have _h:True:=hg;clear _h hg)))))
      (refine aw_mono_r (env':=[(6,.ptr 10 0 0 0),(7,vi 0),(8,vi 0)]) (H':=[.arr 10 1 (fun _=>(hAt per life bk bk.length).enc)]) ?_ ?_;(focus (exact zsc [some 9] [1,2,3,4,5,6,7])))
      refine aw_ret ?_;(repeat (first|refine ret_then ?_|refine ret_block ?_));exact bq3h ⟨hplayR_ok (hplayX_ok hn hl hb),rfl⟩
  · (refine aw_mono_r (env':=[(6,.ptr 10 0 0 0),(7,vi 0),(8,vi 2)]) (H':=[.arr 10 1 (fun _=>noHse.enc)]) ?_ ?_;(focus (exact zsc [some 0] [])))
    refine aw_ret ?_;(repeat (first|refine ret_then ?_|refine ret_block ?_));exact bq3h ⟨hplayR_bad (hplayX_arg (by omega) (fun h=>hv (hvalid0.2 h))) (by decide),rfl⟩
section
variable {P:Program}{nt:Nat}{env:Env}{H:Heap}{dst:Option Tmp}{ty T T' E:TypeId}{pos:String}{after:Array Edge}{guard:Option (Nat × Bool)}{x y:Operand}{d de:TyD}
theorem TyIs.cellsE (h:TyIs P E de):P.cellsOf E=de.size:=by
  obtain ⟨i,hi,hs,_⟩:=h.inf
  unfold Program.cellsOf
  rw [hi]
  exact hs
theorem boolsOf_at {l:List Bool}{i:Nat}(h:i<l.length):(l.map vb)[i]?=some (.s (.bool (el l i))):=by
  rw [List.getElem?_map,List.getElem?_eq_getElem h]
  simp [el,h,vb,constV]
theorem eqItems_bools {I:Imm}{ρ:List (Option (Nat × Nat))}{l1 l2:List Bool}{us vs:Array Value}(he:TyIs P E de) (hk:de.tk=.bool) (hs:de.size=1) (h1:us.size=(l1.map vb).length) (hr:∀ (j:Nat) x u,(l1.map vb)[j]?=some x→us[j]?=some u→VRel I ρ x u)
    (h2:vs.size=(l2.map vb).length) (hr2:∀ (j:Nat) x u,(l2.map vb)[j]?=some x→vs[j]?=some u→VRel I ρ x u) (e:Nat) (w:World):∀ is:List Nat,(∀ i,i∈is→i<l1.length∧i<l2.length)→(Op.eqItems (e+1) E 1 us vs is).run P w=.ok (is.all fun i=>el l1 i==el l2 i) w
  | [],_=>by simp [Op.eqItems]
  | i::is,hi=>by
    have ih:=eqItems_bools he hk hs h1 hr h2 hr2 e w is fun j hj=>hi j (by simp [hj])
    obtain ⟨a1,a2⟩:=hi i (by simp)
    have p1:=part1_run (I:=I) (ρ:=ρ) he (by rw [hk];rfl) hs h1 hr (boolsOf_at a1) w
    have p2:=part1_run (I:=I) (ρ:=ρ) he (by rw [hk];rfl) hs h2 hr2 (boolsOf_at a2) w
    simp only [Op.eqItems,Nat.mul_one,Sem.run_bind,p1,p2,Result.andThen_ok,run_equalIn_bool w e _ _ _ (he.boolk hk),List.all_cons]
    cases hb:(el l1 i==el l2 i)
    · simp
    · simpa using ih
theorem all_elB {l1 l2:List Bool}{n:Nat}(h1:l1.length=n) (h2:l2.length=n):((List.range n).all fun i=>el l1 i==el l2 i)=decide (l1=l2):=by
  have:(((List.range n).all fun i=>el l1 i==el l2 i)=true)↔l1=l2:=by
    rw [List.all_eq_true]
    constructor
    · intro h
      refine List.ext_getElem (by omega) fun i a b=>?_
      have:=h i (List.mem_range.2 (by omega))
      simpa [el,a,b] using this
    · rintro rfl i _
      simp
  by_cases e:l1=l2
  · rw [decide_eq_true e,this.2 e]
  · rw [decide_eq_false e]
    cases hb:((List.range n).all fun i=>el l1 i==el l2 i) with
    | false=>rfl
    | true=>exact (e (this.1 hb)).elim
theorem qs_eqnil0 (ht:TyIs P T d) (hk:d.tk=.slice E) (hx:eo env x=some (.s (.slice none 0 0))) (hy:eo env y=some (.s (.slice none 0 0))):QS P nt env H ⟨dst,.binOp .eql T x y T',ty,pos,after,guard⟩ (.s (.bool true)):=.mk
  fun _ I ρ a w h hw=>⟨_,.s _,fun w' _=>by simp [execOp,sval h hx,sval h hy,eqGuard,binOp,run_equal_slice_nil w' T E none 0 0 (ht.slice hk)]⟩
theorem qs_eqnil1 {sz b i n:Nat}(hn:n≠0) (ht:TyIs P T d) (hk:d.tk=.slice E) (hx:eo env x=some (.sl sz b i n)) (hy:eo env y=some (.s (.slice none 0 0))):QS P nt env H ⟨dst,.binOp .eql T x y T',ty,pos,after,guard⟩ (.s (.bool false)):=.mk
  fun _ I ρ a w h hw=>by
    rcases (eo_rel h hx).sl_inv with ⟨cb,z,c,h1,_⟩|⟨A,_,_,_,h0⟩
    · exact ⟨_,.s _,fun w' _=>by simp [execOp,h1,sval h hy,eqGuard,binOp,run_equal_slice_nil w' T E (some ⟨cb,i*sz,none⟩) n c (ht.slice hk)]⟩
    · exact absurd h0 hn
theorem qs_arrB {l1 l2:List Bool}{n:Nat}(ht:TyIs P T d) (hk:d.tk=.array n E) (he:TyIs P E de) (heb:de.tk=.bool) (hes:de.size=1) (hg:P.eqGuardType P.depth T=false) (hx:eo env x=some (.agg (l1.map vb))) (hy:eo env y=some (.agg (l2.map vb))) (h1:l1.length=n) (h2:l2.length=n) :
    QS P nt env H ⟨dst,.binOp .eql T x y T',ty,pos,after,guard⟩ (.s (.bool (decide (l1=l2)))):=.mk
  fun _ I ρ a w h hw=>by
    obtain ⟨us,e1,g1,hr⟩:=agg_inv (eo_rel h hx)
    obtain ⟨vs,e2,g2,hr2⟩:=agg_inv (eo_rel h hy)
    obtain ⟨i,hi,_⟩:=he.inf
    have key:∀ w',(Op.eqItems (9998+1) E 1 us vs (List.range n)).run P w'=.ok (decide (l1=l2)) w':=fun w'=>by
      rw [eqItems_bools he heb hes g1 hr g2 hr2 9998 w' (List.range n) (fun j hj=>by have:=List.mem_range.1 hj;omega),all_elB h1 h2]
    exact ⟨_,.s _,fun w' _=>by
      simp only [execOp,e1,e2,Sem.run_bind,run_eqGuard_agg w' _ T x y us vs hg,Result.andThen_ok,run_eql_struct,run_equalIn_array w' 9999 us vs (ht.arr hk) hi,he.cellsE,hes,key]
      rfl⟩
end
def NilC:List V→List V→Prop
  | [],[]=>True
  | v::l,x::r=>(v=x∨v=vnil∧∃ sz g,x=.list sz 0 g)∧NilC l r
  | _,_=>False
theorem nilC_at:∀ {cs ds:List V},NilC cs ds→cs.length=ds.length∧∀ (j:Nat) v x,cs[j]?=some v→ds[j]?=some x→v=x∨v=vnil∧∃ sz g,x=.list sz 0 g
  | [],[],_=>⟨rfl,fun j v x h _=>by simp at h⟩
  | v::l,x::r,h=>by
    obtain ⟨h1,h2⟩:=nilC_at h.2
    refine ⟨by simp [h1],fun j a b ha hb=>?_⟩
    cases j with
    | zero=>simp at ha hb;subst ha hb;exact h.1
    | succ j=>exact h2 j a b (by simpa using ha) (by simpa using hb)
  | [],_::_,h=>h.elim
  | _::_,[],h=>h.elim
theorem rel_nilC {I:Imm}{ρ:List (Option (Nat × Nat))}{cs ds:List V}{u:Value}(hn:NilC cs ds) (h:VRel I ρ (.agg cs) u):VRel I ρ (.agg ds) u:=by
  obtain ⟨us,rfl,h1,hr⟩:=agg_inv h
  obtain ⟨h2,h3⟩:=nilC_at hn
  refine .agg (by rw [h1,h2]) fun j x u hx hu=>?_
  have hlt:j<cs.length:=by rw [h2];exact (List.getElem?_eq_some_iff.1 hx).1
  have hc:cs[j]?=some cs[j]:=by simp [hlt]
  have hv:=hr j cs[j] u hc hu
  rcases h3 j cs[j] x hc hx with e|⟨e,sz,g,rfl⟩
  · rw [e] at hv;exact hv
  · rw [e] at hv
    cases hv
    exact .list (us:=fun _ _=>undef) (Nat.le_refl 0) (Nat.zero_le _) (fun h=>absurd h (Nat.lt_irrefl 0)) (fun i h=>absurd h (Nat.not_lt_zero i)) (fun i _ _ h _=>absurd h (Nat.not_lt_zero i))
theorem sub_nilC {m nt t:Nat}{env:Env}{H:Heap}{cs ds:List V}(x:V) (hx:x=.agg ds) (ht:look env t=some (.agg cs)) (hn:NilC cs ds):SubK m nt env H ((t,x)::env) H:=.mk fun X I ρ a w _ hs=>by
  subst hx
  refine ⟨I,ρ,Imm.le_refl I,⟨⟨hs.1.1,fun t' v hv=>?_⟩,hs.2⟩,fun _ h=>h⟩
  rw [look_cons] at hv
  split at hv
  · rename_i e
    subst e
    cases hv
    obtain ⟨h1,h2⟩:=hs.1.2 t _ ht
    exact ⟨h1,rel_nilC hn h2⟩
  · exact hs.1.2 t' v hv
theorem sameInts_p (l:List Int):PCalls Tryz.prog 32 [encInts l,encInts l] (·=vb true):=by
  (refine pcalls_know (fun I us h=>rel_len (rel_arg h (j:=0) rfl)) fun hlen0=>?_)
  refine pcalls_of_aw Tryz.func32 rfl (dc rfl) ?_
  (repeat' (first|(refine ar_isq ?_;refine zq ?_)|refine zst ?_|refine aw_drawn (id:=6) [(0,0),(1,0),(2,0),(3,0),(4,0),(5,0),(6,0),(7,0),(8,0)] mixed (by kernel_rfl) ?_|refine zco ?_ ?_|exact zd|(refine fun (hg:(_:Prop))=>?_;(try replace hg:=HG.out hg);(try dsimp only at hg);(try (have _h:True:=hg;clear _h hg)))))
  refine aw_for l.length (fun _=>True) (fun k=>[(0,encInts l),(1,encInts l),(5,vi k)]) (fun _=>[]) trivial ?_ ?_
  · (exact zsb [] [])
  intro k hk _
  by_cases hlt:k<l.length
  · (repeat' (first|(refine ar_isq ?_;refine zq ?_)|refine zst ?_|refine aw_drawn (id:=6) [(0,0),(1,0),(2,0),(3,0),(4,0),(5,0),(6,0),(7,0),(8,0)] mixed (by kernel_rfl) ?_|refine zco ?_ ?_|exact zd|(refine fun (hg:(_:Prop))=>?_;(try replace hg:=HG.out hg);(try dsimp only at hg);(try (have _h:True:=hg;clear _h hg)))))
    all_goals first
      | (exfalso;omega)
      | ((first|refine loop_next (by omega) ?_ ?_|refine (show _∧_∧SubOf _ _ _ _ _ _ from And.intro (by omega) (And.intro ?_ ?_)));(focus ((trivial);done));(focus (exact zsb [] [])))
      | ((refine aw_ret ?_;(repeat (first|refine ret_then ?_|refine ret_block ?_));refine bq1 rfl ⟨?_,rfl⟩);rfl)
  · (repeat' (first|(refine ar_isq ?_;refine zq ?_)|refine zst ?_|refine aw_drawn (id:=6) [(0,0),(1,0),(2,0),(3,0),(4,0),(5,0),(6,0),(7,0),(8,0)] mixed (by kernel_rfl) ?_|refine zco ?_ ?_|exact zd|(refine fun (hg:(_:Prop))=>?_;(try replace hg:=HG.out hg);(try dsimp only at hg);(try (have _h:True:=hg;clear _h hg)))))
    all_goals first
      | (exfalso;omega)
      | ((refine aw_ret ?_;(repeat (first|refine ret_then ?_|refine ret_block ?_));refine bq1 rfl ⟨?_,rfl⟩);rfl)
end Go.Proofs.YtbilpbabdgfblaaGreat
-- k3
namespace Go.Proofs.YtbilpbabdgfblaaGreat
open Go.RowKit
section
variable (h:Hse)
theorem smallB_of {b:List (List Int)}(h1:b.length≤20) (h2:∀ l,l∈b→l.length≤60):SmallB b:=⟨by omega,fun l hl=>by have:=h2 l hl;omega⟩
end
theorem greatBook_p (bk:List Job):PCalls Tryz.prog 13 [encJobs bk] (fun v=>v=vb true∨v=vb false∧bk.length≤220∧∀ k,k<bk.length→SmallB (el bk k).band):=by
  refine pcalls_of_aw Tryz.func13 rfl (dc rfl) ?_
  (repeat' (first|(refine ar_isq ?_;refine zq ?_)|refine zst ?_|refine zco ?_ ?_|exact zd|(refine fun (hg:(_:Prop))=>?_;(try replace hg:=HG.out hg);(try dsimp only at hg);(try (have _h:True:=hg;clear _h hg)))))
  all_goals first
    | ((refine aw_ret ?_;(repeat (first|refine ret_then ?_|refine ret_block ?_));refine bq1 rfl ?_);exact ⟨.inl rfl,rfl⟩)
    | skip
  have hn:¬ 220<bk.length:=by omega
  refine aw_for bk.length (fun k=>∀ j,j<k→SmallB (el bk j).band) (fun k=>[(8,encJobs bk),(9,vi bk.length),(10,vi k)]) (fun _=>[]) (fun q hq=>by omega) ?_ ?_
  · (exact zsb [] [])
  intro k hk hJ
  by_cases hlt:k<bk.length
  · (repeat' (first|(refine ar_isq ?_;refine zq ?_)|refine zil (j:=k) ?_|refine zis (j:=k) ?_|refine zit (j:=k) ?_|(refine ar_pcall (own:=false) fn18 rfl rfl (.cons (.closed rfl) .nil) (great_p (el bk k).band) (by simp) (dc rfl) ?_;rintro _ (rfl|⟨rfl,h20,h60⟩))|refine zst ?_|refine zco ?_ ?_|exact zd|(refine fun (hg:(_:Prop))=>?_;(try replace hg:=HG.out hg);(try dsimp only at hg);(try (have _h:True:=hg;clear _h hg)))))
    all_goals first
      | (exfalso;omega)
      | ((refine aw_ret ?_;(repeat (first|refine ret_then ?_|refine ret_block ?_));refine bq1 rfl ?_);exact ⟨.inl rfl,rfl⟩)
      | ((first|refine loop_next (by omega) ?_ ?_|refine (show _∧_∧SubOf _ _ _ _ _ _ from And.intro (by omega) (And.intro ?_ ?_)));(focus ((exact all_step hJ (smallB_of h20 h60));done));(focus (exact zsb [] [])))
      | trace_state
  · obtain rfl:k=bk.length:=by omega
    (repeat' (first|(refine ar_isq ?_;refine zq ?_)|refine zst ?_|refine zco ?_ ?_|exact zd|(refine fun (hg:(_:Prop))=>?_;(try replace hg:=HG.out hg);(try dsimp only at hg);(try (have _h:True:=hg;clear _h hg)))))
    all_goals first
      | (exfalso;omega)
      | ((refine aw_ret ?_;(repeat (first|refine ret_then ?_|refine ret_block ?_));refine bq1 rfl ?_);exact ⟨.inr ⟨rfl,by omega,hJ⟩,rfl⟩)
      | trace_state
end Go.Proofs.YtbilpbabdgfblaaGreat
namespace Go.Proofs.YtbilpbabdgfblaaGreat
open Go.ChangeShapes Go.WideShapes Go.ChangeAt Go.RowKit Go.Deep
def Sheet.wf (s:Sheet):Prop:=i64ok s.cols∧i64ok s.rows∧i64ok s.weight∧i64ok s.clear∧i64ok s.lean
def Dsn.wf (d:Dsn):Prop:=i64ok d.owner∧d.sheet.wf∧∀ l,l∈d.band→∀ y,y∈l→i64ok y
def Lic.wf (l:Lic):Prop:=i64ok l.design∧i64ok l.client∧i64ok l.til∧i64ok l.left
def Ordr.wf (o:Ordr):Prop:=i64ok o.client∧i64ok o.design∧i64ok o.need
def Hse.wf (h:Hse):Prop:=i64ok h.per∧i64ok h.day∧h.store.wf∧(∀ x,x∈h.designs→x.wf)∧(∀ x,x∈h.lics→x.wf)∧(∀ x,x∈h.orders→x.wf)∧(∀ y,y∈h.made→i64ok y)∧∀ y,y∈h.fors→i64ok y
def Job.wf (j:Job):Prop:=u8ok j.kind∧i64ok j.client∧i64ok j.design∧i64ok j.order∧i64ok j.n∧i64ok j.til∧j.act.wf∧j.sheet.wf∧∀ l,l∈j.band→∀ y,y∈l→i64ok y
theorem jobs_u8 {bk:List Job}(h:∀ x,x∈bk→x.wf):∀ j,j<bk.length→u8ok (el bk j).kind∧u8ok (el bk j).act.kind:=fun j hj=>by
  have:=h _ (el_mem hj)
  exact ⟨this.1,this.2.2.2.2.2.2.1.1⟩
theorem rv_Rows:ReadsV Tryz.prog 46 encRows (fun b=>∀ l,l∈b→∀ y,y∈l→i64ok y) 1:=rv_list Tryz.underlying46 (by kernel_rfl) rv_ints
set_option maxRecDepth 100000 in
theorem rv_job:ReadsV Tryz.prog 48 Job.enc Job.wf 16 :=
  ⟨by kernel_rfl,by omega,fun {_ _ _ _ _ _ _ cs _} h=>by
    have hlen:=struct_len Tryz.underlying48 h
    rw [show Tryz.prog.cellsOf 48=16 by kernel_rfl] at hlen
    obtain ⟨k0,o0,l0,e0⟩:=struct_part Tryz.underlying48 h 0 rfl rv_U8
    obtain ⟨k1,o1,l1,e1⟩:=struct_part Tryz.underlying48 h 1 rfl rv_Int
    obtain ⟨k2,o2,l2,e2⟩:=struct_part Tryz.underlying48 h 2 rfl rv_Int
    obtain ⟨k3,o3,l3,e3⟩:=struct_part Tryz.underlying48 h 3 rfl rv_Int
    obtain ⟨k4,o4,l4,e4⟩:=struct_part Tryz.underlying48 h 4 rfl rv_Int
    obtain ⟨k5,o5,l5,e5⟩:=struct_part Tryz.underlying48 h 5 rfl rv_Int
    obtain ⟨k6,o6,l6,e6⟩:=struct_part Tryz.underlying48 h 6 rfl rv_deed
    obtain ⟨k7,o7,l7,e7⟩:=struct_part Tryz.underlying48 h 7 rfl rv_sheet
    obtain ⟨k8,o8,l8,e8⟩:=struct_part Tryz.underlying48 h 8 rfl rv_Rows
    refine ⟨⟨k0,k1,k2,k3,k4,k5,k6,k7,k8⟩,⟨o0,o1,o2,o3,o4,o5,o6,o7,o8⟩,hlen,hlen.symm,fun j x u hx hu=>?_⟩
    match j,hx with
    | 0,hx=>cases hx;exact cells_one e0 rfl hu
    | 1,hx=>cases hx;exact cells_one e1 rfl hu
    | 2,hx=>cases hx;exact cells_one e2 rfl hu
    | 3,hx=>cases hx;exact cells_one e3 rfl hu
    | 4,hx=>cases hx;exact cells_one e4 rfl hu
    | 5,hx=>cases hx;exact cells_one e5 rfl hu
    | 6,hx=>cases hx;exact e6.2 0 _ u rfl (by simpa using hu)
    | 7,hx=>cases hx;exact e6.2 1 _ u rfl (by simpa using hu)
    | 8,hx=>cases hx;exact e6.2 2 _ u rfl (by simpa using hu)
    | 9,hx=>cases hx;exact e6.2 3 _ u rfl (by simpa using hu)
    | 10,hx=>cases hx;exact e7.2 0 _ u rfl (by simpa using hu)
    | 11,hx=>cases hx;exact e7.2 1 _ u rfl (by simpa using hu)
    | 12,hx=>cases hx;exact e7.2 2 _ u rfl (by simpa using hu)
    | 13,hx=>cases hx;exact e7.2 3 _ u rfl (by simpa using hu)
    | 14,hx=>cases hx;exact e7.2 4 _ u rfl (by simpa using hu)
    | 15,hx=>cases hx;exact cells_one e8 rfl hu
    | j+16,hx=>simp [Job.enc,cells_agg] at hx⟩
end Go.Proofs.YtbilpbabdgfblaaGreat
-- old go
namespace Go.Proofs.YtbilpbabdgfblaaGreat
open Go.RowKit
def tgT (l:List Prt):Nat→List (Int × Int)
  | 0=>[]
  | k+1=>putE (tgT l k) (el l k).plate (usedP l (el l k).plate k+1)
def tgD (l:List (Int × Int)) (q:Int):Int:=(getE l q).getD 0
theorem tgD_put (l:List (Int × Int)) (a b v:Int):tgD (putE l a v) b=if b=a then v else tgD l b:=by
  unfold tgD
  rw [getE_put]
  split<;>rfl
theorem tgD_eq (l:List Prt) (q:Int):∀ k,tgD (tgT l k) q=usedP l q k
  | 0=>rfl
  | k+1=>by
    rw [tgT,tgD_put]
    by_cases e:q=(el l k).plate
    · subst e
      rw [if_pos rfl,usedP_yes rfl]
    · rw [if_neg e,tgD_eq l q k,usedP_no (fun h=>e h.symm)]
end Go.Proofs.YtbilpbabdgfblaaGreat
