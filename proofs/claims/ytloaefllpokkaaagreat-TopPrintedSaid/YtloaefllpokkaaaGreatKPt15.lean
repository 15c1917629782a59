/- Parts of the proof: contracts of functions. No condition. -/
import Derived.Test.YtloaefllpokkaaaGreatKPt14
set_option maxHeartbeats 16000000
set_option linter.unusedSimpArgs false
set_option linter.unusedVariables false
namespace Go.Proofs.YtloaefllpokkaaaGreat
open Go.RowKit
def actE (s:Sto) (a:Deed):Int :=
  if a.kind=1 then engrE s else if a.kind=2 then transE s a.item else if a.kind=3 then moveE s a.item a.dest else if a.kind=4 then printE s a.item a.n else if a.kind=5 then spendE s a.item a.n else if a.kind=6 then spendE s a.item a.n else if a.kind=7 then destE s a.item else 2
def actF (s:Sto) (a:Deed):Sto :=
  if a.kind=1 then addS s newDie else if a.kind=2 then transF s a.item else if a.kind=3 then moveF s a.item a.dest else if a.kind=4 then printF s a.item a.n else if a.kind=5 then spendF s a.item a.n 1 else if a.kind=6 then spendF s a.item a.n 2 else destF s a.item
def actP (s:Sto) (p:List (Int × Int)) (a:Deed):List (Int × Int):=if a.kind=3 then moveP p (el s.items a.item.toNat) a.item a.dest else p
def actH (s:Sto) (p:List (Int × Int)) (a:Deed):Heap :=
  if a.kind=1∨a.kind=2 then WI (actF s a) (actP s p a) else if a.kind=4 then WP (actF s a) (actP s p a) else stoB 0 (actF s a) (actP s p a)
def DoR (s:Sto) (p:List (Int × Int)) (a:Deed) (v:V) (H:Heap):Prop:=(actE s a=0∧v=vi 0∧H=actH s p a)∨(actE s a≠0∧v=vi (actE s a)∧H=[.dead,.dead,.dead,.dead])
theorem set_get {α:Type}{l:List α}{i:Nat}{x y:α}(h:l[i]?=some y):(l.set i x)[i]?=some x:=by
  have:i<l.length:=(List.getElem?_eq_some_iff.1 h).1
  simp [this]
theorem join_out {σ fr:List Nat}{H H1:Heap}{k:Nat}{b:Blk}(h:H[k]?=some b) (h1:fr.contains k=false) (h2:σ.idxOf? k=none):(joinH σ fr H H1)[k]?=some b:=by
  unfold joinH
  have e:(joinAt σ fr (rn σ H.length) H1 0 H)[k]?=some b:=by
    rw [joinAt_get,h,Nat.zero_add]
    show some (pickB _ _ _ _ _ _)=some b
    unfold pickB
    rw [h1,h2]
    rfl
  rw [List.getElem?_append_left (List.getElem?_eq_some_iff.1 e).1]
  exact e
theorem try_ret {_sz:Nat}{H:Heap}{e:Int}{R:V→Heap→Prop}(hH:H[5]?=some (.arr 1 1 (fun _=>vi e))) (hR:R (vi e) H):DCalls Tryz.prog 113 [.ptr 1 5 0 0] H none fun H'=>∃ v,ResV Tryz.prog [(4,.ptr 1 5 0 0)] H' Tryz.f110.results v∧R v H' :=
  (Pn.do1_ret H _).mono fun _ h=>by subst h;exact ⟨vi e,.inl ⟨_,rfl,⟨_,1,5,0,0,1,_,ty rfl,rfl,hH,Nat.one_pos,rfl⟩⟩,hR⟩
theorem try_pan {H:Heap}{e:Int}{R:V→Heap→Prop}(hH:H[5]?=some (.arr 1 1 (fun _=>vi 0))) (hR:R (vi e) (H.set 5 (.arr 1 1 (fun _=>vi e)))):DCalls Tryz.prog 113 [.ptr 1 5 0 0] H (some (errV e)) fun H'=>∃ v,ResV Tryz.prog [(4,.ptr 1 5 0 0)] H' Tryz.f110.results v∧R v H' :=
  (Pn.do1_pan H 5 e 0 hH).mono fun H' h=>by subst h;exact ⟨vi e,.inl ⟨_,rfl,⟨_,1,5,0,0,1,_,ty rfl,rfl,set_get hH,Nat.one_pos,rfl⟩⟩,hR⟩
section
variable {a0 a1 a2 a3 X4 X5 X6:Blk}{F:Sto}{p:List (Int × Int)}
theorem joinWI:joinH [0,1,2,3] [] [a0,a1,a2,a3,X4,X5,X6] (WI F p)=[.arr 4 1 (fun _=>stoG 7 2 F),.dead,LB 2 Prt.enc F.prints,mapE vi p,X4,X5,X6,LB 5 Itm.enc F.items]:=by
  unfold WI
  rw [join4 (dc rfl),mapE_ren]
  rfl
theorem joinWP:joinH [0,1,2,3] [] [a0,a1,a2,a3,X4,X5,X6] (WP F p)=[.arr 4 1 (fun _=>stoG 1 7 F),LB 5 Itm.enc F.items,.dead,mapE vi p,X4,X5,X6,LB 2 Prt.enc F.prints]:=by
  unfold WP
  rw [join4 (dc rfl),mapE_ren]
  rfl
theorem joinST:joinH [0,1,2,3] [] [a0,a1,a2,a3,X4,X5,X6] (stoB 0 F p)=[.arr 4 1 (fun _=>stoV 0 F),LB 5 Itm.enc F.items,LB 2 Prt.enc F.prints,mapE vi p,X4,X5,X6]:=by
  rw [show stoB 0 F p=[.arr 4 1 (fun _=>stoV 0 F),LB 5 Itm.enc F.items,LB 2 Prt.enc F.prints,mapE vi p] from rfl,join4 (dc rfl),mapE_ren]
  rfl
theorem endWI:SubOf 4 1 [(0,vi 0)] [.arr 4 1 (fun _=>stoG 7 2 F),.dead,LB 2 Prt.enc F.prints,mapE vi p,X4,X5,X6,LB 5 Itm.enc F.items] [(0,vi 0)] (WI F p):=by
  unfold WI
  (exact zsc [some 0,some 1,some 2,some 3,some 7] [])
theorem endWP:SubOf 4 1 [(0,vi 0)] [.arr 4 1 (fun _=>stoG 1 7 F),LB 5 Itm.enc F.items,.dead,mapE vi p,X4,X5,X6,LB 2 Prt.enc F.prints] [(0,vi 0)] (WP F p):=by
  unfold WP
  (exact zsc [some 0,some 1,some 2,some 3,some 7] [])
theorem endST:SubOf 4 1 [(0,vi 0)] [.arr 4 1 (fun _=>stoV 0 F),LB 5 Itm.enc F.items,LB 2 Prt.enc F.prints,mapE vi p,X4,X5,X6] [(0,vi 0)] (stoB 0 F p):=by
  show SubOf 4 1 _ _ _ [.arr 4 1 (fun _=>stoV 0 F),LB 5 Itm.enc F.items,LB 2 Prt.enc F.prints,mapE vi p]
  (exact zsc [some 0,some 1,some 2,some 3] [])
end
section
variable {r:Option Nat}{m nt i d:Nat}{Q:Post}{env:Env}{ops:Array Oper}{L:List Stp}{ty:TypeId}{pos:String}{after:Array Edge}{ats:Array TypeId}{x y z:Operand}
theorem ar_act {s:Sto}{p:List (Int × Int)}{X4 X5 X6:Blk}{A:V}{f:FuncId}{E:Int}{Hn:Heap}(hfn:FnOk Tryz.prog f) (h:ACalls Tryz.prog f [.ptr 4 0 0 0,A] (stoB 0 s p) (fun v H=>E=0∧v=.tup []∧H=Hn) (fun v _=>E≠0∧v=errV E)) (hA:A.closed=true)
    (h1:E=0→AR Tryz.prog r m nt ops Q L ((d,.tup [])::env) (joinH [0,1,2,3] [] [.arr 4 1 (fun _=>stoV 0 s),LB 5 Itm.enc s.items,LB 2 Prt.enc s.prints,mapE vi p,X4,X5,X6] Hn))
    (h2:E≠0→∀ H1,Q (.panic (errV E)) [] (joinH [0,1,2,3] [] [.arr 4 1 (fun _=>stoV 0 s),LB 5 Itm.enc s.items,LB 2 Prt.enc s.prints,mapE vi p,X4,X5,X6] H1))
    (hz:eo env z=some (.fn (.func f) [] [])) (hx:eo env x=some (.ptr 4 0 0 0)) (hy:eo env y=some A) (hd:d<nt) :
    AR Tryz.prog r m nt ops Q (.l i ⟨some d,.call ⟨.value z,#[x,y],ats⟩,ty,pos,after,none⟩ false::L) env [.arr 4 1 (fun _=>stoV 0 s),LB 5 Itm.enc s.items,LB 2 Prt.enc s.prints,mapE vi p,X4,X5,X6]:=by
  refine ar_gcall (H0:=stoB 0 s p) [0,1,2,3] [] (args:=[x,y]) (vs:=[.ptr 4 0 0 0,A]) (first:=[]) (cap:=[]) hfn hz (by rw [List.mapM_cons,List.mapM_cons,List.mapM_nil,hx,hy];rfl) (xs:=[.ptr 4 0 0 0,A]) ⟨.ptr rfl,.closed hA,trivial⟩ rfl (by decide) (fun _ h=>by cases h) (hsub4 rfl rfl rfl rfl) stoB_live h hd ?_ ?_
  · rintro _ _ ⟨hh,rfl,rfl⟩
    exact h1 hh
  · rintro _ _ ⟨hh,rfl⟩
    exact h2 hh _
end
theorem do_end {s:Sto}{p:List (Int × Int)}{a:Deed}{H Hn:Heap}{E:Int}(h5:H[5]?=some (.arr 1 1 (fun _=>vi 0))) (hs:SubOf 4 1 [(0,vi 0)] H [(0,vi 0)] Hn) (h0:E=0) (hE:actE s a=E) (hH:actH s p a=Hn) :
    DCalls Tryz.prog 113 [.ptr 1 5 0 0] H none fun H'=>∃ v,ResV Tryz.prog [(4,.ptr 1 5 0 0)] H' Tryz.f110.results v∧∃ v' H'',SubOf 4 1 [(0,v)] H' [(0,v')] H''∧DoR s p a v' H'' :=
  try_ret (_sz:=1) h5 ⟨vi 0,Hn,hs,.inl ⟨by rw [hE,h0],rfl,hH.symm⟩⟩
theorem sub_dead {H:Heap}{e:Int}(h:4≤H.length):SubOf 4 1 [(0,vi e)] H [(0,vi e)] [.dead,.dead,.dead,.dead]:=by
  match H,h with
  | a::b::c::d::L,_=>(exact zsc [some 0,some 1,some 2,some 3] [])
theorem do_bad {s:Sto}{p:List (Int × Int)}{a:Deed}{H:Heap}{E:Int}(h5:H[5]?=some (.arr 1 1 (fun _=>vi 0))) (h0:E≠0) (hE:actE s a=E) :
    DCalls Tryz.prog 113 [.ptr 1 5 0 0] H (some (errV E)) fun H'=>∃ v,ResV Tryz.prog [(4,.ptr 1 5 0 0)] H' Tryz.f110.results v∧∃ v' H'',SubOf 4 1 [(0,v)] H' [(0,v')] H''∧DoR s p a v' H'' :=
  try_pan h5 ⟨vi E,_,sub_dead (by rw [List.length_set];exact (Nat.le_of_lt (by have:=(List.getElem?_eq_some_iff.1 h5).1;omega))),.inr ⟨by rw [hE];exact h0,by rw [hE],rfl⟩⟩
namespace Pn
theorem do1_p (s:Sto) (p:List (Int × Int)) (a:Deed) (hk:a.kind=1) (hV:Valid s) (_hP:PressOk s.items p):ACalls Tryz.prog 110 [.ptr 4 0 0 0,a.enc] (stoB 0 s p) (DoR s p a) NoP:=by
  have hn:=hV.1.2.1
  have hE:actE s a=engrE s:=by unfold actE;rw [hk];rfl
  have hF:actH s p a=WI (addS s newDie) p:=by unfold actH actF actP;rw [hk];rfl
  have hc:=engrave_p s p a hn
  refine acalls_sub (R:=fun v H'=>∃ v' H'',SubOf 4 1 [(0,v)] H' [(0,v')] H''∧DoR s p a v' H'') (Rp:=NoP) ?_ (fun _ _ h=>h) (fun _ _ h=>h.elim)
  refine acalls_of_try Tryz.func110 rfl Tryz.func113 rfl (by kernel_rfl) (dc rfl) (dc rfl) (by decide) ?_
  have ha:a.enc=.agg [vu8 1,vi a.item,vi a.dest,vi a.n]:=by unfold Deed.enc;rw [hk]
  rw [ha] at hc ⊢
  refine Go.Proofs.YtloaefllpokkaaaGreat.aw_region ?_
  (repeat' (first|refine zq ?_|(refine zxl ?_;intro _ _ _)|(refine zxs ?_;intro _ _ _)|refine zbx ?_|refine zal ?_|refine zsvs ?_|refine zsva ?_|refine zses ?_|refine zsea ?_|refine zg ?_ ?_|refine zgu ?_|refine ar_nil ?_|refine aw_seq ?_|refine aw_skip ?_|refine aw_block ?_|refine aw_exit ?_|refine aw_region ?_|refine aw_drawn (id:=5) [(0,0),(1,0),(2,0),(3,0),(4,0),(5,0),(6,1)] mixed (by kernel_rfl) ?_|refine aw_drawn (id:=5) [(0,0),(1,0),(2,0),(3,0),(4,0),(5,0),(6,2)] mixed (by kernel_rfl) ?_|refine zco ?_ ?_|exact zd|(refine fun (hg:(_:Prop))=>?_;(try replace hg:=HG.out hg);(try dsimp only at hg);(try (have _h:True:=hg;clear _h hg)))))
  refine ⟨1,5,0,0,rfl,?_⟩
  refine aw_sub (m:=6) (env':=[(0,.ptr 4 0 0 0),(3,.ptr 4 4 0 0),(4,.ptr 1 5 0 0)]) (H':=[.arr 4 1 (fun _=>stoV 0 s),LB 5 Itm.enc s.items,LB 2 Prt.enc s.prints,mapE vi p,.arr 4 1 (fun _=>.agg [vu8 1,vi a.item,vi a.dest,vi a.n]),.arr 1 1 (fun _=>vi 0)]) ?_ ?_
  · (exact zsc [some 0,some 1,some 2,some 3,some 4,some 5] [])
  (repeat' (first|refine zq ?_|(refine zxl ?_;intro _ _ _)|(refine zxs ?_;intro _ _ _)|(refine zpv fn114 (doers_p) ?_)|refine ar_q (qs_funcIsNil (ty rfl) rfl rfl) (dc rfl) ?_|refine ar_q (qs_iaddr_aptr (j:=1) (ty rfl) rfl (ty rfl) rfl rfl rfl (dc rfl)) (dc rfl) ?_|((refine ar_act fn115 hc rfl ?_ ?_ rfl rfl rfl (dc rfl)<;>intro hrf))|refine zbx ?_|refine zal ?_|refine zsvs ?_|refine zsva ?_|refine zses ?_|refine zsea ?_|refine zg ?_ ?_|refine zgu ?_|refine ar_nil ?_|refine aw_seq ?_|refine aw_skip ?_|refine aw_block ?_|refine aw_exit ?_|refine aw_region ?_|refine aw_drawn (id:=5) [(0,0),(1,0),(2,0),(3,0),(4,0),(5,0),(6,2)] mixed (by kernel_rfl) ?_|refine aw_drawn (id:=5) [(0,0),(1,0),(2,0),(3,0),(4,0),(5,0),(6,1)] mixed (by kernel_rfl) ?_|refine zco ?_ ?_|exact zd|(refine fun (hg:(_:Prop))=>?_;(try replace hg:=HG.out hg);(try dsimp only at hg);(try (have _h:True:=hg;clear _h hg)))))
  · rw [joinWI]
    (repeat' (first|refine zq ?_|(refine zxl ?_;intro _ _ _)|(refine zxs ?_;intro _ _ _)|refine zbx ?_|refine zal ?_|refine zsvs ?_|refine zsva ?_|refine zses ?_|refine zsea ?_|refine zg ?_ ?_|refine zgu ?_|refine ar_nil ?_|refine aw_seq ?_|refine aw_skip ?_|refine aw_block ?_|refine aw_exit ?_|refine aw_region ?_|refine aw_drawn (id:=5) [(0,0),(1,0),(2,0),(3,0),(4,0),(5,0),(6,1)] mixed (by kernel_rfl) ?_|refine aw_drawn (id:=5) [(0,0),(1,0),(2,0),(3,0),(4,0),(5,0),(6,2)] mixed (by kernel_rfl) ?_|refine zco ?_ ?_|exact zd|(refine fun (hg:(_:Prop))=>?_;(try replace hg:=HG.out hg);(try dsimp only at hg);(try (have _h:True:=hg;clear _h hg)))))
    exact aw_ret (do_end rfl endWI hrf hE hF)
  · intro H1
    exact do_bad (join_out rfl rfl rfl) hrf hE
theorem do2_p (s:Sto) (p:List (Int × Int)) (a:Deed) (hk:a.kind=2) (hV:Valid s) (_hP:PressOk s.items p):ACalls Tryz.prog 110 [.ptr 4 0 0 0,a.enc] (stoB 0 s p) (DoR s p a) NoP:=by
  have hn:=hV.1.2.1
  have hE:actE s a=transE s a.item:=by unfold actE;rw [hk];rfl
  have hF:actH s p a=WI (transF s a.item) p:=by unfold actH actF actP;rw [hk];rfl
  have hc:=transfer_p s p a hV
  refine acalls_sub (R:=fun v H'=>∃ v' H'',SubOf 4 1 [(0,v)] H' [(0,v')] H''∧DoR s p a v' H'') (Rp:=NoP) ?_ (fun _ _ h=>h) (fun _ _ h=>h.elim)
  refine acalls_of_try Tryz.func110 rfl Tryz.func113 rfl (by kernel_rfl) (dc rfl) (dc rfl) (by decide) ?_
  have ha:a.enc=.agg [vu8 2,vi a.item,vi a.dest,vi a.n]:=by unfold Deed.enc;rw [hk]
  rw [ha] at hc ⊢
  refine Go.Proofs.YtloaefllpokkaaaGreat.aw_region ?_
  (repeat' (first|refine zq ?_|(refine zxl ?_;intro _ _ _)|(refine zxs ?_;intro _ _ _)|refine zbx ?_|refine zal ?_|refine zsvs ?_|refine zsva ?_|refine zses ?_|refine zsea ?_|refine zg ?_ ?_|refine zgu ?_|refine ar_nil ?_|refine aw_seq ?_|refine aw_skip ?_|refine aw_block ?_|refine aw_exit ?_|refine aw_region ?_|refine aw_drawn (id:=5) [(0,0),(1,0),(2,0),(3,0),(4,0),(5,0),(6,1)] mixed (by kernel_rfl) ?_|refine aw_drawn (id:=5) [(0,0),(1,0),(2,0),(3,0),(4,0),(5,0),(6,2)] mixed (by kernel_rfl) ?_|refine zco ?_ ?_|exact zd|(refine fun (hg:(_:Prop))=>?_;(try replace hg:=HG.out hg);(try dsimp only at hg);(try (have _h:True:=hg;clear _h hg)))))
  refine ⟨1,5,0,0,rfl,?_⟩
  refine aw_sub (m:=6) (env':=[(0,.ptr 4 0 0 0),(3,.ptr 4 4 0 0),(4,.ptr 1 5 0 0)]) (H':=[.arr 4 1 (fun _=>stoV 0 s),LB 5 Itm.enc s.items,LB 2 Prt.enc s.prints,mapE vi p,.arr 4 1 (fun _=>.agg [vu8 2,vi a.item,vi a.dest,vi a.n]),.arr 1 1 (fun _=>vi 0)]) ?_ ?_
  · (exact zsc [some 0,some 1,some 2,some 3,some 4,some 5] [])
  (repeat' (first|refine zq ?_|(refine zxl ?_;intro _ _ _)|(refine zxs ?_;intro _ _ _)|(refine zpv fn114 (doers_p) ?_)|refine ar_q (qs_funcIsNil (ty rfl) rfl rfl) (dc rfl) ?_|refine ar_q (qs_iaddr_aptr (j:=2) (ty rfl) rfl (ty rfl) rfl rfl rfl (dc rfl)) (dc rfl) ?_|((refine ar_act fn116 hc rfl ?_ ?_ rfl rfl rfl (dc rfl)<;>intro hrf))|refine zbx ?_|refine zal ?_|refine zsvs ?_|refine zsva ?_|refine zses ?_|refine zsea ?_|refine zg ?_ ?_|refine zgu ?_|refine ar_nil ?_|refine aw_seq ?_|refine aw_skip ?_|refine aw_block ?_|refine aw_exit ?_|refine aw_region ?_|refine aw_drawn (id:=5) [(0,0),(1,0),(2,0),(3,0),(4,0),(5,0),(6,2)] mixed (by kernel_rfl) ?_|refine aw_drawn (id:=5) [(0,0),(1,0),(2,0),(3,0),(4,0),(5,0),(6,1)] mixed (by kernel_rfl) ?_|refine zco ?_ ?_|exact zd|(refine fun (hg:(_:Prop))=>?_;(try replace hg:=HG.out hg);(try dsimp only at hg);(try (have _h:True:=hg;clear _h hg)))))
  · rw [joinWI]
    (repeat' (first|refine zq ?_|(refine zxl ?_;intro _ _ _)|(refine zxs ?_;intro _ _ _)|refine zbx ?_|refine zal ?_|refine zsvs ?_|refine zsva ?_|refine zses ?_|refine zsea ?_|refine zg ?_ ?_|refine zgu ?_|refine ar_nil ?_|refine aw_seq ?_|refine aw_skip ?_|refine aw_block ?_|refine aw_exit ?_|refine aw_region ?_|refine aw_drawn (id:=5) [(0,0),(1,0),(2,0),(3,0),(4,0),(5,0),(6,1)] mixed (by kernel_rfl) ?_|refine aw_drawn (id:=5) [(0,0),(1,0),(2,0),(3,0),(4,0),(5,0),(6,2)] mixed (by kernel_rfl) ?_|refine zco ?_ ?_|exact zd|(refine fun (hg:(_:Prop))=>?_;(try replace hg:=HG.out hg);(try dsimp only at hg);(try (have _h:True:=hg;clear _h hg)))))
    exact aw_ret (do_end rfl endWI hrf hE hF)
  · intro H1
    exact do_bad (join_out rfl rfl rfl) hrf hE
theorem do3_p (s:Sto) (p:List (Int × Int)) (a:Deed) (hk:a.kind=3) (hV:Valid s) (hP:PressOk s.items p):ACalls Tryz.prog 110 [.ptr 4 0 0 0,a.enc] (stoB 0 s p) (DoR s p a) NoP:=by
  have hn:=hV.1.2.1
  have hE:actE s a=moveE s a.item a.dest:=by unfold actE;rw [hk];rfl
  have hF:actH s p a=stoB 0 (moveF s a.item a.dest) (moveP p (el s.items a.item.toNat) a.item a.dest):=by unfold actH actF actP;rw [hk];rfl
  have hc:=move_p s p a hV hP
  refine acalls_sub (R:=fun v H'=>∃ v' H'',SubOf 4 1 [(0,v)] H' [(0,v')] H''∧DoR s p a v' H'') (Rp:=NoP) ?_ (fun _ _ h=>h) (fun _ _ h=>h.elim)
  refine acalls_of_try Tryz.func110 rfl Tryz.func113 rfl (by kernel_rfl) (dc rfl) (dc rfl) (by decide) ?_
  have ha:a.enc=.agg [vu8 3,vi a.item,vi a.dest,vi a.n]:=by unfold Deed.enc;rw [hk]
  rw [ha] at hc ⊢
  refine Go.Proofs.YtloaefllpokkaaaGreat.aw_region ?_
  (repeat' (first|refine zq ?_|(refine zxl ?_;intro _ _ _)|(refine zxs ?_;intro _ _ _)|refine zbx ?_|refine zal ?_|refine zsvs ?_|refine zsva ?_|refine zses ?_|refine zsea ?_|refine zg ?_ ?_|refine zgu ?_|refine ar_nil ?_|refine aw_seq ?_|refine aw_skip ?_|refine aw_block ?_|refine aw_exit ?_|refine aw_region ?_|refine aw_drawn (id:=5) [(0,0),(1,0),(2,0),(3,0),(4,0),(5,0),(6,1)] mixed (by kernel_rfl) ?_|refine aw_drawn (id:=5) [(0,0),(1,0),(2,0),(3,0),(4,0),(5,0),(6,2)] mixed (by kernel_rfl) ?_|refine zco ?_ ?_|exact zd|(refine fun (hg:(_:Prop))=>?_;(try replace hg:=HG.out hg);(try dsimp only at hg);(try (have _h:True:=hg;clear _h hg)))))
  refine ⟨1,5,0,0,rfl,?_⟩
  refine aw_sub (m:=6) (env':=[(0,.ptr 4 0 0 0),(3,.ptr 4 4 0 0),(4,.ptr 1 5 0 0)]) (H':=[.arr 4 1 (fun _=>stoV 0 s),LB 5 Itm.enc s.items,LB 2 Prt.enc s.prints,mapE vi p,.arr 4 1 (fun _=>.agg [vu8 3,vi a.item,vi a.dest,vi a.n]),.arr 1 1 (fun _=>vi 0)]) ?_ ?_
  · (exact zsc [some 0,some 1,some 2,some 3,some 4,some 5] [])
  (repeat' (first|refine zq ?_|(refine zxl ?_;intro _ _ _)|(refine zxs ?_;intro _ _ _)|(refine zpv fn114 (doers_p) ?_)|refine ar_q (qs_funcIsNil (ty rfl) rfl rfl) (dc rfl) ?_|refine ar_q (qs_iaddr_aptr (j:=3) (ty rfl) rfl (ty rfl) rfl rfl rfl (dc rfl)) (dc rfl) ?_|((refine ar_act fn117 hc rfl ?_ ?_ rfl rfl rfl (dc rfl)<;>intro hrf))|refine zbx ?_|refine zal ?_|refine zsvs ?_|refine zsva ?_|refine zses ?_|refine zsea ?_|refine zg ?_ ?_|refine zgu ?_|refine ar_nil ?_|refine aw_seq ?_|refine aw_skip ?_|refine aw_block ?_|refine aw_exit ?_|refine aw_region ?_|refine aw_drawn (id:=5) [(0,0),(1,0),(2,0),(3,0),(4,0),(5,0),(6,2)] mixed (by kernel_rfl) ?_|refine aw_drawn (id:=5) [(0,0),(1,0),(2,0),(3,0),(4,0),(5,0),(6,1)] mixed (by kernel_rfl) ?_|refine zco ?_ ?_|exact zd|(refine fun (hg:(_:Prop))=>?_;(try replace hg:=HG.out hg);(try dsimp only at hg);(try (have _h:True:=hg;clear _h hg)))))
  · rw [joinST]
    (repeat' (first|refine zq ?_|(refine zxl ?_;intro _ _ _)|(refine zxs ?_;intro _ _ _)|refine zbx ?_|refine zal ?_|refine zsvs ?_|refine zsva ?_|refine zses ?_|refine zsea ?_|refine zg ?_ ?_|refine zgu ?_|refine ar_nil ?_|refine aw_seq ?_|refine aw_skip ?_|refine aw_block ?_|refine aw_exit ?_|refine aw_region ?_|refine aw_drawn (id:=5) [(0,0),(1,0),(2,0),(3,0),(4,0),(5,0),(6,1)] mixed (by kernel_rfl) ?_|refine aw_drawn (id:=5) [(0,0),(1,0),(2,0),(3,0),(4,0),(5,0),(6,2)] mixed (by kernel_rfl) ?_|refine zco ?_ ?_|exact zd|(refine fun (hg:(_:Prop))=>?_;(try replace hg:=HG.out hg);(try dsimp only at hg);(try (have _h:True:=hg;clear _h hg)))))
    exact aw_ret (do_end rfl endST hrf hE hF)
  · intro H1
    exact do_bad (join_out rfl rfl rfl) hrf hE
theorem do4_p (s:Sto) (p:List (Int × Int)) (a:Deed) (hk:a.kind=4) (hV:Valid s) (_hP:PressOk s.items p):ACalls Tryz.prog 110 [.ptr 4 0 0 0,a.enc] (stoB 0 s p) (DoR s p a) NoP:=by
  have hn:=hV.1.2.1
  have hE:actE s a=printE s a.item a.n:=by unfold actE;rw [hk];rfl
  have hF:actH s p a=WP (printF s a.item a.n) p:=by unfold actH actF actP;rw [hk];rfl
  have hc:=print_p s p a hV
  refine acalls_sub (R:=fun v H'=>∃ v' H'',SubOf 4 1 [(0,v)] H' [(0,v')] H''∧DoR s p a v' H'') (Rp:=NoP) ?_ (fun _ _ h=>h) (fun _ _ h=>h.elim)
  refine acalls_of_try Tryz.func110 rfl Tryz.func113 rfl (by kernel_rfl) (dc rfl) (dc rfl) (by decide) ?_
  have ha:a.enc=.agg [vu8 4,vi a.item,vi a.dest,vi a.n]:=by unfold Deed.enc;rw [hk]
  rw [ha] at hc ⊢
  refine Go.Proofs.YtloaefllpokkaaaGreat.aw_region ?_
  (repeat' (first|refine zq ?_|(refine zxl ?_;intro _ _ _)|(refine zxs ?_;intro _ _ _)|refine zbx ?_|refine zal ?_|refine zsvs ?_|refine zsva ?_|refine zses ?_|refine zsea ?_|refine zg ?_ ?_|refine zgu ?_|refine ar_nil ?_|refine aw_seq ?_|refine aw_skip ?_|refine aw_block ?_|refine aw_exit ?_|refine aw_region ?_|refine aw_drawn (id:=5) [(0,0),(1,0),(2,0),(3,0),(4,0),(5,0),(6,1)] mixed (by kernel_rfl) ?_|refine aw_drawn (id:=5) [(0,0),(1,0),(2,0),(3,0),(4,0),(5,0),(6,2)] mixed (by kernel_rfl) ?_|refine zco ?_ ?_|exact zd|(refine fun (hg:(_:Prop))=>?_;(try replace hg:=HG.out hg);(try dsimp only at hg);(try (have _h:True:=hg;clear _h hg)))))
  refine ⟨1,5,0,0,rfl,?_⟩
  refine aw_sub (m:=6) (env':=[(0,.ptr 4 0 0 0),(3,.ptr 4 4 0 0),(4,.ptr 1 5 0 0)]) (H':=[.arr 4 1 (fun _=>stoV 0 s),LB 5 Itm.enc s.items,LB 2 Prt.enc s.prints,mapE vi p,.arr 4 1 (fun _=>.agg [vu8 4,vi a.item,vi a.dest,vi a.n]),.arr 1 1 (fun _=>vi 0)]) ?_ ?_
  · (exact zsc [some 0,some 1,some 2,some 3,some 4,some 5] [])
  (repeat' (first|refine zq ?_|(refine zxl ?_;intro _ _ _)|(refine zxs ?_;intro _ _ _)|(refine zpv fn114 (doers_p) ?_)|refine ar_q (qs_funcIsNil (ty rfl) rfl rfl) (dc rfl) ?_|refine ar_q (qs_iaddr_aptr (j:=4) (ty rfl) rfl (ty rfl) rfl rfl rfl (dc rfl)) (dc rfl) ?_|((refine ar_act fn118 hc rfl ?_ ?_ rfl rfl rfl (dc rfl)<;>intro hrf))|refine zbx ?_|refine zal ?_|refine zsvs ?_|refine zsva ?_|refine zses ?_|refine zsea ?_|refine zg ?_ ?_|refine zgu ?_|refine ar_nil ?_|refine aw_seq ?_|refine aw_skip ?_|refine aw_block ?_|refine aw_exit ?_|refine aw_region ?_|refine aw_drawn (id:=5) [(0,0),(1,0),(2,0),(3,0),(4,0),(5,0),(6,2)] mixed (by kernel_rfl) ?_|refine aw_drawn (id:=5) [(0,0),(1,0),(2,0),(3,0),(4,0),(5,0),(6,1)] mixed (by kernel_rfl) ?_|refine zco ?_ ?_|exact zd|(refine fun (hg:(_:Prop))=>?_;(try replace hg:=HG.out hg);(try dsimp only at hg);(try (have _h:True:=hg;clear _h hg)))))
  · rw [joinWP]
    (repeat' (first|refine zq ?_|(refine zxl ?_;intro _ _ _)|(refine zxs ?_;intro _ _ _)|refine zbx ?_|refine zal ?_|refine zsvs ?_|refine zsva ?_|refine zses ?_|refine zsea ?_|refine zg ?_ ?_|refine zgu ?_|refine ar_nil ?_|refine aw_seq ?_|refine aw_skip ?_|refine aw_block ?_|refine aw_exit ?_|refine aw_region ?_|refine aw_drawn (id:=5) [(0,0),(1,0),(2,0),(3,0),(4,0),(5,0),(6,1)] mixed (by kernel_rfl) ?_|refine aw_drawn (id:=5) [(0,0),(1,0),(2,0),(3,0),(4,0),(5,0),(6,2)] mixed (by kernel_rfl) ?_|refine zco ?_ ?_|exact zd|(refine fun (hg:(_:Prop))=>?_;(try replace hg:=HG.out hg);(try dsimp only at hg);(try (have _h:True:=hg;clear _h hg)))))
    exact aw_ret (do_end rfl endWP hrf hE hF)
  · intro H1
    exact do_bad (join_out rfl rfl rfl) hrf hE
theorem do5_p (s:Sto) (p:List (Int × Int)) (a:Deed) (hk:a.kind=5) (hV:Valid s) (_hP:PressOk s.items p):ACalls Tryz.prog 110 [.ptr 4 0 0 0,a.enc] (stoB 0 s p) (DoR s p a) NoP:=by
  have hn:=hV.1.2.1
  have hE:actE s a=spendE s a.item a.n:=by unfold actE;rw [hk];rfl
  have hF:actH s p a=stoB 0 (spendF s a.item a.n 1) p:=by unfold actH actF actP;rw [hk];rfl
  have hc:=issue_p s p a hV
  refine acalls_sub (R:=fun v H'=>∃ v' H'',SubOf 4 1 [(0,v)] H' [(0,v')] H''∧DoR s p a v' H'') (Rp:=NoP) ?_ (fun _ _ h=>h) (fun _ _ h=>h.elim)
  refine acalls_of_try Tryz.func110 rfl Tryz.func113 rfl (by kernel_rfl) (dc rfl) (dc rfl) (by decide) ?_
  have ha:a.enc=.agg [vu8 5,vi a.item,vi a.dest,vi a.n]:=by unfold Deed.enc;rw [hk]
  rw [ha] at hc ⊢
  refine Go.Proofs.YtloaefllpokkaaaGreat.aw_region ?_
  (repeat' (first|refine zq ?_|(refine zxl ?_;intro _ _ _)|(refine zxs ?_;intro _ _ _)|refine zbx ?_|refine zal ?_|refine zsvs ?_|refine zsva ?_|refine zses ?_|refine zsea ?_|refine zg ?_ ?_|refine zgu ?_|refine ar_nil ?_|refine aw_seq ?_|refine aw_skip ?_|refine aw_block ?_|refine aw_exit ?_|refine aw_region ?_|refine aw_drawn (id:=5) [(0,0),(1,0),(2,0),(3,0),(4,0),(5,0),(6,1)] mixed (by kernel_rfl) ?_|refine aw_drawn (id:=5) [(0,0),(1,0),(2,0),(3,0),(4,0),(5,0),(6,2)] mixed (by kernel_rfl) ?_|refine zco ?_ ?_|exact zd|(refine fun (hg:(_:Prop))=>?_;(try replace hg:=HG.out hg);(try dsimp only at hg);(try (have _h:True:=hg;clear _h hg)))))
  refine ⟨1,5,0,0,rfl,?_⟩
  refine aw_sub (m:=6) (env':=[(0,.ptr 4 0 0 0),(3,.ptr 4 4 0 0),(4,.ptr 1 5 0 0)]) (H':=[.arr 4 1 (fun _=>stoV 0 s),LB 5 Itm.enc s.items,LB 2 Prt.enc s.prints,mapE vi p,.arr 4 1 (fun _=>.agg [vu8 5,vi a.item,vi a.dest,vi a.n]),.arr 1 1 (fun _=>vi 0)]) ?_ ?_
  · (exact zsc [some 0,some 1,some 2,some 3,some 4,some 5] [])
  (repeat' (first|refine zq ?_|(refine zxl ?_;intro _ _ _)|(refine zxs ?_;intro _ _ _)|(refine zpv fn114 (doers_p) ?_)|refine ar_q (qs_funcIsNil (ty rfl) rfl rfl) (dc rfl) ?_|refine ar_q (qs_iaddr_aptr (j:=5) (ty rfl) rfl (ty rfl) rfl rfl rfl (dc rfl)) (dc rfl) ?_|((refine ar_act fn119 hc rfl ?_ ?_ rfl rfl rfl (dc rfl)<;>intro hrf))|refine zbx ?_|refine zal ?_|refine zsvs ?_|refine zsva ?_|refine zses ?_|refine zsea ?_|refine zg ?_ ?_|refine zgu ?_|refine ar_nil ?_|refine aw_seq ?_|refine aw_skip ?_|refine aw_block ?_|refine aw_exit ?_|refine aw_region ?_|refine aw_drawn (id:=5) [(0,0),(1,0),(2,0),(3,0),(4,0),(5,0),(6,2)] mixed (by kernel_rfl) ?_|refine aw_drawn (id:=5) [(0,0),(1,0),(2,0),(3,0),(4,0),(5,0),(6,1)] mixed (by kernel_rfl) ?_|refine zco ?_ ?_|exact zd|(refine fun (hg:(_:Prop))=>?_;(try replace hg:=HG.out hg);(try dsimp only at hg);(try (have _h:True:=hg;clear _h hg)))))
  · rw [joinST]
    (repeat' (first|refine zq ?_|(refine zxl ?_;intro _ _ _)|(refine zxs ?_;intro _ _ _)|refine zbx ?_|refine zal ?_|refine zsvs ?_|refine zsva ?_|refine zses ?_|refine zsea ?_|refine zg ?_ ?_|refine zgu ?_|refine ar_nil ?_|refine aw_seq ?_|refine aw_skip ?_|refine aw_block ?_|refine aw_exit ?_|refine aw_region ?_|refine aw_drawn (id:=5) [(0,0),(1,0),(2,0),(3,0),(4,0),(5,0),(6,1)] mixed (by kernel_rfl) ?_|refine aw_drawn (id:=5) [(0,0),(1,0),(2,0),(3,0),(4,0),(5,0),(6,2)] mixed (by kernel_rfl) ?_|refine zco ?_ ?_|exact zd|(refine fun (hg:(_:Prop))=>?_;(try replace hg:=HG.out hg);(try dsimp only at hg);(try (have _h:True:=hg;clear _h hg)))))
    exact aw_ret (do_end rfl endST hrf hE hF)
  · intro H1
    exact do_bad (join_out rfl rfl rfl) hrf hE
theorem do6_p (s:Sto) (p:List (Int × Int)) (a:Deed) (hk:a.kind=6) (hV:Valid s) (_hP:PressOk s.items p):ACalls Tryz.prog 110 [.ptr 4 0 0 0,a.enc] (stoB 0 s p) (DoR s p a) NoP:=by
  have hn:=hV.1.2.1
  have hE:actE s a=spendE s a.item a.n:=by unfold actE;rw [hk];rfl
  have hF:actH s p a=stoB 0 (spendF s a.item a.n 2) p:=by unfold actH actF actP;rw [hk];rfl
  have hc:=spoil_p s p a hV
  refine acalls_sub (R:=fun v H'=>∃ v' H'',SubOf 4 1 [(0,v)] H' [(0,v')] H''∧DoR s p a v' H'') (Rp:=NoP) ?_ (fun _ _ h=>h) (fun _ _ h=>h.elim)
  refine acalls_of_try Tryz.func110 rfl Tryz.func113 rfl (by kernel_rfl) (dc rfl) (dc rfl) (by decide) ?_
  have ha:a.enc=.agg [vu8 6,vi a.item,vi a.dest,vi a.n]:=by unfold Deed.enc;rw [hk]
  rw [ha] at hc ⊢
  refine Go.Proofs.YtloaefllpokkaaaGreat.aw_region ?_
  (repeat' (first|refine zq ?_|(refine zxl ?_;intro _ _ _)|(refine zxs ?_;intro _ _ _)|refine zbx ?_|refine zal ?_|refine zsvs ?_|refine zsva ?_|refine zses ?_|refine zsea ?_|refine zg ?_ ?_|refine zgu ?_|refine ar_nil ?_|refine aw_seq ?_|refine aw_skip ?_|refine aw_block ?_|refine aw_exit ?_|refine aw_region ?_|refine aw_drawn (id:=5) [(0,0),(1,0),(2,0),(3,0),(4,0),(5,0),(6,1)] mixed (by kernel_rfl) ?_|refine aw_drawn (id:=5) [(0,0),(1,0),(2,0),(3,0),(4,0),(5,0),(6,2)] mixed (by kernel_rfl) ?_|refine zco ?_ ?_|exact zd|(refine fun (hg:(_:Prop))=>?_;(try replace hg:=HG.out hg);(try dsimp only at hg);(try (have _h:True:=hg;clear _h hg)))))
  refine ⟨1,5,0,0,rfl,?_⟩
  refine aw_sub (m:=6) (env':=[(0,.ptr 4 0 0 0),(3,.ptr 4 4 0 0),(4,.ptr 1 5 0 0)]) (H':=[.arr 4 1 (fun _=>stoV 0 s),LB 5 Itm.enc s.items,LB 2 Prt.enc s.prints,mapE vi p,.arr 4 1 (fun _=>.agg [vu8 6,vi a.item,vi a.dest,vi a.n]),.arr 1 1 (fun _=>vi 0)]) ?_ ?_
  · (exact zsc [some 0,some 1,some 2,some 3,some 4,some 5] [])
  (repeat' (first|refine zq ?_|(refine zxl ?_;intro _ _ _)|(refine zxs ?_;intro _ _ _)|(refine zpv fn114 (doers_p) ?_)|refine ar_q (qs_funcIsNil (ty rfl) rfl rfl) (dc rfl) ?_|refine ar_q (qs_iaddr_aptr (j:=6) (ty rfl) rfl (ty rfl) rfl rfl rfl (dc rfl)) (dc rfl) ?_|((refine ar_act fn120 hc rfl ?_ ?_ rfl rfl rfl (dc rfl)<;>intro hrf))|refine zbx ?_|refine zal ?_|refine zsvs ?_|refine zsva ?_|refine zses ?_|refine zsea ?_|refine zg ?_ ?_|refine zgu ?_|refine ar_nil ?_|refine aw_seq ?_|refine aw_skip ?_|refine aw_block ?_|refine aw_exit ?_|refine aw_region ?_|refine aw_drawn (id:=5) [(0,0),(1,0),(2,0),(3,0),(4,0),(5,0),(6,2)] mixed (by kernel_rfl) ?_|refine aw_drawn (id:=5) [(0,0),(1,0),(2,0),(3,0),(4,0),(5,0),(6,1)] mixed (by kernel_rfl) ?_|refine zco ?_ ?_|exact zd|(refine fun (hg:(_:Prop))=>?_;(try replace hg:=HG.out hg);(try dsimp only at hg);(try (have _h:True:=hg;clear _h hg)))))
  · rw [joinST]
    (repeat' (first|refine zq ?_|(refine zxl ?_;intro _ _ _)|(refine zxs ?_;intro _ _ _)|refine zbx ?_|refine zal ?_|refine zsvs ?_|refine zsva ?_|refine zses ?_|refine zsea ?_|refine zg ?_ ?_|refine zgu ?_|refine ar_nil ?_|refine aw_seq ?_|refine aw_skip ?_|refine aw_block ?_|refine aw_exit ?_|refine aw_region ?_|refine aw_drawn (id:=5) [(0,0),(1,0),(2,0),(3,0),(4,0),(5,0),(6,1)] mixed (by kernel_rfl) ?_|refine aw_drawn (id:=5) [(0,0),(1,0),(2,0),(3,0),(4,0),(5,0),(6,2)] mixed (by kernel_rfl) ?_|refine zco ?_ ?_|exact zd|(refine fun (hg:(_:Prop))=>?_;(try replace hg:=HG.out hg);(try dsimp only at hg);(try (have _h:True:=hg;clear _h hg)))))
    exact aw_ret (do_end rfl endST hrf hE hF)
  · intro H1
    exact do_bad (join_out rfl rfl rfl) hrf hE
theorem do7_p (s:Sto) (p:List (Int × Int)) (a:Deed) (hk:a.kind=7) (hV:Valid s) (_hP:PressOk s.items p):ACalls Tryz.prog 110 [.ptr 4 0 0 0,a.enc] (stoB 0 s p) (DoR s p a) NoP:=by
  have hn:=hV.1.2.1
  have hE:actE s a=destE s a.item:=by unfold actE;rw [hk];rfl
  have hF:actH s p a=stoB 0 (destF s a.item) p:=by unfold actH actF actP;rw [hk];rfl
  have hc:=destroy_p s p a hn
  refine acalls_sub (R:=fun v H'=>∃ v' H'',SubOf 4 1 [(0,v)] H' [(0,v')] H''∧DoR s p a v' H'') (Rp:=NoP) ?_ (fun _ _ h=>h) (fun _ _ h=>h.elim)
  refine acalls_of_try Tryz.func110 rfl Tryz.func113 rfl (by kernel_rfl) (dc rfl) (dc rfl) (by decide) ?_
  have ha:a.enc=.agg [vu8 7,vi a.item,vi a.dest,vi a.n]:=by unfold Deed.enc;rw [hk]
  rw [ha] at hc ⊢
  refine Go.Proofs.YtloaefllpokkaaaGreat.aw_region ?_
  (repeat' (first|refine zq ?_|(refine zxl ?_;intro _ _ _)|(refine zxs ?_;intro _ _ _)|refine zbx ?_|refine zal ?_|refine zsvs ?_|refine zsva ?_|refine zses ?_|refine zsea ?_|refine zg ?_ ?_|refine zgu ?_|refine ar_nil ?_|refine aw_seq ?_|refine aw_skip ?_|refine aw_block ?_|refine aw_exit ?_|refine aw_region ?_|refine aw_drawn (id:=5) [(0,0),(1,0),(2,0),(3,0),(4,0),(5,0),(6,1)] mixed (by kernel_rfl) ?_|refine aw_drawn (id:=5) [(0,0),(1,0),(2,0),(3,0),(4,0),(5,0),(6,2)] mixed (by kernel_rfl) ?_|refine zco ?_ ?_|exact zd|(refine fun (hg:(_:Prop))=>?_;(try replace hg:=HG.out hg);(try dsimp only at hg);(try (have _h:True:=hg;clear _h hg)))))
  refine ⟨1,5,0,0,rfl,?_⟩
  refine aw_sub (m:=6) (env':=[(0,.ptr 4 0 0 0),(3,.ptr 4 4 0 0),(4,.ptr 1 5 0 0)]) (H':=[.arr 4 1 (fun _=>stoV 0 s),LB 5 Itm.enc s.items,LB 2 Prt.enc s.prints,mapE vi p,.arr 4 1 (fun _=>.agg [vu8 7,vi a.item,vi a.dest,vi a.n]),.arr 1 1 (fun _=>vi 0)]) ?_ ?_
  · (exact zsc [some 0,some 1,some 2,some 3,some 4,some 5] [])
  (repeat' (first|refine zq ?_|(refine zxl ?_;intro _ _ _)|(refine zxs ?_;intro _ _ _)|(refine zpv fn114 (doers_p) ?_)|refine ar_q (qs_funcIsNil (ty rfl) rfl rfl) (dc rfl) ?_|refine ar_q (qs_iaddr_aptr (j:=7) (ty rfl) rfl (ty rfl) rfl rfl rfl (dc rfl)) (dc rfl) ?_|((refine ar_act fn121 hc rfl ?_ ?_ rfl rfl rfl (dc rfl)<;>intro hrf))|refine zbx ?_|refine zal ?_|refine zsvs ?_|refine zsva ?_|refine zses ?_|refine zsea ?_|refine zg ?_ ?_|refine zgu ?_|refine ar_nil ?_|refine aw_seq ?_|refine aw_skip ?_|refine aw_block ?_|refine aw_exit ?_|refine aw_region ?_|refine aw_drawn (id:=5) [(0,0),(1,0),(2,0),(3,0),(4,0),(5,0),(6,2)] mixed (by kernel_rfl) ?_|refine aw_drawn (id:=5) [(0,0),(1,0),(2,0),(3,0),(4,0),(5,0),(6,1)] mixed (by kernel_rfl) ?_|refine zco ?_ ?_|exact zd|(refine fun (hg:(_:Prop))=>?_;(try replace hg:=HG.out hg);(try dsimp only at hg);(try (have _h:True:=hg;clear _h hg)))))
  · rw [joinST]
    (repeat' (first|refine zq ?_|(refine zxl ?_;intro _ _ _)|(refine zxs ?_;intro _ _ _)|refine zbx ?_|refine zal ?_|refine zsvs ?_|refine zsva ?_|refine zses ?_|refine zsea ?_|refine zg ?_ ?_|refine zgu ?_|refine ar_nil ?_|refine aw_seq ?_|refine aw_skip ?_|refine aw_block ?_|refine aw_exit ?_|refine aw_region ?_|refine aw_drawn (id:=5) [(0,0),(1,0),(2,0),(3,0),(4,0),(5,0),(6,1)] mixed (by kernel_rfl) ?_|refine aw_drawn (id:=5) [(0,0),(1,0),(2,0),(3,0),(4,0),(5,0),(6,2)] mixed (by kernel_rfl) ?_|refine zco ?_ ?_|exact zd|(refine fun (hg:(_:Prop))=>?_;(try replace hg:=HG.out hg);(try dsimp only at hg);(try (have _h:True:=hg;clear _h hg)))))
    exact aw_ret (do_end rfl endST hrf hE hF)
  · intro H1
    exact do_bad (join_out rfl rfl rfl) hrf hE
theorem do_two {s:Sto}{p:List (Int × Int)}{a:Deed}{H:Heap}(h5:H[5]?=some (.arr 1 1 (fun _=>vi 2))) (hE:actE s a=2) :
    DCalls Tryz.prog 113 [.ptr 1 5 0 0] H none fun H'=>∃ v,ResV Tryz.prog [(4,.ptr 1 5 0 0)] H' Tryz.f110.results v∧∃ v' H'',SubOf 4 1 [(0,v)] H' [(0,v')] H''∧DoR s p a v' H'' :=
  try_ret (_sz:=1) h5 ⟨vi 2,_,sub_dead (Nat.le_of_lt (by have:=(List.getElem?_eq_some_iff.1 h5).1;omega)),.inr ⟨by rw [hE];decide,by rw [hE],rfl⟩⟩
theorem do0_p (s:Sto) (p:List (Int × Int)) (a:Deed) (hk:a.kind=0):ACalls Tryz.prog 110 [.ptr 4 0 0 0,a.enc] (stoB 0 s p) (DoR s p a) NoP:=by
  have hE:actE s a=2:=by unfold actE;rw [hk];rfl
  refine acalls_sub (R:=fun v H'=>∃ v' H'',SubOf 4 1 [(0,v)] H' [(0,v')] H''∧DoR s p a v' H'') (Rp:=NoP) ?_ (fun _ _ h=>h) (fun _ _ h=>h.elim)
  refine acalls_of_try Tryz.func110 rfl Tryz.func113 rfl (by kernel_rfl) (dc rfl) (dc rfl) (by decide) ?_
  have ha:a.enc=.agg [vu8 0,vi a.item,vi a.dest,vi a.n]:=by unfold Deed.enc;rw [hk]
  rw [ha]
  refine Go.Proofs.YtloaefllpokkaaaGreat.aw_region ?_
  (repeat' (first|refine zq ?_|(refine zxl ?_;intro _ _ _)|(refine zxs ?_;intro _ _ _)|refine zbx ?_|refine zal ?_|refine zsvs ?_|refine zsva ?_|refine zses ?_|refine zsea ?_|refine zg ?_ ?_|refine zgu ?_|refine ar_nil ?_|refine aw_seq ?_|refine aw_skip ?_|refine aw_block ?_|refine aw_exit ?_|refine aw_region ?_|refine aw_drawn (id:=5) [(0,0),(1,0),(2,0),(3,0),(4,0),(5,0),(6,1)] mixed (by kernel_rfl) ?_|refine aw_drawn (id:=5) [(0,0),(1,0),(2,0),(3,0),(4,0),(5,0),(6,2)] mixed (by kernel_rfl) ?_|refine zco ?_ ?_|exact zd|(refine fun (hg:(_:Prop))=>?_;(try replace hg:=HG.out hg);(try dsimp only at hg);(try (have _h:True:=hg;clear _h hg)))))
  refine ⟨1,5,0,0,rfl,?_⟩
  refine aw_sub (m:=6) (env':=[(0,.ptr 4 0 0 0),(3,.ptr 4 4 0 0),(4,.ptr 1 5 0 0)]) (H':=[.arr 4 1 (fun _=>stoV 0 s),LB 5 Itm.enc s.items,LB 2 Prt.enc s.prints,mapE vi p,.arr 4 1 (fun _=>.agg [vu8 0,vi a.item,vi a.dest,vi a.n]),.arr 1 1 (fun _=>vi 0)]) ?_ ?_
  · (exact zsc [some 0,some 1,some 2,some 3,some 4,some 5] [])
  (repeat' (first|refine zq ?_|(refine zxl ?_;intro _ _ _)|(refine zxs ?_;intro _ _ _)|(refine zpv fn114 (doers_p) ?_)|refine ar_q (qs_nilFuncIsNil (ty rfl) rfl rfl) (dc rfl) ?_|refine ar_q (qs_iaddr_aptr (j:=0) (ty rfl) rfl (ty rfl) rfl rfl rfl (dc rfl)) (dc rfl) ?_|refine zbx ?_|refine zal ?_|refine zsvs ?_|refine zsva ?_|refine zses ?_|refine zsea ?_|refine zg ?_ ?_|refine zgu ?_|refine ar_nil ?_|refine aw_seq ?_|refine aw_skip ?_|refine aw_block ?_|refine aw_exit ?_|refine aw_region ?_|refine aw_drawn (id:=5) [(0,0),(1,0),(2,0),(3,0),(4,0),(5,0),(6,2)] mixed (by kernel_rfl) ?_|refine aw_drawn (id:=5) [(0,0),(1,0),(2,0),(3,0),(4,0),(5,0),(6,1)] mixed (by kernel_rfl) ?_|refine zco ?_ ?_|exact zd|(refine fun (hg:(_:Prop))=>?_;(try replace hg:=HG.out hg);(try dsimp only at hg);(try (have _h:True:=hg;clear _h hg)))))
  all_goals exact aw_ret (do_two rfl hE)
theorem do8_p (s:Sto) (p:List (Int × Int)) (a:Deed) (hk:8≤a.kind) (hu:a.kind≤255):ACalls Tryz.prog 110 [.ptr 4 0 0 0,a.enc] (stoB 0 s p) (DoR s p a) NoP:=by
  have hE:actE s a=2:=by
    unfold actE
    rw [if_neg (by omega),if_neg (by omega),if_neg (by omega),if_neg (by omega),if_neg (by omega),if_neg (by omega),if_neg (by omega)]
  refine acalls_sub (R:=fun v H'=>∃ v' H'',SubOf 4 1 [(0,v)] H' [(0,v')] H''∧DoR s p a v' H'') (Rp:=NoP) ?_ (fun _ _ h=>h) (fun _ _ h=>h.elim)
  refine acalls_of_try Tryz.func110 rfl Tryz.func113 rfl (by kernel_rfl) (dc rfl) (dc rfl) (by decide) ?_
  refine Go.Proofs.YtloaefllpokkaaaGreat.aw_region ?_
  (repeat' (first|refine zq ?_|(refine zxl ?_;intro _ _ _)|(refine zxs ?_;intro _ _ _)|refine zbx ?_|refine zal ?_|refine zsvs ?_|refine zsva ?_|refine zses ?_|refine zsea ?_|refine zg ?_ ?_|refine zgu ?_|refine ar_nil ?_|refine aw_seq ?_|refine aw_skip ?_|refine aw_block ?_|refine aw_exit ?_|refine aw_region ?_|refine aw_drawn (id:=5) [(0,0),(1,0),(2,0),(3,0),(4,0),(5,0),(6,1)] mixed (by kernel_rfl) ?_|refine aw_drawn (id:=5) [(0,0),(1,0),(2,0),(3,0),(4,0),(5,0),(6,2)] mixed (by kernel_rfl) ?_|refine zco ?_ ?_|exact zd|(refine fun (hg:(_:Prop))=>?_;(try replace hg:=HG.out hg);(try dsimp only at hg);(try (have _h:True:=hg;clear _h hg)))))
  refine ⟨1,5,0,0,rfl,?_⟩
  refine aw_sub (m:=6) (env':=[(0,.ptr 4 0 0 0),(3,.ptr 4 4 0 0),(4,.ptr 1 5 0 0)]) (H':=[.arr 4 1 (fun _=>stoV 0 s),LB 5 Itm.enc s.items,LB 2 Prt.enc s.prints,mapE vi p,.arr 4 1 (fun _=>.agg [vu8 a.kind,vi a.item,vi a.dest,vi a.n]),.arr 1 1 (fun _=>vi 0)]) ?_ ?_
  · (exact zsc [some 0,some 1,some 2,some 3,some 4,some 5] [])
  (repeat' (first|refine zq ?_|(refine zxl ?_;intro _ _ _)|(refine zxs ?_;intro _ _ _)|(refine zpv fn114 (doers_p) ?_)|refine zbx ?_|refine zal ?_|refine zsvs ?_|refine zsva ?_|refine zses ?_|refine zsea ?_|refine zg ?_ ?_|refine zgu ?_|refine ar_nil ?_|refine aw_seq ?_|refine aw_skip ?_|refine aw_block ?_|refine aw_exit ?_|refine aw_region ?_|refine aw_drawn (id:=5) [(0,0),(1,0),(2,0),(3,0),(4,0),(5,0),(6,2)] mixed (by kernel_rfl) ?_|refine aw_drawn (id:=5) [(0,0),(1,0),(2,0),(3,0),(4,0),(5,0),(6,1)] mixed (by kernel_rfl) ?_|refine zco ?_ ?_|exact zd|(refine fun (hg:(_:Prop))=>?_;(try replace hg:=HG.out hg);(try dsimp only at hg);(try (have _h:True:=hg;clear _h hg)))))
  all_goals exact aw_ret (do_two rfl hE)
end Pn
theorem do_p (s:Sto) (p:List (Int × Int)) (a:Deed) (hu:u8ok a.kind) (hV:Valid s) (hP:PressOk s.items p):ACalls Tryz.prog 110 [.ptr 4 0 0 0,a.enc] (stoB 0 s p) (DoR s p a) NoP:=by
  have h:a.kind=0∨a.kind=1∨a.kind=2∨a.kind=3∨a.kind=4∨a.kind=5∨a.kind=6∨a.kind=7∨8≤a.kind:=by unfold u8ok at hu;omega
  rcases h with h|h|h|h|h|h|h|h|h
  · exact Pn.do0_p s p a h
  · exact Pn.do1_p s p a h hV hP
  · exact Pn.do2_p s p a h hV hP
  · exact Pn.do3_p s p a h hV hP
  · exact Pn.do4_p s p a h hV hP
  · exact Pn.do5_p s p a h hV hP
  · exact Pn.do6_p s p a h hV hP
  · exact Pn.do7_p s p a h hV hP
  · exact Pn.do8_p s p a h hu.2
theorem bq2c {P:Program}{env:Env}{H:Heap}{R Rp:V→Heap→Prop}{a t2:Nat}{v v2:V}{T:TypeId}{d:TyD}{sz b i off n:Nat}{f:Nat→V}(hT:TyIs P T d) (ha:look env a=some (.ptr sz b i off)) (hH:H[b]?=some (.arr sz n f)) (hi:i<n) (hv:partV d.tk.agg (f i).cells off d.size=some v)
    (h2:look env t2=some v2) (hR:R (.tup [v,v2]) H):BodyQ P #[.cell a T,.tmp t2] R Rp .ret env H :=
  ⟨_,.inr (.inr (.inl ⟨_,_,_,_,rfl,⟨d,sz,b,i,off,n,f,hT,ha,hH,hi,hv⟩,h2,rfl⟩)),hR⟩
def noSto:Sto:=⟨0,[],[]⟩
open Classical in
noncomputable def doE (s:Sto) (a:Deed):Int:=if Valid s then actE s a else 80
theorem pressOk_of {s:Sto}(h:Valid s):PressOk s.items (pressTo s.items s.items.length):=press_ok h.2.2.1
section
variable {a0 a1 a2 a3 a4 a5 a6:Blk}{F:Sto}{p:List (Int × Int)}
theorem joinWI3:joinH [3,4,5,6] [] [a0,a1,a2,a3,a4,a5,a6] (WI F p)=[a0,a1,a2,.arr 4 1 (fun _=>.agg [vi F.life,.sl 5 7 0 F.items.length,.sl 2 5 0 F.prints.length,.map 6]),.dead,LB 2 Prt.enc F.prints,mapE vi p,LB 5 Itm.enc F.items] :=
  (show _=[a0,a1,a2,.arr 4 1 (fun _=>.agg [vi F.life,.sl 5 7 0 F.items.length,.sl 2 5 0 F.prints.length,.map 6]),.dead,LB 2 Prt.enc F.prints,(mapE vi p).ren (rn [3,4,5,6] 7),LB 5 Itm.enc F.items] from rfl).trans (by rw [mapE_ren])
theorem joinWP3:joinH [3,4,5,6] [] [a0,a1,a2,a3,a4,a5,a6] (WP F p)=[a0,a1,a2,.arr 4 1 (fun _=>.agg [vi F.life,.sl 5 4 0 F.items.length,.sl 2 7 0 F.prints.length,.map 6]),LB 5 Itm.enc F.items,.dead,mapE vi p,LB 2 Prt.enc F.prints] :=
  (show _=[a0,a1,a2,.arr 4 1 (fun _=>.agg [vi F.life,.sl 5 4 0 F.items.length,.sl 2 7 0 F.prints.length,.map 6]),LB 5 Itm.enc F.items,.dead,(mapE vi p).ren (rn [3,4,5,6] 7),LB 2 Prt.enc F.prints] from rfl).trans (by rw [mapE_ren])
theorem joinST3:joinH [3,4,5,6] [] [a0,a1,a2,a3,a4,a5,a6] (stoB 0 F p)=[a0,a1,a2,.arr 4 1 (fun _=>.agg [vi F.life,.sl 5 4 0 F.items.length,.sl 2 5 0 F.prints.length,.map 6]),LB 5 Itm.enc F.items,LB 2 Prt.enc F.prints,mapE vi p] :=
  (show _=[a0,a1,a2,.arr 4 1 (fun _=>.agg [vi F.life,.sl 5 4 0 F.items.length,.sl 2 5 0 F.prints.length,.map 6]),LB 5 Itm.enc F.items,LB 2 Prt.enc F.prints,(mapE vi p).ren (rn [3,4,5,6] 7)] from rfl).trans (by rw [mapE_ren])
end
theorem actH_cases {s:Sto}{p:List (Int × Int)}{a:Deed}:actH s p a=WI (actF s a) (actP s p a)∨actH s p a=WP (actF s a) (actP s p a)∨actH s p a=stoB 0 (actF s a) (actP s p a):=by
  unfold actH
  split
  · exact .inl rfl
  · split
    · exact .inr (.inl rfl)
    · exact .inr (.inr rfl)
theorem doE_ok {s:Sto}{a:Deed}(h:Valid s):doE s a=actE s a:=by unfold doE;rw [if_pos h]
theorem doE_bad {s:Sto}{a:Deed}(h:¬ Valid s):doE s a=80:=by unfold doE;rw [if_neg h]
def shoN (n:Nat) (h:Hse) (m:List (Int × Tal)):Heap:=[.arr 11 1 (fun _=>shoV (n+1) (n+2) (n+3) (n+4) (n+5) (n+6) (n+7) (n+8) h),LB 5 Itm.enc h.store.items,LB 2 Prt.enc h.store.prints,LB 7 Dsn.enc h.designs,LB 4 Lic.enc h.lics,LB 4 Ordr.enc h.orders,LB 1 vi h.made,LB 1 vi h.fors,mapE Tal.enc m]
theorem shoB_ren {h:Hse}{m:List (Int × Tal)}{n:Nat}:(shoB h m).map (Blk.ren (rn [] n))=shoN n h m:=by
  have e2:(mapE Tal.enc m).ren (rn [] n)=mapE Tal.enc m:=mapE_renE fun _=>rfl
  show _::_::_::_::_::_::_::_::[(mapE Tal.enc m).ren (rn [] n)]=_::_::_::_::_::_::_::_::[_]
  rw [e2]
  rfl
def HValidR (h:Hse) (v:V) (H:Heap):Prop:=(HValid h∧v=.tup [.ptr 11 0 0 0,vb true]∧∃ m,TalOk h m∧H=shoB h m)∨(¬ HValid h∧v=.tup [.ptr 11 0 0 0,vb false]∧H=[.dead])
theorem hvalid_of {h:Hse}(h1:1≤h.per∧h.per≤1000) (h2:0≤h.day∧h.day≤10000) (h3:Valid h.store) (h4:ArchOk h) (h5:MadeOk h) (h6:OrdersOk h):HValid h :=
  ⟨h1,h2,h3,⟨h4.1.1,h4.1.2,h6.1.1⟩,fun i hi=>h4.2.1 _ (el_mem hi),fun i hi=>h4.2.2 _ (el_mem hi),h5.1,h5.2,h6.1.2,h6.2.1,h6.2.2⟩
theorem HValid.arch {h:Hse}(hV:HValid h):ArchOk h:=⟨⟨hV.few.1,hV.few.2.1⟩,fun d hd=>by obtain ⟨i,hi,rfl⟩:=mem_el hd;exact hV.designs i hi,fun d hd=>by obtain ⟨i,hi,rfl⟩:=mem_el hd;exact hV.lics i hi⟩
theorem HValid.madeOk {h:Hse}(hV:HValid h):MadeOk h:=⟨hV.mades,hV.made⟩
theorem HValid.ordOk {h:Hse}(hV:HValid h):OrdersOk h:=⟨⟨hV.few.2.2,hV.forss⟩,hV.fors,hV.orders⟩
theorem chk_iff {s:Sto}:((if Valid s then (0:Int) else 80)=0)↔Valid s:=by
  by_cases h:Valid s
  · rw [if_pos h];exact ⟨fun _=>h,fun _=>rfl⟩
  · rw [if_neg h];exact ⟨fun e=>absurd e (by decide),fun e=>(h e).elim⟩
theorem hvalid_p (h:Hse) (hs:HSmall h) (hw:StOk h.store):ACalls Tryz.prog 18 [h.enc] [] (HValidR h) NoP:=by
  refine acalls_of_aw Tryz.func18 rfl (dc rfl) ?_
  (repeat' (first|(refine ar_isq ?_;refine zq ?_)|((refine ar_gcall0 fn33 rfl rfl [h.enc] ⟨.closed rfl,trivial⟩ (hopen_p h hs) (dc rfl) ?_ (fun _ _ h=>h.elim);rintro _ _ ⟨rfl,rfl⟩;rw [shoB_ren]))|(((refine ar_subk_l (sub_frzL (t:=13) vi ([h.per]) rfl rfl rfl rfl (fun _ _=>rfl) (fun _=>rfl)) ?_);refine zpv fn27 (hfrom_p _ _ [h.per]) ?_))|(((refine ar_subk_l (sub_frzL (t:=21) vi ([h.day]) rfl rfl rfl rfl (fun _ _=>rfl) (fun _=>rfl)) ?_);refine zpv fn27 (hfrom_p _ _ [h.day]) ?_))|refine ar_buildLE vi ([_]) (by exact ty rfl) (by exact rfl) (by exact ty rfl) (by exact rfl) (by exact rfl) (by exact Nat.succ_pos _) (by exact rfl) (by exact dc rfl) (by exact rfl) (by exact fun _=>⟨rfl,rfl⟩) (by exact dc rfl) ?_|((refine ar_lcall fn34 rfl rfl (first:=[]) (cap:=[]) (zs:=[h.store.enc]) ⟨.aggL ⟨.closed rfl,.row rfl rfl (fun _=>rfl),.row rfl rfl (fun _=>rfl),trivial⟩,trivial⟩ (pCheck_p h.store) (by intros;subst_vars;rfl) (dc rfl) ?_;intro _ hv;subst hv))|((refine ar_read h [] (archived_p h hs) fn35 (by rintro _ ⟨_,rfl,_⟩;rfl) ?_;rintro _ ⟨ba,rfl,hba⟩))|((refine ar_read h [] (hmade_p h hs (by assumption)) fn36 (by rintro _ ⟨_,rfl,_⟩;rfl) ?_;rintro _ ⟨bm,rfl,hbm⟩))|((refine ar_gcall (H0:=shoB h []) [1,2,3,4,5,6,7,8,9] [] (first:=[]) (cap:=[]) fn37 rfl rfl (xs:=[.ptr 11 0 0 0]) ⟨.ptr rfl,trivial⟩ rfl (by decide) (fun _ h=>by cases h) (show ShoAt _ 1 2 3 4 5 6 7 8 9 h [] from {}).hsub shoB_live (hordered_p h hs (by assumption) (hbm.1 (by assumption)) hw) (dc rfl) ?_ (fun _ _ h=>h.elim);rintro _ _ (⟨rfl,hO,m,ht,rfl⟩|⟨rfl,hO⟩)))|refine zg ?_ ?_|refine zgu ?_|refine zst ?_|refine zco ?_ ?_|(refine fun (hg:(_:Prop))=>?_;first|exact absurd hg (by decide)|((try replace hg:=HG.out hg);(try dsimp only at hg);(try rw [fromB_one] at hg);(try rw [withinB_iff] at hg);(try rw [withinB_no] at hg);(try rw [chk_iff] at hg);(try (have _h:True:=hg;clear _h hg));first|(exfalso;omega)|skip))))
  all_goals first
    | (exfalso;omega)
    | ((refine aw_mono_r (env':=[(2,.ptr 11 0 0 0),(3,vb false)]) (H':=[.dead]) ?_ ?_;(focus (exact zsc [some 1] [])))
       (refine aw_ret ?_;(repeat (first|refine ret_then ?_|refine ret_block ?_));refine bq2 rfl rfl (.inr ⟨fun hv=>?_,rfl,rfl⟩))
       first
         | exact absurd hv.per (by assumption)
         | exact absurd hv.day (by assumption)
         | exact absurd hv.store (by assumption)
         | exact absurd ((hba.2 hv.arch).symm.trans (show ba=false from by assumption)) (by decide)
         | exact absurd ((hbm.2 hv.madeOk).symm.trans (show bm=false from by assumption)) (by decide)
         | exact absurd hv.ordOk (by assumption))
    | (rw [join_sho {} (by decide)]
       (repeat' (first|(refine ar_isq ?_;refine zq ?_)|refine zg ?_ ?_|refine zgu ?_|refine zst ?_|refine zco ?_ ?_|(refine fun (hg:(_:Prop))=>?_;first|exact absurd hg (by decide)|((try replace hg:=HG.out hg);(try dsimp only at hg);(try rw [fromB_one] at hg);(try rw [withinB_iff] at hg);(try rw [withinB_no] at hg);(try rw [chk_iff] at hg);(try (have _h:True:=hg;clear _h hg));first|(exfalso;omega)|skip))))
       (refine aw_mono_r (env':=[(2,.ptr 11 0 0 0),(3,vb true)]) (H':=[.arr 11 1 (fun _=>shoV 1 2 3 4 5 6 7 8 h),LB 5 Itm.enc h.store.items,LB 2 Prt.enc h.store.prints,LB 7 Dsn.enc h.designs,LB 4 Lic.enc h.lics,LB 4 Ordr.enc h.orders,LB 1 vi h.made,LB 1 vi h.fors,mapE Tal.enc m]) ?_ ?_;(focus (exact zsc [some 1,some 2,some 3,some 4,some 5,some 6,some 7,some 8,some 9] [])))
       (refine aw_ret ?_;(repeat (first|refine ret_then ?_|refine ret_block ?_));refine bq2 rfl rfl (.inl ⟨hvalid_of (by assumption) (by assumption) (by assumption) (hba.1 (by assumption)) (hbm.1 (by assumption)) (by assumption),rfl,m,by assumption,rfl⟩)))
    | trace_state
def DoOwn (s:Sto) (a:Deed) (v:V) (H:Heap):Prop:=(doE s a=0∧v=.tup [.agg [vi (actF s a).life,.sl 5 0 0 (actF s a).items.length,.sl 2 1 0 (actF s a).prints.length],vi 0]∧H=[LB 5 Itm.enc (actF s a).items,LB 2 Prt.enc (actF s a).prints])∨(doE s a≠0∧v=.tup [noSto.enc,vi (doE s a)]∧H=[])
theorem doOwn_ret {V0:V}{e:Int}{R Rp:V→Heap→Prop}{H:Heap}(hH:H[2]?=some (.arr 3 1 (fun _=>V0))) (hp:partV true V0.cells 0 3=some V0) (hR:R (.tup [V0,vi e]) H):BodyQ Tryz.prog #[.cell 4 36,.tmp 5] R Rp .ret [(4,.ptr 3 2 0 0),(5,vi e)] H :=
  bq2c (f:=fun _=>V0) (v:=V0) (ty rfl) rfl hH Nat.one_pos hp rfl hR
theorem doOwn_ret0 {V0:V}{e:Int}{R Rp:V→Heap→Prop}{H:Heap}(hH:H[0]?=some (.arr 3 1 (fun _=>V0))) (hp:partV true V0.cells 0 3=some V0) (hR:R (.tup [V0,vi e]) H):BodyQ Tryz.prog #[.cell 4 36,.tmp 5] R Rp .ret [(4,.ptr 3 0 0 0),(5,vi e)] H :=
  bq2c (f:=fun _=>V0) (v:=V0) (ty rfl) rfl hH Nat.one_pos hp rfl hR
def storeC (s:Sto):V:=.agg [vi s.life,.sl 5 0 0 s.items.length,.sl 2 1 0 s.prints.length]
theorem doOwn_p (s:Sto) (a:Deed) (hu:u8ok a.kind):ACalls Tryz.prog 105 [s.enc,a.enc] [] (DoOwn s a) NoP:=by
  refine acalls_sub (R:=fun v H'=>∃ v' H'',SubOf 0 1 [(0,v)] H' [(0,v')] H''∧DoOwn s a v' H'') (Rp:=NoP) ?_ (fun _ _ h=>h) (fun _ _ h=>h.elim)
  refine acalls_of_aw Tryz.func105 rfl (dc rfl) ?_
  
  (repeat' (first|(refine ar_isq ?_;refine zq ?_)|(refine zbt ?_)|((refine ar_gcall0 fn46 rfl rfl [s.enc] ⟨.closed rfl,trivial⟩ (valid_p s) (dc rfl) ?_ (fun _ _ h=>h.elim);rintro _ _ (⟨hv,rfl,rfl⟩|⟨hv,rfl,rfl⟩)<;>(try rw [stoB_ren])))|(((refine ar_sub_l (env':=[(4,.ptr 3 2 0 0),(6,.ptr 4 3 0 0),(17,.ptr 4 3 0 0),(18,a.enc)]) (H':=[.arr 3 1 (fun _=>s.enc),.arr 4 1 (fun _=>a.enc),.arr 3 1 (fun _=>.agg [vi 0,vnil,vnil]),.arr 4 1 (fun _=>stoV 3 s),LB 5 Itm.enc s.items,LB 2 Prt.enc s.prints,mapE vi (pressTo s.items s.items.length)]) ?_ ?_;(focus (exact zsc [some 0,some 1,some 2,some 3,some 4,some 5,some 6] [])));refine ar_gcall (H0:=stoB 0 s (pressTo s.items s.items.length)) [3,4,5,6] [] (first:=[]) (cap:=[]) fn110 rfl rfl (xs:=[.ptr 4 0 0 0,a.enc]) ⟨.ptr rfl,.closed rfl,trivial⟩ rfl (by decide) (fun _ h=>by cases h) ⟨.inl ⟨3,_,rfl,rfl,fun _ _=>VSub.aggL ⟨.closed rfl,.sl rfl,.sl rfl,.map rfl,trivial⟩⟩,.inl ⟨4,_,rfl,rfl,fun _ _=>.closed rfl⟩,.inl ⟨5,_,rfl,rfl,fun _ _=>.closed rfl⟩,bsub_mapE rfl rfl (fun _=>rfl),trivial⟩ stoB_live (do_p s _ a hu hv (pressOk_of hv)) (dc rfl) ?_ (fun _ _ h=>h.elim);rintro _ _ (⟨he,rfl,rfl⟩|⟨he,rfl,rfl⟩)<;>try (rcases actH_cases (s:=s) (p:=pressTo s.items s.items.length) (a:=a) with hH|hH|hH<;>rw [hH]<;>first|rw [joinWI3]|rw [joinWP3]|rw [joinST3])))|refine zst ?_|refine zco ?_ ?_|exact zd|(refine fun (hg:(_:Prop))=>?_;(try replace hg:=HG.out hg);(try dsimp only at hg);(try (have _h:True:=hg;clear _h hg)))))
  · (refine aw_mono_r (env':=[(4,.ptr 3 2 0 0),(5,vi 0)]) (H':=[LB 5 Itm.enc (actF s a).items,LB 2 Prt.enc (actF s a).prints,.arr 3 1 (fun _=>storeC (actF s a))]) ?_ ?_;(focus (exact zsc [some 7,some 5,some 2] [])))
    refine aw_ret ?_;(repeat (first|refine ret_then ?_|refine ret_block ?_));refine doOwn_ret rfl rfl ⟨_,_,?_,.inl ⟨(doE_ok hv).trans he,rfl,rfl⟩⟩
    (exact zsc [some 0,some 1] [])
  · (refine aw_mono_r (env':=[(4,.ptr 3 2 0 0),(5,vi 0)]) (H':=[LB 5 Itm.enc (actF s a).items,LB 2 Prt.enc (actF s a).prints,.arr 3 1 (fun _=>storeC (actF s a))]) ?_ ?_;(focus (exact zsc [some 4,some 7,some 2] [])))
    refine aw_ret ?_;(repeat (first|refine ret_then ?_|refine ret_block ?_));refine doOwn_ret rfl rfl ⟨_,_,?_,.inl ⟨(doE_ok hv).trans he,rfl,rfl⟩⟩
    (exact zsc [some 0,some 1] [])
  · (refine aw_mono_r (env':=[(4,.ptr 3 2 0 0),(5,vi 0)]) (H':=[LB 5 Itm.enc (actF s a).items,LB 2 Prt.enc (actF s a).prints,.arr 3 1 (fun _=>storeC (actF s a))]) ?_ ?_;(focus (exact zsc [some 4,some 5,some 2] [])))
    refine aw_ret ?_;(repeat (first|refine ret_then ?_|refine ret_block ?_));refine doOwn_ret rfl rfl ⟨_,_,?_,.inl ⟨(doE_ok hv).trans he,rfl,rfl⟩⟩
    (exact zsc [some 0,some 1] [])
  · (refine aw_mono_r (env':=[(4,.ptr 3 0 0 0),(5,vi (actE s a))]) (H':=[.arr 3 1 (fun _=>noSto.enc)]) ?_ ?_;(focus (exact zsc [some 2] [])))
    refine aw_ret ?_;(repeat (first|refine ret_then ?_|refine ret_block ?_));refine doOwn_ret0 rfl rfl ⟨_,_,?_,.inr ⟨by rw [doE_ok hv];exact he,rfl,rfl⟩⟩
    rw [doE_ok hv]
    (exact zsb [] [])
  · (refine aw_mono_r (env':=[(4,.ptr 3 0 0 0),(5,vi 80)]) (H':=[.arr 3 1 (fun _=>noSto.enc)]) ?_ ?_;(focus (exact zsc [some 2] [])))
    refine aw_ret ?_;(repeat (first|refine ret_then ?_|refine ret_block ?_));refine doOwn_ret0 rfl rfl ⟨_,_,?_,.inr ⟨by rw [doE_bad hv];decide,rfl,rfl⟩⟩
    rw [doE_bad hv]
    (exact zsb [] [])
def zeroV:V:=.agg [vi 0,vnil,vnil]
section
variable {s:Sto}{a:Deed}
theorem actE_1 (h:a.kind=1):actE s a=engrE s:=by unfold actE;rw [h];rfl
theorem actE_2 (h:a.kind=2):actE s a=transE s a.item:=by unfold actE;rw [h];rfl
theorem actE_3 (h:a.kind=3):actE s a=moveE s a.item a.dest:=by unfold actE;rw [h];rfl
theorem actE_4 (h:a.kind=4):actE s a=printE s a.item a.n:=by unfold actE;rw [h];rfl
theorem actE_6 (h:a.kind=6):actE s a=spendE s a.item a.n:=by unfold actE;rw [h];rfl
theorem actE_7 (h:a.kind=7):actE s a=destE s a.item:=by unfold actE;rw [h];rfl
theorem actE_no (h1:¬ a.kind=1) (h2:¬ a.kind=2) (h3:¬ a.kind=3) (h4:¬ a.kind=4) (h5:¬ a.kind=5) (h6:¬ a.kind=6) (h7:¬ a.kind=7):actE s a=2:=by unfold actE;rw [if_neg h1,if_neg h2,if_neg h3,if_neg h4,if_neg h5,if_neg h6,if_neg h7]
theorem actF_1 (h:a.kind=1):actF s a=addS s newDie:=by unfold actF;rw [h];rfl
theorem actF_2 (h:a.kind=2):actF s a=transF s a.item:=by unfold actF;rw [h];rfl
theorem actF_3 (h:a.kind=3):actF s a=moveF s a.item a.dest:=by unfold actF;rw [h];rfl
theorem actF_4 (h:a.kind=4):actF s a=printF s a.item a.n:=by unfold actF;rw [h];rfl
theorem actF_5 (h:a.kind=5):actF s a=spendF s a.item a.n 1:=by unfold actF;rw [h];rfl
theorem actF_6 (h:a.kind=6):actF s a=spendF s a.item a.n 2:=by unfold actF;rw [h];rfl
theorem actF_7 (h:a.kind=7):actF s a=destF s a.item:=by unfold actF;rw [h];rfl
end
end Go.Proofs.YtloaefllpokkaaaGreat
namespace Go.Proofs.YtloaefllpokkaaaGreat
theorem el_setI {α:Type}[Inhabited α] {l:List α}{i j:Nat}{x:α}(hi:i<l.length):el (l.set i x) j=if j=i then x else el l j:=by
  by_cases h:j=i
  · subst h
    simp [el,hi]
  · rw [if_neg h]
    simp [el,List.getElem?_set_ne (Ne.symm h)]
theorem made_of {l l':List Itm}{i:Nat}(hi:i<l.length) (hk:∀ j,j<l.length→(el l' j).kind=(el l j).kind∧(el l' j).src=(el l j).src) (h:Made l i):Made l' i:=by
  obtain ⟨k1,k2⟩:=hk i hi
  unfold Made at h ⊢
  rw [k1,k2]
  rcases h with h|⟨h1,h2,h3⟩
  · exact .inl h
  · exact .inr ⟨h1,h2,by rw [(hk _ (by omega)).1];exact h3⟩
theorem printed_of {l l':List Itm}{p:Prt}(hl:l.length≤l'.length) (hk:∀ j,j<l.length→(el l' j).kind=(el l j).kind) (h:Printed l p):Printed l' p:=by
  obtain ⟨h1,h2,h3⟩:=h
  exact ⟨⟨h1.1,by omega⟩,by rw [hk _ (by omega)];exact h2,h3⟩
theorem usedI_same {l l':List Itm}{q:Int}{k:Nat}(h:∀ j,j<k→(el l' j).src=(el l j).src):usedI l' q k=usedI l q k:=cntB_congr fun j hj=>by rw [h j hj]
theorem usedP_same {l l':List Prt}{q:Int}{k:Nat}(h:∀ j,j<k→(el l' j).plate=(el l j).plate):usedP l' q k=usedP l q k:=cntB_congr fun j hj=>by rw [h j hj]
theorem usedI_snoc {l:List Itm}{x:Itm}{q:Int}:usedI (l++[x]) q (l.length+1)=usedI l q l.length+(if x.src=q then 1 else 0):=by
  show usedI (l++[x]) q l.length+(if decide ((el (l++[x]) l.length).src=q)=true then 1 else 0)=_
  rw [usedI_same (l:=l) (l':=l++[x]) fun j hj=>by rw [el_app_lt hj],el_snoc]
  simp
theorem usedP_snoc {l:List Prt}{x:Prt}{q:Int}:usedP (l++[x]) q (l.length+1)=usedP l q l.length+(if x.plate=q then 1 else 0):=by
  show usedP (l++[x]) q l.length+(if decide ((el (l++[x]) l.length).plate=q)=true then 1 else 0)=_
  rw [usedP_same (l:=l) (l':=l++[x]) fun j hj=>by rw [el_app_lt hj],el_snoc]
  simp
theorem usedP_rep {l:List Prt}{x:Prt}{q:Int}:∀ n:Nat,usedP (l++List.replicate n x) q (l.length+n)=usedP l q l.length+(if x.plate=q then (n:Int) else 0)
  | 0=>by simp
  | n+1=>by
    have h:=usedP_snoc (l:=l++List.replicate n x) (x:=x) (q:=q)
    rw [List.append_assoc,← List.replicate_succ',List.length_append,List.length_replicate,usedP_rep n] at h
    rw [← Nat.add_assoc,h]
    split<;>omega
def Core (s:Sto):Prop:=Few s∧(∀ i,i<s.items.length→Made s.items i)∧(∀ i,i<s.items.length→Placed s.items i)∧∀ j,j<s.prints.length→Printed s.items (el s.prints j)
theorem core_of {s:Sto}(h:Valid s):Core s:=⟨h.1,h.2.1,h.2.2.1,h.2.2.2.1⟩
theorem valid_of {s:Sto}(h:Core s) (hu:∀ i,i<s.items.length→UsedOk s i):Valid s:=⟨h.1,h.2.1,h.2.2.1,h.2.2.2,hu⟩
theorem core_set {s:Sto}{i:Nat}{x:Itm}(hC:Core s) (hi:i<s.items.length) (hk:x.kind=(el s.items i).kind) (hs:x.src=(el s.items i).src)
    (hp:(0≤x.place∧x.place≤9)∧(x.gone=true→x.place=0)∧(2≤x.place→x.kind=3∧∀ j,j<s.items.length→j≠i→(el s.items j).place≠x.place)):Core (setS s i x):=by
  obtain ⟨h1,h2,h3,h4⟩:=hC
  have hl:(s.items.set i x).length=s.items.length:=by simp
  have ks:∀ j,j<s.items.length→(el (s.items.set i x) j).kind=(el s.items j).kind∧(el (s.items.set i x) j).src=(el s.items j).src:=fun j _=>by
    rw [el_setI hi]
    split
    · rename_i e;rw [e];exact ⟨hk,hs⟩
    · exact ⟨rfl,rfl⟩
  refine ⟨⟨h1.1,by show (s.items.set i x).length≤30;rw [hl];exact h1.2.1,h1.2.2⟩,fun j hj=>?_,fun j hj=>?_,fun j hj=>printed_of (by show _≤(s.items.set i x).length;omega) (fun k hk=>(ks k hk).1) (h4 j hj)⟩
  · have hj:j<s.items.length:=by rw [← hl];exact hj
    exact made_of hj ks (h2 j hj)
  · have hj:j<s.items.length:=by rw [← hl];exact hj
    show PlacedTo (s.items.set i x) j (s.items.set i x).length
    rw [hl]
    have hpj:=h3 j hj
    unfold Placed PlacedTo at hpj
    unfold PlacedTo
    by_cases e:j=i
    · subst e
      rw [el_setI hi,if_pos rfl]
      refine ⟨hp.1,hp.2.1,fun h=>⟨(hp.2.2 h).1,fun k hk hne=>?_⟩⟩
      rw [el_setI hi,if_neg hne]
      exact (hp.2.2 h).2 k hk hne
    · rw [el_setI hi,if_neg e]
      refine ⟨hpj.1,hpj.2.1,fun h=>⟨(hpj.2.2 h).1,fun k hk hne=>?_⟩⟩
      rw [el_setI hi]
      split
      · rename_i ek
        intro hpl
        exact (hp.2.2 (by omega)).2 j hj e hpl.symm
      · exact (hpj.2.2 h).2 k hk hne
theorem usedS_set {s:Sto}{i:Nat}{x:Itm}{q:Int}(hi:i<s.items.length) (hs:x.src=(el s.items i).src):usedS (setS s i x) q=usedS s q:=by
  unfold usedS
  show usedI (s.items.set i x) q (s.items.set i x).length+_=_
  rw [show (s.items.set i x).length=s.items.length by simp,usedI_same (l:=s.items) fun k _=>by
    rw [el_setI hi]
    split
    · rename_i e;rw [e];exact hs
    · rfl]
  rfl
theorem core_add {s:Sto}{x:Itm}(hC:Core s) (hn:s.items.length<30) (hm:(x.kind=1∧x.src=-1)∨((x.kind=2∨x.kind=3)∧(0≤x.src∧x.src<(s.items.length:Int))∧(el s.items x.src.toNat).kind=x.kind-1)) (hp:0≤x.place∧x.place<2) (hg:x.gone=false):Core (addS s x):=by
  obtain ⟨h1,h2,h3,h4⟩:=hC
  have hl:(s.items++[x]).length=s.items.length+1:=by simp
  have ks:∀ j,j<s.items.length→el (s.items++[x]) j=el s.items j:=fun j hj=>el_app_lt hj
  refine ⟨⟨h1.1,by show (s.items++[x]).length≤30;omega,h1.2.2⟩,fun j hj=>?_,fun j hj=>?_,fun j hj=>printed_of (by show _≤(s.items++[x]).length;omega) (fun k hk=>by show (el (s.items++[x]) k).kind=_;rw [ks k hk]) (h4 j hj)⟩
  · have hj:j<s.items.length+1:=by rw [← hl];exact hj
    show Made (s.items++[x]) j
    by_cases e:j=s.items.length
    · subst e
      unfold Made
      rw [el_snoc]
      rcases hm with h|⟨a,b,c⟩
      · exact .inl h
      · exact .inr ⟨a,b,by rw [ks _ (by omega)];exact c⟩
    · exact made_of (l:=s.items) (by omega) (fun k hk=>by rw [ks k hk];exact ⟨rfl,rfl⟩) (h2 j (by omega))
  · have hj:j<s.items.length+1:=by rw [← hl];exact hj
    show PlacedTo (s.items++[x]) j (s.items++[x]).length
    rw [hl]
    by_cases e:j=s.items.length
    · subst e
      unfold PlacedTo
      rw [el_snoc]
      exact ⟨by omega,fun h=>(by rw [hg] at h;cases h),fun h=>(by omega)⟩
    · have hpj:=h3 j (by omega)
      unfold Placed PlacedTo at hpj
      unfold PlacedTo
      rw [ks j (by omega)]
      refine ⟨hpj.1,hpj.2.1,fun h=>⟨(hpj.2.2 h).1,fun k hk hne=>?_⟩⟩
      by_cases ek:k=s.items.length
      · subst ek
        rw [el_snoc]
        omega
      · rw [ks k (by omega)]
        exact (hpj.2.2 h).2 k (by omega) hne
theorem usedS_add {s:Sto}{x:Itm}{q:Int}:usedS (addS s x) q=usedS s q+(if x.src=q then 1 else 0):=by
  unfold usedS
  show usedI (s.items++[x]) q (s.items++[x]).length+usedP s.prints q s.prints.length=_
  rw [show (s.items++[x]).length=s.items.length+1 by simp,usedI_snoc]
  split<;>omega
theorem add_used {s:Sto}{x:Itm}(hC:Core s) (h0:x.uses=0) (hl:1≤s.life) (hs:x.src<(s.items.length:Int)) (hm:∀ j,j<s.items.length→(el s.items j).src<(s.items.length:Int)) (hU:∀ i,i<s.items.length→(el s.items i).uses=usedS s i+(if x.src=i then 1 else 0)∧(el s.items i).uses≤mostOf s.life (el s.items i)) :
    ∀ i,i<(addS s x).items.length→UsedOk (addS s x) i:=by
  intro i hi
  have hi:i<s.items.length+1:=by
    have:(addS s x).items.length=s.items.length+1:=by simp [addS]
    omega
  unfold UsedOk
  rw [usedS_add]
  show (el (s.items++[x]) i).uses=_∧(el (s.items++[x]) i).uses≤mostOf s.life (el (s.items++[x]) i)
  by_cases e:i=s.items.length
  · subst e
    rw [el_snoc,h0,if_neg (by omega)]
    have hz:usedS s s.items.length=0:=by
      have h1:usedI s.items s.items.length s.items.length=0:=cntB_none fun j hj=>by
        have:=hm j hj
        exact decide_eq_false (by omega)
      have h2:usedP s.prints s.items.length s.prints.length=0:=cntB_none fun j hj=>by
        have:=(hC.2.2.2 j hj).1
        exact decide_eq_false (by omega)
      unfold usedS
      omega
    refine ⟨by omega,?_⟩
    unfold mostOf
    split<;>omega
  · rw [el_app_lt (by omega)]
    exact hU i (by omega)
end Go.Proofs.YtloaefllpokkaaaGreat
namespace Go.Proofs.YtloaefllpokkaaaGreat
theorem el_rep {α:Type}[Inhabited α] {n k:Nat}{x:α}(h:k<n):el (List.replicate n x) k=x:=by simp [el,h]
theorem src_bnd {s:Sto}(hC:Core s):∀ j,j<s.items.length→-1≤(el s.items j).src∧(el s.items j).src<(s.items.length:Int):=fun j hj=>by
  have:=hC.2.1 j hj
  unfold Made at this
  omega
theorem valid_engrave {s:Sto}(hV:Valid s) (h:engrE s=0):Valid (addS s newDie):=by
  have hf:=hV.1
  unfold Few at hf
  have hn:s.items.length<30:=by
    unfold engrE at h
    split at h
    · cases h
    · omega
  refine valid_of (core_add (core_of hV) hn (.inl ⟨rfl,rfl⟩) (by decide) rfl) (add_used (core_of hV) rfl hf.1.1 (by show (-1:Int)<_;omega) (fun j hj=>(src_bnd (core_of hV) j hj).2) fun i hi=>?_)
  obtain ⟨u1,u2⟩:=hV.2.2.2.2 i hi
  have e:¬ newDie.src=(i:Int):=by show ¬ (-1:Int)=i;omega
  rw [if_neg e]
  exact ⟨by omega,u2⟩
theorem valid_transfer {s:Sto}{i:Int}(hV:Valid s) (h:transE s i=0):Valid (transF s i):=by
  have hf:=hV.1
  unfold Few at hf
  unfold transE at h
  split at h
  · rename_i hh
    split at h
    · cases h
    · rename_i h1
      split at h
      · cases h
      · rename_i h2
        split at h
        · cases h
        · rename_i h3
          have hb:=hh.1
          have hlt:i.toNat<s.items.length:=by omega
          have hl:(setS s i.toNat (used1 (el s.items i.toNat) 1)).items.length=s.items.length:=by simp [setS]
          have hm:=hV.2.1 _ hlt
          unfold Made at hm
          have hp:=hV.2.2.1 _ hlt
          unfold Placed PlacedTo at hp
          have c1:Core (setS s i.toNat (used1 (el s.items i.toNat) 1)):=core_set (core_of hV) hlt rfl rfl hp
          have hel:∀ j,el (setS s i.toNat (used1 (el s.items i.toNat) 1)).items j=if j=i.toNat then used1 (el s.items i.toNat) 1 else el s.items j:=fun j=>el_setI hlt
          have c2:=core_add (x:=made1 (el s.items i.toNat) i) c1 (by omega) (.inr ⟨by show (el s.items i.toNat).kind+1=2∨(el s.items i.toNat).kind+1=3;omega,by show 0≤i∧i<_;omega,by
            show (el (setS s i.toNat (used1 (el s.items i.toNat) 1)).items i.toNat).kind=(el s.items i.toNat).kind+1-1
            rw [hel,if_pos rfl]
            show (el s.items i.toNat).kind=_
            omega⟩) (by show (0:Int)≤1∧(1:Int)<2;omega) rfl
          refine valid_of c2 (add_used c1 rfl hf.1.1 (by show i<_;omega) (fun j hj=>(src_bnd c1 j hj).2) fun k hk=>?_)
          have hk:k<s.items.length:=by omega
          obtain ⟨u1,u2⟩:=hV.2.2.2.2 k hk
          rw [usedS_set (x:=used1 (el s.items i.toNat) 1) hlt rfl,hel]
          show _=usedS s k+(if i=(k:Int) then 1 else 0)∧_
          by_cases e:k=i.toNat
          · subst e
            rw [if_pos rfl,if_pos (by omega)]
            refine ⟨by show (el s.items i.toNat).uses+1=_;omega,?_⟩
            unfold mostOf at u2 ⊢
            show (el s.items i.toNat).uses+1≤if (el s.items i.toNat).kind=3 then _ else _
            rw [if_neg (by omega)] at u2 ⊢
            omega
          · rw [if_neg e,if_neg (by omega)]
            exact ⟨by omega,u2⟩
  · cases h
theorem usedok_set {s:Sto}{i:Nat}{x:Itm}(hV:Valid s) (hi:i<s.items.length) (hk:x.kind=(el s.items i).kind) (hs:x.src=(el s.items i).src) (hu:x.uses=(el s.items i).uses):∀ j,j<(setS s i x).items.length→UsedOk (setS s i x) j:=fun j hj=>by
  have hj:j<s.items.length:=by
    have:(setS s i x).items.length=s.items.length:=by simp [setS]
    omega
  obtain ⟨u1,u2⟩:=hV.2.2.2.2 j hj
  unfold UsedOk
  rw [usedS_set hi hs]
  show (el (s.items.set i x) j).uses=_∧(el (s.items.set i x) j).uses≤mostOf s.life (el (s.items.set i x) j)
  rw [el_setI hi]
  unfold mostOf at u2 ⊢
  split
  · rename_i e
    subst e
    rw [hu,hk]
    exact ⟨u1,u2⟩
  · exact ⟨u1,u2⟩
theorem move_cases {s:Sto}{i d:Int}(h:moveE s i d=0):hereB s i∧¬ (¬ (0≤d∧d≤9)∨(2≤d∧(el s.items i.toNat).kind≠3))∧¬ takenB s i d:=by
  unfold moveE at h
  split at h
  · rename_i hh
    split at h
    · cases h
    · rename_i h1
      split at h
      · cases h
      · rename_i h2
        exact ⟨hh,h1,h2⟩
  · cases h
theorem not_taken {s:Sto}{i d:Int}(h:¬ takenB s i d) (hd:2≤d):∀ k,k<s.items.length→k≠i.toNat→(el s.items k).place≠d:=fun k hk hne e=>h ⟨hd,fun hall=>hall k hk hne e⟩
theorem valid_move {s:Sto}{i d:Int}(hV:Valid s) (h:moveE s i d=0):Valid (moveF s i d):=by
  obtain ⟨hh,h1,h2⟩:=move_cases h
  have hb:=hh.1
  have hlt:i.toNat<s.items.length:=by omega
  refine valid_of (core_set (core_of hV) hlt rfl rfl ⟨?_,fun hg=>?_,fun hp=>⟨?_,fun j hj hne=>?_⟩⟩) (usedok_set hV hlt rfl rfl rfl)
  · show 0≤d∧d≤9
    omega
  · have:(el s.items i.toNat).gone=true:=hg
    rw [hh.2] at this
    cases this
  · show (el s.items i.toNat).kind=3
    have:2≤d:=hp
    omega
  · exact not_taken h2 hp j hj hne
theorem valid_destroy {s:Sto}{i:Int}(hV:Valid s) (h:destE s i=0):Valid (destF s i):=by
  unfold destE at h
  split at h
  · rename_i hh
    split at h
    · cases h
    · rename_i h1
      have hb:=hh.1
      have hlt:i.toNat<s.items.length:=by omega
      have h0:(el s.items i.toNat).place=0:=by omega
      refine valid_of (core_set (core_of hV) hlt rfl rfl ⟨?_,fun _=>h0,fun hp=>?_⟩) (usedok_set hV hlt rfl rfl rfl)
      · show 0≤(el s.items i.toNat).place∧(el s.items i.toNat).place≤9
        omega
      · have:2≤(el s.items i.toNat).place:=hp
        omega
  · cases h
theorem core_prints {s:Sto}{P:List Prt}(hC:Core s) (hl:P.length≤400) (hP:∀ j,j<P.length→Printed s.items (el P j)):Core { s with prints:=P }:=⟨⟨hC.1.1,hC.1.2.1,hl⟩,hC.2.1,hC.2.2.1,hP⟩
theorem valid_spend {s:Sto}{first n st:Int}(hV:Valid s) (hst:st≤2):Valid (spendF s first n st):=by
  have hl:=spendF_len s first n st
  have hf:=hV.1
  unfold Few at hf
  have hel:∀ j,j<s.prints.length→(el (spendF s first n st).prints j).plate=(el s.prints j).plate∧(el (spendF s first n st).prints j).state≤2:=fun j hj=>by
    rw [spendF_el hj]
    have:=(hV.2.2.2.1 j hj).2.2
    unfold stateAt
    split
    · exact ⟨rfl,hst⟩
    · exact ⟨rfl,this⟩
  refine valid_of (core_prints (core_of hV) (by show (spendF s first n st).prints.length≤400;omega) fun j hj=>?_) fun i hi=>?_
  · have hj:j<s.prints.length:=by rw [← hl];exact hj
    obtain ⟨q1,q2,q3⟩:=hV.2.2.2.1 j hj
    obtain ⟨e1,e2⟩:=hel j hj
    show Printed s.items (el (spendF s first n st).prints j)
    exact ⟨by rw [e1];exact q1,by rw [e1];exact q2,e2⟩
  · obtain ⟨u1,u2⟩:=hV.2.2.2.2 i hi
    refine ⟨u1.trans ?_,u2⟩
    unfold usedS
    show _=usedI s.items i s.items.length+usedP (spendF s first n st).prints i (spendF s first n st).prints.length
    rw [hl,usedP_same fun j hj=>(hel j hj).1]
theorem valid_print {s:Sto}{i n:Int}(hV:Valid s) (h:printE s i n=0):Valid (printF s i n):=by
  have hf:=hV.1
  unfold Few at hf
  unfold printE at h
  split at h
  · rename_i hh
    split at h
    · cases h
    · rename_i h1
      split at h
      · cases h
      · rename_i h2
        split at h
        · cases h
        · rename_i h3
          have hb:=hh.1
          have hlt:i.toNat<s.items.length:=by omega
          have hp:=hV.2.2.1 _ hlt
          unfold Placed PlacedTo at hp
          have c1:Core (setS s i.toNat (used1 (el s.items i.toNat) n)):=core_set (core_of hV) hlt rfl rfl hp
          have hel:∀ j,el (s.items.set i.toNat (used1 (el s.items i.toNat) n)) j=if j=i.toNat then used1 (el s.items i.toNat) n else el s.items j:=fun j=>el_setI hlt
          have hls:(s.items.set i.toNat (used1 (el s.items i.toNat) n)).length=s.items.length:=by simp
          have hpl:(s.prints++List.replicate n.toNat (⟨i,0⟩:Prt)).length=s.prints.length+n.toNat:=by simp
          have c2:(∀ j,j<(s.prints++List.replicate n.toNat (⟨i,0⟩:Prt)).length→Printed (s.items.set i.toNat (used1 (el s.items i.toNat) n)) (el (s.prints++List.replicate n.toNat (⟨i,0⟩:Prt)) j))→Core (printF s i n):=fun h=>core_prints (s:=setS s i.toNat (used1 (el s.items i.toNat) n)) c1 (by omega) h
          refine valid_of (c2 fun j hj=>?_) fun k hk=>?_
          · show Printed (s.items.set i.toNat (used1 (el s.items i.toNat) n)) _
            by_cases e:j<s.prints.length
            · rw [el_app_lt e]
              exact printed_of (by omega) (fun q _=>by rw [hel];split<;>first|rfl|(rename_i eq;rw [eq];rfl)) (hV.2.2.2.1 j e)
            · rw [el_app_ge (by omega),el_rep (by omega)]
              refine ⟨?_,?_,?_⟩
              · show 0≤i∧i<_
                omega
              · show (el (s.items.set i.toNat (used1 (el s.items i.toNat) n)) i.toNat).kind=3
                rw [hel,if_pos rfl]
                show (el s.items i.toNat).kind=3
                omega
              · show (0:Int)≤2
                omega
          · have hk:k<s.items.length:=by rw [← hls];exact hk
            obtain ⟨u1,u2⟩:=hV.2.2.2.2 k hk
            have hus:usedS (printF s i n) k=usedS s k+(if i=(k:Int) then n else 0):=by
              unfold usedS
              show usedI (s.items.set i.toNat (used1 (el s.items i.toNat) n)) k (s.items.set i.toNat (used1 (el s.items i.toNat) n)).length+usedP (s.prints++List.replicate n.toNat ⟨i,0⟩) k (s.prints++List.replicate n.toNat (⟨i,0⟩:Prt)).length=_
              rw [hls,hpl,usedP_rep,usedI_same (l:=s.items) fun q _=>by rw [hel];split<;>first|rfl|(rename_i eq;rw [eq];rfl)]
              show _+(_+if i=(k:Int) then _ else _)=_
              split<;>omega
            refine ⟨?_,?_⟩
            · show (el (s.items.set i.toNat (used1 (el s.items i.toNat) n)) k).uses=usedS (printF s i n) k
              rw [hus,hel]
              split
              · rename_i e
                rw [if_pos (by omega)]
                show (el s.items i.toNat).uses+n=_
                rw [← e]
                omega
              · rw [if_neg (by omega)]
                omega
            · show (el (s.items.set i.toNat (used1 (el s.items i.toNat) n)) k).uses≤mostOf s.life (el (s.items.set i.toNat (used1 (el s.items i.toNat) n)) k)
              rw [hel]
              split
              · unfold mostOf
                show (el s.items i.toNat).uses+n≤if (el s.items i.toNat).kind=3 then _ else _
                rw [if_pos (by omega)]
                omega
              · exact u2
  · cases h
theorem act_kind {s:Sto}{a:Deed}(h:actE s a=0):a.kind=1∨a.kind=2∨a.kind=3∨a.kind=4∨a.kind=5∨a.kind=6∨a.kind=7:=by
  by_cases h1:a.kind=1
  · exact .inl h1
  by_cases h2:a.kind=2
  · exact .inr (.inl h2)
  by_cases h3:a.kind=3
  · exact .inr (.inr (.inl h3))
  by_cases h4:a.kind=4
  · exact .inr (.inr (.inr (.inl h4)))
  by_cases h5:a.kind=5
  · exact .inr (.inr (.inr (.inr (.inl h5))))
  by_cases h6:a.kind=6
  · exact .inr (.inr (.inr (.inr (.inr (.inl h6)))))
  by_cases h7:a.kind=7
  · exact .inr (.inr (.inr (.inr (.inr (.inr h7)))))
  rw [actE_no h1 h2 h3 h4 h5 h6 h7] at h
  cases h
theorem valid_act {s:Sto}{a:Deed}(hV:Valid s) (h:actE s a=0):Valid (actF s a):=by
  rcases act_kind h with k|k|k|k|k|k|k
  · rw [actE_1 k] at h;rw [actF_1 k];exact valid_engrave hV h
  · rw [actE_2 k] at h;rw [actF_2 k];exact valid_transfer hV h
  · rw [actE_3 k] at h;rw [actF_3 k];exact valid_move hV h
  · rw [actE_4 k] at h;rw [actF_4 k];exact valid_print hV h
  · rw [actF_5 k];exact valid_spend hV (by decide)
  · rw [actF_6 k];exact valid_spend hV (by decide)
  · rw [actE_7 k] at h;rw [actF_7 k];exact valid_destroy hV h
end Go.Proofs.YtloaefllpokkaaaGreat
