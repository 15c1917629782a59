/- Parts of the proof: contracts of functions. No condition. -/
import Derived.Test.YtloaefllpokkaaaGreatKPt13
import Derived.Test.YtloaefllpokkaaaGreatKPt132
set_option maxHeartbeats 16000000
set_option linter.unusedSimpArgs false
set_option linter.unusedVariables false
namespace Go.Proofs.YtloaefllpokkaaaGreat
open Go.RowKit
theorem set_same {H:Heap}{k:Nat}{b:Blk}(h:H[k]?=some b):H.set k b=H:=by
  refine List.ext_getElem? fun i=>?_
  rw [List.getElem?_set]
  by_cases e:k=i
  · subst e
    rw [if_pos rfl,if_pos (List.getElem?_eq_some_iff.1 h).1,h]
  · rw [if_neg e]
def addS (s:Sto) (x:Itm):Sto:={ s with items:=s.items++[x] }
def setS (s:Sto) (j:Nat) (x:Itm):Sto:={ s with items:=s.items.set j x }
theorem add_p (s:Sto) (p:List (Int × Int)) (x:Itm) (hn:s.items.length≤30):ACalls Tryz.prog 122 [.ptr 4 0 0 0,x.enc] (stoB 0 s p) (fun v H=>s.items.length<30∧v=.tup []∧H=WI (addS s x) p) (fun v _=>s.items.length=30∧v=errV 9):=by
  refine acalls_of_aw Tryz.func122 rfl (dc rfl) ?_;refine aw_post ?_
  (repeat' (first|(refine ar_isq ?_;refine zq ?_)|(refine ar_refuse ?_ ?_ rfl rfl (dc rfl)<;>intro hrf<;>first|exact absurd hrf (by decide)|(try replace hrf:=HG.out hrf))|refine zst ?_|refine aw_drawn (id:=2) [(0,0),(1,0),(2,0),(3,0),(4,0),(5,0),(6,0),(7,1),(8,1),(9,0),(10,0),(11,0),(12,2)] mixed (by kernel_rfl) ?_|refine zco ?_ ?_|exact zd|(refine fun (hg:(_:Prop))=>?_;(try replace hg:=HG.out hg);(try dsimp only at hg);(try (have _h:True:=hg;clear _h hg)))))
  all_goals first
    | (exfalso;omega)
    | (intro H';exact (⟨by omega,rfl⟩:s.items.length=30∧errV 9=errV 9))
    | ((refine subq_n [] [.arr 4 1 (fun _=>stoG 4 2 (addS s x)),.dead,LB 2 Prt.enc s.prints,mapE vi p,LB 5 Itm.enc (s.items++[x])] ?_ ?_;(focus ((refine sub_to [some 0,some 1,some 2,some 3,some 6] [] rfl ?_ ?_<;>(repeat' (first|exact trivial|refine ⟨⟨_,rfl,?_⟩,?_⟩|refine vs1 ?_ ?_|refine vs2 ?_ ?_|refine vs3 ?_|refine vs4 ?_ ?_|refine ⟨.inl ⟨_,_,rfl,rfl,?_⟩,?_⟩|exact ⟨.inr ⟨rfl,rfl⟩,trivial⟩|refine ⟨.inr ⟨rfl,rfl⟩,?_⟩|(intro _ _)|exact vz1|(first|refine ⟨trivial,?_⟩|refine ⟨bsub_mapE rfl rfl (fun _=>rfl),?_⟩|exact VSub.aggL ⟨.closed rfl,slEq rfl (by simp [addS]),.sl rfl,.map rfl,trivial⟩)|exact vz2|fail)));done)))
       exact bq0n ⟨by omega,rfl,rfl⟩)
    | trace_state
section
variable {r:Option Nat}{m nt i d:Nat}{Q:Post}{env:Env}{H:Heap}{ops:Array Oper}{L:List Stp}{ty:TypeId}{pos:String}{after:Array Edge}{ats:Array TypeId}{x y z:Operand}{p:List (Int × Int)}
theorem ar_item (s:Sto) {j:Int}(hn:s.items.length≤30) (h1:hereB s j→AR Tryz.prog r m nt ops Q L ((d,.ptr 5 1 j.toNat 0)::env) H) (h2:¬ hereB s j→∀ H',Q (.panic (errV 6)) [] H') (hx:eo env x=some (.ptr 4 0 0 0)) (hy:eo env y=some (vi j))
    (b0:H[0]?=some (.arr 4 1 (fun _=>stoV 0 s))) (b1:H[1]?=some (LB 5 Itm.enc s.items)) (b2:H[2]?=some (LB 2 Prt.enc s.prints)) (b3:H[3]?=some (mapE vi p)) (hl:4≤H.length) (hd:d<nt) :
    AR Tryz.prog r m nt ops Q (.l i ⟨some d,.call ⟨.value (.func 123),#[x,y],ats⟩,ty,pos,after,none⟩ false::L) env H:=by
  refine ar_gcall (H0:=stoB 0 s p) [0,1,2,3] [] (args:=[x,y]) (vs:=[.ptr 4 0 0 0,vi j]) (first:=[]) (cap:=[]) fn123 rfl (by rw [List.mapM_cons,List.mapM_cons,List.mapM_nil,hx,hy];rfl) (xs:=[.ptr 4 0 0 0,vi j]) ⟨.ptr rfl,.closed rfl,trivial⟩ rfl (by decide) (fun _ h=>by cases h) (hsub4 b0 b1 b2 b3) stoB_live (item_p s p j hn) hd ?_ ?_
  · rintro _ _ ⟨hh,rfl,rfl⟩
    rw [show stoB 0 s p=[.arr 4 1 (fun _=>stoV 0 s),LB 5 Itm.enc s.items,LB 2 Prt.enc s.prints,mapE vi p] from rfl,join4 hl,mapE_ren]
    have e0:H.set 0 ((Blk.arr 4 1 (fun _=>stoV 0 s)).ren (rn [0,1,2,3] H.length))=H:=set_same b0
    have e1:H.set 1 ((LB 5 Itm.enc s.items).ren (rn [0,1,2,3] H.length))=H:=set_same b1
    have e2:H.set 2 ((LB 2 Prt.enc s.prints).ren (rn [0,1,2,3] H.length))=H:=set_same b2
    rw [e0,e1,e2,set_same b3,List.map_nil,List.append_nil]
    exact h1 hh
  · rintro _ _ ⟨hh,rfl⟩
    exact h2 hh _
theorem ar_add (s:Sto) (w:Itm) (hn:s.items.length≤30) (h1:s.items.length<30→AR Tryz.prog r m nt ops Q L ((d,.tup [])::env) (((H.set 0 (.arr 4 1 (fun _=>stoG H.length 2 (addS s w)))).set 1 .dead)++[LB 5 Itm.enc (s.items++[w])])) (h2:s.items.length=30→∀ H',Q (.panic (errV 9)) [] H') (hx:eo env x=some (.ptr 4 0 0 0)) (hy:eo env y=some w.enc)
    (b0:H[0]?=some (.arr 4 1 (fun _=>stoV 0 s))) (b1:H[1]?=some (LB 5 Itm.enc s.items)) (b2:H[2]?=some (LB 2 Prt.enc s.prints)) (b3:H[3]?=some (mapE vi p)) (hl:4≤H.length) (hd:d<nt) :
    AR Tryz.prog r m nt ops Q (.l i ⟨some d,.call ⟨.value (.func 122),#[x,y],ats⟩,ty,pos,after,none⟩ false::L) env H:=by
  refine ar_gcall (H0:=stoB 0 s p) [0,1,2,3] [] (args:=[x,y]) (vs:=[.ptr 4 0 0 0,w.enc]) (first:=[]) (cap:=[]) fn122 rfl (by rw [List.mapM_cons,List.mapM_cons,List.mapM_nil,hx,hy];rfl) (xs:=[.ptr 4 0 0 0,w.enc]) ⟨.ptr rfl,.closed rfl,trivial⟩ rfl (by decide) (fun _ h=>by cases h) (hsub4 b0 b1 b2 b3) stoB_live (add_p s p w hn) hd ?_ ?_
  · rintro _ _ ⟨hh,rfl,rfl⟩
    unfold WI
    rw [join4 hl,mapE_ren]
    have e2:((H.set 0 ((Blk.arr 4 1 (fun _=>stoG 4 2 (addS s w))).ren (rn [0,1,2,3] H.length))).set 1 ((Blk.dead).ren (rn [0,1,2,3] H.length))).set 2 ((LB 2 Prt.enc (addS s w).prints).ren (rn [0,1,2,3] H.length))=(H.set 0 (.arr 4 1 (fun _=>stoG H.length 2 (addS s w)))).set 1 .dead:=set_same (by rw [List.getElem?_set_ne (by decide),List.getElem?_set_ne (by decide)];exact b2)
    rw [e2,set_same (by rw [List.getElem?_set_ne (by decide),List.getElem?_set_ne (by decide)];exact b3)]
    exact h1 hh
  · rintro _ _ ⟨hh,rfl⟩
    exact h2 hh _
end
def newDie:Itm:=⟨1,-1,0,0,false⟩
def engrE (s:Sto):Int:=if s.items.length=30 then 9 else 0
def made1 (x:Itm) (i:Int):Itm:=⟨x.kind+1,i,1,0,false⟩
def transE (s:Sto) (i:Int):Int:=if hereB s i then (if (el s.items i.toNat).kind=3∨(el s.items i.toNat).place≠1 then 2 else if (el s.items i.toNat).uses=10 then 81 else if s.items.length=30 then 9 else 0) else 6
def used1 (x:Itm) (n:Int):Itm:={ x with uses:=x.uses+n }
def transF (s:Sto) (i:Int):Sto:=addS (setS s i.toNat (used1 (el s.items i.toNat) 1)) (made1 (el s.items i.toNat) i)
def gone1 (x:Itm):Itm:={ x with gone:=true }
def destE (s:Sto) (i:Int):Int:=if hereB s i then (if (el s.items i.toNat).place≠0 then 2 else 0) else 6
def destF (s:Sto) (i:Int):Sto:=setS s i.toNat (gone1 (el s.items i.toNat))
theorem upd_enc {l:List Itm}{j:Nat}(hj:j<l.length) {x:Itm}{v:V}(hv:v=x.enc) (i:Nat):upd (fun i=>(el l i).enc) j v i=(el (l.set j x) i).enc:=by
  by_cases e:i=j
  · subst e
    rw [upd_same,hv]
    simp [el,hj]
  · rw [upd_other e]
    simp [el,List.getElem?_set_ne (Ne.symm e)]
theorem bsub_set {H:Heap}{σ:List (Option Nat)}{fr:Nat→Prop}{k b j:Nat}{l:List Itm}(x:Itm) {v:V}(h:σ[k]?=some (some b)) (hj:j<l.length) (hb:H[b]?=some (.arr 5 l.length (upd (fun i=>(el l i).enc) j v))) (hv:v=x.enc):BSub H σ fr k (LB 5 Itm.enc (l.set j x)):=by
  refine .inl ⟨b,_,h,?_,fun i _=>.of_eq (upd_enc hj hv i) rfl⟩
  rw [hb,List.length_set]
theorem engrave_p (s:Sto) (p:List (Int × Int)) (a:Deed) (hn:s.items.length≤30):ACalls Tryz.prog 115 [.ptr 4 0 0 0,a.enc] (stoB 0 s p) (fun v H=>engrE s=0∧v=.tup []∧H=WI (addS s newDie) p) (fun v _=>engrE s≠0∧v=errV (engrE s)):=by
  refine acalls_of_aw Tryz.func115 rfl (dc rfl) ?_;refine aw_post ?_
  (repeat' (first|(refine ar_isq ?_;refine zq ?_)|(refine zbt ?_)|(refine ar_add s newDie hn ?_ ?_ rfl rfl rfl rfl rfl rfl (dc rfl) (dc rfl)<;>intro hrf)|refine zst ?_|refine zco ?_ ?_|exact zd|(refine fun (hg:(_:Prop))=>?_;(try replace hg:=HG.out hg);(try dsimp only at hg);(try (have _h:True:=hg;clear _h hg)))))
  · (refine subq_n [] [.arr 4 1 (fun _=>stoG 4 2 (addS s newDie)),.dead,LB 2 Prt.enc s.prints,mapE vi p,LB 5 Itm.enc (s.items++[newDie])] ?_ ?_;(focus (exact zsc [some 0,some 1,some 2,some 3,some 5] [])))
    exact bq0n ⟨by unfold engrE;rw [if_neg (by omega)],rfl,rfl⟩
  · intro H'
    have e:engrE s=9:=by unfold engrE;rw [if_pos hrf]
    refine (?_:engrE s≠0∧errV 9=errV (engrE s))
    rw [e]
    exact ⟨by decide,rfl⟩
theorem destroy_p (s:Sto) (p:List (Int × Int)) (a:Deed) (hn:s.items.length≤30):ACalls Tryz.prog 121 [.ptr 4 0 0 0,a.enc] (stoB 0 s p) (fun v H=>destE s a.item=0∧v=.tup []∧H=stoB 0 (destF s a.item) p) (fun v _=>destE s a.item≠0∧v=errV (destE s a.item)):=by
  have bad:∀ e:Int,destE s a.item=e→e≠0→∀ H':Heap,destE s a.item≠0∧errV e=errV (destE s a.item):=fun e h h0 _=>by rw [h];exact ⟨h0,rfl⟩
  by_cases hh:hereB s a.item
  · have hlt:a.item.toNat<s.items.length:=by unfold hereB at hh;omega
    refine acalls_of_aw Tryz.func121 rfl (dc rfl) ?_;refine aw_post ?_
    (repeat' (first|(refine ar_isq ?_;refine zq ?_)|(refine ar_item s hn ?_ ?_ rfl rfl rfl rfl rfl rfl (dc rfl) (dc rfl)<;>intro hrf)|(refine ar_refuse ?_ ?_ rfl rfl (dc rfl)<;>intro hrf<;>first|exact absurd hrf (by decide)|(try replace hrf:=HG.out hrf))|refine zst ?_|refine zco ?_ ?_|exact zd|(refine fun (hg:(_:Prop))=>?_;(try replace hg:=HG.out hg);(try dsimp only at hg);(try (have _h:True:=hg;clear _h hg)))))
    all_goals first
      | (exact absurd hh (by assumption))
      | exact bad 2 (by unfold destE;rw [if_pos hh,if_pos (by omega)]) (by decide)
      | ((refine subq_n [] [.arr 4 1 (fun _=>stoV 0 (destF s a.item)),LB 5 Itm.enc (s.items.set a.item.toNat (gone1 (el s.items a.item.toNat))),LB 2 Prt.enc s.prints,mapE vi p] ?_ ?_;(focus ((refine sub_to [some 0,some 1,some 2,some 3] [] rfl ?_ ?_<;>(repeat' (first|exact trivial|refine ⟨⟨_,rfl,?_⟩,?_⟩|refine vs1 ?_ ?_|refine vs2 ?_ ?_|refine vs3 ?_|refine vs4 ?_ ?_|refine ⟨.inl ⟨_,_,rfl,rfl,?_⟩,?_⟩|exact ⟨.inr ⟨rfl,rfl⟩,trivial⟩|refine ⟨.inr ⟨rfl,rfl⟩,?_⟩|(intro _ _)|exact vz1|(first|refine ⟨bsub_set (gone1 (el s.items a.item.toNat)) rfl hlt rfl rfl,?_⟩|refine ⟨bsub_mapE rfl rfl (fun _=>rfl),?_⟩|exact VSub.aggL ⟨.closed rfl,slEq rfl (by simp [destF,setS]),.sl rfl,.map rfl,trivial⟩)|exact vz2|fail)));done)))
         exact bq0n ⟨by unfold destE;rw [if_pos hh,if_neg (by omega)],rfl,rfl⟩)
      | trace_state
  · refine acalls_of_aw Tryz.func121 rfl (dc rfl) ?_
    (repeat' (first|(refine ar_isq ?_;refine zq ?_)|(refine ar_item s hn ?_ ?_ rfl rfl rfl rfl rfl rfl (dc rfl) (dc rfl)<;>intro hrf<;>(try exact absurd hrf hh))|refine zst ?_|refine zco ?_ ?_|exact zd|(refine fun (hg:(_:Prop))=>?_;(try replace hg:=HG.out hg);(try dsimp only at hg);(try (have _h:True:=hg;clear _h hg)))))
    all_goals exact bad 6 (by unfold destE;rw [if_neg hh]) (by decide)
theorem transfer_p (s:Sto) (p:List (Int × Int)) (a:Deed) (hV:Valid s):ACalls Tryz.prog 116 [.ptr 4 0 0 0,a.enc] (stoB 0 s p) (fun v H=>transE s a.item=0∧v=.tup []∧H=WI (transF s a.item) p) (fun v _=>transE s a.item≠0∧v=errV (transE s a.item)):=by
  have hfew:=hV.1
  unfold Few at hfew
  have hn:=hfew.2.1
  have bad:∀ e:Int,transE s a.item=e→e≠0→∀ H':Heap,transE s a.item≠0∧errV e=errV (transE s a.item):=fun e h h0 _=>by rw [h];exact ⟨h0,rfl⟩
  by_cases hh:hereB s a.item
  · have hlt:a.item.toNat<s.items.length:=by unfold hereB at hh;omega
    have h0:=hh.1
    have hm:=hV.2.1 a.item.toNat hlt
    unfold Made at hm
    have hu:=hV.2.2.2.2 a.item.toNat hlt
    have hul:=usedI_bnd s.items a.item.toNat s.items.length
    have hup:=usedP_bnd s.prints a.item.toNat s.prints.length
    have hu1:=hu.1
    unfold usedS at hu1
    have hel:el (s.items++[made1 (el s.items a.item.toNat) a.item]) a.item.toNat=el s.items a.item.toNat:=el_app_lt hlt
    have hj2:a.item.toNat<(s.items++[made1 (el s.items a.item.toNat) a.item]).length:=by rw [List.length_append];omega
    have hue:(el (s.items++[made1 (el s.items a.item.toNat) a.item]) a.item.toNat).uses=(el s.items a.item.toNat).uses:=by rw [hel]
    have hal:(addS s (made1 (el s.items a.item.toNat) a.item)).items.length=s.items.length+1:=by simp [addS]
    have hset:(s.items++[made1 (el s.items a.item.toNat) a.item]).set a.item.toNat (used1 (el s.items a.item.toNat) 1)=(transF s a.item).items:=List.set_append_left _ _ hlt
    refine acalls_of_aw Tryz.func116 rfl (dc rfl) ?_;refine aw_post ?_
    (repeat' (first|(refine ar_isq ?_;refine zq ?_)|refine zil (j:=a.item.toNat) ?_|refine zis (j:=a.item.toNat) ?_|refine zit (j:=a.item.toNat) ?_|(refine zbt ?_)|(refine ar_item s hn ?_ ?_ rfl rfl rfl rfl rfl rfl (dc rfl) (dc rfl)<;>intro hrf)|(refine ar_refuse ?_ ?_ rfl rfl (dc rfl)<;>intro hrf<;>first|exact absurd hrf (by decide)|(try replace hrf:=HG.out hrf))|(refine ar_add s (made1 (el s.items a.item.toNat) a.item) hn ?_ ?_ rfl rfl rfl rfl rfl rfl (dc rfl) (dc rfl)<;>intro hrf)|refine zg ?_ ?_|refine zgu ?_|refine zst ?_|refine aw_drawn (id:=4) [(0,0),(1,0),(2,0),(3,0),(4,0),(5,0),(6,0),(7,0),(8,0),(9,2)] mixed (by kernel_rfl) ?_|refine aw_drawn (id:=4) [(0,0),(1,0),(2,0),(3,0),(4,0),(5,0),(6,0),(7,0),(8,0),(9,1)] mixed (by kernel_rfl) ?_|refine aw_drawn (id:=5) [(0,0),(1,0),(2,0),(3,0),(4,0),(5,0),(6,0),(7,0),(8,0),(9,0),(10,0),(11,0),(12,0),(13,2)] mixed (by kernel_rfl) ?_|refine zco ?_ ?_|exact zd|(refine fun (hg:(_:Prop))=>?_;(try replace hg:=HG.out hg);(try dsimp only at hg);(try (have _h:True:=hg;clear _h hg)))))
    all_goals first
      | (exact absurd hh (by assumption))
      | exact bad 2 (by unfold transE;rw [if_pos hh,if_pos (by omega)]) (by decide)
      | exact bad 81 (by unfold transE;rw [if_pos hh,if_neg (by omega),if_pos (by omega)]) (by decide)
      | exact bad 9 (by unfold transE;rw [if_pos hh,if_neg (by omega),if_neg (by omega),if_pos (by omega)]) (by decide)
      | ((refine subq_n [] [.arr 4 1 (fun _=>stoG 4 2 (transF s a.item)),.dead,LB 2 Prt.enc s.prints,mapE vi p,LB 5 Itm.enc ((s.items++[made1 (el s.items a.item.toNat) a.item]).set a.item.toNat (used1 (el s.items a.item.toNat) 1))] ?_ ?_;(focus ((refine sub_to [some 0,some 1,some 2,some 3,some 5] [] rfl ?_ ?_<;>(repeat' (first|exact trivial|refine ⟨⟨_,rfl,?_⟩,?_⟩|refine vs1 ?_ ?_|refine vs2 ?_ ?_|refine vs3 ?_|refine vs4 ?_ ?_|refine ⟨.inl ⟨_,_,rfl,rfl,?_⟩,?_⟩|exact ⟨.inr ⟨rfl,rfl⟩,trivial⟩|refine ⟨.inr ⟨rfl,rfl⟩,?_⟩|(intro _ _)|exact vz1|(first|refine ⟨trivial,?_⟩|refine ⟨bsub_set (used1 (el s.items a.item.toNat) 1) rfl (by simp;omega) rfl (by rw [hel];rfl),?_⟩|refine ⟨bsub_mapE rfl rfl (fun _=>rfl),?_⟩|exact VSub.aggL ⟨.closed rfl,slEq rfl (by simp [addS,transF,setS]),.sl rfl,.map rfl,trivial⟩)|exact vz2|fail)));done)))
         exact bq0n ⟨by unfold transE;rw [if_pos hh,if_neg (by omega),if_neg (by omega),if_neg (by omega)],rfl,by rw [hset];rfl⟩)
      | trace_state
  · refine acalls_of_aw Tryz.func116 rfl (dc rfl) ?_
    (repeat' (first|(refine ar_isq ?_;refine zq ?_)|(refine zbt ?_)|(refine ar_item s hn ?_ ?_ rfl rfl rfl rfl rfl rfl (dc rfl) (dc rfl)<;>intro hrf<;>(try exact absurd hrf hh))|refine zg ?_ ?_|refine zgu ?_|refine zst ?_|refine aw_drawn (id:=4) [(0,0),(1,0),(2,0),(3,0),(4,0),(5,0),(6,0),(7,0),(8,0),(9,1)] mixed (by kernel_rfl) ?_|refine aw_drawn (id:=4) [(0,0),(1,0),(2,0),(3,0),(4,0),(5,0),(6,0),(7,0),(8,0),(9,2)] mixed (by kernel_rfl) ?_|refine aw_drawn (id:=5) [(0,0),(1,0),(2,0),(3,0),(4,0),(5,0),(6,0),(7,0),(8,0),(9,0),(10,0),(11,0),(12,0),(13,2)] mixed (by kernel_rfl) ?_|refine zco ?_ ?_|exact zd|(refine fun (hg:(_:Prop))=>?_;(try replace hg:=HG.out hg);(try dsimp only at hg);(try (have _h:True:=hg;clear _h hg)))))
    all_goals exact bad 6 (by unfold transE;rw [if_neg hh]) (by decide)
def repP (q:Prt) (m j:Nat):V:=bif Nat.blt j m then q.enc else Prt.enc ⟨0,0⟩
theorem repP_in {q:Prt}{m j:Nat}(h:j<m):repP q m j=q.enc:=by
  have:Nat.blt j m=true:=by rw [Nat.blt_eq];exact h
  simp [repP,this]
theorem repP_out {q:Prt}{m j:Nat}(h:m≤j):repP q m j=Prt.enc ⟨0,0⟩:=by
  have:Nat.blt j m=false:=by cases e:Nat.blt j m with|false=>rfl|true=>rw [Nat.blt_eq] at e;omega
  simp [repP,this]
theorem repP_closed (q:Prt) (m j:Nat):(repP q m j).closed=true:=by
  by_cases h:j<m
  · rw [repP_in h];rfl
  · rw [repP_out (by omega)];rfl
theorem repP_one (q:Prt) (m j:Nat):(repP q m j).cells.all V.one=true:=by
  by_cases h:j<m
  · rw [repP_in h];rfl
  · rw [repP_out (by omega)];rfl
theorem copy_repP0 (q:Prt) (c i:Nat) (hc:c≤1):copyF (fun _=>Prt.enc ⟨0,0⟩) 0 c (fun j=>(el [q] j).enc) i=repP q c i:=by
  by_cases h:i<c
  · rw [copyF_in (Nat.zero_le _) (by omega),repP_in h,show i-0=0 by omega]
    rfl
  · rw [copyF_out (by omega),repP_out (by omega)]
theorem copy_repP {q:Prt}{m c:Nat}(hc:c≤m) (i:Nat):copyF (repP q m) m c (fun j=>repP q m (0+j)) i=repP q (m+c) i:=by
  by_cases h:i<m
  · rw [copyF_out (by omega),repP_in h,repP_in (by omega)]
  · by_cases h2:i<m+c
    · rw [copyF_in (by omega) h2,Nat.zero_add,repP_in (by omega),repP_in h2]
    · rw [copyF_out (by omega),repP_out (by omega),repP_out (by omega)]
theorem repeatP_p (q:Prt) (n:Nat) (hn:n≤1000):PCalls Tryz.prog 125 [encPrints [q],vi n] (·=encPrints (List.replicate n q)):=by
  have h1:[q].length=1:=rfl
  have hT':(0:Int)≤([q].length:Int)*(n:Int)∧([q].length:Int)*(n:Int)≤100000:=by rw [← Int.natCast_mul,h1];omega
  refine pcalls_of_aw Tryz.func125 rfl (dc rfl) ?_
  (repeat' (first|(refine ar_isq ?_;refine zq ?_)|(refine ar_pcall (own:=false) fn127 rfl rfl (.cons (.closed rfl) (.cons (.closed rfl) .nil)) (mul_p _ _ (by omega) (by omega) (by omega)) (by simp) (dc rfl) ?_;intro _ hv;subst hv)|(refine ar_make_v (n:=n) (ty rfl) rfl (ty rfl) rfl rfl (by rw [h1];omega) (by rw [h1];omega) (dc rfl) rfl rfl (by dsimp only;omega) (maxLen_ok (by omega)) ?_)|refine ar_copyN (ty rfl) rfl (ty rfl) rfl rfl rfl (by omega) rfl (.inl rfl) (fun _ _=>rfl) (dc rfl) ?_|refine zcl ?_|refine zcs ?_|refine zcpl ?_|refine zcpo ?_|refine zg ?_ ?_|refine zgu ?_|refine zst ?_|refine aw_drawn (id:=9) [(0,0),(1,0),(2,0),(3,0),(4,0),(5,0),(6,0),(7,2),(8,0),(9,0)] mixed (by kernel_rfl) ?_|refine zco ?_ ?_|exact zd|(refine fun (hg:(_:Prop))=>?_;(try replace hg:=HG.out hg);(try dsimp only at hg);(try (have _h:True:=hg;clear _h hg)))))
  all_goals (try (exfalso;omega))
  have hfl:=fillN_le 1 n
  refine aw_for n (fun _=>True) (fun k=>[(7,.sl 2 0 0 n),(8,vi (fillN 1 n k))]) (fun k=>[.arr 2 n (repP q (fillN 1 n k))]) trivial ?_ ?_
  · (refine sub_to [some 0] [] rfl ?_ ?_<;>(repeat' (first|exact trivial|refine ⟨⟨_,rfl,?_⟩,?_⟩|refine vs1 ?_ ?_|refine vs2 ?_ ?_|refine vs3 ?_|refine vs4 ?_ ?_|refine ⟨.inl ⟨_,_,rfl,rfl,?_⟩,?_⟩|exact ⟨.inr ⟨rfl,rfl⟩,trivial⟩|refine ⟨.inr ⟨rfl,rfl⟩,?_⟩|(intro _ _)|exact vz1|(first|exact siEq (by simp [fillN];omega)|exact VSub.of_eq ((copy_repP0 q _ _ (Nat.min_le_left _ _)).trans (by simp [fillN])) (repP_closed _ _ _))|exact vz2|fail)))
  intro k hk _
  have hf:=hfl k
  by_cases hlt:fillN 1 n k<n
  · obtain ⟨hd,hkf⟩:=fillN_mod [true] n (by decide) k hlt
    have hmin:(fillN 1 n k-0).min (n-fillN 1 n k)≤n-fillN 1 n k:=Nat.min_le_right _ _
    have hkf:k<fillN 1 n k:=hkf
    (repeat' (first|(refine ar_isq ?_;refine zq ?_)|refine ar_copyN (ty rfl) rfl (ty rfl) rfl rfl rfl (by omega) rfl (.inr (.inl ⟨_,_,_,_,rfl,rfl,(by omega),rfl⟩)) (fun _ _=>repP_one _ _ _) (dc rfl) ?_|refine zcl (a:=fillN 1 n k) (b:=n) ?_|refine zcs (a:=fillN 1 n k) (b:=n) ?_|refine zcl (a:=0) (b:=fillN 1 n k) ?_|refine zcs (a:=0) (b:=fillN 1 n k) ?_|refine zcpl ?_|refine zcpo ?_|refine zg ?_ ?_|refine zgu ?_|refine zst ?_|refine aw_drawn (id:=9) [(0,0),(1,0),(2,0),(3,0),(4,0),(5,0),(6,0),(7,2),(8,0),(9,0)] mixed (by kernel_rfl) ?_|refine zco ?_ ?_|exact zd|(refine fun (hg:(_:Prop))=>?_;(try replace hg:=HG.out hg);(try dsimp only at hg);(try (have _h:True:=hg;clear _h hg)))))
    all_goals first
      | (exfalso;omega)
      | ((first|refine loop_next (by omega) ?_ ?_|refine (show _∧_∧SubOf _ _ _ _ _ _ from And.intro (by omega) (And.intro ?_ ?_)));(focus ((trivial);done));(focus ((refine sub_to [some 0] [] rfl ?_ ?_<;>(repeat' (first|exact trivial|refine ⟨⟨_,rfl,?_⟩,?_⟩|refine vs1 ?_ ?_|refine vs2 ?_ ?_|refine vs3 ?_|refine vs4 ?_ ?_|refine ⟨.inl ⟨_,_,rfl,rfl,?_⟩,?_⟩|exact ⟨.inr ⟨rfl,rfl⟩,trivial⟩|refine ⟨.inr ⟨rfl,rfl⟩,?_⟩|(intro _ _)|exact vz1|(first|exact siEq (by simp [fillN];omega)|exact VSub.of_eq (by have:=copy_repP (q:=q) (c:=min (fillN 1 n k) (n-fillN 1 n k)) (Nat.min_le_left (fillN 1 n k) _);simp only [Nat.zero_add,Nat.add_zero,Nat.sub_zero,fillN] at this ⊢;exact this _) (repP_closed _ _ _))|exact vz2|fail)));done)))
      | trace_state
  · (repeat' (first|(refine ar_isq ?_;refine zq ?_)|refine zcl ?_|refine zcs ?_|refine zcpl ?_|refine zcpo ?_|refine zg ?_ ?_|refine zgu ?_|refine zst ?_|refine aw_drawn (id:=9) [(0,0),(1,0),(2,0),(3,0),(4,0),(5,0),(6,0),(7,2),(8,0),(9,0)] mixed (by kernel_rfl) ?_|refine zco ?_ ?_|exact zd|(refine fun (hg:(_:Prop))=>?_;(try replace hg:=HG.out hg);(try dsimp only at hg);(try (have _h:True:=hg;clear _h hg)))))
    all_goals first
      | (exfalso;omega)
      | ((refine aw_mono_r (env':=[(4,encPrints (List.replicate n q))]) (H':=[]) ?_ ?_;(focus ((refine sub_to [] [0] rfl ?_ ?_<;>(repeat' (first|exact trivial|refine ⟨⟨_,rfl,?_⟩,?_⟩|refine vs1 ?_ ?_|refine vs2 ?_ ?_|refine vs3 ?_|refine vs4 ?_ ?_|refine ⟨.inl ⟨_,_,rfl,rfl,?_⟩,?_⟩|exact ⟨.inr ⟨rfl,rfl⟩,trivial⟩|refine ⟨.inr ⟨rfl,rfl⟩,?_⟩|(intro _ _)|exact vz1|(exact frz_as (by simp) rfl rfl (by simp) (fun i hi=>by rw [el_replicate hi,repP_in (by omega)]) (fun _=>rfl))|exact vz2|fail)));done)));(refine aw_ret ?_;(repeat (first|refine ret_then ?_|refine ret_block ?_));refine bq1 rfl ⟨?_,rfl⟩);rfl)
      | trace_state
def idxP (p:Prt→Bool) (l:List Prt):Int:=match (List.range l.length).find? (fun i=>p (el l i)) with|some i=>(i:Int)|none=>-1
theorem idxP_at {p:Prt→Bool}{l:List Prt}{i:Nat}(hi:i<l.length) (h0:∀ j,j<i→p (el l j)=false) (h:p (el l i)=true):idxP p l=i:=by
  have:(List.range l.length).find? (fun i=>p (el l i))=some i:=by
    rw [List.find?_range_eq_some]
    exact ⟨h,by simpa using hi,fun j hj=>by simp [h0 j hj]⟩
  unfold idxP
  rw [this]
theorem idxP_none {p:Prt→Bool}{l:List Prt}(h0:∀ j,j<l.length→p (el l j)=false):idxP p l=-1:=by
  have:(List.range l.length).find? (fun i=>p (el l i))=none:=by
    rw [List.find?_eq_none]
    intro j hj
    rw [List.mem_range] at hj
    simp [h0 j hj]
  unfold idxP
  rw [this]
theorem idxP_any (p:Prt→Bool) (l:List Prt):decide (0≤idxP p l)=l.any p:=by
  cases h:l.any p
  · rw [List.any_eq_false] at h
    rw [idxP_none fun j hj=>by simpa using h _ (el_mem hj)]
    rfl
  · rw [List.any_eq_true] at h
    obtain ⟨x,hx,hp⟩:=h
    obtain ⟨i,hi,rfl⟩:=mem_el hx
    unfold idxP
    split
    · simp
    · rename_i h0
      rw [List.find?_eq_none] at h0
      have:=h0 i (by simpa using hi)
      simp [hp] at this
def spentB (x:Prt):Bool:=!decide (x.state=0)
theorem spent1_p (x:Prt):PCalls Tryz.prog 129 [x.enc] (·=vb (spentB x)):=by
  refine pcalls_of_aw Tryz.func129 rfl (dc rfl) ?_
  (repeat' (first|(refine ar_isq ?_;refine zq ?_)|refine zst ?_|refine zco ?_ ?_|exact zd|(refine fun (hg:(_:Prop))=>?_;(try replace hg:=HG.out hg);(try dsimp only at hg);(try (have _h:True:=hg;clear _h hg)))))
  (refine aw_ret ?_;(repeat (first|refine ret_then ?_|refine ret_block ?_));refine bq1 rfl ⟨?_,rfl⟩)
  rfl
theorem indexP_p (l:List Prt):PCalls Tryz.prog 132 [encPrints l,.fn (.func 129) [] []] (·=vi (idxP spentB l)):=by
  (refine pcalls_know (fun I us h=>rel_len (rel_arg h (j:=0) rfl)) fun hlen0=>?_)
  refine pcalls_of_aw Tryz.func132 rfl (dc rfl) ?_
  (repeat' (first|(refine ar_isq ?_;refine zq ?_)|refine zst ?_|refine zco ?_ ?_|exact zd|(refine fun (hg:(_:Prop))=>?_;(try replace hg:=HG.out hg);(try dsimp only at hg);(try (have _h:True:=hg;clear _h hg)))))
  refine aw_for l.length (fun k=>∀ j,j<k→spentB (el l j)=false) (fun k=>[(0,encPrints l),(1,.fn (.func 129) [] []),(7,vi l.length),(8,vi k)]) (fun _=>[]) (fun j hj=>by omega) ?_ ?_
  · (exact zsb [] [])
  intro k hk hJ
  by_cases hkn:k<l.length
  · (repeat' (first|(refine ar_isq ?_;refine zq ?_)|refine zil (j:=k) ?_|refine zis (j:=k) ?_|refine zit (j:=k) ?_|(refine zpv fn129 (spent1_p (el l k)) ?_)|refine zst ?_|refine zco ?_ ?_|exact zd|(refine fun (hg:(_:Prop))=>?_;(try replace hg:=HG.out hg);(try dsimp only at hg);(try (have _h:True:=hg;clear _h hg)))))
    all_goals first
      | (exfalso;omega)
      | ((first|refine loop_next (by omega) ?_ ?_|refine (show _∧_∧SubOf _ _ _ _ _ _ from And.intro (by omega) (And.intro ?_ ?_)));(focus ((exact all_step hJ (by assumption));done));(focus (exact zsb [] [])))
      | ((refine aw_ret ?_;(repeat (first|refine ret_then ?_|refine ret_block ?_));refine bq1 rfl ⟨?_,rfl⟩);rw [idxP_at hkn hJ (by assumption)];try rfl)
      | trace_state
  · (repeat' (first|(refine ar_isq ?_;refine zq ?_)|refine zst ?_|refine zco ?_ ?_|exact zd|(refine fun (hg:(_:Prop))=>?_;(try replace hg:=HG.out hg);(try dsimp only at hg);(try (have _h:True:=hg;clear _h hg)))))
    all_goals first
      | (exfalso;omega)
      | ((refine aw_ret ?_;(repeat (first|refine ret_then ?_|refine ret_block ?_));refine bq1 rfl ⟨?_,rfl⟩);rw [idxP_none (fun j hj=>hJ j (by omega))];try rfl)
theorem containsP_p (l:List Prt):PCalls Tryz.prog 128 [encPrints l,.fn (.func 129) [] []] (·=vb (l.any spentB)):=by
  refine pcalls_of_aw Tryz.func128 rfl (dc rfl) ?_
  (repeat' (first|(refine ar_isq ?_;refine zq ?_)|(refine zpv fn132 (indexP_p l) ?_)|refine zst ?_|refine zco ?_ ?_|exact zd|(refine fun (hg:(_:Prop))=>?_;(try replace hg:=HG.out hg);(try dsimp only at hg);(try (have _h:True:=hg;clear _h hg)))))
  (refine aw_ret ?_;(repeat (first|refine ret_then ?_|refine ret_block ?_));refine bq1 rfl ⟨?_,rfl⟩)
  rw [← idxP_any]
  rfl
def takenB (s:Sto) (i dest:Int):Prop:=2≤dest∧¬ ∀ k,k<s.items.length→k≠i.toNat→(el s.items k).place≠dest
instance (s:Sto) (i dest:Int):Decidable (takenB s i dest):=by unfold takenB;infer_instance
def moveE (s:Sto) (i dest:Int):Int:=if hereB s i then (if ¬ (0≤dest∧dest≤9)∨(2≤dest∧(el s.items i.toNat).kind≠3) then 2 else if takenB s i dest then 82 else 0) else 6
def place1 (x:Itm) (dest:Int):Itm:={ x with place:=dest }
def moveF (s:Sto) (i dest:Int):Sto:=setS s i.toNat (place1 (el s.items i.toNat) dest)
def moveP (p:List (Int × Int)) (x:Itm) (i dest:Int):List (Int × Int):=if 2≤dest then putE (delE p x.place) dest i else delE p x.place
theorem move_p (s:Sto) (p:List (Int × Int)) (a:Deed) (hV:Valid s) (hP:PressOk s.items p):ACalls Tryz.prog 117 [.ptr 4 0 0 0,a.enc] (stoB 0 s p)
    (fun v H=>moveE s a.item a.dest=0∧v=.tup []∧H=stoB 0 (moveF s a.item a.dest) (moveP p (el s.items a.item.toNat) a.item a.dest)) (fun v _=>moveE s a.item a.dest≠0∧v=errV (moveE s a.item a.dest)):=by
  have hfew:=hV.1
  unfold Few at hfew
  have hn:=hfew.2.1
  have bad:∀ e:Int,moveE s a.item a.dest=e→e≠0→∀ H':Heap,moveE s a.item a.dest≠0∧errV e=errV (moveE s a.item a.dest):=fun e h h0 _=>by rw [h];exact ⟨h0,rfl⟩
  by_cases hh:hereB s a.item
  · have hlt:a.item.toNat<s.items.length:=by unfold hereB at hh;omega
    have h0:=hh.1
    have hpl:=hV.2.2.1 a.item.toNat hlt
    have taken:∀ v,getE p a.dest=some v→¬ v=a.item→takenB s a.item a.dest:=fun v hv hne=>by
      obtain ⟨q1,q2,q3,q4⟩:=(hP.iff _ _).1 hv
      exact ⟨q1,fun h=>h v.toNat (by omega) (by omega) q4⟩
    have free1:∀ v,getE p a.dest=some v→v=a.item→¬ takenB s a.item a.dest:=fun v hv he ht=>by
      obtain ⟨q1,q2,q3,q4⟩:=(hP.iff _ _).1 hv
      subst he
      exact ht.2 fun k hk hne hpk=>(hpl.2.2 (by omega)).2 k hk hne (by omega)
    have free2:getE p a.dest=none→¬ takenB s a.item a.dest:=fun hv ht=>by
      refine ht.2 fun k hk hne hpk=>?_
      have:=(hP.iff a.dest k).2 ⟨ht.1,by omega,by omega,by rw [Int.toNat_natCast];exact hpk⟩
      rw [hv] at this
      cases this
    have e2:¬ (0≤a.dest∧a.dest≤9)∨(2≤a.dest∧(el s.items a.item.toNat).kind≠3)→moveE s a.item a.dest=2:=fun h=>by unfold moveE;rw [if_pos hh,if_pos h]
    have e82:¬ (¬ (0≤a.dest∧a.dest≤9)∨(2≤a.dest∧(el s.items a.item.toNat).kind≠3))→takenB s a.item a.dest→moveE s a.item a.dest=82:=fun h h2=>by unfold moveE;rw [if_pos hh,if_neg h,if_pos h2]
    have e0:¬ (¬ (0≤a.dest∧a.dest≤9)∨(2≤a.dest∧(el s.items a.item.toNat).kind≠3))→¬ takenB s a.item a.dest→moveE s a.item a.dest=0:=fun h h2=>by unfold moveE;rw [if_pos hh,if_neg h,if_neg h2]
    
    refine acalls_of_aw Tryz.func117 rfl (dc rfl) ?_;refine aw_post ?_
    (repeat' (first|(refine ar_isq ?_;refine zq ?_)|(refine ar_item s hn ?_ ?_ rfl rfl rfl rfl rfl rfl (dc rfl) (dc rfl)<;>intro hrf)|(((refine ar_subk_l (sub_frzL (t:=13) vi ([a.dest]) rfl rfl rfl rfl (fun _ _=>rfl) (fun _=>rfl)) ?_);refine zpv fn47 (from_p _ _ [a.dest]) ?_))|refine ar_buildLE vi ([a.dest]) (by exact ty rfl) (by exact rfl) (by exact ty rfl) (by exact rfl) (by exact rfl) (by exact Nat.succ_pos _) (by exact rfl) (by exact dc rfl) (by exact rfl) (by exact fun _=>⟨rfl,rfl⟩) (by exact dc rfl) ?_|(refine ar_refuse ?_ ?_ rfl rfl (dc rfl)<;>intro hrf<;>first|exact absurd hrf (by decide)|(try replace hrf:=HG.out hrf))|(refine ar_lookup (e:=vi) (ty rfl) rfl (ty rfl) rfl (ty rfl) rfl rfl rfl (dc rfl) ?_ ?_<;>intros)|refine ar_delete (e:=vi) rfl (ty rfl) rfl (ty rfl) rfl rfl rfl rfl ?_|refine ar_mapUpdate (e:=vi) (v:=a.item) (ty rfl) rfl (ty rfl) rfl rfl rfl rfl rfl ?_|refine zg ?_ ?_|refine zgu ?_|refine zst ?_|refine aw_drawn (id:=3) [(0,0),(1,0),(2,0),(3,0),(4,0),(5,0),(6,0),(7,0),(8,0),(9,0),(10,0),(11,0)] mixed (by kernel_rfl) ?_|refine aw_drawn (id:=5) [(0,0),(1,0),(2,0),(3,0),(4,0),(5,0),(6,0),(7,0),(8,2)] mixed (by kernel_rfl) ?_|refine aw_drawn (id:=8) [(0,0),(1,0),(2,0),(3,0),(4,0),(5,0),(6,0),(7,0),(8,2)] mixed (by kernel_rfl) ?_|refine zco ?_ ?_|(refine fun (hg:(_:Prop))=>?_;first|exact absurd hg (by decide)|((try replace hg:=HG.out hg);(try dsimp only at hg);(try rw [fromB_one] at hg);(try rw [withinB_iff] at hg);(try rw [withinB_no] at hg);(try (have _h:True:=hg;clear _h hg));first|(exfalso;omega)|skip))))
    all_goals first
      | (exact absurd hh (by assumption))
      | exact bad 2 (e2 (by omega)) (by decide)
      | exact bad 82 (e82 (by omega) (taken _ (by assumption) (by assumption))) (by decide)
      | ((refine subq_n [] [.arr 4 1 (fun _=>stoV 0 (moveF s a.item a.dest)),LB 5 Itm.enc (s.items.set a.item.toNat (place1 (el s.items a.item.toNat) a.dest)),LB 2 Prt.enc s.prints,mapE vi (moveP p (el s.items a.item.toNat) a.item a.dest)] ?_ ?_;(focus ((refine sub_to [some 0,some 1,some 2,some 3] [] rfl ?_ ?_<;>(repeat' (first|exact trivial|refine ⟨⟨_,rfl,?_⟩,?_⟩|refine vs1 ?_ ?_|refine vs2 ?_ ?_|refine vs3 ?_|refine vs4 ?_ ?_|refine ⟨.inl ⟨_,_,rfl,rfl,?_⟩,?_⟩|exact ⟨.inr ⟨rfl,rfl⟩,trivial⟩|refine ⟨.inr ⟨rfl,rfl⟩,?_⟩|(intro _ _)|exact vz1|(first|refine ⟨bsub_set (place1 (el s.items a.item.toNat) a.dest) rfl hlt rfl rfl,?_⟩|refine ⟨bsub_mapE' rfl rfl (by unfold moveP;first|rw [if_pos (by omega)]|rw [if_neg (by omega)]) (fun _=>rfl),?_⟩|exact VSub.aggL ⟨.closed rfl,slEq rfl (by simp [moveF,setS]),.sl rfl,.map rfl,trivial⟩)|exact vz2|fail)));done)))
         refine bq0n ⟨e0 (by omega) ?_,rfl,rfl⟩
         first
         | exact free2 (by assumption)
         | exact free1 _ (by assumption) (by assumption))
      | trace_state
  · 
    refine acalls_of_aw Tryz.func117 rfl (dc rfl) ?_
    (repeat' (first|(refine ar_isq ?_;refine zq ?_)|(refine ar_item s hn ?_ ?_ rfl rfl rfl rfl rfl rfl (dc rfl) (dc rfl)<;>intro hrf<;>(try exact absurd hrf hh))|refine zg ?_ ?_|refine zgu ?_|refine zst ?_|refine aw_drawn (id:=3) [(0,0),(1,0),(2,0),(3,0),(4,0),(5,0),(6,0),(7,0),(8,0),(9,0),(10,0),(11,0)] mixed (by kernel_rfl) ?_|refine aw_drawn (id:=5) [(0,0),(1,0),(2,0),(3,0),(4,0),(5,0),(6,0),(7,0),(8,2)] mixed (by kernel_rfl) ?_|refine aw_drawn (id:=8) [(0,0),(1,0),(2,0),(3,0),(4,0),(5,0),(6,0),(7,0),(8,2)] mixed (by kernel_rfl) ?_|refine zco ?_ ?_|exact zd|(refine fun (hg:(_:Prop))=>?_;(try replace hg:=HG.out hg);(try dsimp only at hg);(try (have _h:True:=hg;clear _h hg)))))
    all_goals exact bad 6 (by unfold moveE;rw [if_neg hh]) (by decide)
def printE (s:Sto) (i n:Int):Int:=if hereB s i then (if (el s.items i.toNat).kind≠3∨(el s.items i.toNat).place<2∨¬ (1≤n∧n≤400) then 2 else if s.life<(el s.items i.toNat).uses+n then 81 else if 400<(s.prints.length:Int)+n then 9 else 0) else 6
def printF (s:Sto) (i n:Int):Sto:={ s with items:=s.items.set i.toNat (used1 (el s.items i.toNat) n),prints:=s.prints++List.replicate n.toNat ⟨i,0⟩ }
theorem print_p (s:Sto) (p:List (Int × Int)) (a:Deed) (hV:Valid s):ACalls Tryz.prog 118 [.ptr 4 0 0 0,a.enc] (stoB 0 s p)
    (fun v H=>printE s a.item a.n=0∧v=.tup []∧H=WP (printF s a.item a.n) p) (fun v _=>printE s a.item a.n≠0∧v=errV (printE s a.item a.n)):=by
  have hfew:=hV.1
  unfold Few at hfew
  have hn:=hfew.2.1
  have bad:∀ e:Int,printE s a.item a.n=e→e≠0→∀ H':Heap,printE s a.item a.n≠0∧errV e=errV (printE s a.item a.n):=fun e h h0 _=>by rw [h];exact ⟨h0,rfl⟩
  by_cases hh:hereB s a.item
  · have hlt:a.item.toNat<s.items.length:=by unfold hereB at hh;omega
    have h0:=hh.1
    have hu:=hV.2.2.2.2 a.item.toNat hlt
    have hul:=usedI_bnd s.items a.item.toNat s.items.length
    have hup:=usedP_bnd s.prints a.item.toNat s.prints.length
    have hu1:=hu.1
    unfold usedS at hu1
    have hrl:(List.replicate a.n.toNat (⟨a.item,0⟩:Prt)).length=a.n.toNat:=by simp
    have e2:(el s.items a.item.toNat).kind≠3∨(el s.items a.item.toNat).place<2∨¬ (1≤a.n∧a.n≤400)→printE s a.item a.n=2:=fun h=>by unfold printE;rw [if_pos hh,if_pos h]
    have e81:¬ ((el s.items a.item.toNat).kind≠3∨(el s.items a.item.toNat).place<2∨¬ (1≤a.n∧a.n≤400))→s.life<(el s.items a.item.toNat).uses+a.n→printE s a.item a.n=81:=fun h h2=>by unfold printE;rw [if_pos hh,if_neg h,if_pos h2]
    have e9:¬ ((el s.items a.item.toNat).kind≠3∨(el s.items a.item.toNat).place<2∨¬ (1≤a.n∧a.n≤400))→¬ s.life<(el s.items a.item.toNat).uses+a.n→400<(s.prints.length:Int)+a.n→printE s a.item a.n=9:=fun h h2 h3=>by unfold printE;rw [if_pos hh,if_neg h,if_neg h2,if_pos h3]
    have e0:¬ ((el s.items a.item.toNat).kind≠3∨(el s.items a.item.toNat).place<2∨¬ (1≤a.n∧a.n≤400))→¬ s.life<(el s.items a.item.toNat).uses+a.n→¬ 400<(s.prints.length:Int)+a.n→printE s a.item a.n=0:=fun h h2 h3=>by unfold printE;rw [if_pos hh,if_neg h,if_neg h2,if_neg h3]
    
    refine acalls_of_aw Tryz.func118 rfl (dc rfl) ?_;refine aw_post ?_
    (repeat' (first|(refine ar_isq ?_;refine zq ?_)|(refine zbt ?_)|(refine ar_item s hn ?_ ?_ rfl rfl rfl rfl rfl rfl (dc rfl) (dc rfl)<;>intro hrf)|(((refine ar_subk_l (sub_frzL (t:=24) vi ([a.n]) rfl rfl rfl rfl (fun _ _=>rfl) (fun _=>rfl)) ?_);refine zpv fn47 (from_p _ _ [a.n]) ?_))|refine ar_buildLE vi ([a.n]) (by exact ty rfl) (by exact rfl) (by exact ty rfl) (by exact rfl) (by exact rfl) (by exact Nat.succ_pos _) (by exact rfl) (by exact dc rfl) (by exact rfl) (by exact fun _=>⟨rfl,rfl⟩) (by exact dc rfl) ?_|(refine ar_refuse ?_ ?_ rfl rfl (dc rfl)<;>intro hrf<;>first|exact absurd hrf (by decide)|((try replace hrf:=HG.out hrf);(try rw [fromB_one] at hrf);(try rw [withinB_iff] at hrf);(try rw [withinB_no] at hrf)))|refine ar_buildLE Prt.enc ([⟨a.item,0⟩]) (by exact ty rfl) (by exact rfl) (by exact ty rfl) (by exact rfl) (by exact rfl) (by exact Nat.succ_pos _) (by exact rfl) (by exact dc rfl) (by exact rfl) (by exact fun _=>⟨rfl,rfl⟩) (by exact dc rfl) ?_|((refine ar_re (t:=74) (v':=vi ((a.n.toNat:Nat):Int)) rfl (congrArg vi (by omega)) ?_;(refine ar_subk_l (sub_frzL (t:=72) Prt.enc ([⟨a.item,0⟩]) rfl rfl rfl rfl (fun _ _=>rfl) (fun _=>rfl)) ?_);refine zpv fn125 (repeatP_p ⟨a.item,0⟩ a.n.toNat (by omega)) ?_))|refine zg ?_ ?_|refine zgu ?_|refine zst ?_|refine aw_drawn (id:=3) [(0,0),(1,0),(2,0),(3,0),(4,0),(5,0),(6,0),(7,0),(8,0),(9,0),(10,0),(11,0),(12,0),(13,2)] mixed (by kernel_rfl) ?_|refine aw_drawn (id:=3) [(0,0),(1,0),(2,0),(3,0),(4,0),(5,0),(6,0),(7,0),(8,0),(9,0),(10,0),(11,0),(12,0),(13,1)] mixed (by kernel_rfl) ?_|refine aw_drawn (id:=4) [(0,0),(1,0),(2,0),(3,0),(4,0),(5,0),(6,0),(7,0),(8,0),(9,0),(10,2)] mixed (by kernel_rfl) ?_|refine aw_drawn (id:=4) [(0,0),(1,0),(2,0),(3,0),(4,0),(5,0),(6,0),(7,0),(8,0),(9,0),(10,1)] mixed (by kernel_rfl) ?_|refine aw_drawn (id:=5) [(0,0),(1,0),(2,0),(3,0),(4,0),(5,0),(6,0),(7,0),(8,0),(9,2)] mixed (by kernel_rfl) ?_|refine aw_drawn (id:=6) [(0,0),(1,0),(2,0),(3,0),(4,0),(5,0),(6,0),(7,0),(8,0),(10,0),(11,0),(9,1),(12,1),(13,1),(14,0),(15,0),(16,0),(17,2)] mixed (by kernel_rfl) ?_|refine zco ?_ ?_|(refine fun (hg:(_:Prop))=>?_;first|exact absurd hg (by decide)|((try replace hg:=HG.out hg);(try dsimp only at hg);(try rw [fromB_one] at hg);(try rw [withinB_iff] at hg);(try rw [withinB_no] at hg);(try (have _h:True:=hg;clear _h hg));first|(exfalso;omega)|skip))))
    all_goals first
      | (exact absurd hh (by assumption))
      | exact bad 2 (e2 (by omega)) (by decide)
      | exact bad 81 (e81 (by omega) (by omega)) (by decide)
      | exact bad 9 (e9 (by omega) (by omega) (by omega)) (by decide)
      | ((refine subq_n [] [.arr 4 1 (fun _=>stoG 1 4 (printF s a.item a.n)),LB 5 Itm.enc (s.items.set a.item.toNat (used1 (el s.items a.item.toNat) a.n)),.dead,mapE vi p,LB 2 Prt.enc (s.prints++List.replicate a.n.toNat ⟨a.item,0⟩)] ?_ ?_;(focus ((refine sub_to [some 0,some 1,some 2,some 3,some 7] [] rfl ?_ ?_<;>(repeat' (first|exact trivial|refine ⟨⟨_,rfl,?_⟩,?_⟩|refine vs1 ?_ ?_|refine vs2 ?_ ?_|refine vs3 ?_|refine vs4 ?_ ?_|refine ⟨.inl ⟨_,_,rfl,rfl,?_⟩,?_⟩|exact ⟨.inr ⟨rfl,rfl⟩,trivial⟩|refine ⟨.inr ⟨rfl,rfl⟩,?_⟩|(intro _ _)|exact vz1|(first|refine ⟨trivial,?_⟩|refine ⟨bsub_set (used1 (el s.items a.item.toNat) a.n) rfl hlt rfl rfl,?_⟩|refine ⟨bsub_app rfl rfl rfl rfl (fun _ _=>rfl) (fun _=>rfl) (fun _ _=>.closed rfl),?_⟩|refine ⟨bsub_mapE rfl rfl (fun _=>rfl),?_⟩|exact VSub.aggL ⟨.closed rfl,slEq rfl (by simp [printF]),slEq rfl (by simp [printF]),.map rfl,trivial⟩)|exact vz2|fail)));done)))
         exact bq0n ⟨e0 (by omega) (by omega) (by omega),rfl,rfl⟩)
      | trace_state
  · 
    refine acalls_of_aw Tryz.func118 rfl (dc rfl) ?_
    (repeat' (first|(refine ar_isq ?_;refine zq ?_)|(refine zbt ?_)|(refine ar_item s hn ?_ ?_ rfl rfl rfl rfl rfl rfl (dc rfl) (dc rfl)<;>intro hrf<;>(try exact absurd hrf hh))|refine zg ?_ ?_|refine zgu ?_|refine zst ?_|refine aw_drawn (id:=3) [(0,0),(1,0),(2,0),(3,0),(4,0),(5,0),(6,0),(7,0),(8,0),(9,0),(10,0),(11,0),(12,0),(13,1)] mixed (by kernel_rfl) ?_|refine aw_drawn (id:=3) [(0,0),(1,0),(2,0),(3,0),(4,0),(5,0),(6,0),(7,0),(8,0),(9,0),(10,0),(11,0),(12,0),(13,2)] mixed (by kernel_rfl) ?_|refine aw_drawn (id:=4) [(0,0),(1,0),(2,0),(3,0),(4,0),(5,0),(6,0),(7,0),(8,0),(9,0),(10,1)] mixed (by kernel_rfl) ?_|refine aw_drawn (id:=4) [(0,0),(1,0),(2,0),(3,0),(4,0),(5,0),(6,0),(7,0),(8,0),(9,0),(10,2)] mixed (by kernel_rfl) ?_|refine aw_drawn (id:=5) [(0,0),(1,0),(2,0),(3,0),(4,0),(5,0),(6,0),(7,0),(8,0),(9,2)] mixed (by kernel_rfl) ?_|refine aw_drawn (id:=6) [(0,0),(1,0),(2,0),(3,0),(4,0),(5,0),(6,0),(7,0),(8,0),(10,0),(11,0),(9,1),(12,1),(13,1),(14,0),(15,0),(16,0),(17,2)] mixed (by kernel_rfl) ?_|refine zco ?_ ?_|exact zd|(refine fun (hg:(_:Prop))=>?_;(try replace hg:=HG.out hg);(try dsimp only at hg);(try (have _h:True:=hg;clear _h hg)))))
    all_goals exact bad 6 (by unfold printE;rw [if_neg hh]) (by decide)
def cutP (s:Sto) (first n:Int):List Prt:=(s.prints.drop first.toNat).take n.toNat
def spendE (s:Sto) (first n:Int):Int:=if 1≤n∧n≤400 then (if 0≤first∧first≤(s.prints.length:Int)-n then (if (cutP s first n).any spentB=true then 83 else 0) else 6) else 2
def stateAt (l:List Prt) (F k:Nat) (st:Int) (j:Nat):Prt:=if F≤j∧j<F+k then ⟨(el l j).plate,st⟩ else el l j
def spendF (s:Sto) (first n st:Int):Sto:={ s with prints:=(List.range s.prints.length).map (stateAt s.prints first.toNat n.toNat st) }
theorem spendF_len (s:Sto) (first n st:Int):(spendF s first n st).prints.length=s.prints.length:=by simp [spendF]
theorem spendF_el {s:Sto}{first n st:Int}{j:Nat}(h:j<s.prints.length):el (spendF s first n st).prints j=stateAt s.prints first.toNat n.toNat st j:=by unfold spendF;rw [el_map_range h]
theorem state_zero (l:List Prt) (F:Nat) (st:Int) (j:Nat):stateAt l F 0 st j=el l j:=by
  unfold stateAt
  rw [if_neg (by omega)]
theorem state_sub {H:Heap}{σ:List (Option Nat)}{fr:Nat→Prop}{l:List Prt}{F k j:Nat}{st:Int}{v:V}(hv:v=Prt.enc ⟨(el l (F+k)).plate,st⟩):VSub H σ fr (upd (fun j=>(stateAt l F k st j).enc) (F+k) v j) ((stateAt l F (k+1) st j).enc):=by
  by_cases e:j=F+k
  · subst e
    rw [upd_same,hv]
    unfold stateAt
    rw [if_pos (by omega)]
    exact .closed rfl
  · rw [upd_other e]
    refine .of_eq ?_ rfl
    unfold stateAt
    by_cases h:F≤j∧j<F+k
    · rw [if_pos h,if_pos (by omega)]
    · rw [if_neg h,if_neg (by omega)]
theorem bsub_len {α:Type}[Inhabited α] {H:Heap}{σ:List (Option Nat)}{fr:Nat→Prop}{k b sz n:Nat}{e:α→V}{L:List α}{f:Nat→V}(h:σ[k]?=some (some b)) (hb:H[b]?=some (.arr sz n f)) (hn:L.length=n) (hf:∀ i,i<n→f i=e (el L i)) (hc:∀ y,(e y).closed=true):BSub H σ fr k (LB sz e L):=by
  refine .inl ⟨b,f,h,by rw [hb,hn],fun i hi=>.of_eq (hf i (by omega)) (hc _)⟩
theorem spend_p (s:Sto) (p:List (Int × Int)) (a:Deed) (st:Int) (hV:Valid s):ACalls Tryz.prog 126 [.ptr 4 0 0 0,a.enc,vu8 st] (stoB 0 s p)
    (fun v H=>spendE s a.item a.n=0∧v=.tup []∧H=stoB 0 (spendF s a.item a.n st) p) (fun v _=>spendE s a.item a.n≠0∧v=errV (spendE s a.item a.n)):=by
  have hfew:=hV.1
  unfold Few at hfew
  have bad:∀ e:Int,spendE s a.item a.n=e→e≠0→∀ H':Heap,spendE s a.item a.n≠0∧errV e=errV (spendE s a.item a.n):=fun e h h0 _=>by rw [h];exact ⟨h0,rfl⟩
  have e2:¬ (1≤a.n∧a.n≤400)→spendE s a.item a.n=2:=fun h=>by unfold spendE;rw [if_neg h]
  have e6:(1≤a.n∧a.n≤400)→¬ (0≤a.item∧a.item≤(s.prints.length:Int)-a.n)→spendE s a.item a.n=6:=fun h h2=>by unfold spendE;rw [if_pos h,if_neg h2]
  have e83:(1≤a.n∧a.n≤400)→(0≤a.item∧a.item≤(s.prints.length:Int)-a.n)→(cutP s a.item a.n).any spentB=true→spendE s a.item a.n=83:=fun h h2 h3=>by unfold spendE;rw [if_pos h,if_pos h2,if_pos h3]
  have e0:(1≤a.n∧a.n≤400)→(0≤a.item∧a.item≤(s.prints.length:Int)-a.n)→(cutP s a.item a.n).any spentB=false→spendE s a.item a.n=0:=fun h h2 h3=>by unfold spendE;rw [if_pos h,if_pos h2,if_neg (by rw [h3];decide)]
  have hcl:(1≤a.n∧a.n≤400)→(0≤a.item∧a.item≤(s.prints.length:Int)-a.n)→(cutP s a.item a.n).length=a.n.toNat:=fun h h2=>by unfold cutP;rw [List.length_take,List.length_drop];omega
  have hce:∀ k,k<a.n.toNat→el (cutP s a.item a.n) k=el s.prints (a.item.toNat+k):=fun k hk=>by unfold cutP;rw [el_take hk,el_drop]
  
  refine acalls_of_aw Tryz.func126 rfl (dc rfl) ?_;refine aw_post ?_
  (repeat' (first|(refine ar_isq ?_;refine zq ?_)|(((refine ar_subk_l (sub_frzL (t:=10) vi ([a.n]) rfl rfl rfl rfl (fun _ _=>rfl) (fun _=>rfl)) ?_);refine zpv fn47 (from_p _ _ [a.n]) ?_))|refine ar_buildLE vi ([a.n]) (by exact ty rfl) (by exact rfl) (by exact ty rfl) (by exact rfl) (by exact rfl) (by exact Nat.succ_pos _) (by exact rfl) (by exact dc rfl) (by exact rfl) (by exact fun _=>⟨rfl,rfl⟩) (by exact dc rfl) ?_|(refine ar_refuse ?_ ?_ rfl rfl (dc rfl)<;>intro hrf<;>first|exact absurd hrf (by decide)|((try replace hrf:=HG.out hrf);(try rw [fromB_one] at hrf);(try rw [withinB_iff] at hrf);(try rw [withinB_no] at hrf)))|((refine ar_re (t:=43) (v':=.sl 2 2 a.item.toNat (cutP s a.item a.n).length) rfl (by rw [hcl (by omega) (by omega)];simp;try omega) ?_;refine ar_pcall (own:=true) fn128 rfl rfl (.cons (.lent rfl rfl (by rw [hcl (by omega) (by omega)];omega) (fun _ _=>rfl) (fun k hk=>congrArg Prt.enc (hce k (by rw [← hcl (by omega) (by omega)];exact hk)))) (.cons (.closed rfl) .nil)) (containsP_p (cutP s a.item a.n)) (by intros;subst_vars;rfl) (dc rfl) ?_;intro _ hv;subst hv))|refine zcl (a:=a.item.toNat) (b:=s.prints.length) ?_|refine zcs (a:=a.item.toNat) (b:=s.prints.length) ?_|refine zcl (a:=0) (b:=a.n.toNat) ?_|refine zcs (a:=0) (b:=a.n.toNat) ?_|refine zg ?_ ?_|refine zgu ?_|refine zst ?_|refine aw_drawn (id:=2) [(0,0),(1,0),(2,0),(3,0),(4,0),(5,0),(6,0),(7,0),(8,0),(9,0),(10,0),(11,0),(12,0),(13,0),(14,0),(15,0),(16,0),(17,2)] mixed (by kernel_rfl) ?_|refine aw_drawn (id:=2) [(0,0),(1,0),(2,0),(3,0),(4,0),(5,0),(6,0),(7,0),(8,0),(9,0),(10,0),(11,0),(12,0),(13,0),(14,0),(15,0),(16,0),(17,1)] mixed (by kernel_rfl) ?_|refine aw_drawn (id:=3) [(0,0),(1,0),(2,0),(3,0),(4,0),(5,0),(6,0),(7,0),(8,0),(9,0),(10,0),(11,0)] mixed (by kernel_rfl) ?_|refine zco ?_ ?_|(refine fun (hg:(_:Prop))=>?_;first|exact absurd hg (by decide)|((try replace hg:=HG.out hg);(try dsimp only at hg);(try rw [fromB_one] at hg);(try rw [withinB_iff] at hg);(try rw [withinB_no] at hg);(try (have _h:True:=hg;clear _h hg));first|(exfalso;omega)|skip))))
  all_goals first
    | exact bad 2 (e2 (by omega)) (by decide)
    | exact bad 6 (e6 (by omega) (by omega)) (by decide)
    | exact bad 83 (e83 (by omega) (by omega) (by assumption)) (by decide)
    | skip
  rename_i hr1 hr2 hr3 hr4
  refine aw_for a.n.toNat (fun _=>True) (fun k=>[(0,.ptr 4 0 0 0),(2,vu8 st),(6,.sl 2 2 (0+a.item.toNat+0) (a.n.toNat-0)),(47,vi ((a.n.toNat-0:Nat):Int)),(48,vi k)]) (fun k=>[.arr 4 1 (fun _=>stoV 0 s),LB 5 Itm.enc s.items,.arr 2 s.prints.length (fun j=>(stateAt s.prints (0+a.item.toNat+0) k st j).enc),mapE vi p]) trivial ?_ ?_
  · (refine sub_to [some 0,some 1,some 2,some 3] [] rfl ?_ ?_<;>(repeat' (first|exact trivial|refine ⟨⟨_,rfl,?_⟩,?_⟩|refine vs1 ?_ ?_|refine vs2 ?_ ?_|refine vs3 ?_|refine vs4 ?_ ?_|refine ⟨.inl ⟨_,_,rfl,rfl,?_⟩,?_⟩|exact ⟨.inr ⟨rfl,rfl⟩,trivial⟩|refine ⟨.inr ⟨rfl,rfl⟩,?_⟩|(intro _ _)|exact vz1|(first|exact VSub.of_eq (congrArg Prt.enc (state_zero _ _ _ _).symm) rfl|refine ⟨bsub_mapE rfl rfl (fun _=>rfl),?_⟩|exact VSub.aggL ⟨.closed rfl,.sl rfl,.sl rfl,.map rfl,trivial⟩)|exact vz2|fail)))
  intro k hk _
  by_cases hlt:k<a.n.toNat
  · 
    (repeat' (first|(refine ar_isq ?_;refine zq ?_)|refine zil (j:=k) ?_|refine zis (j:=k) ?_|refine zit (j:=k) ?_|refine zcl ?_|refine zcs ?_|refine zg ?_ ?_|refine zgu ?_|refine zst ?_|refine aw_drawn (id:=2) [(0,0),(1,0),(2,0),(3,0),(4,0),(5,0),(6,0),(7,0),(8,0),(9,0),(10,0),(11,0),(12,0),(13,0),(14,0),(15,0),(16,0),(17,2)] mixed (by kernel_rfl) ?_|refine aw_drawn (id:=2) [(0,0),(1,0),(2,0),(3,0),(4,0),(5,0),(6,0),(7,0),(8,0),(9,0),(10,0),(11,0),(12,0),(13,0),(14,0),(15,0),(16,0),(17,1)] mixed (by kernel_rfl) ?_|refine aw_drawn (id:=3) [(0,0),(1,0),(2,0),(3,0),(4,0),(5,0),(6,0),(7,0),(8,0),(9,0),(10,0),(11,0)] mixed (by kernel_rfl) ?_|refine zco ?_ ?_|exact zd|(refine fun (hg:(_:Prop))=>?_;(try replace hg:=HG.out hg);(try dsimp only at hg);(try (have _h:True:=hg;clear _h hg)))))
    all_goals first
      | (exfalso;omega)
      | ((first|refine loop_next (by omega) ?_ ?_|refine (show _∧_∧SubOf _ _ _ _ _ _ from And.intro (by omega) (And.intro ?_ ?_)));(focus ((trivial);done));(focus ((refine sub_to [some 0,some 1,some 2,some 3] [] rfl ?_ ?_<;>(repeat' (first|exact trivial|refine ⟨⟨_,rfl,?_⟩,?_⟩|refine vs1 ?_ ?_|refine vs2 ?_ ?_|refine vs3 ?_|refine vs4 ?_ ?_|refine ⟨.inl ⟨_,_,rfl,rfl,?_⟩,?_⟩|exact ⟨.inr ⟨rfl,rfl⟩,trivial⟩|refine ⟨.inr ⟨rfl,rfl⟩,?_⟩|(intro _ _)|exact vz1|(first|exact state_sub (by unfold stateAt;rw [if_neg (by omega)];rfl)|refine ⟨bsub_mapE rfl rfl (fun _=>rfl),?_⟩|exact VSub.aggL ⟨.closed rfl,.sl rfl,.sl rfl,.map rfl,trivial⟩)|exact vz2|fail)));done)))
      | trace_state
  · obtain rfl:k=a.n.toNat:=by omega
    (repeat' (first|(refine ar_isq ?_;refine zq ?_)|refine zcl ?_|refine zcs ?_|refine zg ?_ ?_|refine zgu ?_|refine zst ?_|refine aw_drawn (id:=2) [(0,0),(1,0),(2,0),(3,0),(4,0),(5,0),(6,0),(7,0),(8,0),(9,0),(10,0),(11,0),(12,0),(13,0),(14,0),(15,0),(16,0),(17,2)] mixed (by kernel_rfl) ?_|refine aw_drawn (id:=2) [(0,0),(1,0),(2,0),(3,0),(4,0),(5,0),(6,0),(7,0),(8,0),(9,0),(10,0),(11,0),(12,0),(13,0),(14,0),(15,0),(16,0),(17,1)] mixed (by kernel_rfl) ?_|refine aw_drawn (id:=3) [(0,0),(1,0),(2,0),(3,0),(4,0),(5,0),(6,0),(7,0),(8,0),(9,0),(10,0),(11,0)] mixed (by kernel_rfl) ?_|refine zco ?_ ?_|exact zd|(refine fun (hg:(_:Prop))=>?_;(try replace hg:=HG.out hg);(try dsimp only at hg);(try (have _h:True:=hg;clear _h hg)))))
    all_goals first
      | (exfalso;omega)
      | ((refine subq_n [] [.arr 4 1 (fun _=>stoV 0 (spendF s a.item a.n st)),LB 5 Itm.enc s.items,LB 2 Prt.enc (spendF s a.item a.n st).prints,mapE vi p] ?_ ?_;(focus ((refine sub_to [some 0,some 1,some 2,some 3] [] rfl ?_ ?_<;>(repeat' (first|exact trivial|refine ⟨⟨_,rfl,?_⟩,?_⟩|refine vs1 ?_ ?_|refine vs2 ?_ ?_|refine vs3 ?_|refine vs4 ?_ ?_|refine ⟨.inl ⟨_,_,rfl,rfl,?_⟩,?_⟩|exact ⟨.inr ⟨rfl,rfl⟩,trivial⟩|refine ⟨.inr ⟨rfl,rfl⟩,?_⟩|(intro _ _)|exact vz1|(first|refine ⟨bsub_len rfl rfl (spendF_len _ _ _ _) (fun j hj=>by rw [spendF_el hj,Nat.zero_add,Nat.add_zero]) (fun _=>rfl),?_⟩|refine ⟨bsub_mapE rfl rfl (fun _=>rfl),?_⟩|exact VSub.aggL ⟨.closed rfl,.sl rfl,slEq rfl (spendF_len _ _ _ _).symm,.map rfl,trivial⟩)|exact vz2|fail)));done)))
         exact bq0n ⟨e0 (by omega) (by omega) (by assumption),rfl,rfl⟩)
      | trace_state
section
variable {r:Option Nat}{m nt i d:Nat}{Q:Post}{env:Env}{H:Heap}{ops:Array Oper}{L:List Stp}{ty:TypeId}{pos:String}{after:Array Edge}{ats:Array TypeId}{x y z:Operand}{p:List (Int × Int)}
theorem ar_spend (s:Sto) (a:Deed) (st:Int) (hV:Valid s) (h1:spendE s a.item a.n=0→AR Tryz.prog r m nt ops Q L ((d,.tup [])::env) ((H.set 0 (.arr 4 1 (fun _=>stoV 0 (spendF s a.item a.n st)))).set 2 (LB 2 Prt.enc (spendF s a.item a.n st).prints))) (h2:spendE s a.item a.n≠0→∀ H',Q (.panic (errV (spendE s a.item a.n))) [] H') (hx:eo env x=some (.ptr 4 0 0 0)) (hy:eo env y=some a.enc) (hz:eo env z=some (vu8 st))
    (b0:H[0]?=some (.arr 4 1 (fun _=>stoV 0 s))) (b1:H[1]?=some (LB 5 Itm.enc s.items)) (b2:H[2]?=some (LB 2 Prt.enc s.prints)) (b3:H[3]?=some (mapE vi p)) (hl:4≤H.length) (hd:d<nt) :
    AR Tryz.prog r m nt ops Q (.l i ⟨some d,.call ⟨.value (.func 126),#[x,y,z],ats⟩,ty,pos,after,none⟩ false::L) env H:=by
  refine ar_gcall (H0:=stoB 0 s p) [0,1,2,3] [] (args:=[x,y,z]) (vs:=[.ptr 4 0 0 0,a.enc,vu8 st]) (first:=[]) (cap:=[]) fn126 rfl (by rw [List.mapM_cons,List.mapM_cons,List.mapM_cons,List.mapM_nil,hx,hy,hz];rfl) (xs:=[.ptr 4 0 0 0,a.enc,vu8 st]) ⟨.ptr rfl,.closed rfl,.closed rfl,trivial⟩ rfl (by decide) (fun _ h=>by cases h) (hsub4 b0 b1 b2 b3) stoB_live (spend_p s p a st hV) hd ?_ ?_
  · rintro _ _ ⟨hh,rfl,rfl⟩
    rw [show stoB 0 (spendF s a.item a.n st) p=[.arr 4 1 (fun _=>stoV 0 (spendF s a.item a.n st)),LB 5 Itm.enc s.items,LB 2 Prt.enc (spendF s a.item a.n st).prints,mapE vi p] from rfl,join4 hl,mapE_ren]
    have e1:(H.set 0 ((Blk.arr 4 1 (fun _=>stoV 0 (spendF s a.item a.n st))).ren (rn [0,1,2,3] H.length))).set 1 ((LB 5 Itm.enc s.items).ren (rn [0,1,2,3] H.length))=H.set 0 (.arr 4 1 (fun _=>stoV 0 (spendF s a.item a.n st))):=set_same (by rw [List.getElem?_set_ne (by decide)];exact b1)
    rw [e1,set_same (by rw [List.getElem?_set_ne (by decide),List.getElem?_set_ne (by decide)];exact b3),List.map_nil,List.append_nil]
    exact h1 hh
  · rintro _ _ ⟨hh,rfl⟩
    exact h2 hh _
end
theorem issue_p (s:Sto) (p:List (Int × Int)) (a:Deed) (hV:Valid s):ACalls Tryz.prog 119 [.ptr 4 0 0 0,a.enc] (stoB 0 s p)
    (fun v H=>spendE s a.item a.n=0∧v=.tup []∧H=stoB 0 (spendF s a.item a.n 1) p) (fun v _=>spendE s a.item a.n≠0∧v=errV (spendE s a.item a.n)):=by
  refine acalls_of_aw Tryz.func119 rfl (dc rfl) ?_;refine aw_post ?_
  (repeat' (first|(refine ar_isq ?_;refine zq ?_)|(refine ar_spend s a 1 hV ?_ ?_ rfl rfl rfl rfl rfl rfl rfl (dc rfl) (dc rfl)<;>intro hrf)|refine zst ?_|refine zco ?_ ?_|exact zd|(refine fun (hg:(_:Prop))=>?_;(try replace hg:=HG.out hg);(try dsimp only at hg);(try (have _h:True:=hg;clear _h hg)))))
  · (refine subq_n [] [.arr 4 1 (fun _=>stoV 0 (spendF s a.item a.n 1)),LB 5 Itm.enc s.items,LB 2 Prt.enc (spendF s a.item a.n 1).prints,mapE vi p] ?_ ?_;(focus (exact zsc [some 0,some 1,some 2,some 3] [])))
    exact bq0n ⟨hrf,rfl,rfl⟩
  · intro H';exact (⟨hrf,rfl⟩:spendE s a.item a.n≠0∧errV (spendE s a.item a.n)=errV (spendE s a.item a.n))
theorem spoil_p (s:Sto) (p:List (Int × Int)) (a:Deed) (hV:Valid s):ACalls Tryz.prog 120 [.ptr 4 0 0 0,a.enc] (stoB 0 s p)
    (fun v H=>spendE s a.item a.n=0∧v=.tup []∧H=stoB 0 (spendF s a.item a.n 2) p) (fun v _=>spendE s a.item a.n≠0∧v=errV (spendE s a.item a.n)):=by
  refine acalls_of_aw Tryz.func120 rfl (dc rfl) ?_;refine aw_post ?_
  (repeat' (first|(refine ar_isq ?_;refine zq ?_)|(refine ar_spend s a 2 hV ?_ ?_ rfl rfl rfl rfl rfl rfl rfl (dc rfl) (dc rfl)<;>intro hrf)|refine zst ?_|refine zco ?_ ?_|exact zd|(refine fun (hg:(_:Prop))=>?_;(try replace hg:=HG.out hg);(try dsimp only at hg);(try (have _h:True:=hg;clear _h hg)))))
  · (refine subq_n [] [.arr 4 1 (fun _=>stoV 0 (spendF s a.item a.n 2)),LB 5 Itm.enc s.items,LB 2 Prt.enc (spendF s a.item a.n 2).prints,mapE vi p] ?_ ?_;(focus (exact zsc [some 0,some 1,some 2,some 3] [])))
    exact bq0n ⟨hrf,rfl,rfl⟩
  · intro H';exact (⟨hrf,rfl⟩:spendE s a.item a.n≠0∧errV (spendE s a.item a.n)=errV (spendE s a.item a.n))
theorem acalls_sub {P:Program}{f:FuncId}{args:List V}{H:Heap}{R R' Rp Rp':V→Heap→Prop}(h:ACalls P f args H R Rp) (hs:∀ v H',R v H'→∃ v' H'',SubOf H.length 1 [(0,v)] H' [(0,v')] H''∧R' v' H'')
    (hp:∀ v H',Rp v H'→∃ v' H'',SubOf H.length 1 [(0,v)] H' [(0,v')] H''∧Rp' v' H''):ACalls P f args H R' Rp':=by
  refine ⟨fun X I ρ w us hw hv=>(h.1 (Ctx.self w ρ H I) I ρ w us hw.self hv).mono ?_⟩
  rintro e w' ⟨v,u,I',ρ',H',h1,h2,h3,h4,h5⟩
  have key:∀ v' H'',SubOf H.length 1 [(0,v)] H' [(0,v')] H''→∃ I2 ρ2,I.le I2∧Pre ρ ρ2∧WOk X I2 ρ2 H'' w'∧VRel I2 ρ2 v' u:=by
    intro v' H'' hsub
    obtain ⟨I2,ρ2,k1,k2⟩:=hsub.1 (Ctx.self w ρ H I) I' ρ' { tmps:=#[u],defers:=[] } w' hw.len ⟨⟨rfl,fun t x hx=>by
      rw [look_cons] at hx
      split at hx
      · rename_i e;subst e;cases hx;exact ⟨by decide,h4⟩
      · simp [look] at hx⟩,h3,DOk.nil rfl⟩
    exact ⟨I2,ρ2,k2.2.1.le,k2.2.1.pre,hw.trans k2.2.1,(k2.1.2 0 v' rfl).2⟩
  rcases h5 with ⟨rfl,hR⟩|⟨rfl,hR⟩
  · obtain ⟨v',H'',s1,s2⟩:=hs v H' hR
    obtain ⟨I2,ρ2,a,b,c,d⟩:=key v' H'' s1
    exact ⟨v',u,I2,ρ2,H'',a,b,c,d,.inl ⟨rfl,s2⟩⟩
  · obtain ⟨v',H'',s1,s2⟩:=hp v H' hR
    obtain ⟨I2,ρ2,a,b,c,d⟩:=key v' H'' s1
    exact ⟨v',u,I2,ρ2,H'',a,b,c,d,.inr ⟨rfl,s2⟩⟩
theorem DCalls.mono {P:Program}{g:FuncId}{args:List V}{H:Heap}{pan:Option V}{R R':Heap→Prop}(h:DCalls P g args H pan R) (hr:∀ H',R H'→R' H'):DCalls P g args H pan R' :=
  ⟨fun X I ρ w us u a b c=>(h.1 X I ρ w us u a b c).mono fun _ _ _ ⟨x,I',ρ',H',a,b,c,d,e,f⟩=>⟨x,I',ρ',H',a,b,c,d,e,hr _ f⟩⟩
namespace Pn
theorem zco {t:Nat}{pd:Bool}{r:Option Nat}{m nt:Nat}{Q:Post}{env:Env}{H:Heap}{x:Operand}{c1 c2:Code}{b:Bool}(hy:b=true→AW t pd Tryz.prog r m nt c1 Q env H) (hn:b=false→AW t pd Tryz.prog r m nt c2 Q env H) (hc:eo env x=some (.s (.bool b)):=by exact rfl):AW t pd Tryz.prog r m nt (.cond x c1 c2) Q env H:=aw_cond hc hy hn
theorem do1_ret (H:Heap) (p:V):DCalls Tryz.prog 113 [p] H none (fun H'=>H'=H):=by
  refine dcalls_of_aw #[] Tryz.func113 rfl (dc rfl) (dc rfl) rfl (fun v h=>by cases h) ?_
  show AW _ true _ _ _ _ _ _ ((4,.s .nilIface)::_) _
  (repeat' (first|refine zq ?_|refine ar_q (qs_nilIsNil (ty rfl) rfl rfl) (dc rfl) ?_|refine zsvs ?_|refine zsva ?_|refine zses ?_|refine zsea ?_|refine ar_nil ?_|refine aw_seq ?_|refine aw_skip ?_|refine aw_block ?_|refine aw_exit ?_|refine aw_region ?_|refine zco ?_ ?_|exact zd|(refine fun (hg:(_:Prop))=>?_;(try replace hg:=HG.out hg);(try dsimp only at hg);(try (have _h:True:=hg;clear _h hg)))))
  all_goals exact (rfl:H=H)
theorem do1_pan (H:Heap) (k:Nat) (e z:Int) (hH:H[k]?=some (.arr 1 1 (fun _=>vi z))):DCalls Tryz.prog 113 [.ptr 1 k 0 0] H (some (errV e)) (fun H'=>H'=H.set k (.arr 1 1 (fun _=>vi e))):=by
  refine dcalls_of_aw #[] Tryz.func113 rfl (dc rfl) (dc rfl) rfl (fun v h=>by cases h;exact ⟨_,_,rfl⟩) ?_
  show AW _ true _ _ _ _ _ _ ((4,errV e)::_) _
  (repeat' (first|refine zq ?_|refine ar_q (qs_ifaceIsNil (ty rfl) rfl rfl) (dc rfl) ?_|refine ar_q (qs_assert (ty rfl) rfl rfl) (dc rfl) ?_|refine ar_store_var (ty rfl) rfl rfl hH rfl rfl rfl (dc rfl) (.inr ⟨rfl,rfl,rfl,fun _ h=>by cases h⟩) ?_|refine zsvs ?_|refine zsva ?_|refine zses ?_|refine zsea ?_|refine ar_nil ?_|refine aw_seq ?_|refine aw_skip ?_|refine aw_block ?_|refine aw_exit ?_|refine aw_region ?_|refine zco ?_ ?_|exact zd|(refine fun (hg:(_:Prop))=>?_;(try replace hg:=HG.out hg);(try dsimp only at hg);(try (have _h:True:=hg;clear _h hg)))))
  all_goals exact (rfl:H.set k (.arr 1 1 (fun _=>vi e))=H.set k (.arr 1 1 (fun _=>vi e)))
end Pn
def doersL:List V:=[.s .nilFunc,.fn (.func 115) [] [],.fn (.func 116) [] [],.fn (.func 117) [] [],.fn (.func 118) [] [],.fn (.func 119) [] [],.fn (.func 120) [] [],.fn (.func 121) [] []]
def doersV:V:=.agg doersL
theorem doers_p:PCalls Tryz.prog 114 [] (·=doersV):=by
  refine pcalls_of_aw Tryz.func114 rfl (dc rfl) ?_
  (repeat' (first|(refine zbt ?_)|refine ar_q (qs_build_arr (ds:=doersL) (ty rfl) rfl (ty rfl) rfl rfl (build rfl)) (dc rfl) ?_|refine zst ?_|refine zco ?_ ?_|exact zd|(refine fun (hg:(_:Prop))=>?_;(try replace hg:=HG.out hg);(try dsimp only at hg);(try (have _h:True:=hg;clear _h hg)))))
  refine aw_ret (bq1c (ty rfl) rfl rfl Nat.one_pos rfl ⟨rfl,rfl⟩)
end Go.Proofs.YtloaefllpokkaaaGreat
