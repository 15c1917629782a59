/- Parts of the proof: contracts of functions. No condition. -/
import Derived.Test.YtbilpbabdgfblaaGreatKLi9
set_option maxHeartbeats 16000000
set_option linter.unusedSimpArgs false
set_option linter.unusedVariables false
namespace Go.Proofs.YtbilpbabdgfblaaGreat
open Go.RowKit
theorem pCheck_p (s:Sto):PCalls Tryz.prog 80 [s.enc] (·=vi (if Valid s then 0 else 80)):=by
  refine pcalls_of_aw Tryz.func80 rfl (dc rfl) ?_
  (repeat' (first|(refine ar_isq ?_;refine zq ?_)|((refine ar_gcall0 fn60 rfl rfl [s.enc] ⟨.closed rfl,trivial⟩ (valid_p s) (dc rfl) ?_ (fun _ _ h=>h.elim);rintro _ _ (⟨hv,rfl,rfl⟩|⟨hv,rfl,rfl⟩)<;>(try rw [stoB_ren])))|refine zst ?_|refine zco ?_ ?_|exact zd|(refine fun (hg:(_:Prop))=>?_;(try replace hg:=HG.out hg);(try dsimp only at hg);(try (have _h:True:=hg;clear _h hg)))))
  all_goals first
    | ((refine aw_ret ?_;(repeat (first|refine ret_then ?_|refine ret_block ?_));refine bq1 rfl ⟨?_,rfl⟩);rw [if_pos hv];rfl)
    | ((refine aw_ret ?_;(repeat (first|refine ret_then ?_|refine ret_block ?_));refine bq1 rfl ⟨?_,rfl⟩);rw [if_neg hv];rfl)
    | trace_state
theorem pLine_p (s:Sto) (i:Int):PCalls Tryz.prog 31 [s.enc,vi i] (·=.tup [encInts (lineF s i),vi (lineE s i)]):=by
  refine pcalls_of_aw Tryz.func31 rfl (dc rfl) ?_
  
  (repeat' (first|(refine ar_isq ?_;refine zq ?_)|((refine ar_gcall0 fn60 rfl rfl [s.enc] ⟨.closed rfl,trivial⟩ (valid_p s) (dc rfl) ?_ (fun _ _ h=>h.elim);rintro _ _ (⟨hv,rfl,rfl⟩|⟨hv,rfl,rfl⟩)<;>(try rw [stoB_ren])<;>(try (have hfew:=hv.1;unfold Few at hfew))))|(((refine ar_subk_l (sub_frzL (t:=25) vi ([i]) rfl rfl rfl rfl (fun _ _=>rfl) (fun _=>rfl)) ?_);refine zpv fn59 (from_p _ _ [i]) ?_))|refine ar_buildLE vi ([i]) (by exact ty rfl) (by exact rfl) (by exact ty rfl) (by exact rfl) (by exact rfl) (by exact Nat.succ_pos _) (by exact rfl) (by exact dc rfl) (by exact rfl) (by exact fun _=>⟨rfl,rfl⟩) (by exact dc rfl) ?_|(((refine ar_sub_l (env':=[(8,.ptr 1 1 0 0),(28,.ptr 4 0 0 0),(29,vi i)]) (H':=[.arr 4 1 (fun _=>.agg [vi s.life,encItems s.items,encPrints s.prints,.map 2]),.arr 1 1 (fun _=>vnil),mapE vi (pressTo s.items s.items.length)]) ?_ ?_;(focus (exact zsc [some 1,some 6,some 4] [2,3])));refine ar_subk_l (sub_pre (t:=28) [vi s.life,encItems s.items,encPrints s.prints] [.map 2] rfl rfl rfl) ?_;refine zpv fn61 (pline_p s i) ?_))|refine zst ?_|refine zco ?_ ?_|(refine fun (hg:(_:Prop))=>?_;first|exact absurd hg (by decide)|((try replace hg:=HG.out hg);(try dsimp only at hg);(try rw [fromB_one] at hg);(try rw [withinB_iff] at hg);(try rw [withinB_no] at hg);(try (have _h:True:=hg;clear _h hg));first|(exfalso;omega)|skip))))
  · have he:=lineE_none (i:=i) hv (by omega)
    (refine aw_mono_r (env':=[(4,encInts []),(5,vi 6)]) (H':=[]) ?_ ?_;(focus (exact zsb [] [])))
    (refine aw_ret ?_;(repeat (first|refine ret_then ?_|refine ret_block ?_));refine bq2 rfl rfl ⟨?_,rfl⟩)
    rw [lineF_no (by omega),he]
  · have hr:0≤i∧i<(s.items.length:Int):=by omega
    have he:=lineE_ok hv hr
    have hC:=chain_ok hv.2.1 hr
    
    refine aw_range (fun k=>[.dead,.arr 1 1 (fun _=>.sl 1 3 0 (lineTo s.items i k).length),.dead,LB 1 vi (lineTo s.items i k)]) _ rfl rfl fn106 (It.line_iter s i hC (by omega)) (fun _ _=>rfl) (by decide) (fun k _=>rfl) ?maps ?start ?round ?done
    case maps=>intro k j ms;match j with|0|1|2|3=>simp [LB]|j+4=>simp
    case start=>(exact zsc [some 0,some 1,some 2,none] [])
    case round =>
      intro k lp hk
      have hf:=hC.few
      (repeat' (first|(refine ar_isq ?_;refine zq ?_)|refine ar_buildLE vi ([srcN s.items i k]) (by exact ty rfl) (by exact rfl) (by exact ty rfl) (by exact rfl) (by exact rfl) (by exact Nat.succ_pos _) (by exact rfl) (by exact dc rfl) (by exact rfl) (by exact fun _=>⟨rfl,rfl⟩) (by exact dc rfl) ?_|(refine ar_insert (lineTo s.items i k) (srcN s.items i k) ?_ rfl rfl rfl rfl (Nat.ne_of_lt (dc rfl)) (by rw [lineTo_len];omega) (dc rfl))|refine zst ?_|refine zco ?_ ?_|exact zd|(refine fun (hg:(_:Prop))=>?_;(try replace hg:=HG.out hg);(try dsimp only at hg);(try (have _h:True:=hg;clear _h hg)))))
      refine (show SubOf _ _ _ _ _ _ from ?_)
      (exact zsc [some 0,some 1,some 2,some 5] [])
    case done =>
      (repeat' (first|(refine ar_isq ?_;refine zq ?_)|refine zst ?_|refine zco ?_ ?_|exact zd|(refine fun (hg:(_:Prop))=>?_;(try replace hg:=HG.out hg);(try dsimp only at hg);(try (have _h:True:=hg;clear _h hg)))))
      (refine aw_mono_r (env':=[(4,encInts (lineTo s.items i (lineN s.items i))),(5,vi 0)]) (H':=[]) ?_ ?_;(focus (exact zsb [] [3])))
      (refine aw_ret ?_;(repeat (first|refine ret_then ?_|refine ret_block ?_));refine bq2 rfl rfl ⟨?_,rfl⟩)
      rw [lineF_ok he,he]
  · have he:=lineE_bad (i:=i) hv
    (refine aw_mono_r (env':=[(4,encInts []),(5,vi 80)]) (H':=[]) ?_ ?_;(focus (exact zsb [] [])))
    (refine aw_ret ?_;(repeat (first|refine ret_then ?_|refine ret_block ?_));refine bq2 rfl rfl ⟨?_,rfl⟩)
    rw [lineF_no (by omega),he]
section
variable {P:Program}{r:Option Nat}{m nt:Nat}{Q:Post}{env:Env}{H:Heap}{ops:Array Oper}{l:List Stp}{ty:TypeId}{pos:String}{after:Array Edge}{T:TypeId}{d:TyD}{x:Operand}{v:V}{dst:Option Tmp}{guard:Option (Nat × Bool)}{keep:Bool}
theorem qs_makeInterface {k:IntKind}(ht:TyIs P T d) (hk:d.tk=.int k) (hx:eo env x=some v):QS P nt env H ⟨dst,.makeInterface T x,ty,pos,after,guard⟩ (.iface T v):=.mk
  fun _ I ρ a w h _=>⟨_,.iface (eo_rel h hx),fun w' _=>by simp [execOp,Instr.makeInterface,run_underlying (ht.intk hk)]⟩
theorem ls_panic {t:TypeId}(hx:eo env x=some (.iface t v)):LS P r m nt keep env H ⟨none,.panic x,ty,pos,after,guard⟩ (fun _ _=>False) (fun u H'=>u=.iface t v∧H'=H):=.mk
  fun X I ρ a w next Qx hX hs hk hp=>by
    have h1:=eo_rel hs.1 hx
    cases h1':a.eval x<;>rw [h1'] at h1<;>cases h1
    rename_i u hu
    have hr:∀ w,(Instr.panic (.iface t u)).run P w=.halt (.panic (.iface t u)) w:=fun _=>rfl
    refine wpIn_of_run (res:=.halt (.panic (.iface t u)) w) (by simp) (by simp [execOp,h1',hr]) ?_
    exact hp I ρ H _ _ w ⟨rfl,rfl⟩ (Imm.le_refl _) hs.2.1 (.iface hu)
theorem ar_panic {i:Nat}{t:TypeId}(hx:eo env x=some (.iface t v)) (h:Q (.panic (.iface t v)) [] H):AR P r m nt ops Q (.l i ⟨none,.panic x,ty,pos,after,none⟩ keep::l) env H :=
  ar_l0 (ls_panic hx) (fun _ _ h=>h.elim) (fun u H' ⟨a,b⟩=>by subst a;subst b;exact h)
end
def subQ (m nt:Nat) (Q:Post):Post
  | .panic v,env,H=>Q (.panic v) env H
  | .normal,env,H=>∃ env' H',SubOf m nt env H env' H'∧Q .normal env' H'
  | .ret,env,H=>∃ env' H',SubOf m nt env H env' H'∧Q .ret env' H'
  | .exit k,env,H=>Q (.exit k) env H
  | .goto k,env,H=>Q (.goto k) env H
section
variable {P:Program}{r:Option Nat}{m nt:Nat}{Q:Post}{env env':Env}{H H':Heap}
theorem aw_post {c:Code}(h:AW P r m nt c (subQ m nt Q) env H):AW P r m nt c Q env H:=.mk fun X I ρ a w hX hs=>by
  refine wpIn_mono (h.1 X I ρ a w hX hs) fun e a' w' hl=>?_
  cases e with
  | normal =>
    obtain ⟨env1,H1,I1,ρ1,h1,env2,H2,h2,h3⟩:=hl
    obtain ⟨I2,ρ2,_,h4⟩:=h2.1 X I1 ρ1 a' w' hX h1
    exact ⟨env2,H2,I2,ρ2,h4,h3⟩
  | ret =>
    obtain ⟨env1,H1,I1,ρ1,h1,env2,H2,h2,h3⟩:=hl
    obtain ⟨I2,ρ2,_,h4⟩:=h2.1 X I1 ρ1 a' w' hX h1
    exact ⟨env2,H2,I2,ρ2,h4,h3⟩
  | exit k=>exact hl
  | goto k=>exact hl
  | panic ch=>exact hl
  | outgrown=>exact hl
theorem subq_n (env':Env) (H':Heap) (h:SubOf m nt env H env' H') (k:Q .normal env' H'):subQ m nt Q .normal env H:=⟨_,_,h,k⟩
end
def errV (e:Int):V:=.iface 241 (vi e)
def stoG (i j:Nat) (s:Sto):V:=.agg [vi s.life,.sl 5 i 0 s.items.length,.sl 2 j 0 s.prints.length,.map 3]
def WI (s:Sto) (m:List (Int × Int)):Heap:=[.arr 4 1 (fun _=>stoG 4 2 s),.dead,LB 2 Prt.enc s.prints,mapE vi m,LB 5 Itm.enc s.items]
def WP (s:Sto) (m:List (Int × Int)):Heap:=[.arr 4 1 (fun _=>stoG 1 4 s),LB 5 Itm.enc s.items,.dead,mapE vi m,LB 2 Prt.enc s.prints]
theorem mapE_ren {m:List (Int × Int)}{r:Nat→Nat}:(mapE vi m).ren r=mapE vi m:=by
  have e:entsE vi m=(entsE vi m).map fun p=>(p.1,p.2.ren r):=by
    unfold entsE
    rw [List.map_map]
    exact List.map_congr_left fun p _=>rfl
  exact (congrArg Blk.map e).symm
theorem join4 {H:Heap}{b0 b1 b2 b3:Blk}{L:Heap}(h:4≤H.length):joinH [0,1,2,3] [] H (b0::b1::b2::b3::L) =
    ((((H.set 0 (b0.ren (rn [0,1,2,3] H.length))).set 1 (b1.ren (rn [0,1,2,3] H.length))).set 2 (b2.ren (rn [0,1,2,3] H.length))).set 3 (b3.ren (rn [0,1,2,3] H.length)))++L.map (Blk.ren (rn [0,1,2,3] H.length)):=by
  match H,h with
  | a0::a1::a2::a3::K,_ =>
    have tail:∀ {r:Nat→Nat} {H1:Heap} (K:Heap) (k:Nat),4≤k→joinAt [0,1,2,3] [] r H1 k K=K:=fun {r H1} K=>by
      induction K with
      | nil=>intro k _;rfl
      | cons b K ih =>
        intro k hk
        simp only [joinAt]
        rw [ih (k+1) (by omega)]
        have:pickB [0,1,2,3] [] r H1 k b=b:=by
          unfold pickB
          have h0:([0,1,2,3]:List Nat).idxOf? k=none:=by
            rw [List.idxOf?_eq_none_iff]
            simp
            omega
          rw [h0]
          rfl
        rw [this]
    unfold joinH
    simp only [joinAt]
    rw [tail K _ (by omega)]
    rfl
theorem hsub4 {H:Heap}{s:Sto}{p:List (Int × Int)}(h0:H[0]?=some (.arr 4 1 (fun _=>stoV 0 s))) (h1:H[1]?=some (LB 5 Itm.enc s.items)) (h2:H[2]?=some (LB 2 Prt.enc s.prints)) (h3:H[3]?=some (mapE vi p)) :
    HSub H ([0,1,2,3].map some) (·∈([]:List Nat)) 0 (stoB 0 s p) :=
  ⟨.inl ⟨0,_,rfl,h0,fun _ _=>VSub.aggL ⟨.closed rfl,.sl rfl,.sl rfl,.map rfl,trivial⟩⟩,.inl ⟨1,_,rfl,h1,fun _ _=>.closed rfl⟩,.inl ⟨2,_,rfl,h2,fun _ _=>.closed rfl⟩,bsub_mapE rfl h3 (fun _=>rfl),trivial⟩
theorem stoB_live {s:Sto}{p:List (Int × Int)}:∀ b∈stoB 0 s p,b≠.dead:=by simp [stoB,LB,mapE]
section
variable {r:Option Nat}{m nt i d:Nat}{Q:Post}{env:Env}{H:Heap}{ops:Array Oper}{L:List Stp}{ty:TypeId}{pos:String}{after:Array Edge}{ats:Array TypeId}{x y z:Operand}
theorem refuse_p (b:Bool) (e:Int):ACalls Tryz.prog 186 [vb b,vi e] [] (fun v H=>b=false∧v=.tup []∧H=[]) (fun v _=>b=true∧v=errV e):=by
  refine acalls_of_aw Tryz.func186 rfl (dc rfl) ?_
  (repeat' (first|(refine ar_isq ?_;refine zq ?_)|refine ar_q (qs_makeInterface (ty rfl) rfl rfl) (dc rfl) ?_|refine ar_panic rfl ?_|refine zst ?_|refine zco ?_ ?_|exact zd|(refine fun (hg:(_:Prop))=>?_;(try replace hg:=HG.out hg);(try dsimp only at hg);(try (have _h:True:=hg;clear _h hg)))))
  · exact (⟨by assumption,rfl⟩:b=true∧errV e=errV e)
  · exact bq0n ⟨by assumption,rfl,rfl⟩
theorem ar_refuse {b:Bool}{e:Int}(h1:b=false→AR Tryz.prog r m nt ops Q L ((d,.tup [])::env) H) (h2:b=true→∀ H',Q (.panic (errV e)) [] H') (hx:eo env x=some (.s (.bool b))) (hy:eo env y=some (.s (.int .i64 e))) (hd:d<nt) :
    AR Tryz.prog r m nt ops Q (.l i ⟨some d,.call ⟨.value (.func 186),#[x,y],ats⟩,ty,pos,after,none⟩ false::L) env H:=by
  refine ar_gcall0 (args:=[x,y]) (vs:=[vb b,vi e]) (first:=[]) (cap:=[]) fn186 rfl (by rw [List.mapM_cons,List.mapM_cons,List.mapM_nil,hx,hy];rfl) [vb b,vi e] ⟨.closed rfl,.closed rfl,trivial⟩ (refuse_p b e) hd ?_ ?_
  · rintro _ _ ⟨hb,rfl,rfl⟩
    have:H++List.map (Blk.ren (rn [] H.length)) []=H:=by simp
    rw [this]
    exact h1 hb
  · rintro _ _ ⟨hb,rfl⟩
    exact h2 hb _
end
def hereB (s:Sto) (i:Int):Prop:=(0≤i∧i<(s.items.length:Int))∧(el s.items i.toNat).gone=false
instance (s:Sto) (i:Int):Decidable (hereB s i):=by unfold hereB;infer_instance
theorem item_p (s:Sto) (p:List (Int × Int)) (i:Int) (hn:s.items.length≤30):ACalls Tryz.prog 185 [.ptr 4 0 0 0,vi i] (stoB 0 s p) (fun v H=>hereB s i∧v=.ptr 5 1 i.toNat 0∧H=stoB 0 s p) (fun v _=>¬ hereB s i∧v=errV 6):=by
  refine acalls_of_aw Tryz.func185 rfl (dc rfl) ?_
  (repeat' (first|(refine ar_isq ?_;refine zq ?_)|refine zil (j:=i.toNat) ?_|refine zis (j:=i.toNat) ?_|refine zit (j:=i.toNat) ?_|(((refine ar_subk_l (sub_frzL (t:=13) vi ([i]) rfl rfl rfl rfl (fun _ _=>rfl) (fun _=>rfl)) ?_);refine zpv fn59 (from_p _ _ [i]) ?_))|refine ar_buildLE vi ([i]) (by exact ty rfl) (by exact rfl) (by exact ty rfl) (by exact rfl) (by exact rfl) (by exact Nat.succ_pos _) (by exact rfl) (by exact dc rfl) (by exact rfl) (by exact fun _=>⟨rfl,rfl⟩) (by exact dc rfl) ?_|(refine ar_refuse ?_ ?_ rfl rfl (dc rfl)<;>intro hrf)|refine zg ?_ ?_|refine zgu ?_|refine zst ?_|refine zco ?_ ?_|(refine fun (hg:(_:Prop))=>?_;first|exact absurd hg (by decide)|((try replace hg:=HG.out hg);(try dsimp only at hg);(try rw [fromB_one] at hg);(try rw [withinB_iff] at hg);(try rw [withinB_no] at hg);(try (have _h:True:=hg;clear _h hg));first|(exfalso;omega)|skip))))
  all_goals first
    | (exfalso;omega)
    | (exfalso;simp_all;done)
    | (intro H';refine (⟨fun h=>?_,rfl⟩:¬ hereB s i∧errV 6=errV 6);unfold hereB at h;simp_all;done)
    | (intro H';refine (⟨fun h=>?_,rfl⟩:¬ hereB s i∧errV 6=errV 6);unfold hereB at h;omega)
    | ((refine aw_mono_r (env':=[(4,.ptr 5 1 i.toNat 0)]) (H':=[.arr 4 1 (fun _=>stoV 0 s),LB 5 Itm.enc s.items,LB 2 Prt.enc s.prints,mapE vi p]) ?_ ?_;(focus (exact zsc [some 0,some 1,some 2,some 3] [])))
       refine aw_ret ?_
       exact bq1 rfl ⟨⟨by omega,by simp_all⟩,rfl,rfl⟩)
    | trace_state
theorem set_same {H:Heap}{k:Nat}{b:Blk}(h:H[k]?=some b):H.set k b=H:=by
  refine List.ext_getElem? fun i=>?_
  rw [List.getElem?_set]
  by_cases e:k=i
  · subst e
    rw [if_pos rfl,if_pos (List.getElem?_eq_some_iff.1 h).1,h]
  · rw [if_neg e]
def addS (s:Sto) (x:Itm):Sto:={ s with items:=s.items++[x] }
def setS (s:Sto) (j:Nat) (x:Itm):Sto:={ s with items:=s.items.set j x }
theorem add_p (s:Sto) (p:List (Int × Int)) (x:Itm) (hn:s.items.length≤30):ACalls Tryz.prog 184 [.ptr 4 0 0 0,x.enc] (stoB 0 s p) (fun v H=>s.items.length<30∧v=.tup []∧H=WI (addS s x) p) (fun v _=>s.items.length=30∧v=errV 9):=by
  refine acalls_of_aw Tryz.func184 rfl (dc rfl) ?_;refine aw_post ?_
  (repeat' (first|(refine ar_isq ?_;refine zq ?_)|(refine ar_refuse ?_ ?_ rfl rfl (dc rfl)<;>intro hrf<;>first|exact absurd hrf (by decide)|(try replace hrf:=HG.out hrf))|refine zst ?_|refine aw_drawn (id:=2) [(0,0),(1,0),(2,0),(3,0),(4,0),(5,0),(6,0),(7,1),(8,1),(9,0),(10,0),(11,0),(12,2)] mixed (by kernel_rfl) ?_|refine zco ?_ ?_|exact zd|(refine fun (hg:(_:Prop))=>?_;(try replace hg:=HG.out hg);(try dsimp only at hg);(try (have _h:True:=hg;clear _h hg)))))
  all_goals first
    | (exfalso;omega)
    | (intro H';exact (⟨by omega,rfl⟩:s.items.length=30∧errV 9=errV 9))
    | ((refine subq_n [] [.arr 4 1 (fun _=>stoG 4 2 (addS s x)),.dead,LB 2 Prt.enc s.prints,mapE vi p,LB 5 Itm.enc (s.items++[x])] ?_ ?_;(focus ((refine sub_to [some 0,some 1,some 2,some 3,some 6] [] rfl ?_ ?_<;>(repeat' (first|exact trivial|refine ⟨⟨_,rfl,?_⟩,?_⟩|refine vs1 ?_ ?_|refine vs2 ?_ ?_|refine vs3 ?_|refine vs4 ?_ ?_|refine ⟨.inl ⟨_,_,rfl,rfl,?_⟩,?_⟩|exact ⟨.inr ⟨rfl,rfl⟩,trivial⟩|refine ⟨.inr ⟨rfl,rfl⟩,?_⟩|(intro _ _)|exact vz1|(first|refine ⟨trivial,?_⟩|refine ⟨bsub_mapE rfl rfl (fun _=>rfl),?_⟩|exact VSub.aggL ⟨.closed rfl,slEq rfl (by simp [addS]),.sl rfl,.map rfl,trivial⟩)|exact vz2|fail)));done)))
       exact bq0n ⟨by omega,rfl,rfl⟩)
    | trace_state
section
variable {r:Option Nat}{m nt i d:Nat}{Q:Post}{env:Env}{H:Heap}{ops:Array Oper}{L:List Stp}{ty:TypeId}{pos:String}{after:Array Edge}{ats:Array TypeId}{x y z:Operand}{p:List (Int × Int)}
theorem ar_item (s:Sto) {j:Int}(hn:s.items.length≤30) (h1:hereB s j→AR Tryz.prog r m nt ops Q L ((d,.ptr 5 1 j.toNat 0)::env) H) (h2:¬ hereB s j→∀ H',Q (.panic (errV 6)) [] H') (hx:eo env x=some (.ptr 4 0 0 0)) (hy:eo env y=some (vi j))
    (b0:H[0]?=some (.arr 4 1 (fun _=>stoV 0 s))) (b1:H[1]?=some (LB 5 Itm.enc s.items)) (b2:H[2]?=some (LB 2 Prt.enc s.prints)) (b3:H[3]?=some (mapE vi p)) (hl:4≤H.length) (hd:d<nt) :
    AR Tryz.prog r m nt ops Q (.l i ⟨some d,.call ⟨.value (.func 185),#[x,y],ats⟩,ty,pos,after,none⟩ false::L) env H:=by
  refine ar_gcall (H0:=stoB 0 s p) [0,1,2,3] [] (args:=[x,y]) (vs:=[.ptr 4 0 0 0,vi j]) (first:=[]) (cap:=[]) fn185 rfl (by rw [List.mapM_cons,List.mapM_cons,List.mapM_nil,hx,hy];rfl) (xs:=[.ptr 4 0 0 0,vi j]) ⟨.ptr rfl,.closed rfl,trivial⟩ rfl (by decide) (fun _ h=>by cases h) (hsub4 b0 b1 b2 b3) stoB_live (item_p s p j hn) hd ?_ ?_
  · rintro _ _ ⟨hh,rfl,rfl⟩
    rw [show stoB 0 s p=[.arr 4 1 (fun _=>stoV 0 s),LB 5 Itm.enc s.items,LB 2 Prt.enc s.prints,mapE vi p] from rfl,join4 hl,mapE_ren]
    have e0:H.set 0 ((Blk.arr 4 1 (fun _=>stoV 0 s)).ren (rn [0,1,2,3] H.length))=H:=set_same b0
    have e1:H.set 1 ((LB 5 Itm.enc s.items).ren (rn [0,1,2,3] H.length))=H:=set_same b1
    have e2:H.set 2 ((LB 2 Prt.enc s.prints).ren (rn [0,1,2,3] H.length))=H:=set_same b2
    rw [e0,e1,e2,set_same b3,List.map_nil,List.append_nil]
    exact h1 hh
  · rintro _ _ ⟨hh,rfl⟩
    exact h2 hh _
theorem ar_add (s:Sto) (w:Itm) (hn:s.items.length≤30) (h1:s.items.length<30→AR Tryz.prog r m nt ops Q L ((d,.tup [])::env) (((H.set 0 (.arr 4 1 (fun _=>stoG H.length 2 (addS s w)))).set 1 .dead)++[LB 5 Itm.enc (s.items++[w])])) (h2:s.items.length=30→∀ H',Q (.panic (errV 9)) [] H') (hx:eo env x=some (.ptr 4 0 0 0)) (hy:eo env y=some w.enc)
    (b0:H[0]?=some (.arr 4 1 (fun _=>stoV 0 s))) (b1:H[1]?=some (LB 5 Itm.enc s.items)) (b2:H[2]?=some (LB 2 Prt.enc s.prints)) (b3:H[3]?=some (mapE vi p)) (hl:4≤H.length) (hd:d<nt) :
    AR Tryz.prog r m nt ops Q (.l i ⟨some d,.call ⟨.value (.func 184),#[x,y],ats⟩,ty,pos,after,none⟩ false::L) env H:=by
  refine ar_gcall (H0:=stoB 0 s p) [0,1,2,3] [] (args:=[x,y]) (vs:=[.ptr 4 0 0 0,w.enc]) (first:=[]) (cap:=[]) fn184 rfl (by rw [List.mapM_cons,List.mapM_cons,List.mapM_nil,hx,hy];rfl) (xs:=[.ptr 4 0 0 0,w.enc]) ⟨.ptr rfl,.closed rfl,trivial⟩ rfl (by decide) (fun _ h=>by cases h) (hsub4 b0 b1 b2 b3) stoB_live (add_p s p w hn) hd ?_ ?_
  · rintro _ _ ⟨hh,rfl,rfl⟩
    unfold WI
    rw [join4 hl,mapE_ren]
    have e2:((H.set 0 ((Blk.arr 4 1 (fun _=>stoG 4 2 (addS s w))).ren (rn [0,1,2,3] H.length))).set 1 ((Blk.dead).ren (rn [0,1,2,3] H.length))).set 2 ((LB 2 Prt.enc (addS s w).prints).ren (rn [0,1,2,3] H.length))=(H.set 0 (.arr 4 1 (fun _=>stoG H.length 2 (addS s w)))).set 1 .dead:=set_same (by rw [List.getElem?_set_ne (by decide),List.getElem?_set_ne (by decide)];exact b2)
    rw [e2,set_same (by rw [List.getElem?_set_ne (by decide),List.getElem?_set_ne (by decide)];exact b3)]
    exact h1 hh
  · rintro _ _ ⟨hh,rfl⟩
    exact h2 hh _
end
def newDie:Itm:=⟨1,-1,0,0,false⟩
def engrE (s:Sto):Int:=if s.items.length=30 then 9 else 0
def made1 (x:Itm) (i:Int):Itm:=⟨x.kind+1,i,1,0,false⟩
def transE (s:Sto) (i:Int):Int:=if hereB s i then (if (el s.items i.toNat).kind=3∨(el s.items i.toNat).place≠1 then 2 else if (el s.items i.toNat).uses=10 then 81 else if s.items.length=30 then 9 else 0) else 6
def used1 (x:Itm) (n:Int):Itm:={ x with uses:=x.uses+n }
def transF (s:Sto) (i:Int):Sto:=addS (setS s i.toNat (used1 (el s.items i.toNat) 1)) (made1 (el s.items i.toNat) i)
def gone1 (x:Itm):Itm:={ x with gone:=true }
def destE (s:Sto) (i:Int):Int:=if hereB s i then (if (el s.items i.toNat).place≠0 then 2 else 0) else 6
def destF (s:Sto) (i:Int):Sto:=setS s i.toNat (gone1 (el s.items i.toNat))
theorem upd_enc {l:List Itm}{j:Nat}(hj:j<l.length) {x:Itm}{v:V}(hv:v=x.enc) (i:Nat):upd (fun i=>(el l i).enc) j v i=(el (l.set j x) i).enc:=by
  by_cases e:i=j
  · subst e
    rw [upd_same,hv]
    simp [el,hj]
  · rw [upd_other e]
    simp [el,List.getElem?_set_ne (Ne.symm e)]
theorem bsub_set {H:Heap}{σ:List (Option Nat)}{fr:Nat→Prop}{k b j:Nat}{l:List Itm}(x:Itm) {v:V}(h:σ[k]?=some (some b)) (hj:j<l.length) (hb:H[b]?=some (.arr 5 l.length (upd (fun i=>(el l i).enc) j v))) (hv:v=x.enc):BSub H σ fr k (LB 5 Itm.enc (l.set j x)):=by
  refine .inl ⟨b,_,h,?_,fun i _=>.of_eq (upd_enc hj hv i) rfl⟩
  rw [hb,List.length_set]
theorem engrave_p (s:Sto) (p:List (Int × Int)) (a:Deed) (hn:s.items.length≤30):ACalls Tryz.prog 177 [.ptr 4 0 0 0,a.enc] (stoB 0 s p) (fun v H=>engrE s=0∧v=.tup []∧H=WI (addS s newDie) p) (fun v _=>engrE s≠0∧v=errV (engrE s)):=by
  refine acalls_of_aw Tryz.func177 rfl (dc rfl) ?_;refine aw_post ?_
  (repeat' (first|(refine ar_isq ?_;refine zq ?_)|(refine zbt ?_)|(refine ar_add s newDie hn ?_ ?_ rfl rfl rfl rfl rfl rfl (dc rfl) (dc rfl)<;>intro hrf)|refine zst ?_|refine zco ?_ ?_|exact zd|(refine fun (hg:(_:Prop))=>?_;(try replace hg:=HG.out hg);(try dsimp only at hg);(try (have _h:True:=hg;clear _h hg)))))
  · (refine subq_n [] [.arr 4 1 (fun _=>stoG 4 2 (addS s newDie)),.dead,LB 2 Prt.enc s.prints,mapE vi p,LB 5 Itm.enc (s.items++[newDie])] ?_ ?_;(focus (exact zsc [some 0,some 1,some 2,some 3,some 5] [])))
    exact bq0n ⟨by unfold engrE;rw [if_neg (by omega)],rfl,rfl⟩
  · intro H'
    have e:engrE s=9:=by unfold engrE;rw [if_pos hrf]
    refine (?_:engrE s≠0∧errV 9=errV (engrE s))
    rw [e]
    exact ⟨by decide,rfl⟩
theorem destroy_p (s:Sto) (p:List (Int × Int)) (a:Deed) (hn:s.items.length≤30):ACalls Tryz.prog 183 [.ptr 4 0 0 0,a.enc] (stoB 0 s p) (fun v H=>destE s a.item=0∧v=.tup []∧H=stoB 0 (destF s a.item) p) (fun v _=>destE s a.item≠0∧v=errV (destE s a.item)):=by
  have bad:∀ e:Int,destE s a.item=e→e≠0→∀ H':Heap,destE s a.item≠0∧errV e=errV (destE s a.item):=fun e h h0 _=>by rw [h];exact ⟨h0,rfl⟩
  by_cases hh:hereB s a.item
  · have hlt:a.item.toNat<s.items.length:=by unfold hereB at hh;omega
    refine acalls_of_aw Tryz.func183 rfl (dc rfl) ?_;refine aw_post ?_
    (repeat' (first|(refine ar_isq ?_;refine zq ?_)|(refine ar_item s hn ?_ ?_ rfl rfl rfl rfl rfl rfl (dc rfl) (dc rfl)<;>intro hrf)|(refine ar_refuse ?_ ?_ rfl rfl (dc rfl)<;>intro hrf<;>first|exact absurd hrf (by decide)|(try replace hrf:=HG.out hrf))|refine zst ?_|refine zco ?_ ?_|exact zd|(refine fun (hg:(_:Prop))=>?_;(try replace hg:=HG.out hg);(try dsimp only at hg);(try (have _h:True:=hg;clear _h hg)))))
    all_goals first
      | (exact absurd hh (by assumption))
      | exact bad 2 (by unfold destE;rw [if_pos hh,if_pos (by omega)]) (by decide)
      | ((refine subq_n [] [.arr 4 1 (fun _=>stoV 0 (destF s a.item)),LB 5 Itm.enc (s.items.set a.item.toNat (gone1 (el s.items a.item.toNat))),LB 2 Prt.enc s.prints,mapE vi p] ?_ ?_;(focus ((refine sub_to [some 0,some 1,some 2,some 3] [] rfl ?_ ?_<;>(repeat' (first|exact trivial|refine ⟨⟨_,rfl,?_⟩,?_⟩|refine vs1 ?_ ?_|refine vs2 ?_ ?_|refine vs3 ?_|refine vs4 ?_ ?_|refine ⟨.inl ⟨_,_,rfl,rfl,?_⟩,?_⟩|exact ⟨.inr ⟨rfl,rfl⟩,trivial⟩|refine ⟨.inr ⟨rfl,rfl⟩,?_⟩|(intro _ _)|exact vz1|(first|refine ⟨bsub_set (gone1 (el s.items a.item.toNat)) rfl hlt rfl rfl,?_⟩|refine ⟨bsub_mapE rfl rfl (fun _=>rfl),?_⟩|exact VSub.aggL ⟨.closed rfl,slEq rfl (by simp [destF,setS]),.sl rfl,.map rfl,trivial⟩)|exact vz2|fail)));done)))
         exact bq0n ⟨by unfold destE;rw [if_pos hh,if_neg (by omega)],rfl,rfl⟩)
      | trace_state
  · refine acalls_of_aw Tryz.func183 rfl (dc rfl) ?_
    (repeat' (first|(refine ar_isq ?_;refine zq ?_)|(refine ar_item s hn ?_ ?_ rfl rfl rfl rfl rfl rfl (dc rfl) (dc rfl)<;>intro hrf<;>(try exact absurd hrf hh))|refine zst ?_|refine zco ?_ ?_|exact zd|(refine fun (hg:(_:Prop))=>?_;(try replace hg:=HG.out hg);(try dsimp only at hg);(try (have _h:True:=hg;clear _h hg)))))
    all_goals exact bad 6 (by unfold destE;rw [if_neg hh]) (by decide)
theorem transfer_p (s:Sto) (p:List (Int × Int)) (a:Deed) (hV:Valid s):ACalls Tryz.prog 178 [.ptr 4 0 0 0,a.enc] (stoB 0 s p) (fun v H=>transE s a.item=0∧v=.tup []∧H=WI (transF s a.item) p) (fun v _=>transE s a.item≠0∧v=errV (transE s a.item)):=by
  have hfew:=hV.1
  unfold Few at hfew
  have hn:=hfew.2.1
  have bad:∀ e:Int,transE s a.item=e→e≠0→∀ H':Heap,transE s a.item≠0∧errV e=errV (transE s a.item):=fun e h h0 _=>by rw [h];exact ⟨h0,rfl⟩
  by_cases hh:hereB s a.item
  · have hlt:a.item.toNat<s.items.length:=by unfold hereB at hh;omega
    have h0:=hh.1
    have hm:=hV.2.1 a.item.toNat hlt
    unfold Made at hm
    have hu:=hV.2.2.2.2 a.item.toNat hlt
    have hul:=usedI_bnd s.items a.item.toNat s.items.length
    have hup:=usedP_bnd s.prints a.item.toNat s.prints.length
    have hu1:=hu.1
    unfold usedS at hu1
    have hel:el (s.items++[made1 (el s.items a.item.toNat) a.item]) a.item.toNat=el s.items a.item.toNat:=el_app_lt hlt
    have hj2:a.item.toNat<(s.items++[made1 (el s.items a.item.toNat) a.item]).length:=by rw [List.length_append];omega
    have hue:(el (s.items++[made1 (el s.items a.item.toNat) a.item]) a.item.toNat).uses=(el s.items a.item.toNat).uses:=by rw [hel]
    have hal:(addS s (made1 (el s.items a.item.toNat) a.item)).items.length=s.items.length+1:=by simp [addS]
    have hset:(s.items++[made1 (el s.items a.item.toNat) a.item]).set a.item.toNat (used1 (el s.items a.item.toNat) 1)=(transF s a.item).items:=List.set_append_left _ _ hlt
    refine acalls_of_aw Tryz.func178 rfl (dc rfl) ?_;refine aw_post ?_
    (repeat' (first|(refine ar_isq ?_;refine zq ?_)|refine zil (j:=a.item.toNat) ?_|refine zis (j:=a.item.toNat) ?_|refine zit (j:=a.item.toNat) ?_|(refine zbt ?_)|(refine ar_item s hn ?_ ?_ rfl rfl rfl rfl rfl rfl (dc rfl) (dc rfl)<;>intro hrf)|(refine ar_refuse ?_ ?_ rfl rfl (dc rfl)<;>intro hrf<;>first|exact absurd hrf (by decide)|(try replace hrf:=HG.out hrf))|(refine ar_add s (made1 (el s.items a.item.toNat) a.item) hn ?_ ?_ rfl rfl rfl rfl rfl rfl (dc rfl) (dc rfl)<;>intro hrf)|refine zg ?_ ?_|refine zgu ?_|refine zst ?_|refine aw_drawn (id:=4) [(0,0),(1,0),(2,0),(3,0),(4,0),(5,0),(6,0),(7,0),(8,0),(9,2)] mixed (by kernel_rfl) ?_|refine aw_drawn (id:=4) [(0,0),(1,0),(2,0),(3,0),(4,0),(5,0),(6,0),(7,0),(8,0),(9,1)] mixed (by kernel_rfl) ?_|refine aw_drawn (id:=5) [(0,0),(1,0),(2,0),(3,0),(4,0),(5,0),(6,0),(7,0),(8,0),(9,0),(10,0),(11,0),(12,0),(13,2)] mixed (by kernel_rfl) ?_|refine zco ?_ ?_|exact zd|(refine fun (hg:(_:Prop))=>?_;(try replace hg:=HG.out hg);(try dsimp only at hg);(try (have _h:True:=hg;clear _h hg)))))
    all_goals first
      | (exact absurd hh (by assumption))
      | exact bad 2 (by unfold transE;rw [if_pos hh,if_pos (by omega)]) (by decide)
      | exact bad 81 (by unfold transE;rw [if_pos hh,if_neg (by omega),if_pos (by omega)]) (by decide)
      | exact bad 9 (by unfold transE;rw [if_pos hh,if_neg (by omega),if_neg (by omega),if_pos (by omega)]) (by decide)
      | ((refine subq_n [] [.arr 4 1 (fun _=>stoG 4 2 (transF s a.item)),.dead,LB 2 Prt.enc s.prints,mapE vi p,LB 5 Itm.enc ((s.items++[made1 (el s.items a.item.toNat) a.item]).set a.item.toNat (used1 (el s.items a.item.toNat) 1))] ?_ ?_;(focus ((refine sub_to [some 0,some 1,some 2,some 3,some 5] [] rfl ?_ ?_<;>(repeat' (first|exact trivial|refine ⟨⟨_,rfl,?_⟩,?_⟩|refine vs1 ?_ ?_|refine vs2 ?_ ?_|refine vs3 ?_|refine vs4 ?_ ?_|refine ⟨.inl ⟨_,_,rfl,rfl,?_⟩,?_⟩|exact ⟨.inr ⟨rfl,rfl⟩,trivial⟩|refine ⟨.inr ⟨rfl,rfl⟩,?_⟩|(intro _ _)|exact vz1|(first|refine ⟨trivial,?_⟩|refine ⟨bsub_set (used1 (el s.items a.item.toNat) 1) rfl (by simp;omega) rfl (by rw [hel];rfl),?_⟩|refine ⟨bsub_mapE rfl rfl (fun _=>rfl),?_⟩|exact VSub.aggL ⟨.closed rfl,slEq rfl (by simp [addS,transF,setS]),.sl rfl,.map rfl,trivial⟩)|exact vz2|fail)));done)))
         exact bq0n ⟨by unfold transE;rw [if_pos hh,if_neg (by omega),if_neg (by omega),if_neg (by omega)],rfl,by rw [hset];rfl⟩)
      | trace_state
  · refine acalls_of_aw Tryz.func178 rfl (dc rfl) ?_
    (repeat' (first|(refine ar_isq ?_;refine zq ?_)|(refine zbt ?_)|(refine ar_item s hn ?_ ?_ rfl rfl rfl rfl rfl rfl (dc rfl) (dc rfl)<;>intro hrf<;>(try exact absurd hrf hh))|refine zg ?_ ?_|refine zgu ?_|refine zst ?_|refine aw_drawn (id:=4) [(0,0),(1,0),(2,0),(3,0),(4,0),(5,0),(6,0),(7,0),(8,0),(9,1)] mixed (by kernel_rfl) ?_|refine aw_drawn (id:=4) [(0,0),(1,0),(2,0),(3,0),(4,0),(5,0),(6,0),(7,0),(8,0),(9,2)] mixed (by kernel_rfl) ?_|refine aw_drawn (id:=5) [(0,0),(1,0),(2,0),(3,0),(4,0),(5,0),(6,0),(7,0),(8,0),(9,0),(10,0),(11,0),(12,0),(13,2)] mixed (by kernel_rfl) ?_|refine zco ?_ ?_|exact zd|(refine fun (hg:(_:Prop))=>?_;(try replace hg:=HG.out hg);(try dsimp only at hg);(try (have _h:True:=hg;clear _h hg)))))
    all_goals exact bad 6 (by unfold transE;rw [if_neg hh]) (by decide)
section
variable {P:Program}{r:Option Nat}{m nt:Nat}{Q:Post}{env:Env}{H:Heap}{ops:Array Oper}{l:List Stp}{ty:TypeId}{pos:String}{after:Array Edge}{x y:Operand}{T T2 E:TypeId}{d de:TyD}{dst:Option Tmp}{guard:Option (Nat × Bool)}
theorem run_copy_rowN {w:World}{ii:TypeInfo}{cb o n c k cap:Nat}{ad:Addr}{cs:Array Value}{t:TypeId}{news:List Value}(hu:P.underlying T=some (.slice E)) (hi:P.info? E=some ii) (hg:w.heap[cb]?=some (.cells cs t (0,0))) (hn:news.length=Nat.min k n*ii.size)
    (hsrc:∀ j v,news[j]?=some v→w.cell? (ad.add j)=some v) (hfit:o+news.length≤cs.size) (h1:∀ v∈news,v.oneCell'=true) :
    (Builtin.copy_ #[T,T2] ty #[.slice (some ⟨cb,o,none⟩) n c,.slice (some ad) k cap]).run P w=.ok (goInt (Nat.min k n)) (w.setRow cb (cs.toList.take o++news++cs.toList.drop (o+news.length)).toArray):=by
  have hl:=run_firstCells_some (P:=P) w ii.size (Nat.min k n) ad k cap news hn hsrc
  have hst:=run_storeCells_at P cb o t news 0 cs w hg (by simpa using hfit) h1
  simp only [Nat.add_zero] at hst
  simp [Builtin.copy_,run_underlying hu,Builtin.lenOf,sizeOf,typeInfo,hi,hl,hst]
theorem run_copy_noneN {w:World}{ii:TypeInfo}{A B:Option Addr}{n c k cap:Nat}(hu:P.underlying T=some (.slice E)) (hi:P.info? E=some ii) (hn:Nat.min k n=0) :
    (Builtin.copy_ #[T,T2] ty #[.slice A n c,.slice B k cap]).run P w=.ok (goInt 0) w:=by
  have h:=firstCells_run (P:=P) (w:=w) (size:=ii.size) (k:=0) (cap:=cap) (A:=B) (news:=[]) (by simp) (fun h=>by omega)
  have h':(Builtin.firstCells ii.size 0 (.slice B k cap)).run P w=.ok #[] w:=by cases B<;>simp [Builtin.firstCells,loadCells,loadCellsFrom]
  cases A<;>simp [Builtin.copy_,run_underlying hu,Builtin.lenOf,sizeOf,typeInfo,hi,hn,h',storeCells]
theorem ls_copyN {yv:V}{sz b i n N k:Nat}{f g:Nat→V}(ht:TyIs P T d) (hk:d.tk=.slice E) (he:TyIs P E de) (hs1:de.size=sz) (hx:eo env x=some (.sl sz b i n)) (hH:H[b]?=some (.arr sz N f)) (hN:i+n≤N) (hy:eo env y=some yv) (hs:Src H yv sz k g)
    (hone:∀ j,j<k→(g j).cells.all V.one=true) :
    LS P r m nt false env H ⟨dst,.call ⟨.builtin .copy,#[x,y],#[T,T2]⟩,ty,pos,after,guard⟩ (fun u H'=>u=vi (Nat.min k n)∧H'=H.set b (.arr sz N (copyF f i (Nat.min k n) g))) NoP:=.mk
  fun X I ρ a w next Qx hX hS hK hp=>by
    obtain ⟨hE,hw,hdf⟩:=hS
    have hu:=eo_rel hE hx
    have hv:=eo_rel hE hy
    obtain ⟨ii,hi,hsz,hby,hz0⟩:=he.inf
    obtain ⟨B,cap,news,ey,hnl,hnc,hgsz,hgr⟩:=src_cells hw hs hv
    have hex:∀ {res:Value} {w':World},(Builtin.copy_ #[T,T2] ty #[a.eval x,a.eval y]).run P w=.ok res w'→(execOp a.eval ⟨dst,.call ⟨.builtin .copy,#[x,y],#[T,T2]⟩,ty,pos,after,guard⟩).run P w=.ok (.value res) w':=fun h=>by
      simp [execOp,resolve,invoke,builtin,h]
    by_cases h0:Nat.min k n=0
    · have hset:H.set b (.arr sz N (copyF f i (Nat.min k n) g))=H:=by
        rw [h0,show copyF f i 0 g=f from funext fun j=>copyF_out (by omega)]
        obtain ⟨hb,e⟩:=List.getElem?_eq_some_iff.1 hH
        rw [← e,List.set_getElem_self]
      obtain ⟨A,c,ex⟩:∃ A c,a.eval x=.slice A n c:=by
        rcases hu.sl_inv with ⟨cb,z,c,e,_⟩|⟨A,e,_,_,rfl⟩
        · exact ⟨_,_,e⟩
        · exact ⟨_,_,e⟩
      have hr:=run_copy_noneN (P:=P) (w:=w) (ty:=ty) (T2:=T2) (A:=A) (B:=B) (c:=c) (cap:=cap) (ht.slice hk) hi h0
      rw [← ex,← ey] at hr
      refine wpIn_of_run (by simp) (hex hr) ?_
      exact hK I ρ _ (vi 0) _ _ ⟨by rw [h0];rfl,rfl⟩ (Imm.le_refl _) (Pre.refl _) (by rw [hset];exact hw) (.s _) (by simp)
    · rcases hu.sl_inv with ⟨cb,z,c,ex,hb,hnc',hcm,hz'⟩|⟨A,_,_,_,rfl⟩
      · have hk0:0<k:=by have:Nat.min k n≤k:=Nat.min_le_left _ _;omega
        have hmk:Nat.min k n≤k:=Nat.min_le_left _ _
        have hmn:Nat.min k n≤n:=Nat.min_le_right _ _
        obtain ⟨ad,rfl,hspot,hcell⟩:=hnc hk0
        obtain ⟨cs,t,hcs,hz,hn,hr⟩:=hw.arr _ _ _ _ _ _ hH hb
        have hgl:=hw.size _ _ _ _ hH
        generalize hM:Nat.min k n=M at *
        have hMk:M*sz≤k*sz:=Nat.mul_le_mul_right _ hmk
        have hcl:(news.take (M*sz)).length=M*sz:=by rw [List.length_take];omega
        have hiM:(i+M)*sz≤N*sz:=Nat.mul_le_mul_right _ (by omega)
        rw [Nat.add_mul] at hiM
        have hones:∀ u∈news.take (M*sz),u.oneCell'=true:=fun u hu=>by
          obtain ⟨t,hlt,rfl⟩:=List.getElem_of_mem hu
          rw [hcl] at hlt
          have hpos:0<sz:=by rcases Nat.eq_zero_or_pos sz with h|h;subst h;simp at hlt;exact h
          have hi1:t/sz<M:=(Nat.div_lt_iff_lt_mul hpos).2 hlt
          have hj1:=Nat.mod_lt t hpos
          have e:=Nat.div_add_mod' t sz
          obtain ⟨q,h1,h2⟩:=hgr (t/sz) (t % sz) ((g (t/sz)).cells[t % sz]'(by rw [hgsz _ (by omega)];exact hj1)) (by omega) (by simp [hgsz _ (show t/sz<k by omega),hj1])
          rw [e] at h1
          have:(news.take (M*sz))[t]=q:=by
            rw [List.getElem_take]
            rw [List.getElem?_eq_getElem (by rw [hnl];omega)] at h1
            exact Option.some.inj h1
          rw [this]
          exact h2.one (List.all_eq_true.1 (hone _ (by omega)) _ (List.getElem_mem _))
        have hfit:i*sz+(news.take (M*sz)).length≤cs.size:=by rw [hcl];omega
        have hrun:=run_copy_rowN (P:=P) (w:=w) (ty:=ty) (T2:=T2) (n:=n) (c:=c) (k:=k) (cap:=cap) (o:=i*sz) (ad:=ad) (news:=news.take (M*sz)) (ht.slice hk) hi hcs (by rw [hcl,hM,hsz,hs1]) (fun j v hj=>by
          refine hcell w rfl j v ?_
          rw [List.getElem?_take] at hj
          split at hj
          · exact hj
          · cases hj) hfit hones
        rw [← ex,← ey,hM] at hrun
        refine wpIn_of_run (by simp) (hex hrun) ?_
        obtain ⟨s1,s2,s3⟩:=setRow_facts (new:=(cs.toList.take (i*sz)++news.take (M*sz)++cs.toList.drop (i*sz+(news.take (M*sz)).length)).toArray) hcs
        refine hK I ρ _ _ _ _ ⟨rfl,rfl⟩ (Imm.le_refl _) (Pre.refl _) (hw.write hH hb (by simp;simp at hfit;omega) (fun j hj=>?_) ?_ s1 s2 s3 rfl rfl rfl) (.s _) (by simp)
        · by_cases h1:i≤j∧j<i+M
          · rw [copyF_in h1.1 h1.2];exact hgsz _ (by omega)
          · rw [copyF_out (by omega)];exact hgl j hj
        · intro j q v hj hv
          simp only [List.getElem?_toArray]
          rw [splice_get (by simpa using hfit),hcl]
          by_cases h1:i≤j∧j<i+M
          · rw [copyF_in h1.1 h1.2] at hv
            have hq:q<sz:=by have:=(List.getElem?_eq_some_iff.1 hv).1;rw [hgsz _ (by omega)] at this;exact this
            obtain ⟨u,h2,h4⟩:=hgr (j-i) q v (by omega) hv
            have e1:j*sz=i*sz+(j-i)*sz:=by rw [← Nat.add_mul];congr 1;omega
            have e2:(j-i)*sz+sz≤M*sz:=by rw [← Nat.succ_mul];exact Nat.mul_le_mul_right _ (by omega)
            refine ⟨u,?_,h4⟩
            rw [if_pos (by omega),List.getElem?_take,if_pos (by omega),← h2]
            congr 1
            omega
          · rw [copyF_out (by omega)] at hv
            have hq:q<sz:=by have:=(List.getElem?_eq_some_iff.1 hv).1;rw [hgl j hj] at this;exact this
            obtain ⟨u,h2,h3⟩:=hr j q v hj hv
            refine ⟨u,?_,h3⟩
            rw [if_neg ?_]
            · simpa using h2
            · rintro ⟨h4,h5⟩
              rcases Nat.lt_or_ge j i with h6|h6
              · have:j*sz+sz≤i*sz:=by rw [← Nat.succ_mul];exact Nat.mul_le_mul_right _ h6
                omega
              · have:(i+M)*sz≤j*sz:=Nat.mul_le_mul_right _ (by omega)
                rw [Nat.add_mul] at this
                omega
      · exact (h0 (by simp)).elim
theorem ar_copyN {yv:V}{sz b i n N k e:Nat}{f g:Nat→V}{j:Nat}(ht:TyIs P T d) (hk:d.tk=.slice E) (he:TyIs P E de) (hs1:de.size=sz) (hx:eo env x=some (.sl sz b i n)) (hH:H[b]?=some (.arr sz N f)) (hN:i+n≤N) (hy:eo env y=some yv) (hs:Src H yv sz k g)
    (hone:∀ j,j<k→(g j).cells.all V.one=true) (hd:e<nt) (h:AR P r m nt ops Q l ((e,vi (Nat.min k n))::env) (H.set b (.arr sz N (copyF f i (Nat.min k n) g)))) :
    AR P r m nt ops Q (.l j ⟨some e,.call ⟨.builtin .copy,#[x,y],#[T,T2]⟩,ty,pos,after,none⟩ false::l) env H :=
  ar_l (ls_copyN ht hk he hs1 hx hH hN hy hs hone) hd (fun v H' ⟨a,b⟩=>by subst a;subst b;exact h) (fun _ _ h=>h.elim)
end
def repP (q:Prt) (m j:Nat):V:=bif Nat.blt j m then q.enc else Prt.enc ⟨0,0⟩
theorem repP_in {q:Prt}{m j:Nat}(h:j<m):repP q m j=q.enc:=by
  have:Nat.blt j m=true:=by rw [Nat.blt_eq];exact h
  simp [repP,this]
theorem repP_out {q:Prt}{m j:Nat}(h:m≤j):repP q m j=Prt.enc ⟨0,0⟩:=by
  have:Nat.blt j m=false:=by cases e:Nat.blt j m with|false=>rfl|true=>rw [Nat.blt_eq] at e;omega
  simp [repP,this]
theorem repP_closed (q:Prt) (m j:Nat):(repP q m j).closed=true:=by
  by_cases h:j<m
  · rw [repP_in h];rfl
  · rw [repP_out (by omega)];rfl
theorem repP_one (q:Prt) (m j:Nat):(repP q m j).cells.all V.one=true:=by
  by_cases h:j<m
  · rw [repP_in h];rfl
  · rw [repP_out (by omega)];rfl
theorem copy_repP0 (q:Prt) (c i:Nat) (hc:c≤1):copyF (fun _=>Prt.enc ⟨0,0⟩) 0 c (fun j=>(el [q] j).enc) i=repP q c i:=by
  by_cases h:i<c
  · rw [copyF_in (Nat.zero_le _) (by omega),repP_in h,show i-0=0 by omega]
    rfl
  · rw [copyF_out (by omega),repP_out (by omega)]
theorem copy_repP {q:Prt}{m c:Nat}(hc:c≤m) (i:Nat):copyF (repP q m) m c (fun j=>repP q m (0+j)) i=repP q (m+c) i:=by
  by_cases h:i<m
  · rw [copyF_out (by omega),repP_in h,repP_in (by omega)]
  · by_cases h2:i<m+c
    · rw [copyF_in (by omega) h2,Nat.zero_add,repP_in (by omega),repP_in h2]
    · rw [copyF_out (by omega),repP_out (by omega),repP_out (by omega)]
theorem repeatP_p (q:Prt) (n:Nat) (hn:n≤1000):PCalls Tryz.prog 187 [encPrints [q],vi n] (·=encPrints (List.replicate n q)):=by
  have h1:[q].length=1:=rfl
  have hT':(0:Int)≤([q].length:Int)*(n:Int)∧([q].length:Int)*(n:Int)≤100000:=by rw [← Int.natCast_mul,h1];omega
  refine pcalls_of_aw Tryz.func187 rfl (dc rfl) ?_
  (repeat' (first|(refine ar_isq ?_;refine zq ?_)|(refine ar_pcall (own:=false) fn111 rfl rfl (.cons (.closed rfl) (.cons (.closed rfl) .nil)) (mul_p _ _ (by omega) (by omega) (by omega)) (by simp) (dc rfl) ?_;intro _ hv;subst hv)|(refine ar_make_v (n:=n) (ty rfl) rfl (ty rfl) rfl rfl (by rw [h1];omega) (by rw [h1];omega) (dc rfl) rfl rfl (by dsimp only;omega) (maxLen_ok (by omega)) ?_)|refine ar_copyN (ty rfl) rfl (ty rfl) rfl rfl rfl (by omega) rfl (.inl rfl) (fun _ _=>rfl) (dc rfl) ?_|refine zcl ?_|refine zcs ?_|refine zcpl ?_|refine zcpo ?_|refine zg ?_ ?_|refine zgu ?_|refine zst ?_|refine aw_drawn (id:=9) [(0,0),(1,0),(2,0),(3,0),(4,0),(5,0),(6,0),(7,2),(8,0),(9,0)] mixed (by kernel_rfl) ?_|refine zco ?_ ?_|exact zd|(refine fun (hg:(_:Prop))=>?_;(try replace hg:=HG.out hg);(try dsimp only at hg);(try (have _h:True:=hg;clear _h hg)))))
  all_goals (try (exfalso;omega))
  have hfl:=fillN_le 1 n
  refine aw_for n (fun _=>True) (fun k=>[(7,.sl 2 0 0 n),(8,vi (fillN 1 n k))]) (fun k=>[.arr 2 n (repP q (fillN 1 n k))]) trivial ?_ ?_
  · (refine sub_to [some 0] [] rfl ?_ ?_<;>(repeat' (first|exact trivial|refine ⟨⟨_,rfl,?_⟩,?_⟩|refine vs1 ?_ ?_|refine vs2 ?_ ?_|refine vs3 ?_|refine vs4 ?_ ?_|refine ⟨.inl ⟨_,_,rfl,rfl,?_⟩,?_⟩|exact ⟨.inr ⟨rfl,rfl⟩,trivial⟩|refine ⟨.inr ⟨rfl,rfl⟩,?_⟩|(intro _ _)|exact vz1|(first|exact siEq (by simp [fillN];omega)|exact VSub.of_eq ((copy_repP0 q _ _ (Nat.min_le_left _ _)).trans (by simp [fillN])) (repP_closed _ _ _))|exact vz2|fail)))
  intro k hk _
  have hf:=hfl k
  by_cases hlt:fillN 1 n k<n
  · obtain ⟨hd,hkf⟩:=fillN_mod [true] n (by decide) k hlt
    have hmin:(fillN 1 n k-0).min (n-fillN 1 n k)≤n-fillN 1 n k:=Nat.min_le_right _ _
    have hkf:k<fillN 1 n k:=hkf
    (repeat' (first|(refine ar_isq ?_;refine zq ?_)|refine ar_copyN (ty rfl) rfl (ty rfl) rfl rfl rfl (by omega) rfl (.inr (.inl ⟨_,_,_,_,rfl,rfl,(by omega),rfl⟩)) (fun _ _=>repP_one _ _ _) (dc rfl) ?_|refine zcl (a:=fillN 1 n k) (b:=n) ?_|refine zcs (a:=fillN 1 n k) (b:=n) ?_|refine zcl (a:=0) (b:=fillN 1 n k) ?_|refine zcs (a:=0) (b:=fillN 1 n k) ?_|refine zcpl ?_|refine zcpo ?_|refine zg ?_ ?_|refine zgu ?_|refine zst ?_|refine aw_drawn (id:=9) [(0,0),(1,0),(2,0),(3,0),(4,0),(5,0),(6,0),(7,2),(8,0),(9,0)] mixed (by kernel_rfl) ?_|refine zco ?_ ?_|exact zd|(refine fun (hg:(_:Prop))=>?_;(try replace hg:=HG.out hg);(try dsimp only at hg);(try (have _h:True:=hg;clear _h hg)))))
    all_goals first
      | (exfalso;omega)
      | ((first|refine loop_next (by omega) ?_ ?_|refine (show _∧_∧SubOf _ _ _ _ _ _ from And.intro (by omega) (And.intro ?_ ?_)));(focus ((trivial);done));(focus ((refine sub_to [some 0] [] rfl ?_ ?_<;>(repeat' (first|exact trivial|refine ⟨⟨_,rfl,?_⟩,?_⟩|refine vs1 ?_ ?_|refine vs2 ?_ ?_|refine vs3 ?_|refine vs4 ?_ ?_|refine ⟨.inl ⟨_,_,rfl,rfl,?_⟩,?_⟩|exact ⟨.inr ⟨rfl,rfl⟩,trivial⟩|refine ⟨.inr ⟨rfl,rfl⟩,?_⟩|(intro _ _)|exact vz1|(first|exact siEq (by simp [fillN];omega)|exact VSub.of_eq (by have:=copy_repP (q:=q) (c:=min (fillN 1 n k) (n-fillN 1 n k)) (Nat.min_le_left (fillN 1 n k) _);simp only [Nat.zero_add,Nat.add_zero,Nat.sub_zero,fillN] at this ⊢;exact this _) (repP_closed _ _ _))|exact vz2|fail)));done)))
      | trace_state
  · (repeat' (first|(refine ar_isq ?_;refine zq ?_)|refine zcl ?_|refine zcs ?_|refine zcpl ?_|refine zcpo ?_|refine zg ?_ ?_|refine zgu ?_|refine zst ?_|refine aw_drawn (id:=9) [(0,0),(1,0),(2,0),(3,0),(4,0),(5,0),(6,0),(7,2),(8,0),(9,0)] mixed (by kernel_rfl) ?_|refine zco ?_ ?_|exact zd|(refine fun (hg:(_:Prop))=>?_;(try replace hg:=HG.out hg);(try dsimp only at hg);(try (have _h:True:=hg;clear _h hg)))))
    all_goals first
      | (exfalso;omega)
      | ((refine aw_mono_r (env':=[(4,encPrints (List.replicate n q))]) (H':=[]) ?_ ?_;(focus ((refine sub_to [] [0] rfl ?_ ?_<;>(repeat' (first|exact trivial|refine ⟨⟨_,rfl,?_⟩,?_⟩|refine vs1 ?_ ?_|refine vs2 ?_ ?_|refine vs3 ?_|refine vs4 ?_ ?_|refine ⟨.inl ⟨_,_,rfl,rfl,?_⟩,?_⟩|exact ⟨.inr ⟨rfl,rfl⟩,trivial⟩|refine ⟨.inr ⟨rfl,rfl⟩,?_⟩|(intro _ _)|exact vz1|(exact frz_as (by simp) rfl rfl (by simp) (fun i hi=>by rw [el_replicate hi,repP_in (by omega)]) (fun _=>rfl))|exact vz2|fail)));done)));(refine aw_ret ?_;(repeat (first|refine ret_then ?_|refine ret_block ?_));refine bq1 rfl ⟨?_,rfl⟩);rfl)
      | trace_state
def idxP (p:Prt→Bool) (l:List Prt):Int:=match (List.range l.length).find? (fun i=>p (el l i)) with|some i=>(i:Int)|none=>-1
theorem idxP_at {p:Prt→Bool}{l:List Prt}{i:Nat}(hi:i<l.length) (h0:∀ j,j<i→p (el l j)=false) (h:p (el l i)=true):idxP p l=i:=by
  have:(List.range l.length).find? (fun i=>p (el l i))=some i:=by
    rw [List.find?_range_eq_some]
    exact ⟨h,by simpa using hi,fun j hj=>by simp [h0 j hj]⟩
  unfold idxP
  rw [this]
theorem idxP_none {p:Prt→Bool}{l:List Prt}(h0:∀ j,j<l.length→p (el l j)=false):idxP p l=-1:=by
  have:(List.range l.length).find? (fun i=>p (el l i))=none:=by
    rw [List.find?_eq_none]
    intro j hj
    rw [List.mem_range] at hj
    simp [h0 j hj]
  unfold idxP
  rw [this]
theorem idxP_any (p:Prt→Bool) (l:List Prt):decide (0≤idxP p l)=l.any p:=by
  cases h:l.any p
  · rw [List.any_eq_false] at h
    rw [idxP_none fun j hj=>by simpa using h _ (el_mem hj)]
    rfl
  · rw [List.any_eq_true] at h
    obtain ⟨x,hx,hp⟩:=h
    obtain ⟨i,hi,rfl⟩:=mem_el hx
    unfold idxP
    split
    · simp
    · rename_i h0
      rw [List.find?_eq_none] at h0
      have:=h0 i (by simpa using hi)
      simp [hp] at this
def spentB (x:Prt):Bool:=!decide (x.state=0)
theorem spent1_p (x:Prt):PCalls Tryz.prog 190 [x.enc] (·=vb (spentB x)):=by
  refine pcalls_of_aw Tryz.func190 rfl (dc rfl) ?_
  (repeat' (first|(refine ar_isq ?_;refine zq ?_)|refine zst ?_|refine zco ?_ ?_|exact zd|(refine fun (hg:(_:Prop))=>?_;(try replace hg:=HG.out hg);(try dsimp only at hg);(try (have _h:True:=hg;clear _h hg)))))
  (refine aw_ret ?_;(repeat (first|refine ret_then ?_|refine ret_block ?_));refine bq1 rfl ⟨?_,rfl⟩)
  rfl
theorem indexP_p (l:List Prt):PCalls Tryz.prog 191 [encPrints l,.fn (.func 190) [] []] (·=vi (idxP spentB l)):=by
  (refine pcalls_know (fun I us h=>rel_len (rel_arg h (j:=0) rfl)) fun hlen0=>?_)
  refine pcalls_of_aw Tryz.func191 rfl (dc rfl) ?_
  (repeat' (first|(refine ar_isq ?_;refine zq ?_)|refine zst ?_|refine zco ?_ ?_|exact zd|(refine fun (hg:(_:Prop))=>?_;(try replace hg:=HG.out hg);(try dsimp only at hg);(try (have _h:True:=hg;clear _h hg)))))
  refine aw_for l.length (fun k=>∀ j,j<k→spentB (el l j)=false) (fun k=>[(0,encPrints l),(1,.fn (.func 190) [] []),(7,vi l.length),(8,vi k)]) (fun _=>[]) (fun j hj=>by omega) ?_ ?_
  · (exact zsb [] [])
  intro k hk hJ
  by_cases hkn:k<l.length
  · (repeat' (first|(refine ar_isq ?_;refine zq ?_)|refine zil (j:=k) ?_|refine zis (j:=k) ?_|refine zit (j:=k) ?_|(refine zpv fn190 (spent1_p (el l k)) ?_)|refine zst ?_|refine zco ?_ ?_|exact zd|(refine fun (hg:(_:Prop))=>?_;(try replace hg:=HG.out hg);(try dsimp only at hg);(try (have _h:True:=hg;clear _h hg)))))
    all_goals first
      | (exfalso;omega)
      | ((first|refine loop_next (by omega) ?_ ?_|refine (show _∧_∧SubOf _ _ _ _ _ _ from And.intro (by omega) (And.intro ?_ ?_)));(focus ((exact all_step hJ (by assumption));done));(focus (exact zsb [] [])))
      | ((refine aw_ret ?_;(repeat (first|refine ret_then ?_|refine ret_block ?_));refine bq1 rfl ⟨?_,rfl⟩);rw [idxP_at hkn hJ (by assumption)];try rfl)
      | trace_state
  · (repeat' (first|(refine ar_isq ?_;refine zq ?_)|refine zst ?_|refine zco ?_ ?_|exact zd|(refine fun (hg:(_:Prop))=>?_;(try replace hg:=HG.out hg);(try dsimp only at hg);(try (have _h:True:=hg;clear _h hg)))))
    all_goals first
      | (exfalso;omega)
      | ((refine aw_ret ?_;(repeat (first|refine ret_then ?_|refine ret_block ?_));refine bq1 rfl ⟨?_,rfl⟩);rw [idxP_none (fun j hj=>hJ j (by omega))];try rfl)
theorem containsP_p (l:List Prt):PCalls Tryz.prog 189 [encPrints l,.fn (.func 190) [] []] (·=vb (l.any spentB)):=by
  refine pcalls_of_aw Tryz.func189 rfl (dc rfl) ?_
  (repeat' (first|(refine ar_isq ?_;refine zq ?_)|(refine zpv fn191 (indexP_p l) ?_)|refine zst ?_|refine zco ?_ ?_|exact zd|(refine fun (hg:(_:Prop))=>?_;(try replace hg:=HG.out hg);(try dsimp only at hg);(try (have _h:True:=hg;clear _h hg)))))
  (refine aw_ret ?_;(repeat (first|refine ret_then ?_|refine ret_block ?_));refine bq1 rfl ⟨?_,rfl⟩)
  rw [← idxP_any]
  rfl
def takenB (s:Sto) (i dest:Int):Prop:=2≤dest∧¬ ∀ k,k<s.items.length→k≠i.toNat→(el s.items k).place≠dest
instance (s:Sto) (i dest:Int):Decidable (takenB s i dest):=by unfold takenB;infer_instance
def moveE (s:Sto) (i dest:Int):Int:=if hereB s i then (if ¬ (0≤dest∧dest≤9)∨(2≤dest∧(el s.items i.toNat).kind≠3) then 2 else if takenB s i dest then 82 else 0) else 6
def place1 (x:Itm) (dest:Int):Itm:={ x with place:=dest }
def moveF (s:Sto) (i dest:Int):Sto:=setS s i.toNat (place1 (el s.items i.toNat) dest)
def moveP (p:List (Int × Int)) (x:Itm) (i dest:Int):List (Int × Int):=if 2≤dest then putE (delE p x.place) dest i else delE p x.place
theorem move_p (s:Sto) (p:List (Int × Int)) (a:Deed) (hV:Valid s) (hP:PressOk s.items p):ACalls Tryz.prog 179 [.ptr 4 0 0 0,a.enc] (stoB 0 s p)
    (fun v H=>moveE s a.item a.dest=0∧v=.tup []∧H=stoB 0 (moveF s a.item a.dest) (moveP p (el s.items a.item.toNat) a.item a.dest)) (fun v _=>moveE s a.item a.dest≠0∧v=errV (moveE s a.item a.dest)):=by
  have hfew:=hV.1
  unfold Few at hfew
  have hn:=hfew.2.1
  have bad:∀ e:Int,moveE s a.item a.dest=e→e≠0→∀ H':Heap,moveE s a.item a.dest≠0∧errV e=errV (moveE s a.item a.dest):=fun e h h0 _=>by rw [h];exact ⟨h0,rfl⟩
  by_cases hh:hereB s a.item
  · have hlt:a.item.toNat<s.items.length:=by unfold hereB at hh;omega
    have h0:=hh.1
    have hpl:=hV.2.2.1 a.item.toNat hlt
    have taken:∀ v,getE p a.dest=some v→¬ v=a.item→takenB s a.item a.dest:=fun v hv hne=>by
      obtain ⟨q1,q2,q3,q4⟩:=(hP.iff _ _).1 hv
      exact ⟨q1,fun h=>h v.toNat (by omega) (by omega) q4⟩
    have free1:∀ v,getE p a.dest=some v→v=a.item→¬ takenB s a.item a.dest:=fun v hv he ht=>by
      obtain ⟨q1,q2,q3,q4⟩:=(hP.iff _ _).1 hv
      subst he
      exact ht.2 fun k hk hne hpk=>(hpl.2.2 (by omega)).2 k hk hne (by omega)
    have free2:getE p a.dest=none→¬ takenB s a.item a.dest:=fun hv ht=>by
      refine ht.2 fun k hk hne hpk=>?_
      have:=(hP.iff a.dest k).2 ⟨ht.1,by omega,by omega,by rw [Int.toNat_natCast];exact hpk⟩
      rw [hv] at this
      cases this
    have e2:¬ (0≤a.dest∧a.dest≤9)∨(2≤a.dest∧(el s.items a.item.toNat).kind≠3)→moveE s a.item a.dest=2:=fun h=>by unfold moveE;rw [if_pos hh,if_pos h]
    have e82:¬ (¬ (0≤a.dest∧a.dest≤9)∨(2≤a.dest∧(el s.items a.item.toNat).kind≠3))→takenB s a.item a.dest→moveE s a.item a.dest=82:=fun h h2=>by unfold moveE;rw [if_pos hh,if_neg h,if_pos h2]
    have e0:¬ (¬ (0≤a.dest∧a.dest≤9)∨(2≤a.dest∧(el s.items a.item.toNat).kind≠3))→¬ takenB s a.item a.dest→moveE s a.item a.dest=0:=fun h h2=>by unfold moveE;rw [if_pos hh,if_neg h,if_neg h2]
    
    refine acalls_of_aw Tryz.func179 rfl (dc rfl) ?_;refine aw_post ?_
    (repeat' (first|(refine ar_isq ?_;refine zq ?_)|(refine ar_item s hn ?_ ?_ rfl rfl rfl rfl rfl rfl (dc rfl) (dc rfl)<;>intro hrf)|(((refine ar_subk_l (sub_frzL (t:=13) vi ([a.dest]) rfl rfl rfl rfl (fun _ _=>rfl) (fun _=>rfl)) ?_);refine zpv fn59 (from_p _ _ [a.dest]) ?_))|refine ar_buildLE vi ([a.dest]) (by exact ty rfl) (by exact rfl) (by exact ty rfl) (by exact rfl) (by exact rfl) (by exact Nat.succ_pos _) (by exact rfl) (by exact dc rfl) (by exact rfl) (by exact fun _=>⟨rfl,rfl⟩) (by exact dc rfl) ?_|(refine ar_refuse ?_ ?_ rfl rfl (dc rfl)<;>intro hrf<;>first|exact absurd hrf (by decide)|(try replace hrf:=HG.out hrf))|(refine ar_lookup (e:=vi) (ty rfl) rfl (ty rfl) rfl (ty rfl) rfl rfl rfl (dc rfl) ?_ ?_<;>intros)|refine ar_delete (e:=vi) rfl (ty rfl) rfl (ty rfl) rfl rfl rfl rfl ?_|refine ar_mapUpdate (e:=vi) (v:=a.item) (ty rfl) rfl (ty rfl) rfl rfl rfl rfl rfl ?_|refine zg ?_ ?_|refine zgu ?_|refine zst ?_|refine aw_drawn (id:=3) [(0,0),(1,0),(2,0),(3,0),(4,0),(5,0),(6,0),(7,0),(8,0),(9,0),(10,0),(11,0)] mixed (by kernel_rfl) ?_|refine aw_drawn (id:=5) [(0,0),(1,0),(2,0),(3,0),(4,0),(5,0),(6,0),(7,0),(8,2)] mixed (by kernel_rfl) ?_|refine aw_drawn (id:=8) [(0,0),(1,0),(2,0),(3,0),(4,0),(5,0),(6,0),(7,0),(8,2)] mixed (by kernel_rfl) ?_|refine zco ?_ ?_|(refine fun (hg:(_:Prop))=>?_;first|exact absurd hg (by decide)|((try replace hg:=HG.out hg);(try dsimp only at hg);(try rw [fromB_one] at hg);(try rw [withinB_iff] at hg);(try rw [withinB_no] at hg);(try (have _h:True:=hg;clear _h hg));first|(exfalso;omega)|skip))))
    all_goals first
      | (exact absurd hh (by assumption))
      | exact bad 2 (e2 (by omega)) (by decide)
      | exact bad 82 (e82 (by omega) (taken _ (by assumption) (by assumption))) (by decide)
      | ((refine subq_n [] [.arr 4 1 (fun _=>stoV 0 (moveF s a.item a.dest)),LB 5 Itm.enc (s.items.set a.item.toNat (place1 (el s.items a.item.toNat) a.dest)),LB 2 Prt.enc s.prints,mapE vi (moveP p (el s.items a.item.toNat) a.item a.dest)] ?_ ?_;(focus ((refine sub_to [some 0,some 1,some 2,some 3] [] rfl ?_ ?_<;>(repeat' (first|exact trivial|refine ⟨⟨_,rfl,?_⟩,?_⟩|refine vs1 ?_ ?_|refine vs2 ?_ ?_|refine vs3 ?_|refine vs4 ?_ ?_|refine ⟨.inl ⟨_,_,rfl,rfl,?_⟩,?_⟩|exact ⟨.inr ⟨rfl,rfl⟩,trivial⟩|refine ⟨.inr ⟨rfl,rfl⟩,?_⟩|(intro _ _)|exact vz1|(first|refine ⟨bsub_set (place1 (el s.items a.item.toNat) a.dest) rfl hlt rfl rfl,?_⟩|refine ⟨bsub_mapE' rfl rfl (by unfold moveP;first|rw [if_pos (by omega)]|rw [if_neg (by omega)]) (fun _=>rfl),?_⟩|exact VSub.aggL ⟨.closed rfl,slEq rfl (by simp [moveF,setS]),.sl rfl,.map rfl,trivial⟩)|exact vz2|fail)));done)))
         refine bq0n ⟨e0 (by omega) ?_,rfl,rfl⟩
         first
         | exact free2 (by assumption)
         | exact free1 _ (by assumption) (by assumption))
      | trace_state
  · 
    refine acalls_of_aw Tryz.func179 rfl (dc rfl) ?_
    (repeat' (first|(refine ar_isq ?_;refine zq ?_)|(refine ar_item s hn ?_ ?_ rfl rfl rfl rfl rfl rfl (dc rfl) (dc rfl)<;>intro hrf<;>(try exact absurd hrf hh))|refine zg ?_ ?_|refine zgu ?_|refine zst ?_|refine aw_drawn (id:=3) [(0,0),(1,0),(2,0),(3,0),(4,0),(5,0),(6,0),(7,0),(8,0),(9,0),(10,0),(11,0)] mixed (by kernel_rfl) ?_|refine aw_drawn (id:=5) [(0,0),(1,0),(2,0),(3,0),(4,0),(5,0),(6,0),(7,0),(8,2)] mixed (by kernel_rfl) ?_|refine aw_drawn (id:=8) [(0,0),(1,0),(2,0),(3,0),(4,0),(5,0),(6,0),(7,0),(8,2)] mixed (by kernel_rfl) ?_|refine zco ?_ ?_|exact zd|(refine fun (hg:(_:Prop))=>?_;(try replace hg:=HG.out hg);(try dsimp only at hg);(try (have _h:True:=hg;clear _h hg)))))
    all_goals exact bad 6 (by unfold moveE;rw [if_neg hh]) (by decide)
def printE (s:Sto) (i n:Int):Int:=if hereB s i then (if (el s.items i.toNat).kind≠3∨(el s.items i.toNat).place<2∨¬ (1≤n∧n≤400) then 2 else if s.life<(el s.items i.toNat).uses+n then 81 else if 400<(s.prints.length:Int)+n then 9 else 0) else 6
def printF (s:Sto) (i n:Int):Sto:={ s with items:=s.items.set i.toNat (used1 (el s.items i.toNat) n),prints:=s.prints++List.replicate n.toNat ⟨i,0⟩ }
theorem print_p (s:Sto) (p:List (Int × Int)) (a:Deed) (hV:Valid s):ACalls Tryz.prog 180 [.ptr 4 0 0 0,a.enc] (stoB 0 s p)
    (fun v H=>printE s a.item a.n=0∧v=.tup []∧H=WP (printF s a.item a.n) p) (fun v _=>printE s a.item a.n≠0∧v=errV (printE s a.item a.n)):=by
  have hfew:=hV.1
  unfold Few at hfew
  have hn:=hfew.2.1
  have bad:∀ e:Int,printE s a.item a.n=e→e≠0→∀ H':Heap,printE s a.item a.n≠0∧errV e=errV (printE s a.item a.n):=fun e h h0 _=>by rw [h];exact ⟨h0,rfl⟩
  by_cases hh:hereB s a.item
  · have hlt:a.item.toNat<s.items.length:=by unfold hereB at hh;omega
    have h0:=hh.1
    have hu:=hV.2.2.2.2 a.item.toNat hlt
    have hul:=usedI_bnd s.items a.item.toNat s.items.length
    have hup:=usedP_bnd s.prints a.item.toNat s.prints.length
    have hu1:=hu.1
    unfold usedS at hu1
    have hrl:(List.replicate a.n.toNat (⟨a.item,0⟩:Prt)).length=a.n.toNat:=by simp
    have e2:(el s.items a.item.toNat).kind≠3∨(el s.items a.item.toNat).place<2∨¬ (1≤a.n∧a.n≤400)→printE s a.item a.n=2:=fun h=>by unfold printE;rw [if_pos hh,if_pos h]
    have e81:¬ ((el s.items a.item.toNat).kind≠3∨(el s.items a.item.toNat).place<2∨¬ (1≤a.n∧a.n≤400))→s.life<(el s.items a.item.toNat).uses+a.n→printE s a.item a.n=81:=fun h h2=>by unfold printE;rw [if_pos hh,if_neg h,if_pos h2]
    have e9:¬ ((el s.items a.item.toNat).kind≠3∨(el s.items a.item.toNat).place<2∨¬ (1≤a.n∧a.n≤400))→¬ s.life<(el s.items a.item.toNat).uses+a.n→400<(s.prints.length:Int)+a.n→printE s a.item a.n=9:=fun h h2 h3=>by unfold printE;rw [if_pos hh,if_neg h,if_neg h2,if_pos h3]
    have e0:¬ ((el s.items a.item.toNat).kind≠3∨(el s.items a.item.toNat).place<2∨¬ (1≤a.n∧a.n≤400))→¬ s.life<(el s.items a.item.toNat).uses+a.n→¬ 400<(s.prints.length:Int)+a.n→printE s a.item a.n=0:=fun h h2 h3=>by unfold printE;rw [if_pos hh,if_neg h,if_neg h2,if_neg h3]
    
    refine acalls_of_aw Tryz.func180 rfl (dc rfl) ?_;refine aw_post ?_
    (repeat' (first|(refine ar_isq ?_;refine zq ?_)|(refine zbt ?_)|(refine ar_item s hn ?_ ?_ rfl rfl rfl rfl rfl rfl (dc rfl) (dc rfl)<;>intro hrf)|(((refine ar_subk_l (sub_frzL (t:=24) vi ([a.n]) rfl rfl rfl rfl (fun _ _=>rfl) (fun _=>rfl)) ?_);refine zpv fn59 (from_p _ _ [a.n]) ?_))|refine ar_buildLE vi ([a.n]) (by exact ty rfl) (by exact rfl) (by exact ty rfl) (by exact rfl) (by exact rfl) (by exact Nat.succ_pos _) (by exact rfl) (by exact dc rfl) (by exact rfl) (by exact fun _=>⟨rfl,rfl⟩) (by exact dc rfl) ?_|(refine ar_refuse ?_ ?_ rfl rfl (dc rfl)<;>intro hrf<;>first|exact absurd hrf (by decide)|((try replace hrf:=HG.out hrf);(try rw [fromB_one] at hrf);(try rw [withinB_iff] at hrf);(try rw [withinB_no] at hrf)))|refine ar_buildLE Prt.enc ([⟨a.item,0⟩]) (by exact ty rfl) (by exact rfl) (by exact ty rfl) (by exact rfl) (by exact rfl) (by exact Nat.succ_pos _) (by exact rfl) (by exact dc rfl) (by exact rfl) (by exact fun _=>⟨rfl,rfl⟩) (by exact dc rfl) ?_|((refine ar_re (t:=74) (v':=vi ((a.n.toNat:Nat):Int)) rfl (congrArg vi (by omega)) ?_;(refine ar_subk_l (sub_frzL (t:=72) Prt.enc ([⟨a.item,0⟩]) rfl rfl rfl rfl (fun _ _=>rfl) (fun _=>rfl)) ?_);refine zpv fn187 (repeatP_p ⟨a.item,0⟩ a.n.toNat (by omega)) ?_))|refine zg ?_ ?_|refine zgu ?_|refine zst ?_|refine aw_drawn (id:=3) [(0,0),(1,0),(2,0),(3,0),(4,0),(5,0),(6,0),(7,0),(8,0),(9,0),(10,0),(11,0),(12,0),(13,2)] mixed (by kernel_rfl) ?_|refine aw_drawn (id:=3) [(0,0),(1,0),(2,0),(3,0),(4,0),(5,0),(6,0),(7,0),(8,0),(9,0),(10,0),(11,0),(12,0),(13,1)] mixed (by kernel_rfl) ?_|refine aw_drawn (id:=4) [(0,0),(1,0),(2,0),(3,0),(4,0),(5,0),(6,0),(7,0),(8,0),(9,0),(10,2)] mixed (by kernel_rfl) ?_|refine aw_drawn (id:=4) [(0,0),(1,0),(2,0),(3,0),(4,0),(5,0),(6,0),(7,0),(8,0),(9,0),(10,1)] mixed (by kernel_rfl) ?_|refine aw_drawn (id:=5) [(0,0),(1,0),(2,0),(3,0),(4,0),(5,0),(6,0),(7,0),(8,0),(9,2)] mixed (by kernel_rfl) ?_|refine aw_drawn (id:=6) [(0,0),(1,0),(2,0),(3,0),(4,0),(5,0),(6,0),(7,0),(8,0),(10,0),(11,0),(9,1),(12,1),(13,1),(14,0),(15,0),(16,0),(17,2)] mixed (by kernel_rfl) ?_|refine zco ?_ ?_|(refine fun (hg:(_:Prop))=>?_;first|exact absurd hg (by decide)|((try replace hg:=HG.out hg);(try dsimp only at hg);(try rw [fromB_one] at hg);(try rw [withinB_iff] at hg);(try rw [withinB_no] at hg);(try (have _h:True:=hg;clear _h hg));first|(exfalso;omega)|skip))))
    all_goals first
      | (exact absurd hh (by assumption))
      | exact bad 2 (e2 (by omega)) (by decide)
      | exact bad 81 (e81 (by omega) (by omega)) (by decide)
      | exact bad 9 (e9 (by omega) (by omega) (by omega)) (by decide)
      | ((refine subq_n [] [.arr 4 1 (fun _=>stoG 1 4 (printF s a.item a.n)),LB 5 Itm.enc (s.items.set a.item.toNat (used1 (el s.items a.item.toNat) a.n)),.dead,mapE vi p,LB 2 Prt.enc (s.prints++List.replicate a.n.toNat ⟨a.item,0⟩)] ?_ ?_;(focus ((refine sub_to [some 0,some 1,some 2,some 3,some 7] [] rfl ?_ ?_<;>(repeat' (first|exact trivial|refine ⟨⟨_,rfl,?_⟩,?_⟩|refine vs1 ?_ ?_|refine vs2 ?_ ?_|refine vs3 ?_|refine vs4 ?_ ?_|refine ⟨.inl ⟨_,_,rfl,rfl,?_⟩,?_⟩|exact ⟨.inr ⟨rfl,rfl⟩,trivial⟩|refine ⟨.inr ⟨rfl,rfl⟩,?_⟩|(intro _ _)|exact vz1|(first|refine ⟨trivial,?_⟩|refine ⟨bsub_set (used1 (el s.items a.item.toNat) a.n) rfl hlt rfl rfl,?_⟩|refine ⟨bsub_app rfl rfl rfl rfl (fun _ _=>rfl) (fun _=>rfl) (fun _ _=>.closed rfl),?_⟩|refine ⟨bsub_mapE rfl rfl (fun _=>rfl),?_⟩|exact VSub.aggL ⟨.closed rfl,slEq rfl (by simp [printF]),slEq rfl (by simp [printF]),.map rfl,trivial⟩)|exact vz2|fail)));done)))
         exact bq0n ⟨e0 (by omega) (by omega) (by omega),rfl,rfl⟩)
      | trace_state
  · 
    refine acalls_of_aw Tryz.func180 rfl (dc rfl) ?_
    (repeat' (first|(refine ar_isq ?_;refine zq ?_)|(refine zbt ?_)|(refine ar_item s hn ?_ ?_ rfl rfl rfl rfl rfl rfl (dc rfl) (dc rfl)<;>intro hrf<;>(try exact absurd hrf hh))|refine zg ?_ ?_|refine zgu ?_|refine zst ?_|refine aw_drawn (id:=3) [(0,0),(1,0),(2,0),(3,0),(4,0),(5,0),(6,0),(7,0),(8,0),(9,0),(10,0),(11,0),(12,0),(13,1)] mixed (by kernel_rfl) ?_|refine aw_drawn (id:=3) [(0,0),(1,0),(2,0),(3,0),(4,0),(5,0),(6,0),(7,0),(8,0),(9,0),(10,0),(11,0),(12,0),(13,2)] mixed (by kernel_rfl) ?_|refine aw_drawn (id:=4) [(0,0),(1,0),(2,0),(3,0),(4,0),(5,0),(6,0),(7,0),(8,0),(9,0),(10,1)] mixed (by kernel_rfl) ?_|refine aw_drawn (id:=4) [(0,0),(1,0),(2,0),(3,0),(4,0),(5,0),(6,0),(7,0),(8,0),(9,0),(10,2)] mixed (by kernel_rfl) ?_|refine aw_drawn (id:=5) [(0,0),(1,0),(2,0),(3,0),(4,0),(5,0),(6,0),(7,0),(8,0),(9,2)] mixed (by kernel_rfl) ?_|refine aw_drawn (id:=6) [(0,0),(1,0),(2,0),(3,0),(4,0),(5,0),(6,0),(7,0),(8,0),(10,0),(11,0),(9,1),(12,1),(13,1),(14,0),(15,0),(16,0),(17,2)] mixed (by kernel_rfl) ?_|refine zco ?_ ?_|exact zd|(refine fun (hg:(_:Prop))=>?_;(try replace hg:=HG.out hg);(try dsimp only at hg);(try (have _h:True:=hg;clear _h hg)))))
    all_goals exact bad 6 (by unfold printE;rw [if_neg hh]) (by decide)
def cutP (s:Sto) (first n:Int):List Prt:=(s.prints.drop first.toNat).take n.toNat
def spendE (s:Sto) (first n:Int):Int:=if 1≤n∧n≤400 then (if 0≤first∧first≤(s.prints.length:Int)-n then (if (cutP s first n).any spentB=true then 83 else 0) else 6) else 2
def stateAt (l:List Prt) (F k:Nat) (st:Int) (j:Nat):Prt:=if F≤j∧j<F+k then ⟨(el l j).plate,st⟩ else el l j
def spendF (s:Sto) (first n st:Int):Sto:={ s with prints:=(List.range s.prints.length).map (stateAt s.prints first.toNat n.toNat st) }
theorem spendF_len (s:Sto) (first n st:Int):(spendF s first n st).prints.length=s.prints.length:=by simp [spendF]
theorem spendF_el {s:Sto}{first n st:Int}{j:Nat}(h:j<s.prints.length):el (spendF s first n st).prints j=stateAt s.prints first.toNat n.toNat st j:=by unfold spendF;rw [el_map_range h]
theorem state_zero (l:List Prt) (F:Nat) (st:Int) (j:Nat):stateAt l F 0 st j=el l j:=by
  unfold stateAt
  rw [if_neg (by omega)]
theorem state_sub {H:Heap}{σ:List (Option Nat)}{fr:Nat→Prop}{l:List Prt}{F k j:Nat}{st:Int}{v:V}(hv:v=Prt.enc ⟨(el l (F+k)).plate,st⟩):VSub H σ fr (upd (fun j=>(stateAt l F k st j).enc) (F+k) v j) ((stateAt l F (k+1) st j).enc):=by
  by_cases e:j=F+k
  · subst e
    rw [upd_same,hv]
    unfold stateAt
    rw [if_pos (by omega)]
    exact .closed rfl
  · rw [upd_other e]
    refine .of_eq ?_ rfl
    unfold stateAt
    by_cases h:F≤j∧j<F+k
    · rw [if_pos h,if_pos (by omega)]
    · rw [if_neg h,if_neg (by omega)]
theorem bsub_len {α:Type}[Inhabited α] {H:Heap}{σ:List (Option Nat)}{fr:Nat→Prop}{k b sz n:Nat}{e:α→V}{L:List α}{f:Nat→V}(h:σ[k]?=some (some b)) (hb:H[b]?=some (.arr sz n f)) (hn:L.length=n) (hf:∀ i,i<n→f i=e (el L i)) (hc:∀ y,(e y).closed=true):BSub H σ fr k (LB sz e L):=by
  refine .inl ⟨b,f,h,by rw [hb,hn],fun i hi=>.of_eq (hf i (by omega)) (hc _)⟩
theorem spend_p (s:Sto) (p:List (Int × Int)) (a:Deed) (st:Int) (hV:Valid s):ACalls Tryz.prog 188 [.ptr 4 0 0 0,a.enc,vu8 st] (stoB 0 s p)
    (fun v H=>spendE s a.item a.n=0∧v=.tup []∧H=stoB 0 (spendF s a.item a.n st) p) (fun v _=>spendE s a.item a.n≠0∧v=errV (spendE s a.item a.n)):=by
  have hfew:=hV.1
  unfold Few at hfew
  have bad:∀ e:Int,spendE s a.item a.n=e→e≠0→∀ H':Heap,spendE s a.item a.n≠0∧errV e=errV (spendE s a.item a.n):=fun e h h0 _=>by rw [h];exact ⟨h0,rfl⟩
  have e2:¬ (1≤a.n∧a.n≤400)→spendE s a.item a.n=2:=fun h=>by unfold spendE;rw [if_neg h]
  have e6:(1≤a.n∧a.n≤400)→¬ (0≤a.item∧a.item≤(s.prints.length:Int)-a.n)→spendE s a.item a.n=6:=fun h h2=>by unfold spendE;rw [if_pos h,if_neg h2]
  have e83:(1≤a.n∧a.n≤400)→(0≤a.item∧a.item≤(s.prints.length:Int)-a.n)→(cutP s a.item a.n).any spentB=true→spendE s a.item a.n=83:=fun h h2 h3=>by unfold spendE;rw [if_pos h,if_pos h2,if_pos h3]
  have e0:(1≤a.n∧a.n≤400)→(0≤a.item∧a.item≤(s.prints.length:Int)-a.n)→(cutP s a.item a.n).any spentB=false→spendE s a.item a.n=0:=fun h h2 h3=>by unfold spendE;rw [if_pos h,if_pos h2,if_neg (by rw [h3];decide)]
  have hcl:(1≤a.n∧a.n≤400)→(0≤a.item∧a.item≤(s.prints.length:Int)-a.n)→(cutP s a.item a.n).length=a.n.toNat:=fun h h2=>by unfold cutP;rw [List.length_take,List.length_drop];omega
  have hce:∀ k,k<a.n.toNat→el (cutP s a.item a.n) k=el s.prints (a.item.toNat+k):=fun k hk=>by unfold cutP;rw [el_take hk,el_drop]
  
  refine acalls_of_aw Tryz.func188 rfl (dc rfl) ?_;refine aw_post ?_
  (repeat' (first|(refine ar_isq ?_;refine zq ?_)|(((refine ar_subk_l (sub_frzL (t:=10) vi ([a.n]) rfl rfl rfl rfl (fun _ _=>rfl) (fun _=>rfl)) ?_);refine zpv fn59 (from_p _ _ [a.n]) ?_))|refine ar_buildLE vi ([a.n]) (by exact ty rfl) (by exact rfl) (by exact ty rfl) (by exact rfl) (by exact rfl) (by exact Nat.succ_pos _) (by exact rfl) (by exact dc rfl) (by exact rfl) (by exact fun _=>⟨rfl,rfl⟩) (by exact dc rfl) ?_|(refine ar_refuse ?_ ?_ rfl rfl (dc rfl)<;>intro hrf<;>first|exact absurd hrf (by decide)|((try replace hrf:=HG.out hrf);(try rw [fromB_one] at hrf);(try rw [withinB_iff] at hrf);(try rw [withinB_no] at hrf)))|((refine ar_re (t:=43) (v':=.sl 2 2 a.item.toNat (cutP s a.item a.n).length) rfl (by rw [hcl (by omega) (by omega)];simp;try omega) ?_;refine ar_pcall (own:=true) fn189 rfl rfl (.cons (.lent rfl rfl (by rw [hcl (by omega) (by omega)];omega) (fun _ _=>rfl) (fun k hk=>congrArg Prt.enc (hce k (by rw [← hcl (by omega) (by omega)];exact hk)))) (.cons (.closed rfl) .nil)) (containsP_p (cutP s a.item a.n)) (by intros;subst_vars;rfl) (dc rfl) ?_;intro _ hv;subst hv))|refine zcl (a:=a.item.toNat) (b:=s.prints.length) ?_|refine zcs (a:=a.item.toNat) (b:=s.prints.length) ?_|refine zcl (a:=0) (b:=a.n.toNat) ?_|refine zcs (a:=0) (b:=a.n.toNat) ?_|refine zg ?_ ?_|refine zgu ?_|refine zst ?_|refine aw_drawn (id:=2) [(0,0),(1,0),(2,0),(3,0),(4,0),(5,0),(6,0),(7,0),(8,0),(9,0),(10,0),(11,0),(12,0),(13,0),(14,0),(15,0),(16,0),(17,2)] mixed (by kernel_rfl) ?_|refine aw_drawn (id:=2) [(0,0),(1,0),(2,0),(3,0),(4,0),(5,0),(6,0),(7,0),(8,0),(9,0),(10,0),(11,0),(12,0),(13,0),(14,0),(15,0),(16,0),(17,1)] mixed (by kernel_rfl) ?_|refine aw_drawn (id:=3) [(0,0),(1,0),(2,0),(3,0),(4,0),(5,0),(6,0),(7,0),(8,0),(9,0),(10,0),(11,0)] mixed (by kernel_rfl) ?_|refine zco ?_ ?_|(refine fun (hg:(_:Prop))=>?_;first|exact absurd hg (by decide)|((try replace hg:=HG.out hg);(try dsimp only at hg);(try rw [fromB_one] at hg);(try rw [withinB_iff] at hg);(try rw [withinB_no] at hg);(try (have _h:True:=hg;clear _h hg));first|(exfalso;omega)|skip))))
  all_goals first
    | exact bad 2 (e2 (by omega)) (by decide)
    | exact bad 6 (e6 (by omega) (by omega)) (by decide)
    | exact bad 83 (e83 (by omega) (by omega) (by assumption)) (by decide)
    | skip
  rename_i hr1 hr2 hr3 hr4
  refine aw_for a.n.toNat (fun _=>True) (fun k=>[(0,.ptr 4 0 0 0),(2,vu8 st),(6,.sl 2 2 (0+a.item.toNat+0) (a.n.toNat-0)),(47,vi ((a.n.toNat-0:Nat):Int)),(48,vi k)]) (fun k=>[.arr 4 1 (fun _=>stoV 0 s),LB 5 Itm.enc s.items,.arr 2 s.prints.length (fun j=>(stateAt s.prints (0+a.item.toNat+0) k st j).enc),mapE vi p]) trivial ?_ ?_
  · (refine sub_to [some 0,some 1,some 2,some 3] [] rfl ?_ ?_<;>(repeat' (first|exact trivial|refine ⟨⟨_,rfl,?_⟩,?_⟩|refine vs1 ?_ ?_|refine vs2 ?_ ?_|refine vs3 ?_|refine vs4 ?_ ?_|refine ⟨.inl ⟨_,_,rfl,rfl,?_⟩,?_⟩|exact ⟨.inr ⟨rfl,rfl⟩,trivial⟩|refine ⟨.inr ⟨rfl,rfl⟩,?_⟩|(intro _ _)|exact vz1|(first|exact VSub.of_eq (congrArg Prt.enc (state_zero _ _ _ _).symm) rfl|refine ⟨bsub_mapE rfl rfl (fun _=>rfl),?_⟩|exact VSub.aggL ⟨.closed rfl,.sl rfl,.sl rfl,.map rfl,trivial⟩)|exact vz2|fail)))
  intro k hk _
  by_cases hlt:k<a.n.toNat
  · 
    (repeat' (first|(refine ar_isq ?_;refine zq ?_)|refine zil (j:=k) ?_|refine zis (j:=k) ?_|refine zit (j:=k) ?_|refine zcl ?_|refine zcs ?_|refine zg ?_ ?_|refine zgu ?_|refine zst ?_|refine aw_drawn (id:=2) [(0,0),(1,0),(2,0),(3,0),(4,0),(5,0),(6,0),(7,0),(8,0),(9,0),(10,0),(11,0),(12,0),(13,0),(14,0),(15,0),(16,0),(17,2)] mixed (by kernel_rfl) ?_|refine aw_drawn (id:=2) [(0,0),(1,0),(2,0),(3,0),(4,0),(5,0),(6,0),(7,0),(8,0),(9,0),(10,0),(11,0),(12,0),(13,0),(14,0),(15,0),(16,0),(17,1)] mixed (by kernel_rfl) ?_|refine aw_drawn (id:=3) [(0,0),(1,0),(2,0),(3,0),(4,0),(5,0),(6,0),(7,0),(8,0),(9,0),(10,0),(11,0)] mixed (by kernel_rfl) ?_|refine zco ?_ ?_|exact zd|(refine fun (hg:(_:Prop))=>?_;(try replace hg:=HG.out hg);(try dsimp only at hg);(try (have _h:True:=hg;clear _h hg)))))
    all_goals first
      | (exfalso;omega)
      | ((first|refine loop_next (by omega) ?_ ?_|refine (show _∧_∧SubOf _ _ _ _ _ _ from And.intro (by omega) (And.intro ?_ ?_)));(focus ((trivial);done));(focus ((refine sub_to [some 0,some 1,some 2,some 3] [] rfl ?_ ?_<;>(repeat' (first|exact trivial|refine ⟨⟨_,rfl,?_⟩,?_⟩|refine vs1 ?_ ?_|refine vs2 ?_ ?_|refine vs3 ?_|refine vs4 ?_ ?_|refine ⟨.inl ⟨_,_,rfl,rfl,?_⟩,?_⟩|exact ⟨.inr ⟨rfl,rfl⟩,trivial⟩|refine ⟨.inr ⟨rfl,rfl⟩,?_⟩|(intro _ _)|exact vz1|(first|exact state_sub (by unfold stateAt;rw [if_neg (by omega)];rfl)|refine ⟨bsub_mapE rfl rfl (fun _=>rfl),?_⟩|exact VSub.aggL ⟨.closed rfl,.sl rfl,.sl rfl,.map rfl,trivial⟩)|exact vz2|fail)));done)))
      | trace_state
  · obtain rfl:k=a.n.toNat:=by omega
    (repeat' (first|(refine ar_isq ?_;refine zq ?_)|refine zcl ?_|refine zcs ?_|refine zg ?_ ?_|refine zgu ?_|refine zst ?_|refine aw_drawn (id:=2) [(0,0),(1,0),(2,0),(3,0),(4,0),(5,0),(6,0),(7,0),(8,0),(9,0),(10,0),(11,0),(12,0),(13,0),(14,0),(15,0),(16,0),(17,2)] mixed (by kernel_rfl) ?_|refine aw_drawn (id:=2) [(0,0),(1,0),(2,0),(3,0),(4,0),(5,0),(6,0),(7,0),(8,0),(9,0),(10,0),(11,0),(12,0),(13,0),(14,0),(15,0),(16,0),(17,1)] mixed (by kernel_rfl) ?_|refine aw_drawn (id:=3) [(0,0),(1,0),(2,0),(3,0),(4,0),(5,0),(6,0),(7,0),(8,0),(9,0),(10,0),(11,0)] mixed (by kernel_rfl) ?_|refine zco ?_ ?_|exact zd|(refine fun (hg:(_:Prop))=>?_;(try replace hg:=HG.out hg);(try dsimp only at hg);(try (have _h:True:=hg;clear _h hg)))))
    all_goals first
      | (exfalso;omega)
      | ((refine subq_n [] [.arr 4 1 (fun _=>stoV 0 (spendF s a.item a.n st)),LB 5 Itm.enc s.items,LB 2 Prt.enc (spendF s a.item a.n st).prints,mapE vi p] ?_ ?_;(focus ((refine sub_to [some 0,some 1,some 2,some 3] [] rfl ?_ ?_<;>(repeat' (first|exact trivial|refine ⟨⟨_,rfl,?_⟩,?_⟩|refine vs1 ?_ ?_|refine vs2 ?_ ?_|refine vs3 ?_|refine vs4 ?_ ?_|refine ⟨.inl ⟨_,_,rfl,rfl,?_⟩,?_⟩|exact ⟨.inr ⟨rfl,rfl⟩,trivial⟩|refine ⟨.inr ⟨rfl,rfl⟩,?_⟩|(intro _ _)|exact vz1|(first|refine ⟨bsub_len rfl rfl (spendF_len _ _ _ _) (fun j hj=>by rw [spendF_el hj,Nat.zero_add,Nat.add_zero]) (fun _=>rfl),?_⟩|refine ⟨bsub_mapE rfl rfl (fun _=>rfl),?_⟩|exact VSub.aggL ⟨.closed rfl,.sl rfl,slEq rfl (spendF_len _ _ _ _).symm,.map rfl,trivial⟩)|exact vz2|fail)));done)))
         exact bq0n ⟨e0 (by omega) (by omega) (by assumption),rfl,rfl⟩)
      | trace_state
section
variable {r:Option Nat}{m nt i d:Nat}{Q:Post}{env:Env}{H:Heap}{ops:Array Oper}{L:List Stp}{ty:TypeId}{pos:String}{after:Array Edge}{ats:Array TypeId}{x y z:Operand}{p:List (Int × Int)}
theorem ar_spend (s:Sto) (a:Deed) (st:Int) (hV:Valid s) (h1:spendE s a.item a.n=0→AR Tryz.prog r m nt ops Q L ((d,.tup [])::env) ((H.set 0 (.arr 4 1 (fun _=>stoV 0 (spendF s a.item a.n st)))).set 2 (LB 2 Prt.enc (spendF s a.item a.n st).prints))) (h2:spendE s a.item a.n≠0→∀ H',Q (.panic (errV (spendE s a.item a.n))) [] H') (hx:eo env x=some (.ptr 4 0 0 0)) (hy:eo env y=some a.enc) (hz:eo env z=some (vu8 st))
    (b0:H[0]?=some (.arr 4 1 (fun _=>stoV 0 s))) (b1:H[1]?=some (LB 5 Itm.enc s.items)) (b2:H[2]?=some (LB 2 Prt.enc s.prints)) (b3:H[3]?=some (mapE vi p)) (hl:4≤H.length) (hd:d<nt) :
    AR Tryz.prog r m nt ops Q (.l i ⟨some d,.call ⟨.value (.func 188),#[x,y,z],ats⟩,ty,pos,after,none⟩ false::L) env H:=by
  refine ar_gcall (H0:=stoB 0 s p) [0,1,2,3] [] (args:=[x,y,z]) (vs:=[.ptr 4 0 0 0,a.enc,vu8 st]) (first:=[]) (cap:=[]) fn188 rfl (by rw [List.mapM_cons,List.mapM_cons,List.mapM_cons,List.mapM_nil,hx,hy,hz];rfl) (xs:=[.ptr 4 0 0 0,a.enc,vu8 st]) ⟨.ptr rfl,.closed rfl,.closed rfl,trivial⟩ rfl (by decide) (fun _ h=>by cases h) (hsub4 b0 b1 b2 b3) stoB_live (spend_p s p a st hV) hd ?_ ?_
  · rintro _ _ ⟨hh,rfl,rfl⟩
    rw [show stoB 0 (spendF s a.item a.n st) p=[.arr 4 1 (fun _=>stoV 0 (spendF s a.item a.n st)),LB 5 Itm.enc s.items,LB 2 Prt.enc (spendF s a.item a.n st).prints,mapE vi p] from rfl,join4 hl,mapE_ren]
    have e1:(H.set 0 ((Blk.arr 4 1 (fun _=>stoV 0 (spendF s a.item a.n st))).ren (rn [0,1,2,3] H.length))).set 1 ((LB 5 Itm.enc s.items).ren (rn [0,1,2,3] H.length))=H.set 0 (.arr 4 1 (fun _=>stoV 0 (spendF s a.item a.n st))):=set_same (by rw [List.getElem?_set_ne (by decide)];exact b1)
    rw [e1,set_same (by rw [List.getElem?_set_ne (by decide),List.getElem?_set_ne (by decide)];exact b3),List.map_nil,List.append_nil]
    exact h1 hh
  · rintro _ _ ⟨hh,rfl⟩
    exact h2 hh _
end
theorem issue_p (s:Sto) (p:List (Int × Int)) (a:Deed) (hV:Valid s):ACalls Tryz.prog 181 [.ptr 4 0 0 0,a.enc] (stoB 0 s p)
    (fun v H=>spendE s a.item a.n=0∧v=.tup []∧H=stoB 0 (spendF s a.item a.n 1) p) (fun v _=>spendE s a.item a.n≠0∧v=errV (spendE s a.item a.n)):=by
  refine acalls_of_aw Tryz.func181 rfl (dc rfl) ?_;refine aw_post ?_
  (repeat' (first|(refine ar_isq ?_;refine zq ?_)|(refine ar_spend s a 1 hV ?_ ?_ rfl rfl rfl rfl rfl rfl rfl (dc rfl) (dc rfl)<;>intro hrf)|refine zst ?_|refine zco ?_ ?_|exact zd|(refine fun (hg:(_:Prop))=>?_;(try replace hg:=HG.out hg);(try dsimp only at hg);(try (have _h:True:=hg;clear _h hg)))))
  · (refine subq_n [] [.arr 4 1 (fun _=>stoV 0 (spendF s a.item a.n 1)),LB 5 Itm.enc s.items,LB 2 Prt.enc (spendF s a.item a.n 1).prints,mapE vi p] ?_ ?_;(focus (exact zsc [some 0,some 1,some 2,some 3] [])))
    exact bq0n ⟨hrf,rfl,rfl⟩
  · intro H';exact (⟨hrf,rfl⟩:spendE s a.item a.n≠0∧errV (spendE s a.item a.n)=errV (spendE s a.item a.n))
theorem spoil_p (s:Sto) (p:List (Int × Int)) (a:Deed) (hV:Valid s):ACalls Tryz.prog 182 [.ptr 4 0 0 0,a.enc] (stoB 0 s p)
    (fun v H=>spendE s a.item a.n=0∧v=.tup []∧H=stoB 0 (spendF s a.item a.n 2) p) (fun v _=>spendE s a.item a.n≠0∧v=errV (spendE s a.item a.n)):=by
  refine acalls_of_aw Tryz.func182 rfl (dc rfl) ?_;refine aw_post ?_
  (repeat' (first|(refine ar_isq ?_;refine zq ?_)|(refine ar_spend s a 2 hV ?_ ?_ rfl rfl rfl rfl rfl rfl rfl (dc rfl) (dc rfl)<;>intro hrf)|refine zst ?_|refine zco ?_ ?_|exact zd|(refine fun (hg:(_:Prop))=>?_;(try replace hg:=HG.out hg);(try dsimp only at hg);(try (have _h:True:=hg;clear _h hg)))))
  · (refine subq_n [] [.arr 4 1 (fun _=>stoV 0 (spendF s a.item a.n 2)),LB 5 Itm.enc s.items,LB 2 Prt.enc (spendF s a.item a.n 2).prints,mapE vi p] ?_ ?_;(focus (exact zsc [some 0,some 1,some 2,some 3] [])))
    exact bq0n ⟨hrf,rfl,rfl⟩
  · intro H';exact (⟨hrf,rfl⟩:spendE s a.item a.n≠0∧errV (spendE s a.item a.n)=errV (spendE s a.item a.n))
end Go.Proofs.YtbilpbabdgfblaaGreat
