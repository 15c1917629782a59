/- Parts of the proof: contracts of functions. No condition. -/
import Derived.Test.YtbilpbabdgfblaaGreatKLi19
set_option maxHeartbeats 16000000
set_option linter.unusedSimpArgs false
set_option linter.unusedVariables false
namespace Go.Proofs.YtbilpbabdgfblaaGreat
open Go.RowKit
theorem appF_elH {α:Type}[Inhabited α] {e:α→V}{l l':List α}{n:Nat}(hn:n=l.length) {f g:Nat→V}(hf:∀ i,i<n→f i=e (el l i)) (hg:∀ i,i<l'.length→g i=e (el l' i)) {k:Nat}(hk:k<n+l'.length):e (el (l++l') k)=appF n f g k:=by
  subst hn
  by_cases h:k<l.length
  · rw [appF_lt h,hf k h,el_app_lt h]
  · rw [appF_ge (by omega),hg _ (by omega)]
    congr 1
    simp [el,List.getElem?_append_right (show l.length≤k by omega)]
def noAct:Deed:=⟨0,0,0,0⟩
def noSheet:Sheet:=⟨0,0,0,0,0⟩
def noteSheet:Sheet:=⟨2,8,1,1,1⟩
def noteBand:List (List Int):=[[0,1],[4,4]]
def noteJob:Job:=⟨1,1,0,0,0,0,noAct,noteSheet,noteBand⟩
def actJob (k i d:Int):Job:=⟨5,0,0,0,0,0,⟨k,i,d,0⟩,noSheet,[]⟩
def exLicn:Job:=⟨2,2,0,0,5,9,noAct,noSheet,[]⟩
def exTake:Job:=⟨3,2,0,0,3,0,noAct,noSheet,[]⟩
def exEngv:Job:=⟨4,0,0,0,0,0,noAct,noSheet,[]⟩
def exPrnt:Job:=⟨6,0,0,0,0,0,⟨0,2,0,3⟩,noSheet,[]⟩
def exGive:Job:=⟨7,0,0,0,0,0,noAct,noSheet,[]⟩
def exJobs:List Job:=[noteJob,exLicn,exTake,exEngv,actJob 3 0 1,actJob 2 0 0,actJob 2 1 0,actJob 3 2 2,exPrnt]
def exImage:List Bool:=[false,true,true,false,false,false,false,false,true,true,false,false,false,false,false,false]
def exDsn:Dsn:=⟨1,noteSheet,noteBand⟩
def exStore:List Prt→Sto:=fun p=>⟨1000,[⟨1,-1,1,1,false⟩,⟨2,0,1,1,false⟩,⟨3,1,2,3,false⟩],p⟩
def exHse2:Hse:=⟨100,0,exStore [⟨2,1⟩,⟨2,1⟩,⟨2,1⟩],[exDsn],[⟨0,2,9,2⟩],[⟨2,0,3,true⟩],[0,0,0],[0,0,0]⟩
def bookE:List Job:=exJobs++[exGive]
theorem exErrsE:∀ j,j<10→hErrAt 100 1000 bookE j=0:=by decide +kernel
theorem exHse2_eq:hAt 100 1000 bookE 10=exHse2:=by kernel_rfl
theorem ex_life:(1≤(100:Int)∧(100:Int)≤1000)∧(1≤(1000:Int)∧(1000:Int)≤1000):=by decide
theorem exXE:hplayX 100 1000 bookE=(0,0):=hplayX_ok (by decide) ex_life exErrsE
theorem exFE:hplayF 100 1000 bookE=exHse2:=(hplayF_ok (by rw [exXE])).trans exHse2_eq
theorem exValid2:HValid exHse2:=by rw [← exHse2_eq];exact hAt_ok (hvalid0.2 ex_life) exErrsE
theorem exSmall2:HSmall exHse2:=hsmall_of exValid2
theorem exSt2:StOk exHse2.store:=by
  intro j hj
  match j,hj with
  | 0,_|1,_|2,_=>decide
theorem jobs_u8d {bk:List Job}(h:(bk.all fun j=>decide (0≤j.kind)&&(decide (j.kind≤255)&&(decide (0≤j.act.kind)&&decide (j.act.kind≤255))))=true):∀ j,j<bk.length→u8ok (el bk j).kind∧u8ok (el bk j).act.kind:=fun j hj=>by
  have:=List.all_eq_true.1 h _ (el_mem hj)
  simp only [Bool.and_eq_true,decide_eq_true_eq] at this
  exact ⟨⟨this.1,this.2.1⟩,this.2.2.1,this.2.2.2⟩
theorem exPlayE_p:PCalls Tryz.prog 14 [vi 100,vi 1000,encJobs bookE] (·=.tup [exHse2.enc,vi 0,vi 0]):=(hPlay_p 100 1000 bookE (jobs_u8d (by decide))).mono fun v h=>by rw [h,exFE,exXE]
theorem exReport_p:PCalls Tryz.prog 25 [exHse2.enc,vi 0] (·=.tup [vi 3,vi 0,vi 0,vi 0]):=(hReport_p exHse2 0 exSmall2 exSt2).mono fun v h=>by
  rw [h,repV_ok (repE_ok exValid2 (by decide)),show doneF exHse2 0 0=0 by decide +kernel,show doneF exHse2 0 1=3 by decide +kernel,show doneF exHse2 0 2=0 by decide +kernel,show (ordAt exHse2 0).need=3 from rfl]
  rfl
def exOrg:Org:=⟨0,2,0,[0,1,2],0⟩
theorem exAsk:askE exHse2 1=0:=askE_ok exValid2 (by decide)
theorem exOrg_eq:orgF exHse2 1=exOrg:=by
  have he:=lineE_ok (i:=2) exValid2.store (by decide)
  unfold orgF
  rw [show (el exHse2.store.prints (Int.toNat 1)).plate=2 from rfl,lineF_ok he,show lineTo exHse2.store.items 2 (lineN exHse2.store.items 2)=[0,1,2] by decide +kernel]
  rfl
theorem exTrace_p:PCalls Tryz.prog 27 [exHse2.enc,vi 1] (·=.tup [exOrg.enc,vi 0]):=(hTrace_p exHse2 1 exSmall2 exSt2).mono fun v h=>by
  rw [h,exAsk]
  unfold traceF
  rw [if_pos exAsk,exOrg_eq]
theorem exImage_eq:dproofF (dsnAt exHse2 (ordAt exHse2 (forAt exHse2 1)).design) (growF exHse2 (Int.toNat 1))=exImage:=by kernel_rfl
theorem exImage_p:PCalls Tryz.prog 26 [exHse2.enc,vi 1] (·=.tup [encBools exImage,vi 0]):=(hImage_p exHse2 1 exSmall2 exSt2).mono fun v h=>by
  rw [h,exAsk]
  unfold imageF
  rw [if_pos exAsk,exImage_eq]
def exFnd:Fnd:=⟨0,0,0⟩
theorem exFnd_eq:fndD exHse2 exImage 0 exHse2.designs.length=[exFnd]:=by kernel_rfl
theorem exExpert_p:PCalls Tryz.prog 29 [exHse2.enc,encBools exImage,vi 0] (·=.tup [encFnds [exFnd],vi 0]):=(hExpert_p exHse2 exImage 0 exSmall2 exSt2).mono fun v h=>by
  have he:expE exHse2 exImage 0=0:=expE_ok exValid2 (by decide) (by rw [exFnd_eq];decide)
  rw [h,expF_ok he,he,exFnd_eq]
def bookN:List Job:=[noteJob,exTake]
theorem exXN:hplayX 100 1000 bookN=(1,102):=(hplayX_bad (k:=1) (by decide) ex_life (by decide +kernel) (by decide) (by decide +kernel)).trans (by decide +kernel)
theorem exPlayN_p:PCalls Tryz.prog 14 [vi 100,vi 1000,encJobs bookN] (·=.tup [noHse.enc,vi 1,vi 102]):=(hPlay_p 100 1000 bookN (jobs_u8d (by decide))).mono fun v h=>by rw [h,hplayF_bad (by rw [exXN];decide),exXN]
theorem hnote_p:PCalls Tryz.prog 35 [] (·=noteJob.enc):=by
  refine pcalls_of_aw Tryz.func35 rfl (dc rfl) ?_
  (repeat' (first|(refine zbt ?_)|refine ar_buildLE vi ([0,1]) (by exact ty rfl) (by exact rfl) (by exact ty rfl) (by exact rfl) (by exact rfl) (by exact Nat.succ_pos _) (by exact rfl) (by exact dc rfl) (by exact rfl) (by exact fun _=>⟨rfl,rfl⟩) (by exact dc rfl) ?_|(((refine ar_subk_l (sub_frzL (t:=2) vi ([0,1]) rfl rfl rfl rfl (fun _ _=>rfl) (fun _=>rfl)) ?_);refine ar_buildLE vi ([4,4]) (by exact ty rfl) (by exact rfl) (by exact ty rfl) (by exact rfl) (by exact rfl) (by exact Nat.succ_pos _) (by exact rfl) (by exact dc rfl) (by exact rfl) (by exact fun _=>⟨rfl,rfl⟩) (by exact dc rfl) ?_))|(((refine ar_subk_l (sub_frzL (t:=3) vi ([4,4]) rfl rfl rfl rfl (fun _ _=>rfl) (fun _=>rfl)) ?_);refine ar_buildLE encInts (noteBand) (by exact ty rfl) (by exact rfl) (by exact ty rfl) (by exact rfl) (by exact rfl) (by exact Nat.succ_pos _) (by exact rfl) (by exact dc rfl) (by exact rfl) (by exact fun _=>⟨rfl,rfl⟩) (by exact dc rfl) ?_))|refine zst ?_|refine zco ?_ ?_|exact zd|(refine fun (hg:(_:Prop))=>?_;(try replace hg:=HG.out hg);(try dsimp only at hg);(try (have _h:True:=hg;clear _h hg)))))
  (refine aw_mono_r (env':=[(0,.ptr 16 0 0 0)]) (H':=[.arr 16 1 (fun _=>noteJob.enc)]) ?_ ?_;(focus (exact zsc [some 0] [3])))
  refine aw_ret ?_
  (repeat (first|refine ret_then ?_|refine ret_block ?_))
  exact bq1c (f:=fun _=>noteJob.enc) (v:=noteJob.enc) (ty rfl) rfl rfl Nat.one_pos rfl ⟨rfl,rfl⟩
theorem hactj_p (k i d:Int):PCalls Tryz.prog 63 [vu8 k,vi i,vi d] (·=(actJob k i d).enc):=by
  refine pcalls_of_aw Tryz.func63 rfl (dc rfl) ?_
  (repeat' (first|(refine ar_isq ?_;refine zq ?_)|(refine zbt ?_)|refine zst ?_|refine zco ?_ ?_|exact zd|(refine fun (hg:(_:Prop))=>?_;(try replace hg:=HG.out hg);(try dsimp only at hg);(try (have _h:True:=hg;clear _h hg)))))
  first
    | ((refine aw_mono_r (env':=[(6,.ptr 16 0 0 0)]) (H':=[.arr 16 1 (fun _=>(actJob k i d).enc)]) ?_ ?_;(focus (exact zsc [some 0] [])))
       refine aw_ret ?_
       (repeat (first|refine ret_then ?_|refine ret_block ?_))
       exact bq1c (f:=fun _=>(actJob k i d).enc) (v:=(actJob k i d).enc) (ty rfl) rfl rfl Nat.one_pos rfl ⟨rfl,rfl⟩)
    | trace_state
theorem exImage_at:∀ k,k<16→upd (upd (upd (upd (fun _=>vb false) 1 (vb true)) 2 (vb true)) 8 (vb true)) 9 (vb true) k=vb (el exImage k)
  | 0,_|1,_|2,_|3,_|4,_|5,_|6,_|7,_|8,_|9,_|10,_|11,_|12,_|13,_|14,_|15,_=>rfl
  | k+16,h=>absurd h (by omega)
theorem himage_p:PCalls Tryz.prog 34 [] (·=encBools exImage):=by
  refine pcalls_of_aw Tryz.func34 rfl (dc rfl) ?_
  (repeat' (first|(refine ar_isq ?_;refine zq ?_)|refine zil (j:=1) ?_|refine zis (j:=1) ?_|refine zit (j:=1) ?_|refine zil (j:=2) ?_|refine zis (j:=2) ?_|refine zit (j:=2) ?_|refine zil (j:=8) ?_|refine zis (j:=8) ?_|refine zit (j:=8) ?_|refine zil (j:=9) ?_|refine zis (j:=9) ?_|refine zit (j:=9) ?_|(refine ar_make_v (n:=16) (ty rfl) rfl (ty rfl) rfl rfl (by omega) (by omega) (dc rfl) rfl rfl (by dsimp only;omega) (maxLen_ok (by omega)) ?_)|refine zst ?_|refine zco ?_ ?_|exact zd|(refine fun (hg:(_:Prop))=>?_;(try replace hg:=HG.out hg);(try dsimp only at hg);(try (have _h:True:=hg;clear _h hg)))))
  first
    | ((refine aw_mono_r (env':=[(0,encBools exImage)]) (H':=[]) ?_ ?_;(focus ((refine sub_to [] [0] rfl ?_ ?_<;>(repeat' (first|exact trivial|refine ⟨⟨_,rfl,?_⟩,?_⟩|refine vs1 ?_ ?_|refine vs2 ?_ ?_|refine vs3 ?_|refine vs4 ?_ ?_|refine ⟨.inl ⟨_,_,rfl,rfl,?_⟩,?_⟩|exact ⟨.inr ⟨rfl,rfl⟩,trivial⟩|refine ⟨.inr ⟨rfl,rfl⟩,?_⟩|(intro _ _)|exact vz1|(exact frz_as (l:=exImage) (by simp;done) rfl rfl rfl exImage_at (fun _=>rfl))|exact vz2|fail)));done)))
       (refine aw_ret ?_;(repeat (first|refine ret_then ?_|refine ret_block ?_));refine bq1 rfl ⟨?_,rfl⟩)
       rfl)
    | trace_state
theorem hbookF_p:FCalls Tryz.prog 33 [] 16 (fun n f=>n=9∧f=fun j=>Job.enc (el exJobs j)):=by
  refine fcalls_of_aw Tryz.func33 rfl (dc rfl) ?_
  (repeat' (first|(refine ar_isq ?_;refine zq ?_)|(refine zbt ?_)|(refine zpv fn35 (hnote_p) ?_)|(refine zpv fn63 (hactj_p _ _ _) ?_)|(((refine ar_subk_l (sub_nilC (t:=2) (exLicn.enc) rfl rfl (by repeat' (first|exact trivial|refine ⟨.inl rfl,?_⟩|refine ⟨.inr ⟨rfl,_,_,rfl⟩,?_⟩))) ?_);(refine ar_subk_l (sub_nilC (t:=3) (exTake.enc) rfl rfl (by repeat' (first|exact trivial|refine ⟨.inl rfl,?_⟩|refine ⟨.inr ⟨rfl,_,_,rfl⟩,?_⟩))) ?_);(refine ar_subk_l (sub_nilC (t:=4) (exEngv.enc) rfl rfl (by repeat' (first|exact trivial|refine ⟨.inl rfl,?_⟩|refine ⟨.inr ⟨rfl,_,_,rfl⟩,?_⟩))) ?_);(refine ar_subk_l (sub_nilC (t:=10) (exPrnt.enc) rfl rfl (by repeat' (first|exact trivial|refine ⟨.inl rfl,?_⟩|refine ⟨.inr ⟨rfl,_,_,rfl⟩,?_⟩))) ?_);refine ar_buildLE Job.enc (exJobs) (by exact ty rfl) (by exact rfl) (by exact ty rfl) (by exact rfl) (by exact rfl) (by exact Nat.succ_pos _) (by exact rfl) (by exact dc rfl) (by exact rfl) (by exact fun _=>⟨rfl,rfl⟩) (by exact dc rfl) ?_))|refine zst ?_|refine zco ?_ ?_|exact zd|(refine fun (hg:(_:Prop))=>?_;(try replace hg:=HG.out hg);(try dsimp only at hg);(try (have _h:True:=hg;clear _h hg)))))
  all_goals first
    | (refine aw_ret ?_;(repeat (first|refine ret_then ?_|refine ret_block ?_))
       exact bq1 rfl ⟨9,_,rfl,rfl,⟨rfl,rfl⟩,fun i _=>rfl⟩)
    | trace_state
theorem sameOrigin_p (o:Org):PCalls Tryz.prog 51 [o.enc,o.enc] (·=vb true):=by
  refine pcalls_of_aw Tryz.func51 rfl (dc rfl) ?_
  (repeat' (first|(refine ar_isq ?_;refine zq ?_)|(refine zpv fn32 (sameInts_p o.line) ?_)|refine zg ?_ ?_|refine zgu ?_|refine zst ?_|refine zco ?_ ?_|exact zd|(refine fun (hg:(_:Prop))=>?_;(try replace hg:=HG.out hg);(try dsimp only at hg);(try (have _h:True:=hg;clear _h hg)))))
  all_goals first
    | (exfalso;simp at *;done)
    | ((refine aw_ret ?_;(repeat (first|refine ret_then ?_|refine ret_block ?_));refine bq1 rfl ⟨?_,rfl⟩);rfl)
    | trace_state
theorem sameFnds_p (l:List Fnd):PCalls Tryz.prog 36 [encFnds l,encFnds l] (·=vb true):=by
  (refine pcalls_know (fun I us h=>rel_len (rel_arg h (j:=0) rfl)) fun hlen0=>?_)
  refine pcalls_of_aw Tryz.func36 rfl (dc rfl) ?_
  (repeat' (first|(refine ar_isq ?_;refine zq ?_)|refine ar_q (qs_sneq (seq rfl) rfl rfl (.int (ty rfl) rfl rfl rfl rfl (.int (ty rfl) rfl rfl rfl rfl .nil))) (dc rfl) ?_|refine ar_q (qs_sneq (seq rfl) rfl rfl (.int (ty rfl) rfl rfl rfl rfl (.int (ty rfl) rfl rfl rfl rfl (.int (ty rfl) rfl rfl rfl rfl .nil)))) (dc rfl) ?_|refine ar_q (qs_sneq (seq rfl) rfl rfl (.int (ty rfl) rfl rfl rfl rfl (.int (ty rfl) rfl rfl rfl rfl (.int (ty rfl) rfl rfl rfl rfl (.int (ty rfl) rfl rfl rfl rfl .nil))))) (dc rfl) ?_|refine ar_q (qs_sneq (seq rfl) rfl rfl (.int (ty rfl) rfl rfl rfl rfl (.int (ty rfl) rfl rfl rfl rfl (.int (ty rfl) rfl rfl rfl rfl (.int (ty rfl) rfl rfl rfl rfl (.int (ty rfl) rfl rfl rfl rfl .nil)))))) (dc rfl) ?_|refine zst ?_|refine aw_drawn (id:=6) [(0,0),(1,0),(2,0),(3,0),(4,0),(5,0),(6,0),(7,0),(8,0)] mixed (by kernel_rfl) ?_|refine zco ?_ ?_|exact zd|(refine fun (hg:(_:Prop))=>?_;(try replace hg:=HG.out hg);(try dsimp only at hg);(try (have _h:True:=hg;clear _h hg)))))
  all_goals (try (exfalso;omega))
  refine aw_for l.length (fun _=>True) (fun k=>[(0,encFnds l),(1,encFnds l),(5,vi k)]) (fun _=>[]) trivial ?_ ?_
  · (exact zsb [] [])
  intro k hk _
  by_cases hlt:k<l.length
  · (repeat' (first|(refine ar_isq ?_;refine zq ?_)|refine ar_q (qs_sneq (seq rfl) rfl rfl (.int (ty rfl) rfl rfl rfl rfl (.int (ty rfl) rfl rfl rfl rfl .nil))) (dc rfl) ?_|refine ar_q (qs_sneq (seq rfl) rfl rfl (.int (ty rfl) rfl rfl rfl rfl (.int (ty rfl) rfl rfl rfl rfl (.int (ty rfl) rfl rfl rfl rfl .nil)))) (dc rfl) ?_|refine ar_q (qs_sneq (seq rfl) rfl rfl (.int (ty rfl) rfl rfl rfl rfl (.int (ty rfl) rfl rfl rfl rfl (.int (ty rfl) rfl rfl rfl rfl (.int (ty rfl) rfl rfl rfl rfl .nil))))) (dc rfl) ?_|refine ar_q (qs_sneq (seq rfl) rfl rfl (.int (ty rfl) rfl rfl rfl rfl (.int (ty rfl) rfl rfl rfl rfl (.int (ty rfl) rfl rfl rfl rfl (.int (ty rfl) rfl rfl rfl rfl (.int (ty rfl) rfl rfl rfl rfl .nil)))))) (dc rfl) ?_|refine zil (j:=k) ?_|refine zis (j:=k) ?_|refine zit (j:=k) ?_|refine zst ?_|refine aw_drawn (id:=6) [(0,0),(1,0),(2,0),(3,0),(4,0),(5,0),(6,0),(7,0),(8,0)] mixed (by kernel_rfl) ?_|refine zco ?_ ?_|exact zd|(refine fun (hg:(_:Prop))=>?_;(try replace hg:=HG.out hg);(try dsimp only at hg);(try (have _h:True:=hg;clear _h hg)))))
    all_goals first
      | (exfalso;omega)
      | (exfalso;simp at *;done)
      | ((first|refine loop_next (by omega) ?_ ?_|refine (show _∧_∧SubOf _ _ _ _ _ _ from And.intro (by omega) (And.intro ?_ ?_)));(focus ((trivial);done));(focus (exact zsb [] [])))
      | trace_state
  · obtain rfl:k=l.length:=by omega
    (repeat' (first|(refine ar_isq ?_;refine zq ?_)|refine ar_q (qs_sneq (seq rfl) rfl rfl (.int (ty rfl) rfl rfl rfl rfl (.int (ty rfl) rfl rfl rfl rfl .nil))) (dc rfl) ?_|refine ar_q (qs_sneq (seq rfl) rfl rfl (.int (ty rfl) rfl rfl rfl rfl (.int (ty rfl) rfl rfl rfl rfl (.int (ty rfl) rfl rfl rfl rfl .nil)))) (dc rfl) ?_|refine ar_q (qs_sneq (seq rfl) rfl rfl (.int (ty rfl) rfl rfl rfl rfl (.int (ty rfl) rfl rfl rfl rfl (.int (ty rfl) rfl rfl rfl rfl (.int (ty rfl) rfl rfl rfl rfl .nil))))) (dc rfl) ?_|refine ar_q (qs_sneq (seq rfl) rfl rfl (.int (ty rfl) rfl rfl rfl rfl (.int (ty rfl) rfl rfl rfl rfl (.int (ty rfl) rfl rfl rfl rfl (.int (ty rfl) rfl rfl rfl rfl (.int (ty rfl) rfl rfl rfl rfl .nil)))))) (dc rfl) ?_|refine zst ?_|refine aw_drawn (id:=6) [(0,0),(1,0),(2,0),(3,0),(4,0),(5,0),(6,0),(7,0),(8,0)] mixed (by kernel_rfl) ?_|refine zco ?_ ?_|exact zd|(refine fun (hg:(_:Prop))=>?_;(try replace hg:=HG.out hg);(try dsimp only at hg);(try (have _h:True:=hg;clear _h hg)))))
    all_goals first
      | (exfalso;omega)
      | ((refine aw_ret ?_;(repeat (first|refine ret_then ?_|refine ret_block ?_));refine bq1 rfl ⟨?_,rfl⟩);rfl)
      | trace_state
def moreE:List Job:=[exGive]
set_option maxRecDepth 20000 in
theorem halive_p:PCalls Tryz.prog 24 [] (·=vb true):=by
  have hA:moreE.length=1:=rfl
  refine pcalls_of_aw Tryz.func24 rfl (dc rfl) ?_
  (repeat' (first|(refine ar_isq ?_;refine zq ?_)|refine ar_q (qs_seq (seq rfl) rfl rfl (.int (ty rfl) rfl rfl rfl rfl (.int (ty rfl) rfl rfl rfl rfl .nil))) (dc rfl) ?_|refine ar_q (qs_seq (seq rfl) rfl rfl (.int (ty rfl) rfl rfl rfl rfl (.int (ty rfl) rfl rfl rfl rfl (.int (ty rfl) rfl rfl rfl rfl .nil)))) (dc rfl) ?_|refine ar_q (qs_seq (seq rfl) rfl rfl (.int (ty rfl) rfl rfl rfl rfl (.int (ty rfl) rfl rfl rfl rfl (.int (ty rfl) rfl rfl rfl rfl (.int (ty rfl) rfl rfl rfl rfl .nil))))) (dc rfl) ?_|refine ar_q (qs_seq (seq rfl) rfl rfl (.int (ty rfl) rfl rfl rfl rfl (.int (ty rfl) rfl rfl rfl rfl (.int (ty rfl) rfl rfl rfl rfl (.int (ty rfl) rfl rfl rfl rfl (.int (ty rfl) rfl rfl rfl rfl .nil)))))) (dc rfl) ?_|refine ar_q (qs_sneq (seq rfl) rfl rfl (.int (ty rfl) rfl rfl rfl rfl (.int (ty rfl) rfl rfl rfl rfl .nil))) (dc rfl) ?_|refine ar_q (qs_sneq (seq rfl) rfl rfl (.int (ty rfl) rfl rfl rfl rfl (.int (ty rfl) rfl rfl rfl rfl (.int (ty rfl) rfl rfl rfl rfl .nil)))) (dc rfl) ?_|refine ar_q (qs_sneq (seq rfl) rfl rfl (.int (ty rfl) rfl rfl rfl rfl (.int (ty rfl) rfl rfl rfl rfl (.int (ty rfl) rfl rfl rfl rfl (.int (ty rfl) rfl rfl rfl rfl .nil))))) (dc rfl) ?_|refine ar_q (qs_sneq (seq rfl) rfl rfl (.int (ty rfl) rfl rfl rfl rfl (.int (ty rfl) rfl rfl rfl rfl (.int (ty rfl) rfl rfl rfl rfl (.int (ty rfl) rfl rfl rfl rfl (.int (ty rfl) rfl rfl rfl rfl .nil)))))) (dc rfl) ?_|refine ar_q (qs_and rfl rfl (andMask (by omega))) (dc rfl) ?_|refine ar_q (qs_shr rfl rfl (by omega) (shr0 (by omega))) (dc rfl) ?_|refine zil (j:=0) ?_|refine zis (j:=0) ?_|refine zit (j:=0) ?_|(refine zbt ?_)|((refine ar_fcall fn33 rfl rfl .nil hbookF_p (dc rfl) ?_;rintro _ _ ⟨rfl,rfl⟩))|(((refine ar_subk_l (sub_nilC (t:=19) (exGive.enc) rfl rfl (by repeat' (first|exact trivial|refine ⟨.inl rfl,?_⟩|refine ⟨.inr ⟨rfl,_,_,rfl⟩,?_⟩))) ?_);refine ar_buildLE Job.enc (moreE) (by exact ty rfl) (by exact rfl) (by exact ty rfl) (by exact rfl) (by exact rfl) (by exact Nat.succ_pos _) (by exact rfl) (by exact dc rfl) (by exact rfl) (by exact fun _=>⟨rfl,rfl⟩) (by exact dc rfl) ?_))|((refine ar_subk_l (sub_frzL (t:=21) Job.enc bookE rfl rfl rfl rfl (fun k hk=>appF_elH (e:=Job.enc) (l:=exJobs) (l':=moreE) (n:=9) rfl (fun _ _=>rfl) (fun i _=>congrArg (fun q=>Job.enc (el moreE q)) (Nat.zero_add i)) hk) (fun _=>rfl)) ?_;refine zpv fn14 (exPlayE_p) ?_))|(refine zpv fn25 (exReport_p) ?_)|(refine zpv fn27 (exTrace_p) ?_)|(refine zpv fn26 (exImage_p) ?_)|(refine zpv fn34 (himage_p) ?_)|(refine zpv fn29 (exExpert_p) ?_)|(refine zpv fn35 (hnote_p) ?_)|(((refine ar_subk_l (sub_nilC (t:=51) (exTake.enc) rfl rfl (by repeat' (first|exact trivial|refine ⟨.inl rfl,?_⟩|refine ⟨.inr ⟨rfl,_,_,rfl⟩,?_⟩))) ?_);refine ar_buildLE Job.enc (bookN) (by exact ty rfl) (by exact rfl) (by exact ty rfl) (by exact rfl) (by exact rfl) (by exact Nat.succ_pos _) (by exact rfl) (by exact dc rfl) (by exact rfl) (by exact fun _=>⟨rfl,rfl⟩) (by exact dc rfl) ?_))|(((refine ar_subk_l (sub_frzL (t:=52) Job.enc (bookN) rfl rfl rfl rfl (fun _ _=>rfl) (fun _=>rfl)) ?_);refine zpv fn14 (exPlayN_p) ?_))|refine ar_buildLE vi ([0,1,2]) (by exact ty rfl) (by exact rfl) (by exact ty rfl) (by exact rfl) (by exact rfl) (by exact Nat.succ_pos _) (by exact rfl) (by exact dc rfl) (by exact rfl) (by exact fun _=>⟨rfl,rfl⟩) (by exact dc rfl) ?_|((refine ar_lcall fn51 rfl rfl (first:=[]) (cap:=[]) (zs:=[exOrg.enc,exOrg.enc]) ⟨.closed rfl,.aggL ⟨.closed rfl,.closed rfl,.closed rfl,.row rfl rfl (fun _=>rfl),.closed rfl,trivial⟩,trivial⟩ (sameOrigin_p exOrg) (by intros;subst_vars;rfl) (dc rfl) ?_;intro _ hv;subst hv))|(refine zpv fn52 (sameBools_p exImage) ?_)|refine ar_buildLE Fnd.enc ([exFnd]) (by exact ty rfl) (by exact rfl) (by exact ty rfl) (by exact rfl) (by exact rfl) (by exact Nat.succ_pos _) (by exact rfl) (by exact dc rfl) (by exact rfl) (by exact fun _=>⟨rfl,rfl⟩) (by exact dc rfl) ?_|(((refine ar_subk_l (sub_frzL (t:=128) Fnd.enc ([exFnd]) rfl rfl rfl rfl (fun _ _=>rfl) (fun _=>rfl)) ?_);refine zpv fn36 (sameFnds_p [exFnd]) ?_))|refine zcl ?_|refine zcs ?_|refine zcpl ?_|refine zcpo ?_|refine zg ?_ ?_|refine zgu ?_|refine zst ?_|refine aw_drawn (id:=5) [(0,0),(1,1),(2,1),(3,0),(4,0),(5,0),(6,0),(7,0)] mixed (by kernel_rfl) ?_|refine zco ?_ ?_|exact zd|(refine fun (hg:(_:Prop))=>?_;(try replace hg:=HG.out hg);(try dsimp only at hg);(try (have _h:True:=hg;clear _h hg)))))
  all_goals first
    | ((refine aw_ret ?_;(repeat (first|refine ret_then ?_|refine ret_block ?_));refine bq1 rfl ⟨?_,rfl⟩);rfl)
    | trace_state
def StAll (s:Sto):Prop:=∀ p,p∈s.prints→0≤p.state
theorem stOk_all {s:Sto}(h:StAll s):StOk s:=fun j hj=>h _ (el_mem hj)
theorem stAll_el {s:Sto}(h:StAll s) (k:Nat):0≤(el s.prints k).state:=by
  by_cases hk:k<s.prints.length
  · exact h _ (el_mem hk)
  · have:el s.prints k=default:=by simp [el,show s.prints.length≤k by omega]
    rw [this]
    exact Int.le_refl 0
theorem stAll_map {s:Sto}{g:Nat→Prt}{n:Nat}(hg:∀ k,0≤(g k).state):∀ p,p∈(List.range n).map g→0≤p.state:=fun p hp=>by
  obtain ⟨k,_,rfl⟩:=List.mem_map.1 hp
  exact hg k
theorem stAll_act {s:Sto}{a:Deed}(h:StAll s):StAll (actF s a):=by
  unfold actF
  split
  · exact h
  · split
    · exact h
    · split
      · exact h
      · split
        · intro p hp
          rcases List.mem_append.1 hp with hp|hp
          · exact h p hp
          · rw [(List.mem_replicate.1 hp).2]
            exact Int.le_refl 0
        · split
          · refine stAll_map (s:=s) fun k=>?_
            unfold stateAt
            split
            · exact Int.le_of_lt (by decide:(0:Int)<1)
            · exact stAll_el h k
          · split
            · refine stAll_map (s:=s) fun k=>?_
              unfold stateAt
              split
              · exact (by decide:(0:Int)≤2)
              · exact stAll_el h k
            · exact h
theorem stAll_job {h:Hse}{j:Job}(hs:StAll h.store):StAll (jobF h j).store:=by
  unfold jobF
  split
  · exact hs
  · split
    · exact hs
    · split
      · exact hs
      · split
        · exact stAll_act hs
        · split
          · exact stAll_act hs
          · split
            · exact stAll_act hs
            · split
              · refine stAll_map (s:=h.store) fun k=>?_
                unfold giveP
                split
                · exact Int.le_of_lt (by decide:(0:Int)<1)
                · exact stAll_el hs k
              · exact hs
theorem stAll_at {per life:Int}{bk:List Job}:∀ k,StAll (hAt per life bk k).store
  | 0=>fun p hp=>by simp [hAt,hse0] at hp
  | k+1=>stAll_job (stAll_at k)
theorem stOk_at (per life:Int) (bk:List Job) (k:Nat):StOk (hAt per life bk k).store:=stOk_all (stAll_at k)
end Go.Proofs.YtbilpbabdgfblaaGreat
