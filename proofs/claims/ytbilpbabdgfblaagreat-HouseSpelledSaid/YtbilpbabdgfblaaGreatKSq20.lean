/- Parts of the proof: contracts of functions. No condition. -/
import Derived.Test.YtbilpbabdgfblaaGreatKSq19
set_option maxHeartbeats 16000000
set_option linter.unusedSimpArgs false
set_option linter.unusedVariables false
namespace Go.Proofs.YtbilpbabdgfblaaGreat
open Go.RowKit
theorem appF_elH {α:Type}[Inhabited α] {e:α→V}{l l':List α}{n:Nat}(hn:n=l.length) {f g:Nat→V}(hf:∀ i,i<n→f i=e (el l i)) (hg:∀ i,i<l'.length→g i=e (el l' i)) {k:Nat}(hk:k<n+l'.length):e (el (l++l') k)=appF n f g k:=by
 subst hn
 by_cases h:k<l.length
 ·rw [appF_lt h,hf k h,el_app_lt h]
 ·rw [appF_ge (by omega),hg _ (by omega)]
  congr 1
  simp [el,List.getElem?_append_right (show l.length≤k by omega)]
def noAct:Deed:=⟨0,0,0,0⟩
def noSheet:Sheet:=⟨0,0,0,0,0⟩
def noteSheet:Sheet:=⟨2,8,1,1,1⟩
def noteBand:List (List Int):=[[0,1],[4,4]]
def noteJob:Job:=⟨1,1,0,0,0,0,noAct,noteSheet,noteBand⟩
def actJob (k i d:Int):Job:=⟨5,0,0,0,0,0,⟨k,i,d,0⟩,noSheet,[]⟩
def exLicn:Job:=⟨2,2,0,0,5,9,noAct,noSheet,[]⟩
def exTake:Job:=⟨3,2,0,0,3,0,noAct,noSheet,[]⟩
def exEngv:Job:=⟨4,0,0,0,0,0,noAct,noSheet,[]⟩
def exPrnt:Job:=⟨6,0,0,0,0,0,⟨0,2,0,3⟩,noSheet,[]⟩
def exGive:Job:=⟨7,0,0,0,0,0,noAct,noSheet,[]⟩
def exJobs:List Job:=[noteJob,exLicn,exTake,exEngv,actJob 3 0 1,actJob 2 0 0,actJob 2 1 0,actJob 3 2 2,exPrnt]
def exImage:List Bool:=[false,true,true,false,false,false,false,false,true,true,false,false,false,false,false,false]
def exDsn:Dsn:=⟨1,noteSheet,noteBand⟩
def exStore:List Prt→Sto:=fun p=>⟨1000,[⟨1,-1,1,1,false⟩,⟨2,0,1,1,false⟩,⟨3,1,2,3,false⟩],p⟩
def exHse2:Hse:=⟨100,0,exStore [⟨2,1⟩,⟨2,1⟩,⟨2,1⟩],[exDsn],[⟨0,2,9,2⟩],[⟨2,0,3,true⟩],[0,0,0],[0,0,0]⟩
def bookE:List Job:=exJobs++[exGive]
theorem exErrsE:∀ j,j<10→hErrAt 100 1000 bookE j=0:=by decide +kernel
theorem exHse2_eq:hAt 100 1000 bookE 10=exHse2:=by kernel_rfl
theorem ex_life:(1≤(100:Int)∧(100:Int)≤1000)∧(1≤(1000:Int)∧(1000:Int)≤1000):=by decide
theorem exXE:hplayX 100 1000 bookE=(0,0):=hplayX_ok (by decide) ex_life exErrsE
theorem exFE:hplayF 100 1000 bookE=exHse2:=(hplayF_ok (by rw [exXE])).trans exHse2_eq
theorem exValid2:HValid exHse2:=by rw [← exHse2_eq];exact hAt_ok (hvalid0.2 ex_life) exErrsE
theorem exSmall2:HSmall exHse2:=hsmall_of exValid2
theorem exSt2:StOk exHse2.store:=by
 intro j hj
 match j,hj with
 | 0,_|1,_|2,_=>decide
theorem jobs_u8d {bk:List Job}(h:(bk.all fun j=>decide (0≤j.kind)&&(decide (j.kind≤255)&&(decide (0≤j.act.kind)&&decide (j.act.kind≤255))))=true):∀ j,j<bk.length→u8ok (el bk j).kind∧u8ok (el bk j).act.kind:=fun j hj=>by
 have:=List.all_eq_true.1 h _ (el_mem hj)
 simp only [Bool.and_eq_true,decide_eq_true_eq] at this
 exact ⟨⟨this.1,this.2.1⟩,this.2.2.1,this.2.2.2⟩
theorem exPlayE_p:PCalls Tryz.prog 14 [vi 100,vi 1000,encJobs bookE] (·=.tup [exHse2.enc,vi 0,vi 0]):=(hPlay_p 100 1000 bookE (jobs_u8d (by decide))).mono fun v h=>by rw [h,exFE,exXE]
theorem exReport_p:PCalls Tryz.prog 25 [exHse2.enc,vi 0] (·=.tup [vi 3,vi 0,vi 0,vi 0]):=(hReport_p exHse2 0 exSmall2 exSt2).mono fun v h=>by
 rw [h,repV_ok (repE_ok exValid2 (by decide)),show doneF exHse2 0 0=0 by decide +kernel,show doneF exHse2 0 1=3 by decide +kernel,show doneF exHse2 0 2=0 by decide +kernel,show (ordAt exHse2 0).need=3 from rfl]
 rfl
def exOrg:Org:=⟨0,2,0,[0,1,2],0⟩
theorem exAsk:askE exHse2 1=0:=askE_ok exValid2 (by decide)
theorem exOrg_eq:orgF exHse2 1=exOrg:=by
 have he:=lineE_ok (i:=2) exValid2.store (by decide)
 unfold orgF
 rw [show (el exHse2.store.prints (Int.toNat 1)).plate=2 from rfl,lineF_ok he,show lineTo exHse2.store.items 2 (lineN exHse2.store.items 2)=[0,1,2] by decide +kernel]
 rfl
theorem exTrace_p:PCalls Tryz.prog 27 [exHse2.enc,vi 1] (·=.tup [exOrg.enc,vi 0]):=(hTrace_p exHse2 1 exSmall2 exSt2).mono fun v h=>by
 rw [h,exAsk]
 unfold traceF
 rw [if_pos exAsk,exOrg_eq]
theorem exImage_eq:dproofF (dsnAt exHse2 (ordAt exHse2 (forAt exHse2 1)).design) (growF exHse2 (Int.toNat 1))=exImage:=by kernel_rfl
theorem exImage_p:PCalls Tryz.prog 26 [exHse2.enc,vi 1] (·=.tup [encBools exImage,vi 0]):=(hImage_p exHse2 1 exSmall2 exSt2).mono fun v h=>by
 rw [h,exAsk]
 unfold imageF
 rw [if_pos exAsk,exImage_eq]
def exFnd:Fnd:=⟨0,0,0⟩
theorem exFnd_eq:fndD exHse2 exImage 0 exHse2.designs.length=[exFnd]:=by kernel_rfl
theorem exExpert_p:PCalls Tryz.prog 29 [exHse2.enc,encBools exImage,vi 0] (·=.tup [encFnds [exFnd],vi 0]):=(hExpert_p exHse2 exImage 0 exSmall2 exSt2).mono fun v h=>by
 have he:expE exHse2 exImage 0=0:=expE_ok exValid2 (by decide) (by rw [exFnd_eq];decide)
 rw [h,expF_ok he,he,exFnd_eq]
def bookN:List Job:=[noteJob,exTake]
theorem exXN:hplayX 100 1000 bookN=(1,102):=(hplayX_bad (k:=1) (by decide) ex_life (by decide +kernel) (by decide) (by decide +kernel)).trans (by decide +kernel)
theorem exPlayN_p:PCalls Tryz.prog 14 [vi 100,vi 1000,encJobs bookN] (·=.tup [noHse.enc,vi 1,vi 102]):=(hPlay_p 100 1000 bookN (jobs_u8d (by decide))).mono fun v h=>by rw [h,hplayF_bad (by rw [exXN];decide),exXN]
theorem hnote_p:PCalls Tryz.prog 35 [] (·=noteJob.enc):=by
 refine pcalls_of_aw Tryz.func35 rfl (dc rfl) ?_
 (repeat' (first|(refine zbt ?_)|refine ar_buildLE vi ([0,1]) (by exact ty rfl) (by exact rfl) (by exact ty rfl) (by exact rfl) (by exact rfl) (by exact Nat.succ_pos _) (by exact rfl) (by exact dc rfl) (by exact rfl) (by exact fun _=>⟨rfl,rfl⟩) (by exact dc rfl) ?_|(((refine ar_subk_l (sub_frzL (t:=2) vi ([0,1]) rfl rfl rfl rfl (fun _ _=>rfl) (fun _=>rfl)) ?_);refine ar_buildLE vi ([4,4]) (by exact ty rfl) (by exact rfl) (by exact ty rfl) (by exact rfl) (by exact rfl) (by exact Nat.succ_pos _) (by exact rfl) (by exact dc rfl) (by exact rfl) (by exact fun _=>⟨rfl,rfl⟩) (by exact dc rfl) ?_))|(((refine ar_subk_l (sub_frzL (t:=3) vi ([4,4]) rfl rfl rfl rfl (fun _ _=>rfl) (fun _=>rfl)) ?_);refine ar_buildLE encInts (noteBand) (by exact ty rfl) (by exact rfl) (by exact ty rfl) (by exact rfl) (by exact rfl) (by exact Nat.succ_pos _) (by exact rfl) (by exact dc rfl) (by exact rfl) (by exact fun _=>⟨rfl,rfl⟩) (by exact dc rfl) ?_))|refine zst ?_|refine zco ?_ ?_|exact zd|(refine fun (hg:(_:Prop))=>?_;(try replace hg:=HG.out hg);(try dsimp only at hg);(try (have _h:True:=hg;clear _h hg)))))
 (refine aw_mono_r (env':=[(0,.ptr 16 0 0 0)]) (H':=[.arr 16 1 (fun _=>noteJob.enc)]) ?_ ?_;(focus (exact zsc [some 0] [3])))
 refine aw_ret ?_
 (repeat (first|refine ret_then ?_|refine ret_block ?_))
 exact bq1c (f:=fun _=>noteJob.enc) (v:=noteJob.enc) (ty rfl) rfl rfl Nat.one_pos rfl ⟨rfl,rfl⟩
theorem hactj_p (k i d:Int):PCalls Tryz.prog 63 [vu8 k,vi i,vi d] (·=(actJob k i d).enc):=by
  refine pcalls_of_aw Tryz.func63 rfl (dc rfl) ?_
  (repeat' (first|(refine ar_isq ?_;refine zq ?_)|(refine zbt ?_)|refine zst ?_|refine zco ?_ ?_|exact zd|(refine fun (hg:(_:Prop))=>?_;(try replace hg:=HG.out hg);(try dsimp only at hg);(try (have _h:True:=hg;clear _h hg)))))
  first
    | ((refine aw_mono_r (env':=[(6,.ptr 16 0 0 0)]) (H':=[.arr 16 1 (fun _=>(actJob k i d).enc)]) ?_ ?_;(focus (exact zsc [some 0] [])))
       refine aw_ret ?_
       (repeat (first|refine ret_then ?_|refine ret_block ?_))
       exact bq1c (f:=fun _=>(actJob k i d).enc) (v:=(actJob k i d).enc) (ty rfl) rfl rfl Nat.one_pos rfl ⟨rfl,rfl⟩)
    | trace_state
theorem exImage_at:∀ k,k<16→upd (upd (upd (upd (fun _=>vb false) 1 (vb true)) 2 (vb true)) 8 (vb true)) 9 (vb true) k=vb (el exImage k)
 | 0,_|1,_|2,_|3,_|4,_|5,_|6,_|7,_|8,_|9,_|10,_|11,_|12,_|13,_|14,_|15,_=>rfl
 | k+16,h=>absurd h (by omega)
theorem himage_p:PCalls Tryz.prog 34 [] (·=encBools exImage):=by
  refine pcalls_of_aw Tryz.func34 rfl (dc rfl) ?_
  (repeat' (first|(refine ar_isq ?_;refine zq ?_)|refine zil (j:=1) ?_|refine zis (j:=1) ?_|refine zit (j:=1) ?_|refine zil (j:=2) ?_|refine zis (j:=2) ?_|refine zit (j:=2) ?_|refine zil (j:=8) ?_|refine zis (j:=8) ?_|refine zit (j:=8) ?_|refine zil (j:=9) ?_|refine zis (j:=9) ?_|refine zit (j:=9) ?_|(refine ar_make_v (n:=16) (ty rfl) rfl (ty rfl) rfl rfl (by omega) (by omega) (dc rfl) rfl rfl (by dsimp only;omega) (maxLen_ok (by omega)) ?_)|refine zst ?_|refine zco ?_ ?_|exact zd|(refine fun (hg:(_:Prop))=>?_;(try replace hg:=HG.out hg);(try dsimp only at hg);(try (have _h:True:=hg;clear _h hg)))))
  first
    | ((refine aw_mono_r (env':=[(0,encBools exImage)]) (H':=[]) ?_ ?_;(focus ((refine sub_to [] [0] rfl ?_ ?_<;>(repeat' (first|exact trivial|refine ⟨⟨_,rfl,?_⟩,?_⟩|refine vs1 ?_ ?_|refine vs2 ?_ ?_|refine vs3 ?_|refine vs4 ?_ ?_|refine ⟨.inl ⟨_,_,rfl,rfl,?_⟩,?_⟩|exact ⟨.inr ⟨rfl,rfl⟩,trivial⟩|refine ⟨.inr ⟨rfl,rfl⟩,?_⟩|(intro _ _)|exact vz1|(exact frz_as (l:=exImage) (by simp;done) rfl rfl rfl exImage_at (fun _=>rfl))|exact vz2|fail)));done)))
       (refine aw_ret ?_;(repeat (first|refine ret_then ?_|refine ret_block ?_));refine bq1 rfl ⟨?_,rfl⟩)
       rfl)
    | trace_state
theorem hbookF_p:FCalls Tryz.prog 33 [] 16 (fun n f=>n=9∧f=fun j=>Job.enc (el exJobs j)):=by
  refine fcalls_of_aw Tryz.func33 rfl (dc rfl) ?_
  (repeat' (first|(refine ar_isq ?_;refine zq ?_)|(refine zbt ?_)|(refine zpv fn35 (hnote_p) ?_)|(refine zpv fn63 (hactj_p _ _ _) ?_)|(((refine ar_subk_l (sub_nilC (t:=2) (exLicn.enc) rfl rfl (by repeat' (first|exact trivial|refine ⟨.inl rfl,?_⟩|refine ⟨.inr ⟨rfl,_,_,rfl⟩,?_⟩))) ?_);(refine ar_subk_l (sub_nilC (t:=3) (exTake.enc) rfl rfl (by repeat' (first|exact trivial|refine ⟨.inl rfl,?_⟩|refine ⟨.inr ⟨rfl,_,_,rfl⟩,?_⟩))) ?_);(refine ar_subk_l (sub_nilC (t:=4) (exEngv.enc) rfl rfl (by repeat' (first|exact trivial|refine ⟨.inl rfl,?_⟩|refine ⟨.inr ⟨rfl,_,_,rfl⟩,?_⟩))) ?_);(refine ar_subk_l (sub_nilC (t:=10) (exPrnt.enc) rfl rfl (by repeat' (first|exact trivial|refine ⟨.inl rfl,?_⟩|refine ⟨.inr ⟨rfl,_,_,rfl⟩,?_⟩))) ?_);refine ar_buildLE Job.enc (exJobs) (by exact ty rfl) (by exact rfl) (by exact ty rfl) (by exact rfl) (by exact rfl) (by exact Nat.succ_pos _) (by exact rfl) (by exact dc rfl) (by exact rfl) (by exact fun _=>⟨rfl,rfl⟩) (by exact dc rfl) ?_))|refine zst ?_|refine zco ?_ ?_|exact zd|(refine fun (hg:(_:Prop))=>?_;(try replace hg:=HG.out hg);(try dsimp only at hg);(try (have _h:True:=hg;clear _h hg)))))
  all_goals first
    | (refine aw_ret ?_;(repeat (first|refine ret_then ?_|refine ret_block ?_))
       exact bq1 rfl ⟨9,_,rfl,rfl,⟨rfl,rfl⟩,fun i _=>rfl⟩)
    | trace_state
theorem sameOrigin_p (o:Org):PCalls Tryz.prog 51 [o.enc,o.enc] (·=vb true):=by
 refine pcalls_of_aw Tryz.func51 rfl (dc rfl) ?_
 (repeat' (first|(refine ar_isq ?_;refine zq ?_)|(refine zpv fn32 (sameInts_p o.line) ?_)|refine zg ?_ ?_|refine zgu ?_|refine zst ?_|refine zco ?_ ?_|exact zd|(refine fun (hg:(_:Prop))=>?_;(try replace hg:=HG.out hg);(try dsimp only at hg);(try (have _h:True:=hg;clear _h hg)))))
 all_goals first
  | (exfalso;simp at *;done)
  | ((refine aw_ret ?_;(repeat (first|refine ret_then ?_|refine ret_block ?_));refine bq1 rfl ⟨?_,rfl⟩);rfl)
  | trace_state
theorem sameFnds_p (l:List Fnd):PCalls Tryz.prog 36 [encFnds l,encFnds l] (·=vb true):=by
 (refine pcalls_know (fun I us h=>rel_len (rel_arg h (j:=0) rfl)) fun hlen0=>?_)
 refine pcalls_of_aw Tryz.func36 rfl (dc rfl) ?_
 (repeat' (first|(refine ar_isq ?_;refine zq ?_)|refine ar_q (qs_sneq (seq rfl) rfl rfl (.int (ty rfl) rfl rfl rfl rfl (.int (ty rfl) rfl rfl rfl rfl .nil))) (dc rfl) ?_|refine ar_q (qs_sneq (seq rfl) rfl rfl (.int (ty rfl) rfl rfl rfl rfl (.int (ty rfl) rfl rfl rfl rfl (.int (ty rfl) rfl rfl rfl rfl .nil)))) (dc rfl) ?_|refine ar_q (qs_sneq (seq rfl) rfl rfl (.int (ty rfl) rfl rfl rfl rfl (.int (ty rfl) rfl rfl rfl rfl (.int (ty rfl) rfl rfl rfl rfl (.int (ty rfl) rfl rfl rfl rfl .nil))))) (dc rfl) ?_|refine ar_q (qs_sneq (seq rfl) rfl rfl (.int (ty rfl) rfl rfl rfl rfl (.int (ty rfl) rfl rfl rfl rfl (.int (ty rfl) rfl rfl rfl rfl (.int (ty rfl) rfl rfl rfl rfl (.int (ty rfl) rfl rfl rfl rfl .nil)))))) (dc rfl) ?_|refine zst ?_|refine aw_drawn (id:=6) [(0,0),(1,0),(2,0),(3,0),(4,0),(5,0),(6,0),(7,0),(8,0)] mixed (by kernel_rfl) ?_|refine zco ?_ ?_|exact zd|(refine fun (hg:(_:Prop))=>?_;(try replace hg:=HG.out hg);(try dsimp only at hg);(try (have _h:True:=hg;clear _h hg)))))
 all_goals (try (exfalso;omega))
 refine aw_for l.length (fun _=>True) (fun k=>[(0,encFnds l),(1,encFnds l),(5,vi k)]) (fun _=>[]) trivial ?_ ?_
 ·(exact zsb [] [])
 intro k hk _
 by_cases hlt:k<l.length
 ·(repeat' (first|(refine ar_isq ?_;refine zq ?_)|refine ar_q (qs_sneq (seq rfl) rfl rfl (.int (ty rfl) rfl rfl rfl rfl (.int (ty rfl) rfl rfl rfl rfl .nil))) (dc rfl) ?_|refine ar_q (qs_sneq (seq rfl) rfl rfl (.int (ty rfl) rfl rfl rfl rfl (.int (ty rfl) rfl rfl rfl rfl (.int (ty rfl) rfl rfl rfl rfl .nil)))) (dc rfl) ?_|refine ar_q (qs_sneq (seq rfl) rfl rfl (.int (ty rfl) rfl rfl rfl rfl (.int (ty rfl) rfl rfl rfl rfl (.int (ty rfl) rfl rfl rfl rfl (.int (ty rfl) rfl rfl rfl rfl .nil))))) (dc rfl) ?_|refine ar_q (qs_sneq (seq rfl) rfl rfl (.int (ty rfl) rfl rfl rfl rfl (.int (ty rfl) rfl rfl rfl rfl (.int (ty rfl) rfl rfl rfl rfl (.int (ty rfl) rfl rfl rfl rfl (.int (ty rfl) rfl rfl rfl rfl .nil)))))) (dc rfl) ?_|refine zil (j:=k) ?_|refine zis (j:=k) ?_|refine zit (j:=k) ?_|refine zst ?_|refine aw_drawn (id:=6) [(0,0),(1,0),(2,0),(3,0),(4,0),(5,0),(6,0),(7,0),(8,0)] mixed (by kernel_rfl) ?_|refine zco ?_ ?_|exact zd|(refine fun (hg:(_:Prop))=>?_;(try replace hg:=HG.out hg);(try dsimp only at hg);(try (have _h:True:=hg;clear _h hg)))))
  all_goals first
   | (exfalso;omega)
   | (exfalso;simp at *;done)
   | ((first|refine loop_next (by omega) ?_ ?_|refine (show _∧_∧SubOf _ _ _ _ _ _ from And.intro (by omega) (And.intro ?_ ?_)));(focus ((trivial);done));(focus (exact zsb [] [])))
   | trace_state
 ·obtain rfl:k=l.length:=by omega
  (repeat' (first|(refine ar_isq ?_;refine zq ?_)|refine ar_q (qs_sneq (seq rfl) rfl rfl (.int (ty rfl) rfl rfl rfl rfl (.int (ty rfl) rfl rfl rfl rfl .nil))) (dc rfl) ?_|refine ar_q (qs_sneq (seq rfl) rfl rfl (.int (ty rfl) rfl rfl rfl rfl (.int (ty rfl) rfl rfl rfl rfl (.int (ty rfl) rfl rfl rfl rfl .nil)))) (dc rfl) ?_|refine ar_q (qs_sneq (seq rfl) rfl rfl (.int (ty rfl) rfl rfl rfl rfl (.int (ty rfl) rfl rfl rfl rfl (.int (ty rfl) rfl rfl rfl rfl (.int (ty rfl) rfl rfl rfl rfl .nil))))) (dc rfl) ?_|refine ar_q (qs_sneq (seq rfl) rfl rfl (.int (ty rfl) rfl rfl rfl rfl (.int (ty rfl) rfl rfl rfl rfl (.int (ty rfl) rfl rfl rfl rfl (.int (ty rfl) rfl rfl rfl rfl (.int (ty rfl) rfl rfl rfl rfl .nil)))))) (dc rfl) ?_|refine zst ?_|refine aw_drawn (id:=6) [(0,0),(1,0),(2,0),(3,0),(4,0),(5,0),(6,0),(7,0),(8,0)] mixed (by kernel_rfl) ?_|refine zco ?_ ?_|exact zd|(refine fun (hg:(_:Prop))=>?_;(try replace hg:=HG.out hg);(try dsimp only at hg);(try (have _h:True:=hg;clear _h hg)))))
  all_goals first
   | (exfalso;omega)
   | ((refine aw_ret ?_;(repeat (first|refine ret_then ?_|refine ret_block ?_));refine bq1 rfl ⟨?_,rfl⟩);rfl)
   | trace_state
def moreE:List Job:=[exGive]
set_option maxRecDepth 20000 in
theorem halive_p:PCalls Tryz.prog 24 [] (·=vb true):=by
 have hA:moreE.length=1:=rfl
 refine pcalls_of_aw Tryz.func24 rfl (dc rfl) ?_
 (repeat' (first|(refine ar_isq ?_;refine zq ?_)|refine ar_q (qs_seq (seq rfl) rfl rfl (.int (ty rfl) rfl rfl rfl rfl (.int (ty rfl) rfl rfl rfl rfl .nil))) (dc rfl) ?_|refine ar_q (qs_seq (seq rfl) rfl rfl (.int (ty rfl) rfl rfl rfl rfl (.int (ty rfl) rfl rfl rfl rfl (.int (ty rfl) rfl rfl rfl rfl .nil)))) (dc rfl) ?_|refine ar_q (qs_seq (seq rfl) rfl rfl (.int (ty rfl) rfl rfl rfl rfl (.int (ty rfl) rfl rfl rfl rfl (.int (ty rfl) rfl rfl rfl rfl (.int (ty rfl) rfl rfl rfl rfl .nil))))) (dc rfl) ?_|refine ar_q (qs_seq (seq rfl) rfl rfl (.int (ty rfl) rfl rfl rfl rfl (.int (ty rfl) rfl rfl rfl rfl (.int (ty rfl) rfl rfl rfl rfl (.int (ty rfl) rfl rfl rfl rfl (.int (ty rfl) rfl rfl rfl rfl .nil)))))) (dc rfl) ?_|refine ar_q (qs_sneq (seq rfl) rfl rfl (.int (ty rfl) rfl rfl rfl rfl (.int (ty rfl) rfl rfl rfl rfl .nil))) (dc rfl) ?_|refine ar_q (qs_sneq (seq rfl) rfl rfl (.int (ty rfl) rfl rfl rfl rfl (.int (ty rfl) rfl rfl rfl rfl (.int (ty rfl) rfl rfl rfl rfl .nil)))) (dc rfl) ?_|refine ar_q (qs_sneq (seq rfl) rfl rfl (.int (ty rfl) rfl rfl rfl rfl (.int (ty rfl) rfl rfl rfl rfl (.int (ty rfl) rfl rfl rfl rfl (.int (ty rfl) rfl rfl rfl rfl .nil))))) (dc rfl) ?_|refine ar_q (qs_sneq (seq rfl) rfl rfl (.int (ty rfl) rfl rfl rfl rfl (.int (ty rfl) rfl rfl rfl rfl (.int (ty rfl) rfl rfl rfl rfl (.int (ty rfl) rfl rfl rfl rfl (.int (ty rfl) rfl rfl rfl rfl .nil)))))) (dc rfl) ?_|refine ar_q (qs_and rfl rfl (andMask (by omega))) (dc rfl) ?_|refine ar_q (qs_shr rfl rfl (by omega) (shr0 (by omega))) (dc rfl) ?_|refine zil (j:=0) ?_|refine zis (j:=0) ?_|refine zit (j:=0) ?_|(refine zbt ?_)|((refine ar_fcall fn33 rfl rfl .nil hbookF_p (dc rfl) ?_;rintro _ _ ⟨rfl,rfl⟩))|(((refine ar_subk_l (sub_nilC (t:=19) (exGive.enc) rfl rfl (by repeat' (first|exact trivial|refine ⟨.inl rfl,?_⟩|refine ⟨.inr ⟨rfl,_,_,rfl⟩,?_⟩))) ?_);refine ar_buildLE Job.enc (moreE) (by exact ty rfl) (by exact rfl) (by exact ty rfl) (by exact rfl) (by exact rfl) (by exact Nat.succ_pos _) (by exact rfl) (by exact dc rfl) (by exact rfl) (by exact fun _=>⟨rfl,rfl⟩) (by exact dc rfl) ?_))|((refine ar_subk_l (sub_frzL (t:=21) Job.enc bookE rfl rfl rfl rfl (fun k hk=>appF_elH (e:=Job.enc) (l:=exJobs) (l':=moreE) (n:=9) rfl (fun _ _=>rfl) (fun i _=>congrArg (fun q=>Job.enc (el moreE q)) (Nat.zero_add i)) hk) (fun _=>rfl)) ?_;refine zpv fn14 (exPlayE_p) ?_))|(refine zpv fn25 (exReport_p) ?_)|(refine zpv fn27 (exTrace_p) ?_)|(refine zpv fn26 (exImage_p) ?_)|(refine zpv fn34 (himage_p) ?_)|(refine zpv fn29 (exExpert_p) ?_)|(refine zpv fn35 (hnote_p) ?_)|(((refine ar_subk_l (sub_nilC (t:=51) (exTake.enc) rfl rfl (by repeat' (first|exact trivial|refine ⟨.inl rfl,?_⟩|refine ⟨.inr ⟨rfl,_,_,rfl⟩,?_⟩))) ?_);refine ar_buildLE Job.enc (bookN) (by exact ty rfl) (by exact rfl) (by exact ty rfl) (by exact rfl) (by exact rfl) (by exact Nat.succ_pos _) (by exact rfl) (by exact dc rfl) (by exact rfl) (by exact fun _=>⟨rfl,rfl⟩) (by exact dc rfl) ?_))|(((refine ar_subk_l (sub_frzL (t:=52) Job.enc (bookN) rfl rfl rfl rfl (fun _ _=>rfl) (fun _=>rfl)) ?_);refine zpv fn14 (exPlayN_p) ?_))|refine ar_buildLE vi ([0,1,2]) (by exact ty rfl) (by exact rfl) (by exact ty rfl) (by exact rfl) (by exact rfl) (by exact Nat.succ_pos _) (by exact rfl) (by exact dc rfl) (by exact rfl) (by exact fun _=>⟨rfl,rfl⟩) (by exact dc rfl) ?_|((refine ar_lcall fn51 rfl rfl (first:=[]) (cap:=[]) (zs:=[exOrg.enc,exOrg.enc]) ⟨.closed rfl,.aggL ⟨.closed rfl,.closed rfl,.closed rfl,.row rfl rfl (fun _=>rfl),.closed rfl,trivial⟩,trivial⟩ (sameOrigin_p exOrg) (by intros;subst_vars;rfl) (dc rfl) ?_;intro _ hv;subst hv))|(refine zpv fn52 (sameBools_p exImage) ?_)|refine ar_buildLE Fnd.enc ([exFnd]) (by exact ty rfl) (by exact rfl) (by exact ty rfl) (by exact rfl) (by exact rfl) (by exact Nat.succ_pos _) (by exact rfl) (by exact dc rfl) (by exact rfl) (by exact fun _=>⟨rfl,rfl⟩) (by exact dc rfl) ?_|(((refine ar_subk_l (sub_frzL (t:=128) Fnd.enc ([exFnd]) rfl rfl rfl rfl (fun _ _=>rfl) (fun _=>rfl)) ?_);refine zpv fn36 (sameFnds_p [exFnd]) ?_))|refine zcl ?_|refine zcs ?_|refine zcpl ?_|refine zcpo ?_|refine zg ?_ ?_|refine zgu ?_|refine zst ?_|refine aw_drawn (id:=5) [(0,0),(1,1),(2,1),(3,0),(4,0),(5,0),(6,0),(7,0)] mixed (by kernel_rfl) ?_|refine zco ?_ ?_|exact zd|(refine fun (hg:(_:Prop))=>?_;(try replace hg:=HG.out hg);(try dsimp only at hg);(try (have _h:True:=hg;clear _h hg)))))
 all_goals first
  | ((refine aw_ret ?_;(repeat (first|refine ret_then ?_|refine ret_block ?_));refine bq1 rfl ⟨?_,rfl⟩);rfl)
  | trace_state
theorem linesB_yes {s:Sheet}{b:List (List Int)}(h:∀ j,j<b.length→isLineB s (el b j)=true):linesB s b=true:=all_el h
theorem clashF_neg {s:Sheet}{a b:List Int}:clashF s a b<0↔∀ j:Nat,(j:Int)<s.cols→s.weight+s.clear≤el b j-el a j:=by
 constructor
 ·intro h j hj
  unfold clashF at h
  split at h
  ·omega
  ·rename_i h0
   rw [List.find?_eq_none] at h0
   have:=h0 j (by simp;omega)
   simp only [nearAt,decide_eq_true_eq] at this
   omega
 ·intro h
  rw [clashF_none fun j hj=>by have:=h j hj;simp [nearAt];omega]
  omega
theorem bandB_iff {s:Sheet}{b:List (List Int)}:bandB s b=true↔b.length≤12∧linesB s b=true∧∀ i,i+1<b.length→∀ j:Nat,(j:Int)<s.cols→s.weight+s.clear≤el (el b (i+1)) j-el (el b i) j:=by
 simp only [bandB,Bool.and_eq_true,decide_eq_true_eq,List.all_eq_true,List.mem_range,clashF_neg]
 constructor
 ·rintro ⟨⟨h1,h2⟩,h3⟩
  exact ⟨h1,h2,fun i hi=>h3 i (by omega)⟩
 ·rintro ⟨h1,h2,h3⟩
  exact ⟨⟨h1,h2⟩,fun i hi=>h3 i (by omega)⟩
def pF (m:List (List Bool)) (z g d j:Nat):Bool:=decide (j<d)&&glyphB m z g j
theorem numTo_congr {f g:Nat→Bool}:∀ {n:Nat},(∀ j,j<n→f j=g j)→numTo f n=numTo g n
 | 0,_=>rfl
 | n+1,h=>by simp only [numTo];rw [numTo_congr fun j hj=>h j (by omega),h n (by omega)]
theorem pF_step {m:List (List Bool)}{z g d o:Nat}{b:Bool}(h:d<15) (ho:o=d) (hb:b=glyphB m z g d):putPart (gAgg (pF m z g d)) o (vb b)=gAgg (pF m z g (d+1)):=by
 rw [gAgg_put _ _ (by omega)]
 refine gAgg_ext fun j hj=>?_
 by_cases e:j=o
 ·rw [if_pos e,hb,e,ho]
  simp [pF]
 ·rw [if_neg e]
  unfold pF
  rw [show decide (j<d+1)=decide (j<d) by rw [decide_eq_decide];omega]
theorem half_cnt {z c:Nat}:decide ((z:Int)/2<(c:Int))=decide (z<2*c):=by rw [decide_eq_decide];omega
theorem everyN_p (n:Nat) (hn:n≤1000) (F:Nat→List Bool) {g:FuncId}{cap:List V}(hfn:FnOk Tryz.prog g) (hcap:V.closed.all cap=true) (p:List Bool→Bool) (hc:∀ k,k<n→PCalls Tryz.prog g (encBools (F k)::cap) (·=vb (p (F k)))) :
  PCalls Tryz.prog 76 [.list 1 n (fun k=>encBools (F k)),.fn (.func g) [] cap] (·=vb ((List.range n).all fun k=>p (F k))):=by
 refine pcalls_of_aw Tryz.func76 rfl (dc rfl) ?_
 (repeat' (first|(refine ar_isq ?_;refine zq ?_)|refine zst ?_|refine zco ?_ ?_|exact zd|(refine fun (hg:(_:Prop))=>?_;(try replace hg:=HG.out hg);(try dsimp only at hg);(try (have _h:True:=hg;clear _h hg)))))
 refine aw_for n (fun k=>∀ j,j<k→p (F j)=true) (fun k=>[(1,.fn (.func g) [] cap),(7,.list 1 n (fun k=>encBools (F k))),(8,vi n),(9,vi k)]) (fun _=>[]) (fun j hj=>by omega) ?_ ?_
 ·(exact zsb [] [])
 intro k hk hJ
 by_cases hkn:k<n
 ·(repeat' (first|(refine ar_isq ?_;refine zq ?_)|(refine ar_pcall (own:=false) hfn rfl rfl (args_closed hcap) (hc _ hkn) (by simp) (dc rfl) ?_;intro _ hv;subst hv)|refine zst ?_|refine zco ?_ ?_|exact zd|(refine fun (hg:(_:Prop))=>?_;(try replace hg:=HG.out hg);(try dsimp only at hg);(try (have _h:True:=hg;clear _h hg)))))
  all_goals first
   | (exfalso;omega)
   | ((first|refine loop_next (by omega) ?_ ?_|refine (show _∧_∧SubOf _ _ _ _ _ _ from And.intro (by omega) (And.intro ?_ ?_)));(focus ((exact all_step hJ (by assumption));done));(focus (exact zsb [] [])))
   | ((refine aw_ret ?_;(repeat (first|refine ret_then ?_|refine ret_block ?_));refine bq1 rfl ⟨?_,rfl⟩);rw [show ((List.range n).all fun k=>p (F k))=false by rw [List.all_eq_false];exact ⟨k,by simpa using hkn,by simp_all⟩];rfl)
 ·(repeat' (first|(refine ar_isq ?_;refine zq ?_)|refine zst ?_|refine zco ?_ ?_|exact zd|(refine fun (hg:(_:Prop))=>?_;(try replace hg:=HG.out hg);(try dsimp only at hg);(try (have _h:True:=hg;clear _h hg)))))
  all_goals first|omega|((refine aw_ret ?_;(repeat (first|refine ret_then ?_|refine ret_block ?_));refine bq1 rfl ⟨?_,rfl⟩);rw [show ((List.range n).all fun k=>p (F k))=true by rw [List.all_eq_true];exact fun j hj=>hJ j (by simp at hj;omega)];rfl)
theorem spellOne_p (z N:Nat) (hz:z≤40) (hN:N≤8) (hwd:-40≤(z:Int)*(4*(N:Int)-1)∧(z:Int)*(4*(N:Int)-1)≤1240) (l:List Bool):PCalls Tryz.prog 77 [encBools l,.ref (vi z) 0,.ref (vi N) 0] (·=vb (decide (wideI z N≤(l.length:Int)))):=by
 refine pcalls_of_aw Tryz.func77 rfl (dc rfl) ?_
 (repeat' (first|(refine ar_isq ?_;refine zq ?_)|(refine zpv fn71 (wide_p z N (by omega) (by omega) (by omega)) ?_)|refine zst ?_|refine zco ?_ ?_|exact zd|(refine fun (hg:(_:Prop))=>?_;(try replace hg:=HG.out hg);(try dsimp only at hg);(try (have _h:True:=hg;clear _h hg)))))
 (refine aw_ret ?_;(repeat (first|refine ret_then ?_|refine ret_block ?_));refine bq1 rfl ⟨?_,rfl⟩)
 rfl
theorem long_range {m:List (List Bool)}{size n:Int}(h5:¬ m.length<5):((List.range (5-0)).all fun k=>decide (wideI size n≤((el m (0+k)).length:Int)))=rowsLong m size n:=by
 cases h:rowsLong m size n
 ·rw [List.all_eq_false]
  unfold rowsLong at h
  rw [List.all_eq_false] at h
  obtain ⟨l,hl,hn⟩:=h
  obtain ⟨j,hj,rfl⟩:=mem_el hl
  have hj5:j<5:=by simp at hj;omega
  refine ⟨j,by simpa using hj5,?_⟩
  rw [el_take hj5] at hn
  rw [Nat.zero_add]
  exact hn
 ·rw [List.all_eq_true]
  intro k hk
  have:=long_at h h5 (r:=k) (by simpa using hk)
  rw [Nat.zero_add]
  simpa using this
theorem lSpell_p (m:List (List Bool)) (size n:Int):PCalls Tryz.prog 42 [encMask m,vi size,vi n] (·=.tup [encInts (spellF m size n),vi (spellErr m size n)]):=by
 (refine pcalls_know (fun I us h=>And.intro (rel_len (rel_arg h (j:=0) rfl)) (fun l (hm:l∈_)=>rel_len (rel_el (rel_arg h (j:=0) rfl) (fun _=>rfl) hm))) fun hlen0=>?_)
 by_cases hin:withinB size 1 40=true∧withinB n 0 8=true
 ·have hsz:=withinB_iff.1 hin.1
  have hnb:=withinB_iff.1 hin.2
  obtain ⟨z,rfl⟩:∃ z:Nat,size=(z:Int):=⟨size.toNat,by omega⟩
  obtain ⟨N,rfl⟩:∃ N:Nat,n=(N:Int):=⟨n.toNat,by omega⟩
  have hwd:=wide_bnd (z:=z) (N:=N) (by omega) (by omega)
  by_cases h5:m.length<5
  ·have he:=spellErr_few hin h5
   rw [spellF_bad (by omega),he]
   refine pcalls_of_aw Tryz.func42 rfl (dc rfl) ?_
   ((repeat refine aw_seq ?_);(first|(refine aw_region ?_)|(refine aw_drawn (id:=18) [(0,0),(1,0),(2,0),(3,0),(4,0),(5,0),(6,0),(7,0),(8,0),(9,0),(10,0),(11,0),(12,0),(13,0)] mixed (by kernel_rfl) ?_)|(refine aw_drawn (id:=24) [(0,0),(1,0),(2,0),(3,0),(4,0),(5,0),(6,0),(7,0),(8,2)] mixed (by kernel_rfl) ?_));(repeat' (first|(refine ar_isq ?_;refine zq ?_)|refine zcl ?_|refine zcs ?_|refine zg ?_ ?_|refine zgu ?_|refine zsr ?_|exact zd|(refine fun (hg:(_:Prop))=>?_;(try replace hg:=HG.out hg);(try dsimp only at hg);(try (have _h:True:=hg;clear _h hg))))))
   (refine aw_mono_r (env':=[(0,encMask m),(4,.ref (vi z) 0),(5,.ref (vi N) 0)]) (H':=[]) ?_ ?_;(focus (exact zsb [] [0,1])))
   (repeat' (first|(refine ar_isq ?_;refine zq ?_)|(refine zpv fn70 (within_p _ _ _) ?_)|refine zcl ?_|refine zcs ?_|refine zg ?_ ?_|refine zgu ?_|refine zst ?_|refine aw_drawn (id:=18) [(0,0),(1,0),(2,0),(3,0),(4,0),(5,0),(6,0),(7,0),(8,0),(9,0),(10,0),(11,0),(12,0),(13,0)] mixed (by kernel_rfl) ?_|refine aw_drawn (id:=24) [(0,0),(1,0),(2,0),(3,0),(4,0),(5,0),(6,0),(7,0),(8,2)] mixed (by kernel_rfl) ?_|refine zco ?_ ?_|exact zd|(refine fun (hg:(_:Prop))=>?_;(try replace hg:=HG.out hg);(try dsimp only at hg);(try (have _h:True:=hg;clear _h hg)))))
   all_goals first
    | (exfalso;simp_all;done)
    | (exfalso;omega)
    | ((refine aw_mono_r (env':=[(6,encInts []),(7,vi 6)]) (H':=[]) ?_ ?_;(focus (exact zsb [] [])));(refine aw_ret ?_;(repeat (first|refine ret_then ?_|refine ret_block ?_));refine bq2 rfl rfl ⟨?_,rfl⟩);rfl)
  ·have hlr:=long_range (m:=m) (size:=z) (n:=N) h5
   cases hlong:rowsLong m z N
   ·have he:=spellErr_short hin h5 hlong
    rw [hlong] at hlr
    rw [spellF_bad (by omega),he]
    refine pcalls_of_aw Tryz.func42 rfl (dc rfl) ?_
    ((repeat refine aw_seq ?_);(first|(refine aw_region ?_)|(refine aw_drawn (id:=18) [(0,0),(1,0),(2,0),(3,0),(4,0),(5,0),(6,0),(7,0),(8,0),(9,0),(10,0),(11,0),(12,0),(13,0)] mixed (by kernel_rfl) ?_)|(refine aw_drawn (id:=24) [(0,0),(1,0),(2,0),(3,0),(4,0),(5,0),(6,0),(7,0),(8,2)] mixed (by kernel_rfl) ?_));(repeat' (first|(refine ar_isq ?_;refine zq ?_)|refine zcl ?_|refine zcs ?_|refine zg ?_ ?_|refine zgu ?_|refine zsr ?_|exact zd|(refine fun (hg:(_:Prop))=>?_;(try replace hg:=HG.out hg);(try dsimp only at hg);(try (have _h:True:=hg;clear _h hg))))))
    (refine aw_mono_r (env':=[(0,encMask m),(4,.ref (vi z) 0),(5,.ref (vi N) 0)]) (H':=[]) ?_ ?_;(focus (exact zsb [] [0,1])))
    (repeat' (first|(refine ar_isq ?_;refine zq ?_)|(refine zpv fn70 (within_p _ _ _) ?_)|(refine zpv fn76 (everyN_p (5-0) (by omega) (fun k=>el m (0+k)) fn77 rfl (fun l=>decide (wideI z N≤(l.length:Int))) (fun k _=>spellOne_p z N (by omega) (by omega) hwd _)) ?_)|refine zcl (a:=0) (b:=5) ?_|refine zcs (a:=0) (b:=5) ?_|refine zg ?_ ?_|refine zgu ?_|refine zst ?_|refine aw_drawn (id:=18) [(0,0),(1,0),(2,0),(3,0),(4,0),(5,0),(6,0),(7,0),(8,0),(9,0),(10,0),(11,0),(12,0),(13,0)] mixed (by kernel_rfl) ?_|refine aw_drawn (id:=24) [(0,0),(1,0),(2,0),(3,0),(4,0),(5,0),(6,0),(7,0),(8,2)] mixed (by kernel_rfl) ?_|refine zco ?_ ?_|exact zd|(refine fun (hg:(_:Prop))=>?_;(try replace hg:=HG.out hg);(try dsimp only at hg);(try (have _h:True:=hg;clear _h hg)))))
    all_goals first
     | (exfalso;exact Bool.noConfusion (hlr.symm.trans (show _=true by assumption)))
     | (exfalso;omega)
     | ((refine aw_mono_r (env':=[(6,encInts []),(7,vi 6)]) (H':=[]) ?_ ?_;(focus (exact zsb [] [])));(refine aw_ret ?_;(repeat (first|refine ret_then ?_|refine ret_block ?_));refine bq2 rfl rfl ⟨?_,rfl⟩);rfl)
     | (exfalso;simp_all;done)
   ·have he:=spellErr_ok hin h5 hlong
    rw [hlong] at hlr
    rw [spellF_ok he,he]
    simp only [Int.toNat_natCast]
    refine pcalls_of_aw Tryz.func42 rfl (dc rfl) ?_
    ((repeat refine aw_seq ?_);(first|(refine aw_region ?_)|(refine aw_drawn (id:=18) [(0,0),(1,0),(2,0),(3,0),(4,0),(5,0),(6,0),(7,0),(8,0),(9,0),(10,0),(11,0),(12,0),(13,0)] mixed (by kernel_rfl) ?_)|(refine aw_drawn (id:=24) [(0,0),(1,0),(2,0),(3,0),(4,0),(5,0),(6,0),(7,0),(8,2)] mixed (by kernel_rfl) ?_));(repeat' (first|(refine ar_isq ?_;refine zq ?_)|refine zcl ?_|refine zcs ?_|refine zg ?_ ?_|refine zgu ?_|refine zsr ?_|exact zd|(refine fun (hg:(_:Prop))=>?_;(try replace hg:=HG.out hg);(try dsimp only at hg);(try (have _h:True:=hg;clear _h hg))))))
    (refine aw_mono_r (env':=[(0,encMask m),(4,.ref (vi z) 0),(5,.ref (vi N) 0)]) (H':=[]) ?_ ?_;(focus (exact zsb [] [0,1])))
    (repeat' (first|(refine ar_isq ?_;refine zq ?_)|(refine zpv fn70 (within_p _ _ _) ?_)|(refine zpv fn76 (everyN_p (5-0) (by omega) (fun k=>el m (0+k)) fn77 rfl (fun l=>decide (wideI z N≤(l.length:Int))) (fun k _=>spellOne_p z N (by omega) (by omega) hwd _)) ?_)|refine zcl (a:=0) (b:=5) ?_|refine zcs (a:=0) (b:=5) ?_|refine zg ?_ ?_|refine zgu ?_|refine zst ?_|refine aw_drawn (id:=18) [(0,0),(1,0),(2,0),(3,0),(4,0),(5,0),(6,0),(7,0),(8,0),(9,0),(10,0),(11,0),(12,0),(13,0)] mixed (by kernel_rfl) ?_|refine aw_drawn (id:=24) [(0,0),(1,0),(2,0),(3,0),(4,0),(5,0),(6,0),(7,0),(8,2)] mixed (by kernel_rfl) ?_|refine zco ?_ ?_|exact zd|(refine fun (hg:(_:Prop))=>?_;(try replace hg:=HG.out hg);(try dsimp only at hg);(try (have _h:True:=hg;clear _h hg)))))
    all_goals (try (exfalso;exact Bool.noConfusion (hlr.symm.trans (show _=false by assumption))))
    all_goals (try (exfalso;omega))
    all_goals (try (exfalso;exact Bool.noConfusion (hin.1.symm.trans (show _=false by assumption))))
    all_goals (try (exfalso;exact Bool.noConfusion (hin.2.symm.trans (show _=false by assumption))))
    refine aw_for N (fun _=>True) (fun g=>[(0,encMask m),(4,.ref (vi z) 0),(5,.ref (vi N) 0),(8,.sl 1 0 0 (spellTo m z g).length),(35,vi N),(36,vi g)]) (fun g=>[LB 1 vi (spellTo m z g)]) trivial ?_ ?_
    ·(exact zsb [none] [])
    intro g hg _
    have hsl:=spellTo_len m z g
    by_cases hltg:g<N
    ·(repeat' (first|(refine ar_isq ?_;refine zq ?_)|refine zcl ?_|refine zcs ?_|refine zg ?_ ?_|refine zgu ?_|refine zst ?_|refine aw_drawn (id:=18) [(0,0),(1,0),(2,0),(3,0),(4,0),(5,0),(6,0),(7,0),(8,0),(9,0),(10,0),(11,0),(12,0),(13,0)] mixed (by kernel_rfl) ?_|refine aw_drawn (id:=24) [(0,0),(1,0),(2,0),(3,0),(4,0),(5,0),(6,0),(7,0),(8,2)] mixed (by kernel_rfl) ?_|refine zco ?_ ?_|exact zd|(refine fun (hg:(_:Prop))=>?_;(try replace hg:=HG.out hg);(try dsimp only at hg);(try (have _h:True:=hg;clear _h hg)))))
     all_goals (try (exfalso;omega))
     refine aw_for 5 (fun _=>True) (fun r=>[(0,encMask m),(4,.ref (vi z) 0),(5,.ref (vi N) 0),(8,.sl 1 0 0 (spellTo m z g).length),(35,vi N),(36,vi g),(9,vi g),(10,.ptr 15 1 0 0),(39,vi r)]) (fun r=>[LB 1 vi (spellTo m z g),.arr 15 1 (fun _=>gAgg (pF m z g (3*r)))]) trivial ?_ ?_
     ·(refine sub_to [some 0,some 1] [] rfl ?_ ?_<;>(repeat' (first|exact trivial|refine ⟨⟨_,rfl,?_⟩,?_⟩|refine vs1 ?_ ?_|refine vs2 ?_ ?_|refine vs3 ?_|refine vs4 ?_ ?_|refine ⟨.inl ⟨_,_,rfl,rfl,?_⟩,?_⟩|exact ⟨.inr ⟨rfl,rfl⟩,trivial⟩|refine ⟨.inr ⟨rfl,rfl⟩,?_⟩|(intro _ _)|exact vz1|(exact VSub.of_eq (pF_zero m z g).symm rfl)|exact vz2|fail)))
     intro r hr _
     by_cases hltr:r<5
     ·have hlr2:=long_at hlong h5 hltr
      have hl:=hlen0.2 _ (el_mem (l:=m) (k:=r) (by omega))
      (repeat' (first|(refine ar_isq ?_;refine zq ?_)|refine zcl ?_|refine zcs ?_|refine zg ?_ ?_|refine zgu ?_|refine zst ?_|refine aw_drawn (id:=18) [(0,0),(1,0),(2,0),(3,0),(4,0),(5,0),(6,0),(7,0),(8,0),(9,0),(10,0),(11,0),(12,0),(13,0)] mixed (by kernel_rfl) ?_|refine aw_drawn (id:=24) [(0,0),(1,0),(2,0),(3,0),(4,0),(5,0),(6,0),(7,0),(8,2)] mixed (by kernel_rfl) ?_|refine zco ?_ ?_|exact zd|(refine fun (hg:(_:Prop))=>?_;(try replace hg:=HG.out hg);(try dsimp only at hg);(try (have _h:True:=hg;clear _h hg)))))
      all_goals (try (exfalso;omega))
      refine aw_for 3 (fun _=>True) (fun k=>[(0,encMask m),(4,.ref (vi z) 0),(5,.ref (vi N) 0),(8,.sl 1 0 0 (spellTo m z g).length),(35,vi N),(36,vi g),(9,vi g),(10,.ptr 15 1 0 0),(39,vi r),(11,vi r),(42,vi k)]) (fun k=>[LB 1 vi (spellTo m z g),.arr 15 1 (fun _=>gAgg (pF m z g (3*r+k)))]) trivial ?_ ?_
      ·(exact zsb [some 0,some 1] [])
      intro k hk _
      by_cases hltk:k<3
      ·have hcs:=cell_small (z:=z) (g:=g) (k:=k) (by omega) (by omega) hltk
       have hcn:=cell_in (z:=z) (g:=g) (k:=k) (N:=N) hltg hltk
       have hzz:(z:Int)*(4*(g:Int)+(k:Int))=((z*(4*g+k):Nat):Int):=by rw [Int.natCast_mul,Int.natCast_add,Int.natCast_mul];rfl
       have hwi:wideI z N=((z*(4*N-1):Nat):Int):=by
        unfold wideI
        rw [Int.natCast_mul]
        congr 1
        omega
       (repeat' (first|(refine ar_isq ?_;refine zq ?_)|refine zil (j:=r) ?_|refine zis (j:=r) ?_|refine zit (j:=r) ?_|((refine ar_re (t:=58) (v':=vi ((z*(4*g+k)+z:Nat):Int)) rfl (congrArg vi (by omega)) ?_;refine ar_re (t:=61) (v':=vi ((z*(4*g+k)+z:Nat):Int)) rfl (congrArg vi (by omega)) ?_;refine ar_q (qs_slice3_list (l:=z*(4*g+k)) (h:=z*(4*g+k)+z) (m:=z*(4*g+k)+z) (ty rfl) rfl (ty rfl) rfl rfl (bnd_some rfl (by omega)) rfl rfl (by omega) (by omega) (by omega)) (dc rfl) ?_))|refine zcl ?_|refine zcs ?_|refine zg ?_ ?_|refine zgu ?_|refine zst ?_|refine aw_drawn (id:=18) [(0,0),(1,0),(2,0),(3,0),(4,0),(5,0),(6,0),(7,0),(8,0),(9,0),(10,0),(11,0),(12,0),(13,0)] mixed (by kernel_rfl) ?_|refine aw_drawn (id:=24) [(0,0),(1,0),(2,0),(3,0),(4,0),(5,0),(6,0),(7,0),(8,2)] mixed (by kernel_rfl) ?_|refine zco ?_ ?_|exact zd|(refine fun (hg:(_:Prop))=>?_;(try replace hg:=HG.out hg);(try dsimp only at hg);(try (have _h:True:=hg;clear _h hg)))))
       all_goals (try (exfalso;omega))
       refine aw_for z (fun _=>True) (fun c=>[(0,encMask m),(4,.ref (vi z) 0),(5,.ref (vi N) 0),(8,.sl 1 0 0 (spellTo m z g).length),(35,vi N),(36,vi g),(9,vi g),(10,.ptr 15 1 0 0),(39,vi r),(11,vi r),(42,vi k),(12,vi k),(14,vi ((cntTo (el m r) (z*(4*g+k)) c:Nat):Int)),(62,.list 1 (z*(4*g+k)+z-z*(4*g+k)) (fun q=>vb (el (el m r) (z*(4*g+k)+q)))),(63,vi ((z*(4*g+k)+z-z*(4*g+k):Nat):Int)),(64,vi c)]) (fun _=>[LB 1 vi (spellTo m z g),.arr 15 1 (fun _=>gAgg (pF m z g (3*r+k)))]) trivial ?_ ?_
       ·(exact zsb [some 0,some 1] [])
       intro c hc _
       have hcl:=cntTo_le (el m r) (z*(4*g+k)) c
       by_cases hltc:c<z
       ·(repeat' (first|(refine ar_isq ?_;refine zq ?_)|refine zil (j:=c) ?_|refine zis (j:=c) ?_|refine zit (j:=c) ?_|refine zcl ?_|refine zcs ?_|refine zg ?_ ?_|refine zgu ?_|refine zst ?_|refine aw_drawn (id:=18) [(0,0),(1,0),(2,0),(3,0),(4,0),(5,0),(6,0),(7,0),(8,0),(9,0),(10,0),(11,0),(12,0),(13,0)] mixed (by kernel_rfl) ?_|refine aw_drawn (id:=24) [(0,0),(1,0),(2,0),(3,0),(4,0),(5,0),(6,0),(7,0),(8,2)] mixed (by kernel_rfl) ?_|refine zco ?_ ?_|exact zd|(refine fun (hg:(_:Prop))=>?_;(try replace hg:=HG.out hg);(try dsimp only at hg);(try (have _h:True:=hg;clear _h hg)))))
        all_goals first
         | (exfalso;omega)
         | ((first|refine loop_next (by omega) ?_ ?_|refine (show _∧_∧SubOf _ _ _ _ _ _ from And.intro (by omega) (And.intro ?_ ?_)));(focus ((trivial);done));(focus ((refine sub_to [some 0,some 1] [] rfl ?_ ?_<;>(repeat' (first|exact trivial|refine ⟨⟨_,rfl,?_⟩,?_⟩|refine vs1 ?_ ?_|refine vs2 ?_ ?_|refine vs3 ?_|refine vs4 ?_ ?_|refine ⟨.inl ⟨_,_,rfl,rfl,?_⟩,?_⟩|exact ⟨.inr ⟨rfl,rfl⟩,trivial⟩|refine ⟨.inr ⟨rfl,rfl⟩,?_⟩|(intro _ _)|exact vz1|(first|exact siEq (by simp only [cntTo];rw [if_pos (by assumption)];omega)|exact siEq (by simp only [cntTo];rw [if_neg (by simp_all)];omega))|exact vz2|fail)));done)))
       ·obtain rfl:c=z:=by omega
        have hgl:=glyph_at (m:=m) (z:=c) (g:=g) (r:=r) hltk
        (repeat' (first|(refine ar_isq ?_;refine zq ?_)|refine ar_q (qs_iaddr_aptr (j:=r) (ty rfl) rfl (ty rfl) rfl rfl (by omega) (by omega)) (dc rfl) ?_|refine ar_q (qs_iaddr_aptr (j:=k) (ty rfl) rfl (ty rfl) rfl rfl (by omega) (by omega)) (dc rfl) ?_|refine zcl ?_|refine zcs ?_|refine zg ?_ ?_|refine zgu ?_|refine zst ?_|refine aw_drawn (id:=18) [(0,0),(1,0),(2,0),(3,0),(4,0),(5,0),(6,0),(7,0),(8,0),(9,0),(10,0),(11,0),(12,0),(13,0)] mixed (by kernel_rfl) ?_|refine aw_drawn (id:=24) [(0,0),(1,0),(2,0),(3,0),(4,0),(5,0),(6,0),(7,0),(8,2)] mixed (by kernel_rfl) ?_|refine zco ?_ ?_|exact zd|(refine fun (hg:(_:Prop))=>?_;(try replace hg:=HG.out hg);(try dsimp only at hg);(try (have _h:True:=hg;clear _h hg)))))
        all_goals first
         | (exfalso;omega)
         | ((first|refine loop_next (by omega) ?_ ?_|refine (show _∧_∧SubOf _ _ _ _ _ _ from And.intro (by omega) (And.intro ?_ ?_)));(focus ((trivial);done));(focus ((refine sub_to [some 0,some 1] [] rfl ?_ ?_<;>(repeat' (first|exact trivial|refine ⟨⟨_,rfl,?_⟩,?_⟩|refine vs1 ?_ ?_|refine vs2 ?_ ?_|refine vs3 ?_|refine vs4 ?_ ?_|refine ⟨.inl ⟨_,_,rfl,rfl,?_⟩,?_⟩|exact ⟨.inr ⟨rfl,rfl⟩,trivial⟩|refine ⟨.inr ⟨rfl,rfl⟩,?_⟩|(intro _ _)|exact vz1|(exact VSub.of_eq (pF_step (by omega) (by dsimp only;omega) (half_cnt.trans (by rw [hgl];rfl))) rfl)|exact vz2|fail)));done)))
      ·obtain rfl:k=3:=by omega
       (repeat' (first|(refine ar_isq ?_;refine zq ?_)|refine zcl ?_|refine zcs ?_|refine zg ?_ ?_|refine zgu ?_|refine zst ?_|refine aw_drawn (id:=18) [(0,0),(1,0),(2,0),(3,0),(4,0),(5,0),(6,0),(7,0),(8,0),(9,0),(10,0),(11,0),(12,0),(13,0)] mixed (by kernel_rfl) ?_|refine aw_drawn (id:=24) [(0,0),(1,0),(2,0),(3,0),(4,0),(5,0),(6,0),(7,0),(8,2)] mixed (by kernel_rfl) ?_|refine zco ?_ ?_|exact zd|(refine fun (hg:(_:Prop))=>?_;(try replace hg:=HG.out hg);(try dsimp only at hg);(try (have _h:True:=hg;clear _h hg)))))
       all_goals first
        | (exfalso;omega)
        | ((first|refine loop_next (by omega) ?_ ?_|refine (show _∧_∧SubOf _ _ _ _ _ _ from And.intro (by omega) (And.intro ?_ ?_)));(focus ((trivial);done));(focus ((refine sub_to [some 0,some 1] [] rfl ?_ ?_<;>(repeat' (first|exact trivial|refine ⟨⟨_,rfl,?_⟩,?_⟩|refine vs1 ?_ ?_|refine vs2 ?_ ?_|refine vs3 ?_|refine vs4 ?_ ?_|refine ⟨.inl ⟨_,_,rfl,rfl,?_⟩,?_⟩|exact ⟨.inr ⟨rfl,rfl⟩,trivial⟩|refine ⟨.inr ⟨rfl,rfl⟩,?_⟩|(intro _ _)|exact vz1|(exact VSub.closed rfl)|exact vz2|fail)));done)))
     ·obtain rfl:r=5:=by omega
      have hnn:numTo (pF m z g 15) 15=numTo (glyphB m z g) 15:=numTo_congr fun j hj=>by simp [pF,hj]
      (repeat' (first|(refine ar_isq ?_;refine zq ?_)|(refine zpv fn78 (number_p (pF m z g 15)) ?_)|refine zcl ?_|refine zcs ?_|refine zg ?_ ?_|refine zgu ?_|refine zst ?_|refine aw_drawn (id:=18) [(0,0),(1,0),(2,0),(3,0),(4,0),(5,0),(6,0),(7,0),(8,0),(9,0),(10,0),(11,0),(12,0),(13,0)] mixed (by kernel_rfl) ?_|refine aw_drawn (id:=24) [(0,0),(1,0),(2,0),(3,0),(4,0),(5,0),(6,0),(7,0),(8,2)] mixed (by kernel_rfl) ?_|refine zco ?_ ?_|exact zd|(refine fun (hg:(_:Prop))=>?_;(try replace hg:=HG.out hg);(try dsimp only at hg);(try (have _h:True:=hg;clear _h hg)))))
      all_goals first
       | (exfalso;omega)
       | (rw [spellTo_succ];((first|refine loop_next (by omega) ?_ ?_|refine (show _∧_∧SubOf _ _ _ _ _ _ from And.intro (by omega) (And.intro ?_ ?_)));(focus ((trivial);done));(focus ((refine sub_to [some 3] [] rfl ?_ ?_<;>(repeat' (first|exact trivial|refine ⟨⟨_,rfl,?_⟩,?_⟩|refine vs1 ?_ ?_|refine vs2 ?_ ?_|refine vs3 ?_|refine vs4 ?_ ?_|refine ⟨.inl ⟨_,_,rfl,rfl,?_⟩,?_⟩|exact ⟨.inr ⟨rfl,rfl⟩,trivial⟩|refine ⟨.inr ⟨rfl,rfl⟩,?_⟩|(intro _ _)|exact vz1|(exact siEq (by rw [hnn]))|exact vz2|fail)));done))))
    ·obtain rfl:g=N:=by omega
     (repeat' (first|(refine ar_isq ?_;refine zq ?_)|refine zcl ?_|refine zcs ?_|refine zg ?_ ?_|refine zgu ?_|refine zst ?_|refine aw_drawn (id:=18) [(0,0),(1,0),(2,0),(3,0),(4,0),(5,0),(6,0),(7,0),(8,0),(9,0),(10,0),(11,0),(12,0),(13,0)] mixed (by kernel_rfl) ?_|refine aw_drawn (id:=24) [(0,0),(1,0),(2,0),(3,0),(4,0),(5,0),(6,0),(7,0),(8,2)] mixed (by kernel_rfl) ?_|refine zco ?_ ?_|exact zd|(refine fun (hg:(_:Prop))=>?_;(try replace hg:=HG.out hg);(try dsimp only at hg);(try (have _h:True:=hg;clear _h hg)))))
     all_goals first
      | (exfalso;omega)
      | ((refine aw_mono_r (env':=[(6,encInts (spellTo m z g)),(7,vi 0)]) (H':=[]) ?_ ?_;(focus (exact zsb [] [0])));(refine aw_ret ?_;(repeat (first|refine ret_then ?_|refine ret_block ?_));refine bq2 rfl rfl ⟨?_,rfl⟩);rfl)
 ·have he:=spellErr_arg (m:=m) hin
  rw [spellF_bad (by omega),he]
  refine pcalls_of_aw Tryz.func42 rfl (dc rfl) ?_
  (repeat' (first|(refine ar_isq ?_;refine zq ?_)|(refine zpv fn70 (within_p _ _ _) ?_)|refine zcl ?_|refine zcs ?_|refine zg ?_ ?_|refine zgu ?_|refine zst ?_|refine aw_drawn (id:=18) [(0,0),(1,0),(2,0),(3,0),(4,0),(5,0),(6,0),(7,0),(8,0),(9,0),(10,0),(11,0),(12,0),(13,0)] mixed (by kernel_rfl) ?_|refine aw_drawn (id:=24) [(0,0),(1,0),(2,0),(3,0),(4,0),(5,0),(6,0),(7,0),(8,2)] mixed (by kernel_rfl) ?_|refine zco ?_ ?_|exact zd|(refine fun (hg:(_:Prop))=>?_;(try replace hg:=HG.out hg);(try dsimp only at hg);(try (have _h:True:=hg;clear _h hg)))))
  all_goals first
   | (exfalso;simp_all;done)
   | ((refine aw_mono_r (env':=[(6,encInts []),(7,vi 2)]) (H':=[]) ?_ ?_;(focus (exact zsb [] [])));(refine aw_ret ?_;(repeat (first|refine ret_then ?_|refine ret_block ?_));refine bq2 rfl rfl ⟨?_,rfl⟩);rfl)
def maskAt (w:List Int) (r g k:Nat):Bool:=decide (r<5)&&(decide (g<w.length)&&(decide (k<3)&&bitB (el w g).toNat (r*3+k)))
def maskRow (w:List Int) (z r n:Nat):List Bool:=(List.range n).map fun c=>maskAt w r (c/(4*z)) (c % (4*z)/z)
def maskTo (w:List Int) (z C n:Nat):List (List Bool):=(List.range n).map fun r=>maskRow w z r C
theorem maskRow_len (w:List Int) (z r n:Nat):(maskRow w z r n).length=n:=by simp [maskRow]
theorem maskTo_len (w:List Int) (z C n:Nat):(maskTo w z C n).length=n:=by simp [maskTo]
def wordB (w:List Int):Bool:=w.all fun n=>withinB n 0 32767
def maskErr (w:List Int) (z C L:Int):Int:=if 8<w.length then 4 else (if wordB w=true∧withinB z 1 40=true∧withinB C 1 40=true∧withinB L 1 12=true then (if L<5∨C<wideI z w.length then 6 else 0) else 2)
def maskF (w:List Int) (z C L:Int):List (List Bool):=if maskErr w z C L=0 then maskTo w z.toNat C.toNat L.toNat else []
theorem maskErr_many {w:List Int}{z C L:Int}(h:8<w.length):maskErr w z C L=4:=by simp [maskErr,h]
theorem maskErr_word {w:List Int}{z C L:Int}(h:¬ 8<w.length) (h2:wordB w=false):maskErr w z C L=2:=by simp [maskErr,h,h2]
theorem maskErr_arg {w:List Int}{z C L:Int}(h:¬ 8<w.length) (h2:¬ (withinB z 1 40=true∧withinB C 1 40=true∧withinB L 1 12=true)):maskErr w z C L=2:=by
 unfold maskErr
 rw [if_neg h,if_neg (fun h3=>h2 h3.2)]
theorem maskErr_fit {w:List Int}{z C L:Int}(h:¬ 8<w.length) (h1:wordB w=true) (h2:withinB z 1 40=true∧withinB C 1 40=true∧withinB L 1 12=true) (h3:L<5∨C<wideI z w.length):maskErr w z C L=6:=by
 unfold maskErr
 rw [if_neg h,if_pos ⟨h1,h2⟩,if_pos h3]
theorem maskErr_ok {w:List Int}{z C L:Int}(h:¬ 8<w.length) (h1:wordB w=true) (h2:withinB z 1 40=true∧withinB C 1 40=true∧withinB L 1 12=true) (h3:¬ (L<5∨C<wideI z w.length)):maskErr w z C L=0:=by
 unfold maskErr
 rw [if_neg h,if_pos ⟨h1,h2⟩,if_neg h3]
theorem maskF_bad {w:List Int}{z C L:Int}(h:maskErr w z C L≠0):maskF w z C L=[]:=by simp [maskF,h]
theorem maskF_ok {w:List Int}{z C L:Int}(h:maskErr w z C L=0):maskF w z C L=maskTo w z.toNat C.toNat L.toNat:=by simp [maskF,h]
theorem maskAt_t {w:List Int}{r g k:Nat}(h1:r<5) (h2:g<w.length) (h3:k<3):maskAt w r g k=bitB (el w g).toNat (r*3+k):=by simp [maskAt,h1,h2,h3]
def mDone (i r k r' q:Nat):Bool:=decide (q/4<i)||(decide (q/4=i)&&(decide (r'<r)||(decide (r'=r)&&decide (q % 4<k))))
def mPart (w:List Int) (z i r k r' c:Nat):Bool:=mDone i r k r' (c/z)&&maskAt w r' (c/z/4) (c/z % 4)
abbrev mFam (w:List Int) (z C L i r k:Nat):Heap:=famTo L C L fun r' c=>vb (mPart w z i r k r' c)
theorem mDone_iff {i r k r' q:Nat}:mDone i r k r' q=true↔q/4<i∨q/4=i∧(r'<r∨r'=r∧q % 4<k):=by simp [mDone]
theorem bool_iff {a b:Bool}(h:a=true↔b=true):a=b:=by cases a<;>cases b<;>simp_all
theorem maskAt_iff {w:List Int}{r g k:Nat}:maskAt w r g k=true↔r<5∧g<w.length∧k<3∧bitB (el w g).toNat (r*3+k)=true:=by simp [maskAt]
theorem mPart_eq {w:List Int}{z i r k i2 r2 k2 r' c:Nat}(h:r'<5→c/z/4<w.length→c/z % 4<3→(mDone i r k r' (c/z)=true↔mDone i2 r2 k2 r' (c/z)=true)):mPart w z i r k r' c=mPart w z i2 r2 k2 r' c:=by
 refine bool_iff ?_
 unfold mPart
 simp only [Bool.and_eq_true,maskAt_iff]
 constructor<;>rintro ⟨h1,h2,h3,h4,h5⟩
 ·exact ⟨(h h2 h3 h4).1 h1,h2,h3,h4,h5⟩
 ·exact ⟨(h h2 h3 h4).2 h1,h2,h3,h4,h5⟩
theorem mPart_start (w:List Int) (z r' c:Nat):mPart w z 0 0 0 r' c=false:=by
 unfold mPart
 rw [show mDone 0 0 0 r' (c/z)=false from Bool.eq_false_iff.2 fun h=>by generalize c/z=q at h;have:=mDone_iff.1 h;omega]
 rfl
theorem mPart_row {w:List Int}{z i r r' c:Nat}:mPart w z i r 3 r' c=mPart w z i (r+1) 0 r' c:=mPart_eq fun h1 h2 h3=>by rw [mDone_iff,mDone_iff];omega
theorem mPart_glyph {w:List Int}{z i r' c:Nat}:mPart w z i 5 0 r' c=mPart w z (i+1) 0 0 r' c:=mPart_eq fun h1 h2 h3=>by rw [mDone_iff,mDone_iff];omega
theorem mPart_end {w:List Int}{z r' c:Nat}:mPart w z w.length 0 0 r' c=maskAt w r' (c/(4*z)) (c % (4*z)/z):=by
 have e1:c/(4*z)=c/z/4:=by rw [Nat.mul_comm,Nat.div_div_eq_div_mul]
 have e2:c % (4*z)/z=c/z % 4:=by rw [Nat.mul_comm,Nat.mod_mul_right_div_self]
 rw [e1,e2]
 refine bool_iff ?_
 unfold mPart
 simp only [Bool.and_eq_true,maskAt_iff,mDone_iff]
 constructor
 ·rintro ⟨_,h⟩;exact h
 ·rintro ⟨h1,h2,h3,h4⟩;exact ⟨.inl h2,h1,h2,h3,h4⟩
theorem cell_iff {z i k c:Nat}(hz:0<z):(z*(4*i+k)≤c∧c<z*(4*i+k)+z)↔c/z=4*i+k:=by
 constructor
 ·rintro ⟨h1,h2⟩
  refine Nat.div_eq_of_lt_le ?_ ?_
  ·rw [Nat.mul_comm];exact h1
  ·rw [Nat.mul_comm,Nat.mul_succ];exact h2
 ·intro h
  have h1:=Nat.div_add_mod c z
  have h2:=Nat.mod_lt c hz
  rw [h] at h1
  omega
theorem mPart_other {w:List Int}{z i r k r' c:Nat}(h:r'≠r):mPart w z i r k r' c=mPart w z i r (k+1) r' c:=mPart_eq fun h1 h2 h3=>by rw [mDone_iff,mDone_iff];omega
theorem repB_at {b:Bool}{z j:Nat}(h:j<z):el (repF [b] z) j=b:=by
 rw [repF_el (by simpa using h),show ([b]:List Bool).length=1 from rfl,Nat.mod_one]
 rfl
theorem mPart_step {w:List Int}{z i r k c:Nat}{b:Bool}(hz:0<z) (hk:k<3) (hr:r<5) (hi:i<w.length) (hb:b=bitB (el w i).toNat (3*r+k)) :
  copyF (fun c=>vb (mPart w z i r k r c)) (z*(4*i+k)) z (fun j=>vb (el (repF [b] z) j)) c=vb (mPart w z i r (k+1) r c):=by
 by_cases h:z*(4*i+k)≤c∧c<z*(4*i+k)+z
 ·rw [copyF_in h.1 h.2,repB_at (by omega)]
  have hq:=(cell_iff hz).1 h
  congr 1
  unfold mPart
  rw [hq,show (4*i+k)/4=i by omega,show (4*i+k) % 4=k by omega,maskAt_t hr hi hk,show mDone i r (k+1) r (4*i+k)=true from mDone_iff.2 (by omega),hb,Nat.mul_comm 3 r]
  rfl
 ·rw [copyF_out (by omega)]
  have hq:¬ c/z=4*i+k:=fun e=>h ((cell_iff hz).2 e)
  congr 1
  exact mPart_eq fun h1 h2 h3=>by rw [mDone_iff,mDone_iff];generalize c/z=q at h2 h3 hq ⊢;omega
theorem glyphWord_p (n:Int):PCalls Tryz.prog 69 [vi n] (·=vb (withinB n 0 32767)):=by
 refine pcalls_of_aw Tryz.func69 rfl (dc rfl) ?_
 (repeat' (first|(refine ar_isq ?_;refine zq ?_)|(refine zpv fn70 (within_p _ _ _) ?_)|refine zst ?_|refine zco ?_ ?_|exact zd|(refine fun (hg:(_:Prop))=>?_;(try replace hg:=HG.out hg);(try dsimp only at hg);(try (have _h:True:=hg;clear _h hg)))))
 (refine aw_ret ?_;(repeat (first|refine ret_then ?_|refine ret_block ?_));refine bq1 rfl ⟨?_,rfl⟩)
 rfl
theorem lMask_bad (w:List Int) (size cols lines:Int) (hne:maskErr w size cols lines≠0):PCalls Tryz.prog 40 [encInts w,vi size,vi cols,vi lines] (·=.tup [encMask (maskF w size cols lines),vi (maskErr w size cols lines)]):=by
 (refine pcalls_know (fun I us h=>rel_len (rel_arg h (j:=0) rfl)) fun hlen0=>?_)
 by_cases h8:8<w.length
 ·have he:=maskErr_many (z:=size) (C:=cols) (L:=lines) h8
  rw [maskF_bad (by omega),he]
  refine pcalls_of_aw Tryz.func40 rfl (dc rfl) ?_
  (repeat' (first|(refine ar_isq ?_;refine zq ?_)|refine zcl ?_|refine zcs ?_|refine zcpl ?_|refine zcpo ?_|refine zg ?_ ?_|refine zgu ?_|refine zst ?_|refine aw_drawn (id:=23) [(0,0),(1,0),(2,0),(3,0),(4,0),(5,0),(6,0),(8,0),(7,1),(9,1),(10,2)] mixed (by kernel_rfl) ?_|refine zco ?_ ?_|exact zd|(refine fun (hg:(_:Prop))=>?_;(try replace hg:=HG.out hg);(try dsimp only at hg);(try (have _h:True:=hg;clear _h hg)))))
  all_goals first
   | (exfalso;omega)
   | ((refine aw_mono_r (env':=[(8,encMask []),(9,vi 4)]) (H':=[]) ?_ ?_;(focus (exact zsb [] [])));(refine aw_ret ?_;(repeat (first|refine ret_then ?_|refine ret_block ?_));refine bq2 rfl rfl ⟨?_,rfl⟩);rfl)
 cases hw:wordB w
 ·have he:=maskErr_word (z:=size) (C:=cols) (L:=lines) h8 hw
  rw [maskF_bad (by omega),he]
  unfold wordB at hw
  refine pcalls_of_aw Tryz.func40 rfl (dc rfl) ?_
  (repeat' (first|(refine ar_isq ?_;refine zq ?_)|(refine zpv fn68 (everyInts_p w fn69 rfl _ (fun l _=>glyphWord_p l)) ?_)|(refine zpv fn70 (within_p _ _ _) ?_)|refine zcl ?_|refine zcs ?_|refine zcpl ?_|refine zcpo ?_|refine zg ?_ ?_|refine zgu ?_|refine zst ?_|refine aw_drawn (id:=23) [(0,0),(1,0),(2,0),(3,0),(4,0),(5,0),(6,0),(8,0),(7,1),(9,1),(10,2)] mixed (by kernel_rfl) ?_|refine zco ?_ ?_|exact zd|(refine fun (hg:(_:Prop))=>?_;(try replace hg:=HG.out hg);(try dsimp only at hg);(try (have _h:True:=hg;clear _h hg)))))
  all_goals first
   | (exfalso;omega)
   | ((refine aw_mono_r (env':=[(8,encMask []),(9,vi 2)]) (H':=[]) ?_ ?_;(focus (exact zsb [] [])));(refine aw_ret ?_;(repeat (first|refine ret_then ?_|refine ret_block ?_));refine bq2 rfl rfl ⟨?_,rfl⟩);rfl)
   | (exfalso;simp_all;done)
 have hwv:∀ j,j<w.length→0≤el w j∧el w j≤32767:=fun j hj=>withinB_iff.1 (of_all_el hw hj)
 by_cases hin:withinB size 1 40=true∧withinB cols 1 40=true∧withinB lines 1 12=true
 ·have b1:=withinB_iff.1 hin.1
  have b2:=withinB_iff.1 hin.2.1
  have b3:=withinB_iff.1 hin.2.2
  obtain ⟨z,rfl⟩:∃ z:Nat,size=(z:Int):=⟨size.toNat,by omega⟩
  obtain ⟨C,rfl⟩:∃ C:Nat,cols=(C:Int):=⟨cols.toNat,by omega⟩
  obtain ⟨L,rfl⟩:∃ L:Nat,lines=(L:Int):=⟨lines.toNat,by omega⟩
  have hwd:=wide_bnd (z:=z) (N:=w.length) (by omega) (by omega)
  by_cases hfit:(L:Int)<5∨(C:Int)<wideI z w.length
  ·have he:=maskErr_fit h8 hw hin hfit
   rw [maskF_bad (by omega),he]
   unfold wideI at hfit
   unfold wordB at hw
   refine pcalls_of_aw Tryz.func40 rfl (dc rfl) ?_
   (repeat' (first|(refine ar_isq ?_;refine zq ?_)|(refine zpv fn68 (everyInts_p w fn69 rfl _ (fun l _=>glyphWord_p l)) ?_)|(refine zpv fn70 (within_p _ _ _) ?_)|(refine zpv fn71 (wide_p z w.length (by omega) (by omega) (by omega)) ?_)|refine zcl ?_|refine zcs ?_|refine zcpl ?_|refine zcpo ?_|refine zg ?_ ?_|refine zgu ?_|refine zst ?_|refine aw_drawn (id:=23) [(0,0),(1,0),(2,0),(3,0),(4,0),(5,0),(6,0),(8,0),(7,1),(9,1),(10,2)] mixed (by kernel_rfl) ?_|refine zco ?_ ?_|exact zd|(refine fun (hg:(_:Prop))=>?_;(try replace hg:=HG.out hg);(try dsimp only at hg);(try (have _h:True:=hg;clear _h hg)))))
   all_goals first
    | (exfalso;omega)
    | ((refine aw_mono_r (env':=[(8,encMask []),(9,vi 6)]) (H':=[]) ?_ ?_;(focus (exact zsb [] [])));(refine aw_ret ?_;(repeat (first|refine ret_then ?_|refine ret_block ?_));refine bq2 rfl rfl ⟨?_,rfl⟩);rfl)
    | (exfalso;simp_all;done)
  ·exact (hne (maskErr_ok h8 hw hin hfit)).elim
 ·have he:=maskErr_arg h8 hin
  rw [maskF_bad (by omega),he]
  unfold wordB at hw
  refine pcalls_of_aw Tryz.func40 rfl (dc rfl) ?_
  (repeat' (first|(refine ar_isq ?_;refine zq ?_)|(refine zpv fn68 (everyInts_p w fn69 rfl _ (fun l _=>glyphWord_p l)) ?_)|(refine zpv fn70 (within_p _ _ _) ?_)|refine zcl ?_|refine zcs ?_|refine zcpl ?_|refine zcpo ?_|refine zg ?_ ?_|refine zgu ?_|refine zst ?_|refine aw_drawn (id:=23) [(0,0),(1,0),(2,0),(3,0),(4,0),(5,0),(6,0),(8,0),(7,1),(9,1),(10,2)] mixed (by kernel_rfl) ?_|refine zco ?_ ?_|exact zd|(refine fun (hg:(_:Prop))=>?_;(try replace hg:=HG.out hg);(try dsimp only at hg);(try (have _h:True:=hg;clear _h hg)))))
  all_goals first
   | (exfalso;simp_all;done)
   | ((refine aw_mono_r (env':=[(8,encMask []),(9,vi 2)]) (H':=[]) ?_ ?_;(focus (exact zsb [] [])));(refine aw_ret ?_;(repeat (first|refine ret_then ?_|refine ret_block ?_));refine bq2 rfl rfl ⟨?_,rfl⟩);rfl)
theorem lMask_ok (w:List Int) (z C L:Nat) (h8:¬ 8<w.length) (hw:wordB w=true) (hin:withinB (z:Int) 1 40=true∧withinB (C:Int) 1 40=true∧withinB (L:Int) 1 12=true) (hfit:¬ ((L:Int)<5∨(C:Int)<wideI z w.length)):PCalls Tryz.prog 40 [encInts w,vi z,vi C,vi L] (·=.tup [encMask (maskTo w z C L),vi 0]):=by
  (refine pcalls_know (fun I us h=>rel_len (rel_arg h (j:=0) rfl)) fun hlen0=>?_)
  have b1:=withinB_iff.1 hin.1
  have b2:=withinB_iff.1 hin.2.1
  have b3:=withinB_iff.1 hin.2.2
  have hwd:=wide_bnd (z:=z) (N:=w.length) (by omega) (by omega)
  have hwv:∀ j,j<w.length→0≤el w j∧el w j≤32767:=fun j hj=>withinB_iff.1 (of_all_el hw hj)
  unfold wideI at hfit
  unfold wordB at hw
  refine pcalls_of_aw Tryz.func40 rfl (dc rfl) ?_
  (repeat' (first|(refine ar_isq ?_;refine zq ?_)|(refine zpv fn68 (everyInts_p w fn69 rfl _ (fun l _=>glyphWord_p l)) ?_)|(refine zpv fn70 (within_p _ _ _) ?_)|(refine zpv fn71 (wide_p z w.length (by omega) (by omega) (by omega)) ?_)|(refine ar_make_v (n:=L) (ty rfl) rfl (ty rfl) rfl rfl (by omega) (by omega) (dc rfl) rfl rfl (by dsimp only;omega) (maxLen_ok (by omega)) ?_)|refine zcl ?_|refine zcs ?_|refine zcpl ?_|refine zcpo ?_|refine zg ?_ ?_|refine zgu ?_|refine zst ?_|refine aw_drawn (id:=23) [(0,0),(1,0),(2,0),(3,0),(4,0),(5,0),(6,0),(8,0),(7,1),(9,1),(10,2)] mixed (by kernel_rfl) ?_|refine zco ?_ ?_|exact zd|(refine fun (hg:(_:Prop))=>?_;(try replace hg:=HG.out hg);(try dsimp only at hg);(try (have _h:True:=hg;clear _h hg)))))
  all_goals (try (exfalso;omega))
  all_goals (try (exfalso;simp_all;done))
  refine aw_for L (fun _=>True) (fun r=>[(0,encInts w),(1,vi z),(2,vi C),(10,.sl 1 0 0 L),(53,vi L),(54,vi r)]) (fun r=>famTo L C r fun _ _=>vb false) trivial ?_ ?_
  · (refine sub_same (rfl) ?_;(repeat' (first|exact trivial|refine ⟨⟨_,rfl,?_⟩,?_⟩|rfl|exact congrArg vi (by omega))))
  · intro r hr _
    by_cases hltr:r<L
    · (repeat' (first|(refine ar_isq ?_;refine zq ?_)|(refine ar_make_v (n:=C) (ty rfl) rfl (ty rfl) rfl rfl (by omega) (by omega) (dc rfl) rfl rfl (by dsimp only;omega) (maxLen_ok (by omega)) ?_)|(refine ar_store_as (famAt C (r+1)) (ty rfl) rfl rfl (get_old famTo_get0) rfl rfl rfl (by omega) (by dsimp only;omega) (fun _ h=>by cases h) rfl (famAt_one _ _ _) (famAt_na _ _ _) (by rw [famAt_lt (by omega)];exact congrArg (fun q=>V.sl 1 q 0 C) (famTo_len _ _ _ _).symm) (fun i _ h=>famAt_ne h) ?_)|refine zcl ?_|refine zcs ?_|refine zcpl ?_|refine zcpo ?_|refine zg ?_ ?_|refine zgu ?_|refine zst ?_|refine aw_drawn (id:=23) [(0,0),(1,0),(2,0),(3,0),(4,0),(5,0),(6,0),(8,0),(7,1),(9,1),(10,2)] mixed (by kernel_rfl) ?_|refine zco ?_ ?_|exact zd|(refine fun (hg:(_:Prop))=>?_;(try replace hg:=HG.out hg);(try dsimp only at hg);(try (have _h:True:=hg;clear _h hg)))))
      all_goals first
        | (exfalso;omega)
        | ((first|refine loop_next (by omega) ?_ ?_|refine (show _∧_∧SubOf _ _ _ _ _ _ from And.intro (by omega) (And.intro ?_ ?_)));(focus ((trivial);done));(focus ((refine sub_same (famTo_snoc) ?_;(repeat' (first|exact trivial|refine ⟨⟨_,rfl,?_⟩,?_⟩|rfl|exact congrArg vi (by omega))));done)))
        | trace_state
    obtain rfl:r=L:=by omega
    (repeat' (first|(refine ar_isq ?_;refine zq ?_)|refine zcl ?_|refine zcs ?_|refine zcpl ?_|refine zcpo ?_|refine zg ?_ ?_|refine zgu ?_|refine zst ?_|refine aw_drawn (id:=23) [(0,0),(1,0),(2,0),(3,0),(4,0),(5,0),(6,0),(8,0),(7,1),(9,1),(10,2)] mixed (by kernel_rfl) ?_|refine zco ?_ ?_|exact zd|(refine fun (hg:(_:Prop))=>?_;(try replace hg:=HG.out hg);(try dsimp only at hg);(try (have _h:True:=hg;clear _h hg)))))
    all_goals (try (exfalso;omega))
    refine aw_for w.length (fun _=>True) (fun i=>[(0,encInts w),(1,vi z),(2,vi C),(10,.sl 1 0 0 r),(63,encInts w),(64,vi w.length),(65,vi i)]) (fun i=>mFam w z C r i 0 0) trivial ?_ ?_
    · (refine sub_same (famTo_ext fun r' _=>funext fun c=>by rw [mPart_start]) ?_;(repeat' (first|exact trivial|refine ⟨⟨_,rfl,?_⟩,?_⟩|rfl|exact congrArg vi (by omega))))
    intro i hi _
    by_cases hlti:i<w.length
    · have hv:=hwv i hlti
      (repeat' (first|(refine ar_isq ?_;refine zq ?_)|((refine ar_re (t:=70) (v':=vi (((el w i).toNat:Nat):Int)) rfl (congrArg vi (by omega)) ?_;refine zpv fn72 (glyphOf_p (el w i).toNat (by omega)) ?_))|refine zcl ?_|refine zcs ?_|refine zcpl ?_|refine zcpo ?_|refine zg ?_ ?_|refine zgu ?_|refine zst ?_|refine aw_drawn (id:=23) [(0,0),(1,0),(2,0),(3,0),(4,0),(5,0),(6,0),(8,0),(7,1),(9,1),(10,2)] mixed (by kernel_rfl) ?_|refine zco ?_ ?_|exact zd|(refine fun (hg:(_:Prop))=>?_;(try replace hg:=HG.out hg);(try dsimp only at hg);(try (have _h:True:=hg;clear _h hg)))))
      all_goals (try (exfalso;omega))
      generalize hN:(el w i).toNat=N
      refine aw_for 5 (fun _=>True) (fun q=>[(0,encInts w),(1,vi z),(2,vi C),(10,.sl 1 0 0 r),(63,encInts w),(64,vi w.length),(65,vi i),(12,vi i),(71,gAgg (bitB N)),(72,vi q)]) (fun q=>mFam w z C r i q 0) trivial ?_ ?_
      · (refine sub_same (rfl) ?_;(repeat' (first|exact trivial|refine ⟨⟨_,rfl,?_⟩,?_⟩|rfl|exact congrArg vi (by omega))))
      intro q hq _
      by_cases hltq:q<5
      · (repeat' (first|(refine ar_isq ?_;refine zq ?_)|refine ar_q (qs_index (v:=rowV (bitB N) q) (j:=q) (ty rfl) rfl (ty rfl) rfl rfl rfl (by omega) (rowV_part (bitB N) hltq)) (dc rfl) ?_|((refine ar_store_var (ty rfl) rfl rfl get_last rfl rfl rfl (dc rfl) (.inl ⟨_,rfl⟩) ?_;rw [set_last]))|refine ar_q (qs_load_ptr (v:=rowV (bitB N) q) (ty rfl) rfl get_last Nat.one_pos rfl) (dc rfl) ?_|refine zcl ?_|refine zcs ?_|refine zcpl ?_|refine zcpo ?_|refine zg ?_ ?_|refine zgu ?_|refine zst ?_|refine aw_drawn (id:=23) [(0,0),(1,0),(2,0),(3,0),(4,0),(5,0),(6,0),(8,0),(7,1),(9,1),(10,2)] mixed (by kernel_rfl) ?_|refine zco ?_ ?_|exact zd|(refine fun (hg:(_:Prop))=>?_;(try replace hg:=HG.out hg);(try dsimp only at hg);(try (have _h:True:=hg;clear _h hg)))))
        all_goals (try (exfalso;omega))
        refine aw_for 3 (fun _=>True) (fun k=>[(0,encInts w),(1,vi z),(2,vi C),(10,.sl 1 0 0 r),(63,encInts w),(64,vi w.length),(65,vi i),(12,vi i),(71,gAgg (bitB N)),(72,vi q),(14,vi q),(76,rowV (bitB N) q),(77,vi k)]) (fun k=>mFam w z C r i q k) trivial ?_ ?_
        · refine famTo_drop (fun _ _=>rfl) ?_
          (repeat' (first|exact trivial|refine ⟨⟨_,rfl,?_⟩,?_⟩|exact .closed rfl|exact .sl rfl))
        intro k hk _
        by_cases hltk:k<3
        · have hcs:=cell_small (z:=z) (g:=i) (k:=k) (by omega) (by omega) hltk
          have hcn:=cell_in (z:=z) (g:=i) (k:=k) (N:=w.length) hlti hltk
          have hzz:(z:Int)*(4*(i:Int)+(k:Int))=((z*(4*i+k):Nat):Int):=by rw [Int.natCast_mul,Int.natCast_add,Int.natCast_mul];rfl
          have hwi:(z:Int)*(4*(w.length:Int)-1)=((z*(4*w.length-1):Nat):Int):=by
            rw [Int.natCast_mul]
            congr 1
            omega
          have hCz:z*(4*i+k)+z≤C:=by omega
          have hmin:Nat.min (repF [bitB N (3*q+k)] z).length (C-z*(4*i+k))=z:=by
            rw [repF_len]
            exact (Nat.min_eq_left (by simp;omega)).trans (by simp)
          (repeat' (first|(refine ar_isq ?_;refine zq ?_)|refine ar_q (qs_index (v:=vb (bitB N (3*q+k))) (j:=k) (ty rfl) rfl (ty rfl) rfl rfl rfl (by omega) (cellV_part (bitB N) q hltk)) (dc rfl) ?_|refine ar_q (qs_load_ptr (v:=.sl 1 (1+q) 0 C) (ty rfl) rfl famTo_get0 (by omega) (part_of_eq (v:=.sl 1 (1+q) 0 C) (famAt_lt (by omega)) rfl)) (dc rfl) ?_|((refine ar_subk_l (sub_frzL (t:=94) vb [bitB N (3*q+k)] rfl get_last rfl rfl (fun k hk=>match k,hk with|0,_=>rfl) (fun _=>rfl)) ?_;rw [set_last];refine zpv fn73 (repeatB_p [bitB N (3*q+k)] z (Nat.succ_pos _) (by simp;omega) (by simp) (by omega)) ?_))|refine ar_copy (ty rfl) rfl (ty rfl) rfl rfl (get_old (famTo_row (by omega))) (by omega) rfl (.inl rfl) (fun _ _=>rfl) (dc rfl) ?_|refine zcl (a:=z*(4*i+k)) (b:=C) ?_|refine zcs (a:=z*(4*i+k)) (b:=C) ?_|refine zcpl ?_|refine zcpo ?_|refine zg ?_ ?_|refine zgu ?_|refine zst ?_|refine aw_drawn (id:=23) [(0,0),(1,0),(2,0),(3,0),(4,0),(5,0),(6,0),(8,0),(7,1),(9,1),(10,2)] mixed (by kernel_rfl) ?_|refine zco ?_ ?_|exact zd|(refine fun (hg:(_:Prop))=>?_;(try replace hg:=HG.out hg);(try dsimp only at hg);(try (have _h:True:=hg;clear _h hg)))))
          all_goals first
            | (exfalso;omega)
            | (refine loop_next (by omega) trivial ?_
               rw [List.set_append_left _ _ (by rw [famTo_len];omega),famTo_set_as (G:=fun r' c=>vb (mPart w z i q (k+1) r' c)) (by omega) (fun q' _ h=>funext fun c=>congrArg vb (mPart_other h)) (fun c=>by rw [hmin,Nat.zero_add];exact mPart_step (by omega) hltk hltq hlti (by rw [hN]))]
               refine famTo_dropd (fun _ _=>rfl) ?_
               (repeat' (first|exact trivial|refine ⟨⟨_,rfl,?_⟩,?_⟩|exact .closed rfl|exact .sl rfl|exact siEq (by omega))))
            | trace_state
        · obtain rfl:k=3:=by omega
          (repeat' (first|(refine ar_isq ?_;refine zq ?_)|refine zcl ?_|refine zcs ?_|refine zcpl ?_|refine zcpo ?_|refine zg ?_ ?_|refine zgu ?_|refine zst ?_|refine aw_drawn (id:=23) [(0,0),(1,0),(2,0),(3,0),(4,0),(5,0),(6,0),(8,0),(7,1),(9,1),(10,2)] mixed (by kernel_rfl) ?_|refine zco ?_ ?_|exact zd|(refine fun (hg:(_:Prop))=>?_;(try replace hg:=HG.out hg);(try dsimp only at hg);(try (have _h:True:=hg;clear _h hg)))))
          all_goals first
            | (exfalso;omega)
            | ((first|refine loop_next (by omega) ?_ ?_|refine (show _∧_∧SubOf _ _ _ _ _ _ from And.intro (by omega) (And.intro ?_ ?_)));(focus ((trivial);done));(focus ((refine sub_same (famTo_ext fun r' _=>funext fun c=>congrArg vb mPart_row) ?_;(repeat' (first|exact trivial|refine ⟨⟨_,rfl,?_⟩,?_⟩|rfl|exact congrArg vi (by omega))));done)))
            | trace_state
      · obtain rfl:q=5:=by omega
        (repeat' (first|(refine ar_isq ?_;refine zq ?_)|refine zcl ?_|refine zcs ?_|refine zcpl ?_|refine zcpo ?_|refine zg ?_ ?_|refine zgu ?_|refine zst ?_|refine aw_drawn (id:=23) [(0,0),(1,0),(2,0),(3,0),(4,0),(5,0),(6,0),(8,0),(7,1),(9,1),(10,2)] mixed (by kernel_rfl) ?_|refine zco ?_ ?_|exact zd|(refine fun (hg:(_:Prop))=>?_;(try replace hg:=HG.out hg);(try dsimp only at hg);(try (have _h:True:=hg;clear _h hg)))))
        all_goals first
          | (exfalso;omega)
          | ((first|refine loop_next (by omega) ?_ ?_|refine (show _∧_∧SubOf _ _ _ _ _ _ from And.intro (by omega) (And.intro ?_ ?_)));(focus ((trivial);done));(focus ((refine sub_same (famTo_ext fun r' _=>funext fun c=>congrArg vb mPart_glyph) ?_;(repeat' (first|exact trivial|refine ⟨⟨_,rfl,?_⟩,?_⟩|rfl|exact congrArg vi (by omega))));done)))
          | trace_state
    · obtain rfl:i=w.length:=by omega
      (repeat' (first|(refine ar_isq ?_;refine zq ?_)|refine zcl ?_|refine zcs ?_|refine zcpl ?_|refine zcpo ?_|refine zg ?_ ?_|refine zgu ?_|refine zst ?_|refine aw_drawn (id:=23) [(0,0),(1,0),(2,0),(3,0),(4,0),(5,0),(6,0),(8,0),(7,1),(9,1),(10,2)] mixed (by kernel_rfl) ?_|refine zco ?_ ?_|exact zd|(refine fun (hg:(_:Prop))=>?_;(try replace hg:=HG.out hg);(try dsimp only at hg);(try (have _h:True:=hg;clear _h hg)))))
      all_goals (try (exfalso;omega))
      refine aw_mono_r (env':=[(8,.sl 1 0 0 r),(9,vi 0)]) (famTo_freeze (rows:=maskTo w z C r) (e:=vb) (maskTo_len _ _ _ _) (fun j hj=>?_) (fun _=>rfl) ?_) ?_
      · unfold maskTo
        rw [el_map_range hj]
        refine ⟨maskRow_len _ _ _ _,fun c hc=>?_⟩
        unfold maskRow
        rw [el_map_range hc,mPart_end]
      · (repeat' (first|exact trivial|refine ⟨⟨_,rfl,?_⟩,?_⟩|exact .closed rfl|exact .sl rfl))
      (refine aw_mono_r (env':=[(8,encMask (maskTo w z C r)),(9,vi 0)]) (H':=[]) ?_ ?_;(focus ((refine sub_to [] [0] rfl ?_ ?_<;>(repeat' (first|exact trivial|refine ⟨⟨_,rfl,?_⟩,?_⟩|refine vs1 ?_ ?_|refine vs2 ?_ ?_|refine vs3 ?_|refine vs4 ?_ ?_|refine ⟨.inl ⟨_,_,rfl,rfl,?_⟩,?_⟩|exact ⟨.inr ⟨rfl,rfl⟩,trivial⟩|refine ⟨.inr ⟨rfl,rfl⟩,?_⟩|(intro _ _)|exact vz1|(exact frzLB (by simp) rfl (fun _=>rfl) (maskTo_len _ _ _ _).symm)|exact vz2|fail)));done)))
      (refine aw_ret ?_;(repeat (first|refine ret_then ?_|refine ret_block ?_));refine bq2 rfl rfl ⟨?_,rfl⟩)
      rfl
def hV (c:Screen) (b:Bool):Int:=if b=true then c.period/2 else 0
def hRowTo (c:Screen) (m:List (List Bool)) (i n:Nat):List Int:=(List.range n).map fun j=>hV c (el (el m i) j)
def hideTo (c:Screen) (m:List (List Bool)) (k:Nat):List (List Int):=(List.range k).map fun i=>hRowTo c m i (el m i).length
theorem hRowTo_len (c:Screen) (m:List (List Bool)) (i n:Nat):(hRowTo c m i n).length=n:=by simp [hRowTo]
theorem hRowTo_el {c:Screen}{m:List (List Bool)}{i n j:Nat}(h:j<n):el (hRowTo c m i n) j=hV c (el (el m i) j):=by unfold hRowTo;rw [el_map_range h]
theorem hideTo_succ (c:Screen) (m:List (List Bool)) (k:Nat):hideTo c m (k+1)=hideTo c m k++[hRowTo c m k (el m k).length]:=by simp [hideTo,List.range_succ]
theorem hideTo_len (c:Screen) (m:List (List Bool)) (k:Nat):(hideTo c m k).length=k:=by simp [hideTo]
def maskOk (s:Sheet) (c:Screen) (m:List (List Bool)):Bool:=decide ((m.length:Int)=roomN s c)&&m.all fun x=>lenB s.cols x.length
def hideErr (s:Sheet) (c:Screen) (m:List (List Bool)):Int:=if roomErr s c=0 then (if withinB (c.period/2) s.weight (roomW s c)=true then (if maskOk s c m=true then 0 else 2) else 72) else roomErr s c
def hideF (s:Sheet) (c:Screen) (m:List (List Bool)):List (List Int):=if hideErr s c m=0 then drawTo s c (hideTo c m m.length) (cntF s c) else []
theorem hideErr_room {s:Sheet}{c:Screen}{m:List (List Bool)}(h:roomErr s c≠0):hideErr s c m=roomErr s c:=by simp [hideErr,h]
theorem hideErr_half {s:Sheet}{c:Screen}{m:List (List Bool)}(h:roomErr s c=0) (h2:withinB (c.period/2) s.weight (roomW s c)=false):hideErr s c m=72:=by simp [hideErr,h,h2]
theorem hideErr_arg {s:Sheet}{c:Screen}{m:List (List Bool)}(h:roomErr s c=0) (h2:withinB (c.period/2) s.weight (roomW s c)=true) (h3:maskOk s c m=false):hideErr s c m=2:=by simp [hideErr,h,h2,h3]
theorem hideErr_ok {s:Sheet}{c:Screen}{m:List (List Bool)}(h:roomErr s c=0) (h2:withinB (c.period/2) s.weight (roomW s c)=true) (h3:maskOk s c m=true):hideErr s c m=0:=by simp [hideErr,h,h2,h3]
theorem hideF_bad {s:Sheet}{c:Screen}{m:List (List Bool)}(h:hideErr s c m≠0):hideF s c m=[]:=by simp [hideF,h]
theorem hideF_ok {s:Sheet}{c:Screen}{m:List (List Bool)}(h:hideErr s c m=0):hideF s c m=drawTo s c (hideTo c m m.length) (cntF s c):=by simp [hideF,h]
theorem hV_bnd {c:Screen}(hc:c.ok=true) (b:Bool):0≤hV c b∧hV c b≤100:=by
 have:=Screen.bounds hc
 unfold hV
 split<;>omega
theorem mask_rows {s:Sheet}{c:Screen}{m:List (List Bool)}(h:maskOk s c m=true):(m.length:Int)=roomN s c∧∀ k,k<m.length→((el m k).length:Int)=s.cols:=by
 unfold maskOk at h
 simp only [Bool.and_eq_true,decide_eq_true_eq,List.all_eq_true,lenB] at h
 exact ⟨h.1,fun k hk=>h.2 _ (el_mem hk)⟩
theorem hide_rows {s:Sheet}{c:Screen}{m:List (List Bool)}(hc:c.ok=true) (h:∀ k,k<m.length→((el m k).length:Int)=s.cols):∀ l,l∈hideTo c m m.length→l.length=s.cols.toNat∧∀ k,k<l.length→0≤el l k∧el l k≤100:=by
 intro l hl
 unfold hideTo at hl
 simp only [List.mem_map,List.mem_range] at hl
 obtain ⟨i,hi,rfl⟩:=hl
 have h1:=h i hi
 refine ⟨by rw [hRowTo_len];omega,fun k hk=>?_⟩
 rw [hRowTo_len] at hk
 rw [hRowTo_el hk]
 exact hV_bnd hc _
def stH (c:Screen) (l:List Bool) (q j:Nat):Int:=if j<q then hV c (el l j) else 0
theorem stH_at {c:Screen}{l:List Bool}{q:Nat}(h:el l q=true):stH c l (q+1) q=c.period/2:=by simp [stH,hV,h]
theorem stH_ne {c:Screen}{l:List Bool}{q j:Nat}(h:j≠q):stH c l (q+1) j=stH c l q j:=by
 unfold stH
 by_cases h1:j<q
 ·rw [if_pos h1,if_pos (by omega)]
 ·rw [if_neg h1,if_neg (by omega)]
theorem stH_no {c:Screen}{l:List Bool}{q:Nat}(h:el l q=false) (j:Nat):stH c l q j=stH c l (q+1) j:=by
 by_cases e:j=q
 ·subst e;simp [stH,hV,h]
 ·exact (stH_ne e).symm
theorem stH_end {c:Screen}{l:List Bool}{q j:Nat}(h:j<q):stH c l q j=hV c (el l j):=by simp [stH,h]
theorem lHide_p (s:Sheet) (c:Screen) (m:List (List Bool)):PCalls Tryz.prog 41 [s.enc,c.enc,encMask m] (·=.tup [encRows (hideF s c m),vi (hideErr s c m)]):=by
 by_cases hr:roomErr s c=0
 ·obtain ⟨hs,hc,h0,e1,e2⟩:=room_ok hr
  have hbd:=Sheet.bounds hs
  have hcb:=Screen.bounds hc
  have hc12:=cntF_le s c
  cases hhf:withinB (c.period/2) s.weight (roomW s c)
  ·have he:=hideErr_half (m:=m) hr hhf
   have hno:=withinB_no.1 hhf
   rw [hideF_bad (by omega),he]
   refine pcalls_of_aw Tryz.func41 rfl (dc rfl) ?_
   (repeat' (first|(refine ar_isq ?_;refine zq ?_)|(refine zpv fn39 (lRoom_p s c) ?_)|refine zg ?_ ?_|refine zgu ?_|refine zst ?_|refine zco ?_ ?_|exact zd|(refine fun (hg:(_:Prop))=>?_;(try replace hg:=HG.out hg);(try dsimp only at hg);(try (have _h:True:=hg;clear _h hg)))))
   all_goals first
    | (exfalso;omega)
    | ((refine aw_mono_r (env':=[(6,encRows []),(7,vi 72)]) (H':=[]) ?_ ?_;(focus (exact zsb [] [])));(refine aw_ret ?_;(repeat (first|refine ret_then ?_|refine ret_block ?_));refine bq2 rfl rfl ⟨?_,rfl⟩);rfl)
  ·have hyes:=withinB_iff.1 hhf
   cases hok:maskOk s c m
   ·have he:=hideErr_arg hr hhf hok
    rw [hideF_bad (by omega),he]
    refine pcalls_of_aw Tryz.func41 rfl (dc rfl) ?_
    (repeat' (first|(refine ar_isq ?_;refine zq ?_)|(refine zpv fn39 (lRoom_p s c) ?_)|(refine zpv fn74 (shapedB_p m (roomN s c) s.cols) ?_)|refine zg ?_ ?_|refine zgu ?_|refine zst ?_|refine zco ?_ ?_|exact zd|(refine fun (hg:(_:Prop))=>?_;(try replace hg:=HG.out hg);(try dsimp only at hg);(try (have _h:True:=hg;clear _h hg)))))
    all_goals first
     | (exfalso;omega)
     | ((refine aw_mono_r (env':=[(6,encRows []),(7,vi 2)]) (H':=[]) ?_ ?_;(focus (exact zsb [] [])));(refine aw_ret ?_;(repeat (first|refine ret_then ?_|refine ret_block ?_));refine bq2 rfl rfl ⟨?_,rfl⟩);rfl)
     | (exfalso;exact Bool.noConfusion ((show _=true by assumption).symm.trans (show (decide ((m.length:Int)=roomN s c)&&m.all fun x=>lenB s.cols x.length)=false from hok)))
   ·have he:=hideErr_ok hr hhf hok
    rw [hideF_ok he,he]
    obtain ⟨hml,hmr⟩:=mask_rows hok
    refine pcalls_of_aw Tryz.func41 rfl (dc rfl) ?_
    (repeat' (first|(refine ar_isq ?_;refine zq ?_)|(refine zpv fn39 (lRoom_p s c) ?_)|(refine zpv fn74 (shapedB_p m (roomN s c) s.cols) ?_)|refine zg ?_ ?_|refine zgu ?_|refine zst ?_|refine zco ?_ ?_|exact zd|(refine fun (hg:(_:Prop))=>?_;(try replace hg:=HG.out hg);(try dsimp only at hg);(try (have _h:True:=hg;clear _h hg)))))
    all_goals (try (exfalso;omega))
    all_goals (try (exfalso;exact Bool.noConfusion ((show (decide ((m.length:Int)=roomN s c)&&m.all fun x=>lenB s.cols x.length)=true from hok).symm.trans (show _=false by assumption))))
    refine aw_for m.length (fun _=>True) (fun k=>[(3,.ptr 5 0 0 0),(4,.ptr 2 1 0 0),(11,vi (c.period/2)),(12,.sl 1 2 0 (hideTo c m k).length),(46,encMask m),(47,vi m.length),(48,vi k)]) (fun k=>[.arr 5 1 (fun _=>s.enc),.arr 2 1 (fun _=>c.enc),LB 1 encInts (hideTo c m k)]) trivial ?_ ?_
    ·(exact zsb [some 0,some 1,none] [])
    intro k hk _
    have hhl:=hideTo_len c m k
    by_cases hlt:k<m.length
    ·have hrl:=hmr k hlt
     (repeat' (first|(refine ar_isq ?_;refine zq ?_)|(refine ar_make_v (n:=(el m k).length) (ty rfl) rfl (ty rfl) rfl rfl (by omega) (by omega) (dc rfl) rfl rfl (by dsimp only;omega) (maxLen_ok (by omega)) ?_)|refine zg ?_ ?_|refine zgu ?_|refine zst ?_|refine zco ?_ ?_|exact zd|(refine fun (hg:(_:Prop))=>?_;(try replace hg:=HG.out hg);(try dsimp only at hg);(try (have _h:True:=hg;clear _h hg)))))
     all_goals (try (exfalso;omega))
     refine aw_for (el m k).length (fun _=>True) (fun q=>[(3,.ptr 5 0 0 0),(4,.ptr 2 1 0 0),(11,vi (c.period/2)),(12,.sl 1 2 0 (hideTo c m k).length),(46,encMask m),(47,vi m.length),(48,vi k),(15,.sl 1 3 0 (el m k).length),(55,encBools (el m k)),(56,vi (el m k).length),(57,vi q)]) (fun q=>[.arr 5 1 (fun _=>s.enc),.arr 2 1 (fun _=>c.enc),LB 1 encInts (hideTo c m k),.arr 1 (el m k).length (fun j=>vi (stH c (el m k) q j))]) trivial ?_ ?_
     ·(exact zsb [some 0,some 1,some 2,some 3] [])
     intro q hq _
     by_cases hltq:q<(el m k).length
     ·(repeat' (first|(refine ar_isq ?_;refine zq ?_)|(refine ar_store_as (fun j=>vi (stH c (el m k) (q+1) j)) (ty rfl) rfl rfl rfl rfl rfl rfl (by assumption) (by dsimp only;omega) (fun _ h=>by cases h) rfl rfl (fun _ h=>by cases h) (congrArg vi (stH_at (by assumption))) (fun j _ hj=>congrArg vi (stH_ne hj)) ?_)|refine zg ?_ ?_|refine zgu ?_|refine zst ?_|refine zco ?_ ?_|exact zd|(refine fun (hg:(_:Prop))=>?_;(try replace hg:=HG.out hg);(try dsimp only at hg);(try (have _h:True:=hg;clear _h hg)))))
      all_goals first
       | (exfalso;omega)
       | ((first|refine loop_next (by omega) ?_ ?_|refine (show _∧_∧SubOf _ _ _ _ _ _ from And.intro (by omega) (And.intro ?_ ?_)));(focus ((trivial);done));(focus ((refine sub_to [some 0,some 1,some 2,some 3] [] rfl ?_ ?_<;>(repeat' (first|exact trivial|refine ⟨⟨_,rfl,?_⟩,?_⟩|refine vs1 ?_ ?_|refine vs2 ?_ ?_|refine vs3 ?_|refine vs4 ?_ ?_|refine ⟨.inl ⟨_,_,rfl,rfl,?_⟩,?_⟩|exact ⟨.inr ⟨rfl,rfl⟩,trivial⟩|refine ⟨.inr ⟨rfl,rfl⟩,?_⟩|(intro _ _)|exact vz1|(exact VSub.of_eq (congrArg vi (stH_no (by assumption) _)) rfl)|exact vz2|fail)));done)))
     ·(repeat' (first|(refine ar_isq ?_;refine zq ?_)|refine zg ?_ ?_|refine zgu ?_|refine zst ?_|refine zco ?_ ?_|exact zd|(refine fun (hg:(_:Prop))=>?_;(try replace hg:=HG.out hg);(try dsimp only at hg);(try (have _h:True:=hg;clear _h hg)))))
      all_goals first
       | (exfalso;omega)
       | (rw [hideTo_succ];((first|refine loop_next (by omega) ?_ ?_|refine (show _∧_∧SubOf _ _ _ _ _ _ from And.intro (by omega) (And.intro ?_ ?_)));(focus ((trivial);done));(focus ((refine sub_to [some 0,some 1,some 5] [3] rfl ?_ ?_<;>(repeat' (first|exact trivial|refine ⟨⟨_,rfl,?_⟩,?_⟩|refine vs1 ?_ ?_|refine vs2 ?_ ?_|refine vs3 ?_|refine vs4 ?_ ?_|refine ⟨.inl ⟨_,_,rfl,rfl,?_⟩,?_⟩|exact ⟨.inr ⟨rfl,rfl⟩,trivial⟩|refine ⟨.inr ⟨rfl,rfl⟩,?_⟩|(intro _ _)|exact vz1|(exact frz_as (by simp) rfl rfl (hRowTo_len _ _ _ _) (fun j hj=>by rw [hRowTo_el hj,stH_end (by omega)]) (fun _=>rfl))|exact vz2|fail)));done))))
    ·obtain rfl:k=m.length:=by omega
     (repeat' (first|(refine ar_isq ?_;refine zq ?_)|(((refine ar_sub_l (env':=[(73,s.enc),(74,c.enc),(75,encRows (hideTo c m m.length))]) (H':=[.arr 5 1 (fun _=>s.enc),.arr 2 1 (fun _=>c.enc)]) ?_ ?_;(focus (exact zsb [some 0,some 1] [2])));refine zpv fn75 (draw_p s hs c hc (hideTo c m m.length) (by omega) (hide_rows hc hmr)) ?_))|refine zg ?_ ?_|refine zgu ?_|refine zst ?_|refine zco ?_ ?_|exact zd|(refine fun (hg:(_:Prop))=>?_;(try replace hg:=HG.out hg);(try dsimp only at hg);(try (have _h:True:=hg;clear _h hg)))))
     all_goals first
      | (exfalso;omega)
      | ((refine aw_ret ?_;(repeat (first|refine ret_then ?_|refine ret_block ?_));refine bq2 rfl rfl ⟨?_,rfl⟩);rfl)
 ·have he:=hideErr_room (m:=m) hr
  rw [hideF_bad (by omega),he]
  refine pcalls_of_aw Tryz.func41 rfl (dc rfl) ?_
  (repeat' (first|(refine ar_isq ?_;refine zq ?_)|(refine zpv fn39 (lRoom_p s c) ?_)|refine zg ?_ ?_|refine zgu ?_|refine zst ?_|refine zco ?_ ?_|exact zd|(refine fun (hg:(_:Prop))=>?_;(try replace hg:=HG.out hg);(try dsimp only at hg);(try (have _h:True:=hg;clear _h hg)))))
  all_goals first
   | (exfalso;omega)
   | ((refine aw_mono_r (env':=[(6,encRows []),(7,vi (roomErr s c))]) (H':=[]) ?_ ?_;(focus (exact zsb [] [])));(refine aw_ret ?_;(repeat (first|refine ret_then ?_|refine ret_block ?_));refine bq2 rfl rfl ⟨?_,rfl⟩);rfl)
theorem lMask_p (w:List Int) (size cols lines:Int):PCalls Tryz.prog 40 [encInts w,vi size,vi cols,vi lines] (·=.tup [encMask (maskF w size cols lines),vi (maskErr w size cols lines)]):=by
 by_cases hne:maskErr w size cols lines=0
 ·have hp:¬ 8<w.length∧wordB w=true∧(withinB size 1 40=true∧withinB cols 1 40=true∧withinB lines 1 12=true)∧¬ (lines<5∨cols<wideI size w.length):=by
   unfold maskErr at hne
   split at hne
   ·cases hne
   ·rename_i h1
    split at hne
    ·rename_i h2
     split at hne
     ·cases hne
     ·rename_i h3
      exact ⟨h1,h2.1,h2.2,h3⟩
    ·cases hne
  obtain ⟨h1,h2,h3,h4⟩:=hp
  have b1:=withinB_iff.1 h3.1
  have b2:=withinB_iff.1 h3.2.1
  have b3:=withinB_iff.1 h3.2.2
  obtain ⟨z,rfl⟩:∃ z:Nat,size=(z:Int):=⟨size.toNat,by omega⟩
  obtain ⟨C,rfl⟩:∃ C:Nat,cols=(C:Int):=⟨cols.toNat,by omega⟩
  obtain ⟨L,rfl⟩:∃ L:Nat,lines=(L:Int):=⟨lines.toNat,by omega⟩
  rw [maskF_ok hne,hne]
  exact lMask_ok w z C L h1 h2 h3 h4
 ·exact lMask_bad w size cols lines hne
end Go.Proofs.YtbilpbabdgfblaaGreat
