/- HouseExamples: the walk of the law. No condition. -/
import Derived.Test.YtbilpbabdgfblaaGreatKJ720
set_option maxHeartbeats 16000000
set_option linter.unusedSimpArgs false
set_option linter.unusedVariables false
namespace Go.Proofs.YtbilpbabdgfblaaGreat
open Go.RowKit
def xPrint:Job:=⟨6,0,0,0,0,0,⟨0,2,0,1⟩,noSheet,[]⟩
def xDay:Job:=⟨8,0,0,0,10,0,noAct,noSheet,[]⟩
def xTake:Job:=⟨3,2,0,0,1,0,noAct,noSheet,[]⟩
def xNone:Job:=⟨0,0,0,0,0,0,noAct,noSheet,[]⟩
def xSolid:Job:=⟨1,1,0,0,0,0,noAct,⟨2,8,1,0,1⟩,[[0,0],[1,1]]⟩
def moreX1:List Job:=[xPrint]
def moreX2:List Job:=[xDay,xTake]
def bookX1:List Job:=exJobs++moreX1
def bookX2:List Job:=[noteJob,exLicn]++moreX2
def oddImage:List Bool:=[true,true,true,false,false,false,false,false,true,true,false,false,false,false,false,false]
theorem exX1:hplayX 100 1000 bookX1=(9,103):=(hplayX_bad (k:=9) (by decide) ex_life (by decide +kernel) (by decide) (by decide +kernel)).trans (by decide +kernel)
theorem exX2:hplayX 100 1000 bookX2=(3,102):=(hplayX_bad (k:=3) (by decide) ex_life (by decide +kernel) (by decide) (by decide +kernel)).trans (by decide +kernel)
theorem one_life:(1≤(1:Int)∧(1:Int)≤1000)∧(1≤(1000:Int)∧(1000:Int)≤1000):=by decide
theorem exX3:hplayX 1 1000 exJobs=(8,104):=(hplayX_bad (k:=8) (by decide) one_life (by decide +kernel) (by decide) (by decide +kernel)).trans (by decide +kernel)
theorem exP1_p:PCalls Tryz.prog 14 [vi 100,vi 1000,encJobs bookX1] (·=.tup [noHse.enc,vi 9,vi 103]):=(hPlay_p 100 1000 bookX1 (jobs_u8d (by decide))).mono fun v h=>by rw [h,hplayF_bad (by rw [exX1];decide),exX1]
theorem exP2_p:PCalls Tryz.prog 14 [vi 100,vi 1000,encJobs bookX2] (·=.tup [noHse.enc,vi 3,vi 102]):=(hPlay_p 100 1000 bookX2 (jobs_u8d (by decide))).mono fun v h=>by rw [h,hplayF_bad (by rw [exX2];decide),exX2]
theorem exP3_p:PCalls Tryz.prog 14 [vi 1,vi 1000,encJobs exJobs] (·=.tup [noHse.enc,vi 8,vi 104]):=(hPlay_p 1 1000 exJobs (jobs_u8d (by decide))).mono fun v h=>by rw [h,hplayF_bad (by rw [exX3];decide),exX3]
theorem exP_p:PCalls Tryz.prog 14 [vi 100,vi 1000,encJobs exJobs] (·=.tup [exHse.enc,vi 0,vi 0]):=(hPlay_p 100 1000 exJobs (jobs_u8d (by decide))).mono fun v h=>by rw [h,exF,exX]
theorem exSmall:HSmall exHse:=hsmall_of exValid
theorem exSt:StOk exHse.store:=by
  intro j hj
  match j,hj with
  | 0,_|1,_|2,_=>decide
theorem exOdd0:fndD exHse oddImage 0 exHse.designs.length=[]:=by kernel_rfl
theorem exOdd0_p:PCalls Tryz.prog 29 [exHse.enc,encBools oddImage,vi 0] (·=.tup [encFnds [],vi 105]):=(hExpert_p exHse oddImage 0 exSmall exSt).mono fun v h=>by
  have he:expE exHse oddImage 0=105:=expE_forged exValid (by decide) (by rw [exOdd0];rfl)
  rw [h,expF_no he (by decide),he]
def oddFnd:Fnd:=⟨0,0,1⟩
theorem exOdd1:fndD exHse oddImage 1 exHse.designs.length=[oddFnd]:=by kernel_rfl
theorem exOdd1_p:PCalls Tryz.prog 29 [exHse.enc,encBools oddImage,vi 1] (·=.tup [encFnds [oddFnd],vi 0]):=(hExpert_p exHse oddImage 1 exSmall exSt).mono fun v h=>by
  have he:expE exHse oddImage 1=0:=expE_ok exValid (by decide) (by rw [exOdd1];decide)
  rw [h,expF_ok he,he,exOdd1]
theorem exDoN_p:PCalls Tryz.prog 20 [exHse.enc,xNone.enc] (·=.tup [noHse.enc,vi 2]):=(hDoV_p exHse xNone exSmall exSt ⟨by decide,by decide⟩ ⟨by decide,by decide⟩).mono fun v h=>by
  have he:hdoE exHse xNone=2:=(hdoE_ok exValid).trans (by decide +kernel)
  rw [h,he]
  unfold hdoF
  rw [he,if_neg (by decide)]
theorem noHse_bad:¬ HValid noHse:=fun h=>absurd h.per (by decide)
theorem noHse_small:HSmall noHse:=by unfold HSmall noHse;simp
theorem exDo0_p:PCalls Tryz.prog 20 [noHse.enc,noteJob.enc] (·=.tup [noHse.enc,vi 100]):=(hDoV_p noHse noteJob noHse_small (fun j hj=>absurd hj (Nat.not_lt_zero j)) ⟨by decide,by decide⟩ ⟨by decide,by decide⟩).mono fun v h=>by rw [h,hdoE_bad noHse_bad,hdoF_no noHse_bad]
theorem exDoS_p:PCalls Tryz.prog 20 [exHse.enc,xSolid.enc] (·=.tup [noHse.enc,vi 101]):=(hDoV_p exHse xSolid exSmall exSt ⟨by decide,by decide⟩ ⟨by decide,by decide⟩).mono fun v h=>by
  have he:hdoE exHse xSolid=101:=(hdoE_ok exValid).trans (by decide +kernel)
  rw [h,he]
  unfold hdoF
  rw [he,if_neg (by decide)]
/-- A row of ours, of which less is said. -/
theorem sub_shrink {m nt b sz n N:Nat}{env:Env}{H:Heap}{f:Nat→V}(hb:H[b]?=some (.arr sz N f)) (hn:n≤N) (h0:0<N):SubOf m nt env H env (H.set b (.arr sz n f)):=.mk fun X I ρ a w _ hs=>by
  obtain ⟨hE,hw,hd⟩:=hs
  have hlt:b<H.length:=(List.getElem?_eq_some_iff.1 hb).1
  have hget:∀ k blk,(H.set b (.arr sz n f))[k]?=some blk→(k=b∧blk=.arr sz n f)∨(k≠b∧H[k]?=some blk):=fun k blk h=>by
    by_cases e:b=k
    · subst e
      rw [List.getElem?_set_self hlt] at h
      cases h;exact .inl ⟨rfl,rfl⟩
    · rw [List.getElem?_set_ne e] at h
      exact .inr ⟨fun q=>e q.symm,h⟩
  have hlive:∀ k,(∃ x:Blk,(H.set b (.arr sz n f))[k]?=some x∧x≠.dead)→∃ x:Blk,H[k]?=some x∧x≠.dead:=fun k h=>by
    obtain ⟨x,h1,h2⟩:=h
    rcases hget k x h1 with ⟨rfl,_⟩|⟨_,h3⟩
    · exact ⟨_,hb,by simp⟩
    · exact ⟨x,h3,h2⟩
  have hL:∀ c,Live (H.set b (.arr sz n f)) ρ c→Live H ρ c:=fun c h=>by
    obtain ⟨k,x,h1,h2,z,h3⟩:=h
    obtain ⟨y,h4,h5⟩:=hlive k ⟨x,h1,h2⟩
    exact ⟨k,y,h4,h5,z,h3⟩
  have hmul:n*sz≤N*sz:=Nat.mul_le_mul_right _ hn
  refine ⟨I,ρ,Imm.le_refl I,hE,{ hw with len:=by rw [List.length_set];exact hw.len,inj:=fun i j c h1 h2=>hw.inj i j c (hlive i h1) (hlive j h2),apart:=fun c hc=>hw.apart c (hL c hc),size:=fun k s' n' f' h1 i hi=>?_,none:=fun k s' n' f' h1 h2=>?_,arr:=fun k s' n' f' c z h1 h2=>?_,map:=fun k ms h1=>?_,mine:=fun c hc=>hw.mine c (hL c hc) },hd⟩
  · rcases hget k _ h1 with ⟨rfl,e⟩|⟨_,h3⟩
    · cases e;exact hw.size _ _ _ _ hb i (by omega)
    · exact hw.size _ _ _ _ h3 i hi
  · rcases hget k _ h1 with ⟨rfl,e⟩|⟨_,h3⟩
    · cases e;have:=hw.none _ _ _ _ hb h2;omega
    · exact hw.none _ _ _ _ h3 h2
  · rcases hget k _ h1 with ⟨rfl,e⟩|⟨_,h3⟩
    · cases e
      obtain ⟨cs,ty,h4,h5,h6,h7⟩:=hw.arr _ _ _ _ _ _ hb h2
      exact ⟨cs,ty,h4,h5,by omega,fun i j v hi hv=>h7 i j v (by omega) hv⟩
    · exact hw.arr _ _ _ _ _ _ h3 h2
  · rcases hget k _ h1 with ⟨rfl,e⟩|⟨_,h3⟩
    · cases e
    · exact hw.map _ _ h3
def exImF:Nat→V:=upd (upd (upd (upd (fun _=>vb false) 1 (vb true)) 2 (vb true)) 8 (vb true)) 9 (vb true)
theorem exImF_cl:∀ k,k<16→V.closed.all (exImF k).cells=true
  | 0,_|1,_|2,_|3,_|4,_|5,_|6,_|7,_|8,_|9,_|10,_|11,_|12,_|13,_|14,_|15,_=>rfl
  | k+16,h=>absurd h (by omega)
theorem odd_at:∀ k,k<16→upd exImF 0 (vb true) k=vb (el oddImage k)
  | 0,_|1,_|2,_|3,_|4,_|5,_|6,_|7,_|8,_|9,_|10,_|11,_|12,_|13,_|14,_|15,_=>rfl
  | k+16,h=>absurd h (by omega)

theorem himageF_p:FCalls Tryz.prog 34 [] 1 (fun n f=>n=16∧f=exImF):=by
  refine fcalls_of_aw Tryz.func34 rfl (dc rfl) ?_
  (repeat' (first|(refine ar_isq ?_;refine zq ?_)|refine zil (j:=1) ?_|refine zis (j:=1) ?_|refine zit (j:=1) ?_|refine zil (j:=2) ?_|refine zis (j:=2) ?_|refine zit (j:=2) ?_|refine zil (j:=8) ?_|refine zis (j:=8) ?_|refine zit (j:=8) ?_|refine zil (j:=9) ?_|refine zis (j:=9) ?_|refine zit (j:=9) ?_|(refine ar_make_v (n:=16) (ty rfl) rfl (ty rfl) rfl rfl (by omega) (by omega) (dc rfl) rfl rfl (by dsimp only;omega) (maxLen_ok (by omega)) ?_)|refine zst ?_|refine zco ?_ ?_|exact zd|(refine fun (hg:(_:Prop))=>?_;(try replace hg:=HG.out hg);(try dsimp only at hg);(try (have _h:True:=hg;clear _h hg)))))
  refine aw_ret ?_
  (repeat (first|refine ret_then ?_|refine ret_block ?_))
  exact bq1 rfl ⟨16,_,rfl,rfl,⟨rfl,rfl⟩,exImF_cl⟩
set_option maxRecDepth 20000 in
theorem houseExamples_p:PCalls Tryz.prog 9 [] (·=vb true):=by
  have hA:moreX1.length=1:=rfl
  have hB:moreX2.length=2:=rfl
  refine pcalls_of_aw Tryz.func9 rfl (Nat.le_of_ble_eq_true rfl) ?_
  (repeat' (first|(refine ar_isq ?_;refine zq ?_)|refine ar_q (qs_seq (seq rfl) rfl rfl (.int (ty rfl) rfl rfl rfl rfl (.int (ty rfl) rfl rfl rfl rfl .nil))) (dc rfl) ?_|refine ar_q (qs_seq (seq rfl) rfl rfl (.int (ty rfl) rfl rfl rfl rfl (.int (ty rfl) rfl rfl rfl rfl (.int (ty rfl) rfl rfl rfl rfl .nil)))) (dc rfl) ?_|refine ar_q (qs_seq (seq rfl) rfl rfl (.int (ty rfl) rfl rfl rfl rfl (.int (ty rfl) rfl rfl rfl rfl (.int (ty rfl) rfl rfl rfl rfl (.int (ty rfl) rfl rfl rfl rfl .nil))))) (dc rfl) ?_|refine ar_q (qs_seq (seq rfl) rfl rfl (.int (ty rfl) rfl rfl rfl rfl (.int (ty rfl) rfl rfl rfl rfl (.int (ty rfl) rfl rfl rfl rfl (.int (ty rfl) rfl rfl rfl rfl (.int (ty rfl) rfl rfl rfl rfl .nil)))))) (dc rfl) ?_|refine ar_q (qs_sneq (seq rfl) rfl rfl (.int (ty rfl) rfl rfl rfl rfl (.int (ty rfl) rfl rfl rfl rfl .nil))) (dc rfl) ?_|refine ar_q (qs_sneq (seq rfl) rfl rfl (.int (ty rfl) rfl rfl rfl rfl (.int (ty rfl) rfl rfl rfl rfl (.int (ty rfl) rfl rfl rfl rfl .nil)))) (dc rfl) ?_|refine ar_q (qs_sneq (seq rfl) rfl rfl (.int (ty rfl) rfl rfl rfl rfl (.int (ty rfl) rfl rfl rfl rfl (.int (ty rfl) rfl rfl rfl rfl (.int (ty rfl) rfl rfl rfl rfl .nil))))) (dc rfl) ?_|refine ar_q (qs_sneq (seq rfl) rfl rfl (.int (ty rfl) rfl rfl rfl rfl (.int (ty rfl) rfl rfl rfl rfl (.int (ty rfl) rfl rfl rfl rfl (.int (ty rfl) rfl rfl rfl rfl (.int (ty rfl) rfl rfl rfl rfl .nil)))))) (dc rfl) ?_|refine ar_q (qs_and rfl rfl (andMask (by omega))) (dc rfl) ?_|refine ar_q (qs_shr rfl rfl (by omega) (shr0 (by omega))) (dc rfl) ?_|refine zil (j:=0) ?_|refine zis (j:=0) ?_|refine zit (j:=0) ?_|(refine zbt ?_)|(refine zpvD fn24 (halive_p) ?_)|(((refine ar_sub_l (env':=[(2,vi 9),(3,vi 103),(5,vi 3),(6,vi 102),(7,.ptr 10 0 0 0),(9,vi 0),(12,vi 105),(13,encFnds [oddFnd]),(14,vi 0),(16,vi 2),(18,vi 100)]) (H':=[.arr 10 1 (fun _=>exHse.enc)]) ?_ ?_;(focus (exact zsbD [some 0] [])));refine ar_fcall fn33 rfl rfl .nil hbookF_p (dc rfl) ?_;rintro _ _ ⟨rfl,rfl⟩))|(((refine ar_sub_l (env':=[(2,vi 9),(3,vi 103),(5,vi 3),(6,vi 102)]) (H':=[]) ?_ ?_;(focus (exact zsbD [] [])));refine ar_fcall fn33 rfl rfl .nil hbookF_p (dc rfl) ?_;rintro _ _ ⟨rfl,rfl⟩))|(((refine ar_sub_l (env':=[(2,vi 9),(3,vi 103)]) (H':=[]) ?_ ?_;(focus (exact zsbD [] [])));refine ar_fcall fn33 rfl rfl .nil hbookF_p (dc rfl) ?_;rintro _ _ ⟨rfl,rfl⟩))|((refine ar_fcall fn33 rfl rfl .nil hbookF_p (dc rfl) ?_;rintro _ _ ⟨rfl,rfl⟩))|(((refine ar_subk_l (sub_nilC (t:=32) (xPrint.enc) rfl rfl (by repeat' (first|exact trivial|refine ⟨.inl rfl,?_⟩|refine ⟨.inr ⟨rfl,_,_,rfl⟩,?_⟩))) ?_);refine ar_buildLE Job.enc (moreX1) (by exact ty rfl) (by exact rfl) (by exact ty rfl) (by exact rfl) (by exact rfl) (by exact Nat.succ_pos _) (by exact rfl) (by exact dc rfl) (by exact rfl) (by exact fun _=>⟨rfl,rfl⟩) (by exact dc rfl) ?_))|((refine ar_subk_l (sub_frzL (t:=34) Job.enc bookX1 rfl rfl rfl rfl (fun k hk=>appF_elH (e:=Job.enc) (l:=exJobs) (l':=moreX1) (n:=9) rfl (fun _ _=>rfl) (fun i _=>congrArg (fun q=>Job.enc (el moreX1 q)) (Nat.zero_add i)) hk) (fun _=>rfl)) ?_;refine zpvD fn14 (exP1_p) ?_))|(((refine ar_subk_l (sub_nilC (t:=42) (xDay.enc) rfl rfl (by repeat' (first|exact trivial|refine ⟨.inl rfl,?_⟩|refine ⟨.inr ⟨rfl,_,_,rfl⟩,?_⟩))) ?_);(refine ar_subk_l (sub_nilC (t:=43) (xTake.enc) rfl rfl (by repeat' (first|exact trivial|refine ⟨.inl rfl,?_⟩|refine ⟨.inr ⟨rfl,_,_,rfl⟩,?_⟩))) ?_);refine ar_buildLE Job.enc (moreX2) (by exact ty rfl) (by exact rfl) (by exact ty rfl) (by exact rfl) (by exact rfl) (by exact Nat.succ_pos _) (by exact rfl) (by exact dc rfl) (by exact rfl) (by exact fun _=>⟨rfl,rfl⟩) (by exact dc rfl) ?_))|refine zcl (a:=0) (b:=2) ?_|refine zcs (a:=0) (b:=2) ?_|refine zcpl ?_|refine zcpo ?_|refine zg ?_ ?_|refine zgu ?_|refine zst ?_|refine zco ?_ ?_|exact zd|(refine fun (hg:(_:Prop))=>?_;(try replace hg:=HG.out hg);(try dsimp only at hg);(try (have _h:True:=hg;clear _h hg)))))
  refine ar_sub_l (sub_shrink (b:=0) (n:=2) rfl (by omega) (by omega)) ?_
  (repeat' (first|(refine ar_isq ?_;refine zq ?_)|refine ar_q (qs_seq (seq rfl) rfl rfl (.int (ty rfl) rfl rfl rfl rfl (.int (ty rfl) rfl rfl rfl rfl .nil))) (dc rfl) ?_|refine ar_q (qs_seq (seq rfl) rfl rfl (.int (ty rfl) rfl rfl rfl rfl (.int (ty rfl) rfl rfl rfl rfl (.int (ty rfl) rfl rfl rfl rfl .nil)))) (dc rfl) ?_|refine ar_q (qs_seq (seq rfl) rfl rfl (.int (ty rfl) rfl rfl rfl rfl (.int (ty rfl) rfl rfl rfl rfl (.int (ty rfl) rfl rfl rfl rfl (.int (ty rfl) rfl rfl rfl rfl .nil))))) (dc rfl) ?_|refine ar_q (qs_seq (seq rfl) rfl rfl (.int (ty rfl) rfl rfl rfl rfl (.int (ty rfl) rfl rfl rfl rfl (.int (ty rfl) rfl rfl rfl rfl (.int (ty rfl) rfl rfl rfl rfl (.int (ty rfl) rfl rfl rfl rfl .nil)))))) (dc rfl) ?_|refine ar_q (qs_sneq (seq rfl) rfl rfl (.int (ty rfl) rfl rfl rfl rfl (.int (ty rfl) rfl rfl rfl rfl .nil))) (dc rfl) ?_|refine ar_q (qs_sneq (seq rfl) rfl rfl (.int (ty rfl) rfl rfl rfl rfl (.int (ty rfl) rfl rfl rfl rfl (.int (ty rfl) rfl rfl rfl rfl .nil)))) (dc rfl) ?_|refine ar_q (qs_sneq (seq rfl) rfl rfl (.int (ty rfl) rfl rfl rfl rfl (.int (ty rfl) rfl rfl rfl rfl (.int (ty rfl) rfl rfl rfl rfl (.int (ty rfl) rfl rfl rfl rfl .nil))))) (dc rfl) ?_|refine ar_q (qs_sneq (seq rfl) rfl rfl (.int (ty rfl) rfl rfl rfl rfl (.int (ty rfl) rfl rfl rfl rfl (.int (ty rfl) rfl rfl rfl rfl (.int (ty rfl) rfl rfl rfl rfl (.int (ty rfl) rfl rfl rfl rfl .nil)))))) (dc rfl) ?_|refine ar_q (qs_and rfl rfl (andMask (by omega))) (dc rfl) ?_|refine ar_q (qs_shr rfl rfl (by omega) (shr0 (by omega))) (dc rfl) ?_|refine zil (j:=0) ?_|refine zis (j:=0) ?_|refine zit (j:=0) ?_|(refine zbt ?_)|(((refine ar_sub_l (env':=[(2,vi 9),(3,vi 103),(5,vi 3),(6,vi 102),(7,.ptr 10 0 0 0),(9,vi 0),(12,vi 105),(13,encFnds [oddFnd]),(14,vi 0),(16,vi 2),(18,vi 100)]) (H':=[.arr 10 1 (fun _=>exHse.enc)]) ?_ ?_;(focus (exact zsbD [some 0] [])));refine ar_fcall fn33 rfl rfl .nil hbookF_p (dc rfl) ?_;rintro _ _ ⟨rfl,rfl⟩))|(((refine ar_sub_l (env':=[(2,vi 9),(3,vi 103),(5,vi 3),(6,vi 102)]) (H':=[]) ?_ ?_;(focus (exact zsbD [] [])));refine ar_fcall fn33 rfl rfl .nil hbookF_p (dc rfl) ?_;rintro _ _ ⟨rfl,rfl⟩))|((refine ar_subk_l (sub_frzL (t:=45) Job.enc bookX2 rfl rfl rfl rfl (fun k hk=>appF_elH (e:=Job.enc) (l:=[noteJob,exLicn]) (l':=moreX2) (n:=2) rfl (fun i hi=>by match i,hi with|0,_|1,_=>rfl) (fun i _=>congrArg (fun q=>Job.enc (el moreX2 q)) (Nat.zero_add i)) hk) (fun _=>rfl)) ?_;refine zpvD fn14 (exP2_p) ?_))|(((refine ar_subk_l (sub_frzL (t:=51) Job.enc (exJobs) rfl rfl rfl rfl (fun _ _=>rfl) (fun _=>rfl)) ?_);refine zpvD fn14 (exP_p) ?_))|((refine ar_fcall fn34 rfl rfl .nil himageF_p (dc rfl) ?_;rintro _ _ ⟨rfl,rfl⟩))|(((refine ar_sub_l (env':=[(2,vi 9),(3,vi 103),(5,vi 3),(6,vi 102),(7,.ptr 10 0 0 0),(9,vi 0),(10,encBools oddImage),(60,exHse.enc),(61,encBools oddImage)]) (H':=[.arr 10 1 (fun _=>exHse.enc)]) ?_ ?_;(focus ((refine sub_to [some 1] [2] rfl ?_ ?_<;>(repeat' (first|exact trivial|refine ⟨⟨_,rfl,?_⟩,?_⟩|refine vs1 ?_ ?_|refine vs2 ?_ ?_|refine vs3 ?_|refine vs4 ?_ ?_|refine ⟨.inl ⟨_,_,rfl,rfl,?_⟩,?_⟩|exact ⟨.inr ⟨rfl,rfl⟩,trivial⟩|refine ⟨.inr ⟨rfl,rfl⟩,?_⟩|(intro _ _)|exact vz1|(exact frz_as (l:=oddImage) (by simp;done) rfl rfl rfl odd_at (fun _=>rfl))|exact vz2|fail)));done)));refine zpvD fn29 (exOdd0_p) ?_))|(refine zpvD fn29 (exOdd1_p) ?_)|(((refine ar_subk_l (sub_nilC (t:=73) (xNone.enc) rfl rfl (by repeat' (first|exact trivial|refine ⟨.inl rfl,?_⟩|refine ⟨.inr ⟨rfl,_,_,rfl⟩,?_⟩))) ?_);refine zpvD fn20 (exDoN_p) ?_))|(refine zpvD fn35 (hnote_p) ?_)|(((refine ar_subk_l (sub_nilC (t:=78) (noHse.enc) rfl rfl (by repeat' (first|exact trivial|refine ⟨.inl rfl,?_⟩|refine ⟨.inr ⟨rfl,_,_,rfl⟩,?_⟩))) ?_);refine zpvD fn20 (exDo0_p) ?_))|(((refine ar_subk_l (sub_frzL (t:=84) Job.enc (exJobs) rfl rfl rfl rfl (fun _ _=>rfl) (fun _=>rfl)) ?_);refine zpvD fn14 (exP3_p) ?_))|refine ar_buildLE vi ([0,0]) (by exact ty rfl) (by exact rfl) (by exact ty rfl) (by exact rfl) (by exact rfl) (by exact Nat.succ_pos _) (by exact rfl) (by exact dc rfl) (by exact rfl) (by exact fun _=>⟨rfl,rfl⟩) (by exact dc rfl) ?_|(((refine ar_subk_l (sub_frzL (t:=90) vi ([0,0]) rfl rfl rfl rfl (fun _ _=>rfl) (fun _=>rfl)) ?_);refine ar_buildLE vi ([1,1]) (by exact ty rfl) (by exact rfl) (by exact ty rfl) (by exact rfl) (by exact rfl) (by exact Nat.succ_pos _) (by exact rfl) (by exact dc rfl) (by exact rfl) (by exact fun _=>⟨rfl,rfl⟩) (by exact dc rfl) ?_))|(((refine ar_subk_l (sub_frzL (t:=91) vi ([1,1]) rfl rfl rfl rfl (fun _ _=>rfl) (fun _=>rfl)) ?_);refine ar_buildLE encInts ([[0,0],[1,1]]) (by exact ty rfl) (by exact rfl) (by exact ty rfl) (by exact rfl) (by exact rfl) (by exact Nat.succ_pos _) (by exact rfl) (by exact dc rfl) (by exact rfl) (by exact fun _=>⟨rfl,rfl⟩) (by exact dc rfl) ?_))|(((refine ar_sub_l (env':=[(2,vi 9),(3,vi 103),(5,vi 3),(6,vi 102),(9,vi 0),(12,vi 105),(13,encFnds [oddFnd]),(14,vi 0),(16,vi 2),(18,vi 100),(20,vi 8),(21,vi 104),(97,exHse.enc),(98,xSolid.enc)]) (H':=[]) ?_ ?_;(focus (exact zscD [] [6])));refine zpvD fn20 (exDoS_p) ?_))|refine ar_buildLE Fnd.enc ([oddFnd]) (by exact ty rfl) (by exact rfl) (by exact ty rfl) (by exact rfl) (by exact rfl) (by exact Nat.succ_pos _) (by exact rfl) (by exact dc rfl) (by exact rfl) (by exact fun _=>⟨rfl,rfl⟩) (by exact dc rfl) ?_|(((refine ar_subk_l (sub_frzL (t:=131) Fnd.enc ([oddFnd]) rfl rfl rfl rfl (fun _ _=>rfl) (fun _=>rfl)) ?_);refine zpvD fn36 (sameFnds_p [oddFnd]) ?_))|refine zcl ?_|refine zcs ?_|refine zcpl ?_|refine zcpo ?_|refine zg ?_ ?_|refine zgu ?_|refine zst ?_|refine zco ?_ ?_|exact zd|(refine fun (hg:(_:Prop))=>?_;(try replace hg:=HG.out hg);(try dsimp only at hg);(try (have _h:True:=hg;clear _h hg)))))
  all_goals first
    | ((refine aw_ret ?_;(repeat (first|refine ret_then ?_|refine ret_block ?_));refine bq1 rfl ⟨?_,rfl⟩);rfl)
    | trace_state
end Go.Proofs.YtbilpbabdgfblaaGreat
