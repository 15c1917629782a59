/- HouseSpelled: the walk of the law. No condition. -/
import Derived.Test.YtbilpbabdgfblaaGreatKSq21
set_option maxHeartbeats 16000000
set_option linter.unusedSimpArgs false
set_option linter.unusedVariables false
namespace Go.Proofs.YtbilpbabdgfblaaGreat
open Go.RowKit
section
variable {s:Sheet}{b:List (List Int)}
theorem gap_clear (h:checkErr s b=0) {i c:Nat}(hi:i<b.length-1) (hc:c<s.cols.toNat):s.clear≤gapAt s b i c:=by
 have hb:=Sheet.bounds (band_of_check h).1
 have hbd:bandB s b=true:=by
  unfold checkErr at h
  rw [if_pos (band_of_check h).1] at h
  split at h
  ·assumption
  ·omega
 unfold bandB at hbd
 simp only [Bool.and_eq_true,List.all_eq_true,List.mem_range,decide_eq_true_eq] at hbd
 have:=near_no (hbd.2 i hi) (j:=c) (by omega)
 simp only [nearAt,decide_eq_false_iff_not] at this
 unfold gapAt
 omega
theorem gapRow_one {i:Nat}{x:Int}(hx:1≤x):∀ n,(∀ c,c<n→1≤gapAt s b i c)→1≤gapRow s b i x n
 | 0,_=>hx
 | n+1,h=>by
  have ih:=gapRow_one (i:=i) hx n (fun c hc=>h c (by omega))
  have:=h n (by omega)
  rw [gapRow_succ]
  omega
theorem gapTo_one (h0:1≤s.rows):∀ k,(∀ i c,i<k→c<s.cols.toNat→1≤gapAt s b i c)→1≤gapTo s b k
 | 0,_=>h0
 | k+1,h=>by
  rw [gapTo_succ]
  exact gapRow_one (gapTo_one h0 k fun i c hi hc=>h i c (by omega) hc) _ fun c hc=>h k c (by omega) hc
def spJob (s:Sheet) (b:List (List Int)):Job:=⟨1,1,0,0,0,0,noAct,s,b⟩
def spJobs (s:Sheet) (b:List (List Int)):List Job:=[spJob s b,exLicn,exTake,exEngv,actJob 3 0 1,actJob 2 0 0,actJob 2 1 0,actJob 3 2 2,exPrnt]
def spDsn (s:Sheet) (b:List (List Int)):Dsn:=⟨1,s,b⟩
def spHse (s:Sheet) (b:List (List Int)):Hse:=⟨100,0,exStore [⟨2,0⟩,⟨2,0⟩,⟨2,0⟩],[spDsn s b],[⟨0,2,9,2⟩],[⟨2,0,3,false⟩],[0,0,0],[0,0,0]⟩
theorem sp_good (h:checkErr s b=0) (hl:b.length≠0) (h1:1≤s.clear):GoodD (spDsn s b):=by
 have hb:=Sheet.bounds (band_of_check h).1
 refine ⟨⟨show (0:Int)≤1 by decide,show (1:Int)≤50 by decide⟩,hl,h,?_⟩
 by_cases hg:gapErr s b=0
 ·right
  show 0<gapF s b
  unfold gapF
  rw [if_pos hg]
  have:=gapTo_one (s:=s) (b:=b) (by omega) (b.length-1) fun i c hi hc=>by have:=gap_clear h hi hc;omega
  omega
 ·exact .inl hg
theorem sp_err0 (h:checkErr s b=0):hErrAt 100 1000 (spJobs s b) 0=if GoodD (spDsn s b) then 0 else 101:=by
 show archE (hAt 100 1000 (spJobs s b) 0) (spJob s b)=_
 unfold archE
 rw [if_neg (fun q=>q (show aClient 1 by decide)),if_neg (fun q=>q h)]
 by_cases hg:GoodD (spDsn s b)
 ·rw [if_neg (show ¬ ¬ GoodD (spJob s b).dsn from fun q=>q hg),if_neg (show ¬ 8≤(hAt 100 1000 (spJobs s b) 0).designs.length from (show ¬ 8≤0 by decide)),if_pos hg]
 ·rw [if_pos (show ¬ GoodD (spJob s b).dsn from hg),if_neg hg]
theorem sp_allow (hg:GoodD (spDsn s b)):3≤allowsF 100 1000 (spDsn s b):=by
 unfold allowsF
 split
 ·rename_i hl
  have hl2:=hl
  unfold lastErr at hl2
  unfold lastF
  rw [if_pos hl]
  split at hl2
  ·rename_i h0
   split at hl2
   ·split at hl2
    ·omega
    ·rename_i hn
     have:=(gap_ok h0).2.2.1
     omega
   ·omega
  ·omega
 ·omega
theorem sp_err8 (hg:GoodD (spDsn s b)):hErrAt 100 1000 (spJobs s b) 8=0:=by
 have h1:hErrAt 100 1000 (spJobs s b) 8=if allowsF 100 1000 (spDsn s b)<0+3 then 104 else 0:=by kernel_rfl
 have:=sp_allow hg
 rw [h1,if_neg (by omega)]
theorem sp_errs (h:checkErr s b=0) (hg:GoodD (spDsn s b)):∀ j,j<9→hErrAt 100 1000 (spJobs s b) j=0
 | 0,_=>by rw [sp_err0 h,if_pos hg]
 | 1,_=>by kernel_rfl
 | 2,_=>by kernel_rfl
 | 3,_=>by kernel_rfl
 | 4,_=>by kernel_rfl
 | 5,_=>by kernel_rfl
 | 6,_=>by kernel_rfl
 | 7,_=>by kernel_rfl
 | 8,_=>sp_err8 hg
 | j+9,hj=>absurd hj (by omega)
theorem spHse_eq:hAt 100 1000 (spJobs s b) 9=spHse s b:=by kernel_rfl
theorem sp_len:(spJobs s b).length=9:=rfl
theorem spX (h:checkErr s b=0) (hg:GoodD (spDsn s b)):hplayX 100 1000 (spJobs s b)=(0,0):=hplayX_ok (by rw [sp_len];decide) ex_life (sp_errs h hg)
theorem spX_no (h:checkErr s b=0) (hg:¬ GoodD (spDsn s b)):hplayX 100 1000 (spJobs s b)=(0,101):=by
 have e:hErrAt 100 1000 (spJobs s b) 0=101:=by rw [sp_err0 h,if_neg hg]
 rw [hplayX_bad (k:=0) (by rw [sp_len];decide) ex_life (fun j hj=>absurd hj (by omega)) (by rw [sp_len];decide) (by rw [e];decide),e]
 rfl
theorem spF (h:checkErr s b=0) (hg:GoodD (spDsn s b)):hplayF 100 1000 (spJobs s b)=spHse s b:=(hplayF_ok (by rw [spX h hg])).trans spHse_eq
theorem spValid (h:checkErr s b=0) (hg:GoodD (spDsn s b)):HValid (spHse s b):=by rw [← spHse_eq];exact hAt_ok (hvalid0.2 ex_life) (sp_errs h hg)
theorem spSt:StOk (spHse s b).store:=by
 intro j hj
 match j,hj with
 | 0,_|1,_|2,_=>exact Int.le_refl 0
theorem sp_u8:∀ j,j<(spJobs s b).length→u8ok (el (spJobs s b) j).kind∧u8ok (el (spJobs s b) j).act.kind:=jobs_u8d rfl
theorem sp_ask (hV:HValid (spHse s b)):askE (spHse s b) 0=0:=askE_ok hV ⟨Int.le_refl _,by show (0:Int)<3;omega⟩
theorem sp_image (hV:HValid (spHse s b)):imageF (spHse s b) 0=proofF s b 0 true:=by
 unfold imageF
 rw [if_pos (sp_ask hV)]
 kernel_rfl
/-- A dot of an image without growth, read from behind. -/
theorem sp_dot (h:checkErr s b=0) {r c:Nat}(hr:(r:Int)<s.rows) (hc:c<s.cols.toNat):el (proofF s b 0 true) (r*s.cols.toNat+(s.cols.toNat-1-c))=dotB s b r c:=by
 have he:proofErr s b 0=0:=by unfold proofErr;rw [if_pos h,if_pos (by decide)]
 unfold proofF
 rw [if_pos he,proofTo_el,proof_idx (by omega)]
 ·unfold proofB dotB
  have e:pCol s true (s.cols.toNat-1-c)=c:=by unfold pCol;rw [if_pos rfl];omega
  rw [e]
  congr 1
  funext l
  rw [Bool.eq_iff_iff,hitB_iff]
  unfold dotAt
  rw [withinB_iff]
  omega
 ·have h1:(r+1)*s.cols.toNat≤s.rows.toNat*s.cols.toNat:=Nat.mul_le_mul_right _ (by omega)
  rw [Nat.add_mul,Nat.one_mul] at h1
  omega
theorem sp_len2 (h:checkErr s b=0):(proofF s b 0 true).length=s.rows.toNat*s.cols.toNat:=by
 have he:proofErr s b 0=0:=by unfold proofErr;rw [if_pos h,if_pos (by decide)]
 unfold proofF
 rw [if_pos he,proofTo_len]
end
theorem sp_row {s:Sheet}{b:List (List Int)}{k:Nat}(hk:k<9) {f:Nat→V}(h0:f 0=(spJob s b).enc) (h1:f 1=exLicn.enc) (h2:f 2=exTake.enc) (h3:f 3=exEngv.enc) (h4:f 4=(actJob 3 0 1).enc) (h5:f 5=(actJob 2 0 0).enc) (h6:f 6=(actJob 2 1 0).enc) (h7:f 7=(actJob 3 2 2).enc) (h8:f 8=exPrnt.enc):Job.enc (el (spJobs s b) k)=f k:=by
 match k,hk with
 | 0,_=>exact h0.symm
 | 1,_=>exact h1.symm
 | 2,_=>exact h2.symm
 | 3,_=>exact h3.symm
 | 4,_=>exact h4.symm
 | 5,_=>exact h5.symm
 | 6,_=>exact h6.symm
 | 7,_=>exact h7.symm
 | 8,_=>exact h8.symm
 | k+9,h=>exact absurd h (by omega)
structure KeyS (P:Prop):Prop where
 fits:P
theorem shareS {P G:Prop}(h:KeyS P→G) (hp:P):G:=h ⟨hp⟩
section
variable (s:Sheet) (c:Screen) (w:List Int) (z:Nat) (M:List (List Bool)) (B:List (List Int)) (L:List Bool)

set_option maxRecDepth 20000 in
theorem spelled_yes (hr:roomErr s c=0) (hw:w.length≤8) (hz:1≤z∧z≤40) (hlean:1≤s.lean) (hzb:(c.period/2-s.weight)/s.lean*4<z) (hwt:s.weight≤c.period/2) (hc:checkErr s B=0) (hLl:L.length=s.rows.toNat*s.cols.toNat)
  (hdot:∀ (r q:Nat),(r:Int)<s.rows→q<s.cols.toNat→el L (r*s.cols.toNat+(s.cols.toNat-1-q))=dotB s B r q)
  (p1:PCalls Tryz.prog 40 [encInts w,vi z,vi s.cols,vi (roomN s c)] (·=.tup [encMask M,vi 0])) (p3:PCalls Tryz.prog 41 [s.enc,c.enc,encMask M] (·=.tup [encRows B,vi 0]))
  (hp:PCalls Tryz.prog 14 [vi 100,vi 1000,encJobs (spJobs s B)] (·=.tup [(spHse s B).enc,vi 0,vi 0])) (hi:PCalls Tryz.prog 26 [(spHse s B).enc,vi 0] (·=.tup [encBools L,vi 0]))
  (p5:PCalls Tryz.prog 42 [encMask (seenTo s B c (c.period/2) (cntF s c)),vi z,vi w.length] (·=.tup [encInts w,vi 0])) :
  PCalls Tryz.prog 12 [s.enc,c.enc,encInts w,vi z] (·=vb true):=by
 obtain ⟨hs,hok,h0,hrn,_⟩:=room_ok hr
 have hb:=Sheet.bounds hs
 have hcb:=Screen.bounds hok
 have hc12:=cntF_le s c
 have hd0:0≤(c.period/2-s.weight)/s.lean∧(c.period/2-s.weight)/s.lean≤c.period/2-s.weight:=⟨Int.ediv_nonneg (by omega) (by omega),Int.ediv_le_self _ (by omega)⟩
 have hmul:s.cols*s.rows=((s.rows.toNat*s.cols.toNat:Nat):Int):=by
  rw [Int.natCast_mul,Int.mul_comm,show (s.rows.toNat:Int)=s.rows by omega,show (s.cols.toNat:Int)=s.cols by omega]
 have hmx:s.rows.toNat*s.cols.toNat≤60*40:=Nat.mul_le_mul (by omega) (by omega)
 refine pcalls_of_aw Tryz.func12 rfl (Nat.le_of_ble_eq_true rfl) ?_
 apply shareS
 ·intro key
  (repeat' (first|(refine ar_isq ?_;refine zq ?_)|refine zil (j:=0) ?_|refine zis (j:=0) ?_|refine zit (j:=0) ?_|(refine zpv fn24 (halive_p) ?_)|(refine zpv fn39 (lRoom_p s c) ?_)|(refine zpv fn40 (p1) ?_)|(refine zpv fn41 (p3) ?_)|((refine ar_fcall fn33 rfl rfl .nil hbookF_p (dc rfl) ?_;rintro _ _ ⟨rfl,rfl⟩))|((refine ar_subk_l (sub_frzL (t:=102) Job.enc (spJobs s B) rfl rfl rfl rfl (fun k hk=>sp_row hk rfl rfl rfl rfl rfl rfl rfl rfl rfl) (fun _=>rfl)) ?_;refine zpv fn14 (hp) ?_))|(refine zpv fn26 (hi) ?_)|refine zg ?_ ?_|refine zgu ?_|refine zst ?_|refine zco ?_ ?_|exact zd|(refine fun (hg:(_:Prop))=>?_;(try replace hg:=HG.out hg);(try dsimp only at hg);(try (have _h:True:=hg;clear _h hg)))))
  all_goals first
   | (exfalso;omega)
   | ((refine aw_ret ?_;(repeat (first|refine ret_then ?_|refine ret_block ?_));refine bq1 rfl ⟨?_,rfl⟩);rfl)
   | ((refine aw_mono_r (env':=[(2,encInts w),(3,vi z),(4,.ptr 5 0 0 0),(5,.ptr 2 1 0 0),(9,vb true),(16,vi (c.period/2)),(21,encBools L),(23,vnil),(140,vi (cntF s c)),(141,vi 0)]) (H':=[.arr 5 1 (fun _=>s.enc),.arr 2 1 (fun _=>c.enc)]) ?_ ?_;(focus (exact zsc [some 0,some 1] [])));exact key.fits)
   | trace_state
 ·refine aw_for (cntF s c) (fun _=>True) (fun k=>[(2,encInts w),(3,vi z),(4,.ptr 5 0 0 0),(5,.ptr 2 1 0 0),(9,vb true),(16,vi (c.period/2)),(21,encBools L),(23,.sl 1 2 0 (seenTo s B c (c.period/2) k).length),(140,vi (cntF s c)),(141,vi k)]) (fun k=>[.arr 5 1 (fun _=>s.enc),.arr 2 1 (fun _=>c.enc),LB 1 encBools (seenTo s B c (c.period/2) k)]) trivial ?_ ?_
  ·(exact zsb [some 0,some 1,none] [])
  intro k hk _
  have hsl:=seenTo_len s B c (c.period/2) k
  by_cases hlt:k<cntF s c
  ·have hm:=mulP hok (k:=k) (by omega)
   have hin:=cntF_in hlt
   have hR:(rowN c (c.period/2) k:Int)=c.phase+(k:Int)*c.period+c.period/2:=by unfold rowN;omega
   have hRl:(rowN c (c.period/2) k:Int)<s.rows:=by omega
   have hRm:(rowN c (c.period/2) k:Int)*s.cols=((rowN c (c.period/2) k*s.cols.toNat:Nat):Int):=by rw [Int.natCast_mul,show (s.cols.toNat:Int)=s.cols by omega]
   have hRx:(rowN c (c.period/2) k+1)*s.cols.toNat≤s.rows.toNat*s.cols.toNat:=Nat.mul_le_mul_right _ (by omega)
   rw [Nat.add_mul,Nat.one_mul] at hRx
   (repeat' (first|(refine ar_isq ?_;refine zq ?_)|refine zg ?_ ?_|refine zgu ?_|refine zst ?_|refine zco ?_ ?_|exact zd|(refine fun (hg:(_:Prop))=>?_;(try replace hg:=HG.out hg);(try dsimp only at hg);(try (have _h:True:=hg;clear _h hg)))))
   all_goals (try (exfalso;omega))
   refine aw_for s.cols.toNat (fun _=>True) (fun j=>[(2,encInts w),(3,vi z),(4,.ptr 5 0 0 0),(5,.ptr 2 1 0 0),(9,vb true),(16,vi (c.period/2)),(21,encBools L),(23,.sl 1 2 0 (seenTo s B c (c.period/2) k).length),(25,vi (rowN c (c.period/2) k)),(26,.sl 1 3 0 (seenRow s B c (c.period/2) k j).length),(140,vi (cntF s c)),(141,vi k),(154,vi s.cols),(155,vi j)]) (fun j=>[.arr 5 1 (fun _=>s.enc),.arr 2 1 (fun _=>c.enc),LB 1 encBools (seenTo s B c (c.period/2) k),LB 1 vb (seenRow s B c (c.period/2) k j)]) trivial ?_ ?_
   ·(exact zsc [some 0,some 1,some 2,none] [])
   intro j hj _
   have hrl:=seenRow_len s B c (c.period/2) k j
   by_cases hltj:j<s.cols.toNat
   ·have hdj:=hdot (rowN c (c.period/2) k) j hRl hltj
    (repeat' (first|(refine ar_isq ?_;refine zq ?_)|refine zil (j:=rowN c (c.period/2) k*s.cols.toNat+(s.cols.toNat-1-j)) ?_|refine zis (j:=rowN c (c.period/2) k*s.cols.toNat+(s.cols.toNat-1-j)) ?_|refine zit (j:=rowN c (c.period/2) k*s.cols.toNat+(s.cols.toNat-1-j)) ?_|refine zg ?_ ?_|refine zgu ?_|refine zst ?_|refine zco ?_ ?_|exact zd|(refine fun (hg:(_:Prop))=>?_;(try replace hg:=HG.out hg);(try dsimp only at hg);(try (have _h:True:=hg;clear _h hg)))))
    all_goals first
     | (exfalso;omega)
     | (rw [seenRow_succ,← hdj];((first|refine loop_next (by omega) ?_ ?_|refine (show _∧_∧SubOf _ _ _ _ _ _ from And.intro (by omega) (And.intro ?_ ?_)));(focus ((trivial);done));(focus (exact zsb [some 0,some 1,some 2,some 5] []))))
     | trace_state
   ·obtain rfl:j=s.cols.toNat:=by omega
    (repeat' (first|(refine ar_isq ?_;refine zq ?_)|refine zg ?_ ?_|refine zgu ?_|refine zst ?_|refine zco ?_ ?_|exact zd|(refine fun (hg:(_:Prop))=>?_;(try replace hg:=HG.out hg);(try dsimp only at hg);(try (have _h:True:=hg;clear _h hg)))))
    all_goals first
     | (exfalso;omega)
     | (rw [seenTo_succ];((first|refine loop_next (by omega) ?_ ?_|refine (show _∧_∧SubOf _ _ _ _ _ _ from And.intro (by omega) (And.intro ?_ ?_)));(focus ((trivial);done));(focus (exact zsb [some 0,some 1,some 5] [3]))))
     | trace_state
  ·obtain rfl:k=cntF s c:=by omega
   (repeat' (first|(refine ar_isq ?_;refine zq ?_)|(((refine ar_subk_l (sub_frzL (t:=181) encBools (seenTo s B c (c.period/2) (cntF s c)) rfl rfl rfl rfl (fun _ _=>rfl) (fun _=>rfl)) ?_);refine zpv fn42 (p5) ?_))|(refine zpv fn32 (sameInts_p w) ?_)|refine zg ?_ ?_|refine zgu ?_|refine zst ?_|refine zco ?_ ?_|exact zd|(refine fun (hg:(_:Prop))=>?_;(try replace hg:=HG.out hg);(try dsimp only at hg);(try (have _h:True:=hg;clear _h hg)))))
   all_goals first
    | (exfalso;omega)
    | ((refine aw_ret ?_;(repeat (first|refine ret_then ?_|refine ret_block ?_));refine bq1 rfl ⟨?_,rfl⟩);rfl)
    | trace_state
end

set_option maxRecDepth 20000 in
theorem houseSpelled_p (s:Sheet) (_o0:i64ok s.cols∧i64ok s.rows∧i64ok s.weight∧i64ok s.clear∧i64ok s.lean) (c:Screen) (_o1:i64ok c.period∧i64ok c.phase) (w:List Int) (_o2:∀ y,y∈w→i64ok y) (size:Int) (_o3:i64ok size) :
  PCalls Tryz.prog 12 [s.enc,c.enc,encInts w,vi size] (·=vb true):=by
 (refine pcalls_know (fun I us h=>rel_len (rel_arg h (j:=2) rfl)) fun hlen2=>?_)
 by_cases hr:roomErr s c=0
 case neg =>
  refine pcalls_of_aw Tryz.func12 rfl (Nat.le_of_ble_eq_true rfl) ?_
  (repeat' (first|(refine ar_isq ?_;refine zq ?_)|(refine zpv fn24 (halive_p) ?_)|(refine zpv fn39 (lRoom_p s c) ?_)|refine zg ?_ ?_|refine zgu ?_|refine zst ?_|refine zco ?_ ?_|exact zd|(refine fun (hg:(_:Prop))=>?_;(try replace hg:=HG.out hg);(try dsimp only at hg);(try (have _h:True:=hg;clear _h hg)))))
  all_goals first
   | (exfalso;omega)
   | ((refine aw_ret ?_;(repeat (first|refine ret_then ?_|refine ret_block ?_));refine bq1 rfl ⟨?_,rfl⟩);rfl)
   | trace_state
 obtain ⟨hs,hc,h0,hrn,_⟩:=room_ok hr
 have hb:=Sheet.bounds hs
 have hcb:=Screen.bounds hc
 by_cases hm:maskErr w size s.cols (roomN s c)=0
 case neg =>
  have p1:=lMask_p w size s.cols (roomN s c)
  generalize maskF w size s.cols (roomN s c)=M at *
  have p2:=lHide_p s c M
  refine pcalls_of_aw Tryz.func12 rfl (Nat.le_of_ble_eq_true rfl) ?_
  (repeat' (first|(refine ar_isq ?_;refine zq ?_)|(refine zpv fn24 (halive_p) ?_)|(refine zpv fn39 (lRoom_p s c) ?_)|(refine zpv fn40 (p1) ?_)|(refine zpv fn41 (p2) ?_)|refine zg ?_ ?_|refine zgu ?_|refine zst ?_|refine zco ?_ ?_|exact zd|(refine fun (hg:(_:Prop))=>?_;(try replace hg:=HG.out hg);(try dsimp only at hg);(try (have _h:True:=hg;clear _h hg)))))
  all_goals first
   | (exfalso;omega)
   | ((refine aw_ret ?_;(repeat (first|refine ret_then ?_|refine ret_block ?_));refine bq1 rfl ⟨?_,rfl⟩);rfl)
   | trace_state
 obtain ⟨h8,hw,hz,hC,hL,h5,hwd⟩:=mask_parts hm
 obtain ⟨z,rfl⟩:∃ z:Nat,size=(z:Int):=⟨size.toNat,by omega⟩
 have hss:=fun hh hlean hz=>spell_seen hr hm hh hlean hz
 have hse:=fun (hh:hideErr s c (maskF w z s.cols (roomN s c))=0)=>(hide_seen hh (by':=c.period/2) (by omega) (by omega)).1
 have hwt:=fun (hh:hideErr s c (maskF w z s.cols (roomN s c))=0)=>(hide_ok hh).2.1
 have p1:=lMask_p w z s.cols (roomN s c)
 rw [hm] at p1
 generalize maskF w z s.cols (roomN s c)=M at *
 by_cases hh:hideErr s c M=0
 case neg =>
  have p3:=lHide_p s c M
  refine pcalls_of_aw Tryz.func12 rfl (Nat.le_of_ble_eq_true rfl) ?_
  (repeat' (first|(refine ar_isq ?_;refine zq ?_)|(refine zpv fn24 (halive_p) ?_)|(refine zpv fn39 (lRoom_p s c) ?_)|(refine zpv fn40 (p1) ?_)|(refine zpv fn41 (p3) ?_)|refine zg ?_ ?_|refine zgu ?_|refine zst ?_|refine zco ?_ ?_|exact zd|(refine fun (hg:(_:Prop))=>?_;(try replace hg:=HG.out hg);(try dsimp only at hg);(try (have _h:True:=hg;clear _h hg)))))
  all_goals first
   | (exfalso;omega)
   | ((refine aw_ret ?_;(repeat (first|refine ret_then ?_|refine ret_block ?_));refine bq1 rfl ⟨?_,rfl⟩);rfl)
   | trace_state
 have hse1:=hse hh
 have hw1:=hwt hh
 have hss1:=hss hh
 clear hse hwt hss
 have hck:checkErr s (hideF s c M)=0:=check_band hs (hide_band hh)
 have hBl:(hideF s c M).length≠0:=by rw [hideF_ok hh,drawTo_len];omega
 generalize hB:hideF s c M=B at *
 have p3:=lHide_p s c M
 rw [hh,hB] at p3
 by_cases hgo:1≤s.lean∧(c.period/2-s.weight)/s.lean*4<z
 case neg =>
  have hd0:1≤s.lean→0≤(c.period/2-s.weight)/s.lean∧(c.period/2-s.weight)/s.lean≤c.period/2-s.weight:=fun h=>⟨Int.ediv_nonneg (by omega) (by omega),Int.ediv_le_self _ (by omega)⟩
  refine pcalls_of_aw Tryz.func12 rfl (Nat.le_of_ble_eq_true rfl) ?_
  (repeat' (first|(refine ar_isq ?_;refine zq ?_)|(refine zpv fn24 (halive_p) ?_)|(refine zpv fn39 (lRoom_p s c) ?_)|(refine zpv fn40 (p1) ?_)|(refine zpv fn41 (p3) ?_)|refine zg ?_ ?_|refine zgu ?_|refine zst ?_|refine zco ?_ ?_|exact zd|(refine fun (hg:(_:Prop))=>?_;(try replace hg:=HG.out hg);(try dsimp only at hg);(try (have _h:True:=hg;clear _h hg)))))
  all_goals first
   | (exfalso;omega)
   | ((refine aw_ret ?_;(repeat (first|refine ret_then ?_|refine ret_block ?_));refine bq1 rfl ⟨?_,rfl⟩);rfl)
   | trace_state
 obtain ⟨s1,s2⟩:=hss1 hgo.1 hgo.2
 have hSe:seenF s B c (c.period/2)=seenTo s B c (c.period/2) (cntF s c):=by unfold seenF;rw [if_pos hse1]
 have p5:=lSpell_p (seenF s B c (c.period/2)) z w.length
 rw [s1,s2,hSe] at p5
 have hp:=hPlay_p 100 1000 (spJobs s B) sp_u8
 by_cases hg:GoodD (spDsn s B)
 ·have hV:=spValid hck hg
  have hi:=hImage_p (spHse s B) 0 (hsmall_of hV) spSt
  rw [sp_ask hV,sp_image hV] at hi
  rw [spF hck hg,spX hck hg] at hp
  exact spelled_yes s c w z M B _ hr h8 (by omega) hgo.1 hgo.2 hw1 hck (sp_len2 hck) (fun r q h1 h2=>sp_dot hck h1 h2) p1 p3 hp hi p5
 ·have hcl:s.clear=0:=Classical.byContradiction fun hn=>hg (sp_good hck hBl (by omega))
  have hX:=spX_no hck hg
  rw [hplayF_bad (by rw [hX];decide),hX] at hp
  have hd0:0≤(c.period/2-s.weight)/s.lean∧(c.period/2-s.weight)/s.lean≤c.period/2-s.weight:=⟨Int.ediv_nonneg (by omega) (by omega),Int.ediv_le_self _ (by omega)⟩
  refine pcalls_of_aw Tryz.func12 rfl (Nat.le_of_ble_eq_true rfl) ?_
  (repeat' (first|(refine ar_isq ?_;refine zq ?_)|refine zil (j:=0) ?_|refine zis (j:=0) ?_|refine zit (j:=0) ?_|(refine zpv fn24 (halive_p) ?_)|(refine zpv fn39 (lRoom_p s c) ?_)|(refine zpv fn40 (p1) ?_)|(refine zpv fn41 (p3) ?_)|((refine ar_fcall fn33 rfl rfl .nil hbookF_p (dc rfl) ?_;rintro _ _ ⟨rfl,rfl⟩))|((refine ar_subk_l (sub_frzL (t:=102) Job.enc (spJobs s B) rfl rfl rfl rfl (fun k hk=>sp_row hk rfl rfl rfl rfl rfl rfl rfl rfl rfl) (fun _=>rfl)) ?_;refine zpv fn14 (hp) ?_))|refine zg ?_ ?_|refine zgu ?_|refine zst ?_|refine zco ?_ ?_|exact zd|(refine fun (hg:(_:Prop))=>?_;(try replace hg:=HG.out hg);(try dsimp only at hg);(try (have _h:True:=hg;clear _h hg)))))
  all_goals first
   | (exfalso;omega)
   | ((refine aw_ret ?_;(repeat (first|refine ret_then ?_|refine ret_block ?_));refine bq1 rfl ⟨?_,rfl⟩);rfl)
   | ((refine aw_ret ?_;(repeat (first|refine ret_then ?_|refine ret_block ?_));refine bq1 rfl ⟨?_,rfl⟩);refine congrArg vb ?_;first|rfl|exact decide_eq_true hcl)
   | trace_state
end Go.Proofs.YtbilpbabdgfblaaGreat
