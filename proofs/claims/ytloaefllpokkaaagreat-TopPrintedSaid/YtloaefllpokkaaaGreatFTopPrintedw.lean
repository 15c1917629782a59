/- From the pattern to the note: the example. No condition. -/
import Derived.Test.YtloaefllpokkaaaGreatKPt22
set_option maxHeartbeats 16000000
set_option linter.unusedSimpArgs false
set_option linter.unusedVariables false
namespace Go.Proofs.YtloaefllpokkaaaGreat
open Go.RowKit
theorem isGood_small:GoodD (spDsn shSmall (wovF pSmall 4)):=⟨by decide,by decide +kernel,small_check,.inr (by show 0<gapF shSmall (wovF pSmall 4);rw [small_gapF];decide)⟩
theorem play_is (s:Sheet) (b:List (List Int)) (h:checkErr s b=0) (hg:GoodD (spDsn s b)):PCalls Tryz.prog 7 [vi 1,vi 1,encJobs (isJobs s b)] (·=.tup [(isHse s b).enc,vi 0,vi 0]):=by
  have hp:=hPlay_p 1 1 (isJobs s b) is_u8
  rw [isX h hg,isF h hg] at hp
  exact hp
theorem image_is (s:Sheet) (b:List (List Int)) (h:checkErr s b=0) (hg:GoodD (spDsn s b)):PCalls Tryz.prog 11 [(isHse s b).enc,vi 0] (·=.tup [encBools (proofF s b 0 true),vi 0]):=by
  have hV:=isValid h hg
  have hp:=hImage_p (h:=isHse s b) 0 (hsmall_of hV) isSt
  rw [is_image hV,is_ask hV] at hp
  exact hp
theorem trace_is (s:Sheet) (b:List (List Int)) (h:checkErr s b=0) (hg:GoodD (spDsn s b)):PCalls Tryz.prog 12 [(isHse s b).enc,vi 0] (·=.tup [isOrg.enc,vi 0]):=by
  have hV:=isValid h hg
  have hp:=hTrace_p (h:=isHse s b) 0 (hsmall_of hV) isSt
  rw [is_org hV,is_ask hV] at hp
  exact hp
theorem sm_len:(proofF shSmall (wovF pSmall 4) 0 true).length=60:=sp_len2 small_check
theorem sm_dot5:el (proofF shSmall (wovF pSmall 4) 0 true) 5=true:=by decide +kernel
theorem sm_dot10:el (proofF shSmall (wovF pSmall 4) 0 true) 10=true:=by decide +kernel
theorem sm_dot4:el (proofF shSmall (wovF pSmall 4) 0 true) 4=false:=by decide +kernel

set_option maxRecDepth 20000 in
theorem alive10_p:PCalls Tryz.prog 4 [] (·=vb true):=by
  have hw:=woven_ok pSmall small_err 4 (by omega)
  have hi:=issued_p shSmall (wovF pSmall 4)
  have hp:=play_is _ _ small_check isGood_small
  have him:=image_is _ _ small_check isGood_small
  have hpr:=printed_p _ _ small_check
  have h60:=sm_len
  have d5:=sm_dot5
  have d10:=sm_dot10
  have d4:=sm_dot4
  generalize proofF shSmall (wovF pSmall 4) 0 true=L at *
  generalize isJobs shSmall (wovF pSmall 4)=J at *
  generalize wovF pSmall 4=b at *
  refine pcalls_of_aw Tryz.func4 rfl (Nat.le_of_ble_eq_true rfl) ?_
  (repeat' (first|(refine ar_isq ?_;refine zq ?_)|refine zil (j:=5) ?_|refine zis (j:=5) ?_|refine zit (j:=5) ?_|refine zil (j:=10) ?_|refine zis (j:=10) ?_|refine zit (j:=10) ?_|refine zil (j:=4) ?_|refine zis (j:=4) ?_|refine zit (j:=4) ?_|(refine zbt ?_)|(refine zpv fn15 (small_p) ?_)|(refine zpv fn6 (hw) ?_)|(refine zpv fn8 (hi) ?_)|(refine zpv fn7 (hp) ?_)|(refine zpv fn11 (him) ?_)|(refine zpv fn13 (hpr) ?_)|refine zg ?_ ?_|refine zgu ?_|refine zst ?_|refine zco ?_ ?_|exact zd|(refine fun (hg:(_:Prop))=>?_;(try replace hg:=HG.out hg);(try dsimp only at hg);(try (have _h:True:=hg;clear _h hg)))))
  all_goals first
    | (exfalso;omega)
    | ((refine aw_ret ?_;(repeat (first|refine ret_then ?_|refine ret_block ?_));refine bq1 rfl ⟨?_,rfl⟩);rfl)
    | (exfalso;clear hw hi hp him hpr;simp_all;done)
    | trace_state
end Go.Proofs.YtloaefllpokkaaaGreat
-- buildT
/- From the pattern to the note: the law answers true. No condition. -/
namespace Go.Proofs.YtloaefllpokkaaaGreat
open Go.RowKit
theorem expert_is (s:Sheet) (b:List (List Int)) (h:checkErr s b=0) (hg:GoodD (spDsn s b)) (tol:Int) (ht:0≤tol∧tol≤2400):PCalls Tryz.prog 14 [(isHse s b).enc,encBools (proofF s b 0 true),vi tol] (·=.tup [encFnds [⟨0,0,0⟩],vi 0]):=by
  have hV:=isValid h hg
  have hp:=hExpert_p (h:=isHse s b) (dots:=proofF s b 0 true) (tol:=tol) (hsmall_of hV) isSt
  obtain ⟨e1,e2⟩:=is_exp h hV ht
  rw [e1,e2] at hp
  exact hp
theorem expert_no (s:Sheet) (b:List (List Int)) (h:checkErr s b=0) (hg:GoodD (spDsn s b)) (tol:Int) (ht:¬ (0≤tol∧tol≤2400)):PCalls Tryz.prog 14 [(isHse s b).enc,encBools (proofF s b 0 true),vi tol] (·=.tup [encFnds [],vi 2]):=by
  have hV:=isValid h hg
  have hp:=hExpert_p (h:=isHse s b) (dots:=proofF s b 0 true) (tol:=tol) (hsmall_of hV) isSt
  obtain ⟨e1,e2⟩:=is_exp_no hV (L:=proofF s b 0 true) ht
  rw [e1,e2] at hp
  exact hp
theorem play_no (s:Sheet) (b:List (List Int)) (e:Int) (he:hErrAt 1 1 (isJobs s b) 0=e) (h0:e≠0):PCalls Tryz.prog 7 [vi 1,vi 1,encJobs (isJobs s b)] (·=.tup [(hplayF 1 1 (isJobs s b)).enc,vi 0,vi e]):=by
  have hp:=hPlay_p 1 1 (isJobs s b) is_u8
  rw [isX_no e he h0] at hp
  exact hp
abbrev GreatC (p:Pat):Prop:=PCalls Tryz.prog 5 [p.enc] (fun v=>∃ bx,v=vb bx∧(bx=false→p.ros.length≤120∧p.rub.length≤120∧p.shifts.length≤20))
section
variable (p:Pat) (s:Sheet) (n tol:Int)

set_option maxRecDepth 20000 in
theorem prt_out (hn:¬ (0≤n∧n≤12)) (hgr:GreatC p):PCalls Tryz.prog 3 [p.enc,s.enc,vi n,vi tol] (·=vb true):=by
  refine pcalls_of_aw Tryz.func3 rfl (Nat.le_of_ble_eq_true rfl) ?_
  ((repeat refine aw_seq ?_);(first|(refine aw_region ?_));(repeat' (first|(refine ar_isq ?_;refine zq ?_)|refine ar_q (qs_seq (seq rfl) rfl rfl (.int (ty rfl) rfl rfl rfl rfl (.int (ty rfl) rfl rfl rfl rfl .nil))) (dc rfl) ?_|refine ar_q (qs_seq (seq rfl) rfl rfl (.int (ty rfl) rfl rfl rfl rfl (.int (ty rfl) rfl rfl rfl rfl (.int (ty rfl) rfl rfl rfl rfl .nil)))) (dc rfl) ?_|refine ar_q (qs_seq (seq rfl) rfl rfl (.int (ty rfl) rfl rfl rfl rfl (.int (ty rfl) rfl rfl rfl rfl (.int (ty rfl) rfl rfl rfl rfl (.int (ty rfl) rfl rfl rfl rfl .nil))))) (dc rfl) ?_|refine ar_q (qs_seq (seq rfl) rfl rfl (.int (ty rfl) rfl rfl rfl rfl (.int (ty rfl) rfl rfl rfl rfl (.int (ty rfl) rfl rfl rfl rfl (.int (ty rfl) rfl rfl rfl rfl (.int (ty rfl) rfl rfl rfl rfl .nil)))))) (dc rfl) ?_|(refine zbt ?_)|refine zg ?_ ?_|refine zgu ?_|refine zsr ?_|exact zd|(refine fun (hg:(_:Prop))=>?_;(try replace hg:=HG.out hg);(try dsimp only at hg);(try (have _h:True:=hg;clear _h hg))))))
  (refine aw_mono_r (env':=[(2,vi n),(3,vi tol),(4,.ref p.enc 0),(5,.ref s.enc 0),(8,vb false)]) (H':=[]) ?_ ?_;(focus ((refine sub_to [] [0,1] rfl ?_ ?_<;>(repeat' (first|exact trivial|refine ⟨⟨_,rfl,?_⟩,?_⟩|refine vs1 ?_ ?_|refine vs2 ?_ ?_|refine vs3 ?_|refine vs4 ?_ ?_|refine ⟨.inl ⟨_,_,rfl,rfl,?_⟩,?_⟩|exact ⟨.inr ⟨rfl,rfl⟩,trivial⟩|refine ⟨.inr ⟨rfl,rfl⟩,?_⟩|(intro _ _)|exact vz1|(exact frzPtr' (by simp) rfl (by omega) rfl rfl)|exact vz2|fail)));done)))
  (repeat' (first|(refine ar_isq ?_;refine zq ?_)|refine ar_q (qs_seq (seq rfl) rfl rfl (.int (ty rfl) rfl rfl rfl rfl (.int (ty rfl) rfl rfl rfl rfl .nil))) (dc rfl) ?_|refine ar_q (qs_seq (seq rfl) rfl rfl (.int (ty rfl) rfl rfl rfl rfl (.int (ty rfl) rfl rfl rfl rfl (.int (ty rfl) rfl rfl rfl rfl .nil)))) (dc rfl) ?_|refine ar_q (qs_seq (seq rfl) rfl rfl (.int (ty rfl) rfl rfl rfl rfl (.int (ty rfl) rfl rfl rfl rfl (.int (ty rfl) rfl rfl rfl rfl (.int (ty rfl) rfl rfl rfl rfl .nil))))) (dc rfl) ?_|refine ar_q (qs_seq (seq rfl) rfl rfl (.int (ty rfl) rfl rfl rfl rfl (.int (ty rfl) rfl rfl rfl rfl (.int (ty rfl) rfl rfl rfl rfl (.int (ty rfl) rfl rfl rfl rfl (.int (ty rfl) rfl rfl rfl rfl .nil)))))) (dc rfl) ?_|(refine zbt ?_)|(refine zpv fn4 (alive10_p) ?_)|((refine ar_pcall (own:=false) fn5 rfl rfl (.cons (.closed rfl) .nil) (hgr) (by simp) (dc rfl) ?_;rintro _ ⟨bx,rfl,hbx⟩))|refine zg ?_ ?_|refine zgu ?_|refine zst ?_|refine zco ?_ ?_|exact zd|(refine fun (hg:(_:Prop))=>?_;(try replace hg:=HG.out hg);(try dsimp only at hg);(try (have _h:True:=hg;clear _h hg)))))
  all_goals first
    | (exfalso;omega)
    | ((refine aw_ret ?_;(repeat (first|refine ret_then ?_|refine ret_block ?_));refine bq1 rfl ⟨?_,rfl⟩);rfl)
    | trace_state
set_option maxRecDepth 20000 in
theorem prt_not (hwv:PCalls Tryz.prog 6 [p.enc,vi n] (·=.tup [encRows [],vb false])) (hgr:GreatC p):PCalls Tryz.prog 3 [p.enc,s.enc,vi n,vi tol] (·=vb true):=by
  refine pcalls_of_aw Tryz.func3 rfl (Nat.le_of_ble_eq_true rfl) ?_
  ((repeat refine aw_seq ?_);(first|(refine aw_region ?_));(repeat' (first|(refine ar_isq ?_;refine zq ?_)|refine ar_q (qs_seq (seq rfl) rfl rfl (.int (ty rfl) rfl rfl rfl rfl (.int (ty rfl) rfl rfl rfl rfl .nil))) (dc rfl) ?_|refine ar_q (qs_seq (seq rfl) rfl rfl (.int (ty rfl) rfl rfl rfl rfl (.int (ty rfl) rfl rfl rfl rfl (.int (ty rfl) rfl rfl rfl rfl .nil)))) (dc rfl) ?_|refine ar_q (qs_seq (seq rfl) rfl rfl (.int (ty rfl) rfl rfl rfl rfl (.int (ty rfl) rfl rfl rfl rfl (.int (ty rfl) rfl rfl rfl rfl (.int (ty rfl) rfl rfl rfl rfl .nil))))) (dc rfl) ?_|refine ar_q (qs_seq (seq rfl) rfl rfl (.int (ty rfl) rfl rfl rfl rfl (.int (ty rfl) rfl rfl rfl rfl (.int (ty rfl) rfl rfl rfl rfl (.int (ty rfl) rfl rfl rfl rfl (.int (ty rfl) rfl rfl rfl rfl .nil)))))) (dc rfl) ?_|(refine zbt ?_)|refine zg ?_ ?_|refine zgu ?_|refine zsr ?_|exact zd|(refine fun (hg:(_:Prop))=>?_;(try replace hg:=HG.out hg);(try dsimp only at hg);(try (have _h:True:=hg;clear _h hg))))))
  (refine aw_mono_r (env':=[(2,vi n),(3,vi tol),(4,.ref p.enc 0),(5,.ref s.enc 0),(8,vb false)]) (H':=[]) ?_ ?_;(focus ((refine sub_to [] [0,1] rfl ?_ ?_<;>(repeat' (first|exact trivial|refine ⟨⟨_,rfl,?_⟩,?_⟩|refine vs1 ?_ ?_|refine vs2 ?_ ?_|refine vs3 ?_|refine vs4 ?_ ?_|refine ⟨.inl ⟨_,_,rfl,rfl,?_⟩,?_⟩|exact ⟨.inr ⟨rfl,rfl⟩,trivial⟩|refine ⟨.inr ⟨rfl,rfl⟩,?_⟩|(intro _ _)|exact vz1|(exact frzPtr' (by simp) rfl (by omega) rfl rfl)|exact vz2|fail)));done)))
  (repeat' (first|(refine ar_isq ?_;refine zq ?_)|refine ar_q (qs_seq (seq rfl) rfl rfl (.int (ty rfl) rfl rfl rfl rfl (.int (ty rfl) rfl rfl rfl rfl .nil))) (dc rfl) ?_|refine ar_q (qs_seq (seq rfl) rfl rfl (.int (ty rfl) rfl rfl rfl rfl (.int (ty rfl) rfl rfl rfl rfl (.int (ty rfl) rfl rfl rfl rfl .nil)))) (dc rfl) ?_|refine ar_q (qs_seq (seq rfl) rfl rfl (.int (ty rfl) rfl rfl rfl rfl (.int (ty rfl) rfl rfl rfl rfl (.int (ty rfl) rfl rfl rfl rfl (.int (ty rfl) rfl rfl rfl rfl .nil))))) (dc rfl) ?_|refine ar_q (qs_seq (seq rfl) rfl rfl (.int (ty rfl) rfl rfl rfl rfl (.int (ty rfl) rfl rfl rfl rfl (.int (ty rfl) rfl rfl rfl rfl (.int (ty rfl) rfl rfl rfl rfl (.int (ty rfl) rfl rfl rfl rfl .nil)))))) (dc rfl) ?_|(refine zbt ?_)|(refine zpv fn4 (alive10_p) ?_)|((refine ar_pcall (own:=false) fn5 rfl rfl (.cons (.closed rfl) .nil) (hgr) (by simp) (dc rfl) ?_;rintro _ ⟨bx,rfl,hbx⟩))|(refine zpv fn6 (hwv) ?_)|refine zg ?_ ?_|refine zgu ?_|refine zst ?_|refine zco ?_ ?_|exact zd|(refine fun (hg:(_:Prop))=>?_;(try replace hg:=HG.out hg);(try dsimp only at hg);(try (have _h:True:=hg;clear _h hg)))))
  all_goals first
    | (exfalso;omega)
    | ((refine aw_ret ?_;(repeat (first|refine ret_then ?_|refine ret_block ?_));refine bq1 rfl ⟨?_,rfl⟩);rfl)
    | trace_state
set_option maxRecDepth 20000 in
/-- The design is refused. -/
theorem prt_bad (b:List (List Int)) (h:Hse) (e f g gap:Int) (hwv:PCalls Tryz.prog 6 [p.enc,vi n] (·=.tup [encRows b,vb true]))
    (hp:PCalls Tryz.prog 7 [vi 1,vi 1,encJobs (isJobs s b)] (·=.tup [h.enc,vi 0,vi e]))
    (hc:PCalls Tryz.prog 9 [s.enc,encRows b] (·=vi f)) (hgp:PCalls Tryz.prog 10 [s.enc,encRows b] (·=.tup [vi gap,vi g])) (hef:(f≠0∧e=f)∨(f=0∧e=101∧(n=0∨(g=0∧gap=0)))) (hgr:GreatC p) :
    PCalls Tryz.prog 3 [p.enc,s.enc,vi n,vi tol] (·=vb true):=by
  have hi:=issued_p s b
  generalize isJobs s b=J at *
  refine pcalls_of_aw Tryz.func3 rfl (Nat.le_of_ble_eq_true rfl) ?_
  ((repeat refine aw_seq ?_);(first|(refine aw_region ?_));(repeat' (first|(refine ar_isq ?_;refine zq ?_)|refine ar_q (qs_seq (seq rfl) rfl rfl (.int (ty rfl) rfl rfl rfl rfl (.int (ty rfl) rfl rfl rfl rfl .nil))) (dc rfl) ?_|refine ar_q (qs_seq (seq rfl) rfl rfl (.int (ty rfl) rfl rfl rfl rfl (.int (ty rfl) rfl rfl rfl rfl (.int (ty rfl) rfl rfl rfl rfl .nil)))) (dc rfl) ?_|refine ar_q (qs_seq (seq rfl) rfl rfl (.int (ty rfl) rfl rfl rfl rfl (.int (ty rfl) rfl rfl rfl rfl (.int (ty rfl) rfl rfl rfl rfl (.int (ty rfl) rfl rfl rfl rfl .nil))))) (dc rfl) ?_|refine ar_q (qs_seq (seq rfl) rfl rfl (.int (ty rfl) rfl rfl rfl rfl (.int (ty rfl) rfl rfl rfl rfl (.int (ty rfl) rfl rfl rfl rfl (.int (ty rfl) rfl rfl rfl rfl (.int (ty rfl) rfl rfl rfl rfl .nil)))))) (dc rfl) ?_|(refine zbt ?_)|refine zg ?_ ?_|refine zgu ?_|refine zsr ?_|exact zd|(refine fun (hg:(_:Prop))=>?_;(try replace hg:=HG.out hg);(try dsimp only at hg);(try (have _h:True:=hg;clear _h hg))))))
  (refine aw_mono_r (env':=[(2,vi n),(3,vi tol),(4,.ref p.enc 0),(5,.ref s.enc 0),(8,vb false)]) (H':=[]) ?_ ?_;(focus ((refine sub_to [] [0,1] rfl ?_ ?_<;>(repeat' (first|exact trivial|refine ⟨⟨_,rfl,?_⟩,?_⟩|refine vs1 ?_ ?_|refine vs2 ?_ ?_|refine vs3 ?_|refine vs4 ?_ ?_|refine ⟨.inl ⟨_,_,rfl,rfl,?_⟩,?_⟩|exact ⟨.inr ⟨rfl,rfl⟩,trivial⟩|refine ⟨.inr ⟨rfl,rfl⟩,?_⟩|(intro _ _)|exact vz1|(exact frzPtr' (by simp) rfl (by omega) rfl rfl)|exact vz2|fail)));done)))
  (repeat' (first|(refine ar_isq ?_;refine zq ?_)|refine ar_q (qs_seq (seq rfl) rfl rfl (.int (ty rfl) rfl rfl rfl rfl (.int (ty rfl) rfl rfl rfl rfl .nil))) (dc rfl) ?_|refine ar_q (qs_seq (seq rfl) rfl rfl (.int (ty rfl) rfl rfl rfl rfl (.int (ty rfl) rfl rfl rfl rfl (.int (ty rfl) rfl rfl rfl rfl .nil)))) (dc rfl) ?_|refine ar_q (qs_seq (seq rfl) rfl rfl (.int (ty rfl) rfl rfl rfl rfl (.int (ty rfl) rfl rfl rfl rfl (.int (ty rfl) rfl rfl rfl rfl (.int (ty rfl) rfl rfl rfl rfl .nil))))) (dc rfl) ?_|refine ar_q (qs_seq (seq rfl) rfl rfl (.int (ty rfl) rfl rfl rfl rfl (.int (ty rfl) rfl rfl rfl rfl (.int (ty rfl) rfl rfl rfl rfl (.int (ty rfl) rfl rfl rfl rfl (.int (ty rfl) rfl rfl rfl rfl .nil)))))) (dc rfl) ?_|(refine zbt ?_)|(refine zpv fn4 (alive10_p) ?_)|((refine ar_pcall (own:=false) fn5 rfl rfl (.cons (.closed rfl) .nil) (hgr) (by simp) (dc rfl) ?_;rintro _ ⟨bx,rfl,hbx⟩))|(refine zpv fn6 (hwv) ?_)|(refine zpv fn8 (hi) ?_)|(refine zpv fn7 (hp) ?_)|(refine zpv fn9 (hc) ?_)|(refine zpv fn10 (hgp) ?_)|refine zg ?_ ?_|refine zgu ?_|refine zst ?_|refine zco ?_ ?_|exact zd|(refine fun (hg:(_:Prop))=>?_;(try replace hg:=HG.out hg);(try dsimp only at hg);(try (have _h:True:=hg;clear _h hg)))))
  all_goals first
    | (exfalso;omega)
    | ((refine aw_ret ?_;(repeat (first|refine ret_then ?_|refine ret_block ?_));refine bq1 rfl ⟨?_,rfl⟩);rfl)
    | trace_state
set_option maxRecDepth 20000 in
theorem prt_good (b:List (List Int)) (h:Hse) (L:List Bool) (g gap:Int) (hwv:PCalls Tryz.prog 6 [p.enc,vi n] (·=.tup [encRows b,vb true]))
    (hp:PCalls Tryz.prog 7 [vi 1,vi 1,encJobs (isJobs s b)] (·=.tup [h.enc,vi 0,vi 0])) (hc:PCalls Tryz.prog 9 [s.enc,encRows b] (·=vi 0)) (hgp:PCalls Tryz.prog 10 [s.enc,encRows b] (·=.tup [vi gap,vi g])) (hn0:n≠0) (hgg:¬ (g=0∧gap=0))
    (him:PCalls Tryz.prog 11 [h.enc,vi 0] (·=.tup [encBools L,vi 0])) (htr:PCalls Tryz.prog 12 [h.enc,vi 0] (·=.tup [isOrg.enc,vi 0])) (hpr:PCalls Tryz.prog 13 [encBools L,s.enc,encRows b] (·=vb true))
    (ht:0≤tol∧tol≤2400) (hex:PCalls Tryz.prog 14 [h.enc,encBools L,vi tol] (·=.tup [encFnds [⟨0,0,0⟩],vi 0])) (hgr:GreatC p):PCalls Tryz.prog 3 [p.enc,s.enc,vi n,vi tol] (·=vb true):=by
  have hi:=issued_p s b
  generalize isJobs s b=J at *
  refine pcalls_of_aw Tryz.func3 rfl (Nat.le_of_ble_eq_true rfl) ?_
  ((repeat refine aw_seq ?_);(first|(refine aw_region ?_));(repeat' (first|(refine ar_isq ?_;refine zq ?_)|refine ar_q (qs_seq (seq rfl) rfl rfl (.int (ty rfl) rfl rfl rfl rfl (.int (ty rfl) rfl rfl rfl rfl .nil))) (dc rfl) ?_|refine ar_q (qs_seq (seq rfl) rfl rfl (.int (ty rfl) rfl rfl rfl rfl (.int (ty rfl) rfl rfl rfl rfl (.int (ty rfl) rfl rfl rfl rfl .nil)))) (dc rfl) ?_|refine ar_q (qs_seq (seq rfl) rfl rfl (.int (ty rfl) rfl rfl rfl rfl (.int (ty rfl) rfl rfl rfl rfl (.int (ty rfl) rfl rfl rfl rfl (.int (ty rfl) rfl rfl rfl rfl .nil))))) (dc rfl) ?_|refine ar_q (qs_seq (seq rfl) rfl rfl (.int (ty rfl) rfl rfl rfl rfl (.int (ty rfl) rfl rfl rfl rfl (.int (ty rfl) rfl rfl rfl rfl (.int (ty rfl) rfl rfl rfl rfl (.int (ty rfl) rfl rfl rfl rfl .nil)))))) (dc rfl) ?_|(refine zbt ?_)|refine zg ?_ ?_|refine zgu ?_|refine zsr ?_|exact zd|(refine fun (hg:(_:Prop))=>?_;(try replace hg:=HG.out hg);(try dsimp only at hg);(try (have _h:True:=hg;clear _h hg))))))
  (refine aw_mono_r (env':=[(2,vi n),(3,vi tol),(4,.ref p.enc 0),(5,.ref s.enc 0),(8,vb false)]) (H':=[]) ?_ ?_;(focus ((refine sub_to [] [0,1] rfl ?_ ?_<;>(repeat' (first|exact trivial|refine ⟨⟨_,rfl,?_⟩,?_⟩|refine vs1 ?_ ?_|refine vs2 ?_ ?_|refine vs3 ?_|refine vs4 ?_ ?_|refine ⟨.inl ⟨_,_,rfl,rfl,?_⟩,?_⟩|exact ⟨.inr ⟨rfl,rfl⟩,trivial⟩|refine ⟨.inr ⟨rfl,rfl⟩,?_⟩|(intro _ _)|exact vz1|(exact frzPtr' (by simp) rfl (by omega) rfl rfl)|exact vz2|fail)));done)))
  (repeat' (first|(refine ar_isq ?_;refine zq ?_)|refine ar_q (qs_seq (seq rfl) rfl rfl (.int (ty rfl) rfl rfl rfl rfl (.int (ty rfl) rfl rfl rfl rfl .nil))) (dc rfl) ?_|refine ar_q (qs_seq (seq rfl) rfl rfl (.int (ty rfl) rfl rfl rfl rfl (.int (ty rfl) rfl rfl rfl rfl (.int (ty rfl) rfl rfl rfl rfl .nil)))) (dc rfl) ?_|refine ar_q (qs_seq (seq rfl) rfl rfl (.int (ty rfl) rfl rfl rfl rfl (.int (ty rfl) rfl rfl rfl rfl (.int (ty rfl) rfl rfl rfl rfl (.int (ty rfl) rfl rfl rfl rfl .nil))))) (dc rfl) ?_|refine ar_q (qs_seq (seq rfl) rfl rfl (.int (ty rfl) rfl rfl rfl rfl (.int (ty rfl) rfl rfl rfl rfl (.int (ty rfl) rfl rfl rfl rfl (.int (ty rfl) rfl rfl rfl rfl (.int (ty rfl) rfl rfl rfl rfl .nil)))))) (dc rfl) ?_|refine zil (j:=0) ?_|refine zis (j:=0) ?_|refine zit (j:=0) ?_|(refine zbt ?_)|(refine zpv fn4 (alive10_p) ?_)|((refine ar_pcall (own:=false) fn5 rfl rfl (.cons (.closed rfl) .nil) (hgr) (by simp) (dc rfl) ?_;rintro _ ⟨bx,rfl,hbx⟩))|(refine zpv fn6 (hwv) ?_)|(refine zpv fn8 (hi) ?_)|(refine zpv fn7 (hp) ?_)|(refine zpv fn9 (hc) ?_)|(refine zpv fn10 (hgp) ?_)|(refine zpv fn11 (him) ?_)|(refine zpv fn12 (htr) ?_)|(refine zpv fn13 (hpr) ?_)|(refine zpv fn14 (hex) ?_)|refine zg ?_ ?_|refine zgu ?_|refine zst ?_|refine zco ?_ ?_|exact zd|(refine fun (hg:(_:Prop))=>?_;(try replace hg:=HG.out hg);(try dsimp only at hg);(try (have _h:True:=hg;clear _h hg)))))
  all_goals first
    | (exfalso;omega)
    | ((refine aw_ret ?_;(repeat (first|refine ret_then ?_|refine ret_block ?_));refine bq1 rfl ⟨?_,rfl⟩);rfl)
    | trace_state
set_option maxRecDepth 20000 in
theorem prt_arg (b:List (List Int)) (h:Hse) (L:List Bool) (g gap:Int) (hwv:PCalls Tryz.prog 6 [p.enc,vi n] (·=.tup [encRows b,vb true]))
    (hp:PCalls Tryz.prog 7 [vi 1,vi 1,encJobs (isJobs s b)] (·=.tup [h.enc,vi 0,vi 0])) (hc:PCalls Tryz.prog 9 [s.enc,encRows b] (·=vi 0)) (hgp:PCalls Tryz.prog 10 [s.enc,encRows b] (·=.tup [vi gap,vi g])) (hn0:n≠0) (hgg:¬ (g=0∧gap=0))
    (him:PCalls Tryz.prog 11 [h.enc,vi 0] (·=.tup [encBools L,vi 0])) (htr:PCalls Tryz.prog 12 [h.enc,vi 0] (·=.tup [isOrg.enc,vi 0])) (hpr:PCalls Tryz.prog 13 [encBools L,s.enc,encRows b] (·=vb true))
    (ht:¬ (0≤tol∧tol≤2400)) (hex:PCalls Tryz.prog 14 [h.enc,encBools L,vi tol] (·=.tup [encFnds [],vi 2])) (hgr:GreatC p):PCalls Tryz.prog 3 [p.enc,s.enc,vi n,vi tol] (·=vb true):=by
  have hi:=issued_p s b
  generalize isJobs s b=J at *
  refine pcalls_of_aw Tryz.func3 rfl (Nat.le_of_ble_eq_true rfl) ?_
  ((repeat refine aw_seq ?_);(first|(refine aw_region ?_));(repeat' (first|(refine ar_isq ?_;refine zq ?_)|refine ar_q (qs_seq (seq rfl) rfl rfl (.int (ty rfl) rfl rfl rfl rfl (.int (ty rfl) rfl rfl rfl rfl .nil))) (dc rfl) ?_|refine ar_q (qs_seq (seq rfl) rfl rfl (.int (ty rfl) rfl rfl rfl rfl (.int (ty rfl) rfl rfl rfl rfl (.int (ty rfl) rfl rfl rfl rfl .nil)))) (dc rfl) ?_|refine ar_q (qs_seq (seq rfl) rfl rfl (.int (ty rfl) rfl rfl rfl rfl (.int (ty rfl) rfl rfl rfl rfl (.int (ty rfl) rfl rfl rfl rfl (.int (ty rfl) rfl rfl rfl rfl .nil))))) (dc rfl) ?_|refine ar_q (qs_seq (seq rfl) rfl rfl (.int (ty rfl) rfl rfl rfl rfl (.int (ty rfl) rfl rfl rfl rfl (.int (ty rfl) rfl rfl rfl rfl (.int (ty rfl) rfl rfl rfl rfl (.int (ty rfl) rfl rfl rfl rfl .nil)))))) (dc rfl) ?_|(refine zbt ?_)|refine zg ?_ ?_|refine zgu ?_|refine zsr ?_|exact zd|(refine fun (hg:(_:Prop))=>?_;(try replace hg:=HG.out hg);(try dsimp only at hg);(try (have _h:True:=hg;clear _h hg))))))
  (refine aw_mono_r (env':=[(2,vi n),(3,vi tol),(4,.ref p.enc 0),(5,.ref s.enc 0),(8,vb false)]) (H':=[]) ?_ ?_;(focus ((refine sub_to [] [0,1] rfl ?_ ?_<;>(repeat' (first|exact trivial|refine ⟨⟨_,rfl,?_⟩,?_⟩|refine vs1 ?_ ?_|refine vs2 ?_ ?_|refine vs3 ?_|refine vs4 ?_ ?_|refine ⟨.inl ⟨_,_,rfl,rfl,?_⟩,?_⟩|exact ⟨.inr ⟨rfl,rfl⟩,trivial⟩|refine ⟨.inr ⟨rfl,rfl⟩,?_⟩|(intro _ _)|exact vz1|(exact frzPtr' (by simp) rfl (by omega) rfl rfl)|exact vz2|fail)));done)))
  (repeat' (first|(refine ar_isq ?_;refine zq ?_)|refine ar_q (qs_seq (seq rfl) rfl rfl (.int (ty rfl) rfl rfl rfl rfl (.int (ty rfl) rfl rfl rfl rfl .nil))) (dc rfl) ?_|refine ar_q (qs_seq (seq rfl) rfl rfl (.int (ty rfl) rfl rfl rfl rfl (.int (ty rfl) rfl rfl rfl rfl (.int (ty rfl) rfl rfl rfl rfl .nil)))) (dc rfl) ?_|refine ar_q (qs_seq (seq rfl) rfl rfl (.int (ty rfl) rfl rfl rfl rfl (.int (ty rfl) rfl rfl rfl rfl (.int (ty rfl) rfl rfl rfl rfl (.int (ty rfl) rfl rfl rfl rfl .nil))))) (dc rfl) ?_|refine ar_q (qs_seq (seq rfl) rfl rfl (.int (ty rfl) rfl rfl rfl rfl (.int (ty rfl) rfl rfl rfl rfl (.int (ty rfl) rfl rfl rfl rfl (.int (ty rfl) rfl rfl rfl rfl (.int (ty rfl) rfl rfl rfl rfl .nil)))))) (dc rfl) ?_|refine zil (j:=0) ?_|refine zis (j:=0) ?_|refine zit (j:=0) ?_|(refine zbt ?_)|(refine zpv fn4 (alive10_p) ?_)|((refine ar_pcall (own:=false) fn5 rfl rfl (.cons (.closed rfl) .nil) (hgr) (by simp) (dc rfl) ?_;rintro _ ⟨bx,rfl,hbx⟩))|(refine zpv fn6 (hwv) ?_)|(refine zpv fn8 (hi) ?_)|(refine zpv fn7 (hp) ?_)|(refine zpv fn9 (hc) ?_)|(refine zpv fn10 (hgp) ?_)|(refine zpv fn11 (him) ?_)|(refine zpv fn12 (htr) ?_)|(refine zpv fn13 (hpr) ?_)|(refine zpv fn14 (hex) ?_)|refine zg ?_ ?_|refine zgu ?_|refine zst ?_|refine zco ?_ ?_|exact zd|(refine fun (hg:(_:Prop))=>?_;(try replace hg:=HG.out hg);(try dsimp only at hg);(try (have _h:True:=hg;clear _h hg)))))
  all_goals first
    | (exfalso;omega)
    | ((refine aw_ret ?_;(repeat (first|refine ret_then ?_|refine ret_block ?_));refine bq1 rfl ⟨?_,rfl⟩);rfl)
    | trace_state
end
theorem topPrinted_p (p:Pat) (_o0:p.wf) (s:Sheet) (_o1:i64ok s.cols∧i64ok s.rows∧i64ok s.weight∧i64ok s.clear∧i64ok s.lean) (n:Int) (_o2:i64ok n) (tol:Int) (_o3:i64ok tol):PCalls Tryz.prog 3 [p.enc,s.enc,vi n,vi tol] (·=vb true):=by
  have hgr:=great04_p p
  by_cases hn:0≤n∧n≤12
  case neg=>exact prt_out p s n tol hn hgr
  have key:∀ b:List (List Int),(b.length:Int)=n→PCalls Tryz.prog 6 [p.enc,vi n] (·=.tup [encRows b,vb true])→PCalls Tryz.prog 3 [p.enc,s.enc,vi n,vi tol] (·=vb true):=by
    intro b hbl hwv
    have hc:=check_p s b
    have hg:=lGap_p s b
    by_cases hce:checkErr s b=0
    case neg=>exact prt_bad p s n tol b _ _ _ _ _ hwv (play_no s b _ (by rw [is_err0,if_pos hce]) hce) hc hg (.inl ⟨hce,rfl⟩) hgr
    rw [hce] at hc
    by_cases hgd:GoodD (spDsn s b)
    · have h1:b.length≠0:=hgd.2.1
      have h2:gapErr s b≠0∨0<gapF s b:=hgd.2.2.2
      by_cases ht:0≤tol∧tol≤2400
      · exact prt_good p s n tol b _ _ _ _ hwv (play_is s b hce hgd) hc hg (by omega) (by omega) (image_is s b hce hgd) (trace_is s b hce hgd) (printed_p s b hce) ht (expert_is s b hce hgd tol ht) hgr
      · exact prt_arg p s n tol b _ _ _ _ hwv (play_is s b hce hgd) hc hg (by omega) (by omega) (image_is s b hce hgd) (trace_is s b hce hgd) (printed_p s b hce) ht (expert_no s b hce hgd tol ht) hgr
    · refine prt_bad p s n tol b _ _ _ _ _ hwv (play_no s b 101 (by rw [is_err0,if_neg (fun q=>q hce),if_neg hgd]) (by decide)) hc hg (.inr ⟨rfl,rfl,?_⟩) hgr
      by_cases hb0:b.length=0
      · exact .inl (by omega)
      · refine .inr ?_
        by_cases hge:gapErr s b=0
        · have:=(gap_ok hge).2.2.1
          refine ⟨hge,?_⟩
          rcases Int.lt_or_le 0 (gapF s b) with c|c
          · exact (hgd ⟨show (0:Int)≤1∧(1:Int)≤50 by decide,hb0,hce,.inr c⟩).elim
          · omega
        · exact (hgd ⟨show (0:Int)≤1∧(1:Int)≤50 by decide,hb0,hce,.inl hge⟩).elim
  by_cases h0:n=0
  · subst h0
    exact key [] rfl (woven_zero p)
  by_cases hpe:p.err=0
  · obtain ⟨k,rfl⟩:∃ k:Nat,n=k:=⟨n.toNat,by omega⟩
    exact key (wovF p k) (by rw [wov_len]) (woven_ok p hpe k (by omega))
  · exact prt_not p s n tol (woven_bad p hpe n (by omega)) hgr
end Go.Proofs.YtloaefllpokkaaaGreat
