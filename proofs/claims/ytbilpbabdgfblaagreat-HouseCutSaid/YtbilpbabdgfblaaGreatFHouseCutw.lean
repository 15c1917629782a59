/- HouseCut: the law. No condition. -/
import Derived.Test.YtbilpbabdgfblaaGreatKJ720
set_option maxHeartbeats 16000000
set_option linter.unusedSimpArgs false
set_option linter.unusedVariables false
namespace Go.Proofs.YtbilpbabdgfblaaGreat
open Go.RowKit
theorem cutJ_sub {H:Heap}{σ:List (Option Nat)}{fr:Nat→Prop}{L:List Job}{n:Nat}(h:n≤L.length):VSub H σ fr (.list 16 (n-0) (fun k=>Job.enc (el L (0+k)))) (encJobs (L.take n)):=by
  have e:n-0=(L.take n).length:=by rw [List.length_take];omega
  rw [e]
  exact .ext fun k hk=>by rw [List.length_take] at hk;rw [Nat.zero_add,el_take (by omega)]
abbrev GB (bk:List Job):V→Prop:=fun v=>v=vb true∨v=vb false∧bk.length≤220∧∀ k,k<bk.length→SmallB (el bk k).band

set_option maxRecDepth 20000 in
theorem hcut_out (per life:Int) (bk:List Job) (cut:Int) (h:¬ (0≤cut∧cut≤(bk.length:Int))):PCalls Tryz.prog 11 [vi per,vi life,encJobs bk,vi cut] (·=vb true):=by
  have hlen:bk.length≤maxLen∨¬ bk.length≤maxLen:=by omega
  refine pcalls_of_aw Tryz.func11 rfl (Nat.le_of_ble_eq_true rfl) ?_
  (repeat' (first|(refine ar_isq ?_;refine zq ?_)|(refine zbt ?_)|(refine zpvD fn24 (halive_p) ?_)|(refine ar_pcall (own:=false) fn13 rfl rfl (.cons (.ext (fun _ _=>rfl)) .nil) (greatBook_p bk) (by simp) (dc rfl) ?_;rintro _ (rfl|⟨rfl,h220,hb⟩))|refine zcl ?_|refine zcs ?_|refine zg ?_ ?_|refine zgu ?_|refine zst ?_|refine zco ?_ ?_|exact zd|(refine fun (hg:(_:Prop))=>?_;(try replace hg:=HG.out hg);(try dsimp only at hg);(try (have _h:True:=hg;clear _h hg)))))
  all_goals first
    | (exfalso;omega)
    | ((refine aw_ret ?_;(repeat (first|refine ret_then ?_|refine ret_block ?_));refine bq1 rfl ⟨?_,rfl⟩);rfl)
    | trace_state
set_option maxRecDepth 20000 in
theorem hcut_early (per life:Int) (bk:List Job) (c:Nat) (hc:c≤bk.length) (F G:Hse) (x e y f:Int) (hf:f≠0) (hX:(e=f∧x=y)∨(200<bk.length∧e=4)) (hp:PCalls Tryz.prog 14 [vi per,vi life,encJobs bk] (·=.tup [F.enc,vi x,vi e])) (hq:PCalls Tryz.prog 14 [vi per,vi life,encJobs (bk.take c)] (·=.tup [G.enc,vi y,vi f])) :
    PCalls Tryz.prog 11 [vi per,vi life,encJobs bk,vi c] (·=vb true):=by
  have hlen:bk.length≤maxLen∨¬ bk.length≤maxLen:=by omega
  refine pcalls_of_aw Tryz.func11 rfl (Nat.le_of_ble_eq_true rfl) ?_
  (repeat' (first|(refine ar_isq ?_;refine zq ?_)|(refine zbt ?_)|(refine zpvD fn24 (halive_p) ?_)|(refine ar_pcall (own:=false) fn13 rfl rfl (.cons (.ext (fun _ _=>rfl)) .nil) (greatBook_p bk) (by simp) (dc rfl) ?_;rintro _ (rfl|⟨rfl,h220,hb⟩))|(refine zpvD fn14 (hp) ?_)|(((refine ar_sub_l (env':=[(0,vi per),(1,vi life),(2,encJobs bk),(3,vi c),(9,vb true),(10,.ptr 10 0 0 0),(11,vi x),(12,vi e),(47,vi per),(48,vi life),(51,encJobs (bk.take c))]) (H':=[.arr 10 1 (fun _=>F.enc)]) ?_ ?_;(focus ((refine sub_to [some 0] [] rfl ?_ ?_<;>(repeat' (first|exact trivial|refine ⟨⟨_,rfl,?_⟩,?_⟩|refine vs1 ?_ ?_|refine vs2 ?_ ?_|refine vs3 ?_|refine vs4 ?_ ?_|refine ⟨.inl ⟨_,_,rfl,rfl,?_⟩,?_⟩|exact ⟨.inr ⟨rfl,rfl⟩,trivial⟩|refine ⟨.inr ⟨rfl,rfl⟩,?_⟩|(intro _ _)|exact vz1|(exact cutJ_sub (by omega))|exact vz2|fail)));done)));refine zpvD fn14 (hq) ?_))|refine zcl (a:=0) (b:=c) ?_|refine zcs (a:=0) (b:=c) ?_|refine zg ?_ ?_|refine zgu ?_|refine zst ?_|refine zco ?_ ?_|exact zd|(refine fun (hg:(_:Prop))=>?_;(try replace hg:=HG.out hg);(try dsimp only at hg);(try (have _h:True:=hg;clear _h hg)))))
  all_goals first
    | (exfalso;omega)
    | ((refine aw_ret ?_;(repeat (first|refine ret_then ?_|refine ret_block ?_));refine bq1 rfl ⟨?_,rfl⟩);rfl)
    | ((refine aw_ret ?_;(repeat (first|refine ret_then ?_|refine ret_block ?_));refine bq1 rfl ⟨?_,rfl⟩);refine congrArg vb ?_;first|rfl|exact decide_eq_true (by omega))
    | trace_state
set_option maxRecDepth 20000 in
theorem hcut_many (per life:Int) (bk:List Job) (c:Nat) (hc:c≤bk.length) (F G:Hse) (hn:200<bk.length) (hG:HValid G) (hGs:StOk G.store) (hp:PCalls Tryz.prog 14 [vi per,vi life,encJobs bk] (·=.tup [F.enc,vi 0,vi 4])) (hq:PCalls Tryz.prog 14 [vi per,vi life,encJobs (bk.take c)] (·=.tup [G.enc,vi 0,vi 0])) :
    PCalls Tryz.prog 11 [vi per,vi life,encJobs bk,vi c] (·=vb true):=by
  have hlen:bk.length≤maxLen∨¬ bk.length≤maxLen:=by omega
  have hck:PCalls Tryz.prog 22 [G.enc] (·=vi 0):=(hcheck_p G (hsmall_of hG) hGs).mono fun v h=>by rw [h];unfold hchkE;rw [if_pos hG]
  refine pcalls_of_aw Tryz.func11 rfl (Nat.le_of_ble_eq_true rfl) ?_
  (repeat' (first|(refine ar_isq ?_;refine zq ?_)|(refine zbt ?_)|(refine zpvD fn24 (halive_p) ?_)|(refine ar_pcall (own:=false) fn13 rfl rfl (.cons (.ext (fun _ _=>rfl)) .nil) (greatBook_p bk) (by simp) (dc rfl) ?_;rintro _ (rfl|⟨rfl,h220,hb⟩))|(refine zpvD fn14 (hp) ?_)|(((refine ar_sub_l (env':=[(0,vi per),(1,vi life),(2,encJobs bk),(3,vi c),(9,vb true),(10,.ptr 10 0 0 0),(11,vi 0),(12,vi 4),(47,vi per),(48,vi life),(51,encJobs (bk.take c))]) (H':=[.arr 10 1 (fun _=>F.enc)]) ?_ ?_;(focus ((refine sub_to [some 0] [] rfl ?_ ?_<;>(repeat' (first|exact trivial|refine ⟨⟨_,rfl,?_⟩,?_⟩|refine vs1 ?_ ?_|refine vs2 ?_ ?_|refine vs3 ?_|refine vs4 ?_ ?_|refine ⟨.inl ⟨_,_,rfl,rfl,?_⟩,?_⟩|exact ⟨.inr ⟨rfl,rfl⟩,trivial⟩|refine ⟨.inr ⟨rfl,rfl⟩,?_⟩|(intro _ _)|exact vz1|(exact cutJ_sub (by omega))|exact vz2|fail)));done)));refine zpvD fn14 (hq) ?_))|(refine zpvD fn22 (hck) ?_)|refine zcl (a:=0) (b:=c) ?_|refine zcs (a:=0) (b:=c) ?_|refine zg ?_ ?_|refine zgu ?_|refine zst ?_|refine zco ?_ ?_|exact zd|(refine fun (hg:(_:Prop))=>?_;(try replace hg:=HG.out hg);(try dsimp only at hg);(try (have _h:True:=hg;clear _h hg)))))
  all_goals first
    | (exfalso;omega)
    | ((refine aw_ret ?_;(repeat (first|refine ret_then ?_|refine ret_block ?_));refine bq1 rfl ⟨?_,rfl⟩);rfl)
    | trace_state
set_option maxRecDepth 20000 in
theorem hcut_good (per life:Int) (bk:List Job) (hu:∀ j,j<bk.length→u8ok (el bk j).kind∧u8ok (el bk j).act.kind) (c:Nat) (hc:c≤bk.length) (hn:¬ 200<bk.length) (hl:(1≤per∧per≤1000)∧(1≤life∧life≤1000)) (hJ0:∀ j,j<c→hErrAt per life bk j=0) (F:Hse) (x e:Int) (hF:e≠0→F=noHse) (hFo:e=0→F=hAt per life bk bk.length∧x=0) (heb:∀ k,k<bk.length→(∀ j,j<k→hErrAt per life bk j=0)→hErrAt per life bk k≠0→x=k∧e=hErrAt per life bk k) (heo:(∀ j,j<bk.length→hErrAt per life bk j=0)→e=0)
    (hp:PCalls Tryz.prog 14 [vi per,vi life,encJobs bk] (·=.tup [F.enc,vi x,vi e])) (hq:PCalls Tryz.prog 14 [vi per,vi life,encJobs (bk.take c)] (·=.tup [(hAt per life bk c).enc,vi 0,vi 0])) :
    PCalls Tryz.prog 11 [vi per,vi life,encJobs bk,vi c] (·=vb true):=by
  have hlen:bk.length≤maxLen∨¬ bk.length≤maxLen:=by omega
  have hG:HValid (hAt per life bk c):=hAt_ok (hvalid0.2 hl) hJ0
  have hck:PCalls Tryz.prog 22 [(hAt per life bk c).enc] (·=vi 0):=(hcheck_p _ (hsmall_of hG) (stOk_at _ _ _ _)).mono fun v h=>by rw [h];unfold hchkE;rw [if_pos hG]
  refine pcalls_of_aw Tryz.func11 rfl (Nat.le_of_ble_eq_true rfl) ?_
  (repeat' (first|(refine ar_isq ?_;refine zq ?_)|(refine zbt ?_)|(refine zpvD fn24 (halive_p) ?_)|(refine ar_pcall (own:=false) fn13 rfl rfl (.cons (.ext (fun _ _=>rfl)) .nil) (greatBook_p bk) (by simp) (dc rfl) ?_;rintro _ (rfl|⟨rfl,h220,hb⟩))|(refine zpvD fn14 (hp) ?_)|(((refine ar_sub_l (env':=[(0,vi per),(1,vi life),(2,encJobs bk),(3,vi c),(9,vb true),(10,.ptr 10 0 0 0),(11,vi x),(12,vi e),(47,vi per),(48,vi life),(51,encJobs (bk.take c))]) (H':=[.arr 10 1 (fun _=>F.enc)]) ?_ ?_;(focus ((refine sub_to [some 0] [] rfl ?_ ?_<;>(repeat' (first|exact trivial|refine ⟨⟨_,rfl,?_⟩,?_⟩|refine vs1 ?_ ?_|refine vs2 ?_ ?_|refine vs3 ?_|refine vs4 ?_ ?_|refine ⟨.inl ⟨_,_,rfl,rfl,?_⟩,?_⟩|exact ⟨.inr ⟨rfl,rfl⟩,trivial⟩|refine ⟨.inr ⟨rfl,rfl⟩,?_⟩|(intro _ _)|exact vz1|(exact cutJ_sub (by omega))|exact vz2|fail)));done)));refine zpvD fn14 (hq) ?_))|(refine zpvD fn22 (hck) ?_)|refine zcl (a:=0) (b:=c) ?_|refine zcs (a:=0) (b:=c) ?_|refine zcl (a:=c) (b:=bk.length) ?_|refine zcs (a:=c) (b:=bk.length) ?_|refine zg ?_ ?_|refine zgu ?_|refine zst ?_|refine zco ?_ ?_|exact zd|(refine fun (hg:(_:Prop))=>?_;(try replace hg:=HG.out hg);(try dsimp only at hg);(try (have _h:True:=hg;clear _h hg)))))
  all_goals first
    | (exfalso;omega)
    | ((refine aw_ret ?_;(repeat (first|refine ret_then ?_|refine ret_block ?_));refine bq1 rfl ⟨?_,rfl⟩);rfl)
    | skip
  refine aw_for (bk.length-c) (fun i=>∀ j,j<c+i→hErrAt per life bk j=0) (fun i=>[(3,vi c),(9,vb true),(10,.ptr 10 0 0 0),(11,vi x),(12,vi e),(13,.ptr 10 1 0 0),(99,.list 16 (bk.length-c) (fun k=>Job.enc (el bk (c+k)))),(100,vi ((bk.length-c:Nat):Int)),(101,vi i)]) (fun i=>[.arr 10 1 (fun _=>F.enc),.arr 10 1 (fun _=>(hAt per life bk (c+i)).enc)]) (fun j hj=>hJ0 j (by omega)) ?_ ?_
  · (exact zsbD [some 0,some 1] [])
  intro i hi hJ
  by_cases hlt:i<bk.length-c
  · have hS:HValid (hAt per life bk (c+i)):=hAt_ok (hvalid0.2 hl) hJ
    have hdE:hdoE (hAt per life bk (c+i)) (el bk (c+i))=hErrAt per life bk (c+i):=hdoE_ok hS
    have hdo:=hDoV_p (hAt per life bk (c+i)) (el bk (c+i)) (hsmall_of hS) (stOk_at _ _ _ _) (hu _ (by omega)).1 (hu _ (by omega)).2
    rw [hdE] at hdo
    by_cases hb:hErrAt per life bk (c+i)=0
    · have hdF:hdoF (hAt per life bk (c+i)) (el bk (c+i))=hAt per life bk (c+i+1):=by unfold hdoF;rw [if_pos (hdE.trans hb)];rfl
      rw [hdF,hb] at hdo
      (repeat' (first|(refine ar_isq ?_;refine zq ?_)|refine zil (j:=i) ?_|refine zis (j:=i) ?_|refine zit (j:=i) ?_|(refine zbt ?_)|(refine zpvD fn20 (hdo) ?_)|refine zcl ?_|refine zcs ?_|refine zg ?_ ?_|refine zgu ?_|refine zst ?_|refine zco ?_ ?_|exact zd|(refine fun (hg:(_:Prop))=>?_;(try replace hg:=HG.out hg);(try dsimp only at hg);(try (have _h:True:=hg;clear _h hg)))))
      all_goals first
        | (exfalso;omega)
        | ((first|refine loop_next (by omega) ?_ ?_|refine (show _∧_∧SubOf _ _ _ _ _ _ from And.intro (by omega) (And.intro ?_ ?_)));(focus (((exact fun j hj=>if h:j<c+i then hJ j h else (show j=c+i by omega)▸hb));done));(focus (exact zsbD [some 0,some 1] [])))
        | trace_state
    · obtain ⟨h1,h2⟩:=heb (c+i) (by omega) hJ hb
      have hF0:=hF (by omega)
      subst hF0
      (repeat' (first|(refine ar_isq ?_;refine zq ?_)|refine zil (j:=i) ?_|refine zis (j:=i) ?_|refine zit (j:=i) ?_|(refine zbt ?_)|(refine zpvD fn20 (hdo) ?_)|(((refine ar_subk_l (sub_nilC (t:=129) (noHse.enc) rfl rfl (by repeat' (first|exact trivial|refine ⟨.inl rfl,?_⟩|refine ⟨.inr ⟨rfl,_,_,rfl⟩,?_⟩))) ?_);refine zpvD fn16 (rsame_p noHse) ?_))|refine zcl ?_|refine zcs ?_|refine zg ?_ ?_|refine zgu ?_|refine zst ?_|refine zco ?_ ?_|exact zd|(refine fun (hg:(_:Prop))=>?_;(try replace hg:=HG.out hg);(try dsimp only at hg);(try (have _h:True:=hg;clear _h hg)))))
      all_goals first
        | (exfalso;omega)
        | ((refine aw_ret ?_;(repeat (first|refine ret_then ?_|refine ret_block ?_));refine bq1 rfl ⟨?_,rfl⟩);rfl)
        | ((refine aw_ret ?_;(repeat (first|refine ret_then ?_|refine ret_block ?_));refine bq1 rfl ⟨?_,rfl⟩);refine congrArg vb ?_;first|rfl|exact decide_eq_true (by omega))
        | trace_state
  · have hall:∀ j,j<bk.length→hErrAt per life bk j=0:=fun j hj=>hJ j (by omega)
    have he:=heo hall
    obtain ⟨h1,h2⟩:=hFo he
    subst h1 h2 he
    have hci:c+i=bk.length:=by omega
    rw [hci]
    (repeat' (first|(refine ar_isq ?_;refine zq ?_)|(refine zbt ?_)|(refine zpvD fn16 (rsame_p (hAt per life bk bk.length)) ?_)|refine zcl ?_|refine zcs ?_|refine zg ?_ ?_|refine zgu ?_|refine zst ?_|refine zco ?_ ?_|exact zd|(refine fun (hg:(_:Prop))=>?_;(try replace hg:=HG.out hg);(try dsimp only at hg);(try (have _h:True:=hg;clear _h hg)))))
    all_goals first
      | (exfalso;omega)
      | ((refine aw_ret ?_;(repeat (first|refine ret_then ?_|refine ret_block ?_));refine bq1 rfl ⟨?_,rfl⟩);rfl)
      | trace_state
theorem houseCut_p (per:Int) (_h0:i64ok per) (life:Int) (_h1:i64ok life) (bk:List Job) (hw:∀ x,x∈bk→x.wf) (cut:Int) (_h2:i64ok cut):PCalls Tryz.prog 11 [vi per,vi life,encJobs bk,vi cut] (·=vb true):=by
  have hu:=jobs_u8 hw
  by_cases hc:0≤cut∧cut≤(bk.length:Int)
  · obtain ⟨c,rfl⟩:∃ c:Nat,cut=c:=⟨cut.toNat,by omega⟩
    have hcl:c≤bk.length:=by omega
    have hl:(bk.take c).length=c:=by rw [List.length_take];omega
    have hut:∀ j,j<(bk.take c).length→u8ok (el (bk.take c) j).kind∧u8ok (el (bk.take c) j).act.kind:=fun j hj=>by
      rw [el_take (by omega)]
      exact hu j (by omega)
    have hp:=hPlay_p per life bk hu
    have hq:=hPlay_p per life (bk.take c) hut
    by_cases hy:(hplayX per life (bk.take c)).2=0
    · have hY:=hplayX_zero hy
      obtain ⟨g1,g2,g3⟩:=hplayX_all hY
      have hJ0:∀ j,j<c→hErrAt per life bk j=0:=fun j hj=>by rw [← hErrAt_take hj];exact g3 j (by omega)
      have hG:hplayF per life (bk.take c)=hAt per life bk c:=by rw [hplayF_ok hy,hl,hAt_take (Nat.le_refl _)]
      rw [hG,hY] at hq
      by_cases hn:200<bk.length
      · rw [hplayX_many hn] at hp
        exact hcut_many per life bk c hcl _ _ hn (hAt_ok (hvalid0.2 g2) hJ0) (stOk_at _ _ _ _) hp hq
      · refine hcut_good per life bk hu c hcl hn g2 hJ0 (hplayF per life bk) (hplayX per life bk).1 (hplayX per life bk).2 (fun h=>hplayF_bad h) (fun h=>⟨hplayF_ok h,by rw [hplayX_zero h]⟩) (fun k hk hb he=>?_) (fun h=>by rw [hplayX_ok hn g2 h]) hp hq
        rw [hplayX_bad hn g2 hb hk he]
        exact ⟨rfl,rfl⟩
    · refine hcut_early per life bk c hcl _ _ _ _ _ _ hy ?_ hp hq
      rcases hcut_bad hcl hy with h|⟨h,h2⟩
      · rw [h];exact .inl ⟨rfl,rfl⟩
      · rw [h2];exact .inr ⟨h,rfl⟩
  · exact hcut_out per life bk cut hc
end Go.Proofs.YtbilpbabdgfblaaGreat
