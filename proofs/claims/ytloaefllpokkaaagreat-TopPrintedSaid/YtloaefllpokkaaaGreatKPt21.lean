/- Parts of the proof: contracts of functions. No condition. -/
import Derived.Test.YtloaefllpokkaaaGreatKPt20
set_option maxHeartbeats 16000000
set_option linter.unusedSimpArgs false
set_option linter.unusedVariables false
namespace Go.Proofs.YtloaefllpokkaaaGreat
open Go.RowKit
theorem and1 {k:Nat}(h:k≤9223372036854775807):IntKind.i64.wrap ((BitVec.ofInt IntKind.i64.bits (k:Int) &&& BitVec.ofInt IntKind.i64.bits 1).toNat:Int)=((k % 2:Nat):Int):=by
  have e:((BitVec.ofInt IntKind.i64.bits (k:Int) &&& BitVec.ofInt IntKind.i64.bits 1).toNat)=k % 2:=by
    show ((BitVec.ofInt 64 (k:Int) &&& BitVec.ofInt 64 1).toNat)=k % 2
    rw [BitVec.toNat_and]
    have h1:(BitVec.ofInt 64 (k:Int)).toNat=k:=by simp;omega
    have h2:(BitVec.ofInt 64 1).toNat=1:=by decide
    rw [h1,h2,Nat.and_one_is_mod]
  rw [e]
  have hk:k % 2=0∨k % 2=1:=by omega
  rcases hk with h|h<;>rw [h]<;>rfl
theorem rodd_p (n:Int):PCalls Tryz.prog 98 [vi n] (·=vb (oddB n)):=by
  refine pcalls_of_aw Tryz.func98 rfl (dc rfl) ?_
  (repeat' (first|(refine ar_isq ?_;refine zq ?_)|refine zg ?_ ?_|refine zgu ?_|refine zst ?_|refine zco ?_ ?_|exact zd|(refine fun (hg:(_:Prop))=>?_;(try replace hg:=HG.out hg);(try dsimp only at hg);(try (have _h:True:=hg;clear _h hg)))))
  all_goals (refine aw_ret ?_;(repeat (first|refine ret_then ?_|refine ret_block ?_));refine bq1 rfl ⟨?_,rfl⟩)
  all_goals (simp only [vb,constV,oddB];congr 2;simp;try omega)
theorem anyOdd_p (f:List Int):PCalls Tryz.prog 50 [encInts f,.fn (.func 98) [] []] (·=vb (f.any oddB)):=containsInts_p f fn98 rfl _ (fun x _=>rodd_p x)
theorem rosChk_p (f:List Int):PCalls Tryz.prog 85 [encInts f] (·=vi (rosE f)):=by
  (refine pcalls_know (fun I us h=>rel_len (rel_arg h (j:=0) rfl)) fun hlen0=>?_)
  refine pcalls_of_aw Tryz.func85 rfl (dc rfl) ?_
  (repeat' (first|(refine ar_isq ?_;refine zq ?_)|(refine zpv fn50 (anyOdd_p f) ?_)|refine zg ?_ ?_|refine zgu ?_|refine zst ?_|refine zco ?_ ?_|exact zd|(refine fun (hg:(_:Prop))=>?_;(try replace hg:=HG.out hg);(try dsimp only at hg);(try (have _h:True:=hg;clear _h hg)))))
  all_goals (refine aw_ret ?_;(repeat (first|refine ret_then ?_|refine ret_block ?_));refine bq1 rfl ⟨?_,rfl⟩)
  all_goals (unfold rosE;first|(rw [if_pos (by first|(left;omega)|(right;left;omega)|(right;right;assumption))];rfl)|(rw [if_neg (by simp_all;omega)];rfl))
theorem rRubber_p (b:List Int) (n:Int):PCalls Tryz.prog 86 [encInts b,vi n] (·=vi (rubE b n)):=by
  (refine pcalls_know (fun I us h=>rel_len (rel_arg h (j:=0) rfl)) fun hlen0=>?_)
  refine pcalls_of_aw Tryz.func86 rfl (dc rfl) ?_
  (repeat' (first|(refine ar_isq ?_;refine zq ?_)|refine ar_q (qs_and rfl rfl (andMask (by omega))) (dc rfl) ?_|refine zil (j:=b.length/2) ?_|refine zis (j:=b.length/2) ?_|refine zit (j:=b.length/2) ?_|refine ar_q (qs_and rfl rfl (and1 (by omega))) (dc rfl) ?_|(refine zpv fn50 (anyOdd_p b) ?_)|refine zg ?_ ?_|refine zgu ?_|refine zst ?_|refine zco ?_ ?_|exact zd|(refine fun (hg:(_:Prop))=>?_;(try replace hg:=HG.out hg);(try dsimp only at hg);(try (have _h:True:=hg;clear _h hg)))))
  all_goals first
    | (exfalso;omega)
    | ((refine aw_ret ?_;(repeat (first|refine ret_then ?_|refine ret_block ?_));refine bq1 rfl ⟨?_,rfl⟩);unfold rubE;rw [if_pos (by first|(left;omega)|(right;left;omega)|(right;right;left;omega)|(right;right;right;left;assumption)|(right;right;right;right;omega))];rfl)
    | ((refine aw_ret ?_;(repeat (first|refine ret_then ?_|refine ret_block ?_));refine bq1 rfl ⟨?_,rfl⟩);unfold rubE;rw [if_neg (by simp_all;omega)];rfl)
    | trace_state
theorem rBoth_p (f b:List Int):PCalls Tryz.prog 99 [encInts f,encInts b] (·=vi (if rosE f=0 then rubE b f.length else rosE f)):=by
  refine pcalls_of_aw Tryz.func99 rfl (dc rfl) ?_
  (repeat' (first|(refine ar_isq ?_;refine zq ?_)|(refine zpv fn85 (rosChk_p f) ?_)|(refine zpv fn86 (rRubber_p b f.length) ?_)|refine zst ?_|refine zco ?_ ?_|exact zd|(refine fun (hg:(_:Prop))=>?_;(try replace hg:=HG.out hg);(try dsimp only at hg);(try (have _h:True:=hg;clear _h hg)))))
  all_goals (refine aw_ret ?_;(repeat (first|refine ret_then ?_|refine ret_block ?_));refine bq1 rfl ⟨?_,rfl⟩)
  · rw [if_neg (by assumption)]
  · rw [if_pos (by assumption)]
theorem raround_p (p n:Int) (hn:0<n) (hb:n≤1000):PCalls Tryz.prog 108 [vi p,vi n] (·=vi (p % n)):=by
  have ht:=tmod_mod p hn
  have hlo:=tmod_gt p hn
  have hhi:=Int.tmod_lt_of_pos p hn
  refine pcalls_of_aw Tryz.func108 rfl (dc rfl) ?_
  (repeat' (first|(refine ar_isq ?_;refine zq ?_)|refine ar_q (qs_rem rfl rfl (by omega) rfl) (dc rfl) ?_|refine zst ?_|refine zco ?_ ?_|exact zd|(refine fun (hg:(_:Prop))=>?_;(try replace hg:=HG.out hg);(try dsimp only at hg);(try (have _h:True:=hg;clear _h hg)))))
  all_goals first
    | (exfalso;omega)
    | ((refine aw_ret ?_;(repeat (first|refine ret_then ?_|refine ret_block ?_));refine bq1 rfl ⟨?_,rfl⟩);rw [ht,if_pos (by omega)];rfl)
    | ((refine aw_ret ?_;(repeat (first|refine ret_then ?_|refine ret_block ?_));refine bq1 rfl ⟨?_,rfl⟩);rw [ht,if_neg (by omega)];rfl)
    | trace_state
theorem rdrop_p (x y:Int) (hx:0≤x∧x≤10000) (hy:0≤y∧y≤10000):PCalls Tryz.prog 101 [vi x,vi y] (·=vi (x-y)):=by
  refine pcalls_of_aw Tryz.func101 rfl (dc rfl) ?_
  (repeat' (first|(refine ar_isq ?_;refine zq ?_)|refine zst ?_|refine zco ?_ ?_|exact zd|(refine fun (hg:(_:Prop))=>?_;(try replace hg:=HG.out hg);(try dsimp only at hg);(try (have _h:True:=hg;clear _h hg)))))
  (refine aw_ret ?_;(repeat (first|refine ret_then ?_|refine ret_block ?_));refine bq1 rfl ⟨?_,rfl⟩)
  rfl
theorem rmax_p (x y:Int):PCalls Tryz.prog 102 [vi x,vi y] (·=vi (max x y)):=by
  refine pcalls_of_aw Tryz.func102 rfl (dc rfl) ?_
  (repeat' (first|(refine ar_isq ?_;refine zq ?_)|refine zst ?_|refine zco ?_ ?_|exact zd|(refine fun (hg:(_:Prop))=>?_;(try replace hg:=HG.out hg);(try dsimp only at hg);(try (have _h:True:=hg;clear _h hg)))))
  (refine aw_ret ?_;(repeat (first|refine ret_then ?_|refine ret_block ?_));refine bq1 rfl ⟨?_,rfl⟩)
  rfl
theorem offsets_p (b:List Int):PCalls Tryz.prog 107 [encInts b] (·=.fn (.func 111) [] [.ref (encInts b) 0]):=by
  refine pcalls_of_aw Tryz.func107 rfl (dc rfl) ?_
  (repeat' (first|(refine ar_isq ?_;refine zq ?_)|refine zst ?_|refine zco ?_ ?_|exact zd|(refine fun (hg:(_:Prop))=>?_;(try replace hg:=HG.out hg);(try dsimp only at hg);(try (have _h:True:=hg;clear _h hg)))))
  (refine aw_mono_r (env':=[(2,.fn (.func 111) [] [.ref (encInts b) 0])]) (H':=[]) ?_ ?_;(focus ((refine sub_to [] [0] rfl ?_ ?_<;>(repeat' (first|exact trivial|refine ⟨⟨_,rfl,?_⟩,?_⟩|refine vs1 ?_ ?_|refine vs2 ?_ ?_|refine vs3 ?_|refine vs4 ?_ ?_|refine ⟨.inl ⟨_,_,rfl,rfl,?_⟩,?_⟩|exact ⟨.inr ⟨rfl,rfl⟩,trivial⟩|refine ⟨.inr ⟨rfl,rfl⟩,?_⟩|(intro _ _)|exact vz1|(exact fn1_subL (frzPtr' (by simp) rfl (by omega) rfl rfl))|exact vz2|fail)));done)))
  (refine aw_ret ?_;(repeat (first|refine ret_then ?_|refine ret_block ?_));refine bq1 rfl ⟨?_,rfl⟩)
  rfl
theorem catTo_lenW {b:List (List Int)}(hb:∀ l,l∈b→l.length≤200):∀ k,k≤b.length→(catTo b k).length≤200*k
  | 0,_=>by simp [catTo]
  | k+1,h=>by
    have h1:=catTo_lenW hb k (by omega)
    have h2:=hb _ (el_mem (l:=b) (k:=k) (by omega))
    rw [catTo_succ (by omega),List.length_append]
    omega
theorem concatW_p (b:List (List Int)) (h20:b.length≤20) (h60:∀ l,l∈b→l.length≤200):PCalls Tryz.prog 109 [encRows b] (·=encInts b.flatten):=by
  refine pcalls_of_aw Tryz.func109 rfl (dc rfl) ?_
  (repeat' (first|(refine ar_isq ?_;refine zq ?_)|refine zst ?_|refine zco ?_ ?_|exact zd|(refine fun (hg:(_:Prop))=>?_;(try replace hg:=HG.out hg);(try dsimp only at hg);(try (have _h:True:=hg;clear _h hg)))))
  refine aw_for b.length (fun _=>True) (fun k=>[(0,encRows b),(3,vi (catTo b k).length),(9,encRows b),(10,vi b.length),(11,vi k)]) (fun _=>[]) trivial ?_ ?_
  · (exact zsb [] [])
  intro k hk _
  have hcl:=catTo_lenW h60 k hk
  by_cases hlt:k<b.length
  · have hel:=h60 _ (el_mem hlt)
    (repeat' (first|(refine ar_isq ?_;refine zq ?_)|refine zst ?_|refine zco ?_ ?_|exact zd|(refine fun (hg:(_:Prop))=>?_;(try replace hg:=HG.out hg);(try dsimp only at hg);(try (have _h:True:=hg;clear _h hg)))))
    all_goals first
      | (exfalso;omega)
      | (rw [catTo_succ hlt];((first|refine loop_next (by omega) ?_ ?_|refine (show _∧_∧SubOf _ _ _ _ _ _ from And.intro (by omega) (And.intro ?_ ?_)));(focus ((trivial);done));(focus ((refine sub_to [] [] rfl ?_ ?_<;>(repeat' (first|exact trivial|refine ⟨⟨_,rfl,?_⟩,?_⟩|refine vs1 ?_ ?_|refine vs2 ?_ ?_|refine vs3 ?_|refine vs4 ?_ ?_|refine ⟨.inl ⟨_,_,rfl,rfl,?_⟩,?_⟩|exact ⟨.inr ⟨rfl,rfl⟩,trivial⟩|refine ⟨.inr ⟨rfl,rfl⟩,?_⟩|(intro _ _)|exact vz1|(exact siEq (by rw [List.length_append];omega))|exact vz2|fail)));done))))
  · (repeat' (first|(refine ar_isq ?_;refine zq ?_)|(refine ar_fcall fn112 rfl rfl (.cons (.closed rfl) (.cons (.closed rfl) .nil)) (grow_p (catTo b k).length (by omega) (by omega)) (dc rfl) ?_;rintro _ g0 rfl)|refine zst ?_|refine zco ?_ ?_|exact zd|(refine fun (hg:(_:Prop))=>?_;(try replace hg:=HG.out hg);(try dsimp only at hg);(try (have _h:True:=hg;clear _h hg)))))
    all_goals (try (exfalso;omega))
    refine aw_for b.length (fun _=>True) (fun k=>[(6,.sl 1 0 0 (catTo b k).length),(25,encRows b),(26,vi b.length),(27,vi k)]) (fun k=>[LB 1 vi (catTo b k)]) trivial ?_ ?_
    · (refine sub_to [some 0] [] rfl ?_ ?_<;>(repeat' (first|exact trivial|refine ⟨⟨_,rfl,?_⟩,?_⟩|refine vs1 ?_ ?_|refine vs2 ?_ ?_|refine vs3 ?_|refine vs4 ?_ ?_|refine ⟨.inl ⟨_,_,rfl,rfl,?_⟩,?_⟩|exact ⟨.inr ⟨rfl,rfl⟩,trivial⟩|refine ⟨.inr ⟨rfl,rfl⟩,?_⟩|(intro _ _)|exact vz1|((exfalso;rename_i h;exact absurd h (Nat.not_lt_zero _)))|exact vz2|fail)))
    intro q hq _
    have hcq:=catTo_lenW h60 q hq
    by_cases hltq:q<b.length
    · have hel:=h60 _ (el_mem hltq)
      (repeat' (first|(refine ar_isq ?_;refine zq ?_)|refine zst ?_|refine zco ?_ ?_|exact zd|(refine fun (hg:(_:Prop))=>?_;(try replace hg:=HG.out hg);(try dsimp only at hg);(try (have _h:True:=hg;clear _h hg)))))
      all_goals first
        | (exfalso;omega)
        | (rw [catTo_succ hltq];((first|refine loop_next (by omega) ?_ ?_|refine (show _∧_∧SubOf _ _ _ _ _ _ from And.intro (by omega) (And.intro ?_ ?_)));(focus ((trivial);done));(focus ((refine sub_to [some 1] [] rfl ?_ ?_<;>(repeat' (first|exact trivial|refine ⟨⟨_,rfl,?_⟩,?_⟩|refine vs1 ?_ ?_|refine vs2 ?_ ?_|refine vs3 ?_|refine vs4 ?_ ?_|refine ⟨.inl ⟨_,_,rfl,rfl,?_⟩,?_⟩|exact ⟨.inr ⟨rfl,rfl⟩,trivial⟩|refine ⟨.inr ⟨rfl,rfl⟩,?_⟩|(intro _ _)|exact vz1|(first|exact slEq rfl (by rw [List.length_append])|refine ⟨bsub_app rfl rfl rfl rfl (fun _ _=>rfl) (fun _=>rfl) (fun _ _=>.closed rfl),?_⟩)|exact vz2|fail)));done))))
    · (repeat' (first|(refine ar_isq ?_;refine zq ?_)|refine zst ?_|refine zco ?_ ?_|exact zd|(refine fun (hg:(_:Prop))=>?_;(try replace hg:=HG.out hg);(try dsimp only at hg);(try (have _h:True:=hg;clear _h hg)))))
      all_goals first
        | (exfalso;omega)
        | ((refine aw_mono_r (env':=[(2,encInts (catTo b q))]) (H':=[]) ?_ ?_;(focus (exact zsb [] [0])));(refine aw_ret ?_;(repeat (first|refine ret_then ?_|refine ret_block ?_));refine bq1 rfl ⟨?_,rfl⟩);rw [catTo_all (by omega)])
end Go.Proofs.YtloaefllpokkaaaGreat
-- old go
namespace Go.Proofs.YtloaefllpokkaaaGreat.It
open Go.RowKit
def offEl (b:List Int) (k:Nat):List Value:=[.int .i64 ((k:Int)-(b.length/2:Nat)),.int .i64 (el b k)]
theorem offsets_iter (b:List Int) (hb:b.length≤1000):Iter Tryz.prog 111 [.ref (encInts b) 0] b.length (offEl b):=by
  refine iter_of_aw Tryz.func111 rfl (dc rfl) rfl fun C hN hel=>?_
  (repeat' (first|(refine ar_isq ?_;first|refine ar_q (qs_move rfl) (dc rfl) ?_|refine ar_q (qs_assign rfl) (dc rfl) ?_|(refine is_load ?_;first|refine ar_q (qs_load_ptr (ty rfl) rfl rfl (by first|exact Nat.one_pos|assumption|omega) rfl) (dc rfl) ?_|refine ar_q (qs_load_ref (ty rfl) rfl rfl) (dc rfl) ?_)|(refine is_binOp ?_;first|refine ar_q (qs_lss rfl rfl) (dc rfl) ?_|refine ar_q (qs_add rfl rfl (wrap64 (by omega))) (dc rfl) ?_|refine ar_q (qs_sub rfl rfl (wrap64 (by omega))) (dc rfl) ?_|refine ar_q (qs_quo rfl rfl (by omega) (quo64 (by omega) (by omega))) (dc rfl) ?_)|(refine is_indexAddr ?_;first|refine ar_q (qs_iaddr_list (ty rfl) rfl (ty rfl) rfl rfl rfl rfl (by omega)) (dc rfl) ?_|refine ar_q (qs_iaddr_sl0 (ty rfl) rfl (ty rfl) rfl rfl rfl rfl (by omega)) (dc rfl) ?_|refine ar_q (qs_iaddr_sl (ty rfl) rfl (ty rfl) rfl rfl rfl rfl (by omega)) (dc rfl) ?_|refine ar_q (qs_iaddr_aptr (ty rfl) rfl (ty rfl) rfl rfl rfl (by omega)) (dc rfl) ?_|refine ar_q (qs_iaddr_aref (ty rfl) rfl (ty rfl) rfl rfl rfl (by omega)) (dc rfl) ?_|(refine ar_idx_list (ty rfl) rfl (ty rfl) rfl rfl rfl (dc rfl) (by omega) ?_;intro _ _ _)|(refine ar_idx_sl (ty rfl) rfl (ty rfl) rfl rfl rfl (dc rfl) (by omega) ?_;intro _ _ _))|(refine is_call ?_;first|refine ar_q (qs_len_list (ty rfl) rfl rfl rfl) (dc rfl) ?_|refine ar_q (qs_len_sl (ty rfl) rfl rfl rfl) (dc rfl) ?_|refine ar_q (qs_len_nil (ty rfl) rfl rfl rfl) (dc rfl) ?_|refine ar_q (qs_len_emp (ty rfl) rfl rfl rfl) (dc rfl) ?_)|refine ar_q (qs_not rfl) (dc rfl) ?_)|(refine ar_nil ?_)|(refine aw_seq ?_)|(refine aw_skip ?_)|(refine aw_block ?_)|(refine aw_exit ?_)|(refine aw_region ?_)|(refine aw_cond rfl ?_ ?_<;>intro hg<;>first|exact absurd hg (by decide)|((first|replace hg:=hgT hg|replace hg:=hgF hg|replace hg:=hgNT hg|replace hg:=hgNF hg|replace hg:=hgBT hg|replace hg:=hgBF hg|replace hg:=hgV hg|replace hg:=hgW hg|skip);(try dsimp only at hg);(try (have _h:True:=hg;clear _h hg));first|(exfalso;omega)|skip))))
  refine aw_for b.length (fun k=>[(0,.s (.func (.yield C.l) #[] #[])),(1,.ref (encInts b) 0),(5,encInts b),(6,vi b.length),(7,vi k)]) (Nat.zero_le _) ⟨rfl,rfl,rfl,rfl,rfl,trivial⟩ ?_
  intro k hk
  by_cases hlt:k<b.length
  · (repeat' (first|(refine ar_isq ?_;first|refine ar_q (qs_move rfl) (dc rfl) ?_|refine ar_q (qs_assign rfl) (dc rfl) ?_|(refine is_load ?_;first|refine ar_q (qs_load_ptr (ty rfl) rfl rfl (by first|exact Nat.one_pos|assumption|omega) rfl) (dc rfl) ?_|refine ar_q (qs_load_ref (ty rfl) rfl rfl) (dc rfl) ?_)|(refine is_binOp ?_;first|refine ar_q (qs_lss rfl rfl) (dc rfl) ?_|refine ar_q (qs_add rfl rfl (wrap64 (by omega))) (dc rfl) ?_|refine ar_q (qs_sub rfl rfl (wrap64 (by omega))) (dc rfl) ?_|refine ar_q (qs_quo rfl rfl (by omega) (quo64 (by omega) (by omega))) (dc rfl) ?_)|(refine is_indexAddr ?_;first|refine ar_q (qs_iaddr_list (ty rfl) rfl (ty rfl) rfl rfl rfl rfl (by omega)) (dc rfl) ?_|refine ar_q (qs_iaddr_sl0 (ty rfl) rfl (ty rfl) rfl rfl rfl rfl (by omega)) (dc rfl) ?_|refine ar_q (qs_iaddr_sl (ty rfl) rfl (ty rfl) rfl rfl rfl rfl (by omega)) (dc rfl) ?_|refine ar_q (qs_iaddr_aptr (ty rfl) rfl (ty rfl) rfl rfl rfl (by omega)) (dc rfl) ?_|refine ar_q (qs_iaddr_aref (ty rfl) rfl (ty rfl) rfl rfl rfl (by omega)) (dc rfl) ?_|(refine ar_idx_list (ty rfl) rfl (ty rfl) rfl rfl rfl (dc rfl) (by omega) ?_;intro _ _ _)|(refine ar_idx_sl (ty rfl) rfl (ty rfl) rfl rfl rfl (dc rfl) (by omega) ?_;intro _ _ _))|(refine is_call ?_;first|refine ar_q (qs_len_list (ty rfl) rfl rfl rfl) (dc rfl) ?_|refine ar_q (qs_len_sl (ty rfl) rfl rfl rfl) (dc rfl) ?_|refine ar_q (qs_len_nil (ty rfl) rfl rfl rfl) (dc rfl) ?_|refine ar_q (qs_len_emp (ty rfl) rfl rfl rfl) (dc rfl) ?_)|refine ar_q (qs_not rfl) (dc rfl) ?_)|(refine ar_yield (us:=offEl b k) rfl rfl (by rw [hN];exact hlt) (by rw [hel]) (dc rfl) ?_)|(refine ar_nil ?_)|(refine aw_seq ?_)|(refine aw_skip ?_)|(refine aw_block ?_)|(refine aw_exit ?_)|(refine aw_region ?_)|(refine aw_cond rfl ?_ ?_<;>intro hg<;>first|exact absurd hg (by decide)|((first|replace hg:=hgT hg|replace hg:=hgF hg|replace hg:=hgNT hg|replace hg:=hgNF hg|replace hg:=hgBT hg|replace hg:=hgBF hg|replace hg:=hgV hg|replace hg:=hgW hg|skip);(try dsimp only at hg);(try (have _h:True:=hg;clear _h hg));first|(exfalso;omega)|skip))))
    all_goals first
      | (exfalso;omega)
      | exact loop_next hlt rfl ⟨rfl,rfl,rfl,rfl,rfl,trivial⟩
      | trace_state
  · obtain rfl:k=b.length:=by omega
    (repeat' (first|(refine ar_isq ?_;first|refine ar_q (qs_move rfl) (dc rfl) ?_|refine ar_q (qs_assign rfl) (dc rfl) ?_|(refine is_load ?_;first|refine ar_q (qs_load_ptr (ty rfl) rfl rfl (by first|exact Nat.one_pos|assumption|omega) rfl) (dc rfl) ?_|refine ar_q (qs_load_ref (ty rfl) rfl rfl) (dc rfl) ?_)|(refine is_binOp ?_;first|refine ar_q (qs_lss rfl rfl) (dc rfl) ?_|refine ar_q (qs_add rfl rfl (wrap64 (by omega))) (dc rfl) ?_|refine ar_q (qs_sub rfl rfl (wrap64 (by omega))) (dc rfl) ?_|refine ar_q (qs_quo rfl rfl (by omega) (quo64 (by omega) (by omega))) (dc rfl) ?_)|(refine is_indexAddr ?_;first|refine ar_q (qs_iaddr_list (ty rfl) rfl (ty rfl) rfl rfl rfl rfl (by omega)) (dc rfl) ?_|refine ar_q (qs_iaddr_sl0 (ty rfl) rfl (ty rfl) rfl rfl rfl rfl (by omega)) (dc rfl) ?_|refine ar_q (qs_iaddr_sl (ty rfl) rfl (ty rfl) rfl rfl rfl rfl (by omega)) (dc rfl) ?_|refine ar_q (qs_iaddr_aptr (ty rfl) rfl (ty rfl) rfl rfl rfl (by omega)) (dc rfl) ?_|refine ar_q (qs_iaddr_aref (ty rfl) rfl (ty rfl) rfl rfl rfl (by omega)) (dc rfl) ?_|(refine ar_idx_list (ty rfl) rfl (ty rfl) rfl rfl rfl (dc rfl) (by omega) ?_;intro _ _ _)|(refine ar_idx_sl (ty rfl) rfl (ty rfl) rfl rfl rfl (dc rfl) (by omega) ?_;intro _ _ _))|(refine is_call ?_;first|refine ar_q (qs_len_list (ty rfl) rfl rfl rfl) (dc rfl) ?_|refine ar_q (qs_len_sl (ty rfl) rfl rfl rfl) (dc rfl) ?_|refine ar_q (qs_len_nil (ty rfl) rfl rfl rfl) (dc rfl) ?_|refine ar_q (qs_len_emp (ty rfl) rfl rfl rfl) (dc rfl) ?_)|refine ar_q (qs_not rfl) (dc rfl) ?_)|(refine ar_nil ?_)|(refine aw_seq ?_)|(refine aw_skip ?_)|(refine aw_block ?_)|(refine aw_exit ?_)|(refine aw_region ?_)|(refine aw_cond rfl ?_ ?_<;>intro hg<;>first|exact absurd hg (by decide)|((first|replace hg:=hgT hg|replace hg:=hgF hg|replace hg:=hgNT hg|replace hg:=hgNF hg|replace hg:=hgBT hg|replace hg:=hgBF hg|replace hg:=hgV hg|replace hg:=hgW hg|skip);(try dsimp only at hg);(try (have _h:True:=hg;clear _h hg));first|(exfalso;omega)|skip))))
    all_goals first
      | (exfalso;omega)
      | exact aw_ret (show b.length=b.length from rfl)
      | exact (rfl:b.length=b.length)
      | trace_state
end Go.Proofs.YtloaefllpokkaaaGreat.It
namespace Go.Proofs.YtloaefllpokkaaaGreat
open Go.RowKit
theorem lift_hi {f b:List Int}(hf:rosE f=0) (hb:rubE b f.length=0) {p k:Nat}(hk:k<b.length):0≤el f ((p+f.length+k-b.length/2) % f.length)∧el f ((p+f.length+k-b.length/2) % f.length)≤10000∧0≤el b k∧el b k≤10000:=by
  obtain ⟨f1,f2,f3⟩:=rosE_zero.1 hf
  obtain ⟨b1,b2,b3,b4,b5⟩:=rubE_zero.1 hb
  have h1:=odd_el f3 (Nat.mod_lt (p+f.length+k-b.length/2) (show 0<f.length by omega))
  have h2:=odd_el b4 hk
  omega
theorem lift_idx {n p k h:Nat}(hn:0<n) (hh:h≤n):((p:Int)+1*((k:Int)-(h:Nat))) % (n:Int)=(((p+n+k-h) % n:Nat):Int):=by
  rw [Int.natCast_emod,Int.natCast_sub (by omega),Int.one_mul]
  have:(((p+n+k:Nat):Int)-(h:Nat))=((p:Int)+((k:Int)-(h:Nat)))+(n:Int):=by omega
  rw [this,Int.add_emod_right]
def liftP (f b:List Int) (k:Nat):List Int:=(List.range k).map fun p=>liftTo f b p b.length
theorem liftP_succ (f b:List Int) (k:Nat):liftP f b (k+1)=liftP f b k++[liftTo f b k b.length]:=by simp [liftP,List.range_succ]
theorem liftP_len (f b:List Int) (k:Nat):(liftP f b k).length=k:=by simp [liftP]
set_option maxRecDepth 20000 in
theorem picked_p (f b:List Int) (hf:rosE f=0) (hb:rubE b f.length=0):PCalls Tryz.prog 100 [encInts f,encInts b,vi 1,.fn (.func 101) [] [],.fn (.func 102) [] []] (·=encInts (liftF f b)):=by
  obtain ⟨f1,f2,f3⟩:=rosE_zero.1 hf
  obtain ⟨b1,b2,b3,b4,b5⟩:=rubE_zero.1 hb
  have hn:0<f.length:=by omega
  have hs1:∀ p k,k=0→liftTo f b p (k+1)=liftX f b p k:=fun p k hk=>by subst hk;rw [liftTo,if_pos rfl]
  have hs2:∀ p k,k≠0→liftTo f b p (k+1)=max (liftTo f b p k) (liftX f b p k):=fun p k hk=>by rw [liftTo,if_neg hk]
  refine pcalls_of_aw Tryz.func100 rfl (dc rfl) ?_
  (repeat' (first|(refine ar_isq ?_;refine zq ?_)|refine zst ?_|refine aw_drawn (id:=9) [(0,0),(1,0),(2,0),(3,0),(4,0),(5,0),(6,0),(7,0),(8,0),(12,0),(9,1),(10,0),(11,0),(13,1),(14,0)] mixed (by kernel_rfl) ?_|refine zco ?_ ?_|exact zd|(refine fun (hg:(_:Prop))=>?_;(try replace hg:=HG.out hg);(try dsimp only at hg);(try (have _h:True:=hg;clear _h hg)))))
  refine aw_for f.length (fun _=>True) (fun k=>[(5,.ptr 1 0 0 0),(6,.ptr 1 1 0 0),(7,.ptr 1 2 0 0),(8,.ptr 1 3 0 0),(9,.ptr 1 4 0 0),(11,.sl 1 5 0 (liftP f b k).length),(18,vi f.length),(19,vi k)]) (fun k=>[.arr 1 1 (fun _=>encInts f),.arr 1 1 (fun _=>encInts b),.arr 1 1 (fun _=>vi 1),.arr 1 1 (fun _=>.fn (.func 101) [] []),.arr 1 1 (fun _=>.fn (.func 102) [] []),LB 1 vi (liftP f b k)]) trivial ?_ ?_
  · (exact zsb [some 0,some 1,some 2,some 3,some 4,none] [])
  intro p hp _
  have hpl:=liftP_len f b p
  by_cases hlt:p<f.length
  · (repeat' (first|(refine ar_isq ?_;refine zq ?_)|(refine zpv fn107 (offsets_p b) ?_)|refine zst ?_|refine aw_drawn (id:=9) [(0,0),(1,0),(2,0),(3,0),(4,0),(5,0),(6,0),(7,0),(8,0),(12,0),(9,1),(10,0),(11,0),(13,1),(14,0)] mixed (by kernel_rfl) ?_|refine zco ?_ ?_|exact zd|(refine fun (hg:(_:Prop))=>?_;(try replace hg:=HG.out hg);(try dsimp only at hg);(try (have _h:True:=hg;clear _h hg)))))
    refine aw_range (fun k=>[.arr 1 1 (fun _=>encInts f),.arr 1 1 (fun _=>encInts b),.arr 1 1 (fun _=>vi 1),.arr 1 1 (fun _=>.fn (.func 101) [] []),.arr 1 1 (fun _=>.fn (.func 102) [] []),LB 1 vi (liftP f b p),.arr 1 1 (fun _=>vi p),.arr 1 1 (fun _=>vi (liftTo f b p k))]) _ rfl rfl fn111 (It.offsets_iter b (by omega)) (fun _ _=>rfl) (by decide) (fun k _=>rfl) ?maps ?start ?round ?done
    case maps=>intro k j ms;match j with|0|1|2|3|4|5|6|7=>simp [LB]|j+8=>simp
    case start=>(exact zsb [some 0,some 1,some 2,some 3,some 4,some 5,some 6,some 7] [])
    case round =>
      intro k lp hk
      have hh:=lift_hi hf hb (p:=p) hk
      have hidx:=lift_idx (p:=p) (k:=k) (h:=b.length/2) hn (by omega)
      have hm:=Nat.mod_lt (p+f.length+k-b.length/2) hn
      have har:PCalls Tryz.prog 108 [vi ((p:Int)+1*((k:Int)-(b.length/2:Nat))),vi f.length] (·=vi (((p+f.length+k-b.length/2) % f.length:Nat):Int)):=by rw [← hidx];exact raround_p _ _ (by omega) (by omega)
      (repeat' (first|(refine ar_isq ?_;refine zq ?_)|refine zil (j:=(p+f.length+k-b.length/2) % f.length) ?_|refine zis (j:=(p+f.length+k-b.length/2) % f.length) ?_|refine zit (j:=(p+f.length+k-b.length/2) % f.length) ?_|(refine zpv fn108 (har) ?_)|(refine zpv fn101 (rdrop_p _ _ ⟨hh.1,hh.2.1⟩ hh.2.2) ?_)|(refine zpv fn102 (rmax_p _ _) ?_)|refine zst ?_|refine aw_drawn (id:=9) [(0,0),(1,0),(2,0),(3,0),(4,0),(5,0),(6,0),(7,0),(8,0),(12,0),(9,1),(10,0),(11,0),(13,1),(14,0)] mixed (by kernel_rfl) ?_|refine zco ?_ ?_|exact zd|(refine fun (hg:(_:Prop))=>?_;(try replace hg:=HG.out hg);(try dsimp only at hg);(try (have _h:True:=hg;clear _h hg)))))
      all_goals first
        | (exfalso;omega)
        | (refine (show SubOf _ _ _ _ _ _ from ?_);(refine sub_to [some 0,some 1,some 2,some 3,some 4,some 5,some 6,some 7] [] rfl ?_ ?_<;>(repeat' (first|exact trivial|refine ⟨⟨_,rfl,?_⟩,?_⟩|refine vs1 ?_ ?_|refine vs2 ?_ ?_|refine vs3 ?_|refine vs4 ?_ ?_|refine ⟨.inl ⟨_,_,rfl,rfl,?_⟩,?_⟩|exact ⟨.inr ⟨rfl,rfl⟩,trivial⟩|refine ⟨.inr ⟨rfl,rfl⟩,?_⟩|(intro _ _)|exact vz1|(first|exact siEq (hs1 p k (by omega)).symm|exact siEq (hs2 p k (by omega)).symm)|exact vz2|fail))))
        | trace_state
    case done =>
      refine (show AW Tryz.prog none 0 _ _ _ _ _ from ?_)
      (repeat' (first|(refine ar_isq ?_;refine zq ?_)|refine zst ?_|refine aw_drawn (id:=9) [(0,0),(1,0),(2,0),(3,0),(4,0),(5,0),(6,0),(7,0),(8,0),(12,0),(9,1),(10,0),(11,0),(13,1),(14,0)] mixed (by kernel_rfl) ?_|refine zco ?_ ?_|exact zd|(refine fun (hg:(_:Prop))=>?_;(try replace hg:=HG.out hg);(try dsimp only at hg);(try (have _h:True:=hg;clear _h hg)))))
      all_goals first
        | (exfalso;omega)
        | (rw [liftP_succ];((first|refine loop_next (by omega) ?_ ?_|refine (show _∧_∧SubOf _ _ _ _ _ _ from And.intro (by omega) (And.intro ?_ ?_)));(focus ((trivial);done));(focus (exact zsb [some 0,some 1,some 2,some 3,some 4,some 9] []))))
        | trace_state
  · obtain rfl:p=f.length:=by omega
    (repeat' (first|(refine ar_isq ?_;refine zq ?_)|refine zst ?_|refine aw_drawn (id:=9) [(0,0),(1,0),(2,0),(3,0),(4,0),(5,0),(6,0),(7,0),(8,0),(12,0),(9,1),(10,0),(11,0),(13,1),(14,0)] mixed (by kernel_rfl) ?_|refine zco ?_ ?_|exact zd|(refine fun (hg:(_:Prop))=>?_;(try replace hg:=HG.out hg);(try dsimp only at hg);(try (have _h:True:=hg;clear _h hg)))))
    all_goals first
      | (exfalso;omega)
      | ((refine aw_mono_r (env':=[(10,encInts (liftP f b f.length))]) (H':=[]) ?_ ?_;(focus (exact zsb [] [5])));(refine aw_ret ?_;(repeat (first|refine ret_then ?_|refine ret_block ?_));refine bq1 rfl ⟨?_,rfl⟩);rfl)
      | trace_state
theorem lifted_p (f b:List Int) (hf:rosE f=0) (hb:rubE b f.length=0):PCalls Tryz.prog 89 [encInts f,encInts b] (·=encInts (liftF f b)):=by
  refine pcalls_of_aw Tryz.func89 rfl (dc rfl) ?_
  (repeat' (first|(refine ar_isq ?_;refine zq ?_)|(refine zpv fn100 (picked_p f b hf hb) ?_)|refine zst ?_|refine zco ?_ ?_|exact zd|(refine fun (hg:(_:Prop))=>?_;(try replace hg:=HG.out hg);(try dsimp only at hg);(try (have _h:True:=hg;clear _h hg)))))
  (refine aw_ret ?_;(repeat (first|refine ret_then ?_|refine ret_block ?_));refine bq1 rfl ⟨?_,rfl⟩)
  rfl
def liftV (_:Unit):V:=.fn (.func 89) [] []
def liftE (f b:List Int):Int:=if rosE f=0 then rubE b f.length else rosE f
theorem liftE_zero {f b:List Int}(h:liftE f b=0):rosE f=0∧rubE b f.length=0:=by
  unfold liftE at h
  split at h
  · rename_i h0;exact ⟨h0,h⟩
  · rename_i h0;exact (h0 h).elim
theorem made_p (f b:List Int):PCalls Tryz.prog 88 [encInts f,encInts b,LV 1 liftV [()]] (·=.tup [encInts (if liftE f b=0 then liftF f b else []),vi (liftE f b)]):=by
  have hbo:=rBoth_p f b
  by_cases h:liftE f b=0
  · obtain ⟨hf,hb⟩:=liftE_zero h
    have hbo:PCalls Tryz.prog 99 [encInts f,encInts b] (·=vi 0):=by
      have:=hbo;rw [if_pos hf,hb] at this;exact this
    rw [if_pos h,h]
    refine pcalls_of_aw Tryz.func88 rfl (dc rfl) ?_
    (repeat' (first|(refine ar_isq ?_;refine zq ?_)|(refine zpv fn99 (hbo) ?_)|refine zst ?_|refine zco ?_ ?_|exact zd|(refine fun (hg:(_:Prop))=>?_;(try replace hg:=HG.out hg);(try dsimp only at hg);(try (have _h:True:=hg;clear _h hg)))))
    refine aw_for 1 (fun _=>True) (fun k=>[(0,encInts (if k=0 then f else liftF f b)),(1,encInts b),(17,LV 1 liftV [()]),(18,vi 1),(19,vi k)]) (fun _=>[]) trivial ?_ ?_
    · (exact zsb [] [])
    intro k hk _
    by_cases hlt:k<1
    · obtain rfl:k=0:=by omega
      (repeat' (first|(refine ar_isq ?_;refine zq ?_)|(refine zpv fn89 (lifted_p f b hf hb) ?_)|refine zst ?_|refine zco ?_ ?_|exact zd|(refine fun (hg:(_:Prop))=>?_;(try replace hg:=HG.out hg);(try dsimp only at hg);(try (have _h:True:=hg;clear _h hg)))))
      all_goals first
        | (exfalso;omega)
        | ((first|refine loop_next (by omega) ?_ ?_|refine (show _∧_∧SubOf _ _ _ _ _ _ from And.intro (by omega) (And.intro ?_ ?_)));(focus ((trivial);done));(focus (exact zsb [] [])))
        | trace_state
    · obtain rfl:k=1:=by omega
      (repeat' (first|(refine ar_isq ?_;refine zq ?_)|refine zst ?_|refine zco ?_ ?_|exact zd|(refine fun (hg:(_:Prop))=>?_;(try replace hg:=HG.out hg);(try dsimp only at hg);(try (have _h:True:=hg;clear _h hg)))))
      all_goals first
        | (exfalso;omega)
        | ((refine aw_ret ?_;(repeat (first|refine ret_then ?_|refine ret_block ?_));refine bq2 rfl rfl ⟨?_,rfl⟩);rfl)
        | trace_state
  · have hbo:PCalls Tryz.prog 99 [encInts f,encInts b] (·=vi (liftE f b)):=hbo
    rw [if_neg h]
    refine pcalls_of_aw Tryz.func88 rfl (dc rfl) ?_
    (repeat' (first|(refine ar_isq ?_;refine zq ?_)|(refine zpv fn99 (hbo) ?_)|refine zst ?_|refine zco ?_ ?_|exact zd|(refine fun (hg:(_:Prop))=>?_;(try replace hg:=HG.out hg);(try dsimp only at hg);(try (have _h:True:=hg;clear _h hg)))))
    all_goals first
      | (exfalso;omega)
      | ((refine aw_mono_r (env':=[(6,encInts []),(7,vi (liftE f b))]) (H':=[]) ?_ ?_;(focus (exact zsb [] [])));(refine aw_ret ?_;(repeat (first|refine ret_then ?_|refine ret_block ?_));refine bq2 rfl rfl ⟨?_,rfl⟩);rfl)
      | trace_state
theorem rLift_p (f b:List Int):PCalls Tryz.prog 54 [encInts f,encInts b] (·=.tup [encInts (if liftE f b=0 then liftF f b else []),vi (liftE f b)]):=by
  refine pcalls_of_aw Tryz.func54 rfl (dc rfl) ?_
  (repeat' (first|(refine ar_isq ?_;refine zq ?_)|refine zst ?_|refine zco ?_ ?_|exact zd|(refine fun (hg:(_:Prop))=>?_;(try replace hg:=HG.out hg);(try dsimp only at hg);(try (have _h:True:=hg;clear _h hg)))))
  (refine ar_subk_l (sub_frzL (t:=8) liftV ([()]) rfl rfl rfl rfl (fun _ _=>rfl) (fun _=>rfl)) ?_)
  refine zpv fn88 (made_p f b) ?_
  (repeat' (first|(refine ar_isq ?_;refine zq ?_)|refine zst ?_|refine zco ?_ ?_|exact zd|(refine fun (hg:(_:Prop))=>?_;(try replace hg:=HG.out hg);(try dsimp only at hg);(try (have _h:True:=hg;clear _h hg)))))
  all_goals first
    | ((refine aw_ret ?_;(repeat (first|refine ret_then ?_|refine ret_block ?_));refine bq2 rfl rfl ⟨?_,rfl⟩);rfl)
    | trace_state
theorem symL_succ (f:List Int) (k:Nat):symL f (k+1)=symL f k++(if symB f k=true then [k] else []):=by
  unfold symL
  rw [List.range_succ,List.filter_append,List.filter_cons,List.filter_nil]
theorem symL_len (f:List Int):∀ k,(symL f k).length≤k
  | 0=>Nat.le_refl _
  | k+1=>by
    have:=symL_len f k
    rw [symL_succ,List.length_append]
    split<;>simp<;>omega
def symZ (f:List Int) (k:Nat):List Int:=(symL f k).map fun (s:Nat)=>(s:Int)
theorem symZ_len (f:List Int) (k:Nat):(symZ f k).length=(symL f k).length:=by simp [symZ]
theorem symZ_yes {f:List Int}{k:Nat}(h:symB f k=true):symZ f (k+1)=symZ f k++[(k:Int)]:=by unfold symZ;rw [symL_succ,if_pos h,List.map_append];rfl
theorem symZ_no {f:List Int}{k:Nat}(h:symB f k=false):symZ f (k+1)=symZ f k:=by unfold symZ;rw [symL_succ,if_neg (by rw [h];decide),List.append_nil]
def eqTo (a b:List Int) (k:Nat):Prop:=∀ j,j<k→el a j=el b j
theorem vsub_listL {H:Heap}{σ:List (Option Nat)}{fr:Nat→Prop}{n:Nat}{f:Nat→V}{l:List Int}(hn:n=l.length) (h:∀ k,k<n→vi (el l k)=f k):VSub H σ fr (.list 1 n f) (encInts l):=by
  subst hn
  exact .ext h
theorem equal_p (a b:List Int):PCalls Tryz.prog 103 [encInts a,encInts b] (·=vb (decide (a=b))):=by
  (refine pcalls_know (fun I us h=>rel_len (rel_arg h (j:=0) rfl)) fun hlen0=>?_)
  refine pcalls_of_aw Tryz.func103 rfl (dc rfl) ?_
  (repeat' (first|(refine ar_isq ?_;refine zq ?_)|refine zst ?_|refine aw_drawn (id:=6) [(0,0),(1,0),(2,0),(3,0),(4,0),(5,0),(6,0),(7,0),(8,0)] mixed (by kernel_rfl) ?_|refine zco ?_ ?_|exact zd|(refine fun (hg:(_:Prop))=>?_;(try replace hg:=HG.out hg);(try dsimp only at hg);(try (have _h:True:=hg;clear _h hg)))))
  · (refine aw_ret ?_;(repeat (first|refine ret_then ?_|refine ret_block ?_));refine bq1 rfl ⟨?_,rfl⟩)
    rw [decide_eq_false (p:=a=b) (by rintro rfl;omega)]
    rfl
  refine aw_for a.length (fun k=>eqTo a b k) (fun k=>[(0,encInts a),(1,encInts b),(12,vi a.length),(13,vi k)]) (fun _=>[]) (fun j hj=>by omega) ?_ ?_
  · (exact zsb [] [])
  intro k hk hJ
  by_cases hlt:k<a.length
  · (repeat' (first|(refine ar_isq ?_;refine zq ?_)|refine zil (j:=k) ?_|refine zis (j:=k) ?_|refine zit (j:=k) ?_|refine zst ?_|refine aw_drawn (id:=6) [(0,0),(1,0),(2,0),(3,0),(4,0),(5,0),(6,0),(7,0),(8,0)] mixed (by kernel_rfl) ?_|refine zco ?_ ?_|exact zd|(refine fun (hg:(_:Prop))=>?_;(try replace hg:=HG.out hg);(try dsimp only at hg);(try (have _h:True:=hg;clear _h hg)))))
    all_goals first
      | (exfalso;omega)
      | ((first|refine loop_next (by omega) ?_ ?_|refine (show _∧_∧SubOf _ _ _ _ _ _ from And.intro (by omega) (And.intro ?_ ?_)));(focus (((exact all_step hJ (by omega)));done));(focus (exact zsb [] [])))
      | ((refine aw_ret ?_;(repeat (first|refine ret_then ?_|refine ret_block ?_));refine bq1 rfl ⟨?_,rfl⟩);rw [decide_eq_false (p:=a=b) (by rintro rfl;omega)];rfl)
      | trace_state
  · (repeat' (first|(refine ar_isq ?_;refine zq ?_)|refine zst ?_|refine aw_drawn (id:=6) [(0,0),(1,0),(2,0),(3,0),(4,0),(5,0),(6,0),(7,0),(8,0)] mixed (by kernel_rfl) ?_|refine zco ?_ ?_|exact zd|(refine fun (hg:(_:Prop))=>?_;(try replace hg:=HG.out hg);(try dsimp only at hg);(try (have _h:True:=hg;clear _h hg)))))
    all_goals first
      | (exfalso;omega)
      | ((refine aw_ret ?_;(repeat (first|refine ret_then ?_|refine ret_block ?_));refine bq1 rfl ⟨?_,rfl⟩);rw [decide_eq_true (p:=a=b) (ext_el (by omega) fun i hi=>hJ i (by omega))];rfl)
      | trace_state
theorem turned_p (f:List Int) (hf:f.length≤100) (s:Nat) (hs:s≤f.length):PCalls Tryz.prog 104 [encInts f,vi s] (·=encInts (turnF f s)):=by
  have hc:=concatW_p [f.drop (f.length-s),f.take (f.length-s)] (by simp) (fun l hl=>by
    simp only [List.mem_cons,List.mem_nil_iff,or_false] at hl
    rcases hl with rfl|rfl
    · rw [List.length_drop];omega
    · rw [List.length_take];omega)
  refine pcalls_of_aw Tryz.func104 rfl (dc rfl) ?_
  (repeat' (first|(refine ar_isq ?_;refine zq ?_)|refine aw_drawn (id:=1) [(0,0),(1,0),(2,0),(3,0),(4,0),(5,0),(6,0),(7,0),(8,0),(9,0),(10,0),(11,0),(12,2),(13,2),(14,0)] mixed (by kernel_rfl) ?_|refine zcl (a:=f.length-s) (b:=f.length) ?_|refine zcs (a:=f.length-s) (b:=f.length) ?_|refine zcl (a:=0) (b:=f.length-s) ?_|refine zcs (a:=0) (b:=f.length-s) ?_|refine zst ?_|refine aw_drawn (id:=1) [(0,0),(1,0),(2,0),(3,0),(4,0),(5,0),(6,0),(7,0),(8,0),(9,0),(10,0),(11,0),(12,1),(13,1),(14,0)] mixed (by kernel_rfl) ?_|refine aw_drawn (id:=1) [(0,0),(1,0),(2,0),(3,0),(4,0),(5,0),(6,0),(7,0),(8,0),(9,0),(10,0),(11,0),(12,1),(13,2),(14,0)] mixed (by kernel_rfl) ?_|refine zco ?_ ?_|exact zd|(refine fun (hg:(_:Prop))=>?_;(try replace hg:=HG.out hg);(try dsimp only at hg);(try (have _h:True:=hg;clear _h hg)))))
  (refine ar_sub_l (env':=[(10,encInts (f.drop (f.length-s))),(16,encInts (f.take (f.length-s)))]) (H':=[]) ?_ ?_;(focus ((refine sub_to [] [] rfl ?_ ?_<;>(repeat' (first|exact trivial|refine ⟨⟨_,rfl,?_⟩,?_⟩|refine vs1 ?_ ?_|refine vs2 ?_ ?_|refine vs3 ?_|refine vs4 ?_ ?_|refine ⟨.inl ⟨_,_,rfl,rfl,?_⟩,?_⟩|exact ⟨.inr ⟨rfl,rfl⟩,trivial⟩|refine ⟨.inr ⟨rfl,rfl⟩,?_⟩|(intro _ _)|exact vz1|(first|exact vsub_listL (by rw [List.length_drop]) (fun k hk=>by rw [el_drop])|exact vsub_listL (by rw [List.length_take];omega) (fun k hk=>by rw [el_take (by omega),Nat.zero_add]))|exact vz2|fail)));done)))
  refine ar_buildLE encInts ([f.drop (f.length-s),f.take (f.length-s)]) (by exact ty rfl) (by exact rfl) (by exact ty rfl) (by exact rfl) (by exact rfl) (by exact Nat.succ_pos _) (by exact rfl) (by exact dc rfl) (by exact rfl) (by exact fun _=>⟨rfl,rfl⟩) (by exact dc rfl) ?_
  (repeat' (first|(refine ar_isq ?_;refine zq ?_)|(((refine ar_subk_l (sub_frzL (t:=17) encInts ([f.drop (f.length-s),f.take (f.length-s)]) rfl rfl rfl rfl (fun _ _=>rfl) (fun _=>rfl)) ?_);refine zpv fn109 (hc) ?_))|refine zcl ?_|refine zcs ?_|refine zst ?_|refine aw_drawn (id:=1) [(0,0),(1,0),(2,0),(3,0),(4,0),(5,0),(6,0),(7,0),(8,0),(9,0),(10,0),(11,0),(12,1),(13,1),(14,0)] mixed (by kernel_rfl) ?_|refine aw_drawn (id:=1) [(0,0),(1,0),(2,0),(3,0),(4,0),(5,0),(6,0),(7,0),(8,0),(9,0),(10,0),(11,0),(12,1),(13,2),(14,0)] mixed (by kernel_rfl) ?_|refine zco ?_ ?_|exact zd|(refine fun (hg:(_:Prop))=>?_;(try replace hg:=HG.out hg);(try dsimp only at hg);(try (have _h:True:=hg;clear _h hg)))))
  all_goals first
    | (exfalso;omega)
    | ((refine aw_ret ?_;(repeat (first|refine ret_then ?_|refine ret_block ?_));refine bq1 rfl ⟨?_,rfl⟩);unfold turnF;simp)
    | trace_state
theorem matches_p (f:List Int) (hf:f.length≤100):PCalls Tryz.prog 90 [encInts f,encInts f] (·=encInts (symZ f f.length)):=by
  refine pcalls_of_aw Tryz.func90 rfl (dc rfl) ?_
  (repeat' (first|(refine ar_isq ?_;refine zq ?_)|refine zst ?_|refine zco ?_ ?_|exact zd|(refine fun (hg:(_:Prop))=>?_;(try replace hg:=HG.out hg);(try dsimp only at hg);(try (have _h:True:=hg;clear _h hg)))))
  refine aw_for f.length (fun _=>True) (fun k=>[(0,encInts f),(1,encInts f),(5,.sl 1 0 0 (symZ f k).length),(8,vi f.length),(9,vi k)]) (fun k=>[LB 1 vi (symZ f k)]) trivial ?_ ?_
  · (exact zsb [none] [])
  intro k hk _
  have hl:=symL_len f k
  have hz:=symZ_len f k
  by_cases hlt:k<f.length
  · have hsy:PCalls Tryz.prog 103 [encInts (turnF f k),encInts f] (·=vb (symB f k)):=equal_p _ _
    (repeat' (first|(refine ar_isq ?_;refine zq ?_)|(refine zpv fn104 (turned_p f hf k (by omega)) ?_)|(refine zpv fn103 (hsy) ?_)|refine zst ?_|refine zco ?_ ?_|exact zd|(refine fun (hg:(_:Prop))=>?_;(try replace hg:=HG.out hg);(try dsimp only at hg);(try (have _h:True:=hg;clear _h hg)))))
    all_goals first
      | (exfalso;omega)
      | (rw [symZ_yes (by assumption)];((first|refine loop_next (by omega) ?_ ?_|refine (show _∧_∧SubOf _ _ _ _ _ _ from And.intro (by omega) (And.intro ?_ ?_)));(focus ((trivial);done));(focus (exact zsb [some 2] []))))
      | (rw [symZ_no (by simp_all)];((first|refine loop_next (by omega) ?_ ?_|refine (show _∧_∧SubOf _ _ _ _ _ _ from And.intro (by omega) (And.intro ?_ ?_)));(focus ((trivial);done));(focus (exact zsb [some 0] []))))
      | trace_state
  · obtain rfl:k=f.length:=by omega
    (repeat' (first|(refine ar_isq ?_;refine zq ?_)|refine zst ?_|refine zco ?_ ?_|exact zd|(refine fun (hg:(_:Prop))=>?_;(try replace hg:=HG.out hg);(try dsimp only at hg);(try (have _h:True:=hg;clear _h hg)))))
    all_goals first
      | (exfalso;omega)
      | ((refine aw_mono_r (env':=[(4,encInts (symZ f f.length))]) (H':=[]) ?_ ?_;(focus (exact zsb [] [0])));(refine aw_ret ?_;(repeat (first|refine ret_then ?_|refine ret_block ?_));refine bq1 rfl ⟨?_,rfl⟩);rfl)
      | trace_state
theorem rPeriod_p (f:List Int) (hf:rosE f=0):PCalls Tryz.prog 55 [encInts f] (·=.tup [vi (perF f),vi 0]):=by
  obtain ⟨f1,f2,f3⟩:=rosE_zero.1 hf
  have hp:=per_spec (f:=f) (by omega)
  have hz:=symZ_len f f.length
  have hc:=rosChk_p f
  rw [hf] at hc
  have hq:(f.length:Int)/((symZ f f.length).length:Int)=(perF f:Int):=by rw [hz];rfl
  refine pcalls_of_aw Tryz.func55 rfl (dc rfl) ?_
  (repeat' (first|(refine ar_isq ?_;refine zq ?_)|(refine zpv fn85 (hc) ?_)|(refine zpv fn90 (matches_p f (by omega)) ?_)|refine zst ?_|refine zco ?_ ?_|exact zd|(refine fun (hg:(_:Prop))=>?_;(try replace hg:=HG.out hg);(try dsimp only at hg);(try (have _h:True:=hg;clear _h hg)))))
  all_goals first
    | (exfalso;omega)
    | ((refine aw_ret ?_;(repeat (first|refine ret_then ?_|refine ret_block ?_));refine bq2 rfl rfl ⟨?_,rfl⟩);rw [← hq];rfl)
    | trace_state
theorem pwithin_p (n lo hi:Int):PCalls Tryz.prog 30 [vi n,vi lo,vi hi] (·=vb (withinB n lo hi)):=by
  refine pcalls_of_aw Tryz.func30 rfl (dc rfl) ?_
  (repeat' (first|(refine ar_isq ?_;refine zq ?_)|refine zg ?_ ?_|refine zgu ?_|refine zst ?_|refine zco ?_ ?_|(refine fun (hg:(_:Prop))=>?_;first|exact absurd hg (by decide)|((try replace hg:=HG.out hg);(try dsimp only at hg);(try rw [withinB_iff] at hg);(try rw [withinB_no] at hg);(try (have _h:True:=hg;clear _h hg));first|(exfalso;omega)|skip))))
  all_goals (refine aw_ret ?_;(repeat (first|refine ret_then ?_|refine ret_block ?_));refine bq1 rfl ⟨?_,rfl⟩)
  all_goals (simp only [vb,constV,withinB];congr 2;simp;try omega)
theorem pmodulo_p (p n:Int) (hn:0<n) (hb:n≤1000):PCalls Tryz.prog 31 [vi p,vi n] (·=vi (p % n)):=by
  have ht:=tmod_mod p hn
  have hlo:=tmod_gt p hn
  have hhi:=Int.tmod_lt_of_pos p hn
  refine pcalls_of_aw Tryz.func31 rfl (dc rfl) ?_
  (repeat' (first|(refine ar_isq ?_;refine zq ?_)|refine ar_q (qs_rem rfl rfl (by omega) rfl) (dc rfl) ?_|refine zst ?_|refine zco ?_ ?_|exact zd|(refine fun (hg:(_:Prop))=>?_;(try replace hg:=HG.out hg);(try dsimp only at hg);(try (have _h:True:=hg;clear _h hg)))))
  all_goals first
    | (exfalso;omega)
    | ((refine aw_ret ?_;(repeat (first|refine ret_then ?_|refine ret_block ?_));refine bq1 rfl ⟨?_,rfl⟩);rw [ht,if_pos (by omega)];rfl)
    | ((refine aw_ret ?_;(repeat (first|refine ret_then ?_|refine ret_block ?_));refine bq1 rfl ⟨?_,rfl⟩);rw [ht,if_neg (by omega)];rfl)
    | trace_state
theorem pshift_p (p:Pat) (hn:p.ros.length≤1000) (s:Int):PCalls Tryz.prog 87 [vi s,.ref p.enc 0] (·=vb (shiftB p.ros.length s)):=by
  refine pcalls_of_aw Tryz.func87 rfl (dc rfl) ?_
  (repeat' (first|(refine ar_isq ?_;refine zq ?_)|(refine zpv fn30 (pwithin_p _ _ _) ?_)|refine zst ?_|refine zco ?_ ?_|exact zd|(refine fun (hg:(_:Prop))=>?_;(try replace hg:=HG.out hg);(try dsimp only at hg);(try (have _h:True:=hg;clear _h hg)))))
  (refine aw_ret ?_;(repeat (first|refine ret_then ?_|refine ret_block ?_));refine bq1 rfl ⟨?_,rfl⟩)
  rfl
def Pat.fit (p:Pat):Prop:=withinB p.start 0 10000=true∧withinB p.throw 1 16=true∧withinB p.adv (-1000) 1000=true∧withinB p.shifts.length 1 12=true∧p.shifts.any (shiftB p.ros.length)=false
theorem pat_ros {p:Pat}(h:rosE p.ros≠0):p.err=30:=by unfold Pat.err;rw [if_pos h]
theorem pat_rub {p:Pat}(h0:rosE p.ros=0) (h:rubE p.rub p.ros.length≠0):p.err=31:=by unfold Pat.err;rw [if_neg (fun q=>q h0),if_pos h]
theorem pat_fit {p:Pat}(h0:rosE p.ros=0) (h1:rubE p.rub p.ros.length=0) (h:p.fit):p.err=0:=by unfold Pat.err;rw [if_neg (fun q=>q h0),if_neg (fun q=>q h1)];exact if_pos h
theorem pat_not {p:Pat}(h0:rosE p.ros=0) (h1:rubE p.rub p.ros.length=0) (h:¬ p.fit):p.err=40:=by unfold Pat.err;rw [if_neg (fun q=>q h0),if_neg (fun q=>q h1)];exact if_neg h
set_option maxRecDepth 20000 in
theorem patChk_p (p:Pat):PCalls Tryz.prog 53 [p.enc] (·=vi p.err):=by
  have e1:=rosE_or p.ros
  have e2:=rubE_or p.rub p.ros.length
  refine pcalls_of_aw Tryz.func53 rfl (dc rfl) ?_
  ((repeat refine aw_seq ?_);(first|(refine aw_region ?_));(repeat' (first|(refine ar_isq ?_;refine zq ?_)|refine zg ?_ ?_|refine zgu ?_|refine zsr ?_|(refine fun (hg:(_:Prop))=>?_;first|exact absurd hg (by decide)|((try replace hg:=HG.out hg);(try dsimp only at hg);(try rw [withinB_no] at hg);(try (have _h:True:=hg;clear _h hg));first|(exfalso;omega)|skip)))))
  (refine aw_mono_r (env':=[(1,.ref p.enc 0),(2,vi 0)]) (H':=[]) ?_ ?_;(focus ((refine sub_to [] [0] rfl ?_ ?_<;>(repeat' (first|exact trivial|refine ⟨⟨_,rfl,?_⟩,?_⟩|refine vs1 ?_ ?_|refine vs2 ?_ ?_|refine vs3 ?_|refine vs4 ?_ ?_|refine ⟨.inl ⟨_,_,rfl,rfl,?_⟩,?_⟩|exact ⟨.inr ⟨rfl,rfl⟩,trivial⟩|refine ⟨.inr ⟨rfl,rfl⟩,?_⟩|(intro _ _)|exact vz1|(exact frzPtr' (by simp) rfl (by omega) rfl rfl)|exact vz2|fail)));done)))
  by_cases h0:rosE p.ros=0
  case neg =>
    (repeat' (first|(refine ar_isq ?_;refine zq ?_)|(refine zpv fn85 (rosChk_p p.ros) ?_)|refine zg ?_ ?_|refine zgu ?_|refine zst ?_|refine zco ?_ ?_|(refine fun (hg:(_:Prop))=>?_;first|exact absurd hg (by decide)|((try replace hg:=HG.out hg);(try dsimp only at hg);(try rw [withinB_no] at hg);(try (have _h:True:=hg;clear _h hg));first|(exfalso;omega)|skip))))
    all_goals first
      | (exfalso;omega)
      | ((refine aw_ret ?_;(repeat (first|refine ret_then ?_|refine ret_block ?_));refine bq1 rfl ⟨?_,rfl⟩);rw [pat_ros h0];exact congrArg vi (by omega))
      | trace_state
  by_cases h1:rubE p.rub p.ros.length=0
  case neg =>
    (repeat' (first|(refine ar_isq ?_;refine zq ?_)|(refine zpv fn85 (rosChk_p p.ros) ?_)|(refine zpv fn86 (rRubber_p p.rub p.ros.length) ?_)|refine zg ?_ ?_|refine zgu ?_|refine zst ?_|refine zco ?_ ?_|(refine fun (hg:(_:Prop))=>?_;first|exact absurd hg (by decide)|((try replace hg:=HG.out hg);(try dsimp only at hg);(try rw [withinB_no] at hg);(try (have _h:True:=hg;clear _h hg));first|(exfalso;omega)|skip))))
    all_goals first
      | (exfalso;omega)
      | ((refine aw_ret ?_;(repeat (first|refine ret_then ?_|refine ret_block ?_));refine bq1 rfl ⟨?_,rfl⟩);rw [pat_rub h0 h1];exact congrArg vi (by omega))
      | trace_state
  have hr:=rosE_zero.1 h0
  have hany:PCalls Tryz.prog 50 [encInts p.shifts,.fn (.func 87) [] [.ref p.enc 0]] (·=vb (p.shifts.any (shiftB p.ros.length))):=containsInts_p p.shifts fn87 rfl _ (fun x _=>pshift_p p (by omega) x)
  (repeat' (first|(refine ar_isq ?_;refine zq ?_)|(refine zpv fn85 (rosChk_p p.ros) ?_)|(refine zpv fn86 (rRubber_p p.rub p.ros.length) ?_)|(refine zpv fn30 (pwithin_p _ _ _) ?_)|(refine zpv fn50 (hany) ?_)|refine zg ?_ ?_|refine zgu ?_|refine zst ?_|refine zco ?_ ?_|(refine fun (hg:(_:Prop))=>?_;first|exact absurd hg (by decide)|((try replace hg:=HG.out hg);(try dsimp only at hg);(try rw [withinB_no] at hg);(try (have _h:True:=hg;clear _h hg));first|(exfalso;omega)|skip))))
  all_goals first
    | (exfalso;omega)
    | ((refine aw_ret ?_;(repeat (first|refine ret_then ?_|refine ret_block ?_));refine bq1 rfl ⟨?_,rfl⟩);rw [pat_fit h0 h1 (by unfold Pat.fit;simp_all)];rfl)
    | ((refine aw_ret ?_;(repeat (first|refine ret_then ?_|refine ret_block ?_));refine bq1 rfl ⟨?_,rfl⟩);rw [pat_not h0 h1 (by rintro ⟨f1,f2,f3,f4,f5⟩;rw [withinB_iff] at f1 f2 f3 f4;first|omega|simp_all)];rfl)
    | trace_state
structure Pat.Ok (p:Pat):Prop where
  ros:rosE p.ros=0
  rub:rubE p.rub p.ros.length=0
  start:0≤p.start∧p.start≤10000
  throw:1≤p.throw∧p.throw≤16
  adv:-1000≤p.adv∧p.adv≤1000
  cuts:1≤p.shifts.length∧p.shifts.length≤12
  shift:∀ k,k<p.shifts.length→0≤el p.shifts k∧el p.shifts k≤(p.ros.length:Int)-1
  steps:3≤p.ros.length∧p.ros.length≤96
theorem pat_ok {p:Pat}(h:p.err=0):p.Ok:=by
  unfold Pat.err at h
  split at h
  · omega
  · rename_i h0
    split at h
    · omega
    · rename_i h1
      split at h
      · rename_i h2
        obtain ⟨f1,f2,f3,f4,f5⟩:=h2
        rw [withinB_iff] at f1 f2 f3 f4
        have h0:rosE p.ros=0:=Classical.byContradiction h0
        have hr:=rosE_zero.1 h0
        refine ⟨h0,Classical.byContradiction h1,f1,f2,f3,by omega,fun k hk=>?_,⟨hr.1,hr.2.1⟩⟩
        have:shiftB p.ros.length (el p.shifts k)=false:=by
          rw [← Bool.not_eq_true]
          intro e
          rw [List.any_eq_true.2 ⟨_,el_mem hk,e⟩] at f5
          cases f5
        unfold shiftB at this
        rw [Bool.not_eq_false',withinB_iff] at this
        exact this
      · omega
theorem lift_hb {p:Pat}(h:p.Ok) {i:Nat}(hi:i<p.ros.length):0≤el p.lift i∧el p.lift i≤10000:=lift_bnd h.ros h.rub hi
theorem sum_bnd {p:Pat}(h:p.Ok):∀ k,k≤p.shifts.length→0≤sumS p.shifts k∧sumS p.shifts k≤95*k
  | 0,_=>⟨Int.le_refl _,Int.le_refl _⟩
  | k+1,hk=>by
    have h1:=sum_bnd h k (by omega)
    have h2:=h.shift k (by omega)
    have h3:=h.steps
    unfold sumS
    omega
def sm (l:List Int) (k i:Nat):Int:=if i≤k then sumS l i else 0
def sumsL (l:List Int) (k:Nat):List V:=[vi (sm l k 0),vi (sm l k 1),vi (sm l k 2),vi (sm l k 3),vi (sm l k 4),vi (sm l k 5),vi (sm l k 6),vi (sm l k 7),vi (sm l k 8),vi (sm l k 9),vi (sm l k 10),vi (sm l k 11),vi (sm l k 12)]
def benchV (p:Pat) (k:Nat):V:=.agg ([encInts p.ros,encInts p.rub,vi p.start,vi p.throw,vi p.adv,encInts p.shifts,encInts p.lift,vi p.ros.length,vi p.shifts.length,vi p.per]++sumsL p.shifts k)
theorem bench_put (p:Pat):∀ {k:Nat},k<12→putPart (benchV p k) (10+(k+1)*1) (vi (sumS p.shifts k+el p.shifts k))=benchV p (k+1)
  | 0,_|1,_|2,_|3,_|4,_|5,_|6,_|7,_|8,_|9,_|10,_|11,_=>rfl
  | k+12,h=>absurd h (by omega)
theorem bench_get (p:Pat) {k:Nat}:∀ {j:Nat},j≤k→j≤12→partV false (benchV p k).cells (10+j*1) 1=some (vi (sumS p.shifts j))
  | 0,h,_|1,h,_|2,h,_|3,h,_|4,h,_|5,h,_|6,h,_|7,h,_|8,h,_|9,h,_|10,h,_|11,h,_|12,h,_=>congrArg some (congrArg vi (if_pos h))
  | j+13,_,h=>absurd h (by omega)
theorem bench_closed (p:Pat) (k:Nat):V.closed.all (benchV p k).cells=true:=rfl
abbrev benchR (p:Pat):V:=.ref (benchV p p.shifts.length) 0
def vnpW:V:=.s (.pointer none)
def MountR (p:Pat) (v:V):Prop:=(p.err=0∧v=.tup [benchR p,vi 0])∨(p.err≠0∧v=.tup [vnpW,vi p.err])
set_option maxRecDepth 20000 in
theorem mounted_p (p:Pat):PCalls Tryz.prog 29 [p.enc] (MountR p):=by
  have hck:=patChk_p p
  by_cases h0:p.err=0
  case neg =>
    refine pcalls_of_aw Tryz.func29 rfl (dc rfl) ?_
    (repeat' (first|(refine ar_isq ?_;refine zq ?_)|(refine ar_buildS (ds:=?ds) (by exact ty rfl) (by exact rfl) (by exact sizes rfl) (by exact rfl) (by exact rfl) (by exact build rfl) (by exact dc rfl) ?hn ?h;(case hn=>(dsimp only [cells_s,cells_emp,cells_agg,cells_list,cells_sl,cells_ptr,cells_ref,cells_fn,cells_vi,cells_vb,cells_vnil,constV,List.map_cons,List.map_nil,List.take_succ_cons,List.take_zero,List.drop_succ_cons,List.drop_zero,List.cons_append,List.nil_append,List.append_nil,LV_cells];exact rfl)))|(refine zpv fn53 (hck) ?_)|refine zst ?_|refine aw_drawn (id:=14) [(0,0),(1,0),(2,0),(3,0),(4,0),(5,0),(6,0),(7,0),(8,0),(9,0),(10,0),(11,0),(12,0),(13,0),(14,2)] mixed (by kernel_rfl) ?_|refine zco ?_ ?_|exact zd|(refine fun (hg:(_:Prop))=>?_;(try replace hg:=HG.out hg);(try dsimp only at hg);(try (have _h:True:=hg;clear _h hg)))))
    all_goals first
      | (exfalso;omega)
      | ((refine aw_ret ?_;(repeat (first|refine ret_then ?_|refine ret_block ?_));refine bq2 rfl rfl ⟨?_,rfl⟩);exact .inr ⟨h0,rfl⟩)
      | trace_state
  have hk:=pat_ok h0
  obtain ⟨c1,c2⟩:=hk.cuts
  obtain ⟨n1,n2⟩:=hk.steps
  rw [h0] at hck
  have hl:=rLift_p p.ros p.rub
  have hle:liftE p.ros p.rub=0:=by unfold liftE;rw [if_pos hk.ros];exact hk.rub
  rw [hle,if_pos rfl] at hl
  have hl:PCalls Tryz.prog 54 [encInts p.ros,encInts p.rub] (·=.tup [encInts p.lift,vi 0]):=hl
  have hll:p.lift.length=p.ros.length:=lift_plen
  have hp:PCalls Tryz.prog 55 [encInts p.lift] (·=.tup [vi p.per,vi 0]):=rPeriod_p p.lift (lift_rosE hk.ros hk.rub)
  refine pcalls_of_aw Tryz.func29 rfl (dc rfl) ?_
  (repeat' (first|(refine ar_isq ?_;refine zq ?_)|(refine ar_buildS (ds:=?ds) (by exact ty rfl) (by exact rfl) (by exact sizes rfl) (by exact rfl) (by exact rfl) (by exact build rfl) (by exact dc rfl) ?hn ?h;(case hn=>(dsimp only [cells_s,cells_emp,cells_agg,cells_list,cells_sl,cells_ptr,cells_ref,cells_fn,cells_vi,cells_vb,cells_vnil,constV,List.map_cons,List.map_nil,List.take_succ_cons,List.take_zero,List.drop_succ_cons,List.drop_zero,List.cons_append,List.nil_append,List.append_nil,LV_cells];exact rfl)))|(refine zpv fn53 (hck) ?_)|(refine zpv fn54 (hl) ?_)|(refine zpv fn55 (hp) ?_)|refine zst ?_|refine aw_drawn (id:=14) [(0,0),(1,0),(2,0),(3,0),(4,0),(5,0),(6,0),(7,0),(8,0),(9,0),(10,0),(11,0),(12,0),(13,0),(14,2)] mixed (by kernel_rfl) ?_|refine zco ?_ ?_|exact zd|(refine fun (hg:(_:Prop))=>?_;(try replace hg:=HG.out hg);(try dsimp only at hg);(try (have _h:True:=hg;clear _h hg)))))
  all_goals first
    | (exfalso;omega)
    | skip
  refine aw_for p.shifts.length (fun _=>True) (fun k=>[(1,.ptr 6 0 0 0),(8,.ptr 23 1 0 0),(46,encInts p.shifts),(47,vi p.shifts.length),(48,vi k)]) (fun k=>[.arr 6 1 (fun _=>p.enc),.arr 23 1 (fun _=>benchV p k)]) trivial ?_ ?_
  · (refine sub_to [some 0,some 1] [] rfl ?_ ?_<;>(repeat' (first|exact trivial|refine ⟨⟨_,rfl,?_⟩,?_⟩|refine vs1 ?_ ?_|refine vs2 ?_ ?_|refine vs3 ?_|refine vs4 ?_ ?_|refine ⟨.inl ⟨_,_,rfl,rfl,?_⟩,?_⟩|exact ⟨.inr ⟨rfl,rfl⟩,trivial⟩|refine ⟨.inr ⟨rfl,rfl⟩,?_⟩|(intro _ _)|exact vz1|(first|exact .closed rfl|exact .of_eq (by unfold benchV;rw [← hll];rfl) rfl)|exact vz2|fail)))
  intro k hkk _
  by_cases hlt:k<p.shifts.length
  · have hs:=sum_bnd hk k (by omega)
    have hsk:=hk.shift k hlt
    (repeat' (first|(refine ar_isq ?_;refine zq ?_)|refine zil (j:=k) ?_|refine zis (j:=k) ?_|refine zit (j:=k) ?_|(refine ar_buildS (ds:=?ds) (by exact ty rfl) (by exact rfl) (by exact sizes rfl) (by exact rfl) (by exact rfl) (by exact build rfl) (by exact dc rfl) ?hn ?h;(case hn=>(dsimp only [cells_s,cells_emp,cells_agg,cells_list,cells_sl,cells_ptr,cells_ref,cells_fn,cells_vi,cells_vb,cells_vnil,constV,List.map_cons,List.map_nil,List.take_succ_cons,List.take_zero,List.drop_succ_cons,List.drop_zero,List.cons_append,List.nil_append,List.append_nil,LV_cells];exact rfl)))|refine zia (j:=k) ?_|refine zia (j:=k+1) ?_|refine zlp (v:=vi (sumS p.shifts k)) ?_ (hv:=by exact bench_get p (Nat.le_refl _) (by omega))|refine zst ?_|refine aw_drawn (id:=14) [(0,0),(1,0),(2,0),(3,0),(4,0),(5,0),(6,0),(7,0),(8,0),(9,0),(10,0),(11,0),(12,0),(13,0),(14,2)] mixed (by kernel_rfl) ?_|refine zco ?_ ?_|exact zd|(refine fun (hg:(_:Prop))=>?_;(try replace hg:=HG.out hg);(try dsimp only at hg);(try (have _h:True:=hg;clear _h hg)))))
    all_goals first
      | (exfalso;omega)
      | ((first|refine loop_next (by omega) ?_ ?_|refine (show _∧_∧SubOf _ _ _ _ _ _ from And.intro (by omega) (And.intro ?_ ?_)));(focus ((trivial);done));(focus ((refine sub_to [some 0,some 1] [] rfl ?_ ?_<;>(repeat' (first|exact trivial|refine ⟨⟨_,rfl,?_⟩,?_⟩|refine vs1 ?_ ?_|refine vs2 ?_ ?_|refine vs3 ?_|refine vs4 ?_ ?_|refine ⟨.inl ⟨_,_,rfl,rfl,?_⟩,?_⟩|exact ⟨.inr ⟨rfl,rfl⟩,trivial⟩|refine ⟨.inr ⟨rfl,rfl⟩,?_⟩|(intro _ _)|exact vz1|(exact .of_eq (bench_put p (by omega)) (bench_closed p _))|exact vz2|fail)));done)))
      | trace_state
  · obtain rfl:k=p.shifts.length:=by omega
    (repeat' (first|(refine ar_isq ?_;refine zq ?_)|(refine ar_buildS (ds:=?ds) (by exact ty rfl) (by exact rfl) (by exact sizes rfl) (by exact rfl) (by exact rfl) (by exact build rfl) (by exact dc rfl) ?hn ?h;(case hn=>(dsimp only [cells_s,cells_emp,cells_agg,cells_list,cells_sl,cells_ptr,cells_ref,cells_fn,cells_vi,cells_vb,cells_vnil,constV,List.map_cons,List.map_nil,List.take_succ_cons,List.take_zero,List.drop_succ_cons,List.drop_zero,List.cons_append,List.nil_append,List.append_nil,LV_cells];exact rfl)))|refine zst ?_|refine aw_drawn (id:=14) [(0,0),(1,0),(2,0),(3,0),(4,0),(5,0),(6,0),(7,0),(8,0),(9,0),(10,0),(11,0),(12,0),(13,0),(14,2)] mixed (by kernel_rfl) ?_|refine zco ?_ ?_|exact zd|(refine fun (hg:(_:Prop))=>?_;(try replace hg:=HG.out hg);(try dsimp only at hg);(try (have _h:True:=hg;clear _h hg)))))
    all_goals first
      | (exfalso;omega)
      | ((refine aw_mono_r (env':=[(2,benchR p),(3,vi 0)]) (H':=[]) ?_ ?_;(focus ((refine sub_to [] [1] rfl ?_ ?_<;>(repeat' (first|exact trivial|refine ⟨⟨_,rfl,?_⟩,?_⟩|refine vs1 ?_ ?_|refine vs2 ?_ ?_|refine vs3 ?_|refine vs4 ?_ ?_|refine ⟨.inl ⟨_,_,rfl,rfl,?_⟩,?_⟩|exact ⟨.inr ⟨rfl,rfl⟩,trivial⟩|refine ⟨.inr ⟨rfl,rfl⟩,?_⟩|(intro _ _)|exact vz1|(exact frzPtr' (by simp) rfl (by omega) rfl rfl)|exact vz2|fail)));done)));(refine aw_ret ?_;(repeat (first|refine ret_then ?_|refine ret_block ?_));refine bq2 rfl rfl ⟨?_,rfl⟩);exact .inl ⟨h0,rfl⟩)
      | trace_state
theorem quo_exact {j c:Int}(hc:0<c) (hj:-100000≤j∧j≤100000):IntKind.i64.wrap ((j-j % c).tdiv c)=j/c∧-100001≤j/c∧j/c≤100000:=by
  have h:=Int.emod_add_mul_ediv j c
  have e:j-j % c=c*(j/c):=by omega
  have b1:-100001≤j/c:=by
    have:=Int.ediv_nonneg_iff_of_pos (a:=j) hc
    rcases Int.le_total 0 j with g|g
    · have:=Int.ediv_nonneg g (Int.le_of_lt hc);omega
    · have h1:=Int.emod_lt_of_pos j hc
      have h2:c*(j/c)>j-c:=by omega
      rcases Int.lt_or_le (j/c) (-100001) with q|q
      · have:=Int.mul_le_mul_of_nonneg_left (show j/c≤-100002 by omega) (Int.le_of_lt hc)
        have h3:c*(-100002)≤-100002+(c-1)*(-1):=by omega
        omega
      · exact q
  have b2:j/c≤100000:=by
    rcases Int.le_total 0 j with g|g
    · have:=Int.ediv_le_self c g;omega
    · have h1:=Int.emod_nonneg j (show c≠0 by omega)
      rcases Int.lt_or_le 0 (j/c) with q|q
      · have:=Int.mul_pos hc q;omega
      · omega
  refine ⟨?_,b1,b2⟩
  rw [e,Int.mul_tdiv_cancel_left _ (by omega)]
  exact wrap64 (by omega)
set_option maxRecDepth 20000 in
theorem phase_p (p:Pat) (hk:p.Ok) (j:Int) (hj:-100000≤j∧j≤100000):PCalls Tryz.prog 32 [benchR p,vi j] (·=vi (p.phase j)):=by
  obtain ⟨c1,c2⟩:=hk.cuts
  obtain ⟨n1,n2⟩:=hk.steps
  have hc:(0:Int)<p.shifts.length:=by omega
  obtain ⟨q1,q2,q3⟩:=quo_exact (j:=j) hc hj
  have m1:=Int.emod_nonneg j (show (p.shifts.length:Int)≠0 by omega)
  have m2:=Int.emod_lt_of_pos j hc
  obtain ⟨r,hr⟩:∃ r:Nat,j % p.shifts.length=r:=Int.eq_ofNat_of_zero_le m1
  have hrl:r<p.shifts.length:=by omega
  have hs:=sum_bnd hk p.shifts.length (Nat.le_refl _)
  have hs2:=sum_bnd hk r (by omega)
  have hb1:=Int.mul_le_mul_of_nonneg_right q3 hs.1
  have hb2:=Int.mul_le_mul_of_nonneg_right q2 hs.1
  have hph:p.phase j=(j/p.shifts.length*sumS p.shifts p.shifts.length+sumS p.shifts r) % p.ros.length:=by unfold Pat.phase;rw [hr];rfl
  rw [hr] at q1
  have hmo:PCalls Tryz.prog 31 [vi j,vi p.shifts.length] (·=vi r):=by rw [← hr];exact pmodulo_p _ _ hc (by omega)
  have hmo2:PCalls Tryz.prog 31 [vi (j/p.shifts.length*sumS p.shifts p.shifts.length+sumS p.shifts r),vi p.ros.length] (·=vi (p.phase j)):=by rw [hph];exact pmodulo_p _ _ (by omega) (by omega)
  refine pcalls_of_aw Tryz.func32 rfl (dc rfl) ?_
  (repeat' (first|(refine ar_isq ?_;refine zq ?_)|(refine zpv fn31 (hmo) ?_)|(refine zpv fn31 (hmo2) ?_)|refine ar_q (qs_quo rfl rfl (by omega) q1) (dc rfl) ?_|refine zir (j:=p.shifts.length) ?_|refine zir (j:=r) ?_|refine zlr (v:=vi (sumS p.shifts p.shifts.length)) ?_ (hv:=by exact bench_get p (Nat.le_refl _) (by omega))|refine zlr (v:=vi (sumS p.shifts r)) ?_ (hv:=by exact bench_get p (by omega) (by omega))|refine zst ?_|refine aw_drawn (id:=2) [(0,0),(1,0),(2,0),(3,0),(4,0),(5,0),(6,0),(7,0),(8,0),(9,0),(10,0),(11,0),(12,0),(13,0),(14,0),(15,0),(16,0),(17,0),(18,0),(19,0),(20,0),(21,0),(22,0),(23,0),(24,0),(25,0),(26,0),(27,0),(28,0),(29,1),(30,0)] mixed (by kernel_rfl) ?_|refine aw_drawn (id:=2) [(0,0),(1,0),(2,0),(3,0),(4,0),(5,0),(6,0),(7,0),(8,0),(9,0),(10,0),(11,0),(12,0),(13,0),(14,0),(15,0),(16,0),(17,0),(18,0),(19,0),(20,0),(21,0),(22,0),(23,0),(24,0),(25,0),(26,0),(27,0),(28,0),(29,2),(30,0)] mixed (by kernel_rfl) ?_|refine zco ?_ ?_|exact zd|(refine fun (hg:(_:Prop))=>?_;(try replace hg:=HG.out hg);(try dsimp only at hg);(try (have _h:True:=hg;clear _h hg)))))
  all_goals first
    | (exfalso;omega)
    | ((refine aw_ret ?_;(repeat (first|refine ret_then ?_|refine ret_block ?_));refine bq1 rfl ⟨?_,rfl⟩);rfl)
    | trace_state
def cutPt (p:Pat) (j:Int) (k:Nat):List Int:=(List.range p.ros.length).map fun (i:Nat)=>if i<k then p.start+j*p.adv+p.throw*p.at ((i:Int)-p.phase j) else 0
theorem cutPt_len (p:Pat) (j:Int) (k:Nat):(cutPt p j k).length=p.ros.length:=by simp [cutPt]
theorem cutPt_el {p:Pat}{j:Int}{k i:Nat}(h:i<p.ros.length):el (cutPt p j k) i=if i<k then p.start+j*p.adv+p.throw*p.at ((i:Int)-p.phase j) else 0:=el_map_range h
theorem cutPt_all (p:Pat) (j:Int):cutPt p j p.ros.length=p.cut j:=by
  refine ext_el (by rw [cutPt_len,cut_len]) fun i hi=>?_
  rw [cutPt_len] at hi
  rw [cutPt_el hi,cut_el hi,if_pos hi]
theorem cut_zero {H:Heap}{σ:List (Option Nat)}{fr:Nat→Prop}{p:Pat}{j:Int}{i:Nat}(hi:i<p.ros.length):VSub H σ fr (vi 0) (vi (el (cutPt p j 0) i)):=VSub.of_eq (by rw [cutPt_el hi,if_neg (by omega)]) rfl
theorem cut_step {H:Heap}{σ:List (Option Nat)}{fr:Nat→Prop}{p:Pat}{j:Int}{k i:Nat}(hi:i<p.ros.length):VSub H σ fr (upd (fun i=>vi (el (cutPt p j k) i)) k (vi (p.start+j*p.adv+p.throw*p.at ((k:Int)-p.phase j))) i) (vi (el (cutPt p j (k+1)) i)):=by
  refine VSub.of_eq ?_ rfl
  rw [upd_at,cutPt_el hi,cutPt_el hi]
  by_cases e:i=k
  · subst e
    rw [if_pos rfl,if_pos (by omega)]
  · rw [if_neg e]
    by_cases h:i<k
    · rw [if_pos h,if_pos (by omega)]
    · rw [if_neg h,if_neg (by omega)]
def Pat.cutE (p:Pat) (j:Int):Int:=if p.err=0 then (if withinB j (-5000) 5000=true then 0 else 2) else p.err
theorem at_bnd {p:Pat}(hk:p.Ok) (i:Int):0≤p.at i∧p.at i≤10000:=by
  have hn:=hk.steps
  have g1:=Int.emod_nonneg i (show (p.ros.length:Int)≠0 by omega)
  have g2:=Int.emod_lt_of_pos i (show (0:Int)<p.ros.length by omega)
  exact lift_hb hk (by omega)
theorem mul_adv {p:Pat}(hk:p.Ok) {j:Int}(hj:-5000≤j∧j≤5000):-5000000≤j*p.adv∧j*p.adv≤5000000:=by
  have ha:=hk.adv
  rcases Int.le_total 0 j with g|g
  · have h1:=Int.mul_le_mul_of_nonneg_left ha.2 g
    have h2:=Int.mul_le_mul_of_nonneg_left ha.1 g
    omega
  · have h1:=Int.mul_le_mul_of_nonneg_left ha.2 (show 0≤-j by omega)
    have h2:=Int.mul_le_mul_of_nonneg_left ha.1 (show 0≤-j by omega)
    simp only [Int.neg_mul] at h1 h2
    omega
theorem mul_throw {p:Pat}(hk:p.Ok) {x:Int}(hx:-10000≤x∧x≤10000):-160000≤p.throw*x∧p.throw*x≤160000:=by
  have ht:=hk.throw
  have h1:=Int.mul_le_mul_of_nonneg_left hx.1 (show 0≤p.throw by omega)
  have h2:=Int.mul_le_mul_of_nonneg_left hx.2 (show 0≤p.throw by omega)
  omega
set_option maxRecDepth 20000 in
theorem cut_p (p:Pat) (j:Int):PCalls Tryz.prog 17 [p.enc,vi j] (·=.tup [encInts (if p.cutE j=0 then p.cut j else []),vi (p.cutE j)]):=by
  by_cases h0:p.err=0
  case neg =>
    have he:p.cutE j=p.err:=if_neg h0
    rw [he,if_neg h0]
    refine pcalls_of_aw Tryz.func17 rfl (dc rfl) ?_
    (repeat' (first|(refine ar_isq ?_;refine zq ?_)|(refine ar_pcall (own:=false) fn29 rfl rfl (.cons (.closed rfl) .nil) (mounted_p p) (by simp) (dc rfl) ?_;rintro _ (⟨hm,rfl⟩|⟨hm,rfl⟩))|refine zst ?_|refine aw_drawn (id:=10) [(0,0),(1,0),(2,0),(3,0),(4,0),(5,0),(6,0),(7,0),(8,0),(9,0),(10,0),(11,0),(12,0),(13,0),(14,0),(15,0),(16,0),(17,0),(20,0),(21,0),(22,0),(23,0),(18,1),(19,0),(24,1),(25,0),(26,0),(27,0),(28,0),(29,0),(30,2)] mixed (by kernel_rfl) ?_|refine zco ?_ ?_|exact zd|(refine fun (hg:(_:Prop))=>?_;(try replace hg:=HG.out hg);(try dsimp only at hg);(try (have _h:True:=hg;clear _h hg)))))
    all_goals first
      | (exfalso;omega)
      | ((refine aw_mono_r (env':=[(4,encInts []),(5,vi p.err)]) (H':=[]) ?_ ?_;(focus (exact zsb [] [])));(refine aw_ret ?_;(repeat (first|refine ret_then ?_|refine ret_block ?_));refine bq2 rfl rfl ⟨?_,rfl⟩);rfl)
      | trace_state
  have hk:=pat_ok h0
  obtain ⟨c1,c2⟩:=hk.cuts
  obtain ⟨n1,n2⟩:=hk.steps
  by_cases hj:-5000≤j∧j≤5000
  case neg =>
    have hw:withinB j (-5000) 5000=false:=by rw [← Bool.not_eq_true,withinB_iff];exact hj
    have he:p.cutE j=2:=by unfold Pat.cutE;rw [if_pos h0,hw];rfl
    have hwi:=pwithin_p j (-5000) 5000
    rw [hw] at hwi
    rw [he]
    refine pcalls_of_aw Tryz.func17 rfl (dc rfl) ?_
    (repeat' (first|(refine ar_isq ?_;refine zq ?_)|(refine ar_pcall (own:=false) fn29 rfl rfl (.cons (.closed rfl) .nil) (mounted_p p) (by simp) (dc rfl) ?_;rintro _ (⟨hm,rfl⟩|⟨hm,rfl⟩))|(refine zpv fn30 (hwi) ?_)|refine zst ?_|refine aw_drawn (id:=10) [(0,0),(1,0),(2,0),(3,0),(4,0),(5,0),(6,0),(7,0),(8,0),(9,0),(10,0),(11,0),(12,0),(13,0),(14,0),(15,0),(16,0),(17,0),(20,0),(21,0),(22,0),(23,0),(18,1),(19,0),(24,1),(25,0),(26,0),(27,0),(28,0),(29,0),(30,2)] mixed (by kernel_rfl) ?_|refine zco ?_ ?_|exact zd|(refine fun (hg:(_:Prop))=>?_;(try replace hg:=HG.out hg);(try dsimp only at hg);(try (have _h:True:=hg;clear _h hg)))))
    all_goals first
      | (exfalso;omega)
      | ((refine aw_mono_r (env':=[(4,encInts []),(5,vi 2)]) (H':=[]) ?_ ?_;(focus (exact zsb [] [])));(refine aw_ret ?_;(repeat (first|refine ret_then ?_|refine ret_block ?_));refine bq2 rfl rfl ⟨?_,rfl⟩);rfl)
      | trace_state
  have hw:withinB j (-5000) 5000=true:=withinB_iff.2 hj
  have he:p.cutE j=0:=by unfold Pat.cutE;rw [if_pos h0,hw];rfl
  have hwi:=pwithin_p j (-5000) 5000
  rw [hw] at hwi
  rw [he,if_pos rfl]
  have hph:=phase_bnd (p:=p) j (by omega)
  have hll:p.lift.length=p.ros.length:=lift_plen
  have ha:=mul_adv hk hj
  refine pcalls_of_aw Tryz.func17 rfl (dc rfl) ?_
  (repeat' (first|(refine ar_isq ?_;refine zq ?_)|(refine ar_pcall (own:=false) fn29 rfl rfl (.cons (.closed rfl) .nil) (mounted_p p) (by simp) (dc rfl) ?_;rintro _ (⟨hm,rfl⟩|⟨hm,rfl⟩))|(refine zpv fn30 (hwi) ?_)|(refine ar_make_v (n:=p.ros.length) (ty rfl) rfl (ty rfl) rfl rfl rfl rfl (dc rfl) rfl rfl (by dsimp only;omega) (maxLen_ok (by omega)) ?_)|refine zst ?_|refine aw_drawn (id:=10) [(0,0),(1,0),(2,0),(3,0),(4,0),(5,0),(6,0),(7,0),(8,0),(9,0),(10,0),(11,0),(12,0),(13,0),(14,0),(15,0),(16,0),(17,0),(20,0),(21,0),(22,0),(23,0),(18,1),(19,0),(24,1),(25,0),(26,0),(27,0),(28,0),(29,0),(30,2)] mixed (by kernel_rfl) ?_|refine zco ?_ ?_|exact zd|(refine fun (hg:(_:Prop))=>?_;(try replace hg:=HG.out hg);(try dsimp only at hg);(try (have _h:True:=hg;clear _h hg)))))
  all_goals (try (exfalso;omega))
  refine aw_for p.ros.length (fun _=>True) (fun k=>[(1,vi j),(2,.ptr 6 0 0 0),(6,benchR p),(8,.sl 1 1 0 p.ros.length),(31,vi p.ros.length),(32,vi k)]) (fun k=>[.arr 6 1 (fun _=>p.enc),.arr 1 p.ros.length (fun i=>vi (el (cutPt p j k) i))]) trivial ?_ ?_
  · (refine sub_to [some 0,some 1] [] rfl ?_ ?_<;>(repeat' (first|exact trivial|refine ⟨⟨_,rfl,?_⟩,?_⟩|refine vs1 ?_ ?_|refine vs2 ?_ ?_|refine vs3 ?_|refine vs4 ?_ ?_|refine ⟨.inl ⟨_,_,rfl,rfl,?_⟩,?_⟩|exact ⟨.inr ⟨rfl,rfl⟩,trivial⟩|refine ⟨.inr ⟨rfl,rfl⟩,?_⟩|(intro _ _)|exact vz1|(exact cut_zero (by assumption))|exact vz2|fail)))
  intro k hkk _
  by_cases hlt:k<p.ros.length
  · have g1:=Int.emod_nonneg ((k:Int)-p.phase j) (show (p.ros.length:Int)≠0 by omega)
    have g2:=Int.emod_lt_of_pos ((k:Int)-p.phase j) (show (0:Int)<p.ros.length by omega)
    have hmo:PCalls Tryz.prog 31 [vi ((k:Int)-p.phase j),vi p.ros.length] (·=vi ((((k:Int)-p.phase j) % p.ros.length).toNat:Nat)):=by rw [Int.toNat_of_nonneg g1];exact pmodulo_p _ _ (by omega) (by omega)
    have hx:el p.lift (((k:Int)-p.phase j) % p.ros.length).toNat=p.at ((k:Int)-p.phase j):=rfl
    have hb:=at_bnd hk ((k:Int)-p.phase j)
    have ht:=mul_throw hk (x:=p.at ((k:Int)-p.phase j)) (by omega)
    rw [← hx] at hb ht
    have hst:=hk.start
    (repeat' (first|(refine ar_isq ?_;refine zq ?_)|refine zil (j:=(((k:Int)-p.phase j) % p.ros.length).toNat) ?_|refine zis (j:=(((k:Int)-p.phase j) % p.ros.length).toNat) ?_|refine zit (j:=(((k:Int)-p.phase j) % p.ros.length).toNat) ?_|refine zil (j:=k) ?_|refine zis (j:=k) ?_|refine zit (j:=k) ?_|(refine zpv fn32 (phase_p p hk j (by omega)) ?_)|(refine zpv fn31 (hmo) ?_)|refine zst ?_|refine aw_drawn (id:=10) [(0,0),(1,0),(2,0),(3,0),(4,0),(5,0),(6,0),(7,0),(8,0),(9,0),(10,0),(11,0),(12,0),(13,0),(14,0),(15,0),(16,0),(17,0),(20,0),(21,0),(22,0),(23,0),(18,1),(19,0),(24,1),(25,0),(26,0),(27,0),(28,0),(29,0),(30,2)] mixed (by kernel_rfl) ?_|refine zco ?_ ?_|exact zd|(refine fun (hg:(_:Prop))=>?_;(try replace hg:=HG.out hg);(try dsimp only at hg);(try (have _h:True:=hg;clear _h hg)))))
    all_goals first
      | (exfalso;omega)
      | ((first|refine loop_next (by omega) ?_ ?_|refine (show _∧_∧SubOf _ _ _ _ _ _ from And.intro (by omega) (And.intro ?_ ?_)));(focus ((trivial);done));(focus ((refine sub_to [some 0,some 1] [] rfl ?_ ?_<;>(repeat' (first|exact trivial|refine ⟨⟨_,rfl,?_⟩,?_⟩|refine vs1 ?_ ?_|refine vs2 ?_ ?_|refine vs3 ?_|refine vs4 ?_ ?_|refine ⟨.inl ⟨_,_,rfl,rfl,?_⟩,?_⟩|exact ⟨.inr ⟨rfl,rfl⟩,trivial⟩|refine ⟨.inr ⟨rfl,rfl⟩,?_⟩|(intro _ _)|exact vz1|(exact cut_step (by assumption))|exact vz2|fail)));done)))
      | trace_state
  · obtain rfl:k=p.ros.length:=by omega
    (repeat' (first|(refine ar_isq ?_;refine zq ?_)|refine zst ?_|refine aw_drawn (id:=10) [(0,0),(1,0),(2,0),(3,0),(4,0),(5,0),(6,0),(7,0),(8,0),(9,0),(10,0),(11,0),(12,0),(13,0),(14,0),(15,0),(16,0),(17,0),(20,0),(21,0),(22,0),(23,0),(18,1),(19,0),(24,1),(25,0),(26,0),(27,0),(28,0),(29,0),(30,2)] mixed (by kernel_rfl) ?_|refine zco ?_ ?_|exact zd|(refine fun (hg:(_:Prop))=>?_;(try replace hg:=HG.out hg);(try dsimp only at hg);(try (have _h:True:=hg;clear _h hg)))))
    all_goals first
      | (exfalso;omega)
      | ((refine aw_mono_r (env':=[(4,encInts (cutPt p j p.ros.length)),(5,vi 0)]) (H':=[]) ?_ ?_;(focus ((refine sub_to [] [1] rfl ?_ ?_<;>(repeat' (first|exact trivial|refine ⟨⟨_,rfl,?_⟩,?_⟩|refine vs1 ?_ ?_|refine vs2 ?_ ?_|refine vs3 ?_|refine vs4 ?_ ?_|refine ⟨.inl ⟨_,_,rfl,rfl,?_⟩,?_⟩|exact ⟨.inr ⟨rfl,rfl⟩,trivial⟩|refine ⟨.inr ⟨rfl,rfl⟩,?_⟩|(intro _ _)|exact vz1|(exact frz_as (by simp;done) rfl rfl (cutPt_len _ _ _) (fun _ _=>rfl) (fun _=>rfl))|exact vz2|fail)));done)));(refine aw_ret ?_;(repeat (first|refine ret_then ?_|refine ret_block ?_));refine bq2 rfl rfl ⟨?_,rfl⟩);rw [cutPt_all])
      | trace_state
def greatB (l:List Int):Bool:=decide (l.length>120)
theorem great03_p (l:List Int):PCalls Tryz.prog 16 [encInts l] (·=vb (greatB l)):=by
  refine pcalls_of_aw Tryz.func16 rfl (dc rfl) ?_
  (repeat' (first|(refine ar_isq ?_;refine zq ?_)|refine zst ?_|refine zco ?_ ?_|exact zd|(refine fun (hg:(_:Prop))=>?_;(try replace hg:=HG.out hg);(try dsimp only at hg);(try (have _h:True:=hg;clear _h hg)))))
  (refine aw_ret ?_;(repeat (first|refine ret_then ?_|refine ret_block ?_));refine bq1 rfl ⟨?_,rfl⟩)
  unfold greatB
  refine congrArg vb ?_
  rw [decide_eq_decide]
  omega
theorem great04_p (p:Pat):PCalls Tryz.prog 5 [p.enc] (fun v=>∃ bx,v=vb bx∧(bx=false→p.ros.length≤120∧p.rub.length≤120∧p.shifts.length≤20)):=by
  refine pcalls_of_aw Tryz.func5 rfl (dc rfl) ?_
  ((repeat refine aw_seq ?_);(first|(refine aw_region ?_));(repeat' (first|(refine ar_isq ?_;refine zq ?_)|refine zg ?_ ?_|refine zgu ?_|refine zsr ?_|exact zd|(refine fun (hg:(_:Prop))=>?_;(try replace hg:=HG.out hg);(try dsimp only at hg);(try (have _h:True:=hg;clear _h hg))))))
  (refine aw_mono_r (env':=[(1,.ref p.enc 0),(2,vb false)]) (H':=[]) ?_ ?_;(focus ((refine sub_to [] [0] rfl ?_ ?_<;>(repeat' (first|exact trivial|refine ⟨⟨_,rfl,?_⟩,?_⟩|refine vs1 ?_ ?_|refine vs2 ?_ ?_|refine vs3 ?_|refine vs4 ?_ ?_|refine ⟨.inl ⟨_,_,rfl,rfl,?_⟩,?_⟩|exact ⟨.inr ⟨rfl,rfl⟩,trivial⟩|refine ⟨.inr ⟨rfl,rfl⟩,?_⟩|(intro _ _)|exact vz1|(exact frzPtr' (by simp) rfl (by omega) rfl rfl)|exact vz2|fail)));done)))
  cases h1:greatB p.ros<;>cases h2:greatB p.rub
  all_goals
    have g1:=great03_p p.ros
    have g2:=great03_p p.rub
    rw [h1] at g1
    rw [h2] at g2
    unfold greatB at h1 h2
    simp only [decide_eq_true_eq,decide_eq_false_iff_not] at h1 h2
    (repeat' (first|(refine ar_isq ?_;refine zq ?_)|(refine zpv fn16 (g1) ?_)|(refine zpv fn16 (g2) ?_)|refine zg ?_ ?_|refine zgu ?_|refine zst ?_|refine zco ?_ ?_|exact zd|(refine fun (hg:(_:Prop))=>?_;(try replace hg:=HG.out hg);(try dsimp only at hg);(try (have _h:True:=hg;clear _h hg)))))
    all_goals first
      | ((refine aw_ret ?_;(repeat (first|refine ret_then ?_|refine ret_block ?_));refine bq1 rfl ⟨?_,rfl⟩);exact ⟨_,rfl,fun h=>by simp_all;omega⟩)
      | ((refine aw_ret ?_;(repeat (first|refine ret_then ?_|refine ret_block ?_));refine bq1 rfl ⟨?_,rfl⟩);exact ⟨_,rfl,fun h=>by simp_all;done⟩)
      | ((refine aw_ret ?_;(repeat (first|refine ret_then ?_|refine ret_block ?_));refine bq1 rfl ⟨?_,rfl⟩);exact ⟨_,rfl,fun h=>⟨by omega,by omega,by simp_all;omega⟩⟩)
      | trace_state
set_option maxRecDepth 20000 in
theorem woven_ok (p:Pat) (h0:p.err=0) (n:Nat) (hn:n≤12):PCalls Tryz.prog 6 [p.enc,vi n] (·=.tup [encRows (wovF p n),vb true]):=by
  refine pcalls_of_aw Tryz.func6 rfl (dc rfl) ?_
  (repeat' (first|(refine ar_isq ?_;refine zq ?_)|refine zst ?_|refine zco ?_ ?_|exact zd|(refine fun (hg:(_:Prop))=>?_;(try replace hg:=HG.out hg);(try dsimp only at hg);(try (have _h:True:=hg;clear _h hg)))))
  refine aw_for n (fun _=>True) (fun k=>[(2,.ptr 6 0 0 0),(6,.sl 1 1 0 (wovF p k).length),(10,vi n),(11,vi k)]) (fun k=>[.arr 6 1 (fun _=>p.enc),LB 1 encInts (wovF p k)]) trivial ?_ ?_
  · (exact zsb [some 0,none] [])
  intro k hk _
  have hl:=wov_len p k
  by_cases hlt:k<n
  · have he:p.cutE k=0:=by unfold Pat.cutE;rw [if_pos h0,if_pos (withinB_iff.2 (by omega))]
    have hc:=cut_p p k
    rw [he,if_pos rfl] at hc
    (repeat' (first|(refine ar_isq ?_;refine zq ?_)|(refine zpv fn17 (hc) ?_)|refine zst ?_|refine zco ?_ ?_|exact zd|(refine fun (hg:(_:Prop))=>?_;(try replace hg:=HG.out hg);(try dsimp only at hg);(try (have _h:True:=hg;clear _h hg)))))
    all_goals first
      | (exfalso;omega)
      | (rw [wov_succ];((first|refine loop_next (by omega) ?_ ?_|refine (show _∧_∧SubOf _ _ _ _ _ _ from And.intro (by omega) (And.intro ?_ ?_)));(focus ((trivial);done));(focus (exact zsb [some 0,some 3] []))))
      | trace_state
  · obtain rfl:k=n:=by omega
    (repeat' (first|(refine ar_isq ?_;refine zq ?_)|refine zst ?_|refine zco ?_ ?_|exact zd|(refine fun (hg:(_:Prop))=>?_;(try replace hg:=HG.out hg);(try dsimp only at hg);(try (have _h:True:=hg;clear _h hg)))))
    all_goals first
      | (exfalso;omega)
      | ((refine aw_mono_r (env':=[(4,encRows (wovF p k)),(5,vb true)]) (H':=[]) ?_ ?_;(focus (exact zsb [] [1])));(refine aw_ret ?_;(repeat (first|refine ret_then ?_|refine ret_block ?_));refine bq2 rfl rfl ⟨?_,rfl⟩);rfl)
      | trace_state
set_option maxRecDepth 20000 in
theorem woven_zero (p:Pat):PCalls Tryz.prog 6 [p.enc,vi 0] (·=.tup [encRows [],vb true]):=by
  refine pcalls_of_aw Tryz.func6 rfl (dc rfl) ?_
  (repeat' (first|(refine ar_isq ?_;refine zq ?_)|refine zst ?_|refine zco ?_ ?_|exact zd|(refine fun (hg:(_:Prop))=>?_;(try replace hg:=HG.out hg);(try dsimp only at hg);(try (have _h:True:=hg;clear _h hg)))))
  refine aw_for 0 (fun _=>True) (fun k=>[(2,.ptr 6 0 0 0),(6,vnil),(10,vi 0),(11,vi k)]) (fun k=>[.arr 6 1 (fun _=>p.enc)]) trivial ?_ ?_
  · (exact zsb [some 0] [])
  intro k hk _
  obtain rfl:k=0:=by omega
  (repeat' (first|(refine ar_isq ?_;refine zq ?_)|refine zst ?_|refine zco ?_ ?_|exact zd|(refine fun (hg:(_:Prop))=>?_;(try replace hg:=HG.out hg);(try dsimp only at hg);(try (have _h:True:=hg;clear _h hg)))))
  all_goals first
    | (exfalso;omega)
    | ((refine aw_mono_r (env':=[(4,encRows []),(5,vb true)]) (H':=[]) ?_ ?_;(focus (exact zsb [] [])));(refine aw_ret ?_;(repeat (first|refine ret_then ?_|refine ret_block ?_));refine bq2 rfl rfl ⟨?_,rfl⟩);rfl)
    | trace_state
set_option maxRecDepth 20000 in
theorem woven_bad (p:Pat) (h0:p.err≠0) (n:Int) (hn:1≤n∧n≤12):PCalls Tryz.prog 6 [p.enc,vi n] (·=.tup [encRows [],vb false]):=by
  have he:p.cutE 0=p.err:=if_neg h0
  have hc:=cut_p p 0
  rw [he,if_neg h0] at hc
  refine pcalls_of_aw Tryz.func6 rfl (dc rfl) ?_
  (repeat' (first|(refine ar_isq ?_;refine zq ?_)|refine zst ?_|refine zco ?_ ?_|exact zd|(refine fun (hg:(_:Prop))=>?_;(try replace hg:=HG.out hg);(try dsimp only at hg);(try (have _h:True:=hg;clear _h hg)))))
  refine aw_for 0 (fun _=>True) (fun k=>[(2,.ptr 6 0 0 0),(6,vnil),(10,vi n),(11,vi k)]) (fun k=>[.arr 6 1 (fun _=>p.enc)]) trivial ?_ ?_
  · (exact zsb [some 0] [])
  intro k hk _
  obtain rfl:k=0:=by omega
  (repeat' (first|(refine ar_isq ?_;refine zq ?_)|(refine zpv fn17 (hc) ?_)|refine zst ?_|refine zco ?_ ?_|exact zd|(refine fun (hg:(_:Prop))=>?_;(try replace hg:=HG.out hg);(try dsimp only at hg);(try (have _h:True:=hg;clear _h hg)))))
  all_goals first
    | (exfalso;omega)
    | ((refine aw_mono_r (env':=[(4,encRows []),(5,vb false)]) (H':=[]) ?_ ?_;(focus (exact zsb [] [])));(refine aw_ret ?_;(repeat (first|refine ret_then ?_|refine ret_block ?_));refine bq2 rfl rfl ⟨?_,rfl⟩);rfl)
    | trace_state
def pSmall:Pat:=⟨[0,1,0],[0],1,2,4,[1]⟩
theorem small_p:PCalls Tryz.prog 15 [] (·=pSmall.enc):=by
  refine pcalls_of_aw Tryz.func15 rfl (dc rfl) ?_
  (repeat' (first|(refine zbt ?_)|refine ar_buildLE vi ([0,1,0]) (by exact ty rfl) (by exact rfl) (by exact ty rfl) (by exact rfl) (by exact rfl) (by exact Nat.succ_pos _) (by exact rfl) (by exact dc rfl) (by exact rfl) (by exact fun _=>⟨rfl,rfl⟩) (by exact dc rfl) ?_|(((refine ar_subk_l (sub_frzL (t:=1) vi ([0,1,0]) rfl rfl rfl rfl (fun _ _=>rfl) (fun _=>rfl)) ?_);refine ar_buildLE vi ([0]) (by exact ty rfl) (by exact rfl) (by exact ty rfl) (by exact rfl) (by exact rfl) (by exact Nat.succ_pos _) (by exact rfl) (by exact dc rfl) (by exact rfl) (by exact fun _=>⟨rfl,rfl⟩) (by exact dc rfl) ?_))|(((refine ar_subk_l (sub_frzL (t:=2) vi ([0]) rfl rfl rfl rfl (fun _ _=>rfl) (fun _=>rfl)) ?_);refine ar_buildLE vi ([1]) (by exact ty rfl) (by exact rfl) (by exact ty rfl) (by exact rfl) (by exact rfl) (by exact Nat.succ_pos _) (by exact rfl) (by exact dc rfl) (by exact rfl) (by exact fun _=>⟨rfl,rfl⟩) (by exact dc rfl) ?_))|refine zst ?_|refine zco ?_ ?_|exact zd|(refine fun (hg:(_:Prop))=>?_;(try replace hg:=HG.out hg);(try dsimp only at hg);(try (have _h:True:=hg;clear _h hg)))))
  (refine aw_mono_r (env':=[(0,.ptr 6 0 0 0)]) (H':=[.arr 6 1 (fun _=>pSmall.enc)]) ?_ ?_;(focus (exact zsc [some 0] [3])))
  refine aw_ret ?_
  (repeat (first|refine ret_then ?_|refine ret_block ?_))
  exact bq1c (f:=fun _=>pSmall.enc) (v:=pSmall.enc) (ty rfl) rfl rfl Nat.one_pos rfl ⟨rfl,rfl⟩
def shSmall:Sheet:=⟨3,20,1,1,2⟩
theorem small_err:pSmall.err=0:=by decide +kernel
theorem small_check:checkErr shSmall (wovF pSmall 4)=0:=by decide +kernel
theorem small_gapF:gapF shSmall (wovF pSmall 4)=1:=by decide +kernel
end Go.Proofs.YtloaefllpokkaaaGreat
