/- Parts of the proof: a layer of values over the model, and contracts of functions. No condition. -/
import Derived.Test.YtbilpbabdgfblaaGreatKHc11
set_option maxHeartbeats 16000000
set_option linter.unusedSimpArgs false
set_option linter.unusedVariables false
namespace Go.Proofs.YtbilpbabdgfblaaGreat
open Go.RowKit
theorem used_sub {H:Heap}{σ:List (Option Nat)}{fr:Nat→Prop}{l:List Itm}{k j i:Nat}(hj:(el l k).src=(j:Int)):VSub H σ fr (upd (fun i=>vi (usedI l i k)) j (vi (usedI l j k+1)) i) (vi (usedI l i (k+1))):=by
  by_cases e:i=j
  · subst e
    rw [upd_same,usedI_yes hj]
    exact .closed rfl
  · rw [upd_other e,usedI_no (by omega)]
    exact .closed rfl
theorem usedP_sub {H:Heap}{σ:List (Option Nat)}{fr:Nat→Prop}{l:List Itm}{p:List Prt}{n k j i:Nat}(hj:(el p k).plate=(j:Int)):VSub H σ fr (upd (fun i=>vi (usedI l i n+usedP p i k)) j (vi (usedI l j n+usedP p j k+1)) i) (vi (usedI l i n+usedP p i (k+1))):=by
  by_cases e:i=j
  · subst e
    rw [upd_same,usedP_yes hj]
    exact .of_eq (congrArg vi (by omega)) rfl
  · rw [upd_other e,usedP_no (by omega)]
    exact .closed rfl
def ValidR (s:Sto) (v:V) (H:Heap):Prop:=(Valid s∧v=.tup [.ptr 4 0 0 0,vb true]∧H=stoB 0 s (pressTo s.items s.items.length))∨(¬ Valid s∧v=.tup [.s (.pointer none),vb false]∧H=[])
theorem valid_p (s:Sto):ACalls Tryz.prog 60 [s.enc] [] (ValidR s) NoP:=by
  refine acalls_of_aw Tryz.func60 rfl (dc rfl) ?_
  (repeat' (first|(refine ar_isq ?_;refine zq ?_)|(((refine ar_subk_l (sub_frzL (t:=14) vi ([s.life]) rfl rfl rfl rfl (fun _ _=>rfl) (fun _=>rfl)) ?_);refine zpv fn59 (from_p _ _ [s.life]) ?_))|refine ar_buildLE vi ([s.life]) (by exact ty rfl) (by exact rfl) (by exact ty rfl) (by exact rfl) (by exact rfl) (by exact Nat.succ_pos _) (by exact rfl) (by exact dc rfl) (by exact rfl) (by exact fun _=>⟨rfl,rfl⟩) (by exact dc rfl) ?_|(refine ar_make_v (n:=s.items.length) (ty rfl) rfl (ty rfl) rfl rfl rfl rfl (dc rfl) rfl rfl (by dsimp only;omega) (maxLen_ok (by omega)) ?_)|refine zg ?_ ?_|refine zgu ?_|refine zst ?_|refine aw_drawn (id:=14) [(0,0),(1,0),(2,0),(3,0),(4,1),(5,1),(6,0),(7,0),(8,0),(9,0),(10,0),(11,0),(12,0),(13,0),(14,0),(15,0),(16,0),(17,0),(18,0),(19,0)] mixed (by kernel_rfl) ?_|refine aw_drawn (id:=14) [(0,0),(1,0),(2,0),(3,0),(4,1),(5,2),(6,0),(7,0),(8,0),(9,0),(10,0),(11,0),(12,0),(13,0),(14,0),(15,0),(16,0),(17,0),(18,0),(19,0)] mixed (by kernel_rfl) ?_|refine aw_drawn (id:=31) [(0,0),(1,0),(2,0),(3,0),(4,0),(5,0),(6,0),(7,0),(8,0),(9,0),(10,0),(11,0),(12,0)] mixed (by kernel_rfl) ?_|refine zco ?_ ?_|(refine fun (hg:(_:Prop))=>?_;first|exact absurd hg (by decide)|((try replace hg:=HG.out hg);(try dsimp only at hg);(try rw [fromB_one] at hg);(try rw [withinB_iff] at hg);(try rw [withinB_no] at hg);(try (have _h:True:=hg;clear _h hg));first|(exfalso;omega)|skip))))
  all_goals (try ((refine aw_mono_r (env':=[(2,.s (.pointer none)),(3,vb false)]) (H':=[]) ?_ ?_;(focus (exact zsb [] [])));refine aw_ret ?_;(repeat (first|refine ret_then ?_|refine ret_block ?_));refine bq2 rfl rfl (.inr ⟨fun v=>?_,rfl,rfl⟩);have hv:=v.1;unfold Few at hv;omega))
  refine aw_for s.items.length (fun k=>∀ j,j<k→Made s.items j) (fun k=>[(1,.ptr 3 0 0 0),(4,.sl 1 1 0 s.items.length),(34,encItems s.items),(35,vi s.items.length),(36,vi k)]) (fun k=>[.arr 3 1 (fun _=>s.enc),.arr 1 s.items.length (fun j=>vi (usedI s.items j k))]) (fun j hj=>by omega) ?_ ?_
  · (exact zsb [some 0,some 2] [])
  intro k hk hJ
  by_cases hlt:k<s.items.length
  · have hb:=usedI_bnd s.items (el s.items k).src.toNat k
    (repeat' (first|(refine ar_isq ?_;refine zq ?_)|refine zil (j:=k) ?_|refine zis (j:=k) ?_|refine zit (j:=k) ?_|refine zil (j:=(el s.items k).src.toNat) ?_|refine zis (j:=(el s.items k).src.toNat) ?_|refine zit (j:=(el s.items k).src.toNat) ?_|(((refine ar_subk_l (sub_frzL (t:=55) vi ([(el s.items k).src]) rfl rfl rfl rfl (fun _ _=>rfl) (fun _=>rfl)) ?_);refine zpv fn59 (from_p _ _ [(el s.items k).src]) ?_))|refine ar_buildLE vi ([(el s.items k).src]) (by exact ty rfl) (by exact rfl) (by exact ty rfl) (by exact rfl) (by exact rfl) (by exact Nat.succ_pos _) (by exact rfl) (by exact dc rfl) (by exact rfl) (by exact fun _=>⟨rfl,rfl⟩) (by exact dc rfl) ?_|refine zg ?_ ?_|refine zgu ?_|refine zst ?_|refine aw_drawn (id:=14) [(0,0),(1,0),(2,0),(3,0),(4,1),(5,1),(6,0),(7,0),(8,0),(9,0),(10,0),(11,0),(12,0),(13,0),(14,0),(15,0),(16,0),(17,0),(18,0),(19,0)] mixed (by kernel_rfl) ?_|refine aw_drawn (id:=14) [(0,0),(1,0),(2,0),(3,0),(4,1),(5,2),(6,0),(7,0),(8,0),(9,0),(10,0),(11,0),(12,0),(13,0),(14,0),(15,0),(16,0),(17,0),(18,0),(19,0)] mixed (by kernel_rfl) ?_|refine aw_drawn (id:=31) [(0,0),(1,0),(2,0),(3,0),(4,0),(5,0),(6,0),(7,0),(8,0),(9,0),(10,0),(11,0),(12,0)] mixed (by kernel_rfl) ?_|refine zco ?_ ?_|(refine fun (hg:(_:Prop))=>?_;first|exact absurd hg (by decide)|((try replace hg:=HG.out hg);(try dsimp only at hg);(try rw [fromB_one] at hg);(try rw [withinB_iff] at hg);(try rw [withinB_no] at hg);(try (have _h:True:=hg;clear _h hg));first|(exfalso;omega)|skip))))
    all_goals first
      | (exfalso;omega)
      | ((refine aw_mono_r (env':=[(2,.s (.pointer none)),(3,vb false)]) (H':=[]) ?_ ?_;(focus (exact zsb [] [])));refine aw_ret ?_;(repeat (first|refine ret_then ?_|refine ret_block ?_));refine bq2 rfl rfl (.inr ⟨fun v=>?_,rfl,rfl⟩);have hv:=v.2.1 k hlt;unfold Made at hv;omega)
      | ((first|refine loop_next (by omega) ?_ ?_|refine (show _∧_∧SubOf _ _ _ _ _ _ from And.intro (by omega) (And.intro ?_ ?_)));(focus (((refine all_step hJ ?_;unfold Made;omega));done));(focus ((refine sub_to [some 0,some 1] [] rfl ?_ ?_<;>(repeat' (first|exact trivial|refine ⟨⟨_,rfl,?_⟩,?_⟩|refine vs1 ?_ ?_|refine vs2 ?_ ?_|refine vs3 ?_|refine vs4 ?_ ?_|refine ⟨.inl ⟨_,_,rfl,rfl,?_⟩,?_⟩|exact ⟨.inr ⟨rfl,rfl⟩,trivial⟩|refine ⟨.inr ⟨rfl,rfl⟩,?_⟩|(intro _ _)|exact vz1|(exact siEq (by rw [usedI_no (by omega)]))|exact vz2|fail)));done)))
      | ((first|refine loop_next (by omega) ?_ ?_|refine (show _∧_∧SubOf _ _ _ _ _ _ from And.intro (by omega) (And.intro ?_ ?_)));(focus (((refine all_step hJ ?_;unfold Made;omega));done));(focus ((refine sub_to [some 0,some 1] [] rfl ?_ ?_<;>(repeat' (first|exact trivial|refine ⟨⟨_,rfl,?_⟩,?_⟩|refine vs1 ?_ ?_|refine vs2 ?_ ?_|refine vs3 ?_|refine vs4 ?_ ?_|refine ⟨.inl ⟨_,_,rfl,rfl,?_⟩,?_⟩|exact ⟨.inr ⟨rfl,rfl⟩,trivial⟩|refine ⟨.inr ⟨rfl,rfl⟩,?_⟩|(intro _ _)|exact vz1|(exact used_sub (by omega))|exact vz2|fail)));done)))
      | trace_state
  · (repeat' (first|(refine ar_isq ?_;refine zq ?_)|refine zg ?_ ?_|refine zgu ?_|refine zst ?_|refine aw_drawn (id:=14) [(0,0),(1,0),(2,0),(3,0),(4,1),(5,1),(6,0),(7,0),(8,0),(9,0),(10,0),(11,0),(12,0),(13,0),(14,0),(15,0),(16,0),(17,0),(18,0),(19,0)] mixed (by kernel_rfl) ?_|refine aw_drawn (id:=14) [(0,0),(1,0),(2,0),(3,0),(4,1),(5,2),(6,0),(7,0),(8,0),(9,0),(10,0),(11,0),(12,0),(13,0),(14,0),(15,0),(16,0),(17,0),(18,0),(19,0)] mixed (by kernel_rfl) ?_|refine aw_drawn (id:=31) [(0,0),(1,0),(2,0),(3,0),(4,0),(5,0),(6,0),(7,0),(8,0),(9,0),(10,0),(11,0),(12,0)] mixed (by kernel_rfl) ?_|refine zco ?_ ?_|(refine fun (hg:(_:Prop))=>?_;first|exact absurd hg (by decide)|((try replace hg:=HG.out hg);(try dsimp only at hg);(try rw [fromB_one] at hg);(try rw [withinB_iff] at hg);(try rw [withinB_no] at hg);(try (have _h:True:=hg;clear _h hg));first|(exfalso;omega)|skip))))
    all_goals (try (exfalso;omega))
    have hM:∀ j,j<s.items.length→Made s.items j:=fun j hj=>hJ j (by omega)
    obtain rfl:k=s.items.length:=by omega
    clear hJ hlt hk
    refine aw_for s.prints.length (fun q=>∀ j,j<q→Printed s.items (el s.prints j)) (fun q=>[(1,.ptr 3 0 0 0),(4,.sl 1 1 0 s.items.length),(80,encPrints s.prints),(81,vi s.prints.length),(82,vi q)]) (fun q=>[.arr 3 1 (fun _=>s.enc),.arr 1 s.items.length (fun j=>vi (usedI s.items j s.items.length+usedP s.prints j q))]) (fun j hj=>by omega) ?_ ?_
    · (refine sub_to [some 0,some 1] [] rfl ?_ ?_<;>(repeat' (first|exact trivial|refine ⟨⟨_,rfl,?_⟩,?_⟩|refine vs1 ?_ ?_|refine vs2 ?_ ?_|refine vs3 ?_|refine vs4 ?_ ?_|refine ⟨.inl ⟨_,_,rfl,rfl,?_⟩,?_⟩|exact ⟨.inr ⟨rfl,rfl⟩,trivial⟩|refine ⟨.inr ⟨rfl,rfl⟩,?_⟩|(intro _ _)|exact vz1|(exact siEq (by simp [usedP,cntB]))|exact vz2|fail)))
    intro q hq hP
    by_cases hlq:q<s.prints.length
    · have hb:=usedI_bnd s.items (el s.prints q).plate.toNat s.items.length
      have hb2:=usedP_bnd s.prints (el s.prints q).plate.toNat q
      (repeat' (first|(refine ar_isq ?_;refine zq ?_)|refine zil (j:=q) ?_|refine zis (j:=q) ?_|refine zit (j:=q) ?_|refine zil (j:=(el s.prints q).plate.toNat) ?_|refine zis (j:=(el s.prints q).plate.toNat) ?_|refine zit (j:=(el s.prints q).plate.toNat) ?_|(((refine ar_subk_l (sub_frzL (t:=92) vi ([(el s.prints q).plate]) rfl rfl rfl rfl (fun _ _=>rfl) (fun _=>rfl)) ?_);refine zpv fn59 (from_p _ _ [(el s.prints q).plate]) ?_))|refine ar_buildLE vi ([(el s.prints q).plate]) (by exact ty rfl) (by exact rfl) (by exact ty rfl) (by exact rfl) (by exact rfl) (by exact Nat.succ_pos _) (by exact rfl) (by exact dc rfl) (by exact rfl) (by exact fun _=>⟨rfl,rfl⟩) (by exact dc rfl) ?_|refine zg ?_ ?_|refine zgu ?_|refine zst ?_|refine aw_drawn (id:=14) [(0,0),(1,0),(2,0),(3,0),(4,1),(5,1),(6,0),(7,0),(8,0),(9,0),(10,0),(11,0),(12,0),(13,0),(14,0),(15,0),(16,0),(17,0),(18,0),(19,0)] mixed (by kernel_rfl) ?_|refine aw_drawn (id:=14) [(0,0),(1,0),(2,0),(3,0),(4,1),(5,2),(6,0),(7,0),(8,0),(9,0),(10,0),(11,0),(12,0),(13,0),(14,0),(15,0),(16,0),(17,0),(18,0),(19,0)] mixed (by kernel_rfl) ?_|refine aw_drawn (id:=31) [(0,0),(1,0),(2,0),(3,0),(4,0),(5,0),(6,0),(7,0),(8,0),(9,0),(10,0),(11,0),(12,0)] mixed (by kernel_rfl) ?_|refine zco ?_ ?_|(refine fun (hg:(_:Prop))=>?_;first|exact absurd hg (by decide)|((try replace hg:=HG.out hg);(try dsimp only at hg);(try rw [fromB_one] at hg);(try rw [withinB_iff] at hg);(try rw [withinB_no] at hg);(try (have _h:True:=hg;clear _h hg));first|(exfalso;omega)|skip))))
      all_goals first
        | (exfalso;omega)
        | ((refine aw_mono_r (env':=[(2,.s (.pointer none)),(3,vb false)]) (H':=[]) ?_ ?_;(focus (exact zsb [] [])));refine aw_ret ?_;(repeat (first|refine ret_then ?_|refine ret_block ?_));refine bq2 rfl rfl (.inr ⟨fun v=>?_,rfl,rfl⟩);have hv:=v.2.2.2.1 q hlq;unfold Printed at hv;omega)
        | ((first|refine loop_next (by omega) ?_ ?_|refine (show _∧_∧SubOf _ _ _ _ _ _ from And.intro (by omega) (And.intro ?_ ?_)));(focus (((refine all_step hP ?_;unfold Printed;omega));done));(focus ((refine sub_to [some 0,some 1] [] rfl ?_ ?_<;>(repeat' (first|exact trivial|refine ⟨⟨_,rfl,?_⟩,?_⟩|refine vs1 ?_ ?_|refine vs2 ?_ ?_|refine vs3 ?_|refine vs4 ?_ ?_|refine ⟨.inl ⟨_,_,rfl,rfl,?_⟩,?_⟩|exact ⟨.inr ⟨rfl,rfl⟩,trivial⟩|refine ⟨.inr ⟨rfl,rfl⟩,?_⟩|(intro _ _)|exact vz1|(exact usedP_sub (by omega))|exact vz2|fail)));done)))
        | trace_state
    · (repeat' (first|(refine ar_isq ?_;refine zq ?_)|refine zg ?_ ?_|refine zgu ?_|refine zst ?_|refine aw_drawn (id:=14) [(0,0),(1,0),(2,0),(3,0),(4,1),(5,1),(6,0),(7,0),(8,0),(9,0),(10,0),(11,0),(12,0),(13,0),(14,0),(15,0),(16,0),(17,0),(18,0),(19,0)] mixed (by kernel_rfl) ?_|refine aw_drawn (id:=14) [(0,0),(1,0),(2,0),(3,0),(4,1),(5,2),(6,0),(7,0),(8,0),(9,0),(10,0),(11,0),(12,0),(13,0),(14,0),(15,0),(16,0),(17,0),(18,0),(19,0)] mixed (by kernel_rfl) ?_|refine aw_drawn (id:=31) [(0,0),(1,0),(2,0),(3,0),(4,0),(5,0),(6,0),(7,0),(8,0),(9,0),(10,0),(11,0),(12,0)] mixed (by kernel_rfl) ?_|refine zco ?_ ?_|(refine fun (hg:(_:Prop))=>?_;first|exact absurd hg (by decide)|((try replace hg:=HG.out hg);(try dsimp only at hg);(try rw [fromB_one] at hg);(try rw [withinB_iff] at hg);(try rw [withinB_no] at hg);(try (have _h:True:=hg;clear _h hg));first|(exfalso;omega)|skip))))
      all_goals (try (exfalso;omega))
      have hP1:∀ j,j<s.prints.length→Printed s.items (el s.prints j):=fun j hj=>hP j (by omega)
      obtain rfl:q=s.prints.length:=by omega
      clear hP hlq hq
      refine aw_for s.items.length (fun k=>∀ j,j<k→UsedOk s j) (fun k=>[(1,.ptr 3 0 0 0),(4,.sl 1 1 0 s.items.length),(119,encItems s.items),(120,vi s.items.length),(121,vi k)]) (fun _=>[.arr 3 1 (fun _=>s.enc),.arr 1 s.items.length (fun j=>vi (usedS s j))]) (fun j hj=>by omega) ?_ ?_
      · (exact zsb [some 0,some 1] [])
      intro k hk hU
      by_cases hlt:k<s.items.length
      · (repeat' (first|(refine ar_isq ?_;refine zq ?_)|refine zil (j:=k) ?_|refine zis (j:=k) ?_|refine zit (j:=k) ?_|refine zg ?_ ?_|refine zgu ?_|refine zst ?_|refine aw_drawn (id:=14) [(0,0),(1,0),(2,0),(3,0),(4,1),(5,1),(6,0),(7,0),(8,0),(9,0),(10,0),(11,0),(12,0),(13,0),(14,0),(15,0),(16,0),(17,0),(18,0),(19,0)] mixed (by kernel_rfl) ?_|refine aw_drawn (id:=14) [(0,0),(1,0),(2,0),(3,0),(4,1),(5,2),(6,0),(7,0),(8,0),(9,0),(10,0),(11,0),(12,0),(13,0),(14,0),(15,0),(16,0),(17,0),(18,0),(19,0)] mixed (by kernel_rfl) ?_|refine aw_drawn (id:=31) [(0,0),(1,0),(2,0),(3,0),(4,0),(5,0),(6,0),(7,0),(8,0),(9,0),(10,0),(11,0),(12,0)] mixed (by kernel_rfl) ?_|refine zco ?_ ?_|(refine fun (hg:(_:Prop))=>?_;first|exact absurd hg (by decide)|((try replace hg:=HG.out hg);(try dsimp only at hg);(try rw [fromB_one] at hg);(try rw [withinB_iff] at hg);(try rw [withinB_no] at hg);(try (have _h:True:=hg;clear _h hg));first|(exfalso;omega)|skip))))
        all_goals first
          | (exfalso;omega)
          | ((refine aw_mono_r (env':=[(2,.s (.pointer none)),(3,vb false)]) (H':=[]) ?_ ?_;(focus (exact zsb [] [])));refine aw_ret ?_;(repeat (first|refine ret_then ?_|refine ret_block ?_));refine bq2 rfl rfl (.inr ⟨fun v=>?_,rfl,rfl⟩);have hv:=v.2.2.2.2 k hlt;unfold UsedOk mostOf at hv;simp_all;done)
          | ((refine aw_mono_r (env':=[(2,.s (.pointer none)),(3,vb false)]) (H':=[]) ?_ ?_;(focus (exact zsb [] [])));refine aw_ret ?_;(repeat (first|refine ret_then ?_|refine ret_block ?_));refine bq2 rfl rfl (.inr ⟨fun v=>?_,rfl,rfl⟩);have hv:=v.2.2.2.2 k hlt;unfold UsedOk mostOf at hv;simp_all;omega)
          | ((first|refine loop_next (by omega) ?_ ?_|refine (show _∧_∧SubOf _ _ _ _ _ _ from And.intro (by omega) (And.intro ?_ ?_)));(focus (((refine all_step hU ?_;unfold UsedOk mostOf;simp_all;done));done));(focus (exact zsb [some 0,some 1] [])))
          | ((first|refine loop_next (by omega) ?_ ?_|refine (show _∧_∧SubOf _ _ _ _ _ _ from And.intro (by omega) (And.intro ?_ ?_)));(focus (((refine all_step hU ?_;unfold UsedOk mostOf;simp_all;omega));done));(focus (exact zsb [some 0,some 1] [])))
          | trace_state
      · (repeat' (first|(refine ar_isq ?_;refine zq ?_)|((refine ar_gcall0 fn105 rfl rfl [s.enc] ⟨.closed rfl,trivial⟩ (open_p s (by omega) (by omega)) (dc rfl) ?_ (fun _ _ h=>h.elim);rintro _ _ (⟨rfl,rfl,hpl⟩|⟨rfl,rfl,hpl⟩)<;>(try rw [stoB_ren])))|refine zg ?_ ?_|refine zgu ?_|refine zst ?_|refine aw_drawn (id:=14) [(0,0),(1,0),(2,0),(3,0),(4,1),(5,1),(6,0),(7,0),(8,0),(9,0),(10,0),(11,0),(12,0),(13,0),(14,0),(15,0),(16,0),(17,0),(18,0),(19,0)] mixed (by kernel_rfl) ?_|refine aw_drawn (id:=14) [(0,0),(1,0),(2,0),(3,0),(4,1),(5,2),(6,0),(7,0),(8,0),(9,0),(10,0),(11,0),(12,0),(13,0),(14,0),(15,0),(16,0),(17,0),(18,0),(19,0)] mixed (by kernel_rfl) ?_|refine aw_drawn (id:=31) [(0,0),(1,0),(2,0),(3,0),(4,0),(5,0),(6,0),(7,0),(8,0),(9,0),(10,0),(11,0),(12,0)] mixed (by kernel_rfl) ?_|refine zco ?_ ?_|(refine fun (hg:(_:Prop))=>?_;first|exact absurd hg (by decide)|((try replace hg:=HG.out hg);(try dsimp only at hg);(try rw [fromB_one] at hg);(try rw [withinB_iff] at hg);(try rw [withinB_no] at hg);(try (have _h:True:=hg;clear _h hg));first|(exfalso;omega)|skip))))
        all_goals first
          | (exfalso;omega)
          | ((refine aw_mono_r (env':=[(2,.s (.pointer none)),(3,vb false)]) (H':=[]) ?_ ?_;(focus (exact zsb [] [])));refine aw_ret ?_;(repeat (first|refine ret_then ?_|refine ret_block ?_));refine bq2 rfl rfl (.inr ⟨fun v=>?_,rfl,rfl⟩);exact hpl fun i hi=>placed_to (v.2.2.1 i hi) (by omega))
          | ((refine aw_mono_r (env':=[(2,.ptr 4 0 0 0),(3,vb true)]) (H':=[.arr 4 1 (fun _=>stoV 0 s),LB 5 Itm.enc s.items,LB 2 Prt.enc s.prints,mapE vi (pressTo s.items s.items.length)]) ?_ ?_;(focus (exact zsc [some 2,some 3,some 4,some 5] [])))
             refine aw_ret (bq2 rfl rfl (.inl ⟨⟨⟨by omega,by omega,by omega⟩,hM,placed_all hpl,hP1,fun i hi=>hU i (by omega)⟩,rfl,rfl⟩)))
          | trace_state
def vu (n:Int):V:=.s (.int .u64 n)
theorem mul64_p (x y:Int) (hx:0≤x∧x≤4294967295) (hy:0≤y∧y≤4294967295) (hxy:0≤x*y∧x*y≤4294967295):PCalls Tryz.prog 152 [vu x,vu y] (·=.tup [vu 0,vu (x*y)]):=by
  refine pcalls_of_aw Tryz.func152 rfl (dc rfl) ?_
  (repeat' (first|(refine ar_isq ?_;refine zq ?_)|refine ar_q (qs_and rfl rfl (andMask (by omega))) (dc rfl) ?_|refine ar_q (qs_shr rfl rfl (by omega) (shr0 (by omega))) (dc rfl) ?_|refine zst ?_|refine zco ?_ ?_|exact zd|(refine fun (hg:(_:Prop))=>?_;(try replace hg:=HG.out hg);(try dsimp only at hg);(try (have _h:True:=hg;clear _h hg)))))
  (refine aw_ret ?_;(repeat (first|refine ret_then ?_|refine ret_block ?_));refine bq2 rfl rfl ⟨?_,rfl⟩)
  simp [vu]
theorem mul_p (x y:Int) (hx:0≤x∧x≤4294967295) (hy:0≤y∧y≤4294967295) (hxy:0≤x*y∧x*y≤4294967295):PCalls Tryz.prog 111 [vu x,vu y] (·=.tup [vu 0,vu (x*y)]):=by
  refine pcalls_of_aw Tryz.func111 rfl (dc rfl) ?_
  (repeat' (first|(refine ar_isq ?_;refine zq ?_)|(refine zpv fn152 (mul64_p x y hx hy hxy) ?_)|refine zst ?_|refine zco ?_ ?_|exact zd|(refine fun (hg:(_:Prop))=>?_;(try replace hg:=HG.out hg);(try dsimp only at hg);(try (have _h:True:=hg;clear _h hg)))))
  all_goals ((refine aw_ret ?_;(repeat (first|refine ret_then ?_|refine ret_block ?_));refine bq2 rfl rfl ⟨?_,rfl⟩);simp [vu])
def fillN (L T:Nat):Nat→Nat
  | 0=>min L T
  | k+1=>fillN L T k+min (fillN L T k) (T-fillN L T k)
theorem fillN_le (L T:Nat):∀ k,fillN L T k≤T
  | 0=>by simp [fillN];omega
  | k+1=>by have:=fillN_le L T k;simp only [fillN];omega
theorem fillN_mod (l:List Bool) (T:Nat) (h:0<l.length):∀ k,fillN l.length T k<T→l.length ∣ fillN l.length T k∧k<fillN l.length T k
  | 0,hk=>by simp only [fillN] at hk ⊢;rw [Nat.min_eq_left (by omega)];exact ⟨Nat.dvd_refl _,h⟩
  | k+1,hk=>by
    have h1:=fillN_le l.length T k
    simp only [fillN] at hk ⊢
    have h2:fillN l.length T k<T:=by omega
    obtain ⟨h3,h4⟩:=fillN_mod l T h k h2
    rw [Nat.min_eq_left (by omega)]
    exact ⟨Nat.dvd_add h3 h3,by omega⟩
end Go.Proofs.YtbilpbabdgfblaaGreat
-- old go
namespace Go.Proofs.YtbilpbabdgfblaaGreat.It
open Go.RowKit
end Go.Proofs.YtbilpbabdgfblaaGreat.It
namespace Go.Proofs.YtbilpbabdgfblaaGreat
open Go.RowKit
theorem sameBand_p (b:List (List Int)):PCalls Tryz.prog 38 [encRows b,encRows b] (·=vb true):=by
  (refine pcalls_know (fun I us h=>And.intro (rel_len (rel_arg h (j:=0) rfl)) (fun l (hm:l∈_)=>rel_len (rel_el (rel_arg h (j:=0) rfl) (fun _=>rfl) hm))) fun hlen0=>?_)
  refine pcalls_of_aw Tryz.func38 rfl (dc rfl) ?_
  (repeat' (first|(refine ar_isq ?_;refine zq ?_)|refine zst ?_|refine aw_drawn (id:=6) [(0,0),(1,0),(2,0),(3,0),(4,0),(5,0),(6,0),(7,0),(8,0),(9,0),(10,0)] mixed (by kernel_rfl) ?_|refine aw_drawn (id:=11) [(0,0),(1,0),(2,0),(3,0),(4,0),(5,0),(6,0),(7,0),(8,0),(9,0),(10,0),(11,0),(12,0),(13,0),(14,0)] mixed (by kernel_rfl) ?_|refine zco ?_ ?_|exact zd|(refine fun (hg:(_:Prop))=>?_;(try replace hg:=HG.out hg);(try dsimp only at hg);(try (have _h:True:=hg;clear _h hg)))))
  refine aw_for b.length (fun _=>True) (fun k=>[(0,encRows b),(1,encRows b),(5,vi k)]) (fun _=>[]) trivial ?_ ?_
  · (exact zsb [] [])
  intro k hk _
  by_cases hlt:k<b.length
  · have hl:=hlen0.2 _ (el_mem hlt)
    (repeat' (first|(refine ar_isq ?_;refine zq ?_)|refine zst ?_|refine aw_drawn (id:=6) [(0,0),(1,0),(2,0),(3,0),(4,0),(5,0),(6,0),(7,0),(8,0),(9,0),(10,0)] mixed (by kernel_rfl) ?_|refine aw_drawn (id:=11) [(0,0),(1,0),(2,0),(3,0),(4,0),(5,0),(6,0),(7,0),(8,0),(9,0),(10,0),(11,0),(12,0),(13,0),(14,0)] mixed (by kernel_rfl) ?_|refine zco ?_ ?_|exact zd|(refine fun (hg:(_:Prop))=>?_;(try replace hg:=HG.out hg);(try dsimp only at hg);(try (have _h:True:=hg;clear _h hg)))))
    refine aw_for (el b k).length (fun _=>True) (fun j=>[(0,encRows b),(1,encRows b),(5,vi k),(6,vi j)]) (fun _=>[]) trivial ?_ ?_
    · (exact zsb [] [])
    intro j hj _
    (repeat' (first|(refine ar_isq ?_;refine zq ?_)|refine zst ?_|refine aw_drawn (id:=6) [(0,0),(1,0),(2,0),(3,0),(4,0),(5,0),(6,0),(7,0),(8,0),(9,0),(10,0)] mixed (by kernel_rfl) ?_|refine aw_drawn (id:=11) [(0,0),(1,0),(2,0),(3,0),(4,0),(5,0),(6,0),(7,0),(8,0),(9,0),(10,0),(11,0),(12,0),(13,0),(14,0)] mixed (by kernel_rfl) ?_|refine zco ?_ ?_|exact zd|(refine fun (hg:(_:Prop))=>?_;(try replace hg:=HG.out hg);(try dsimp only at hg);(try (have _h:True:=hg;clear _h hg)))))
    all_goals first
      | (exfalso;omega)
      | ((first|refine loop_next (by omega) ?_ ?_|refine (show _∧_∧SubOf _ _ _ _ _ _ from And.intro (by omega) (And.intro ?_ ?_)));(focus ((exact trivial);done));(focus (exact zsb [] [])))
      | ((refine aw_ret ?_;(repeat (first|refine ret_then ?_|refine ret_block ?_));refine bq1 rfl ⟨?_,rfl⟩);rfl)
  · (repeat' (first|(refine ar_isq ?_;refine zq ?_)|refine zst ?_|refine aw_drawn (id:=6) [(0,0),(1,0),(2,0),(3,0),(4,0),(5,0),(6,0),(7,0),(8,0),(9,0),(10,0)] mixed (by kernel_rfl) ?_|refine aw_drawn (id:=11) [(0,0),(1,0),(2,0),(3,0),(4,0),(5,0),(6,0),(7,0),(8,0),(9,0),(10,0),(11,0),(12,0),(13,0),(14,0)] mixed (by kernel_rfl) ?_|refine zco ?_ ?_|exact zd|(refine fun (hg:(_:Prop))=>?_;(try replace hg:=HG.out hg);(try dsimp only at hg);(try (have _h:True:=hg;clear _h hg)))))
    all_goals first
      | (exfalso;omega)
      | ((refine aw_ret ?_;(repeat (first|refine ret_then ?_|refine ret_block ?_));refine bq1 rfl ⟨?_,rfl⟩);rfl)
theorem great_p (b:List (List Int)):PCalls Tryz.prog 18 [encRows b] (fun v=>v=vb true∨v=vb false∧b.length≤20∧∀ l,l∈b→l.length≤60):=by
  (refine pcalls_know (fun I us h=>And.intro (rel_len (rel_arg h (j:=0) rfl)) (fun l (hm:l∈_)=>rel_len (rel_el (rel_arg h (j:=0) rfl) (fun _=>rfl) hm))) fun hlen0=>?_)
  refine pcalls_of_aw Tryz.func18 rfl (dc rfl) ?_
  (repeat' (first|(refine ar_isq ?_;refine zq ?_)|refine zst ?_|refine zco ?_ ?_|exact zd|(refine fun (hg:(_:Prop))=>?_;(try replace hg:=HG.out hg);(try dsimp only at hg);(try (have _h:True:=hg;clear _h hg)))))
  · (refine aw_ret ?_;(repeat (first|refine ret_then ?_|refine ret_block ?_));refine bq1 rfl ⟨?_,rfl⟩)
    exact .inl rfl
  refine aw_for b.length (fun k=>∀ j,j<k→(el b j).length≤60) (fun k=>[(0,encRows b),(3,vi k)]) (fun _=>[]) (fun j hj=>by omega) ?_ ?_
  · (exact zsb [] [])
  intro k hk hJ
  by_cases hlt:k<b.length
  · have hl:=hlen0.2 _ (el_mem hlt)
    (repeat' (first|(refine ar_isq ?_;refine zq ?_)|refine zst ?_|refine zco ?_ ?_|exact zd|(refine fun (hg:(_:Prop))=>?_;(try replace hg:=HG.out hg);(try dsimp only at hg);(try (have _h:True:=hg;clear _h hg)))))
    all_goals first
      | (exfalso;omega)
      | ((first|refine loop_next (by omega) ?_ ?_|refine (show _∧_∧SubOf _ _ _ _ _ _ from And.intro (by omega) (And.intro ?_ ?_)));(focus ((exact all_step hJ (by omega));done));(focus (exact zsb [] [])))
      | ((refine aw_ret ?_;(repeat (first|refine ret_then ?_|refine ret_block ?_));refine bq1 rfl ⟨?_,rfl⟩);exact .inl rfl)
  · (repeat' (first|(refine ar_isq ?_;refine zq ?_)|refine zst ?_|refine zco ?_ ?_|exact zd|(refine fun (hg:(_:Prop))=>?_;(try replace hg:=HG.out hg);(try dsimp only at hg);(try (have _h:True:=hg;clear _h hg)))))
    all_goals first
      | (exfalso;omega)
      | ((refine aw_ret ?_;(repeat (first|refine ret_then ?_|refine ret_block ?_));refine bq1 rfl ⟨?_,rfl⟩);exact .inr ⟨rfl,by omega,fun l hl=>by obtain ⟨j,hj,rfl⟩:=mem_el hl;exact hJ j (by omega)⟩)
theorem pCheck_p (s:Sto):PCalls Tryz.prog 80 [s.enc] (·=vi (if Valid s then 0 else 80)):=by
  refine pcalls_of_aw Tryz.func80 rfl (dc rfl) ?_
  (repeat' (first|(refine ar_isq ?_;refine zq ?_)|((refine ar_gcall0 fn60 rfl rfl [s.enc] ⟨.closed rfl,trivial⟩ (valid_p s) (dc rfl) ?_ (fun _ _ h=>h.elim);rintro _ _ (⟨hv,rfl,rfl⟩|⟨hv,rfl,rfl⟩)<;>(try rw [stoB_ren])))|refine zst ?_|refine zco ?_ ?_|exact zd|(refine fun (hg:(_:Prop))=>?_;(try replace hg:=HG.out hg);(try dsimp only at hg);(try (have _h:True:=hg;clear _h hg)))))
  all_goals first
    | ((refine aw_ret ?_;(repeat (first|refine ret_then ?_|refine ret_block ?_));refine bq1 rfl ⟨?_,rfl⟩);rw [if_pos hv];rfl)
    | ((refine aw_ret ?_;(repeat (first|refine ret_then ?_|refine ret_block ?_));refine bq1 rfl ⟨?_,rfl⟩);rw [if_neg hv];rfl)
    | trace_state
def errV (e:Int):V:=.iface 241 (vi e)
def stoG (i j:Nat) (s:Sto):V:=.agg [vi s.life,.sl 5 i 0 s.items.length,.sl 2 j 0 s.prints.length,.map 3]
def WI (s:Sto) (m:List (Int × Int)):Heap:=[.arr 4 1 (fun _=>stoG 4 2 s),.dead,LB 2 Prt.enc s.prints,mapE vi m,LB 5 Itm.enc s.items]
def WP (s:Sto) (m:List (Int × Int)):Heap:=[.arr 4 1 (fun _=>stoG 1 4 s),LB 5 Itm.enc s.items,.dead,mapE vi m,LB 2 Prt.enc s.prints]
theorem mapE_ren {m:List (Int × Int)}{r:Nat→Nat}:(mapE vi m).ren r=mapE vi m:=by
  have e:entsE vi m=(entsE vi m).map fun p=>(p.1,p.2.ren r):=by
    unfold entsE
    rw [List.map_map]
    exact List.map_congr_left fun p _=>rfl
  exact (congrArg Blk.map e).symm
theorem join4 {H:Heap}{b0 b1 b2 b3:Blk}{L:Heap}(h:4≤H.length):joinH [0,1,2,3] [] H (b0::b1::b2::b3::L) =
    ((((H.set 0 (b0.ren (rn [0,1,2,3] H.length))).set 1 (b1.ren (rn [0,1,2,3] H.length))).set 2 (b2.ren (rn [0,1,2,3] H.length))).set 3 (b3.ren (rn [0,1,2,3] H.length)))++L.map (Blk.ren (rn [0,1,2,3] H.length)):=by
  match H,h with
  | a0::a1::a2::a3::K,_ =>
    have tail:∀ {r:Nat→Nat} {H1:Heap} (K:Heap) (k:Nat),4≤k→joinAt [0,1,2,3] [] r H1 k K=K:=fun {r H1} K=>by
      induction K with
      | nil=>intro k _;rfl
      | cons b K ih =>
        intro k hk
        simp only [joinAt]
        rw [ih (k+1) (by omega)]
        have:pickB [0,1,2,3] [] r H1 k b=b:=by
          unfold pickB
          have h0:([0,1,2,3]:List Nat).idxOf? k=none:=by
            rw [List.idxOf?_eq_none_iff]
            simp
            omega
          rw [h0]
          rfl
        rw [this]
    unfold joinH
    simp only [joinAt]
    rw [tail K _ (by omega)]
    rfl
theorem hsub4 {H:Heap}{s:Sto}{p:List (Int × Int)}(h0:H[0]?=some (.arr 4 1 (fun _=>stoV 0 s))) (h1:H[1]?=some (LB 5 Itm.enc s.items)) (h2:H[2]?=some (LB 2 Prt.enc s.prints)) (h3:H[3]?=some (mapE vi p)) :
    HSub H ([0,1,2,3].map some) (·∈([]:List Nat)) 0 (stoB 0 s p) :=
  ⟨.inl ⟨0,_,rfl,h0,fun _ _=>VSub.aggL ⟨.closed rfl,.sl rfl,.sl rfl,.map rfl,trivial⟩⟩,.inl ⟨1,_,rfl,h1,fun _ _=>.closed rfl⟩,.inl ⟨2,_,rfl,h2,fun _ _=>.closed rfl⟩,bsub_mapE rfl h3 (fun _=>rfl),trivial⟩
theorem stoB_live {s:Sto}{p:List (Int × Int)}:∀ b∈stoB 0 s p,b≠.dead:=by simp [stoB,LB,mapE]
section
variable {r:Option Nat}{m nt i d:Nat}{Q:Post}{env:Env}{H:Heap}{ops:Array Oper}{L:List Stp}{ty:TypeId}{pos:String}{after:Array Edge}{ats:Array TypeId}{x y z:Operand}
theorem refuse_p (b:Bool) (e:Int):ACalls Tryz.prog 186 [vb b,vi e] [] (fun v H=>b=false∧v=.tup []∧H=[]) (fun v _=>b=true∧v=errV e):=by
  refine acalls_of_aw Tryz.func186 rfl (dc rfl) ?_
  (repeat' (first|(refine ar_isq ?_;refine zq ?_)|refine ar_q (qs_makeInterface (ty rfl) rfl rfl) (dc rfl) ?_|refine ar_panic rfl ?_|refine zst ?_|refine zco ?_ ?_|exact zd|(refine fun (hg:(_:Prop))=>?_;(try replace hg:=HG.out hg);(try dsimp only at hg);(try (have _h:True:=hg;clear _h hg)))))
  · exact (⟨by assumption,rfl⟩:b=true∧errV e=errV e)
  · exact bq0n ⟨by assumption,rfl,rfl⟩
theorem ar_refuse {b:Bool}{e:Int}(h1:b=false→AR Tryz.prog r m nt ops Q L ((d,.tup [])::env) H) (h2:b=true→∀ H',Q (.panic (errV e)) [] H') (hx:eo env x=some (.s (.bool b))) (hy:eo env y=some (.s (.int .i64 e))) (hd:d<nt) :
    AR Tryz.prog r m nt ops Q (.l i ⟨some d,.call ⟨.value (.func 186),#[x,y],ats⟩,ty,pos,after,none⟩ false::L) env H:=by
  refine ar_gcall0 (args:=[x,y]) (vs:=[vb b,vi e]) (first:=[]) (cap:=[]) fn186 rfl (by rw [List.mapM_cons,List.mapM_cons,List.mapM_nil,hx,hy];rfl) [vb b,vi e] ⟨.closed rfl,.closed rfl,trivial⟩ (refuse_p b e) hd ?_ ?_
  · rintro _ _ ⟨hb,rfl,rfl⟩
    have:H++List.map (Blk.ren (rn [] H.length)) []=H:=by simp
    rw [this]
    exact h1 hb
  · rintro _ _ ⟨hb,rfl⟩
    exact h2 hb _
end
def hereB (s:Sto) (i:Int):Prop:=(0≤i∧i<(s.items.length:Int))∧(el s.items i.toNat).gone=false
instance (s:Sto) (i:Int):Decidable (hereB s i):=by unfold hereB;infer_instance
theorem item_p (s:Sto) (p:List (Int × Int)) (i:Int) (hn:s.items.length≤30):ACalls Tryz.prog 185 [.ptr 4 0 0 0,vi i] (stoB 0 s p) (fun v H=>hereB s i∧v=.ptr 5 1 i.toNat 0∧H=stoB 0 s p) (fun v _=>¬ hereB s i∧v=errV 6):=by
  refine acalls_of_aw Tryz.func185 rfl (dc rfl) ?_
  (repeat' (first|(refine ar_isq ?_;refine zq ?_)|refine zil (j:=i.toNat) ?_|refine zis (j:=i.toNat) ?_|refine zit (j:=i.toNat) ?_|(((refine ar_subk_l (sub_frzL (t:=13) vi ([i]) rfl rfl rfl rfl (fun _ _=>rfl) (fun _=>rfl)) ?_);refine zpv fn59 (from_p _ _ [i]) ?_))|refine ar_buildLE vi ([i]) (by exact ty rfl) (by exact rfl) (by exact ty rfl) (by exact rfl) (by exact rfl) (by exact Nat.succ_pos _) (by exact rfl) (by exact dc rfl) (by exact rfl) (by exact fun _=>⟨rfl,rfl⟩) (by exact dc rfl) ?_|(refine ar_refuse ?_ ?_ rfl rfl (dc rfl)<;>intro hrf)|refine zg ?_ ?_|refine zgu ?_|refine zst ?_|refine zco ?_ ?_|(refine fun (hg:(_:Prop))=>?_;first|exact absurd hg (by decide)|((try replace hg:=HG.out hg);(try dsimp only at hg);(try rw [fromB_one] at hg);(try rw [withinB_iff] at hg);(try rw [withinB_no] at hg);(try (have _h:True:=hg;clear _h hg));first|(exfalso;omega)|skip))))
  all_goals first
    | (exfalso;omega)
    | (exfalso;simp_all;done)
    | (intro H';refine (⟨fun h=>?_,rfl⟩:¬ hereB s i∧errV 6=errV 6);unfold hereB at h;simp_all;done)
    | (intro H';refine (⟨fun h=>?_,rfl⟩:¬ hereB s i∧errV 6=errV 6);unfold hereB at h;omega)
    | ((refine aw_mono_r (env':=[(4,.ptr 5 1 i.toNat 0)]) (H':=[.arr 4 1 (fun _=>stoV 0 s),LB 5 Itm.enc s.items,LB 2 Prt.enc s.prints,mapE vi p]) ?_ ?_;(focus (exact zsc [some 0,some 1,some 2,some 3] [])))
       refine aw_ret ?_
       exact bq1 rfl ⟨⟨by omega,by simp_all⟩,rfl,rfl⟩)
    | trace_state
theorem set_same {H:Heap}{k:Nat}{b:Blk}(h:H[k]?=some b):H.set k b=H:=by
  refine List.ext_getElem? fun i=>?_
  rw [List.getElem?_set]
  by_cases e:k=i
  · subst e
    rw [if_pos rfl,if_pos (List.getElem?_eq_some_iff.1 h).1,h]
  · rw [if_neg e]
def addS (s:Sto) (x:Itm):Sto:={ s with items:=s.items++[x] }
def setS (s:Sto) (j:Nat) (x:Itm):Sto:={ s with items:=s.items.set j x }
theorem add_p (s:Sto) (p:List (Int × Int)) (x:Itm) (hn:s.items.length≤30):ACalls Tryz.prog 184 [.ptr 4 0 0 0,x.enc] (stoB 0 s p) (fun v H=>s.items.length<30∧v=.tup []∧H=WI (addS s x) p) (fun v _=>s.items.length=30∧v=errV 9):=by
  refine acalls_of_aw Tryz.func184 rfl (dc rfl) ?_;refine aw_post ?_
  (repeat' (first|(refine ar_isq ?_;refine zq ?_)|(refine ar_refuse ?_ ?_ rfl rfl (dc rfl)<;>intro hrf<;>first|exact absurd hrf (by decide)|(try replace hrf:=HG.out hrf))|refine zst ?_|refine aw_drawn (id:=2) [(0,0),(1,0),(2,0),(3,0),(4,0),(5,0),(6,0),(7,1),(8,1),(9,0),(10,0),(11,0),(12,2)] mixed (by kernel_rfl) ?_|refine zco ?_ ?_|exact zd|(refine fun (hg:(_:Prop))=>?_;(try replace hg:=HG.out hg);(try dsimp only at hg);(try (have _h:True:=hg;clear _h hg)))))
  all_goals first
    | (exfalso;omega)
    | (intro H';exact (⟨by omega,rfl⟩:s.items.length=30∧errV 9=errV 9))
    | ((refine subq_n [] [.arr 4 1 (fun _=>stoG 4 2 (addS s x)),.dead,LB 2 Prt.enc s.prints,mapE vi p,LB 5 Itm.enc (s.items++[x])] ?_ ?_;(focus ((refine sub_to [some 0,some 1,some 2,some 3,some 6] [] rfl ?_ ?_<;>(repeat' (first|exact trivial|refine ⟨⟨_,rfl,?_⟩,?_⟩|refine vs1 ?_ ?_|refine vs2 ?_ ?_|refine vs3 ?_|refine vs4 ?_ ?_|refine ⟨.inl ⟨_,_,rfl,rfl,?_⟩,?_⟩|exact ⟨.inr ⟨rfl,rfl⟩,trivial⟩|refine ⟨.inr ⟨rfl,rfl⟩,?_⟩|(intro _ _)|exact vz1|(first|refine ⟨trivial,?_⟩|refine ⟨bsub_mapE rfl rfl (fun _=>rfl),?_⟩|exact VSub.aggL ⟨.closed rfl,slEq rfl (by simp [addS]),.sl rfl,.map rfl,trivial⟩)|exact vz2|fail)));done)))
       exact bq0n ⟨by omega,rfl,rfl⟩)
    | trace_state
section
variable {r:Option Nat}{m nt i d:Nat}{Q:Post}{env:Env}{H:Heap}{ops:Array Oper}{L:List Stp}{ty:TypeId}{pos:String}{after:Array Edge}{ats:Array TypeId}{x y z:Operand}{p:List (Int × Int)}
theorem ar_item (s:Sto) {j:Int}(hn:s.items.length≤30) (h1:hereB s j→AR Tryz.prog r m nt ops Q L ((d,.ptr 5 1 j.toNat 0)::env) H) (h2:¬ hereB s j→∀ H',Q (.panic (errV 6)) [] H') (hx:eo env x=some (.ptr 4 0 0 0)) (hy:eo env y=some (vi j))
    (b0:H[0]?=some (.arr 4 1 (fun _=>stoV 0 s))) (b1:H[1]?=some (LB 5 Itm.enc s.items)) (b2:H[2]?=some (LB 2 Prt.enc s.prints)) (b3:H[3]?=some (mapE vi p)) (hl:4≤H.length) (hd:d<nt) :
    AR Tryz.prog r m nt ops Q (.l i ⟨some d,.call ⟨.value (.func 185),#[x,y],ats⟩,ty,pos,after,none⟩ false::L) env H:=by
  refine ar_gcall (H0:=stoB 0 s p) [0,1,2,3] [] (args:=[x,y]) (vs:=[.ptr 4 0 0 0,vi j]) (first:=[]) (cap:=[]) fn185 rfl (by rw [List.mapM_cons,List.mapM_cons,List.mapM_nil,hx,hy];rfl) (xs:=[.ptr 4 0 0 0,vi j]) ⟨.ptr rfl,.closed rfl,trivial⟩ rfl (by decide) (fun _ h=>by cases h) (hsub4 b0 b1 b2 b3) stoB_live (item_p s p j hn) hd ?_ ?_
  · rintro _ _ ⟨hh,rfl,rfl⟩
    rw [show stoB 0 s p=[.arr 4 1 (fun _=>stoV 0 s),LB 5 Itm.enc s.items,LB 2 Prt.enc s.prints,mapE vi p] from rfl,join4 hl,mapE_ren]
    have e0:H.set 0 ((Blk.arr 4 1 (fun _=>stoV 0 s)).ren (rn [0,1,2,3] H.length))=H:=set_same b0
    have e1:H.set 1 ((LB 5 Itm.enc s.items).ren (rn [0,1,2,3] H.length))=H:=set_same b1
    have e2:H.set 2 ((LB 2 Prt.enc s.prints).ren (rn [0,1,2,3] H.length))=H:=set_same b2
    rw [e0,e1,e2,set_same b3,List.map_nil,List.append_nil]
    exact h1 hh
  · rintro _ _ ⟨hh,rfl⟩
    exact h2 hh _
theorem ar_add (s:Sto) (w:Itm) (hn:s.items.length≤30) (h1:s.items.length<30→AR Tryz.prog r m nt ops Q L ((d,.tup [])::env) (((H.set 0 (.arr 4 1 (fun _=>stoG H.length 2 (addS s w)))).set 1 .dead)++[LB 5 Itm.enc (s.items++[w])])) (h2:s.items.length=30→∀ H',Q (.panic (errV 9)) [] H') (hx:eo env x=some (.ptr 4 0 0 0)) (hy:eo env y=some w.enc)
    (b0:H[0]?=some (.arr 4 1 (fun _=>stoV 0 s))) (b1:H[1]?=some (LB 5 Itm.enc s.items)) (b2:H[2]?=some (LB 2 Prt.enc s.prints)) (b3:H[3]?=some (mapE vi p)) (hl:4≤H.length) (hd:d<nt) :
    AR Tryz.prog r m nt ops Q (.l i ⟨some d,.call ⟨.value (.func 184),#[x,y],ats⟩,ty,pos,after,none⟩ false::L) env H:=by
  refine ar_gcall (H0:=stoB 0 s p) [0,1,2,3] [] (args:=[x,y]) (vs:=[.ptr 4 0 0 0,w.enc]) (first:=[]) (cap:=[]) fn184 rfl (by rw [List.mapM_cons,List.mapM_cons,List.mapM_nil,hx,hy];rfl) (xs:=[.ptr 4 0 0 0,w.enc]) ⟨.ptr rfl,.closed rfl,trivial⟩ rfl (by decide) (fun _ h=>by cases h) (hsub4 b0 b1 b2 b3) stoB_live (add_p s p w hn) hd ?_ ?_
  · rintro _ _ ⟨hh,rfl,rfl⟩
    unfold WI
    rw [join4 hl,mapE_ren]
    have e2:((H.set 0 ((Blk.arr 4 1 (fun _=>stoG 4 2 (addS s w))).ren (rn [0,1,2,3] H.length))).set 1 ((Blk.dead).ren (rn [0,1,2,3] H.length))).set 2 ((LB 2 Prt.enc (addS s w).prints).ren (rn [0,1,2,3] H.length))=(H.set 0 (.arr 4 1 (fun _=>stoG H.length 2 (addS s w)))).set 1 .dead:=set_same (by rw [List.getElem?_set_ne (by decide),List.getElem?_set_ne (by decide)];exact b2)
    rw [e2,set_same (by rw [List.getElem?_set_ne (by decide),List.getElem?_set_ne (by decide)];exact b3)]
    exact h1 hh
  · rintro _ _ ⟨hh,rfl⟩
    exact h2 hh _
end
def newDie:Itm:=⟨1,-1,0,0,false⟩
def engrE (s:Sto):Int:=if s.items.length=30 then 9 else 0
def made1 (x:Itm) (i:Int):Itm:=⟨x.kind+1,i,1,0,false⟩
def transE (s:Sto) (i:Int):Int:=if hereB s i then (if (el s.items i.toNat).kind=3∨(el s.items i.toNat).place≠1 then 2 else if (el s.items i.toNat).uses=10 then 81 else if s.items.length=30 then 9 else 0) else 6
def used1 (x:Itm) (n:Int):Itm:={ x with uses:=x.uses+n }
def transF (s:Sto) (i:Int):Sto:=addS (setS s i.toNat (used1 (el s.items i.toNat) 1)) (made1 (el s.items i.toNat) i)
def gone1 (x:Itm):Itm:={ x with gone:=true }
def destE (s:Sto) (i:Int):Int:=if hereB s i then (if (el s.items i.toNat).place≠0 then 2 else 0) else 6
def destF (s:Sto) (i:Int):Sto:=setS s i.toNat (gone1 (el s.items i.toNat))
theorem upd_enc {l:List Itm}{j:Nat}(hj:j<l.length) {x:Itm}{v:V}(hv:v=x.enc) (i:Nat):upd (fun i=>(el l i).enc) j v i=(el (l.set j x) i).enc:=by
  by_cases e:i=j
  · subst e
    rw [upd_same,hv]
    simp [el,hj]
  · rw [upd_other e]
    simp [el,List.getElem?_set_ne (Ne.symm e)]
theorem bsub_set {H:Heap}{σ:List (Option Nat)}{fr:Nat→Prop}{k b j:Nat}{l:List Itm}(x:Itm) {v:V}(h:σ[k]?=some (some b)) (hj:j<l.length) (hb:H[b]?=some (.arr 5 l.length (upd (fun i=>(el l i).enc) j v))) (hv:v=x.enc):BSub H σ fr k (LB 5 Itm.enc (l.set j x)):=by
  refine .inl ⟨b,_,h,?_,fun i _=>.of_eq (upd_enc hj hv i) rfl⟩
  rw [hb,List.length_set]
theorem engrave_p (s:Sto) (p:List (Int × Int)) (a:Deed) (hn:s.items.length≤30):ACalls Tryz.prog 177 [.ptr 4 0 0 0,a.enc] (stoB 0 s p) (fun v H=>engrE s=0∧v=.tup []∧H=WI (addS s newDie) p) (fun v _=>engrE s≠0∧v=errV (engrE s)):=by
  refine acalls_of_aw Tryz.func177 rfl (dc rfl) ?_;refine aw_post ?_
  (repeat' (first|(refine ar_isq ?_;refine zq ?_)|(refine zbt ?_)|(refine ar_add s newDie hn ?_ ?_ rfl rfl rfl rfl rfl rfl (dc rfl) (dc rfl)<;>intro hrf)|refine zst ?_|refine zco ?_ ?_|exact zd|(refine fun (hg:(_:Prop))=>?_;(try replace hg:=HG.out hg);(try dsimp only at hg);(try (have _h:True:=hg;clear _h hg)))))
  · (refine subq_n [] [.arr 4 1 (fun _=>stoG 4 2 (addS s newDie)),.dead,LB 2 Prt.enc s.prints,mapE vi p,LB 5 Itm.enc (s.items++[newDie])] ?_ ?_;(focus (exact zsc [some 0,some 1,some 2,some 3,some 5] [])))
    exact bq0n ⟨by unfold engrE;rw [if_neg (by omega)],rfl,rfl⟩
  · intro H'
    have e:engrE s=9:=by unfold engrE;rw [if_pos hrf]
    refine (?_:engrE s≠0∧errV 9=errV (engrE s))
    rw [e]
    exact ⟨by decide,rfl⟩
theorem destroy_p (s:Sto) (p:List (Int × Int)) (a:Deed) (hn:s.items.length≤30):ACalls Tryz.prog 183 [.ptr 4 0 0 0,a.enc] (stoB 0 s p) (fun v H=>destE s a.item=0∧v=.tup []∧H=stoB 0 (destF s a.item) p) (fun v _=>destE s a.item≠0∧v=errV (destE s a.item)):=by
  have bad:∀ e:Int,destE s a.item=e→e≠0→∀ H':Heap,destE s a.item≠0∧errV e=errV (destE s a.item):=fun e h h0 _=>by rw [h];exact ⟨h0,rfl⟩
  by_cases hh:hereB s a.item
  · have hlt:a.item.toNat<s.items.length:=by unfold hereB at hh;omega
    refine acalls_of_aw Tryz.func183 rfl (dc rfl) ?_;refine aw_post ?_
    (repeat' (first|(refine ar_isq ?_;refine zq ?_)|(refine ar_item s hn ?_ ?_ rfl rfl rfl rfl rfl rfl (dc rfl) (dc rfl)<;>intro hrf)|(refine ar_refuse ?_ ?_ rfl rfl (dc rfl)<;>intro hrf<;>first|exact absurd hrf (by decide)|(try replace hrf:=HG.out hrf))|refine zst ?_|refine zco ?_ ?_|exact zd|(refine fun (hg:(_:Prop))=>?_;(try replace hg:=HG.out hg);(try dsimp only at hg);(try (have _h:True:=hg;clear _h hg)))))
    all_goals first
      | (exact absurd hh (by assumption))
      | exact bad 2 (by unfold destE;rw [if_pos hh,if_pos (by omega)]) (by decide)
      | ((refine subq_n [] [.arr 4 1 (fun _=>stoV 0 (destF s a.item)),LB 5 Itm.enc (s.items.set a.item.toNat (gone1 (el s.items a.item.toNat))),LB 2 Prt.enc s.prints,mapE vi p] ?_ ?_;(focus ((refine sub_to [some 0,some 1,some 2,some 3] [] rfl ?_ ?_<;>(repeat' (first|exact trivial|refine ⟨⟨_,rfl,?_⟩,?_⟩|refine vs1 ?_ ?_|refine vs2 ?_ ?_|refine vs3 ?_|refine vs4 ?_ ?_|refine ⟨.inl ⟨_,_,rfl,rfl,?_⟩,?_⟩|exact ⟨.inr ⟨rfl,rfl⟩,trivial⟩|refine ⟨.inr ⟨rfl,rfl⟩,?_⟩|(intro _ _)|exact vz1|(first|refine ⟨bsub_set (gone1 (el s.items a.item.toNat)) rfl hlt rfl rfl,?_⟩|refine ⟨bsub_mapE rfl rfl (fun _=>rfl),?_⟩|exact VSub.aggL ⟨.closed rfl,slEq rfl (by simp [destF,setS]),.sl rfl,.map rfl,trivial⟩)|exact vz2|fail)));done)))
         exact bq0n ⟨by unfold destE;rw [if_pos hh,if_neg (by omega)],rfl,rfl⟩)
      | trace_state
  · refine acalls_of_aw Tryz.func183 rfl (dc rfl) ?_
    (repeat' (first|(refine ar_isq ?_;refine zq ?_)|(refine ar_item s hn ?_ ?_ rfl rfl rfl rfl rfl rfl (dc rfl) (dc rfl)<;>intro hrf<;>(try exact absurd hrf hh))|refine zst ?_|refine zco ?_ ?_|exact zd|(refine fun (hg:(_:Prop))=>?_;(try replace hg:=HG.out hg);(try dsimp only at hg);(try (have _h:True:=hg;clear _h hg)))))
    all_goals exact bad 6 (by unfold destE;rw [if_neg hh]) (by decide)
theorem transfer_p (s:Sto) (p:List (Int × Int)) (a:Deed) (hV:Valid s):ACalls Tryz.prog 178 [.ptr 4 0 0 0,a.enc] (stoB 0 s p) (fun v H=>transE s a.item=0∧v=.tup []∧H=WI (transF s a.item) p) (fun v _=>transE s a.item≠0∧v=errV (transE s a.item)):=by
  have hfew:=hV.1
  unfold Few at hfew
  have hn:=hfew.2.1
  have bad:∀ e:Int,transE s a.item=e→e≠0→∀ H':Heap,transE s a.item≠0∧errV e=errV (transE s a.item):=fun e h h0 _=>by rw [h];exact ⟨h0,rfl⟩
  by_cases hh:hereB s a.item
  · have hlt:a.item.toNat<s.items.length:=by unfold hereB at hh;omega
    have h0:=hh.1
    have hm:=hV.2.1 a.item.toNat hlt
    unfold Made at hm
    have hu:=hV.2.2.2.2 a.item.toNat hlt
    have hul:=usedI_bnd s.items a.item.toNat s.items.length
    have hup:=usedP_bnd s.prints a.item.toNat s.prints.length
    have hu1:=hu.1
    unfold usedS at hu1
    have hel:el (s.items++[made1 (el s.items a.item.toNat) a.item]) a.item.toNat=el s.items a.item.toNat:=el_app_lt hlt
    have hj2:a.item.toNat<(s.items++[made1 (el s.items a.item.toNat) a.item]).length:=by rw [List.length_append];omega
    have hue:(el (s.items++[made1 (el s.items a.item.toNat) a.item]) a.item.toNat).uses=(el s.items a.item.toNat).uses:=by rw [hel]
    have hal:(addS s (made1 (el s.items a.item.toNat) a.item)).items.length=s.items.length+1:=by simp [addS]
    have hset:(s.items++[made1 (el s.items a.item.toNat) a.item]).set a.item.toNat (used1 (el s.items a.item.toNat) 1)=(transF s a.item).items:=List.set_append_left _ _ hlt
    refine acalls_of_aw Tryz.func178 rfl (dc rfl) ?_;refine aw_post ?_
    (repeat' (first|(refine ar_isq ?_;refine zq ?_)|refine zil (j:=a.item.toNat) ?_|refine zis (j:=a.item.toNat) ?_|refine zit (j:=a.item.toNat) ?_|(refine zbt ?_)|(refine ar_item s hn ?_ ?_ rfl rfl rfl rfl rfl rfl (dc rfl) (dc rfl)<;>intro hrf)|(refine ar_refuse ?_ ?_ rfl rfl (dc rfl)<;>intro hrf<;>first|exact absurd hrf (by decide)|(try replace hrf:=HG.out hrf))|(refine ar_add s (made1 (el s.items a.item.toNat) a.item) hn ?_ ?_ rfl rfl rfl rfl rfl rfl (dc rfl) (dc rfl)<;>intro hrf)|refine zg ?_ ?_|refine zgu ?_|refine zst ?_|refine aw_drawn (id:=4) [(0,0),(1,0),(2,0),(3,0),(4,0),(5,0),(6,0),(7,0),(8,0),(9,2)] mixed (by kernel_rfl) ?_|refine aw_drawn (id:=4) [(0,0),(1,0),(2,0),(3,0),(4,0),(5,0),(6,0),(7,0),(8,0),(9,1)] mixed (by kernel_rfl) ?_|refine aw_drawn (id:=5) [(0,0),(1,0),(2,0),(3,0),(4,0),(5,0),(6,0),(7,0),(8,0),(9,0),(10,0),(11,0),(12,0),(13,2)] mixed (by kernel_rfl) ?_|refine zco ?_ ?_|exact zd|(refine fun (hg:(_:Prop))=>?_;(try replace hg:=HG.out hg);(try dsimp only at hg);(try (have _h:True:=hg;clear _h hg)))))
    all_goals first
      | (exact absurd hh (by assumption))
      | exact bad 2 (by unfold transE;rw [if_pos hh,if_pos (by omega)]) (by decide)
      | exact bad 81 (by unfold transE;rw [if_pos hh,if_neg (by omega),if_pos (by omega)]) (by decide)
      | exact bad 9 (by unfold transE;rw [if_pos hh,if_neg (by omega),if_neg (by omega),if_pos (by omega)]) (by decide)
      | ((refine subq_n [] [.arr 4 1 (fun _=>stoG 4 2 (transF s a.item)),.dead,LB 2 Prt.enc s.prints,mapE vi p,LB 5 Itm.enc ((s.items++[made1 (el s.items a.item.toNat) a.item]).set a.item.toNat (used1 (el s.items a.item.toNat) 1))] ?_ ?_;(focus ((refine sub_to [some 0,some 1,some 2,some 3,some 5] [] rfl ?_ ?_<;>(repeat' (first|exact trivial|refine ⟨⟨_,rfl,?_⟩,?_⟩|refine vs1 ?_ ?_|refine vs2 ?_ ?_|refine vs3 ?_|refine vs4 ?_ ?_|refine ⟨.inl ⟨_,_,rfl,rfl,?_⟩,?_⟩|exact ⟨.inr ⟨rfl,rfl⟩,trivial⟩|refine ⟨.inr ⟨rfl,rfl⟩,?_⟩|(intro _ _)|exact vz1|(first|refine ⟨trivial,?_⟩|refine ⟨bsub_set (used1 (el s.items a.item.toNat) 1) rfl (by simp;omega) rfl (by rw [hel];rfl),?_⟩|refine ⟨bsub_mapE rfl rfl (fun _=>rfl),?_⟩|exact VSub.aggL ⟨.closed rfl,slEq rfl (by simp [addS,transF,setS]),.sl rfl,.map rfl,trivial⟩)|exact vz2|fail)));done)))
         exact bq0n ⟨by unfold transE;rw [if_pos hh,if_neg (by omega),if_neg (by omega),if_neg (by omega)],rfl,by rw [hset];rfl⟩)
      | trace_state
  · refine acalls_of_aw Tryz.func178 rfl (dc rfl) ?_
    (repeat' (first|(refine ar_isq ?_;refine zq ?_)|(refine zbt ?_)|(refine ar_item s hn ?_ ?_ rfl rfl rfl rfl rfl rfl (dc rfl) (dc rfl)<;>intro hrf<;>(try exact absurd hrf hh))|refine zg ?_ ?_|refine zgu ?_|refine zst ?_|refine aw_drawn (id:=4) [(0,0),(1,0),(2,0),(3,0),(4,0),(5,0),(6,0),(7,0),(8,0),(9,1)] mixed (by kernel_rfl) ?_|refine aw_drawn (id:=4) [(0,0),(1,0),(2,0),(3,0),(4,0),(5,0),(6,0),(7,0),(8,0),(9,2)] mixed (by kernel_rfl) ?_|refine aw_drawn (id:=5) [(0,0),(1,0),(2,0),(3,0),(4,0),(5,0),(6,0),(7,0),(8,0),(9,0),(10,0),(11,0),(12,0),(13,2)] mixed (by kernel_rfl) ?_|refine zco ?_ ?_|exact zd|(refine fun (hg:(_:Prop))=>?_;(try replace hg:=HG.out hg);(try dsimp only at hg);(try (have _h:True:=hg;clear _h hg)))))
    all_goals exact bad 6 (by unfold transE;rw [if_neg hh]) (by decide)
def repP (q:Prt) (m j:Nat):V:=bif Nat.blt j m then q.enc else Prt.enc ⟨0,0⟩
theorem repP_in {q:Prt}{m j:Nat}(h:j<m):repP q m j=q.enc:=by
  have:Nat.blt j m=true:=by rw [Nat.blt_eq];exact h
  simp [repP,this]
theorem repP_out {q:Prt}{m j:Nat}(h:m≤j):repP q m j=Prt.enc ⟨0,0⟩:=by
  have:Nat.blt j m=false:=by cases e:Nat.blt j m with|false=>rfl|true=>rw [Nat.blt_eq] at e;omega
  simp [repP,this]
theorem repP_closed (q:Prt) (m j:Nat):(repP q m j).closed=true:=by
  by_cases h:j<m
  · rw [repP_in h];rfl
  · rw [repP_out (by omega)];rfl
theorem repP_one (q:Prt) (m j:Nat):(repP q m j).cells.all V.one=true:=by
  by_cases h:j<m
  · rw [repP_in h];rfl
  · rw [repP_out (by omega)];rfl
theorem copy_repP0 (q:Prt) (c i:Nat) (hc:c≤1):copyF (fun _=>Prt.enc ⟨0,0⟩) 0 c (fun j=>(el [q] j).enc) i=repP q c i:=by
  by_cases h:i<c
  · rw [copyF_in (Nat.zero_le _) (by omega),repP_in h,show i-0=0 by omega]
    rfl
  · rw [copyF_out (by omega),repP_out (by omega)]
theorem copy_repP {q:Prt}{m c:Nat}(hc:c≤m) (i:Nat):copyF (repP q m) m c (fun j=>repP q m (0+j)) i=repP q (m+c) i:=by
  by_cases h:i<m
  · rw [copyF_out (by omega),repP_in h,repP_in (by omega)]
  · by_cases h2:i<m+c
    · rw [copyF_in (by omega) h2,Nat.zero_add,repP_in (by omega),repP_in h2]
    · rw [copyF_out (by omega),repP_out (by omega),repP_out (by omega)]
theorem repeatP_p (q:Prt) (n:Nat) (hn:n≤1000):PCalls Tryz.prog 187 [encPrints [q],vi n] (·=encPrints (List.replicate n q)):=by
  have h1:[q].length=1:=rfl
  have hT':(0:Int)≤([q].length:Int)*(n:Int)∧([q].length:Int)*(n:Int)≤100000:=by rw [← Int.natCast_mul,h1];omega
  refine pcalls_of_aw Tryz.func187 rfl (dc rfl) ?_
  (repeat' (first|(refine ar_isq ?_;refine zq ?_)|(refine ar_pcall (own:=false) fn111 rfl rfl (.cons (.closed rfl) (.cons (.closed rfl) .nil)) (mul_p _ _ (by omega) (by omega) (by omega)) (by simp) (dc rfl) ?_;intro _ hv;subst hv)|(refine ar_make_v (n:=n) (ty rfl) rfl (ty rfl) rfl rfl (by rw [h1];omega) (by rw [h1];omega) (dc rfl) rfl rfl (by dsimp only;omega) (maxLen_ok (by omega)) ?_)|refine ar_copyN (ty rfl) rfl (ty rfl) rfl rfl rfl (by omega) rfl (.inl rfl) (fun _ _=>rfl) (dc rfl) ?_|refine zcl ?_|refine zcs ?_|refine zcpl ?_|refine zcpo ?_|refine zg ?_ ?_|refine zgu ?_|refine zst ?_|refine aw_drawn (id:=9) [(0,0),(1,0),(2,0),(3,0),(4,0),(5,0),(6,0),(7,2),(8,0),(9,0)] mixed (by kernel_rfl) ?_|refine zco ?_ ?_|exact zd|(refine fun (hg:(_:Prop))=>?_;(try replace hg:=HG.out hg);(try dsimp only at hg);(try (have _h:True:=hg;clear _h hg)))))
  all_goals (try (exfalso;omega))
  have hfl:=fillN_le 1 n
  refine aw_for n (fun _=>True) (fun k=>[(7,.sl 2 0 0 n),(8,vi (fillN 1 n k))]) (fun k=>[.arr 2 n (repP q (fillN 1 n k))]) trivial ?_ ?_
  · (refine sub_to [some 0] [] rfl ?_ ?_<;>(repeat' (first|exact trivial|refine ⟨⟨_,rfl,?_⟩,?_⟩|refine vs1 ?_ ?_|refine vs2 ?_ ?_|refine vs3 ?_|refine vs4 ?_ ?_|refine ⟨.inl ⟨_,_,rfl,rfl,?_⟩,?_⟩|exact ⟨.inr ⟨rfl,rfl⟩,trivial⟩|refine ⟨.inr ⟨rfl,rfl⟩,?_⟩|(intro _ _)|exact vz1|(first|exact siEq (by simp [fillN];omega)|exact VSub.of_eq ((copy_repP0 q _ _ (Nat.min_le_left _ _)).trans (by simp [fillN])) (repP_closed _ _ _))|exact vz2|fail)))
  intro k hk _
  have hf:=hfl k
  by_cases hlt:fillN 1 n k<n
  · obtain ⟨hd,hkf⟩:=fillN_mod [true] n (by decide) k hlt
    have hmin:(fillN 1 n k-0).min (n-fillN 1 n k)≤n-fillN 1 n k:=Nat.min_le_right _ _
    have hkf:k<fillN 1 n k:=hkf
    (repeat' (first|(refine ar_isq ?_;refine zq ?_)|refine ar_copyN (ty rfl) rfl (ty rfl) rfl rfl rfl (by omega) rfl (.inr (.inl ⟨_,_,_,_,rfl,rfl,(by omega),rfl⟩)) (fun _ _=>repP_one _ _ _) (dc rfl) ?_|refine zcl (a:=fillN 1 n k) (b:=n) ?_|refine zcs (a:=fillN 1 n k) (b:=n) ?_|refine zcl (a:=0) (b:=fillN 1 n k) ?_|refine zcs (a:=0) (b:=fillN 1 n k) ?_|refine zcpl ?_|refine zcpo ?_|refine zg ?_ ?_|refine zgu ?_|refine zst ?_|refine aw_drawn (id:=9) [(0,0),(1,0),(2,0),(3,0),(4,0),(5,0),(6,0),(7,2),(8,0),(9,0)] mixed (by kernel_rfl) ?_|refine zco ?_ ?_|exact zd|(refine fun (hg:(_:Prop))=>?_;(try replace hg:=HG.out hg);(try dsimp only at hg);(try (have _h:True:=hg;clear _h hg)))))
    all_goals first
      | (exfalso;omega)
      | ((first|refine loop_next (by omega) ?_ ?_|refine (show _∧_∧SubOf _ _ _ _ _ _ from And.intro (by omega) (And.intro ?_ ?_)));(focus ((trivial);done));(focus ((refine sub_to [some 0] [] rfl ?_ ?_<;>(repeat' (first|exact trivial|refine ⟨⟨_,rfl,?_⟩,?_⟩|refine vs1 ?_ ?_|refine vs2 ?_ ?_|refine vs3 ?_|refine vs4 ?_ ?_|refine ⟨.inl ⟨_,_,rfl,rfl,?_⟩,?_⟩|exact ⟨.inr ⟨rfl,rfl⟩,trivial⟩|refine ⟨.inr ⟨rfl,rfl⟩,?_⟩|(intro _ _)|exact vz1|(first|exact siEq (by simp [fillN];omega)|exact VSub.of_eq (by have:=copy_repP (q:=q) (c:=min (fillN 1 n k) (n-fillN 1 n k)) (Nat.min_le_left (fillN 1 n k) _);simp only [Nat.zero_add,Nat.add_zero,Nat.sub_zero,fillN] at this ⊢;exact this _) (repP_closed _ _ _))|exact vz2|fail)));done)))
      | trace_state
  · (repeat' (first|(refine ar_isq ?_;refine zq ?_)|refine zcl ?_|refine zcs ?_|refine zcpl ?_|refine zcpo ?_|refine zg ?_ ?_|refine zgu ?_|refine zst ?_|refine aw_drawn (id:=9) [(0,0),(1,0),(2,0),(3,0),(4,0),(5,0),(6,0),(7,2),(8,0),(9,0)] mixed (by kernel_rfl) ?_|refine zco ?_ ?_|exact zd|(refine fun (hg:(_:Prop))=>?_;(try replace hg:=HG.out hg);(try dsimp only at hg);(try (have _h:True:=hg;clear _h hg)))))
    all_goals first
      | (exfalso;omega)
      | ((refine aw_mono_r (env':=[(4,encPrints (List.replicate n q))]) (H':=[]) ?_ ?_;(focus ((refine sub_to [] [0] rfl ?_ ?_<;>(repeat' (first|exact trivial|refine ⟨⟨_,rfl,?_⟩,?_⟩|refine vs1 ?_ ?_|refine vs2 ?_ ?_|refine vs3 ?_|refine vs4 ?_ ?_|refine ⟨.inl ⟨_,_,rfl,rfl,?_⟩,?_⟩|exact ⟨.inr ⟨rfl,rfl⟩,trivial⟩|refine ⟨.inr ⟨rfl,rfl⟩,?_⟩|(intro _ _)|exact vz1|(exact frz_as (by simp) rfl rfl (by simp) (fun i hi=>by rw [el_replicate hi,repP_in (by omega)]) (fun _=>rfl))|exact vz2|fail)));done)));(refine aw_ret ?_;(repeat (first|refine ret_then ?_|refine ret_block ?_));refine bq1 rfl ⟨?_,rfl⟩);rfl)
      | trace_state
def idxP (p:Prt→Bool) (l:List Prt):Int:=match (List.range l.length).find? (fun i=>p (el l i)) with|some i=>(i:Int)|none=>-1
theorem idxP_at {p:Prt→Bool}{l:List Prt}{i:Nat}(hi:i<l.length) (h0:∀ j,j<i→p (el l j)=false) (h:p (el l i)=true):idxP p l=i:=by
  have:(List.range l.length).find? (fun i=>p (el l i))=some i:=by
    rw [List.find?_range_eq_some]
    exact ⟨h,by simpa using hi,fun j hj=>by simp [h0 j hj]⟩
  unfold idxP
  rw [this]
theorem idxP_none {p:Prt→Bool}{l:List Prt}(h0:∀ j,j<l.length→p (el l j)=false):idxP p l=-1:=by
  have:(List.range l.length).find? (fun i=>p (el l i))=none:=by
    rw [List.find?_eq_none]
    intro j hj
    rw [List.mem_range] at hj
    simp [h0 j hj]
  unfold idxP
  rw [this]
theorem idxP_any (p:Prt→Bool) (l:List Prt):decide (0≤idxP p l)=l.any p:=by
  cases h:l.any p
  · rw [List.any_eq_false] at h
    rw [idxP_none fun j hj=>by simpa using h _ (el_mem hj)]
    rfl
  · rw [List.any_eq_true] at h
    obtain ⟨x,hx,hp⟩:=h
    obtain ⟨i,hi,rfl⟩:=mem_el hx
    unfold idxP
    split
    · simp
    · rename_i h0
      rw [List.find?_eq_none] at h0
      have:=h0 i (by simpa using hi)
      simp [hp] at this
def spentB (x:Prt):Bool:=!decide (x.state=0)
theorem spent1_p (x:Prt):PCalls Tryz.prog 190 [x.enc] (·=vb (spentB x)):=by
  refine pcalls_of_aw Tryz.func190 rfl (dc rfl) ?_
  (repeat' (first|(refine ar_isq ?_;refine zq ?_)|refine zst ?_|refine zco ?_ ?_|exact zd|(refine fun (hg:(_:Prop))=>?_;(try replace hg:=HG.out hg);(try dsimp only at hg);(try (have _h:True:=hg;clear _h hg)))))
  (refine aw_ret ?_;(repeat (first|refine ret_then ?_|refine ret_block ?_));refine bq1 rfl ⟨?_,rfl⟩)
  rfl
theorem indexP_p (l:List Prt):PCalls Tryz.prog 191 [encPrints l,.fn (.func 190) [] []] (·=vi (idxP spentB l)):=by
  (refine pcalls_know (fun I us h=>rel_len (rel_arg h (j:=0) rfl)) fun hlen0=>?_)
  refine pcalls_of_aw Tryz.func191 rfl (dc rfl) ?_
  (repeat' (first|(refine ar_isq ?_;refine zq ?_)|refine zst ?_|refine zco ?_ ?_|exact zd|(refine fun (hg:(_:Prop))=>?_;(try replace hg:=HG.out hg);(try dsimp only at hg);(try (have _h:True:=hg;clear _h hg)))))
  refine aw_for l.length (fun k=>∀ j,j<k→spentB (el l j)=false) (fun k=>[(0,encPrints l),(1,.fn (.func 190) [] []),(7,vi l.length),(8,vi k)]) (fun _=>[]) (fun j hj=>by omega) ?_ ?_
  · (exact zsb [] [])
  intro k hk hJ
  by_cases hkn:k<l.length
  · (repeat' (first|(refine ar_isq ?_;refine zq ?_)|refine zil (j:=k) ?_|refine zis (j:=k) ?_|refine zit (j:=k) ?_|(refine zpv fn190 (spent1_p (el l k)) ?_)|refine zst ?_|refine zco ?_ ?_|exact zd|(refine fun (hg:(_:Prop))=>?_;(try replace hg:=HG.out hg);(try dsimp only at hg);(try (have _h:True:=hg;clear _h hg)))))
    all_goals first
      | (exfalso;omega)
      | ((first|refine loop_next (by omega) ?_ ?_|refine (show _∧_∧SubOf _ _ _ _ _ _ from And.intro (by omega) (And.intro ?_ ?_)));(focus ((exact all_step hJ (by assumption));done));(focus (exact zsb [] [])))
      | ((refine aw_ret ?_;(repeat (first|refine ret_then ?_|refine ret_block ?_));refine bq1 rfl ⟨?_,rfl⟩);rw [idxP_at hkn hJ (by assumption)];try rfl)
      | trace_state
  · (repeat' (first|(refine ar_isq ?_;refine zq ?_)|refine zst ?_|refine zco ?_ ?_|exact zd|(refine fun (hg:(_:Prop))=>?_;(try replace hg:=HG.out hg);(try dsimp only at hg);(try (have _h:True:=hg;clear _h hg)))))
    all_goals first
      | (exfalso;omega)
      | ((refine aw_ret ?_;(repeat (first|refine ret_then ?_|refine ret_block ?_));refine bq1 rfl ⟨?_,rfl⟩);rw [idxP_none (fun j hj=>hJ j (by omega))];try rfl)
theorem containsP_p (l:List Prt):PCalls Tryz.prog 189 [encPrints l,.fn (.func 190) [] []] (·=vb (l.any spentB)):=by
  refine pcalls_of_aw Tryz.func189 rfl (dc rfl) ?_
  (repeat' (first|(refine ar_isq ?_;refine zq ?_)|(refine zpv fn191 (indexP_p l) ?_)|refine zst ?_|refine zco ?_ ?_|exact zd|(refine fun (hg:(_:Prop))=>?_;(try replace hg:=HG.out hg);(try dsimp only at hg);(try (have _h:True:=hg;clear _h hg)))))
  (refine aw_ret ?_;(repeat (first|refine ret_then ?_|refine ret_block ?_));refine bq1 rfl ⟨?_,rfl⟩)
  rw [← idxP_any]
  rfl
def takenB (s:Sto) (i dest:Int):Prop:=2≤dest∧¬ ∀ k,k<s.items.length→k≠i.toNat→(el s.items k).place≠dest
instance (s:Sto) (i dest:Int):Decidable (takenB s i dest):=by unfold takenB;infer_instance
def moveE (s:Sto) (i dest:Int):Int:=if hereB s i then (if ¬ (0≤dest∧dest≤9)∨(2≤dest∧(el s.items i.toNat).kind≠3) then 2 else if takenB s i dest then 82 else 0) else 6
def place1 (x:Itm) (dest:Int):Itm:={ x with place:=dest }
def moveF (s:Sto) (i dest:Int):Sto:=setS s i.toNat (place1 (el s.items i.toNat) dest)
def moveP (p:List (Int × Int)) (x:Itm) (i dest:Int):List (Int × Int):=if 2≤dest then putE (delE p x.place) dest i else delE p x.place
theorem move_p (s:Sto) (p:List (Int × Int)) (a:Deed) (hV:Valid s) (hP:PressOk s.items p):ACalls Tryz.prog 179 [.ptr 4 0 0 0,a.enc] (stoB 0 s p)
    (fun v H=>moveE s a.item a.dest=0∧v=.tup []∧H=stoB 0 (moveF s a.item a.dest) (moveP p (el s.items a.item.toNat) a.item a.dest)) (fun v _=>moveE s a.item a.dest≠0∧v=errV (moveE s a.item a.dest)):=by
  have hfew:=hV.1
  unfold Few at hfew
  have hn:=hfew.2.1
  have bad:∀ e:Int,moveE s a.item a.dest=e→e≠0→∀ H':Heap,moveE s a.item a.dest≠0∧errV e=errV (moveE s a.item a.dest):=fun e h h0 _=>by rw [h];exact ⟨h0,rfl⟩
  by_cases hh:hereB s a.item
  · have hlt:a.item.toNat<s.items.length:=by unfold hereB at hh;omega
    have h0:=hh.1
    have hpl:=hV.2.2.1 a.item.toNat hlt
    have taken:∀ v,getE p a.dest=some v→¬ v=a.item→takenB s a.item a.dest:=fun v hv hne=>by
      obtain ⟨q1,q2,q3,q4⟩:=(hP.iff _ _).1 hv
      exact ⟨q1,fun h=>h v.toNat (by omega) (by omega) q4⟩
    have free1:∀ v,getE p a.dest=some v→v=a.item→¬ takenB s a.item a.dest:=fun v hv he ht=>by
      obtain ⟨q1,q2,q3,q4⟩:=(hP.iff _ _).1 hv
      subst he
      exact ht.2 fun k hk hne hpk=>(hpl.2.2 (by omega)).2 k hk hne (by omega)
    have free2:getE p a.dest=none→¬ takenB s a.item a.dest:=fun hv ht=>by
      refine ht.2 fun k hk hne hpk=>?_
      have:=(hP.iff a.dest k).2 ⟨ht.1,by omega,by omega,by rw [Int.toNat_natCast];exact hpk⟩
      rw [hv] at this
      cases this
    have e2:¬ (0≤a.dest∧a.dest≤9)∨(2≤a.dest∧(el s.items a.item.toNat).kind≠3)→moveE s a.item a.dest=2:=fun h=>by unfold moveE;rw [if_pos hh,if_pos h]
    have e82:¬ (¬ (0≤a.dest∧a.dest≤9)∨(2≤a.dest∧(el s.items a.item.toNat).kind≠3))→takenB s a.item a.dest→moveE s a.item a.dest=82:=fun h h2=>by unfold moveE;rw [if_pos hh,if_neg h,if_pos h2]
    have e0:¬ (¬ (0≤a.dest∧a.dest≤9)∨(2≤a.dest∧(el s.items a.item.toNat).kind≠3))→¬ takenB s a.item a.dest→moveE s a.item a.dest=0:=fun h h2=>by unfold moveE;rw [if_pos hh,if_neg h,if_neg h2]
    
    refine acalls_of_aw Tryz.func179 rfl (dc rfl) ?_;refine aw_post ?_
    (repeat' (first|(refine ar_isq ?_;refine zq ?_)|(refine ar_item s hn ?_ ?_ rfl rfl rfl rfl rfl rfl (dc rfl) (dc rfl)<;>intro hrf)|(((refine ar_subk_l (sub_frzL (t:=13) vi ([a.dest]) rfl rfl rfl rfl (fun _ _=>rfl) (fun _=>rfl)) ?_);refine zpv fn59 (from_p _ _ [a.dest]) ?_))|refine ar_buildLE vi ([a.dest]) (by exact ty rfl) (by exact rfl) (by exact ty rfl) (by exact rfl) (by exact rfl) (by exact Nat.succ_pos _) (by exact rfl) (by exact dc rfl) (by exact rfl) (by exact fun _=>⟨rfl,rfl⟩) (by exact dc rfl) ?_|(refine ar_refuse ?_ ?_ rfl rfl (dc rfl)<;>intro hrf<;>first|exact absurd hrf (by decide)|(try replace hrf:=HG.out hrf))|(refine ar_lookup (e:=vi) (ty rfl) rfl (ty rfl) rfl (ty rfl) rfl rfl rfl (dc rfl) ?_ ?_<;>intros)|refine ar_delete (e:=vi) rfl (ty rfl) rfl (ty rfl) rfl rfl rfl rfl ?_|refine ar_mapUpdate (e:=vi) (v:=a.item) (ty rfl) rfl (ty rfl) rfl rfl rfl rfl rfl ?_|refine zg ?_ ?_|refine zgu ?_|refine zst ?_|refine aw_drawn (id:=3) [(0,0),(1,0),(2,0),(3,0),(4,0),(5,0),(6,0),(7,0),(8,0),(9,0),(10,0),(11,0)] mixed (by kernel_rfl) ?_|refine aw_drawn (id:=5) [(0,0),(1,0),(2,0),(3,0),(4,0),(5,0),(6,0),(7,0),(8,2)] mixed (by kernel_rfl) ?_|refine aw_drawn (id:=8) [(0,0),(1,0),(2,0),(3,0),(4,0),(5,0),(6,0),(7,0),(8,2)] mixed (by kernel_rfl) ?_|refine zco ?_ ?_|(refine fun (hg:(_:Prop))=>?_;first|exact absurd hg (by decide)|((try replace hg:=HG.out hg);(try dsimp only at hg);(try rw [fromB_one] at hg);(try rw [withinB_iff] at hg);(try rw [withinB_no] at hg);(try (have _h:True:=hg;clear _h hg));first|(exfalso;omega)|skip))))
    all_goals first
      | (exact absurd hh (by assumption))
      | exact bad 2 (e2 (by omega)) (by decide)
      | exact bad 82 (e82 (by omega) (taken _ (by assumption) (by assumption))) (by decide)
      | ((refine subq_n [] [.arr 4 1 (fun _=>stoV 0 (moveF s a.item a.dest)),LB 5 Itm.enc (s.items.set a.item.toNat (place1 (el s.items a.item.toNat) a.dest)),LB 2 Prt.enc s.prints,mapE vi (moveP p (el s.items a.item.toNat) a.item a.dest)] ?_ ?_;(focus ((refine sub_to [some 0,some 1,some 2,some 3] [] rfl ?_ ?_<;>(repeat' (first|exact trivial|refine ⟨⟨_,rfl,?_⟩,?_⟩|refine vs1 ?_ ?_|refine vs2 ?_ ?_|refine vs3 ?_|refine vs4 ?_ ?_|refine ⟨.inl ⟨_,_,rfl,rfl,?_⟩,?_⟩|exact ⟨.inr ⟨rfl,rfl⟩,trivial⟩|refine ⟨.inr ⟨rfl,rfl⟩,?_⟩|(intro _ _)|exact vz1|(first|refine ⟨bsub_set (place1 (el s.items a.item.toNat) a.dest) rfl hlt rfl rfl,?_⟩|refine ⟨bsub_mapE' rfl rfl (by unfold moveP;first|rw [if_pos (by omega)]|rw [if_neg (by omega)]) (fun _=>rfl),?_⟩|exact VSub.aggL ⟨.closed rfl,slEq rfl (by simp [moveF,setS]),.sl rfl,.map rfl,trivial⟩)|exact vz2|fail)));done)))
         refine bq0n ⟨e0 (by omega) ?_,rfl,rfl⟩
         first
         | exact free2 (by assumption)
         | exact free1 _ (by assumption) (by assumption))
      | trace_state
  · 
    refine acalls_of_aw Tryz.func179 rfl (dc rfl) ?_
    (repeat' (first|(refine ar_isq ?_;refine zq ?_)|(refine ar_item s hn ?_ ?_ rfl rfl rfl rfl rfl rfl (dc rfl) (dc rfl)<;>intro hrf<;>(try exact absurd hrf hh))|refine zg ?_ ?_|refine zgu ?_|refine zst ?_|refine aw_drawn (id:=3) [(0,0),(1,0),(2,0),(3,0),(4,0),(5,0),(6,0),(7,0),(8,0),(9,0),(10,0),(11,0)] mixed (by kernel_rfl) ?_|refine aw_drawn (id:=5) [(0,0),(1,0),(2,0),(3,0),(4,0),(5,0),(6,0),(7,0),(8,2)] mixed (by kernel_rfl) ?_|refine aw_drawn (id:=8) [(0,0),(1,0),(2,0),(3,0),(4,0),(5,0),(6,0),(7,0),(8,2)] mixed (by kernel_rfl) ?_|refine zco ?_ ?_|exact zd|(refine fun (hg:(_:Prop))=>?_;(try replace hg:=HG.out hg);(try dsimp only at hg);(try (have _h:True:=hg;clear _h hg)))))
    all_goals exact bad 6 (by unfold moveE;rw [if_neg hh]) (by decide)
def printE (s:Sto) (i n:Int):Int:=if hereB s i then (if (el s.items i.toNat).kind≠3∨(el s.items i.toNat).place<2∨¬ (1≤n∧n≤400) then 2 else if s.life<(el s.items i.toNat).uses+n then 81 else if 400<(s.prints.length:Int)+n then 9 else 0) else 6
def printF (s:Sto) (i n:Int):Sto:={ s with items:=s.items.set i.toNat (used1 (el s.items i.toNat) n),prints:=s.prints++List.replicate n.toNat ⟨i,0⟩ }
theorem print_p (s:Sto) (p:List (Int × Int)) (a:Deed) (hV:Valid s):ACalls Tryz.prog 180 [.ptr 4 0 0 0,a.enc] (stoB 0 s p)
    (fun v H=>printE s a.item a.n=0∧v=.tup []∧H=WP (printF s a.item a.n) p) (fun v _=>printE s a.item a.n≠0∧v=errV (printE s a.item a.n)):=by
  have hfew:=hV.1
  unfold Few at hfew
  have hn:=hfew.2.1
  have bad:∀ e:Int,printE s a.item a.n=e→e≠0→∀ H':Heap,printE s a.item a.n≠0∧errV e=errV (printE s a.item a.n):=fun e h h0 _=>by rw [h];exact ⟨h0,rfl⟩
  by_cases hh:hereB s a.item
  · have hlt:a.item.toNat<s.items.length:=by unfold hereB at hh;omega
    have h0:=hh.1
    have hu:=hV.2.2.2.2 a.item.toNat hlt
    have hul:=usedI_bnd s.items a.item.toNat s.items.length
    have hup:=usedP_bnd s.prints a.item.toNat s.prints.length
    have hu1:=hu.1
    unfold usedS at hu1
    have hrl:(List.replicate a.n.toNat (⟨a.item,0⟩:Prt)).length=a.n.toNat:=by simp
    have e2:(el s.items a.item.toNat).kind≠3∨(el s.items a.item.toNat).place<2∨¬ (1≤a.n∧a.n≤400)→printE s a.item a.n=2:=fun h=>by unfold printE;rw [if_pos hh,if_pos h]
    have e81:¬ ((el s.items a.item.toNat).kind≠3∨(el s.items a.item.toNat).place<2∨¬ (1≤a.n∧a.n≤400))→s.life<(el s.items a.item.toNat).uses+a.n→printE s a.item a.n=81:=fun h h2=>by unfold printE;rw [if_pos hh,if_neg h,if_pos h2]
    have e9:¬ ((el s.items a.item.toNat).kind≠3∨(el s.items a.item.toNat).place<2∨¬ (1≤a.n∧a.n≤400))→¬ s.life<(el s.items a.item.toNat).uses+a.n→400<(s.prints.length:Int)+a.n→printE s a.item a.n=9:=fun h h2 h3=>by unfold printE;rw [if_pos hh,if_neg h,if_neg h2,if_pos h3]
    have e0:¬ ((el s.items a.item.toNat).kind≠3∨(el s.items a.item.toNat).place<2∨¬ (1≤a.n∧a.n≤400))→¬ s.life<(el s.items a.item.toNat).uses+a.n→¬ 400<(s.prints.length:Int)+a.n→printE s a.item a.n=0:=fun h h2 h3=>by unfold printE;rw [if_pos hh,if_neg h,if_neg h2,if_neg h3]
    
    refine acalls_of_aw Tryz.func180 rfl (dc rfl) ?_;refine aw_post ?_
    (repeat' (first|(refine ar_isq ?_;refine zq ?_)|(refine zbt ?_)|(refine ar_item s hn ?_ ?_ rfl rfl rfl rfl rfl rfl (dc rfl) (dc rfl)<;>intro hrf)|(((refine ar_subk_l (sub_frzL (t:=24) vi ([a.n]) rfl rfl rfl rfl (fun _ _=>rfl) (fun _=>rfl)) ?_);refine zpv fn59 (from_p _ _ [a.n]) ?_))|refine ar_buildLE vi ([a.n]) (by exact ty rfl) (by exact rfl) (by exact ty rfl) (by exact rfl) (by exact rfl) (by exact Nat.succ_pos _) (by exact rfl) (by exact dc rfl) (by exact rfl) (by exact fun _=>⟨rfl,rfl⟩) (by exact dc rfl) ?_|(refine ar_refuse ?_ ?_ rfl rfl (dc rfl)<;>intro hrf<;>first|exact absurd hrf (by decide)|((try replace hrf:=HG.out hrf);(try rw [fromB_one] at hrf);(try rw [withinB_iff] at hrf);(try rw [withinB_no] at hrf)))|refine ar_buildLE Prt.enc ([⟨a.item,0⟩]) (by exact ty rfl) (by exact rfl) (by exact ty rfl) (by exact rfl) (by exact rfl) (by exact Nat.succ_pos _) (by exact rfl) (by exact dc rfl) (by exact rfl) (by exact fun _=>⟨rfl,rfl⟩) (by exact dc rfl) ?_|((refine ar_re (t:=74) (v':=vi ((a.n.toNat:Nat):Int)) rfl (congrArg vi (by omega)) ?_;(refine ar_subk_l (sub_frzL (t:=72) Prt.enc ([⟨a.item,0⟩]) rfl rfl rfl rfl (fun _ _=>rfl) (fun _=>rfl)) ?_);refine zpv fn187 (repeatP_p ⟨a.item,0⟩ a.n.toNat (by omega)) ?_))|refine zg ?_ ?_|refine zgu ?_|refine zst ?_|refine aw_drawn (id:=3) [(0,0),(1,0),(2,0),(3,0),(4,0),(5,0),(6,0),(7,0),(8,0),(9,0),(10,0),(11,0),(12,0),(13,2)] mixed (by kernel_rfl) ?_|refine aw_drawn (id:=3) [(0,0),(1,0),(2,0),(3,0),(4,0),(5,0),(6,0),(7,0),(8,0),(9,0),(10,0),(11,0),(12,0),(13,1)] mixed (by kernel_rfl) ?_|refine aw_drawn (id:=4) [(0,0),(1,0),(2,0),(3,0),(4,0),(5,0),(6,0),(7,0),(8,0),(9,0),(10,2)] mixed (by kernel_rfl) ?_|refine aw_drawn (id:=4) [(0,0),(1,0),(2,0),(3,0),(4,0),(5,0),(6,0),(7,0),(8,0),(9,0),(10,1)] mixed (by kernel_rfl) ?_|refine aw_drawn (id:=5) [(0,0),(1,0),(2,0),(3,0),(4,0),(5,0),(6,0),(7,0),(8,0),(9,2)] mixed (by kernel_rfl) ?_|refine aw_drawn (id:=6) [(0,0),(1,0),(2,0),(3,0),(4,0),(5,0),(6,0),(7,0),(8,0),(10,0),(11,0),(9,1),(12,1),(13,1),(14,0),(15,0),(16,0),(17,2)] mixed (by kernel_rfl) ?_|refine zco ?_ ?_|(refine fun (hg:(_:Prop))=>?_;first|exact absurd hg (by decide)|((try replace hg:=HG.out hg);(try dsimp only at hg);(try rw [fromB_one] at hg);(try rw [withinB_iff] at hg);(try rw [withinB_no] at hg);(try (have _h:True:=hg;clear _h hg));first|(exfalso;omega)|skip))))
    all_goals first
      | (exact absurd hh (by assumption))
      | exact bad 2 (e2 (by omega)) (by decide)
      | exact bad 81 (e81 (by omega) (by omega)) (by decide)
      | exact bad 9 (e9 (by omega) (by omega) (by omega)) (by decide)
      | ((refine subq_n [] [.arr 4 1 (fun _=>stoG 1 4 (printF s a.item a.n)),LB 5 Itm.enc (s.items.set a.item.toNat (used1 (el s.items a.item.toNat) a.n)),.dead,mapE vi p,LB 2 Prt.enc (s.prints++List.replicate a.n.toNat ⟨a.item,0⟩)] ?_ ?_;(focus ((refine sub_to [some 0,some 1,some 2,some 3,some 7] [] rfl ?_ ?_<;>(repeat' (first|exact trivial|refine ⟨⟨_,rfl,?_⟩,?_⟩|refine vs1 ?_ ?_|refine vs2 ?_ ?_|refine vs3 ?_|refine vs4 ?_ ?_|refine ⟨.inl ⟨_,_,rfl,rfl,?_⟩,?_⟩|exact ⟨.inr ⟨rfl,rfl⟩,trivial⟩|refine ⟨.inr ⟨rfl,rfl⟩,?_⟩|(intro _ _)|exact vz1|(first|refine ⟨trivial,?_⟩|refine ⟨bsub_set (used1 (el s.items a.item.toNat) a.n) rfl hlt rfl rfl,?_⟩|refine ⟨bsub_app rfl rfl rfl rfl (fun _ _=>rfl) (fun _=>rfl) (fun _ _=>.closed rfl),?_⟩|refine ⟨bsub_mapE rfl rfl (fun _=>rfl),?_⟩|exact VSub.aggL ⟨.closed rfl,slEq rfl (by simp [printF]),slEq rfl (by simp [printF]),.map rfl,trivial⟩)|exact vz2|fail)));done)))
         exact bq0n ⟨e0 (by omega) (by omega) (by omega),rfl,rfl⟩)
      | trace_state
  · 
    refine acalls_of_aw Tryz.func180 rfl (dc rfl) ?_
    (repeat' (first|(refine ar_isq ?_;refine zq ?_)|(refine zbt ?_)|(refine ar_item s hn ?_ ?_ rfl rfl rfl rfl rfl rfl (dc rfl) (dc rfl)<;>intro hrf<;>(try exact absurd hrf hh))|refine zg ?_ ?_|refine zgu ?_|refine zst ?_|refine aw_drawn (id:=3) [(0,0),(1,0),(2,0),(3,0),(4,0),(5,0),(6,0),(7,0),(8,0),(9,0),(10,0),(11,0),(12,0),(13,1)] mixed (by kernel_rfl) ?_|refine aw_drawn (id:=3) [(0,0),(1,0),(2,0),(3,0),(4,0),(5,0),(6,0),(7,0),(8,0),(9,0),(10,0),(11,0),(12,0),(13,2)] mixed (by kernel_rfl) ?_|refine aw_drawn (id:=4) [(0,0),(1,0),(2,0),(3,0),(4,0),(5,0),(6,0),(7,0),(8,0),(9,0),(10,1)] mixed (by kernel_rfl) ?_|refine aw_drawn (id:=4) [(0,0),(1,0),(2,0),(3,0),(4,0),(5,0),(6,0),(7,0),(8,0),(9,0),(10,2)] mixed (by kernel_rfl) ?_|refine aw_drawn (id:=5) [(0,0),(1,0),(2,0),(3,0),(4,0),(5,0),(6,0),(7,0),(8,0),(9,2)] mixed (by kernel_rfl) ?_|refine aw_drawn (id:=6) [(0,0),(1,0),(2,0),(3,0),(4,0),(5,0),(6,0),(7,0),(8,0),(10,0),(11,0),(9,1),(12,1),(13,1),(14,0),(15,0),(16,0),(17,2)] mixed (by kernel_rfl) ?_|refine zco ?_ ?_|exact zd|(refine fun (hg:(_:Prop))=>?_;(try replace hg:=HG.out hg);(try dsimp only at hg);(try (have _h:True:=hg;clear _h hg)))))
    all_goals exact bad 6 (by unfold printE;rw [if_neg hh]) (by decide)
end Go.Proofs.YtbilpbabdgfblaaGreat
