/- HouseGenuine: the walk of the law. No condition. -/
import Derived.Test.YtbilpbabdgfblaaGreatKJ720
set_option maxHeartbeats 16000000
set_option linter.unusedSimpArgs false
set_option linter.unusedVariables false
namespace Go.Proofs.YtbilpbabdgfblaaGreat
open Go.RowKit
theorem bsub_setB {α:Type}[Inhabited α] {H:Heap}{σ:List (Option Nat)}{fr:Nat→Prop}{k b sz j:Nat}{e:α→V}{l:List α}{x:α}{v:V}(h:σ[k]?=some (some b)) (hb:H[b]?=some (.arr sz l.length (upd (fun i=>e (el l i)) j v))) (hj:j<l.length) (hv:v=e x) (hc:∀ y,(e y).closed=true):BSub H σ fr k (LB sz e (l.set j x)):=by
  have:LB sz e (l.set j x)=.arr sz l.length (fun i=>e (el (l.set j x) i)):=by unfold LB;rw [List.length_set]
  rw [this]
  refine bsub_same h hb (fun i _=>?_) fun i _=>hc _
  rw [upd_at,el_setI hj]
  split
  · exact hv
  · rfl
def flip1 (l:List Bool) (i:Int):List Bool:=if 0≤i∧i<(l.length:Int) then l.set i.toNat (!(el l i.toNat)) else l
def flipTo (l:List Bool) (sp:List Int):Nat→List Bool
  | 0=>l
  | k+1=>flip1 (flipTo l sp k) (el sp k)
theorem flip1_len (l:List Bool) (i:Int):(flip1 l i).length=l.length:=by
  unfold flip1
  split
  · rw [List.length_set]
  · rfl
theorem flipTo_len (l:List Bool) (sp:List Int):∀ k,(flipTo l sp k).length=l.length
  | 0=>rfl
  | k+1=>by rw [flipTo,flip1_len,flipTo_len l sp k]
theorem flipTo_yes {l:List Bool}{sp:List Int}{k:Nat}(h:0≤el sp k∧el sp k<((flipTo l sp k).length:Int)):flipTo l sp (k+1)=(flipTo l sp k).set (el sp k).toNat (!(el (flipTo l sp k) (el sp k).toNat)):=by
  rw [flipTo];unfold flip1;rw [if_pos h]
theorem flipTo_no {l:List Bool}{sp:List Int}{k:Nat}(h:¬ (0≤el sp k∧el sp k<((flipTo l sp k).length:Int))):flipTo l sp (k+1)=flipTo l sp k:=by
  rw [flipTo];unfold flip1;rw [if_neg h]
/-- Whether a finding is among the first k. -/
def foundTo (F:List Fnd) (T:Fnd):Nat→Bool
  | 0=>false
  | k+1=>foundTo F T k||(decide ((el F k).design=T.design)&&(decide ((el F k).grow=T.grow)&&(decide ((el F k).off=T.off)&&true)))
theorem foundTo_in {F:List Fnd}{T:Fnd}:∀ {k m:Nat},m<k→el F m=T→foundTo F T k=true
  | 0,m,h,_=>absurd h (Nat.not_lt_zero m)
  | k+1,m,h,he=>by
    rw [foundTo]
    by_cases e:m=k
    · subst e
      rw [he,decide_eq_true rfl,decide_eq_true rfl,decide_eq_true rfl,Bool.and_true,Bool.and_true,Bool.and_true,Bool.or_true]
    · rw [foundTo_in (show m<k by omega) he,Bool.true_or]
section
variable (h:Hse) (n:Int) (sp:List Int) (tol:Int)

set_option maxRecDepth 20000 in
theorem genuine_no (E:Int) (o:Org) (h0:E≠0) (hi:PCalls Tryz.prog 26 [h.enc,vi n] (·=.tup [encBools [],vi E])) (ht:PCalls Tryz.prog 27 [h.enc,vi n] (·=.tup [o.enc,vi E])) :
    PCalls Tryz.prog 6 [h.enc,vi n,encInts sp,vi tol] (·=vb true):=by
  (refine pcalls_know (fun I us h=>rel_len (rel_arg h (j:=2) rfl)) fun hlen2=>?_)
  refine pcalls_of_aw Tryz.func6 rfl (Nat.le_of_ble_eq_true rfl) ?_
  (repeat' (first|(refine ar_isq ?_;refine zq ?_)|refine ar_q (qs_seq (seq rfl) rfl rfl (.int (ty rfl) rfl rfl rfl rfl (.int (ty rfl) rfl rfl rfl rfl .nil))) (dc rfl) ?_|refine ar_q (qs_seq (seq rfl) rfl rfl (.int (ty rfl) rfl rfl rfl rfl (.int (ty rfl) rfl rfl rfl rfl (.int (ty rfl) rfl rfl rfl rfl .nil)))) (dc rfl) ?_|refine ar_q (qs_seq (seq rfl) rfl rfl (.int (ty rfl) rfl rfl rfl rfl (.int (ty rfl) rfl rfl rfl rfl (.int (ty rfl) rfl rfl rfl rfl (.int (ty rfl) rfl rfl rfl rfl .nil))))) (dc rfl) ?_|refine ar_q (qs_seq (seq rfl) rfl rfl (.int (ty rfl) rfl rfl rfl rfl (.int (ty rfl) rfl rfl rfl rfl (.int (ty rfl) rfl rfl rfl rfl (.int (ty rfl) rfl rfl rfl rfl (.int (ty rfl) rfl rfl rfl rfl .nil)))))) (dc rfl) ?_|(refine zbt ?_)|(refine zpvD fn24 (halive_p) ?_)|(refine ar_pcall (own:=false) fn17 rfl rfl (.cons (.closed rfl) .nil) (rgreat_p h) (by simp) (dc rfl) ?_;rintro _ (rfl|⟨rfl,hs2⟩))|(refine zpvD fn26 (hi) ?_)|(refine zpvD fn27 (ht) ?_)|refine zg ?_ ?_|refine zgu ?_|refine zst ?_|refine zco ?_ ?_|exact zd|(refine fun (hg:(_:Prop))=>?_;(try replace hg:=HG.out hg);(try dsimp only at hg);(try (have _h:True:=hg;clear _h hg)))))
  all_goals first
    | (exfalso;omega)
    | ((refine aw_ret ?_;(repeat (first|refine ret_then ?_|refine ret_block ?_));refine bq1 rfl ⟨?_,rfl⟩);rfl)
    | ((refine aw_ret ?_;(repeat (first|refine ret_then ?_|refine ret_block ?_));refine bq1 rfl ⟨?_,rfl⟩);exact congrArg vb (decide_eq_true rfl))
    | trace_state
set_option maxRecDepth 20000 in
theorem genuine_ok (hs:HSmall h) (hst:StOk h.store) (hV:HValid h) {q:Nat}(hq:q<h.store.prints.length) {i g:Nat}(h1:i<h.designs.length) (h2:g<21) (h5:imageF h q=dproofF (el h.designs i) g) (h6:shownF h i g=true) (o:Org) (ho1:o.design=i) (ho2:o.grow=g) (L:List Bool) (hL:L=imageF h q)
    (hi:PCalls Tryz.prog 26 [h.enc,vi n] (·=.tup [encBools L,vi 0])) (ht:PCalls Tryz.prog 27 [h.enc,vi n] (·=.tup [o.enc,vi 0])) :
    PCalls Tryz.prog 6 [h.enc,vi n,encInts sp,vi tol] (·=vb true):=by
  (refine pcalls_know (fun I us h=>rel_len (rel_arg h (j:=2) rfl)) fun hlen2=>?_)
  have hLl:L.length≤2400:=by rw [hL];exact (image_len hV hq h1 h2 h5).1
  refine pcalls_of_aw Tryz.func6 rfl (Nat.le_of_ble_eq_true rfl) ?_
  (repeat' (first|(refine ar_isq ?_;refine zq ?_)|refine ar_q (qs_seq (seq rfl) rfl rfl (.int (ty rfl) rfl rfl rfl rfl (.int (ty rfl) rfl rfl rfl rfl .nil))) (dc rfl) ?_|refine ar_q (qs_seq (seq rfl) rfl rfl (.int (ty rfl) rfl rfl rfl rfl (.int (ty rfl) rfl rfl rfl rfl (.int (ty rfl) rfl rfl rfl rfl .nil)))) (dc rfl) ?_|refine ar_q (qs_seq (seq rfl) rfl rfl (.int (ty rfl) rfl rfl rfl rfl (.int (ty rfl) rfl rfl rfl rfl (.int (ty rfl) rfl rfl rfl rfl (.int (ty rfl) rfl rfl rfl rfl .nil))))) (dc rfl) ?_|refine ar_q (qs_seq (seq rfl) rfl rfl (.int (ty rfl) rfl rfl rfl rfl (.int (ty rfl) rfl rfl rfl rfl (.int (ty rfl) rfl rfl rfl rfl (.int (ty rfl) rfl rfl rfl rfl (.int (ty rfl) rfl rfl rfl rfl .nil)))))) (dc rfl) ?_|(refine zbt ?_)|(refine zpvD fn24 (halive_p) ?_)|(refine ar_pcall (own:=false) fn17 rfl rfl (.cons (.closed rfl) .nil) (rgreat_p h) (by simp) (dc rfl) ?_;rintro _ (rfl|⟨rfl,hs2⟩))|(refine zpvD fn26 (hi) ?_)|(refine zpvD fn27 (ht) ?_)|refine zg ?_ ?_|refine zgu ?_|refine zst ?_|refine zco ?_ ?_|exact zd|(refine fun (hg:(_:Prop))=>?_;(try replace hg:=HG.out hg);(try dsimp only at hg);(try (have _h:True:=hg;clear _h hg)))))
  all_goals first
    | (exfalso;omega)
    | ((refine aw_ret ?_;(repeat (first|refine ret_then ?_|refine ret_block ?_));refine bq1 rfl ⟨?_,rfl⟩);rfl)
    | skip
  refine aw_for sp.length (fun _=>True) (fun k=>[(3,vi tol),(4,.ref h.enc 0),(9,vb true),(10,encBools L),(12,.ref o.enc 0),(14,.sl 1 0 0 (flipTo L sp k).length),(70,encInts sp),(71,vi sp.length),(72,vi k)]) (fun k=>[LB 1 vb (flipTo L sp k)]) trivial ?_ ?_
  · (refine sub_to [some 2] [0,1] rfl ?_ ?_<;>(repeat' (first|exact trivial|refine ⟨⟨_,rfl,?_⟩,?_⟩|refine vs1 ?_ ?_|refine vs2 ?_ ?_|refine vs3 ?_|refine vs4 ?_ ?_|refine ⟨.inl ⟨_,_,rfl,rfl,?_⟩,?_⟩|exact ⟨.inr ⟨rfl,rfl⟩,trivial⟩|refine ⟨.inr ⟨rfl,rfl⟩,?_⟩|(intro _ _)|exact vz1|(exact slEq rfl (Nat.zero_add _))|exact vz2|fail)))
  intro k hk _
  have hfl:=flipTo_len L sp k
  have hfl2:=flipTo_len L sp (k+1)
  by_cases hlt:k<sp.length
  · (repeat' (first|(refine ar_isq ?_;refine zq ?_)|refine ar_q (qs_seq (seq rfl) rfl rfl (.int (ty rfl) rfl rfl rfl rfl (.int (ty rfl) rfl rfl rfl rfl .nil))) (dc rfl) ?_|refine ar_q (qs_seq (seq rfl) rfl rfl (.int (ty rfl) rfl rfl rfl rfl (.int (ty rfl) rfl rfl rfl rfl (.int (ty rfl) rfl rfl rfl rfl .nil)))) (dc rfl) ?_|refine ar_q (qs_seq (seq rfl) rfl rfl (.int (ty rfl) rfl rfl rfl rfl (.int (ty rfl) rfl rfl rfl rfl (.int (ty rfl) rfl rfl rfl rfl (.int (ty rfl) rfl rfl rfl rfl .nil))))) (dc rfl) ?_|refine ar_q (qs_seq (seq rfl) rfl rfl (.int (ty rfl) rfl rfl rfl rfl (.int (ty rfl) rfl rfl rfl rfl (.int (ty rfl) rfl rfl rfl rfl (.int (ty rfl) rfl rfl rfl rfl (.int (ty rfl) rfl rfl rfl rfl .nil)))))) (dc rfl) ?_|refine zil (j:=k) ?_|refine zis (j:=k) ?_|refine zit (j:=k) ?_|refine zil (j:=(el sp k).toNat) ?_|refine zis (j:=(el sp k).toNat) ?_|refine zit (j:=(el sp k).toNat) ?_|(refine zbt ?_)|refine zg ?_ ?_|refine zgu ?_|refine zst ?_|refine zco ?_ ?_|exact zd|(refine fun (hg:(_:Prop))=>?_;(try replace hg:=HG.out hg);(try dsimp only at hg);(try (have _h:True:=hg;clear _h hg)))))
    all_goals first
      | (exfalso;omega)
      | (refine loop_next hlt trivial ?_
         rw [flipTo_no (by omega)]
         (exact zsbD [some 0] []))
      | (refine loop_next hlt trivial ?_
         rw [flipTo_yes ⟨by omega,by omega⟩]
         (refine sub_to [some 0] [] rfl ?_ ?_<;>(repeat' (first|exact trivial|refine ⟨⟨_,rfl,?_⟩,?_⟩|refine vs1 ?_ ?_|refine vs2 ?_ ?_|refine vs3 ?_|refine vs4 ?_ ?_|refine ⟨.inl ⟨_,_,rfl,rfl,?_⟩,?_⟩|exact ⟨.inr ⟨rfl,rfl⟩,trivial⟩|refine ⟨.inr ⟨rfl,rfl⟩,?_⟩|(intro _ _)|exact vz1|(first|refine ⟨bsub_setB rfl rfl (by omega) rfl (fun _=>rfl),?_⟩|exact slEq rfl (by rw [List.length_set]))|exact vz2|fail))))
      | trace_state
  · obtain rfl:k=sp.length:=by omega
    generalize hC:flipTo L sp sp.length=C at hfl
    (repeat' (first|(refine ar_isq ?_;refine zq ?_)|refine ar_q (qs_seq (seq rfl) rfl rfl (.int (ty rfl) rfl rfl rfl rfl (.int (ty rfl) rfl rfl rfl rfl .nil))) (dc rfl) ?_|refine ar_q (qs_seq (seq rfl) rfl rfl (.int (ty rfl) rfl rfl rfl rfl (.int (ty rfl) rfl rfl rfl rfl (.int (ty rfl) rfl rfl rfl rfl .nil)))) (dc rfl) ?_|refine ar_q (qs_seq (seq rfl) rfl rfl (.int (ty rfl) rfl rfl rfl rfl (.int (ty rfl) rfl rfl rfl rfl (.int (ty rfl) rfl rfl rfl rfl (.int (ty rfl) rfl rfl rfl rfl .nil))))) (dc rfl) ?_|refine ar_q (qs_seq (seq rfl) rfl rfl (.int (ty rfl) rfl rfl rfl rfl (.int (ty rfl) rfl rfl rfl rfl (.int (ty rfl) rfl rfl rfl rfl (.int (ty rfl) rfl rfl rfl rfl (.int (ty rfl) rfl rfl rfl rfl .nil)))))) (dc rfl) ?_|(refine zbt ?_)|(((refine ar_subk_l (sub_frzL (t:=94) vb (C) rfl rfl rfl rfl (fun _ _=>rfl) (fun _=>rfl)) ?_);refine ar_buildLE encBools ([L,C]) (by exact ty rfl) (by exact rfl) (by exact ty rfl) (by exact rfl) (by exact rfl) (by exact Nat.succ_pos _) (by exact rfl) (by exact dc rfl) (by exact rfl) (by exact fun _=>⟨rfl,rfl⟩) (by exact dc rfl) ?_))|refine zg ?_ ?_|refine zgu ?_|refine zst ?_|refine zco ?_ ?_|exact zd|(refine fun (hg:(_:Prop))=>?_;(try replace hg:=HG.out hg);(try dsimp only at hg);(try (have _h:True:=hg;clear _h hg)))))
    all_goals (try (exfalso;omega))
    refine aw_for 2 (fun _=>True) (fun k=>[(3,vi tol),(4,.ref h.enc 0),(9,vb true),(10,encBools L),(12,.ref o.enc 0),(95,LV 1 encBools [L,C]),(96,vi 2),(97,vi k)]) (fun _=>[]) trivial ?_ ?_
    · (exact zsbD [] [1])
    intro k hk _
    by_cases hlt:k<2
    · have hXl:(el [L,C] k).length=L.length:=by match k,hlt with|0,_=>rfl|1,_=>exact hfl
      have hob:=offTo_bnd L (el [L,C] k) L.length
      have hof:=off_p L (el [L,C] k) (by omega)
      have hex:=hExpert_p h (el [L,C] k) tol hs hst
      by_cases hc:offTo L (el [L,C] k) L.length≤tol∧tol≤2400
      · have hA:expArg (el [L,C] k) tol:=⟨by omega,by omega,hc.2⟩
        have hT:(⟨i,g,offTo L (el [L,C] k) L.length⟩:Fnd)∈fndD h (el [L,C] k) tol h.designs.length:=by
          rw [hL]
          rw [hL] at hXl hc
          exact genuine_in hV hq h1 h2 h5 h6 hXl hc.1
        have hne:(fndD h (el [L,C] k) tol h.designs.length).length≠0:=fun e=>by rw [List.eq_nil_of_length_eq_zero e] at hT;cases hT
        have he:=expE_ok hV hA hne
        rw [expF_ok he,he] at hex
        have hFl:=fndD_len (h:=h) (dots:=(el [L,C] k)) (tol:=tol) h.designs.length
        have hdl:=hV.few.1
        generalize hF:fndD h (el [L,C] k) tol h.designs.length=F at hex hT hne hFl
        have hfound:foundTo F ⟨i,g,offTo L (el [L,C] k) L.length⟩ F.length=true:=by
          obtain ⟨m,hm,hme⟩:=mem_el hT
          exact foundTo_in hm hme
        (repeat' (first|(refine ar_isq ?_;refine zq ?_)|refine ar_q (qs_seq (seq rfl) rfl rfl (.int (ty rfl) rfl rfl rfl rfl (.int (ty rfl) rfl rfl rfl rfl .nil))) (dc rfl) ?_|refine ar_q (qs_seq (seq rfl) rfl rfl (.int (ty rfl) rfl rfl rfl rfl (.int (ty rfl) rfl rfl rfl rfl (.int (ty rfl) rfl rfl rfl rfl .nil)))) (dc rfl) ?_|refine ar_q (qs_seq (seq rfl) rfl rfl (.int (ty rfl) rfl rfl rfl rfl (.int (ty rfl) rfl rfl rfl rfl (.int (ty rfl) rfl rfl rfl rfl (.int (ty rfl) rfl rfl rfl rfl .nil))))) (dc rfl) ?_|refine ar_q (qs_seq (seq rfl) rfl rfl (.int (ty rfl) rfl rfl rfl rfl (.int (ty rfl) rfl rfl rfl rfl (.int (ty rfl) rfl rfl rfl rfl (.int (ty rfl) rfl rfl rfl rfl (.int (ty rfl) rfl rfl rfl rfl .nil)))))) (dc rfl) ?_|refine zil (j:=k) ?_|refine zis (j:=k) ?_|refine zit (j:=k) ?_|(refine zbt ?_)|(refine zpvD fn28 (hof) ?_)|(refine zpvD fn29 (hex) ?_)|refine zg ?_ ?_|refine zgu ?_|refine zst ?_|refine zco ?_ ?_|exact zd|(refine fun (hg:(_:Prop))=>?_;(try replace hg:=HG.out hg);(try dsimp only at hg);(try (have _h:True:=hg;clear _h hg)))))
        all_goals (try (exfalso;omega))
        refine aw_for F.length (fun _=>True) (fun m=>[(3,vi tol),(4,.ref h.enc 0),(9,vb true),(10,encBools L),(12,.ref o.enc 0),(19,vi (offTo L (el [L,C] k) L.length)),(21,vi 0),(22,vb (foundTo F ⟨i,g,offTo L (el [L,C] k) L.length⟩ m)),(95,LV 1 encBools [L,C]),(96,vi 2),(97,vi k),(118,encFnds F),(119,vi F.length),(120,vi m)]) (fun _=>[]) trivial ?_ ?_
        · (exact zsbD [] [])
        intro m hm _
        by_cases hltm:m<F.length
        · have hod:(o.enc).cells=[vi o.order,vi o.client,vi o.design,encInts o.line,vi o.grow]:=rfl
          (repeat' (first|(refine ar_isq ?_;refine zq ?_)|refine ar_q (qs_seq (seq rfl) rfl rfl (.int (ty rfl) rfl rfl rfl rfl (.int (ty rfl) rfl rfl rfl rfl .nil))) (dc rfl) ?_|refine ar_q (qs_seq (seq rfl) rfl rfl (.int (ty rfl) rfl rfl rfl rfl (.int (ty rfl) rfl rfl rfl rfl (.int (ty rfl) rfl rfl rfl rfl .nil)))) (dc rfl) ?_|refine ar_q (qs_seq (seq rfl) rfl rfl (.int (ty rfl) rfl rfl rfl rfl (.int (ty rfl) rfl rfl rfl rfl (.int (ty rfl) rfl rfl rfl rfl (.int (ty rfl) rfl rfl rfl rfl .nil))))) (dc rfl) ?_|refine ar_q (qs_seq (seq rfl) rfl rfl (.int (ty rfl) rfl rfl rfl rfl (.int (ty rfl) rfl rfl rfl rfl (.int (ty rfl) rfl rfl rfl rfl (.int (ty rfl) rfl rfl rfl rfl (.int (ty rfl) rfl rfl rfl rfl .nil)))))) (dc rfl) ?_|refine zil (j:=m) ?_|refine zis (j:=m) ?_|refine zit (j:=m) ?_|(refine zbt ?_)|refine zg ?_ ?_|refine zgu ?_|refine zst ?_|refine zco ?_ ?_|exact zd|(refine fun (hg:(_:Prop))=>?_;(try replace hg:=HG.out hg);(try dsimp only at hg);(try (have _h:True:=hg;clear _h hg)))))
          all_goals first
            | (exfalso;omega)
            | ((first|refine loop_next (by omega) ?_ ?_|refine (show _∧_∧SubOf _ _ _ _ _ _ from And.intro (by omega) (And.intro ?_ ?_)));(focus ((trivial);done));(focus ((refine sub_to [] [] rfl ?_ ?_<;>(repeat' (first|exact trivial|refine ⟨⟨_,rfl,?_⟩,?_⟩|refine vs1 ?_ ?_|refine vs2 ?_ ?_|refine vs3 ?_|refine vs4 ?_ ?_|refine ⟨.inl ⟨_,_,rfl,rfl,?_⟩,?_⟩|exact ⟨.inr ⟨rfl,rfl⟩,trivial⟩|refine ⟨.inr ⟨rfl,rfl⟩,?_⟩|(intro _ _)|exact vz1|(first|exact .of_eq (congrArg vb (by rw [foundTo,← ho1,← ho2];simp_all)) rfl)|exact vz2|fail)));done)))
            | trace_state
        · obtain rfl:m=F.length:=by omega
          rw [hfound]
          (repeat' (first|(refine ar_isq ?_;refine zq ?_)|refine ar_q (qs_seq (seq rfl) rfl rfl (.int (ty rfl) rfl rfl rfl rfl (.int (ty rfl) rfl rfl rfl rfl .nil))) (dc rfl) ?_|refine ar_q (qs_seq (seq rfl) rfl rfl (.int (ty rfl) rfl rfl rfl rfl (.int (ty rfl) rfl rfl rfl rfl (.int (ty rfl) rfl rfl rfl rfl .nil)))) (dc rfl) ?_|refine ar_q (qs_seq (seq rfl) rfl rfl (.int (ty rfl) rfl rfl rfl rfl (.int (ty rfl) rfl rfl rfl rfl (.int (ty rfl) rfl rfl rfl rfl (.int (ty rfl) rfl rfl rfl rfl .nil))))) (dc rfl) ?_|refine ar_q (qs_seq (seq rfl) rfl rfl (.int (ty rfl) rfl rfl rfl rfl (.int (ty rfl) rfl rfl rfl rfl (.int (ty rfl) rfl rfl rfl rfl (.int (ty rfl) rfl rfl rfl rfl (.int (ty rfl) rfl rfl rfl rfl .nil)))))) (dc rfl) ?_|(refine zbt ?_)|refine zg ?_ ?_|refine zgu ?_|refine zst ?_|refine zco ?_ ?_|exact zd|(refine fun (hg:(_:Prop))=>?_;(try replace hg:=HG.out hg);(try dsimp only at hg);(try (have _h:True:=hg;clear _h hg)))))
          all_goals first
            | (exfalso;omega)
            | ((first|refine loop_next (by omega) ?_ ?_|refine (show _∧_∧SubOf _ _ _ _ _ _ from And.intro (by omega) (And.intro ?_ ?_)));(focus ((trivial);done));(focus (exact zsbD [] [])))
            | trace_state
      · generalize hE:expE h (el [L,C] k) tol=E at hex
        generalize hF:expF h (el [L,C] k) tol=F at hex
        (repeat' (first|(refine ar_isq ?_;refine zq ?_)|refine ar_q (qs_seq (seq rfl) rfl rfl (.int (ty rfl) rfl rfl rfl rfl (.int (ty rfl) rfl rfl rfl rfl .nil))) (dc rfl) ?_|refine ar_q (qs_seq (seq rfl) rfl rfl (.int (ty rfl) rfl rfl rfl rfl (.int (ty rfl) rfl rfl rfl rfl (.int (ty rfl) rfl rfl rfl rfl .nil)))) (dc rfl) ?_|refine ar_q (qs_seq (seq rfl) rfl rfl (.int (ty rfl) rfl rfl rfl rfl (.int (ty rfl) rfl rfl rfl rfl (.int (ty rfl) rfl rfl rfl rfl (.int (ty rfl) rfl rfl rfl rfl .nil))))) (dc rfl) ?_|refine ar_q (qs_seq (seq rfl) rfl rfl (.int (ty rfl) rfl rfl rfl rfl (.int (ty rfl) rfl rfl rfl rfl (.int (ty rfl) rfl rfl rfl rfl (.int (ty rfl) rfl rfl rfl rfl (.int (ty rfl) rfl rfl rfl rfl .nil)))))) (dc rfl) ?_|refine zil (j:=k) ?_|refine zis (j:=k) ?_|refine zit (j:=k) ?_|(refine zbt ?_)|(refine zpvD fn28 (hof) ?_)|(refine zpvD fn29 (hex) ?_)|refine zg ?_ ?_|refine zgu ?_|refine zst ?_|refine zco ?_ ?_|exact zd|(refine fun (hg:(_:Prop))=>?_;(try replace hg:=HG.out hg);(try dsimp only at hg);(try (have _h:True:=hg;clear _h hg)))))
        all_goals first
          | (exfalso;omega)
          | ((first|refine loop_next (by omega) ?_ ?_|refine (show _∧_∧SubOf _ _ _ _ _ _ from And.intro (by omega) (And.intro ?_ ?_)));(focus ((trivial);done));(focus (exact zsbD [] [])))
          | trace_state
    · obtain rfl:k=2:=by omega
      (repeat' (first|(refine ar_isq ?_;refine zq ?_)|refine ar_q (qs_seq (seq rfl) rfl rfl (.int (ty rfl) rfl rfl rfl rfl (.int (ty rfl) rfl rfl rfl rfl .nil))) (dc rfl) ?_|refine ar_q (qs_seq (seq rfl) rfl rfl (.int (ty rfl) rfl rfl rfl rfl (.int (ty rfl) rfl rfl rfl rfl (.int (ty rfl) rfl rfl rfl rfl .nil)))) (dc rfl) ?_|refine ar_q (qs_seq (seq rfl) rfl rfl (.int (ty rfl) rfl rfl rfl rfl (.int (ty rfl) rfl rfl rfl rfl (.int (ty rfl) rfl rfl rfl rfl (.int (ty rfl) rfl rfl rfl rfl .nil))))) (dc rfl) ?_|refine ar_q (qs_seq (seq rfl) rfl rfl (.int (ty rfl) rfl rfl rfl rfl (.int (ty rfl) rfl rfl rfl rfl (.int (ty rfl) rfl rfl rfl rfl (.int (ty rfl) rfl rfl rfl rfl (.int (ty rfl) rfl rfl rfl rfl .nil)))))) (dc rfl) ?_|(refine zbt ?_)|refine zg ?_ ?_|refine zgu ?_|refine zst ?_|refine zco ?_ ?_|exact zd|(refine fun (hg:(_:Prop))=>?_;(try replace hg:=HG.out hg);(try dsimp only at hg);(try (have _h:True:=hg;clear _h hg)))))
      all_goals first
        | (exfalso;omega)
        | ((refine aw_ret ?_;(repeat (first|refine ret_then ?_|refine ret_block ?_));refine bq1 rfl ⟨?_,rfl⟩);rfl)
        | trace_state
end
theorem houseGenuine_p (h:Hse) (hw:h.wf) (n:Int) (_h1:i64ok n) (sp:List Int) (_h2:∀ y,y∈sp→i64ok y) (tol:Int) (_h3:i64ok tol):PCalls Tryz.prog 6 [h.enc,vi n,encInts sp,vi tol] (·=vb true):=by
  have hst:StOk h.store:=stOk_wf hw.2.2.1
  by_cases hs:HSmall h
  · have hi:=hImage_p h n hs hst
    have ht:=hTrace_p h n hs hst
    by_cases hq:HValid h∧inPrints h n
    · obtain ⟨hV,hn⟩:=hq
      obtain ⟨q,rfl⟩:=Int.eq_ofNat_of_zero_le hn.1
      have hq:q<h.store.prints.length:=by have:=hn.2;omega
      obtain ⟨i,g,h1,h2,h3,h4,h5,h6⟩:=image_at hV hq
      have he:=askE_ok hV hn
      rw [he] at hi ht
      refine genuine_ok h q sp tol hs hst hV hq h1 h2 h5 h6 (traceF h q) ?_ ?_ _ rfl hi ht
      · unfold traceF
        rw [if_pos he]
        exact h3
      · unfold traceF
        rw [if_pos he]
        exact h4
    · have hc:=askE_cases hq
      have hI:imageF h n=[]:=by unfold imageF;rw [if_neg (by omega)]
      rw [hI] at hi
      exact genuine_no h n sp tol (askE h n) (traceF h n) (by omega) hi ht
  · (refine pcalls_know (fun I us h=>rel_len (rel_arg h (j:=2) rfl)) fun hlen2=>?_)
    refine pcalls_of_aw Tryz.func6 rfl (Nat.le_of_ble_eq_true rfl) ?_
    (repeat' (first|(refine ar_isq ?_;refine zq ?_)|refine ar_q (qs_seq (seq rfl) rfl rfl (.int (ty rfl) rfl rfl rfl rfl (.int (ty rfl) rfl rfl rfl rfl .nil))) (dc rfl) ?_|refine ar_q (qs_seq (seq rfl) rfl rfl (.int (ty rfl) rfl rfl rfl rfl (.int (ty rfl) rfl rfl rfl rfl (.int (ty rfl) rfl rfl rfl rfl .nil)))) (dc rfl) ?_|refine ar_q (qs_seq (seq rfl) rfl rfl (.int (ty rfl) rfl rfl rfl rfl (.int (ty rfl) rfl rfl rfl rfl (.int (ty rfl) rfl rfl rfl rfl (.int (ty rfl) rfl rfl rfl rfl .nil))))) (dc rfl) ?_|refine ar_q (qs_seq (seq rfl) rfl rfl (.int (ty rfl) rfl rfl rfl rfl (.int (ty rfl) rfl rfl rfl rfl (.int (ty rfl) rfl rfl rfl rfl (.int (ty rfl) rfl rfl rfl rfl (.int (ty rfl) rfl rfl rfl rfl .nil)))))) (dc rfl) ?_|(refine zbt ?_)|(refine zpvD fn24 (halive_p) ?_)|(refine ar_pcall (own:=false) fn17 rfl rfl (.cons (.closed rfl) .nil) (rgreat_p h) (by simp) (dc rfl) ?_;rintro _ (rfl|⟨rfl,hs2⟩))|refine zg ?_ ?_|refine zgu ?_|refine zst ?_|refine zco ?_ ?_|exact zd|(refine fun (hg:(_:Prop))=>?_;(try replace hg:=HG.out hg);(try dsimp only at hg);(try (have _h:True:=hg;clear _h hg)))))
    all_goals first
      | (exact absurd hs2 hs)
      | ((refine aw_ret ?_;(repeat (first|refine ret_then ?_|refine ret_block ?_));refine bq1 rfl ⟨?_,rfl⟩);rfl)
      | trace_state
end Go.Proofs.YtbilpbabdgfblaaGreat
