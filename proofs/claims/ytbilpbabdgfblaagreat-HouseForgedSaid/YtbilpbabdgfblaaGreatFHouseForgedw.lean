/- HouseForged: the walk of the law. No condition. -/
import Derived.Test.YtbilpbabdgfblaaGreatKJ720
set_option maxHeartbeats 16000000
set_option linter.unusedSimpArgs false
set_option linter.unusedVariables false
namespace Go.Proofs.YtbilpbabdgfblaaGreat
open Go.RowKit
def lastOf (l:List Fnd):Nat→Fnd
  | 0=>⟨-1,0,0⟩
  | k+1=>el l k
section
variable (h:Hse) (dots:List Bool) (tol n:Int)

set_option maxRecDepth 20000 in
theorem forged_no (E f:Int) (L:List Bool) (h1:E≠0) (h2:E=105→f=0→L.length=dots.length→¬ offTo L dots L.length≤tol) (hx:PCalls Tryz.prog 29 [h.enc,encBools dots,vi tol] (·=.tup [encFnds [],vi E])) (hi:PCalls Tryz.prog 26 [h.enc,vi n] (·=.tup [encBools L,vi f])) :
    PCalls Tryz.prog 7 [h.enc,encBools dots,vi tol,vi n] (·=vb true):=by
  (refine pcalls_know (fun I us h=>rel_len (rel_arg h (j:=1) rfl)) fun hlen1=>?_)
  have hLl:L.length≤maxLen∨¬ L.length≤maxLen:=by omega
  refine pcalls_of_aw Tryz.func7 rfl (Nat.le_of_ble_eq_true rfl) ?_
  (repeat' (first|(refine ar_isq ?_;refine zq ?_)|(refine zbt ?_)|(refine zpvD fn24 (halive_p) ?_)|(refine ar_pcall (own:=false) fn17 rfl rfl (.cons (.closed rfl) .nil) (rgreat_p h) (by simp) (dc rfl) ?_;rintro _ (rfl|⟨rfl,hs2⟩))|(refine zpvD fn29 (hx) ?_)|(refine zpvD fn26 (hi) ?_)|(refine zpvD fn28 (off_p L dots (by omega)) ?_)|refine zg ?_ ?_|refine zgu ?_|refine zst ?_|refine aw_drawn (id:=18) [(0,0),(1,0),(2,0),(3,0),(4,0),(5,0),(6,0),(7,0),(8,0),(9,0),(10,0),(11,0),(13,0),(14,0),(12,1),(15,0),(16,0)] mixed (by kernel_rfl) ?_|refine zco ?_ ?_|exact zd|(refine fun (hg:(_:Prop))=>?_;(try replace hg:=HG.out hg);(try dsimp only at hg);(try (have _h:True:=hg;clear _h hg)))))
  all_goals first
    | (exfalso;omega)
    | (exfalso;exact h2 (by assumption) (by assumption) (by omega) (by assumption))
    | ((refine aw_ret ?_;(repeat (first|refine ret_then ?_|refine ret_block ?_));refine bq1 rfl ⟨?_,rfl⟩);rfl)
    | trace_state
set_option maxRecDepth 20000 in
theorem forged_ok (hV:HValid h) (F:List Fnd) (hF:F=fndD h dots tol h.designs.length) (h0:F.length≠0) (f:Int) (L:List Bool) (hx:PCalls Tryz.prog 29 [h.enc,encBools dots,vi tol] (·=.tup [encFnds F,vi 0])) (hi:PCalls Tryz.prog 26 [h.enc,vi n] (·=.tup [encBools L,vi f])) :
    PCalls Tryz.prog 7 [h.enc,encBools dots,vi tol,vi n] (·=vb true):=by
  (refine pcalls_know (fun I us h=>rel_len (rel_arg h (j:=1) rfl)) fun hlen1=>?_)
  have hdl:=hV.few.1
  have hfl:F.length≤168:=by have:=fndD_len (h:=h) (dots:=dots) (tol:=tol) h.designs.length;rw [hF];omega
  refine pcalls_of_aw Tryz.func7 rfl (Nat.le_of_ble_eq_true rfl) ?_
  (repeat' (first|(refine ar_isq ?_;refine zq ?_)|(refine zbt ?_)|(refine zpvD fn24 (halive_p) ?_)|(refine ar_pcall (own:=false) fn17 rfl rfl (.cons (.closed rfl) .nil) (rgreat_p h) (by simp) (dc rfl) ?_;rintro _ (rfl|⟨rfl,hs2⟩))|(refine zpvD fn29 (hx) ?_)|(refine zpvD fn26 (hi) ?_)|refine zg ?_ ?_|refine zgu ?_|refine zst ?_|refine aw_drawn (id:=18) [(0,0),(1,0),(2,0),(3,0),(4,0),(5,0),(6,0),(7,0),(8,0),(9,0),(10,0),(11,0),(13,0),(14,0),(12,1),(15,0),(16,0)] mixed (by kernel_rfl) ?_|refine zco ?_ ?_|exact zd|(refine fun (hg:(_:Prop))=>?_;(try replace hg:=HG.out hg);(try dsimp only at hg);(try (have _h:True:=hg;clear _h hg)))))
  all_goals first
    | (exfalso;omega)
    | ((refine aw_ret ?_;(repeat (first|refine ret_then ?_|refine ret_block ?_));refine bq1 rfl ⟨?_,rfl⟩);rfl)
    | skip
  refine aw_for F.length (fun _=>True) (fun k=>[(1,encBools dots),(2,vi tol),(4,.ref h.enc 0),(9,vb true),(10,encFnds F),(14,.ptr 3 0 0 0),(75,encFnds F),(76,vi F.length),(77,vi k)]) (fun k=>[.arr 3 1 (fun _=>(lastOf F k).enc)]) trivial ?_ ?_
  · (exact zsbD [some 1] [0])
  intro k hk _
  by_cases hlt:k<F.length
  · obtain ⟨i,g,hi8,hg21,hxe,⟨hsh,hok⟩,hsz⟩:=fndD_at (h:=h) (dots:=dots) (tol:=tol) (n:=h.designs.length) (k:=k) (by rw [← hF];exact hlt)
    rw [← hF] at hxe
    have e1:(el F k).design=i:=by rw [hxe]
    have e2:(el F k).grow=g:=by rw [hxe]
    have e3:(el F k).off=offD h dots i g:=by rw [hxe]
    have hG:=hV.designs i hi8
    have hPl:=dproof_dots hG hg21 hsz
    have hoff:offTo (dproofF (el h.designs i) g) dots (dproofF (el h.designs i) g).length=(el F k).off:=by rw [e3,hPl];rfl
    have hob:=offTo_bnd (dproofF (el h.designs i) g) dots (dproofF (el h.designs i) g).length
    have hpe:proofErr (el h.designs i).sheet (el h.designs i).band g=0:=by unfold proofErr;rw [if_pos hG.2.2.1,if_pos (withinB_iff.2 (by omega))]
    have hp:PCalls Tryz.prog 30 [(el h.designs i).sheet.enc,encRows (el h.designs i).band,vi (el F k).grow,vb true] (·=.tup [encBools (dproofF (el h.designs i) g),vi 0]):=by
      rw [e2]
      exact (lProof_p (el h.designs i).sheet (el h.designs i).band g true).mono fun v hv=>by rw [hv,hpe];rfl
    have hlast:(lastOf F k).design<(el F k).design∨(lastOf F k).design=(el F k).design∧(lastOf F k).grow<(el F k).grow:=by
      cases k with
      | zero=>left;show (-1:Int)<_;omega
      | succ k =>
        have:=fndD_next (h:=h) (dots:=dots) (tol:=tol) (n:=h.designs.length) (k:=k) (by rw [← hF];exact hlt)
        rw [← hF] at this
        exact this
    (repeat' (first|(refine ar_isq ?_;refine zq ?_)|refine zil (j:=k) ?_|refine zis (j:=k) ?_|refine zit (j:=k) ?_|refine zil (j:=i) ?_|refine zis (j:=i) ?_|refine zit (j:=i) ?_|(refine zbt ?_)|(refine zpvD fn30 (hp) ?_)|(refine zpvD fn28 (off_p (dproofF (el h.designs i) g) dots (by omega)) ?_)|refine zg ?_ ?_|refine zgu ?_|refine zst ?_|refine aw_drawn (id:=18) [(0,0),(1,0),(2,0),(3,0),(4,0),(5,0),(6,0),(7,0),(8,0),(9,0),(10,0),(11,0),(13,0),(14,0),(12,1),(15,0),(16,0)] mixed (by kernel_rfl) ?_|refine zco ?_ ?_|exact zd|(refine fun (hg:(_:Prop))=>?_;(try replace hg:=HG.out hg);(try dsimp only at hg);(try (have _h:True:=hg;clear _h hg)))))
    all_goals first
      | (exfalso;omega)
      | ((first|refine loop_next (by omega) ?_ ?_|refine (show _∧_∧SubOf _ _ _ _ _ _ from And.intro (by omega) (And.intro ?_ ?_)));(focus ((trivial);done));(focus (exact zsbD [some 0] [])))
      | trace_state
  · obtain rfl:k=F.length:=by omega
    (repeat' (first|(refine ar_isq ?_;refine zq ?_)|(refine zbt ?_)|refine zg ?_ ?_|refine zgu ?_|refine zst ?_|refine aw_drawn (id:=18) [(0,0),(1,0),(2,0),(3,0),(4,0),(5,0),(6,0),(7,0),(8,0),(9,0),(10,0),(11,0),(13,0),(14,0),(12,1),(15,0),(16,0)] mixed (by kernel_rfl) ?_|refine zco ?_ ?_|exact zd|(refine fun (hg:(_:Prop))=>?_;(try replace hg:=HG.out hg);(try dsimp only at hg);(try (have _h:True:=hg;clear _h hg)))))
    all_goals first
      | (exfalso;omega)
      | ((refine aw_ret ?_;(repeat (first|refine ret_then ?_|refine ret_block ?_));refine bq1 rfl ⟨?_,rfl⟩);rfl)
      | ((refine aw_ret ?_;(repeat (first|refine ret_then ?_|refine ret_block ?_));refine bq1 rfl ⟨?_,rfl⟩);exact congrArg vb (decide_eq_true (by omega)))
      | trace_state
end
theorem houseForged_p (h:Hse) (hw:h.wf) (dots:List Bool) (_h1:∀ y,y∈dots→True) (tol:Int) (_h2:i64ok tol) (n:Int) (_h3:i64ok n):PCalls Tryz.prog 7 [h.enc,encBools dots,vi tol,vi n] (·=vb true):=by
  have hst:StOk h.store:=stOk_wf hw.2.2.1
  by_cases hs:HSmall h
  · have hx:=hExpert_p h dots tol hs hst
    have hi:=hImage_p h n hs hst
    by_cases hV:HValid h
    · by_cases hA:expArg dots tol
      · by_cases h0:(fndD h dots tol h.designs.length).length=0
        · have he:=expE_forged hV hA h0
          rw [expF_no he (by decide),he] at hx
          refine forged_no h dots tol n _ _ _ (by decide) (fun _ hf hl ho=>?_) hx hi
          have hin:inPrints h n:=Classical.byContradiction fun hno=>by rw [askE_none hV hno] at hf;omega
          obtain ⟨q,rfl⟩:=Int.eq_ofNat_of_zero_le hin.1
          have hq:q<h.store.prints.length:=by have:=hin.2;omega
          obtain ⟨i,g,h1,h2,_,_,h5,h6⟩:=image_at hV hq
          have:=genuine_in hV hq h1 h2 h5 h6 hl.symm ho
          rw [List.eq_nil_of_length_eq_zero h0] at this
          cases this
        · have he:=expE_ok hV hA h0
          rw [expF_ok he,he] at hx
          exact forged_ok h dots tol n hV _ rfl h0 _ _ hx hi
      · have he:=expE_arg hV hA
        rw [expF_no he (by decide),he] at hx
        exact forged_no h dots tol n _ _ _ (by decide) (fun h=>absurd h (by decide)) hx hi
    · have he:=expE_bad (dots:=dots) (tol:=tol) hV
      rw [expF_no he (by decide),he] at hx
      exact forged_no h dots tol n _ _ _ (by decide) (fun h=>absurd h (by decide)) hx hi
  · refine pcalls_of_aw Tryz.func7 rfl (Nat.le_of_ble_eq_true rfl) ?_
    (repeat' (first|(refine ar_isq ?_;refine zq ?_)|(refine zbt ?_)|(refine zpvD fn24 (halive_p) ?_)|(refine ar_pcall (own:=false) fn17 rfl rfl (.cons (.closed rfl) .nil) (rgreat_p h) (by simp) (dc rfl) ?_;rintro _ (rfl|⟨rfl,hs2⟩))|refine zg ?_ ?_|refine zgu ?_|refine zst ?_|refine aw_drawn (id:=18) [(0,0),(1,0),(2,0),(3,0),(4,0),(5,0),(6,0),(7,0),(8,0),(9,0),(10,0),(11,0),(13,0),(14,0),(12,1),(15,0),(16,0)] mixed (by kernel_rfl) ?_|refine zco ?_ ?_|exact zd|(refine fun (hg:(_:Prop))=>?_;(try replace hg:=HG.out hg);(try dsimp only at hg);(try (have _h:True:=hg;clear _h hg)))))
    all_goals first
      | (exact absurd hs2 hs)
      | ((refine aw_ret ?_;(repeat (first|refine ret_then ?_|refine ret_block ?_));refine bq1 rfl ⟨?_,rfl⟩);rfl)
      | trace_state
end Go.Proofs.YtbilpbabdgfblaaGreat
