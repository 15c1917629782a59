/- Parts of the proof: contracts of functions. No condition. -/
import Derived.Test.YtloaefllpokkaaaGreatKPt8
set_option maxHeartbeats 16000000
set_option linter.unusedSimpArgs false
set_option linter.unusedVariables false
namespace Go.Proofs.YtloaefllpokkaaaGreat
open Go.RowKit
structure Clash where
  upper:Int
  lower:Int
  col:Int
instance:Inhabited Clash:=⟨⟨0,0,0⟩⟩
def Clash.enc (x:Clash):V:=.agg [vi x.upper,vi x.lower,vi x.col]
abbrev encClashes (l:List Clash):V:=LV 3 Clash.enc l
def nearAt (s:Sheet) (a b:List Int) (j:Nat):Bool:=decide (el b j-el a j<s.weight+s.clear)
def clashF (s:Sheet) (a b:List Int):Int:=match (List.range s.cols.toNat).find? (nearAt s a b) with|some j=>(j:Int)|none=>-1
theorem clashF_at {s:Sheet}{a b:List Int}{k:Nat}(hk:(k:Int)<s.cols) (h0:∀ j,j<k→nearAt s a b j=false) (h:nearAt s a b k=true):clashF s a b=k:=by
  have:(List.range s.cols.toNat).find? (nearAt s a b)=some k:=by
    rw [List.find?_range_eq_some]
    exact ⟨h,by simp;omega,fun j hj=>by simp [h0 j hj]⟩
  unfold clashF
  rw [this]
theorem clashF_none {s:Sheet}{a b:List Int}(h0:∀ j:Nat,(j:Int)<s.cols→nearAt s a b j=false):clashF s a b=-1:=by
  have:(List.range s.cols.toNat).find? (nearAt s a b)=none:=by
    rw [List.find?_eq_none]
    intro j hj
    rw [List.mem_range] at hj
    simp [h0 j (by omega)]
  unfold clashF
  rw [this]
def clashAt (s:Sheet) (b:List (List Int)) (i:Nat):List Clash:=if clashF s (el b i) (el b (i+1))<0 then [] else [⟨i,(i:Int)+1,clashF s (el b i) (el b (i+1))⟩]
def clashesTo (s:Sheet) (b:List (List Int)) (k:Nat):List Clash:=(List.range k).flatMap (clashAt s b)
theorem clashesTo_succ (s:Sheet) (b:List (List Int)) (k:Nat):clashesTo s b (k+1)=clashesTo s b k++clashAt s b k:=by simp [clashesTo,List.range_succ]
theorem clashesTo_len (s:Sheet) (b:List (List Int)):∀ k,(clashesTo s b k).length≤k
  | 0=>by simp [clashesTo]
  | k+1=>by
    rw [clashesTo_succ,List.length_append]
    have:=clashesTo_len s b k
    have:(clashAt s b k).length≤1:=by unfold clashAt;split<;>simp
    omega
def clashesF (s:Sheet) (b:List (List Int)):List Clash:=clashesTo s b (b.length-1)
theorem clashesTo_yes {s:Sheet}{b:List (List Int)}{k x:Nat}(hx:(x:Int)<s.cols) (h0:∀ j,j<x→nearAt s (el b k) (el b (k+1)) j=false) (h:nearAt s (el b k) (el b (k+1)) x=true):clashesTo s b (k+1)=clashesTo s b k++[⟨k,(k:Int)+1,x⟩]:=by
  have e:=clashF_at hx h0 h
  rw [clashesTo_succ,clashAt,if_neg (by omega),e]
theorem clashesTo_no {s:Sheet}{b:List (List Int)}{k:Nat}(h0:∀ j:Nat,(j:Int)<s.cols→nearAt s (el b k) (el b (k+1)) j=false):clashesTo s b (k+1)=clashesTo s b k:=by
  have e:=clashF_none h0
  rw [clashesTo_succ,clashAt,if_pos (by omega),List.append_nil]
theorem isLine_len {s:Sheet}{l:List Int}(h:isLineB s l=true):(l.length:Int)=s.cols:=(isLineB_iff.1 h).1
theorem isLine_at {s:Sheet}{l:List Int}(h:isLineB s l=true) {j:Nat}(hj:j<l.length):0≤el l j∧el l j≤s.rows-s.weight:=(lineAt_iff.1 ((isLineB_iff.1 h).2 j hj)).1
theorem clashes_p (s:Sheet) (hs:s.ok=true) (b:List (List Int)) (hl:b.all (isLineB s)=true) (h12:b.length≤12):PCalls Tryz.prog 23 [s.enc,encRows b] (·=encClashes (clashesF s b)):=by
  have hb:=Sheet.bounds hs
  refine pcalls_of_aw Tryz.func23 rfl (dc rfl) ?_
  (repeat' (first|(refine ar_isq ?_;refine zq ?_)|(refine ar_buildS (ds:=?ds) (by exact ty rfl) (by exact rfl) (by exact sizes rfl) (by exact rfl) (by exact rfl) (by exact build rfl) (by exact dc rfl) ?hn ?h;(case hn=>(dsimp only [cells_s,cells_emp,cells_agg,cells_list,cells_sl,cells_ptr,cells_ref,cells_fn,cells_vi,cells_vb,cells_vnil,constV,List.map_cons,List.map_nil,List.take_succ_cons,List.take_zero,List.drop_succ_cons,List.drop_zero,List.cons_append,List.nil_append,List.append_nil,LV_cells];exact rfl)))|refine zst ?_|refine aw_drawn (id:=8) [(0,0),(1,0),(2,0),(3,0),(4,0),(5,0),(6,0),(7,0),(8,0),(9,0),(10,0),(11,0),(12,0),(13,0),(14,0),(15,0)] mixed (by kernel_rfl) ?_|refine zco ?_ ?_|exact zd|(refine fun (hg:(_:Prop))=>?_;(try replace hg:=HG.out hg);(try dsimp only at hg);(try (have _h:True:=hg;clear _h hg)))))
  refine aw_for (b.length-1) (fun _=>True) (fun k=>[(1,encRows b),(2,.ptr 5 0 0 0),(5,.sl 3 1 0 (clashesTo s b k).length),(6,vi (k+1))]) (fun k=>[.arr 5 1 (fun _=>s.enc),LB 3 Clash.enc (clashesTo s b k)]) trivial ?_ ?_
  · (exact zsb [some 0,none] [])
  intro k hk _
  by_cases hlt:k+1<b.length
  · have hli:=isLine_len (of_all_el hl hlt)
    have hlj:=isLine_len (of_all_el hl (k:=k) (by omega))
    have hle:=clashesTo_len s b k
    (repeat' (first|(refine ar_isq ?_;refine zq ?_)|refine zil (j:=k+1) ?_|refine zis (j:=k+1) ?_|refine zit (j:=k+1) ?_|refine zil (j:=k) ?_|refine zis (j:=k) ?_|refine zit (j:=k) ?_|(refine ar_buildS (ds:=?ds) (by exact ty rfl) (by exact rfl) (by exact sizes rfl) (by exact rfl) (by exact rfl) (by exact build rfl) (by exact dc rfl) ?hn ?h;(case hn=>(dsimp only [cells_s,cells_emp,cells_agg,cells_list,cells_sl,cells_ptr,cells_ref,cells_fn,cells_vi,cells_vb,cells_vnil,constV,List.map_cons,List.map_nil,List.take_succ_cons,List.take_zero,List.drop_succ_cons,List.drop_zero,List.cons_append,List.nil_append,List.append_nil,LV_cells];exact rfl)))|refine zst ?_|refine aw_drawn (id:=8) [(0,0),(1,0),(2,0),(3,0),(4,0),(5,0),(6,0),(7,0),(8,0),(9,0),(10,0),(11,0),(12,0),(13,0),(14,0),(15,0)] mixed (by kernel_rfl) ?_|refine zco ?_ ?_|exact zd|(refine fun (hg:(_:Prop))=>?_;(try replace hg:=HG.out hg);(try dsimp only at hg);(try (have _h:True:=hg;clear _h hg)))))
    all_goals (try (exfalso;omega))
    refine aw_for (el b (k+1)).length (fun x=>∀ j,j<x→nearAt s (el b k) (el b (k+1)) j=false) (fun x=>[(1,encRows b),(2,.ptr 5 0 0 0),(5,.sl 3 1 0 (clashesTo s b k).length),(6,vi (k+1)),(18,encInts (el b (k+1))),(19,vi (el b (k+1)).length),(20,vi x)]) (fun _=>[.arr 5 1 (fun _=>s.enc),LB 3 Clash.enc (clashesTo s b k)]) (fun j hj=>by omega) ?_ ?_
    · (exact zsb [some 0,some 1] [])
    intro x hx hN
    by_cases hltx:x<(el b (k+1)).length
    · have h1:=isLine_at (of_all_el hl hlt) (j:=x) (by omega)
      have h2:=isLine_at (of_all_el hl (k:=k) (by omega)) (j:=x) (by omega)
      (repeat' (first|(refine ar_isq ?_;refine zq ?_)|refine zil (j:=k) ?_|refine zis (j:=k) ?_|refine zit (j:=k) ?_|refine zil (j:=x) ?_|refine zis (j:=x) ?_|refine zit (j:=x) ?_|(refine ar_buildS (ds:=?ds) (by exact ty rfl) (by exact rfl) (by exact sizes rfl) (by exact rfl) (by exact rfl) (by exact build rfl) (by exact dc rfl) ?hn ?h;(case hn=>(dsimp only [cells_s,cells_emp,cells_agg,cells_list,cells_sl,cells_ptr,cells_ref,cells_fn,cells_vi,cells_vb,cells_vnil,constV,List.map_cons,List.map_nil,List.take_succ_cons,List.take_zero,List.drop_succ_cons,List.drop_zero,List.cons_append,List.nil_append,List.append_nil,LV_cells];exact rfl)))|refine zst ?_|refine aw_drawn (id:=8) [(0,0),(1,0),(2,0),(3,0),(4,0),(5,0),(6,0),(7,0),(8,0),(9,0),(10,0),(11,0),(12,0),(13,0),(14,0),(15,0)] mixed (by kernel_rfl) ?_|refine zco ?_ ?_|exact zd|(refine fun (hg:(_:Prop))=>?_;(try replace hg:=HG.out hg);(try dsimp only at hg);(try (have _h:True:=hg;clear _h hg)))))
      all_goals first
        | (exfalso;omega)
        | (((first|refine loop_next (by omega) ?_ ?_|refine (show _∧_∧SubOf _ _ _ _ _ _ from And.intro (by omega) (And.intro ?_ ?_)));(focus ((exact all_step hN (by simp [nearAt];omega));done));(focus (exact zsb [some 0,some 1] []))))
        | (rw [clashesTo_yes (x:=x) (by omega) hN (by simp [nearAt];omega)];((first|refine loop_next (by omega) ?_ ?_|refine (show _∧_∧SubOf _ _ _ _ _ _ from And.intro (by omega) (And.intro ?_ ?_)));(focus ((trivial);done));(focus (exact zsb [some 0,some 3] []))))
    · (repeat' (first|(refine ar_isq ?_;refine zq ?_)|(refine ar_buildS (ds:=?ds) (by exact ty rfl) (by exact rfl) (by exact sizes rfl) (by exact rfl) (by exact rfl) (by exact build rfl) (by exact dc rfl) ?hn ?h;(case hn=>(dsimp only [cells_s,cells_emp,cells_agg,cells_list,cells_sl,cells_ptr,cells_ref,cells_fn,cells_vi,cells_vb,cells_vnil,constV,List.map_cons,List.map_nil,List.take_succ_cons,List.take_zero,List.drop_succ_cons,List.drop_zero,List.cons_append,List.nil_append,List.append_nil,LV_cells];exact rfl)))|refine zst ?_|refine aw_drawn (id:=8) [(0,0),(1,0),(2,0),(3,0),(4,0),(5,0),(6,0),(7,0),(8,0),(9,0),(10,0),(11,0),(12,0),(13,0),(14,0),(15,0)] mixed (by kernel_rfl) ?_|refine zco ?_ ?_|exact zd|(refine fun (hg:(_:Prop))=>?_;(try replace hg:=HG.out hg);(try dsimp only at hg);(try (have _h:True:=hg;clear _h hg)))))
      all_goals first
        | (exfalso;omega)
        | (rw [clashesTo_no (k:=k) fun j hj=>hN j (by omega)];((first|refine loop_next (by omega) ?_ ?_|refine (show _∧_∧SubOf _ _ _ _ _ _ from And.intro (by omega) (And.intro ?_ ?_)));(focus ((trivial);done));(focus (exact zsb [some 0,some 1] []))))
  · (repeat' (first|(refine ar_isq ?_;refine zq ?_)|(refine ar_buildS (ds:=?ds) (by exact ty rfl) (by exact rfl) (by exact sizes rfl) (by exact rfl) (by exact rfl) (by exact build rfl) (by exact dc rfl) ?hn ?h;(case hn=>(dsimp only [cells_s,cells_emp,cells_agg,cells_list,cells_sl,cells_ptr,cells_ref,cells_fn,cells_vi,cells_vb,cells_vnil,constV,List.map_cons,List.map_nil,List.take_succ_cons,List.take_zero,List.drop_succ_cons,List.drop_zero,List.cons_append,List.nil_append,List.append_nil,LV_cells];exact rfl)))|refine zst ?_|refine aw_drawn (id:=8) [(0,0),(1,0),(2,0),(3,0),(4,0),(5,0),(6,0),(7,0),(8,0),(9,0),(10,0),(11,0),(12,0),(13,0),(14,0),(15,0)] mixed (by kernel_rfl) ?_|refine zco ?_ ?_|exact zd|(refine fun (hg:(_:Prop))=>?_;(try replace hg:=HG.out hg);(try dsimp only at hg);(try (have _h:True:=hg;clear _h hg)))))
    all_goals first
      | (exfalso;omega)
      | ((refine aw_mono_r (env':=[(4,encClashes (clashesTo s b k))]) (H':=[]) ?_ ?_;(focus (exact zsb [] [1])));(refine aw_ret ?_;(repeat (first|refine ret_then ?_|refine ret_block ?_));refine bq1 rfl ⟨?_,rfl⟩);rw [show k=b.length-1 by omega];rfl)
def linesB (s:Sheet) (b:List (List Int)):Bool:=b.all (isLineB s)
def bandB (s:Sheet) (b:List (List Int)):Bool:=decide (b.length≤12)&&linesB s b&&(List.range (b.length-1)).all fun i=>decide (clashF s (el b i) (el b (i+1))<0)
theorem err_ok {s:Sheet}(h:s.ok=true):s.err=0:=by simp [Sheet.err,h]
theorem err_bad {s:Sheet}(h:s.ok=false):s.err=70:=by simp [Sheet.err,h]
theorem clashes_nil {s:Sheet}{b:List (List Int)}:(clashesF s b).length=0↔((List.range (b.length-1)).all fun i=>decide (clashF s (el b i) (el b (i+1))<0))=true:=by
  rw [List.length_eq_zero_iff,clashesF,clashesTo,List.flatMap_eq_nil_iff,List.all_eq_true]
  refine forall_congr' fun i=>forall_congr' fun hi=>?_
  unfold clashAt
  split
  · rename_i h;simp [h]
  · rename_i h;simp [h]
def checkErr (s:Sheet) (b:List (List Int)):Int:=if s.ok then (if bandB s b then 0 else 71) else 70
theorem checkErr_eq {s:Sheet}{b:List (List Int)}(hs:s.ok=true):checkErr s b=if b.length≤12∧linesB s b=true∧(clashesF s b).length=0 then 0 else 71:=by
  unfold checkErr bandB
  rw [if_pos hs]
  simp only [Bool.and_eq_true,decide_eq_true_eq,and_assoc,clashes_nil]
theorem band_of_check {s:Sheet}{b:List (List Int)}(h:checkErr s b=0):s.ok=true∧b.length≤12∧linesB s b=true:=by
  unfold checkErr at h
  cases hs:s.ok
  · rw [hs] at h;simp at h
  · have h':checkErr s b=0:=h
    rw [checkErr_eq hs] at h'
    split at h'
    · rename_i h2;exact ⟨rfl,h2.1,h2.2.1⟩
    · simp at h'
theorem check_p (s:Sheet) (b:List (List Int)):PCalls Tryz.prog 9 [s.enc,encRows b] (·=vi (checkErr s b)):=by
  cases hs:s.ok
  · have he:=err_bad hs
    refine pcalls_of_aw Tryz.func9 rfl (dc rfl) ?_
    (repeat' (first|(refine ar_isq ?_;refine zq ?_)|(refine zpv fn21 (checkSheet_p _) ?_)|refine zg ?_ ?_|refine zgu ?_|refine zst ?_|refine zco ?_ ?_|exact zd|(refine fun (hg:(_:Prop))=>?_;(try replace hg:=HG.out hg);(try dsimp only at hg);(try (have _h:True:=hg;clear _h hg)))))
    all_goals first
      | (exfalso;omega)
      | ((refine aw_ret ?_;(repeat (first|refine ret_then ?_|refine ret_block ?_));refine bq1 rfl ⟨?_,rfl⟩);simp [vi,checkErr,hs,he])
  · have he:=err_ok hs
    refine pcalls_of_aw Tryz.func9 rfl (dc rfl) ?_
    (repeat' (first|(refine ar_isq ?_;refine zq ?_)|(refine zpv fn21 (checkSheet_p _) ?_)|(refine zpv fn22 (lines_p s hs b) ?_)|(refine zpv fn23 (clashes_p s hs b (by assumption) (by omega)) ?_)|refine zg ?_ ?_|refine zgu ?_|refine zst ?_|refine zco ?_ ?_|exact zd|(refine fun (hg:(_:Prop))=>?_;(try replace hg:=HG.out hg);(try dsimp only at hg);(try (have _h:True:=hg;clear _h hg)))))
    all_goals first
      | (exfalso;omega)
      | ((refine aw_ret ?_;(repeat (first|refine ret_then ?_|refine ret_block ?_));refine bq1 rfl ⟨?_,rfl⟩);rw [checkErr_eq hs];first
          | (rw [if_pos ⟨by omega,(show b.all (isLineB s)=true by assumption),by omega⟩];rfl)
          | (rw [if_neg (fun h=>by obtain ⟨h1,h2,h3⟩:=h;first|omega|(have h4:b.all (isLineB s)=true:=h2;simp_all))];rfl))
def dotAt (s:Sheet) (r c:Nat) (l:List Int):Bool:=withinB ((r:Int)-el l c) 0 (s.weight-1)
def dotB (s:Sheet) (b:List (List Int)) (r c:Nat):Bool:=b.any (dotAt s r c)
def pCol (s:Sheet) (m:Bool) (c:Nat):Nat:=if m=true then s.cols.toNat-1-c else c
theorem pCol_lt {s:Sheet}{m:Bool}{c:Nat}(h:c<s.cols.toNat):pCol s m c<s.cols.toNat:=by unfold pCol;split<;>omega
theorem pCol_pCol {s:Sheet}{m:Bool}{c:Nat}(h:c<s.cols.toNat):pCol s m (pCol s m c)=c:=by unfold pCol;split<;>omega
def hitB (s:Sheet) (g:Int) (l:List Int) (r c:Nat):Bool:=decide (el l c-g≤(r:Int))&&decide ((r:Int)≤el l c+s.weight-1+g)
theorem hitB_iff {s:Sheet}{g:Int}{l:List Int}{r c:Nat}:hitB s g l r c=true↔el l c-g≤(r:Int)∧(r:Int)≤el l c+s.weight-1+g:=by simp [hitB]
def proofB (s:Sheet) (b:List (List Int)) (g:Int) (m:Bool) (r c:Nat):Bool:=b.any fun l=>hitB s g l r (pCol s m c)
def proofAt (s:Sheet) (b:List (List Int)) (g:Int) (m:Bool) (j:Nat):Bool:=proofB s b g m (j/s.cols.toNat) (j % s.cols.toNat)
def proofTo (s:Sheet) (b:List (List Int)) (g:Int) (m:Bool) (n:Nat):List Bool:=(List.range n).map (proofAt s b g m)
def proofErr (s:Sheet) (b:List (List Int)) (g:Int):Int:=if checkErr s b=0 then (if withinB g 0 20=true then 0 else 2) else checkErr s b
def proofF (s:Sheet) (b:List (List Int)) (g:Int) (m:Bool):List Bool:=if proofErr s b g=0 then proofTo s b g m (s.rows.toNat*s.cols.toNat) else []
theorem proofTo_len (s:Sheet) (b:List (List Int)) (g:Int) (m:Bool) (n:Nat):(proofTo s b g m n).length=n:=by simp [proofTo]
theorem proofTo_el {s:Sheet}{b:List (List Int)}{g:Int}{m:Bool}{n j:Nat}(h:j<n):el (proofTo s b g m n) j=proofAt s b g m j:=by unfold proofTo;rw [el_map_range h]
theorem proof_idx {s:Sheet}{b:List (List Int)}{g:Int}{m:Bool}{r c:Nat}(h:c<s.cols.toNat):proofAt s b g m (r*s.cols.toNat+c)=proofB s b g m r c:=by
  unfold proofAt
  rw [Nat.add_comm,Nat.add_mul_div_right _ _ (by omega),Nat.div_eq_of_lt h,Nat.zero_add,Nat.add_mul_mod_self_right,Nat.mod_eq_of_lt h]
def stLine (s:Sheet) (b:List (List Int)) (g:Int) (m:Bool) (i j:Nat):Bool:=(b.take i).any fun l=>hitB s g l (j/s.cols.toNat) (pCol s m (j % s.cols.toNat))
def stCol (s:Sheet) (b:List (List Int)) (g:Int) (m:Bool) (i c j:Nat):Bool:=stLine s b g m i j||(decide (pCol s m (j % s.cols.toNat)<c)&&hitB s g (el b i) (j/s.cols.toNat) (pCol s m (j % s.cols.toNat)))
def stRow (s:Sheet) (b:List (List Int)) (g:Int) (m:Bool) (i c r j:Nat):Bool:=stCol s b g m i c j||(decide (pCol s m (j % s.cols.toNat)=c)&&(decide (j/s.cols.toNat<r)&&hitB s g (el b i) (j/s.cols.toNat) c))
theorem stCol_zero (s:Sheet) (b:List (List Int)) (g:Int) (m:Bool) (i j:Nat):stCol s b g m i 0 j=stLine s b g m i j:=by simp [stCol]
theorem stRow_zero {s:Sheet}{b:List (List Int)}{g:Int}{m:Bool}{i c r j:Nat}(h:(r:Int)≤max (el (el b i) c-g) 0):stRow s b g m i c r j=stCol s b g m i c j:=by
  unfold stRow
  generalize j/s.cols.toNat=q
  cases hx:hitB s g (el b i) q c
  · simp
  · rw [hitB_iff] at hx
    rw [show decide (q<r)=false by simp;omega]
    simp
theorem stRow_succ {s:Sheet}{b:List (List Int)}{g:Int}{m:Bool}{i c r j:Nat}(hc:c<s.cols.toNat) (h1:el (el b i) c-g≤(r:Int)) (h2:(r:Int)≤el (el b i) c+s.weight-1+g) :
    (bif Nat.beq j (r*s.cols.toNat+pCol s m c) then true else stRow s b g m i c r j)=stRow s b g m i c (r+1) j:=by
  have hp:=pCol_lt (m:=m) hc
  by_cases e:j=r*s.cols.toNat+pCol s m c
  · have ed:j/s.cols.toNat=r:=by rw [e,Nat.add_comm,Nat.add_mul_div_right _ _ (by omega),Nat.div_eq_of_lt hp,Nat.zero_add]
    have em:j % s.cols.toNat=pCol s m c:=by rw [e,Nat.add_comm,Nat.add_mul_mod_self_right,Nat.mod_eq_of_lt hp]
    rw [show Nat.beq j (r*s.cols.toNat+pCol s m c)=true by rw [e];simp]
    unfold stRow
    rw [ed,em,pCol_pCol hc,hitB_iff.2 ⟨h1,h2⟩]
    simp
  · have eb:Nat.beq j (r*s.cols.toNat+pCol s m c)=false:=by cases q:Nat.beq j (r*s.cols.toNat+pCol s m c) with|false=>rfl|true=>exact (e (Nat.eq_of_beq_eq_true q)).elim
    rw [eb]
    show stRow s b g m i c r j=stRow s b g m i c (r+1) j
    unfold stRow
    by_cases hq:pCol s m (j % s.cols.toNat)=c
    · have hne:j/s.cols.toNat≠r:=fun hd=>e (by
        have h3:=Nat.div_add_mod' j s.cols.toNat
        rw [hd] at h3
        have h4:j % s.cols.toNat=pCol s m c:=by rw [← hq,pCol_pCol (Nat.mod_lt _ (by omega))]
        rw [h4] at h3
        exact h3.symm)
      rw [show decide (j/s.cols.toNat<r+1)=decide (j/s.cols.toNat<r) by simp;omega]
    · simp [hq]
theorem stRow_end {s:Sheet}{b:List (List Int)}{g:Int}{m:Bool}{i c r j:Nat}(hj:(j/s.cols.toNat:Nat)<s.rows) (h:min (el (el b i) c+s.weight-1+g) (s.rows-1)<(r:Int)):stRow s b g m i c r j=stCol s b g m i (c+1) j:=by
  unfold stRow stCol
  generalize j/s.cols.toNat=q at hj ⊢
  by_cases hq:pCol s m (j % s.cols.toNat)=c
  · cases hx:hitB s g (el b i) q c
    · rw [hq,hx];simp
    · have hx':=hitB_iff.1 hx
      rw [hq,hx,show decide (q<r)=true by simp;omega]
      simp
  · rw [show decide (pCol s m (j % s.cols.toNat)<c+1)=decide (pCol s m (j % s.cols.toNat)<c) by simp;omega]
    simp [hq]
theorem stCol_end {s:Sheet}{b:List (List Int)}{g:Int}{m:Bool}{i c j:Nat}(hc:s.cols.toNat≤c) (h0:0<s.cols.toNat) (hi:i<b.length):stCol s b g m i c j=stLine s b g m (i+1) j:=by
  unfold stCol stLine
  have:=pCol_lt (s:=s) (m:=m) (Nat.mod_lt j h0)
  rw [show decide (pCol s m (j % s.cols.toNat)<c)=true by simp;omega,List.take_succ_eq_append_getElem hi,List.any_append,el_eq hi]
  simp
theorem stLine_end {s:Sheet}{b:List (List Int)}{g:Int}{m:Bool}{i j:Nat}(hi:b.length≤i):stLine s b g m i j=proofAt s b g m j:=by
  unfold stLine proofAt proofB
  rw [List.take_of_length_le hi]
def gapAt (s:Sheet) (b:List (List Int)) (i c:Nat):Int:=el (el b (i+1)) c-el (el b i) c-s.weight
def gapRow (s:Sheet) (b:List (List Int)) (i:Nat) (x:Int) (n:Nat):Int:=(List.range n).foldl (fun a c=>min a (gapAt s b i c)) x
def gapTo (s:Sheet) (b:List (List Int)) (k:Nat):Int:=(List.range k).foldl (fun a i=>gapRow s b i a s.cols.toNat) s.rows
theorem gapRow_succ (s:Sheet) (b:List (List Int)) (i:Nat) (x:Int) (n:Nat):gapRow s b i x (n+1)=min (gapRow s b i x n) (gapAt s b i n):=by simp [gapRow,List.range_succ]
theorem gapTo_succ (s:Sheet) (b:List (List Int)) (k:Nat):gapTo s b (k+1)=gapRow s b k (gapTo s b k) s.cols.toNat:=by simp [gapTo,List.range_succ]
theorem gapRow_bnd {s:Sheet}{b:List (List Int)}{i:Nat}{x:Int}(hx:0≤x∧x≤s.rows):∀ n,(∀ c,c<n→0≤gapAt s b i c)→0≤gapRow s b i x n∧gapRow s b i x n≤s.rows
  | 0,_=>hx
  | n+1,h=>by
    have ih:=gapRow_bnd (i:=i) hx n (fun c hc=>h c (by omega))
    have:=h n (by omega)
    rw [gapRow_succ]
    omega
theorem gapTo_bnd {s:Sheet}{b:List (List Int)}(h0:0≤s.rows):∀ k,(∀ i c,i<k→c<s.cols.toNat→0≤gapAt s b i c)→0≤gapTo s b k∧gapTo s b k≤s.rows
  | 0,_=>⟨h0,Int.le_refl _⟩
  | k+1,h=>by
    rw [gapTo_succ]
    exact gapRow_bnd (gapTo_bnd h0 k fun i c hi hc=>h i c (by omega) hc) _ fun c hc=>h k c (by omega) hc
theorem near_no {s:Sheet}{x y:List Int}(h:clashF s x y<0) {j:Nat}(hj:(j:Int)<s.cols):nearAt s x y j=false:=by
  unfold clashF at h
  split at h
  · omega
  · rename_i hf
    rw [List.find?_eq_none] at hf
    have:=hf j (by simp;omega)
    simpa using this
theorem gap_pos {s:Sheet}{b:List (List Int)}(h:checkErr s b=0) {i c:Nat}(hi:i<b.length-1) (hc:c<s.cols.toNat):0≤gapAt s b i c:=by
  have hb:=Sheet.bounds (band_of_check h).1
  have hbd:bandB s b=true:=by
    unfold checkErr at h
    rw [if_pos (band_of_check h).1] at h
    split at h
    · assumption
    · omega
  unfold bandB at hbd
  simp only [Bool.and_eq_true,List.all_eq_true,List.mem_range,decide_eq_true_eq] at hbd
  have:=near_no (hbd.2 i hi) (j:=c) (by omega)
  simp only [nearAt,decide_eq_false_iff_not] at this
  unfold gapAt
  omega
def gapErr (s:Sheet) (b:List (List Int)):Int:=if checkErr s b=0 then (if b.length<2 then 6 else 0) else checkErr s b
def gapF (s:Sheet) (b:List (List Int)):Int:=if gapErr s b=0 then gapTo s b (b.length-1) else 0
theorem gap_ok {s:Sheet}{b:List (List Int)}(h:gapErr s b=0):checkErr s b=0∧2≤b.length∧0≤gapF s b∧gapF s b≤60:=by
  have h0:=h
  unfold gapErr at h
  split at h
  · rename_i hc
    split at h
    · omega
    · have hb:=Sheet.bounds (band_of_check hc).1
      have:=gapTo_bnd (s:=s) (b:=b) (by omega) (b.length-1) fun i c hi hcc=>gap_pos hc hi hcc
      unfold gapF
      rw [if_pos h0]
      exact ⟨hc,by omega,this.1,by omega⟩
  · omega
def lastErr (s:Sheet) (b:List (List Int)) (per:Int):Int:=if gapErr s b=0 then (if withinB per 1 1000=true then (if gapF s b=0 then 6 else 0) else 2) else gapErr s b
def lastF (s:Sheet) (b:List (List Int)) (per:Int):Int:=if lastErr s b per=0 then (gapF s b+1)/2*per-1 else 0
structure Dsn where
  owner:Int
  sheet:Sheet
  band:List (List Int)
instance:Inhabited Dsn:=⟨⟨0,⟨0,0,0,0,0⟩,[]⟩⟩
structure Lic where
  design:Int
  client:Int
  til:Int
  left:Int
instance:Inhabited Lic:=⟨⟨0,0,0,0⟩⟩
structure Ordr where
  client:Int
  design:Int
  need:Int
  done:Bool
instance:Inhabited Ordr:=⟨⟨0,0,0,false⟩⟩
structure Hse where
  per:Int
  day:Int
  store:Sto
  designs:List Dsn
  lics:List Lic
  orders:List Ordr
  made:List Int
  fors:List Int
structure Job where
  kind:Int
  client:Int
  design:Int
  order:Int
  n:Int
  til:Int
  act:Deed
  sheet:Sheet
  band:List (List Int)
instance:Inhabited Job:=⟨⟨0,0,0,0,0,0,⟨0,0,0,0⟩,⟨0,0,0,0,0⟩,[]⟩⟩
def Dsn.enc (d:Dsn):V:=.agg [vi d.owner,vi d.sheet.cols,vi d.sheet.rows,vi d.sheet.weight,vi d.sheet.clear,vi d.sheet.lean,encRows d.band]
def Lic.enc (l:Lic):V:=.agg [vi l.design,vi l.client,vi l.til,vi l.left]
def Ordr.enc (o:Ordr):V:=.agg [vi o.client,vi o.design,vi o.need,vb o.done]
abbrev encDsns (l:List Dsn):V:=LV 7 Dsn.enc l
abbrev encLics (l:List Lic):V:=LV 4 Lic.enc l
abbrev encOrders (l:List Ordr):V:=LV 4 Ordr.enc l
def Hse.enc (h:Hse):V:=.agg [vi h.per,vi h.day,vi h.store.life,encItems h.store.items,encPrints h.store.prints,encDsns h.designs,encLics h.lics,encOrders h.orders,encInts h.made,encInts h.fors]
def Job.enc (j:Job):V:=.agg [vu8 j.kind,vi j.client,vi j.design,vi j.order,vi j.n,vi j.til,vu8 j.act.kind,vi j.act.item,vi j.act.dest,vi j.act.n,vi j.sheet.cols,vi j.sheet.rows,vi j.sheet.weight,vi j.sheet.clear,vi j.sheet.lean,encRows j.band]
abbrev encJobs (l:List Job):V:=LV 16 Job.enc l
def GoodD (d:Dsn):Prop:=(0≤d.owner∧d.owner≤50)∧d.band.length≠0∧checkErr d.sheet d.band=0∧(gapErr d.sheet d.band≠0∨0<gapF d.sheet d.band)
instance (d:Dsn):Decidable (GoodD d):=by unfold GoodD;infer_instance
def allowsF (per life:Int) (d:Dsn):Int:=if lastErr d.sheet d.band per=0 then lastF d.sheet d.band per+1 else life
def inDesigns (h:Hse) (n:Int):Prop:=0≤n∧n<(h.designs.length:Int)
def inOrders (h:Hse) (n:Int):Prop:=0≤n∧n<(h.orders.length:Int)
instance (h:Hse) (n:Int):Decidable (inDesigns h n):=by unfold inDesigns;infer_instance
instance (h:Hse) (n:Int):Decidable (inOrders h n):=by unfold inOrders;infer_instance
def LicOk (h:Hse) (l:Lic):Prop:=inDesigns h l.design∧(0≤l.client∧l.client≤50)∧l.client≠(el h.designs l.design.toNat).owner∧(0≤l.til∧l.til≤10000)∧(0≤l.left∧l.left≤400)
instance (h:Hse) (l:Lic):Decidable (LicOk h l):=by unfold LicOk;infer_instance
def MadeAt (h:Hse) (i:Nat):Prop:=inDesigns h (el h.made i)∧((el h.store.items i).kind≠1→el h.made i=el h.made (el h.store.items i).src.toNat)∧((el h.store.items i).kind=3→(el h.store.items i).uses≤allowsF h.per h.store.life (el h.designs (el h.made i).toNat))
instance (h:Hse) (i:Nat):Decidable (MadeAt h i):=by unfold MadeAt;infer_instance
def ForAt (h:Hse) (j:Nat):Prop:=inOrders h (el h.fors j)∧(el h.orders (el h.fors j).toNat).design=el h.made (el h.store.prints j).plate.toNat
instance (h:Hse) (j:Nat):Decidable (ForAt h j):=by unfold ForAt;infer_instance
def doneTo (h:Hse) (n st:Int) (k:Nat):Int:=cntB (fun j=>decide (el h.fors j=n)&&decide ((el h.store.prints j).state=st)) k
def doneF (h:Hse) (n st:Int):Int:=doneTo h n st h.fors.length
def OrdAt (h:Hse) (i:Nat):Prop:=(0≤(el h.orders i).client∧(el h.orders i).client≤50)∧inDesigns h (el h.orders i).design∧(1≤(el h.orders i).need∧(el h.orders i).need≤400)∧((el h.orders i).done=true→doneF h i 0=0∧doneF h i 1=(el h.orders i).need)∧((el h.orders i).done=false→doneF h i 1=0∧doneF h i 0≤(el h.orders i).need)
instance (h:Hse) (i:Nat):Decidable (OrdAt h i):=by unfold OrdAt;infer_instance
structure HValid (h:Hse):Prop where
  per:1≤h.per∧h.per≤1000
  day:0≤h.day∧h.day≤10000
  store:Valid h.store
  few:h.designs.length≤8∧h.lics.length≤20∧h.orders.length≤30
  designs:∀ i,i<h.designs.length→GoodD (el h.designs i)
  lics:∀ i,i<h.lics.length→LicOk h (el h.lics i)
  mades:h.made.length=h.store.items.length
  made:∀ i,i<h.store.items.length→MadeAt h i
  forss:h.fors.length=h.store.prints.length
  fors:∀ j,j<h.fors.length→ForAt h j
  orders:∀ i,i<h.orders.length→OrdAt h i
theorem ar_buildT {P:Program}{r:Option Nat}{m nt i dst:Nat}{Q:Post}{env:Env}{H:Heap}{ops:Array Oper}{l:List Stp}{ty T:TypeId}{pos:String}{after:Array Edge}{d:TyD}{parts:Array (Nat × Operand)}{fs:List (TypeId × Nat)}{ns:List Nat}{vs:List (Nat × V)}{ds0:List V}
    (h:∀ ds,ds0=ds→AR P r m nt ops Q l ((dst,.agg ds)::env) H) (ht:TyIs P T d) (hk:d.tk=.struct fs) (hs:SizesAre P fs ns) (hz:(constV d.zero).ok=true)
    (hv:parts.toList.mapM (fun p=>(eo env p.2).map fun v=>(p.1,v))=some vs) (hb:BuildR (fun k=>(List.zip (fs.map (·.2)) ns)[k]?) (constV d.zero).cells vs ds0) (hd:dst<nt):AR P r m nt ops Q (.q i ⟨some dst,.build T parts,ty,pos,after,none⟩::l) env H :=
  ar_buildS ht hk hs hz hv hb hd rfl (h _ rfl)
structure Nrm (a b:List V):Prop where
  eq:a=b
theorem zbt {r:Option Nat}{m nt i dst:Nat}{Q:Post}{env:Env}{H:Heap}{ops:Array Oper}{l:List Stp}{ty T:TypeId}{pos:String}{after:Array Edge}{d:TyD}{parts:Array (Nat × Operand)}{fs:List (TypeId × Nat)}{ns:List Nat}{vs:List (Nat × V)}{ds0:List V}{ds:List V}(h:AR Tryz.prog r m nt ops Q l ((dst,.agg ds)::env) H) (ht:TyIs Tryz.prog T d:=by exact ty rfl) (hk:d.tk=.struct fs:=by exact rfl) (hs:SizesAre Tryz.prog fs ns:=by exact sizes rfl) (hz:(constV d.zero).ok=true:=by exact rfl) (hv:parts.toList.mapM (fun p=>(eo env p.2).map fun v=>(p.1,v))=some vs:=by exact rfl) (hb:BuildR (fun k=>(List.zip (fs.map (·.2)) ns)[k]?) (constV d.zero).cells vs ds0:=by exact build rfl) (hn:Nrm ds0 ds:=by ((try dsimp only [List.toList_toArray,cells_s,cells_emp,cells_agg,cells_list,cells_sl,cells_ptr,cells_ref,cells_fn,cells_vi,cells_vb,cells_vnil,constV,List.map_cons,List.map_nil,List.take_succ_cons,List.take_zero,List.drop_succ_cons,List.drop_zero,List.cons_append,List.nil_append,List.append_nil,LV_cells]);(try dsimp only [cells_s,cells_emp,cells_agg,cells_list,cells_sl,cells_ptr,cells_ref,cells_fn,cells_vi,cells_vb,cells_vnil,constV,List.map_cons,List.map_nil,List.take_succ_cons,List.take_zero,List.drop_succ_cons,List.drop_zero,List.cons_append,List.nil_append,List.append_nil,LV_cells]);exact ⟨rfl⟩)) (hd:dst<nt:=by exact dc rfl):AR Tryz.prog r m nt ops Q (.q i ⟨some dst,.build T parts,ty,pos,after,none⟩::l) env H:=ar_buildT (fun _ hds=>by subst hds;have e:=hn.eq;subst e;exact h) ht hk hs hz hv hb hd
section
variable {H:Heap}{σ:List (Option Nat)}{fr:Nat→Prop}
def VSubsL (H:Heap) (σ:List (Option Nat)) (fr:Nat→Prop):List V→List V→Prop
  | [],[]=>True
  | v::l,x::m=>VSub H σ fr v x∧VSubsL H σ fr l m
  | _,_=>False
theorem vsubsL_len:∀ {l m:List V},VSubsL H σ fr l m→l.length=m.length
  | [],[],_=>rfl
  | _::l,_::m,h=>by simp [vsubsL_len (l:=l) (m:=m) h.2]
  | [],_::_,h=>h.elim
  | _::_,[],h=>h.elim
theorem vsubsL_get:∀ {l m:List V},VSubsL H σ fr l m→∀ (j:Nat) v x,l[j]?=some v→m[j]?=some x→VSub H σ fr v x
  | [],[],_,j,v,x,h,_=>by simp at h
  | a::l,b::m,h,j,v,x,h1,h2=>by
    cases j with
    | zero=>simp at h1 h2;subst h1 h2;exact h.1
    | succ j=>exact vsubsL_get h.2 j v x (by simpa using h1) (by simpa using h2)
  | [],_::_,h,_,_,_,_,_=>h.elim
  | _::_,[],h,_,_,_,_,_=>h.elim
theorem VSub.aggL {cs ds:List V}(h:VSubsL H σ fr cs ds):VSub H σ fr (.agg cs) (.agg ds):=.agg (vsubsL_len h) (vsubsL_get h)
theorem VSub.tupL {cs ds:List V}(h:VSubsL H σ fr cs ds):VSub H σ fr (.tup cs) (.tup ds):=.tup (vsubsL_len h) (vsubsL_get h)
theorem bsub_mapE {α:Type}{k b:Nat}{e:α→V}{l:List (Int × α)}(h:σ[k]?=some (some b)) (hb:H[b]?=some (mapE e l)) (hc:∀ y,(e y).closed=true):BSub H σ fr k (mapE e l) :=
  ⟨b,_,h,hb,rfl,fun i x y hx hy=>by
    rw [hx] at hy
    cases hy
    refine ⟨rfl,.closed ?_⟩
    simp only [entsE,List.getElem?_map,Option.map_eq_some_iff] at hx
    obtain ⟨p,_,rfl⟩:=hx
    exact hc _⟩
theorem vza {H:Heap}{σ:List (Option Nat)}{fr:Nat→Prop}{cs ds:List V}(h:VSubsL H σ fr cs ds:=by ((repeat' (first|exact trivial|refine ⟨?_,?_⟩|exact vz1|fail));first|done|fail)):VSub H σ fr (.agg cs) (.agg ds):=VSub.aggL h
theorem vzt {H:Heap}{σ:List (Option Nat)}{fr:Nat→Prop}{cs ds:List V}(h:VSubsL H σ fr cs ds:=by ((repeat' (first|exact trivial|refine ⟨?_,?_⟩|exact vz1|exact vza|fail));first|done|fail)):VSub H σ fr (.tup cs) (.tup ds):=VSub.tupL h
theorem zsc {m nt:Nat}{env env0:Env}{H H0:Heap}(σ:List (Option Nat)) (fr:List Nat) (h:(Nat.beq σ.length H0.length&&preB m σ&&injB σ&&apartB fr σ)=true:=by exact rfl) (he:EnvSub H σ (·∈fr) env env0:=by ((repeat' (first|exact trivial|refine ⟨⟨_,rfl,?_⟩,?_⟩|refine vs1 ?_ ?_|refine vs2 ?_ ?_|refine vs3 ?_|refine vs4 ?_ ?_|refine ⟨.inl ⟨_,_,rfl,rfl,?_⟩,?_⟩|exact ⟨.inr ⟨rfl,rfl⟩,trivial⟩|refine ⟨.inr ⟨rfl,rfl⟩,?_⟩|(intro _ _)|exact vz1|refine ⟨trivial,?_⟩|refine ⟨bsub_mapE rfl rfl (fun _=>rfl),?_⟩|exact vza|exact vzt|exact vz2|fail));first|done|fail)) (hh:HSub H σ (·∈fr) 0 H0:=by ((repeat' (first|exact trivial|refine ⟨⟨_,rfl,?_⟩,?_⟩|refine vs1 ?_ ?_|refine vs2 ?_ ?_|refine vs3 ?_|refine vs4 ?_ ?_|refine ⟨.inl ⟨_,_,rfl,rfl,?_⟩,?_⟩|exact ⟨.inr ⟨rfl,rfl⟩,trivial⟩|refine ⟨.inr ⟨rfl,rfl⟩,?_⟩|(intro _ _)|exact vz1|refine ⟨trivial,?_⟩|refine ⟨bsub_mapE rfl rfl (fun _=>rfl),?_⟩|exact vza|exact vzt|exact vz2|fail));first|done|fail)):SubOf m nt env H env0 H0:=sub_to σ fr h he hh
theorem bsub_mapE' {α:Type}{k b:Nat}{e:α→V}{l l':List (Int × α)}(h:σ[k]?=some (some b)) (hb:H[b]?=some (mapE e l)) (hl:l'=l) (hc:∀ y,(e y).closed=true):BSub H σ fr k (mapE e l'):=by
  subst hl
  exact bsub_mapE h hb hc
theorem joinAt_nil {r:Nat→Nat}{H1:Heap}:∀ {H:Heap}{k:Nat},joinAt [] [] r H1 k H=H
  | [],_=>rfl
  | b::l,k=>by
    simp only [joinAt,joinAt_nil (H:=l)]
    rfl
theorem joinH_nil {H H1:Heap}:joinH [] [] H H1=H++H1.map (Blk.ren (rn [] H.length)):=by
  unfold joinH
  rw [joinAt_nil]
  rfl
end
section
variable {P:Program}{r:Option Nat}{m nt:Nat}{Q:Post}{env:Env}{H:Heap}{ops:Array Oper}{l:List Stp}{ty:TypeId}{pos:String}{after:Array Edge}
theorem ar_gcall0 {i d:Nat}{fo:Operand}{args:List Operand}{ats:Array TypeId}{f:FuncId}{first cap vs:List V}{R Rp:V→Heap→Prop}(hfn:FnOk P f) (hf:eo env fo=some (.fn (.func f) first cap)) (hargs:args.mapM (eo env)=some vs)
    (xs:List V) (ha:ArgsSub H [] [] (first++vs++cap) xs) (h:ACalls P f xs [] R Rp) (hd:d<nt)
    (hk:∀ v1 H1,R v1 H1→AR P r m nt ops Q l ((d,v1.ren (rn [] H.length))::env) (H++H1.map (Blk.ren (rn [] H.length)))) (hp:∀ v1 H1,Rp v1 H1→Q (.panic (v1.ren (rn [] H.length))) [] (H++H1.map (Blk.ren (rn [] H.length)))) :
    AR P r m nt ops Q (.l i ⟨some d,.call ⟨.value fo,args.toArray,ats⟩,ty,pos,after,none⟩ false::l) env H :=
  ar_gcall (H0:=[]) [] [] hfn hf hargs ha rfl List.nodup_nil (fun _ h=>by cases h) trivial (fun _ h=>by cases h) h hd (fun v1 H1 hR=>by rw [joinH_nil];exact hk v1 H1 hR) (fun v1 H1 hR=>by rw [joinH_nil];exact hp v1 H1 hR)
end
theorem sub_pre {m nt t sz b:Nat}{env:Env}{H:Heap}(cs ds:List V) (ht:look env t=some (.ptr sz b 0 0)) (hb:H[b]?=some (.arr sz 1 (fun _=>.agg (cs++ds)))) (hc:V.closed.all cs=true) :
    SubK m nt env H ((t,.ref (.agg cs) 0)::env) (H.set b .dead):=.mk fun X I ρ a w _ ⟨hE,hw,hd⟩=>by
  obtain ⟨h1,h2⟩:=hE.2 t _ ht
  obtain ⟨cb,z,hu,hx⟩:=h2.ptr_inv
  have hL:Live H ρ cb:=⟨b,_,hb,by simp,z,hx⟩
  have hI:=know_le (o:=w.heap[cb]?) (hw.apart cb hL)
  obtain ⟨us,ty,hcs,hz,hn,hr⟩:=hw.arr _ _ _ _ _ _ hb hx
  refine ⟨know I cb (w.heap[cb]?),ρ,hI,⟨⟨hE.1,fun t' v hv=>?_⟩,hw.forget hb (by simp) hx,hd.mono hI⟩,fun y hy=>?_⟩
  · rw [look_cons] at hv
    split at hv
    · rename_i e;subst e;cases hv
      refine ⟨h1,?_⟩
      rw [hu,Nat.zero_mul]
      have hcell:∀ (j:Nat) x,cs[j]?=some x→∃ u,us[j]?=some u∧VRel I ρ x u:=fun j x hj=>by
        have hlt:=(List.getElem?_eq_some_iff.1 hj).1
        obtain ⟨u,h3,h4⟩:=hr 0 j x Nat.one_pos (by show (cs++ds)[j]?=_;rw [List.getElem?_append_left hlt];exact hj)
        exact ⟨u,by simpa using h3,h4⟩
      refine .ref (us:=fun j=>us.getD j undef) ⟨us,ty,(0,0),by rw [know_at];exact hcs,fun j hj=>?_⟩ fun j x hj=>?_
      · have hj:j<cs.length:=hj
        obtain ⟨u,h3,_⟩:=hcell j cs[j] (by simp [hj])
        simp [h3]
      · have hj:cs[j]?=some x:=hj
        obtain ⟨u,h3,h4⟩:=hcell j x hj
        rw [show us.getD j undef=u by simp [h3]]
        exact (h4.close (closed_all hc hj)).mono hI (Pre.refl _)
    · obtain ⟨h3,h4⟩:=hE.2 t' v hv
      exact ⟨h3,h4.mono hI (Pre.refl _)⟩
  · obtain ⟨y1,y2,y3⟩:=hy
    refine ⟨fun c o hc=>y1 c o (hI c o hc),fun k sz' n' f' b' z' hk hρ o ho=>?_,fun k mm b' z' hk hρ=>?_⟩
    · by_cases e:k=b
      · subst e
        rw [hx] at hρ
        cases hρ
        have:=y1 cb _ (by rw [know_at];exact hcs)
        simp [World.cell?,this,hcs]
      · exact y2 k sz' n' f' b' z' (by rw [List.getElem?_set_ne (Ne.symm e)];exact hk) hρ o ho
    · refine y3 k mm b' z' ?_ hρ
      by_cases e:k=b
      · subst e;rw [hb] at hk;cases hk
      · rw [List.getElem?_set_ne (Ne.symm e)];exact hk
section
variable {P:Program}{r:Option Nat}{m nt:Nat}{Q:Post}{env:Env}{H:Heap}{ops:Array Oper}{l:List Stp}{ty:TypeId}{pos:String}{after:Array Edge}{T:TypeId}{d:TyD}{x:Operand}{v:V}{dst:Option Tmp}{guard:Option (Nat × Bool)}{keep:Bool}
theorem qs_makeInterface {k:IntKind}(ht:TyIs P T d) (hk:d.tk=.int k) (hx:eo env x=some v):QS P nt env H ⟨dst,.makeInterface T x,ty,pos,after,guard⟩ (.iface T v):=.mk
  fun _ I ρ a w h _=>⟨_,.iface (eo_rel h hx),fun w' _=>by simp [execOp,Instr.makeInterface,run_underlying (ht.intk hk)]⟩
theorem ls_panic {t:TypeId}(hx:eo env x=some (.iface t v)):LS P r m nt keep env H ⟨none,.panic x,ty,pos,after,guard⟩ (fun _ _=>False) (fun u H'=>u=.iface t v∧H'=H):=.mk
  fun X I ρ a w next Qx hX hs hk hp=>by
    have h1:=eo_rel hs.1 hx
    cases h1':a.eval x<;>rw [h1'] at h1<;>cases h1
    rename_i u hu
    have hr:∀ w,(Instr.panic (.iface t u)).run P w=.halt (.panic (.iface t u)) w:=fun _=>rfl
    refine wpIn_of_run (res:=.halt (.panic (.iface t u)) w) (by simp) (by simp [execOp,h1',hr]) ?_
    exact hp I ρ H _ _ w ⟨rfl,rfl⟩ (Imm.le_refl _) hs.2.1 (.iface hu)
theorem ar_panic {i:Nat}{t:TypeId}(hx:eo env x=some (.iface t v)) (h:Q (.panic (.iface t v)) [] H):AR P r m nt ops Q (.l i ⟨none,.panic x,ty,pos,after,none⟩ keep::l) env H :=
  ar_l0 (ls_panic hx) (fun _ _ h=>h.elim) (fun u H' ⟨a,b⟩=>by subst a;subst b;exact h)
end
def subQ (m nt:Nat) (Q:Post):Post
  | .panic v,env,H=>Q (.panic v) env H
  | .normal,env,H=>∃ env' H',SubOf m nt env H env' H'∧Q .normal env' H'
  | .ret,env,H=>∃ env' H',SubOf m nt env H env' H'∧Q .ret env' H'
  | .exit k,env,H=>Q (.exit k) env H
  | .goto k,env,H=>Q (.goto k) env H
section
variable {P:Program}{r:Option Nat}{m nt:Nat}{Q:Post}{env env':Env}{H H':Heap}
theorem aw_post {c:Code}(h:AW P r m nt c (subQ m nt Q) env H):AW P r m nt c Q env H:=.mk fun X I ρ a w hX hs=>by
  refine wpIn_mono (h.1 X I ρ a w hX hs) fun e a' w' hl=>?_
  cases e with
  | normal =>
    obtain ⟨env1,H1,I1,ρ1,h1,env2,H2,h2,h3⟩:=hl
    obtain ⟨I2,ρ2,_,h4⟩:=h2.1 X I1 ρ1 a' w' hX h1
    exact ⟨env2,H2,I2,ρ2,h4,h3⟩
  | ret =>
    obtain ⟨env1,H1,I1,ρ1,h1,env2,H2,h2,h3⟩:=hl
    obtain ⟨I2,ρ2,_,h4⟩:=h2.1 X I1 ρ1 a' w' hX h1
    exact ⟨env2,H2,I2,ρ2,h4,h3⟩
  | exit k=>exact hl
  | goto k=>exact hl
  | panic ch=>exact hl
  | outgrown=>exact hl
theorem subq_n (env':Env) (H':Heap) (h:SubOf m nt env H env' H') (k:Q .normal env' H'):subQ m nt Q .normal env H:=⟨_,_,h,k⟩
end
section
variable {P:Program}{r:Option Nat}{m nt:Nat}{Q:Post}{env:Env}{H:Heap}{ops:Array Oper}{l:List Stp}{ty:TypeId}{pos:String}{after:Array Edge}{x y:Operand}{T T2 E:TypeId}{d de:TyD}{dst:Option Tmp}{guard:Option (Nat × Bool)}
theorem run_copy_rowN {w:World}{ii:TypeInfo}{cb o n c k cap:Nat}{ad:Addr}{cs:Array Value}{t:TypeId}{news:List Value}(hu:P.underlying T=some (.slice E)) (hi:P.info? E=some ii) (hg:w.heap[cb]?=some (.cells cs t (0,0))) (hn:news.length=Nat.min k n*ii.size)
    (hsrc:∀ j v,news[j]?=some v→w.cell? (ad.add j)=some v) (hfit:o+news.length≤cs.size) (h1:∀ v∈news,v.oneCell'=true) :
    (Builtin.copy_ #[T,T2] ty #[.slice (some ⟨cb,o,none⟩) n c,.slice (some ad) k cap]).run P w=.ok (goInt (Nat.min k n)) (w.setRow cb (cs.toList.take o++news++cs.toList.drop (o+news.length)).toArray):=by
  have hl:=run_firstCells_some (P:=P) w ii.size (Nat.min k n) ad k cap news hn hsrc
  have hst:=run_storeCells_at P cb o t news 0 cs w hg (by simpa using hfit) h1
  simp only [Nat.add_zero] at hst
  simp [Builtin.copy_,run_underlying hu,Builtin.lenOf,sizeOf,typeInfo,hi,hl,hst]
theorem run_copy_noneN {w:World}{ii:TypeInfo}{A B:Option Addr}{n c k cap:Nat}(hu:P.underlying T=some (.slice E)) (hi:P.info? E=some ii) (hn:Nat.min k n=0) :
    (Builtin.copy_ #[T,T2] ty #[.slice A n c,.slice B k cap]).run P w=.ok (goInt 0) w:=by
  have h:=firstCells_run (P:=P) (w:=w) (size:=ii.size) (k:=0) (cap:=cap) (A:=B) (news:=[]) (by simp) (fun h=>by omega)
  have h':(Builtin.firstCells ii.size 0 (.slice B k cap)).run P w=.ok #[] w:=by cases B<;>simp [Builtin.firstCells,loadCells,loadCellsFrom]
  cases A<;>simp [Builtin.copy_,run_underlying hu,Builtin.lenOf,sizeOf,typeInfo,hi,hn,h',storeCells]
theorem ls_copyN {yv:V}{sz b i n N k:Nat}{f g:Nat→V}(ht:TyIs P T d) (hk:d.tk=.slice E) (he:TyIs P E de) (hs1:de.size=sz) (hx:eo env x=some (.sl sz b i n)) (hH:H[b]?=some (.arr sz N f)) (hN:i+n≤N) (hy:eo env y=some yv) (hs:Src H yv sz k g)
    (hone:∀ j,j<k→(g j).cells.all V.one=true) :
    LS P r m nt false env H ⟨dst,.call ⟨.builtin .copy,#[x,y],#[T,T2]⟩,ty,pos,after,guard⟩ (fun u H'=>u=vi (Nat.min k n)∧H'=H.set b (.arr sz N (copyF f i (Nat.min k n) g))) NoP:=.mk
  fun X I ρ a w next Qx hX hS hK hp=>by
    obtain ⟨hE,hw,hdf⟩:=hS
    have hu:=eo_rel hE hx
    have hv:=eo_rel hE hy
    obtain ⟨ii,hi,hsz,hby,hz0⟩:=he.inf
    obtain ⟨B,cap,news,ey,hnl,hnc,hgsz,hgr⟩:=src_cells hw hs hv
    have hex:∀ {res:Value} {w':World},(Builtin.copy_ #[T,T2] ty #[a.eval x,a.eval y]).run P w=.ok res w'→(execOp a.eval ⟨dst,.call ⟨.builtin .copy,#[x,y],#[T,T2]⟩,ty,pos,after,guard⟩).run P w=.ok (.value res) w':=fun h=>by
      simp [execOp,resolve,invoke,builtin,h]
    by_cases h0:Nat.min k n=0
    · have hset:H.set b (.arr sz N (copyF f i (Nat.min k n) g))=H:=by
        rw [h0,show copyF f i 0 g=f from funext fun j=>copyF_out (by omega)]
        obtain ⟨hb,e⟩:=List.getElem?_eq_some_iff.1 hH
        rw [← e,List.set_getElem_self]
      obtain ⟨A,c,ex⟩:∃ A c,a.eval x=.slice A n c:=by
        rcases hu.sl_inv with ⟨cb,z,c,e,_⟩|⟨A,e,_,_,rfl⟩
        · exact ⟨_,_,e⟩
        · exact ⟨_,_,e⟩
      have hr:=run_copy_noneN (P:=P) (w:=w) (ty:=ty) (T2:=T2) (A:=A) (B:=B) (c:=c) (cap:=cap) (ht.slice hk) hi h0
      rw [← ex,← ey] at hr
      refine wpIn_of_run (by simp) (hex hr) ?_
      exact hK I ρ _ (vi 0) _ _ ⟨by rw [h0];rfl,rfl⟩ (Imm.le_refl _) (Pre.refl _) (by rw [hset];exact hw) (.s _) (by simp)
    · rcases hu.sl_inv with ⟨cb,z,c,ex,hb,hnc',hcm,hz'⟩|⟨A,_,_,_,rfl⟩
      · have hk0:0<k:=by have:Nat.min k n≤k:=Nat.min_le_left _ _;omega
        have hmk:Nat.min k n≤k:=Nat.min_le_left _ _
        have hmn:Nat.min k n≤n:=Nat.min_le_right _ _
        obtain ⟨ad,rfl,hspot,hcell⟩:=hnc hk0
        obtain ⟨cs,t,hcs,hz,hn,hr⟩:=hw.arr _ _ _ _ _ _ hH hb
        have hgl:=hw.size _ _ _ _ hH
        generalize hM:Nat.min k n=M at *
        have hMk:M*sz≤k*sz:=Nat.mul_le_mul_right _ hmk
        have hcl:(news.take (M*sz)).length=M*sz:=by rw [List.length_take];omega
        have hiM:(i+M)*sz≤N*sz:=Nat.mul_le_mul_right _ (by omega)
        rw [Nat.add_mul] at hiM
        have hones:∀ u∈news.take (M*sz),u.oneCell'=true:=fun u hu=>by
          obtain ⟨t,hlt,rfl⟩:=List.getElem_of_mem hu
          rw [hcl] at hlt
          have hpos:0<sz:=by rcases Nat.eq_zero_or_pos sz with h|h;subst h;simp at hlt;exact h
          have hi1:t/sz<M:=(Nat.div_lt_iff_lt_mul hpos).2 hlt
          have hj1:=Nat.mod_lt t hpos
          have e:=Nat.div_add_mod' t sz
          obtain ⟨q,h1,h2⟩:=hgr (t/sz) (t % sz) ((g (t/sz)).cells[t % sz]'(by rw [hgsz _ (by omega)];exact hj1)) (by omega) (by simp [hgsz _ (show t/sz<k by omega),hj1])
          rw [e] at h1
          have:(news.take (M*sz))[t]=q:=by
            rw [List.getElem_take]
            rw [List.getElem?_eq_getElem (by rw [hnl];omega)] at h1
            exact Option.some.inj h1
          rw [this]
          exact h2.one (List.all_eq_true.1 (hone _ (by omega)) _ (List.getElem_mem _))
        have hfit:i*sz+(news.take (M*sz)).length≤cs.size:=by rw [hcl];omega
        have hrun:=run_copy_rowN (P:=P) (w:=w) (ty:=ty) (T2:=T2) (n:=n) (c:=c) (k:=k) (cap:=cap) (o:=i*sz) (ad:=ad) (news:=news.take (M*sz)) (ht.slice hk) hi hcs (by rw [hcl,hM,hsz,hs1]) (fun j v hj=>by
          refine hcell w rfl j v ?_
          rw [List.getElem?_take] at hj
          split at hj
          · exact hj
          · cases hj) hfit hones
        rw [← ex,← ey,hM] at hrun
        refine wpIn_of_run (by simp) (hex hrun) ?_
        obtain ⟨s1,s2,s3⟩:=setRow_facts (new:=(cs.toList.take (i*sz)++news.take (M*sz)++cs.toList.drop (i*sz+(news.take (M*sz)).length)).toArray) hcs
        refine hK I ρ _ _ _ _ ⟨rfl,rfl⟩ (Imm.le_refl _) (Pre.refl _) (hw.write hH hb (by simp;simp at hfit;omega) (fun j hj=>?_) ?_ s1 s2 s3 rfl rfl rfl) (.s _) (by simp)
        · by_cases h1:i≤j∧j<i+M
          · rw [copyF_in h1.1 h1.2];exact hgsz _ (by omega)
          · rw [copyF_out (by omega)];exact hgl j hj
        · intro j q v hj hv
          simp only [List.getElem?_toArray]
          rw [splice_get (by simpa using hfit),hcl]
          by_cases h1:i≤j∧j<i+M
          · rw [copyF_in h1.1 h1.2] at hv
            have hq:q<sz:=by have:=(List.getElem?_eq_some_iff.1 hv).1;rw [hgsz _ (by omega)] at this;exact this
            obtain ⟨u,h2,h4⟩:=hgr (j-i) q v (by omega) hv
            have e1:j*sz=i*sz+(j-i)*sz:=by rw [← Nat.add_mul];congr 1;omega
            have e2:(j-i)*sz+sz≤M*sz:=by rw [← Nat.succ_mul];exact Nat.mul_le_mul_right _ (by omega)
            refine ⟨u,?_,h4⟩
            rw [if_pos (by omega),List.getElem?_take,if_pos (by omega),← h2]
            congr 1
            omega
          · rw [copyF_out (by omega)] at hv
            have hq:q<sz:=by have:=(List.getElem?_eq_some_iff.1 hv).1;rw [hgl j hj] at this;exact this
            obtain ⟨u,h2,h3⟩:=hr j q v hj hv
            refine ⟨u,?_,h3⟩
            rw [if_neg ?_]
            · simpa using h2
            · rintro ⟨h4,h5⟩
              rcases Nat.lt_or_ge j i with h6|h6
              · have:j*sz+sz≤i*sz:=by rw [← Nat.succ_mul];exact Nat.mul_le_mul_right _ h6
                omega
              · have:(i+M)*sz≤j*sz:=Nat.mul_le_mul_right _ (by omega)
                rw [Nat.add_mul] at this
                omega
      · exact (h0 (by simp)).elim
theorem ar_copyN {yv:V}{sz b i n N k e:Nat}{f g:Nat→V}{j:Nat}(ht:TyIs P T d) (hk:d.tk=.slice E) (he:TyIs P E de) (hs1:de.size=sz) (hx:eo env x=some (.sl sz b i n)) (hH:H[b]?=some (.arr sz N f)) (hN:i+n≤N) (hy:eo env y=some yv) (hs:Src H yv sz k g)
    (hone:∀ j,j<k→(g j).cells.all V.one=true) (hd:e<nt) (h:AR P r m nt ops Q l ((e,vi (Nat.min k n))::env) (H.set b (.arr sz N (copyF f i (Nat.min k n) g)))) :
    AR P r m nt ops Q (.l j ⟨some e,.call ⟨.builtin .copy,#[x,y],#[T,T2]⟩,ty,pos,after,none⟩ false::l) env H :=
  ar_l (ls_copyN ht hk he hs1 hx hH hN hy hs hone) hd (fun v H' ⟨a,b⟩=>by subst a;subst b;exact h) (fun _ _ h=>h.elim)
end
section
variable {P:Program}{ops:Array Oper}{r:Option Nat}{Q Q':Exit→Act→World→Prop}
theorem drawn_go1 (hsel:Region.noSelect ops=true) (hQ:∀ (i:Nat) (o:Oper),ops[i]?=some o→∀ c a v w,Q (.panic c) (a.put o.dst v) w→Q (.panic c) a w) :
    ∀ (l:List Stp) (listed:Array Bool) (S:World→Prop) (a:Act) (w:World),(∀ s∈l,s.flat=true→ops[s.idx]?=some s.oper)→ShutL ops listed→planOk0 ops listed l=true→S w →
      runP0 P r ops Q l S a w→wpAnyS P r ops Q S (phaseEnd ops.size l) l.length listed a w
  | [],listed,S,a,w,_,_,hok,_,h=>⟨by simpa [planOk0] using hok,h⟩
  | .q i o::l,listed,S,a,w,hn,hsh,hok,hS,h=>by
    simp only [planOk0,Bool.and_eq_true] at hok
    obtain ⟨⟨⟨⟨⟨hp,hr⟩,hf⟩,hl⟩,him⟩,hok'⟩:=hok
    have hi:ops[i]?=some o:=hn (.q i o) (by simp) rfl
    simp only [runP0] at h
    have hn':∀ s∈l,s.flat=true→ops[s.idx]?=some s.oper:=fun s hs=>hn s (by simp [hs])
    show wpAnyS P r ops Q S (phaseEnd ops.size l) (l.length+1) listed a w
    rw [Bool.or_eq_true] at hl
    have hri:i∈Region.ready .any ops listed:=by simpa using hr
    rcases hl with hl|hl
    · cases hw:Region.wanted o (yielded ops a.tmps)
      · exact first_S (v:=undef) hp hi hsel (fun c a w=>hQ i o hi c a undef w) (awaits_of hl) (by simpa using him) l.length listed a w (Region.free_spec hi hf) hsh hri (.inr ⟨hw,rfl⟩) hS
          (drawn_go1 hsel hQ l _ S _ w hn' (hsh.set hri) hok' hS (h.2 hw))
      · obtain ⟨u,h1,h2⟩:=h.1 hw
        exact first_S (v:=u) hp hi hsel (fun c a w=>hQ i o hi c a u w) (awaits_of hl) (by simpa using him) l.length listed a w (Region.free_spec hi hf) hsh hri (.inl ⟨hw,h1⟩) hS
          (drawn_go1 hsel hQ l _ S _ w hn' (hsh.set hri) hok' hS h2)
    · cases hw:Region.wanted o (yielded ops a.tmps)
      · exact first_still (v:=undef) hp hi hsel (fun c a w=>hQ i o hi c a undef w) (by simpa using him) l.length listed a w (Region.free_spec hi hf) hsh hri (.inr ⟨hw,rfl⟩) hS
          (drawn_go1 hsel hQ l _ S _ w hn' (hsh.set hri) hok' hS (h.2 hw))
      · obtain ⟨u,h1,h2⟩:=h.1 hw
        exact first_still (v:=u) hp hi hsel (fun c a w=>hQ i o hi c a u w) (by simpa using him) l.length listed a w (Region.free_spec hi hf) hsh hri (.inl ⟨hw,fun w' _=>still_all hl (h1 w hS) w'⟩) hS
          (drawn_go1 hsel hQ l _ S _ w hn' (hsh.set hri) hok' hS h2)
  | .l i o keep::l,listed,S,a,w,hn,hsh,hok,hS,h=>by
    simp only [planOk0,Bool.and_eq_true,beq_iff_eq] at hok
    obtain ⟨⟨hr,hk⟩,hok'⟩:=hok
    have hi:ops[i]?=some o:=hn (.l i o keep) (by simp) rfl
    have hn':∀ s∈l,s.flat=true→ops[s.idx]?=some s.oper:=fun s hs=>hn s (by simp [hs])
    refine ⟨fun h0=>(by rw [hr] at h0;cases h0),fun j hj=>?_⟩
    have hj0:=hj
    rw [hr] at hj
    obtain rfl:j=i:=by simpa using hj
    exact head_ok (R:=runP0 P r ops Q l) hi hS (fun e=>by rw [e] at hk;simpa using hk) (fun S' a' w' h1 h3=>drawn_go1 hsel hQ l _ S' a' w' hn' (hsh.set hj0) hok' h1 h3) h
theorem region_drawn1 {l:List Oper}{id:Nat}{a:Act}{w:World}(ps:List (Nat × Nat)) (S:World→Prop) (hm:P.follows .mixedOrders=true) (hB:(ps.all (fun x=>decide (x.1<l.length))&&Region.noSelect l.toArray&&planOk0 l.toArray (Array.replicate l.toArray.size false) (numPlan l ps)&&(ps.length==l.length))=true)
    (hQ:∀ (i:Nat) (o:Oper),l.toArray[i]?=some o→∀ c a v w,Q (.panic c) (a.put o.dst v) w→Q (.panic c) a w)
    (hS:S { w with drawn:=w.drawn+1 }) (h:runP0 P r l.toArray Q (numPlan l ps) S a { w with drawn:=w.drawn+1 }):(Code.region id l.toArray true).wpIn (Fw r) 0 P Q a w:=by
  simp only [Bool.and_eq_true,beq_iff_eq,List.all_eq_true,decide_eq_true_eq] at hB
  obtain ⟨⟨⟨hn,hsel⟩,hok⟩,hlen⟩:=hB
  refine wpIn_region_any hm ?_
  have:=any_of_S _ _ _ _ (drawn_go1 hsel hQ (numPlan l ps) _ S a _ (fun s hs _=>by
    simp only [numPlan,List.mem_map] at hs
    obtain ⟨x,hx,rfl⟩:=hs
    have:=opAt_get l x.1 (hn x hx)
    split<;>simpa [Stp.idx,Stp.oper] using this) (fun j oj _ hl=>by exfalso;rw [Array.getD_eq_getD_getElem?,Array.getElem?_replicate] at hl;split at hl<;>simp at hl) hok hS h)
  rw [show (numPlan l ps).length=l.toArray.size by simp [numPlan,hlen]] at this
  exact this
structure Pin where
  t:Nat
  u:Value
  ds:Option (List Deferred)
def Pin.Ok (p:Pin) (a:Act):Prop:=a.tmps.getD p.t undef=p.u∧∀ ds,p.ds=some ds→a.defers=ds
def PinQ (p:Pin) (Q:Exit→Act→World→Prop):Exit→Act→World→Prop
  | .outgrown,a,w=>Q .outgrown a w
  | e,a,w=>Q e a w∧p.Ok a
def calmOp:Op→Bool
  | .move _|.assign _|.pick ..|.load ..|.binOp ..|.unOp ..|.convert ..|.fieldAddr ..|.field ..|.indexAddr ..|.index ..|.slice ..|.lookup ..|.extract ..|.build ..|.makeInterface ..|.makeFunc ..|.typeAssert ..|.store ..|.panic _=>true
  | _=>false
def opKeeps (t:Nat) (pd:Bool) (o:Oper):Bool:=!(o.dst==some t)&&(!pd||calmOp o.op)
theorem op_dst {t:Nat}{pd:Bool}{o:Oper}(h:opKeeps t pd o=true):o.dst≠some t:=by
  unfold opKeeps at h
  simp only [Bool.and_eq_true] at h
  exact fun e=>by rw [e] at h;simp at h
theorem op_calm {t:Nat}{o:Oper}(h:opKeeps t true o=true):calmOp o.op=true:=by
  unfold opKeeps at h
  simp only [Bool.and_eq_true] at h
  simpa using h.2
theorem val_no {s:Sem Value}{w w':World}{d:Deferred}(h:((do let x ← s;pure (Next.value x)):Sem Next).run P w=.ok (.defer d) w'):False:=by
  rw [Sem.run_bind] at h
  cases hs:s.run P w<;>rw [hs] at h<;>simp at h
theorem skip_no {s:Sem Unit}{w w':World}{d:Deferred}(h:((do s;pure Next.skip):Sem Next).run P w=.ok (.defer d) w'):False:=by
  rw [Sem.run_bind] at h
  cases hs:s.run P w<;>rw [hs] at h<;>simp at h
theorem calm_no {o:Oper}{r:Option Nat}{a:Act}{w w':World}{d:Deferred}(ho:calmOp o.op=true) (h:(o.semAt (Fw r).round a.eval).run P w=.ok (.defer d) w'):False:=by
  rw [Oper.semAt_eq _ _ _ (fun c e=>by rw [e] at ho;cases ho)] at h
  unfold execOp at h
  cases hop:o.op<;>rw [hop] at h ho<;>first|(cases ho;done)|exact val_no h|exact skip_no h|(simp at h;done)|skip
  rename_i c x y
  simp only [Sem.run_bind] at h
  cases hs:(asBool (a.eval c)).run P w<;>rw [hs] at h<;>simp at h
theorem put_pin {p:Pin}{a:Act}(h:p.Ok a) {d:Option Tmp}(hd:d≠some p.t) (v:Value):p.Ok (a.put d v):=by
  cases d with
  | none=>exact h
  | some d =>
    have:d≠p.t:=fun e=>hd (by rw [e])
    exact ⟨by simpa [Act.put,Array.getElem?_setIfInBounds_ne this] using h.1,h.2⟩
theorem pin_put {p:Pin}{a:Act}{d:Option Tmp}(hd:d≠some p.t) {v:Value}(h:p.Ok (a.put d v)):p.Ok a:=by
  cases d with
  | none=>exact h
  | some d =>
    have:d≠p.t:=fun e=>hd (by rw [e])
    exact ⟨by simpa [Act.put,Array.getElem?_setIfInBounds_ne this] using h.1,h.2⟩
theorem wpIn_pin {p:Pin}{o:Oper}{a:Act}{w:World}{next next':Act→World→Prop}(hk:opKeeps p.t p.ds.isSome o=true) (ha:p.Ok a) (hn:∀ a' w',p.Ok a'→next a' w'→next' a' w')
    (h:o.wpIn (Fw r) 0 P a w next Q):o.wpIn (Fw r) 0 P a w next' (PinQ p Q):=by
  have hd:=op_dst hk
  refine ⟨h.1,?_⟩
  have h2:=h.2
  revert h2
  generalize hres:(o.semAt (Fw r).round a.eval).run P w=res
  intro h2
  cases res
  case ok x w' =>
    cases x
    case value v=>exact hn _ _ (put_pin ha hd v) h2
    case skip=>exact hn _ _ (put_pin ha hd undef) h2
    case defer d =>
      cases hds:p.ds with
      | some ds=>rw [hds] at hk;exact (calm_no (op_calm hk) hres).elim
      | none=>exact hn _ _ (put_pin (a:={ a with defers:=d::a.defers }) ⟨ha.1,fun ds e=>by rw [hds] at e;cases e⟩ hd undef) h2
    case enter f args =>
      refine ⟨h2.1,h2.2.mono fun e w'' he=>?_⟩
      cases e
      case returned v=>exact hn _ _ (put_pin ha hd v) he
      case panicked c=>exact ⟨he,ha⟩
      all_goals exact he
    case row row args=>exact ⟨h2.1,h2.2.mono fun v w'' he=>hn _ _ (put_pin ha hd v) he⟩
    case round l f tmps args body =>
      refine ⟨h2.1,h2.2.mono fun e w'' he=>?_⟩
      cases e
      case returned v=>exact hn _ _ (put_pin ha hd v) he
      case panicked c=>exact ⟨he,ha⟩
      all_goals exact he
    all_goals exact h2.elim
  case halt x w' =>
    cases x
    case panic v=>exact ⟨h2,ha⟩
    all_goals exact h2.elim
theorem runP0_pin {p:Pin}:∀ {l:List Stp}{S:World→Prop}{a:Act}{w:World},(∀ s∈l,s.flat=true∧opKeeps p.t p.ds.isSome s.oper=true)→p.Ok a→runP0 P r ops Q l S a w→runP0 P r ops (PinQ p Q) l S a w
  | [],_,_,_,_,ha,h=>⟨h,ha⟩
  | .q i o::l,S,a,w,hf,ha,h=>by
    have hf':∀ s∈l,s.flat=true∧opKeeps p.t p.ds.isSome s.oper=true:=fun s hs=>hf s (by simp [hs])
    have hd:o.dst≠some p.t:=op_dst (hf (.q i o) (by simp)).2
    refine ⟨fun hw=>?_,fun hw=>runP0_pin hf' (put_pin ha hd _) (h.2 hw)⟩
    obtain ⟨v,h1,h2⟩:=h.1 hw
    exact ⟨v,h1,runP0_pin hf' (put_pin ha hd _) h2⟩
  | .l i o keep::l,S,a,w,hf,ha,h=>by
    have hf':∀ s∈l,s.flat=true∧opKeeps p.t p.ds.isSome s.oper=true:=fun s hs=>hf s (by simp [hs])
    have hk:=(hf (.l i o keep) (by simp)).2
    refine ⟨fun hw=>wpIn_pin hk ha ?_ (h.1 hw),fun hw=>runP0_pin hf' (put_pin ha (op_dst hk) _) (h.2 hw)⟩
    rintro a' w' ha' ⟨S',h1,h2,h3⟩
    exact ⟨S',h1,h2,runP0_pin hf' ha' h3⟩
  | .fork ps::l,S,a,w,hf,_,_=>by have:=(hf (.fork ps) (by simp)).1;cases this
theorem runP_pin {p:Pin}:∀ {l:List Stp}{S:World→Prop}{a:Act}{w:World},(∀ s∈l,s.flat=true∧opKeeps p.t p.ds.isSome s.oper=true)→p.Ok a→runP P r ops Q l S a w→runP P r ops (PinQ p Q) l S a w
  | [],_,_,_,_,ha,h=>⟨h,ha⟩
  | .q i o::l,S,a,w,hf,ha,h=>by
    have hf':∀ s∈l,s.flat=true∧opKeeps p.t p.ds.isSome s.oper=true:=fun s hs=>hf s (by simp [hs])
    have hd:o.dst≠some p.t:=op_dst (hf (.q i o) (by simp)).2
    refine ⟨fun hw=>?_,fun hw=>runP_pin hf' (put_pin ha hd _) (h.2 hw)⟩
    obtain ⟨v,h1,h2⟩:=h.1 hw
    exact ⟨v,h1,runP_pin hf' (put_pin ha hd _) h2⟩
  | .l i o keep::l,S,a,w,hf,ha,h=>by
    have hf':∀ s∈l,s.flat=true∧opKeeps p.t p.ds.isSome s.oper=true:=fun s hs=>hf s (by simp [hs])
    have hk:=(hf (.l i o keep) (by simp)).2
    refine ⟨fun hw=>wpIn_pin hk ha ?_ (h.1 hw),fun hw=>runP_pin hf' (put_pin ha (op_dst hk) _) (h.2 hw)⟩
    rintro a' w' ha' ⟨S',h1,h2,h3⟩
    exact ⟨S',h1,h2,runP_pin hf' ha' h3⟩
  | .fork ps::l,S,a,w,hf,_,_=>by have:=(hf (.fork ps) (by simp)).1;cases this
end
namespace Pn
structure AW (t:Nat) (pd:Bool) (P:Program) (r:Option Nat) (m nt:Nat) (c:Code) (Q:Post) (env:Env) (H:Heap):Prop where
  out:∀ X I ρ a w (p:Pin),p.t=t→p.ds.isSome=pd→X.ρ.length=m→St X nt env H I ρ a w→p.Ok a→c.wpIn (Fw r) 0 P (PinQ p (Lift X nt Q)) a w
section
variable {t:Nat}{pd:Bool}{P:Program}{r:Option Nat}{m nt:Nat}{Q Q':Post}{env env':Env}{H H':Heap}
theorem aw_skip (h:Q .normal env H):AW t pd P r m nt .skip Q env H:=.mk fun _ I ρ _ _ _ _ _ _ hs ha=>wpIn_skip ⟨⟨env,H,I,ρ,hs,h⟩,ha⟩
theorem aw_ret (h:Q .ret env H):AW t pd P r m nt .ret Q env H:=.mk fun _ I ρ _ _ _ _ _ _ hs ha=>wpIn_ret ⟨⟨env,H,I,ρ,hs,h⟩,ha⟩
theorem aw_seq {x y:Code}(h:AW t pd P r m nt x (AE.then (AW t pd P r m nt y Q) Q) env H):AW t pd P r m nt (.seq x y) Q env H:=.mk
  fun X I ρ a w p hp hq0 hX hs ha=>wpIn_seq (wpIn_mono (h.1 X I ρ a w p hp hq0 hX hs ha) fun e a' w' hl=>by
    cases e with
    | normal=>obtain ⟨⟨env',H',I',ρ',hs',hq⟩,ha'⟩:=hl;exact hq.1 X I' ρ' a' w' p hp hq0 hX hs' ha'
    | exit _=>exact hl
    | goto _=>exact hl
    | ret=>exact hl
    | panic _=>exact hl
    | outgrown=>exact hl)
theorem aw_cond {c:Operand}{x y:Code}{b:Bool}(hc:eo env c=some (.s (.bool b))) (ht:b=true→AW t pd P r m nt x Q env H) (hf:b=false→AW t pd P r m nt y Q env H):AW t pd P r m nt (.cond c x y) Q env H:=.mk
  fun X I ρ a w p hp hq hX hs ha=>wpIn_cond_split (eo_bool hs.1 hc) (fun e=>(ht e).1 X I ρ a w p hp hq hX hs ha) (fun e=>(hf e).1 X I ρ a w p hp hq hX hs ha)
theorem aw_block {id:Nat}{c:Code}(h:AW t pd P r m nt c (AE.inBlock id Q) env H):AW t pd P r m nt (.block id c) Q env H:=.mk
  fun X I ρ a w p hp hq hX hs ha=>wpIn_block (wpIn_mono (h.1 X I ρ a w p hp hq hX hs ha) fun e a w h=>by
    cases e with
    | exit id' =>
      obtain ⟨⟨env,H,I,ρ,hs,hq⟩,ha⟩:=h
      simp only [AE.inBlock] at hq
      simp only [Exit.inBlock]
      cases hb:Nat.beq id' id
      · rw [hb] at hq
        rw [if_neg (fun e=>by rw [e,Nat.beq_refl] at hb;cases hb)]
        exact ⟨⟨env,H,I,ρ,hs,hq⟩,ha⟩
      · rw [hb] at hq
        rw [if_pos (Nat.eq_of_beq_eq_true hb)]
        exact ⟨⟨env,H,I,ρ,hs,hq⟩,ha⟩
    | normal=>exact h
    | goto _=>exact h
    | ret=>exact h
    | panic _=>exact h
    | outgrown=>exact h)
theorem aw_region {l:List Oper}{id:Nat}(h:AR P r m nt l.toArray Q (textPlan l 0) env H) (hk:l.all (opKeeps t pd)=true:=by rfl):AW t pd P r m nt (.region id l.toArray false) Q env H:=.mk fun X I ρ a w p hp hq hX hs ha=>by
  subst hp hq
  exact region_text (Keeps I ρ H w) (Keeps.refl hs.2.1) (runP_pin (fun s hs=>⟨textPlan_flat l 0 s hs,(by
    have key:∀ (l:List Oper) (n:Nat),l.all (opKeeps p.t p.ds.isSome)=true→∀ s∈textPlan l n,opKeeps p.t p.ds.isSome s.oper=true:=fun l=>by
      induction l with
      | nil=>intro n _ s hs;simp [textPlan] at hs
      | cons o l ih =>
        intro n hl s hs
        simp only [List.all_cons,Bool.and_eq_true] at hl
        unfold textPlan at hs
        rcases List.mem_cons.1 hs with h|h
        · rw [h];cases plainOp o.op<;>exact hl.1
        · exact ih _ hl.2 s h
    exact key l 0 hk s hs)⟩) ha (h.1 X I ρ a w hX hs))
theorem aw_drawn {l:List Oper}{id:Nat}(ps:List (Nat × Nat)) (hm:P.follows .mixedOrders=true) (_hB:drawnOk l ps=true) (h:AR P r m nt l.toArray Q (numPlan l ps) env H)
    (hB0:(ps.all (fun x=>decide (x.1<l.length))&&Region.noSelect l.toArray&&planOk0 l.toArray (Array.replicate l.toArray.size false) (numPlan l ps)&&(ps.length==l.length))=true:=by kernel_rfl) (hk:l.all (opKeeps t pd)=true:=by kernel_rfl) :
    AW t pd P r m nt (.region id l.toArray true) Q env H:=.mk fun X I ρ a w p hp hq hX hs ha=>by
  subst hp hq
  have hdl:∀ o∈l,opKeeps p.t p.ds.isSome o=true:=List.all_eq_true.1 hk
  refine region_drawn1 ps (Keeps I ρ H w) hm hB0 (fun i o hi c a' v w' hp=>⟨lift_put c a' o.dst v w' hp.1,pin_put (op_dst (hdl o (List.mem_of_getElem? (show l[i]?=some o by simpa using hi)))) hp.2⟩) (Keeps.refl (X:=X) hs.2.1.drew) ?_
  refine runP0_pin (fun s hs'=>⟨numPlan_flat l ps s hs',?_⟩) ha (run0 (numPlan_flat l ps) (h.1 X I ρ a _ hX ⟨hs.1,hs.2.1.drew,hs.2.2⟩))
  simp only [Bool.and_eq_true,List.all_eq_true,decide_eq_true_eq] at hB0
  unfold numPlan at hs'
  obtain ⟨x,hx,rfl⟩:=List.mem_map.1 hs'
  have:=hdl _ (List.mem_of_getElem? (opAt_get l x.1 (hB0.1.1.1 x hx)))
  split<;>exact this
theorem aw_sub {c:Code}(hs:SubOf m nt env H env' H') (h:AW t pd P r m nt c Q env' H'):AW t pd P r m nt c Q env H:=.mk fun X I ρ a w p hp hq hX h1 ha=>by
  obtain ⟨I',ρ',_,h2⟩:=hs.1 X I ρ a w hX h1
  exact h.1 X I' ρ' a w p hp hq hX h2 ha
end
end Pn
theorem qs_build_arr {P:Program}{nt n:Nat}{env:Env}{H:Heap}{T E:TypeId}{d de:TyD}{dst:Option Tmp}{ty:TypeId}{pos:String}{after:Array Edge}{guard:Option (Nat × Bool)}{parts:Array (Nat × Operand)}{vs:List (Nat × V)}{ds:List V}(ht:TyIs P T d) (hk:d.tk=.array n E) (he:TyIs P E de) (hz:(constV d.zero).ok=true)
    (hv:parts.toList.mapM (fun p=>(eo env p.2).map fun v=>(p.1,v))=some vs) (hb:BuildR (fun k=>some (k*de.size,de.size)) (constV d.zero).cells vs ds) :
    QS P nt env H ⟨dst,.build T parts,ty,pos,after,guard⟩ (.agg ds):=.mk fun X I ρ a w h hw=>by
  obtain ⟨e1,e2⟩:=evals2 h hv
  obtain ⟨out,h1,h2⟩:=fill_rel (I:=I) (ρ:=ρ) hb e1 e2 ((constV_rel I ρ d.zero).cells (V.ok_ne hz))
  refine ⟨.agg out,.agg h2.1 h2.2,fun w' _=>?_⟩
  have h1':Instr.fill (fun i=>some (i*de.size,de.size)) d.zero.cells (parts.map fun p=>(p.1,a.eval p.2)).toList=some out:=by
    rw [← h1]
    simp
  simp only [execOp,Instr.build,Sem.run_bind,ht.zeroV,Result.andThen_ok,run_underlying (ht.arr hk),he.sizeOf]
  rw [h1']
  rfl
end Go.Proofs.YtloaefllpokkaaaGreat
