/- Parts of the proof: a layer of values over the model, and contracts of functions. No condition. -/
import Derived.Test.YtbilpbabdgfblaaGreatKJ719
set_option maxHeartbeats 16000000
set_option linter.unusedSimpArgs false
set_option linter.unusedVariables false
namespace Go.Proofs.YtbilpbabdgfblaaGreat
open Go.RowKit
structure Fnd where
  design:Int
  grow:Int
  off:Int
instance:Inhabited Fnd:=⟨⟨0,0,0⟩⟩
def Fnd.enc (x:Fnd):V:=.agg [vi x.design,vi x.grow,vi x.off]
abbrev encFnds (l:List Fnd):V:=LV 3 Fnd.enc l
def offD (h:Hse) (dots:List Bool) (i g:Nat):Int:=offTo (dproofF (el h.designs i) g) dots dots.length
def fndOk (h:Hse) (dots:List Bool) (tol:Int) (i g:Nat):Prop:=shownF h i g=true∧offD h dots i g≤tol
instance (h:Hse) (dots:List Bool) (tol:Int) (i g:Nat):Decidable (fndOk h dots tol i g):=by unfold fndOk;infer_instance
def fndG (h:Hse) (dots:List Bool) (tol:Int) (i:Nat):Nat→List Fnd
  | 0=>[]
  | g+1=>if fndOk h dots tol i g then fndG h dots tol i g++[⟨i,g,offD h dots i g⟩] else fndG h dots tol i g
def fndSize (h:Hse) (dots:List Bool) (i:Nat):Prop:=(el h.designs i).sheet.cols*(el h.designs i).sheet.rows=(dots.length:Int)
instance (h:Hse) (dots:List Bool) (i:Nat):Decidable (fndSize h dots i):=by unfold fndSize;infer_instance
def fndD (h:Hse) (dots:List Bool) (tol:Int):Nat→List Fnd
  | 0=>[]
  | i+1=>if fndSize h dots i then fndD h dots tol i++fndG h dots tol i 21 else fndD h dots tol i
def fndS (h:Hse) (dots:List Bool) (tol:Int) (i g:Nat):List Fnd:=fndD h dots tol i++fndG h dots tol i g
def expArg (dots:List Bool) (tol:Int):Prop:=dots.length≤2400∧0≤tol∧tol≤2400
instance (dots:List Bool) (tol:Int):Decidable (expArg dots tol):=by unfold expArg;infer_instance
open Classical in
noncomputable def expE (h:Hse) (dots:List Bool) (tol:Int):Int:=if HValid h then if expArg dots tol then if (fndD h dots tol h.designs.length).length=0 then 105 else 0 else 2 else 100
noncomputable def expF (h:Hse) (dots:List Bool) (tol:Int):List Fnd:=if expE h dots tol=0 then fndD h dots tol h.designs.length else []
section
variable {h:Hse}{dots:List Bool}{tol:Int}{i g:Nat}
theorem expE_bad (hV:¬ HValid h):expE h dots tol=100:=by unfold expE;rw [if_neg hV]
theorem expE_arg (hV:HValid h) (ha:¬ expArg dots tol):expE h dots tol=2:=by unfold expE;rw [if_pos hV,if_neg ha]
theorem expE_forged (hV:HValid h) (ha:expArg dots tol) (h0:(fndD h dots tol h.designs.length).length=0):expE h dots tol=105:=by unfold expE;rw [if_pos hV,if_pos ha,if_pos h0]
theorem expE_ok (hV:HValid h) (ha:expArg dots tol) (h0:(fndD h dots tol h.designs.length).length≠0):expE h dots tol=0:=by unfold expE;rw [if_pos hV,if_pos ha,if_neg h0]
theorem expF_no {e:Int}(he:expE h dots tol=e) (h0:e≠0):expF h dots tol=[]:=by unfold expF;rw [he,if_neg h0]
theorem expF_ok (he:expE h dots tol=0):expF h dots tol=fndD h dots tol h.designs.length:=by unfold expF;rw [if_pos he]
theorem fndS_zero:fndS h dots tol i 0=fndD h dots tol i:=by unfold fndS fndG;rw [List.append_nil]
theorem fndS_yes (hg:fndOk h dots tol i g):fndS h dots tol i (g+1)=fndS h dots tol i g++[⟨i,g,offD h dots i g⟩]:=by
  unfold fndS
  rw [fndG,if_pos hg,List.append_assoc]
theorem fndS_no (hg:¬ fndOk h dots tol i g):fndS h dots tol i (g+1)=fndS h dots tol i g:=by
  unfold fndS
  rw [fndG,if_neg hg]
theorem fndD_skip (hs:¬ fndSize h dots i):fndD h dots tol (i+1)=fndD h dots tol i:=by rw [fndD,if_neg hs]
theorem fndD_full (hs:fndSize h dots i):fndD h dots tol (i+1)=fndS h dots tol i 21:=by rw [fndD,if_pos hs,fndS]
theorem fndG_len:∀ g,(fndG h dots tol i g).length≤g
  | 0=>Nat.le_refl 0
  | g+1=>by
    have:=fndG_len g
    rw [fndG]
    split
    · rw [List.length_append];exact Nat.succ_le_succ this
    · omega
theorem fndD_len:∀ i,(fndD h dots tol i).length≤21*i
  | 0=>Nat.le_refl 0
  | i+1=>by
    have h1:=fndD_len i
    have h2:=fndG_len (h:=h) (dots:=dots) (tol:=tol) (i:=i) 21
    rw [fndD]
    split
    · rw [List.length_append];omega
    · omega
theorem fndS_len (i g:Nat):(fndS h dots tol i g).length≤21*i+g:=by
  have h1:=fndD_len (h:=h) (dots:=dots) (tol:=tol) i
  have h2:=fndG_len (h:=h) (dots:=dots) (tol:=tol) (i:=i) g
  unfold fndS
  rw [List.length_append]
  omega
theorem fndG_none:∀ {g:Nat},(∀ q:Nat,q<g→shownF h i q=false)→fndG h dots tol i g=[]
  | 0,_=>rfl
  | g+1,hq=>by
    rw [fndG,if_neg (fun hk=>by have:=hq g (by omega);rw [hk.1] at this;cases this),fndG_none fun q hq'=>hq q (by omega)]
theorem fndD_none (hq:∀ q:Nat,q<21→shownF h i q=false):fndD h dots tol (i+1)=fndD h dots tol i:=by
  rw [fndD,fndG_none hq,List.append_nil,ite_self]
end
def seenA (h:Hse) (k q:Nat):Bool:=shownTo h ((q/21:Nat):Int) ((q % 21:Nat):Int) k
def seenL (h:Hse) (k:Nat):List V:=(List.range 168).map fun q=>vb (seenA h k q)
def seenV (h:Hse) (k:Nat):V:=.agg (seenL h k)
def rowL (h:Hse) (i:Nat):List Bool:=(List.range 21).map fun (g:Nat)=>shownF h i g
theorem rowL_len (h:Hse) (i:Nat):(rowL h i).length=21:=by unfold rowL;rw [List.length_map,List.length_range]
theorem seenV_ok (h:Hse) (k:Nat):V.closed.all (seenV h k).cells=true:=by
  have:∀ l:List Nat,V.closed.all (l.map fun q=>vb (seenA h k q))=true:=fun l=>by
    induction l with
    | nil=>rfl
    | cons q l ih=>rw [List.map_cons,V.closed.all,ih];rfl
  exact this _
theorem seen_set {h:Hse}{k a g:Nat}(ha:dsnOf h k=a) (hg:growF h k=g) (ha8:a<8) (hg21:g<21):putPart (seenV h k) (0+a*21+g*1) (vb true)=seenV h (k+1):=by
  have hoff:0+a*21+g*1=a*21+g:=by omega
  rw [hoff]
  unfold seenV putPart
  dsimp only
  congr 1
  refine List.ext_getElem? fun q=>?_
  have hl:(seenL h k).length=168:=by unfold seenL;rw [List.length_map,List.length_range]
  have e:∀ k,(seenL h k)[q]?=if q<168 then some (vb (seenA h k q)) else none:=fun k=>by
    unfold seenL
    rw [List.getElem?_map]
    by_cases hq:q<168
    · rw [if_pos hq,List.getElem?_range hq];rfl
    · rw [if_neg hq,List.getElem?_eq_none (by rw [List.length_range];omega)];rfl
  have hs:seenA h (k+1) q=(seenA h k q||(decide ((a:Int)=((q/21:Nat):Int))&&decide ((g:Int)=((q % 21:Nat):Int)))):=by
    unfold seenA
    rw [shownTo,ha,hg]
  rw [e (k+1),hs,List.append_assoc]
  by_cases h1:q<a*21+g
  · rw [List.getElem?_append_left (by rw [List.length_take];omega),List.getElem?_take,if_pos h1,e k]
    rw [show (decide ((a:Int)=((q/21:Nat):Int))&&decide ((g:Int)=((q % 21:Nat):Int)))=false by
      by_cases e1:(a:Int)=((q/21:Nat):Int)
      · rw [decide_eq_false (p:=(g:Int)=((q % 21:Nat):Int)) (by omega),Bool.and_false]
      · rw [decide_eq_false e1,Bool.false_and]]
    rw [Bool.or_false]
  · rw [List.getElem?_append_right (by rw [List.length_take];omega),List.length_take]
    by_cases h2:q=a*21+g
    · subst h2
      rw [if_pos (by omega),show (decide ((a:Int)=(((a*21+g)/21:Nat):Int))&&decide ((g:Int)=(((a*21+g) % 21:Nat):Int)))=true by rw [decide_eq_true (by omega),decide_eq_true (by omega)];rfl,Bool.or_true]
      rw [show a*21+g-min (a*21+g) (seenL h k).length=0 by omega]
      rfl
    · rw [List.getElem?_append_right (by show 1≤_;omega),List.getElem?_drop]
      rw [show a*21+g+(vb true).cells.length+(q-min (a*21+g) (seenL h k).length-(vb true).cells.length)=q by show a*21+g+1+(q-min (a*21+g) (seenL h k).length-1)=q;omega,e k]
      rw [show (decide ((a:Int)=((q/21:Nat):Int))&&decide ((g:Int)=((q % 21:Nat):Int)))=false by
        by_cases e1:(a:Int)=((q/21:Nat):Int)
        · rw [decide_eq_false (p:=(g:Int)=((q % 21:Nat):Int)) (by omega),Bool.and_false]
        · rw [decide_eq_false e1,Bool.false_and]]
      rw [Bool.or_false]
theorem seen_part {h:Hse}{i:Nat}(hi:i<8):partV true (seenV h h.store.prints.length).cells (0+i*21) 21=some (.agg ((rowL h i).map vb)):=by
  have hl:(seenL h h.store.prints.length).length=168:=by unfold seenL;rw [List.length_map,List.length_range]
  have hc:(seenV h h.store.prints.length).cells=seenL h h.store.prints.length:=rfl
  rw [hc]
  unfold partV
  dsimp only
  rw [show Nat.ble (0+i*21+21) (seenL h h.store.prints.length).length=true from Nat.ble_eq_true_of_le (by omega)]
  simp only [cond_true,Option.some.injEq,V.agg.injEq]
  refine List.ext_getElem? fun q=>?_
  rw [List.getElem?_take,List.getElem?_drop]
  unfold rowL seenL
  rw [List.map_map,List.getElem?_map,List.getElem?_map]
  by_cases hq:q<21
  · rw [if_pos hq,List.getElem?_range (by omega),List.getElem?_range hq]
    show some (vb (seenA h h.store.prints.length (0+i*21+q)))=some (vb (shownF h i q))
    unfold seenA shownF
    rw [show (0+i*21+q)/21=i by omega,show (0+i*21+q) % 21=q by omega]
  · rw [if_neg hq,List.getElem?_eq_none (by rw [List.length_range];omega)];rfl
theorem row_part {h:Hse}{i g:Nat}(hg:g<21):partV false ((rowL h i).map vb) (g*1) 1=some (vb (shownF h i g)):=by
  show ((rowL h i).map vb)[g*1]?=_
  unfold rowL
  rw [Nat.mul_one,List.map_map,List.getElem?_map,List.getElem?_range hg]
  rfl
theorem row_none {h:Hse}{i:Nat}(hr:rowL h i=List.replicate 21 false):∀ q:Nat,q<21→shownF h i q=false:=fun q hq=>by
  have h1:el (rowL h i) q=shownF h i q:=by unfold rowL;rw [el_map_range hq]
  rw [← h1,hr]
  unfold el
  rw [List.getD_eq_getElem?_getD,List.getElem?_replicate,if_pos hq]
  rfl
def fE (l:List Fnd):V:=match l with|[]=>vnil|x::r=>.sl 3 0 0 (x::r).length
def fB (l:List Fnd):Blk:=match l with|[]=>.dead|x::r=>LB 3 Fnd.enc (x::r)
theorem fE_pos {l:List Fnd}(h:l.length≠0):fE l=.sl 3 0 0 l.length:=by cases l with|nil=>exact (h rfl).elim|cons x r=>rfl
theorem fB_pos {l:List Fnd}(h:l.length≠0):fB l=LB 3 Fnd.enc l:=by cases l with|nil=>exact (h rfl).elim|cons x r=>rfl
theorem fE_snoc (l:List Fnd) (x:Fnd):fE (l++[x])=.sl 3 0 0 (l.length+1):=by rw [fE_pos (by simp),List.length_append];rfl
theorem fB_snoc (l:List Fnd) (x:Fnd):fB (l++[x])=LB 3 Fnd.enc (l++[x]):=fB_pos (by simp)
theorem vsub_fE {H:Heap}{σ:List (Option Nat)}{fr:Nat→Prop}{l:List Fnd}(h:σ[0]?=some (some 0)):VSub H σ fr (fE l) (fE l):=by
  cases l with
  | nil=>exact .closed rfl
  | cons x r=>exact .sl h
theorem bsub_fB {H:Heap}{σ:List (Option Nat)}{fr:Nat→Prop}{l:List Fnd}(h:σ[0]?=some (some 0)) (hH:H[0]?=some (fB l)):BSub H σ fr 0 (fB l):=by
  cases l with
  | nil=>trivial
  | cons x r=>exact .inl ⟨0,_,h,hH,fun _ _=>.closed rfl⟩
theorem dproof_len {d:Dsn}(hd:GoodD d) {g:Nat}(hg:g<21):(dproofF d g).length=d.sheet.rows.toNat*d.sheet.cols.toNat:=by
  have he:proofErr d.sheet d.band g=0:=by
    unfold proofErr
    rw [if_pos hd.2.2.1,if_pos (withinB_iff.2 (by omega))]
  unfold dproofF proofF
  rw [if_pos he,proofTo_len]
theorem good_size {d:Dsn}(hd:GoodD d):(1≤d.sheet.cols∧d.sheet.cols≤40)∧(1≤d.sheet.rows∧d.sheet.rows≤60)∧0≤d.sheet.cols*d.sheet.rows∧d.sheet.cols*d.sheet.rows≤2400:=by
  have hok:=(band_of_check hd.2.2.1).1
  unfold Sheet.ok at hok
  simp only [Bool.and_eq_true,withinB_iff] at hok
  obtain ⟨⟨⟨⟨h1,h2⟩,_⟩,_⟩,_⟩:=hok
  refine ⟨h1,h2,Int.mul_nonneg (by omega) (by omega),?_⟩
  have:=Int.mul_le_mul h1.2 h2.2 (by omega) (by omega)
  omega
theorem dproof_dots {h:Hse}{dots:List Bool}{i g:Nat}(hd:GoodD (el h.designs i)) (hg:g<21) (hs:fndSize h dots i):(dproofF (el h.designs i) g).length=dots.length:=by
  obtain ⟨h1,h2,_⟩:=good_size hd
  rw [dproof_len hd hg]
  unfold fndSize at hs
  have e1:(((el h.designs i).sheet.cols.toNat:Nat):Int)=(el h.designs i).sheet.cols:=by omega
  have e2:(((el h.designs i).sheet.rows.toNat:Nat):Int)=(el h.designs i).sheet.rows:=by omega
  have:(((el h.designs i).sheet.rows.toNat*(el h.designs i).sheet.cols.toNat:Nat):Int)=(dots.length:Int):=by
    rw [Int.natCast_mul,e1,e2,Int.mul_comm]
    exact hs
  omega
theorem offTo_bnd (a b:List Bool) (k:Nat):0≤offTo a b k∧offTo a b k≤k:=cntB_bnd k
theorem offTo_yes {a b:List Bool}{k:Nat}(h:¬ el a k=el b k):offTo a b (k+1)=offTo a b k+1:=cntB_yes (by simpa using h)
theorem offTo_no {a b:List Bool}{k:Nat}(h:el a k=el b k):offTo a b (k+1)=offTo a b k:=cntB_no (by simpa using h)
section
variable (h:Hse) (dots:List Bool) (tol:Int)
set_option maxRecDepth 100000 in
theorem hExpert_p (hs:HSmall h) (hw:StOk h.store):PCalls Tryz.prog 29 [h.enc,encBools dots,vi tol] (·=.tup [encFnds (expF h dots tol),vi (expE h dots tol)]):=by
  (refine pcalls_know (fun I us h=>rel_len (rel_arg h (j:=1) rfl)) fun hlen1=>?_)
  have hend0:∀ e:Int,expE h dots tol=e→e≠0→V.tup [encFnds [],vi e]=.tup [encFnds (expF h dots tol),vi (expE h dots tol)]:=fun e he h0=>by rw [expF_no he h0,he]
  refine pcalls_of_aw Tryz.func29 rfl (dc rfl) ?_
  (repeat' (first|(refine ar_isq ?_;refine zq ?_)|(refine zbt ?_)|((refine ar_gcall0 fn43 rfl rfl [h.enc] ⟨.closed rfl,trivial⟩ (hvalid_p h hs hw) (dc rfl) ?_ (fun _ _ h=>h.elim);rintro _ _ (⟨hv,rfl,m,ht,rfl⟩|⟨hv,rfl,rfl⟩)<;>(try rw [shoB_ren])))|(((refine ar_subk_l (sub_frzL (t:=33) vi ([tol]) rfl rfl rfl rfl (fun _ _=>rfl) (fun _=>rfl)) ?_);refine zpvD fn56 (hfrom_p _ _ [tol]) ?_))|refine ar_buildLE vi ([_]) (by exact ty rfl) (by exact rfl) (by exact ty rfl) (by exact rfl) (by exact rfl) (by exact Nat.succ_pos _) (by exact rfl) (by exact dc rfl) (by exact rfl) (by exact fun _=>⟨rfl,rfl⟩) (by exact dc rfl) ?_|refine zg ?_ ?_|refine zgu ?_|refine zst ?_|refine aw_drawn (id:=10) [(0,0),(1,0),(2,0),(3,0),(4,0),(5,0),(6,0),(7,0),(8,0),(9,0),(10,0),(11,0),(12,0),(13,0),(14,0),(15,0),(16,0),(17,0),(18,0),(19,0),(20,2)] mixed (by kernel_rfl) ?_|refine zco ?_ ?_|(refine fun (hg:(_:Prop))=>?_;first|exact absurd hg (by decide)|((try replace hg:=HG.out hg);(try dsimp only at hg);(try rw [fromB_one] at hg);(try rw [withinB_iff] at hg);(try rw [withinB_no] at hg);(try (have _h:True:=hg;clear _h hg));first|(exfalso;omega)|skip))))
  all_goals first
    | ((refine aw_mono_r (env':=[(6,encFnds []),(7,vi 100)]) (H':=[]) ?_ ?_;(focus (exact zsbD [] [])));(refine aw_ret ?_;(repeat (first|refine ret_then ?_|refine ret_block ?_));refine bq2 rfl rfl ⟨?_,rfl⟩);exact hend0 100 (expE_bad hv) (by decide))
    | ((refine aw_mono_r (env':=[(6,encFnds []),(7,vi 2)]) (H':=[]) ?_ ?_;(focus (exact zsbD [] [])));(refine aw_ret ?_;(repeat (first|refine ret_then ?_|refine ret_block ?_));refine bq2 rfl rfl ⟨?_,rfl⟩);exact hend0 2 (expE_arg hv (by unfold expArg;omega)) (by decide))
    | skip
  have hdl:=hv.few.1
  have hsm:=hs
  unfold HSmall at hsm
  have hmp:=hv.mades
  (refine ar_sub_l (env':=[(1,encBools dots),(2,vi tol),(8,.ptr 1 2 0 0),(10,.ptr 168 3 0 0),(37,.ptr 11 0 0 0)]) (H':=[.arr 11 1 (fun _=>.agg (hseC h++[.map 1])),mapE Tal.enc m,.arr 1 1 (fun _=>.ptr 11 0 0 0),.arr 168 1 (fun _=>seenV h 0)]) ?_ ?_;(focus ((refine sub_to [some 1,some 9,some 10,some 12] [2,3,4,5,6,7,8] rfl ?_ ?_<;>(repeat' (first|exact trivial|refine ⟨⟨_,rfl,?_⟩,?_⟩|refine vs1 ?_ ?_|refine vs2 ?_ ?_|refine vs3 ?_|refine vs4 ?_ ?_|refine ⟨.inl ⟨_,_,rfl,rfl,?_⟩,?_⟩|exact ⟨.inr ⟨rfl,rfl⟩,trivial⟩|refine ⟨.inr ⟨rfl,rfl⟩,?_⟩|(intro _ _)|exact vz1|(first|exact (VSub.ptr (b:=1) rfl:VSub _ _ _ (.ptr 11 1 0 0) (.ptr 11 0 0 0))|exact .of_eq rfl (seenV_ok h 0)|refine ⟨bsub_mapE rfl rfl (fun _=>rfl),?_⟩|exact VSub.aggL ⟨.closed rfl,.closed rfl,.closed rfl,frzLB (by first|decide|(simp;done)) rfl (fun _=>rfl) rfl,frzLB (by first|decide|(simp;done)) rfl (fun _=>rfl) rfl,frzLB (by first|decide|(simp;done)) rfl (fun _=>rfl) rfl,frzLB (by first|decide|(simp;done)) rfl (fun _=>rfl) rfl,frzLB (by first|decide|(simp;done)) rfl (fun _=>rfl) rfl,frzLB (by first|decide|(simp;done)) rfl (fun _=>rfl) rfl,frzLB (by first|decide|(simp;done)) rfl (fun _=>rfl) rfl,.map rfl,trivial⟩)|exact vz2|fail)));done)))
  refine ar_subk_l (sub_preC (t:=37) (b:=0) (c:=2) (hseC h) [.map 1] rfl rfl rfl (by omega) rfl rfl) ?_
  (refine ar_sub_l (env':=[(1,encBools dots),(2,vi tol),(8,.ref (.ref h.enc 0) 0),(10,.ptr 168 0 0 0),(37,.ref h.enc 0)]) (H':=[.arr 168 1 (fun _=>seenV h 0)]) ?_ ?_;(focus ((refine sub_to [some 3] [2] rfl ?_ ?_<;>(repeat' (first|exact trivial|refine ⟨⟨_,rfl,?_⟩,?_⟩|refine vs1 ?_ ?_|refine vs2 ?_ ?_|refine vs3 ?_|refine vs4 ?_ ?_|refine ⟨.inl ⟨_,_,rfl,rfl,?_⟩,?_⟩|exact ⟨.inr ⟨rfl,rfl⟩,trivial⟩|refine ⟨.inr ⟨rfl,rfl⟩,?_⟩|(intro _ _)|exact vz1|(first|exact frzPtr' (by simp;done) rfl Nat.one_pos rfl rfl|exact .of_eq rfl (seenV_ok h 0))|exact vz2|fail)));done)))
  (repeat' (first|(refine ar_isq ?_;refine zq ?_)|(refine zbt ?_)|(refine zpvD fn57 (growths_p h) ?_)|refine zg ?_ ?_|refine zgu ?_|refine zst ?_|refine aw_drawn (id:=10) [(0,0),(1,0),(2,0),(3,0),(4,0),(5,0),(6,0),(7,0),(8,0),(9,0),(10,0),(11,0),(12,0),(13,0),(14,0),(15,0),(16,0),(17,0),(18,0),(19,0),(20,2)] mixed (by kernel_rfl) ?_|refine zco ?_ ?_|(refine fun (hg:(_:Prop))=>?_;first|exact absurd hg (by decide)|((try replace hg:=HG.out hg);(try dsimp only at hg);(try rw [fromB_one] at hg);(try rw [withinB_iff] at hg);(try rw [withinB_no] at hg);(try (have _h:True:=hg;clear _h hg));first|(exfalso;omega)|skip))))
  refine aw_rangeX (fun k=>[.arr 168 1 (fun _=>seenV h k)]) _ rfl rfl fn101 (Im.growths_iter h hv) (fun _ _=>rfl) (by decide) (fun k _=>rfl) ?maps ?start ?round ?done
  case maps=>intro k j ms;match j with|0=>simp|j+1=>simp
  case start=>(refine sub_to [some 0] [] rfl ?_ ?_<;>(repeat' (first|exact trivial|refine ⟨⟨_,rfl,?_⟩,?_⟩|refine vs1 ?_ ?_|refine vs2 ?_ ?_|refine vs3 ?_|refine vs4 ?_ ?_|refine ⟨.inl ⟨_,_,rfl,rfl,?_⟩,?_⟩|exact ⟨.inr ⟨rfl,rfl⟩,trivial⟩|refine ⟨.inr ⟨rfl,rfl⟩,?_⟩|(intro _ _)|exact vz1|(exact .of_eq rfl (seenV_ok h 0))|exact vz2|fail)))
  case round =>
    intro k lp hk
    have hpl:=(hv.store.2.2.2.1 k hk).1
    have hml:=(hv.made (el h.store.prints k).plate.toNat (by omega)).1
    unfold inDesigns at hml
    have hgr:=grow_bnd hv.per.1 k
    obtain ⟨a,ha⟩:∃ a:Nat,dsnOf h k=a:=Int.eq_ofNat_of_zero_le hml.1
    obtain ⟨g,hg2⟩:∃ g:Nat,growF h k=g:=Int.eq_ofNat_of_zero_le hgr.1
    have ha8:a<8:=by unfold dsnOf at ha;omega
    have hae:el h.made (el h.store.prints k).plate.toNat=(a:Int):=ha
    have hg21:g<21:=by omega
    rw [hg2]
    (repeat' (first|(refine ar_isq ?_;refine zq ?_)|refine zil (j:=k) ?_|refine zis (j:=k) ?_|refine zit (j:=k) ?_|refine zil (j:=(el h.store.prints k).plate.toNat) ?_|refine zis (j:=(el h.store.prints k).plate.toNat) ?_|refine zit (j:=(el h.store.prints k).plate.toNat) ?_|(refine zbt ?_)|((refine ar_re (t:=57) (v':=vi a) rfl (congrArg vi hae) ?_;refine zia (j:=a) ?_))|refine zia (j:=g) ?_|refine zg ?_ ?_|refine zgu ?_|refine zst ?_|refine aw_drawn (id:=10) [(0,0),(1,0),(2,0),(3,0),(4,0),(5,0),(6,0),(7,0),(8,0),(9,0),(10,0),(11,0),(12,0),(13,0),(14,0),(15,0),(16,0),(17,0),(18,0),(19,0),(20,2)] mixed (by kernel_rfl) ?_|refine zco ?_ ?_|(refine fun (hg:(_:Prop))=>?_;first|exact absurd hg (by decide)|((try replace hg:=HG.out hg);(try dsimp only at hg);(try rw [fromB_one] at hg);(try rw [withinB_iff] at hg);(try rw [withinB_no] at hg);(try (have _h:True:=hg;clear _h hg));first|(exfalso;omega)|skip))))
    refine (show SubOf _ _ _ _ _ _ from ?_)
    (refine sub_to [some 0] [] rfl ?_ ?_<;>(repeat' (first|exact trivial|refine ⟨⟨_,rfl,?_⟩,?_⟩|refine vs1 ?_ ?_|refine vs2 ?_ ?_|refine vs3 ?_|refine vs4 ?_ ?_|refine ⟨.inl ⟨_,_,rfl,rfl,?_⟩,?_⟩|exact ⟨.inr ⟨rfl,rfl⟩,trivial⟩|refine ⟨.inr ⟨rfl,rfl⟩,?_⟩|(intro _ _)|exact vz1|(exact .of_eq (seen_set ha hg2 ha8 hg21) (seenV_ok h _))|exact vz2|fail)))
  case done =>
    refine (show AW Tryz.prog none 0 _ _ _ _ _ from ?_)
    (refine aw_mono_r (env':=[(1,encBools dots),(2,vi tol),(8,.ref (.ref h.enc 0) 0),(10,.ref (seenV h h.store.prints.length) 0)]) (H':=[]) ?_ ?_;(focus ((refine sub_to [] [0] rfl ?_ ?_<;>(repeat' (first|exact trivial|refine ⟨⟨_,rfl,?_⟩,?_⟩|refine vs1 ?_ ?_|refine vs2 ?_ ?_|refine vs3 ?_|refine vs4 ?_ ?_|refine ⟨.inl ⟨_,_,rfl,rfl,?_⟩,?_⟩|exact ⟨.inr ⟨rfl,rfl⟩,trivial⟩|refine ⟨.inr ⟨rfl,rfl⟩,?_⟩|(intro _ _)|exact vz1|(exact frzPtr' (by simp;done) rfl Nat.one_pos (seenV_ok h _) rfl)|exact vz2|fail)));done)))
    (repeat' (first|(refine ar_isq ?_;refine zq ?_)|(refine zbt ?_)|refine zg ?_ ?_|refine zgu ?_|refine zst ?_|refine aw_drawn (id:=10) [(0,0),(1,0),(2,0),(3,0),(4,0),(5,0),(6,0),(7,0),(8,0),(9,0),(10,0),(11,0),(12,0),(13,0),(14,0),(15,0),(16,0),(17,0),(18,0),(19,0),(20,2)] mixed (by kernel_rfl) ?_|refine zco ?_ ?_|(refine fun (hg:(_:Prop))=>?_;first|exact absurd hg (by decide)|((try replace hg:=HG.out hg);(try dsimp only at hg);(try rw [fromB_one] at hg);(try rw [withinB_iff] at hg);(try rw [withinB_no] at hg);(try (have _h:True:=hg;clear _h hg));first|(exfalso;omega)|skip))))
    refine aw_for h.designs.length (fun _=>True) (fun i=>[(1,encBools dots),(2,vi tol),(8,.ref (.ref h.enc 0) 0),(10,.ref (seenV h h.store.prints.length) 0),(13,fE (fndD h dots tol i)),(65,encDsns h.designs),(66,vi h.designs.length),(67,vi i)]) (fun i=>[fB (fndD h dots tol i)]) trivial ?_ ?_
    · (refine sub_to [none] [] rfl ?_ ?_<;>(repeat' (first|exact trivial|refine ⟨⟨_,rfl,?_⟩,?_⟩|refine vs1 ?_ ?_|refine vs2 ?_ ?_|refine vs3 ?_|refine vs4 ?_ ?_|refine ⟨.inl ⟨_,_,rfl,rfl,?_⟩,?_⟩|exact ⟨.inr ⟨rfl,rfl⟩,trivial⟩|refine ⟨.inr ⟨rfl,rfl⟩,?_⟩|(intro _ _)|exact vz1|(first|exact ⟨trivial,trivial⟩|exact .closed (seenV_ok h _))|exact vz2|fail)))
    intro i hi _
    by_cases hlt:i<h.designs.length
    · have hG:=hv.designs i hlt
      obtain ⟨c1,c2,c3,c4⟩:=good_size hG
      have hi8:i<8:=by omega
      (repeat' (first|(refine ar_isq ?_;refine zq ?_)|refine zil (j:=i) ?_|refine zis (j:=i) ?_|refine zit (j:=i) ?_|(refine zbt ?_)|refine zir (j:=i) ?_|refine zlr (v:=.agg ((rowL h i).map vb)) ?_ (hv:=by exact seen_part hi8)|refine ar_q (qs_build_arr (ds:=(List.replicate 21 false).map vb) (ty rfl) rfl (ty rfl) rfl rfl (build rfl)) (dc rfl) ?_|refine ar_q (qs_arrB (l1:=rowL h i) (l2:=List.replicate 21 false) (ty rfl) rfl (ty rfl) rfl rfl (by kernel_rfl) rfl rfl (rowL_len h i) (List.length_replicate)) (dc rfl) ?_|refine zg ?_ ?_|refine zgu ?_|refine zst ?_|refine aw_drawn (id:=10) [(0,0),(1,0),(2,0),(3,0),(4,0),(5,0),(6,0),(7,0),(8,0),(9,0),(10,0),(11,0),(12,0),(13,0),(14,0),(15,0),(16,0),(17,0),(18,0),(19,0),(20,2)] mixed (by kernel_rfl) ?_|refine zco ?_ ?_|(refine fun (hg:(_:Prop))=>?_;first|exact absurd hg (by decide)|((try replace hg:=HG.out hg);(try dsimp only at hg);(try rw [fromB_one] at hg);(try rw [withinB_iff] at hg);(try rw [withinB_no] at hg);(try (have _h:True:=hg;clear _h hg));first|(exfalso;omega)|skip))))
      · refine loop_next hlt trivial ?_
        rw [fndD_none (row_none hg)]
        (refine sub_to [some 0] [] rfl ?_ ?_<;>(repeat' (first|exact trivial|refine ⟨⟨_,rfl,?_⟩,?_⟩|refine vs1 ?_ ?_|refine vs2 ?_ ?_|refine vs3 ?_|refine vs4 ?_ ?_|refine ⟨.inl ⟨_,_,rfl,rfl,?_⟩,?_⟩|exact ⟨.inr ⟨rfl,rfl⟩,trivial⟩|refine ⟨.inr ⟨rfl,rfl⟩,?_⟩|(intro _ _)|exact vz1|(first|exact vsub_fE rfl|refine ⟨bsub_fB rfl rfl,?_⟩|exact .closed (row_ok h i))|exact vz2|fail)))
      · refine aw_for 21 (fun _=>True) (fun g=>[(1,encBools dots),(2,vi tol),(8,.ref (.ref h.enc 0) 0),(10,.ref (seenV h h.store.prints.length) 0),(13,fE (fndS h dots tol i g)),(14,vi i),(65,encDsns h.designs),(66,vi h.designs.length),(67,vi i),(91,.agg ((rowL h i).map vb)),(92,vi g)]) (fun g=>[fB (fndS h dots tol i g)]) trivial ?_ ?_
        · rw [fndS_zero]
          (refine sub_to [some 0] [] rfl ?_ ?_<;>(repeat' (first|exact trivial|refine ⟨⟨_,rfl,?_⟩,?_⟩|refine vs1 ?_ ?_|refine vs2 ?_ ?_|refine vs3 ?_|refine vs4 ?_ ?_|refine ⟨.inl ⟨_,_,rfl,rfl,?_⟩,?_⟩|exact ⟨.inr ⟨rfl,rfl⟩,trivial⟩|refine ⟨.inr ⟨rfl,rfl⟩,?_⟩|(intro _ _)|exact vz1|(first|exact vsub_fE rfl|refine ⟨bsub_fB rfl rfl,?_⟩|exact .closed (row_ok h i))|exact vz2|fail)))
        intro g hg21 _
        by_cases hltg:g<21
        · have hin:inDesigns h i:=⟨by omega,by omega⟩
          have hpf:PCalls Tryz.prog 55 [.ref h.enc 0,vi i,vi g] (·=encBools (dproofF (el h.designs i) g)):=proof_p h hs hin g
          have hPl:=dproof_dots (g:=g) hG hltg (show fndSize h dots i from by assumption)
          (repeat' (first|(refine ar_isq ?_;refine zq ?_)|(refine zbt ?_)|refine zix (j:=g) (v:=vb (shownF h i g)) ?_ (hv:=by exact row_part hltg)|(refine zpvD fn55 (hpf) ?_)|refine zg ?_ ?_|refine zgu ?_|refine zst ?_|refine aw_drawn (id:=10) [(0,0),(1,0),(2,0),(3,0),(4,0),(5,0),(6,0),(7,0),(8,0),(9,0),(10,0),(11,0),(12,0),(13,0),(14,0),(15,0),(16,0),(17,0),(18,0),(19,0),(20,2)] mixed (by kernel_rfl) ?_|refine zco ?_ ?_|(refine fun (hg:(_:Prop))=>?_;first|exact absurd hg (by decide)|((try replace hg:=HG.out hg);(try dsimp only at hg);(try rw [fromB_one] at hg);(try rw [withinB_iff] at hg);(try rw [withinB_no] at hg);(try (have _h:True:=hg;clear _h hg));first|(exfalso;omega)|skip))))
          · refine loop_next hltg trivial ?_
            rw [fndS_no (fun hk=>by have:=hk.1;simp_all)]
            (refine sub_to [some 0] [] rfl ?_ ?_<;>(repeat' (first|exact trivial|refine ⟨⟨_,rfl,?_⟩,?_⟩|refine vs1 ?_ ?_|refine vs2 ?_ ?_|refine vs3 ?_|refine vs4 ?_ ?_|refine ⟨.inl ⟨_,_,rfl,rfl,?_⟩,?_⟩|exact ⟨.inr ⟨rfl,rfl⟩,trivial⟩|refine ⟨.inr ⟨rfl,rfl⟩,?_⟩|(intro _ _)|exact vz1|(first|exact vsub_fE rfl|refine ⟨bsub_fB rfl rfl,?_⟩|exact .closed (row_ok h i))|exact vz2|fail)))
          · have hsh:shownF h i g=true:=by simp_all
            refine aw_for dots.length (fun _=>True) (fun k=>[(1,encBools dots),(2,vi tol),(8,.ref (.ref h.enc 0) 0),(10,.ref (seenV h h.store.prints.length) 0),(13,fE (fndS h dots tol i g)),(14,vi i),(16,vi g),(18,vi (offTo (dproofF (el h.designs i) g) dots k)),(65,encDsns h.designs),(66,vi h.designs.length),(67,vi i),(91,.agg ((rowL h i).map vb)),(92,vi g),(101,encBools (dproofF (el h.designs i) g)),(102,vi dots.length),(103,vi k)]) (fun _=>[fB (fndS h dots tol i g)]) trivial ?_ ?_
            · (refine sub_to [some 0] [] rfl ?_ ?_<;>(repeat' (first|exact trivial|refine ⟨⟨_,rfl,?_⟩,?_⟩|refine vs1 ?_ ?_|refine vs2 ?_ ?_|refine vs3 ?_|refine vs4 ?_ ?_|refine ⟨.inl ⟨_,_,rfl,rfl,?_⟩,?_⟩|exact ⟨.inr ⟨rfl,rfl⟩,trivial⟩|refine ⟨.inr ⟨rfl,rfl⟩,?_⟩|(intro _ _)|exact vz1|(first|exact vsub_fE rfl|refine ⟨bsub_fB rfl rfl,?_⟩|exact .closed (row_ok h i))|exact vz2|fail)))
            intro k hk2 _
            have hob:=offTo_bnd (dproofF (el h.designs i) g) dots k
            by_cases hltk:k<dots.length
            · (repeat' (first|(refine ar_isq ?_;refine zq ?_)|refine zil (j:=k) ?_|refine zis (j:=k) ?_|refine zit (j:=k) ?_|(refine zbt ?_)|refine zg ?_ ?_|refine zgu ?_|refine zst ?_|refine aw_drawn (id:=10) [(0,0),(1,0),(2,0),(3,0),(4,0),(5,0),(6,0),(7,0),(8,0),(9,0),(10,0),(11,0),(12,0),(13,0),(14,0),(15,0),(16,0),(17,0),(18,0),(19,0),(20,2)] mixed (by kernel_rfl) ?_|refine zco ?_ ?_|(refine fun (hg:(_:Prop))=>?_;first|exact absurd hg (by decide)|((try replace hg:=HG.out hg);(try dsimp only at hg);(try rw [fromB_one] at hg);(try rw [withinB_iff] at hg);(try rw [withinB_no] at hg);(try (have _h:True:=hg;clear _h hg));first|(exfalso;omega)|skip))))
              all_goals first
                | ((first|refine loop_next (by omega) ?_ ?_|refine (show _∧_∧SubOf _ _ _ _ _ _ from And.intro (by omega) (And.intro ?_ ?_)));(focus ((trivial);done));(focus ((refine sub_to [some 0] [] rfl ?_ ?_<;>(repeat' (first|exact trivial|refine ⟨⟨_,rfl,?_⟩,?_⟩|refine vs1 ?_ ?_|refine vs2 ?_ ?_|refine vs3 ?_|refine vs4 ?_ ?_|refine ⟨.inl ⟨_,_,rfl,rfl,?_⟩,?_⟩|exact ⟨.inr ⟨rfl,rfl⟩,trivial⟩|refine ⟨.inr ⟨rfl,rfl⟩,?_⟩|(intro _ _)|exact vz1|(first|exact siEq (offTo_yes (by simpa using hg)).symm|exact siEq (offTo_no (by simpa using hg)).symm|first|exact vsub_fE rfl|refine ⟨bsub_fB rfl rfl,?_⟩|exact .closed (row_ok h i))|exact vz2|fail)));done)))
                | trace_state
            · obtain rfl:k=dots.length:=by omega
              have hfl:=fndS_len (h:=h) (dots:=dots) (tol:=tol) i g
              by_cases h0:(fndS h dots tol i g).length=0
              · have hn:=List.eq_nil_of_length_eq_zero h0
                rw [hn]
                (repeat' (first|(refine ar_isq ?_;refine zq ?_)|(refine zbt ?_)|refine zg ?_ ?_|refine zgu ?_|refine zst ?_|refine aw_drawn (id:=10) [(0,0),(1,0),(2,0),(3,0),(4,0),(5,0),(6,0),(7,0),(8,0),(9,0),(10,0),(11,0),(12,0),(13,0),(14,0),(15,0),(16,0),(17,0),(18,0),(19,0),(20,2)] mixed (by kernel_rfl) ?_|refine zco ?_ ?_|(refine fun (hg:(_:Prop))=>?_;first|exact absurd hg (by decide)|((try replace hg:=HG.out hg);(try dsimp only at hg);(try rw [fromB_one] at hg);(try rw [withinB_iff] at hg);(try rw [withinB_no] at hg);(try (have _h:True:=hg;clear _h hg));first|(exfalso;omega)|skip))))
                all_goals first
                  | (exfalso;omega)
                  | (refine loop_next hltg trivial ?_
                     rw [fndS_yes ⟨hsh,by assumption⟩,fE_snoc,fB_snoc,hn]
                     (exact zsbD [some 2] []))
                  | (refine loop_next hltg trivial ?_
                     rw [fndS_no (fun hk=>absurd hk.2 (by assumption)),hn]
                     (refine sub_to [some 0] [] rfl ?_ ?_<;>(repeat' (first|exact trivial|refine ⟨⟨_,rfl,?_⟩,?_⟩|refine vs1 ?_ ?_|refine vs2 ?_ ?_|refine vs3 ?_|refine vs4 ?_ ?_|refine ⟨.inl ⟨_,_,rfl,rfl,?_⟩,?_⟩|exact ⟨.inr ⟨rfl,rfl⟩,trivial⟩|refine ⟨.inr ⟨rfl,rfl⟩,?_⟩|(intro _ _)|exact vz1|(first|exact vsub_fE rfl|refine ⟨bsub_fB rfl rfl,?_⟩|exact .closed (row_ok h i))|exact vz2|fail))))
                  | trace_state
              · rw [fE_pos h0,fB_pos h0]
                (repeat' (first|(refine ar_isq ?_;refine zq ?_)|(refine zbt ?_)|refine zg ?_ ?_|refine zgu ?_|refine zst ?_|refine aw_drawn (id:=10) [(0,0),(1,0),(2,0),(3,0),(4,0),(5,0),(6,0),(7,0),(8,0),(9,0),(10,0),(11,0),(12,0),(13,0),(14,0),(15,0),(16,0),(17,0),(18,0),(19,0),(20,2)] mixed (by kernel_rfl) ?_|refine zco ?_ ?_|(refine fun (hg:(_:Prop))=>?_;first|exact absurd hg (by decide)|((try replace hg:=HG.out hg);(try dsimp only at hg);(try rw [fromB_one] at hg);(try rw [withinB_iff] at hg);(try rw [withinB_no] at hg);(try (have _h:True:=hg;clear _h hg));first|(exfalso;omega)|skip))))
                all_goals first
                  | (exfalso;omega)
                  | (refine loop_next hltg trivial ?_
                     rw [fndS_yes ⟨hsh,by assumption⟩,fE_snoc,fB_snoc]
                     (refine sub_to [some 2] [] rfl ?_ ?_<;>(repeat' (first|exact trivial|refine ⟨⟨_,rfl,?_⟩,?_⟩|refine vs1 ?_ ?_|refine vs2 ?_ ?_|refine vs3 ?_|refine vs4 ?_ ?_|refine ⟨.inl ⟨_,_,rfl,rfl,?_⟩,?_⟩|exact ⟨.inr ⟨rfl,rfl⟩,trivial⟩|refine ⟨.inr ⟨rfl,rfl⟩,?_⟩|(intro _ _)|exact vz1|(exact .closed (row_ok h i))|exact vz2|fail))))
                  | (refine loop_next hltg trivial ?_
                     rw [fndS_no (fun hk=>absurd hk.2 (by assumption)),fE_pos h0,fB_pos h0]
                     (refine sub_to [some 0] [] rfl ?_ ?_<;>(repeat' (first|exact trivial|refine ⟨⟨_,rfl,?_⟩,?_⟩|refine vs1 ?_ ?_|refine vs2 ?_ ?_|refine vs3 ?_|refine vs4 ?_ ?_|refine ⟨.inl ⟨_,_,rfl,rfl,?_⟩,?_⟩|exact ⟨.inr ⟨rfl,rfl⟩,trivial⟩|refine ⟨.inr ⟨rfl,rfl⟩,?_⟩|(intro _ _)|exact vz1|(exact .closed (row_ok h i))|exact vz2|fail))))
                  | trace_state
        · obtain rfl:g=21:=by omega
          (repeat' (first|(refine ar_isq ?_;refine zq ?_)|(refine zbt ?_)|refine zg ?_ ?_|refine zgu ?_|refine zst ?_|refine aw_drawn (id:=10) [(0,0),(1,0),(2,0),(3,0),(4,0),(5,0),(6,0),(7,0),(8,0),(9,0),(10,0),(11,0),(12,0),(13,0),(14,0),(15,0),(16,0),(17,0),(18,0),(19,0),(20,2)] mixed (by kernel_rfl) ?_|refine zco ?_ ?_|(refine fun (hg:(_:Prop))=>?_;first|exact absurd hg (by decide)|((try replace hg:=HG.out hg);(try dsimp only at hg);(try rw [fromB_one] at hg);(try rw [withinB_iff] at hg);(try rw [withinB_no] at hg);(try (have _h:True:=hg;clear _h hg));first|(exfalso;omega)|skip))))
          all_goals first
            | (refine loop_next hlt trivial ?_
               rw [fndD_full (by assumption)]
               (refine sub_to [some 0] [] rfl ?_ ?_<;>(repeat' (first|exact trivial|refine ⟨⟨_,rfl,?_⟩,?_⟩|refine vs1 ?_ ?_|refine vs2 ?_ ?_|refine vs3 ?_|refine vs4 ?_ ?_|refine ⟨.inl ⟨_,_,rfl,rfl,?_⟩,?_⟩|exact ⟨.inr ⟨rfl,rfl⟩,trivial⟩|refine ⟨.inr ⟨rfl,rfl⟩,?_⟩|(intro _ _)|exact vz1|(first|exact vsub_fE rfl|refine ⟨bsub_fB rfl rfl,?_⟩|exact .closed (row_ok h i))|exact vz2|fail))))
            | trace_state
      · refine loop_next hlt trivial ?_
        rw [fndD_skip (show ¬ fndSize h dots i from by assumption)]
        (refine sub_to [some 0] [] rfl ?_ ?_<;>(repeat' (first|exact trivial|refine ⟨⟨_,rfl,?_⟩,?_⟩|refine vs1 ?_ ?_|refine vs2 ?_ ?_|refine vs3 ?_|refine vs4 ?_ ?_|refine ⟨.inl ⟨_,_,rfl,rfl,?_⟩,?_⟩|exact ⟨.inr ⟨rfl,rfl⟩,trivial⟩|refine ⟨.inr ⟨rfl,rfl⟩,?_⟩|(intro _ _)|exact vz1|(first|exact vsub_fE rfl|refine ⟨bsub_fB rfl rfl,?_⟩|exact .closed (row_ok h i))|exact vz2|fail)))
    · obtain rfl:i=h.designs.length:=by omega
      have hA:expArg dots tol:=⟨by omega,by omega⟩
      by_cases h0:(fndD h dots tol h.designs.length).length=0
      · have hn:=List.eq_nil_of_length_eq_zero h0
        rw [hn]
        (repeat' (first|(refine ar_isq ?_;refine zq ?_)|(refine zbt ?_)|refine ar_q (qs_eqnil0 (ty rfl) rfl rfl rfl) (dc rfl) ?_|refine zg ?_ ?_|refine zgu ?_|refine zst ?_|refine aw_drawn (id:=10) [(0,0),(1,0),(2,0),(3,0),(4,0),(5,0),(6,0),(7,0),(8,0),(9,0),(10,0),(11,0),(12,0),(13,0),(14,0),(15,0),(16,0),(17,0),(18,0),(19,0),(20,2)] mixed (by kernel_rfl) ?_|refine zco ?_ ?_|(refine fun (hg:(_:Prop))=>?_;first|exact absurd hg (by decide)|((try replace hg:=HG.out hg);(try dsimp only at hg);(try rw [fromB_one] at hg);(try rw [withinB_iff] at hg);(try rw [withinB_no] at hg);(try (have _h:True:=hg;clear _h hg));first|(exfalso;omega)|skip))))
        all_goals first
          | (exfalso;omega)
          | ((refine aw_mono_r (env':=[(6,encFnds []),(7,vi 105)]) (H':=[]) ?_ ?_;(focus (exact zsbD [] [])));(refine aw_ret ?_;(repeat (first|refine ret_then ?_|refine ret_block ?_));refine bq2 rfl rfl ⟨?_,rfl⟩);exact hend0 105 (expE_forged hv hA h0) (by decide))
          | trace_state
      · rw [fE_pos h0,fB_pos h0]
        (repeat' (first|(refine ar_isq ?_;refine zq ?_)|(refine zbt ?_)|refine ar_q (qs_eqnil1 h0 (ty rfl) rfl rfl rfl) (dc rfl) ?_|refine zg ?_ ?_|refine zgu ?_|refine zst ?_|refine aw_drawn (id:=10) [(0,0),(1,0),(2,0),(3,0),(4,0),(5,0),(6,0),(7,0),(8,0),(9,0),(10,0),(11,0),(12,0),(13,0),(14,0),(15,0),(16,0),(17,0),(18,0),(19,0),(20,2)] mixed (by kernel_rfl) ?_|refine zco ?_ ?_|(refine fun (hg:(_:Prop))=>?_;first|exact absurd hg (by decide)|((try replace hg:=HG.out hg);(try dsimp only at hg);(try rw [fromB_one] at hg);(try rw [withinB_iff] at hg);(try rw [withinB_no] at hg);(try (have _h:True:=hg;clear _h hg));first|(exfalso;omega)|skip))))
        all_goals first
          | (exfalso;omega)
          | ((refine aw_mono_r (env':=[(6,encFnds (fndD h dots tol h.designs.length)),(7,vi 0)]) (H':=[]) ?_ ?_;(focus ((refine sub_to [] [0] rfl ?_ ?_<;>(repeat' (first|exact trivial|refine ⟨⟨_,rfl,?_⟩,?_⟩|refine vs1 ?_ ?_|refine vs2 ?_ ?_|refine vs3 ?_|refine vs4 ?_ ?_|refine ⟨.inl ⟨_,_,rfl,rfl,?_⟩,?_⟩|exact ⟨.inr ⟨rfl,rfl⟩,trivial⟩|refine ⟨.inr ⟨rfl,rfl⟩,?_⟩|(intro _ _)|exact vz1|(exact frzLB (by simp;done) rfl (fun _=>rfl) rfl)|exact vz2|fail)));done)))
             (refine aw_ret ?_;(repeat (first|refine ret_then ?_|refine ret_block ?_));refine bq2 rfl rfl ⟨?_,rfl⟩)
             rw [expF_ok (expE_ok hv hA h0),expE_ok hv hA h0])
          | trace_state
end
theorem appF_elH {α:Type}[Inhabited α] {e:α→V}{l l':List α}{n:Nat}(hn:n=l.length) {f g:Nat→V}(hf:∀ i,i<n→f i=e (el l i)) (hg:∀ i,i<l'.length→g i=e (el l' i)) {k:Nat}(hk:k<n+l'.length):e (el (l++l') k)=appF n f g k:=by
  subst hn
  by_cases h:k<l.length
  · rw [appF_lt h,hf k h,el_app_lt h]
  · rw [appF_ge (by omega),hg _ (by omega)]
    congr 1
    simp [el,List.getElem?_append_right (show l.length≤k by omega)]
def noAct:Deed:=⟨0,0,0,0⟩
def noSheet:Sheet:=⟨0,0,0,0,0⟩
def noteSheet:Sheet:=⟨2,8,1,1,1⟩
def noteBand:List (List Int):=[[0,1],[4,4]]
def noteJob:Job:=⟨1,1,0,0,0,0,noAct,noteSheet,noteBand⟩
def actJob (k i d:Int):Job:=⟨5,0,0,0,0,0,⟨k,i,d,0⟩,noSheet,[]⟩
def exLicn:Job:=⟨2,2,0,0,5,9,noAct,noSheet,[]⟩
def exTake:Job:=⟨3,2,0,0,3,0,noAct,noSheet,[]⟩
def exEngv:Job:=⟨4,0,0,0,0,0,noAct,noSheet,[]⟩
def exPrnt:Job:=⟨6,0,0,0,0,0,⟨0,2,0,3⟩,noSheet,[]⟩
def exGive:Job:=⟨7,0,0,0,0,0,noAct,noSheet,[]⟩
def exJobs:List Job:=[noteJob,exLicn,exTake,exEngv,actJob 3 0 1,actJob 2 0 0,actJob 2 1 0,actJob 3 2 2,exPrnt]
def exImage:List Bool:=[false,true,true,false,false,false,false,false,true,true,false,false,false,false,false,false]
def exDsn:Dsn:=⟨1,noteSheet,noteBand⟩
def exStore:List Prt→Sto:=fun p=>⟨1000,[⟨1,-1,1,1,false⟩,⟨2,0,1,1,false⟩,⟨3,1,2,3,false⟩],p⟩
def exHse:Hse:=⟨100,0,exStore [⟨2,0⟩,⟨2,0⟩,⟨2,0⟩],[exDsn],[⟨0,2,9,2⟩],[⟨2,0,3,false⟩],[0,0,0],[0,0,0]⟩
def exHse2:Hse:=⟨100,0,exStore [⟨2,1⟩,⟨2,1⟩,⟨2,1⟩],[exDsn],[⟨0,2,9,2⟩],[⟨2,0,3,true⟩],[0,0,0],[0,0,0]⟩
def bookE:List Job:=exJobs++[exGive]
theorem exErrs:∀ j,j<9→hErrAt 100 1000 exJobs j=0:=by decide +kernel
theorem exErrsE:∀ j,j<10→hErrAt 100 1000 bookE j=0:=by decide +kernel
theorem exHse_eq:hAt 100 1000 exJobs 9=exHse:=by kernel_rfl
theorem exHse2_eq:hAt 100 1000 bookE 10=exHse2:=by kernel_rfl
theorem ex_life:(1≤(100:Int)∧(100:Int)≤1000)∧(1≤(1000:Int)∧(1000:Int)≤1000):=by decide
theorem exX:hplayX 100 1000 exJobs=(0,0):=hplayX_ok (by decide) ex_life exErrs
theorem exXE:hplayX 100 1000 bookE=(0,0):=hplayX_ok (by decide) ex_life exErrsE
theorem exF:hplayF 100 1000 exJobs=exHse:=(hplayF_ok (by rw [exX])).trans exHse_eq
theorem exFE:hplayF 100 1000 bookE=exHse2:=(hplayF_ok (by rw [exXE])).trans exHse2_eq
theorem exValid:HValid exHse:=by rw [← exHse_eq];exact hAt_ok (hvalid0.2 ex_life) exErrs
theorem exValid2:HValid exHse2:=by rw [← exHse2_eq];exact hAt_ok (hvalid0.2 ex_life) exErrsE
theorem exSmall2:HSmall exHse2:=hsmall_of exValid2
theorem exSt2:StOk exHse2.store:=by
  intro j hj
  match j,hj with
  | 0,_|1,_|2,_=>decide
theorem jobs_u8d {bk:List Job}(h:(bk.all fun j=>decide (0≤j.kind)&&(decide (j.kind≤255)&&(decide (0≤j.act.kind)&&decide (j.act.kind≤255))))=true):∀ j,j<bk.length→u8ok (el bk j).kind∧u8ok (el bk j).act.kind:=fun j hj=>by
  have:=List.all_eq_true.1 h _ (el_mem hj)
  simp only [Bool.and_eq_true,decide_eq_true_eq] at this
  exact ⟨⟨this.1,this.2.1⟩,this.2.2.1,this.2.2.2⟩
theorem exPlayE_p:PCalls Tryz.prog 14 [vi 100,vi 1000,encJobs bookE] (·=.tup [exHse2.enc,vi 0,vi 0]):=(hPlay_p 100 1000 bookE (jobs_u8d (by decide))).mono fun v h=>by rw [h,exFE,exXE]
theorem exReport_p:PCalls Tryz.prog 25 [exHse2.enc,vi 0] (·=.tup [vi 3,vi 0,vi 0,vi 0]):=(hReport_p exHse2 0 exSmall2 exSt2).mono fun v h=>by
  rw [h,repV_ok (repE_ok exValid2 (by decide)),show doneF exHse2 0 0=0 by decide +kernel,show doneF exHse2 0 1=3 by decide +kernel,show doneF exHse2 0 2=0 by decide +kernel,show (ordAt exHse2 0).need=3 from rfl]
  rfl
def exOrg:Org:=⟨0,2,0,[0,1,2],0⟩
theorem exAsk:askE exHse2 1=0:=askE_ok exValid2 (by decide)
theorem exOrg_eq:orgF exHse2 1=exOrg:=by
  have he:=lineE_ok (i:=2) exValid2.store (by decide)
  unfold orgF
  rw [show (el exHse2.store.prints (Int.toNat 1)).plate=2 from rfl,lineF_ok he,show lineTo exHse2.store.items 2 (lineN exHse2.store.items 2)=[0,1,2] by decide +kernel]
  rfl
theorem exTrace_p:PCalls Tryz.prog 27 [exHse2.enc,vi 1] (·=.tup [exOrg.enc,vi 0]):=(hTrace_p exHse2 1 exSmall2 exSt2).mono fun v h=>by
  rw [h,exAsk]
  unfold traceF
  rw [if_pos exAsk,exOrg_eq]
theorem exImage_eq:dproofF (dsnAt exHse2 (ordAt exHse2 (forAt exHse2 1)).design) (growF exHse2 (Int.toNat 1))=exImage:=by kernel_rfl
theorem exImage_p:PCalls Tryz.prog 26 [exHse2.enc,vi 1] (·=.tup [encBools exImage,vi 0]):=(hImage_p exHse2 1 exSmall2 exSt2).mono fun v h=>by
  rw [h,exAsk]
  unfold imageF
  rw [if_pos exAsk,exImage_eq]
def exFnd:Fnd:=⟨0,0,0⟩
theorem exFnd_eq:fndD exHse2 exImage 0 exHse2.designs.length=[exFnd]:=by kernel_rfl
theorem exExpert_p:PCalls Tryz.prog 29 [exHse2.enc,encBools exImage,vi 0] (·=.tup [encFnds [exFnd],vi 0]):=(hExpert_p exHse2 exImage 0 exSmall2 exSt2).mono fun v h=>by
  have he:expE exHse2 exImage 0=0:=expE_ok exValid2 (by decide) (by rw [exFnd_eq];decide)
  rw [h,expF_ok he,he,exFnd_eq]
def bookN:List Job:=[noteJob,exTake]
theorem exXN:hplayX 100 1000 bookN=(1,102):=(hplayX_bad (k:=1) (by decide) ex_life (by decide +kernel) (by decide) (by decide +kernel)).trans (by decide +kernel)
theorem exPlayN_p:PCalls Tryz.prog 14 [vi 100,vi 1000,encJobs bookN] (·=.tup [noHse.enc,vi 1,vi 102]):=(hPlay_p 100 1000 bookN (jobs_u8d (by decide))).mono fun v h=>by rw [h,hplayF_bad (by rw [exXN];decide),exXN]
theorem hnote_p:PCalls Tryz.prog 35 [] (·=noteJob.enc):=by
  refine pcalls_of_aw Tryz.func35 rfl (dc rfl) ?_
  (repeat' (first|(refine zbt ?_)|refine ar_buildLE vi ([0,1]) (by exact ty rfl) (by exact rfl) (by exact ty rfl) (by exact rfl) (by exact rfl) (by exact Nat.succ_pos _) (by exact rfl) (by exact dc rfl) (by exact rfl) (by exact fun _=>⟨rfl,rfl⟩) (by exact dc rfl) ?_|(((refine ar_subk_l (sub_frzL (t:=2) vi ([0,1]) rfl rfl rfl rfl (fun _ _=>rfl) (fun _=>rfl)) ?_);refine ar_buildLE vi ([4,4]) (by exact ty rfl) (by exact rfl) (by exact ty rfl) (by exact rfl) (by exact rfl) (by exact Nat.succ_pos _) (by exact rfl) (by exact dc rfl) (by exact rfl) (by exact fun _=>⟨rfl,rfl⟩) (by exact dc rfl) ?_))|(((refine ar_subk_l (sub_frzL (t:=3) vi ([4,4]) rfl rfl rfl rfl (fun _ _=>rfl) (fun _=>rfl)) ?_);refine ar_buildLE encInts (noteBand) (by exact ty rfl) (by exact rfl) (by exact ty rfl) (by exact rfl) (by exact rfl) (by exact Nat.succ_pos _) (by exact rfl) (by exact dc rfl) (by exact rfl) (by exact fun _=>⟨rfl,rfl⟩) (by exact dc rfl) ?_))|refine zst ?_|refine zco ?_ ?_|exact zd|(refine fun (hg:(_:Prop))=>?_;(try replace hg:=HG.out hg);(try dsimp only at hg);(try (have _h:True:=hg;clear _h hg)))))
  (refine aw_mono_r (env':=[(0,.ptr 16 0 0 0)]) (H':=[.arr 16 1 (fun _=>noteJob.enc)]) ?_ ?_;(focus (exact zscD [some 0] [3])))
  refine aw_ret ?_
  (repeat (first|refine ret_then ?_|refine ret_block ?_))
  exact bq1c (f:=fun _=>noteJob.enc) (v:=noteJob.enc) (ty rfl) rfl rfl Nat.one_pos rfl ⟨rfl,rfl⟩
theorem hactj_p (k i d:Int):PCalls Tryz.prog 63 [vu8 k,vi i,vi d] (·=(actJob k i d).enc):=by
  refine pcalls_of_aw Tryz.func63 rfl (dc rfl) ?_
  (repeat' (first|(refine ar_isq ?_;refine zq ?_)|(refine zbt ?_)|refine zst ?_|refine zco ?_ ?_|exact zd|(refine fun (hg:(_:Prop))=>?_;(try replace hg:=HG.out hg);(try dsimp only at hg);(try (have _h:True:=hg;clear _h hg)))))
  first
    | ((refine aw_mono_r (env':=[(6,.ptr 16 0 0 0)]) (H':=[.arr 16 1 (fun _=>(actJob k i d).enc)]) ?_ ?_;(focus (exact zscD [some 0] [])))
       refine aw_ret ?_
       (repeat (first|refine ret_then ?_|refine ret_block ?_))
       exact bq1c (f:=fun _=>(actJob k i d).enc) (v:=(actJob k i d).enc) (ty rfl) rfl rfl Nat.one_pos rfl ⟨rfl,rfl⟩)
    | trace_state
theorem exImage_at:∀ k,k<16→upd (upd (upd (upd (fun _=>vb false) 1 (vb true)) 2 (vb true)) 8 (vb true)) 9 (vb true) k=vb (el exImage k)
  | 0,_|1,_|2,_|3,_|4,_|5,_|6,_|7,_|8,_|9,_|10,_|11,_|12,_|13,_|14,_|15,_=>rfl
  | k+16,h=>absurd h (by omega)
theorem himage_p:PCalls Tryz.prog 34 [] (·=encBools exImage):=by
  refine pcalls_of_aw Tryz.func34 rfl (dc rfl) ?_
  (repeat' (first|(refine ar_isq ?_;refine zq ?_)|refine zil (j:=1) ?_|refine zis (j:=1) ?_|refine zit (j:=1) ?_|refine zil (j:=2) ?_|refine zis (j:=2) ?_|refine zit (j:=2) ?_|refine zil (j:=8) ?_|refine zis (j:=8) ?_|refine zit (j:=8) ?_|refine zil (j:=9) ?_|refine zis (j:=9) ?_|refine zit (j:=9) ?_|(refine ar_make_v (n:=16) (ty rfl) rfl (ty rfl) rfl rfl (by omega) (by omega) (dc rfl) rfl rfl (by dsimp only;omega) (maxLen_ok (by omega)) ?_)|refine zst ?_|refine zco ?_ ?_|exact zd|(refine fun (hg:(_:Prop))=>?_;(try replace hg:=HG.out hg);(try dsimp only at hg);(try (have _h:True:=hg;clear _h hg)))))
  first
    | ((refine aw_mono_r (env':=[(0,encBools exImage)]) (H':=[]) ?_ ?_;(focus ((refine sub_to [] [0] rfl ?_ ?_<;>(repeat' (first|exact trivial|refine ⟨⟨_,rfl,?_⟩,?_⟩|refine vs1 ?_ ?_|refine vs2 ?_ ?_|refine vs3 ?_|refine vs4 ?_ ?_|refine ⟨.inl ⟨_,_,rfl,rfl,?_⟩,?_⟩|exact ⟨.inr ⟨rfl,rfl⟩,trivial⟩|refine ⟨.inr ⟨rfl,rfl⟩,?_⟩|(intro _ _)|exact vz1|(exact frz_as (l:=exImage) (by simp;done) rfl rfl rfl exImage_at (fun _=>rfl))|exact vz2|fail)));done)))
       (refine aw_ret ?_;(repeat (first|refine ret_then ?_|refine ret_block ?_));refine bq1 rfl ⟨?_,rfl⟩)
       rfl)
    | trace_state
theorem hbookF_p:FCalls Tryz.prog 33 [] 16 (fun n f=>n=9∧f=fun j=>Job.enc (el exJobs j)):=by
  refine fcalls_of_aw Tryz.func33 rfl (dc rfl) ?_
  (repeat' (first|(refine ar_isq ?_;refine zq ?_)|(refine zbt ?_)|(refine zpvD fn35 (hnote_p) ?_)|(refine zpvD fn63 (hactj_p _ _ _) ?_)|(((refine ar_subk_l (sub_nilC (t:=2) (exLicn.enc) rfl rfl (by repeat' (first|exact trivial|refine ⟨.inl rfl,?_⟩|refine ⟨.inr ⟨rfl,_,_,rfl⟩,?_⟩))) ?_);(refine ar_subk_l (sub_nilC (t:=3) (exTake.enc) rfl rfl (by repeat' (first|exact trivial|refine ⟨.inl rfl,?_⟩|refine ⟨.inr ⟨rfl,_,_,rfl⟩,?_⟩))) ?_);(refine ar_subk_l (sub_nilC (t:=4) (exEngv.enc) rfl rfl (by repeat' (first|exact trivial|refine ⟨.inl rfl,?_⟩|refine ⟨.inr ⟨rfl,_,_,rfl⟩,?_⟩))) ?_);(refine ar_subk_l (sub_nilC (t:=10) (exPrnt.enc) rfl rfl (by repeat' (first|exact trivial|refine ⟨.inl rfl,?_⟩|refine ⟨.inr ⟨rfl,_,_,rfl⟩,?_⟩))) ?_);refine ar_buildLE Job.enc (exJobs) (by exact ty rfl) (by exact rfl) (by exact ty rfl) (by exact rfl) (by exact rfl) (by exact Nat.succ_pos _) (by exact rfl) (by exact dc rfl) (by exact rfl) (by exact fun _=>⟨rfl,rfl⟩) (by exact dc rfl) ?_))|refine zst ?_|refine zco ?_ ?_|exact zd|(refine fun (hg:(_:Prop))=>?_;(try replace hg:=HG.out hg);(try dsimp only at hg);(try (have _h:True:=hg;clear _h hg)))))
  all_goals first
    | (refine aw_ret ?_;(repeat (first|refine ret_then ?_|refine ret_block ?_))
       exact bq1 rfl ⟨9,_,rfl,rfl,⟨rfl,rfl⟩,fun i _=>rfl⟩)
    | trace_state
theorem sameOrigin_p (o:Org):PCalls Tryz.prog 51 [o.enc,o.enc] (·=vb true):=by
  refine pcalls_of_aw Tryz.func51 rfl (dc rfl) ?_
  (repeat' (first|(refine ar_isq ?_;refine zq ?_)|(refine zpvD fn32 (sameInts_p o.line) ?_)|refine zg ?_ ?_|refine zgu ?_|refine zst ?_|refine zco ?_ ?_|exact zd|(refine fun (hg:(_:Prop))=>?_;(try replace hg:=HG.out hg);(try dsimp only at hg);(try (have _h:True:=hg;clear _h hg)))))
  all_goals first
    | (exfalso;simp at *;done)
    | ((refine aw_ret ?_;(repeat (first|refine ret_then ?_|refine ret_block ?_));refine bq1 rfl ⟨?_,rfl⟩);rfl)
    | trace_state
theorem sameFnds_p (l:List Fnd):PCalls Tryz.prog 36 [encFnds l,encFnds l] (·=vb true):=by
  (refine pcalls_know (fun I us h=>rel_len (rel_arg h (j:=0) rfl)) fun hlen0=>?_)
  refine pcalls_of_aw Tryz.func36 rfl (dc rfl) ?_
  (repeat' (first|(refine ar_isq ?_;refine zq ?_)|refine ar_q (qs_sneq (seq rfl) rfl rfl (.int (ty rfl) rfl rfl rfl rfl (.int (ty rfl) rfl rfl rfl rfl .nil))) (dc rfl) ?_|refine ar_q (qs_sneq (seq rfl) rfl rfl (.int (ty rfl) rfl rfl rfl rfl (.int (ty rfl) rfl rfl rfl rfl (.int (ty rfl) rfl rfl rfl rfl .nil)))) (dc rfl) ?_|refine ar_q (qs_sneq (seq rfl) rfl rfl (.int (ty rfl) rfl rfl rfl rfl (.int (ty rfl) rfl rfl rfl rfl (.int (ty rfl) rfl rfl rfl rfl (.int (ty rfl) rfl rfl rfl rfl .nil))))) (dc rfl) ?_|refine ar_q (qs_sneq (seq rfl) rfl rfl (.int (ty rfl) rfl rfl rfl rfl (.int (ty rfl) rfl rfl rfl rfl (.int (ty rfl) rfl rfl rfl rfl (.int (ty rfl) rfl rfl rfl rfl (.int (ty rfl) rfl rfl rfl rfl .nil)))))) (dc rfl) ?_|refine zst ?_|refine aw_drawn (id:=6) [(0,0),(1,0),(2,0),(3,0),(4,0),(5,0),(6,0),(7,0),(8,0)] mixed (by kernel_rfl) ?_|refine zco ?_ ?_|exact zd|(refine fun (hg:(_:Prop))=>?_;(try replace hg:=HG.out hg);(try dsimp only at hg);(try (have _h:True:=hg;clear _h hg)))))
  all_goals (try (exfalso;omega))
  refine aw_for l.length (fun _=>True) (fun k=>[(0,encFnds l),(1,encFnds l),(5,vi k)]) (fun _=>[]) trivial ?_ ?_
  · (exact zsbD [] [])
  intro k hk _
  by_cases hlt:k<l.length
  · (repeat' (first|(refine ar_isq ?_;refine zq ?_)|refine ar_q (qs_sneq (seq rfl) rfl rfl (.int (ty rfl) rfl rfl rfl rfl (.int (ty rfl) rfl rfl rfl rfl .nil))) (dc rfl) ?_|refine ar_q (qs_sneq (seq rfl) rfl rfl (.int (ty rfl) rfl rfl rfl rfl (.int (ty rfl) rfl rfl rfl rfl (.int (ty rfl) rfl rfl rfl rfl .nil)))) (dc rfl) ?_|refine ar_q (qs_sneq (seq rfl) rfl rfl (.int (ty rfl) rfl rfl rfl rfl (.int (ty rfl) rfl rfl rfl rfl (.int (ty rfl) rfl rfl rfl rfl (.int (ty rfl) rfl rfl rfl rfl .nil))))) (dc rfl) ?_|refine ar_q (qs_sneq (seq rfl) rfl rfl (.int (ty rfl) rfl rfl rfl rfl (.int (ty rfl) rfl rfl rfl rfl (.int (ty rfl) rfl rfl rfl rfl (.int (ty rfl) rfl rfl rfl rfl (.int (ty rfl) rfl rfl rfl rfl .nil)))))) (dc rfl) ?_|refine zil (j:=k) ?_|refine zis (j:=k) ?_|refine zit (j:=k) ?_|refine zst ?_|refine aw_drawn (id:=6) [(0,0),(1,0),(2,0),(3,0),(4,0),(5,0),(6,0),(7,0),(8,0)] mixed (by kernel_rfl) ?_|refine zco ?_ ?_|exact zd|(refine fun (hg:(_:Prop))=>?_;(try replace hg:=HG.out hg);(try dsimp only at hg);(try (have _h:True:=hg;clear _h hg)))))
    all_goals first
      | (exfalso;omega)
      | (exfalso;simp at *;done)
      | ((first|refine loop_next (by omega) ?_ ?_|refine (show _∧_∧SubOf _ _ _ _ _ _ from And.intro (by omega) (And.intro ?_ ?_)));(focus ((trivial);done));(focus (exact zsbD [] [])))
      | trace_state
  · obtain rfl:k=l.length:=by omega
    (repeat' (first|(refine ar_isq ?_;refine zq ?_)|refine ar_q (qs_sneq (seq rfl) rfl rfl (.int (ty rfl) rfl rfl rfl rfl (.int (ty rfl) rfl rfl rfl rfl .nil))) (dc rfl) ?_|refine ar_q (qs_sneq (seq rfl) rfl rfl (.int (ty rfl) rfl rfl rfl rfl (.int (ty rfl) rfl rfl rfl rfl (.int (ty rfl) rfl rfl rfl rfl .nil)))) (dc rfl) ?_|refine ar_q (qs_sneq (seq rfl) rfl rfl (.int (ty rfl) rfl rfl rfl rfl (.int (ty rfl) rfl rfl rfl rfl (.int (ty rfl) rfl rfl rfl rfl (.int (ty rfl) rfl rfl rfl rfl .nil))))) (dc rfl) ?_|refine ar_q (qs_sneq (seq rfl) rfl rfl (.int (ty rfl) rfl rfl rfl rfl (.int (ty rfl) rfl rfl rfl rfl (.int (ty rfl) rfl rfl rfl rfl (.int (ty rfl) rfl rfl rfl rfl (.int (ty rfl) rfl rfl rfl rfl .nil)))))) (dc rfl) ?_|refine zst ?_|refine aw_drawn (id:=6) [(0,0),(1,0),(2,0),(3,0),(4,0),(5,0),(6,0),(7,0),(8,0)] mixed (by kernel_rfl) ?_|refine zco ?_ ?_|exact zd|(refine fun (hg:(_:Prop))=>?_;(try replace hg:=HG.out hg);(try dsimp only at hg);(try (have _h:True:=hg;clear _h hg)))))
    all_goals first
      | (exfalso;omega)
      | ((refine aw_ret ?_;(repeat (first|refine ret_then ?_|refine ret_block ?_));refine bq1 rfl ⟨?_,rfl⟩);rfl)
      | trace_state
def moreE:List Job:=[exGive]
set_option maxRecDepth 20000 in
theorem halive_p:PCalls Tryz.prog 24 [] (·=vb true):=by
  have hA:moreE.length=1:=rfl
  refine pcalls_of_aw Tryz.func24 rfl (dc rfl) ?_
  (repeat' (first|(refine ar_isq ?_;refine zq ?_)|refine ar_q (qs_seq (seq rfl) rfl rfl (.int (ty rfl) rfl rfl rfl rfl (.int (ty rfl) rfl rfl rfl rfl .nil))) (dc rfl) ?_|refine ar_q (qs_seq (seq rfl) rfl rfl (.int (ty rfl) rfl rfl rfl rfl (.int (ty rfl) rfl rfl rfl rfl (.int (ty rfl) rfl rfl rfl rfl .nil)))) (dc rfl) ?_|refine ar_q (qs_seq (seq rfl) rfl rfl (.int (ty rfl) rfl rfl rfl rfl (.int (ty rfl) rfl rfl rfl rfl (.int (ty rfl) rfl rfl rfl rfl (.int (ty rfl) rfl rfl rfl rfl .nil))))) (dc rfl) ?_|refine ar_q (qs_seq (seq rfl) rfl rfl (.int (ty rfl) rfl rfl rfl rfl (.int (ty rfl) rfl rfl rfl rfl (.int (ty rfl) rfl rfl rfl rfl (.int (ty rfl) rfl rfl rfl rfl (.int (ty rfl) rfl rfl rfl rfl .nil)))))) (dc rfl) ?_|refine ar_q (qs_sneq (seq rfl) rfl rfl (.int (ty rfl) rfl rfl rfl rfl (.int (ty rfl) rfl rfl rfl rfl .nil))) (dc rfl) ?_|refine ar_q (qs_sneq (seq rfl) rfl rfl (.int (ty rfl) rfl rfl rfl rfl (.int (ty rfl) rfl rfl rfl rfl (.int (ty rfl) rfl rfl rfl rfl .nil)))) (dc rfl) ?_|refine ar_q (qs_sneq (seq rfl) rfl rfl (.int (ty rfl) rfl rfl rfl rfl (.int (ty rfl) rfl rfl rfl rfl (.int (ty rfl) rfl rfl rfl rfl (.int (ty rfl) rfl rfl rfl rfl .nil))))) (dc rfl) ?_|refine ar_q (qs_sneq (seq rfl) rfl rfl (.int (ty rfl) rfl rfl rfl rfl (.int (ty rfl) rfl rfl rfl rfl (.int (ty rfl) rfl rfl rfl rfl (.int (ty rfl) rfl rfl rfl rfl (.int (ty rfl) rfl rfl rfl rfl .nil)))))) (dc rfl) ?_|refine ar_q (qs_and rfl rfl (andMask (by omega))) (dc rfl) ?_|refine ar_q (qs_shr rfl rfl (by omega) (shr0 (by omega))) (dc rfl) ?_|refine zil (j:=0) ?_|refine zis (j:=0) ?_|refine zit (j:=0) ?_|(refine zbt ?_)|((refine ar_fcall fn33 rfl rfl .nil hbookF_p (dc rfl) ?_;rintro _ _ ⟨rfl,rfl⟩))|(((refine ar_subk_l (sub_nilC (t:=19) (exGive.enc) rfl rfl (by repeat' (first|exact trivial|refine ⟨.inl rfl,?_⟩|refine ⟨.inr ⟨rfl,_,_,rfl⟩,?_⟩))) ?_);refine ar_buildLE Job.enc (moreE) (by exact ty rfl) (by exact rfl) (by exact ty rfl) (by exact rfl) (by exact rfl) (by exact Nat.succ_pos _) (by exact rfl) (by exact dc rfl) (by exact rfl) (by exact fun _=>⟨rfl,rfl⟩) (by exact dc rfl) ?_))|((refine ar_subk_l (sub_frzL (t:=21) Job.enc bookE rfl rfl rfl rfl (fun k hk=>appF_elH (e:=Job.enc) (l:=exJobs) (l':=moreE) (n:=9) rfl (fun _ _=>rfl) (fun i _=>congrArg (fun q=>Job.enc (el moreE q)) (Nat.zero_add i)) hk) (fun _=>rfl)) ?_;refine zpvD fn14 (exPlayE_p) ?_))|(refine zpvD fn25 (exReport_p) ?_)|(refine zpvD fn27 (exTrace_p) ?_)|(refine zpvD fn26 (exImage_p) ?_)|(refine zpvD fn34 (himage_p) ?_)|(refine zpvD fn29 (exExpert_p) ?_)|(refine zpvD fn35 (hnote_p) ?_)|(((refine ar_subk_l (sub_nilC (t:=51) (exTake.enc) rfl rfl (by repeat' (first|exact trivial|refine ⟨.inl rfl,?_⟩|refine ⟨.inr ⟨rfl,_,_,rfl⟩,?_⟩))) ?_);refine ar_buildLE Job.enc (bookN) (by exact ty rfl) (by exact rfl) (by exact ty rfl) (by exact rfl) (by exact rfl) (by exact Nat.succ_pos _) (by exact rfl) (by exact dc rfl) (by exact rfl) (by exact fun _=>⟨rfl,rfl⟩) (by exact dc rfl) ?_))|(((refine ar_subk_l (sub_frzL (t:=52) Job.enc (bookN) rfl rfl rfl rfl (fun _ _=>rfl) (fun _=>rfl)) ?_);refine zpvD fn14 (exPlayN_p) ?_))|refine ar_buildLE vi ([0,1,2]) (by exact ty rfl) (by exact rfl) (by exact ty rfl) (by exact rfl) (by exact rfl) (by exact Nat.succ_pos _) (by exact rfl) (by exact dc rfl) (by exact rfl) (by exact fun _=>⟨rfl,rfl⟩) (by exact dc rfl) ?_|((refine ar_lcall fn51 rfl rfl (first:=[]) (cap:=[]) (zs:=[exOrg.enc,exOrg.enc]) ⟨.closed rfl,.aggL ⟨.closed rfl,.closed rfl,.closed rfl,.row rfl rfl (fun _=>rfl),.closed rfl,trivial⟩,trivial⟩ (sameOrigin_p exOrg) (by intros;subst_vars;rfl) (dc rfl) ?_;intro _ hv;subst hv))|(refine zpvD fn52 (sameBools_p exImage) ?_)|refine ar_buildLE Fnd.enc ([exFnd]) (by exact ty rfl) (by exact rfl) (by exact ty rfl) (by exact rfl) (by exact rfl) (by exact Nat.succ_pos _) (by exact rfl) (by exact dc rfl) (by exact rfl) (by exact fun _=>⟨rfl,rfl⟩) (by exact dc rfl) ?_|(((refine ar_subk_l (sub_frzL (t:=128) Fnd.enc ([exFnd]) rfl rfl rfl rfl (fun _ _=>rfl) (fun _=>rfl)) ?_);refine zpvD fn36 (sameFnds_p [exFnd]) ?_))|refine zcl ?_|refine zcs ?_|refine zcpl ?_|refine zcpo ?_|refine zg ?_ ?_|refine zgu ?_|refine zst ?_|refine aw_drawn (id:=5) [(0,0),(1,1),(2,1),(3,0),(4,0),(5,0),(6,0),(7,0)] mixed (by kernel_rfl) ?_|refine zco ?_ ?_|exact zd|(refine fun (hg:(_:Prop))=>?_;(try replace hg:=HG.out hg);(try dsimp only at hg);(try (have _h:True:=hg;clear _h hg)))))
  all_goals first
    | ((refine aw_ret ?_;(repeat (first|refine ret_then ?_|refine ret_block ?_));refine bq1 rfl ⟨?_,rfl⟩);rfl)
    | trace_state
def StAll (s:Sto):Prop:=∀ p,p∈s.prints→0≤p.state
theorem stOk_all {s:Sto}(h:StAll s):StOk s:=fun j hj=>h _ (el_mem hj)
theorem stAll_ok {s:Sto}(h:StOk s):StAll s:=fun p hp=>by obtain ⟨k,hk,rfl⟩:=mem_el hp;exact h k hk
theorem stAll_el {s:Sto}(h:StAll s) (k:Nat):0≤(el s.prints k).state:=by
  by_cases hk:k<s.prints.length
  · exact h _ (el_mem hk)
  · have:el s.prints k=default:=by simp [el,show s.prints.length≤k by omega]
    rw [this]
    exact Int.le_refl 0
theorem stAll_map {s:Sto}{g:Nat→Prt}{n:Nat}(hg:∀ k,0≤(g k).state):∀ p,p∈(List.range n).map g→0≤p.state:=fun p hp=>by
  obtain ⟨k,_,rfl⟩:=List.mem_map.1 hp
  exact hg k
theorem stAll_act {s:Sto}{a:Deed}(h:StAll s):StAll (actF s a):=by
  unfold actF
  split
  · exact h
  · split
    · exact h
    · split
      · exact h
      · split
        · intro p hp
          rcases List.mem_append.1 hp with hp|hp
          · exact h p hp
          · rw [(List.mem_replicate.1 hp).2]
            exact Int.le_refl 0
        · split
          · refine stAll_map (s:=s) fun k=>?_
            unfold stateAt
            split
            · exact Int.le_of_lt (by decide:(0:Int)<1)
            · exact stAll_el h k
          · split
            · refine stAll_map (s:=s) fun k=>?_
              unfold stateAt
              split
              · exact (by decide:(0:Int)≤2)
              · exact stAll_el h k
            · exact h
theorem stAll_job {h:Hse}{j:Job}(hs:StAll h.store):StAll (jobF h j).store:=by
  unfold jobF
  split
  · exact hs
  · split
    · exact hs
    · split
      · exact hs
      · split
        · exact stAll_act hs
        · split
          · exact stAll_act hs
          · split
            · exact stAll_act hs
            · split
              · refine stAll_map (s:=h.store) fun k=>?_
                unfold giveP
                split
                · exact Int.le_of_lt (by decide:(0:Int)<1)
                · exact stAll_el hs k
              · exact hs
theorem stAll_at {per life:Int}{bk:List Job}:∀ k,StAll (hAt per life bk k).store
  | 0=>fun p hp=>by simp [hAt,hse0] at hp
  | k+1=>stAll_job (stAll_at k)
theorem stOk_at (per life:Int) (bk:List Job) (k:Nat):StOk (hAt per life bk k).store:=stOk_all (stAll_at k)
def Fnd.lt (x y:Fnd):Prop:=x.design<y.design∨x.design=y.design∧x.grow<y.grow
section
variable {h:Hse}{dots:List Bool}{tol:Int}
theorem fndG_mem {i:Nat}{x:Fnd}:∀ {g:Nat},x∈fndG h dots tol i g↔∃ q,q<g∧x=⟨i,q,offD h dots i q⟩∧fndOk h dots tol i q
  | 0=>⟨fun h=>(by cases h),fun ⟨q,h,_⟩=>absurd h (Nat.not_lt_zero q)⟩
  | g+1=>by
    have ih:=fndG_mem (i:=i) (x:=x) (g:=g)
    rw [fndG]
    split
    · rename_i hok
      rw [List.mem_append,List.mem_singleton,ih]
      constructor
      · rintro (⟨q,h1,h2⟩|h1)
        · exact ⟨q,by omega,h2⟩
        · exact ⟨g,by omega,h1,hok⟩
      · rintro ⟨q,h1,h2,h3⟩
        by_cases e:q=g
        · subst e;exact .inr h2
        · exact .inl ⟨q,by omega,h2,h3⟩
    · rename_i hno
      rw [ih]
      constructor
      · rintro ⟨q,h1,h2⟩
        exact ⟨q,by omega,h2⟩
      · rintro ⟨q,h1,h2,h3⟩
        by_cases e:q=g
        · subst e;exact (hno h3).elim
        · exact ⟨q,by omega,h2,h3⟩
theorem fndD_mem {x:Fnd}:∀ {n:Nat},x∈fndD h dots tol n↔∃ i g:Nat,i<n∧g<21∧x=⟨i,g,offD h dots i g⟩∧fndOk h dots tol i g∧fndSize h dots i
  | 0=>⟨fun h=>(by cases h),fun ⟨i,g,h,_⟩=>absurd h (Nat.not_lt_zero i)⟩
  | n+1=>by
    have ih:=fndD_mem (x:=x) (n:=n)
    rw [fndD]
    split
    · rename_i hsz
      rw [List.mem_append,ih,fndG_mem]
      constructor
      · rintro (⟨i,g,h1,h2⟩|⟨g,h1,h2,h3⟩)
        · exact ⟨i,g,by omega,h2⟩
        · exact ⟨n,g,by omega,h1,h2,h3,hsz⟩
      · rintro ⟨i,g,h1,h2,h3,h4,h5⟩
        by_cases e:i=n
        · subst e;exact .inr ⟨g,h2,h3,h4⟩
        · exact .inl ⟨i,g,by omega,h2,h3,h4,h5⟩
    · rename_i hno
      rw [ih]
      constructor
      · rintro ⟨i,g,h1,h2⟩
        exact ⟨i,g,by omega,h2⟩
      · rintro ⟨i,g,h1,h2,h3,h4,h5⟩
        by_cases e:i=n
        · subst e;exact (hno h5).elim
        · exact ⟨i,g,by omega,h2,h3,h4,h5⟩
theorem fndG_sort {i:Nat}:∀ g,(fndG h dots tol i g).Pairwise Fnd.lt
  | 0=>.nil
  | g+1=>by
    rw [fndG]
    split
    · refine List.pairwise_append.2 ⟨fndG_sort g,List.pairwise_singleton _ _,fun x hx y hy=>?_⟩
      obtain ⟨q,h1,rfl,_⟩:=fndG_mem.1 hx
      rw [List.mem_singleton] at hy
      subst hy
      exact .inr ⟨rfl,by show (q:Int)<(g:Int);omega⟩
    · exact fndG_sort g
theorem fndD_sort:∀ n,(fndD h dots tol n).Pairwise Fnd.lt
  | 0=>.nil
  | n+1=>by
    rw [fndD]
    split
    · refine List.pairwise_append.2 ⟨fndD_sort n,fndG_sort 21,fun x hx y hy=>?_⟩
      obtain ⟨i,g,h1,_,rfl,_⟩:=fndD_mem.1 hx
      obtain ⟨q,_,rfl,_⟩:=fndG_mem.1 hy
      exact .inl (by show (i:Int)<(n:Int);omega)
    · exact fndD_sort n
theorem fndD_next {n k:Nat}(hk:k+1<(fndD h dots tol n).length):Fnd.lt (el (fndD h dots tol n) k) (el (fndD h dots tol n) (k+1)):=by
  have:=List.pairwise_iff_getElem.1 (fndD_sort (h:=h) (dots:=dots) (tol:=tol) n) k (k+1) (by omega) hk (by omega)
  rw [el_eq hk,el_eq (by omega)]
  exact this
theorem fndD_at {n k:Nat}(hk:k<(fndD h dots tol n).length):∃ i g:Nat,i<n∧g<21∧el (fndD h dots tol n) k=⟨i,g,offD h dots i g⟩∧fndOk h dots tol i g∧fndSize h dots i:=fndD_mem.1 (el_mem hk)
end
section
variable {h:Hse}
theorem image_at (hV:HValid h) {q:Nat}(hq:q<h.store.prints.length):∃ i g:Nat,i<h.designs.length∧g<21∧(el h.orders (el h.fors q).toNat).design=(i:Int)∧growF h q=(g:Int)∧imageF h q=dproofF (el h.designs i) g∧shownF h i g=true:=by
  have hF:=hV.forss
  obtain ⟨ho,hd⟩:=hV.fors q (by omega)
  unfold inOrders at ho
  have hin:=(hV.orders (el h.fors q).toNat (by omega)).2.1
  unfold inDesigns at hin
  have hg:=grow_bnd hV.per.1 q
  obtain ⟨i,hi⟩:=Int.eq_ofNat_of_zero_le hin.1
  obtain ⟨g,hg2⟩:=Int.eq_ofNat_of_zero_le hg.1
  refine ⟨i,g,by omega,by omega,hi,hg2,?_,?_⟩
  · unfold imageF
    rw [if_pos (askE_ok hV ⟨by omega,by omega⟩),Int.toNat_natCast,hg2]
    show dproofF (el h.designs (el h.orders (el h.fors (Int.toNat (q:Int))).toNat).design.toNat) g=_
    rw [Int.toNat_natCast,hi,Int.toNat_natCast]
  · exact shownTo_iff.2 ⟨q,hq,by unfold dsnOf;rw [← hd,hi],hg2⟩
theorem image_len (hV:HValid h) {q:Nat}(hq:q<h.store.prints.length) {i:Nat}(hi:i<h.designs.length) {g:Nat}(hg:g<21) (he:imageF h q=dproofF (el h.designs i) g):(imageF h q).length≤2400∧((imageF h q).length:Int)=(el h.designs i).sheet.cols*(el h.designs i).sheet.rows:=by
  have hG:=hV.designs i hi
  obtain ⟨h1,h2,h3,h4⟩:=good_size hG
  have hl:((imageF h q).length:Int)=(el h.designs i).sheet.cols*(el h.designs i).sheet.rows:=by
    rw [he,dproof_len hG hg,Int.natCast_mul,Int.mul_comm]
    rw [show ((el h.designs i).sheet.cols.toNat:Int)=(el h.designs i).sheet.cols by omega,show ((el h.designs i).sheet.rows.toNat:Int)=(el h.designs i).sheet.rows by omega]
  exact ⟨by omega,hl⟩
theorem genuine_in (hV:HValid h) {q:Nat}(hq:q<h.store.prints.length) {dots:List Bool}{tol:Int}{i g:Nat}(hi:i<h.designs.length) (hg:g<21) (he:imageF h q=dproofF (el h.designs i) g) (hs:shownF h i g=true) (hl:dots.length=(imageF h q).length) (ho:offTo (imageF h q) dots (imageF h q).length≤tol) :
    (⟨i,g,offTo (imageF h q) dots (imageF h q).length⟩:Fnd)∈fndD h dots tol h.designs.length:=by
  obtain ⟨_,hsz⟩:=image_len hV hq hi hg he
  have e:offD h dots i g=offTo (imageF h q) dots (imageF h q).length:=by unfold offD;rw [← he,hl]
  refine fndD_mem.2 ⟨i,g,hi,hg,by rw [e],⟨hs,by rw [e];exact ho⟩,?_⟩
  unfold fndSize
  rw [hl]
  exact hsz.symm
end
theorem off_p (a b:List Bool) (hl:a.length≤b.length):PCalls Tryz.prog 28 [encBools a,encBools b] (·=vi (offTo a b a.length)):=by
  (refine pcalls_know (fun I us h=>rel_len (rel_arg h (j:=0) rfl)) fun hlen0=>?_)
  (refine pcalls_know (fun I us h=>rel_len (rel_arg h (j:=1) rfl)) fun hlen1=>?_)
  refine pcalls_of_aw Tryz.func28 rfl (dc rfl) ?_
  (repeat' (first|(refine ar_isq ?_;refine zq ?_)|refine zst ?_|refine aw_drawn (id:=5) [(0,0),(1,0),(2,0),(3,0),(4,0),(5,0),(6,0),(7,0),(8,0)] mixed (by kernel_rfl) ?_|refine zco ?_ ?_|exact zd|(refine fun (hg:(_:Prop))=>?_;(try replace hg:=HG.out hg);(try dsimp only at hg);(try (have _h:True:=hg;clear _h hg)))))
  refine aw_for a.length (fun _=>True) (fun k=>[(0,encBools a),(1,encBools b),(5,vi (offTo a b k)),(8,vi a.length),(9,vi k)]) (fun _=>[]) trivial ?_ ?_
  · (exact zsbD [] [])
  intro k hk _
  have hob:=offTo_bnd a b k
  by_cases hlt:k<a.length
  · (repeat' (first|(refine ar_isq ?_;refine zq ?_)|refine zil (j:=k) ?_|refine zis (j:=k) ?_|refine zit (j:=k) ?_|refine zst ?_|refine aw_drawn (id:=5) [(0,0),(1,0),(2,0),(3,0),(4,0),(5,0),(6,0),(7,0),(8,0)] mixed (by kernel_rfl) ?_|refine zco ?_ ?_|exact zd|(refine fun (hg:(_:Prop))=>?_;(try replace hg:=HG.out hg);(try dsimp only at hg);(try (have _h:True:=hg;clear _h hg)))))
    all_goals first
      | (exfalso;omega)
      | ((first|refine loop_next (by omega) ?_ ?_|refine (show _∧_∧SubOf _ _ _ _ _ _ from And.intro (by omega) (And.intro ?_ ?_)));(focus ((trivial);done));(focus ((refine sub_to [] [] rfl ?_ ?_<;>(repeat' (first|exact trivial|refine ⟨⟨_,rfl,?_⟩,?_⟩|refine vs1 ?_ ?_|refine vs2 ?_ ?_|refine vs3 ?_|refine vs4 ?_ ?_|refine ⟨.inl ⟨_,_,rfl,rfl,?_⟩,?_⟩|exact ⟨.inr ⟨rfl,rfl⟩,trivial⟩|refine ⟨.inr ⟨rfl,rfl⟩,?_⟩|(intro _ _)|exact vz1|(first|exact siEq (offTo_yes (by simpa using hg)).symm|exact siEq (offTo_no (by simpa using hg)).symm)|exact vz2|fail)));done)))
      | trace_state
  · obtain rfl:k=a.length:=by omega
    (repeat' (first|(refine ar_isq ?_;refine zq ?_)|refine zst ?_|refine aw_drawn (id:=5) [(0,0),(1,0),(2,0),(3,0),(4,0),(5,0),(6,0),(7,0),(8,0)] mixed (by kernel_rfl) ?_|refine zco ?_ ?_|exact zd|(refine fun (hg:(_:Prop))=>?_;(try replace hg:=HG.out hg);(try dsimp only at hg);(try (have _h:True:=hg;clear _h hg)))))
    all_goals first
      | (exfalso;omega)
      | ((refine aw_ret ?_;(repeat (first|refine ret_then ?_|refine ret_block ?_));refine bq1 rfl ⟨?_,rfl⟩);rfl)
      | trace_state
end Go.Proofs.YtbilpbabdgfblaaGreat
