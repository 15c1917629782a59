/- Parts of the proof: a layer of values over the model, and contracts of functions. No condition. -/
import Derived.Test.YtbilpbabdgfblaaGreatKHc16
set_option maxHeartbeats 16000000
set_option linter.unusedSimpArgs false
set_option linter.unusedVariables false
namespace Go.Proofs.YtbilpbabdgfblaaGreat
open Go.RowKit
section
variable {r:Option Nat}{m nt i d:Nat}{Q:Post}{env:Env}{H:Heap}{ops:Array Oper}{L:List Stp}{ty:TypeId}{pos:String}{after:Array Edge}{ats:Array TypeId}{x y z:Operand}{keep:Bool}
theorem ar_mustk {b:Bool}{e:Int}(h1:b=true→AR Tryz.prog r m nt ops Q L ((d,.tup [])::env) H) (h2:b=false→∀ H',Q (.panic (refV e)) [] H') (hx:eo env x=some (.s (.bool b)):=by exact rfl) (hy:eo env y=some (.s (.int .i64 e)):=by exact rfl) (hd:d<nt:=by exact dc rfl) :
    AR Tryz.prog r m nt ops Q (.l i ⟨some d,.call ⟨.value (.func 86),#[x,y],ats⟩,ty,pos,after,none⟩ keep::L) env H:=by
  refine ar_gcall0k (args:=[x,y]) (vs:=[vb b,vi e]) (first:=[]) (cap:=[]) fn86 rfl (by rw [List.mapM_cons,List.mapM_cons,List.mapM_nil,hx,hy];rfl) [vb b,vi e] ⟨.closed rfl,.closed rfl,trivial⟩ (must_p b e) hd ?_ ?_
  · rintro _ _ ⟨hb,rfl,rfl⟩
    have:H++List.map (Blk.ren (rn [] H.length)) []=H:=by simp
    rw [this]
    exact h1 hb
  · rintro _ _ ⟨hb,rfl⟩
    exact h2 hb _
end
section
variable {h:Hse}{j:Job}
def RunIn (h:Hse) (j:Job):Prop:=(0≤j.order∧j.order<(h.orders.length:Int))∧(el h.orders j.order.toNat).done=false∧(0≤j.act.item∧j.act.item≤(h.made.length:Int)-1)∧el h.made j.act.item.toNat=(el h.orders j.order.toNat).design
theorem runE_1 (h1:¬ (0≤j.order∧j.order<(h.orders.length:Int))):runE h j=6:=by unfold runE;rw [if_pos (show ¬ inOrders h j.order from h1)]
theorem runE_2 (h1:0≤j.order∧j.order<(h.orders.length:Int)) (h2:(el h.orders j.order.toNat).done=true):runE h j=103:=by unfold runE;rw [if_neg (fun h=>h h1),if_pos h2]
theorem runE_3 (h1:0≤j.order∧j.order<(h.orders.length:Int)) (h2:(el h.orders j.order.toNat).done=false) (h3:¬ (0≤j.act.item∧j.act.item≤(h.made.length:Int)-1)):runE h j=6:=by
  unfold runE
  rw [if_neg (fun h=>h h1),if_neg (by rw [h2];decide),if_pos (show ¬ inMade h j.act.item from fun hx=>h3 (by unfold inMade at hx;omega))]
theorem runE_4 (h1:0≤j.order∧j.order<(h.orders.length:Int)) (h2:(el h.orders j.order.toNat).done=false) (h3:0≤j.act.item∧j.act.item≤(h.made.length:Int)-1) (h4:¬ el h.made j.act.item.toNat=(el h.orders j.order.toNat).design):runE h j=103:=by
  unfold runE
  rw [if_neg (fun h=>h h1),if_neg (by rw [h2];decide),if_neg (fun hx=>hx (by unfold inMade;omega)),if_pos h4]
theorem runE_in (hi:RunIn h j):runE h j=if actE h.store (prAct j)≠0 then actE h.store (prAct j) else if (el h.orders j.order.toNat).need<doneF h j.order 0+j.act.n then 103
    else if allowsF h.per h.store.life (el h.designs (el h.orders j.order.toNat).design.toNat)<(el h.store.items j.act.item.toNat).uses+j.act.n then 104 else 0:=by
  obtain ⟨h1,h2,h3,h4⟩:=hi
  unfold runE
  rw [if_neg (fun h=>h h1),if_neg (by rw [h2];decide),if_neg (fun hx=>hx (by unfold inMade;omega)),if_neg (fun hx=>hx h4)]
theorem runE_5 (hi:RunIn h j) (h5:actE h.store (prAct j)≠0):runE h j=actE h.store (prAct j):=by rw [runE_in hi,if_pos h5]
theorem runE_6 (hi:RunIn h j) (h5:actE h.store (prAct j)=0) (h6:¬ doneF h j.order 0+j.act.n≤(el h.orders j.order.toNat).need):runE h j=103:=by rw [runE_in hi,if_neg (fun hx=>hx h5),if_pos (by omega)]
theorem runE_7 (hi:RunIn h j) (h5:actE h.store (prAct j)=0) (h6:doneF h j.order 0+j.act.n≤(el h.orders j.order.toNat).need) (h7:¬ (el h.store.items j.act.item.toNat).uses+j.act.n≤allowsF h.per h.store.life (el h.designs (el h.orders j.order.toNat).design.toNat)):runE h j=104:=by
  rw [runE_in hi,if_neg (fun hx=>hx h5),if_neg (by omega),if_pos (by omega)]
theorem runE_8 (hi:RunIn h j) (h5:actE h.store (prAct j)=0) (h6:doneF h j.order 0+j.act.n≤(el h.orders j.order.toNat).need) (h7:(el h.store.items j.act.item.toNat).uses+j.act.n≤allowsF h.per h.store.life (el h.designs (el h.orders j.order.toNat).design.toNat)):runE h j=0:=by
  rw [runE_in hi,if_neg (fun hx=>hx h5),if_neg (by omega),if_neg (by omega)]
end
theorem vsub_rep {H:Heap}{σ:List (Option Nat)}{fr:Nat→Prop}{i N k:Nat}{l:List Int}{x:Int}{f g:Nat→V}(hn:N=l.length+k) (hi:i<N+1) (hf:∀ j,j<N→f j=vi (el (l++List.replicate k x) j)) (hv:g 0=vi x):VSub H σ fr (appF N f g i) (vi (el (l++List.replicate (k+1) x) i)):=by
  rw [List.replicate_succ',← List.append_assoc]
  refine vsub_snoc (e:=vi) (l:=l++List.replicate k x) (by simp [hn]) (by simp;omega) (fun j hj=>hf j (by simp at hj;omega)) hv (fun _=>rfl)
section
variable (h:Hse) (m:List (Int × Tal)) (j:Job)
theorem hprint_p (hV:HValid h) (ht:TalOk h m):ACalls Tryz.prog 133 [.ptr 11 0 0 0,j.enc] (shoB h m) (DeedR (runF h j) (runE h j)) (DeedP (runE h j)):=by
  have hs:=hsmall_of hV
  have hff:=hV.forss
  have hfl:h.fors.length≤1000:=hs.2.2.2.2.2.2.1
  have hml:h.made.length≤1000:=hs.2.2.2.2.2.1
  have hmm:=hV.mades
  have hd:=dsmall_of ht hfl j.order
  have hta:(talAt (putE m j.order ((talAt m j.order).bump 0 j.act.n)) j.order).a=doneF h j.order 0+j.act.n:=by rw [talAt_put,if_pos rfl,ht,bump_0]
  have hdsn:(0≤j.order∧j.order<(h.orders.length:Int))→inDesigns h (el h.orders j.order.toNat).design:=fun ho=>(hV.orders j.order.toNat (by omega)).2.1
  have hal:(0≤j.order∧j.order<(h.orders.length:Int))→PCalls Tryz.prog 126 [.ref (withS h (actF h.store (prAct j))).enc 0,vi (el h.orders j.order.toNat).design] (·=vi (allowsF h.per h.store.life (el h.designs (el h.orders j.order.toNat).design.toNat))):=fun ho=>(allows_p (withS h (actF h.store (prAct j))) _ (hdsn ho)).mono fun v hv=>hv
  have hok:actE h.store (prAct j)=0→(1≤j.act.n∧j.act.n≤400)∧hereB h.store j.act.item∧0≤j.act.item∧j.act.item<((actF h.store (prAct j)).items.length:Int)∧(actF h.store (prAct j)).prints.length≤400:=fun he=>by
    obtain ⟨a1,a2,a3,a4,a5⟩:=print_ok (s:=h.store) (i:=j.act.item) (n:=j.act.n) he
    have a6:=a1.1
    refine ⟨by omega,a1,a6.1,?_,?_⟩
    · show j.act.item<((h.store.items.set j.act.item.toNat (used1 (el h.store.items j.act.item.toNat) j.act.n)).length:Int)
      rw [List.length_set]
      exact a6.2
    · show (h.store.prints++List.replicate j.act.n.toNat (⟨j.act.item,0⟩:Prt)).length≤400
      rw [List.length_append,List.length_replicate]
      omega
  have huse:hereB h.store j.act.item→(el (actF h.store (prAct j)).items j.act.item.toNat).uses=(el h.store.items j.act.item.toNat).uses+j.act.n:=fun hh=>by
    have hlt:j.act.item.toNat<h.store.items.length:=by unfold hereB at hh;omega
    show (el (h.store.items.set j.act.item.toNat (used1 (el h.store.items j.act.item.toNat) j.act.n)) j.act.item.toNat).uses=_
    rw [el_setI hlt,if_pos rfl]
    rfl
  refine acalls_of_aw Tryz.func133 rfl (dc rfl) ?_;refine aw_post ?_
  (repeat' (first|refine ar_k2 ?_|refine ark_alloc (ty rfl) rfl (dc rfl) ?_|refine ark_store (ty rfl) rfl rfl rfl rfl rfl rfl (dc rfl) (.inl ⟨_,rfl⟩) (dc rfl) ?_|refine ark_assign rfl (dc rfl) ?_|refine ark_move rfl (dc rfl) ?_|refine ark_nil ?_|(refine ar_isq ?_;refine zq ?_)|refine zil (j:=j.order.toNat) ?_|refine zis (j:=j.order.toNat) ?_|refine zit (j:=j.order.toNat) ?_|refine zil (j:=j.act.item.toNat) ?_|refine zis (j:=j.act.item.toNat) ?_|refine zit (j:=j.act.item.toNat) ?_|(refine zbt ?_)|((refine ar_read h m (order_p h j.order hs) fn53 (by intros;subst_vars;rfl) ?_;intro _ hv;subst hv))|(((refine ar_subk_l (sub_frzL (t:=35) vi ([j.act.item]) rfl rfl rfl rfl (fun _ _=>rfl) (fun _=>rfl)) ?_);refine zpv fn56 (hfrom_p _ _ [j.act.item]) ?_))|refine ar_buildLE vi ([_]) (by exact ty rfl) (by exact rfl) (by exact ty rfl) (by exact rfl) (by exact rfl) (by exact Nat.succ_pos _) (by exact rfl) (by exact dc rfl) (by exact rfl) (by exact fun _=>⟨rfl,rfl⟩) (by exact dc rfl) ?_|((refine ar_mustk ?_ ?_<;>intro hrf<;>first|exact absurd hrf (by decide)|((try replace hrf:=HG.out hrf);(try dsimp only at hrf);(try rw [fromB_one] at hrf);(try rw [withinB_iff] at hrf);(try rw [withinB_no] at hrf);(try rw [inO_iff] at hrf);(try rw [hta] at hrf))))|refine ar_lookupT ?_ (ty rfl) rfl (ty rfl) rfl (ty rfl) rfl rfl rfl rfl (dc rfl)|refine ar_q (qs_index (j:=0) (ty rfl) rfl (ty rfl) rfl rfl rfl (dc rfl) rfl) (dc rfl) ?_|(((refine ar_sub_l (env':=[(0,.ptr 11 0 0 0),(3,.ptr 16 9 0 0),(4,.ptr 4 10 0 0),(5,vi j.act.item),(50,.ptr 11 0 0 0),(55,(prAct j).enc)]) (H':=[.arr 11 1 (fun _=>shoV 1 2 3 4 5 6 7 8 h),LB 5 Itm.enc h.store.items,LB 2 Prt.enc h.store.prints,LB 7 Dsn.enc h.designs,LB 4 Lic.enc h.lics,LB 4 Ordr.enc h.orders,LB 1 vi h.made,LB 1 vi h.fors,mapE Tal.enc m,.arr 16 1 (fun _=>j.enc),.arr 4 1 (fun _=>(el h.orders j.order.toNat).enc),.dead]) ?_ ?_;(focus (exact zsc [some 0,some 1,some 2,some 3,some 4,some 5,some 6,some 7,some 8,some 9,some 10,some 11] [])));refine ar_act' h m (prAct j) hV.store (show u8ok 4 from ⟨by decide,by decide⟩) ?_ ?_<;>intro hact<;>first|(have hact0:actE h.store (prAct j)=0:=hact;obtain ⟨hn,hh,hi0,hi1,hpl⟩:=hok hact0;have hu:=huse hh)|skip))|((refine ar_count (p:=0) (a:=12) (b:=13) (c:=3) (d:=4) (e:=5) (f:=6) (g:=7) (q:=8) (st:=0) (k:=j.act.n) (withS h (actF h.store (prAct j))) m (.inl rfl) (small_of hd) (by omega) ?_))|((refine ar_read (p:=0) (a:=12) (b:=13) (c:=3) (d:=4) (e:=5) (f:=6) (g:=7) (q:=8) (withS h (actF h.store (prAct j))) _ (hal (by assumption)) fn126 (by intros;subst_vars;rfl) ?_;intro _ hv;subst hv))|refine zst ?_|refine aw_drawn (id:=2) [(0,0),(1,0),(2,0),(3,0),(4,0),(5,0),(6,0),(7,0),(8,0),(9,0),(10,0),(11,0),(12,1),(13,1),(14,0)] mixed (by kernel_rfl) ?_|refine aw_drawn (id:=5) [(0,0),(1,0),(2,0),(3,0),(4,0),(5,0),(6,0),(7,0),(8,0),(9,0),(10,0),(11,2)] mixed (by kernel_rfl) ?_|refine aw_drawn (id:=5) [(0,0),(1,0),(2,0),(3,0),(4,0),(5,0),(6,0),(7,0),(8,0),(9,0),(10,0),(11,1)] mixed (by kernel_rfl) ?_|refine aw_drawn (id:=8) [(0,0),(1,0),(2,0),(3,0),(4,0),(5,0),(6,0),(7,0),(8,0),(9,0),(10,0),(11,2)] mixed (by kernel_rfl) ?_|refine aw_drawn (id:=8) [(0,0),(1,0),(2,0),(3,0),(4,0),(5,0),(6,0),(7,0),(8,0),(9,0),(10,0),(11,1)] mixed (by kernel_rfl) ?_|refine aw_drawn (id:=9) [(0,0),(1,0),(2,0),(3,0),(4,0),(5,0),(6,0),(7,0),(8,0),(9,0),(10,0),(11,0),(12,0),(13,1),(14,0),(15,1)] mixed (by kernel_rfl) ?_|refine aw_drawn (id:=12) [(0,0),(1,0),(2,0),(3,0),(4,0),(5,0),(6,0),(7,0),(8,1),(9,1),(10,0),(11,0),(12,0),(13,2)] mixed (by kernel_rfl) ?_|refine zco ?_ ?_|exact zd|(refine fun (hg:(_:Prop))=>?_;(try replace hg:=HG.out hg);(try dsimp only at hg);(try (have _h:True:=hg;clear _h hg)))))
  all_goals first
    | (exfalso;omega)
    | exact dead_ret (runE_7 ⟨by assumption,by assumption,by assumption,by assumption⟩ hact0 (by assumption) (by omega)) (by decide)
    | exact dead_ret (runE_6 ⟨by assumption,by assumption,by assumption,by assumption⟩ hact0 (by omega)) (by decide)
    | exact dead_ret (runE_5 ⟨by assumption,by assumption,by assumption,by assumption⟩ hact) hact
    | exact fun H1=>dead_ret (runE_5 ⟨by assumption,by assumption,by assumption,by assumption⟩ hact) hact H1
    | exact dead_ret (runE_4 (by assumption) (by assumption) (by assumption) (by assumption)) (by decide)
    | exact dead_ret (runE_3 (by assumption) (by assumption) (by omega)) (by decide)
    | exact dead_ret (runE_2 (by assumption) (by assumption)) (by decide)
    | exact dead_ret (runE_1 (by assumption)) (by decide)
    | skip
  have hE:=runE_8 (h:=h) (j:=j) ⟨by assumption,by assumption,by assumption,by assumption⟩ hact0 (by assumption) (by omega)
  have hL:(j.act.n.toNat:Int)=j.act.n:=by omega
  refine aw_for j.act.n.toNat (fun _=>True) (fun k=>[(0,.ptr 11 0 0 0),(3,.ptr 16 9 0 0),(94,vi j.act.n),(95,vi k)]) (fun k=>[.arr 11 1 (fun _=>.agg [vi h.per,vi h.day,vi (actF h.store (prAct j)).life,.sl 5 12 0 (actF h.store (prAct j)).items.length,.sl 2 13 0 (actF h.store (prAct j)).prints.length,.sl 7 3 0 h.designs.length,.sl 4 4 0 h.lics.length,.sl 4 5 0 h.orders.length,.sl 1 6 0 h.made.length,.sl 1 14 0 (h.fors.length+k),.map 8]),.dead,.dead,LB 7 Dsn.enc h.designs,LB 4 Lic.enc h.lics,LB 4 Ordr.enc h.orders,LB 1 vi h.made,.dead,mapE Tal.enc (putE m j.order ((talAt m j.order).bump 0 j.act.n)),.arr 16 1 (fun _=>j.enc),.dead,.dead,LB 5 Itm.enc (actF h.store (prAct j)).items,LB 2 Prt.enc (actF h.store (prAct j)).prints,.arr 1 (h.fors.length+k) (fun i=>vi (el (h.fors++List.replicate k j.order) i))]) trivial ?_ ?_
  · (refine sub_toL [some 0,some 1,some 2,some 3,some 4,some 5,some 6,some 7,some 8,some 9,some 10,some 11,some 12,some 13,some 7] [] rfl ?_ ?_<;>(repeat' (first|exact trivial|refine ⟨⟨_,rfl,?_⟩,?_⟩|refine vs1 ?_ ?_|refine vs2 ?_ ?_|refine vs3 ?_|refine vs4 ?_ ?_|refine ⟨.inl ⟨_,_,rfl,rfl,?_⟩,?_⟩|exact ⟨.inr ⟨rfl,rfl⟩,trivial⟩|refine ⟨.inr ⟨rfl,rfl⟩,?_⟩|(intro _ _)|exact vz1|(first|refine ⟨trivial,?_⟩|refine ⟨bsub_mapE rfl rfl (fun _=>rfl),?_⟩|refine ⟨bsub_same rfl rfl (fun i hi=>by rw [List.replicate_zero,List.append_nil]) (fun _ _=>rfl),?_⟩|exact VSub.aggL ⟨.closed rfl,.closed rfl,.closed rfl,.sl rfl,.sl rfl,.sl rfl,.sl rfl,.sl rfl,.sl rfl,.sl rfl,.map rfl,trivial⟩)|exact vz2|fail)))
    all_goals (show VSub _ _ _ _ (vi (el (h.fors++List.replicate 0 j.order) _));rw [List.replicate_zero,List.append_nil];exact .closed rfl)
  intro k hk2 _
  by_cases hlt:k<j.act.n.toNat
  · (repeat' (first|refine ar_k2 ?_|refine ark_alloc (ty rfl) rfl (dc rfl) ?_|refine ark_store (ty rfl) rfl rfl rfl rfl rfl rfl (dc rfl) (.inl ⟨_,rfl⟩) (dc rfl) ?_|refine ark_assign rfl (dc rfl) ?_|refine ark_move rfl (dc rfl) ?_|refine ark_nil ?_|(refine ar_isq ?_;refine zq ?_)|(refine zbt ?_)|refine zst ?_|refine aw_drawn (id:=2) [(0,0),(1,0),(2,0),(3,0),(4,0),(5,0),(6,0),(7,0),(8,0),(9,0),(10,0),(11,0),(12,1),(13,1),(14,0)] mixed (by kernel_rfl) ?_|refine aw_drawn (id:=5) [(0,0),(1,0),(2,0),(3,0),(4,0),(5,0),(6,0),(7,0),(8,0),(9,0),(10,0),(11,1)] mixed (by kernel_rfl) ?_|refine aw_drawn (id:=5) [(0,0),(1,0),(2,0),(3,0),(4,0),(5,0),(6,0),(7,0),(8,0),(9,0),(10,0),(11,2)] mixed (by kernel_rfl) ?_|refine aw_drawn (id:=8) [(0,0),(1,0),(2,0),(3,0),(4,0),(5,0),(6,0),(7,0),(8,0),(9,0),(10,0),(11,1)] mixed (by kernel_rfl) ?_|refine aw_drawn (id:=8) [(0,0),(1,0),(2,0),(3,0),(4,0),(5,0),(6,0),(7,0),(8,0),(9,0),(10,0),(11,2)] mixed (by kernel_rfl) ?_|refine aw_drawn (id:=9) [(0,0),(1,0),(2,0),(3,0),(4,0),(5,0),(6,0),(7,0),(8,0),(9,0),(10,0),(11,0),(12,0),(13,1),(14,0),(15,1)] mixed (by kernel_rfl) ?_|refine aw_drawn (id:=12) [(0,0),(1,0),(2,0),(3,0),(4,0),(5,0),(6,0),(7,0),(8,1),(9,1),(10,0),(11,0),(12,0),(13,2)] mixed (by kernel_rfl) ?_|refine zco ?_ ?_|exact zd|(refine fun (hg:(_:Prop))=>?_;(try replace hg:=HG.out hg);(try dsimp only at hg);(try (have _h:True:=hg;clear _h hg)))))
    · ((first|refine loop_next (by omega) ?_ ?_|refine (show _∧_∧SubOf _ _ _ _ _ _ from And.intro (by omega) (And.intro ?_ ?_)));(focus ((trivial);done));(focus ((refine sub_toL [some 0,some 1,some 2,some 3,some 4,some 5,some 6,some 7,some 8,some 9,some 10,some 11,some 12,some 13,some 16] [] rfl ?_ ?_<;>(repeat' (first|exact trivial|refine ⟨⟨_,rfl,?_⟩,?_⟩|refine vs1 ?_ ?_|refine vs2 ?_ ?_|refine vs3 ?_|refine vs4 ?_ ?_|refine ⟨.inl ⟨_,_,rfl,rfl,?_⟩,?_⟩|exact ⟨.inr ⟨rfl,rfl⟩,trivial⟩|refine ⟨.inr ⟨rfl,rfl⟩,?_⟩|(intro _ _)|exact vz1|(first|refine ⟨trivial,?_⟩|refine ⟨bsub_mapE rfl rfl (fun _=>rfl),?_⟩|exact vsub_rep (N:=h.fors.length+k) rfl (by assumption) (fun _ _=>rfl) rfl|exact VSub.aggL ⟨.closed rfl,.closed rfl,.closed rfl,.sl rfl,.sl rfl,.sl rfl,.sl rfl,.sl rfl,.sl rfl,.sl rfl,.map rfl,trivial⟩)|exact vz2|fail)));done)))
  · (repeat' (first|refine ar_k2 ?_|refine ark_alloc (ty rfl) rfl (dc rfl) ?_|refine ark_store (ty rfl) rfl rfl rfl rfl rfl rfl (dc rfl) (.inl ⟨_,rfl⟩) (dc rfl) ?_|refine ark_assign rfl (dc rfl) ?_|refine ark_move rfl (dc rfl) ?_|refine ark_nil ?_|(refine ar_isq ?_;refine zq ?_)|(refine zbt ?_)|refine zst ?_|refine aw_drawn (id:=2) [(0,0),(1,0),(2,0),(3,0),(4,0),(5,0),(6,0),(7,0),(8,0),(9,0),(10,0),(11,0),(12,1),(13,1),(14,0)] mixed (by kernel_rfl) ?_|refine aw_drawn (id:=5) [(0,0),(1,0),(2,0),(3,0),(4,0),(5,0),(6,0),(7,0),(8,0),(9,0),(10,0),(11,1)] mixed (by kernel_rfl) ?_|refine aw_drawn (id:=5) [(0,0),(1,0),(2,0),(3,0),(4,0),(5,0),(6,0),(7,0),(8,0),(9,0),(10,0),(11,2)] mixed (by kernel_rfl) ?_|refine aw_drawn (id:=8) [(0,0),(1,0),(2,0),(3,0),(4,0),(5,0),(6,0),(7,0),(8,0),(9,0),(10,0),(11,1)] mixed (by kernel_rfl) ?_|refine aw_drawn (id:=8) [(0,0),(1,0),(2,0),(3,0),(4,0),(5,0),(6,0),(7,0),(8,0),(9,0),(10,0),(11,2)] mixed (by kernel_rfl) ?_|refine aw_drawn (id:=9) [(0,0),(1,0),(2,0),(3,0),(4,0),(5,0),(6,0),(7,0),(8,0),(9,0),(10,0),(11,0),(12,0),(13,1),(14,0),(15,1)] mixed (by kernel_rfl) ?_|refine aw_drawn (id:=12) [(0,0),(1,0),(2,0),(3,0),(4,0),(5,0),(6,0),(7,0),(8,1),(9,1),(10,0),(11,0),(12,0),(13,2)] mixed (by kernel_rfl) ?_|refine zco ?_ ?_|exact zd|(refine fun (hg:(_:Prop))=>?_;(try replace hg:=HG.out hg);(try dsimp only at hg);(try (have _h:True:=hg;clear _h hg)))))
    · obtain rfl:k=j.act.n.toNat:=by omega
      (refine subq_n [] [.arr 11 1 (fun _=>shoV 9 10 11 12 13 14 15 8 (runF h j)),.dead,.dead,.dead,.dead,.dead,.dead,.dead,mapE Tal.enc (putE m j.order ((talAt m j.order).bump 0 j.act.n)),LB 5 Itm.enc (runF h j).store.items,LB 2 Prt.enc (runF h j).store.prints,LB 7 Dsn.enc (runF h j).designs,LB 4 Lic.enc (runF h j).lics,LB 4 Ordr.enc (runF h j).orders,LB 1 vi (runF h j).made,LB 1 vi (runF h j).fors] ?_ ?_;(focus ((refine sub_toL [some 0,some 1,some 2,some 3,some 4,some 5,some 6,some 7,some 8,some 12,some 13,some 3,some 4,some 5,some 6,some 14] [] rfl ?_ ?_<;>(repeat' (first|exact trivial|refine ⟨⟨_,rfl,?_⟩,?_⟩|refine vs1 ?_ ?_|refine vs2 ?_ ?_|refine vs3 ?_|refine vs4 ?_ ?_|refine ⟨.inl ⟨_,_,rfl,rfl,?_⟩,?_⟩|exact ⟨.inr ⟨rfl,rfl⟩,trivial⟩|refine ⟨.inr ⟨rfl,rfl⟩,?_⟩|(intro _ _)|exact vz1|(first|refine ⟨trivial,?_⟩|refine ⟨bsub_mapE rfl rfl (fun _=>rfl),?_⟩|refine ⟨bsub_len (L:=h.fors++List.replicate j.act.n.toNat j.order) rfl rfl (by simp) (fun _ _=>rfl) (fun _=>rfl),?_⟩|exact VSub.aggL ⟨.closed rfl,.closed rfl,.closed rfl,.sl rfl,.sl rfl,.sl rfl,.sl rfl,.sl rfl,.sl rfl,slEq rfl (by simp [runF]),.map rfl,trivial⟩)|exact vz2|fail)));done)))
      exact bq0n ⟨hE,rfl,_,run_tal ht hff (by omega),rfl⟩
end
section
variable {h:Hse}{j:Job}
theorem giveE_1 (h1:¬ (0≤j.order∧j.order<(h.orders.length:Int))):giveE h j=6:=by unfold giveE;rw [if_pos (show ¬ inOrders h j.order from h1)]
theorem giveE_2 (h1:0≤j.order∧j.order<(h.orders.length:Int)) (h2:¬ ((el h.orders j.order.toNat).done=false∧doneF h j.order 0=(el h.orders j.order.toNat).need)):giveE h j=103:=by
  unfold giveE;rw [if_neg (fun h=>h h1),if_neg h2]
theorem giveE_3 (h1:0≤j.order∧j.order<(h.orders.length:Int)) (h2:(el h.orders j.order.toNat).done=false) (h3:doneF h j.order 0=(el h.orders j.order.toNat).need):giveE h j=0:=by
  unfold giveE;rw [if_neg (fun h=>h h1),if_pos ⟨h2,h3⟩]
def givAt (h:Hse) (j:Job) (k i:Nat):Prt:=if i<k then giveP h j.order i else el h.store.prints i
theorem givAt_at {k:Nat}:givAt h j k k=el h.store.prints k:=by unfold givAt;rw [if_neg (by omega)]
theorem givAt_not {k:Nat}(hc:¬ (el h.fors k=j.order∧(el h.store.prints k).state=0)) (i:Nat):givAt h j k i=givAt h j (k+1) i:=by
  unfold givAt
  by_cases e:i=k
  · subst e
    rw [if_neg (by omega),if_pos (by omega)]
    unfold giveP
    rw [if_neg hc]
  · by_cases h1:i<k
    · rw [if_pos h1,if_pos (by omega)]
    · rw [if_neg h1,if_neg (by omega)]
theorem givAt_off {k i:Nat}(e:i≠k):givAt h j k i=givAt h j (k+1) i:=by
  unfold givAt
  by_cases h1:i<k
  · rw [if_pos h1,if_pos (by omega)]
  · rw [if_neg h1,if_neg (by omega)]
theorem givAt_on {k:Nat}(h1:el h.fors k=j.order) (h2:(el h.store.prints k).state=0):givAt h j (k+1) k=⟨(el h.store.prints k).plate,1⟩:=by
  unfold givAt
  rw [if_pos (by omega)]
  unfold giveP
  rw [if_pos ⟨h1,h2⟩]
theorem giv_sub {H:Heap}{σ:List (Option Nat)}{fr:Nat→Prop}{k i:Nat}{v:V}(h1:el h.fors k=j.order) (h2:(el h.store.prints k).state=0) (hv:v=Prt.enc ⟨(el h.store.prints k).plate,1⟩):VSub H σ fr (upd (fun i=>(givAt h j k i).enc) k v i) ((givAt h j (k+1) i).enc):=by
  by_cases e:i=k
  · subst e
    rw [upd_same,hv,givAt_on h1 h2]
    exact .closed rfl
  · rw [upd_other e,givAt_off e]
    exact .closed rfl
theorem giv_prints:(giveF h j).store.prints.length=h.store.prints.length:=by simp [giveF]
theorem bsub_setO {H:Heap}{σ:List (Option Nat)}{fr:Nat→Prop}{k b i:Nat}{l:List Ordr}(x:Ordr) {v:V}(h:σ[k]?=some (some b)) (hj:i<l.length) (hb:H[b]?=some (.arr 4 l.length (upd (fun i=>(el l i).enc) i v))) (hv:v=x.enc):BSub H σ fr k (LB 4 Ordr.enc (l.set i x)):=by
  refine bsub_len (f:=upd (fun i=>(el l i).enc) i v) h hb (by simp) (fun q hq=>?_) (fun _=>rfl)
  rw [upd_at]
  by_cases e:q=i
  · subst e
    rw [if_pos rfl,hv,el_setI hj,if_pos rfl]
  · rw [if_neg e,el_setI hj,if_neg e]
end
section
variable (h:Hse) (m:List (Int × Tal)) (j:Job)
theorem hdeliver_p (hV:HValid h) (ht:TalOk h m):ACalls Tryz.prog 134 [.ptr 11 0 0 0,j.enc] (shoB h m) (DeedR (giveF h j) (giveE h j)) (DeedP (giveE h j)):=by
  have hs:=hsmall_of hV
  have hff:=hV.forss
  have hfl:h.fors.length≤1000:=hs.2.2.2.2.2.2.1
  have hd:=dsmall_of ht hfl j.order
  have hta:(talAt m j.order).a=doneF h j.order 0:=by rw [ht]
  refine acalls_of_aw Tryz.func134 rfl (dc rfl) ?_;refine aw_post ?_
  (repeat' (first|(refine ar_isq ?_;refine zq ?_)|refine zil (j:=j.order.toNat) ?_|refine zis (j:=j.order.toNat) ?_|refine zit (j:=j.order.toNat) ?_|((refine ar_read h m (order_p h j.order hs) fn53 (by intros;subst_vars;rfl) ?_;intro _ hv;subst hv))|((refine ar_mustk ?_ ?_<;>intro hrf<;>first|exact absurd hrf (by decide)|((try replace hrf:=HG.out hrf);(try dsimp only at hrf);(try rw [fromB_one] at hrf);(try rw [withinB_iff] at hrf);(try rw [withinB_no] at hrf);(try rw [inO_iff] at hrf);(try rw [hta] at hrf))))|refine ar_lookupT ?_ (ty rfl) rfl (ty rfl) rfl (ty rfl) rfl rfl rfl rfl (dc rfl)|refine ar_q (qs_index (j:=0) (ty rfl) rfl (ty rfl) rfl rfl rfl (dc rfl) rfl) (dc rfl) ?_|refine zg ?_ ?_|refine zgu ?_|refine zst ?_|refine aw_drawn (id:=2) [(0,0),(1,0),(2,0),(3,0),(4,0),(5,0),(6,0),(7,0),(8,0)] mixed (by kernel_rfl) ?_|refine aw_drawn (id:=3) [(0,0),(1,0),(2,0),(3,0),(4,0),(5,0),(6,0),(7,0),(8,0),(9,0),(10,0),(11,0),(12,0),(13,0),(14,0),(15,0),(16,0),(17,0),(18,0),(19,0),(20,1)] mixed (by kernel_rfl) ?_|refine aw_drawn (id:=3) [(0,0),(1,0),(2,0),(3,0),(4,0),(5,0),(6,0),(7,0),(8,0),(9,0),(10,0),(11,0),(12,0),(13,0),(14,0),(15,0),(16,0),(17,0),(18,0),(19,0),(20,2)] mixed (by kernel_rfl) ?_|refine aw_drawn (id:=11) [(0,0),(1,0),(2,0),(3,0),(4,0),(5,0),(6,0),(7,0),(8,1)] mixed (by kernel_rfl) ?_|refine aw_drawn (id:=11) [(0,0),(1,0),(2,0),(3,0),(4,0),(5,0),(6,0),(7,0),(8,2)] mixed (by kernel_rfl) ?_|refine aw_drawn (id:=12) [(0,0),(1,0),(2,0),(3,0),(4,0),(5,0),(6,0),(7,1)] mixed (by kernel_rfl) ?_|refine aw_drawn (id:=12) [(0,0),(1,0),(2,0),(3,0),(4,0),(5,0),(6,0),(7,2)] mixed (by kernel_rfl) ?_|refine zco ?_ ?_|exact zd|(refine fun (hg:(_:Prop))=>?_;(try replace hg:=HG.out hg);(try dsimp only at hg);(try (have _h:True:=hg;clear _h hg)))))
  all_goals first
    | exact dead_ret (giveE_2 (by assumption) (fun x=>by exact absurd x.2 (by assumption))) (by decide)
    | exact dead_ret (giveE_2 (by assumption) (fun x=>by have:=x.1;simp_all)) (by decide)
    | exact dead_ret (giveE_1 (by assumption)) (by decide)
    | skip
  have hE:=giveE_3 (h:=h) (j:=j) (by assumption) (by assumption) (by assumption)
  have hne:doneF h j.order 0=(el h.orders j.order.toNat).need:=by assumption
  refine aw_for h.fors.length (fun _=>True) (fun k=>[(0,.ptr 11 0 0 0),(3,.ptr 16 9 0 0),(4,.ptr 4 5 j.order.toNat 0),(46,.sl 1 7 0 h.fors.length),(47,vi h.fors.length),(48,vi k)]) (fun k=>[.arr 11 1 (fun _=>shoV 1 2 3 4 5 6 7 8 h),LB 5 Itm.enc h.store.items,.arr 2 h.store.prints.length (fun i=>(givAt h j k i).enc),LB 7 Dsn.enc h.designs,LB 4 Lic.enc h.lics,LB 4 Ordr.enc h.orders,LB 1 vi h.made,LB 1 vi h.fors,mapE Tal.enc m,.arr 16 1 (fun _=>j.enc)]) trivial ?_ ?_
  · (refine sub_to [some 0,some 1,some 2,some 3,some 4,some 5,some 6,some 7,some 8,some 9] [] rfl ?_ ?_<;>(repeat' (first|exact trivial|refine ⟨⟨_,rfl,?_⟩,?_⟩|refine vs1 ?_ ?_|refine vs2 ?_ ?_|refine vs3 ?_|refine vs4 ?_ ?_|refine ⟨.inl ⟨_,_,rfl,rfl,?_⟩,?_⟩|exact ⟨.inr ⟨rfl,rfl⟩,trivial⟩|refine ⟨.inr ⟨rfl,rfl⟩,?_⟩|(intro _ _)|exact vz1|(first|exact VSub.of_eq (congrArg Prt.enc givAt_zero.symm) rfl|refine ⟨trivial,?_⟩|refine ⟨bsub_mapE rfl rfl (fun _=>rfl),?_⟩|exact VSub.aggL ⟨.closed rfl,.closed rfl,.closed rfl,.sl rfl,.sl rfl,.sl rfl,.sl rfl,.sl rfl,.sl rfl,.sl rfl,.map rfl,trivial⟩)|exact vz2|fail)))
  intro k hk2 _
  by_cases hlt:k<h.fors.length
  · have hgk:givAt h j k k=el h.store.prints k:=givAt_at
    (repeat' (first|(refine ar_isq ?_;refine zq ?_)|refine zil (j:=k) ?_|refine zis (j:=k) ?_|refine zit (j:=k) ?_|refine zg ?_ ?_|refine zgu ?_|refine zst ?_|refine aw_drawn (id:=2) [(0,0),(1,0),(2,0),(3,0),(4,0),(5,0),(6,0),(7,0),(8,0)] mixed (by kernel_rfl) ?_|refine aw_drawn (id:=3) [(0,0),(1,0),(2,0),(3,0),(4,0),(5,0),(6,0),(7,0),(8,0),(9,0),(10,0),(11,0),(12,0),(13,0),(14,0),(15,0),(16,0),(17,0),(18,0),(19,0),(20,2)] mixed (by kernel_rfl) ?_|refine aw_drawn (id:=3) [(0,0),(1,0),(2,0),(3,0),(4,0),(5,0),(6,0),(7,0),(8,0),(9,0),(10,0),(11,0),(12,0),(13,0),(14,0),(15,0),(16,0),(17,0),(18,0),(19,0),(20,1)] mixed (by kernel_rfl) ?_|refine aw_drawn (id:=11) [(0,0),(1,0),(2,0),(3,0),(4,0),(5,0),(6,0),(7,0),(8,2)] mixed (by kernel_rfl) ?_|refine aw_drawn (id:=11) [(0,0),(1,0),(2,0),(3,0),(4,0),(5,0),(6,0),(7,0),(8,1)] mixed (by kernel_rfl) ?_|refine aw_drawn (id:=12) [(0,0),(1,0),(2,0),(3,0),(4,0),(5,0),(6,0),(7,2)] mixed (by kernel_rfl) ?_|refine aw_drawn (id:=12) [(0,0),(1,0),(2,0),(3,0),(4,0),(5,0),(6,0),(7,1)] mixed (by kernel_rfl) ?_|refine zco ?_ ?_|exact zd|(refine fun (hg:(_:Prop))=>?_;(try replace hg:=HG.out hg);(try dsimp only at hg);(try (have _h:True:=hg;clear _h hg)))))
    · ((first|refine loop_next (by omega) ?_ ?_|refine (show _∧_∧SubOf _ _ _ _ _ _ from And.intro (by omega) (And.intro ?_ ?_)));(focus ((trivial);done));(focus ((refine sub_to [some 0,some 1,some 2,some 3,some 4,some 5,some 6,some 7,some 8,some 9] [] rfl ?_ ?_<;>(repeat' (first|exact trivial|refine ⟨⟨_,rfl,?_⟩,?_⟩|refine vs1 ?_ ?_|refine vs2 ?_ ?_|refine vs3 ?_|refine vs4 ?_ ?_|refine ⟨.inl ⟨_,_,rfl,rfl,?_⟩,?_⟩|exact ⟨.inr ⟨rfl,rfl⟩,trivial⟩|refine ⟨.inr ⟨rfl,rfl⟩,?_⟩|(intro _ _)|exact vz1|(first|exact giv_sub (by assumption) (by rw [← hgk];assumption) (by rw [hgk];rfl)|refine ⟨trivial,?_⟩|refine ⟨bsub_mapE rfl rfl (fun _=>rfl),?_⟩|exact VSub.aggL ⟨.closed rfl,.closed rfl,.closed rfl,.sl rfl,.sl rfl,.sl rfl,.sl rfl,.sl rfl,.sl rfl,.sl rfl,.map rfl,trivial⟩)|exact vz2|fail)));done)))
    all_goals
      ((first|refine loop_next (by omega) ?_ ?_|refine (show _∧_∧SubOf _ _ _ _ _ _ from And.intro (by omega) (And.intro ?_ ?_)));(focus ((trivial);done));(focus ((refine sub_to [some 0,some 1,some 2,some 3,some 4,some 5,some 6,some 7,some 8,some 9] [] rfl ?_ ?_<;>(repeat' (first|exact trivial|refine ⟨⟨_,rfl,?_⟩,?_⟩|refine vs1 ?_ ?_|refine vs2 ?_ ?_|refine vs3 ?_|refine vs4 ?_ ?_|refine ⟨.inl ⟨_,_,rfl,rfl,?_⟩,?_⟩|exact ⟨.inr ⟨rfl,rfl⟩,trivial⟩|refine ⟨.inr ⟨rfl,rfl⟩,?_⟩|(intro _ _)|exact vz1|(first|exact VSub.of_eq (congrArg Prt.enc (givAt_not (fun x=>by first|exact absurd x.1 (by assumption)|exact absurd (show (givAt h j k k).state=0 by rw [hgk];exact x.2) (by assumption)) _)) rfl|refine ⟨trivial,?_⟩|refine ⟨bsub_mapE rfl rfl (fun _=>rfl),?_⟩|exact VSub.aggL ⟨.closed rfl,.closed rfl,.closed rfl,.sl rfl,.sl rfl,.sl rfl,.sl rfl,.sl rfl,.sl rfl,.sl rfl,.map rfl,trivial⟩)|exact vz2|fail)));done)))
  · obtain rfl:k=h.fors.length:=by omega
    (repeat' (first|(refine ar_isq ?_;refine zq ?_)|(((refine ar_sub_l (env':=[(0,.ptr 11 0 0 0),(3,.ptr 16 9 0 0),(4,.ptr 4 5 j.order.toNat 0),(76,.ptr 11 0 0 0),(78,vi j.order),(83,vi (-(el h.orders j.order.toNat).need))]) (H':=[.arr 11 1 (fun _=>shoV 1 2 3 4 5 6 7 8 (withS h (giveF h j).store)),LB 5 Itm.enc h.store.items,LB 2 Prt.enc (giveF h j).store.prints,LB 7 Dsn.enc h.designs,LB 4 Lic.enc h.lics,LB 4 Ordr.enc h.orders,LB 1 vi h.made,LB 1 vi h.fors,mapE Tal.enc m,.arr 16 1 (fun _=>j.enc)]) ?_ ?_;(focus ((refine sub_to [some 0,some 1,some 2,some 3,some 4,some 5,some 6,some 7,some 8,some 9] [] rfl ?_ ?_<;>(repeat' (first|exact trivial|refine ⟨⟨_,rfl,?_⟩,?_⟩|refine vs1 ?_ ?_|refine vs2 ?_ ?_|refine vs3 ?_|refine vs4 ?_ ?_|refine ⟨.inl ⟨_,_,rfl,rfl,?_⟩,?_⟩|exact ⟨.inr ⟨rfl,rfl⟩,trivial⟩|refine ⟨.inr ⟨rfl,rfl⟩,?_⟩|(intro _ _)|exact vz1|(first|refine ⟨trivial,?_⟩|refine ⟨bsub_mapE rfl rfl (fun _=>rfl),?_⟩|refine ⟨bsub_len (L:=(giveF h j).store.prints) rfl rfl giv_prints (fun i hi=>by unfold givAt;rw [if_pos (by omega)];unfold giveF;rw [el_map_range hi]) (fun _=>rfl),?_⟩|exact VSub.aggL ⟨.closed rfl,.closed rfl,.closed rfl,.sl rfl,slEq rfl giv_prints.symm,.sl rfl,.sl rfl,.sl rfl,.sl rfl,.sl rfl,.map rfl,trivial⟩)|exact vz2|fail)));done)));refine ar_count (p:=0) (a:=1) (b:=2) (c:=3) (d:=4) (e:=5) (f:=6) (g:=7) (q:=8) (st:=0) (k:=-(el h.orders j.order.toNat).need) (withS h (giveF h j).store) m (.inl rfl) (small_of hd) (by omega) ?_))|((refine ar_count (p:=0) (a:=1) (b:=2) (c:=3) (d:=4) (e:=5) (f:=6) (g:=7) (q:=8) (st:=1) (k:=(el h.orders j.order.toNat).need) (withS h (giveF h j).store) (putE m j.order ((talAt m j.order).bump 0 (-(el h.orders j.order.toNat).need))) (.inr (.inl rfl)) (small_put hd (by omega)) (by omega) ?_))|refine zg ?_ ?_|refine zgu ?_|refine zst ?_|refine aw_drawn (id:=2) [(0,0),(1,0),(2,0),(3,0),(4,0),(5,0),(6,0),(7,0),(8,0)] mixed (by kernel_rfl) ?_|refine aw_drawn (id:=3) [(0,0),(1,0),(2,0),(3,0),(4,0),(5,0),(6,0),(7,0),(8,0),(9,0),(10,0),(11,0),(12,0),(13,0),(14,0),(15,0),(16,0),(17,0),(18,0),(19,0),(20,2)] mixed (by kernel_rfl) ?_|refine aw_drawn (id:=3) [(0,0),(1,0),(2,0),(3,0),(4,0),(5,0),(6,0),(7,0),(8,0),(9,0),(10,0),(11,0),(12,0),(13,0),(14,0),(15,0),(16,0),(17,0),(18,0),(19,0),(20,1)] mixed (by kernel_rfl) ?_|refine aw_drawn (id:=11) [(0,0),(1,0),(2,0),(3,0),(4,0),(5,0),(6,0),(7,0),(8,2)] mixed (by kernel_rfl) ?_|refine aw_drawn (id:=11) [(0,0),(1,0),(2,0),(3,0),(4,0),(5,0),(6,0),(7,0),(8,1)] mixed (by kernel_rfl) ?_|refine aw_drawn (id:=12) [(0,0),(1,0),(2,0),(3,0),(4,0),(5,0),(6,0),(7,2)] mixed (by kernel_rfl) ?_|refine aw_drawn (id:=12) [(0,0),(1,0),(2,0),(3,0),(4,0),(5,0),(6,0),(7,1)] mixed (by kernel_rfl) ?_|refine zco ?_ ?_|exact zd|(refine fun (hg:(_:Prop))=>?_;(try replace hg:=HG.out hg);(try dsimp only at hg);(try (have _h:True:=hg;clear _h hg)))))
    (refine subq_n [] [.arr 11 1 (fun _=>shoV 9 10 11 12 13 14 15 8 (giveF h j)),.dead,.dead,.dead,.dead,.dead,.dead,.dead,mapE Tal.enc (giveM h m j),LB 5 Itm.enc (giveF h j).store.items,LB 2 Prt.enc (giveF h j).store.prints,LB 7 Dsn.enc (giveF h j).designs,LB 4 Lic.enc (giveF h j).lics,LB 4 Ordr.enc (giveF h j).orders,LB 1 vi (giveF h j).made,LB 1 vi (giveF h j).fors] ?_ ?_;(focus ((refine sub_toL [some 0,some 1,some 2,some 3,some 4,some 5,some 6,some 7,some 8,some 1,some 2,some 3,some 4,some 5,some 6,some 7] [] rfl ?_ ?_<;>(repeat' (first|exact trivial|refine ⟨⟨_,rfl,?_⟩,?_⟩|refine vs1 ?_ ?_|refine vs2 ?_ ?_|refine vs3 ?_|refine vs4 ?_ ?_|refine ⟨.inl ⟨_,_,rfl,rfl,?_⟩,?_⟩|exact ⟨.inr ⟨rfl,rfl⟩,trivial⟩|refine ⟨.inr ⟨rfl,rfl⟩,?_⟩|(intro _ _)|exact vz1|(first|refine ⟨trivial,?_⟩|refine ⟨bsub_mapE rfl rfl (fun _=>rfl),?_⟩|refine ⟨bsub_setO (doneO (el h.orders j.order.toNat)) rfl (by omega) rfl rfl,?_⟩|exact VSub.aggL ⟨.closed rfl,.closed rfl,.closed rfl,.sl rfl,.sl rfl,.sl rfl,.sl rfl,slEq rfl (List.length_set ..).symm,.sl rfl,.sl rfl,.map rfl,trivial⟩)|exact vz2|fail)));done)))
    exact bq0n ⟨hE,rfl,_,give_tal ht hff hne,rfl⟩
end
section
variable {P:Program}{r:Option Nat}{Q:Exit→Act→World→Prop}{ops:Array Oper}
def calmOp2 (o:Op):Bool:=calmOp o||(match o with|.alloc _=>true|_=>false)
def opKeeps2 (t:Nat) (o:Oper):Bool:=!(o.dst==some t)&&calmOp2 o.op
theorem op_dst2 {t:Nat}{o:Oper}(h:opKeeps2 t o=true):o.dst≠some t:=by
  unfold opKeeps2 at h
  simp only [Bool.and_eq_true] at h
  exact fun e=>by rw [e] at h;simp at h
theorem op_calm2 {t:Nat}{o:Oper}(h:opKeeps2 t o=true):calmOp2 o.op=true:=by
  unfold opKeeps2 at h
  simp only [Bool.and_eq_true] at h
  exact h.2
theorem calm_no2 {o:Oper}{r:Option Nat}{a:Act}{w w':World}{d:Deferred}(ho:calmOp2 o.op=true) (h:(o.semAt (Fw r).round a.eval).run P w=.ok (.defer d) w'):False:=by
  unfold calmOp2 at ho
  rw [Bool.or_eq_true] at ho
  rcases ho with ho|ho
  · exact calm_no ho h
  · cases hop:o.op<;>rw [hop] at ho<;>first|(cases ho;done)|skip
    rw [Oper.semAt_eq _ _ _ (fun c e=>by rw [e] at hop;cases hop)] at h
    unfold execOp at h
    rw [hop] at h
    exact val_no h
theorem wpIn_pin2 {p:Pin}{o:Oper}{a:Act}{w:World}{next next':Act→World→Prop}(hk:opKeeps2 p.t o=true) (ha:p.Ok a) (hn:∀ a' w',p.Ok a'→next a' w'→next' a' w')
    (h:o.wpIn (Fw r) 0 P a w next Q):o.wpIn (Fw r) 0 P a w next' (PinQ p Q):=by
  have hd:=op_dst2 hk
  refine ⟨h.1,?_⟩
  have h2:=h.2
  revert h2
  generalize hres:(o.semAt (Fw r).round a.eval).run P w=res
  intro h2
  cases res
  case ok x w' =>
    cases x
    case value v=>exact hn _ _ (put_pin ha hd v) h2
    case skip=>exact hn _ _ (put_pin ha hd undef) h2
    case defer d=>exact (calm_no2 (op_calm2 hk) hres).elim
    case enter f args =>
      refine ⟨h2.1,h2.2.mono fun e w'' he=>?_⟩
      cases e
      case returned v=>exact hn _ _ (put_pin ha hd v) he
      case panicked c=>exact ⟨he,ha⟩
      all_goals exact he
    case row row args=>exact ⟨h2.1,h2.2.mono fun v w'' he=>hn _ _ (put_pin ha hd v) he⟩
    case round l f tmps args body =>
      refine ⟨h2.1,h2.2.mono fun e w'' he=>?_⟩
      cases e
      case returned v=>exact hn _ _ (put_pin ha hd v) he
      case panicked c=>exact ⟨he,ha⟩
      all_goals exact he
    all_goals exact h2.elim
  case halt x w' =>
    cases x
    case panic v=>exact ⟨h2,ha⟩
    all_goals exact h2.elim
theorem runP_pin2 {p:Pin}:∀ {l:List Stp}{S:World→Prop}{a:Act}{w:World},(∀ s∈l,s.flat=true∧opKeeps2 p.t s.oper=true)→p.Ok a→runP P r ops Q l S a w→runP P r ops (PinQ p Q) l S a w
  | [],_,_,_,_,ha,h=>⟨h,ha⟩
  | .q i o::l,S,a,w,hf,ha,h=>by
    have hf':∀ s∈l,s.flat=true∧opKeeps2 p.t s.oper=true:=fun s hs=>hf s (by simp [hs])
    have hd:o.dst≠some p.t:=op_dst2 (hf (.q i o) (by simp)).2
    refine ⟨fun hw=>?_,fun hw=>runP_pin2 hf' (put_pin ha hd _) (h.2 hw)⟩
    obtain ⟨v,h1,h2⟩:=h.1 hw
    exact ⟨v,h1,runP_pin2 hf' (put_pin ha hd _) h2⟩
  | .l i o keep::l,S,a,w,hf,ha,h=>by
    have hf':∀ s∈l,s.flat=true∧opKeeps2 p.t s.oper=true:=fun s hs=>hf s (by simp [hs])
    have hk:=(hf (.l i o keep) (by simp)).2
    refine ⟨fun hw=>wpIn_pin2 hk ha ?_ (h.1 hw),fun hw=>runP_pin2 hf' (put_pin ha (op_dst2 hk) _) (h.2 hw)⟩
    rintro a' w' ha' ⟨S',h1,h2,h3⟩
    exact ⟨S',h1,h2,runP_pin2 hf' ha' h3⟩
  | .fork ps::l,S,a,w,hf,_,_=>by have:=(hf (.fork ps) (by simp)).1;cases this
end
namespace Pn
section
variable {t:Nat}{pd:Bool}{P:Program}{r:Option Nat}{m nt:Nat}{Q Q':Post}{env env':Env}{H H':Heap}
theorem aw_region2 {l:List Oper}{id:Nat}(h:AR P r m nt l.toArray Q (textPlan l 0) env H) (hk:l.all (opKeeps2 t)=true:=by rfl):AW t pd P r m nt (.region id l.toArray false) Q env H:=.mk fun X I ρ a w p hp hq hX hs ha=>by
  subst hp hq
  exact region_text (Keeps I ρ H w) (Keeps.refl hs.2.1) (runP_pin2 (fun s hs=>⟨textPlan_flat l 0 s hs,(by
    have key:∀ (l:List Oper) (n:Nat),l.all (opKeeps2 p.t)=true→∀ s∈textPlan l n,opKeeps2 p.t s.oper=true:=fun l=>by
      induction l with
      | nil=>intro n _ s hs;simp [textPlan] at hs
      | cons o l ih =>
        intro n hl s hs
        simp only [List.all_cons,Bool.and_eq_true] at hl
        unfold textPlan at hs
        rcases List.mem_cons.1 hs with h|h
        · rw [h];cases plainOp o.op<;>exact hl.1
        · exact ih _ hl.2 s h
    exact key l 0 hk s hs)⟩) ha (h.1 X I ρ a w hX hs))
end
end Pn
theorem app_at {H:Heap}{b:Blk}:(H++[b])[H.length]?=some b:=by simp
theorem app_set {H:Heap}{b c:Blk}:(H++[b]).set H.length c=H++[c]:=by simp
theorem app_lt {H L:Heap}{k:Nat}{b:Blk}(h:H[k]?=some b):(H++L)[k]?=some b:=by
  rw [List.getElem?_append_left (List.getElem?_eq_some_iff.1 h).1];exact h
theorem app_setlt {H:Heap}{b c y:Blk}{k:Nat}(h:H[k]?=some y):(H++[b]).set k c=H.set k c++[b]:=List.set_append_left _ _ (List.getElem?_eq_some_iff.1 h).1
namespace Pn
theorem hdo1_ret (H:Heap) (p:V):DCalls Tryz.prog 84 [p] H none (fun H'=>∃ L,H'=H++L):=by
  refine dcalls_of_aw2 #[] Tryz.func84 rfl (dc rfl) (dc rfl) (dc rfl) rfl (fun v h=>by cases h) ?_
  show AW _ true _ _ _ _ _ _ ((1,.s .nilIface)::_) _
  (repeat' (first|refine zq ?_|((refine aw_region2 ?_))|refine ar_q (qs_assertN (ty rfl) rfl rfl) (dc rfl) ?_|refine ar_q (qs_nilIsNot (ty rfl) rfl rfl) (dc rfl) ?_|((refine ar_store_var (ty rfl) rfl rfl app_at rfl rfl rfl (dc rfl) (.inl ⟨_,rfl⟩) ?_;rw [app_set]))|((refine ar_isq ?_;refine is_load ?_;refine zlp (hH:=app_at) ?_))|refine zal ?_|refine zsvs ?_|refine zsva ?_|refine zses ?_|refine zsea ?_|refine ar_nil ?_|refine aw_seq ?_|refine aw_skip ?_|refine aw_block ?_|refine aw_exit ?_|refine aw_region ?_|refine zco ?_ ?_|exact zd|(refine fun (hg:(_:Prop))=>?_;(try replace hg:=HG.out hg);(try dsimp only at hg);(try (have _h:True:=hg;clear _h hg)))))
  all_goals exact (⟨_,rfl⟩:∃ L,H++_=H++L)
theorem hdo1_pan (H:Heap) (k:Nat) (e z:Int) (hH:H[k]?=some (.arr 1 1 (fun _=>vi z))):DCalls Tryz.prog 84 [.ptr 1 k 0 0] H (some (refV e)) (fun H'=>∃ L,H'=H.set k (.arr 1 1 (fun _=>vi e))++L):=by
  refine dcalls_of_aw2 #[] Tryz.func84 rfl (dc rfl) (dc rfl) (dc rfl) rfl (fun v h=>by cases h;exact ⟨_,_,rfl⟩) ?_
  show AW _ true _ _ _ _ _ _ ((1,refV e)::_) _
  (repeat' (first|refine zq ?_|((refine aw_region2 ?_))|refine ar_q (qs_assertS (ty rfl) rfl rfl) (dc rfl) ?_|((refine ar_store_var (ty rfl) rfl rfl app_at rfl rfl rfl (dc rfl) (.inl ⟨_,rfl⟩) ?_;rw [app_set]))|((refine ar_isq ?_;refine is_load ?_;refine zlp (hH:=app_at) ?_))|refine ar_store_var (ty rfl) rfl rfl (app_lt hH) rfl rfl rfl (dc rfl) (.inr ⟨rfl,rfl,rfl,fun _ h=>by cases h⟩) ?_|refine zal ?_|refine zsvs ?_|refine zsva ?_|refine zses ?_|refine zsea ?_|refine ar_nil ?_|refine aw_seq ?_|refine aw_skip ?_|refine aw_block ?_|refine aw_exit ?_|refine aw_region ?_|refine zco ?_ ?_|exact zd|(refine fun (hg:(_:Prop))=>?_;(try replace hg:=HG.out hg);(try dsimp only at hg);(try (have _h:True:=hg;clear _h hg)))))
  all_goals exact (⟨[_],app_setlt hH⟩:∃ L,List.set (H++[_]) k (.arr 1 1 fun _=>vi e)=List.set H k (.arr 1 1 fun _=>vi e)++L)
end Pn
def doersHL:List V:=[.s .nilFunc,.fn (.func 128) [] [],.fn (.func 129) [] [],.fn (.func 130) [] [],.fn (.func 131) [] [],.fn (.func 132) [] [],.fn (.func 133) [] [],.fn (.func 134) [] [],.fn (.func 135) [] []]
def doersHV:V:=.agg doersHL
theorem hdoers_p:PCalls Tryz.prog 85 [] (·=doersHV):=by
  refine pcalls_of_aw Tryz.func85 rfl (dc rfl) ?_
  (repeat' (first|(refine zbt ?_)|refine ar_q (qs_build_arr (ds:=doersHL) (ty rfl) rfl (ty rfl) rfl rfl (build rfl)) (dc rfl) ?_|refine zst ?_|refine zco ?_ ?_|exact zd|(refine fun (hg:(_:Prop))=>?_;(try replace hg:=HG.out hg);(try dsimp only at hg);(try (have _h:True:=hg;clear _h hg)))))
  refine aw_ret (bq1c (ty rfl) rfl rfl Nat.one_pos rfl ⟨rfl,rfl⟩)
def DoHR (h:Hse) (j:Job) (v:V) (H:Heap):Prop:=(jobE h j=0∧v=vi 0∧∃ m',TalOk (jobF h j) m'∧H=shoX (jobF h j) m')∨(jobE h j≠0∧v=vi (jobE h j)∧H=List.replicate 9 .dead)
theorem htry_ret {H:Heap}{e:Int}{R:V→Heap→Prop}(hH:H[10]?=some (.arr 1 1 (fun _=>vi e))) (hR:∀ L,R (vi e) (H++L)):DCalls Tryz.prog 84 [.ptr 1 10 0 0] H none fun H'=>∃ v,ResV Tryz.prog [(4,.ptr 1 10 0 0)] H' Tryz.f44.results v∧R v H' :=
  (Pn.hdo1_ret H _).mono fun _ h=>by obtain ⟨L,rfl⟩:=h;exact ⟨vi e,.inl ⟨_,rfl,⟨_,1,10,0,0,1,_,ty rfl,rfl,app_lt hH,Nat.one_pos,rfl⟩⟩,hR L⟩
theorem htry_pan {H:Heap}{e:Int}{R:V→Heap→Prop}(hH:H[10]?=some (.arr 1 1 (fun _=>vi 0))) (hR:∀ L,R (vi e) (H.set 10 (.arr 1 1 (fun _=>vi e))++L)):DCalls Tryz.prog 84 [.ptr 1 10 0 0] H (some (refV e)) fun H'=>∃ v,ResV Tryz.prog [(4,.ptr 1 10 0 0)] H' Tryz.f44.results v∧R v H' :=
  (Pn.hdo1_pan H 10 e 0 hH).mono fun H' h=>by obtain ⟨L,rfl⟩:=h;exact ⟨vi e,.inl ⟨_,rfl,⟨_,1,10,0,0,1,_,ty rfl,rfl,app_lt (set_get hH),Nat.one_pos,rfl⟩⟩,hR L⟩
theorem sub_dead9 {H:Heap}{e:Int}(h:9≤H.length):SubOf 9 1 [(0,vi e)] H [(0,vi e)] (List.replicate 9 .dead):=by
  match H,h with
  | a::b::c::d::e'::f::g::i::k::L,_ =>
    show SubOf 9 1 _ _ _ [.dead,.dead,.dead,.dead,.dead,.dead,.dead,.dead,.dead]
    (exact zsc [some 0,some 1,some 2,some 3,some 4,some 5,some 6,some 7,some 8] [])
section
variable {X4 X5 X6:Blk}{h h':Hse}{m m':List (Int × Tal)}{j:Job}
def shoE (h':Hse) (m':List (Int × Tal)) (X4 X5 X6:Blk):Heap:=[.arr 11 1 (fun _=>shoV 12 13 14 15 16 17 18 8 h'),.dead,.dead,.dead,.dead,.dead,.dead,.dead,mapE Tal.enc m',X4,X5,X6,LB 5 Itm.enc h'.store.items,LB 2 Prt.enc h'.store.prints,LB 7 Dsn.enc h'.designs,LB 4 Lic.enc h'.lics,LB 4 Ordr.enc h'.orders,LB 1 vi h'.made,LB 1 vi h'.fors]
theorem join_shoX {a0 a1 a2 a3 a4 a5 a6 a7 a8:Blk}:joinH [0,1,2,3,4,5,6,7,8] [] [a0,a1,a2,a3,a4,a5,a6,a7,a8,X4,X5,X6] (shoX h' m')=shoE h' m' X4 X5 X6:=by
  unfold shoX shoE
  rw [join9]
  have e2:(mapE Tal.enc m').ren (rn [0,1,2,3,4,5,6,7,8] ([X4,X5,X6].length+9))=mapE Tal.enc m':=mapE_renE fun _=>rfl
  simp only [List.map_cons,List.map_nil,e2]
  rfl
theorem end_shoX {L:Heap}:SubOf 9 1 [(0,vi 0)] (shoE h' m' X4 X5 X6++L) [(0,vi 0)] (shoX h' m'):=by
  unfold shoE shoX
  (exact zsl [some 0,some 1,some 2,some 3,some 4,some 5,some 6,some 7,some 8,some 12,some 13,some 14,some 15,some 16,some 17,some 18] [])
theorem hdo_end (ht:TalOk (jobF h j) m') (hE:jobE h j=0) {H:Heap}(hH:H=shoE (jobF h j) m' X4 (.arr 1 1 (fun _=>vi 0)) X6) :
    DCalls Tryz.prog 84 [.ptr 1 10 0 0] H none fun H'=>∃ v,ResV Tryz.prog [(4,.ptr 1 10 0 0)] H' Tryz.f44.results v∧∃ v' H'',SubOf 9 1 [(0,v)] H' [(0,v')] H''∧DoHR h j v' H'':=by
  subst hH
  exact htry_ret rfl fun L=>⟨vi 0,_,end_shoX,.inl ⟨hE,rfl,m',ht,rfl⟩⟩
theorem hdo_bad {H:Heap}{E:Int}(h5:H[10]?=some (.arr 1 1 (fun _=>vi 0))) (h0:E≠0) (hE:jobE h j=E) :
    DCalls Tryz.prog 84 [.ptr 1 10 0 0] H (some (refV E)) fun H'=>∃ v,ResV Tryz.prog [(4,.ptr 1 10 0 0)] H' Tryz.f44.results v∧∃ v' H'',SubOf 9 1 [(0,v)] H' [(0,v')] H''∧DoHR h j v' H'' :=
  htry_pan h5 fun L=>⟨vi E,_,sub_dead9 (by rw [List.length_append,List.length_set];have:=(List.getElem?_eq_some_iff.1 h5).1;omega),.inr ⟨by rw [hE];exact h0,by rw [hE],rfl⟩⟩
end
section
variable {r:Option Nat}{mm nt i d:Nat}{Q:Post}{env:Env}{ops:Array Oper}{L:List Stp}{ty:TypeId}{pos:String}{after:Array Edge}{ats:Array TypeId}{x y z:Operand}
theorem ar_deed {h h':Hse}{m:List (Int × Tal)}{X4 X5 X6:Blk}{A:V}{f:FuncId}{E:Int}(hfn:FnOk Tryz.prog f) (hc:ACalls Tryz.prog f [.ptr 11 0 0 0,A] (shoB h m) (DeedR h' E) (DeedP E)) (hA:A.closed=true)
    (h1:E=0→∀ m',TalOk h' m'→AR Tryz.prog r mm nt ops Q L ((d,.tup [])::env) (shoE h' m' X4 X5 X6))
    (h2:E≠0→∀ H1,Q (.panic (refV E)) [] (joinH [0,1,2,3,4,5,6,7,8] [] [.arr 11 1 (fun _=>shoV 1 2 3 4 5 6 7 8 h),LB 5 Itm.enc h.store.items,LB 2 Prt.enc h.store.prints,LB 7 Dsn.enc h.designs,LB 4 Lic.enc h.lics,LB 4 Ordr.enc h.orders,LB 1 vi h.made,LB 1 vi h.fors,mapE Tal.enc m,X4,X5,X6] H1))
    (hz:eo env z=some (.fn (.func f) [] []):=by exact rfl) (hx:eo env x=some (.ptr 11 0 0 0):=by exact rfl) (hy:eo env y=some A:=by exact rfl) (hd:d<nt:=by exact dc rfl) :
    AR Tryz.prog r mm nt ops Q (.l i ⟨some d,.call ⟨.value z,#[x,y],ats⟩,ty,pos,after,none⟩ false::L) env [.arr 11 1 (fun _=>shoV 1 2 3 4 5 6 7 8 h),LB 5 Itm.enc h.store.items,LB 2 Prt.enc h.store.prints,LB 7 Dsn.enc h.designs,LB 4 Lic.enc h.lics,LB 4 Ordr.enc h.orders,LB 1 vi h.made,LB 1 vi h.fors,mapE Tal.enc m,X4,X5,X6]:=by
  refine ar_gcall (H0:=shoB h m) [0,1,2,3,4,5,6,7,8] [] (args:=[x,y]) (vs:=[.ptr 11 0 0 0,A]) (first:=[]) (cap:=[]) hfn hz (by rw [List.mapM_cons,List.mapM_cons,List.mapM_nil,hx,hy];rfl) (xs:=[.ptr 11 0 0 0,A]) ⟨.ptr rfl,.closed hA,trivial⟩ rfl (by decide) (fun _ h=>by cases h) (show ShoAt _ 0 1 2 3 4 5 6 7 8 h m from {}).hsub shoB_live hc hd ?_ ?_
  · rintro _ _ ⟨hh,rfl,m',ht,rfl⟩
    rw [join_shoX]
    exact h1 hh m' ht
  · rintro _ _ ⟨hh,rfl⟩
    exact h2 hh _
end
end Go.Proofs.YtbilpbabdgfblaaGreat
