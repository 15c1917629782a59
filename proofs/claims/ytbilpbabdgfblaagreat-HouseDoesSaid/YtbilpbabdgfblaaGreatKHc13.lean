/- Parts of the proof: a layer of values over the model, and contracts of functions. No condition. -/
import Derived.Test.YtbilpbabdgfblaaGreatKHc12
set_option maxHeartbeats 16000000
set_option linter.unusedSimpArgs false
set_option linter.unusedVariables false
namespace Go.Proofs.YtbilpbabdgfblaaGreat
open Go.RowKit
def cutP (s:Sto) (first n:Int):List Prt:=(s.prints.drop first.toNat).take n.toNat
def spendE (s:Sto) (first n:Int):Int:=if 1≤n∧n≤400 then (if 0≤first∧first≤(s.prints.length:Int)-n then (if (cutP s first n).any spentB=true then 83 else 0) else 6) else 2
def stateAt (l:List Prt) (F k:Nat) (st:Int) (j:Nat):Prt:=if F≤j∧j<F+k then ⟨(el l j).plate,st⟩ else el l j
def spendF (s:Sto) (first n st:Int):Sto:={ s with prints:=(List.range s.prints.length).map (stateAt s.prints first.toNat n.toNat st) }
theorem spendF_len (s:Sto) (first n st:Int):(spendF s first n st).prints.length=s.prints.length:=by simp [spendF]
theorem spendF_el {s:Sto}{first n st:Int}{j:Nat}(h:j<s.prints.length):el (spendF s first n st).prints j=stateAt s.prints first.toNat n.toNat st j:=by unfold spendF;rw [el_map_range h]
theorem state_zero (l:List Prt) (F:Nat) (st:Int) (j:Nat):stateAt l F 0 st j=el l j:=by
  unfold stateAt
  rw [if_neg (by omega)]
theorem state_sub {H:Heap}{σ:List (Option Nat)}{fr:Nat→Prop}{l:List Prt}{F k j:Nat}{st:Int}{v:V}(hv:v=Prt.enc ⟨(el l (F+k)).plate,st⟩):VSub H σ fr (upd (fun j=>(stateAt l F k st j).enc) (F+k) v j) ((stateAt l F (k+1) st j).enc):=by
  by_cases e:j=F+k
  · subst e
    rw [upd_same,hv]
    unfold stateAt
    rw [if_pos (by omega)]
    exact .closed rfl
  · rw [upd_other e]
    refine .of_eq ?_ rfl
    unfold stateAt
    by_cases h:F≤j∧j<F+k
    · rw [if_pos h,if_pos (by omega)]
    · rw [if_neg h,if_neg (by omega)]
theorem bsub_len {α:Type}[Inhabited α] {H:Heap}{σ:List (Option Nat)}{fr:Nat→Prop}{k b sz n:Nat}{e:α→V}{L:List α}{f:Nat→V}(h:σ[k]?=some (some b)) (hb:H[b]?=some (.arr sz n f)) (hn:L.length=n) (hf:∀ i,i<n→f i=e (el L i)) (hc:∀ y,(e y).closed=true):BSub H σ fr k (LB sz e L):=by
  refine .inl ⟨b,f,h,by rw [hb,hn],fun i hi=>.of_eq (hf i (by omega)) (hc _)⟩
theorem spend_p (s:Sto) (p:List (Int × Int)) (a:Deed) (st:Int) (hV:Valid s):ACalls Tryz.prog 188 [.ptr 4 0 0 0,a.enc,vu8 st] (stoB 0 s p)
    (fun v H=>spendE s a.item a.n=0∧v=.tup []∧H=stoB 0 (spendF s a.item a.n st) p) (fun v _=>spendE s a.item a.n≠0∧v=errV (spendE s a.item a.n)):=by
  have hfew:=hV.1
  unfold Few at hfew
  have bad:∀ e:Int,spendE s a.item a.n=e→e≠0→∀ H':Heap,spendE s a.item a.n≠0∧errV e=errV (spendE s a.item a.n):=fun e h h0 _=>by rw [h];exact ⟨h0,rfl⟩
  have e2:¬ (1≤a.n∧a.n≤400)→spendE s a.item a.n=2:=fun h=>by unfold spendE;rw [if_neg h]
  have e6:(1≤a.n∧a.n≤400)→¬ (0≤a.item∧a.item≤(s.prints.length:Int)-a.n)→spendE s a.item a.n=6:=fun h h2=>by unfold spendE;rw [if_pos h,if_neg h2]
  have e83:(1≤a.n∧a.n≤400)→(0≤a.item∧a.item≤(s.prints.length:Int)-a.n)→(cutP s a.item a.n).any spentB=true→spendE s a.item a.n=83:=fun h h2 h3=>by unfold spendE;rw [if_pos h,if_pos h2,if_pos h3]
  have e0:(1≤a.n∧a.n≤400)→(0≤a.item∧a.item≤(s.prints.length:Int)-a.n)→(cutP s a.item a.n).any spentB=false→spendE s a.item a.n=0:=fun h h2 h3=>by unfold spendE;rw [if_pos h,if_pos h2,if_neg (by rw [h3];decide)]
  have hcl:(1≤a.n∧a.n≤400)→(0≤a.item∧a.item≤(s.prints.length:Int)-a.n)→(cutP s a.item a.n).length=a.n.toNat:=fun h h2=>by unfold cutP;rw [List.length_take,List.length_drop];omega
  have hce:∀ k,k<a.n.toNat→el (cutP s a.item a.n) k=el s.prints (a.item.toNat+k):=fun k hk=>by unfold cutP;rw [el_take hk,el_drop]
  
  refine acalls_of_aw Tryz.func188 rfl (dc rfl) ?_;refine aw_post ?_
  (repeat' (first|(refine ar_isq ?_;refine zq ?_)|(((refine ar_subk_l (sub_frzL (t:=10) vi ([a.n]) rfl rfl rfl rfl (fun _ _=>rfl) (fun _=>rfl)) ?_);refine zpv fn59 (from_p _ _ [a.n]) ?_))|refine ar_buildLE vi ([a.n]) (by exact ty rfl) (by exact rfl) (by exact ty rfl) (by exact rfl) (by exact rfl) (by exact Nat.succ_pos _) (by exact rfl) (by exact dc rfl) (by exact rfl) (by exact fun _=>⟨rfl,rfl⟩) (by exact dc rfl) ?_|(refine ar_refuse ?_ ?_ rfl rfl (dc rfl)<;>intro hrf<;>first|exact absurd hrf (by decide)|((try replace hrf:=HG.out hrf);(try rw [fromB_one] at hrf);(try rw [withinB_iff] at hrf);(try rw [withinB_no] at hrf)))|((refine ar_re (t:=43) (v':=.sl 2 2 a.item.toNat (cutP s a.item a.n).length) rfl (by rw [hcl (by omega) (by omega)];simp;try omega) ?_;refine ar_pcall (own:=true) fn189 rfl rfl (.cons (.lent rfl rfl (by rw [hcl (by omega) (by omega)];omega) (fun _ _=>rfl) (fun k hk=>congrArg Prt.enc (hce k (by rw [← hcl (by omega) (by omega)];exact hk)))) (.cons (.closed rfl) .nil)) (containsP_p (cutP s a.item a.n)) (by intros;subst_vars;rfl) (dc rfl) ?_;intro _ hv;subst hv))|refine zcl (a:=a.item.toNat) (b:=s.prints.length) ?_|refine zcs (a:=a.item.toNat) (b:=s.prints.length) ?_|refine zcl (a:=0) (b:=a.n.toNat) ?_|refine zcs (a:=0) (b:=a.n.toNat) ?_|refine zg ?_ ?_|refine zgu ?_|refine zst ?_|refine aw_drawn (id:=2) [(0,0),(1,0),(2,0),(3,0),(4,0),(5,0),(6,0),(7,0),(8,0),(9,0),(10,0),(11,0),(12,0),(13,0),(14,0),(15,0),(16,0),(17,2)] mixed (by kernel_rfl) ?_|refine aw_drawn (id:=2) [(0,0),(1,0),(2,0),(3,0),(4,0),(5,0),(6,0),(7,0),(8,0),(9,0),(10,0),(11,0),(12,0),(13,0),(14,0),(15,0),(16,0),(17,1)] mixed (by kernel_rfl) ?_|refine aw_drawn (id:=3) [(0,0),(1,0),(2,0),(3,0),(4,0),(5,0),(6,0),(7,0),(8,0),(9,0),(10,0),(11,0)] mixed (by kernel_rfl) ?_|refine zco ?_ ?_|(refine fun (hg:(_:Prop))=>?_;first|exact absurd hg (by decide)|((try replace hg:=HG.out hg);(try dsimp only at hg);(try rw [fromB_one] at hg);(try rw [withinB_iff] at hg);(try rw [withinB_no] at hg);(try (have _h:True:=hg;clear _h hg));first|(exfalso;omega)|skip))))
  all_goals first
    | exact bad 2 (e2 (by omega)) (by decide)
    | exact bad 6 (e6 (by omega) (by omega)) (by decide)
    | exact bad 83 (e83 (by omega) (by omega) (by assumption)) (by decide)
    | skip
  rename_i hr1 hr2 hr3 hr4
  refine aw_for a.n.toNat (fun _=>True) (fun k=>[(0,.ptr 4 0 0 0),(2,vu8 st),(6,.sl 2 2 (0+a.item.toNat+0) (a.n.toNat-0)),(47,vi ((a.n.toNat-0:Nat):Int)),(48,vi k)]) (fun k=>[.arr 4 1 (fun _=>stoV 0 s),LB 5 Itm.enc s.items,.arr 2 s.prints.length (fun j=>(stateAt s.prints (0+a.item.toNat+0) k st j).enc),mapE vi p]) trivial ?_ ?_
  · (refine sub_to [some 0,some 1,some 2,some 3] [] rfl ?_ ?_<;>(repeat' (first|exact trivial|refine ⟨⟨_,rfl,?_⟩,?_⟩|refine vs1 ?_ ?_|refine vs2 ?_ ?_|refine vs3 ?_|refine vs4 ?_ ?_|refine ⟨.inl ⟨_,_,rfl,rfl,?_⟩,?_⟩|exact ⟨.inr ⟨rfl,rfl⟩,trivial⟩|refine ⟨.inr ⟨rfl,rfl⟩,?_⟩|(intro _ _)|exact vz1|(first|exact VSub.of_eq (congrArg Prt.enc (state_zero _ _ _ _).symm) rfl|refine ⟨bsub_mapE rfl rfl (fun _=>rfl),?_⟩|exact VSub.aggL ⟨.closed rfl,.sl rfl,.sl rfl,.map rfl,trivial⟩)|exact vz2|fail)))
  intro k hk _
  by_cases hlt:k<a.n.toNat
  · 
    (repeat' (first|(refine ar_isq ?_;refine zq ?_)|refine zil (j:=k) ?_|refine zis (j:=k) ?_|refine zit (j:=k) ?_|refine zcl ?_|refine zcs ?_|refine zg ?_ ?_|refine zgu ?_|refine zst ?_|refine aw_drawn (id:=2) [(0,0),(1,0),(2,0),(3,0),(4,0),(5,0),(6,0),(7,0),(8,0),(9,0),(10,0),(11,0),(12,0),(13,0),(14,0),(15,0),(16,0),(17,2)] mixed (by kernel_rfl) ?_|refine aw_drawn (id:=2) [(0,0),(1,0),(2,0),(3,0),(4,0),(5,0),(6,0),(7,0),(8,0),(9,0),(10,0),(11,0),(12,0),(13,0),(14,0),(15,0),(16,0),(17,1)] mixed (by kernel_rfl) ?_|refine aw_drawn (id:=3) [(0,0),(1,0),(2,0),(3,0),(4,0),(5,0),(6,0),(7,0),(8,0),(9,0),(10,0),(11,0)] mixed (by kernel_rfl) ?_|refine zco ?_ ?_|exact zd|(refine fun (hg:(_:Prop))=>?_;(try replace hg:=HG.out hg);(try dsimp only at hg);(try (have _h:True:=hg;clear _h hg)))))
    all_goals first
      | (exfalso;omega)
      | ((first|refine loop_next (by omega) ?_ ?_|refine (show _∧_∧SubOf _ _ _ _ _ _ from And.intro (by omega) (And.intro ?_ ?_)));(focus ((trivial);done));(focus ((refine sub_to [some 0,some 1,some 2,some 3] [] rfl ?_ ?_<;>(repeat' (first|exact trivial|refine ⟨⟨_,rfl,?_⟩,?_⟩|refine vs1 ?_ ?_|refine vs2 ?_ ?_|refine vs3 ?_|refine vs4 ?_ ?_|refine ⟨.inl ⟨_,_,rfl,rfl,?_⟩,?_⟩|exact ⟨.inr ⟨rfl,rfl⟩,trivial⟩|refine ⟨.inr ⟨rfl,rfl⟩,?_⟩|(intro _ _)|exact vz1|(first|exact state_sub (by unfold stateAt;rw [if_neg (by omega)];rfl)|refine ⟨bsub_mapE rfl rfl (fun _=>rfl),?_⟩|exact VSub.aggL ⟨.closed rfl,.sl rfl,.sl rfl,.map rfl,trivial⟩)|exact vz2|fail)));done)))
      | trace_state
  · obtain rfl:k=a.n.toNat:=by omega
    (repeat' (first|(refine ar_isq ?_;refine zq ?_)|refine zcl ?_|refine zcs ?_|refine zg ?_ ?_|refine zgu ?_|refine zst ?_|refine aw_drawn (id:=2) [(0,0),(1,0),(2,0),(3,0),(4,0),(5,0),(6,0),(7,0),(8,0),(9,0),(10,0),(11,0),(12,0),(13,0),(14,0),(15,0),(16,0),(17,2)] mixed (by kernel_rfl) ?_|refine aw_drawn (id:=2) [(0,0),(1,0),(2,0),(3,0),(4,0),(5,0),(6,0),(7,0),(8,0),(9,0),(10,0),(11,0),(12,0),(13,0),(14,0),(15,0),(16,0),(17,1)] mixed (by kernel_rfl) ?_|refine aw_drawn (id:=3) [(0,0),(1,0),(2,0),(3,0),(4,0),(5,0),(6,0),(7,0),(8,0),(9,0),(10,0),(11,0)] mixed (by kernel_rfl) ?_|refine zco ?_ ?_|exact zd|(refine fun (hg:(_:Prop))=>?_;(try replace hg:=HG.out hg);(try dsimp only at hg);(try (have _h:True:=hg;clear _h hg)))))
    all_goals first
      | (exfalso;omega)
      | ((refine subq_n [] [.arr 4 1 (fun _=>stoV 0 (spendF s a.item a.n st)),LB 5 Itm.enc s.items,LB 2 Prt.enc (spendF s a.item a.n st).prints,mapE vi p] ?_ ?_;(focus ((refine sub_to [some 0,some 1,some 2,some 3] [] rfl ?_ ?_<;>(repeat' (first|exact trivial|refine ⟨⟨_,rfl,?_⟩,?_⟩|refine vs1 ?_ ?_|refine vs2 ?_ ?_|refine vs3 ?_|refine vs4 ?_ ?_|refine ⟨.inl ⟨_,_,rfl,rfl,?_⟩,?_⟩|exact ⟨.inr ⟨rfl,rfl⟩,trivial⟩|refine ⟨.inr ⟨rfl,rfl⟩,?_⟩|(intro _ _)|exact vz1|(first|refine ⟨bsub_len rfl rfl (spendF_len _ _ _ _) (fun j hj=>by rw [spendF_el hj,Nat.zero_add,Nat.add_zero]) (fun _=>rfl),?_⟩|refine ⟨bsub_mapE rfl rfl (fun _=>rfl),?_⟩|exact VSub.aggL ⟨.closed rfl,.sl rfl,slEq rfl (spendF_len _ _ _ _).symm,.map rfl,trivial⟩)|exact vz2|fail)));done)))
         exact bq0n ⟨e0 (by omega) (by omega) (by assumption),rfl,rfl⟩)
      | trace_state
section
variable {r:Option Nat}{m nt i d:Nat}{Q:Post}{env:Env}{H:Heap}{ops:Array Oper}{L:List Stp}{ty:TypeId}{pos:String}{after:Array Edge}{ats:Array TypeId}{x y z:Operand}{p:List (Int × Int)}
theorem ar_spend (s:Sto) (a:Deed) (st:Int) (hV:Valid s) (h1:spendE s a.item a.n=0→AR Tryz.prog r m nt ops Q L ((d,.tup [])::env) ((H.set 0 (.arr 4 1 (fun _=>stoV 0 (spendF s a.item a.n st)))).set 2 (LB 2 Prt.enc (spendF s a.item a.n st).prints))) (h2:spendE s a.item a.n≠0→∀ H',Q (.panic (errV (spendE s a.item a.n))) [] H') (hx:eo env x=some (.ptr 4 0 0 0)) (hy:eo env y=some a.enc) (hz:eo env z=some (vu8 st))
    (b0:H[0]?=some (.arr 4 1 (fun _=>stoV 0 s))) (b1:H[1]?=some (LB 5 Itm.enc s.items)) (b2:H[2]?=some (LB 2 Prt.enc s.prints)) (b3:H[3]?=some (mapE vi p)) (hl:4≤H.length) (hd:d<nt) :
    AR Tryz.prog r m nt ops Q (.l i ⟨some d,.call ⟨.value (.func 188),#[x,y,z],ats⟩,ty,pos,after,none⟩ false::L) env H:=by
  refine ar_gcall (H0:=stoB 0 s p) [0,1,2,3] [] (args:=[x,y,z]) (vs:=[.ptr 4 0 0 0,a.enc,vu8 st]) (first:=[]) (cap:=[]) fn188 rfl (by rw [List.mapM_cons,List.mapM_cons,List.mapM_cons,List.mapM_nil,hx,hy,hz];rfl) (xs:=[.ptr 4 0 0 0,a.enc,vu8 st]) ⟨.ptr rfl,.closed rfl,.closed rfl,trivial⟩ rfl (by decide) (fun _ h=>by cases h) (hsub4 b0 b1 b2 b3) stoB_live (spend_p s p a st hV) hd ?_ ?_
  · rintro _ _ ⟨hh,rfl,rfl⟩
    rw [show stoB 0 (spendF s a.item a.n st) p=[.arr 4 1 (fun _=>stoV 0 (spendF s a.item a.n st)),LB 5 Itm.enc s.items,LB 2 Prt.enc (spendF s a.item a.n st).prints,mapE vi p] from rfl,join4 hl,mapE_ren]
    have e1:(H.set 0 ((Blk.arr 4 1 (fun _=>stoV 0 (spendF s a.item a.n st))).ren (rn [0,1,2,3] H.length))).set 1 ((LB 5 Itm.enc s.items).ren (rn [0,1,2,3] H.length))=H.set 0 (.arr 4 1 (fun _=>stoV 0 (spendF s a.item a.n st))):=set_same (by rw [List.getElem?_set_ne (by decide)];exact b1)
    rw [e1,set_same (by rw [List.getElem?_set_ne (by decide),List.getElem?_set_ne (by decide)];exact b3),List.map_nil,List.append_nil]
    exact h1 hh
  · rintro _ _ ⟨hh,rfl⟩
    exact h2 hh _
end
theorem issue_p (s:Sto) (p:List (Int × Int)) (a:Deed) (hV:Valid s):ACalls Tryz.prog 181 [.ptr 4 0 0 0,a.enc] (stoB 0 s p)
    (fun v H=>spendE s a.item a.n=0∧v=.tup []∧H=stoB 0 (spendF s a.item a.n 1) p) (fun v _=>spendE s a.item a.n≠0∧v=errV (spendE s a.item a.n)):=by
  refine acalls_of_aw Tryz.func181 rfl (dc rfl) ?_;refine aw_post ?_
  (repeat' (first|(refine ar_isq ?_;refine zq ?_)|(refine ar_spend s a 1 hV ?_ ?_ rfl rfl rfl rfl rfl rfl rfl (dc rfl) (dc rfl)<;>intro hrf)|refine zst ?_|refine zco ?_ ?_|exact zd|(refine fun (hg:(_:Prop))=>?_;(try replace hg:=HG.out hg);(try dsimp only at hg);(try (have _h:True:=hg;clear _h hg)))))
  · (refine subq_n [] [.arr 4 1 (fun _=>stoV 0 (spendF s a.item a.n 1)),LB 5 Itm.enc s.items,LB 2 Prt.enc (spendF s a.item a.n 1).prints,mapE vi p] ?_ ?_;(focus (exact zsc [some 0,some 1,some 2,some 3] [])))
    exact bq0n ⟨hrf,rfl,rfl⟩
  · intro H';exact (⟨hrf,rfl⟩:spendE s a.item a.n≠0∧errV (spendE s a.item a.n)=errV (spendE s a.item a.n))
theorem spoil_p (s:Sto) (p:List (Int × Int)) (a:Deed) (hV:Valid s):ACalls Tryz.prog 182 [.ptr 4 0 0 0,a.enc] (stoB 0 s p)
    (fun v H=>spendE s a.item a.n=0∧v=.tup []∧H=stoB 0 (spendF s a.item a.n 2) p) (fun v _=>spendE s a.item a.n≠0∧v=errV (spendE s a.item a.n)):=by
  refine acalls_of_aw Tryz.func182 rfl (dc rfl) ?_;refine aw_post ?_
  (repeat' (first|(refine ar_isq ?_;refine zq ?_)|(refine ar_spend s a 2 hV ?_ ?_ rfl rfl rfl rfl rfl rfl rfl (dc rfl) (dc rfl)<;>intro hrf)|refine zst ?_|refine zco ?_ ?_|exact zd|(refine fun (hg:(_:Prop))=>?_;(try replace hg:=HG.out hg);(try dsimp only at hg);(try (have _h:True:=hg;clear _h hg)))))
  · (refine subq_n [] [.arr 4 1 (fun _=>stoV 0 (spendF s a.item a.n 2)),LB 5 Itm.enc s.items,LB 2 Prt.enc (spendF s a.item a.n 2).prints,mapE vi p] ?_ ?_;(focus (exact zsc [some 0,some 1,some 2,some 3] [])))
    exact bq0n ⟨hrf,rfl,rfl⟩
  · intro H';exact (⟨hrf,rfl⟩:spendE s a.item a.n≠0∧errV (spendE s a.item a.n)=errV (spendE s a.item a.n))
theorem acalls_sub {P:Program}{f:FuncId}{args:List V}{H:Heap}{R R' Rp Rp':V→Heap→Prop}(h:ACalls P f args H R Rp) (hs:∀ v H',R v H'→∃ v' H'',SubOf H.length 1 [(0,v)] H' [(0,v')] H''∧R' v' H'')
    (hp:∀ v H',Rp v H'→∃ v' H'',SubOf H.length 1 [(0,v)] H' [(0,v')] H''∧Rp' v' H''):ACalls P f args H R' Rp':=by
  refine ⟨fun X I ρ w us hw hv=>(h.1 (Ctx.self w ρ H I) I ρ w us hw.self hv).mono ?_⟩
  rintro e w' ⟨v,u,I',ρ',H',h1,h2,h3,h4,h5⟩
  have key:∀ v' H'',SubOf H.length 1 [(0,v)] H' [(0,v')] H''→∃ I2 ρ2,I.le I2∧Pre ρ ρ2∧WOk X I2 ρ2 H'' w'∧VRel I2 ρ2 v' u:=by
    intro v' H'' hsub
    obtain ⟨I2,ρ2,k1,k2⟩:=hsub.1 (Ctx.self w ρ H I) I' ρ' { tmps:=#[u],defers:=[] } w' hw.len ⟨⟨rfl,fun t x hx=>by
      rw [look_cons] at hx
      split at hx
      · rename_i e;subst e;cases hx;exact ⟨by decide,h4⟩
      · simp [look] at hx⟩,h3,DOk.nil rfl⟩
    exact ⟨I2,ρ2,k2.2.1.le,k2.2.1.pre,hw.trans k2.2.1,(k2.1.2 0 v' rfl).2⟩
  rcases h5 with ⟨rfl,hR⟩|⟨rfl,hR⟩
  · obtain ⟨v',H'',s1,s2⟩:=hs v H' hR
    obtain ⟨I2,ρ2,a,b,c,d⟩:=key v' H'' s1
    exact ⟨v',u,I2,ρ2,H'',a,b,c,d,.inl ⟨rfl,s2⟩⟩
  · obtain ⟨v',H'',s1,s2⟩:=hp v H' hR
    obtain ⟨I2,ρ2,a,b,c,d⟩:=key v' H'' s1
    exact ⟨v',u,I2,ρ2,H'',a,b,c,d,.inr ⟨rfl,s2⟩⟩
theorem DCalls.mono {P:Program}{g:FuncId}{args:List V}{H:Heap}{pan:Option V}{R R':Heap→Prop}(h:DCalls P g args H pan R) (hr:∀ H',R H'→R' H'):DCalls P g args H pan R' :=
  ⟨fun X I ρ w us u a b c=>(h.1 X I ρ w us u a b c).mono fun _ _ _ ⟨x,I',ρ',H',a,b,c,d,e,f⟩=>⟨x,I',ρ',H',a,b,c,d,e,hr _ f⟩⟩
namespace Pn
theorem zco {t:Nat}{pd:Bool}{r:Option Nat}{m nt:Nat}{Q:Post}{env:Env}{H:Heap}{x:Operand}{c1 c2:Code}{b:Bool}(hy:b=true→AW t pd Tryz.prog r m nt c1 Q env H) (hn:b=false→AW t pd Tryz.prog r m nt c2 Q env H) (hc:eo env x=some (.s (.bool b)):=by exact rfl):AW t pd Tryz.prog r m nt (.cond x c1 c2) Q env H:=aw_cond hc hy hn
theorem do1_ret (H:Heap) (p:V):DCalls Tryz.prog 175 [p] H none (fun H'=>H'=H):=by
  refine dcalls_of_aw #[] Tryz.func175 rfl (dc rfl) (dc rfl) rfl (fun v h=>by cases h) ?_
  show AW _ true _ _ _ _ _ _ ((4,.s .nilIface)::_) _
  (repeat' (first|refine zq ?_|refine ar_q (qs_nilIsNil (ty rfl) rfl rfl) (dc rfl) ?_|refine zsvs ?_|refine zsva ?_|refine zses ?_|refine zsea ?_|refine ar_nil ?_|refine aw_seq ?_|refine aw_skip ?_|refine aw_block ?_|refine aw_exit ?_|refine aw_region ?_|refine zco ?_ ?_|exact zd|(refine fun (hg:(_:Prop))=>?_;(try replace hg:=HG.out hg);(try dsimp only at hg);(try (have _h:True:=hg;clear _h hg)))))
  all_goals exact (rfl:H=H)
theorem do1_pan (H:Heap) (k:Nat) (e z:Int) (hH:H[k]?=some (.arr 1 1 (fun _=>vi z))):DCalls Tryz.prog 175 [.ptr 1 k 0 0] H (some (errV e)) (fun H'=>H'=H.set k (.arr 1 1 (fun _=>vi e))):=by
  refine dcalls_of_aw #[] Tryz.func175 rfl (dc rfl) (dc rfl) rfl (fun v h=>by cases h;exact ⟨_,_,rfl⟩) ?_
  show AW _ true _ _ _ _ _ _ ((4,errV e)::_) _
  (repeat' (first|refine zq ?_|refine ar_q (qs_ifaceIsNil (ty rfl) rfl rfl) (dc rfl) ?_|refine ar_q (qs_assert (ty rfl) rfl rfl) (dc rfl) ?_|refine ar_store_var (ty rfl) rfl rfl hH rfl rfl rfl (dc rfl) (.inr ⟨rfl,rfl,rfl,fun _ h=>by cases h⟩) ?_|refine zsvs ?_|refine zsva ?_|refine zses ?_|refine zsea ?_|refine ar_nil ?_|refine aw_seq ?_|refine aw_skip ?_|refine aw_block ?_|refine aw_exit ?_|refine aw_region ?_|refine zco ?_ ?_|exact zd|(refine fun (hg:(_:Prop))=>?_;(try replace hg:=HG.out hg);(try dsimp only at hg);(try (have _h:True:=hg;clear _h hg)))))
  all_goals exact (rfl:H.set k (.arr 1 1 (fun _=>vi e))=H.set k (.arr 1 1 (fun _=>vi e)))
end Pn
def doersL:List V:=[.s .nilFunc,.fn (.func 177) [] [],.fn (.func 178) [] [],.fn (.func 179) [] [],.fn (.func 180) [] [],.fn (.func 181) [] [],.fn (.func 182) [] [],.fn (.func 183) [] []]
def doersV:V:=.agg doersL
theorem doers_p:PCalls Tryz.prog 176 [] (·=doersV):=by
  refine pcalls_of_aw Tryz.func176 rfl (dc rfl) ?_
  (repeat' (first|(refine zbt ?_)|refine ar_q (qs_build_arr (ds:=doersL) (ty rfl) rfl (ty rfl) rfl rfl (build rfl)) (dc rfl) ?_|refine zst ?_|refine zco ?_ ?_|exact zd|(refine fun (hg:(_:Prop))=>?_;(try replace hg:=HG.out hg);(try dsimp only at hg);(try (have _h:True:=hg;clear _h hg)))))
  refine aw_ret (bq1c (ty rfl) rfl rfl Nat.one_pos rfl ⟨rfl,rfl⟩)
def actE (s:Sto) (a:Deed):Int :=
  if a.kind=1 then engrE s else if a.kind=2 then transE s a.item else if a.kind=3 then moveE s a.item a.dest else if a.kind=4 then printE s a.item a.n else if a.kind=5 then spendE s a.item a.n else if a.kind=6 then spendE s a.item a.n else if a.kind=7 then destE s a.item else 2
def actF (s:Sto) (a:Deed):Sto :=
  if a.kind=1 then addS s newDie else if a.kind=2 then transF s a.item else if a.kind=3 then moveF s a.item a.dest else if a.kind=4 then printF s a.item a.n else if a.kind=5 then spendF s a.item a.n 1 else if a.kind=6 then spendF s a.item a.n 2 else destF s a.item
def actP (s:Sto) (p:List (Int × Int)) (a:Deed):List (Int × Int):=if a.kind=3 then moveP p (el s.items a.item.toNat) a.item a.dest else p
def actH (s:Sto) (p:List (Int × Int)) (a:Deed):Heap :=
  if a.kind=1∨a.kind=2 then WI (actF s a) (actP s p a) else if a.kind=4 then WP (actF s a) (actP s p a) else stoB 0 (actF s a) (actP s p a)
def DoR (s:Sto) (p:List (Int × Int)) (a:Deed) (v:V) (H:Heap):Prop:=(actE s a=0∧v=vi 0∧H=actH s p a)∨(actE s a≠0∧v=vi (actE s a)∧H=[.dead,.dead,.dead,.dead])
theorem set_get {α:Type}{l:List α}{i:Nat}{x y:α}(h:l[i]?=some y):(l.set i x)[i]?=some x:=by
  have:i<l.length:=(List.getElem?_eq_some_iff.1 h).1
  simp [this]
theorem join_out {σ fr:List Nat}{H H1:Heap}{k:Nat}{b:Blk}(h:H[k]?=some b) (h1:fr.contains k=false) (h2:σ.idxOf? k=none):(joinH σ fr H H1)[k]?=some b:=by
  unfold joinH
  have e:(joinAt σ fr (rn σ H.length) H1 0 H)[k]?=some b:=by
    rw [joinAt_get,h,Nat.zero_add]
    show some (pickB _ _ _ _ _ _)=some b
    unfold pickB
    rw [h1,h2]
    rfl
  rw [List.getElem?_append_left (List.getElem?_eq_some_iff.1 e).1]
  exact e
theorem try_ret {_sz:Nat}{H:Heap}{e:Int}{R:V→Heap→Prop}(hH:H[5]?=some (.arr 1 1 (fun _=>vi e))) (hR:R (vi e) H):DCalls Tryz.prog 175 [.ptr 1 5 0 0] H none fun H'=>∃ v,ResV Tryz.prog [(4,.ptr 1 5 0 0)] H' Tryz.f173.results v∧R v H' :=
  (Pn.do1_ret H _).mono fun _ h=>by subst h;exact ⟨vi e,.inl ⟨_,rfl,⟨_,1,5,0,0,1,_,ty rfl,rfl,hH,Nat.one_pos,rfl⟩⟩,hR⟩
theorem try_pan {H:Heap}{e:Int}{R:V→Heap→Prop}(hH:H[5]?=some (.arr 1 1 (fun _=>vi 0))) (hR:R (vi e) (H.set 5 (.arr 1 1 (fun _=>vi e)))):DCalls Tryz.prog 175 [.ptr 1 5 0 0] H (some (errV e)) fun H'=>∃ v,ResV Tryz.prog [(4,.ptr 1 5 0 0)] H' Tryz.f173.results v∧R v H' :=
  (Pn.do1_pan H 5 e 0 hH).mono fun H' h=>by subst h;exact ⟨vi e,.inl ⟨_,rfl,⟨_,1,5,0,0,1,_,ty rfl,rfl,set_get hH,Nat.one_pos,rfl⟩⟩,hR⟩
section
variable {a0 a1 a2 a3 X4 X5 X6:Blk}{F:Sto}{p:List (Int × Int)}
theorem joinWI:joinH [0,1,2,3] [] [a0,a1,a2,a3,X4,X5,X6] (WI F p)=[.arr 4 1 (fun _=>stoG 7 2 F),.dead,LB 2 Prt.enc F.prints,mapE vi p,X4,X5,X6,LB 5 Itm.enc F.items]:=by
  unfold WI
  rw [join4 (dc rfl),mapE_ren]
  rfl
theorem joinWP:joinH [0,1,2,3] [] [a0,a1,a2,a3,X4,X5,X6] (WP F p)=[.arr 4 1 (fun _=>stoG 1 7 F),LB 5 Itm.enc F.items,.dead,mapE vi p,X4,X5,X6,LB 2 Prt.enc F.prints]:=by
  unfold WP
  rw [join4 (dc rfl),mapE_ren]
  rfl
theorem joinST:joinH [0,1,2,3] [] [a0,a1,a2,a3,X4,X5,X6] (stoB 0 F p)=[.arr 4 1 (fun _=>stoV 0 F),LB 5 Itm.enc F.items,LB 2 Prt.enc F.prints,mapE vi p,X4,X5,X6]:=by
  rw [show stoB 0 F p=[.arr 4 1 (fun _=>stoV 0 F),LB 5 Itm.enc F.items,LB 2 Prt.enc F.prints,mapE vi p] from rfl,join4 (dc rfl),mapE_ren]
  rfl
theorem endWI:SubOf 4 1 [(0,vi 0)] [.arr 4 1 (fun _=>stoG 7 2 F),.dead,LB 2 Prt.enc F.prints,mapE vi p,X4,X5,X6,LB 5 Itm.enc F.items] [(0,vi 0)] (WI F p):=by
  unfold WI
  (exact zsc [some 0,some 1,some 2,some 3,some 7] [])
theorem endWP:SubOf 4 1 [(0,vi 0)] [.arr 4 1 (fun _=>stoG 1 7 F),LB 5 Itm.enc F.items,.dead,mapE vi p,X4,X5,X6,LB 2 Prt.enc F.prints] [(0,vi 0)] (WP F p):=by
  unfold WP
  (exact zsc [some 0,some 1,some 2,some 3,some 7] [])
theorem endST:SubOf 4 1 [(0,vi 0)] [.arr 4 1 (fun _=>stoV 0 F),LB 5 Itm.enc F.items,LB 2 Prt.enc F.prints,mapE vi p,X4,X5,X6] [(0,vi 0)] (stoB 0 F p):=by
  show SubOf 4 1 _ _ _ [.arr 4 1 (fun _=>stoV 0 F),LB 5 Itm.enc F.items,LB 2 Prt.enc F.prints,mapE vi p]
  (exact zsc [some 0,some 1,some 2,some 3] [])
end
section
variable {r:Option Nat}{m nt i d:Nat}{Q:Post}{env:Env}{ops:Array Oper}{L:List Stp}{ty:TypeId}{pos:String}{after:Array Edge}{ats:Array TypeId}{x y z:Operand}
theorem ar_act {s:Sto}{p:List (Int × Int)}{X4 X5 X6:Blk}{A:V}{f:FuncId}{E:Int}{Hn:Heap}(hfn:FnOk Tryz.prog f) (h:ACalls Tryz.prog f [.ptr 4 0 0 0,A] (stoB 0 s p) (fun v H=>E=0∧v=.tup []∧H=Hn) (fun v _=>E≠0∧v=errV E)) (hA:A.closed=true)
    (h1:E=0→AR Tryz.prog r m nt ops Q L ((d,.tup [])::env) (joinH [0,1,2,3] [] [.arr 4 1 (fun _=>stoV 0 s),LB 5 Itm.enc s.items,LB 2 Prt.enc s.prints,mapE vi p,X4,X5,X6] Hn))
    (h2:E≠0→∀ H1,Q (.panic (errV E)) [] (joinH [0,1,2,3] [] [.arr 4 1 (fun _=>stoV 0 s),LB 5 Itm.enc s.items,LB 2 Prt.enc s.prints,mapE vi p,X4,X5,X6] H1))
    (hz:eo env z=some (.fn (.func f) [] [])) (hx:eo env x=some (.ptr 4 0 0 0)) (hy:eo env y=some A) (hd:d<nt) :
    AR Tryz.prog r m nt ops Q (.l i ⟨some d,.call ⟨.value z,#[x,y],ats⟩,ty,pos,after,none⟩ false::L) env [.arr 4 1 (fun _=>stoV 0 s),LB 5 Itm.enc s.items,LB 2 Prt.enc s.prints,mapE vi p,X4,X5,X6]:=by
  refine ar_gcall (H0:=stoB 0 s p) [0,1,2,3] [] (args:=[x,y]) (vs:=[.ptr 4 0 0 0,A]) (first:=[]) (cap:=[]) hfn hz (by rw [List.mapM_cons,List.mapM_cons,List.mapM_nil,hx,hy];rfl) (xs:=[.ptr 4 0 0 0,A]) ⟨.ptr rfl,.closed hA,trivial⟩ rfl (by decide) (fun _ h=>by cases h) (hsub4 rfl rfl rfl rfl) stoB_live h hd ?_ ?_
  · rintro _ _ ⟨hh,rfl,rfl⟩
    exact h1 hh
  · rintro _ _ ⟨hh,rfl⟩
    exact h2 hh _
end
theorem do_end {s:Sto}{p:List (Int × Int)}{a:Deed}{H Hn:Heap}{E:Int}(h5:H[5]?=some (.arr 1 1 (fun _=>vi 0))) (hs:SubOf 4 1 [(0,vi 0)] H [(0,vi 0)] Hn) (h0:E=0) (hE:actE s a=E) (hH:actH s p a=Hn) :
    DCalls Tryz.prog 175 [.ptr 1 5 0 0] H none fun H'=>∃ v,ResV Tryz.prog [(4,.ptr 1 5 0 0)] H' Tryz.f173.results v∧∃ v' H'',SubOf 4 1 [(0,v)] H' [(0,v')] H''∧DoR s p a v' H'' :=
  try_ret (_sz:=1) h5 ⟨vi 0,Hn,hs,.inl ⟨by rw [hE,h0],rfl,hH.symm⟩⟩
theorem sub_dead {H:Heap}{e:Int}(h:4≤H.length):SubOf 4 1 [(0,vi e)] H [(0,vi e)] [.dead,.dead,.dead,.dead]:=by
  match H,h with
  | a::b::c::d::L,_=>(exact zsc [some 0,some 1,some 2,some 3] [])
theorem do_bad {s:Sto}{p:List (Int × Int)}{a:Deed}{H:Heap}{E:Int}(h5:H[5]?=some (.arr 1 1 (fun _=>vi 0))) (h0:E≠0) (hE:actE s a=E) :
    DCalls Tryz.prog 175 [.ptr 1 5 0 0] H (some (errV E)) fun H'=>∃ v,ResV Tryz.prog [(4,.ptr 1 5 0 0)] H' Tryz.f173.results v∧∃ v' H'',SubOf 4 1 [(0,v)] H' [(0,v')] H''∧DoR s p a v' H'' :=
  try_pan h5 ⟨vi E,_,sub_dead (by rw [List.length_set];exact (Nat.le_of_lt (by have:=(List.getElem?_eq_some_iff.1 h5).1;omega))),.inr ⟨by rw [hE];exact h0,by rw [hE],rfl⟩⟩
namespace Pn
theorem do1_p (s:Sto) (p:List (Int × Int)) (a:Deed) (hk:a.kind=1) (hV:Valid s) (_hP:PressOk s.items p):ACalls Tryz.prog 173 [.ptr 4 0 0 0,a.enc] (stoB 0 s p) (DoR s p a) NoP:=by
  have hn:=hV.1.2.1
  have hE:actE s a=engrE s:=by unfold actE;rw [hk];rfl
  have hF:actH s p a=WI (addS s newDie) p:=by unfold actH actF actP;rw [hk];rfl
  have hc:=engrave_p s p a hn
  refine acalls_sub (R:=fun v H'=>∃ v' H'',SubOf 4 1 [(0,v)] H' [(0,v')] H''∧DoR s p a v' H'') (Rp:=NoP) ?_ (fun _ _ h=>h) (fun _ _ h=>h.elim)
  refine acalls_of_try Tryz.func173 rfl Tryz.func175 rfl (by kernel_rfl) (dc rfl) (dc rfl) (by decide) ?_
  have ha:a.enc=.agg [vu8 1,vi a.item,vi a.dest,vi a.n]:=by unfold Deed.enc;rw [hk]
  rw [ha] at hc ⊢
  refine Go.Proofs.YtbilpbabdgfblaaGreat.aw_region ?_
  (repeat' (first|refine zq ?_|(refine zxl ?_;intro _ _ _)|(refine zxs ?_;intro _ _ _)|refine zbx ?_|refine zal ?_|refine zsvs ?_|refine zsva ?_|refine zses ?_|refine zsea ?_|refine zg ?_ ?_|refine zgu ?_|refine ar_nil ?_|refine aw_seq ?_|refine aw_skip ?_|refine aw_block ?_|refine aw_exit ?_|refine aw_region ?_|refine aw_drawn (id:=5) [(0,0),(1,0),(2,0),(3,0),(4,0),(5,0),(6,1)] mixed (by kernel_rfl) ?_|refine aw_drawn (id:=5) [(0,0),(1,0),(2,0),(3,0),(4,0),(5,0),(6,2)] mixed (by kernel_rfl) ?_|refine zco ?_ ?_|exact zd|(refine fun (hg:(_:Prop))=>?_;(try replace hg:=HG.out hg);(try dsimp only at hg);(try (have _h:True:=hg;clear _h hg)))))
  refine ⟨1,5,0,0,rfl,?_⟩
  refine aw_sub (m:=6) (env':=[(0,.ptr 4 0 0 0),(3,.ptr 4 4 0 0),(4,.ptr 1 5 0 0)]) (H':=[.arr 4 1 (fun _=>stoV 0 s),LB 5 Itm.enc s.items,LB 2 Prt.enc s.prints,mapE vi p,.arr 4 1 (fun _=>.agg [vu8 1,vi a.item,vi a.dest,vi a.n]),.arr 1 1 (fun _=>vi 0)]) ?_ ?_
  · (exact zsc [some 0,some 1,some 2,some 3,some 4,some 5] [])
  (repeat' (first|refine zq ?_|(refine zxl ?_;intro _ _ _)|(refine zxs ?_;intro _ _ _)|(refine zpv fn176 (doers_p) ?_)|refine ar_q (qs_funcIsNil (ty rfl) rfl rfl) (dc rfl) ?_|refine ar_q (qs_iaddr_aptr (j:=1) (ty rfl) rfl (ty rfl) rfl rfl rfl (dc rfl)) (dc rfl) ?_|((refine ar_act fn177 hc rfl ?_ ?_ rfl rfl rfl (dc rfl)<;>intro hrf))|refine zbx ?_|refine zal ?_|refine zsvs ?_|refine zsva ?_|refine zses ?_|refine zsea ?_|refine zg ?_ ?_|refine zgu ?_|refine ar_nil ?_|refine aw_seq ?_|refine aw_skip ?_|refine aw_block ?_|refine aw_exit ?_|refine aw_region ?_|refine aw_drawn (id:=5) [(0,0),(1,0),(2,0),(3,0),(4,0),(5,0),(6,2)] mixed (by kernel_rfl) ?_|refine aw_drawn (id:=5) [(0,0),(1,0),(2,0),(3,0),(4,0),(5,0),(6,1)] mixed (by kernel_rfl) ?_|refine zco ?_ ?_|exact zd|(refine fun (hg:(_:Prop))=>?_;(try replace hg:=HG.out hg);(try dsimp only at hg);(try (have _h:True:=hg;clear _h hg)))))
  · rw [joinWI]
    (repeat' (first|refine zq ?_|(refine zxl ?_;intro _ _ _)|(refine zxs ?_;intro _ _ _)|refine zbx ?_|refine zal ?_|refine zsvs ?_|refine zsva ?_|refine zses ?_|refine zsea ?_|refine zg ?_ ?_|refine zgu ?_|refine ar_nil ?_|refine aw_seq ?_|refine aw_skip ?_|refine aw_block ?_|refine aw_exit ?_|refine aw_region ?_|refine aw_drawn (id:=5) [(0,0),(1,0),(2,0),(3,0),(4,0),(5,0),(6,1)] mixed (by kernel_rfl) ?_|refine aw_drawn (id:=5) [(0,0),(1,0),(2,0),(3,0),(4,0),(5,0),(6,2)] mixed (by kernel_rfl) ?_|refine zco ?_ ?_|exact zd|(refine fun (hg:(_:Prop))=>?_;(try replace hg:=HG.out hg);(try dsimp only at hg);(try (have _h:True:=hg;clear _h hg)))))
    exact aw_ret (do_end rfl endWI hrf hE hF)
  · intro H1
    exact do_bad (join_out rfl rfl rfl) hrf hE
theorem do2_p (s:Sto) (p:List (Int × Int)) (a:Deed) (hk:a.kind=2) (hV:Valid s) (_hP:PressOk s.items p):ACalls Tryz.prog 173 [.ptr 4 0 0 0,a.enc] (stoB 0 s p) (DoR s p a) NoP:=by
  have hn:=hV.1.2.1
  have hE:actE s a=transE s a.item:=by unfold actE;rw [hk];rfl
  have hF:actH s p a=WI (transF s a.item) p:=by unfold actH actF actP;rw [hk];rfl
  have hc:=transfer_p s p a hV
  refine acalls_sub (R:=fun v H'=>∃ v' H'',SubOf 4 1 [(0,v)] H' [(0,v')] H''∧DoR s p a v' H'') (Rp:=NoP) ?_ (fun _ _ h=>h) (fun _ _ h=>h.elim)
  refine acalls_of_try Tryz.func173 rfl Tryz.func175 rfl (by kernel_rfl) (dc rfl) (dc rfl) (by decide) ?_
  have ha:a.enc=.agg [vu8 2,vi a.item,vi a.dest,vi a.n]:=by unfold Deed.enc;rw [hk]
  rw [ha] at hc ⊢
  refine Go.Proofs.YtbilpbabdgfblaaGreat.aw_region ?_
  (repeat' (first|refine zq ?_|(refine zxl ?_;intro _ _ _)|(refine zxs ?_;intro _ _ _)|refine zbx ?_|refine zal ?_|refine zsvs ?_|refine zsva ?_|refine zses ?_|refine zsea ?_|refine zg ?_ ?_|refine zgu ?_|refine ar_nil ?_|refine aw_seq ?_|refine aw_skip ?_|refine aw_block ?_|refine aw_exit ?_|refine aw_region ?_|refine aw_drawn (id:=5) [(0,0),(1,0),(2,0),(3,0),(4,0),(5,0),(6,1)] mixed (by kernel_rfl) ?_|refine aw_drawn (id:=5) [(0,0),(1,0),(2,0),(3,0),(4,0),(5,0),(6,2)] mixed (by kernel_rfl) ?_|refine zco ?_ ?_|exact zd|(refine fun (hg:(_:Prop))=>?_;(try replace hg:=HG.out hg);(try dsimp only at hg);(try (have _h:True:=hg;clear _h hg)))))
  refine ⟨1,5,0,0,rfl,?_⟩
  refine aw_sub (m:=6) (env':=[(0,.ptr 4 0 0 0),(3,.ptr 4 4 0 0),(4,.ptr 1 5 0 0)]) (H':=[.arr 4 1 (fun _=>stoV 0 s),LB 5 Itm.enc s.items,LB 2 Prt.enc s.prints,mapE vi p,.arr 4 1 (fun _=>.agg [vu8 2,vi a.item,vi a.dest,vi a.n]),.arr 1 1 (fun _=>vi 0)]) ?_ ?_
  · (exact zsc [some 0,some 1,some 2,some 3,some 4,some 5] [])
  (repeat' (first|refine zq ?_|(refine zxl ?_;intro _ _ _)|(refine zxs ?_;intro _ _ _)|(refine zpv fn176 (doers_p) ?_)|refine ar_q (qs_funcIsNil (ty rfl) rfl rfl) (dc rfl) ?_|refine ar_q (qs_iaddr_aptr (j:=2) (ty rfl) rfl (ty rfl) rfl rfl rfl (dc rfl)) (dc rfl) ?_|((refine ar_act fn178 hc rfl ?_ ?_ rfl rfl rfl (dc rfl)<;>intro hrf))|refine zbx ?_|refine zal ?_|refine zsvs ?_|refine zsva ?_|refine zses ?_|refine zsea ?_|refine zg ?_ ?_|refine zgu ?_|refine ar_nil ?_|refine aw_seq ?_|refine aw_skip ?_|refine aw_block ?_|refine aw_exit ?_|refine aw_region ?_|refine aw_drawn (id:=5) [(0,0),(1,0),(2,0),(3,0),(4,0),(5,0),(6,2)] mixed (by kernel_rfl) ?_|refine aw_drawn (id:=5) [(0,0),(1,0),(2,0),(3,0),(4,0),(5,0),(6,1)] mixed (by kernel_rfl) ?_|refine zco ?_ ?_|exact zd|(refine fun (hg:(_:Prop))=>?_;(try replace hg:=HG.out hg);(try dsimp only at hg);(try (have _h:True:=hg;clear _h hg)))))
  · rw [joinWI]
    (repeat' (first|refine zq ?_|(refine zxl ?_;intro _ _ _)|(refine zxs ?_;intro _ _ _)|refine zbx ?_|refine zal ?_|refine zsvs ?_|refine zsva ?_|refine zses ?_|refine zsea ?_|refine zg ?_ ?_|refine zgu ?_|refine ar_nil ?_|refine aw_seq ?_|refine aw_skip ?_|refine aw_block ?_|refine aw_exit ?_|refine aw_region ?_|refine aw_drawn (id:=5) [(0,0),(1,0),(2,0),(3,0),(4,0),(5,0),(6,1)] mixed (by kernel_rfl) ?_|refine aw_drawn (id:=5) [(0,0),(1,0),(2,0),(3,0),(4,0),(5,0),(6,2)] mixed (by kernel_rfl) ?_|refine zco ?_ ?_|exact zd|(refine fun (hg:(_:Prop))=>?_;(try replace hg:=HG.out hg);(try dsimp only at hg);(try (have _h:True:=hg;clear _h hg)))))
    exact aw_ret (do_end rfl endWI hrf hE hF)
  · intro H1
    exact do_bad (join_out rfl rfl rfl) hrf hE
theorem do3_p (s:Sto) (p:List (Int × Int)) (a:Deed) (hk:a.kind=3) (hV:Valid s) (hP:PressOk s.items p):ACalls Tryz.prog 173 [.ptr 4 0 0 0,a.enc] (stoB 0 s p) (DoR s p a) NoP:=by
  have hn:=hV.1.2.1
  have hE:actE s a=moveE s a.item a.dest:=by unfold actE;rw [hk];rfl
  have hF:actH s p a=stoB 0 (moveF s a.item a.dest) (moveP p (el s.items a.item.toNat) a.item a.dest):=by unfold actH actF actP;rw [hk];rfl
  have hc:=move_p s p a hV hP
  refine acalls_sub (R:=fun v H'=>∃ v' H'',SubOf 4 1 [(0,v)] H' [(0,v')] H''∧DoR s p a v' H'') (Rp:=NoP) ?_ (fun _ _ h=>h) (fun _ _ h=>h.elim)
  refine acalls_of_try Tryz.func173 rfl Tryz.func175 rfl (by kernel_rfl) (dc rfl) (dc rfl) (by decide) ?_
  have ha:a.enc=.agg [vu8 3,vi a.item,vi a.dest,vi a.n]:=by unfold Deed.enc;rw [hk]
  rw [ha] at hc ⊢
  refine Go.Proofs.YtbilpbabdgfblaaGreat.aw_region ?_
  (repeat' (first|refine zq ?_|(refine zxl ?_;intro _ _ _)|(refine zxs ?_;intro _ _ _)|refine zbx ?_|refine zal ?_|refine zsvs ?_|refine zsva ?_|refine zses ?_|refine zsea ?_|refine zg ?_ ?_|refine zgu ?_|refine ar_nil ?_|refine aw_seq ?_|refine aw_skip ?_|refine aw_block ?_|refine aw_exit ?_|refine aw_region ?_|refine aw_drawn (id:=5) [(0,0),(1,0),(2,0),(3,0),(4,0),(5,0),(6,1)] mixed (by kernel_rfl) ?_|refine aw_drawn (id:=5) [(0,0),(1,0),(2,0),(3,0),(4,0),(5,0),(6,2)] mixed (by kernel_rfl) ?_|refine zco ?_ ?_|exact zd|(refine fun (hg:(_:Prop))=>?_;(try replace hg:=HG.out hg);(try dsimp only at hg);(try (have _h:True:=hg;clear _h hg)))))
  refine ⟨1,5,0,0,rfl,?_⟩
  refine aw_sub (m:=6) (env':=[(0,.ptr 4 0 0 0),(3,.ptr 4 4 0 0),(4,.ptr 1 5 0 0)]) (H':=[.arr 4 1 (fun _=>stoV 0 s),LB 5 Itm.enc s.items,LB 2 Prt.enc s.prints,mapE vi p,.arr 4 1 (fun _=>.agg [vu8 3,vi a.item,vi a.dest,vi a.n]),.arr 1 1 (fun _=>vi 0)]) ?_ ?_
  · (exact zsc [some 0,some 1,some 2,some 3,some 4,some 5] [])
  (repeat' (first|refine zq ?_|(refine zxl ?_;intro _ _ _)|(refine zxs ?_;intro _ _ _)|(refine zpv fn176 (doers_p) ?_)|refine ar_q (qs_funcIsNil (ty rfl) rfl rfl) (dc rfl) ?_|refine ar_q (qs_iaddr_aptr (j:=3) (ty rfl) rfl (ty rfl) rfl rfl rfl (dc rfl)) (dc rfl) ?_|((refine ar_act fn179 hc rfl ?_ ?_ rfl rfl rfl (dc rfl)<;>intro hrf))|refine zbx ?_|refine zal ?_|refine zsvs ?_|refine zsva ?_|refine zses ?_|refine zsea ?_|refine zg ?_ ?_|refine zgu ?_|refine ar_nil ?_|refine aw_seq ?_|refine aw_skip ?_|refine aw_block ?_|refine aw_exit ?_|refine aw_region ?_|refine aw_drawn (id:=5) [(0,0),(1,0),(2,0),(3,0),(4,0),(5,0),(6,2)] mixed (by kernel_rfl) ?_|refine aw_drawn (id:=5) [(0,0),(1,0),(2,0),(3,0),(4,0),(5,0),(6,1)] mixed (by kernel_rfl) ?_|refine zco ?_ ?_|exact zd|(refine fun (hg:(_:Prop))=>?_;(try replace hg:=HG.out hg);(try dsimp only at hg);(try (have _h:True:=hg;clear _h hg)))))
  · rw [joinST]
    (repeat' (first|refine zq ?_|(refine zxl ?_;intro _ _ _)|(refine zxs ?_;intro _ _ _)|refine zbx ?_|refine zal ?_|refine zsvs ?_|refine zsva ?_|refine zses ?_|refine zsea ?_|refine zg ?_ ?_|refine zgu ?_|refine ar_nil ?_|refine aw_seq ?_|refine aw_skip ?_|refine aw_block ?_|refine aw_exit ?_|refine aw_region ?_|refine aw_drawn (id:=5) [(0,0),(1,0),(2,0),(3,0),(4,0),(5,0),(6,1)] mixed (by kernel_rfl) ?_|refine aw_drawn (id:=5) [(0,0),(1,0),(2,0),(3,0),(4,0),(5,0),(6,2)] mixed (by kernel_rfl) ?_|refine zco ?_ ?_|exact zd|(refine fun (hg:(_:Prop))=>?_;(try replace hg:=HG.out hg);(try dsimp only at hg);(try (have _h:True:=hg;clear _h hg)))))
    exact aw_ret (do_end rfl endST hrf hE hF)
  · intro H1
    exact do_bad (join_out rfl rfl rfl) hrf hE
theorem do4_p (s:Sto) (p:List (Int × Int)) (a:Deed) (hk:a.kind=4) (hV:Valid s) (_hP:PressOk s.items p):ACalls Tryz.prog 173 [.ptr 4 0 0 0,a.enc] (stoB 0 s p) (DoR s p a) NoP:=by
  have hn:=hV.1.2.1
  have hE:actE s a=printE s a.item a.n:=by unfold actE;rw [hk];rfl
  have hF:actH s p a=WP (printF s a.item a.n) p:=by unfold actH actF actP;rw [hk];rfl
  have hc:=print_p s p a hV
  refine acalls_sub (R:=fun v H'=>∃ v' H'',SubOf 4 1 [(0,v)] H' [(0,v')] H''∧DoR s p a v' H'') (Rp:=NoP) ?_ (fun _ _ h=>h) (fun _ _ h=>h.elim)
  refine acalls_of_try Tryz.func173 rfl Tryz.func175 rfl (by kernel_rfl) (dc rfl) (dc rfl) (by decide) ?_
  have ha:a.enc=.agg [vu8 4,vi a.item,vi a.dest,vi a.n]:=by unfold Deed.enc;rw [hk]
  rw [ha] at hc ⊢
  refine Go.Proofs.YtbilpbabdgfblaaGreat.aw_region ?_
  (repeat' (first|refine zq ?_|(refine zxl ?_;intro _ _ _)|(refine zxs ?_;intro _ _ _)|refine zbx ?_|refine zal ?_|refine zsvs ?_|refine zsva ?_|refine zses ?_|refine zsea ?_|refine zg ?_ ?_|refine zgu ?_|refine ar_nil ?_|refine aw_seq ?_|refine aw_skip ?_|refine aw_block ?_|refine aw_exit ?_|refine aw_region ?_|refine aw_drawn (id:=5) [(0,0),(1,0),(2,0),(3,0),(4,0),(5,0),(6,1)] mixed (by kernel_rfl) ?_|refine aw_drawn (id:=5) [(0,0),(1,0),(2,0),(3,0),(4,0),(5,0),(6,2)] mixed (by kernel_rfl) ?_|refine zco ?_ ?_|exact zd|(refine fun (hg:(_:Prop))=>?_;(try replace hg:=HG.out hg);(try dsimp only at hg);(try (have _h:True:=hg;clear _h hg)))))
  refine ⟨1,5,0,0,rfl,?_⟩
  refine aw_sub (m:=6) (env':=[(0,.ptr 4 0 0 0),(3,.ptr 4 4 0 0),(4,.ptr 1 5 0 0)]) (H':=[.arr 4 1 (fun _=>stoV 0 s),LB 5 Itm.enc s.items,LB 2 Prt.enc s.prints,mapE vi p,.arr 4 1 (fun _=>.agg [vu8 4,vi a.item,vi a.dest,vi a.n]),.arr 1 1 (fun _=>vi 0)]) ?_ ?_
  · (exact zsc [some 0,some 1,some 2,some 3,some 4,some 5] [])
  (repeat' (first|refine zq ?_|(refine zxl ?_;intro _ _ _)|(refine zxs ?_;intro _ _ _)|(refine zpv fn176 (doers_p) ?_)|refine ar_q (qs_funcIsNil (ty rfl) rfl rfl) (dc rfl) ?_|refine ar_q (qs_iaddr_aptr (j:=4) (ty rfl) rfl (ty rfl) rfl rfl rfl (dc rfl)) (dc rfl) ?_|((refine ar_act fn180 hc rfl ?_ ?_ rfl rfl rfl (dc rfl)<;>intro hrf))|refine zbx ?_|refine zal ?_|refine zsvs ?_|refine zsva ?_|refine zses ?_|refine zsea ?_|refine zg ?_ ?_|refine zgu ?_|refine ar_nil ?_|refine aw_seq ?_|refine aw_skip ?_|refine aw_block ?_|refine aw_exit ?_|refine aw_region ?_|refine aw_drawn (id:=5) [(0,0),(1,0),(2,0),(3,0),(4,0),(5,0),(6,2)] mixed (by kernel_rfl) ?_|refine aw_drawn (id:=5) [(0,0),(1,0),(2,0),(3,0),(4,0),(5,0),(6,1)] mixed (by kernel_rfl) ?_|refine zco ?_ ?_|exact zd|(refine fun (hg:(_:Prop))=>?_;(try replace hg:=HG.out hg);(try dsimp only at hg);(try (have _h:True:=hg;clear _h hg)))))
  · rw [joinWP]
    (repeat' (first|refine zq ?_|(refine zxl ?_;intro _ _ _)|(refine zxs ?_;intro _ _ _)|refine zbx ?_|refine zal ?_|refine zsvs ?_|refine zsva ?_|refine zses ?_|refine zsea ?_|refine zg ?_ ?_|refine zgu ?_|refine ar_nil ?_|refine aw_seq ?_|refine aw_skip ?_|refine aw_block ?_|refine aw_exit ?_|refine aw_region ?_|refine aw_drawn (id:=5) [(0,0),(1,0),(2,0),(3,0),(4,0),(5,0),(6,1)] mixed (by kernel_rfl) ?_|refine aw_drawn (id:=5) [(0,0),(1,0),(2,0),(3,0),(4,0),(5,0),(6,2)] mixed (by kernel_rfl) ?_|refine zco ?_ ?_|exact zd|(refine fun (hg:(_:Prop))=>?_;(try replace hg:=HG.out hg);(try dsimp only at hg);(try (have _h:True:=hg;clear _h hg)))))
    exact aw_ret (do_end rfl endWP hrf hE hF)
  · intro H1
    exact do_bad (join_out rfl rfl rfl) hrf hE
theorem do5_p (s:Sto) (p:List (Int × Int)) (a:Deed) (hk:a.kind=5) (hV:Valid s) (_hP:PressOk s.items p):ACalls Tryz.prog 173 [.ptr 4 0 0 0,a.enc] (stoB 0 s p) (DoR s p a) NoP:=by
  have hn:=hV.1.2.1
  have hE:actE s a=spendE s a.item a.n:=by unfold actE;rw [hk];rfl
  have hF:actH s p a=stoB 0 (spendF s a.item a.n 1) p:=by unfold actH actF actP;rw [hk];rfl
  have hc:=issue_p s p a hV
  refine acalls_sub (R:=fun v H'=>∃ v' H'',SubOf 4 1 [(0,v)] H' [(0,v')] H''∧DoR s p a v' H'') (Rp:=NoP) ?_ (fun _ _ h=>h) (fun _ _ h=>h.elim)
  refine acalls_of_try Tryz.func173 rfl Tryz.func175 rfl (by kernel_rfl) (dc rfl) (dc rfl) (by decide) ?_
  have ha:a.enc=.agg [vu8 5,vi a.item,vi a.dest,vi a.n]:=by unfold Deed.enc;rw [hk]
  rw [ha] at hc ⊢
  refine Go.Proofs.YtbilpbabdgfblaaGreat.aw_region ?_
  (repeat' (first|refine zq ?_|(refine zxl ?_;intro _ _ _)|(refine zxs ?_;intro _ _ _)|refine zbx ?_|refine zal ?_|refine zsvs ?_|refine zsva ?_|refine zses ?_|refine zsea ?_|refine zg ?_ ?_|refine zgu ?_|refine ar_nil ?_|refine aw_seq ?_|refine aw_skip ?_|refine aw_block ?_|refine aw_exit ?_|refine aw_region ?_|refine aw_drawn (id:=5) [(0,0),(1,0),(2,0),(3,0),(4,0),(5,0),(6,1)] mixed (by kernel_rfl) ?_|refine aw_drawn (id:=5) [(0,0),(1,0),(2,0),(3,0),(4,0),(5,0),(6,2)] mixed (by kernel_rfl) ?_|refine zco ?_ ?_|exact zd|(refine fun (hg:(_:Prop))=>?_;(try replace hg:=HG.out hg);(try dsimp only at hg);(try (have _h:True:=hg;clear _h hg)))))
  refine ⟨1,5,0,0,rfl,?_⟩
  refine aw_sub (m:=6) (env':=[(0,.ptr 4 0 0 0),(3,.ptr 4 4 0 0),(4,.ptr 1 5 0 0)]) (H':=[.arr 4 1 (fun _=>stoV 0 s),LB 5 Itm.enc s.items,LB 2 Prt.enc s.prints,mapE vi p,.arr 4 1 (fun _=>.agg [vu8 5,vi a.item,vi a.dest,vi a.n]),.arr 1 1 (fun _=>vi 0)]) ?_ ?_
  · (exact zsc [some 0,some 1,some 2,some 3,some 4,some 5] [])
  (repeat' (first|refine zq ?_|(refine zxl ?_;intro _ _ _)|(refine zxs ?_;intro _ _ _)|(refine zpv fn176 (doers_p) ?_)|refine ar_q (qs_funcIsNil (ty rfl) rfl rfl) (dc rfl) ?_|refine ar_q (qs_iaddr_aptr (j:=5) (ty rfl) rfl (ty rfl) rfl rfl rfl (dc rfl)) (dc rfl) ?_|((refine ar_act fn181 hc rfl ?_ ?_ rfl rfl rfl (dc rfl)<;>intro hrf))|refine zbx ?_|refine zal ?_|refine zsvs ?_|refine zsva ?_|refine zses ?_|refine zsea ?_|refine zg ?_ ?_|refine zgu ?_|refine ar_nil ?_|refine aw_seq ?_|refine aw_skip ?_|refine aw_block ?_|refine aw_exit ?_|refine aw_region ?_|refine aw_drawn (id:=5) [(0,0),(1,0),(2,0),(3,0),(4,0),(5,0),(6,2)] mixed (by kernel_rfl) ?_|refine aw_drawn (id:=5) [(0,0),(1,0),(2,0),(3,0),(4,0),(5,0),(6,1)] mixed (by kernel_rfl) ?_|refine zco ?_ ?_|exact zd|(refine fun (hg:(_:Prop))=>?_;(try replace hg:=HG.out hg);(try dsimp only at hg);(try (have _h:True:=hg;clear _h hg)))))
  · rw [joinST]
    (repeat' (first|refine zq ?_|(refine zxl ?_;intro _ _ _)|(refine zxs ?_;intro _ _ _)|refine zbx ?_|refine zal ?_|refine zsvs ?_|refine zsva ?_|refine zses ?_|refine zsea ?_|refine zg ?_ ?_|refine zgu ?_|refine ar_nil ?_|refine aw_seq ?_|refine aw_skip ?_|refine aw_block ?_|refine aw_exit ?_|refine aw_region ?_|refine aw_drawn (id:=5) [(0,0),(1,0),(2,0),(3,0),(4,0),(5,0),(6,1)] mixed (by kernel_rfl) ?_|refine aw_drawn (id:=5) [(0,0),(1,0),(2,0),(3,0),(4,0),(5,0),(6,2)] mixed (by kernel_rfl) ?_|refine zco ?_ ?_|exact zd|(refine fun (hg:(_:Prop))=>?_;(try replace hg:=HG.out hg);(try dsimp only at hg);(try (have _h:True:=hg;clear _h hg)))))
    exact aw_ret (do_end rfl endST hrf hE hF)
  · intro H1
    exact do_bad (join_out rfl rfl rfl) hrf hE
theorem do6_p (s:Sto) (p:List (Int × Int)) (a:Deed) (hk:a.kind=6) (hV:Valid s) (_hP:PressOk s.items p):ACalls Tryz.prog 173 [.ptr 4 0 0 0,a.enc] (stoB 0 s p) (DoR s p a) NoP:=by
  have hn:=hV.1.2.1
  have hE:actE s a=spendE s a.item a.n:=by unfold actE;rw [hk];rfl
  have hF:actH s p a=stoB 0 (spendF s a.item a.n 2) p:=by unfold actH actF actP;rw [hk];rfl
  have hc:=spoil_p s p a hV
  refine acalls_sub (R:=fun v H'=>∃ v' H'',SubOf 4 1 [(0,v)] H' [(0,v')] H''∧DoR s p a v' H'') (Rp:=NoP) ?_ (fun _ _ h=>h) (fun _ _ h=>h.elim)
  refine acalls_of_try Tryz.func173 rfl Tryz.func175 rfl (by kernel_rfl) (dc rfl) (dc rfl) (by decide) ?_
  have ha:a.enc=.agg [vu8 6,vi a.item,vi a.dest,vi a.n]:=by unfold Deed.enc;rw [hk]
  rw [ha] at hc ⊢
  refine Go.Proofs.YtbilpbabdgfblaaGreat.aw_region ?_
  (repeat' (first|refine zq ?_|(refine zxl ?_;intro _ _ _)|(refine zxs ?_;intro _ _ _)|refine zbx ?_|refine zal ?_|refine zsvs ?_|refine zsva ?_|refine zses ?_|refine zsea ?_|refine zg ?_ ?_|refine zgu ?_|refine ar_nil ?_|refine aw_seq ?_|refine aw_skip ?_|refine aw_block ?_|refine aw_exit ?_|refine aw_region ?_|refine aw_drawn (id:=5) [(0,0),(1,0),(2,0),(3,0),(4,0),(5,0),(6,1)] mixed (by kernel_rfl) ?_|refine aw_drawn (id:=5) [(0,0),(1,0),(2,0),(3,0),(4,0),(5,0),(6,2)] mixed (by kernel_rfl) ?_|refine zco ?_ ?_|exact zd|(refine fun (hg:(_:Prop))=>?_;(try replace hg:=HG.out hg);(try dsimp only at hg);(try (have _h:True:=hg;clear _h hg)))))
  refine ⟨1,5,0,0,rfl,?_⟩
  refine aw_sub (m:=6) (env':=[(0,.ptr 4 0 0 0),(3,.ptr 4 4 0 0),(4,.ptr 1 5 0 0)]) (H':=[.arr 4 1 (fun _=>stoV 0 s),LB 5 Itm.enc s.items,LB 2 Prt.enc s.prints,mapE vi p,.arr 4 1 (fun _=>.agg [vu8 6,vi a.item,vi a.dest,vi a.n]),.arr 1 1 (fun _=>vi 0)]) ?_ ?_
  · (exact zsc [some 0,some 1,some 2,some 3,some 4,some 5] [])
  (repeat' (first|refine zq ?_|(refine zxl ?_;intro _ _ _)|(refine zxs ?_;intro _ _ _)|(refine zpv fn176 (doers_p) ?_)|refine ar_q (qs_funcIsNil (ty rfl) rfl rfl) (dc rfl) ?_|refine ar_q (qs_iaddr_aptr (j:=6) (ty rfl) rfl (ty rfl) rfl rfl rfl (dc rfl)) (dc rfl) ?_|((refine ar_act fn182 hc rfl ?_ ?_ rfl rfl rfl (dc rfl)<;>intro hrf))|refine zbx ?_|refine zal ?_|refine zsvs ?_|refine zsva ?_|refine zses ?_|refine zsea ?_|refine zg ?_ ?_|refine zgu ?_|refine ar_nil ?_|refine aw_seq ?_|refine aw_skip ?_|refine aw_block ?_|refine aw_exit ?_|refine aw_region ?_|refine aw_drawn (id:=5) [(0,0),(1,0),(2,0),(3,0),(4,0),(5,0),(6,2)] mixed (by kernel_rfl) ?_|refine aw_drawn (id:=5) [(0,0),(1,0),(2,0),(3,0),(4,0),(5,0),(6,1)] mixed (by kernel_rfl) ?_|refine zco ?_ ?_|exact zd|(refine fun (hg:(_:Prop))=>?_;(try replace hg:=HG.out hg);(try dsimp only at hg);(try (have _h:True:=hg;clear _h hg)))))
  · rw [joinST]
    (repeat' (first|refine zq ?_|(refine zxl ?_;intro _ _ _)|(refine zxs ?_;intro _ _ _)|refine zbx ?_|refine zal ?_|refine zsvs ?_|refine zsva ?_|refine zses ?_|refine zsea ?_|refine zg ?_ ?_|refine zgu ?_|refine ar_nil ?_|refine aw_seq ?_|refine aw_skip ?_|refine aw_block ?_|refine aw_exit ?_|refine aw_region ?_|refine aw_drawn (id:=5) [(0,0),(1,0),(2,0),(3,0),(4,0),(5,0),(6,1)] mixed (by kernel_rfl) ?_|refine aw_drawn (id:=5) [(0,0),(1,0),(2,0),(3,0),(4,0),(5,0),(6,2)] mixed (by kernel_rfl) ?_|refine zco ?_ ?_|exact zd|(refine fun (hg:(_:Prop))=>?_;(try replace hg:=HG.out hg);(try dsimp only at hg);(try (have _h:True:=hg;clear _h hg)))))
    exact aw_ret (do_end rfl endST hrf hE hF)
  · intro H1
    exact do_bad (join_out rfl rfl rfl) hrf hE
theorem do7_p (s:Sto) (p:List (Int × Int)) (a:Deed) (hk:a.kind=7) (hV:Valid s) (_hP:PressOk s.items p):ACalls Tryz.prog 173 [.ptr 4 0 0 0,a.enc] (stoB 0 s p) (DoR s p a) NoP:=by
  have hn:=hV.1.2.1
  have hE:actE s a=destE s a.item:=by unfold actE;rw [hk];rfl
  have hF:actH s p a=stoB 0 (destF s a.item) p:=by unfold actH actF actP;rw [hk];rfl
  have hc:=destroy_p s p a hn
  refine acalls_sub (R:=fun v H'=>∃ v' H'',SubOf 4 1 [(0,v)] H' [(0,v')] H''∧DoR s p a v' H'') (Rp:=NoP) ?_ (fun _ _ h=>h) (fun _ _ h=>h.elim)
  refine acalls_of_try Tryz.func173 rfl Tryz.func175 rfl (by kernel_rfl) (dc rfl) (dc rfl) (by decide) ?_
  have ha:a.enc=.agg [vu8 7,vi a.item,vi a.dest,vi a.n]:=by unfold Deed.enc;rw [hk]
  rw [ha] at hc ⊢
  refine Go.Proofs.YtbilpbabdgfblaaGreat.aw_region ?_
  (repeat' (first|refine zq ?_|(refine zxl ?_;intro _ _ _)|(refine zxs ?_;intro _ _ _)|refine zbx ?_|refine zal ?_|refine zsvs ?_|refine zsva ?_|refine zses ?_|refine zsea ?_|refine zg ?_ ?_|refine zgu ?_|refine ar_nil ?_|refine aw_seq ?_|refine aw_skip ?_|refine aw_block ?_|refine aw_exit ?_|refine aw_region ?_|refine aw_drawn (id:=5) [(0,0),(1,0),(2,0),(3,0),(4,0),(5,0),(6,1)] mixed (by kernel_rfl) ?_|refine aw_drawn (id:=5) [(0,0),(1,0),(2,0),(3,0),(4,0),(5,0),(6,2)] mixed (by kernel_rfl) ?_|refine zco ?_ ?_|exact zd|(refine fun (hg:(_:Prop))=>?_;(try replace hg:=HG.out hg);(try dsimp only at hg);(try (have _h:True:=hg;clear _h hg)))))
  refine ⟨1,5,0,0,rfl,?_⟩
  refine aw_sub (m:=6) (env':=[(0,.ptr 4 0 0 0),(3,.ptr 4 4 0 0),(4,.ptr 1 5 0 0)]) (H':=[.arr 4 1 (fun _=>stoV 0 s),LB 5 Itm.enc s.items,LB 2 Prt.enc s.prints,mapE vi p,.arr 4 1 (fun _=>.agg [vu8 7,vi a.item,vi a.dest,vi a.n]),.arr 1 1 (fun _=>vi 0)]) ?_ ?_
  · (exact zsc [some 0,some 1,some 2,some 3,some 4,some 5] [])
  (repeat' (first|refine zq ?_|(refine zxl ?_;intro _ _ _)|(refine zxs ?_;intro _ _ _)|(refine zpv fn176 (doers_p) ?_)|refine ar_q (qs_funcIsNil (ty rfl) rfl rfl) (dc rfl) ?_|refine ar_q (qs_iaddr_aptr (j:=7) (ty rfl) rfl (ty rfl) rfl rfl rfl (dc rfl)) (dc rfl) ?_|((refine ar_act fn183 hc rfl ?_ ?_ rfl rfl rfl (dc rfl)<;>intro hrf))|refine zbx ?_|refine zal ?_|refine zsvs ?_|refine zsva ?_|refine zses ?_|refine zsea ?_|refine zg ?_ ?_|refine zgu ?_|refine ar_nil ?_|refine aw_seq ?_|refine aw_skip ?_|refine aw_block ?_|refine aw_exit ?_|refine aw_region ?_|refine aw_drawn (id:=5) [(0,0),(1,0),(2,0),(3,0),(4,0),(5,0),(6,2)] mixed (by kernel_rfl) ?_|refine aw_drawn (id:=5) [(0,0),(1,0),(2,0),(3,0),(4,0),(5,0),(6,1)] mixed (by kernel_rfl) ?_|refine zco ?_ ?_|exact zd|(refine fun (hg:(_:Prop))=>?_;(try replace hg:=HG.out hg);(try dsimp only at hg);(try (have _h:True:=hg;clear _h hg)))))
  · rw [joinST]
    (repeat' (first|refine zq ?_|(refine zxl ?_;intro _ _ _)|(refine zxs ?_;intro _ _ _)|refine zbx ?_|refine zal ?_|refine zsvs ?_|refine zsva ?_|refine zses ?_|refine zsea ?_|refine zg ?_ ?_|refine zgu ?_|refine ar_nil ?_|refine aw_seq ?_|refine aw_skip ?_|refine aw_block ?_|refine aw_exit ?_|refine aw_region ?_|refine aw_drawn (id:=5) [(0,0),(1,0),(2,0),(3,0),(4,0),(5,0),(6,1)] mixed (by kernel_rfl) ?_|refine aw_drawn (id:=5) [(0,0),(1,0),(2,0),(3,0),(4,0),(5,0),(6,2)] mixed (by kernel_rfl) ?_|refine zco ?_ ?_|exact zd|(refine fun (hg:(_:Prop))=>?_;(try replace hg:=HG.out hg);(try dsimp only at hg);(try (have _h:True:=hg;clear _h hg)))))
    exact aw_ret (do_end rfl endST hrf hE hF)
  · intro H1
    exact do_bad (join_out rfl rfl rfl) hrf hE
theorem do_two {s:Sto}{p:List (Int × Int)}{a:Deed}{H:Heap}(h5:H[5]?=some (.arr 1 1 (fun _=>vi 2))) (hE:actE s a=2) :
    DCalls Tryz.prog 175 [.ptr 1 5 0 0] H none fun H'=>∃ v,ResV Tryz.prog [(4,.ptr 1 5 0 0)] H' Tryz.f173.results v∧∃ v' H'',SubOf 4 1 [(0,v)] H' [(0,v')] H''∧DoR s p a v' H'' :=
  try_ret (_sz:=1) h5 ⟨vi 2,_,sub_dead (Nat.le_of_lt (by have:=(List.getElem?_eq_some_iff.1 h5).1;omega)),.inr ⟨by rw [hE];decide,by rw [hE],rfl⟩⟩
theorem do0_p (s:Sto) (p:List (Int × Int)) (a:Deed) (hk:a.kind=0):ACalls Tryz.prog 173 [.ptr 4 0 0 0,a.enc] (stoB 0 s p) (DoR s p a) NoP:=by
  have hE:actE s a=2:=by unfold actE;rw [hk];rfl
  refine acalls_sub (R:=fun v H'=>∃ v' H'',SubOf 4 1 [(0,v)] H' [(0,v')] H''∧DoR s p a v' H'') (Rp:=NoP) ?_ (fun _ _ h=>h) (fun _ _ h=>h.elim)
  refine acalls_of_try Tryz.func173 rfl Tryz.func175 rfl (by kernel_rfl) (dc rfl) (dc rfl) (by decide) ?_
  have ha:a.enc=.agg [vu8 0,vi a.item,vi a.dest,vi a.n]:=by unfold Deed.enc;rw [hk]
  rw [ha]
  refine Go.Proofs.YtbilpbabdgfblaaGreat.aw_region ?_
  (repeat' (first|refine zq ?_|(refine zxl ?_;intro _ _ _)|(refine zxs ?_;intro _ _ _)|refine zbx ?_|refine zal ?_|refine zsvs ?_|refine zsva ?_|refine zses ?_|refine zsea ?_|refine zg ?_ ?_|refine zgu ?_|refine ar_nil ?_|refine aw_seq ?_|refine aw_skip ?_|refine aw_block ?_|refine aw_exit ?_|refine aw_region ?_|refine aw_drawn (id:=5) [(0,0),(1,0),(2,0),(3,0),(4,0),(5,0),(6,1)] mixed (by kernel_rfl) ?_|refine aw_drawn (id:=5) [(0,0),(1,0),(2,0),(3,0),(4,0),(5,0),(6,2)] mixed (by kernel_rfl) ?_|refine zco ?_ ?_|exact zd|(refine fun (hg:(_:Prop))=>?_;(try replace hg:=HG.out hg);(try dsimp only at hg);(try (have _h:True:=hg;clear _h hg)))))
  refine ⟨1,5,0,0,rfl,?_⟩
  refine aw_sub (m:=6) (env':=[(0,.ptr 4 0 0 0),(3,.ptr 4 4 0 0),(4,.ptr 1 5 0 0)]) (H':=[.arr 4 1 (fun _=>stoV 0 s),LB 5 Itm.enc s.items,LB 2 Prt.enc s.prints,mapE vi p,.arr 4 1 (fun _=>.agg [vu8 0,vi a.item,vi a.dest,vi a.n]),.arr 1 1 (fun _=>vi 0)]) ?_ ?_
  · (exact zsc [some 0,some 1,some 2,some 3,some 4,some 5] [])
  (repeat' (first|refine zq ?_|(refine zxl ?_;intro _ _ _)|(refine zxs ?_;intro _ _ _)|(refine zpv fn176 (doers_p) ?_)|refine ar_q (qs_nilFuncIsNil (ty rfl) rfl rfl) (dc rfl) ?_|refine ar_q (qs_iaddr_aptr (j:=0) (ty rfl) rfl (ty rfl) rfl rfl rfl (dc rfl)) (dc rfl) ?_|refine zbx ?_|refine zal ?_|refine zsvs ?_|refine zsva ?_|refine zses ?_|refine zsea ?_|refine zg ?_ ?_|refine zgu ?_|refine ar_nil ?_|refine aw_seq ?_|refine aw_skip ?_|refine aw_block ?_|refine aw_exit ?_|refine aw_region ?_|refine aw_drawn (id:=5) [(0,0),(1,0),(2,0),(3,0),(4,0),(5,0),(6,2)] mixed (by kernel_rfl) ?_|refine aw_drawn (id:=5) [(0,0),(1,0),(2,0),(3,0),(4,0),(5,0),(6,1)] mixed (by kernel_rfl) ?_|refine zco ?_ ?_|exact zd|(refine fun (hg:(_:Prop))=>?_;(try replace hg:=HG.out hg);(try dsimp only at hg);(try (have _h:True:=hg;clear _h hg)))))
  all_goals exact aw_ret (do_two rfl hE)
theorem do8_p (s:Sto) (p:List (Int × Int)) (a:Deed) (hk:8≤a.kind) (hu:a.kind≤255):ACalls Tryz.prog 173 [.ptr 4 0 0 0,a.enc] (stoB 0 s p) (DoR s p a) NoP:=by
  have hE:actE s a=2:=by
    unfold actE
    rw [if_neg (by omega),if_neg (by omega),if_neg (by omega),if_neg (by omega),if_neg (by omega),if_neg (by omega),if_neg (by omega)]
  refine acalls_sub (R:=fun v H'=>∃ v' H'',SubOf 4 1 [(0,v)] H' [(0,v')] H''∧DoR s p a v' H'') (Rp:=NoP) ?_ (fun _ _ h=>h) (fun _ _ h=>h.elim)
  refine acalls_of_try Tryz.func173 rfl Tryz.func175 rfl (by kernel_rfl) (dc rfl) (dc rfl) (by decide) ?_
  refine Go.Proofs.YtbilpbabdgfblaaGreat.aw_region ?_
  (repeat' (first|refine zq ?_|(refine zxl ?_;intro _ _ _)|(refine zxs ?_;intro _ _ _)|refine zbx ?_|refine zal ?_|refine zsvs ?_|refine zsva ?_|refine zses ?_|refine zsea ?_|refine zg ?_ ?_|refine zgu ?_|refine ar_nil ?_|refine aw_seq ?_|refine aw_skip ?_|refine aw_block ?_|refine aw_exit ?_|refine aw_region ?_|refine aw_drawn (id:=5) [(0,0),(1,0),(2,0),(3,0),(4,0),(5,0),(6,1)] mixed (by kernel_rfl) ?_|refine aw_drawn (id:=5) [(0,0),(1,0),(2,0),(3,0),(4,0),(5,0),(6,2)] mixed (by kernel_rfl) ?_|refine zco ?_ ?_|exact zd|(refine fun (hg:(_:Prop))=>?_;(try replace hg:=HG.out hg);(try dsimp only at hg);(try (have _h:True:=hg;clear _h hg)))))
  refine ⟨1,5,0,0,rfl,?_⟩
  refine aw_sub (m:=6) (env':=[(0,.ptr 4 0 0 0),(3,.ptr 4 4 0 0),(4,.ptr 1 5 0 0)]) (H':=[.arr 4 1 (fun _=>stoV 0 s),LB 5 Itm.enc s.items,LB 2 Prt.enc s.prints,mapE vi p,.arr 4 1 (fun _=>.agg [vu8 a.kind,vi a.item,vi a.dest,vi a.n]),.arr 1 1 (fun _=>vi 0)]) ?_ ?_
  · (exact zsc [some 0,some 1,some 2,some 3,some 4,some 5] [])
  (repeat' (first|refine zq ?_|(refine zxl ?_;intro _ _ _)|(refine zxs ?_;intro _ _ _)|(refine zpv fn176 (doers_p) ?_)|refine zbx ?_|refine zal ?_|refine zsvs ?_|refine zsva ?_|refine zses ?_|refine zsea ?_|refine zg ?_ ?_|refine zgu ?_|refine ar_nil ?_|refine aw_seq ?_|refine aw_skip ?_|refine aw_block ?_|refine aw_exit ?_|refine aw_region ?_|refine aw_drawn (id:=5) [(0,0),(1,0),(2,0),(3,0),(4,0),(5,0),(6,2)] mixed (by kernel_rfl) ?_|refine aw_drawn (id:=5) [(0,0),(1,0),(2,0),(3,0),(4,0),(5,0),(6,1)] mixed (by kernel_rfl) ?_|refine zco ?_ ?_|exact zd|(refine fun (hg:(_:Prop))=>?_;(try replace hg:=HG.out hg);(try dsimp only at hg);(try (have _h:True:=hg;clear _h hg)))))
  all_goals exact aw_ret (do_two rfl hE)
end Pn
theorem do_p (s:Sto) (p:List (Int × Int)) (a:Deed) (hu:u8ok a.kind) (hV:Valid s) (hP:PressOk s.items p):ACalls Tryz.prog 173 [.ptr 4 0 0 0,a.enc] (stoB 0 s p) (DoR s p a) NoP:=by
  have h:a.kind=0∨a.kind=1∨a.kind=2∨a.kind=3∨a.kind=4∨a.kind=5∨a.kind=6∨a.kind=7∨8≤a.kind:=by unfold u8ok at hu;omega
  rcases h with h|h|h|h|h|h|h|h|h
  · exact Pn.do0_p s p a h
  · exact Pn.do1_p s p a h hV hP
  · exact Pn.do2_p s p a h hV hP
  · exact Pn.do3_p s p a h hV hP
  · exact Pn.do4_p s p a h hV hP
  · exact Pn.do5_p s p a h hV hP
  · exact Pn.do6_p s p a h hV hP
  · exact Pn.do7_p s p a h hV hP
  · exact Pn.do8_p s p a h hu.2
theorem bq2c {P:Program}{env:Env}{H:Heap}{R Rp:V→Heap→Prop}{a t2:Nat}{v v2:V}{T:TypeId}{d:TyD}{sz b i off n:Nat}{f:Nat→V}(hT:TyIs P T d) (ha:look env a=some (.ptr sz b i off)) (hH:H[b]?=some (.arr sz n f)) (hi:i<n) (hv:partV d.tk.agg (f i).cells off d.size=some v)
    (h2:look env t2=some v2) (hR:R (.tup [v,v2]) H):BodyQ P #[.cell a T,.tmp t2] R Rp .ret env H :=
  ⟨_,.inr (.inr (.inl ⟨_,_,_,_,rfl,⟨d,sz,b,i,off,n,f,hT,ha,hH,hi,hv⟩,h2,rfl⟩)),hR⟩
def noSto:Sto:=⟨0,[],[]⟩
open Classical in
noncomputable def doE (s:Sto) (a:Deed):Int:=if Valid s then actE s a else 80
open Classical in
noncomputable def doF (s:Sto) (a:Deed):Sto:=if doE s a=0 then actF s a else noSto
theorem pressOk_of {s:Sto}(h:Valid s):PressOk s.items (pressTo s.items s.items.length):=press_ok h.2.2.1
section
variable {a0 a1 a2 a3 a4 a5 a6:Blk}{F:Sto}{p:List (Int × Int)}
theorem joinWI3:joinH [3,4,5,6] [] [a0,a1,a2,a3,a4,a5,a6] (WI F p)=[a0,a1,a2,.arr 4 1 (fun _=>.agg [vi F.life,.sl 5 7 0 F.items.length,.sl 2 5 0 F.prints.length,.map 6]),.dead,LB 2 Prt.enc F.prints,mapE vi p,LB 5 Itm.enc F.items] :=
  (show _=[a0,a1,a2,.arr 4 1 (fun _=>.agg [vi F.life,.sl 5 7 0 F.items.length,.sl 2 5 0 F.prints.length,.map 6]),.dead,LB 2 Prt.enc F.prints,(mapE vi p).ren (rn [3,4,5,6] 7),LB 5 Itm.enc F.items] from rfl).trans (by rw [mapE_ren])
theorem joinWP3:joinH [3,4,5,6] [] [a0,a1,a2,a3,a4,a5,a6] (WP F p)=[a0,a1,a2,.arr 4 1 (fun _=>.agg [vi F.life,.sl 5 4 0 F.items.length,.sl 2 7 0 F.prints.length,.map 6]),LB 5 Itm.enc F.items,.dead,mapE vi p,LB 2 Prt.enc F.prints] :=
  (show _=[a0,a1,a2,.arr 4 1 (fun _=>.agg [vi F.life,.sl 5 4 0 F.items.length,.sl 2 7 0 F.prints.length,.map 6]),LB 5 Itm.enc F.items,.dead,(mapE vi p).ren (rn [3,4,5,6] 7),LB 2 Prt.enc F.prints] from rfl).trans (by rw [mapE_ren])
theorem joinST3:joinH [3,4,5,6] [] [a0,a1,a2,a3,a4,a5,a6] (stoB 0 F p)=[a0,a1,a2,.arr 4 1 (fun _=>.agg [vi F.life,.sl 5 4 0 F.items.length,.sl 2 5 0 F.prints.length,.map 6]),LB 5 Itm.enc F.items,LB 2 Prt.enc F.prints,mapE vi p] :=
  (show _=[a0,a1,a2,.arr 4 1 (fun _=>.agg [vi F.life,.sl 5 4 0 F.items.length,.sl 2 5 0 F.prints.length,.map 6]),LB 5 Itm.enc F.items,LB 2 Prt.enc F.prints,(mapE vi p).ren (rn [3,4,5,6] 7)] from rfl).trans (by rw [mapE_ren])
end
theorem actH_cases {s:Sto}{p:List (Int × Int)}{a:Deed}:actH s p a=WI (actF s a) (actP s p a)∨actH s p a=WP (actF s a) (actP s p a)∨actH s p a=stoB 0 (actF s a) (actP s p a):=by
  unfold actH
  split
  · exact .inl rfl
  · split
    · exact .inr (.inl rfl)
    · exact .inr (.inr rfl)
theorem doE_ok {s:Sto}{a:Deed}(h:Valid s):doE s a=actE s a:=by unfold doE;rw [if_pos h]
theorem doE_bad {s:Sto}{a:Deed}(h:¬ Valid s):doE s a=80:=by unfold doE;rw [if_neg h]
theorem doF_ok {s:Sto}{a:Deed}(h:doE s a=0):doF s a=actF s a:=by unfold doF;rw [if_pos h]
theorem doF_bad {s:Sto}{a:Deed}(h:doE s a≠0):doF s a=noSto:=by unfold doF;rw [if_neg h]
theorem do_ret {F:Sto}{e:Int}{R Rp:V→Heap→Prop}(hR:R (.tup [F.enc,vi e]) [.arr 3 1 (fun _=>F.enc)]):BodyQ Tryz.prog #[.cell 4 27,.tmp 5] R Rp .ret [(4,.ptr 3 0 0 0),(5,vi e)] [.arr 3 1 (fun _=>F.enc)] :=
  bq2c (f:=fun _=>F.enc) (v:=F.enc) (ty rfl) rfl rfl Nat.one_pos rfl rfl hR
def shoN (n:Nat) (h:Hse) (m:List (Int × Tal)):Heap:=[.arr 11 1 (fun _=>shoV (n+1) (n+2) (n+3) (n+4) (n+5) (n+6) (n+7) (n+8) h),LB 5 Itm.enc h.store.items,LB 2 Prt.enc h.store.prints,LB 7 Dsn.enc h.designs,LB 4 Lic.enc h.lics,LB 4 Ordr.enc h.orders,LB 1 vi h.made,LB 1 vi h.fors,mapE Tal.enc m]
theorem shoB_ren {h:Hse}{m:List (Int × Tal)}{n:Nat}:(shoB h m).map (Blk.ren (rn [] n))=shoN n h m:=by
  have e2:(mapE Tal.enc m).ren (rn [] n)=mapE Tal.enc m:=mapE_renE fun _=>rfl
  show _::_::_::_::_::_::_::_::[(mapE Tal.enc m).ren (rn [] n)]=_::_::_::_::_::_::_::_::[_]
  rw [e2]
  rfl
def HValidR (h:Hse) (v:V) (H:Heap):Prop:=(HValid h∧v=.tup [.ptr 11 0 0 0,vb true]∧∃ m,TalOk h m∧H=shoB h m)∨(¬ HValid h∧v=.tup [.ptr 11 0 0 0,vb false]∧H=[.dead])
theorem hvalid_of {h:Hse}(h1:1≤h.per∧h.per≤1000) (h2:0≤h.day∧h.day≤10000) (h3:Valid h.store) (h4:ArchOk h) (h5:MadeOk h) (h6:OrdersOk h):HValid h :=
  ⟨h1,h2,h3,⟨h4.1.1,h4.1.2,h6.1.1⟩,fun i hi=>h4.2.1 _ (el_mem hi),fun i hi=>h4.2.2 _ (el_mem hi),h5.1,h5.2,h6.1.2,h6.2.1,h6.2.2⟩
theorem HValid.arch {h:Hse}(hV:HValid h):ArchOk h:=⟨⟨hV.few.1,hV.few.2.1⟩,fun d hd=>by obtain ⟨i,hi,rfl⟩:=mem_el hd;exact hV.designs i hi,fun d hd=>by obtain ⟨i,hi,rfl⟩:=mem_el hd;exact hV.lics i hi⟩
theorem HValid.madeOk {h:Hse}(hV:HValid h):MadeOk h:=⟨hV.mades,hV.made⟩
theorem HValid.ordOk {h:Hse}(hV:HValid h):OrdersOk h:=⟨⟨hV.few.2.2,hV.forss⟩,hV.fors,hV.orders⟩
theorem chk_iff {s:Sto}:((if Valid s then (0:Int) else 80)=0)↔Valid s:=by
  by_cases h:Valid s
  · rw [if_pos h];exact ⟨fun _=>h,fun _=>rfl⟩
  · rw [if_neg h];exact ⟨fun e=>absurd e (by decide),fun e=>(h e).elim⟩
theorem hvalid_p (h:Hse) (hs:HSmall h) (hw:StOk h.store):ACalls Tryz.prog 43 [h.enc] [] (HValidR h) NoP:=by
  refine acalls_of_aw Tryz.func43 rfl (dc rfl) ?_
  (repeat' (first|(refine ar_isq ?_;refine zq ?_)|((refine ar_gcall0 fn79 rfl rfl [h.enc] ⟨.closed rfl,trivial⟩ (hopen_p h hs) (dc rfl) ?_ (fun _ _ h=>h.elim);rintro _ _ ⟨rfl,rfl⟩;rw [shoB_ren]))|(((refine ar_subk_l (sub_frzL (t:=13) vi ([h.per]) rfl rfl rfl rfl (fun _ _=>rfl) (fun _=>rfl)) ?_);refine zpv fn56 (hfrom_p _ _ [h.per]) ?_))|(((refine ar_subk_l (sub_frzL (t:=21) vi ([h.day]) rfl rfl rfl rfl (fun _ _=>rfl) (fun _=>rfl)) ?_);refine zpv fn56 (hfrom_p _ _ [h.day]) ?_))|refine ar_buildLE vi ([_]) (by exact ty rfl) (by exact rfl) (by exact ty rfl) (by exact rfl) (by exact rfl) (by exact Nat.succ_pos _) (by exact rfl) (by exact dc rfl) (by exact rfl) (by exact fun _=>⟨rfl,rfl⟩) (by exact dc rfl) ?_|((refine ar_lcall fn80 rfl rfl (first:=[]) (cap:=[]) (zs:=[h.store.enc]) ⟨.aggL ⟨.closed rfl,.row rfl rfl (fun _=>rfl),.row rfl rfl (fun _=>rfl),trivial⟩,trivial⟩ (pCheck_p h.store) (by intros;subst_vars;rfl) (dc rfl) ?_;intro _ hv;subst hv))|((refine ar_read h [] (archived_p h hs) fn81 (by rintro _ ⟨_,rfl,_⟩;rfl) ?_;rintro _ ⟨ba,rfl,hba⟩))|((refine ar_read h [] (hmade_p h hs (by assumption)) fn82 (by rintro _ ⟨_,rfl,_⟩;rfl) ?_;rintro _ ⟨bm,rfl,hbm⟩))|((refine ar_gcall (H0:=shoB h []) [1,2,3,4,5,6,7,8,9] [] (first:=[]) (cap:=[]) fn83 rfl rfl (xs:=[.ptr 11 0 0 0]) ⟨.ptr rfl,trivial⟩ rfl (by decide) (fun _ h=>by cases h) (show ShoAt _ 1 2 3 4 5 6 7 8 9 h [] from {}).hsub shoB_live (hordered_p h hs (by assumption) (hbm.1 (by assumption)) hw) (dc rfl) ?_ (fun _ _ h=>h.elim);rintro _ _ (⟨rfl,hO,m,ht,rfl⟩|⟨rfl,hO⟩)))|refine zg ?_ ?_|refine zgu ?_|refine zst ?_|refine zco ?_ ?_|(refine fun (hg:(_:Prop))=>?_;first|exact absurd hg (by decide)|((try replace hg:=HG.out hg);(try dsimp only at hg);(try rw [fromB_one] at hg);(try rw [withinB_iff] at hg);(try rw [withinB_no] at hg);(try rw [chk_iff] at hg);(try (have _h:True:=hg;clear _h hg));first|(exfalso;omega)|skip))))
  all_goals first
    | (exfalso;omega)
    | ((refine aw_mono_r (env':=[(2,.ptr 11 0 0 0),(3,vb false)]) (H':=[.dead]) ?_ ?_;(focus (exact zsc [some 1] [])))
       (refine aw_ret ?_;(repeat (first|refine ret_then ?_|refine ret_block ?_));refine bq2 rfl rfl (.inr ⟨fun hv=>?_,rfl,rfl⟩))
       first
         | exact absurd hv.per (by assumption)
         | exact absurd hv.day (by assumption)
         | exact absurd hv.store (by assumption)
         | exact absurd ((hba.2 hv.arch).symm.trans (show ba=false from by assumption)) (by decide)
         | exact absurd ((hbm.2 hv.madeOk).symm.trans (show bm=false from by assumption)) (by decide)
         | exact absurd hv.ordOk (by assumption))
    | (rw [join_sho {} (by decide)]
       (repeat' (first|(refine ar_isq ?_;refine zq ?_)|refine zg ?_ ?_|refine zgu ?_|refine zst ?_|refine zco ?_ ?_|(refine fun (hg:(_:Prop))=>?_;first|exact absurd hg (by decide)|((try replace hg:=HG.out hg);(try dsimp only at hg);(try rw [fromB_one] at hg);(try rw [withinB_iff] at hg);(try rw [withinB_no] at hg);(try rw [chk_iff] at hg);(try (have _h:True:=hg;clear _h hg));first|(exfalso;omega)|skip))))
       (refine aw_mono_r (env':=[(2,.ptr 11 0 0 0),(3,vb true)]) (H':=[.arr 11 1 (fun _=>shoV 1 2 3 4 5 6 7 8 h),LB 5 Itm.enc h.store.items,LB 2 Prt.enc h.store.prints,LB 7 Dsn.enc h.designs,LB 4 Lic.enc h.lics,LB 4 Ordr.enc h.orders,LB 1 vi h.made,LB 1 vi h.fors,mapE Tal.enc m]) ?_ ?_;(focus (exact zsc [some 1,some 2,some 3,some 4,some 5,some 6,some 7,some 8,some 9] [])))
       (refine aw_ret ?_;(repeat (first|refine ret_then ?_|refine ret_block ?_));refine bq2 rfl rfl (.inl ⟨hvalid_of (by assumption) (by assumption) (by assumption) (hba.1 (by assumption)) (hbm.1 (by assumption)) (by assumption),rfl,m,by assumption,rfl⟩)))
    | trace_state
end Go.Proofs.YtbilpbabdgfblaaGreat
