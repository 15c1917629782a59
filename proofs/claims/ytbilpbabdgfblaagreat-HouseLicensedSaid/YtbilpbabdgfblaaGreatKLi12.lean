/- Parts of the proof: contracts of functions. No condition. -/
import Derived.Test.YtbilpbabdgfblaaGreatKLi11
set_option maxHeartbeats 16000000
set_option linter.unusedSimpArgs false
set_option linter.unusedVariables false
namespace Go.Proofs.YtbilpbabdgfblaaGreat
open Go.RowKit
theorem bq2c {P:Program}{env:Env}{H:Heap}{R Rp:V→Heap→Prop}{a t2:Nat}{v v2:V}{T:TypeId}{d:TyD}{sz b i off n:Nat}{f:Nat→V}(hT:TyIs P T d) (ha:look env a=some (.ptr sz b i off)) (hH:H[b]?=some (.arr sz n f)) (hi:i<n) (hv:partV d.tk.agg (f i).cells off d.size=some v)
    (h2:look env t2=some v2) (hR:R (.tup [v,v2]) H):BodyQ P #[.cell a T,.tmp t2] R Rp .ret env H :=
  ⟨_,.inr (.inr (.inl ⟨_,_,_,_,rfl,⟨d,sz,b,i,off,n,f,hT,ha,hH,hi,hv⟩,h2,rfl⟩)),hR⟩
def noSto:Sto:=⟨0,[],[]⟩
open Classical in
noncomputable def doE (s:Sto) (a:Deed):Int:=if Valid s then actE s a else 80
theorem pressOk_of {s:Sto}(h:Valid s):PressOk s.items (pressTo s.items s.items.length):=press_ok h.2.2.1
section
variable {a0 a1 a2 a3 a4 a5 a6:Blk}{F:Sto}{p:List (Int × Int)}
theorem joinWI3:joinH [3,4,5,6] [] [a0,a1,a2,a3,a4,a5,a6] (WI F p)=[a0,a1,a2,.arr 4 1 (fun _=>.agg [vi F.life,.sl 5 7 0 F.items.length,.sl 2 5 0 F.prints.length,.map 6]),.dead,LB 2 Prt.enc F.prints,mapE vi p,LB 5 Itm.enc F.items] :=
  (show _=[a0,a1,a2,.arr 4 1 (fun _=>.agg [vi F.life,.sl 5 7 0 F.items.length,.sl 2 5 0 F.prints.length,.map 6]),.dead,LB 2 Prt.enc F.prints,(mapE vi p).ren (rn [3,4,5,6] 7),LB 5 Itm.enc F.items] from rfl).trans (by rw [mapE_ren])
theorem joinWP3:joinH [3,4,5,6] [] [a0,a1,a2,a3,a4,a5,a6] (WP F p)=[a0,a1,a2,.arr 4 1 (fun _=>.agg [vi F.life,.sl 5 4 0 F.items.length,.sl 2 7 0 F.prints.length,.map 6]),LB 5 Itm.enc F.items,.dead,mapE vi p,LB 2 Prt.enc F.prints] :=
  (show _=[a0,a1,a2,.arr 4 1 (fun _=>.agg [vi F.life,.sl 5 4 0 F.items.length,.sl 2 7 0 F.prints.length,.map 6]),LB 5 Itm.enc F.items,.dead,(mapE vi p).ren (rn [3,4,5,6] 7),LB 2 Prt.enc F.prints] from rfl).trans (by rw [mapE_ren])
theorem joinST3:joinH [3,4,5,6] [] [a0,a1,a2,a3,a4,a5,a6] (stoB 0 F p)=[a0,a1,a2,.arr 4 1 (fun _=>.agg [vi F.life,.sl 5 4 0 F.items.length,.sl 2 5 0 F.prints.length,.map 6]),LB 5 Itm.enc F.items,LB 2 Prt.enc F.prints,mapE vi p] :=
  (show _=[a0,a1,a2,.arr 4 1 (fun _=>.agg [vi F.life,.sl 5 4 0 F.items.length,.sl 2 5 0 F.prints.length,.map 6]),LB 5 Itm.enc F.items,LB 2 Prt.enc F.prints,(mapE vi p).ren (rn [3,4,5,6] 7)] from rfl).trans (by rw [mapE_ren])
end
theorem actH_cases {s:Sto}{p:List (Int × Int)}{a:Deed}:actH s p a=WI (actF s a) (actP s p a)∨actH s p a=WP (actF s a) (actP s p a)∨actH s p a=stoB 0 (actF s a) (actP s p a):=by
  unfold actH
  split
  · exact .inl rfl
  · split
    · exact .inr (.inl rfl)
    · exact .inr (.inr rfl)
theorem doE_ok {s:Sto}{a:Deed}(h:Valid s):doE s a=actE s a:=by unfold doE;rw [if_pos h]
theorem doE_bad {s:Sto}{a:Deed}(h:¬ Valid s):doE s a=80:=by unfold doE;rw [if_neg h]
def zeroV:V:=.agg [vi 0,vnil,vnil]
section
variable {s:Sto}{a:Deed}
theorem actE_1 (h:a.kind=1):actE s a=engrE s:=by unfold actE;rw [h];rfl
theorem actE_2 (h:a.kind=2):actE s a=transE s a.item:=by unfold actE;rw [h];rfl
theorem actE_3 (h:a.kind=3):actE s a=moveE s a.item a.dest:=by unfold actE;rw [h];rfl
theorem actE_4 (h:a.kind=4):actE s a=printE s a.item a.n:=by unfold actE;rw [h];rfl
theorem actE_6 (h:a.kind=6):actE s a=spendE s a.item a.n:=by unfold actE;rw [h];rfl
theorem actE_7 (h:a.kind=7):actE s a=destE s a.item:=by unfold actE;rw [h];rfl
theorem actE_no (h1:¬ a.kind=1) (h2:¬ a.kind=2) (h3:¬ a.kind=3) (h4:¬ a.kind=4) (h5:¬ a.kind=5) (h6:¬ a.kind=6) (h7:¬ a.kind=7):actE s a=2:=by unfold actE;rw [if_neg h1,if_neg h2,if_neg h3,if_neg h4,if_neg h5,if_neg h6,if_neg h7]
theorem actF_1 (h:a.kind=1):actF s a=addS s newDie:=by unfold actF;rw [h];rfl
theorem actF_2 (h:a.kind=2):actF s a=transF s a.item:=by unfold actF;rw [h];rfl
theorem actF_3 (h:a.kind=3):actF s a=moveF s a.item a.dest:=by unfold actF;rw [h];rfl
theorem actF_4 (h:a.kind=4):actF s a=printF s a.item a.n:=by unfold actF;rw [h];rfl
theorem actF_5 (h:a.kind=5):actF s a=spendF s a.item a.n 1:=by unfold actF;rw [h];rfl
theorem actF_6 (h:a.kind=6):actF s a=spendF s a.item a.n 2:=by unfold actF;rw [h];rfl
theorem actF_7 (h:a.kind=7):actF s a=destF s a.item:=by unfold actF;rw [h];rfl
end
end Go.Proofs.YtbilpbabdgfblaaGreat
namespace Go.Proofs.YtbilpbabdgfblaaGreat
theorem el_setI {α:Type}[Inhabited α] {l:List α}{i j:Nat}{x:α}(hi:i<l.length):el (l.set i x) j=if j=i then x else el l j:=by
  by_cases h:j=i
  · subst h
    simp [el,hi]
  · rw [if_neg h]
    simp [el,List.getElem?_set_ne (Ne.symm h)]
theorem made_of {l l':List Itm}{i:Nat}(hi:i<l.length) (hk:∀ j,j<l.length→(el l' j).kind=(el l j).kind∧(el l' j).src=(el l j).src) (h:Made l i):Made l' i:=by
  obtain ⟨k1,k2⟩:=hk i hi
  unfold Made at h ⊢
  rw [k1,k2]
  rcases h with h|⟨h1,h2,h3⟩
  · exact .inl h
  · exact .inr ⟨h1,h2,by rw [(hk _ (by omega)).1];exact h3⟩
theorem printed_of {l l':List Itm}{p:Prt}(hl:l.length≤l'.length) (hk:∀ j,j<l.length→(el l' j).kind=(el l j).kind) (h:Printed l p):Printed l' p:=by
  obtain ⟨h1,h2,h3⟩:=h
  exact ⟨⟨h1.1,by omega⟩,by rw [hk _ (by omega)];exact h2,h3⟩
theorem usedI_same {l l':List Itm}{q:Int}{k:Nat}(h:∀ j,j<k→(el l' j).src=(el l j).src):usedI l' q k=usedI l q k:=cntB_congr fun j hj=>by rw [h j hj]
theorem usedP_same {l l':List Prt}{q:Int}{k:Nat}(h:∀ j,j<k→(el l' j).plate=(el l j).plate):usedP l' q k=usedP l q k:=cntB_congr fun j hj=>by rw [h j hj]
theorem usedI_snoc {l:List Itm}{x:Itm}{q:Int}:usedI (l++[x]) q (l.length+1)=usedI l q l.length+(if x.src=q then 1 else 0):=by
  show usedI (l++[x]) q l.length+(if decide ((el (l++[x]) l.length).src=q)=true then 1 else 0)=_
  rw [usedI_same (l:=l) (l':=l++[x]) fun j hj=>by rw [el_app_lt hj],el_snoc]
  simp
theorem usedP_snoc {l:List Prt}{x:Prt}{q:Int}:usedP (l++[x]) q (l.length+1)=usedP l q l.length+(if x.plate=q then 1 else 0):=by
  show usedP (l++[x]) q l.length+(if decide ((el (l++[x]) l.length).plate=q)=true then 1 else 0)=_
  rw [usedP_same (l:=l) (l':=l++[x]) fun j hj=>by rw [el_app_lt hj],el_snoc]
  simp
theorem usedP_rep {l:List Prt}{x:Prt}{q:Int}:∀ n:Nat,usedP (l++List.replicate n x) q (l.length+n)=usedP l q l.length+(if x.plate=q then (n:Int) else 0)
  | 0=>by simp
  | n+1=>by
    have h:=usedP_snoc (l:=l++List.replicate n x) (x:=x) (q:=q)
    rw [List.append_assoc,← List.replicate_succ',List.length_append,List.length_replicate,usedP_rep n] at h
    rw [← Nat.add_assoc,h]
    split<;>omega
def Core (s:Sto):Prop:=Few s∧(∀ i,i<s.items.length→Made s.items i)∧(∀ i,i<s.items.length→Placed s.items i)∧∀ j,j<s.prints.length→Printed s.items (el s.prints j)
theorem core_of {s:Sto}(h:Valid s):Core s:=⟨h.1,h.2.1,h.2.2.1,h.2.2.2.1⟩
theorem valid_of {s:Sto}(h:Core s) (hu:∀ i,i<s.items.length→UsedOk s i):Valid s:=⟨h.1,h.2.1,h.2.2.1,h.2.2.2,hu⟩
theorem core_set {s:Sto}{i:Nat}{x:Itm}(hC:Core s) (hi:i<s.items.length) (hk:x.kind=(el s.items i).kind) (hs:x.src=(el s.items i).src)
    (hp:(0≤x.place∧x.place≤9)∧(x.gone=true→x.place=0)∧(2≤x.place→x.kind=3∧∀ j,j<s.items.length→j≠i→(el s.items j).place≠x.place)):Core (setS s i x):=by
  obtain ⟨h1,h2,h3,h4⟩:=hC
  have hl:(s.items.set i x).length=s.items.length:=by simp
  have ks:∀ j,j<s.items.length→(el (s.items.set i x) j).kind=(el s.items j).kind∧(el (s.items.set i x) j).src=(el s.items j).src:=fun j _=>by
    rw [el_setI hi]
    split
    · rename_i e;rw [e];exact ⟨hk,hs⟩
    · exact ⟨rfl,rfl⟩
  refine ⟨⟨h1.1,by show (s.items.set i x).length≤30;rw [hl];exact h1.2.1,h1.2.2⟩,fun j hj=>?_,fun j hj=>?_,fun j hj=>printed_of (by show _≤(s.items.set i x).length;omega) (fun k hk=>(ks k hk).1) (h4 j hj)⟩
  · have hj:j<s.items.length:=by rw [← hl];exact hj
    exact made_of hj ks (h2 j hj)
  · have hj:j<s.items.length:=by rw [← hl];exact hj
    show PlacedTo (s.items.set i x) j (s.items.set i x).length
    rw [hl]
    have hpj:=h3 j hj
    unfold Placed PlacedTo at hpj
    unfold PlacedTo
    by_cases e:j=i
    · subst e
      rw [el_setI hi,if_pos rfl]
      refine ⟨hp.1,hp.2.1,fun h=>⟨(hp.2.2 h).1,fun k hk hne=>?_⟩⟩
      rw [el_setI hi,if_neg hne]
      exact (hp.2.2 h).2 k hk hne
    · rw [el_setI hi,if_neg e]
      refine ⟨hpj.1,hpj.2.1,fun h=>⟨(hpj.2.2 h).1,fun k hk hne=>?_⟩⟩
      rw [el_setI hi]
      split
      · rename_i ek
        intro hpl
        exact (hp.2.2 (by omega)).2 j hj e hpl.symm
      · exact (hpj.2.2 h).2 k hk hne
theorem usedS_set {s:Sto}{i:Nat}{x:Itm}{q:Int}(hi:i<s.items.length) (hs:x.src=(el s.items i).src):usedS (setS s i x) q=usedS s q:=by
  unfold usedS
  show usedI (s.items.set i x) q (s.items.set i x).length+_=_
  rw [show (s.items.set i x).length=s.items.length by simp,usedI_same (l:=s.items) fun k _=>by
    rw [el_setI hi]
    split
    · rename_i e;rw [e];exact hs
    · rfl]
  rfl
theorem core_add {s:Sto}{x:Itm}(hC:Core s) (hn:s.items.length<30) (hm:(x.kind=1∧x.src=-1)∨((x.kind=2∨x.kind=3)∧(0≤x.src∧x.src<(s.items.length:Int))∧(el s.items x.src.toNat).kind=x.kind-1)) (hp:0≤x.place∧x.place<2) (hg:x.gone=false):Core (addS s x):=by
  obtain ⟨h1,h2,h3,h4⟩:=hC
  have hl:(s.items++[x]).length=s.items.length+1:=by simp
  have ks:∀ j,j<s.items.length→el (s.items++[x]) j=el s.items j:=fun j hj=>el_app_lt hj
  refine ⟨⟨h1.1,by show (s.items++[x]).length≤30;omega,h1.2.2⟩,fun j hj=>?_,fun j hj=>?_,fun j hj=>printed_of (by show _≤(s.items++[x]).length;omega) (fun k hk=>by show (el (s.items++[x]) k).kind=_;rw [ks k hk]) (h4 j hj)⟩
  · have hj:j<s.items.length+1:=by rw [← hl];exact hj
    show Made (s.items++[x]) j
    by_cases e:j=s.items.length
    · subst e
      unfold Made
      rw [el_snoc]
      rcases hm with h|⟨a,b,c⟩
      · exact .inl h
      · exact .inr ⟨a,b,by rw [ks _ (by omega)];exact c⟩
    · exact made_of (l:=s.items) (by omega) (fun k hk=>by rw [ks k hk];exact ⟨rfl,rfl⟩) (h2 j (by omega))
  · have hj:j<s.items.length+1:=by rw [← hl];exact hj
    show PlacedTo (s.items++[x]) j (s.items++[x]).length
    rw [hl]
    by_cases e:j=s.items.length
    · subst e
      unfold PlacedTo
      rw [el_snoc]
      exact ⟨by omega,fun h=>(by rw [hg] at h;cases h),fun h=>(by omega)⟩
    · have hpj:=h3 j (by omega)
      unfold Placed PlacedTo at hpj
      unfold PlacedTo
      rw [ks j (by omega)]
      refine ⟨hpj.1,hpj.2.1,fun h=>⟨(hpj.2.2 h).1,fun k hk hne=>?_⟩⟩
      by_cases ek:k=s.items.length
      · subst ek
        rw [el_snoc]
        omega
      · rw [ks k (by omega)]
        exact (hpj.2.2 h).2 k (by omega) hne
theorem usedS_add {s:Sto}{x:Itm}{q:Int}:usedS (addS s x) q=usedS s q+(if x.src=q then 1 else 0):=by
  unfold usedS
  show usedI (s.items++[x]) q (s.items++[x]).length+usedP s.prints q s.prints.length=_
  rw [show (s.items++[x]).length=s.items.length+1 by simp,usedI_snoc]
  split<;>omega
theorem add_used {s:Sto}{x:Itm}(hC:Core s) (h0:x.uses=0) (hl:1≤s.life) (hs:x.src<(s.items.length:Int)) (hm:∀ j,j<s.items.length→(el s.items j).src<(s.items.length:Int)) (hU:∀ i,i<s.items.length→(el s.items i).uses=usedS s i+(if x.src=i then 1 else 0)∧(el s.items i).uses≤mostOf s.life (el s.items i)) :
    ∀ i,i<(addS s x).items.length→UsedOk (addS s x) i:=by
  intro i hi
  have hi:i<s.items.length+1:=by
    have:(addS s x).items.length=s.items.length+1:=by simp [addS]
    omega
  unfold UsedOk
  rw [usedS_add]
  show (el (s.items++[x]) i).uses=_∧(el (s.items++[x]) i).uses≤mostOf s.life (el (s.items++[x]) i)
  by_cases e:i=s.items.length
  · subst e
    rw [el_snoc,h0,if_neg (by omega)]
    have hz:usedS s s.items.length=0:=by
      have h1:usedI s.items s.items.length s.items.length=0:=cntB_none fun j hj=>by
        have:=hm j hj
        exact decide_eq_false (by omega)
      have h2:usedP s.prints s.items.length s.prints.length=0:=cntB_none fun j hj=>by
        have:=(hC.2.2.2 j hj).1
        exact decide_eq_false (by omega)
      unfold usedS
      omega
    refine ⟨by omega,?_⟩
    unfold mostOf
    split<;>omega
  · rw [el_app_lt (by omega)]
    exact hU i (by omega)
end Go.Proofs.YtbilpbabdgfblaaGreat
namespace Go.Proofs.YtbilpbabdgfblaaGreat
theorem el_rep {α:Type}[Inhabited α] {n k:Nat}{x:α}(h:k<n):el (List.replicate n x) k=x:=by simp [el,h]
theorem src_bnd {s:Sto}(hC:Core s):∀ j,j<s.items.length→-1≤(el s.items j).src∧(el s.items j).src<(s.items.length:Int):=fun j hj=>by
  have:=hC.2.1 j hj
  unfold Made at this
  omega
theorem valid_engrave {s:Sto}(hV:Valid s) (h:engrE s=0):Valid (addS s newDie):=by
  have hf:=hV.1
  unfold Few at hf
  have hn:s.items.length<30:=by
    unfold engrE at h
    split at h
    · cases h
    · omega
  refine valid_of (core_add (core_of hV) hn (.inl ⟨rfl,rfl⟩) (by decide) rfl) (add_used (core_of hV) rfl hf.1.1 (by show (-1:Int)<_;omega) (fun j hj=>(src_bnd (core_of hV) j hj).2) fun i hi=>?_)
  obtain ⟨u1,u2⟩:=hV.2.2.2.2 i hi
  have e:¬ newDie.src=(i:Int):=by show ¬ (-1:Int)=i;omega
  rw [if_neg e]
  exact ⟨by omega,u2⟩
theorem valid_transfer {s:Sto}{i:Int}(hV:Valid s) (h:transE s i=0):Valid (transF s i):=by
  have hf:=hV.1
  unfold Few at hf
  unfold transE at h
  split at h
  · rename_i hh
    split at h
    · cases h
    · rename_i h1
      split at h
      · cases h
      · rename_i h2
        split at h
        · cases h
        · rename_i h3
          have hb:=hh.1
          have hlt:i.toNat<s.items.length:=by omega
          have hl:(setS s i.toNat (used1 (el s.items i.toNat) 1)).items.length=s.items.length:=by simp [setS]
          have hm:=hV.2.1 _ hlt
          unfold Made at hm
          have hp:=hV.2.2.1 _ hlt
          unfold Placed PlacedTo at hp
          have c1:Core (setS s i.toNat (used1 (el s.items i.toNat) 1)):=core_set (core_of hV) hlt rfl rfl hp
          have hel:∀ j,el (setS s i.toNat (used1 (el s.items i.toNat) 1)).items j=if j=i.toNat then used1 (el s.items i.toNat) 1 else el s.items j:=fun j=>el_setI hlt
          have c2:=core_add (x:=made1 (el s.items i.toNat) i) c1 (by omega) (.inr ⟨by show (el s.items i.toNat).kind+1=2∨(el s.items i.toNat).kind+1=3;omega,by show 0≤i∧i<_;omega,by
            show (el (setS s i.toNat (used1 (el s.items i.toNat) 1)).items i.toNat).kind=(el s.items i.toNat).kind+1-1
            rw [hel,if_pos rfl]
            show (el s.items i.toNat).kind=_
            omega⟩) (by show (0:Int)≤1∧(1:Int)<2;omega) rfl
          refine valid_of c2 (add_used c1 rfl hf.1.1 (by show i<_;omega) (fun j hj=>(src_bnd c1 j hj).2) fun k hk=>?_)
          have hk:k<s.items.length:=by omega
          obtain ⟨u1,u2⟩:=hV.2.2.2.2 k hk
          rw [usedS_set (x:=used1 (el s.items i.toNat) 1) hlt rfl,hel]
          show _=usedS s k+(if i=(k:Int) then 1 else 0)∧_
          by_cases e:k=i.toNat
          · subst e
            rw [if_pos rfl,if_pos (by omega)]
            refine ⟨by show (el s.items i.toNat).uses+1=_;omega,?_⟩
            unfold mostOf at u2 ⊢
            show (el s.items i.toNat).uses+1≤if (el s.items i.toNat).kind=3 then _ else _
            rw [if_neg (by omega)] at u2 ⊢
            omega
          · rw [if_neg e,if_neg (by omega)]
            exact ⟨by omega,u2⟩
  · cases h
theorem usedok_set {s:Sto}{i:Nat}{x:Itm}(hV:Valid s) (hi:i<s.items.length) (hk:x.kind=(el s.items i).kind) (hs:x.src=(el s.items i).src) (hu:x.uses=(el s.items i).uses):∀ j,j<(setS s i x).items.length→UsedOk (setS s i x) j:=fun j hj=>by
  have hj:j<s.items.length:=by
    have:(setS s i x).items.length=s.items.length:=by simp [setS]
    omega
  obtain ⟨u1,u2⟩:=hV.2.2.2.2 j hj
  unfold UsedOk
  rw [usedS_set hi hs]
  show (el (s.items.set i x) j).uses=_∧(el (s.items.set i x) j).uses≤mostOf s.life (el (s.items.set i x) j)
  rw [el_setI hi]
  unfold mostOf at u2 ⊢
  split
  · rename_i e
    subst e
    rw [hu,hk]
    exact ⟨u1,u2⟩
  · exact ⟨u1,u2⟩
theorem move_cases {s:Sto}{i d:Int}(h:moveE s i d=0):hereB s i∧¬ (¬ (0≤d∧d≤9)∨(2≤d∧(el s.items i.toNat).kind≠3))∧¬ takenB s i d:=by
  unfold moveE at h
  split at h
  · rename_i hh
    split at h
    · cases h
    · rename_i h1
      split at h
      · cases h
      · rename_i h2
        exact ⟨hh,h1,h2⟩
  · cases h
theorem not_taken {s:Sto}{i d:Int}(h:¬ takenB s i d) (hd:2≤d):∀ k,k<s.items.length→k≠i.toNat→(el s.items k).place≠d:=fun k hk hne e=>h ⟨hd,fun hall=>hall k hk hne e⟩
theorem valid_move {s:Sto}{i d:Int}(hV:Valid s) (h:moveE s i d=0):Valid (moveF s i d):=by
  obtain ⟨hh,h1,h2⟩:=move_cases h
  have hb:=hh.1
  have hlt:i.toNat<s.items.length:=by omega
  refine valid_of (core_set (core_of hV) hlt rfl rfl ⟨?_,fun hg=>?_,fun hp=>⟨?_,fun j hj hne=>?_⟩⟩) (usedok_set hV hlt rfl rfl rfl)
  · show 0≤d∧d≤9
    omega
  · have:(el s.items i.toNat).gone=true:=hg
    rw [hh.2] at this
    cases this
  · show (el s.items i.toNat).kind=3
    have:2≤d:=hp
    omega
  · exact not_taken h2 hp j hj hne
theorem valid_destroy {s:Sto}{i:Int}(hV:Valid s) (h:destE s i=0):Valid (destF s i):=by
  unfold destE at h
  split at h
  · rename_i hh
    split at h
    · cases h
    · rename_i h1
      have hb:=hh.1
      have hlt:i.toNat<s.items.length:=by omega
      have h0:(el s.items i.toNat).place=0:=by omega
      refine valid_of (core_set (core_of hV) hlt rfl rfl ⟨?_,fun _=>h0,fun hp=>?_⟩) (usedok_set hV hlt rfl rfl rfl)
      · show 0≤(el s.items i.toNat).place∧(el s.items i.toNat).place≤9
        omega
      · have:2≤(el s.items i.toNat).place:=hp
        omega
  · cases h
theorem core_prints {s:Sto}{P:List Prt}(hC:Core s) (hl:P.length≤400) (hP:∀ j,j<P.length→Printed s.items (el P j)):Core { s with prints:=P }:=⟨⟨hC.1.1,hC.1.2.1,hl⟩,hC.2.1,hC.2.2.1,hP⟩
theorem valid_spend {s:Sto}{first n st:Int}(hV:Valid s) (hst:st≤2):Valid (spendF s first n st):=by
  have hl:=spendF_len s first n st
  have hf:=hV.1
  unfold Few at hf
  have hel:∀ j,j<s.prints.length→(el (spendF s first n st).prints j).plate=(el s.prints j).plate∧(el (spendF s first n st).prints j).state≤2:=fun j hj=>by
    rw [spendF_el hj]
    have:=(hV.2.2.2.1 j hj).2.2
    unfold stateAt
    split
    · exact ⟨rfl,hst⟩
    · exact ⟨rfl,this⟩
  refine valid_of (core_prints (core_of hV) (by show (spendF s first n st).prints.length≤400;omega) fun j hj=>?_) fun i hi=>?_
  · have hj:j<s.prints.length:=by rw [← hl];exact hj
    obtain ⟨q1,q2,q3⟩:=hV.2.2.2.1 j hj
    obtain ⟨e1,e2⟩:=hel j hj
    show Printed s.items (el (spendF s first n st).prints j)
    exact ⟨by rw [e1];exact q1,by rw [e1];exact q2,e2⟩
  · obtain ⟨u1,u2⟩:=hV.2.2.2.2 i hi
    refine ⟨u1.trans ?_,u2⟩
    unfold usedS
    show _=usedI s.items i s.items.length+usedP (spendF s first n st).prints i (spendF s first n st).prints.length
    rw [hl,usedP_same fun j hj=>(hel j hj).1]
theorem valid_print {s:Sto}{i n:Int}(hV:Valid s) (h:printE s i n=0):Valid (printF s i n):=by
  have hf:=hV.1
  unfold Few at hf
  unfold printE at h
  split at h
  · rename_i hh
    split at h
    · cases h
    · rename_i h1
      split at h
      · cases h
      · rename_i h2
        split at h
        · cases h
        · rename_i h3
          have hb:=hh.1
          have hlt:i.toNat<s.items.length:=by omega
          have hp:=hV.2.2.1 _ hlt
          unfold Placed PlacedTo at hp
          have c1:Core (setS s i.toNat (used1 (el s.items i.toNat) n)):=core_set (core_of hV) hlt rfl rfl hp
          have hel:∀ j,el (s.items.set i.toNat (used1 (el s.items i.toNat) n)) j=if j=i.toNat then used1 (el s.items i.toNat) n else el s.items j:=fun j=>el_setI hlt
          have hls:(s.items.set i.toNat (used1 (el s.items i.toNat) n)).length=s.items.length:=by simp
          have hpl:(s.prints++List.replicate n.toNat (⟨i,0⟩:Prt)).length=s.prints.length+n.toNat:=by simp
          have c2:(∀ j,j<(s.prints++List.replicate n.toNat (⟨i,0⟩:Prt)).length→Printed (s.items.set i.toNat (used1 (el s.items i.toNat) n)) (el (s.prints++List.replicate n.toNat (⟨i,0⟩:Prt)) j))→Core (printF s i n):=fun h=>core_prints (s:=setS s i.toNat (used1 (el s.items i.toNat) n)) c1 (by omega) h
          refine valid_of (c2 fun j hj=>?_) fun k hk=>?_
          · show Printed (s.items.set i.toNat (used1 (el s.items i.toNat) n)) _
            by_cases e:j<s.prints.length
            · rw [el_app_lt e]
              exact printed_of (by omega) (fun q _=>by rw [hel];split<;>first|rfl|(rename_i eq;rw [eq];rfl)) (hV.2.2.2.1 j e)
            · rw [el_app_ge (by omega),el_rep (by omega)]
              refine ⟨?_,?_,?_⟩
              · show 0≤i∧i<_
                omega
              · show (el (s.items.set i.toNat (used1 (el s.items i.toNat) n)) i.toNat).kind=3
                rw [hel,if_pos rfl]
                show (el s.items i.toNat).kind=3
                omega
              · show (0:Int)≤2
                omega
          · have hk:k<s.items.length:=by rw [← hls];exact hk
            obtain ⟨u1,u2⟩:=hV.2.2.2.2 k hk
            have hus:usedS (printF s i n) k=usedS s k+(if i=(k:Int) then n else 0):=by
              unfold usedS
              show usedI (s.items.set i.toNat (used1 (el s.items i.toNat) n)) k (s.items.set i.toNat (used1 (el s.items i.toNat) n)).length+usedP (s.prints++List.replicate n.toNat ⟨i,0⟩) k (s.prints++List.replicate n.toNat (⟨i,0⟩:Prt)).length=_
              rw [hls,hpl,usedP_rep,usedI_same (l:=s.items) fun q _=>by rw [hel];split<;>first|rfl|(rename_i eq;rw [eq];rfl)]
              show _+(_+if i=(k:Int) then _ else _)=_
              split<;>omega
            refine ⟨?_,?_⟩
            · show (el (s.items.set i.toNat (used1 (el s.items i.toNat) n)) k).uses=usedS (printF s i n) k
              rw [hus,hel]
              split
              · rename_i e
                rw [if_pos (by omega)]
                show (el s.items i.toNat).uses+n=_
                rw [← e]
                omega
              · rw [if_neg (by omega)]
                omega
            · show (el (s.items.set i.toNat (used1 (el s.items i.toNat) n)) k).uses≤mostOf s.life (el (s.items.set i.toNat (used1 (el s.items i.toNat) n)) k)
              rw [hel]
              split
              · unfold mostOf
                show (el s.items i.toNat).uses+n≤if (el s.items i.toNat).kind=3 then _ else _
                rw [if_pos (by omega)]
                omega
              · exact u2
  · cases h
theorem act_kind {s:Sto}{a:Deed}(h:actE s a=0):a.kind=1∨a.kind=2∨a.kind=3∨a.kind=4∨a.kind=5∨a.kind=6∨a.kind=7:=by
  by_cases h1:a.kind=1
  · exact .inl h1
  by_cases h2:a.kind=2
  · exact .inr (.inl h2)
  by_cases h3:a.kind=3
  · exact .inr (.inr (.inl h3))
  by_cases h4:a.kind=4
  · exact .inr (.inr (.inr (.inl h4)))
  by_cases h5:a.kind=5
  · exact .inr (.inr (.inr (.inr (.inl h5))))
  by_cases h6:a.kind=6
  · exact .inr (.inr (.inr (.inr (.inr (.inl h6)))))
  by_cases h7:a.kind=7
  · exact .inr (.inr (.inr (.inr (.inr (.inr h7)))))
  rw [actE_no h1 h2 h3 h4 h5 h6 h7] at h
  cases h
theorem valid_act {s:Sto}{a:Deed}(hV:Valid s) (h:actE s a=0):Valid (actF s a):=by
  rcases act_kind h with k|k|k|k|k|k|k
  · rw [actE_1 k] at h;rw [actF_1 k];exact valid_engrave hV h
  · rw [actE_2 k] at h;rw [actF_2 k];exact valid_transfer hV h
  · rw [actE_3 k] at h;rw [actF_3 k];exact valid_move hV h
  · rw [actE_4 k] at h;rw [actF_4 k];exact valid_print hV h
  · rw [actF_5 k];exact valid_spend hV (by decide)
  · rw [actF_6 k];exact valid_spend hV (by decide)
  · rw [actE_7 k] at h;rw [actF_7 k];exact valid_destroy hV h
def aClient (n:Int):Prop:=0≤n∧n≤50
instance (n:Int):Decidable (aClient n):=by unfold aClient;infer_instance
def Job.dsn (j:Job):Dsn:=⟨j.client,j.sheet,j.band⟩
def archE (h:Hse) (j:Job):Int:=if ¬ aClient j.client then 2 else if checkErr j.sheet j.band≠0 then checkErr j.sheet j.band else if ¬ GoodD j.dsn then 101 else if 8≤h.designs.length then 9 else 0
def archF (h:Hse) (j:Job):Hse:={ h with designs:=h.designs++[j.dsn] }
def ownerOf (h:Hse) (d:Int):Int:=(el h.designs d.toNat).owner
def licnE (h:Hse) (j:Job):Int:=if ¬ inDesigns h j.design then 6 else if ¬ (aClient j.client∧j.client≠ownerOf h j.design∧(1≤j.n∧j.n≤400)∧(h.day≤j.til∧j.til≤10000)) then 2 else if 20≤h.lics.length then 9 else 0
def licnF (h:Hse) (j:Job):Hse:={ h with lics:=h.lics++[⟨j.design,j.client,j.til,j.n⟩] }
def allowB (h:Hse) (j:Job) (l:Lic):Bool:=decide (l.design=j.design)&&(decide (l.client=j.client)&&(decide (h.day≤l.til)&&decide (j.n≤l.left)))
def licAt (h:Hse) (j:Job):Nat→Option Nat
  | 0=>none
  | k+1=>match licAt h j k with
    | some i=>some i
    | none=>if allowB h j (el h.lics k)=true then some k else none
def licOf (h:Hse) (j:Job):Option Nat:=licAt h j h.lics.length
def takeE (h:Hse) (j:Job):Int:=if ¬ inDesigns h j.design then 6 else if ¬ (aClient j.client∧(1≤j.n∧j.n≤400)) then 2 else if j.client≠ownerOf h j.design∧licOf h j=none then 102 else if 30≤h.orders.length then 9 else 0
def lessLic (l:Lic) (n:Int):Lic:={ l with left:=l.left-n }
def takeL (h:Hse) (j:Job):List Lic:=if j.client=ownerOf h j.design then h.lics else match licOf h j with
  | some k=>h.lics.set k (lessLic (el h.lics k) j.n)
  | none=>h.lics
def takeF (h:Hse) (j:Job):Hse:={ h with lics:=takeL h j,orders:=h.orders++[⟨j.client,j.design,j.n,false⟩] }
def withS (h:Hse) (s:Sto):Hse:={ h with store:=s }
def dieAct:Deed:=⟨1,0,0,0⟩
def engvE (h:Hse) (j:Job):Int:=if ¬ inDesigns h j.design then 6 else actE h.store dieAct
def engvF (h:Hse) (j:Job):Hse:={ h with store:=actF h.store dieAct,made:=h.made++[j.design] }
def workE (h:Hse) (j:Job):Int:=if j.act.kind=2∨j.act.kind=3∨j.act.kind=6∨j.act.kind=7 then actE h.store j.act else 2
def workF (h:Hse) (j:Job):Hse:={ h with store:=actF h.store j.act,made:=if j.act.kind=2 then h.made++[el h.made j.act.item.toNat] else h.made }
def prAct (j:Job):Deed:=⟨4,j.act.item,0,j.act.n⟩
def inMade (h:Hse) (i:Int):Prop:=0≤i∧i<(h.made.length:Int)
instance (h:Hse) (i:Int):Decidable (inMade h i):=by unfold inMade;infer_instance
def runE (h:Hse) (j:Job):Int :=
  if ¬ inOrders h j.order then 6 else if (el h.orders j.order.toNat).done=true then 103 else if ¬ inMade h j.act.item then 6 else if el h.made j.act.item.toNat≠(el h.orders j.order.toNat).design then 103
  else if actE h.store (prAct j)≠0 then actE h.store (prAct j) else if (el h.orders j.order.toNat).need<doneF h j.order 0+j.act.n then 103
  else if allowsF h.per h.store.life (el h.designs (el h.orders j.order.toNat).design.toNat)<(el h.store.items j.act.item.toNat).uses+j.act.n then 104 else 0
def runF (h:Hse) (j:Job):Hse:={ h with store:=actF h.store (prAct j),fors:=h.fors++List.replicate j.act.n.toNat j.order }
def giveP (h:Hse) (n:Int) (k:Nat):Prt:=if el h.fors k=n∧(el h.store.prints k).state=0 then ⟨(el h.store.prints k).plate,1⟩ else el h.store.prints k
def giveE (h:Hse) (j:Job):Int:=if ¬ inOrders h j.order then 6 else if (el h.orders j.order.toNat).done=false∧doneF h j.order 0=(el h.orders j.order.toNat).need then 0 else 103
def doneO (o:Ordr):Ordr:={ o with done:=true }
def giveF (h:Hse) (j:Job):Hse:={ h with store:={ h.store with prints:=(List.range h.store.prints.length).map (giveP h j.order) },orders:=h.orders.set j.order.toNat (doneO (el h.orders j.order.toNat)) }
def waitE (h:Hse) (j:Job):Int:=if (1≤j.n∧j.n≤10000)∧h.day+j.n≤10000 then 0 else 2
def waitF (h:Hse) (j:Job):Hse:={ h with day:=h.day+j.n }
def jobE (h:Hse) (j:Job):Int :=
  if j.kind=1 then archE h j else if j.kind=2 then licnE h j else if j.kind=3 then takeE h j else if j.kind=4 then engvE h j else if j.kind=5 then workE h j else if j.kind=6 then runE h j else if j.kind=7 then giveE h j else if j.kind=8 then waitE h j else 2
def jobF (h:Hse) (j:Job):Hse :=
  if j.kind=1 then archF h j else if j.kind=2 then licnF h j else if j.kind=3 then takeF h j else if j.kind=4 then engvF h j else if j.kind=5 then workF h j else if j.kind=6 then runF h j else if j.kind=7 then giveF h j else waitF h j
theorem hvalid_wait {h:Hse}{j:Job}(hV:HValid h) (he:waitE h j=0):HValid (waitF h j):=by
  unfold waitE at he
  have hd:(1≤j.n∧j.n≤10000)∧h.day+j.n≤10000:=Classical.byContradiction fun hn=>by rw [if_neg hn] at he;omega
  exact { hV with day:=by have:=hV.day;show 0≤h.day+j.n∧h.day+j.n≤10000;omega,lics:=hV.lics,made:=hV.made,fors:=hV.fors,orders:=hV.orders }
theorem licOk_more {h:Hse}{x:Dsn}{l:Lic}(hl:LicOk h l):LicOk { h with designs:=h.designs++[x] } l:=by
  obtain ⟨h1,h2,h3,h4⟩:=hl
  unfold inDesigns at h1
  refine ⟨?_,h2,?_,h4⟩
  · show 0≤l.design∧l.design<((h.designs++[x]).length:Int)
    rw [List.length_append,List.length_singleton]
    omega
  · show l.client≠(el (h.designs++[x]) l.design.toNat).owner
    rw [el_app_lt (by omega)]
    exact h3
theorem hvalid_arch {h:Hse}{j:Job}(hV:HValid h) (he:archE h j=0):HValid (archF h j):=by
  unfold archE at he
  split at he
  · omega
  · split at he
    · rename_i h1;exact (h1 he).elim
    · split at he
      · omega
      · split at he
        · omega
        · rename_i _ _ hg hn
          have hg:GoodD j.dsn:=Classical.byContradiction hg
          have hlen:(archF h j).designs.length=h.designs.length+1:=by show (h.designs++[j.dsn]).length=_;rw [List.length_append];rfl
          refine { per:=hV.per,day:=hV.day,store:=hV.store,few:=⟨by omega,hV.few.2⟩,designs:=fun i hi=>?_,lics:=fun i hi=>licOk_more (hV.lics i hi),mades:=hV.mades,made:=fun i hi=>?_,forss:=hV.forss,fors:=hV.fors,orders:=fun i hi=>?_ }
          · show GoodD (el (h.designs++[j.dsn]) i)
            by_cases e:i<h.designs.length
            · rw [el_app_lt e];exact hV.designs i e
            · rw [show i=h.designs.length by omega,el_snoc];exact hg
          · obtain ⟨h1,h2,h3⟩:=hV.made i hi
            unfold inDesigns at h1
            refine ⟨?_,h2,fun hk=>?_⟩
            · show 0≤el h.made i∧el h.made i<((archF h j).designs.length:Int)
              omega
            · show (el h.store.items i).uses≤allowsF h.per h.store.life (el (h.designs++[j.dsn]) (el h.made i).toNat)
              rw [el_app_lt (by omega)]
              exact h3 hk
          · obtain ⟨h1,h2,h3⟩:=hV.orders i hi
            unfold inDesigns at h2
            refine ⟨h1,?_,h3⟩
            show 0≤(el h.orders i).design∧(el h.orders i).design<((archF h j).designs.length:Int)
            omega
theorem hvalid_licn {h:Hse}{j:Job}(hV:HValid h) (he:licnE h j=0):HValid (licnF h j):=by
  unfold licnE at he
  split at he
  · omega
  · split at he
    · omega
    · split at he
      · omega
      · rename_i h1 h2 h3
        have h1:inDesigns h j.design:=Classical.byContradiction h1
        have h2:=Classical.byContradiction h2
        have hlen:(licnF h j).lics.length=h.lics.length+1:=by show (h.lics++[_]).length=_;rw [List.length_append];rfl
        have hday:=hV.day
        refine { per:=hV.per,day:=hV.day,store:=hV.store,few:=⟨hV.few.1,by omega,hV.few.2.2⟩,designs:=hV.designs,lics:=fun i hi=>?_,mades:=hV.mades,made:=hV.made,forss:=hV.forss,fors:=hV.fors,orders:=hV.orders }
        show LicOk (licnF h j) (el (h.lics++[⟨j.design,j.client,j.til,j.n⟩]) i)
        by_cases e:i<h.lics.length
        · rw [el_app_lt e];exact hV.lics i e
        · rw [show i=h.lics.length by omega,el_snoc]
          exact ⟨h1,h2.1,h2.2.1,by show 0≤j.til∧j.til≤10000;omega,by show 0≤j.n∧j.n≤400;omega⟩
theorem licAt_some {h:Hse}{j:Job}{i:Nat}:∀ {k:Nat},licAt h j k=some i→i<k∧allowB h j (el h.lics i)=true
  | 0,he=>by cases he
  | k+1,he=>by
    unfold licAt at he
    split at he
    · rename_i q hq
      cases he
      have:=licAt_some hq
      exact ⟨by omega,this.2⟩
    · split at he
      · rename_i hb
        cases he
        exact ⟨by omega,hb⟩
      · cases he
theorem doneTo_same {h t:Hse}{n st:Int}:∀ {k:Nat},(∀ j,j<k→el t.fors j=el h.fors j∧(el t.store.prints j).state=(el h.store.prints j).state)→doneTo t n st k=doneTo h n st k
  | 0,_=>rfl
  | k+1,hk=>by
    have ih:=doneTo_same (h:=h) (t:=t) (n:=n) (st:=st) (k:=k) fun j hj=>hk j (by omega)
    obtain ⟨h1,h2⟩:=hk k (by omega)
    unfold doneTo at ih ⊢
    cases hb:(decide (el h.fors k=n)&&decide ((el h.store.prints k).state=st))
    · rw [cntB_no (p:=fun j=>decide (el h.fors j=n)&&decide ((el h.store.prints j).state=st)) hb,cntB_no (p:=fun j=>decide (el t.fors j=n)&&decide ((el t.store.prints j).state=st)) (by rw [h1,h2];exact hb),ih]
    · rw [cntB_yes (p:=fun j=>decide (el h.fors j=n)&&decide ((el h.store.prints j).state=st)) hb,cntB_yes (p:=fun j=>decide (el t.fors j=n)&&decide ((el t.store.prints j).state=st)) (by rw [h1,h2];exact hb),ih]
theorem doneTo_none {h:Hse}{n st:Int}{k:Nat}(hk:∀ j,j<k→el h.fors j≠n):doneTo h n st k=0:=cntB_none fun j hj=>by
  rw [decide_eq_false (hk j hj)]
  rfl
theorem ordAt_same {h t:Hse}{i:Nat}(ho:el t.orders i=el h.orders i) (hd:h.designs.length≤t.designs.length) (h0:doneF t i 0=doneF h i 0) (h1:doneF t i 1=doneF h i 1) (hi:OrdAt h i):OrdAt t i:=by
  obtain ⟨a,b,c,d,e⟩:=hi
  unfold inDesigns at b
  refine ⟨by rw [ho];exact a,?_,by rw [ho];exact c,by rw [ho,h0,h1];exact d,by rw [ho,h0,h1];exact e⟩
  rw [ho]
  exact ⟨b.1,by omega⟩
theorem takeL_ok {h:Hse}{j:Job}(hV:HValid h) (hn:1≤j.n):(takeL h j).length=h.lics.length∧∀ i,i<(takeL h j).length→LicOk h (el (takeL h j) i):=by
  unfold takeL
  split
  · exact ⟨rfl,hV.lics⟩
  · split
    · rename_i k hk
      obtain ⟨h1,h2⟩:=licAt_some hk
      refine ⟨List.length_set,fun i hi=>?_⟩
      rw [List.length_set] at hi
      rw [el_setI h1]
      split
      · rename_i e
        obtain ⟨a,b,c,d,f⟩:=hV.lics k h1
        unfold allowB at h2
        rw [Bool.and_eq_true,Bool.and_eq_true,Bool.and_eq_true,decide_eq_true_iff,decide_eq_true_iff,decide_eq_true_iff,decide_eq_true_iff] at h2
        exact ⟨a,b,c,d,by show 0≤(el h.lics k).left-j.n∧(el h.lics k).left-j.n≤400;omega⟩
      · exact hV.lics i hi
    · exact ⟨rfl,hV.lics⟩
theorem hvalid_take {h:Hse}{j:Job}(hV:HValid h) (he:takeE h j=0):HValid (takeF h j):=by
  unfold takeE at he
  split at he
  · omega
  · split at he
    · omega
    · split at he
      · omega
      · split at he
        · omega
        · rename_i h1 h2 _ h4
          have h1:inDesigns h j.design:=Classical.byContradiction h1
          have h2:=Classical.byContradiction h2
          obtain ⟨l1,l2⟩:=takeL_ok hV h2.2.1
          have hlen:(takeF h j).orders.length=h.orders.length+1:=by show (h.orders++[_]).length=_;rw [List.length_append];rfl
          have hdone:∀ n st,doneF (takeF h j) n st=doneF h n st:=fun _ _=>rfl
          have hold:∀ i,i<h.orders.length→el (takeF h j).orders i=el h.orders i:=fun i hi=>el_app_lt hi
          refine { per:=hV.per,day:=hV.day,store:=hV.store,few:=⟨hV.few.1,by show (takeL h j).length≤20;rw [l1];exact hV.few.2.1,by omega⟩,designs:=hV.designs,lics:=l2,mades:=hV.mades,made:=hV.made,forss:=hV.forss,fors:=fun i hi=>?_,orders:=fun i hi=>?_ }
          · obtain ⟨a,b⟩:=hV.fors i hi
            unfold inOrders at a
            refine ⟨?_,?_⟩
            · show 0≤el h.fors i∧el h.fors i<((takeF h j).orders.length:Int)
              omega
            · rw [show (takeF h j).fors=h.fors from rfl,hold _ (by omega)]
              exact b
          · by_cases e:i<h.orders.length
            · exact ordAt_same (hold i e) (Nat.le_refl _) rfl rfl (hV.orders i e)
            · have hi2:i=h.orders.length:=by omega
              have hnone:∀ st,doneF (takeF h j) i st=0:=fun st=>doneTo_none fun q hq=>by
                have:=(hV.fors q hq).1.2
                show el h.fors q≠(i:Int)
                omega
              have hel:el (takeF h j).orders i=⟨j.client,j.design,j.n,false⟩:=by rw [hi2];exact el_snoc
              unfold OrdAt
              rw [hel,hnone,hnone]
              exact ⟨h2.1,h1,h2.2,(fun hd=>(by cases hd)),fun _=>⟨rfl,by show (0:Int)≤j.n;omega⟩⟩
theorem hvalid_engv {h:Hse}{j:Job}(hV:HValid h) (he:engvE h j=0):HValid (engvF h j):=by
  unfold engvE at he
  split at he
  · omega
  · rename_i h1
    have h1:inDesigns h j.design:=Classical.byContradiction h1
    have hs:actF h.store dieAct=addS h.store newDie:=rfl
    have hit:(engvF h j).store.items=h.store.items++[newDie]:=rfl
    have hml:(engvF h j).made=h.made++[j.design]:=rfl
    have hmm:=hV.mades
    refine { per:=hV.per,day:=hV.day,store:=valid_act hV.store he,few:=hV.few,designs:=hV.designs,lics:=hV.lics,mades:=by rw [hit,hml,List.length_append,List.length_append,hmm];rfl,made:=fun i hi=>?_,forss:=hV.forss,fors:=fun i hi=>?_,orders:=fun i hi=>ordAt_same rfl (Nat.le_refl _) rfl rfl (hV.orders i hi) }
    · rw [hit,List.length_append,List.length_singleton] at hi
      unfold MadeAt
      rw [hit,hml]
      by_cases e:i<h.store.items.length
      · obtain ⟨a,b,c⟩:=hV.made i e
        have hsrc:=hV.store.2.1 i e
        unfold Made at hsrc
        rw [el_app_lt e,el_app_lt (by omega)]
        refine ⟨a,fun hk=>?_,c⟩
        rw [el_app_lt (by omega)]
        exact b hk
      · have e2:i=h.store.items.length:=by omega
        rw [e2,el_snoc,← hmm,el_snoc]
        exact ⟨h1,fun hk=>absurd rfl hk,fun hk=>absurd hk (by decide)⟩
    · obtain ⟨a,b⟩:=hV.fors i hi
      refine ⟨a,?_⟩
      have hp:=(hV.store.2.2.2.1 i (by have:=hV.forss;show i<h.store.prints.length;have hi:i<h.fors.length:=hi;omega)).1
      show (el h.orders (el h.fors i).toNat).design=el (h.made++[j.design]) (el h.store.prints i).plate.toNat
      rw [el_app_lt (by omega)]
      exact b
theorem valid_states {s t:Sto}(hV:Valid s) (hl:t.life=s.life) (hi:t.items=s.items) (hn:t.prints.length=s.prints.length) (hp:∀ j,j<s.prints.length→(el t.prints j).plate=(el s.prints j).plate∧(el t.prints j).state≤2):Valid t:=by
  obtain ⟨h1,h2,h3,h4,h5⟩:=hV
  unfold Few at h1
  refine ⟨⟨by rw [hl];exact h1.1,by rw [hi];exact h1.2.1,by rw [hn];exact h1.2.2⟩,by rw [hi];exact h2,by rw [hi];exact h3,fun j hj=>?_,fun i hlt=>?_⟩
  · rw [hn] at hj
    obtain ⟨q1,q2,q3⟩:=h4 j hj
    obtain ⟨e1,e2⟩:=hp j hj
    rw [hi]
    exact ⟨by rw [e1];exact q1,by rw [e1];exact q2,e2⟩
  · rw [hi] at hlt
    obtain ⟨u1,u2⟩:=h5 i hlt
    rw [show UsedOk t i↔UsedOk s i from ?_]
    · exact ⟨u1,u2⟩
    · unfold UsedOk usedS
      rw [hi,hl,hn,usedP_same fun j hj=>(hp j hj).1]
theorem give_len {h:Hse}{j:Job}:(giveF h j).store.prints.length=h.store.prints.length:=by
  show ((List.range h.store.prints.length).map (giveP h j.order)).length=_
  simp
theorem give_el {h:Hse}{j:Job}{k:Nat}(hk:k<h.store.prints.length):el (giveF h j).store.prints k=giveP h j.order k:=by
  show el ((List.range h.store.prints.length).map (giveP h j.order)) k=_
  rw [el_map_range hk]
theorem give_other {h:Hse}{j:Job}{n st:Int}(hn:n≠j.order):∀ {k:Nat},k≤h.store.prints.length→doneTo (giveF h j) n st k=doneTo h n st k
  | 0,_=>rfl
  | k+1,hk=>by
    have ih:=give_other (h:=h) (j:=j) (st:=st) hn (k:=k) (by omega)
    unfold doneTo at ih ⊢
    by_cases hf:el h.fors k=n
    · have he:el (giveF h j).store.prints k=el h.store.prints k:=by
        rw [give_el (by omega)]
        unfold giveP
        rw [if_neg (by omega)]
      cases hb:(decide (el h.fors k=n)&&decide ((el h.store.prints k).state=st))
      · rw [cntB_no (p:=fun q=>decide (el h.fors q=n)&&decide ((el h.store.prints q).state=st)) hb,cntB_no (p:=fun q=>decide (el (giveF h j).fors q=n)&&decide ((el (giveF h j).store.prints q).state=st)) (by rw [he];exact hb),ih]
      · rw [cntB_yes (p:=fun q=>decide (el h.fors q=n)&&decide ((el h.store.prints q).state=st)) hb,cntB_yes (p:=fun q=>decide (el (giveF h j).fors q=n)&&decide ((el (giveF h j).store.prints q).state=st)) (by rw [he];exact hb),ih]
    · rw [cntB_no (p:=fun q=>decide (el h.fors q=n)&&decide ((el h.store.prints q).state=st)) (by rw [decide_eq_false hf];rfl),cntB_no (p:=fun q=>decide (el (giveF h j).fors q=n)&&decide ((el (giveF h j).store.prints q).state=st)) (by rw [show el (giveF h j).fors k=el h.fors k from rfl,decide_eq_false hf];rfl),ih]
theorem give_own {h:Hse}{j:Job}:∀ {k:Nat},k≤h.store.prints.length→doneTo (giveF h j) j.order 0 k=0∧doneTo (giveF h j) j.order 1 k=doneTo h j.order 0 k+doneTo h j.order 1 k
  | 0,_=>⟨rfl,rfl⟩
  | k+1,hk=>by
    obtain ⟨i0,i1⟩:=give_own (h:=h) (j:=j) (k:=k) (by omega)
    unfold doneTo at i0 i1 ⊢
    have hel:=give_el (h:=h) (j:=j) (show k<h.store.prints.length by omega)
    by_cases hf:el h.fors k=j.order
    · have hf':el (giveF h j).fors k=j.order:=hf
      by_cases h0:(el h.store.prints k).state=0
      · have he:(el (giveF h j).store.prints k).state=1:=by rw [hel];unfold giveP;rw [if_pos ⟨hf,h0⟩]
        rw [cntB_no (p:=fun q=>decide (el (giveF h j).fors q=j.order)&&decide ((el (giveF h j).store.prints q).state=0)) (by rw [he];simp),
          cntB_yes (p:=fun q=>decide (el (giveF h j).fors q=j.order)&&decide ((el (giveF h j).store.prints q).state=1)) (by rw [he,hf'];simp),
          cntB_yes (p:=fun q=>decide (el h.fors q=j.order)&&decide ((el h.store.prints q).state=0)) (by rw [hf,h0];simp),
          cntB_no (p:=fun q=>decide (el h.fors q=j.order)&&decide ((el h.store.prints q).state=1)) (by rw [h0];simp)]
        omega
      · have he:(el (giveF h j).store.prints k).state=(el h.store.prints k).state:=by rw [hel];unfold giveP;rw [if_neg (fun q=>h0 q.2)]
        rw [cntB_no (p:=fun q=>decide (el (giveF h j).fors q=j.order)&&decide ((el (giveF h j).store.prints q).state=0)) (by rw [he,decide_eq_false h0,Bool.and_false]),
          cntB_no (p:=fun q=>decide (el h.fors q=j.order)&&decide ((el h.store.prints q).state=0)) (by rw [decide_eq_false h0,Bool.and_false])]
        by_cases h1:(el h.store.prints k).state=1
        · rw [cntB_yes (p:=fun q=>decide (el (giveF h j).fors q=j.order)&&decide ((el (giveF h j).store.prints q).state=1)) (by rw [he,hf',h1];simp),
            cntB_yes (p:=fun q=>decide (el h.fors q=j.order)&&decide ((el h.store.prints q).state=1)) (by rw [hf,h1];simp)]
          omega
        · rw [cntB_no (p:=fun q=>decide (el (giveF h j).fors q=j.order)&&decide ((el (giveF h j).store.prints q).state=1)) (by rw [he,decide_eq_false h1,Bool.and_false]),
            cntB_no (p:=fun q=>decide (el h.fors q=j.order)&&decide ((el h.store.prints q).state=1)) (by rw [decide_eq_false h1,Bool.and_false])]
          omega
    · have hf':¬ el (giveF h j).fors k=j.order:=hf
      rw [cntB_no (p:=fun q=>decide (el (giveF h j).fors q=j.order)&&decide ((el (giveF h j).store.prints q).state=0)) (by rw [decide_eq_false hf',Bool.false_and]),
        cntB_no (p:=fun q=>decide (el (giveF h j).fors q=j.order)&&decide ((el (giveF h j).store.prints q).state=1)) (by rw [decide_eq_false hf',Bool.false_and]),
        cntB_no (p:=fun q=>decide (el h.fors q=j.order)&&decide ((el h.store.prints q).state=0)) (by rw [decide_eq_false hf,Bool.false_and]),
        cntB_no (p:=fun q=>decide (el h.fors q=j.order)&&decide ((el h.store.prints q).state=1)) (by rw [decide_eq_false hf,Bool.false_and])]
      omega
theorem hvalid_give {h:Hse}{j:Job}(hV:HValid h) (he:giveE h j=0):HValid (giveF h j):=by
  unfold giveE at he
  split at he
  · omega
  · split at he
    · rename_i h1 h2
      have h1:inOrders h j.order:=Classical.byContradiction h1
      unfold inOrders at h1
      have hk:j.order.toNat<h.orders.length:=by omega
      have hff:=hV.forss
      have hlen:(giveF h j).orders.length=h.orders.length:=List.length_set
      have hel:∀ i,el (giveF h j).orders i=if i=j.order.toNat then doneO (el h.orders j.order.toNat) else el h.orders i:=fun i=>el_setI hk
      have hds:∀ i,(el (giveF h j).orders i).design=(el h.orders i).design:=fun i=>by
        rw [hel]
        split
        · rename_i e;rw [e];rfl
        · rfl
      have hpl:∀ i,i<h.store.prints.length→(el (giveF h j).store.prints i).plate=(el h.store.prints i).plate:=fun i hi=>by
        rw [give_el hi]
        unfold giveP
        split<;>rfl
      refine { per:=hV.per,day:=hV.day,store:=valid_states hV.store rfl rfl give_len (fun i hi=>⟨hpl i hi,?_⟩),few:=⟨hV.few.1,hV.few.2.1,by rw [hlen];exact hV.few.2.2⟩,designs:=hV.designs,lics:=hV.lics,mades:=hV.mades,made:=hV.made,forss:=by rw [give_len];exact hff,fors:=fun i hi=>?_,orders:=fun i hi=>?_ }
      · rw [give_el hi]
        have:=(hV.store.2.2.2.1 i hi).2.2
        unfold giveP
        split
        · show (1:Int)≤2;omega
        · exact this
      · have hi2:i<h.fors.length:=hi
        obtain ⟨a,b⟩:=hV.fors i hi2
        refine ⟨?_,?_⟩
        · show 0≤el h.fors i∧el h.fors i<((giveF h j).orders.length:Int)
          rw [hlen]
          exact a
        · rw [hds,show (giveF h j).fors=h.fors from rfl,hpl i (by omega)]
          exact b
      · rw [hlen] at hi
        by_cases e:i=j.order.toNat
        · subst e
          have hcast:((j.order.toNat:Nat):Int)=j.order:=by omega
          obtain ⟨a,b,c,d,f⟩:=hV.orders _ hi
          have hown:=give_own (h:=h) (j:=j) (k:=h.fors.length) (by omega)
          have h3:=(f h2.1).1
          unfold doneF at h3 h2
          rw [hcast] at h3
          have g0:doneF (giveF h j) ((j.order.toNat:Nat):Int) 0=0:=by rw [hcast];exact hown.1
          have g1:doneF (giveF h j) ((j.order.toNat:Nat):Int) 1=(el h.orders j.order.toNat).need:=by
            rw [hcast]
            refine hown.2.trans ?_
            rw [h3,h2.2]
            omega
          unfold OrdAt
          rw [g0,g1,hel,if_pos rfl]
          exact ⟨a,b,c,fun _=>⟨rfl,rfl⟩,(fun hd=>(by cases hd))⟩
        · have hne:(i:Int)≠j.order:=by omega
          exact ordAt_same (h:=h) (t:=giveF h j) (by rw [hel,if_neg e]) (Nat.le_refl _) (give_other (k:=h.fors.length) hne (by omega)) (give_other (k:=h.fors.length) hne (by omega)) (hV.orders i hi)
    · omega
theorem print_ok {s:Sto}{i n:Int}(h:printE s i n=0):hereB s i∧(el s.items i.toNat).kind=3∧1≤n∧(el s.items i.toNat).uses+n≤s.life∧(s.prints.length:Int)+n≤400:=by
  unfold printE at h
  split at h
  · rename_i hh
    split at h
    · omega
    · rename_i h2
      split at h
      · omega
      · split at h
        · omega
        · exact ⟨hh,by omega,by omega,by omega,by omega⟩
  · omega
theorem run_ok {h:Hse}{j:Job}(he:runE h j=0):inOrders h j.order∧(el h.orders j.order.toNat).done=false∧inMade h j.act.item∧el h.made j.act.item.toNat=(el h.orders j.order.toNat).design∧printE h.store j.act.item j.act.n=0∧doneF h j.order 0+j.act.n≤(el h.orders j.order.toNat).need∧(el h.store.items j.act.item.toNat).uses+j.act.n≤allowsF h.per h.store.life (el h.designs (el h.orders j.order.toNat).design.toNat):=by
  unfold runE at he
  split at he
  · omega
  · rename_i h1
    split at he
    · omega
    · rename_i h2
      split at he
      · omega
      · rename_i h3
        split at he
        · omega
        · rename_i h4
          split at he
          · rename_i h5;exact (h5 he).elim
          · rename_i h5
            split at he
            · omega
            · split at he
              · omega
              · exact ⟨Classical.byContradiction h1,by simpa using h2,Classical.byContradiction h3,Classical.byContradiction h4,Classical.byContradiction h5,by omega,by omega⟩
theorem run_done {h:Hse}{j:Job}(hf:h.fors.length=h.store.prints.length) (m st:Int):∀ {k:Nat},k≤j.act.n.toNat→doneTo (runF h j) m st (h.fors.length+k)=doneF h m st+(if m=j.order∧st=0 then (k:Int) else 0)
  | 0,_=>by
    have:doneTo (runF h j) m st h.fors.length=doneF h m st:=doneTo_same (h:=h) (t:=runF h j) fun q hq=>by
      refine ⟨el_app_lt hq,?_⟩
      show (el (h.store.prints++List.replicate j.act.n.toNat (⟨j.act.item,0⟩:Prt)) q).state=_
      rw [el_app_lt (by omega)]
    rw [Nat.add_zero,this]
    split<;>simp
  | k+1,hk=>by
    have ih:=run_done (h:=h) (j:=j) hf m st (k:=k) (by omega)
    have e1:el (runF h j).fors (h.fors.length+k)=j.order:=by
      show el (h.fors++List.replicate j.act.n.toNat j.order) _=_
      rw [el_eq (show h.fors.length+k<(h.fors++List.replicate j.act.n.toNat j.order).length by rw [List.length_append,List.length_replicate];omega),List.getElem_append_right (by omega),List.getElem_replicate]
    have e2:el (runF h j).store.prints (h.fors.length+k)=(⟨j.act.item,0⟩:Prt):=by
      show el (h.store.prints++List.replicate j.act.n.toNat (⟨j.act.item,0⟩:Prt)) _=_
      rw [el_eq (show h.fors.length+k<(h.store.prints++List.replicate j.act.n.toNat (⟨j.act.item,0⟩:Prt)).length by rw [List.length_append,List.length_replicate];omega),List.getElem_append_right (by omega),List.getElem_replicate]
    unfold doneTo at ih ⊢
    rw [← Nat.add_assoc]
    by_cases hc:m=j.order∧st=0
    · rw [if_pos hc] at ih ⊢
      rw [cntB_yes (p:=fun q=>decide (el (runF h j).fors q=m)&&decide ((el (runF h j).store.prints q).state=st)) (by rw [e1,e2,hc.1,hc.2];simp),ih]
      omega
    · rw [if_neg hc] at ih ⊢
      rw [cntB_no (p:=fun q=>decide (el (runF h j).fors q=m)&&decide ((el (runF h j).store.prints q).state=st)) (by
        rw [e1,e2]
        by_cases h1:m=j.order
        · have h2:¬ st=0:=fun h2=>hc ⟨h1,h2⟩
          rw [decide_eq_false (show ¬ (⟨j.act.item,0⟩:Prt).state=st from fun q=>h2 q.symm),Bool.and_false]
        · rw [decide_eq_false (fun q=>h1 q.symm),Bool.false_and]),ih]
theorem hvalid_run {h:Hse}{j:Job}(hV:HValid h) (he:runE h j=0):HValid (runF h j):=by
  obtain ⟨h1,h2,h3,h4,h5,h6,h7⟩:=run_ok he
  obtain ⟨p1,p2,p3,p4,p5⟩:=print_ok h5
  have hE:actE h.store (prAct j)=0:=h5
  have hmm:=hV.mades
  have hff:=hV.forss
  have hi0:=p1.1
  have hk:j.act.item.toNat<h.store.items.length:=by omega
  have hit:(runF h j).store.items=h.store.items.set j.act.item.toNat (used1 (el h.store.items j.act.item.toNat) j.act.n):=rfl
  have hpr:(runF h j).store.prints=h.store.prints++List.replicate j.act.n.toNat ⟨j.act.item,0⟩:=rfl
  have hfo:(runF h j).fors=h.fors++List.replicate j.act.n.toNat j.order:=rfl
  have hfl:(runF h j).fors.length=h.fors.length+j.act.n.toNat:=by rw [hfo,List.length_append,List.length_replicate]
  have hdn:∀ m st,doneF (runF h j) m st=doneF h m st+(if m=j.order∧st=0 then (j.act.n.toNat:Int) else 0):=fun m st=>by
    unfold doneF
    rw [hfl]
    exact run_done hff m st (Nat.le_refl _)
  refine { per:=hV.per,day:=hV.day,store:=valid_act hV.store hE,few:=hV.few,designs:=hV.designs,lics:=hV.lics,mades:=by rw [hit,List.length_set];exact hmm,made:=fun i hi=>?_,forss:=by rw [hfl,hpr,List.length_append,List.length_replicate,hff],fors:=fun i hi=>?_,orders:=fun i hi=>?_ }
  · rw [hit,List.length_set] at hi
    obtain ⟨a,b,c⟩:=hV.made i hi
    unfold MadeAt
    rw [hit,el_setI hk]
    by_cases e:i=j.act.item.toNat
    · rw [if_pos e]
      subst e
      exact ⟨a,b,fun _=>by rw [show (runF h j).made=h.made from rfl,h4];exact h7⟩
    · rw [if_neg e]
      exact ⟨a,b,c⟩
  · rw [hfl] at hi
    by_cases e:i<h.fors.length
    · obtain ⟨a,b⟩:=hV.fors i e
      unfold ForAt
      rw [hfo,hpr,el_app_lt e,el_app_lt (by omega)]
      exact ⟨a,b⟩
    · have e1:el (h.fors++List.replicate j.act.n.toNat j.order) i=j.order:=by
        rw [el_eq (show i<(h.fors++List.replicate j.act.n.toNat j.order).length by rw [List.length_append,List.length_replicate];omega),List.getElem_append_right (by omega),List.getElem_replicate]
      have e2:el (h.store.prints++List.replicate j.act.n.toNat (⟨j.act.item,0⟩:Prt)) i=⟨j.act.item,0⟩:=by
        rw [el_eq (show i<(h.store.prints++List.replicate j.act.n.toNat (⟨j.act.item,0⟩:Prt)).length by rw [List.length_append,List.length_replicate];omega),List.getElem_append_right (by omega),List.getElem_replicate]
      unfold ForAt
      rw [hfo,hpr,e1,e2]
      exact ⟨h1,h4.symm⟩
  · obtain ⟨a,b,c,d,f⟩:=hV.orders i hi
    unfold OrdAt
    rw [hdn,hdn]
    rw [if_neg (fun q:(i:Int)=j.order∧(1:Int)=0=>absurd q.2 (by decide)),Int.add_zero]
    by_cases e:(i:Int)=j.order
    · have e3:i=j.order.toNat:=by omega
      rw [if_pos ⟨e,rfl⟩]
      refine ⟨a,b,c,fun hd=>?_,fun hd=>⟨(f hd).1,?_⟩⟩
      · exfalso
        have hd:(el h.orders i).done=true:=hd
        rw [e3,h2] at hd
        cases hd
      · show doneF h i 0+(j.act.n.toNat:Int)≤(el h.orders i).need
        rw [e,e3]
        omega
    · rw [if_neg (fun q=>e q.1),Int.add_zero]
      exact ⟨a,b,c,d,f⟩
end Go.Proofs.YtbilpbabdgfblaaGreat
namespace Go.Proofs.YtbilpbabdgfblaaGreat
open Go.ChangeShapes Go.WideShapes Go.ChangeAt Go.RowKit Go.Deep
structure Mk where
  x:Int
  y:Int
instance:Inhabited Mk:=⟨⟨0,0⟩⟩
structure Bx where
  lx:Int
  ly:Int
  hx:Int
  hy:Int
def Mk.enc (m:Mk):V:=.agg [vi m.x,vi m.y]
def Mk.wf (m:Mk):Prop:=i64ok m.x∧i64ok m.y
def Bx.enc (b:Bx):V:=.agg [vi b.lx,vi b.ly,vi b.hx,vi b.hy]
theorem from1_p (lo hi x:Int):PCalls Tryz.prog 59 [vi lo,vi hi,encInts [x]] (·=vb (withinB x lo hi)):=(from_p lo hi [x]).mono fun v hv=>by rw [hv];simp [fromB]
theorem proofErr_check {s:Sheet}{b:List (List Int)}{g:Int}(h:checkErr s b≠0):proofErr s b g=checkErr s b:=by simp [proofErr,h]
theorem proofErr_arg {s:Sheet}{b:List (List Int)}{g:Int}(h:checkErr s b=0) (h2:withinB g 0 20=false):proofErr s b g=2:=by simp [proofErr,h,h2]
theorem proofErr_ok {s:Sheet}{b:List (List Int)}{g:Int}(h:checkErr s b=0) (h2:withinB g 0 20=true):proofErr s b g=0:=by simp [proofErr,h,h2]
theorem proofF_bad {s:Sheet}{b:List (List Int)}{g:Int}{m:Bool}(h:proofErr s b g≠0):proofF s b g m=[]:=by simp [proofF,h]
theorem proofF_ok {s:Sheet}{b:List (List Int)}{g:Int}{m:Bool}(h:proofErr s b g=0):proofF s b g m=proofTo s b g m (s.rows.toNat*s.cols.toNat):=by simp [proofF,h]
theorem pCol_int {s:Sheet}{m:Bool}{c:Nat}(h:c<s.cols.toNat):(pCol s m c:Int)=if m=true then s.cols-1-c else (c:Int):=by unfold pCol;split<;>omega
theorem lProof_p (s:Sheet) (b:List (List Int)) (g:Int) (m:Bool):PCalls Tryz.prog 30 [s.enc,encRows b,vi g,vb m] (·=.tup [encBools (proofF s b g m),vi (proofErr s b g)]):=by
  by_cases hce:checkErr s b=0
  · cases hok:withinB g 0 20
    · have he:=proofErr_arg hce hok
      rw [proofF_bad (by omega),he]
      refine pcalls_of_aw Tryz.func30 rfl (dc rfl) ?_
      (repeat' (first|(refine ar_isq ?_;refine zq ?_)|(refine zpv fn58 (check_p s b) ?_)|(refine ar_pcall (own:=true) fn59 rfl rfl (.cons (.closed rfl) (.cons (.closed rfl) (.cons (.lent rfl rfl (by omega) (fun _ _=>rfl) (fun k hk=>match k,hk with|0,_=>rfl)) .nil))) (from1_p 0 20 g) (by intros;subst_vars;rfl) (dc rfl) ?_;intro _ hv;subst hv)|refine zst ?_|refine zco ?_ ?_|exact zd|(refine fun (hg:(_:Prop))=>?_;(try replace hg:=HG.out hg);(try dsimp only at hg);(try (have _h:True:=hg;clear _h hg)))))
      all_goals first
        | (exfalso;simp_all;done)
        | ((refine aw_mono_r (env':=[(8,encBools []),(9,vi 2)]) (H':=[]) ?_ ?_;(focus (exact zsb [] [])));(refine aw_ret ?_;(repeat (first|refine ret_then ?_|refine ret_block ?_));refine bq2 rfl rfl ⟨?_,rfl⟩);rfl)
    · have he:=proofErr_ok hce hok
      rw [proofF_ok he,he]
      obtain ⟨hs,h12,hl⟩:=band_of_check hce
      have hbd:=Sheet.bounds hs
      have hgb:=withinB_iff.1 hok
      have hN:s.rows.toNat*s.cols.toNat≤60*40:=Nat.mul_le_mul (by omega) (by omega)
      have hmk:s.cols*s.rows=((s.rows.toNat*s.cols.toNat:Nat):Int):=by
        rw [Int.natCast_mul,Int.toNat_of_nonneg (by omega),Int.toNat_of_nonneg (by omega),Int.mul_comm]
      have hq:∀ (r c:Nat),r<s.rows.toNat→c<s.cols.toNat→r*s.cols.toNat+c<s.rows.toNat*s.cols.toNat:=fun r c hr hc=>by
        have h1:(r+1)*s.cols.toNat≤s.rows.toNat*s.cols.toNat:=Nat.mul_le_mul_right _ hr
        rw [Nat.add_mul,Nat.one_mul] at h1
        omega
      have hmu:∀ r:Nat,(r:Int)*s.cols=((r*s.cols.toNat:Nat):Int):=fun r=>by rw [Int.natCast_mul,Int.toNat_of_nonneg (by omega)]
      have hdiv:∀ j,j<s.rows.toNat*s.cols.toNat→((j/s.cols.toNat:Nat):Int)<s.rows:=fun j hj=>by
        have:=(Nat.div_lt_iff_lt_mul (show 0<s.cols.toNat by omega)).2 hj
        omega
      refine pcalls_of_aw Tryz.func30 rfl (dc rfl) ?_
      (repeat' (first|(refine ar_isq ?_;refine zq ?_)|(refine zpv fn58 (check_p s b) ?_)|(refine ar_pcall (own:=true) fn59 rfl rfl (.cons (.closed rfl) (.cons (.closed rfl) (.cons (.lent rfl rfl (by omega) (fun _ _=>rfl) (fun k hk=>match k,hk with|0,_=>rfl)) .nil))) (from1_p 0 20 g) (by intros;subst_vars;rfl) (dc rfl) ?_;intro _ hv;subst hv)|(refine ar_make_v (n:=s.rows.toNat*s.cols.toNat) (ty rfl) rfl (ty rfl) rfl rfl (by omega) (by omega) (dc rfl) rfl rfl (by dsimp only;omega) (maxLen_ok (by omega)) ?_)|refine zst ?_|refine zco ?_ ?_|exact zd|(refine fun (hg:(_:Prop))=>?_;(try replace hg:=HG.out hg);(try dsimp only at hg);(try (have _h:True:=hg;clear _h hg)))))
      all_goals (try (exfalso;simp_all;done))
      refine aw_for b.length (fun _=>True) (fun i=>[(1,encRows b),(2,vi g),(3,vb m),(4,.ptr 5 0 0 0),(11,.sl 1 1 0 (s.rows.toNat*s.cols.toNat)),(33,encRows b),(34,vi b.length),(35,vi i)]) (fun i=>[.arr 5 1 (fun _=>s.enc),.arr 1 (s.rows.toNat*s.cols.toNat) (fun j=>vb (stLine s b g m i j))]) trivial ?_ ?_
      · (exact zsb [some 0,some 2] [])
      intro i hi _
      by_cases hlti:i<b.length
      · have hli:=of_all_el hl hlti
        have hln:=isLine_len hli
        (repeat' (first|(refine ar_isq ?_;refine zq ?_)|refine zst ?_|refine zco ?_ ?_|exact zd|(refine fun (hg:(_:Prop))=>?_;(try replace hg:=HG.out hg);(try dsimp only at hg);(try (have _h:True:=hg;clear _h hg)))))
        all_goals (try (exfalso;omega))
        refine aw_for (el b i).length (fun _=>True) (fun c=>[(1,encRows b),(2,vi g),(3,vb m),(4,.ptr 5 0 0 0),(11,.sl 1 1 0 (s.rows.toNat*s.cols.toNat)),(33,encRows b),(34,vi b.length),(35,vi i),(39,encInts (el b i)),(40,vi (el b i).length),(41,vi c)]) (fun c=>[.arr 5 1 (fun _=>s.enc),.arr 1 (s.rows.toNat*s.cols.toNat) (fun j=>vb (stCol s b g m i c j))]) trivial ?_ ?_
        · (refine sub_to [some 0,some 1] [] rfl ?_ ?_<;>(repeat' (first|exact trivial|refine ⟨⟨_,rfl,?_⟩,?_⟩|refine vs1 ?_ ?_|refine vs2 ?_ ?_|refine vs3 ?_|refine vs4 ?_ ?_|refine ⟨.inl ⟨_,_,rfl,rfl,?_⟩,?_⟩|exact ⟨.inr ⟨rfl,rfl⟩,trivial⟩|refine ⟨.inr ⟨rfl,rfl⟩,?_⟩|(intro _ _)|exact vz1|(exact VSub.of_eq (congrArg vb (stCol_zero _ _ _ _ _ _).symm) rfl)|exact vz2|fail)))
        intro c hc _
        by_cases hltc:c<(el b i).length
        · have hlc:=isLine_at hli hltc
          have hcc:c<s.cols.toNat:=by omega
          have hpcT:m=true→(pCol s m c:Int)=s.cols-1-c:=fun h=>by rw [pCol_int hcc,if_pos h]
          have hpcF:m=false→(pCol s m c:Int)=c:=fun h=>by rw [pCol_int hcc,if_neg (by simp [h])]
          have hpl:=pCol_lt (m:=m) hcc
          obtain ⟨R0,hR0⟩:∃ R0:Nat,(R0:Int)=max (el (el b i) c-g) 0:=⟨(max (el (el b i) c-g) 0).toNat,by omega⟩
          obtain ⟨cnt,hcnt⟩:∃ cnt:Nat,((R0+cnt:Nat):Int)=min (el (el b i) c+s.weight-1+g) (s.rows-1)+1:=⟨(min (el (el b i) c+s.weight-1+g) (s.rows-1)+1-R0).toNat,by omega⟩
          have hstart:∀ j,vb (stCol s b g m i c j)=vb (stRow s b g m i c (R0+0) j):=fun j=>congrArg vb (stRow_zero (by omega)).symm
          (repeat' (first|(refine ar_isq ?_;refine zq ?_)|refine zil (j:=c) ?_|refine zis (j:=c) ?_|refine zit (j:=c) ?_|refine zst ?_|refine zco ?_ ?_|exact zd|(refine fun (hg:(_:Prop))=>?_;(try replace hg:=HG.out hg);(try dsimp only at hg);(try (have _h:True:=hg;clear _h hg)))))
          all_goals (try (exfalso;omega))
          all_goals
            refine aw_for cnt (fun _=>True) (fun k=>[(1,encRows b),(2,vi g),(3,vb m),(4,.ptr 5 0 0 0),(11,.sl 1 1 0 (s.rows.toNat*s.cols.toNat)),(33,encRows b),(34,vi b.length),(35,vi i),(39,encInts (el b i)),(40,vi (el b i).length),(41,vi c),(14,vi (pCol s m c)),(15,vi (el (el b i) c)),(16,vi ((R0+k:Nat):Int))]) (fun k=>[.arr 5 1 (fun _=>s.enc),.arr 1 (s.rows.toNat*s.cols.toNat) (fun j=>vb (stRow s b g m i c (R0+k) j))]) trivial ?_ ?_
            · (refine sub_to [some 0,some 1] [] rfl ?_ ?_<;>(repeat' (first|exact trivial|refine ⟨⟨_,rfl,?_⟩,?_⟩|refine vs1 ?_ ?_|refine vs2 ?_ ?_|refine vs3 ?_|refine vs4 ?_ ?_|refine ⟨.inl ⟨_,_,rfl,rfl,?_⟩,?_⟩|exact ⟨.inr ⟨rfl,rfl⟩,trivial⟩|refine ⟨.inr ⟨rfl,rfl⟩,?_⟩|(intro _ _)|exact vz1|(first|exact siEq (by omega)|exact siEq (by have:=hpcT (by assumption);omega)|exact siEq (by have:=hpcF (by assumption);omega)|exact VSub.of_eq (hstart _) rfl)|exact vz2|fail)))
            intro k hk _
            by_cases hltk:k<cnt
            · have hrk:R0+k<s.rows.toNat:=by omega
              have hidx:=hq (R0+k) (pCol s m c) hrk hpl
              have hm2:=hmu (R0+k)
              have hst:∀ j,_:=fun j=>stRow_succ (s:=s) (b:=b) (g:=g) (m:=m) (i:=i) (c:=c) (r:=R0+k) (j:=j) hcc (by omega) (by omega)
              have hst1:vb (stRow s b g m i c (R0+k+1) ((R0+k)*s.cols.toNat+pCol s m c))=vb true:=by rw [← hst];simp
              have hst2:∀ j,j≠(R0+k)*s.cols.toNat+pCol s m c→vb (stRow s b g m i c (R0+k+1) j)=vb (stRow s b g m i c (R0+k) j):=fun j hj=>by
                rw [← hst,show Nat.beq j ((R0+k)*s.cols.toNat+pCol s m c)=false by cases q:Nat.beq j ((R0+k)*s.cols.toNat+pCol s m c) with|false=>rfl|true=>exact (hj (Nat.eq_of_beq_eq_true q)).elim]
                rfl
              (repeat' (first|(refine ar_isq ?_;refine zq ?_)|refine zil (j:=(R0+k)*s.cols.toNat+pCol s m c) ?_|refine zis (j:=(R0+k)*s.cols.toNat+pCol s m c) ?_|refine zit (j:=(R0+k)*s.cols.toNat+pCol s m c) ?_|(refine ar_store_as (fun j=>vb (stRow s b g m i c (R0+k+1) j)) (ty rfl) rfl rfl rfl rfl rfl rfl (by omega) (by dsimp only;omega) (fun _ h=>by cases h) rfl rfl (fun _ h=>by cases h) hst1 (fun j _ hj=>hst2 j hj) ?_)|refine zst ?_|refine zco ?_ ?_|exact zd|(refine fun (hg:(_:Prop))=>?_;(try replace hg:=HG.out hg);(try dsimp only at hg);(try (have _h:True:=hg;clear _h hg)))))
              all_goals first
                | (exfalso;omega)
                | ((first|refine loop_next (by omega) ?_ ?_|refine (show _∧_∧SubOf _ _ _ _ _ _ from And.intro (by omega) (And.intro ?_ ?_)));(focus ((trivial);done));(focus (exact zsb [some 0,some 1] [])))
            · (repeat' (first|(refine ar_isq ?_;refine zq ?_)|refine zst ?_|refine zco ?_ ?_|exact zd|(refine fun (hg:(_:Prop))=>?_;(try replace hg:=HG.out hg);(try dsimp only at hg);(try (have _h:True:=hg;clear _h hg)))))
              all_goals first
                | (exfalso;omega)
                | ((first|refine loop_next (by omega) ?_ ?_|refine (show _∧_∧SubOf _ _ _ _ _ _ from And.intro (by omega) (And.intro ?_ ?_)));(focus ((trivial);done));(focus ((refine sub_to [some 0,some 1] [] rfl ?_ ?_<;>(repeat' (first|exact trivial|refine ⟨⟨_,rfl,?_⟩,?_⟩|refine vs1 ?_ ?_|refine vs2 ?_ ?_|refine vs3 ?_|refine vs4 ?_ ?_|refine ⟨.inl ⟨_,_,rfl,rfl,?_⟩,?_⟩|exact ⟨.inr ⟨rfl,rfl⟩,trivial⟩|refine ⟨.inr ⟨rfl,rfl⟩,?_⟩|(intro _ _)|exact vz1|(exact VSub.of_eq (congrArg vb (stRow_end (hdiv _ (by assumption)) (by omega))) rfl)|exact vz2|fail)));done)))
        · (repeat' (first|(refine ar_isq ?_;refine zq ?_)|refine zst ?_|refine zco ?_ ?_|exact zd|(refine fun (hg:(_:Prop))=>?_;(try replace hg:=HG.out hg);(try dsimp only at hg);(try (have _h:True:=hg;clear _h hg)))))
          all_goals first
            | (exfalso;omega)
            | ((first|refine loop_next (by omega) ?_ ?_|refine (show _∧_∧SubOf _ _ _ _ _ _ from And.intro (by omega) (And.intro ?_ ?_)));(focus ((trivial);done));(focus ((refine sub_to [some 0,some 1] [] rfl ?_ ?_<;>(repeat' (first|exact trivial|refine ⟨⟨_,rfl,?_⟩,?_⟩|refine vs1 ?_ ?_|refine vs2 ?_ ?_|refine vs3 ?_|refine vs4 ?_ ?_|refine ⟨.inl ⟨_,_,rfl,rfl,?_⟩,?_⟩|exact ⟨.inr ⟨rfl,rfl⟩,trivial⟩|refine ⟨.inr ⟨rfl,rfl⟩,?_⟩|(intro _ _)|exact vz1|(exact VSub.of_eq (congrArg vb (stCol_end (by omega) (by omega) hlti)) rfl)|exact vz2|fail)));done)))
      · (repeat' (first|(refine ar_isq ?_;refine zq ?_)|refine zst ?_|refine zco ?_ ?_|exact zd|(refine fun (hg:(_:Prop))=>?_;(try replace hg:=HG.out hg);(try dsimp only at hg);(try (have _h:True:=hg;clear _h hg)))))
        all_goals first
          | (exfalso;omega)
          | ((refine aw_mono_r (env':=[(8,encBools (proofTo s b g m (s.rows.toNat*s.cols.toNat))),(9,vi 0)]) (H':=[]) ?_ ?_;(focus ((refine sub_to [] [1] rfl ?_ ?_<;>(repeat' (first|exact trivial|refine ⟨⟨_,rfl,?_⟩,?_⟩|refine vs1 ?_ ?_|refine vs2 ?_ ?_|refine vs3 ?_|refine vs4 ?_ ?_|refine ⟨.inl ⟨_,_,rfl,rfl,?_⟩,?_⟩|exact ⟨.inr ⟨rfl,rfl⟩,trivial⟩|refine ⟨.inr ⟨rfl,rfl⟩,?_⟩|(intro _ _)|exact vz1|(exact frz_as (by simp) rfl rfl (proofTo_len _ _ _ _ _) (fun j hj=>by rw [proofTo_el hj,stLine_end (by omega)]) (fun _=>rfl))|exact vz2|fail)));done)));(refine aw_ret ?_;(repeat (first|refine ret_then ?_|refine ret_block ?_));refine bq2 rfl rfl ⟨?_,rfl⟩);rfl)
  · have he:=proofErr_check (g:=g) hce
    rw [proofF_bad (by omega),he]
    refine pcalls_of_aw Tryz.func30 rfl (dc rfl) ?_
    (repeat' (first|(refine ar_isq ?_;refine zq ?_)|(refine zpv fn58 (check_p s b) ?_)|refine zst ?_|refine zco ?_ ?_|exact zd|(refine fun (hg:(_:Prop))=>?_;(try replace hg:=HG.out hg);(try dsimp only at hg);(try (have _h:True:=hg;clear _h hg)))))
    all_goals first
      | (exfalso;omega)
      | ((refine aw_mono_r (env':=[(8,encBools []),(9,vi (checkErr s b))]) (H':=[]) ?_ ?_;(focus (exact zsb [] [])));(refine aw_ret ?_;(repeat (first|refine ret_then ?_|refine ret_block ?_));refine bq2 rfl rfl ⟨?_,rfl⟩);rfl)
theorem gapErr_check {s:Sheet}{b:List (List Int)}(h:checkErr s b≠0):gapErr s b=checkErr s b:=by simp [gapErr,h]
theorem gapErr_few {s:Sheet}{b:List (List Int)}(h:checkErr s b=0) (h2:b.length<2):gapErr s b=6:=by simp [gapErr,h,h2]
theorem gapErr_ok {s:Sheet}{b:List (List Int)}(h:checkErr s b=0) (h2:¬ b.length<2):gapErr s b=0:=by simp [gapErr,h,h2]
theorem gapF_bad {s:Sheet}{b:List (List Int)}(h:gapErr s b≠0):gapF s b=0:=by simp [gapF,h]
theorem gapF_ok {s:Sheet}{b:List (List Int)}(h:gapErr s b=0):gapF s b=gapTo s b (b.length-1):=by simp [gapF,h]
def encGap (s:Sheet) (b:List (List Int)):V:=.tup [vi (gapF s b),vi (gapErr s b)]
theorem gap_next {s:Sheet}{b:List (List Int)}{k c:Nat}{x y z:Int}(hx:x=gapRow s b k (gapTo s b k) c) (hy:y=el (el b (k+1)) c) (hz:z=el (el b k) c):min x (y-z-s.weight)=gapRow s b k (gapTo s b k) (c+1):=by
  subst hx hy hz
  rw [gapRow_succ,gapAt]
theorem lGap_p (s:Sheet) (b:List (List Int)):PCalls Tryz.prog 109 [s.enc,encRows b] (·=encGap s b):=by
  by_cases hce:checkErr s b=0
  · by_cases h2:b.length<2
    · have he:=gapErr_few hce h2
      rw [encGap,gapF_bad (by omega),he]
      refine pcalls_of_aw Tryz.func109 rfl (dc rfl) ?_
      (repeat' (first|(refine ar_isq ?_;refine zq ?_)|(refine zpv fn58 (check_p s b) ?_)|refine zcl ?_|refine zcs ?_|refine zst ?_|refine aw_drawn (id:=13) [(0,0),(1,0),(2,0),(3,0),(4,0),(5,0),(6,0),(7,0),(8,0),(9,0),(10,0),(11,0),(12,0),(13,0),(14,0)] mixed (by kernel_rfl) ?_|refine zco ?_ ?_|exact zd|(refine fun (hg:(_:Prop))=>?_;(try replace hg:=HG.out hg);(try dsimp only at hg);(try (have _h:True:=hg;clear _h hg)))))
      all_goals first
        | (exfalso;omega)
        | ((refine aw_ret ?_;(repeat (first|refine ret_then ?_|refine ret_block ?_));refine bq2 rfl rfl ⟨?_,rfl⟩);rfl)
    · have he:=gapErr_ok hce h2
      rw [encGap,gapF_ok he,he]
      obtain ⟨hs,h12,hl⟩:=band_of_check hce
      have hbd:=Sheet.bounds hs
      refine pcalls_of_aw Tryz.func109 rfl (dc rfl) ?_
      (repeat' (first|(refine ar_isq ?_;refine zq ?_)|(refine zpv fn58 (check_p s b) ?_)|refine zcl (a:=1) (b:=b.length) ?_|refine zcs (a:=1) (b:=b.length) ?_|refine zst ?_|refine aw_drawn (id:=13) [(0,0),(1,0),(2,0),(3,0),(4,0),(5,0),(6,0),(7,0),(8,0),(9,0),(10,0),(11,0),(12,0),(13,0),(14,0)] mixed (by kernel_rfl) ?_|refine zco ?_ ?_|exact zd|(refine fun (hg:(_:Prop))=>?_;(try replace hg:=HG.out hg);(try dsimp only at hg);(try (have _h:True:=hg;clear _h hg)))))
      all_goals (try (exfalso;omega))
      refine aw_for (b.length-1) (fun _=>True) (fun k=>[(1,encRows b),(2,.ptr 5 0 0 0),(7,vi (gapTo s b k)),(24,.list 1 (b.length-1) (fun j=>encInts (el b (1+j)))),(25,vi ((b.length-1:Nat):Int)),(26,vi k)]) (fun _=>[.arr 5 1 (fun _=>s.enc)]) trivial ?_ ?_
      · (exact zsb [some 0] [])
      intro k hk _
      by_cases hlt:k<b.length-1
      · have e1:1+k=k+1:=Nat.add_comm _ _
        have ha1:=of_all_el hl (k:=1+k) (by omega)
        have ha0:=of_all_el hl (k:=k) (by omega)
        have hn1:=isLine_len ha1
        have hn0:=isLine_len ha0
        (repeat' (first|(refine ar_isq ?_;refine zq ?_)|refine zil (j:=k) ?_|refine zis (j:=k) ?_|refine zit (j:=k) ?_|refine zcl ?_|refine zcs ?_|refine zst ?_|refine aw_drawn (id:=13) [(0,0),(1,0),(2,0),(3,0),(4,0),(5,0),(6,0),(7,0),(8,0),(9,0),(10,0),(11,0),(12,0),(13,0),(14,0)] mixed (by kernel_rfl) ?_|refine zco ?_ ?_|exact zd|(refine fun (hg:(_:Prop))=>?_;(try replace hg:=HG.out hg);(try dsimp only at hg);(try (have _h:True:=hg;clear _h hg)))))
        all_goals (try (exfalso;omega))
        refine aw_for (el b (1+k)).length (fun _=>True) (fun c=>[(1,encRows b),(2,.ptr 5 0 0 0),(7,vi (gapRow s b k (gapTo s b k) c)),(8,vi k),(24,.list 1 (b.length-1) (fun j=>encInts (el b (1+j)))),(25,vi ((b.length-1:Nat):Int)),(26,vi k),(31,encInts (el b (1+k))),(32,vi (el b (1+k)).length),(33,vi c)]) (fun _=>[.arr 5 1 (fun _=>s.enc)]) trivial ?_ ?_
        · (exact zsb [some 0] [])
        intro c hc _
        by_cases hltc:c<(el b (1+k)).length
        · have hv1:=isLine_at ha1 (j:=c) (by omega)
          have hv0:=isLine_at ha0 (j:=c) (by omega)
          (repeat' (first|(refine ar_isq ?_;refine zq ?_)|refine zil (j:=c) ?_|refine zis (j:=c) ?_|refine zit (j:=c) ?_|refine zil (j:=k) ?_|refine zis (j:=k) ?_|refine zit (j:=k) ?_|refine zcl ?_|refine zcs ?_|refine zst ?_|refine aw_drawn (id:=13) [(0,0),(1,0),(2,0),(3,0),(4,0),(5,0),(6,0),(7,0),(8,0),(9,0),(10,0),(11,0),(12,0),(13,0),(14,0)] mixed (by kernel_rfl) ?_|refine zco ?_ ?_|exact zd|(refine fun (hg:(_:Prop))=>?_;(try replace hg:=HG.out hg);(try dsimp only at hg);(try (have _h:True:=hg;clear _h hg)))))
          all_goals first
            | (exfalso;omega)
            | ((first|refine loop_next (by omega) ?_ ?_|refine (show _∧_∧SubOf _ _ _ _ _ _ from And.intro (by omega) (And.intro ?_ ?_)));(focus ((trivial);done));(focus ((refine sub_to [some 0] [] rfl ?_ ?_<;>(repeat' (first|exact trivial|refine ⟨⟨_,rfl,?_⟩,?_⟩|refine vs1 ?_ ?_|refine vs2 ?_ ?_|refine vs3 ?_|refine vs4 ?_ ?_|refine ⟨.inl ⟨_,_,rfl,rfl,?_⟩,?_⟩|exact ⟨.inr ⟨rfl,rfl⟩,trivial⟩|refine ⟨.inr ⟨rfl,rfl⟩,?_⟩|(intro _ _)|exact vz1|(exact siEq (gap_next rfl (by rw [e1]) rfl))|exact vz2|fail)));done)))
        · (repeat' (first|(refine ar_isq ?_;refine zq ?_)|refine zcl ?_|refine zcs ?_|refine zst ?_|refine aw_drawn (id:=13) [(0,0),(1,0),(2,0),(3,0),(4,0),(5,0),(6,0),(7,0),(8,0),(9,0),(10,0),(11,0),(12,0),(13,0),(14,0)] mixed (by kernel_rfl) ?_|refine zco ?_ ?_|exact zd|(refine fun (hg:(_:Prop))=>?_;(try replace hg:=HG.out hg);(try dsimp only at hg);(try (have _h:True:=hg;clear _h hg)))))
          all_goals first
            | (exfalso;omega)
            | (rw [gapTo_succ,show s.cols.toNat=c by omega];((first|refine loop_next (by omega) ?_ ?_|refine (show _∧_∧SubOf _ _ _ _ _ _ from And.intro (by omega) (And.intro ?_ ?_)));(focus ((trivial);done));(focus (exact zsb [some 0] []))))
      · (repeat' (first|(refine ar_isq ?_;refine zq ?_)|refine zcl ?_|refine zcs ?_|refine zst ?_|refine aw_drawn (id:=13) [(0,0),(1,0),(2,0),(3,0),(4,0),(5,0),(6,0),(7,0),(8,0),(9,0),(10,0),(11,0),(12,0),(13,0),(14,0)] mixed (by kernel_rfl) ?_|refine zco ?_ ?_|exact zd|(refine fun (hg:(_:Prop))=>?_;(try replace hg:=HG.out hg);(try dsimp only at hg);(try (have _h:True:=hg;clear _h hg)))))
        all_goals first
          | (exfalso;omega)
          | ((refine aw_mono_r (env':=[(4,vi (gapTo s b k)),(5,vi 0)]) (H':=[]) ?_ ?_;(focus (exact zsb [] [])));(refine aw_ret ?_;(repeat (first|refine ret_then ?_|refine ret_block ?_));refine bq2 rfl rfl ⟨?_,rfl⟩);rw [show k=b.length-1 by omega];try rfl)
  · have he:=gapErr_check hce
    rw [encGap,gapF_bad (by omega),he]
    refine pcalls_of_aw Tryz.func109 rfl (dc rfl) ?_
    (repeat' (first|(refine ar_isq ?_;refine zq ?_)|(refine zpv fn58 (check_p s b) ?_)|refine zcl ?_|refine zcs ?_|refine zst ?_|refine aw_drawn (id:=13) [(0,0),(1,0),(2,0),(3,0),(4,0),(5,0),(6,0),(7,0),(8,0),(9,0),(10,0),(11,0),(12,0),(13,0),(14,0)] mixed (by kernel_rfl) ?_|refine zco ?_ ?_|exact zd|(refine fun (hg:(_:Prop))=>?_;(try replace hg:=HG.out hg);(try dsimp only at hg);(try (have _h:True:=hg;clear _h hg)))))
    all_goals first
      | (exfalso;omega)
      | ((refine aw_ret ?_;(repeat (first|refine ret_then ?_|refine ret_block ?_));refine bq2 rfl rfl ⟨?_,rfl⟩);rfl)
end Go.Proofs.YtbilpbabdgfblaaGreat
