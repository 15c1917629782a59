/- Parts of the proof: a layer of values over the model, and contracts of functions. No condition. -/
import Derived.Test.YtbilpbabdgfblaaGreatKHc14
set_option maxHeartbeats 16000000
set_option linter.unusedSimpArgs false
set_option linter.unusedVariables false
namespace Go.Proofs.YtbilpbabdgfblaaGreat
theorem el_rep {α:Type}[Inhabited α] {n k:Nat}{x:α}(h:k<n):el (List.replicate n x) k=x:=by simp [el,h]
theorem src_bnd {s:Sto}(hC:Core s):∀ j,j<s.items.length→-1≤(el s.items j).src∧(el s.items j).src<(s.items.length:Int):=fun j hj=>by
  have:=hC.2.1 j hj
  unfold Made at this
  omega
theorem valid_engrave {s:Sto}(hV:Valid s) (h:engrE s=0):Valid (addS s newDie):=by
  have hf:=hV.1
  unfold Few at hf
  have hn:s.items.length<30:=by
    unfold engrE at h
    split at h
    · cases h
    · omega
  refine valid_of (core_add (core_of hV) hn (.inl ⟨rfl,rfl⟩) (by decide) rfl) (add_used (core_of hV) rfl hf.1.1 (by show (-1:Int)<_;omega) (fun j hj=>(src_bnd (core_of hV) j hj).2) fun i hi=>?_)
  obtain ⟨u1,u2⟩:=hV.2.2.2.2 i hi
  have e:¬ newDie.src=(i:Int):=by show ¬ (-1:Int)=i;omega
  rw [if_neg e]
  exact ⟨by omega,u2⟩
theorem valid_transfer {s:Sto}{i:Int}(hV:Valid s) (h:transE s i=0):Valid (transF s i):=by
  have hf:=hV.1
  unfold Few at hf
  unfold transE at h
  split at h
  · rename_i hh
    split at h
    · cases h
    · rename_i h1
      split at h
      · cases h
      · rename_i h2
        split at h
        · cases h
        · rename_i h3
          have hb:=hh.1
          have hlt:i.toNat<s.items.length:=by omega
          have hl:(setS s i.toNat (used1 (el s.items i.toNat) 1)).items.length=s.items.length:=by simp [setS]
          have hm:=hV.2.1 _ hlt
          unfold Made at hm
          have hp:=hV.2.2.1 _ hlt
          unfold Placed PlacedTo at hp
          have c1:Core (setS s i.toNat (used1 (el s.items i.toNat) 1)):=core_set (core_of hV) hlt rfl rfl hp
          have hel:∀ j,el (setS s i.toNat (used1 (el s.items i.toNat) 1)).items j=if j=i.toNat then used1 (el s.items i.toNat) 1 else el s.items j:=fun j=>el_setI hlt
          have c2:=core_add (x:=made1 (el s.items i.toNat) i) c1 (by omega) (.inr ⟨by show (el s.items i.toNat).kind+1=2∨(el s.items i.toNat).kind+1=3;omega,by show 0≤i∧i<_;omega,by
            show (el (setS s i.toNat (used1 (el s.items i.toNat) 1)).items i.toNat).kind=(el s.items i.toNat).kind+1-1
            rw [hel,if_pos rfl]
            show (el s.items i.toNat).kind=_
            omega⟩) (by show (0:Int)≤1∧(1:Int)<2;omega) rfl
          refine valid_of c2 (add_used c1 rfl hf.1.1 (by show i<_;omega) (fun j hj=>(src_bnd c1 j hj).2) fun k hk=>?_)
          have hk:k<s.items.length:=by omega
          obtain ⟨u1,u2⟩:=hV.2.2.2.2 k hk
          rw [usedS_set (x:=used1 (el s.items i.toNat) 1) hlt rfl,hel]
          show _=usedS s k+(if i=(k:Int) then 1 else 0)∧_
          by_cases e:k=i.toNat
          · subst e
            rw [if_pos rfl,if_pos (by omega)]
            refine ⟨by show (el s.items i.toNat).uses+1=_;omega,?_⟩
            unfold mostOf at u2 ⊢
            show (el s.items i.toNat).uses+1≤if (el s.items i.toNat).kind=3 then _ else _
            rw [if_neg (by omega)] at u2 ⊢
            omega
          · rw [if_neg e,if_neg (by omega)]
            exact ⟨by omega,u2⟩
  · cases h
theorem usedok_set {s:Sto}{i:Nat}{x:Itm}(hV:Valid s) (hi:i<s.items.length) (hk:x.kind=(el s.items i).kind) (hs:x.src=(el s.items i).src) (hu:x.uses=(el s.items i).uses):∀ j,j<(setS s i x).items.length→UsedOk (setS s i x) j:=fun j hj=>by
  have hj:j<s.items.length:=by
    have:(setS s i x).items.length=s.items.length:=by simp [setS]
    omega
  obtain ⟨u1,u2⟩:=hV.2.2.2.2 j hj
  unfold UsedOk
  rw [usedS_set hi hs]
  show (el (s.items.set i x) j).uses=_∧(el (s.items.set i x) j).uses≤mostOf s.life (el (s.items.set i x) j)
  rw [el_setI hi]
  unfold mostOf at u2 ⊢
  split
  · rename_i e
    subst e
    rw [hu,hk]
    exact ⟨u1,u2⟩
  · exact ⟨u1,u2⟩
theorem move_cases {s:Sto}{i d:Int}(h:moveE s i d=0):hereB s i∧¬ (¬ (0≤d∧d≤9)∨(2≤d∧(el s.items i.toNat).kind≠3))∧¬ takenB s i d:=by
  unfold moveE at h
  split at h
  · rename_i hh
    split at h
    · cases h
    · rename_i h1
      split at h
      · cases h
      · rename_i h2
        exact ⟨hh,h1,h2⟩
  · cases h
theorem not_taken {s:Sto}{i d:Int}(h:¬ takenB s i d) (hd:2≤d):∀ k,k<s.items.length→k≠i.toNat→(el s.items k).place≠d:=fun k hk hne e=>h ⟨hd,fun hall=>hall k hk hne e⟩
theorem valid_move {s:Sto}{i d:Int}(hV:Valid s) (h:moveE s i d=0):Valid (moveF s i d):=by
  obtain ⟨hh,h1,h2⟩:=move_cases h
  have hb:=hh.1
  have hlt:i.toNat<s.items.length:=by omega
  refine valid_of (core_set (core_of hV) hlt rfl rfl ⟨?_,fun hg=>?_,fun hp=>⟨?_,fun j hj hne=>?_⟩⟩) (usedok_set hV hlt rfl rfl rfl)
  · show 0≤d∧d≤9
    omega
  · have:(el s.items i.toNat).gone=true:=hg
    rw [hh.2] at this
    cases this
  · show (el s.items i.toNat).kind=3
    have:2≤d:=hp
    omega
  · exact not_taken h2 hp j hj hne
theorem valid_destroy {s:Sto}{i:Int}(hV:Valid s) (h:destE s i=0):Valid (destF s i):=by
  unfold destE at h
  split at h
  · rename_i hh
    split at h
    · cases h
    · rename_i h1
      have hb:=hh.1
      have hlt:i.toNat<s.items.length:=by omega
      have h0:(el s.items i.toNat).place=0:=by omega
      refine valid_of (core_set (core_of hV) hlt rfl rfl ⟨?_,fun _=>h0,fun hp=>?_⟩) (usedok_set hV hlt rfl rfl rfl)
      · show 0≤(el s.items i.toNat).place∧(el s.items i.toNat).place≤9
        omega
      · have:2≤(el s.items i.toNat).place:=hp
        omega
  · cases h
theorem core_prints {s:Sto}{P:List Prt}(hC:Core s) (hl:P.length≤400) (hP:∀ j,j<P.length→Printed s.items (el P j)):Core { s with prints:=P }:=⟨⟨hC.1.1,hC.1.2.1,hl⟩,hC.2.1,hC.2.2.1,hP⟩
theorem valid_spend {s:Sto}{first n st:Int}(hV:Valid s) (hst:st≤2):Valid (spendF s first n st):=by
  have hl:=spendF_len s first n st
  have hf:=hV.1
  unfold Few at hf
  have hel:∀ j,j<s.prints.length→(el (spendF s first n st).prints j).plate=(el s.prints j).plate∧(el (spendF s first n st).prints j).state≤2:=fun j hj=>by
    rw [spendF_el hj]
    have:=(hV.2.2.2.1 j hj).2.2
    unfold stateAt
    split
    · exact ⟨rfl,hst⟩
    · exact ⟨rfl,this⟩
  refine valid_of (core_prints (core_of hV) (by show (spendF s first n st).prints.length≤400;omega) fun j hj=>?_) fun i hi=>?_
  · have hj:j<s.prints.length:=by rw [← hl];exact hj
    obtain ⟨q1,q2,q3⟩:=hV.2.2.2.1 j hj
    obtain ⟨e1,e2⟩:=hel j hj
    show Printed s.items (el (spendF s first n st).prints j)
    exact ⟨by rw [e1];exact q1,by rw [e1];exact q2,e2⟩
  · obtain ⟨u1,u2⟩:=hV.2.2.2.2 i hi
    refine ⟨u1.trans ?_,u2⟩
    unfold usedS
    show _=usedI s.items i s.items.length+usedP (spendF s first n st).prints i (spendF s first n st).prints.length
    rw [hl,usedP_same fun j hj=>(hel j hj).1]
theorem valid_print {s:Sto}{i n:Int}(hV:Valid s) (h:printE s i n=0):Valid (printF s i n):=by
  have hf:=hV.1
  unfold Few at hf
  unfold printE at h
  split at h
  · rename_i hh
    split at h
    · cases h
    · rename_i h1
      split at h
      · cases h
      · rename_i h2
        split at h
        · cases h
        · rename_i h3
          have hb:=hh.1
          have hlt:i.toNat<s.items.length:=by omega
          have hp:=hV.2.2.1 _ hlt
          unfold Placed PlacedTo at hp
          have c1:Core (setS s i.toNat (used1 (el s.items i.toNat) n)):=core_set (core_of hV) hlt rfl rfl hp
          have hel:∀ j,el (s.items.set i.toNat (used1 (el s.items i.toNat) n)) j=if j=i.toNat then used1 (el s.items i.toNat) n else el s.items j:=fun j=>el_setI hlt
          have hls:(s.items.set i.toNat (used1 (el s.items i.toNat) n)).length=s.items.length:=by simp
          have hpl:(s.prints++List.replicate n.toNat (⟨i,0⟩:Prt)).length=s.prints.length+n.toNat:=by simp
          have c2:(∀ j,j<(s.prints++List.replicate n.toNat (⟨i,0⟩:Prt)).length→Printed (s.items.set i.toNat (used1 (el s.items i.toNat) n)) (el (s.prints++List.replicate n.toNat (⟨i,0⟩:Prt)) j))→Core (printF s i n):=fun h=>core_prints (s:=setS s i.toNat (used1 (el s.items i.toNat) n)) c1 (by omega) h
          refine valid_of (c2 fun j hj=>?_) fun k hk=>?_
          · show Printed (s.items.set i.toNat (used1 (el s.items i.toNat) n)) _
            by_cases e:j<s.prints.length
            · rw [el_app_lt e]
              exact printed_of (by omega) (fun q _=>by rw [hel];split<;>first|rfl|(rename_i eq;rw [eq];rfl)) (hV.2.2.2.1 j e)
            · rw [el_app_ge (by omega),el_rep (by omega)]
              refine ⟨?_,?_,?_⟩
              · show 0≤i∧i<_
                omega
              · show (el (s.items.set i.toNat (used1 (el s.items i.toNat) n)) i.toNat).kind=3
                rw [hel,if_pos rfl]
                show (el s.items i.toNat).kind=3
                omega
              · show (0:Int)≤2
                omega
          · have hk:k<s.items.length:=by rw [← hls];exact hk
            obtain ⟨u1,u2⟩:=hV.2.2.2.2 k hk
            have hus:usedS (printF s i n) k=usedS s k+(if i=(k:Int) then n else 0):=by
              unfold usedS
              show usedI (s.items.set i.toNat (used1 (el s.items i.toNat) n)) k (s.items.set i.toNat (used1 (el s.items i.toNat) n)).length+usedP (s.prints++List.replicate n.toNat ⟨i,0⟩) k (s.prints++List.replicate n.toNat (⟨i,0⟩:Prt)).length=_
              rw [hls,hpl,usedP_rep,usedI_same (l:=s.items) fun q _=>by rw [hel];split<;>first|rfl|(rename_i eq;rw [eq];rfl)]
              show _+(_+if i=(k:Int) then _ else _)=_
              split<;>omega
            refine ⟨?_,?_⟩
            · show (el (s.items.set i.toNat (used1 (el s.items i.toNat) n)) k).uses=usedS (printF s i n) k
              rw [hus,hel]
              split
              · rename_i e
                rw [if_pos (by omega)]
                show (el s.items i.toNat).uses+n=_
                rw [← e]
                omega
              · rw [if_neg (by omega)]
                omega
            · show (el (s.items.set i.toNat (used1 (el s.items i.toNat) n)) k).uses≤mostOf s.life (el (s.items.set i.toNat (used1 (el s.items i.toNat) n)) k)
              rw [hel]
              split
              · unfold mostOf
                show (el s.items i.toNat).uses+n≤if (el s.items i.toNat).kind=3 then _ else _
                rw [if_pos (by omega)]
                omega
              · exact u2
  · cases h
theorem act_kind {s:Sto}{a:Deed}(h:actE s a=0):a.kind=1∨a.kind=2∨a.kind=3∨a.kind=4∨a.kind=5∨a.kind=6∨a.kind=7:=by
  by_cases h1:a.kind=1
  · exact .inl h1
  by_cases h2:a.kind=2
  · exact .inr (.inl h2)
  by_cases h3:a.kind=3
  · exact .inr (.inr (.inl h3))
  by_cases h4:a.kind=4
  · exact .inr (.inr (.inr (.inl h4)))
  by_cases h5:a.kind=5
  · exact .inr (.inr (.inr (.inr (.inl h5))))
  by_cases h6:a.kind=6
  · exact .inr (.inr (.inr (.inr (.inr (.inl h6)))))
  by_cases h7:a.kind=7
  · exact .inr (.inr (.inr (.inr (.inr (.inr h7)))))
  rw [actE_no h1 h2 h3 h4 h5 h6 h7] at h
  cases h
theorem valid_act {s:Sto}{a:Deed}(hV:Valid s) (h:actE s a=0):Valid (actF s a):=by
  rcases act_kind h with k|k|k|k|k|k|k
  · rw [actE_1 k] at h;rw [actF_1 k];exact valid_engrave hV h
  · rw [actE_2 k] at h;rw [actF_2 k];exact valid_transfer hV h
  · rw [actE_3 k] at h;rw [actF_3 k];exact valid_move hV h
  · rw [actE_4 k] at h;rw [actF_4 k];exact valid_print hV h
  · rw [actF_5 k];exact valid_spend hV (by decide)
  · rw [actF_6 k];exact valid_spend hV (by decide)
  · rw [actE_7 k] at h;rw [actF_7 k];exact valid_destroy hV h
def aClient (n:Int):Prop:=0≤n∧n≤50
instance (n:Int):Decidable (aClient n):=by unfold aClient;infer_instance
def Job.dsn (j:Job):Dsn:=⟨j.client,j.sheet,j.band⟩
def archE (h:Hse) (j:Job):Int:=if ¬ aClient j.client then 2 else if checkErr j.sheet j.band≠0 then checkErr j.sheet j.band else if ¬ GoodD j.dsn then 101 else if 8≤h.designs.length then 9 else 0
def archF (h:Hse) (j:Job):Hse:={ h with designs:=h.designs++[j.dsn] }
def ownerOf (h:Hse) (d:Int):Int:=(el h.designs d.toNat).owner
def licnE (h:Hse) (j:Job):Int:=if ¬ inDesigns h j.design then 6 else if ¬ (aClient j.client∧j.client≠ownerOf h j.design∧(1≤j.n∧j.n≤400)∧(h.day≤j.til∧j.til≤10000)) then 2 else if 20≤h.lics.length then 9 else 0
def licnF (h:Hse) (j:Job):Hse:={ h with lics:=h.lics++[⟨j.design,j.client,j.til,j.n⟩] }
def allowB (h:Hse) (j:Job) (l:Lic):Bool:=decide (l.design=j.design)&&(decide (l.client=j.client)&&(decide (h.day≤l.til)&&decide (j.n≤l.left)))
def licAt (h:Hse) (j:Job):Nat→Option Nat
  | 0=>none
  | k+1=>match licAt h j k with
    | some i=>some i
    | none=>if allowB h j (el h.lics k)=true then some k else none
def licOf (h:Hse) (j:Job):Option Nat:=licAt h j h.lics.length
def takeE (h:Hse) (j:Job):Int:=if ¬ inDesigns h j.design then 6 else if ¬ (aClient j.client∧(1≤j.n∧j.n≤400)) then 2 else if j.client≠ownerOf h j.design∧licOf h j=none then 102 else if 30≤h.orders.length then 9 else 0
def lessLic (l:Lic) (n:Int):Lic:={ l with left:=l.left-n }
def takeL (h:Hse) (j:Job):List Lic:=if j.client=ownerOf h j.design then h.lics else match licOf h j with
  | some k=>h.lics.set k (lessLic (el h.lics k) j.n)
  | none=>h.lics
def takeF (h:Hse) (j:Job):Hse:={ h with lics:=takeL h j,orders:=h.orders++[⟨j.client,j.design,j.n,false⟩] }
def withS (h:Hse) (s:Sto):Hse:={ h with store:=s }
def dieAct:Deed:=⟨1,0,0,0⟩
def engvE (h:Hse) (j:Job):Int:=if ¬ inDesigns h j.design then 6 else actE h.store dieAct
def engvF (h:Hse) (j:Job):Hse:={ h with store:=actF h.store dieAct,made:=h.made++[j.design] }
def workE (h:Hse) (j:Job):Int:=if j.act.kind=2∨j.act.kind=3∨j.act.kind=6∨j.act.kind=7 then actE h.store j.act else 2
def workF (h:Hse) (j:Job):Hse:={ h with store:=actF h.store j.act,made:=if j.act.kind=2 then h.made++[el h.made j.act.item.toNat] else h.made }
def prAct (j:Job):Deed:=⟨4,j.act.item,0,j.act.n⟩
def inMade (h:Hse) (i:Int):Prop:=0≤i∧i<(h.made.length:Int)
instance (h:Hse) (i:Int):Decidable (inMade h i):=by unfold inMade;infer_instance
def runE (h:Hse) (j:Job):Int :=
  if ¬ inOrders h j.order then 6 else if (el h.orders j.order.toNat).done=true then 103 else if ¬ inMade h j.act.item then 6 else if el h.made j.act.item.toNat≠(el h.orders j.order.toNat).design then 103
  else if actE h.store (prAct j)≠0 then actE h.store (prAct j) else if (el h.orders j.order.toNat).need<doneF h j.order 0+j.act.n then 103
  else if allowsF h.per h.store.life (el h.designs (el h.orders j.order.toNat).design.toNat)<(el h.store.items j.act.item.toNat).uses+j.act.n then 104 else 0
def runF (h:Hse) (j:Job):Hse:={ h with store:=actF h.store (prAct j),fors:=h.fors++List.replicate j.act.n.toNat j.order }
def giveP (h:Hse) (n:Int) (k:Nat):Prt:=if el h.fors k=n∧(el h.store.prints k).state=0 then ⟨(el h.store.prints k).plate,1⟩ else el h.store.prints k
def giveE (h:Hse) (j:Job):Int:=if ¬ inOrders h j.order then 6 else if (el h.orders j.order.toNat).done=false∧doneF h j.order 0=(el h.orders j.order.toNat).need then 0 else 103
def doneO (o:Ordr):Ordr:={ o with done:=true }
def giveF (h:Hse) (j:Job):Hse:={ h with store:={ h.store with prints:=(List.range h.store.prints.length).map (giveP h j.order) },orders:=h.orders.set j.order.toNat (doneO (el h.orders j.order.toNat)) }
def waitE (h:Hse) (j:Job):Int:=if (1≤j.n∧j.n≤10000)∧h.day+j.n≤10000 then 0 else 2
def waitF (h:Hse) (j:Job):Hse:={ h with day:=h.day+j.n }
def jobE (h:Hse) (j:Job):Int :=
  if j.kind=1 then archE h j else if j.kind=2 then licnE h j else if j.kind=3 then takeE h j else if j.kind=4 then engvE h j else if j.kind=5 then workE h j else if j.kind=6 then runE h j else if j.kind=7 then giveE h j else if j.kind=8 then waitE h j else 2
def jobF (h:Hse) (j:Job):Hse :=
  if j.kind=1 then archF h j else if j.kind=2 then licnF h j else if j.kind=3 then takeF h j else if j.kind=4 then engvF h j else if j.kind=5 then workF h j else if j.kind=6 then runF h j else if j.kind=7 then giveF h j else waitF h j
theorem hvalid_wait {h:Hse}{j:Job}(hV:HValid h) (he:waitE h j=0):HValid (waitF h j):=by
  unfold waitE at he
  have hd:(1≤j.n∧j.n≤10000)∧h.day+j.n≤10000:=Classical.byContradiction fun hn=>by rw [if_neg hn] at he;omega
  exact { hV with day:=by have:=hV.day;show 0≤h.day+j.n∧h.day+j.n≤10000;omega,lics:=hV.lics,made:=hV.made,fors:=hV.fors,orders:=hV.orders }
theorem licOk_more {h:Hse}{x:Dsn}{l:Lic}(hl:LicOk h l):LicOk { h with designs:=h.designs++[x] } l:=by
  obtain ⟨h1,h2,h3,h4⟩:=hl
  unfold inDesigns at h1
  refine ⟨?_,h2,?_,h4⟩
  · show 0≤l.design∧l.design<((h.designs++[x]).length:Int)
    rw [List.length_append,List.length_singleton]
    omega
  · show l.client≠(el (h.designs++[x]) l.design.toNat).owner
    rw [el_app_lt (by omega)]
    exact h3
theorem hvalid_arch {h:Hse}{j:Job}(hV:HValid h) (he:archE h j=0):HValid (archF h j):=by
  unfold archE at he
  split at he
  · omega
  · split at he
    · rename_i h1;exact (h1 he).elim
    · split at he
      · omega
      · split at he
        · omega
        · rename_i _ _ hg hn
          have hg:GoodD j.dsn:=Classical.byContradiction hg
          have hlen:(archF h j).designs.length=h.designs.length+1:=by show (h.designs++[j.dsn]).length=_;rw [List.length_append];rfl
          refine { per:=hV.per,day:=hV.day,store:=hV.store,few:=⟨by omega,hV.few.2⟩,designs:=fun i hi=>?_,lics:=fun i hi=>licOk_more (hV.lics i hi),mades:=hV.mades,made:=fun i hi=>?_,forss:=hV.forss,fors:=hV.fors,orders:=fun i hi=>?_ }
          · show GoodD (el (h.designs++[j.dsn]) i)
            by_cases e:i<h.designs.length
            · rw [el_app_lt e];exact hV.designs i e
            · rw [show i=h.designs.length by omega,el_snoc];exact hg
          · obtain ⟨h1,h2,h3⟩:=hV.made i hi
            unfold inDesigns at h1
            refine ⟨?_,h2,fun hk=>?_⟩
            · show 0≤el h.made i∧el h.made i<((archF h j).designs.length:Int)
              omega
            · show (el h.store.items i).uses≤allowsF h.per h.store.life (el (h.designs++[j.dsn]) (el h.made i).toNat)
              rw [el_app_lt (by omega)]
              exact h3 hk
          · obtain ⟨h1,h2,h3⟩:=hV.orders i hi
            unfold inDesigns at h2
            refine ⟨h1,?_,h3⟩
            show 0≤(el h.orders i).design∧(el h.orders i).design<((archF h j).designs.length:Int)
            omega
theorem hvalid_licn {h:Hse}{j:Job}(hV:HValid h) (he:licnE h j=0):HValid (licnF h j):=by
  unfold licnE at he
  split at he
  · omega
  · split at he
    · omega
    · split at he
      · omega
      · rename_i h1 h2 h3
        have h1:inDesigns h j.design:=Classical.byContradiction h1
        have h2:=Classical.byContradiction h2
        have hlen:(licnF h j).lics.length=h.lics.length+1:=by show (h.lics++[_]).length=_;rw [List.length_append];rfl
        have hday:=hV.day
        refine { per:=hV.per,day:=hV.day,store:=hV.store,few:=⟨hV.few.1,by omega,hV.few.2.2⟩,designs:=hV.designs,lics:=fun i hi=>?_,mades:=hV.mades,made:=hV.made,forss:=hV.forss,fors:=hV.fors,orders:=hV.orders }
        show LicOk (licnF h j) (el (h.lics++[⟨j.design,j.client,j.til,j.n⟩]) i)
        by_cases e:i<h.lics.length
        · rw [el_app_lt e];exact hV.lics i e
        · rw [show i=h.lics.length by omega,el_snoc]
          exact ⟨h1,h2.1,h2.2.1,by show 0≤j.til∧j.til≤10000;omega,by show 0≤j.n∧j.n≤400;omega⟩
def shoY (h:Hse) (m:List (Int × Tal)):Heap:=[.arr 11 1 (fun _=>shoV 9 10 3 4 5 6 7 8 h),.dead,.dead,LB 7 Dsn.enc h.designs,LB 4 Lic.enc h.lics,LB 4 Ordr.enc h.orders,LB 1 vi h.made,LB 1 vi h.fors,mapE Tal.enc m,LB 5 Itm.enc h.store.items,LB 2 Prt.enc h.store.prints]
def shoX (h:Hse) (m:List (Int × Tal)):Heap:=[.arr 11 1 (fun _=>shoV 9 10 11 12 13 14 15 8 h),.dead,.dead,.dead,.dead,.dead,.dead,.dead,mapE Tal.enc m,LB 5 Itm.enc h.store.items,LB 2 Prt.enc h.store.prints,LB 7 Dsn.enc h.designs,LB 4 Lic.enc h.lics,LB 4 Ordr.enc h.orders,LB 1 vi h.made,LB 1 vi h.fors]
theorem act_p (h:Hse) (m:List (Int × Tal)) (a:Deed) (hV:Valid h.store) (hu:u8ok a.kind):ACalls Tryz.prog 158 [.ptr 11 0 0 0,a.enc] (shoB h m) (fun v H=>actE h.store a=0∧v=.tup []∧H=shoY (withS h (actF h.store a)) m) (fun v _=>actE h.store a≠0∧v=refV (actE h.store a)):=by
  have hE:=doE_ok (a:=a) hV
  refine acalls_of_aw Tryz.func158 rfl (dc rfl) ?_;refine aw_post ?_
  (repeat' (first|(refine ar_isq ?_;refine zq ?_)|((refine ar_gcall (H0:=[]) [] [1,2] (first:=[]) (cap:=[]) fn169 rfl rfl (xs:=[h.store.enc,a.enc]) ⟨.aggL ⟨.closed rfl,frzLB (List.elem_iff.1 rfl) rfl (fun _=>rfl) rfl,frzLB (List.elem_iff.1 rfl) rfl (fun _=>rfl) rfl,trivial⟩,.closed rfl,trivial⟩ rfl List.nodup_nil (fun _ _ h=>by cases h) trivial (fun _ h=>by cases h) (doOwn_p h.store a hu) (dc rfl) ?_ (fun _ _ h=>h.elim);rintro _ _ (⟨he,rfl,rfl⟩|⟨he,rfl,rfl⟩)))|(refine ar_must ?_ ?_<;>intro hrf<;>first|exact absurd hrf (by decide)|(try replace hrf:=HG.out hrf))|refine ar_forkL ?_ ?_|refine ar_lq rfl ?_|refine zst ?_|refine aw_fork (id:=1) [[(10,1),(6,2),(7,0),(8,0),(9,0),(11,2),(12,0)]] [(0,0),(1,0),(2,0),(3,0),(4,0),(5,0),(0,3),(6,2),(7,0),(8,0),(9,0),(10,1),(11,2),(12,0)] mixed (by kernel_rfl) ?_|refine zco ?_ ?_|exact zd|(refine fun (hg:(_:Prop))=>?_;(try replace hg:=HG.out hg);(try dsimp only at hg);(try (have _h:True:=hg;clear _h hg)))))
  all_goals first
    | exact absurd hrf he
    | (intro H';exact (⟨by rw [← hE];exact he,by rw [hE]⟩:actE h.store a≠0∧refV (doE h.store a)=refV (actE h.store a)))
    | ((refine subq_n [] [.arr 11 1 (fun _=>shoV 9 10 3 4 5 6 7 8 (withS h (actF h.store a))),.dead,.dead,LB 7 Dsn.enc h.designs,LB 4 Lic.enc h.lics,LB 4 Ordr.enc h.orders,LB 1 vi h.made,LB 1 vi h.fors,mapE Tal.enc m,LB 5 Itm.enc (actF h.store a).items,LB 2 Prt.enc (actF h.store a).prints] ?_ ?_;(focus (exact zsc [some 0,some 1,some 2,some 3,some 4,some 5,some 6,some 7,some 8,some 10,some 11] [])))
       exact bq0n ⟨hE▸he,rfl,rfl⟩)
    | ((refine subq_n [] [.arr 11 1 (fun _=>shoV 9 10 3 4 5 6 7 8 (withS h (actF h.store a))),.dead,.dead,LB 7 Dsn.enc h.designs,LB 4 Lic.enc h.lics,LB 4 Ordr.enc h.orders,LB 1 vi h.made,LB 1 vi h.fors,mapE Tal.enc m,LB 5 Itm.enc (actF h.store a).items,LB 2 Prt.enc (actF h.store a).prints] ?_ ?_;(focus (exact zsc [some 0,some 1,some 2,some 3,some 4,some 5,some 6,some 7,some 8,some 11,some 12] [])))
       exact bq0n ⟨hE▸he,rfl,rfl⟩)
    | trace_state
theorem small_band {s:Sheet}{b:List (List Int)}(h:checkErr s b=0):SmallB b:=by
  obtain ⟨h1,h2,h3⟩:=band_of_check h
  have hs:=Sheet.bounds h1
  refine ⟨by omega,fun l hl=>?_⟩
  have:=(isLineB_iff.1 (List.all_eq_true.1 h3 l hl)).1
  omega
theorem good_small {d:Dsn}(h:GoodD d):SmallB d.band:=small_band h.2.2.1
theorem hsmall_of {h:Hse}(hV:HValid h):HSmall h:=by
  have h1:=hV.store.1
  unfold Few at h1
  have h2:=hV.few
  have h3:=hV.mades
  have h4:=hV.forss
  refine ⟨by omega,by omega,by omega,by omega,by omega,by omega,by omega,fun d hd=>?_⟩
  obtain ⟨i,hi,rfl⟩:=mem_el hd
  exact good_small (hV.designs i hi)
def DeedR (h':Hse) (e:Int) (v:V) (H:Heap):Prop:=e=0∧v=.tup []∧∃ m',TalOk h' m'∧H=shoX h' m'
def DeedP (e:Int) (v:V) (_:Heap):Prop:=e≠0∧v=refV e
theorem dead_ret {e x:Int}(he:e=x) (hx:x≠0) (H:Heap):DeedP e (refV x) H:=by subst he;exact ⟨hx,rfl⟩
theorem vsub_snoc {α:Type}[Inhabited α] {H:Heap}{σ:List (Option Nat)}{fr:Nat→Prop}{i n:Nat}{e:α→V}{l:List α}{x:α}{f g:Nat→V}(hn:n=l.length) (hi:i<(l++[x]).length) (hf:∀ j,j<l.length→f j=e (el l j)) (hv:g 0=e x) (hc:∀ y,(e y).closed=true):VSub H σ fr (appF n f g i) (e (el (l++[x]) i)):=by
  subst hn
  by_cases h:i<l.length
  · rw [appF_lt h,el_app_lt h,hf i h];exact .closed (hc _)
  · have:i=l.length:=by rw [List.length_append,List.length_singleton] at hi;omega
    subst this
    rw [appF_ge (Nat.le_refl _),Nat.sub_self,hv,el_snoc]
    exact .closed (hc _)
theorem talOk_same {h h':Hse}{m:List (Int × Tal)}(ht:TalOk h m) (hd:∀ n st,doneF h' n st=doneF h n st):TalOk h' m:=fun n=>by rw [ht n,hd,hd,hd]
theorem archE_1 {h:Hse}{j:Job}(h1:¬ (0≤j.client∧j.client≤50)):archE h j=2:=by unfold archE;rw [if_pos (show ¬ aClient j.client from h1)]
theorem archE_2 {h:Hse}{j:Job}(h1:0≤j.client∧j.client≤50) (h2:¬ checkErr j.sheet j.band=0):archE h j=checkErr j.sheet j.band:=by unfold archE;rw [if_neg (fun h=>h h1),if_pos h2]
theorem archE_3 {h:Hse}{j:Job}(h1:0≤j.client∧j.client≤50) (h2:checkErr j.sheet j.band=0) (h3:¬ GoodD j.dsn):archE h j=101:=by unfold archE;rw [if_neg (fun h=>h h1),if_neg (fun h=>h h2),if_pos h3]
theorem archE_4 {h:Hse}{j:Job}(h1:0≤j.client∧j.client≤50) (h2:checkErr j.sheet j.band=0) (h3:GoodD j.dsn) (h4:¬ (h.designs.length:Int)<8):archE h j=9:=by unfold archE;rw [if_neg (fun h=>h h1),if_neg (fun h=>h h2),if_neg (fun h=>h h3),if_pos (by omega)]
theorem archE_5 {h:Hse}{j:Job}(h1:0≤j.client∧j.client≤50) (h2:checkErr j.sheet j.band=0) (h3:GoodD j.dsn) (h4:(h.designs.length:Int)<8):archE h j=0:=by unfold archE;rw [if_neg (fun h=>h h1),if_neg (fun h=>h h2),if_neg (fun h=>h h3),if_neg (by omega)]
theorem licnE_1 {h:Hse}{j:Job}(h1:¬ (0≤j.design∧j.design<(h.designs.length:Int))):licnE h j=6:=by unfold licnE;rw [if_pos (show ¬ inDesigns h j.design from h1)]
theorem licnE_2 {h:Hse}{j:Job}(h1:0≤j.design∧j.design<(h.designs.length:Int)) (h2:¬ (aClient j.client∧j.client≠ownerOf h j.design∧(1≤j.n∧j.n≤400)∧(h.day≤j.til∧j.til≤10000))):licnE h j=2:=by unfold licnE;rw [if_neg (fun h=>h h1),if_pos h2]
theorem licnE_3 {h:Hse}{j:Job}(h1:0≤j.design∧j.design<(h.designs.length:Int)) (h2:aClient j.client∧j.client≠ownerOf h j.design∧(1≤j.n∧j.n≤400)∧(h.day≤j.til∧j.til≤10000)) (h3:¬ (h.lics.length:Int)<20):licnE h j=9:=by unfold licnE;rw [if_neg (fun h=>h h1),if_neg (fun h=>h h2),if_pos (by omega)]
theorem licnE_4 {h:Hse}{j:Job}(h1:0≤j.design∧j.design<(h.designs.length:Int)) (h2:aClient j.client∧j.client≠ownerOf h j.design∧(1≤j.n∧j.n≤400)∧(h.day≤j.til∧j.til≤10000)) (h3:(h.lics.length:Int)<20):licnE h j=0:=by unfold licnE;rw [if_neg (fun h=>h h1),if_neg (fun h=>h h2),if_neg (by omega)]
section
variable (h:Hse) (m:List (Int × Tal)) (j:Job)
theorem archive_p (hV:HValid h) (ht:TalOk h m):ACalls Tryz.prog 128 [.ptr 11 0 0 0,j.enc] (shoB h m) (DeedR (archF h j) (archE h j)) (DeedP (archE h j)):=by
  have hs:=hsmall_of hV
  have hfew:=hV.few
  by_cases hc:checkErr j.sheet j.band=0
  · have hsb:=small_band hc
    refine acalls_of_aw Tryz.func128 rfl (dc rfl) ?_;refine aw_post ?_
    (repeat' (first|(refine ar_isq ?_;refine zq ?_)|(refine zbt ?_)|(((refine ar_subk_l (sub_frzL (t:=8) vi ([j.client]) rfl rfl rfl rfl (fun _ _=>rfl) (fun _=>rfl)) ?_);refine zpv fn56 (hfrom_p _ _ [j.client]) ?_))|refine ar_buildLE vi ([_]) (by exact ty rfl) (by exact rfl) (by exact ty rfl) (by exact rfl) (by exact rfl) (by exact Nat.succ_pos _) (by exact rfl) (by exact dc rfl) (by exact rfl) (by exact fun _=>⟨rfl,rfl⟩) (by exact dc rfl) ?_|(refine zpv fn58 (check_p j.sheet j.band) ?_)|(refine zpv fn116 (htwin_p j.dsn hsb) ?_)|(refine zpv fn122 (good_p j.dsn) ?_)|((refine ar_must ?_ ?_<;>intro hrf<;>first|exact absurd hrf (by decide)|((try replace hrf:=HG.out hrf);(try dsimp only at hrf);(try rw [fromB_one] at hrf);(try rw [withinB_iff] at hrf);(try rw [withinB_no] at hrf);(try rw [inD_iff] at hrf);(try rw [inO_iff] at hrf))))|refine zst ?_|refine aw_drawn (id:=7) [(0,0),(1,0),(2,0),(3,0),(4,0),(5,0),(6,0),(7,1),(8,1),(9,0),(10,0),(11,0),(12,2)] mixed (by kernel_rfl) ?_|refine zco ?_ ?_|(refine fun (hg:(_:Prop))=>?_;first|exact absurd hg (by decide)|((try replace hg:=HG.out hg);(try dsimp only at hg);(try rw [fromB_one] at hg);(try rw [withinB_iff] at hg);(try rw [withinB_no] at hg);(try rw [inD_iff] at hg);(try rw [inO_iff] at hg);(try (have _h:True:=hg;clear _h hg));first|(exfalso;omega)|skip))))
    all_goals first
      | exact absurd hc (by assumption)
      | exact dead_ret (archE_1 (by assumption)) (by decide)
      | exact dead_ret (archE_3 (by assumption) (by assumption) (by assumption)) (by decide)
      | exact dead_ret (archE_4 (by assumption) (by assumption) (by assumption) (by assumption)) (by decide)
      | ((refine subq_n [] [.arr 11 1 (fun _=>shoV 9 10 11 12 13 14 15 8 (archF h j)),.dead,.dead,.dead,.dead,.dead,.dead,.dead,mapE Tal.enc m,LB 5 Itm.enc (archF h j).store.items,LB 2 Prt.enc (archF h j).store.prints,LB 7 Dsn.enc (archF h j).designs,LB 4 Lic.enc (archF h j).lics,LB 4 Ordr.enc (archF h j).orders,LB 1 vi (archF h j).made,LB 1 vi (archF h j).fors] ?_ ?_;(focus ((refine sub_toL [some 0,some 1,some 2,some 3,some 4,some 5,some 6,some 7,some 8,some 1,some 2,some 13,some 4,some 5,some 6,some 7] [] rfl ?_ ?_<;>(repeat' (first|exact trivial|refine ⟨⟨_,rfl,?_⟩,?_⟩|refine vs1 ?_ ?_|refine vs2 ?_ ?_|refine vs3 ?_|refine vs4 ?_ ?_|refine ⟨.inl ⟨_,_,rfl,rfl,?_⟩,?_⟩|exact ⟨.inr ⟨rfl,rfl⟩,trivial⟩|refine ⟨.inr ⟨rfl,rfl⟩,?_⟩|(intro _ _)|exact vz1|(first|refine ⟨trivial,?_⟩|refine ⟨bsub_mapE rfl rfl (fun _=>rfl),?_⟩|exact VSub.aggL ⟨.closed rfl,.closed rfl,.closed rfl,.sl rfl,.sl rfl,slEq rfl (by simp [archF]),.sl rfl,.sl rfl,.sl rfl,.sl rfl,.map rfl,trivial⟩)|exact vz2|fail)));done)))
         exact bq0n ⟨archE_5 (by assumption) (by assumption) (by assumption) (by assumption),rfl,m,talOk_same ht (fun _ _=>rfl),rfl⟩)
      | trace_state
  · refine acalls_of_aw Tryz.func128 rfl (dc rfl) ?_
    (repeat' (first|(refine ar_isq ?_;refine zq ?_)|(refine zbt ?_)|(((refine ar_subk_l (sub_frzL (t:=8) vi ([j.client]) rfl rfl rfl rfl (fun _ _=>rfl) (fun _=>rfl)) ?_);refine zpv fn56 (hfrom_p _ _ [j.client]) ?_))|refine ar_buildLE vi ([_]) (by exact ty rfl) (by exact rfl) (by exact ty rfl) (by exact rfl) (by exact rfl) (by exact Nat.succ_pos _) (by exact rfl) (by exact dc rfl) (by exact rfl) (by exact fun _=>⟨rfl,rfl⟩) (by exact dc rfl) ?_|(refine zpv fn58 (check_p j.sheet j.band) ?_)|((refine ar_must ?_ ?_<;>intro hrf<;>first|exact absurd hrf (by decide)|((try replace hrf:=HG.out hrf);(try dsimp only at hrf);(try rw [fromB_one] at hrf);(try rw [withinB_iff] at hrf);(try rw [withinB_no] at hrf);(try rw [inD_iff] at hrf);(try rw [inO_iff] at hrf))))|refine zst ?_|refine aw_drawn (id:=7) [(0,0),(1,0),(2,0),(3,0),(4,0),(5,0),(6,0),(7,1),(8,1),(9,0),(10,0),(11,0),(12,2)] mixed (by kernel_rfl) ?_|refine zco ?_ ?_|(refine fun (hg:(_:Prop))=>?_;first|exact absurd hg (by decide)|((try replace hg:=HG.out hg);(try dsimp only at hg);(try rw [fromB_one] at hg);(try rw [withinB_iff] at hg);(try rw [withinB_no] at hg);(try rw [inD_iff] at hg);(try rw [inO_iff] at hg);(try (have _h:True:=hg;clear _h hg));first|(exfalso;omega)|skip))))
    all_goals first
      | exact absurd (by assumption) hc
      | exact dead_ret (archE_1 (by assumption))  (by decide)
      | exact dead_ret (archE_2 (by assumption) (by assumption)) hc
      | trace_state
theorem license_p (hV:HValid h) (ht:TalOk h m):ACalls Tryz.prog 129 [.ptr 11 0 0 0,j.enc] (shoB h m) (DeedR (licnF h j) (licnE h j)) (DeedP (licnE h j)):=by
  have hs:=hsmall_of hV
  have hfew:=hV.few
  refine acalls_of_aw Tryz.func129 rfl (dc rfl) ?_;refine aw_post ?_
  (repeat' (first|(refine ar_isq ?_;refine zq ?_)|refine zil (j:=j.design.toNat) ?_|refine zis (j:=j.design.toNat) ?_|refine zit (j:=j.design.toNat) ?_|(refine zbt ?_)|((refine ar_read h m (design_p h j.design hs) fn125 (by intros;subst_vars;rfl) ?_;intro _ hv;subst hv))|(((refine ar_subk_l (sub_frzL (t:=11) vi ([j.client]) rfl rfl rfl rfl (fun _ _=>rfl) (fun _=>rfl)) ?_);refine zpv fn56 (hfrom_p _ _ [j.client]) ?_))|(((refine ar_subk_l (sub_frzL (t:=31) vi ([j.n]) rfl rfl rfl rfl (fun _ _=>rfl) (fun _=>rfl)) ?_);refine zpv fn56 (hfrom_p _ _ [j.n]) ?_))|(((refine ar_subk_l (sub_frzL (t:=42) vi ([j.til]) rfl rfl rfl rfl (fun _ _=>rfl) (fun _=>rfl)) ?_);refine zpv fn56 (hfrom_p _ _ [j.til]) ?_))|refine ar_buildLE vi ([_]) (by exact ty rfl) (by exact rfl) (by exact ty rfl) (by exact rfl) (by exact rfl) (by exact Nat.succ_pos _) (by exact rfl) (by exact dc rfl) (by exact rfl) (by exact fun _=>⟨rfl,rfl⟩) (by exact dc rfl) ?_|((refine ar_must ?_ ?_<;>intro hrf<;>first|exact absurd hrf (by decide)|((try replace hrf:=HG.out hrf);(try dsimp only at hrf);(try rw [fromB_one] at hrf);(try rw [withinB_iff] at hrf);(try rw [withinB_no] at hrf);(try rw [inD_iff] at hrf);(try rw [inO_iff] at hrf))))|refine zg ?_ ?_|refine zgu ?_|refine zst ?_|refine aw_drawn (id:=2) [(0,0),(1,0),(2,1),(3,2),(4,0),(5,0),(6,0),(7,0),(8,0),(9,0),(10,0),(11,0),(12,0),(13,0),(14,0),(15,0),(16,0),(17,0),(18,0),(19,0),(20,0),(21,0),(22,1),(23,2),(24,0),(25,0),(26,0),(27,0),(28,0),(29,0),(30,0),(31,0),(32,0),(33,1),(34,2),(35,0),(36,2)] mixed (by kernel_rfl) ?_|refine aw_drawn (id:=2) [(0,0),(1,0),(2,1),(3,1),(4,0),(5,0),(6,0),(7,0),(8,0),(9,0),(10,0),(11,0),(12,0),(13,0),(14,0),(15,0),(16,0),(17,0),(18,0),(19,0),(20,0),(21,0),(22,1),(23,1),(24,0),(25,0),(26,0),(27,0),(28,0),(29,0),(30,0),(31,0),(32,0),(33,1),(34,1),(35,0),(36,1)] mixed (by kernel_rfl) ?_|refine aw_drawn (id:=4) [(0,0),(1,0),(2,0),(3,0),(4,0),(5,0),(6,0),(7,0),(8,0),(9,0),(10,0),(11,0),(12,0),(13,0),(14,0),(15,1),(16,1),(17,0),(18,0),(19,0),(20,2)] mixed (by kernel_rfl) ?_|refine zco ?_ ?_|(refine fun (hg:(_:Prop))=>?_;first|exact absurd hg (by decide)|((try replace hg:=HG.out hg);(try dsimp only at hg);(try rw [fromB_one] at hg);(try rw [withinB_iff] at hg);(try rw [withinB_no] at hg);(try rw [inD_iff] at hg);(try rw [inO_iff] at hg);(try (have _h:True:=hg;clear _h hg));first|(exfalso;omega)|skip))))
  all_goals first
    | exact dead_ret (licnE_1 (by assumption)) (by decide)
    | exact dead_ret (licnE_2 (by assumption) (fun hx=>by obtain ⟨x1,x2,x3,x4⟩:=hx;first|exact absurd x1 (by assumption)|exact absurd x3 (by assumption)|exact absurd x4 (by assumption)|exact x2 (by assumption))) (by decide)
    | exact dead_ret (licnE_3 (by assumption) ⟨by assumption,by assumption,by assumption,by assumption⟩ (by assumption)) (by decide)
    | ((refine subq_n [] [.arr 11 1 (fun _=>shoV 9 10 11 12 13 14 15 8 (licnF h j)),.dead,.dead,.dead,.dead,.dead,.dead,.dead,mapE Tal.enc m,LB 5 Itm.enc (licnF h j).store.items,LB 2 Prt.enc (licnF h j).store.prints,LB 7 Dsn.enc (licnF h j).designs,LB 4 Lic.enc (licnF h j).lics,LB 4 Ordr.enc (licnF h j).orders,LB 1 vi (licnF h j).made,LB 1 vi (licnF h j).fors] ?_ ?_;(focus ((refine sub_toL [some 0,some 1,some 2,some 3,some 4,some 5,some 6,some 7,some 8,some 1,some 2,some 3,some 14,some 5,some 6,some 7] [] rfl ?_ ?_<;>(repeat' (first|exact trivial|refine ⟨⟨_,rfl,?_⟩,?_⟩|refine vs1 ?_ ?_|refine vs2 ?_ ?_|refine vs3 ?_|refine vs4 ?_ ?_|refine ⟨.inl ⟨_,_,rfl,rfl,?_⟩,?_⟩|exact ⟨.inr ⟨rfl,rfl⟩,trivial⟩|refine ⟨.inr ⟨rfl,rfl⟩,?_⟩|(intro _ _)|exact vz1|(first|refine ⟨trivial,?_⟩|refine ⟨bsub_mapE rfl rfl (fun _=>rfl),?_⟩|exact VSub.aggL ⟨.closed rfl,.closed rfl,.closed rfl,.sl rfl,.sl rfl,.sl rfl,slEq rfl (by simp [licnF]),.sl rfl,.sl rfl,.sl rfl,.map rfl,trivial⟩)|exact vz2|fail)));done)))
       exact bq0n ⟨licnE_4 (by assumption) ⟨by assumption,by assumption,by assumption,by assumption⟩ (by assumption),rfl,m,talOk_same ht (fun _ _=>rfl),rfl⟩)
    | trace_state
theorem wait_p (hV:HValid h) (ht:TalOk h m):ACalls Tryz.prog 135 [.ptr 11 0 0 0,j.enc] (shoB h m) (DeedR (waitF h j) (waitE h j)) (DeedP (waitE h j)):=by
  have hday:=hV.day
  have h0:((1≤j.n∧j.n≤10000)∧h.day+j.n≤10000)→waitE h j=0:=fun hc=>by unfold waitE;rw [if_pos hc]
  have h2:¬ ((1≤j.n∧j.n≤10000)∧h.day+j.n≤10000)→waitE h j=2:=fun hc=>by unfold waitE;rw [if_neg hc]
  refine acalls_of_aw Tryz.func135 rfl (dc rfl) ?_;refine aw_post ?_
  (repeat' (first|(refine ar_isq ?_;refine zq ?_)|(((refine ar_subk_l (sub_frzL (t:=6) vi ([j.n]) rfl rfl rfl rfl (fun _ _=>rfl) (fun _=>rfl)) ?_);refine zpv fn56 (hfrom_p _ _ [j.n]) ?_))|refine ar_buildLE vi ([_]) (by exact ty rfl) (by exact rfl) (by exact ty rfl) (by exact rfl) (by exact rfl) (by exact Nat.succ_pos _) (by exact rfl) (by exact dc rfl) (by exact rfl) (by exact fun _=>⟨rfl,rfl⟩) (by exact dc rfl) ?_|((refine ar_must ?_ ?_<;>intro hrf<;>first|exact absurd hrf (by decide)|((try replace hrf:=HG.out hrf);(try dsimp only at hrf);(try rw [fromB_one] at hrf);(try rw [withinB_iff] at hrf);(try rw [withinB_no] at hrf);(try rw [inD_iff] at hrf);(try rw [inO_iff] at hrf))))|refine zg ?_ ?_|refine zgu ?_|refine zst ?_|refine aw_drawn (id:=1) [(0,0),(1,0),(2,2),(3,2),(4,0),(5,0),(6,0),(7,0),(8,0),(9,0),(10,0),(11,0),(12,0),(13,0),(14,0),(15,2)] mixed (by kernel_rfl) ?_|refine aw_drawn (id:=1) [(0,0),(1,0),(2,1),(3,2),(4,0),(5,0),(6,0),(7,0),(8,0),(9,0),(10,0),(11,0),(12,0),(13,0),(14,0),(15,2)] mixed (by kernel_rfl) ?_|refine aw_drawn (id:=1) [(0,0),(1,0),(2,1),(3,1),(4,0),(5,0),(6,0),(7,0),(8,0),(9,0),(10,0),(11,0),(12,0),(13,0),(14,0),(15,1)] mixed (by kernel_rfl) ?_|refine aw_drawn (id:=2) [(0,0),(1,0),(2,0),(3,0),(4,0),(5,0),(6,0),(7,0),(8,0),(9,0),(10,0),(11,2)] mixed (by kernel_rfl) ?_|refine zco ?_ ?_|(refine fun (hg:(_:Prop))=>?_;first|exact absurd hg (by decide)|((try replace hg:=HG.out hg);(try dsimp only at hg);(try rw [fromB_one] at hg);(try rw [withinB_iff] at hg);(try rw [withinB_no] at hg);(try rw [inD_iff] at hg);(try rw [inO_iff] at hg);(try (have _h:True:=hg;clear _h hg));first|(exfalso;omega)|skip))))
  all_goals first
    | exact dead_ret (h2 (by omega)) (by decide)
    | ((refine subq_n [] [.arr 11 1 (fun _=>shoV 9 10 11 12 13 14 15 8 (waitF h j)),.dead,.dead,.dead,.dead,.dead,.dead,.dead,mapE Tal.enc m,LB 5 Itm.enc (waitF h j).store.items,LB 2 Prt.enc (waitF h j).store.prints,LB 7 Dsn.enc (waitF h j).designs,LB 4 Lic.enc (waitF h j).lics,LB 4 Ordr.enc (waitF h j).orders,LB 1 vi (waitF h j).made,LB 1 vi (waitF h j).fors] ?_ ?_;(focus (exact zsl [some 0,some 1,some 2,some 3,some 4,some 5,some 6,some 7,some 8,some 1,some 2,some 3,some 4,some 5,some 6,some 7] [])))
       exact bq0n ⟨h0 (by omega),rfl,m,talOk_same ht (fun _ _=>rfl),rfl⟩)
    | trace_state
end
def licV (h:Hse) (j:Job) (b:Nat):V:=match licOf h j with
  | some k=>.ptr 4 b k 0
  | none=>.s (.pointer none)
theorem allow_iff {h:Hse}{j:Job}{l:Lic}:allowB h j l=true↔l.design=j.design∧l.client=j.client∧h.day≤l.til∧j.n≤l.left:=by unfold allowB;simp
theorem licAt_yes {h:Hse}{j:Job}{k:Nat}(h0:licAt h j k=none) (ha:allowB h j (el h.lics k)=true):∀ {n:Nat},k<n→licAt h j n=some k
  | 0,hk=>by omega
  | n+1,hk=>by
    unfold licAt
    by_cases e:k=n
    · subst e;rw [h0];exact if_pos ha
    · rw [licAt_yes h0 ha (n:=n) (by omega)]
theorem licAt_no {h:Hse}{j:Job}{k:Nat}(h0:licAt h j k=none) (ha:¬ allowB h j (el h.lics k)=true):licAt h j (k+1)=none:=by
  unfold licAt
  rw [h0]
  exact if_neg ha
section
variable (h:Hse) (m:List (Int × Tal)) (j:Job)
theorem licence_p (hs:HSmall h):ACalls Tryz.prog 157 [.ptr 11 0 0 0,j.enc] (shoB h m) (fun v H=>v=licV h j 4∧H=shoB h m) NoP:=by
  unfold HSmall at hs
  refine acalls_of_aw Tryz.func157 rfl (dc rfl) ?_
  (repeat' (first|(refine ar_isq ?_;refine zq ?_)|refine zg ?_ ?_|refine zgu ?_|refine zst ?_|refine aw_drawn (id:=5) [(0,0),(1,0),(2,0),(3,0),(4,0),(5,0),(6,0),(7,0),(8,0),(9,0),(10,0),(11,0),(12,0),(13,0),(14,0),(15,0),(16,0),(17,0),(18,0),(19,0),(20,0),(21,0),(22,0),(23,0),(24,0),(25,0),(26,0),(27,0),(28,0),(29,0),(30,0),(31,0),(32,0),(33,0),(34,0),(35,0),(36,0)] mixed (by kernel_rfl) ?_|refine zco ?_ ?_|exact zd|(refine fun (hg:(_:Prop))=>?_;(try replace hg:=HG.out hg);(try dsimp only at hg);(try (have _h:True:=hg;clear _h hg)))))
  refine aw_for h.lics.length (fun k=>licAt h j k=none) (fun k=>[(0,.ptr 11 0 0 0),(3,.ptr 16 9 0 0),(12,vi h.lics.length),(13,vi k)]) (fun _=>[.arr 11 1 (fun _=>shoV 1 2 3 4 5 6 7 8 h),LB 5 Itm.enc h.store.items,LB 2 Prt.enc h.store.prints,LB 7 Dsn.enc h.designs,LB 4 Lic.enc h.lics,LB 4 Ordr.enc h.orders,LB 1 vi h.made,LB 1 vi h.fors,mapE Tal.enc m,.arr 16 1 (fun _=>j.enc)]) rfl ?_ ?_
  · (exact zsc [some 0,some 1,some 2,some 3,some 4,some 5,some 6,some 7,some 8,some 9] [])
  intro k hk hJ
  by_cases hlt:k<h.lics.length
  · (repeat' (first|(refine ar_isq ?_;refine zq ?_)|refine zil (j:=k) ?_|refine zis (j:=k) ?_|refine zit (j:=k) ?_|refine zg ?_ ?_|refine zgu ?_|refine zst ?_|refine aw_drawn (id:=5) [(0,0),(1,0),(2,0),(3,0),(4,0),(5,0),(6,0),(7,0),(8,0),(9,0),(10,0),(11,0),(12,0),(13,0),(14,0),(15,0),(16,0),(17,0),(18,0),(19,0),(20,0),(21,0),(22,0),(23,0),(24,0),(25,0),(26,0),(27,0),(28,0),(29,0),(30,0),(31,0),(32,0),(33,0),(34,0),(35,0),(36,0)] mixed (by kernel_rfl) ?_|refine zco ?_ ?_|exact zd|(refine fun (hg:(_:Prop))=>?_;(try replace hg:=HG.out hg);(try dsimp only at hg);(try (have _h:True:=hg;clear _h hg)))))
    all_goals first
      | ((first|refine loop_next (by omega) ?_ ?_|refine (show _∧_∧SubOf _ _ _ _ _ _ from And.intro (by omega) (And.intro ?_ ?_)));(focus (((refine licAt_no hJ fun ha=>?_;obtain ⟨h1,h2,h3,h4⟩:=allow_iff.1 ha;first|exact absurd h1 (by assumption)|exact absurd h2 (by assumption)|omega));done));(focus (exact zsc [some 0,some 1,some 2,some 3,some 4,some 5,some 6,some 7,some 8,some 9] [])))
      | ((refine aw_mono_r (env':=[(4,.ptr 4 4 k 0)]) (H':=[.arr 11 1 (fun _=>shoV 1 2 3 4 5 6 7 8 h),LB 5 Itm.enc h.store.items,LB 2 Prt.enc h.store.prints,LB 7 Dsn.enc h.designs,LB 4 Lic.enc h.lics,LB 4 Ordr.enc h.orders,LB 1 vi h.made,LB 1 vi h.fors,mapE Tal.enc m]) ?_ ?_;(focus (exact zsc [some 0,some 1,some 2,some 3,some 4,some 5,some 6,some 7,some 8] [])))
         refine aw_ret ?_;(repeat (first|refine ret_then ?_|refine ret_block ?_));refine bq1 rfl ⟨?_,rfl⟩
         unfold licV licOf
         rw [licAt_yes hJ (allow_iff.2 ⟨by assumption,by assumption,by omega,by omega⟩) hlt])
      | trace_state
  · (repeat' (first|(refine ar_isq ?_;refine zq ?_)|refine zg ?_ ?_|refine zgu ?_|refine zst ?_|refine aw_drawn (id:=5) [(0,0),(1,0),(2,0),(3,0),(4,0),(5,0),(6,0),(7,0),(8,0),(9,0),(10,0),(11,0),(12,0),(13,0),(14,0),(15,0),(16,0),(17,0),(18,0),(19,0),(20,0),(21,0),(22,0),(23,0),(24,0),(25,0),(26,0),(27,0),(28,0),(29,0),(30,0),(31,0),(32,0),(33,0),(34,0),(35,0),(36,0)] mixed (by kernel_rfl) ?_|refine zco ?_ ?_|exact zd|(refine fun (hg:(_:Prop))=>?_;(try replace hg:=HG.out hg);(try dsimp only at hg);(try (have _h:True:=hg;clear _h hg)))))
    all_goals first
      | (exfalso;omega)
      | ((refine aw_mono_r (env':=[(4,.s (.pointer none))]) (H':=[.arr 11 1 (fun _=>shoV 1 2 3 4 5 6 7 8 h),LB 5 Itm.enc h.store.items,LB 2 Prt.enc h.store.prints,LB 7 Dsn.enc h.designs,LB 4 Lic.enc h.lics,LB 4 Ordr.enc h.orders,LB 1 vi h.made,LB 1 vi h.fors,mapE Tal.enc m]) ?_ ?_;(focus (exact zsc [some 0,some 1,some 2,some 3,some 4,some 5,some 6,some 7,some 8] [])))
         refine aw_ret ?_;(repeat (first|refine ret_then ?_|refine ret_block ?_));refine bq1 rfl ⟨?_,rfl⟩
         unfold licV licOf
         rw [show h.lics.length=k by omega,hJ])
      | trace_state
end
section
variable {P:Program}{nt:Nat}{env:Env}{H:Heap}{dst:Option Tmp}{ty:TypeId}{pos:String}{after:Array Edge}{guard:Option (Nat × Bool)}{T T':TypeId}{d:TyD}{x:Operand}{v:V}
theorem eq_pn (d:Nat) {e:TypeId}(w:World) (h:P.underlying T=some (.pointer e)):(Op.equalIn (d+1) T (.pointer none) (.pointer none)).run P w=.ok true w:=by simp [Op.equalIn,run_underlying h]
theorem eq_ps (d:Nat) {e:TypeId}{a:Addr}(w:World) (h:P.underlying T=some (.pointer e)):(Op.equalIn (d+1) T (.pointer (some a)) (.pointer none)).run P w=.ok false w:=by simp [Op.equalIn,run_underlying h]
theorem qs_nilPtrIsNot {e:TypeId}(ht:TyIs P T d) (hk:d.tk=.ptr e) (hx:eo env x=some (.s (.pointer none))):QS P nt env H ⟨dst,.binOp .neq T x (.const (.pointer none)) T',ty,pos,after,guard⟩ (.s (.bool false)):=.mk fun X I ρ a w h hw=>by
  have hu:=ht.ptrk hk
  refine ⟨_,.s _,fun w' _=>?_⟩
  have e:(Op.equal T (.pointer none) (.pointer none)).run P w'=.ok true w':=eq_pn 9999 w' hu
  have h2:a.eval (.const (.pointer none))=.pointer none:=rfl
  simp [execOp,sval h hx,h2,eqGuard,binOp,e]
theorem qs_ptrIsNot {e:TypeId}{sz b i off:Nat}(ht:TyIs P T d) (hk:d.tk=.ptr e) (hx:eo env x=some (.ptr sz b i off)):QS P nt env H ⟨dst,.binOp .neq T x (.const (.pointer none)) T',ty,pos,after,guard⟩ (.s (.bool true)):=.mk fun X I ρ a w h hw=>by
  have hu:=ht.ptrk hk
  have h1:=eo_rel h hx
  obtain ⟨cb,z,h1',hb⟩:=h1.ptr_inv
  refine ⟨_,.s _,fun w' _=>?_⟩
  have e:(Op.equal T (.pointer (some ⟨cb,i*sz+off,none⟩)) (.pointer none)).run P w'=.ok false w':=eq_ps 9999 w' hu
  have h2:a.eval (.const (.pointer none))=.pointer none:=rfl
  simp [execOp,h1',h2,eqGuard,binOp,e]
end
theorem licAt_some {h:Hse}{j:Job}{i:Nat}:∀ {k:Nat},licAt h j k=some i→i<k∧allowB h j (el h.lics i)=true
  | 0,he=>by cases he
  | k+1,he=>by
    unfold licAt at he
    split at he
    · rename_i q hq
      cases he
      have:=licAt_some hq
      exact ⟨by omega,this.2⟩
    · split at he
      · rename_i hb
        cases he
        exact ⟨by omega,hb⟩
      · cases he
theorem doneTo_same {h t:Hse}{n st:Int}:∀ {k:Nat},(∀ j,j<k→el t.fors j=el h.fors j∧(el t.store.prints j).state=(el h.store.prints j).state)→doneTo t n st k=doneTo h n st k
  | 0,_=>rfl
  | k+1,hk=>by
    have ih:=doneTo_same (h:=h) (t:=t) (n:=n) (st:=st) (k:=k) fun j hj=>hk j (by omega)
    obtain ⟨h1,h2⟩:=hk k (by omega)
    unfold doneTo at ih ⊢
    cases hb:(decide (el h.fors k=n)&&decide ((el h.store.prints k).state=st))
    · rw [cntB_no (p:=fun j=>decide (el h.fors j=n)&&decide ((el h.store.prints j).state=st)) hb,cntB_no (p:=fun j=>decide (el t.fors j=n)&&decide ((el t.store.prints j).state=st)) (by rw [h1,h2];exact hb),ih]
    · rw [cntB_yes (p:=fun j=>decide (el h.fors j=n)&&decide ((el h.store.prints j).state=st)) hb,cntB_yes (p:=fun j=>decide (el t.fors j=n)&&decide ((el t.store.prints j).state=st)) (by rw [h1,h2];exact hb),ih]
theorem doneTo_none {h:Hse}{n st:Int}{k:Nat}(hk:∀ j,j<k→el h.fors j≠n):doneTo h n st k=0:=cntB_none fun j hj=>by
  rw [decide_eq_false (hk j hj)]
  rfl
theorem ordAt_same {h t:Hse}{i:Nat}(ho:el t.orders i=el h.orders i) (hd:h.designs.length≤t.designs.length) (h0:doneF t i 0=doneF h i 0) (h1:doneF t i 1=doneF h i 1) (hi:OrdAt h i):OrdAt t i:=by
  obtain ⟨a,b,c,d,e⟩:=hi
  unfold inDesigns at b
  refine ⟨by rw [ho];exact a,?_,by rw [ho];exact c,by rw [ho,h0,h1];exact d,by rw [ho,h0,h1];exact e⟩
  rw [ho]
  exact ⟨b.1,by omega⟩
theorem takeL_ok {h:Hse}{j:Job}(hV:HValid h) (hn:1≤j.n):(takeL h j).length=h.lics.length∧∀ i,i<(takeL h j).length→LicOk h (el (takeL h j) i):=by
  unfold takeL
  split
  · exact ⟨rfl,hV.lics⟩
  · split
    · rename_i k hk
      obtain ⟨h1,h2⟩:=licAt_some hk
      refine ⟨List.length_set,fun i hi=>?_⟩
      rw [List.length_set] at hi
      rw [el_setI h1]
      split
      · rename_i e
        obtain ⟨a,b,c,d,f⟩:=hV.lics k h1
        unfold allowB at h2
        rw [Bool.and_eq_true,Bool.and_eq_true,Bool.and_eq_true,decide_eq_true_iff,decide_eq_true_iff,decide_eq_true_iff,decide_eq_true_iff] at h2
        exact ⟨a,b,c,d,by show 0≤(el h.lics k).left-j.n∧(el h.lics k).left-j.n≤400;omega⟩
      · exact hV.lics i hi
    · exact ⟨rfl,hV.lics⟩
theorem hvalid_take {h:Hse}{j:Job}(hV:HValid h) (he:takeE h j=0):HValid (takeF h j):=by
  unfold takeE at he
  split at he
  · omega
  · split at he
    · omega
    · split at he
      · omega
      · split at he
        · omega
        · rename_i h1 h2 _ h4
          have h1:inDesigns h j.design:=Classical.byContradiction h1
          have h2:=Classical.byContradiction h2
          obtain ⟨l1,l2⟩:=takeL_ok hV h2.2.1
          have hlen:(takeF h j).orders.length=h.orders.length+1:=by show (h.orders++[_]).length=_;rw [List.length_append];rfl
          have hdone:∀ n st,doneF (takeF h j) n st=doneF h n st:=fun _ _=>rfl
          have hold:∀ i,i<h.orders.length→el (takeF h j).orders i=el h.orders i:=fun i hi=>el_app_lt hi
          refine { per:=hV.per,day:=hV.day,store:=hV.store,few:=⟨hV.few.1,by show (takeL h j).length≤20;rw [l1];exact hV.few.2.1,by omega⟩,designs:=hV.designs,lics:=l2,mades:=hV.mades,made:=hV.made,forss:=hV.forss,fors:=fun i hi=>?_,orders:=fun i hi=>?_ }
          · obtain ⟨a,b⟩:=hV.fors i hi
            unfold inOrders at a
            refine ⟨?_,?_⟩
            · show 0≤el h.fors i∧el h.fors i<((takeF h j).orders.length:Int)
              omega
            · rw [show (takeF h j).fors=h.fors from rfl,hold _ (by omega)]
              exact b
          · by_cases e:i<h.orders.length
            · exact ordAt_same (hold i e) (Nat.le_refl _) rfl rfl (hV.orders i e)
            · have hi2:i=h.orders.length:=by omega
              have hnone:∀ st,doneF (takeF h j) i st=0:=fun st=>doneTo_none fun q hq=>by
                have:=(hV.fors q hq).1.2
                show el h.fors q≠(i:Int)
                omega
              have hel:el (takeF h j).orders i=⟨j.client,j.design,j.n,false⟩:=by rw [hi2];exact el_snoc
              unfold OrdAt
              rw [hel,hnone,hnone]
              exact ⟨h2.1,h1,h2.2,(fun hd=>(by cases hd)),fun _=>⟨rfl,by show (0:Int)≤j.n;omega⟩⟩
theorem hvalid_engv {h:Hse}{j:Job}(hV:HValid h) (he:engvE h j=0):HValid (engvF h j):=by
  unfold engvE at he
  split at he
  · omega
  · rename_i h1
    have h1:inDesigns h j.design:=Classical.byContradiction h1
    have hs:actF h.store dieAct=addS h.store newDie:=rfl
    have hit:(engvF h j).store.items=h.store.items++[newDie]:=rfl
    have hml:(engvF h j).made=h.made++[j.design]:=rfl
    have hmm:=hV.mades
    refine { per:=hV.per,day:=hV.day,store:=valid_act hV.store he,few:=hV.few,designs:=hV.designs,lics:=hV.lics,mades:=by rw [hit,hml,List.length_append,List.length_append,hmm];rfl,made:=fun i hi=>?_,forss:=hV.forss,fors:=fun i hi=>?_,orders:=fun i hi=>ordAt_same rfl (Nat.le_refl _) rfl rfl (hV.orders i hi) }
    · rw [hit,List.length_append,List.length_singleton] at hi
      unfold MadeAt
      rw [hit,hml]
      by_cases e:i<h.store.items.length
      · obtain ⟨a,b,c⟩:=hV.made i e
        have hsrc:=hV.store.2.1 i e
        unfold Made at hsrc
        rw [el_app_lt e,el_app_lt (by omega)]
        refine ⟨a,fun hk=>?_,c⟩
        rw [el_app_lt (by omega)]
        exact b hk
      · have e2:i=h.store.items.length:=by omega
        rw [e2,el_snoc,← hmm,el_snoc]
        exact ⟨h1,fun hk=>absurd rfl hk,fun hk=>absurd hk (by decide)⟩
    · obtain ⟨a,b⟩:=hV.fors i hi
      refine ⟨a,?_⟩
      have hp:=(hV.store.2.2.2.1 i (by have:=hV.forss;show i<h.store.prints.length;have hi:i<h.fors.length:=hi;omega)).1
      show (el h.orders (el h.fors i).toNat).design=el (h.made++[j.design]) (el h.store.prints i).plate.toNat
      rw [el_app_lt (by omega)]
      exact b
theorem valid_states {s t:Sto}(hV:Valid s) (hl:t.life=s.life) (hi:t.items=s.items) (hn:t.prints.length=s.prints.length) (hp:∀ j,j<s.prints.length→(el t.prints j).plate=(el s.prints j).plate∧(el t.prints j).state≤2):Valid t:=by
  obtain ⟨h1,h2,h3,h4,h5⟩:=hV
  unfold Few at h1
  refine ⟨⟨by rw [hl];exact h1.1,by rw [hi];exact h1.2.1,by rw [hn];exact h1.2.2⟩,by rw [hi];exact h2,by rw [hi];exact h3,fun j hj=>?_,fun i hlt=>?_⟩
  · rw [hn] at hj
    obtain ⟨q1,q2,q3⟩:=h4 j hj
    obtain ⟨e1,e2⟩:=hp j hj
    rw [hi]
    exact ⟨by rw [e1];exact q1,by rw [e1];exact q2,e2⟩
  · rw [hi] at hlt
    obtain ⟨u1,u2⟩:=h5 i hlt
    rw [show UsedOk t i↔UsedOk s i from ?_]
    · exact ⟨u1,u2⟩
    · unfold UsedOk usedS
      rw [hi,hl,hn,usedP_same fun j hj=>(hp j hj).1]
theorem give_len {h:Hse}{j:Job}:(giveF h j).store.prints.length=h.store.prints.length:=by
  show ((List.range h.store.prints.length).map (giveP h j.order)).length=_
  simp
theorem give_el {h:Hse}{j:Job}{k:Nat}(hk:k<h.store.prints.length):el (giveF h j).store.prints k=giveP h j.order k:=by
  show el ((List.range h.store.prints.length).map (giveP h j.order)) k=_
  rw [el_map_range hk]
theorem give_other {h:Hse}{j:Job}{n st:Int}(hn:n≠j.order):∀ {k:Nat},k≤h.store.prints.length→doneTo (giveF h j) n st k=doneTo h n st k
  | 0,_=>rfl
  | k+1,hk=>by
    have ih:=give_other (h:=h) (j:=j) (st:=st) hn (k:=k) (by omega)
    unfold doneTo at ih ⊢
    by_cases hf:el h.fors k=n
    · have he:el (giveF h j).store.prints k=el h.store.prints k:=by
        rw [give_el (by omega)]
        unfold giveP
        rw [if_neg (by omega)]
      cases hb:(decide (el h.fors k=n)&&decide ((el h.store.prints k).state=st))
      · rw [cntB_no (p:=fun q=>decide (el h.fors q=n)&&decide ((el h.store.prints q).state=st)) hb,cntB_no (p:=fun q=>decide (el (giveF h j).fors q=n)&&decide ((el (giveF h j).store.prints q).state=st)) (by rw [he];exact hb),ih]
      · rw [cntB_yes (p:=fun q=>decide (el h.fors q=n)&&decide ((el h.store.prints q).state=st)) hb,cntB_yes (p:=fun q=>decide (el (giveF h j).fors q=n)&&decide ((el (giveF h j).store.prints q).state=st)) (by rw [he];exact hb),ih]
    · rw [cntB_no (p:=fun q=>decide (el h.fors q=n)&&decide ((el h.store.prints q).state=st)) (by rw [decide_eq_false hf];rfl),cntB_no (p:=fun q=>decide (el (giveF h j).fors q=n)&&decide ((el (giveF h j).store.prints q).state=st)) (by rw [show el (giveF h j).fors k=el h.fors k from rfl,decide_eq_false hf];rfl),ih]
theorem give_own {h:Hse}{j:Job}:∀ {k:Nat},k≤h.store.prints.length→doneTo (giveF h j) j.order 0 k=0∧doneTo (giveF h j) j.order 1 k=doneTo h j.order 0 k+doneTo h j.order 1 k
  | 0,_=>⟨rfl,rfl⟩
  | k+1,hk=>by
    obtain ⟨i0,i1⟩:=give_own (h:=h) (j:=j) (k:=k) (by omega)
    unfold doneTo at i0 i1 ⊢
    have hel:=give_el (h:=h) (j:=j) (show k<h.store.prints.length by omega)
    by_cases hf:el h.fors k=j.order
    · have hf':el (giveF h j).fors k=j.order:=hf
      by_cases h0:(el h.store.prints k).state=0
      · have he:(el (giveF h j).store.prints k).state=1:=by rw [hel];unfold giveP;rw [if_pos ⟨hf,h0⟩]
        rw [cntB_no (p:=fun q=>decide (el (giveF h j).fors q=j.order)&&decide ((el (giveF h j).store.prints q).state=0)) (by rw [he];simp),
          cntB_yes (p:=fun q=>decide (el (giveF h j).fors q=j.order)&&decide ((el (giveF h j).store.prints q).state=1)) (by rw [he,hf'];simp),
          cntB_yes (p:=fun q=>decide (el h.fors q=j.order)&&decide ((el h.store.prints q).state=0)) (by rw [hf,h0];simp),
          cntB_no (p:=fun q=>decide (el h.fors q=j.order)&&decide ((el h.store.prints q).state=1)) (by rw [h0];simp)]
        omega
      · have he:(el (giveF h j).store.prints k).state=(el h.store.prints k).state:=by rw [hel];unfold giveP;rw [if_neg (fun q=>h0 q.2)]
        rw [cntB_no (p:=fun q=>decide (el (giveF h j).fors q=j.order)&&decide ((el (giveF h j).store.prints q).state=0)) (by rw [he,decide_eq_false h0,Bool.and_false]),
          cntB_no (p:=fun q=>decide (el h.fors q=j.order)&&decide ((el h.store.prints q).state=0)) (by rw [decide_eq_false h0,Bool.and_false])]
        by_cases h1:(el h.store.prints k).state=1
        · rw [cntB_yes (p:=fun q=>decide (el (giveF h j).fors q=j.order)&&decide ((el (giveF h j).store.prints q).state=1)) (by rw [he,hf',h1];simp),
            cntB_yes (p:=fun q=>decide (el h.fors q=j.order)&&decide ((el h.store.prints q).state=1)) (by rw [hf,h1];simp)]
          omega
        · rw [cntB_no (p:=fun q=>decide (el (giveF h j).fors q=j.order)&&decide ((el (giveF h j).store.prints q).state=1)) (by rw [he,decide_eq_false h1,Bool.and_false]),
            cntB_no (p:=fun q=>decide (el h.fors q=j.order)&&decide ((el h.store.prints q).state=1)) (by rw [decide_eq_false h1,Bool.and_false])]
          omega
    · have hf':¬ el (giveF h j).fors k=j.order:=hf
      rw [cntB_no (p:=fun q=>decide (el (giveF h j).fors q=j.order)&&decide ((el (giveF h j).store.prints q).state=0)) (by rw [decide_eq_false hf',Bool.false_and]),
        cntB_no (p:=fun q=>decide (el (giveF h j).fors q=j.order)&&decide ((el (giveF h j).store.prints q).state=1)) (by rw [decide_eq_false hf',Bool.false_and]),
        cntB_no (p:=fun q=>decide (el h.fors q=j.order)&&decide ((el h.store.prints q).state=0)) (by rw [decide_eq_false hf,Bool.false_and]),
        cntB_no (p:=fun q=>decide (el h.fors q=j.order)&&decide ((el h.store.prints q).state=1)) (by rw [decide_eq_false hf,Bool.false_and])]
      omega
theorem hvalid_give {h:Hse}{j:Job}(hV:HValid h) (he:giveE h j=0):HValid (giveF h j):=by
  unfold giveE at he
  split at he
  · omega
  · split at he
    · rename_i h1 h2
      have h1:inOrders h j.order:=Classical.byContradiction h1
      unfold inOrders at h1
      have hk:j.order.toNat<h.orders.length:=by omega
      have hff:=hV.forss
      have hlen:(giveF h j).orders.length=h.orders.length:=List.length_set
      have hel:∀ i,el (giveF h j).orders i=if i=j.order.toNat then doneO (el h.orders j.order.toNat) else el h.orders i:=fun i=>el_setI hk
      have hds:∀ i,(el (giveF h j).orders i).design=(el h.orders i).design:=fun i=>by
        rw [hel]
        split
        · rename_i e;rw [e];rfl
        · rfl
      have hpl:∀ i,i<h.store.prints.length→(el (giveF h j).store.prints i).plate=(el h.store.prints i).plate:=fun i hi=>by
        rw [give_el hi]
        unfold giveP
        split<;>rfl
      refine { per:=hV.per,day:=hV.day,store:=valid_states hV.store rfl rfl give_len (fun i hi=>⟨hpl i hi,?_⟩),few:=⟨hV.few.1,hV.few.2.1,by rw [hlen];exact hV.few.2.2⟩,designs:=hV.designs,lics:=hV.lics,mades:=hV.mades,made:=hV.made,forss:=by rw [give_len];exact hff,fors:=fun i hi=>?_,orders:=fun i hi=>?_ }
      · rw [give_el hi]
        have:=(hV.store.2.2.2.1 i hi).2.2
        unfold giveP
        split
        · show (1:Int)≤2;omega
        · exact this
      · have hi2:i<h.fors.length:=hi
        obtain ⟨a,b⟩:=hV.fors i hi2
        refine ⟨?_,?_⟩
        · show 0≤el h.fors i∧el h.fors i<((giveF h j).orders.length:Int)
          rw [hlen]
          exact a
        · rw [hds,show (giveF h j).fors=h.fors from rfl,hpl i (by omega)]
          exact b
      · rw [hlen] at hi
        by_cases e:i=j.order.toNat
        · subst e
          have hcast:((j.order.toNat:Nat):Int)=j.order:=by omega
          obtain ⟨a,b,c,d,f⟩:=hV.orders _ hi
          have hown:=give_own (h:=h) (j:=j) (k:=h.fors.length) (by omega)
          have h3:=(f h2.1).1
          unfold doneF at h3 h2
          rw [hcast] at h3
          have g0:doneF (giveF h j) ((j.order.toNat:Nat):Int) 0=0:=by rw [hcast];exact hown.1
          have g1:doneF (giveF h j) ((j.order.toNat:Nat):Int) 1=(el h.orders j.order.toNat).need:=by
            rw [hcast]
            refine hown.2.trans ?_
            rw [h3,h2.2]
            omega
          unfold OrdAt
          rw [g0,g1,hel,if_pos rfl]
          exact ⟨a,b,c,fun _=>⟨rfl,rfl⟩,(fun hd=>(by cases hd))⟩
        · have hne:(i:Int)≠j.order:=by omega
          exact ordAt_same (h:=h) (t:=giveF h j) (by rw [hel,if_neg e]) (Nat.le_refl _) (give_other (k:=h.fors.length) hne (by omega)) (give_other (k:=h.fors.length) hne (by omega)) (hV.orders i hi)
    · omega
theorem print_ok {s:Sto}{i n:Int}(h:printE s i n=0):hereB s i∧(el s.items i.toNat).kind=3∧1≤n∧(el s.items i.toNat).uses+n≤s.life∧(s.prints.length:Int)+n≤400:=by
  unfold printE at h
  split at h
  · rename_i hh
    split at h
    · omega
    · rename_i h2
      split at h
      · omega
      · split at h
        · omega
        · exact ⟨hh,by omega,by omega,by omega,by omega⟩
  · omega
theorem run_ok {h:Hse}{j:Job}(he:runE h j=0):inOrders h j.order∧(el h.orders j.order.toNat).done=false∧inMade h j.act.item∧el h.made j.act.item.toNat=(el h.orders j.order.toNat).design∧printE h.store j.act.item j.act.n=0∧doneF h j.order 0+j.act.n≤(el h.orders j.order.toNat).need∧(el h.store.items j.act.item.toNat).uses+j.act.n≤allowsF h.per h.store.life (el h.designs (el h.orders j.order.toNat).design.toNat):=by
  unfold runE at he
  split at he
  · omega
  · rename_i h1
    split at he
    · omega
    · rename_i h2
      split at he
      · omega
      · rename_i h3
        split at he
        · omega
        · rename_i h4
          split at he
          · rename_i h5;exact (h5 he).elim
          · rename_i h5
            split at he
            · omega
            · split at he
              · omega
              · exact ⟨Classical.byContradiction h1,by simpa using h2,Classical.byContradiction h3,Classical.byContradiction h4,Classical.byContradiction h5,by omega,by omega⟩
theorem run_done {h:Hse}{j:Job}(hf:h.fors.length=h.store.prints.length) (m st:Int):∀ {k:Nat},k≤j.act.n.toNat→doneTo (runF h j) m st (h.fors.length+k)=doneF h m st+(if m=j.order∧st=0 then (k:Int) else 0)
  | 0,_=>by
    have:doneTo (runF h j) m st h.fors.length=doneF h m st:=doneTo_same (h:=h) (t:=runF h j) fun q hq=>by
      refine ⟨el_app_lt hq,?_⟩
      show (el (h.store.prints++List.replicate j.act.n.toNat (⟨j.act.item,0⟩:Prt)) q).state=_
      rw [el_app_lt (by omega)]
    rw [Nat.add_zero,this]
    split<;>simp
  | k+1,hk=>by
    have ih:=run_done (h:=h) (j:=j) hf m st (k:=k) (by omega)
    have e1:el (runF h j).fors (h.fors.length+k)=j.order:=by
      show el (h.fors++List.replicate j.act.n.toNat j.order) _=_
      rw [el_eq (show h.fors.length+k<(h.fors++List.replicate j.act.n.toNat j.order).length by rw [List.length_append,List.length_replicate];omega),List.getElem_append_right (by omega),List.getElem_replicate]
    have e2:el (runF h j).store.prints (h.fors.length+k)=(⟨j.act.item,0⟩:Prt):=by
      show el (h.store.prints++List.replicate j.act.n.toNat (⟨j.act.item,0⟩:Prt)) _=_
      rw [el_eq (show h.fors.length+k<(h.store.prints++List.replicate j.act.n.toNat (⟨j.act.item,0⟩:Prt)).length by rw [List.length_append,List.length_replicate];omega),List.getElem_append_right (by omega),List.getElem_replicate]
    unfold doneTo at ih ⊢
    rw [← Nat.add_assoc]
    by_cases hc:m=j.order∧st=0
    · rw [if_pos hc] at ih ⊢
      rw [cntB_yes (p:=fun q=>decide (el (runF h j).fors q=m)&&decide ((el (runF h j).store.prints q).state=st)) (by rw [e1,e2,hc.1,hc.2];simp),ih]
      omega
    · rw [if_neg hc] at ih ⊢
      rw [cntB_no (p:=fun q=>decide (el (runF h j).fors q=m)&&decide ((el (runF h j).store.prints q).state=st)) (by
        rw [e1,e2]
        by_cases h1:m=j.order
        · have h2:¬ st=0:=fun h2=>hc ⟨h1,h2⟩
          rw [decide_eq_false (show ¬ (⟨j.act.item,0⟩:Prt).state=st from fun q=>h2 q.symm),Bool.and_false]
        · rw [decide_eq_false (fun q=>h1 q.symm),Bool.false_and]),ih]
theorem hvalid_run {h:Hse}{j:Job}(hV:HValid h) (he:runE h j=0):HValid (runF h j):=by
  obtain ⟨h1,h2,h3,h4,h5,h6,h7⟩:=run_ok he
  obtain ⟨p1,p2,p3,p4,p5⟩:=print_ok h5
  have hE:actE h.store (prAct j)=0:=h5
  have hmm:=hV.mades
  have hff:=hV.forss
  have hi0:=p1.1
  have hk:j.act.item.toNat<h.store.items.length:=by omega
  have hit:(runF h j).store.items=h.store.items.set j.act.item.toNat (used1 (el h.store.items j.act.item.toNat) j.act.n):=rfl
  have hpr:(runF h j).store.prints=h.store.prints++List.replicate j.act.n.toNat ⟨j.act.item,0⟩:=rfl
  have hfo:(runF h j).fors=h.fors++List.replicate j.act.n.toNat j.order:=rfl
  have hfl:(runF h j).fors.length=h.fors.length+j.act.n.toNat:=by rw [hfo,List.length_append,List.length_replicate]
  have hdn:∀ m st,doneF (runF h j) m st=doneF h m st+(if m=j.order∧st=0 then (j.act.n.toNat:Int) else 0):=fun m st=>by
    unfold doneF
    rw [hfl]
    exact run_done hff m st (Nat.le_refl _)
  refine { per:=hV.per,day:=hV.day,store:=valid_act hV.store hE,few:=hV.few,designs:=hV.designs,lics:=hV.lics,mades:=by rw [hit,List.length_set];exact hmm,made:=fun i hi=>?_,forss:=by rw [hfl,hpr,List.length_append,List.length_replicate,hff],fors:=fun i hi=>?_,orders:=fun i hi=>?_ }
  · rw [hit,List.length_set] at hi
    obtain ⟨a,b,c⟩:=hV.made i hi
    unfold MadeAt
    rw [hit,el_setI hk]
    by_cases e:i=j.act.item.toNat
    · rw [if_pos e]
      subst e
      exact ⟨a,b,fun _=>by rw [show (runF h j).made=h.made from rfl,h4];exact h7⟩
    · rw [if_neg e]
      exact ⟨a,b,c⟩
  · rw [hfl] at hi
    by_cases e:i<h.fors.length
    · obtain ⟨a,b⟩:=hV.fors i e
      unfold ForAt
      rw [hfo,hpr,el_app_lt e,el_app_lt (by omega)]
      exact ⟨a,b⟩
    · have e1:el (h.fors++List.replicate j.act.n.toNat j.order) i=j.order:=by
        rw [el_eq (show i<(h.fors++List.replicate j.act.n.toNat j.order).length by rw [List.length_append,List.length_replicate];omega),List.getElem_append_right (by omega),List.getElem_replicate]
      have e2:el (h.store.prints++List.replicate j.act.n.toNat (⟨j.act.item,0⟩:Prt)) i=⟨j.act.item,0⟩:=by
        rw [el_eq (show i<(h.store.prints++List.replicate j.act.n.toNat (⟨j.act.item,0⟩:Prt)).length by rw [List.length_append,List.length_replicate];omega),List.getElem_append_right (by omega),List.getElem_replicate]
      unfold ForAt
      rw [hfo,hpr,e1,e2]
      exact ⟨h1,h4.symm⟩
  · obtain ⟨a,b,c,d,f⟩:=hV.orders i hi
    unfold OrdAt
    rw [hdn,hdn]
    rw [if_neg (fun q:(i:Int)=j.order∧(1:Int)=0=>absurd q.2 (by decide)),Int.add_zero]
    by_cases e:(i:Int)=j.order
    · have e3:i=j.order.toNat:=by omega
      rw [if_pos ⟨e,rfl⟩]
      refine ⟨a,b,c,fun hd=>?_,fun hd=>⟨(f hd).1,?_⟩⟩
      · exfalso
        have hd:(el h.orders i).done=true:=hd
        rw [e3,h2] at hd
        cases hd
      · show doneF h i 0+(j.act.n.toNat:Int)≤(el h.orders i).need
        rw [e,e3]
        omega
    · rw [if_neg (fun q=>e q.1),Int.add_zero]
      exact ⟨a,b,c,d,f⟩
end Go.Proofs.YtbilpbabdgfblaaGreat
namespace Go.Proofs.YtbilpbabdgfblaaGreat
open Go.ChangeShapes Go.WideShapes Go.ChangeAt Go.RowKit Go.Deep
structure Mk where
  x:Int
  y:Int
instance:Inhabited Mk:=⟨⟨0,0⟩⟩
structure Bx where
  lx:Int
  ly:Int
  hx:Int
  hy:Int
def Mk.enc (m:Mk):V:=.agg [vi m.x,vi m.y]
def Mk.wf (m:Mk):Prop:=i64ok m.x∧i64ok m.y
def Bx.enc (b:Bx):V:=.agg [vi b.lx,vi b.ly,vi b.hx,vi b.hy]
theorem here_move {s:Sto}{i d:Int}(h:moveE s i d=0):hereB s i:=Classical.byContradiction fun hn=>by unfold moveE at h;rw [if_neg hn] at h;omega
theorem here_dest {s:Sto}{i:Int}(h:destE s i=0):hereB s i:=Classical.byContradiction fun hn=>by unfold destE at h;rw [if_neg hn] at h;omega
theorem stateAt_kept {s:Sto}{first n st:Int}(h:spendE s first n=0) {j:Nat}(hj:j<s.prints.length) (h0:(el s.prints j).state≠0):(stateAt s.prints first.toNat n.toNat st j).state=(el s.prints j).state:=by
  unfold stateAt
  split
  · rename_i hin
    exfalso
    unfold spendE at h
    split at h
    · rename_i hn
      split at h
      · rename_i hf
        split at h
        · omega
        · rename_i hany
          refine hany (List.any_eq_true.2 ⟨el (cutP s first n) (j-first.toNat),?_,?_⟩)
          · refine el_mem ?_
            unfold cutP
            rw [List.length_take,List.length_drop]
            omega
          · have e:el (cutP s first n) (j-first.toNat)=el s.prints j:=by
              unfold cutP
              rw [el_take (by omega),el_drop,show first.toNat+(j-first.toNat)=j by omega]
            rw [e]
            unfold spentB
            rw [decide_eq_false h0]
            rfl
      · omega
    · omega
  · rfl
theorem hvalid_item {h t:Hse}{k:Nat}{x:Itm}(hV:HValid h) (hk:k<h.store.items.length) (hs:Valid t.store) (hit:t.store.items=h.store.items.set k x) (hpr:t.store.prints=h.store.prints) (hlife:t.store.life=h.store.life) (h1:t.per=h.per) (h2:t.day=h.day) (h3:t.designs=h.designs) (h4:t.lics=h.lics) (h5:t.orders=h.orders) (h6:t.made=h.made) (h7:t.fors=h.fors)
    (x1:x.kind=(el h.store.items k).kind) (x2:x.src=(el h.store.items k).src) (x3:x.kind=3→x.uses=(el h.store.items k).uses):HValid t:=by
  obtain ⟨tper,tday,⟨tlife,titems,tprints⟩,tdes,tlics,tord,tmade,tfors⟩:=t
  dsimp only at hit hpr hlife h1 h2 h3 h4 h5 h6 h7 hs
  subst h1 h2 h3 h4 h5 h6 h7 hit hpr hlife
  refine { per:=hV.per,day:=hV.day,store:=hs,few:=hV.few,designs:=hV.designs,lics:=hV.lics,mades:=by rw [List.length_set];exact hV.mades,made:=fun i hi=>?_,forss:=hV.forss,fors:=hV.fors,orders:=hV.orders }
  have hi2:i<h.store.items.length:=by rw [List.length_set] at hi;exact hi
  obtain ⟨a,b,c⟩:=hV.made i hi2
  unfold MadeAt
  dsimp only
  rw [el_setI hk]
  by_cases e:i=k
  · rw [if_pos e]
    subst e
    exact ⟨a,fun hne=>by rw [x2];exact b (by rw [← x1];exact hne),fun h3=>by rw [x3 h3];exact c (by rw [← x1];exact h3)⟩
  · rw [if_neg e]
    exact ⟨a,b,c⟩
theorem done_spoil {h:Hse}{first n:Int}(he:spendE h.store first n=0) (m:Int):∀ {k:Nat},k≤h.store.prints.length→doneTo (withS h (spendF h.store first n 2)) m 1 k=doneTo h m 1 k∧doneTo (withS h (spendF h.store first n 2)) m 0 k≤doneTo h m 0 k
  | 0,_=>⟨rfl,Int.le_refl _⟩
  | k+1,hk=>by
    obtain ⟨i1,i0⟩:=done_spoil he m (k:=k) (by omega)
    have hkl:k<h.store.prints.length:=by omega
    have hel:el (withS h (spendF h.store first n 2)).store.prints k=stateAt h.store.prints first.toNat n.toNat 2 k:=spendF_el hkl
    have hfo:el (withS h (spendF h.store first n 2)).fors k=el h.fors k:=rfl
    unfold doneTo at i1 i0 ⊢
    by_cases hsame:(stateAt h.store.prints first.toNat n.toNat 2 k).state=(el h.store.prints k).state
    · have key:∀ st,cntB (fun q=>decide (el (withS h (spendF h.store first n 2)).fors q=m)&&decide ((el (withS h (spendF h.store first n 2)).store.prints q).state=st)) (k+1)-cntB (fun q=>decide (el (withS h (spendF h.store first n 2)).fors q=m)&&decide ((el (withS h (spendF h.store first n 2)).store.prints q).state=st)) k=cntB (fun q=>decide (el h.fors q=m)&&decide ((el h.store.prints q).state=st)) (k+1)-cntB (fun q=>decide (el h.fors q=m)&&decide ((el h.store.prints q).state=st)) k:=fun st=>by
        cases hb:(decide (el h.fors k=m)&&decide ((el h.store.prints k).state=st))
        · rw [cntB_no (p:=fun q=>decide (el h.fors q=m)&&decide ((el h.store.prints q).state=st)) hb,cntB_no (p:=fun q=>decide (el (withS h (spendF h.store first n 2)).fors q=m)&&decide ((el (withS h (spendF h.store first n 2)).store.prints q).state=st)) (by rw [hel,hsame,hfo];exact hb)]
          omega
        · rw [cntB_yes (p:=fun q=>decide (el h.fors q=m)&&decide ((el h.store.prints q).state=st)) hb,cntB_yes (p:=fun q=>decide (el (withS h (spendF h.store first n 2)).fors q=m)&&decide ((el (withS h (spendF h.store first n 2)).store.prints q).state=st)) (by rw [hel,hsame,hfo];exact hb)]
          omega
      have k1:=key 1
      have k0:=key 0
      omega
    · have h0:(el h.store.prints k).state=0:=Classical.byContradiction fun h0=>hsame (stateAt_kept he hkl h0)
      have h2:(stateAt h.store.prints first.toNat n.toNat 2 k).state=2:=by
        unfold stateAt at hsame ⊢
        split
        · rfl
        · rename_i hn;rw [if_neg hn] at hsame;exact (hsame rfl).elim
      rw [cntB_no (p:=fun q=>decide (el (withS h (spendF h.store first n 2)).fors q=m)&&decide ((el (withS h (spendF h.store first n 2)).store.prints q).state=1)) (by rw [hel,h2];simp),
        cntB_no (p:=fun q=>decide (el (withS h (spendF h.store first n 2)).fors q=m)&&decide ((el (withS h (spendF h.store first n 2)).store.prints q).state=0)) (by rw [hel,h2];simp),
        cntB_no (p:=fun q=>decide (el h.fors q=m)&&decide ((el h.store.prints q).state=1)) (by rw [h0];simp)]
      have:cntB (fun q=>decide (el h.fors q=m)&&decide ((el h.store.prints q).state=0)) k≤cntB (fun q=>decide (el h.fors q=m)&&decide ((el h.store.prints q).state=0)) (k+1):=by
        simp only [cntB]
        split<;>omega
      omega
theorem hvalid_spoil {h:Hse}{first n:Int}(hV:HValid h) (he:spendE h.store first n=0):HValid (withS h (spendF h.store first n 2)):=by
  have hff:=hV.forss
  have hl:=spendF_len h.store first n 2
  refine { per:=hV.per,day:=hV.day,store:=valid_spend hV.store (by decide),few:=hV.few,designs:=hV.designs,lics:=hV.lics,mades:=hV.mades,made:=hV.made,forss:=by show h.fors.length=_;rw [hff];exact hl.symm,fors:=fun i hi=>?_,orders:=fun i hi=>?_ }
  · have hi2:i<h.fors.length:=hi
    obtain ⟨a,b⟩:=hV.fors i hi2
    refine ⟨a,?_⟩
    show (el h.orders (el h.fors i).toNat).design=el h.made (el (spendF h.store first n 2).prints i).plate.toNat
    rw [spendF_el (by omega),show (stateAt h.store.prints first.toNat n.toNat 2 i).plate=(el h.store.prints i).plate by unfold stateAt;split<;>rfl]
    exact b
  · obtain ⟨a,b,c,d,f⟩:=hV.orders i hi
    obtain ⟨d1,d0⟩:=done_spoil he (i:Int) (k:=h.fors.length) (by omega)
    have hb:=(cntB_bnd (p:=fun q=>decide (el (withS h (spendF h.store first n 2)).fors q=(i:Int))&&decide ((el (withS h (spendF h.store first n 2)).store.prints q).state=0)) h.fors.length).1
    have e1:doneF (withS h (spendF h.store first n 2)) i 1=doneF h i 1:=d1
    have e0:doneF (withS h (spendF h.store first n 2)) i 0≤doneF h i 0:=d0
    have eb:0≤doneF (withS h (spendF h.store first n 2)) i 0:=hb
    exact ⟨a,b,c,fun hd=>⟨by have:=(d hd).1;omega,by rw [e1];exact (d hd).2⟩,fun hd=>⟨by rw [e1];exact (f hd).1,by have:=(f hd).2;show doneF (withS h (spendF h.store first n 2)) i 0≤(el h.orders i).need;omega⟩⟩
end Go.Proofs.YtbilpbabdgfblaaGreat
