/- Parts of the proof: a layer of values over the model, and contracts of functions. No condition. -/
import Derived.Test.YtbilpbabdgfblaaGreatKJ715
set_option maxHeartbeats 16000000
set_option linter.unusedSimpArgs false
set_option linter.unusedVariables false
namespace Go.Proofs.YtbilpbabdgfblaaGreat
open Go.RowKit
theorem valid_states {s t:Sto}(hV:Valid s) (hl:t.life=s.life) (hi:t.items=s.items) (hn:t.prints.length=s.prints.length) (hp:∀ j,j<s.prints.length→(el t.prints j).plate=(el s.prints j).plate∧(el t.prints j).state≤2):Valid t:=by
  obtain ⟨h1,h2,h3,h4,h5⟩:=hV
  unfold Few at h1
  refine ⟨⟨by rw [hl];exact h1.1,by rw [hi];exact h1.2.1,by rw [hn];exact h1.2.2⟩,by rw [hi];exact h2,by rw [hi];exact h3,fun j hj=>?_,fun i hlt=>?_⟩
  · rw [hn] at hj
    obtain ⟨q1,q2,q3⟩:=h4 j hj
    obtain ⟨e1,e2⟩:=hp j hj
    rw [hi]
    exact ⟨by rw [e1];exact q1,by rw [e1];exact q2,e2⟩
  · rw [hi] at hlt
    obtain ⟨u1,u2⟩:=h5 i hlt
    rw [show UsedOk t i↔UsedOk s i from ?_]
    · exact ⟨u1,u2⟩
    · unfold UsedOk usedS
      rw [hi,hl,hn,usedP_same fun j hj=>(hp j hj).1]
theorem give_len {h:Hse}{j:Job}:(giveF h j).store.prints.length=h.store.prints.length:=by
  show ((List.range h.store.prints.length).map (giveP h j.order)).length=_
  simp
theorem give_el {h:Hse}{j:Job}{k:Nat}(hk:k<h.store.prints.length):el (giveF h j).store.prints k=giveP h j.order k:=by
  show el ((List.range h.store.prints.length).map (giveP h j.order)) k=_
  rw [el_map_range hk]
theorem give_other {h:Hse}{j:Job}{n st:Int}(hn:n≠j.order):∀ {k:Nat},k≤h.store.prints.length→doneTo (giveF h j) n st k=doneTo h n st k
  | 0,_=>rfl
  | k+1,hk=>by
    have ih:=give_other (h:=h) (j:=j) (st:=st) hn (k:=k) (by omega)
    unfold doneTo at ih ⊢
    by_cases hf:el h.fors k=n
    · have he:el (giveF h j).store.prints k=el h.store.prints k:=by
        rw [give_el (by omega)]
        unfold giveP
        rw [if_neg (by omega)]
      cases hb:(decide (el h.fors k=n)&&decide ((el h.store.prints k).state=st))
      · rw [cntB_no (p:=fun q=>decide (el h.fors q=n)&&decide ((el h.store.prints q).state=st)) hb,cntB_no (p:=fun q=>decide (el (giveF h j).fors q=n)&&decide ((el (giveF h j).store.prints q).state=st)) (by rw [he];exact hb),ih]
      · rw [cntB_yes (p:=fun q=>decide (el h.fors q=n)&&decide ((el h.store.prints q).state=st)) hb,cntB_yes (p:=fun q=>decide (el (giveF h j).fors q=n)&&decide ((el (giveF h j).store.prints q).state=st)) (by rw [he];exact hb),ih]
    · rw [cntB_no (p:=fun q=>decide (el h.fors q=n)&&decide ((el h.store.prints q).state=st)) (by rw [decide_eq_false hf];rfl),cntB_no (p:=fun q=>decide (el (giveF h j).fors q=n)&&decide ((el (giveF h j).store.prints q).state=st)) (by rw [show el (giveF h j).fors k=el h.fors k from rfl,decide_eq_false hf];rfl),ih]
theorem give_own {h:Hse}{j:Job}:∀ {k:Nat},k≤h.store.prints.length→doneTo (giveF h j) j.order 0 k=0∧doneTo (giveF h j) j.order 1 k=doneTo h j.order 0 k+doneTo h j.order 1 k
  | 0,_=>⟨rfl,rfl⟩
  | k+1,hk=>by
    obtain ⟨i0,i1⟩:=give_own (h:=h) (j:=j) (k:=k) (by omega)
    unfold doneTo at i0 i1 ⊢
    have hel:=give_el (h:=h) (j:=j) (show k<h.store.prints.length by omega)
    by_cases hf:el h.fors k=j.order
    · have hf':el (giveF h j).fors k=j.order:=hf
      by_cases h0:(el h.store.prints k).state=0
      · have he:(el (giveF h j).store.prints k).state=1:=by rw [hel];unfold giveP;rw [if_pos ⟨hf,h0⟩]
        rw [cntB_no (p:=fun q=>decide (el (giveF h j).fors q=j.order)&&decide ((el (giveF h j).store.prints q).state=0)) (by rw [he];simp),
          cntB_yes (p:=fun q=>decide (el (giveF h j).fors q=j.order)&&decide ((el (giveF h j).store.prints q).state=1)) (by rw [he,hf'];simp),
          cntB_yes (p:=fun q=>decide (el h.fors q=j.order)&&decide ((el h.store.prints q).state=0)) (by rw [hf,h0];simp),
          cntB_no (p:=fun q=>decide (el h.fors q=j.order)&&decide ((el h.store.prints q).state=1)) (by rw [h0];simp)]
        omega
      · have he:(el (giveF h j).store.prints k).state=(el h.store.prints k).state:=by rw [hel];unfold giveP;rw [if_neg (fun q=>h0 q.2)]
        rw [cntB_no (p:=fun q=>decide (el (giveF h j).fors q=j.order)&&decide ((el (giveF h j).store.prints q).state=0)) (by rw [he,decide_eq_false h0,Bool.and_false]),
          cntB_no (p:=fun q=>decide (el h.fors q=j.order)&&decide ((el h.store.prints q).state=0)) (by rw [decide_eq_false h0,Bool.and_false])]
        by_cases h1:(el h.store.prints k).state=1
        · rw [cntB_yes (p:=fun q=>decide (el (giveF h j).fors q=j.order)&&decide ((el (giveF h j).store.prints q).state=1)) (by rw [he,hf',h1];simp),
            cntB_yes (p:=fun q=>decide (el h.fors q=j.order)&&decide ((el h.store.prints q).state=1)) (by rw [hf,h1];simp)]
          omega
        · rw [cntB_no (p:=fun q=>decide (el (giveF h j).fors q=j.order)&&decide ((el (giveF h j).store.prints q).state=1)) (by rw [he,decide_eq_false h1,Bool.and_false]),
            cntB_no (p:=fun q=>decide (el h.fors q=j.order)&&decide ((el h.store.prints q).state=1)) (by rw [decide_eq_false h1,Bool.and_false])]
          omega
    · have hf':¬ el (giveF h j).fors k=j.order:=hf
      rw [cntB_no (p:=fun q=>decide (el (giveF h j).fors q=j.order)&&decide ((el (giveF h j).store.prints q).state=0)) (by rw [decide_eq_false hf',Bool.false_and]),
        cntB_no (p:=fun q=>decide (el (giveF h j).fors q=j.order)&&decide ((el (giveF h j).store.prints q).state=1)) (by rw [decide_eq_false hf',Bool.false_and]),
        cntB_no (p:=fun q=>decide (el h.fors q=j.order)&&decide ((el h.store.prints q).state=0)) (by rw [decide_eq_false hf,Bool.false_and]),
        cntB_no (p:=fun q=>decide (el h.fors q=j.order)&&decide ((el h.store.prints q).state=1)) (by rw [decide_eq_false hf,Bool.false_and])]
      omega
theorem hvalid_give {h:Hse}{j:Job}(hV:HValid h) (he:giveE h j=0):HValid (giveF h j):=by
  unfold giveE at he
  split at he
  · omega
  · split at he
    · rename_i h1 h2
      have h1:inOrders h j.order:=Classical.byContradiction h1
      unfold inOrders at h1
      have hk:j.order.toNat<h.orders.length:=by omega
      have hff:=hV.forss
      have hlen:(giveF h j).orders.length=h.orders.length:=List.length_set
      have hel:∀ i,el (giveF h j).orders i=if i=j.order.toNat then doneO (el h.orders j.order.toNat) else el h.orders i:=fun i=>el_setI hk
      have hds:∀ i,(el (giveF h j).orders i).design=(el h.orders i).design:=fun i=>by
        rw [hel]
        split
        · rename_i e;rw [e];rfl
        · rfl
      have hpl:∀ i,i<h.store.prints.length→(el (giveF h j).store.prints i).plate=(el h.store.prints i).plate:=fun i hi=>by
        rw [give_el hi]
        unfold giveP
        split<;>rfl
      refine { per:=hV.per,day:=hV.day,store:=valid_states hV.store rfl rfl give_len (fun i hi=>⟨hpl i hi,?_⟩),few:=⟨hV.few.1,hV.few.2.1,by rw [hlen];exact hV.few.2.2⟩,designs:=hV.designs,lics:=hV.lics,mades:=hV.mades,made:=hV.made,forss:=by rw [give_len];exact hff,fors:=fun i hi=>?_,orders:=fun i hi=>?_ }
      · rw [give_el hi]
        have:=(hV.store.2.2.2.1 i hi).2.2
        unfold giveP
        split
        · show (1:Int)≤2;omega
        · exact this
      · have hi2:i<h.fors.length:=hi
        obtain ⟨a,b⟩:=hV.fors i hi2
        refine ⟨?_,?_⟩
        · show 0≤el h.fors i∧el h.fors i<((giveF h j).orders.length:Int)
          rw [hlen]
          exact a
        · rw [hds,show (giveF h j).fors=h.fors from rfl,hpl i (by omega)]
          exact b
      · rw [hlen] at hi
        by_cases e:i=j.order.toNat
        · subst e
          have hcast:((j.order.toNat:Nat):Int)=j.order:=by omega
          obtain ⟨a,b,c,d,f⟩:=hV.orders _ hi
          have hown:=give_own (h:=h) (j:=j) (k:=h.fors.length) (by omega)
          have h3:=(f h2.1).1
          unfold doneF at h3 h2
          rw [hcast] at h3
          have g0:doneF (giveF h j) ((j.order.toNat:Nat):Int) 0=0:=by rw [hcast];exact hown.1
          have g1:doneF (giveF h j) ((j.order.toNat:Nat):Int) 1=(el h.orders j.order.toNat).need:=by
            rw [hcast]
            refine hown.2.trans ?_
            rw [h3,h2.2]
            omega
          unfold OrdAt
          rw [g0,g1,hel,if_pos rfl]
          exact ⟨a,b,c,fun _=>⟨rfl,rfl⟩,(fun hd=>(by cases hd))⟩
        · have hne:(i:Int)≠j.order:=by omega
          exact ordAt_same (h:=h) (t:=giveF h j) (by rw [hel,if_neg e]) (Nat.le_refl _) (give_other (k:=h.fors.length) hne (by omega)) (give_other (k:=h.fors.length) hne (by omega)) (hV.orders i hi)
    · omega
theorem print_ok {s:Sto}{i n:Int}(h:printE s i n=0):hereB s i∧(el s.items i.toNat).kind=3∧1≤n∧(el s.items i.toNat).uses+n≤s.life∧(s.prints.length:Int)+n≤400:=by
  unfold printE at h
  split at h
  · rename_i hh
    split at h
    · omega
    · rename_i h2
      split at h
      · omega
      · split at h
        · omega
        · exact ⟨hh,by omega,by omega,by omega,by omega⟩
  · omega
theorem run_ok {h:Hse}{j:Job}(he:runE h j=0):inOrders h j.order∧(el h.orders j.order.toNat).done=false∧inMade h j.act.item∧el h.made j.act.item.toNat=(el h.orders j.order.toNat).design∧printE h.store j.act.item j.act.n=0∧doneF h j.order 0+j.act.n≤(el h.orders j.order.toNat).need∧(el h.store.items j.act.item.toNat).uses+j.act.n≤allowsF h.per h.store.life (el h.designs (el h.orders j.order.toNat).design.toNat):=by
  unfold runE at he
  split at he
  · omega
  · rename_i h1
    split at he
    · omega
    · rename_i h2
      split at he
      · omega
      · rename_i h3
        split at he
        · omega
        · rename_i h4
          split at he
          · rename_i h5;exact (h5 he).elim
          · rename_i h5
            split at he
            · omega
            · split at he
              · omega
              · exact ⟨Classical.byContradiction h1,by simpa using h2,Classical.byContradiction h3,Classical.byContradiction h4,Classical.byContradiction h5,by omega,by omega⟩
theorem run_done {h:Hse}{j:Job}(hf:h.fors.length=h.store.prints.length) (m st:Int):∀ {k:Nat},k≤j.act.n.toNat→doneTo (runF h j) m st (h.fors.length+k)=doneF h m st+(if m=j.order∧st=0 then (k:Int) else 0)
  | 0,_=>by
    have:doneTo (runF h j) m st h.fors.length=doneF h m st:=doneTo_same (h:=h) (t:=runF h j) fun q hq=>by
      refine ⟨el_app_lt hq,?_⟩
      show (el (h.store.prints++List.replicate j.act.n.toNat (⟨j.act.item,0⟩:Prt)) q).state=_
      rw [el_app_lt (by omega)]
    rw [Nat.add_zero,this]
    split<;>simp
  | k+1,hk=>by
    have ih:=run_done (h:=h) (j:=j) hf m st (k:=k) (by omega)
    have e1:el (runF h j).fors (h.fors.length+k)=j.order:=by
      show el (h.fors++List.replicate j.act.n.toNat j.order) _=_
      rw [el_eq (show h.fors.length+k<(h.fors++List.replicate j.act.n.toNat j.order).length by rw [List.length_append,List.length_replicate];omega),List.getElem_append_right (by omega),List.getElem_replicate]
    have e2:el (runF h j).store.prints (h.fors.length+k)=(⟨j.act.item,0⟩:Prt):=by
      show el (h.store.prints++List.replicate j.act.n.toNat (⟨j.act.item,0⟩:Prt)) _=_
      rw [el_eq (show h.fors.length+k<(h.store.prints++List.replicate j.act.n.toNat (⟨j.act.item,0⟩:Prt)).length by rw [List.length_append,List.length_replicate];omega),List.getElem_append_right (by omega),List.getElem_replicate]
    unfold doneTo at ih ⊢
    rw [← Nat.add_assoc]
    by_cases hc:m=j.order∧st=0
    · rw [if_pos hc] at ih ⊢
      rw [cntB_yes (p:=fun q=>decide (el (runF h j).fors q=m)&&decide ((el (runF h j).store.prints q).state=st)) (by rw [e1,e2,hc.1,hc.2];simp),ih]
      omega
    · rw [if_neg hc] at ih ⊢
      rw [cntB_no (p:=fun q=>decide (el (runF h j).fors q=m)&&decide ((el (runF h j).store.prints q).state=st)) (by
        rw [e1,e2]
        by_cases h1:m=j.order
        · have h2:¬ st=0:=fun h2=>hc ⟨h1,h2⟩
          rw [decide_eq_false (show ¬ (⟨j.act.item,0⟩:Prt).state=st from fun q=>h2 q.symm),Bool.and_false]
        · rw [decide_eq_false (fun q=>h1 q.symm),Bool.false_and]),ih]
theorem hvalid_run {h:Hse}{j:Job}(hV:HValid h) (he:runE h j=0):HValid (runF h j):=by
  obtain ⟨h1,h2,h3,h4,h5,h6,h7⟩:=run_ok he
  obtain ⟨p1,p2,p3,p4,p5⟩:=print_ok h5
  have hE:actE h.store (prAct j)=0:=h5
  have hmm:=hV.mades
  have hff:=hV.forss
  have hi0:=p1.1
  have hk:j.act.item.toNat<h.store.items.length:=by omega
  have hit:(runF h j).store.items=h.store.items.set j.act.item.toNat (used1 (el h.store.items j.act.item.toNat) j.act.n):=rfl
  have hpr:(runF h j).store.prints=h.store.prints++List.replicate j.act.n.toNat ⟨j.act.item,0⟩:=rfl
  have hfo:(runF h j).fors=h.fors++List.replicate j.act.n.toNat j.order:=rfl
  have hfl:(runF h j).fors.length=h.fors.length+j.act.n.toNat:=by rw [hfo,List.length_append,List.length_replicate]
  have hdn:∀ m st,doneF (runF h j) m st=doneF h m st+(if m=j.order∧st=0 then (j.act.n.toNat:Int) else 0):=fun m st=>by
    unfold doneF
    rw [hfl]
    exact run_done hff m st (Nat.le_refl _)
  refine { per:=hV.per,day:=hV.day,store:=valid_act hV.store hE,few:=hV.few,designs:=hV.designs,lics:=hV.lics,mades:=by rw [hit,List.length_set];exact hmm,made:=fun i hi=>?_,forss:=by rw [hfl,hpr,List.length_append,List.length_replicate,hff],fors:=fun i hi=>?_,orders:=fun i hi=>?_ }
  · rw [hit,List.length_set] at hi
    obtain ⟨a,b,c⟩:=hV.made i hi
    unfold MadeAt
    rw [hit,el_setI hk]
    by_cases e:i=j.act.item.toNat
    · rw [if_pos e]
      subst e
      exact ⟨a,b,fun _=>by rw [show (runF h j).made=h.made from rfl,h4];exact h7⟩
    · rw [if_neg e]
      exact ⟨a,b,c⟩
  · rw [hfl] at hi
    by_cases e:i<h.fors.length
    · obtain ⟨a,b⟩:=hV.fors i e
      unfold ForAt
      rw [hfo,hpr,el_app_lt e,el_app_lt (by omega)]
      exact ⟨a,b⟩
    · have e1:el (h.fors++List.replicate j.act.n.toNat j.order) i=j.order:=by
        rw [el_eq (show i<(h.fors++List.replicate j.act.n.toNat j.order).length by rw [List.length_append,List.length_replicate];omega),List.getElem_append_right (by omega),List.getElem_replicate]
      have e2:el (h.store.prints++List.replicate j.act.n.toNat (⟨j.act.item,0⟩:Prt)) i=⟨j.act.item,0⟩:=by
        rw [el_eq (show i<(h.store.prints++List.replicate j.act.n.toNat (⟨j.act.item,0⟩:Prt)).length by rw [List.length_append,List.length_replicate];omega),List.getElem_append_right (by omega),List.getElem_replicate]
      unfold ForAt
      rw [hfo,hpr,e1,e2]
      exact ⟨h1,h4.symm⟩
  · obtain ⟨a,b,c,d,f⟩:=hV.orders i hi
    unfold OrdAt
    rw [hdn,hdn]
    rw [if_neg (fun q:(i:Int)=j.order∧(1:Int)=0=>absurd q.2 (by decide)),Int.add_zero]
    by_cases e:(i:Int)=j.order
    · have e3:i=j.order.toNat:=by omega
      rw [if_pos ⟨e,rfl⟩]
      refine ⟨a,b,c,fun hd=>?_,fun hd=>⟨(f hd).1,?_⟩⟩
      · exfalso
        have hd:(el h.orders i).done=true:=hd
        rw [e3,h2] at hd
        cases hd
      · show doneF h i 0+(j.act.n.toNat:Int)≤(el h.orders i).need
        rw [e,e3]
        omega
    · rw [if_neg (fun q=>e q.1),Int.add_zero]
      exact ⟨a,b,c,d,f⟩
end Go.Proofs.YtbilpbabdgfblaaGreat
namespace Go.Proofs.YtbilpbabdgfblaaGreat
open Go.ChangeShapes Go.WideShapes Go.ChangeAt Go.RowKit Go.Deep
structure Mk where
  x:Int
  y:Int
instance:Inhabited Mk:=⟨⟨0,0⟩⟩
structure Bx where
  lx:Int
  ly:Int
  hx:Int
  hy:Int
def Mk.enc (m:Mk):V:=.agg [vi m.x,vi m.y]
def Mk.wf (m:Mk):Prop:=i64ok m.x∧i64ok m.y
def Bx.enc (b:Bx):V:=.agg [vi b.lx,vi b.ly,vi b.hx,vi b.hy]
theorem lineTo_el {l:List Itm}{i:Int}:∀ {k j:Nat},j<k→el (lineTo l i k) j=srcN l i (k-1-j)
  | k+1,0,_=>by simp [lineTo,el]
  | k+1,j+1,h=>by
    have:=lineTo_el (l:=l) (i:=i) (k:=k) (j:=j) (by omega)
    rw [show k+1-1-(j+1)=k-1-j by omega,← this]
    simp [lineTo,el]
structure LineOk (s:Sto) (i:Int) (L:List Int):Prop where
  few:1≤L.length∧L.length≤3
  last:el L (L.length-1)=i
  inside:∀ j,j<L.length→0≤el L j∧el L j<(s.items.length:Int)
  kind:∀ j,j<L.length→(el s.items (el L j).toNat).kind=j+1
  src:∀ j,0<j→j<L.length→(el s.items (el L j).toNat).src=el L (j-1)
theorem line_ok {s:Sto}{i:Int}(hV:Valid s) (hi:0≤i∧i<(s.items.length:Int)):LineOk s i (lineTo s.items i (lineN s.items i)):=by
  have hC:=chain_ok hV.2.1 hi
  have hf:=hC.few
  have hl:=lineTo_len s.items i (lineN s.items i)
  refine ⟨by omega,?_,?_,?_,?_⟩
  · rw [hl,lineTo_el (by omega),show lineN s.items i-1-(lineN s.items i-1)=0 by omega];rfl
  · intro j hj
    rw [lineTo_el (by omega)]
    exact (hC.at_ _ (by omega)).1
  · intro j hj
    rw [lineTo_el (by omega),(hC.at_ _ (by omega)).2]
    omega
  · intro j h0 hj
    rw [lineTo_el (by omega),lineTo_el (by omega),show lineN s.items i-1-(j-1)=(lineN s.items i-1-j)+1 by omega]
    rfl
def getD0 (l:List (Int × Int)) (q:Int):Int:=(getE l q).getD 0
theorem getD0_put (l:List (Int × Int)) (a b v:Int):getD0 (putE l a v) b=if b=a then v else getD0 l b:=by
  unfold getD0
  rw [getE_put]
  split<;>rfl
theorem lookup_at {l:List (Int × Int)}{q v:Int}(h:getE l q=some v):getD0 l q=v:=by unfold getD0;rw [h];rfl
theorem lookup_no {l:List (Int × Int)}{q:Int}(h:getE l q=none):getD0 l q=0:=by unfold getD0;rw [h];rfl
section
variable {r:Option Nat}{m nt:Nat}{Q:Post}{env:Env}{H:Heap}{ops:Array Oper}{L:List Stp}{ty:TypeId}{pos:String}{after:Array Edge}{T K E:TypeId}{d dk de:TyD}{x y:Operand}
theorem ar_lookupD {i f b:Nat}{l:List (Int × Int)}{a:Int}(ht:TyIs Tryz.prog T d) (hk:d.tk=.map K E) (hK:TyIs Tryz.prog K dk) (hkk:dk.tk=.int .i64) (hE:TyIs Tryz.prog E de) (hx:eo env x=some (.map b)) (hy:eo env y=some (.s (.int .i64 a))) (hH:H[b]?=some (mapE vi l)) (hz:constV de.zero=vi 0) (hd:f<nt)
    (h:AR Tryz.prog r m nt ops Q L ((f,vi (getD0 l a))::env) H):AR Tryz.prog r m nt ops Q (.q i ⟨some f,.lookup T x y false,ty,pos,after,none⟩::L) env H:=by
  refine ar_lookup (e:=vi) ht hk hK hkk hE hx hy hH hd (fun v hv=>?_) (fun hv=>?_)
  · rw [lookup_at hv] at h;exact h
  · rw [lookup_no hv] at h;rw [hz];exact h
end
theorem here_move {s:Sto}{i d:Int}(h:moveE s i d=0):hereB s i:=Classical.byContradiction fun hn=>by unfold moveE at h;rw [if_neg hn] at h;omega
theorem here_dest {s:Sto}{i:Int}(h:destE s i=0):hereB s i:=Classical.byContradiction fun hn=>by unfold destE at h;rw [if_neg hn] at h;omega
theorem stateAt_kept {s:Sto}{first n st:Int}(h:spendE s first n=0) {j:Nat}(hj:j<s.prints.length) (h0:(el s.prints j).state≠0):(stateAt s.prints first.toNat n.toNat st j).state=(el s.prints j).state:=by
  unfold stateAt
  split
  · rename_i hin
    exfalso
    unfold spendE at h
    split at h
    · rename_i hn
      split at h
      · rename_i hf
        split at h
        · omega
        · rename_i hany
          refine hany (List.any_eq_true.2 ⟨el (cutP s first n) (j-first.toNat),?_,?_⟩)
          · refine el_mem ?_
            unfold cutP
            rw [List.length_take,List.length_drop]
            omega
          · have e:el (cutP s first n) (j-first.toNat)=el s.prints j:=by
              unfold cutP
              rw [el_take (by omega),el_drop,show first.toNat+(j-first.toNat)=j by omega]
            rw [e]
            unfold spentB
            rw [decide_eq_false h0]
            rfl
      · omega
    · omega
  · rfl
theorem hvalid_item {h t:Hse}{k:Nat}{x:Itm}(hV:HValid h) (hk:k<h.store.items.length) (hs:Valid t.store) (hit:t.store.items=h.store.items.set k x) (hpr:t.store.prints=h.store.prints) (hlife:t.store.life=h.store.life) (h1:t.per=h.per) (h2:t.day=h.day) (h3:t.designs=h.designs) (h4:t.lics=h.lics) (h5:t.orders=h.orders) (h6:t.made=h.made) (h7:t.fors=h.fors)
    (x1:x.kind=(el h.store.items k).kind) (x2:x.src=(el h.store.items k).src) (x3:x.kind=3→x.uses=(el h.store.items k).uses):HValid t:=by
  obtain ⟨tper,tday,⟨tlife,titems,tprints⟩,tdes,tlics,tord,tmade,tfors⟩:=t
  dsimp only at hit hpr hlife h1 h2 h3 h4 h5 h6 h7 hs
  subst h1 h2 h3 h4 h5 h6 h7 hit hpr hlife
  refine { per:=hV.per,day:=hV.day,store:=hs,few:=hV.few,designs:=hV.designs,lics:=hV.lics,mades:=by rw [List.length_set];exact hV.mades,made:=fun i hi=>?_,forss:=hV.forss,fors:=hV.fors,orders:=hV.orders }
  have hi2:i<h.store.items.length:=by rw [List.length_set] at hi;exact hi
  obtain ⟨a,b,c⟩:=hV.made i hi2
  unfold MadeAt
  dsimp only
  rw [el_setI hk]
  by_cases e:i=k
  · rw [if_pos e]
    subst e
    exact ⟨a,fun hne=>by rw [x2];exact b (by rw [← x1];exact hne),fun h3=>by rw [x3 h3];exact c (by rw [← x1];exact h3)⟩
  · rw [if_neg e]
    exact ⟨a,b,c⟩
theorem done_spoil {h:Hse}{first n:Int}(he:spendE h.store first n=0) (m:Int):∀ {k:Nat},k≤h.store.prints.length→doneTo (withS h (spendF h.store first n 2)) m 1 k=doneTo h m 1 k∧doneTo (withS h (spendF h.store first n 2)) m 0 k≤doneTo h m 0 k
  | 0,_=>⟨rfl,Int.le_refl _⟩
  | k+1,hk=>by
    obtain ⟨i1,i0⟩:=done_spoil he m (k:=k) (by omega)
    have hkl:k<h.store.prints.length:=by omega
    have hel:el (withS h (spendF h.store first n 2)).store.prints k=stateAt h.store.prints first.toNat n.toNat 2 k:=spendF_el hkl
    have hfo:el (withS h (spendF h.store first n 2)).fors k=el h.fors k:=rfl
    unfold doneTo at i1 i0 ⊢
    by_cases hsame:(stateAt h.store.prints first.toNat n.toNat 2 k).state=(el h.store.prints k).state
    · have key:∀ st,cntB (fun q=>decide (el (withS h (spendF h.store first n 2)).fors q=m)&&decide ((el (withS h (spendF h.store first n 2)).store.prints q).state=st)) (k+1)-cntB (fun q=>decide (el (withS h (spendF h.store first n 2)).fors q=m)&&decide ((el (withS h (spendF h.store first n 2)).store.prints q).state=st)) k=cntB (fun q=>decide (el h.fors q=m)&&decide ((el h.store.prints q).state=st)) (k+1)-cntB (fun q=>decide (el h.fors q=m)&&decide ((el h.store.prints q).state=st)) k:=fun st=>by
        cases hb:(decide (el h.fors k=m)&&decide ((el h.store.prints k).state=st))
        · rw [cntB_no (p:=fun q=>decide (el h.fors q=m)&&decide ((el h.store.prints q).state=st)) hb,cntB_no (p:=fun q=>decide (el (withS h (spendF h.store first n 2)).fors q=m)&&decide ((el (withS h (spendF h.store first n 2)).store.prints q).state=st)) (by rw [hel,hsame,hfo];exact hb)]
          omega
        · rw [cntB_yes (p:=fun q=>decide (el h.fors q=m)&&decide ((el h.store.prints q).state=st)) hb,cntB_yes (p:=fun q=>decide (el (withS h (spendF h.store first n 2)).fors q=m)&&decide ((el (withS h (spendF h.store first n 2)).store.prints q).state=st)) (by rw [hel,hsame,hfo];exact hb)]
          omega
      have k1:=key 1
      have k0:=key 0
      omega
    · have h0:(el h.store.prints k).state=0:=Classical.byContradiction fun h0=>hsame (stateAt_kept he hkl h0)
      have h2:(stateAt h.store.prints first.toNat n.toNat 2 k).state=2:=by
        unfold stateAt at hsame ⊢
        split
        · rfl
        · rename_i hn;rw [if_neg hn] at hsame;exact (hsame rfl).elim
      rw [cntB_no (p:=fun q=>decide (el (withS h (spendF h.store first n 2)).fors q=m)&&decide ((el (withS h (spendF h.store first n 2)).store.prints q).state=1)) (by rw [hel,h2];simp),
        cntB_no (p:=fun q=>decide (el (withS h (spendF h.store first n 2)).fors q=m)&&decide ((el (withS h (spendF h.store first n 2)).store.prints q).state=0)) (by rw [hel,h2];simp),
        cntB_no (p:=fun q=>decide (el h.fors q=m)&&decide ((el h.store.prints q).state=1)) (by rw [h0];simp)]
      have:cntB (fun q=>decide (el h.fors q=m)&&decide ((el h.store.prints q).state=0)) k≤cntB (fun q=>decide (el h.fors q=m)&&decide ((el h.store.prints q).state=0)) (k+1):=by
        simp only [cntB]
        split<;>omega
      omega
theorem hvalid_spoil {h:Hse}{first n:Int}(hV:HValid h) (he:spendE h.store first n=0):HValid (withS h (spendF h.store first n 2)):=by
  have hff:=hV.forss
  have hl:=spendF_len h.store first n 2
  refine { per:=hV.per,day:=hV.day,store:=valid_spend hV.store (by decide),few:=hV.few,designs:=hV.designs,lics:=hV.lics,mades:=hV.mades,made:=hV.made,forss:=by show h.fors.length=_;rw [hff];exact hl.symm,fors:=fun i hi=>?_,orders:=fun i hi=>?_ }
  · have hi2:i<h.fors.length:=hi
    obtain ⟨a,b⟩:=hV.fors i hi2
    refine ⟨a,?_⟩
    show (el h.orders (el h.fors i).toNat).design=el h.made (el (spendF h.store first n 2).prints i).plate.toNat
    rw [spendF_el (by omega),show (stateAt h.store.prints first.toNat n.toNat 2 i).plate=(el h.store.prints i).plate by unfold stateAt;split<;>rfl]
    exact b
  · obtain ⟨a,b,c,d,f⟩:=hV.orders i hi
    obtain ⟨d1,d0⟩:=done_spoil he (i:Int) (k:=h.fors.length) (by omega)
    have hb:=(cntB_bnd (p:=fun q=>decide (el (withS h (spendF h.store first n 2)).fors q=(i:Int))&&decide ((el (withS h (spendF h.store first n 2)).store.prints q).state=0)) h.fors.length).1
    have e1:doneF (withS h (spendF h.store first n 2)) i 1=doneF h i 1:=d1
    have e0:doneF (withS h (spendF h.store first n 2)) i 0≤doneF h i 0:=d0
    have eb:0≤doneF (withS h (spendF h.store first n 2)) i 0:=hb
    exact ⟨a,b,c,fun hd=>⟨by have:=(d hd).1;omega,by rw [e1];exact (d hd).2⟩,fun hd=>⟨by rw [e1];exact (f hd).1,by have:=(f hd).2;show doneF (withS h (spendF h.store first n 2)) i 0≤(el h.orders i).need;omega⟩⟩
theorem allows_pos {d:Dsn}{per life:Int}(hd:GoodD d) (hp:1≤per∧per≤1000) (hl:1≤life):1≤allowsF per life d:=by
  unfold allowsF
  split
  · rename_i he
    have hge:gapErr d.sheet d.band=0:=Classical.byContradiction fun hn=>by rw [lastErr_gap hn] at he;exact hn he
    have hg:0<gapF d.sheet d.band:=hd.2.2.2.elim (fun h=>(h hge).elim) id
    obtain ⟨_,_,_,hg60⟩:=gap_ok hge
    have hb:=last_bnd (g:=gapF d.sheet d.band) (p:=per) (by omega) hp
    rw [lastF_ok he]
    omega
  · exact hl
theorem trans_ok {s:Sto}{i:Int}(h:transE s i=0):hereB s i∧(el s.items i.toNat).kind≠3:=by
  unfold transE at h
  split at h
  · rename_i hh
    split at h
    · omega
    · exact ⟨hh,by omega⟩
  · omega
theorem hvalid_trans {h:Hse}{j:Job}(hV:HValid h) (hk2:j.act.kind=2) (he:actE h.store j.act=0):HValid (workF h j):=by
  have he2:=he
  rw [actE_2 hk2] at he2
  obtain ⟨hh,hk3⟩:=trans_ok he2
  have hi0:=hh.1
  have hmm:=hV.mades
  have hk:j.act.item.toNat<h.store.items.length:=by omega
  have hst:(workF h j).store=transF h.store j.act.item:=actF_2 hk2
  have hit:(workF h j).store.items=h.store.items.set j.act.item.toNat (used1 (el h.store.items j.act.item.toNat) 1)++[made1 (el h.store.items j.act.item.toNat) j.act.item]:=by rw [hst];rfl
  have hpr:(workF h j).store.prints=h.store.prints:=by rw [hst];rfl
  have hlf:(workF h j).store.life=h.store.life:=by rw [hst];rfl
  have hml:(workF h j).made=h.made++[el h.made j.act.item.toNat]:=if_pos hk2
  have hfo:(workF h j).fors=h.fors:=rfl
  have hils:(h.store.items.set j.act.item.toNat (used1 (el h.store.items j.act.item.toNat) 1)).length=h.store.items.length:=List.length_set
  refine { per:=hV.per,day:=hV.day,store:=?_,few:=hV.few,designs:=hV.designs,lics:=hV.lics,mades:=by rw [hit,hml,List.length_append,List.length_append,hils,hmm];rfl,made:=fun i hi=>?_,forss:=by rw [hpr];exact hV.forss,fors:=fun i hi=>?_,orders:=fun i hi=>ordAt_same (h:=h) (t:=workF h j) rfl (Nat.le_refl _) (doneTo_same fun q _=>⟨rfl,by rw [hpr]⟩) (doneTo_same fun q _=>⟨rfl,by rw [hpr]⟩) (hV.orders i hi) }
  · exact valid_act hV.store he
  · rw [hit,List.length_append,List.length_singleton,hils] at hi
    unfold MadeAt
    rw [hit,hml,hlf]
    by_cases e:i<h.store.items.length
    · obtain ⟨a,b,c⟩:=hV.made i e
      have hsrc:=hV.store.2.1 i e
      unfold Made at hsrc
      rw [el_app_lt (by omega),el_app_lt (by omega),el_setI hk]
      by_cases e2:i=j.act.item.toNat
      · rw [if_pos e2]
        subst e2
        refine ⟨a,fun hne=>?_,fun h3=>(hk3 h3).elim⟩
        have hne2:(el h.store.items j.act.item.toNat).kind≠1:=hne
        show el h.made j.act.item.toNat=el (h.made++[el h.made j.act.item.toNat]) (el h.store.items j.act.item.toNat).src.toNat
        rw [el_app_lt (by omega)]
        exact b hne2
      · rw [if_neg e2]
        refine ⟨a,fun hne=>?_,c⟩
        rw [el_app_lt (by omega)]
        exact b hne
    · have e2:i=h.store.items.length:=by omega
      have e3:el (h.made++[el h.made j.act.item.toNat]) i=el h.made j.act.item.toNat:=by rw [e2,← hmm];exact el_snoc
      have e4:el (h.store.items.set j.act.item.toNat (used1 (el h.store.items j.act.item.toNat) 1)++[made1 (el h.store.items j.act.item.toNat) j.act.item]) i=made1 (el h.store.items j.act.item.toNat) j.act.item:=by rw [e2,← hils];exact el_snoc
      obtain ⟨a,_,_⟩:=hV.made _ hk
      rw [e3,e4]
      have hin:=a
      unfold inDesigns at hin
      refine ⟨a,fun _=>?_,fun _=>?_⟩
      · show el h.made j.act.item.toNat=el (h.made++[el h.made j.act.item.toNat]) j.act.item.toNat
        rw [el_app_lt (by omega)]
      · have hl:=hV.store.1
        unfold Few at hl
        have:=allows_pos (per:=h.per) (life:=h.store.life) (hV.designs (el h.made j.act.item.toNat).toNat (by omega)) hV.per hl.1.1
        show (0:Int)≤allowsF h.per h.store.life (el h.designs (el h.made j.act.item.toNat).toNat)
        omega
  · have hi2:i<h.fors.length:=hi
    obtain ⟨a,b⟩:=hV.fors i hi2
    have hff:=hV.forss
    have hp:=(hV.store.2.2.2.1 i (by omega)).1
    refine ⟨a,?_⟩
    rw [hpr,hml,el_app_lt (by omega)]
    exact b
theorem hvalid_work {h:Hse}{j:Job}(hV:HValid h) (he:workE h j=0):HValid (workF h j):=by
  unfold workE at he
  split at he
  · rename_i hk
    rcases hk with k|k|k|k
    · exact hvalid_trans hV k he
    · have he2:=he
      rw [actE_3 k] at he2
      have hh:=here_move he2
      have hi0:=hh.1
      exact hvalid_item (k:=j.act.item.toNat) (x:=place1 (el h.store.items j.act.item.toNat) j.act.dest) hV (by omega) (valid_act hV.store he) (by show (actF h.store j.act).items=_;rw [actF_3 k];rfl) (by show (actF h.store j.act).prints=_;rw [actF_3 k];rfl) (by show (actF h.store j.act).life=_;rw [actF_3 k];rfl) rfl rfl rfl rfl rfl (if_neg (by omega)) rfl rfl rfl (fun _=>rfl)
    · have he2:=he
      rw [actE_6 k] at he2
      have hs:=hvalid_spoil hV he2
      have e:workF h j=withS h (spendF h.store j.act.item j.act.n 2):=by
        unfold workF withS
        rw [actF_6 k,if_neg (by omega)]
      rw [e]
      exact hs
    · have he2:=he
      rw [actE_7 k] at he2
      have hh:=here_dest he2
      have hi0:=hh.1
      exact hvalid_item (k:=j.act.item.toNat) (x:=gone1 (el h.store.items j.act.item.toNat)) hV (by omega) (valid_act hV.store he) (by show (actF h.store j.act).items=_;rw [actF_7 k];rfl) (by show (actF h.store j.act).prints=_;rw [actF_7 k];rfl) (by show (actF h.store j.act).life=_;rw [actF_7 k];rfl) rfl rfl rfl rfl rfl (if_neg (by omega)) rfl rfl rfl (fun _=>rfl)
  · omega
theorem hvalid_job {h:Hse}{j:Job}(hV:HValid h) (he:jobE h j=0):HValid (jobF h j):=by
  unfold jobE at he
  unfold jobF
  split
  · rename_i k;rw [if_pos k] at he;exact hvalid_arch hV he
  · rename_i k1;rw [if_neg k1] at he
    split
    · rename_i k;rw [if_pos k] at he;exact hvalid_licn hV he
    · rename_i k2;rw [if_neg k2] at he
      split
      · rename_i k;rw [if_pos k] at he;exact hvalid_take hV he
      · rename_i k3;rw [if_neg k3] at he
        split
        · rename_i k;rw [if_pos k] at he;exact hvalid_engv hV he
        · rename_i k4;rw [if_neg k4] at he
          split
          · rename_i k;rw [if_pos k] at he;exact hvalid_work hV he
          · rename_i k5;rw [if_neg k5] at he
            split
            · rename_i k;rw [if_pos k] at he;exact hvalid_run hV he
            · rename_i k6;rw [if_neg k6] at he
              split
              · rename_i k;rw [if_pos k] at he;exact hvalid_give hV he
              · rename_i k7;rw [if_neg k7] at he
                split at he
                · exact hvalid_wait hV he
                · omega
def hse0 (per life:Int):Hse:=⟨per,0,⟨life,[],[]⟩,[],[],[],[],[]⟩
def hAt (per life:Int) (bk:List Job):Nat→Hse
  | 0=>hse0 per life
  | k+1=>jobF (hAt per life bk k) (el bk k)
def hErrAt (per life:Int) (bk:List Job) (k:Nat):Int:=jobE (hAt per life bk k) (el bk k)
theorem hvalid0 {per life:Int}:HValid (hse0 per life)↔(1≤per∧per≤1000)∧(1≤life∧life≤1000):=by
  constructor
  · intro h
    have hs:=h.store.1
    unfold Few at hs
    exact ⟨h.per,hs.1⟩
  · intro h
    refine { per:=h.1,day:=by show (0:Int)≤0∧(0:Int)≤10000;omega,store:=⟨⟨h.2,by simp [hse0],by simp [hse0]⟩,fun i hi=>by simp [hse0] at hi,fun i hi=>by simp [hse0] at hi,fun i hi=>by simp [hse0] at hi,fun i hi=>by simp [hse0] at hi⟩,few:=by simp [hse0],designs:=fun i hi=>by simp [hse0] at hi,lics:=fun i hi=>by simp [hse0] at hi,mades:=rfl,made:=fun i hi=>by simp [hse0] at hi,forss:=rfl,fors:=fun i hi=>by simp [hse0] at hi,orders:=fun i hi=>by simp [hse0] at hi }
theorem hAt_ok {per life:Int}{bk:List Job}(h0:HValid (hse0 per life)):∀ {k:Nat},(∀ j,j<k→hErrAt per life bk j=0)→HValid (hAt per life bk k)
  | 0,_=>h0
  | k+1,h=>hvalid_job (hAt_ok h0 (k:=k) fun j hj=>h j (by omega)) (h k (by omega))
def hFirst (per life:Int) (bk:List Job):Nat→Option Nat
  | 0=>none
  | k+1=>match hFirst per life bk k with
    | some j=>some j
    | none=>if hErrAt per life bk k=0 then none else some k
theorem hFirst_none {per life:Int}{bk:List Job}:∀ {k:Nat},(∀ j,j<k→hErrAt per life bk j=0)→hFirst per life bk k=none
  | 0,_=>rfl
  | k+1,h=>by
    unfold hFirst
    rw [hFirst_none fun j hj=>h j (by omega)]
    exact if_pos (h k (by omega))
theorem hFirst_at {per life:Int}{bk:List Job}{k:Nat}(h:∀ j,j<k→hErrAt per life bk j=0) (he:hErrAt per life bk k≠0):∀ {n:Nat},k<n→hFirst per life bk n=some k
  | 0,hk=>by omega
  | n+1,hk=>by
    unfold hFirst
    by_cases e:k=n
    · subst e
      rw [hFirst_none h]
      exact if_neg he
    · rw [hFirst_at h he (n:=n) (by omega)]
def hplayX (per life:Int) (bk:List Job):Int × Int :=
  if 200<bk.length then (0,4) else if (1≤per∧per≤1000)∧(1≤life∧life≤1000) then (match hFirst per life bk bk.length with|some j=>((j:Int),hErrAt per life bk j)|none=>(0,0)) else (0,2)
def noHse:Hse:=⟨0,0,⟨0,[],[]⟩,[],[],[],[],[]⟩
def hplayF (per life:Int) (bk:List Job):Hse:=if (hplayX per life bk).2=0 then hAt per life bk bk.length else noHse
theorem hplayX_many {per life:Int}{bk:List Job}(h:200<bk.length):hplayX per life bk=(0,4):=by unfold hplayX;rw [if_pos h]
theorem hplayX_arg {per life:Int}{bk:List Job}(h:¬ 200<bk.length) (hl:¬ ((1≤per∧per≤1000)∧(1≤life∧life≤1000))):hplayX per life bk=(0,2):=by unfold hplayX;rw [if_neg h,if_neg hl]
theorem hplayX_bad {per life:Int}{bk:List Job}{k:Nat}(h:¬ 200<bk.length) (hl:(1≤per∧per≤1000)∧(1≤life∧life≤1000)) (hJ:∀ j,j<k→hErrAt per life bk j=0) (hk:k<bk.length) (he:hErrAt per life bk k≠0):hplayX per life bk=((k:Int),hErrAt per life bk k):=by
  unfold hplayX
  rw [if_neg h,if_pos hl,hFirst_at hJ he hk]
theorem hplayX_ok {per life:Int}{bk:List Job}(h:¬ 200<bk.length) (hl:(1≤per∧per≤1000)∧(1≤life∧life≤1000)) (hJ:∀ j,j<bk.length→hErrAt per life bk j=0):hplayX per life bk=(0,0):=by
  unfold hplayX
  rw [if_neg h,if_pos hl,hFirst_none hJ]
theorem hplayF_bad {per life:Int}{bk:List Job}(h:(hplayX per life bk).2≠0):hplayF per life bk=noHse:=by unfold hplayF;rw [if_neg h]
theorem hplayF_ok {per life:Int}{bk:List Job}(h:(hplayX per life bk).2=0):hplayF per life bk=hAt per life bk bk.length:=by unfold hplayF;rw [if_pos h]
def beforeF (h:Hse) (k:Nat):Int:=usedP h.store.prints (el h.store.prints k).plate k
def growF (h:Hse) (k:Nat):Int:=min (beforeF h k/h.per) 20
theorem hfirst_bad {per life:Int}{bk:List Job}:∀ {j:Nat},j<bk.length→hErrAt per life bk j≠0→∃ m,m<bk.length∧(∀ q,q<m→hErrAt per life bk q=0)∧hErrAt per life bk m≠0
  | j,hj,he=>by
    by_cases h:∀ q,q<j→hErrAt per life bk q=0
    · exact ⟨j,hj,h,he⟩
    · have h2:∃ q,q<j∧hErrAt per life bk q≠0:=Classical.byContradiction fun hn=>h fun q hq=>Classical.byContradiction fun hb=>hn ⟨q,hq,hb⟩
      obtain ⟨q,hq,hb⟩:=h2
      exact hfirst_bad (j:=q) (by omega) hb
theorem hplayX_all {per life:Int}{bk:List Job}(h:hplayX per life bk=(0,0)):¬ 200<bk.length∧((1≤per∧per≤1000)∧(1≤life∧life≤1000))∧∀ j,j<bk.length→hErrAt per life bk j=0:=by
  by_cases hn:200<bk.length
  · rw [hplayX_many hn] at h;simp at h
  · by_cases hl:(1≤per∧per≤1000)∧(1≤life∧life≤1000)
    · refine ⟨hn,hl,fun j hj=>Classical.byContradiction fun he=>?_⟩
      obtain ⟨m,hm,hb,hne⟩:=hfirst_bad hj he
      rw [hplayX_bad hn hl hb hm hne] at h
      exact hne (congrArg Prod.snd h)
    · rw [hplayX_arg hn hl] at h;simp at h
theorem hplayX_zero {per life:Int}{bk:List Job}(h:(hplayX per life bk).2=0):hplayX per life bk=(0,0):=by
  by_cases hn:200<bk.length
  · rw [hplayX_many hn] at h;simp at h
  · by_cases hl:(1≤per∧per≤1000)∧(1≤life∧life≤1000)
    · by_cases hJ:∀ j,j<bk.length→hErrAt per life bk j=0
      · exact hplayX_ok hn hl hJ
      · obtain ⟨j,hj,he⟩:∃ j,j<bk.length∧hErrAt per life bk j≠0:=Classical.byContradiction fun h2=>hJ fun j hj=>Classical.byContradiction fun he=>h2 ⟨j,hj,he⟩
        obtain ⟨m,hm,hb,hne⟩:=hfirst_bad hj he
        rw [hplayX_bad hn hl hb hm hne] at h
        exact (hne h).elim
    · rw [hplayX_arg hn hl] at h;simp at h
theorem hAt_take {per life:Int}{bk:List Job}{c:Nat}:∀ {k:Nat},k≤c→hAt per life (bk.take c) k=hAt per life bk k
  | 0,_=>rfl
  | k+1,h=>by
    simp only [hAt]
    rw [hAt_take (k:=k) (by omega),el_take (by omega)]
theorem hErrAt_take {per life:Int}{bk:List Job}{c k:Nat}(h:k<c):hErrAt per life (bk.take c) k=hErrAt per life bk k:=by
  unfold hErrAt
  rw [hAt_take (by omega),el_take h]
theorem hcut_bad {per life:Int}{bk:List Job}{c:Nat}(hc:c≤bk.length) (h:(hplayX per life (bk.take c)).2≠0):hplayX per life bk=hplayX per life (bk.take c)∨(200<bk.length∧hplayX per life bk=(0,4)):=by
  by_cases hn:200<bk.length
  · exact .inr ⟨hn,hplayX_many hn⟩
  · have hl:(bk.take c).length=c:=by rw [List.length_take];omega
    have hn2:¬ 200<(bk.take c).length:=by omega
    refine .inl ?_
    by_cases hlf:(1≤per∧per≤1000)∧(1≤life∧life≤1000)
    · have hex:∃ j,j<(bk.take c).length∧hErrAt per life (bk.take c) j≠0:=Classical.byContradiction fun hno=>by
        rw [hplayX_ok hn2 hlf fun j hj=>Classical.byContradiction fun he=>hno ⟨j,hj,he⟩] at h
        exact h rfl
      obtain ⟨j,hj,he⟩:=hex
      obtain ⟨m,hm,hb,hne⟩:=hfirst_bad hj he
      rw [hplayX_bad hn2 hlf hb hm hne,hplayX_bad hn hlf (fun q hq=>by rw [← hErrAt_take (c:=c) (by omega)];exact hb q hq) (show m<bk.length by omega) (by rw [← hErrAt_take (c:=c) (by omega)];exact hne),hErrAt_take (by omega)]
    · rw [hplayX_arg hn2 hlf,hplayX_arg hn hlf]
structure HKept (h t:Hse):Prop where
  per:t.per=h.per
  day:h.day≤t.day
  dl:h.designs.length≤t.designs.length
  ol:h.orders.length≤t.orders.length
  ll:h.lics.length≤t.lics.length
  fl:h.fors.length≤t.fors.length
  ml:h.made.length≤t.made.length
  design:∀ i,i<h.designs.length→el t.designs i=el h.designs i
  order:∀ i,i<h.orders.length→(el t.orders i).client=(el h.orders i).client∧(el t.orders i).design=(el h.orders i).design∧(el t.orders i).need=(el h.orders i).need∧((el h.orders i).done=true→(el t.orders i).done=true)
  lic:∀ i,i<h.lics.length→(el t.lics i).client=(el h.lics i).client∧(el t.lics i).design=(el h.lics i).design∧(el t.lics i).til=(el h.lics i).til∧(el t.lics i).left≤(el h.lics i).left
  fors:∀ i,i<h.fors.length→el t.fors i=el h.fors i
  made:∀ i,i<h.made.length→el t.made i=el h.made i
theorem hkept_self (h:Hse):HKept h h:=⟨rfl,Int.le_refl _,Nat.le_refl _,Nat.le_refl _,Nat.le_refl _,Nat.le_refl _,Nat.le_refl _,fun _ _=>rfl,fun _ _=>⟨rfl,rfl,rfl,id⟩,fun _ _=>⟨rfl,rfl,rfl,Int.le_refl _⟩,fun _ _=>rfl,fun _ _=>rfl⟩
theorem app_le {α:Type}{l l':List α}:l.length≤(l++l').length:=by rw [List.length_append];omega
theorem takeL_kept {h:Hse}{j:Job}(hn:1≤j.n):(takeL h j).length=h.lics.length∧∀ i,i<h.lics.length→(el (takeL h j) i).client=(el h.lics i).client∧(el (takeL h j) i).design=(el h.lics i).design∧(el (takeL h j) i).til=(el h.lics i).til∧(el (takeL h j) i).left≤(el h.lics i).left:=by
  unfold takeL
  split
  · exact ⟨rfl,fun _ _=>⟨rfl,rfl,rfl,Int.le_refl _⟩⟩
  · split
    · rename_i k hk
      obtain ⟨h1,_⟩:=licAt_some hk
      refine ⟨List.length_set,fun i hi=>?_⟩
      rw [el_setI h1]
      split
      · rename_i e
        rw [e]
        exact ⟨rfl,rfl,rfl,by show (el h.lics k).left-j.n≤(el h.lics k).left;omega⟩
      · exact ⟨rfl,rfl,rfl,Int.le_refl _⟩
    · exact ⟨rfl,fun _ _=>⟨rfl,rfl,rfl,Int.le_refl _⟩⟩
theorem take_n {h:Hse}{j:Job}(he:takeE h j=0):1≤j.n:=by
  unfold takeE at he
  split at he
  · omega
  · split at he
    · omega
    · rename_i h2
      exact (Classical.byContradiction h2).2.1
theorem hkept_job {h:Hse}{j:Job}(he:jobE h j=0):HKept h (jobF h j):=by
  have hs:=hkept_self h
  unfold jobE at he
  unfold jobF
  split
  · exact { hs with dl:=app_le,design:=fun i hi=>el_app_lt hi,order:=hs.order,lic:=hs.lic,fors:=hs.fors,made:=hs.made }
  · rename_i k1;rw [if_neg k1] at he
    split
    · exact { hs with ll:=app_le,lic:=fun i hi=>by rw [show el (licnF h j).lics i=el h.lics i from el_app_lt hi];exact ⟨rfl,rfl,rfl,Int.le_refl _⟩,design:=hs.design,order:=hs.order,fors:=hs.fors,made:=hs.made }
    · rename_i k2;rw [if_neg k2] at he
      split
      · rename_i k;rw [if_pos k] at he
        obtain ⟨l1,l2⟩:=takeL_kept (h:=h) (take_n he)
        exact { hs with ol:=app_le,ll:=by show h.lics.length≤(takeL h j).length;omega,lic:=l2,order:=fun i hi=>by rw [show el (takeF h j).orders i=el h.orders i from el_app_lt hi];exact ⟨rfl,rfl,rfl,id⟩,design:=hs.design,fors:=hs.fors,made:=hs.made }
      · rename_i k3;rw [if_neg k3] at he
        split
        · exact { hs with ml:=app_le,made:=fun i hi=>el_app_lt hi,design:=hs.design,order:=hs.order,lic:=hs.lic,fors:=hs.fors }
        · rename_i k4;rw [if_neg k4] at he
          split
          · refine { hs with ml:=?_,made:=fun i hi=>?_,design:=hs.design,order:=hs.order,lic:=hs.lic,fors:=hs.fors }
            · show h.made.length≤(if j.act.kind=2 then h.made++[el h.made j.act.item.toNat] else h.made).length
              split
              · exact app_le
              · exact Nat.le_refl _
            · show el (if j.act.kind=2 then h.made++[el h.made j.act.item.toNat] else h.made) i=_
              split
              · exact el_app_lt hi
              · rfl
          · rename_i k5;rw [if_neg k5] at he
            split
            · exact { hs with fl:=app_le,fors:=fun i hi=>el_app_lt hi,design:=hs.design,order:=hs.order,lic:=hs.lic,made:=hs.made }
            · rename_i k6;rw [if_neg k6] at he
              split
              · rename_i k;rw [if_pos k] at he
                have hk:j.order.toNat<h.orders.length:=by
                  unfold giveE at he
                  split at he
                  · omega
                  · rename_i h1
                    have h1:inOrders h j.order:=Classical.byContradiction h1
                    unfold inOrders at h1
                    omega
                refine { hs with ol:=by show h.orders.length≤(h.orders.set _ _).length;rw [List.length_set];exact Nat.le_refl _,order:=fun i hi=>?_,design:=hs.design,lic:=hs.lic,fors:=hs.fors,made:=hs.made }
                rw [show el (giveF h j).orders i=if i=j.order.toNat then doneO (el h.orders j.order.toNat) else el h.orders i from el_setI hk]
                split
                · rename_i e;rw [e];exact ⟨rfl,rfl,rfl,fun _=>rfl⟩
                · exact ⟨rfl,rfl,rfl,id⟩
              · rename_i k7;rw [if_neg k7] at he
                split at he
                · refine { hs with day:=?_,design:=hs.design,order:=hs.order,lic:=hs.lic,fors:=hs.fors,made:=hs.made }
                  unfold waitE at he
                  split at he
                  · show h.day≤h.day+j.n;omega
                  · omega
                · omega
def sumN (f:Nat→Int):Nat→Int
  | 0=>0
  | k+1=>sumN f k+f k
theorem sumN_add (f g:Nat→Int):∀ k,sumN (fun i=>f i+g i) k=sumN f k+sumN g k
  | 0=>rfl
  | k+1=>by
    simp only [sumN]
    rw [sumN_add f g k]
    omega
theorem sumN_same {f g:Nat→Int}:∀ {k:Nat},(∀ i,i<k→f i=g i)→sumN f k=sumN g k
  | 0,_=>rfl
  | k+1,h=>by
    simp only [sumN]
    rw [sumN_same fun i hi=>h i (by omega),h k (by omega)]
theorem sumN_zero:∀ k,sumN (fun _=>0) k=0
  | 0=>rfl
  | k+1=>by simp only [sumN];rw [sumN_zero k];rfl
theorem sumN_one (p:Nat):∀ k,sumN (fun i=>if p=i then 1 else 0) k=if p<k then 1 else 0
  | 0=>rfl
  | k+1=>by
    simp only [sumN]
    rw [sumN_one p k]
    by_cases h:p=k
    · subst h
      rw [if_neg (Nat.lt_irrefl _),if_pos rfl,if_pos (Nat.lt_succ_self _)]
      rfl
    · by_cases h2:p<k
      · rw [if_pos h2,if_neg h,if_pos (Nat.lt_succ_of_lt h2)]
        rfl
      · rw [if_neg h2,if_neg h,if_neg (by omega)]
        rfl
def tellTo (h:Hse) (n:Int) (k:Nat):Int:=doneTo h n 0 k+doneTo h n 1 k+doneTo h n 2 k
theorem tell_step {h:Hse}{n:Int}{k:Nat}(hs:0≤(el h.store.prints k).state∧(el h.store.prints k).state≤2):tellTo h n (k+1)=tellTo h n k+(if el h.fors k=n then 1 else 0):=by
  have key:∀ st,doneTo h n st (k+1)=doneTo h n st k+(if el h.fors k=n∧(el h.store.prints k).state=st then 1 else 0):=fun st=>by
    unfold doneTo
    by_cases hb:el h.fors k=n∧(el h.store.prints k).state=st
    · rw [if_pos hb,cntB_yes (p:=fun j=>decide (el h.fors j=n)&&decide ((el h.store.prints j).state=st)) (by rw [decide_eq_true hb.1,decide_eq_true hb.2];rfl)]
    · rw [if_neg hb,cntB_no (p:=fun j=>decide (el h.fors j=n)&&decide ((el h.store.prints j).state=st)) (by
        by_cases h1:el h.fors k=n
        · rw [decide_eq_false (fun h2=>hb ⟨h1,h2⟩),Bool.and_false]
        · rw [decide_eq_false h1,Bool.false_and])]
      omega
  unfold tellTo
  rw [key 0,key 1,key 2]
  by_cases h1:el h.fors k=n
  · rw [if_pos h1]
    obtain e|e|e:(el h.store.prints k).state=0∨(el h.store.prints k).state=1∨(el h.store.prints k).state=2:=by omega
    · rw [if_pos ⟨h1,e⟩,if_neg (fun q=>by have:=q.2;omega),if_neg (fun q=>by have:=q.2;omega)];omega
    · rw [if_neg (fun q=>by have:=q.2;omega),if_pos ⟨h1,e⟩,if_neg (fun q=>by have:=q.2;omega)];omega
    · rw [if_neg (fun q=>by have:=q.2;omega),if_neg (fun q=>by have:=q.2;omega),if_pos ⟨h1,e⟩];omega
  · rw [if_neg h1,if_neg (fun q=>h1 q.1),if_neg (fun q=>h1 q.1),if_neg (fun q=>h1 q.1)]
    omega
theorem tell_all {h:Hse}:∀ {k:Nat},(∀ j,j<k→inOrders h (el h.fors j)∧0≤(el h.store.prints j).state∧(el h.store.prints j).state≤2)→sumN (fun i=>tellTo h i k) h.orders.length=k
  | 0,_=>by
    rw [show (fun i:Nat=>tellTo h (i:Int) 0)=fun _=>0 from rfl,sumN_zero]
    rfl
  | k+1,hk=>by
    have ih:=tell_all (h:=h) (k:=k) fun j hj=>hk j (by omega)
    obtain ⟨h1,h2⟩:=hk k (by omega)
    unfold inOrders at h1
    rw [sumN_same (g:=fun i=>tellTo h i k+(if (el h.fors k).toNat=i then 1 else 0)) (fun i hi=>?_),sumN_add,ih,sumN_one,if_pos (by omega)]
    · omega
    · rw [tell_step h2]
      by_cases e:el h.fors k=(i:Int)
      · rw [if_pos e,if_pos (by omega)]
      · rw [if_neg e,if_neg (by omega)]
theorem report_ok {h:Hse}(hV:HValid h) {i:Nat}(hi:i<h.orders.length):0≤doneF h i 0∧0≤doneF h i 1∧0≤doneF h i 2∧doneF h i 0+doneF h i 1≤(el h.orders i).need∧((el h.orders i).done=true→doneF h i 0+doneF h i 1=(el h.orders i).need):=by
  have b:∀ st,0≤doneF h i st:=fun st=>(cntB_bnd (p:=fun j=>decide (el h.fors j=(i:Int))&&decide ((el h.store.prints j).state=st)) h.fors.length).1
  obtain ⟨_,_,_,d,f⟩:=hV.orders i hi
  refine ⟨b 0,b 1,b 2,?_,fun hd=>?_⟩
  · cases hd:(el h.orders i).done
    · have:=f hd;omega
    · have:=d hd;omega
  · have:=d hd;omega
theorem before_bnd (h:Hse) (k:Nat):0≤beforeF h k∧beforeF h k≤k:=usedP_bnd _ _ _
theorem grow_bnd {h:Hse}(hp:1≤h.per) (k:Nat):0≤growF h k∧growF h k≤20∧growF h k≤(k:Int)/h.per:=by
  have hb:=before_bnd h k
  have h1:0≤beforeF h k/h.per:=Int.ediv_nonneg hb.1 (by omega)
  have h2:beforeF h k/h.per≤(k:Int)/h.per:=Int.ediv_le_ediv (by omega) hb.2
  unfold growF
  omega
def dsnOf (h:Hse) (k:Nat):Int:=el h.made (el h.store.prints k).plate.toNat
def shownTo (h:Hse) (i g:Int):Nat→Bool
  | 0=>false
  | k+1=>shownTo h i g k||(decide (dsnOf h k=i)&&decide (growF h k=g))
def shownF (h:Hse) (i g:Int):Bool:=shownTo h i g h.store.prints.length
theorem shownTo_iff {h:Hse}{i g:Int}:∀ {k:Nat},shownTo h i g k=true↔∃ j,j<k∧dsnOf h j=i∧growF h j=g
  | 0=>⟨fun h=>(by cases h),fun ⟨j,h,_⟩=>(by omega)⟩
  | k+1=>by
    rw [shownTo,Bool.or_eq_true,shownTo_iff,Bool.and_eq_true,decide_eq_true_iff,decide_eq_true_iff]
    constructor
    · rintro (⟨j,h1,h2⟩|h1)
      · exact ⟨j,by omega,h2⟩
      · exact ⟨k,by omega,h1⟩
    · rintro ⟨j,h1,h2⟩
      by_cases e:j=k
      · subst e;exact .inr h2
      · exact .inl ⟨j,by omega,h2⟩
def offTo (a b:List Bool) (k:Nat):Int:=cntB (fun q=>!(el a q==el b q)) k
section
variable {h:Hse}{j:Job}
theorem takeE_1 (h1:¬ (0≤j.design∧j.design<(h.designs.length:Int))):takeE h j=6:=by unfold takeE;rw [if_pos (show ¬ inDesigns h j.design from h1)]
theorem takeE_2 (h1:0≤j.design∧j.design<(h.designs.length:Int)) (h2:¬ ((0≤j.client∧j.client≤50)∧(1≤j.n∧j.n≤400))):takeE h j=2:=by unfold takeE;rw [if_neg (fun h=>h h1),if_pos (show ¬ (aClient j.client∧(1≤j.n∧j.n≤400)) from h2)]
theorem takeE_3 (h1:0≤j.design∧j.design<(h.designs.length:Int)) (h2:(0≤j.client∧j.client≤50)∧(1≤j.n∧j.n≤400)) (h3:j.client≠ownerOf h j.design∧licOf h j=none):takeE h j=102:=by unfold takeE;rw [if_neg (fun h=>h h1),if_neg (fun h=>h h2),if_pos h3]
theorem takeE_4 (h1:0≤j.design∧j.design<(h.designs.length:Int)) (h2:(0≤j.client∧j.client≤50)∧(1≤j.n∧j.n≤400)) (h3:¬ (j.client≠ownerOf h j.design∧licOf h j=none)) (h4:¬ (h.orders.length:Int)<30):takeE h j=9:=by unfold takeE;rw [if_neg (fun h=>h h1),if_neg (fun h=>h h2),if_neg h3,if_pos (by omega)]
theorem takeE_5 (h1:0≤j.design∧j.design<(h.designs.length:Int)) (h2:(0≤j.client∧j.client≤50)∧(1≤j.n∧j.n≤400)) (h3:¬ (j.client≠ownerOf h j.design∧licOf h j=none)) (h4:(h.orders.length:Int)<30):takeE h j=0:=by unfold takeE;rw [if_neg (fun h=>h h1),if_neg (fun h=>h h2),if_neg h3,if_neg (by omega)]
end
def newOrd (j:Job):Ordr:=⟨j.client,j.design,j.n,false⟩
def withOL (h:Hse) (ls:List Lic) (os:List Ordr):Hse:={ h with lics:=ls,orders:=os }
theorem upd_encC {l:List Lic}{j:Nat}(hj:j<l.length) {x:Lic}{v:V}(hv:v=x.enc) (i:Nat):upd (fun i=>(el l i).enc) j v i=(el (l.set j x) i).enc:=by
  by_cases e:i=j
  · subst e
    rw [upd_same,hv]
    simp [el,hj]
  · rw [upd_other e]
    simp [el,List.getElem?_set_ne (Ne.symm e)]
theorem bsub_setC {H:Heap}{σ:List (Option Nat)}{fr:Nat→Prop}{k b j:Nat}{l:List Lic}(x:Lic) {v:V}(h:σ[k]?=some (some b)) (hj:j<l.length) (hb:H[b]?=some (.arr 4 l.length (upd (fun i=>(el l i).enc) j v))) (hv:v=x.enc):BSub H σ fr k (LB 4 Lic.enc (l.set j x)):=by
  refine .inl ⟨b,_,h,?_,fun i _=>.of_eq (upd_encC hj hv i) rfl⟩
  rw [hb,List.length_set]
section
variable (h:Hse) (m:List (Int × Tal)) (j:Job)
theorem take_own (hV:HValid h) (ht:TalOk h m) (hown:j.client=(el h.designs j.design.toNat).owner):ACalls Tryz.prog 130 [.ptr 11 0 0 0,j.enc] (shoB h m) (DeedR (takeF h j) (takeE h j)) (DeedP (takeE h j)):=by
  have hs:=hsmall_of hV
  have hfew:=hV.few
  have hF:takeF h j=withOL h h.lics (h.orders++[newOrd j]):=by unfold takeF takeL ownerOf;rw [if_pos hown];rfl
  have h3:¬ (j.client≠ownerOf h j.design∧licOf h j=none):=fun hx=>hx.1 hown
  rw [hF]
  refine acalls_of_aw Tryz.func130 rfl (dc rfl) ?_;refine aw_post ?_
  (repeat' (first|(refine ar_isq ?_;refine zq ?_)|refine zil (j:=j.design.toNat) ?_|refine zis (j:=j.design.toNat) ?_|refine zit (j:=j.design.toNat) ?_|(refine zbt ?_)|((refine ar_read h m (design_p h j.design hs) fn125 (by intros;subst_vars;rfl) ?_;intro _ hv;subst hv))|(((refine ar_subk_l (sub_frzL (t:=13) vi ([j.client]) rfl rfl rfl rfl (fun _ _=>rfl) (fun _=>rfl)) ?_);refine zpv fn56 (hfrom_p _ _ [j.client]) ?_))|(((refine ar_subk_l (sub_frzL (t:=18) vi ([j.n]) rfl rfl rfl rfl (fun _ _=>rfl) (fun _=>rfl)) ?_);refine zpv fn56 (hfrom_p _ _ [j.n]) ?_))|refine ar_buildLE vi ([_]) (by exact ty rfl) (by exact rfl) (by exact ty rfl) (by exact rfl) (by exact rfl) (by exact Nat.succ_pos _) (by exact rfl) (by exact dc rfl) (by exact rfl) (by exact fun _=>⟨rfl,rfl⟩) (by exact dc rfl) ?_|((refine ar_still h m (R:=(·=licV h j 4)) (Rp:=fun _=>False) (licence_p h m j hs) fn157 ?_ (fun _ _ h=>h.elim);intro _ hv;subst hv))|((refine ar_must ?_ ?_<;>intro hrf<;>first|exact absurd hrf (by decide)|((try replace hrf:=HG.out hrf);(try dsimp only at hrf);(try rw [fromB_one] at hrf);(try rw [withinB_iff] at hrf);(try rw [withinB_no] at hrf);(try rw [inD_iff] at hrf);(try rw [inO_iff] at hrf))))|refine zg ?_ ?_|refine zgu ?_|refine zst ?_|refine aw_drawn (id:=4) [(0,0),(1,0),(2,0),(3,0),(4,0),(5,0),(6,0),(7,0),(8,0),(9,0),(10,0),(11,0),(12,0),(13,0)] mixed (by kernel_rfl) ?_|refine aw_drawn (id:=8) [(0,0),(1,0),(2,0),(3,0),(4,0),(5,0),(6,0),(7,0),(8,0),(9,2)] mixed (by kernel_rfl) ?_|refine aw_drawn (id:=9) [(0,0),(1,0),(2,0),(3,0),(4,0),(5,0),(6,0),(7,0),(8,0),(9,0),(10,0),(11,0),(12,0),(13,1),(14,1),(15,0),(16,0),(17,0),(18,2)] mixed (by kernel_rfl) ?_|refine zco ?_ ?_|(refine fun (hg:(_:Prop))=>?_;first|exact absurd hg (by decide)|((try replace hg:=HG.out hg);(try dsimp only at hg);(try rw [fromB_one] at hg);(try rw [withinB_iff] at hg);(try rw [withinB_no] at hg);(try rw [inD_iff] at hg);(try rw [inO_iff] at hg);(try (have _h:True:=hg;clear _h hg));first|(exfalso;omega)|skip))))
  all_goals first
    | exact dead_ret (takeE_1 (by assumption)) (by decide)
    | exact dead_ret (takeE_2 (by assumption) (fun hx=>by first|exact absurd hx.1 (by assumption)|exact absurd hx.2 (by assumption))) (by decide)
    | exact dead_ret (takeE_4 (by assumption) ⟨by assumption,by assumption⟩ h3 (by assumption)) (by decide)
    | ((refine subq_n [] [.arr 11 1 (fun _=>shoV 9 10 11 12 13 14 15 8 (withOL h h.lics (h.orders++[newOrd j]))),.dead,.dead,.dead,.dead,.dead,.dead,.dead,mapE Tal.enc m,LB 5 Itm.enc (withOL h h.lics (h.orders++[newOrd j])).store.items,LB 2 Prt.enc (withOL h h.lics (h.orders++[newOrd j])).store.prints,LB 7 Dsn.enc (withOL h h.lics (h.orders++[newOrd j])).designs,LB 4 Lic.enc (withOL h h.lics (h.orders++[newOrd j])).lics,LB 4 Ordr.enc (withOL h h.lics (h.orders++[newOrd j])).orders,LB 1 vi (withOL h h.lics (h.orders++[newOrd j])).made,LB 1 vi (withOL h h.lics (h.orders++[newOrd j])).fors] ?_ ?_;(focus ((refine sub_toL [some 0,some 1,some 2,some 3,some 4,some 5,some 6,some 7,some 8,some 1,some 2,some 3,some 4,some 13,some 6,some 7] [] rfl ?_ ?_<;>(repeat' (first|exact trivial|refine ⟨⟨_,rfl,?_⟩,?_⟩|refine vs1 ?_ ?_|refine vs2 ?_ ?_|refine vs3 ?_|refine vs4 ?_ ?_|refine ⟨.inl ⟨_,_,rfl,rfl,?_⟩,?_⟩|exact ⟨.inr ⟨rfl,rfl⟩,trivial⟩|refine ⟨.inr ⟨rfl,rfl⟩,?_⟩|(intro _ _)|exact vz1|(first|refine ⟨trivial,?_⟩|refine ⟨bsub_mapE rfl rfl (fun _=>rfl),?_⟩|exact VSub.aggL ⟨.closed rfl,.closed rfl,.closed rfl,.sl rfl,.sl rfl,.sl rfl,.sl rfl,slEq rfl (by simp [withOL]),.sl rfl,.sl rfl,.map rfl,trivial⟩)|exact vz2)));done)))
       exact bq0n ⟨takeE_5 (by assumption) ⟨by assumption,by assumption⟩ h3 (by assumption),rfl,m,talOk_same ht (fun _ _=>rfl),rfl⟩)
    | trace_state
theorem take_none (hV:HValid h) (hown:¬ j.client=(el h.designs j.design.toNat).owner) (hl:licOf h j=none):ACalls Tryz.prog 130 [.ptr 11 0 0 0,j.enc] (shoB h m) (DeedR (takeF h j) (takeE h j)) (DeedP (takeE h j)):=by
  have hs:=hsmall_of hV
  have hfew:=hV.few
  have hv4:(licV h j 4).ren (rn [0,1,2,3,4,5,6,7,8] 12)=.s (.pointer none):=by unfold licV;rw [hl];rfl
  refine acalls_of_aw Tryz.func130 rfl (dc rfl) ?_
  (repeat' (first|(refine ar_isq ?_;refine zq ?_)|refine zil (j:=j.design.toNat) ?_|refine zis (j:=j.design.toNat) ?_|refine zit (j:=j.design.toNat) ?_|(refine zbt ?_)|((refine ar_read h m (design_p h j.design hs) fn125 (by intros;subst_vars;rfl) ?_;intro _ hv;subst hv))|(((refine ar_subk_l (sub_frzL (t:=13) vi ([j.client]) rfl rfl rfl rfl (fun _ _=>rfl) (fun _=>rfl)) ?_);refine zpv fn56 (hfrom_p _ _ [j.client]) ?_))|(((refine ar_subk_l (sub_frzL (t:=18) vi ([j.n]) rfl rfl rfl rfl (fun _ _=>rfl) (fun _=>rfl)) ?_);refine zpv fn56 (hfrom_p _ _ [j.n]) ?_))|refine ar_buildLE vi ([_]) (by exact ty rfl) (by exact rfl) (by exact ty rfl) (by exact rfl) (by exact rfl) (by exact Nat.succ_pos _) (by exact rfl) (by exact dc rfl) (by exact rfl) (by exact fun _=>⟨rfl,rfl⟩) (by exact dc rfl) ?_|((refine ar_still h m (R:=(·=licV h j 4)) (Rp:=fun _=>False) (licence_p h m j hs) fn157 ?_ (fun _ _ h=>h.elim);intro _ hv;subst hv;rw [show licV h j 4=.s (.pointer none) from (by unfold licV;rw [hl])]))|((refine ar_must ?_ ?_<;>intro hrf<;>first|exact absurd hrf (by decide)|((try replace hrf:=HG.out hrf);(try dsimp only at hrf);(try rw [fromB_one] at hrf);(try rw [withinB_iff] at hrf);(try rw [withinB_no] at hrf);(try rw [inD_iff] at hrf);(try rw [inO_iff] at hrf))))|refine ar_q (qs_nilPtrIsNot (ty rfl) rfl rfl) (dc rfl) ?_|refine zg ?_ ?_|refine zgu ?_|refine zst ?_|refine aw_drawn (id:=4) [(0,0),(1,0),(2,0),(3,0),(4,0),(5,0),(6,0),(7,0),(8,0),(9,0),(10,0),(11,0),(12,0),(13,0)] mixed (by kernel_rfl) ?_|refine aw_drawn (id:=8) [(0,0),(1,0),(2,0),(3,0),(4,0),(5,0),(6,0),(7,0),(8,0),(9,2)] mixed (by kernel_rfl) ?_|refine aw_drawn (id:=9) [(0,0),(1,0),(2,0),(3,0),(4,0),(5,0),(6,0),(7,0),(8,0),(9,0),(10,0),(11,0),(12,0),(13,1),(14,1),(15,0),(16,0),(17,0),(18,2)] mixed (by kernel_rfl) ?_|refine zco ?_ ?_|(refine fun (hg:(_:Prop))=>?_;first|exact absurd hg (by decide)|((try replace hg:=HG.out hg);(try dsimp only at hg);(try rw [fromB_one] at hg);(try rw [withinB_iff] at hg);(try rw [withinB_no] at hg);(try rw [inD_iff] at hg);(try rw [inO_iff] at hg);(try (have _h:True:=hg;clear _h hg));first|(exfalso;omega)|skip))))
  all_goals first
    | exact dead_ret (takeE_1 (by assumption)) (by decide)
    | exact dead_ret (takeE_2 (by assumption) (fun hx=>by first|exact absurd hx.1 (by assumption)|exact absurd hx.2 (by assumption))) (by decide)
    | exact absurd (by assumption) hown
    | exact dead_ret (takeE_3 (by assumption) ⟨by assumption,by assumption⟩ ⟨hown,hl⟩) (by decide)
    | trace_state
theorem take_some (hV:HValid h) (ht:TalOk h m) (hown:¬ j.client=(el h.designs j.design.toNat).owner) (k:Nat) (hl:licOf h j=some k):ACalls Tryz.prog 130 [.ptr 11 0 0 0,j.enc] (shoB h m) (DeedR (takeF h j) (takeE h j)) (DeedP (takeE h j)):=by
  have hs:=hsmall_of hV
  have hfew:=hV.few
  have hk:=(licAt_some hl).1
  have hkl:=hV.lics k hk
  unfold LicOk at hkl
  have hF:takeF h j=withOL h (h.lics.set k (lessLic (el h.lics k) j.n)) (h.orders++[newOrd j]):=by unfold takeF takeL;rw [if_neg (show ¬ j.client=ownerOf h j.design from hown),hl];rfl
  have h3:¬ (j.client≠ownerOf h j.design∧licOf h j=none):=fun hx=>by rw [hl] at hx;cases hx.2
  rw [hF]
  refine acalls_of_aw Tryz.func130 rfl (dc rfl) ?_;refine aw_post ?_
  (repeat' (first|(refine ar_isq ?_;refine zq ?_)|refine zil (j:=j.design.toNat) ?_|refine zis (j:=j.design.toNat) ?_|refine zit (j:=j.design.toNat) ?_|(refine zbt ?_)|((refine ar_read h m (design_p h j.design hs) fn125 (by intros;subst_vars;rfl) ?_;intro _ hv;subst hv))|(((refine ar_subk_l (sub_frzL (t:=13) vi ([j.client]) rfl rfl rfl rfl (fun _ _=>rfl) (fun _=>rfl)) ?_);refine zpv fn56 (hfrom_p _ _ [j.client]) ?_))|(((refine ar_subk_l (sub_frzL (t:=18) vi ([j.n]) rfl rfl rfl rfl (fun _ _=>rfl) (fun _=>rfl)) ?_);refine zpv fn56 (hfrom_p _ _ [j.n]) ?_))|refine ar_buildLE vi ([_]) (by exact ty rfl) (by exact rfl) (by exact ty rfl) (by exact rfl) (by exact rfl) (by exact Nat.succ_pos _) (by exact rfl) (by exact dc rfl) (by exact rfl) (by exact fun _=>⟨rfl,rfl⟩) (by exact dc rfl) ?_|((refine ar_still h m (R:=(·=licV h j 4)) (Rp:=fun _=>False) (licence_p h m j hs) fn157 ?_ (fun _ _ h=>h.elim);intro _ hv;subst hv;rw [show licV h j 4=.ptr 4 4 k 0 from (by unfold licV;rw [hl])]))|((refine ar_must ?_ ?_<;>intro hrf<;>first|exact absurd hrf (by decide)|((try replace hrf:=HG.out hrf);(try dsimp only at hrf);(try rw [fromB_one] at hrf);(try rw [withinB_iff] at hrf);(try rw [withinB_no] at hrf);(try rw [inD_iff] at hrf);(try rw [inO_iff] at hrf))))|refine ar_q (qs_ptrIsNot (ty rfl) rfl rfl) (dc rfl) ?_|refine zg ?_ ?_|refine zgu ?_|refine zst ?_|refine aw_drawn (id:=4) [(0,0),(1,0),(2,0),(3,0),(4,0),(5,0),(6,0),(7,0),(8,0),(9,0),(10,0),(11,0),(12,0),(13,0)] mixed (by kernel_rfl) ?_|refine aw_drawn (id:=8) [(0,0),(1,0),(2,0),(3,0),(4,0),(5,0),(6,0),(7,0),(8,0),(9,2)] mixed (by kernel_rfl) ?_|refine aw_drawn (id:=9) [(0,0),(1,0),(2,0),(3,0),(4,0),(5,0),(6,0),(7,0),(8,0),(9,0),(10,0),(11,0),(12,0),(13,1),(14,1),(15,0),(16,0),(17,0),(18,2)] mixed (by kernel_rfl) ?_|refine zco ?_ ?_|(refine fun (hg:(_:Prop))=>?_;first|exact absurd hg (by decide)|((try replace hg:=HG.out hg);(try dsimp only at hg);(try rw [fromB_one] at hg);(try rw [withinB_iff] at hg);(try rw [withinB_no] at hg);(try rw [inD_iff] at hg);(try rw [inO_iff] at hg);(try (have _h:True:=hg;clear _h hg));first|(exfalso;omega)|skip))))
  all_goals first
    | exact dead_ret (takeE_1 (by assumption)) (by decide)
    | exact dead_ret (takeE_2 (by assumption) (fun hx=>by first|exact absurd hx.1 (by assumption)|exact absurd hx.2 (by assumption))) (by decide)
    | exact absurd (by assumption) hown
    | exact dead_ret (takeE_4 (by assumption) ⟨by assumption,by assumption⟩ h3 (by assumption)) (by decide)
    | ((refine subq_n [] [.arr 11 1 (fun _=>shoV 9 10 11 12 13 14 15 8 (withOL h (h.lics.set k (lessLic (el h.lics k) j.n)) (h.orders++[newOrd j]))),.dead,.dead,.dead,.dead,.dead,.dead,.dead,mapE Tal.enc m,LB 5 Itm.enc (withOL h (h.lics.set k (lessLic (el h.lics k) j.n)) (h.orders++[newOrd j])).store.items,LB 2 Prt.enc (withOL h (h.lics.set k (lessLic (el h.lics k) j.n)) (h.orders++[newOrd j])).store.prints,LB 7 Dsn.enc (withOL h (h.lics.set k (lessLic (el h.lics k) j.n)) (h.orders++[newOrd j])).designs,LB 4 Lic.enc (withOL h (h.lics.set k (lessLic (el h.lics k) j.n)) (h.orders++[newOrd j])).lics,LB 4 Ordr.enc (withOL h (h.lics.set k (lessLic (el h.lics k) j.n)) (h.orders++[newOrd j])).orders,LB 1 vi (withOL h (h.lics.set k (lessLic (el h.lics k) j.n)) (h.orders++[newOrd j])).made,LB 1 vi (withOL h (h.lics.set k (lessLic (el h.lics k) j.n)) (h.orders++[newOrd j])).fors] ?_ ?_;(focus ((refine sub_toL [some 0,some 1,some 2,some 3,some 4,some 5,some 6,some 7,some 8,some 1,some 2,some 3,some 4,some 13,some 6,some 7] [] rfl ?_ ?_<;>(repeat' (first|exact trivial|refine ⟨⟨_,rfl,?_⟩,?_⟩|refine vs1 ?_ ?_|refine vs2 ?_ ?_|refine vs3 ?_|refine vs4 ?_ ?_|refine ⟨.inl ⟨_,_,rfl,rfl,?_⟩,?_⟩|exact ⟨.inr ⟨rfl,rfl⟩,trivial⟩|refine ⟨.inr ⟨rfl,rfl⟩,?_⟩|(intro _ _)|exact vz1|(first|refine ⟨trivial,?_⟩|refine ⟨bsub_mapE rfl rfl (fun _=>rfl),?_⟩|refine ⟨bsub_setC (lessLic (el h.lics k) j.n) rfl hk rfl rfl,?_⟩|exact VSub.aggL ⟨.closed rfl,.closed rfl,.closed rfl,.sl rfl,.sl rfl,.sl rfl,slEq rfl (by simp [withOL]),slEq rfl (by simp [withOL]),.sl rfl,.sl rfl,.map rfl,trivial⟩)|exact vz2)));done)))
       exact bq0n ⟨takeE_5 (by assumption) ⟨by assumption,by assumption⟩ h3 (by assumption),rfl,m,talOk_same ht (fun _ _=>rfl),rfl⟩)
    | trace_state
theorem take_p (hV:HValid h) (ht:TalOk h m):ACalls Tryz.prog 130 [.ptr 11 0 0 0,j.enc] (shoB h m) (DeedR (takeF h j) (takeE h j)) (DeedP (takeE h j)):=by
  by_cases hown:j.client=(el h.designs j.design.toNat).owner
  · exact take_own h m j hV ht hown
  · cases hl:licOf h j with
    | none=>exact take_none h m j hV hown hl
    | some k=>exact take_some h m j hV ht hown k hl
end
theorem join9 {a0 a1 a2 a3 a4 a5 a6 a7 a8 b0 b1 b2 b3 b4 b5 b6 b7 b8:Blk}{X L:Heap}:joinH [0,1,2,3,4,5,6,7,8] [] (a0::a1::a2::a3::a4::a5::a6::a7::a8::X) (b0::b1::b2::b3::b4::b5::b6::b7::b8::L) =
    [b0,b1,b2,b3,b4,b5,b6,b7,b8].map (Blk.ren (rn [0,1,2,3,4,5,6,7,8] (X.length+9)))++(X++L.map (Blk.ren (rn [0,1,2,3,4,5,6,7,8] (X.length+9)))):=by
  have tail:∀ {r:Nat→Nat} {H1:Heap} (K:Heap) (k:Nat),9≤k→joinAt [0,1,2,3,4,5,6,7,8] [] r H1 k K=K:=fun {r H1} K=>by
    induction K with
    | nil=>intro k _;rfl
    | cons b K ih =>
      intro k hk
      simp only [joinAt]
      rw [ih (k+1) (by omega)]
      have:pickB [0,1,2,3,4,5,6,7,8] [] r H1 k b=b:=by
        unfold pickB
        have h0:([0,1,2,3,4,5,6,7,8]:List Nat).idxOf? k=none:=by
          rw [List.idxOf?_eq_none_iff]
          simp
          omega
        rw [h0]
        rfl
      rw [this]
  unfold joinH
  simp only [joinAt]
  rw [tail X _ (by omega)]
  rfl
section
variable {r:Option Nat}{mm nt i dd:Nat}{Q:Post}{env:Env}{ops:Array Oper}{L:List Stp}{ty:TypeId}{pos:String}{after:Array Edge}{ats:Array TypeId}{x y:Operand}
theorem ar_act' (h:Hse) (m:List (Int × Tal)) (a:Deed) {X:Heap}(hV:Valid h.store) (hu:u8ok a.kind)
    (h1:actE h.store a=0→AR Tryz.prog r mm nt ops Q L ((dd,.tup [])::env) (.arr 11 1 (fun _=>.agg [vi h.per,vi h.day,vi (actF h.store a).life,.sl 5 (X.length+9) 0 (actF h.store a).items.length,.sl 2 (X.length+10) 0 (actF h.store a).prints.length,.sl 7 3 0 h.designs.length,.sl 4 4 0 h.lics.length,.sl 4 5 0 h.orders.length,.sl 1 6 0 h.made.length,.sl 1 7 0 h.fors.length,.map 8])::.dead::.dead::LB 7 Dsn.enc h.designs::LB 4 Lic.enc h.lics::LB 4 Ordr.enc h.orders::LB 1 vi h.made::LB 1 vi h.fors::mapE Tal.enc m::(X++[LB 5 Itm.enc (actF h.store a).items,LB 2 Prt.enc (actF h.store a).prints])))
    (h2:actE h.store a≠0→∀ H1,Q (.panic (refV (actE h.store a))) [] H1) (hx:eo env x=some (.ptr 11 0 0 0):=by exact rfl) (hy:eo env y=some a.enc:=by exact rfl) (hd:dd<nt:=by exact dc rfl) :
    AR Tryz.prog r mm nt ops Q (.l i ⟨some dd,.call ⟨.value (.func 158),#[x,y],ats⟩,ty,pos,after,none⟩ false::L) env (.arr 11 1 (fun _=>shoV 1 2 3 4 5 6 7 8 h)::LB 5 Itm.enc h.store.items::LB 2 Prt.enc h.store.prints::LB 7 Dsn.enc h.designs::LB 4 Lic.enc h.lics::LB 4 Ordr.enc h.orders::LB 1 vi h.made::LB 1 vi h.fors::mapE Tal.enc m::X):=by
  refine ar_gcall (H0:=shoB h m) [0,1,2,3,4,5,6,7,8] [] (args:=[x,y]) (vs:=[.ptr 11 0 0 0,a.enc]) (first:=[]) (cap:=[]) fn158 rfl (by rw [List.mapM_cons,List.mapM_cons,List.mapM_nil,hx,hy];rfl) (xs:=[.ptr 11 0 0 0,a.enc]) ⟨.ptr rfl,.closed rfl,trivial⟩ rfl (by decide) (fun _ h=>by cases h) (show ShoAt _ 0 1 2 3 4 5 6 7 8 h m from {}).hsub shoB_live (act_p h m a hV hu) hd ?_ ?_
  · rintro _ _ ⟨hh,rfl,rfl⟩
    unfold shoY
    rw [join9]
    have e2:(mapE Tal.enc m).ren (rn [0,1,2,3,4,5,6,7,8] (X.length+9))=mapE Tal.enc m:=mapE_renE fun _=>rfl
    simp only [List.map_cons,List.map_nil,e2]
    exact h1 hh
  · rintro _ _ ⟨hh,rfl⟩
    exact h2 hh _
end
section
variable (h:Hse) (m:List (Int × Tal)) (j:Job)
theorem engvE_1 {h:Hse}{j:Job}(h1:¬ (0≤j.design∧j.design<(h.designs.length:Int))):engvE h j=6:=by unfold engvE;rw [if_pos (show ¬ inDesigns h j.design from h1)]
theorem engvE_2 {h:Hse}{j:Job}(h1:0≤j.design∧j.design<(h.designs.length:Int)):engvE h j=actE h.store dieAct:=by unfold engvE;rw [if_neg (fun h=>h h1)]
theorem hengrave_p (hV:HValid h) (ht:TalOk h m):ACalls Tryz.prog 131 [.ptr 11 0 0 0,j.enc] (shoB h m) (DeedR (engvF h j) (engvE h j)) (DeedP (engvE h j)):=by
  have hs:=hsmall_of hV
  have hm:=hs.2.2.2.2.2.1
  refine acalls_of_aw Tryz.func131 rfl (dc rfl) ?_;refine aw_post ?_
  (repeat' (first|(refine ar_isq ?_;refine zq ?_)|(refine zbt ?_)|((refine ar_read h m (design_p h j.design hs) fn125 (by intros;subst_vars;rfl) ?_;intro _ hv;subst hv))|((refine ar_must ?_ ?_<;>intro hrf<;>first|exact absurd hrf (by decide)|((try replace hrf:=HG.out hrf);(try dsimp only at hrf);(try rw [fromB_one] at hrf);(try rw [withinB_iff] at hrf);(try rw [withinB_no] at hrf);(try rw [inD_iff] at hrf);(try rw [inO_iff] at hrf))))|((refine ar_act' h m dieAct hV.store ⟨by decide,by decide⟩ ?_ ?_<;>intro hact))|refine zst ?_|refine aw_drawn (id:=3) [(0,0),(1,0),(2,0),(3,0),(4,0),(5,0),(6,0),(7,0),(8,1),(9,1),(10,0),(11,0),(12,0),(13,2)] mixed (by kernel_rfl) ?_|refine zco ?_ ?_|(refine fun (hg:(_:Prop))=>?_;first|exact absurd hg (by decide)|((try replace hg:=HG.out hg);(try dsimp only at hg);(try rw [fromB_one] at hg);(try rw [withinB_iff] at hg);(try rw [withinB_no] at hg);(try rw [inD_iff] at hg);(try rw [inO_iff] at hg);(try (have _h:True:=hg;clear _h hg));first|(exfalso;omega)|skip))))
  all_goals first
    | exact dead_ret (engvE_1 (by assumption)) (by decide)
    | exact dead_ret (engvE_2 (by assumption)) (by assumption)
    | ((refine subq_n [] [.arr 11 1 (fun _=>shoV 9 10 11 12 13 14 15 8 (engvF h j)),.dead,.dead,.dead,.dead,.dead,.dead,.dead,mapE Tal.enc m,LB 5 Itm.enc (engvF h j).store.items,LB 2 Prt.enc (engvF h j).store.prints,LB 7 Dsn.enc (engvF h j).designs,LB 4 Lic.enc (engvF h j).lics,LB 4 Ordr.enc (engvF h j).orders,LB 1 vi (engvF h j).made,LB 1 vi (engvF h j).fors] ?_ ?_;(focus ((refine sub_toL [some 0,some 1,some 2,some 3,some 4,some 5,some 6,some 7,some 8,some 10,some 11,some 3,some 4,some 5,some 13,some 7] [] rfl ?_ ?_<;>(repeat' (first|exact trivial|refine ⟨⟨_,rfl,?_⟩,?_⟩|refine vs1 ?_ ?_|refine vs2 ?_ ?_|refine vs3 ?_|refine vs4 ?_ ?_|refine ⟨.inl ⟨_,_,rfl,rfl,?_⟩,?_⟩|exact ⟨.inr ⟨rfl,rfl⟩,trivial⟩|refine ⟨.inr ⟨rfl,rfl⟩,?_⟩|(intro _ _)|exact vz1|(first|refine ⟨trivial,?_⟩|refine ⟨bsub_mapE rfl rfl (fun _=>rfl),?_⟩|exact VSub.aggL ⟨.closed rfl,.closed rfl,.closed rfl,.sl rfl,.sl rfl,.sl rfl,.sl rfl,.sl rfl,slEq rfl (by simp [engvF,withS]),.sl rfl,.map rfl,trivial⟩)|exact vz2)));done)))
       exact bq0n ⟨(engvE_2 (by assumption)).trans (by assumption),rfl,m,talOk_same ht (fun _ _=>rfl),rfl⟩)
    | trace_state
end
end Go.Proofs.YtbilpbabdgfblaaGreat
