/- Parts of the proof: a layer of values over the model, and contracts of functions. No condition. -/
import Derived.Test.YtbilpbabdgfblaaGreatKHc7
set_option maxHeartbeats 16000000
set_option linter.unusedSimpArgs false
set_option linter.unusedVariables false
namespace Go.Proofs.YtbilpbabdgfblaaGreat
open Go.ChangeShapes Go.WideShapes Go.ChangeAt Go.RowKit Go.Deep
def vu8 (n:Int):V:=.s (.int .u8 n)
structure Itm where
  kind:Int
  src:Int
  place:Int
  uses:Int
  gone:Bool
instance:Inhabited Itm:=⟨⟨0,0,0,0,false⟩⟩
structure Prt where
  plate:Int
  state:Int
instance:Inhabited Prt:=⟨⟨0,0⟩⟩
structure Sto where
  life:Int
  items:List Itm
  prints:List Prt
structure Deed where
  kind:Int
  item:Int
  dest:Int
  n:Int
instance:Inhabited Deed:=⟨⟨0,0,0,0⟩⟩
def Itm.enc (x:Itm):V:=.agg [vu8 x.kind,vi x.src,vi x.place,vi x.uses,vb x.gone]
def Prt.enc (x:Prt):V:=.agg [vi x.plate,vu8 x.state]
abbrev encItems (l:List Itm):V:=LV 5 Itm.enc l
abbrev encPrints (l:List Prt):V:=LV 2 Prt.enc l
def Sto.enc (s:Sto):V:=.agg [vi s.life,encItems s.items,encPrints s.prints]
def Deed.enc (x:Deed):V:=.agg [vu8 x.kind,vi x.item,vi x.dest,vi x.n]
def u8ok (n:Int):Prop:=0≤n∧n≤255
def Itm.wf (x:Itm):Prop:=u8ok x.kind∧i64ok x.src∧i64ok x.place∧i64ok x.uses
def Prt.wf (x:Prt):Prop:=i64ok x.plate∧u8ok x.state
def Sto.wf (s:Sto):Prop:=i64ok s.life∧(∀ x,x∈s.items→x.wf)∧∀ x,x∈s.prints→x.wf
def Deed.wf (x:Deed):Prop:=u8ok x.kind∧i64ok x.item∧i64ok x.dest∧i64ok x.n
theorem rv_u8 {P:Program}{t:TypeId}(ht:P.underlying t=some (.int .u8)) (hc:P.cellsOf t=1):ReadsV P t vu8 u8ok 1 :=
  ⟨hc,by omega,fun h=>by
    obtain ⟨n,rfl,_,hw⟩:=DataW.trod_int ht h
    exact ⟨n,bounds_u8 hw,rfl,rfl,fun j x u hx hu=>by
      cases j with
      | zero=>simp [vu8,cells_s] at hx hu;subst hx hu;exact .s _
      | succ j=>simp at hu⟩⟩
theorem rv_U8:ReadsV Tryz.prog 5 vu8 u8ok 1:=rv_u8 Tryz.underlying5 (by kernel_rfl)
set_option maxRecDepth 100000 in
theorem rv_item:ReadsV Tryz.prog 148 Itm.enc Itm.wf 5 :=
  ⟨by kernel_rfl,by omega,fun {_ _ _ _ _ _ _ cs _} h=>by
    have hlen:=struct_len Tryz.underlying148 h
    rw [show Tryz.prog.cellsOf 148=5 by kernel_rfl] at hlen
    obtain ⟨k0,o0,l0,e0⟩:=struct_part Tryz.underlying148 h 0 rfl rv_U8
    obtain ⟨k1,o1,l1,e1⟩:=struct_part Tryz.underlying148 h 1 rfl rv_Int
    obtain ⟨k2,o2,l2,e2⟩:=struct_part Tryz.underlying148 h 2 rfl rv_Int
    obtain ⟨k3,o3,l3,e3⟩:=struct_part Tryz.underlying148 h 3 rfl rv_Int
    obtain ⟨k4,o4,l4,e4⟩:=struct_part Tryz.underlying148 h 4 rfl rv_Bool
    refine ⟨⟨k0,k1,k2,k3,k4⟩,⟨o0,o1,o2,o3⟩,hlen,hlen.symm,fun j x u hx hu=>?_⟩
    match j,hx with
    | 0,hx=>cases hx;exact cells_one e0 rfl hu
    | 1,hx=>cases hx;exact cells_one e1 rfl hu
    | 2,hx=>cases hx;exact cells_one e2 rfl hu
    | 3,hx=>cases hx;exact cells_one e3 rfl hu
    | 4,hx=>cases hx;exact cells_one e4 rfl hu
    | j+5,hx=>simp [Itm.enc,cells_agg] at hx⟩
set_option maxRecDepth 100000 in
theorem rv_print:ReadsV Tryz.prog 89 Prt.enc Prt.wf 2 :=
  ⟨by kernel_rfl,by omega,fun {_ _ _ _ _ _ _ cs _} h=>by
    have hlen:=struct_len Tryz.underlying89 h
    rw [show Tryz.prog.cellsOf 89=2 by kernel_rfl] at hlen
    obtain ⟨k0,o0,l0,e0⟩:=struct_part Tryz.underlying89 h 0 rfl rv_Int
    obtain ⟨k1,o1,l1,e1⟩:=struct_part Tryz.underlying89 h 1 rfl rv_U8
    refine ⟨⟨k0,k1⟩,⟨o0,o1⟩,hlen,hlen.symm,fun j x u hx hu=>?_⟩
    match j,hx with
    | 0,hx=>cases hx;exact cells_one e0 rfl hu
    | 1,hx=>cases hx;exact cells_one e1 rfl hu
    | j+2,hx=>simp [Prt.enc,cells_agg] at hx⟩
theorem rv_items:ReadsV Tryz.prog 24 encItems (fun l=>∀ y,y∈l→y.wf) 1:=rv_list Tryz.underlying24 (by kernel_rfl) rv_item
theorem rv_prints:ReadsV Tryz.prog 25 encPrints (fun l=>∀ y,y∈l→y.wf) 1:=rv_list Tryz.underlying25 (by kernel_rfl) rv_print
set_option maxRecDepth 100000 in
theorem rv_store:ReadsV Tryz.prog 27 Sto.enc Sto.wf 3 :=
  ⟨by kernel_rfl,by omega,fun {_ _ _ _ _ _ _ cs _} h=>by
    have hlen:=struct_len Tryz.underlying27 h
    rw [show Tryz.prog.cellsOf 27=3 by kernel_rfl] at hlen
    obtain ⟨k0,o0,l0,e0⟩:=struct_part Tryz.underlying27 h 0 rfl rv_Int
    obtain ⟨k1,o1,l1,e1⟩:=struct_part Tryz.underlying27 h 1 rfl rv_items
    obtain ⟨k2,o2,l2,e2⟩:=struct_part Tryz.underlying27 h 2 rfl rv_prints
    refine ⟨⟨k0,k1,k2⟩,⟨o0,o1,o2⟩,hlen,hlen.symm,fun j x u hx hu=>?_⟩
    match j,hx with
    | 0,hx=>cases hx;exact cells_one e0 rfl hu
    | 1,hx=>cases hx;exact cells_one e1 rfl hu
    | 2,hx=>cases hx;exact cells_one e2 rfl hu
    | j+3,hx=>simp [Sto.enc,cells_agg] at hx⟩
set_option maxRecDepth 100000 in
theorem rv_deed:ReadsV Tryz.prog 42 Deed.enc Deed.wf 4 :=
  ⟨by kernel_rfl,by omega,fun {_ _ _ _ _ _ _ cs _} h=>by
    have hlen:=struct_len Tryz.underlying42 h
    rw [show Tryz.prog.cellsOf 42=4 by kernel_rfl] at hlen
    obtain ⟨k0,o0,l0,e0⟩:=struct_part Tryz.underlying42 h 0 rfl rv_U8
    obtain ⟨k1,o1,l1,e1⟩:=struct_part Tryz.underlying42 h 1 rfl rv_Int
    obtain ⟨k2,o2,l2,e2⟩:=struct_part Tryz.underlying42 h 2 rfl rv_Int
    obtain ⟨k3,o3,l3,e3⟩:=struct_part Tryz.underlying42 h 3 rfl rv_Int
    refine ⟨⟨k0,k1,k2,k3⟩,⟨o0,o1,o2,o3⟩,hlen,hlen.symm,fun j x u hx hu=>?_⟩
    match j,hx with
    | 0,hx=>cases hx;exact cells_one e0 rfl hu
    | 1,hx=>cases hx;exact cells_one e1 rfl hu
    | 2,hx=>cases hx;exact cells_one e2 rfl hu
    | 3,hx=>cases hx;exact cells_one e3 rfl hu
    | j+4,hx=>simp [Deed.enc,cells_agg] at hx⟩
def Made (l:List Itm) (i:Nat):Prop:=((el l i).kind=1∧(el l i).src=-1)∨(((el l i).kind=2∨(el l i).kind=3)∧(0≤(el l i).src∧(el l i).src<(i:Int))∧(el l (el l i).src.toNat).kind=(el l i).kind-1)
instance (l:List Itm) (i:Nat):Decidable (Made l i):=by unfold Made;infer_instance
def PlacedTo (l:List Itm) (i k:Nat):Prop:=(0≤(el l i).place∧(el l i).place≤9)∧((el l i).gone=true→(el l i).place=0)∧(2≤(el l i).place→(el l i).kind=3∧∀ j,j<k→j≠i→(el l j).place≠(el l i).place)
instance (l:List Itm) (i k:Nat):Decidable (PlacedTo l i k):=by unfold PlacedTo;infer_instance
def Placed (l:List Itm) (i:Nat):Prop:=PlacedTo l i l.length
instance (l:List Itm) (i:Nat):Decidable (Placed l i):=by unfold Placed;infer_instance
def cntB (p:Nat→Bool):Nat→Int
  | 0=>0
  | k+1=>cntB p k+(if p k=true then 1 else 0)
theorem cntB_bnd {p:Nat→Bool}:∀ k:Nat,0≤cntB p k∧cntB p k≤k
  | 0=>by simp [cntB]
  | k+1=>by
    have:=cntB_bnd (p:=p) k
    simp only [cntB]
    split<;>omega
theorem cntB_yes {p:Nat→Bool}{k:Nat}(h:p k=true):cntB p (k+1)=cntB p k+1:=by simp [cntB,h]
theorem cntB_no {p:Nat→Bool}{k:Nat}(h:p k=false):cntB p (k+1)=cntB p k:=by simp [cntB,h]
theorem cntB_congr {p q:Nat→Bool}:∀ {k:Nat},(∀ j,j<k→p j=q j)→cntB p k=cntB q k
  | 0,_=>rfl
  | k+1,h=>by simp only [cntB];rw [cntB_congr fun j hj=>h j (by omega),h k (by omega)]
theorem cntB_none {p:Nat→Bool}:∀ {k:Nat},(∀ j,j<k→p j=false)→cntB p k=0
  | 0,_=>rfl
  | k+1,h=>by simp only [cntB];rw [cntB_none fun j hj=>h j (by omega),h k (by omega)];rfl
def usedI (l:List Itm) (i:Int) (k:Nat):Int:=cntB (fun j=>decide ((el l j).src=i)) k
def usedP (l:List Prt) (i:Int) (k:Nat):Int:=cntB (fun j=>decide ((el l j).plate=i)) k
def usedS (s:Sto) (i:Int):Int:=usedI s.items i s.items.length+usedP s.prints i s.prints.length
def Printed (l:List Itm) (p:Prt):Prop:=(0≤p.plate∧p.plate<(l.length:Int))∧(el l p.plate.toNat).kind=3∧p.state≤2
instance (l:List Itm) (p:Prt):Decidable (Printed l p):=by unfold Printed;infer_instance
def mostOf (life:Int) (x:Itm):Int:=if x.kind=3 then life else 10
def UsedOk (s:Sto) (i:Nat):Prop:=(el s.items i).uses=usedS s i∧(el s.items i).uses≤mostOf s.life (el s.items i)
instance (s:Sto) (i:Nat):Decidable (UsedOk s i):=by unfold UsedOk;infer_instance
def Few (s:Sto):Prop:=(1≤s.life∧s.life≤1000)∧s.items.length≤30∧s.prints.length≤400
instance (s:Sto):Decidable (Few s):=by unfold Few;infer_instance
def Valid (s:Sto):Prop:=Few s∧(∀ i,i<s.items.length→Made s.items i)∧(∀ i,i<s.items.length→Placed s.items i)∧(∀ j,j<s.prints.length→Printed s.items (el s.prints j))∧∀ i,i<s.items.length→UsedOk s i
instance (s:Sto):Decidable (Valid s):=by unfold Valid;infer_instance
theorem placed_all {l:List Itm}(h:∀ i,i<l.length→PlacedTo l i i):∀ i,i<l.length→Placed l i:=fun i hi=>by
  obtain ⟨h1,h2,h3⟩:=h i hi
  refine ⟨h1,h2,fun hp=>⟨(h3 hp).1,fun j hj hne=>?_⟩⟩
  by_cases hlt:j<i
  · exact (h3 hp).2 j hlt hne
  · intro e
    exact ((h j hj).2.2 (by omega)).2 i (by omega) (by omega) e.symm
theorem placed_to {l:List Itm}{i:Nat}(h:Placed l i) (hi:i≤l.length):PlacedTo l i i :=
  ⟨h.1,h.2.1,fun hp=>⟨(h.2.2 hp).1,fun j hj hne=>(h.2.2 hp).2 j (by omega) hne⟩⟩
def pressTo (l:List Itm):Nat→List (Int × Int)
  | 0=>[]
  | i+1=>if 2≤(el l i).place then putE (pressTo l i) (el l i).place i else pressTo l i
theorem getE_put {α:Type}:∀ (l:List (Int × α)) (a b:Int) (v:α),getE (putE l a v) b=if b=a then some v else getE l b
  | [],a,b,v=>by simp only [putE,getE]
  | p::l,a,b,v=>by
    simp only [putE]
    by_cases h:a=p.1
    · rw [if_pos h]
      simp only [getE]
      by_cases hb:b=p.1
      · rw [if_pos hb,if_pos (by rw [hb,h])]
      · rw [if_neg hb,if_neg (by rw [h];exact hb),if_neg hb]
    · rw [if_neg h]
      simp only [getE]
      by_cases hb:b=p.1
      · rw [if_pos hb,if_neg (by rw [hb];exact fun e=>h e.symm),if_pos hb]
      · rw [if_neg hb,if_neg hb,getE_put l a b v]
def keysOk {α:Type}(l:List (Int × α)):Prop:=(l.map (·.1)).Nodup
theorem put_keys {α:Type}:∀ {l:List (Int × α)}{a:Int}{v:α}{x:Int},x∈(putE l a v).map (·.1)→x=a∨x∈l.map (·.1)
  | [],a,v,x,h=>by simpa [putE] using h
  | p::l,a,v,x,h=>by
    simp only [putE] at h
    by_cases hp:a=p.1
    · rw [if_pos hp] at h;exact .inr (by simpa using h)
    · rw [if_neg hp] at h
      simp only [List.map_cons,List.mem_cons] at h ⊢
      rcases h with h|h
      · exact .inr (.inl h)
      · rcases put_keys h with h|h
        · exact .inl h
        · exact .inr (.inr h)
theorem keysOk_put {α:Type}:∀ {l:List (Int × α)}{a:Int}{v:α},keysOk l→keysOk (putE l a v)
  | [],a,v,_=>by simp [putE,keysOk]
  | p::l,a,v,h=>by
    unfold keysOk at h ⊢
    simp only [putE]
    by_cases hp:a=p.1
    · rw [if_pos hp];simpa using h
    · rw [if_neg hp]
      simp only [List.map_cons,List.nodup_cons] at h ⊢
      refine ⟨fun hm=>?_,keysOk_put h.2⟩
      rcases put_keys hm with e|e
      · exact hp e.symm
      · exact h.1 e
structure PressOk (l:List Itm) (m:List (Int × Int)):Prop where
  keys:keysOk m
  iff:∀ (p i:Int),getE m p=some i↔2≤p∧0≤i∧i<(l.length:Int)∧(el l i.toNat).place=p
theorem pressTo_ok {l:List Itm}:∀ k,(∀ i,i<k→PlacedTo l i i)→keysOk (pressTo l k)∧∀ (p i:Int),getE (pressTo l k) p=some i↔2≤p∧0≤i∧i<(k:Int)∧(el l i.toNat).place=p
  | 0,_=>⟨by simp [pressTo,keysOk],fun p i=>by simp only [pressTo,getE];constructor;intro h;cases h;intro h;omega⟩
  | k+1,h=>by
    obtain ⟨h1,h2⟩:=pressTo_ok k (fun i hi=>h i (by omega))
    obtain ⟨_,_,h5⟩:=h k (by omega)
    simp only [pressTo]
    by_cases hp:2≤(el l k).place
    · rw [if_pos hp]
      refine ⟨keysOk_put h1,fun p i=>?_⟩
      rw [getE_put]
      by_cases e:p=(el l k).place
      · rw [if_pos e]
        constructor
        · intro hi
          cases hi
          refine ⟨by omega,by omega,by omega,?_⟩
          rw [Int.toNat_natCast]
          exact e.symm
        · rintro ⟨a1,a2,a3,a4⟩
          by_cases hi:i=(k:Int)
          · rw [hi]
          · exfalso
            exact (h5 hp).2 i.toNat (by omega) (by omega) (by rw [a4,e])
      · rw [if_neg e,h2 p i]
        constructor
        · rintro ⟨a1,a2,a3,a4⟩
          exact ⟨a1,a2,by omega,a4⟩
        · rintro ⟨a1,a2,a3,a4⟩
          refine ⟨a1,a2,?_,a4⟩
          have:i≠(k:Int):=fun hi=>e (by rw [← a4,hi,Int.toNat_natCast])
          omega
    · rw [if_neg hp]
      refine ⟨h1,fun p i=>?_⟩
      rw [h2 p i]
      constructor
      · rintro ⟨a1,a2,a3,a4⟩
        exact ⟨a1,a2,by omega,a4⟩
      · rintro ⟨a1,a2,a3,a4⟩
        refine ⟨a1,a2,?_,a4⟩
        have:i≠(k:Int):=fun hi=>by rw [hi,Int.toNat_natCast] at a4;omega
        omega
theorem press_free {l:List Itm}{k:Nat}{p:Int}(h:∀ i,i<k→PlacedTo l i i) (hp:2≤p) (hg:getE (pressTo l k) p=none):∀ j,j<k→(el l j).place≠p:=fun j hj e=>by
  have:=((pressTo_ok k h).2 p j).2 ⟨hp,by omega,by omega,by rw [Int.toNat_natCast];exact e⟩
  rw [hg] at this
  cases this
theorem press_taken {l:List Itm}{k:Nat}{p v:Int}(h:∀ i,i<k→PlacedTo l i i) (hg:getE (pressTo l k) p=some v):2≤p∧∃ j,j<k∧(el l j).place=p:=by
  obtain ⟨a1,a2,a3,a4⟩:=((pressTo_ok k h).2 p v).1 hg
  exact ⟨a1,v.toNat,by omega,a4⟩
theorem pressTo_yes {l:List Itm}{k:Nat}(h:2≤(el l k).place):pressTo l (k+1)=putE (pressTo l k) (el l k).place k:=by simp only [pressTo,if_pos h]
theorem pressTo_no {l:List Itm}{k:Nat}(h:¬ 2≤(el l k).place):pressTo l (k+1)=pressTo l k:=by simp only [pressTo,if_neg h]
theorem press_ok {l:List Itm}(h:∀ i,i<l.length→Placed l i):PressOk l (pressTo l l.length):=by
  obtain ⟨h1,h2⟩:=pressTo_ok l.length (fun i hi=>placed_to (h i hi) (by omega))
  exact ⟨h1,h2⟩
theorem lineAt_iff {s:Sheet}{l:List Int}{k:Nat}:lineAt s l k=true↔(0≤el l k∧el l k≤s.rows-s.weight)∧(k=0∨(-s.lean≤el l k-el l (k-1)∧el l k-el l (k-1)≤s.lean)):=by
  simp [lineAt,withinB_iff]
theorem isLineB_iff {s:Sheet}{l:List Int}:isLineB s l=true↔(l.length:Int)=s.cols∧∀ j,j<l.length→lineAt s l j=true:=by
  simp [isLineB,List.all_eq_true]
theorem isLine_no {s:Sheet}{l:List Int}{k:Nat}(hk:k<l.length) (h:lineAt s l k=false):isLineB s l=false:=by
  cases e:isLineB s l with
  | false=>rfl
  | true=>have:=(isLineB_iff.1 e).2 k hk;rw [h] at this;cases this
theorem isLine_yes {s:Sheet}{l:List Int}(h:∀ j,j<l.length→lineAt s l j=true):isLineB s l=decide ((l.length:Int)=s.cols):=by
  rw [Bool.eq_iff_iff,isLineB_iff,decide_eq_true_eq]
  exact ⟨fun h=>h.1,fun e=>⟨e,h⟩⟩
theorem isLine_p (s:Sheet) (hs:s.ok=true) (l:List Int):PCalls Tryz.prog 149 [s.enc,encInts l] (·=vb (isLineB s l)):=by
  (refine pcalls_know (fun I us h=>rel_len (rel_arg h (j:=1) rfl)) fun hlen1=>?_)
  have hb:=Sheet.bounds hs
  refine pcalls_of_aw Tryz.func149 rfl (dc rfl) ?_
  (repeat' (first|(refine ar_isq ?_;refine zq ?_)|refine zg ?_ ?_|refine zgu ?_|refine zst ?_|refine aw_drawn (id:=4) [(0,0),(1,0),(2,0),(3,0),(4,0),(5,0),(6,1),(7,0),(8,0),(9,0),(10,0),(11,0),(12,0),(13,0),(14,0),(15,0),(16,0),(17,0),(18,0),(19,0),(20,0),(21,0),(22,0),(23,0),(24,1),(25,0),(26,0),(27,0)] mixed (by kernel_rfl) ?_|refine aw_drawn (id:=4) [(0,0),(1,0),(2,0),(3,0),(4,0),(5,0),(6,2),(7,0),(8,0),(9,0),(10,0),(11,0),(12,0),(13,0),(14,0),(15,0),(16,0),(17,0),(18,0),(19,0),(20,0),(21,0),(22,0),(23,0),(24,2),(25,0),(26,0),(27,0)] mixed (by kernel_rfl) ?_|refine zco ?_ ?_|(refine fun (hg:(_:Prop))=>?_;first|exact absurd hg (by decide)|((try replace hg:=HG.out hg);(try dsimp only at hg);(try rw [withinB_iff] at hg);(try rw [withinB_no] at hg);(try (have _h:True:=hg;clear _h hg));first|(exfalso;omega)|skip))))
  refine aw_for l.length (fun k=>∀ j,j<k→lineAt s l j=true) (fun k=>[(0,s.enc),(1,encInts l),(2,.ptr 5 0 0 0),(7,encInts l),(8,vi l.length),(9,vi k)]) (fun _=>[.arr 5 1 (fun _=>s.enc)]) (fun j hj=>by omega) ?_ ?_
  · (exact zsb [some 0] [])
  intro k hk hJ
  have hp:=fun h:0<k=>lineAt_iff.1 (hJ (k-1) (by omega))
  by_cases h0:0<k
  · have hp:=hp h0
    (repeat' (first|(refine ar_isq ?_;refine zq ?_)|refine zil (j:=k-1) ?_|refine zis (j:=k-1) ?_|refine zit (j:=k-1) ?_|(refine zpv fn70 (within_p _ _ _) ?_)|refine zg ?_ ?_|refine zgu ?_|refine zst ?_|refine aw_drawn (id:=4) [(0,0),(1,0),(2,0),(3,0),(4,0),(5,0),(6,1),(7,0),(8,0),(9,0),(10,0),(11,0),(12,0),(13,0),(14,0),(15,0),(16,0),(17,0),(18,0),(19,0),(20,0),(21,0),(22,0),(23,0),(24,1),(25,0),(26,0),(27,0)] mixed (by kernel_rfl) ?_|refine aw_drawn (id:=4) [(0,0),(1,0),(2,0),(3,0),(4,0),(5,0),(6,2),(7,0),(8,0),(9,0),(10,0),(11,0),(12,0),(13,0),(14,0),(15,0),(16,0),(17,0),(18,0),(19,0),(20,0),(21,0),(22,0),(23,0),(24,2),(25,0),(26,0),(27,0)] mixed (by kernel_rfl) ?_|refine zco ?_ ?_|(refine fun (hg:(_:Prop))=>?_;first|exact absurd hg (by decide)|((try replace hg:=HG.out hg);(try dsimp only at hg);(try rw [withinB_iff] at hg);(try rw [withinB_no] at hg);(try (have _h:True:=hg;clear _h hg));first|(exfalso;omega)|skip))))
    all_goals first
      | (((first|refine loop_next (by omega) ?_ ?_|refine (show _∧_∧SubOf _ _ _ _ _ _ from And.intro (by omega) (And.intro ?_ ?_)));(focus (((exact all_step hJ (lineAt_iff.2 (by omega))));done));(focus (exact zsb [some 0] []))))
      | ((refine aw_ret ?_;(repeat (first|refine ret_then ?_|refine ret_block ?_));refine bq1 rfl ⟨?_,rfl⟩);first|(rw [isLine_no (k:=k) (by omega) (by rw [← Bool.not_eq_true,lineAt_iff];omega)];rfl)|(obtain rfl:k=l.length:=(by omega);rw [isLine_yes hJ];rfl))
  · (repeat' (first|(refine ar_isq ?_;refine zq ?_)|refine zil (j:=k-1) ?_|refine zis (j:=k-1) ?_|refine zit (j:=k-1) ?_|(refine zpv fn70 (within_p _ _ _) ?_)|refine zg ?_ ?_|refine zgu ?_|refine zst ?_|refine aw_drawn (id:=4) [(0,0),(1,0),(2,0),(3,0),(4,0),(5,0),(6,1),(7,0),(8,0),(9,0),(10,0),(11,0),(12,0),(13,0),(14,0),(15,0),(16,0),(17,0),(18,0),(19,0),(20,0),(21,0),(22,0),(23,0),(24,1),(25,0),(26,0),(27,0)] mixed (by kernel_rfl) ?_|refine aw_drawn (id:=4) [(0,0),(1,0),(2,0),(3,0),(4,0),(5,0),(6,2),(7,0),(8,0),(9,0),(10,0),(11,0),(12,0),(13,0),(14,0),(15,0),(16,0),(17,0),(18,0),(19,0),(20,0),(21,0),(22,0),(23,0),(24,2),(25,0),(26,0),(27,0)] mixed (by kernel_rfl) ?_|refine zco ?_ ?_|(refine fun (hg:(_:Prop))=>?_;first|exact absurd hg (by decide)|((try replace hg:=HG.out hg);(try dsimp only at hg);(try rw [withinB_iff] at hg);(try rw [withinB_no] at hg);(try (have _h:True:=hg;clear _h hg));first|(exfalso;omega)|skip))))
    all_goals first
      | (((first|refine loop_next (by omega) ?_ ?_|refine (show _∧_∧SubOf _ _ _ _ _ _ from And.intro (by omega) (And.intro ?_ ?_)));(focus (((exact all_step hJ (lineAt_iff.2 (by omega))));done));(focus (exact zsb [some 0] []))))
      | ((refine aw_ret ?_;(repeat (first|refine ret_then ?_|refine ret_block ?_));refine bq1 rfl ⟨?_,rfl⟩);first|(rw [isLine_no (k:=k) (by omega) (by rw [← Bool.not_eq_true,lineAt_iff];omega)];rfl)|(obtain rfl:k=l.length:=(by omega);rw [isLine_yes hJ];rfl))
theorem everyRows_p (b:List (List Int)) {g:FuncId}{cap:List V}(hfn:FnOk Tryz.prog g) (hcap:V.closed.all cap=true) (p:List Int→Bool) (hc:∀ l,l∈b→PCalls Tryz.prog g (encInts l::cap) (·=vb (p l))) :
    PCalls Tryz.prog 147 [encRows b,.fn (.func g) [] cap] (·=vb (b.all p)):=by
  (refine pcalls_know (fun I us h=>rel_len (rel_arg h (j:=0) rfl)) fun hlen0=>?_)
  refine pcalls_of_aw Tryz.func147 rfl (dc rfl) ?_
  (repeat' (first|(refine ar_isq ?_;refine zq ?_)|refine zst ?_|refine zco ?_ ?_|(refine fun (hg:(_:Prop))=>?_;first|exact absurd hg (by decide)|((try replace hg:=HG.out hg);(try dsimp only at hg);(try rw [withinB_iff] at hg);(try rw [withinB_no] at hg);(try (have _h:True:=hg;clear _h hg));first|(exfalso;omega)|skip))))
  refine aw_for b.length (fun k=>∀ j,j<k→p (el b j)=true) (fun k=>[(1,.fn (.func g) [] cap),(7,encRows b),(8,vi b.length),(9,vi k)]) (fun _=>[]) (fun j hj=>by omega) ?_ ?_
  · (exact zsb [] [])
  intro k hk hJ
  by_cases hkn:k<b.length
  · (repeat' (first|(refine ar_isq ?_;refine zq ?_)|(refine ar_pcall (own:=false) hfn rfl rfl (args_closed hcap) (hc _ (el_mem hkn)) (by simp) (dc rfl) ?_;intro _ hv;subst hv)|refine zst ?_|refine zco ?_ ?_|(refine fun (hg:(_:Prop))=>?_;first|exact absurd hg (by decide)|((try replace hg:=HG.out hg);(try dsimp only at hg);(try rw [withinB_iff] at hg);(try rw [withinB_no] at hg);(try (have _h:True:=hg;clear _h hg));first|(exfalso;omega)|skip))))
    all_goals first
      | (exfalso;omega)
      | ((first|refine loop_next (by omega) ?_ ?_|refine (show _∧_∧SubOf _ _ _ _ _ _ from And.intro (by omega) (And.intro ?_ ?_)));(focus ((exact all_step hJ (by assumption));done));(focus (exact zsb [] [])))
      | ((refine aw_ret ?_;(repeat (first|refine ret_then ?_|refine ret_block ?_));refine bq1 rfl ⟨?_,rfl⟩);rw [not_all_el hkn (by simp_all)];rfl)
  · (repeat' (first|(refine ar_isq ?_;refine zq ?_)|refine zst ?_|refine zco ?_ ?_|(refine fun (hg:(_:Prop))=>?_;first|exact absurd hg (by decide)|((try replace hg:=HG.out hg);(try dsimp only at hg);(try rw [withinB_iff] at hg);(try rw [withinB_no] at hg);(try (have _h:True:=hg;clear _h hg));first|(exfalso;omega)|skip))))
    all_goals first|omega|((refine aw_ret ?_;(repeat (first|refine ret_then ?_|refine ret_block ?_));refine bq1 rfl ⟨?_,rfl⟩);rw [all_el (fun j hj=>hJ j (by omega))];rfl)
theorem lines_p (s:Sheet) (hs:s.ok=true) (b:List (List Int)):PCalls Tryz.prog 102 [s.enc,encRows b] (·=vb (b.all (isLineB s))):=by
  have h1:∀ l,l∈b→PCalls Tryz.prog 148 (encInts l::[.ref s.enc 0]) (·=vb (isLineB s l)):=fun l hm=>by
    refine pcalls_of_aw Tryz.func148 rfl (dc rfl) ?_
    (repeat' (first|(refine ar_isq ?_;refine zq ?_)|(refine zpv fn149 (isLine_p s hs l) ?_)|refine zst ?_|refine zco ?_ ?_|(refine fun (hg:(_:Prop))=>?_;first|exact absurd hg (by decide)|((try replace hg:=HG.out hg);(try dsimp only at hg);(try rw [withinB_iff] at hg);(try rw [withinB_no] at hg);(try (have _h:True:=hg;clear _h hg));first|(exfalso;omega)|skip))))
    (refine aw_ret ?_;(repeat (first|refine ret_then ?_|refine ret_block ?_));refine bq1 rfl ⟨?_,rfl⟩)
    rfl
  refine pcalls_of_aw Tryz.func102 rfl (dc rfl) ?_
  ((repeat refine aw_seq ?_);(first|(refine aw_region ?_));(repeat' (first|(refine ar_isq ?_;refine zq ?_)|refine zsr ?_)))
  (refine aw_mono_r (env':=[(0,s.enc),(1,encRows b),(2,.ref s.enc 0)]) (H':=[]) ?_ ?_;(focus (exact zsb [] [0])))
  (repeat' (first|(refine ar_isq ?_;refine zq ?_)|(refine zpv fn147 (everyRows_p b fn148 rfl _ h1) ?_)|refine zst ?_|refine zco ?_ ?_|(refine fun (hg:(_:Prop))=>?_;first|exact absurd hg (by decide)|((try replace hg:=HG.out hg);(try dsimp only at hg);(try rw [withinB_iff] at hg);(try rw [withinB_no] at hg);(try (have _h:True:=hg;clear _h hg));first|(exfalso;omega)|skip))))
  (refine aw_ret ?_;(repeat (first|refine ret_then ?_|refine ret_block ?_));refine bq1 rfl ⟨?_,rfl⟩)
  rfl
structure Clash where
  upper:Int
  lower:Int
  col:Int
instance:Inhabited Clash:=⟨⟨0,0,0⟩⟩
def Clash.enc (x:Clash):V:=.agg [vi x.upper,vi x.lower,vi x.col]
abbrev encClashes (l:List Clash):V:=LV 3 Clash.enc l
def nearAt (s:Sheet) (a b:List Int) (j:Nat):Bool:=decide (el b j-el a j<s.weight+s.clear)
def clashF (s:Sheet) (a b:List Int):Int:=match (List.range s.cols.toNat).find? (nearAt s a b) with|some j=>(j:Int)|none=>-1
theorem clashF_at {s:Sheet}{a b:List Int}{k:Nat}(hk:(k:Int)<s.cols) (h0:∀ j,j<k→nearAt s a b j=false) (h:nearAt s a b k=true):clashF s a b=k:=by
  have:(List.range s.cols.toNat).find? (nearAt s a b)=some k:=by
    rw [List.find?_range_eq_some]
    exact ⟨h,by simp;omega,fun j hj=>by simp [h0 j hj]⟩
  unfold clashF
  rw [this]
theorem clashF_none {s:Sheet}{a b:List Int}(h0:∀ j:Nat,(j:Int)<s.cols→nearAt s a b j=false):clashF s a b=-1:=by
  have:(List.range s.cols.toNat).find? (nearAt s a b)=none:=by
    rw [List.find?_eq_none]
    intro j hj
    rw [List.mem_range] at hj
    simp [h0 j (by omega)]
  unfold clashF
  rw [this]
def clashAt (s:Sheet) (b:List (List Int)) (i:Nat):List Clash:=if clashF s (el b i) (el b (i+1))<0 then [] else [⟨i,(i:Int)+1,clashF s (el b i) (el b (i+1))⟩]
def clashesTo (s:Sheet) (b:List (List Int)) (k:Nat):List Clash:=(List.range k).flatMap (clashAt s b)
theorem clashesTo_succ (s:Sheet) (b:List (List Int)) (k:Nat):clashesTo s b (k+1)=clashesTo s b k++clashAt s b k:=by simp [clashesTo,List.range_succ]
theorem clashesTo_len (s:Sheet) (b:List (List Int)):∀ k,(clashesTo s b k).length≤k
  | 0=>by simp [clashesTo]
  | k+1=>by
    rw [clashesTo_succ,List.length_append]
    have:=clashesTo_len s b k
    have:(clashAt s b k).length≤1:=by unfold clashAt;split<;>simp
    omega
def clashesF (s:Sheet) (b:List (List Int)):List Clash:=clashesTo s b (b.length-1)
theorem clashesTo_yes {s:Sheet}{b:List (List Int)}{k x:Nat}(hx:(x:Int)<s.cols) (h0:∀ j,j<x→nearAt s (el b k) (el b (k+1)) j=false) (h:nearAt s (el b k) (el b (k+1)) x=true):clashesTo s b (k+1)=clashesTo s b k++[⟨k,(k:Int)+1,x⟩]:=by
  have e:=clashF_at hx h0 h
  rw [clashesTo_succ,clashAt,if_neg (by omega),e]
theorem clashesTo_no {s:Sheet}{b:List (List Int)}{k:Nat}(h0:∀ j:Nat,(j:Int)<s.cols→nearAt s (el b k) (el b (k+1)) j=false):clashesTo s b (k+1)=clashesTo s b k:=by
  have e:=clashF_none h0
  rw [clashesTo_succ,clashAt,if_pos (by omega),List.append_nil]
theorem isLine_len {s:Sheet}{l:List Int}(h:isLineB s l=true):(l.length:Int)=s.cols:=(isLineB_iff.1 h).1
theorem isLine_at {s:Sheet}{l:List Int}(h:isLineB s l=true) {j:Nat}(hj:j<l.length):0≤el l j∧el l j≤s.rows-s.weight:=(lineAt_iff.1 ((isLineB_iff.1 h).2 j hj)).1
theorem clashes_p (s:Sheet) (hs:s.ok=true) (b:List (List Int)) (hl:b.all (isLineB s)=true) (h12:b.length≤12):PCalls Tryz.prog 103 [s.enc,encRows b] (·=encClashes (clashesF s b)):=by
  have hb:=Sheet.bounds hs
  refine pcalls_of_aw Tryz.func103 rfl (dc rfl) ?_
  (repeat' (first|(refine ar_isq ?_;refine zq ?_)|(refine ar_buildS (ds:=?ds) (by exact ty rfl) (by exact rfl) (by exact sizes rfl) (by exact rfl) (by exact rfl) (by exact build rfl) (by exact dc rfl) ?hn ?h;(case hn=>(dsimp only [cells_s,cells_emp,cells_agg,cells_list,cells_sl,cells_ptr,cells_ref,cells_fn,cells_vi,cells_vb,cells_vnil,constV,List.map_cons,List.map_nil,List.take_succ_cons,List.take_zero,List.drop_succ_cons,List.drop_zero,List.cons_append,List.nil_append,List.append_nil,LV_cells];exact rfl)))|refine zst ?_|refine aw_drawn (id:=8) [(0,0),(1,0),(2,0),(3,0),(4,0),(5,0),(6,0),(7,0),(8,0),(9,0),(10,0),(11,0),(12,0),(13,0),(14,0),(15,0)] mixed (by kernel_rfl) ?_|refine zco ?_ ?_|exact zd|(refine fun (hg:(_:Prop))=>?_;(try replace hg:=HG.out hg);(try dsimp only at hg);(try (have _h:True:=hg;clear _h hg)))))
  refine aw_for (b.length-1) (fun _=>True) (fun k=>[(1,encRows b),(2,.ptr 5 0 0 0),(5,.sl 3 1 0 (clashesTo s b k).length),(6,vi (k+1))]) (fun k=>[.arr 5 1 (fun _=>s.enc),LB 3 Clash.enc (clashesTo s b k)]) trivial ?_ ?_
  · (exact zsb [some 0,none] [])
  intro k hk _
  by_cases hlt:k+1<b.length
  · have hli:=isLine_len (of_all_el hl hlt)
    have hlj:=isLine_len (of_all_el hl (k:=k) (by omega))
    have hle:=clashesTo_len s b k
    (repeat' (first|(refine ar_isq ?_;refine zq ?_)|refine zil (j:=k+1) ?_|refine zis (j:=k+1) ?_|refine zit (j:=k+1) ?_|refine zil (j:=k) ?_|refine zis (j:=k) ?_|refine zit (j:=k) ?_|(refine ar_buildS (ds:=?ds) (by exact ty rfl) (by exact rfl) (by exact sizes rfl) (by exact rfl) (by exact rfl) (by exact build rfl) (by exact dc rfl) ?hn ?h;(case hn=>(dsimp only [cells_s,cells_emp,cells_agg,cells_list,cells_sl,cells_ptr,cells_ref,cells_fn,cells_vi,cells_vb,cells_vnil,constV,List.map_cons,List.map_nil,List.take_succ_cons,List.take_zero,List.drop_succ_cons,List.drop_zero,List.cons_append,List.nil_append,List.append_nil,LV_cells];exact rfl)))|refine zst ?_|refine aw_drawn (id:=8) [(0,0),(1,0),(2,0),(3,0),(4,0),(5,0),(6,0),(7,0),(8,0),(9,0),(10,0),(11,0),(12,0),(13,0),(14,0),(15,0)] mixed (by kernel_rfl) ?_|refine zco ?_ ?_|exact zd|(refine fun (hg:(_:Prop))=>?_;(try replace hg:=HG.out hg);(try dsimp only at hg);(try (have _h:True:=hg;clear _h hg)))))
    all_goals (try (exfalso;omega))
    refine aw_for (el b (k+1)).length (fun x=>∀ j,j<x→nearAt s (el b k) (el b (k+1)) j=false) (fun x=>[(1,encRows b),(2,.ptr 5 0 0 0),(5,.sl 3 1 0 (clashesTo s b k).length),(6,vi (k+1)),(18,encInts (el b (k+1))),(19,vi (el b (k+1)).length),(20,vi x)]) (fun _=>[.arr 5 1 (fun _=>s.enc),LB 3 Clash.enc (clashesTo s b k)]) (fun j hj=>by omega) ?_ ?_
    · (exact zsb [some 0,some 1] [])
    intro x hx hN
    by_cases hltx:x<(el b (k+1)).length
    · have h1:=isLine_at (of_all_el hl hlt) (j:=x) (by omega)
      have h2:=isLine_at (of_all_el hl (k:=k) (by omega)) (j:=x) (by omega)
      (repeat' (first|(refine ar_isq ?_;refine zq ?_)|refine zil (j:=k) ?_|refine zis (j:=k) ?_|refine zit (j:=k) ?_|refine zil (j:=x) ?_|refine zis (j:=x) ?_|refine zit (j:=x) ?_|(refine ar_buildS (ds:=?ds) (by exact ty rfl) (by exact rfl) (by exact sizes rfl) (by exact rfl) (by exact rfl) (by exact build rfl) (by exact dc rfl) ?hn ?h;(case hn=>(dsimp only [cells_s,cells_emp,cells_agg,cells_list,cells_sl,cells_ptr,cells_ref,cells_fn,cells_vi,cells_vb,cells_vnil,constV,List.map_cons,List.map_nil,List.take_succ_cons,List.take_zero,List.drop_succ_cons,List.drop_zero,List.cons_append,List.nil_append,List.append_nil,LV_cells];exact rfl)))|refine zst ?_|refine aw_drawn (id:=8) [(0,0),(1,0),(2,0),(3,0),(4,0),(5,0),(6,0),(7,0),(8,0),(9,0),(10,0),(11,0),(12,0),(13,0),(14,0),(15,0)] mixed (by kernel_rfl) ?_|refine zco ?_ ?_|exact zd|(refine fun (hg:(_:Prop))=>?_;(try replace hg:=HG.out hg);(try dsimp only at hg);(try (have _h:True:=hg;clear _h hg)))))
      all_goals first
        | (exfalso;omega)
        | (((first|refine loop_next (by omega) ?_ ?_|refine (show _∧_∧SubOf _ _ _ _ _ _ from And.intro (by omega) (And.intro ?_ ?_)));(focus ((exact all_step hN (by simp [nearAt];omega));done));(focus (exact zsb [some 0,some 1] []))))
        | (rw [clashesTo_yes (x:=x) (by omega) hN (by simp [nearAt];omega)];((first|refine loop_next (by omega) ?_ ?_|refine (show _∧_∧SubOf _ _ _ _ _ _ from And.intro (by omega) (And.intro ?_ ?_)));(focus ((trivial);done));(focus (exact zsb [some 0,some 3] []))))
    · (repeat' (first|(refine ar_isq ?_;refine zq ?_)|(refine ar_buildS (ds:=?ds) (by exact ty rfl) (by exact rfl) (by exact sizes rfl) (by exact rfl) (by exact rfl) (by exact build rfl) (by exact dc rfl) ?hn ?h;(case hn=>(dsimp only [cells_s,cells_emp,cells_agg,cells_list,cells_sl,cells_ptr,cells_ref,cells_fn,cells_vi,cells_vb,cells_vnil,constV,List.map_cons,List.map_nil,List.take_succ_cons,List.take_zero,List.drop_succ_cons,List.drop_zero,List.cons_append,List.nil_append,List.append_nil,LV_cells];exact rfl)))|refine zst ?_|refine aw_drawn (id:=8) [(0,0),(1,0),(2,0),(3,0),(4,0),(5,0),(6,0),(7,0),(8,0),(9,0),(10,0),(11,0),(12,0),(13,0),(14,0),(15,0)] mixed (by kernel_rfl) ?_|refine zco ?_ ?_|exact zd|(refine fun (hg:(_:Prop))=>?_;(try replace hg:=HG.out hg);(try dsimp only at hg);(try (have _h:True:=hg;clear _h hg)))))
      all_goals first
        | (exfalso;omega)
        | (rw [clashesTo_no (k:=k) fun j hj=>hN j (by omega)];((first|refine loop_next (by omega) ?_ ?_|refine (show _∧_∧SubOf _ _ _ _ _ _ from And.intro (by omega) (And.intro ?_ ?_)));(focus ((trivial);done));(focus (exact zsb [some 0,some 1] []))))
  · (repeat' (first|(refine ar_isq ?_;refine zq ?_)|(refine ar_buildS (ds:=?ds) (by exact ty rfl) (by exact rfl) (by exact sizes rfl) (by exact rfl) (by exact rfl) (by exact build rfl) (by exact dc rfl) ?hn ?h;(case hn=>(dsimp only [cells_s,cells_emp,cells_agg,cells_list,cells_sl,cells_ptr,cells_ref,cells_fn,cells_vi,cells_vb,cells_vnil,constV,List.map_cons,List.map_nil,List.take_succ_cons,List.take_zero,List.drop_succ_cons,List.drop_zero,List.cons_append,List.nil_append,List.append_nil,LV_cells];exact rfl)))|refine zst ?_|refine aw_drawn (id:=8) [(0,0),(1,0),(2,0),(3,0),(4,0),(5,0),(6,0),(7,0),(8,0),(9,0),(10,0),(11,0),(12,0),(13,0),(14,0),(15,0)] mixed (by kernel_rfl) ?_|refine zco ?_ ?_|exact zd|(refine fun (hg:(_:Prop))=>?_;(try replace hg:=HG.out hg);(try dsimp only at hg);(try (have _h:True:=hg;clear _h hg)))))
    all_goals first
      | (exfalso;omega)
      | ((refine aw_mono_r (env':=[(4,encClashes (clashesTo s b k))]) (H':=[]) ?_ ?_;(focus (exact zsb [] [1])));(refine aw_ret ?_;(repeat (first|refine ret_then ?_|refine ret_block ?_));refine bq1 rfl ⟨?_,rfl⟩);rw [show k=b.length-1 by omega];rfl)
theorem rwithin_p (n lo hi:Int):PCalls Tryz.prog 170 [vi n,vi lo,vi hi] (·=vb (withinB n lo hi)):=by
  refine pcalls_of_aw Tryz.func170 rfl (dc rfl) ?_
  (repeat' (first|(refine ar_isq ?_;refine zq ?_)|refine zg ?_ ?_|refine zgu ?_|refine zst ?_|refine zco ?_ ?_|(refine fun (hg:(_:Prop))=>?_;first|exact absurd hg (by decide)|((try replace hg:=HG.out hg);(try dsimp only at hg);(try rw [withinB_iff] at hg);(try rw [withinB_no] at hg);(try (have _h:True:=hg;clear _h hg));first|(exfalso;omega)|skip))))
  all_goals (refine aw_ret ?_;(repeat (first|refine ret_then ?_|refine ret_block ?_));refine bq1 rfl ⟨?_,rfl⟩)
  all_goals (simp only [vb,constV,withinB];congr 2;simp;try omega)
theorem rSheet_p (s:Sheet):PCalls Tryz.prog 159 [s.enc] (·=vb s.ok):=by
  refine pcalls_of_aw Tryz.func159 rfl (dc rfl) ?_
  (repeat' (first|(refine ar_isq ?_;refine zq ?_)|(refine zpv fn170 (rwithin_p _ _ _) ?_)|refine zg ?_ ?_|refine zgu ?_|refine zst ?_|refine zco ?_ ?_|(refine fun (hg:(_:Prop))=>?_;first|exact absurd hg (by decide)|((try replace hg:=HG.out hg);(try dsimp only at hg);(try rw [withinB_iff] at hg);(try rw [withinB_no] at hg);(try (have _h:True:=hg;clear _h hg));first|(exfalso;omega)|skip))))
  all_goals (refine aw_ret ?_;(repeat (first|refine ret_then ?_|refine ret_block ?_));refine bq1 rfl ⟨?_,rfl⟩)
  all_goals (simp only [vb,constV,Sheet.ok,withinB];congr 2;simp;try omega)
theorem rLine_p (s:Sheet) (hs:s.ok=true) (l:List Int):PCalls Tryz.prog 174 [s.enc,encInts l] (·=vb (isLineB s l)):=by
  (refine pcalls_know (fun I us h=>rel_len (rel_arg h (j:=1) rfl)) fun hlen1=>?_)
  have hb:=Sheet.bounds hs
  refine pcalls_of_aw Tryz.func174 rfl (dc rfl) ?_
  (repeat' (first|(refine ar_isq ?_;refine zq ?_)|refine zg ?_ ?_|refine zgu ?_|refine zst ?_|refine aw_drawn (id:=6) [(0,0),(1,0),(2,0),(3,0),(4,0),(5,0),(6,0),(7,0),(8,0),(9,1),(10,0),(11,0),(12,0),(13,0),(14,0),(15,0),(16,0),(17,0),(18,0),(19,0),(20,0),(21,0),(22,0),(23,0),(24,0),(25,0),(26,0),(27,0),(28,0),(29,0),(30,1),(31,0),(32,0),(33,0)] mixed (by kernel_rfl) ?_|refine aw_drawn (id:=6) [(0,0),(1,0),(2,0),(3,0),(4,0),(5,0),(6,0),(7,0),(8,0),(9,2),(10,0),(11,0),(12,0),(13,0),(14,0),(15,0),(16,0),(17,0),(18,0),(19,0),(20,0),(21,0),(22,0),(23,0),(24,0),(25,0),(26,0),(27,0),(28,0),(29,0),(30,2),(31,0),(32,0),(33,0)] mixed (by kernel_rfl) ?_|refine zco ?_ ?_|(refine fun (hg:(_:Prop))=>?_;first|exact absurd hg (by decide)|((try replace hg:=HG.out hg);(try dsimp only at hg);(try rw [withinB_iff] at hg);(try rw [withinB_no] at hg);(try (have _h:True:=hg;clear _h hg));first|(exfalso;omega)|skip))))
  · (refine aw_ret ?_;(repeat (first|refine ret_then ?_|refine ret_block ?_));refine bq1 rfl ⟨?_,rfl⟩)
    rw [show isLineB s l=false by simp [isLineB];omega]
    rfl
  refine aw_for l.length (fun k=>∀ j,j<k→lineAt s l j=true) (fun k=>[(1,encInts l),(2,.ptr 5 0 0 0),(5,vi k)]) (fun _=>[.arr 5 1 (fun _=>s.enc)]) (fun j hj=>by omega) ?_ ?_
  · (exact zsb [some 0] [])
  intro k hk hJ
  by_cases h0:0<k
  · have hp:=lineAt_iff.1 (hJ (k-1) (by omega))
    (repeat' (first|(refine ar_isq ?_;refine zq ?_)|refine zil (j:=k-1) ?_|refine zis (j:=k-1) ?_|refine zit (j:=k-1) ?_|(refine zpv fn170 (rwithin_p _ _ _) ?_)|refine zg ?_ ?_|refine zgu ?_|refine zst ?_|refine aw_drawn (id:=6) [(0,0),(1,0),(2,0),(3,0),(4,0),(5,0),(6,0),(7,0),(8,0),(9,1),(10,0),(11,0),(12,0),(13,0),(14,0),(15,0),(16,0),(17,0),(18,0),(19,0),(20,0),(21,0),(22,0),(23,0),(24,0),(25,0),(26,0),(27,0),(28,0),(29,0),(30,1),(31,0),(32,0),(33,0)] mixed (by kernel_rfl) ?_|refine aw_drawn (id:=6) [(0,0),(1,0),(2,0),(3,0),(4,0),(5,0),(6,0),(7,0),(8,0),(9,2),(10,0),(11,0),(12,0),(13,0),(14,0),(15,0),(16,0),(17,0),(18,0),(19,0),(20,0),(21,0),(22,0),(23,0),(24,0),(25,0),(26,0),(27,0),(28,0),(29,0),(30,2),(31,0),(32,0),(33,0)] mixed (by kernel_rfl) ?_|refine zco ?_ ?_|(refine fun (hg:(_:Prop))=>?_;first|exact absurd hg (by decide)|((try replace hg:=HG.out hg);(try dsimp only at hg);(try rw [withinB_iff] at hg);(try rw [withinB_no] at hg);(try (have _h:True:=hg;clear _h hg));first|(exfalso;omega)|skip))))
    all_goals first
      | (exfalso;omega)
      | ((first|refine loop_next (by omega) ?_ ?_|refine (show _∧_∧SubOf _ _ _ _ _ _ from And.intro (by omega) (And.intro ?_ ?_)));(focus (((exact all_step hJ (lineAt_iff.2 (by omega))));done));(focus (exact zsb [some 0] [])))
      | ((refine aw_ret ?_;(repeat (first|refine ret_then ?_|refine ret_block ?_));refine bq1 rfl ⟨?_,rfl⟩);first|(rw [isLine_no (k:=k) (by omega) (by rw [← Bool.not_eq_true,lineAt_iff];omega)];rfl)|(obtain rfl:k=l.length:=(by omega);rw [isLine_yes hJ];simp [constV,vb];omega))
  · (repeat' (first|(refine ar_isq ?_;refine zq ?_)|(refine zpv fn170 (rwithin_p _ _ _) ?_)|refine zg ?_ ?_|refine zgu ?_|refine zst ?_|refine aw_drawn (id:=6) [(0,0),(1,0),(2,0),(3,0),(4,0),(5,0),(6,0),(7,0),(8,0),(9,1),(10,0),(11,0),(12,0),(13,0),(14,0),(15,0),(16,0),(17,0),(18,0),(19,0),(20,0),(21,0),(22,0),(23,0),(24,0),(25,0),(26,0),(27,0),(28,0),(29,0),(30,1),(31,0),(32,0),(33,0)] mixed (by kernel_rfl) ?_|refine aw_drawn (id:=6) [(0,0),(1,0),(2,0),(3,0),(4,0),(5,0),(6,0),(7,0),(8,0),(9,2),(10,0),(11,0),(12,0),(13,0),(14,0),(15,0),(16,0),(17,0),(18,0),(19,0),(20,0),(21,0),(22,0),(23,0),(24,0),(25,0),(26,0),(27,0),(28,0),(29,0),(30,2),(31,0),(32,0),(33,0)] mixed (by kernel_rfl) ?_|refine zco ?_ ?_|(refine fun (hg:(_:Prop))=>?_;first|exact absurd hg (by decide)|((try replace hg:=HG.out hg);(try dsimp only at hg);(try rw [withinB_iff] at hg);(try rw [withinB_no] at hg);(try (have _h:True:=hg;clear _h hg));first|(exfalso;omega)|skip))))
    all_goals first
      | (exfalso;omega)
      | ((first|refine loop_next (by omega) ?_ ?_|refine (show _∧_∧SubOf _ _ _ _ _ _ from And.intro (by omega) (And.intro ?_ ?_)));(focus (((exact all_step hJ (lineAt_iff.2 (by omega))));done));(focus (exact zsb [some 0] [])))
      | ((refine aw_ret ?_;(repeat (first|refine ret_then ?_|refine ret_block ?_));refine bq1 rfl ⟨?_,rfl⟩);first|(rw [isLine_no (k:=k) (by omega) (by rw [← Bool.not_eq_true,lineAt_iff];omega)];rfl)|(obtain rfl:k=l.length:=(by omega);rw [isLine_yes hJ];simp [constV,vb];omega))
theorem rlines_p (s:Sheet) (hs:s.ok=true) (b:List (List Int)):PCalls Tryz.prog 171 [s.enc,encRows b] (·=vb (b.all (isLineB s))):=by
  (refine pcalls_know (fun I us h=>rel_len (rel_arg h (j:=1) rfl)) fun hlen1=>?_)
  refine pcalls_of_aw Tryz.func171 rfl (dc rfl) ?_
  (repeat' (first|(refine ar_isq ?_;refine zq ?_)|refine zst ?_|refine aw_drawn (id:=4) [(0,0),(1,0),(2,0),(3,0),(4,0),(5,1),(6,0)] mixed (by kernel_rfl) ?_|refine aw_drawn (id:=4) [(0,0),(1,0),(2,0),(3,0),(4,0),(5,2),(6,0)] mixed (by kernel_rfl) ?_|refine zco ?_ ?_|exact zd|(refine fun (hg:(_:Prop))=>?_;(try replace hg:=HG.out hg);(try dsimp only at hg);(try (have _h:True:=hg;clear _h hg)))))
  refine aw_for b.length (fun k=>∀ j,j<k→isLineB s (el b j)=true) (fun k=>[(1,encRows b),(2,.ptr 5 0 0 0),(5,vi k)]) (fun _=>[.arr 5 1 (fun _=>s.enc)]) (fun j hj=>by omega) ?_ ?_
  · (exact zsb [some 0] [])
  intro k hk hJ
  (repeat' (first|(refine ar_isq ?_;refine zq ?_)|(refine zpv fn174 (rLine_p s hs _) ?_)|refine zst ?_|refine aw_drawn (id:=4) [(0,0),(1,0),(2,0),(3,0),(4,0),(5,1),(6,0)] mixed (by kernel_rfl) ?_|refine aw_drawn (id:=4) [(0,0),(1,0),(2,0),(3,0),(4,0),(5,2),(6,0)] mixed (by kernel_rfl) ?_|refine zco ?_ ?_|exact zd|(refine fun (hg:(_:Prop))=>?_;(try replace hg:=HG.out hg);(try dsimp only at hg);(try (have _h:True:=hg;clear _h hg)))))
  all_goals first
    | (exfalso;omega)
    | ((first|refine loop_next (by omega) ?_ ?_|refine (show _∧_∧SubOf _ _ _ _ _ _ from And.intro (by omega) (And.intro ?_ ?_)));(focus (((exact all_step hJ (by assumption)));done));(focus (exact zsb [some 0] [])))
    | ((refine aw_ret ?_;(repeat (first|refine ret_then ?_|refine ret_block ?_));refine bq1 rfl ⟨?_,rfl⟩);first|(rw [not_all_el (k:=k) (by omega) (by assumption)];rfl)|(rw [all_el (p:=isLineB s) (fun j hj=>hJ j (by omega))];rfl))
theorem rclash_p (s:Sheet) (hs:s.ok=true) (a b:List Int) (ha:isLineB s a=true) (hb:isLineB s b=true):PCalls Tryz.prog 172 [s.enc,encInts a,encInts b] (·=vi (clashF s a b)):=by
  have hbd:=Sheet.bounds hs
  have hla:=isLine_len ha
  have hlb:=isLine_len hb
  refine pcalls_of_aw Tryz.func172 rfl (dc rfl) ?_
  (repeat' (first|(refine ar_isq ?_;refine zq ?_)|refine zst ?_|refine aw_drawn (id:=4) [(0,0),(1,0),(2,0),(3,0),(4,0),(5,0),(6,0),(7,0),(8,0),(9,0),(10,0),(11,0),(12,0),(13,0),(14,0)] mixed (by kernel_rfl) ?_|refine zco ?_ ?_|exact zd|(refine fun (hg:(_:Prop))=>?_;(try replace hg:=HG.out hg);(try dsimp only at hg);(try (have _h:True:=hg;clear _h hg)))))
  refine aw_for a.length (fun k=>∀ j,j<k→nearAt s a b j=false) (fun k=>[(1,encInts a),(2,encInts b),(3,.ptr 5 0 0 0),(7,vi k)]) (fun _=>[.arr 5 1 (fun _=>s.enc)]) (fun j hj=>by omega) ?_ ?_
  · (exact zsb [some 0] [])
  intro k hk hJ
  by_cases hlt:k<a.length
  · have h1:=isLine_at ha hlt
    have h2:=isLine_at hb (j:=k) (by omega)
    (repeat' (first|(refine ar_isq ?_;refine zq ?_)|refine zst ?_|refine aw_drawn (id:=4) [(0,0),(1,0),(2,0),(3,0),(4,0),(5,0),(6,0),(7,0),(8,0),(9,0),(10,0),(11,0),(12,0),(13,0),(14,0)] mixed (by kernel_rfl) ?_|refine zco ?_ ?_|exact zd|(refine fun (hg:(_:Prop))=>?_;(try replace hg:=HG.out hg);(try dsimp only at hg);(try (have _h:True:=hg;clear _h hg)))))
    all_goals first
      | (exfalso;omega)
      | ((first|refine loop_next (by omega) ?_ ?_|refine (show _∧_∧SubOf _ _ _ _ _ _ from And.intro (by omega) (And.intro ?_ ?_)));(focus (((exact all_step hJ (by simp [nearAt];omega)));done));(focus (exact zsb [some 0] [])))
      | ((refine aw_ret ?_;(repeat (first|refine ret_then ?_|refine ret_block ?_));refine bq1 rfl ⟨?_,rfl⟩);rw [clashF_at (k:=k) (by omega) hJ (by simp [nearAt];omega)];try rfl)
  · (repeat' (first|(refine ar_isq ?_;refine zq ?_)|refine zst ?_|refine aw_drawn (id:=4) [(0,0),(1,0),(2,0),(3,0),(4,0),(5,0),(6,0),(7,0),(8,0),(9,0),(10,0),(11,0),(12,0),(13,0),(14,0)] mixed (by kernel_rfl) ?_|refine zco ?_ ?_|exact zd|(refine fun (hg:(_:Prop))=>?_;(try replace hg:=HG.out hg);(try dsimp only at hg);(try (have _h:True:=hg;clear _h hg)))))
    all_goals first
      | (exfalso;omega)
      | ((refine aw_ret ?_;(repeat (first|refine ret_then ?_|refine ret_block ?_));refine bq1 rfl ⟨?_,rfl⟩);rw [clashF_none (fun j hj=>hJ j (by omega))];try rfl)
def linesB (s:Sheet) (b:List (List Int)):Bool:=b.all (isLineB s)
def bandB (s:Sheet) (b:List (List Int)):Bool:=decide (b.length≤12)&&linesB s b&&(List.range (b.length-1)).all fun i=>decide (clashF s (el b i) (el b (i+1))<0)
theorem err_ok {s:Sheet}(h:s.ok=true):s.err=0:=by simp [Sheet.err,h]
theorem err_bad {s:Sheet}(h:s.ok=false):s.err=70:=by simp [Sheet.err,h]
theorem clashes_nil {s:Sheet}{b:List (List Int)}:(clashesF s b).length=0↔((List.range (b.length-1)).all fun i=>decide (clashF s (el b i) (el b (i+1))<0))=true:=by
  rw [List.length_eq_zero_iff,clashesF,clashesTo,List.flatMap_eq_nil_iff,List.all_eq_true]
  refine forall_congr' fun i=>forall_congr' fun hi=>?_
  unfold clashAt
  split
  · rename_i h;simp [h]
  · rename_i h;simp [h]
def checkErr (s:Sheet) (b:List (List Int)):Int:=if s.ok then (if bandB s b then 0 else 71) else 70
theorem checkErr_eq {s:Sheet}{b:List (List Int)}(hs:s.ok=true):checkErr s b=if b.length≤12∧linesB s b=true∧(clashesF s b).length=0 then 0 else 71:=by
  unfold checkErr bandB
  rw [if_pos hs]
  simp only [Bool.and_eq_true,decide_eq_true_eq,and_assoc,clashes_nil]
theorem band_of_check {s:Sheet}{b:List (List Int)}(h:checkErr s b=0):s.ok=true∧b.length≤12∧linesB s b=true:=by
  unfold checkErr at h
  cases hs:s.ok
  · rw [hs] at h;simp at h
  · have h':checkErr s b=0:=h
    rw [checkErr_eq hs] at h'
    split at h'
    · rename_i h2;exact ⟨rfl,h2.1,h2.2.1⟩
    · simp at h'
theorem band_lines {s:Sheet}{b:List (List Int)}(h:b.all (isLineB s)=false):bandB s b=false:=by
  unfold bandB linesB
  rw [h,Bool.and_false,Bool.false_and]
theorem check_p (s:Sheet) (b:List (List Int)):PCalls Tryz.prog 58 [s.enc,encRows b] (·=vi (checkErr s b)):=by
  cases hs:s.ok
  · have he:=err_bad hs
    refine pcalls_of_aw Tryz.func58 rfl (dc rfl) ?_
    (repeat' (first|(refine ar_isq ?_;refine zq ?_)|(refine zpv fn65 (checkSheet_p _) ?_)|refine zg ?_ ?_|refine zgu ?_|refine zst ?_|refine zco ?_ ?_|exact zd|(refine fun (hg:(_:Prop))=>?_;(try replace hg:=HG.out hg);(try dsimp only at hg);(try (have _h:True:=hg;clear _h hg)))))
    all_goals first
      | (exfalso;omega)
      | ((refine aw_ret ?_;(repeat (first|refine ret_then ?_|refine ret_block ?_));refine bq1 rfl ⟨?_,rfl⟩);simp [vi,checkErr,hs,he])
  · have he:=err_ok hs
    refine pcalls_of_aw Tryz.func58 rfl (dc rfl) ?_
    (repeat' (first|(refine ar_isq ?_;refine zq ?_)|(refine zpv fn65 (checkSheet_p _) ?_)|(refine zpv fn102 (lines_p s hs b) ?_)|(refine zpv fn103 (clashes_p s hs b (by assumption) (by omega)) ?_)|refine zg ?_ ?_|refine zgu ?_|refine zst ?_|refine zco ?_ ?_|exact zd|(refine fun (hg:(_:Prop))=>?_;(try replace hg:=HG.out hg);(try dsimp only at hg);(try (have _h:True:=hg;clear _h hg)))))
    all_goals first
      | (exfalso;omega)
      | ((refine aw_ret ?_;(repeat (first|refine ret_then ?_|refine ret_block ?_));refine bq1 rfl ⟨?_,rfl⟩);rw [checkErr_eq hs];first
          | (rw [if_pos ⟨by omega,(show b.all (isLineB s)=true by assumption),by omega⟩];rfl)
          | (rw [if_neg (fun h=>by obtain ⟨h1,h2,h3⟩:=h;first|omega|(have h4:b.all (isLineB s)=true:=h2;simp_all))];rfl))
theorem rBand_p (s:Sheet) (hs:s.ok=true) (b:List (List Int)):PCalls Tryz.prog 160 [s.enc,encRows b] (·=vb (bandB s b)):=by
  (refine pcalls_know (fun I us h=>rel_len (rel_arg h (j:=1) rfl)) fun hlen1=>?_)
  refine pcalls_of_aw Tryz.func160 rfl (dc rfl) ?_
  (repeat' (first|(refine ar_isq ?_;refine zq ?_)|(refine zpv fn171 (rlines_p s hs b) ?_)|refine zg ?_ ?_|refine zgu ?_|refine zst ?_|refine aw_drawn (id:=6) [(0,0),(1,0),(2,0),(3,0),(4,0),(5,0),(6,0),(7,0),(8,0),(9,0),(10,1),(11,0)] mixed (by kernel_rfl) ?_|refine aw_drawn (id:=6) [(0,0),(1,0),(2,0),(3,0),(4,0),(5,0),(6,0),(7,0),(8,0),(9,0),(10,2),(11,0)] mixed (by kernel_rfl) ?_|refine zco ?_ ?_|exact zd|(refine fun (hg:(_:Prop))=>?_;(try replace hg:=HG.out hg);(try dsimp only at hg);(try (have _h:True:=hg;clear _h hg)))))
  all_goals try ((refine aw_ret ?_;(repeat (first|refine ret_then ?_|refine ret_block ?_));refine bq1 rfl ⟨?_,rfl⟩);rw [show bandB s b=false by first|exact band_lines (by assumption)|(simp [bandB];omega)];rfl)
  have hl:b.all (isLineB s)=true:=by assumption
  refine aw_for (b.length-1) (fun k=>∀ j,j<k→decide (clashF s (el b j) (el b (j+1))<0)=true) (fun k=>[(1,encRows b),(2,.ptr 5 0 0 0),(5,vi (k+1))]) (fun _=>[.arr 5 1 (fun _=>s.enc)]) (fun j hj=>by omega) ?_ ?_
  · (exact zsb [some 0] [])
  intro k hk hJ
  by_cases hlt:k+1<b.length
  · (repeat' (first|(refine ar_isq ?_;refine zq ?_)|refine zil (j:=k) ?_|refine zis (j:=k) ?_|refine zit (j:=k) ?_|refine zil (j:=k+1) ?_|refine zis (j:=k+1) ?_|refine zit (j:=k+1) ?_|(refine ar_pcall (own:=false) fn172 rfl rfl (.cons (.closed rfl) (.cons (.closed rfl) (.cons (.closed rfl) .nil))) (rclash_p s hs _ _ (of_all_el hl (by omega)) (of_all_el hl (by omega))) (by simp) (dc rfl) ?_;intro _ hv;subst hv)|refine zg ?_ ?_|refine zgu ?_|refine zst ?_|refine aw_drawn (id:=6) [(0,0),(1,0),(2,0),(3,0),(4,0),(5,0),(6,0),(7,0),(8,0),(9,0),(10,1),(11,0)] mixed (by kernel_rfl) ?_|refine aw_drawn (id:=6) [(0,0),(1,0),(2,0),(3,0),(4,0),(5,0),(6,0),(7,0),(8,0),(9,0),(10,2),(11,0)] mixed (by kernel_rfl) ?_|refine zco ?_ ?_|exact zd|(refine fun (hg:(_:Prop))=>?_;(try replace hg:=HG.out hg);(try dsimp only at hg);(try (have _h:True:=hg;clear _h hg)))))
    all_goals first
      | (exfalso;omega)
      | ((first|refine loop_next (by omega) ?_ ?_|refine (show _∧_∧SubOf _ _ _ _ _ _ from And.intro (by omega) (And.intro ?_ ?_)));(focus (((exact all_step hJ (by simp;omega)));done));(focus (exact zsb [some 0] [])))
      | ((refine aw_ret ?_;(repeat (first|refine ret_then ?_|refine ret_block ?_));refine bq1 rfl ⟨?_,rfl⟩);rw [show bandB s b=false by unfold bandB;rw [Bool.and_eq_false_iff];right;rw [List.all_eq_false];exact ⟨k,by simp;omega,by simp;omega⟩];rfl)
  · (repeat' (first|(refine ar_isq ?_;refine zq ?_)|refine zg ?_ ?_|refine zgu ?_|refine zst ?_|refine aw_drawn (id:=6) [(0,0),(1,0),(2,0),(3,0),(4,0),(5,0),(6,0),(7,0),(8,0),(9,0),(10,1),(11,0)] mixed (by kernel_rfl) ?_|refine aw_drawn (id:=6) [(0,0),(1,0),(2,0),(3,0),(4,0),(5,0),(6,0),(7,0),(8,0),(9,0),(10,2),(11,0)] mixed (by kernel_rfl) ?_|refine zco ?_ ?_|exact zd|(refine fun (hg:(_:Prop))=>?_;(try replace hg:=HG.out hg);(try dsimp only at hg);(try (have _h:True:=hg;clear _h hg)))))
    all_goals first
      | (exfalso;omega)
      | ((refine aw_ret ?_;(repeat (first|refine ret_then ?_|refine ret_block ?_));refine bq1 rfl ⟨?_,rfl⟩);rw [show bandB s b=true by unfold bandB linesB;rw [hl];simp only [Bool.and_true,Bool.and_eq_true,decide_eq_true_eq];refine ⟨by omega,?_⟩;rw [List.all_eq_true];exact fun j hj=>hJ j (by simp at hj;omega)];rfl)
theorem rCheck_p (s:Sheet) (b:List (List Int)):PCalls Tryz.prog 137 [s.enc,encRows b] (·=vi (checkErr s b)):=by
  refine pcalls_of_aw Tryz.func137 rfl (dc rfl) ?_
  cases hs:s.ok
  · (repeat' (first|(refine ar_isq ?_;refine zq ?_)|(refine zpv fn159 (rSheet_p _) ?_)|refine zst ?_|refine zco ?_ ?_|exact zd|(refine fun (hg:(_:Prop))=>?_;(try replace hg:=HG.out hg);(try dsimp only at hg);(try (have _h:True:=hg;clear _h hg)))))
    all_goals first
      | (simp_all;done)
      | ((refine aw_ret ?_;(repeat (first|refine ret_then ?_|refine ret_block ?_));refine bq1 rfl ⟨?_,rfl⟩);simp [vi,constV,checkErr,hs])
  · (repeat' (first|(refine ar_isq ?_;refine zq ?_)|(refine zpv fn159 (rSheet_p _) ?_)|(refine zpv fn160 (rBand_p s hs b) ?_)|refine zst ?_|refine zco ?_ ?_|exact zd|(refine fun (hg:(_:Prop))=>?_;(try replace hg:=HG.out hg);(try dsimp only at hg);(try (have _h:True:=hg;clear _h hg)))))
    all_goals first
      | (simp_all;done)
      | ((refine aw_ret ?_;(repeat (first|refine ret_then ?_|refine ret_block ?_));refine bq1 rfl ⟨?_,rfl⟩);simp_all [vi,constV,checkErr,hs])
def gapAt (s:Sheet) (b:List (List Int)) (i c:Nat):Int:=el (el b (i+1)) c-el (el b i) c-s.weight
def gapRow (s:Sheet) (b:List (List Int)) (i:Nat) (x:Int) (n:Nat):Int:=(List.range n).foldl (fun a c=>min a (gapAt s b i c)) x
def gapTo (s:Sheet) (b:List (List Int)) (k:Nat):Int:=(List.range k).foldl (fun a i=>gapRow s b i a s.cols.toNat) s.rows
theorem gapRow_succ (s:Sheet) (b:List (List Int)) (i:Nat) (x:Int) (n:Nat):gapRow s b i x (n+1)=min (gapRow s b i x n) (gapAt s b i n):=by simp [gapRow,List.range_succ]
theorem gapTo_succ (s:Sheet) (b:List (List Int)) (k:Nat):gapTo s b (k+1)=gapRow s b k (gapTo s b k) s.cols.toNat:=by simp [gapTo,List.range_succ]
theorem gapRow_bnd {s:Sheet}{b:List (List Int)}{i:Nat}{x:Int}(hx:0≤x∧x≤s.rows):∀ n,(∀ c,c<n→0≤gapAt s b i c)→0≤gapRow s b i x n∧gapRow s b i x n≤s.rows
  | 0,_=>hx
  | n+1,h=>by
    have ih:=gapRow_bnd (i:=i) hx n (fun c hc=>h c (by omega))
    have:=h n (by omega)
    rw [gapRow_succ]
    omega
theorem gapTo_bnd {s:Sheet}{b:List (List Int)}(h0:0≤s.rows):∀ k,(∀ i c,i<k→c<s.cols.toNat→0≤gapAt s b i c)→0≤gapTo s b k∧gapTo s b k≤s.rows
  | 0,_=>⟨h0,Int.le_refl _⟩
  | k+1,h=>by
    rw [gapTo_succ]
    exact gapRow_bnd (gapTo_bnd h0 k fun i c hi hc=>h i c (by omega) hc) _ fun c hc=>h k c (by omega) hc
theorem near_no {s:Sheet}{x y:List Int}(h:clashF s x y<0) {j:Nat}(hj:(j:Int)<s.cols):nearAt s x y j=false:=by
  unfold clashF at h
  split at h
  · omega
  · rename_i hf
    rw [List.find?_eq_none] at hf
    have:=hf j (by simp;omega)
    simpa using this
theorem gap_pos {s:Sheet}{b:List (List Int)}(h:checkErr s b=0) {i c:Nat}(hi:i<b.length-1) (hc:c<s.cols.toNat):0≤gapAt s b i c:=by
  have hb:=Sheet.bounds (band_of_check h).1
  have hbd:bandB s b=true:=by
    unfold checkErr at h
    rw [if_pos (band_of_check h).1] at h
    split at h
    · assumption
    · omega
  unfold bandB at hbd
  simp only [Bool.and_eq_true,List.all_eq_true,List.mem_range,decide_eq_true_eq] at hbd
  have:=near_no (hbd.2 i hi) (j:=c) (by omega)
  simp only [nearAt,decide_eq_false_iff_not] at this
  unfold gapAt
  omega
def gapErr (s:Sheet) (b:List (List Int)):Int:=if checkErr s b=0 then (if b.length<2 then 6 else 0) else checkErr s b
def gapF (s:Sheet) (b:List (List Int)):Int:=if gapErr s b=0 then gapTo s b (b.length-1) else 0
theorem gap_ok {s:Sheet}{b:List (List Int)}(h:gapErr s b=0):checkErr s b=0∧2≤b.length∧0≤gapF s b∧gapF s b≤60:=by
  have h0:=h
  unfold gapErr at h
  split at h
  · rename_i hc
    split at h
    · omega
    · have hb:=Sheet.bounds (band_of_check hc).1
      have:=gapTo_bnd (s:=s) (b:=b) (by omega) (b.length-1) fun i c hi hcc=>gap_pos hc hi hcc
      unfold gapF
      rw [if_pos h0]
      exact ⟨hc,by omega,this.1,by omega⟩
  · omega
def lastErr (s:Sheet) (b:List (List Int)) (per:Int):Int:=if gapErr s b=0 then (if withinB per 1 1000=true then (if gapF s b=0 then 6 else 0) else 2) else gapErr s b
def lastF (s:Sheet) (b:List (List Int)) (per:Int):Int:=if lastErr s b per=0 then (gapF s b+1)/2*per-1 else 0
theorem last_step {g p n:Int}(hg:1≤g) (hp:1≤p) (hn:0≤n) (h:n<(g+1)/2*p-1):0<g-2*((n+1)/p):=by
  have h1:(n+1)/p<(g+1)/2:=Int.ediv_lt_of_lt_mul (by omega) (by omega)
  omega
theorem last_end {g p:Int}(hp:1≤p):¬ (0<g-2*(((g+1)/2*p-1+1)/p)):=by
  have:((g+1)/2*p-1+1)/p=(g+1)/2:=by rw [Int.sub_add_cancel];exact Int.mul_ediv_cancel _ (by omega)
  rw [this]
  omega
structure Dsn where
  owner:Int
  sheet:Sheet
  band:List (List Int)
instance:Inhabited Dsn:=⟨⟨0,⟨0,0,0,0,0⟩,[]⟩⟩
structure Lic where
  design:Int
  client:Int
  til:Int
  left:Int
instance:Inhabited Lic:=⟨⟨0,0,0,0⟩⟩
structure Ordr where
  client:Int
  design:Int
  need:Int
  done:Bool
instance:Inhabited Ordr:=⟨⟨0,0,0,false⟩⟩
structure Hse where
  per:Int
  day:Int
  store:Sto
  designs:List Dsn
  lics:List Lic
  orders:List Ordr
  made:List Int
  fors:List Int
structure Job where
  kind:Int
  client:Int
  design:Int
  order:Int
  n:Int
  til:Int
  act:Deed
  sheet:Sheet
  band:List (List Int)
instance:Inhabited Job:=⟨⟨0,0,0,0,0,0,⟨0,0,0,0⟩,⟨0,0,0,0,0⟩,[]⟩⟩
def Dsn.enc (d:Dsn):V:=.agg [vi d.owner,vi d.sheet.cols,vi d.sheet.rows,vi d.sheet.weight,vi d.sheet.clear,vi d.sheet.lean,encRows d.band]
def Lic.enc (l:Lic):V:=.agg [vi l.design,vi l.client,vi l.til,vi l.left]
def Ordr.enc (o:Ordr):V:=.agg [vi o.client,vi o.design,vi o.need,vb o.done]
abbrev encDsns (l:List Dsn):V:=LV 7 Dsn.enc l
abbrev encLics (l:List Lic):V:=LV 4 Lic.enc l
abbrev encOrders (l:List Ordr):V:=LV 4 Ordr.enc l
def Hse.enc (h:Hse):V:=.agg [vi h.per,vi h.day,vi h.store.life,encItems h.store.items,encPrints h.store.prints,encDsns h.designs,encLics h.lics,encOrders h.orders,encInts h.made,encInts h.fors]
def Job.enc (j:Job):V:=.agg [vu8 j.kind,vi j.client,vi j.design,vi j.order,vi j.n,vi j.til,vu8 j.act.kind,vi j.act.item,vi j.act.dest,vi j.act.n,vi j.sheet.cols,vi j.sheet.rows,vi j.sheet.weight,vi j.sheet.clear,vi j.sheet.lean,encRows j.band]
abbrev encJobs (l:List Job):V:=LV 16 Job.enc l
def GoodD (d:Dsn):Prop:=(0≤d.owner∧d.owner≤50)∧d.band.length≠0∧checkErr d.sheet d.band=0∧(gapErr d.sheet d.band≠0∨0<gapF d.sheet d.band)
instance (d:Dsn):Decidable (GoodD d):=by unfold GoodD;infer_instance
def allowsF (per life:Int) (d:Dsn):Int:=if lastErr d.sheet d.band per=0 then lastF d.sheet d.band per+1 else life
def inDesigns (h:Hse) (n:Int):Prop:=0≤n∧n<(h.designs.length:Int)
def inOrders (h:Hse) (n:Int):Prop:=0≤n∧n<(h.orders.length:Int)
instance (h:Hse) (n:Int):Decidable (inDesigns h n):=by unfold inDesigns;infer_instance
instance (h:Hse) (n:Int):Decidable (inOrders h n):=by unfold inOrders;infer_instance
def LicOk (h:Hse) (l:Lic):Prop:=inDesigns h l.design∧(0≤l.client∧l.client≤50)∧l.client≠(el h.designs l.design.toNat).owner∧(0≤l.til∧l.til≤10000)∧(0≤l.left∧l.left≤400)
instance (h:Hse) (l:Lic):Decidable (LicOk h l):=by unfold LicOk;infer_instance
def MadeAt (h:Hse) (i:Nat):Prop:=inDesigns h (el h.made i)∧((el h.store.items i).kind≠1→el h.made i=el h.made (el h.store.items i).src.toNat)∧((el h.store.items i).kind=3→(el h.store.items i).uses≤allowsF h.per h.store.life (el h.designs (el h.made i).toNat))
instance (h:Hse) (i:Nat):Decidable (MadeAt h i):=by unfold MadeAt;infer_instance
def ForAt (h:Hse) (j:Nat):Prop:=inOrders h (el h.fors j)∧(el h.orders (el h.fors j).toNat).design=el h.made (el h.store.prints j).plate.toNat
instance (h:Hse) (j:Nat):Decidable (ForAt h j):=by unfold ForAt;infer_instance
def doneTo (h:Hse) (n st:Int) (k:Nat):Int:=cntB (fun j=>decide (el h.fors j=n)&&decide ((el h.store.prints j).state=st)) k
def doneF (h:Hse) (n st:Int):Int:=doneTo h n st h.fors.length
def OrdAt (h:Hse) (i:Nat):Prop:=(0≤(el h.orders i).client∧(el h.orders i).client≤50)∧inDesigns h (el h.orders i).design∧(1≤(el h.orders i).need∧(el h.orders i).need≤400)∧((el h.orders i).done=true→doneF h i 0=0∧doneF h i 1=(el h.orders i).need)∧((el h.orders i).done=false→doneF h i 1=0∧doneF h i 0≤(el h.orders i).need)
instance (h:Hse) (i:Nat):Decidable (OrdAt h i):=by unfold OrdAt;infer_instance
structure HValid (h:Hse):Prop where
  per:1≤h.per∧h.per≤1000
  day:0≤h.day∧h.day≤10000
  store:Valid h.store
  few:h.designs.length≤8∧h.lics.length≤20∧h.orders.length≤30
  designs:∀ i,i<h.designs.length→GoodD (el h.designs i)
  lics:∀ i,i<h.lics.length→LicOk h (el h.lics i)
  mades:h.made.length=h.store.items.length
  made:∀ i,i<h.store.items.length→MadeAt h i
  forss:h.fors.length=h.store.prints.length
  fors:∀ j,j<h.fors.length→ForAt h j
  orders:∀ i,i<h.orders.length→OrdAt h i
theorem ar_buildT {P:Program}{r:Option Nat}{m nt i dst:Nat}{Q:Post}{env:Env}{H:Heap}{ops:Array Oper}{l:List Stp}{ty T:TypeId}{pos:String}{after:Array Edge}{d:TyD}{parts:Array (Nat × Operand)}{fs:List (TypeId × Nat)}{ns:List Nat}{vs:List (Nat × V)}{ds0:List V}
    (h:∀ ds,ds0=ds→AR P r m nt ops Q l ((dst,.agg ds)::env) H) (ht:TyIs P T d) (hk:d.tk=.struct fs) (hs:SizesAre P fs ns) (hz:(constV d.zero).ok=true)
    (hv:parts.toList.mapM (fun p=>(eo env p.2).map fun v=>(p.1,v))=some vs) (hb:BuildR (fun k=>(List.zip (fs.map (·.2)) ns)[k]?) (constV d.zero).cells vs ds0) (hd:dst<nt):AR P r m nt ops Q (.q i ⟨some dst,.build T parts,ty,pos,after,none⟩::l) env H :=
  ar_buildS ht hk hs hz hv hb hd rfl (h _ rfl)
structure Nrm (a b:List V):Prop where
  eq:a=b
theorem zbt {r:Option Nat}{m nt i dst:Nat}{Q:Post}{env:Env}{H:Heap}{ops:Array Oper}{l:List Stp}{ty T:TypeId}{pos:String}{after:Array Edge}{d:TyD}{parts:Array (Nat × Operand)}{fs:List (TypeId × Nat)}{ns:List Nat}{vs:List (Nat × V)}{ds0:List V}{ds:List V}(h:AR Tryz.prog r m nt ops Q l ((dst,.agg ds)::env) H) (ht:TyIs Tryz.prog T d:=by exact ty rfl) (hk:d.tk=.struct fs:=by exact rfl) (hs:SizesAre Tryz.prog fs ns:=by exact sizes rfl) (hz:(constV d.zero).ok=true:=by exact rfl) (hv:parts.toList.mapM (fun p=>(eo env p.2).map fun v=>(p.1,v))=some vs:=by exact rfl) (hb:BuildR (fun k=>(List.zip (fs.map (·.2)) ns)[k]?) (constV d.zero).cells vs ds0:=by exact build rfl) (hn:Nrm ds0 ds:=by ((try dsimp only [List.toList_toArray,cells_s,cells_emp,cells_agg,cells_list,cells_sl,cells_ptr,cells_ref,cells_fn,cells_vi,cells_vb,cells_vnil,constV,List.map_cons,List.map_nil,List.take_succ_cons,List.take_zero,List.drop_succ_cons,List.drop_zero,List.cons_append,List.nil_append,List.append_nil,LV_cells]);(try dsimp only [cells_s,cells_emp,cells_agg,cells_list,cells_sl,cells_ptr,cells_ref,cells_fn,cells_vi,cells_vb,cells_vnil,constV,List.map_cons,List.map_nil,List.take_succ_cons,List.take_zero,List.drop_succ_cons,List.drop_zero,List.cons_append,List.nil_append,List.append_nil,LV_cells]);exact ⟨rfl⟩)) (hd:dst<nt:=by exact dc rfl):AR Tryz.prog r m nt ops Q (.q i ⟨some dst,.build T parts,ty,pos,after,none⟩::l) env H:=ar_buildT (fun _ hds=>by subst hds;have e:=hn.eq;subst e;exact h) ht hk hs hz hv hb hd
section
variable {H:Heap}{σ:List (Option Nat)}{fr:Nat→Prop}
def VSubsL (H:Heap) (σ:List (Option Nat)) (fr:Nat→Prop):List V→List V→Prop
  | [],[]=>True
  | v::l,x::m=>VSub H σ fr v x∧VSubsL H σ fr l m
  | _,_=>False
theorem vsubsL_len:∀ {l m:List V},VSubsL H σ fr l m→l.length=m.length
  | [],[],_=>rfl
  | _::l,_::m,h=>by simp [vsubsL_len (l:=l) (m:=m) h.2]
  | [],_::_,h=>h.elim
  | _::_,[],h=>h.elim
theorem vsubsL_get:∀ {l m:List V},VSubsL H σ fr l m→∀ (j:Nat) v x,l[j]?=some v→m[j]?=some x→VSub H σ fr v x
  | [],[],_,j,v,x,h,_=>by simp at h
  | a::l,b::m,h,j,v,x,h1,h2=>by
    cases j with
    | zero=>simp at h1 h2;subst h1 h2;exact h.1
    | succ j=>exact vsubsL_get h.2 j v x (by simpa using h1) (by simpa using h2)
  | [],_::_,h,_,_,_,_,_=>h.elim
  | _::_,[],h,_,_,_,_,_=>h.elim
theorem VSub.aggL {cs ds:List V}(h:VSubsL H σ fr cs ds):VSub H σ fr (.agg cs) (.agg ds):=.agg (vsubsL_len h) (vsubsL_get h)
theorem VSub.tupL {cs ds:List V}(h:VSubsL H σ fr cs ds):VSub H σ fr (.tup cs) (.tup ds):=.tup (vsubsL_len h) (vsubsL_get h)
theorem bsub_mapE {α:Type}{k b:Nat}{e:α→V}{l:List (Int × α)}(h:σ[k]?=some (some b)) (hb:H[b]?=some (mapE e l)) (hc:∀ y,(e y).closed=true):BSub H σ fr k (mapE e l) :=
  ⟨b,_,h,hb,rfl,fun i x y hx hy=>by
    rw [hx] at hy
    cases hy
    refine ⟨rfl,.closed ?_⟩
    simp only [entsE,List.getElem?_map,Option.map_eq_some_iff] at hx
    obtain ⟨p,_,rfl⟩:=hx
    exact hc _⟩
theorem vza {H:Heap}{σ:List (Option Nat)}{fr:Nat→Prop}{cs ds:List V}(h:VSubsL H σ fr cs ds:=by ((repeat' (first|exact trivial|refine ⟨?_,?_⟩|exact vz1|fail));first|done|fail)):VSub H σ fr (.agg cs) (.agg ds):=VSub.aggL h
theorem vzt {H:Heap}{σ:List (Option Nat)}{fr:Nat→Prop}{cs ds:List V}(h:VSubsL H σ fr cs ds:=by ((repeat' (first|exact trivial|refine ⟨?_,?_⟩|exact vz1|exact vza|fail));first|done|fail)):VSub H σ fr (.tup cs) (.tup ds):=VSub.tupL h
theorem zsc {m nt:Nat}{env env0:Env}{H H0:Heap}(σ:List (Option Nat)) (fr:List Nat) (h:(Nat.beq σ.length H0.length&&preB m σ&&injB σ&&apartB fr σ)=true:=by exact rfl) (he:EnvSub H σ (·∈fr) env env0:=by ((repeat' (first|exact trivial|refine ⟨⟨_,rfl,?_⟩,?_⟩|refine vs1 ?_ ?_|refine vs2 ?_ ?_|refine vs3 ?_|refine vs4 ?_ ?_|refine ⟨.inl ⟨_,_,rfl,rfl,?_⟩,?_⟩|exact ⟨.inr ⟨rfl,rfl⟩,trivial⟩|refine ⟨.inr ⟨rfl,rfl⟩,?_⟩|(intro _ _)|exact vz1|refine ⟨trivial,?_⟩|refine ⟨bsub_mapE rfl rfl (fun _=>rfl),?_⟩|exact vza|exact vzt|exact vz2|fail));first|done|fail)) (hh:HSub H σ (·∈fr) 0 H0:=by ((repeat' (first|exact trivial|refine ⟨⟨_,rfl,?_⟩,?_⟩|refine vs1 ?_ ?_|refine vs2 ?_ ?_|refine vs3 ?_|refine vs4 ?_ ?_|refine ⟨.inl ⟨_,_,rfl,rfl,?_⟩,?_⟩|exact ⟨.inr ⟨rfl,rfl⟩,trivial⟩|refine ⟨.inr ⟨rfl,rfl⟩,?_⟩|(intro _ _)|exact vz1|refine ⟨trivial,?_⟩|refine ⟨bsub_mapE rfl rfl (fun _=>rfl),?_⟩|exact vza|exact vzt|exact vz2|fail));first|done|fail)):SubOf m nt env H env0 H0:=sub_to σ fr h he hh
theorem bsub_mapE' {α:Type}{k b:Nat}{e:α→V}{l l':List (Int × α)}(h:σ[k]?=some (some b)) (hb:H[b]?=some (mapE e l)) (hl:l'=l) (hc:∀ y,(e y).closed=true):BSub H σ fr k (mapE e l'):=by
  subst hl
  exact bsub_mapE h hb hc
theorem joinAt_nil {r:Nat→Nat}{H1:Heap}:∀ {H:Heap}{k:Nat},joinAt [] [] r H1 k H=H
  | [],_=>rfl
  | b::l,k=>by
    simp only [joinAt,joinAt_nil (H:=l)]
    rfl
theorem joinH_nil {H H1:Heap}:joinH [] [] H H1=H++H1.map (Blk.ren (rn [] H.length)):=by
  unfold joinH
  rw [joinAt_nil]
  rfl
end
section
variable {P:Program}{r:Option Nat}{m nt:Nat}{Q:Post}{env:Env}{H:Heap}{ops:Array Oper}{l:List Stp}{ty:TypeId}{pos:String}{after:Array Edge}
theorem ar_gcall0 {i d:Nat}{fo:Operand}{args:List Operand}{ats:Array TypeId}{f:FuncId}{first cap vs:List V}{R Rp:V→Heap→Prop}(hfn:FnOk P f) (hf:eo env fo=some (.fn (.func f) first cap)) (hargs:args.mapM (eo env)=some vs)
    (xs:List V) (ha:ArgsSub H [] [] (first++vs++cap) xs) (h:ACalls P f xs [] R Rp) (hd:d<nt)
    (hk:∀ v1 H1,R v1 H1→AR P r m nt ops Q l ((d,v1.ren (rn [] H.length))::env) (H++H1.map (Blk.ren (rn [] H.length)))) (hp:∀ v1 H1,Rp v1 H1→Q (.panic (v1.ren (rn [] H.length))) [] (H++H1.map (Blk.ren (rn [] H.length)))) :
    AR P r m nt ops Q (.l i ⟨some d,.call ⟨.value fo,args.toArray,ats⟩,ty,pos,after,none⟩ false::l) env H :=
  ar_gcall (H0:=[]) [] [] hfn hf hargs ha rfl List.nodup_nil (fun _ h=>by cases h) trivial (fun _ h=>by cases h) h hd (fun v1 H1 hR=>by rw [joinH_nil];exact hk v1 H1 hR) (fun v1 H1 hR=>by rw [joinH_nil];exact hp v1 H1 hR)
end
section
variable {P:Program}{r:Option Nat}{m nt:Nat}{Q:Post}{env:Env}{H:Heap}{ops:Array Oper}{l:List Stp}{ty:TypeId}{pos:String}{after:Array Edge}{T:TypeId}{d:TyD}{x:Operand}{v:V}{dst:Option Tmp}{guard:Option (Nat × Bool)}{keep:Bool}
theorem qs_makeInterface {k:IntKind}(ht:TyIs P T d) (hk:d.tk=.int k) (hx:eo env x=some v):QS P nt env H ⟨dst,.makeInterface T x,ty,pos,after,guard⟩ (.iface T v):=.mk
  fun _ I ρ a w h _=>⟨_,.iface (eo_rel h hx),fun w' _=>by simp [execOp,Instr.makeInterface,run_underlying (ht.intk hk)]⟩
theorem ls_panic {t:TypeId}(hx:eo env x=some (.iface t v)):LS P r m nt keep env H ⟨none,.panic x,ty,pos,after,guard⟩ (fun _ _=>False) (fun u H'=>u=.iface t v∧H'=H):=.mk
  fun X I ρ a w next Qx hX hs hk hp=>by
    have h1:=eo_rel hs.1 hx
    cases h1':a.eval x<;>rw [h1'] at h1<;>cases h1
    rename_i u hu
    have hr:∀ w,(Instr.panic (.iface t u)).run P w=.halt (.panic (.iface t u)) w:=fun _=>rfl
    refine wpIn_of_run (res:=.halt (.panic (.iface t u)) w) (by simp) (by simp [execOp,h1',hr]) ?_
    exact hp I ρ H _ _ w ⟨rfl,rfl⟩ (Imm.le_refl _) hs.2.1 (.iface hu)
theorem ar_panic {i:Nat}{t:TypeId}(hx:eo env x=some (.iface t v)) (h:Q (.panic (.iface t v)) [] H):AR P r m nt ops Q (.l i ⟨none,.panic x,ty,pos,after,none⟩ keep::l) env H :=
  ar_l0 (ls_panic hx) (fun _ _ h=>h.elim) (fun u H' ⟨a,b⟩=>by subst a;subst b;exact h)
end
def subQ (m nt:Nat) (Q:Post):Post
  | .panic v,env,H=>Q (.panic v) env H
  | .normal,env,H=>∃ env' H',SubOf m nt env H env' H'∧Q .normal env' H'
  | .ret,env,H=>∃ env' H',SubOf m nt env H env' H'∧Q .ret env' H'
  | .exit k,env,H=>Q (.exit k) env H
  | .goto k,env,H=>Q (.goto k) env H
section
variable {P:Program}{r:Option Nat}{m nt:Nat}{Q:Post}{env env':Env}{H H':Heap}
theorem aw_post {c:Code}(h:AW P r m nt c (subQ m nt Q) env H):AW P r m nt c Q env H:=.mk fun X I ρ a w hX hs=>by
  refine wpIn_mono (h.1 X I ρ a w hX hs) fun e a' w' hl=>?_
  cases e with
  | normal =>
    obtain ⟨env1,H1,I1,ρ1,h1,env2,H2,h2,h3⟩:=hl
    obtain ⟨I2,ρ2,_,h4⟩:=h2.1 X I1 ρ1 a' w' hX h1
    exact ⟨env2,H2,I2,ρ2,h4,h3⟩
  | ret =>
    obtain ⟨env1,H1,I1,ρ1,h1,env2,H2,h2,h3⟩:=hl
    obtain ⟨I2,ρ2,_,h4⟩:=h2.1 X I1 ρ1 a' w' hX h1
    exact ⟨env2,H2,I2,ρ2,h4,h3⟩
  | exit k=>exact hl
  | goto k=>exact hl
  | panic ch=>exact hl
  | outgrown=>exact hl
theorem subq_n (env':Env) (H':Heap) (h:SubOf m nt env H env' H') (k:Q .normal env' H'):subQ m nt Q .normal env H:=⟨_,_,h,k⟩
theorem subq_r (env':Env) (H':Heap) (h:SubOf m nt env H env' H') (k:Q .ret env' H'):subQ m nt Q .ret env H:=⟨_,_,h,k⟩
end
section
variable {P:Program}{r:Option Nat}{m nt:Nat}{Q:Post}{env:Env}{H:Heap}{ops:Array Oper}{l:List Stp}{ty:TypeId}{pos:String}{after:Array Edge}{x y:Operand}{T T2 E:TypeId}{d de:TyD}{dst:Option Tmp}{guard:Option (Nat × Bool)}
theorem run_copy_rowN {w:World}{ii:TypeInfo}{cb o n c k cap:Nat}{ad:Addr}{cs:Array Value}{t:TypeId}{news:List Value}(hu:P.underlying T=some (.slice E)) (hi:P.info? E=some ii) (hg:w.heap[cb]?=some (.cells cs t (0,0))) (hn:news.length=Nat.min k n*ii.size)
    (hsrc:∀ j v,news[j]?=some v→w.cell? (ad.add j)=some v) (hfit:o+news.length≤cs.size) (h1:∀ v∈news,v.oneCell'=true) :
    (Builtin.copy_ #[T,T2] ty #[.slice (some ⟨cb,o,none⟩) n c,.slice (some ad) k cap]).run P w=.ok (goInt (Nat.min k n)) (w.setRow cb (cs.toList.take o++news++cs.toList.drop (o+news.length)).toArray):=by
  have hl:=run_firstCells_some (P:=P) w ii.size (Nat.min k n) ad k cap news hn hsrc
  have hst:=run_storeCells_at P cb o t news 0 cs w hg (by simpa using hfit) h1
  simp only [Nat.add_zero] at hst
  simp [Builtin.copy_,run_underlying hu,Builtin.lenOf,sizeOf,typeInfo,hi,hl,hst]
theorem run_copy_noneN {w:World}{ii:TypeInfo}{A B:Option Addr}{n c k cap:Nat}(hu:P.underlying T=some (.slice E)) (hi:P.info? E=some ii) (hn:Nat.min k n=0) :
    (Builtin.copy_ #[T,T2] ty #[.slice A n c,.slice B k cap]).run P w=.ok (goInt 0) w:=by
  have h:=firstCells_run (P:=P) (w:=w) (size:=ii.size) (k:=0) (cap:=cap) (A:=B) (news:=[]) (by simp) (fun h=>by omega)
  have h':(Builtin.firstCells ii.size 0 (.slice B k cap)).run P w=.ok #[] w:=by cases B<;>simp [Builtin.firstCells,loadCells,loadCellsFrom]
  cases A<;>simp [Builtin.copy_,run_underlying hu,Builtin.lenOf,sizeOf,typeInfo,hi,hn,h',storeCells]
theorem ls_copyN {yv:V}{sz b i n N k:Nat}{f g:Nat→V}(ht:TyIs P T d) (hk:d.tk=.slice E) (he:TyIs P E de) (hs1:de.size=sz) (hx:eo env x=some (.sl sz b i n)) (hH:H[b]?=some (.arr sz N f)) (hN:i+n≤N) (hy:eo env y=some yv) (hs:Src H yv sz k g)
    (hone:∀ j,j<k→(g j).cells.all V.one=true) :
    LS P r m nt false env H ⟨dst,.call ⟨.builtin .copy,#[x,y],#[T,T2]⟩,ty,pos,after,guard⟩ (fun u H'=>u=vi (Nat.min k n)∧H'=H.set b (.arr sz N (copyF f i (Nat.min k n) g))) NoP:=.mk
  fun X I ρ a w next Qx hX hS hK hp=>by
    obtain ⟨hE,hw,hdf⟩:=hS
    have hu:=eo_rel hE hx
    have hv:=eo_rel hE hy
    obtain ⟨ii,hi,hsz,hby,hz0⟩:=he.inf
    obtain ⟨B,cap,news,ey,hnl,hnc,hgsz,hgr⟩:=src_cells hw hs hv
    have hex:∀ {res:Value} {w':World},(Builtin.copy_ #[T,T2] ty #[a.eval x,a.eval y]).run P w=.ok res w'→(execOp a.eval ⟨dst,.call ⟨.builtin .copy,#[x,y],#[T,T2]⟩,ty,pos,after,guard⟩).run P w=.ok (.value res) w':=fun h=>by
      simp [execOp,resolve,invoke,builtin,h]
    by_cases h0:Nat.min k n=0
    · have hset:H.set b (.arr sz N (copyF f i (Nat.min k n) g))=H:=by
        rw [h0,show copyF f i 0 g=f from funext fun j=>copyF_out (by omega)]
        obtain ⟨hb,e⟩:=List.getElem?_eq_some_iff.1 hH
        rw [← e,List.set_getElem_self]
      obtain ⟨A,c,ex⟩:∃ A c,a.eval x=.slice A n c:=by
        rcases hu.sl_inv with ⟨cb,z,c,e,_⟩|⟨A,e,_,_,rfl⟩
        · exact ⟨_,_,e⟩
        · exact ⟨_,_,e⟩
      have hr:=run_copy_noneN (P:=P) (w:=w) (ty:=ty) (T2:=T2) (A:=A) (B:=B) (c:=c) (cap:=cap) (ht.slice hk) hi h0
      rw [← ex,← ey] at hr
      refine wpIn_of_run (by simp) (hex hr) ?_
      exact hK I ρ _ (vi 0) _ _ ⟨by rw [h0];rfl,rfl⟩ (Imm.le_refl _) (Pre.refl _) (by rw [hset];exact hw) (.s _) (by simp)
    · rcases hu.sl_inv with ⟨cb,z,c,ex,hb,hnc',hcm,hz'⟩|⟨A,_,_,_,rfl⟩
      · have hk0:0<k:=by have:Nat.min k n≤k:=Nat.min_le_left _ _;omega
        have hmk:Nat.min k n≤k:=Nat.min_le_left _ _
        have hmn:Nat.min k n≤n:=Nat.min_le_right _ _
        obtain ⟨ad,rfl,hspot,hcell⟩:=hnc hk0
        obtain ⟨cs,t,hcs,hz,hn,hr⟩:=hw.arr _ _ _ _ _ _ hH hb
        have hgl:=hw.size _ _ _ _ hH
        generalize hM:Nat.min k n=M at *
        have hMk:M*sz≤k*sz:=Nat.mul_le_mul_right _ hmk
        have hcl:(news.take (M*sz)).length=M*sz:=by rw [List.length_take];omega
        have hiM:(i+M)*sz≤N*sz:=Nat.mul_le_mul_right _ (by omega)
        rw [Nat.add_mul] at hiM
        have hones:∀ u∈news.take (M*sz),u.oneCell'=true:=fun u hu=>by
          obtain ⟨t,hlt,rfl⟩:=List.getElem_of_mem hu
          rw [hcl] at hlt
          have hpos:0<sz:=by rcases Nat.eq_zero_or_pos sz with h|h;subst h;simp at hlt;exact h
          have hi1:t/sz<M:=(Nat.div_lt_iff_lt_mul hpos).2 hlt
          have hj1:=Nat.mod_lt t hpos
          have e:=Nat.div_add_mod' t sz
          obtain ⟨q,h1,h2⟩:=hgr (t/sz) (t % sz) ((g (t/sz)).cells[t % sz]'(by rw [hgsz _ (by omega)];exact hj1)) (by omega) (by simp [hgsz _ (show t/sz<k by omega),hj1])
          rw [e] at h1
          have:(news.take (M*sz))[t]=q:=by
            rw [List.getElem_take]
            rw [List.getElem?_eq_getElem (by rw [hnl];omega)] at h1
            exact Option.some.inj h1
          rw [this]
          exact h2.one (List.all_eq_true.1 (hone _ (by omega)) _ (List.getElem_mem _))
        have hfit:i*sz+(news.take (M*sz)).length≤cs.size:=by rw [hcl];omega
        have hrun:=run_copy_rowN (P:=P) (w:=w) (ty:=ty) (T2:=T2) (n:=n) (c:=c) (k:=k) (cap:=cap) (o:=i*sz) (ad:=ad) (news:=news.take (M*sz)) (ht.slice hk) hi hcs (by rw [hcl,hM,hsz,hs1]) (fun j v hj=>by
          refine hcell w rfl j v ?_
          rw [List.getElem?_take] at hj
          split at hj
          · exact hj
          · cases hj) hfit hones
        rw [← ex,← ey,hM] at hrun
        refine wpIn_of_run (by simp) (hex hrun) ?_
        obtain ⟨s1,s2,s3⟩:=setRow_facts (new:=(cs.toList.take (i*sz)++news.take (M*sz)++cs.toList.drop (i*sz+(news.take (M*sz)).length)).toArray) hcs
        refine hK I ρ _ _ _ _ ⟨rfl,rfl⟩ (Imm.le_refl _) (Pre.refl _) (hw.write hH hb (by simp;simp at hfit;omega) (fun j hj=>?_) ?_ s1 s2 s3 rfl rfl rfl) (.s _) (by simp)
        · by_cases h1:i≤j∧j<i+M
          · rw [copyF_in h1.1 h1.2];exact hgsz _ (by omega)
          · rw [copyF_out (by omega)];exact hgl j hj
        · intro j q v hj hv
          simp only [List.getElem?_toArray]
          rw [splice_get (by simpa using hfit),hcl]
          by_cases h1:i≤j∧j<i+M
          · rw [copyF_in h1.1 h1.2] at hv
            have hq:q<sz:=by have:=(List.getElem?_eq_some_iff.1 hv).1;rw [hgsz _ (by omega)] at this;exact this
            obtain ⟨u,h2,h4⟩:=hgr (j-i) q v (by omega) hv
            have e1:j*sz=i*sz+(j-i)*sz:=by rw [← Nat.add_mul];congr 1;omega
            have e2:(j-i)*sz+sz≤M*sz:=by rw [← Nat.succ_mul];exact Nat.mul_le_mul_right _ (by omega)
            refine ⟨u,?_,h4⟩
            rw [if_pos (by omega),List.getElem?_take,if_pos (by omega),← h2]
            congr 1
            omega
          · rw [copyF_out (by omega)] at hv
            have hq:q<sz:=by have:=(List.getElem?_eq_some_iff.1 hv).1;rw [hgl j hj] at this;exact this
            obtain ⟨u,h2,h3⟩:=hr j q v hj hv
            refine ⟨u,?_,h3⟩
            rw [if_neg ?_]
            · simpa using h2
            · rintro ⟨h4,h5⟩
              rcases Nat.lt_or_ge j i with h6|h6
              · have:j*sz+sz≤i*sz:=by rw [← Nat.succ_mul];exact Nat.mul_le_mul_right _ h6
                omega
              · have:(i+M)*sz≤j*sz:=Nat.mul_le_mul_right _ (by omega)
                rw [Nat.add_mul] at this
                omega
      · exact (h0 (by simp)).elim
theorem ar_copyN {yv:V}{sz b i n N k e:Nat}{f g:Nat→V}{j:Nat}(ht:TyIs P T d) (hk:d.tk=.slice E) (he:TyIs P E de) (hs1:de.size=sz) (hx:eo env x=some (.sl sz b i n)) (hH:H[b]?=some (.arr sz N f)) (hN:i+n≤N) (hy:eo env y=some yv) (hs:Src H yv sz k g)
    (hone:∀ j,j<k→(g j).cells.all V.one=true) (hd:e<nt) (h:AR P r m nt ops Q l ((e,vi (Nat.min k n))::env) (H.set b (.arr sz N (copyF f i (Nat.min k n) g)))) :
    AR P r m nt ops Q (.l j ⟨some e,.call ⟨.builtin .copy,#[x,y],#[T,T2]⟩,ty,pos,after,none⟩ false::l) env H :=
  ar_l (ls_copyN ht hk he hs1 hx hH hN hy hs hone) hd (fun v H' ⟨a,b⟩=>by subst a;subst b;exact h) (fun _ _ h=>h.elim)
end
end Go.Proofs.YtbilpbabdgfblaaGreat
