/- Parts of the proof: contracts of functions. No condition. -/
import Derived.Test.YtloaefllpokkaaaGreatKPt18
set_option maxHeartbeats 16000000
set_option linter.unusedSimpArgs false
set_option linter.unusedVariables false
namespace Go.Proofs.YtloaefllpokkaaaGreat
open Go.RowKit
theorem hse0_small {per life:Int}:HSmall (hse0 per life):=by
  unfold HSmall hse0
  simp
theorem hse0_st {per life:Int}:StOk (hse0 per life).store:=fun j hj=>by simp [hse0] at hj
theorem bq3h {F:Hse}{x e:Int}{R Rp:V→Heap→Prop}{L:Heap}(hR:R (.tup [F.enc,vi x,vi e]) (.arr 10 1 (fun _=>F.enc)::L)):BodyQ Tryz.prog #[.cell 6 41,.tmp 7,.tmp 8] R Rp .ret [(6,.ptr 10 0 0 0),(7,vi x),(8,vi e)] (.arr 10 1 (fun _=>F.enc)::L) :=
  bq3c (f:=fun _=>F.enc) (v:=F.enc) (ty rfl) rfl rfl Nat.one_pos rfl rfl rfl hR
theorem hplayR_bad {per life:Int}{bk:List Job}{x e:Int}(h:hplayX per life bk=(x,e)) (he:e≠0):V.tup [noHse.enc,vi x,vi e]=.tup [(hplayF per life bk).enc,vi (hplayX per life bk).1,vi (hplayX per life bk).2]:=by rw [hplayF_bad (by rw [h];exact he),h]
theorem hplayR_ok {per life:Int}{bk:List Job}(h:hplayX per life bk=(0,0)):V.tup [(hAt per life bk bk.length).enc,vi 0,vi 0]=.tup [(hplayF per life bk).enc,vi (hplayX per life bk).1,vi (hplayX per life bk).2]:=by rw [hplayF_ok (by rw [h]),h]
theorem hPlay_p (per life:Int) (bk:List Job) (hu:∀ j,j<bk.length→u8ok (el bk j).kind∧u8ok (el bk j).act.kind):PCalls Tryz.prog 7 [vi per,vi life,encJobs bk] (·=.tup [(hplayF per life bk).enc,vi (hplayX per life bk).1,vi (hplayX per life bk).2]):=by
  refine pcalls_of_aw Tryz.func7 rfl (dc rfl) ?_
  (repeat' (first|(refine ar_isq ?_;refine zq ?_)|(refine zbt ?_)|((refine ar_gcall0 fn18 rfl rfl [(hse0 per life).enc] ⟨.aggL ⟨.closed rfl,.closed rfl,.closed rfl,.nilList,.nilList,.nilList,.nilList,.nilList,.nilList,.nilList,trivial⟩,trivial⟩ (hvalid_p (hse0 per life) hse0_small hse0_st) (dc rfl) ?_ (fun _ _ h=>h.elim);rintro _ _ (⟨hv,rfl,m0,ht0,rfl⟩|⟨hv,rfl,rfl⟩)<;>(try rw [shoB_ren])))|refine zst ?_|refine zco ?_ ?_|exact zd|(refine fun (hg:(_:Prop))=>?_;(try replace hg:=HG.out hg);(try dsimp only at hg);(try (have _h:True:=hg;clear _h hg)))))
  · (refine aw_mono_r (env':=[(6,.ptr 10 0 0 0),(7,vi 0),(8,vi 4)]) (H':=[.arr 10 1 (fun _=>noHse.enc)]) ?_ ?_;(focus (exact zsc [some 0] [])))
    refine aw_ret ?_;(repeat (first|refine ret_then ?_|refine ret_block ?_));exact bq3h ⟨hplayR_bad (hplayX_many (by omega)) (by decide),rfl⟩
  · have hl:=hvalid0.1 hv
    have hn:¬ 200<bk.length:=by omega
    refine aw_forE bk.length (fun k m=>(∀ q,q<k→hErrAt per life bk q=0)∧TalOk (hAt per life bk k) m) (fun k=>[(6,.ptr 10 9 0 0),(9,.ptr 11 0 0 0),(29,encJobs bk),(30,vi bk.length),(31,vi k)]) (fun k m=>[.arr 11 1 (fun _=>shoV 1 2 3 4 5 6 7 8 (hAt per life bk k)),LB 5 Itm.enc (hAt per life bk k).store.items,LB 2 Prt.enc (hAt per life bk k).store.prints,LB 7 Dsn.enc (hAt per life bk k).designs,LB 4 Lic.enc (hAt per life bk k).lics,LB 4 Ordr.enc (hAt per life bk k).orders,LB 1 vi (hAt per life bk k).made,LB 1 vi (hAt per life bk k).fors,mapE Tal.enc m,.arr 10 1 (fun _=>noHv)]) m0 ⟨fun q hq=>by omega,ht0⟩ ?_ ?_
    · (exact zsc [some 1,some 2,some 3,some 4,some 5,some 6,some 7,some 8,some 9,some 0] [])
    rintro k m hk2 ⟨hb,ht⟩
    have hV:HValid (hAt per life bk k):=hAt_ok hv hb
    by_cases hlt:k<bk.length
    · (repeat' (first|(refine ar_isq ?_;refine zq ?_)|refine zil (j:=k) ?_|refine zis (j:=k) ?_|refine zit (j:=k) ?_|(refine zbt ?_)|((refine ar_hdo (hAt per life bk k) m (el bk k) (hu k hlt).1 (hu k hlt).2 hV ht (fun he m' ht'=>?_) (fun he=>?_)<;>(try (unfold shoF;dsimp only [List.length_cons,List.length_nil,List.cons_append,List.nil_append]))))|refine zst ?_|refine zco ?_ ?_|exact zd|(refine fun (hg:(_:Prop))=>?_;(try replace hg:=HG.out hg);(try dsimp only at hg);(try (have _h:True:=hg;clear _h hg)))))
      · refine (show k<bk.length∧∃ m1,((∀ q,q<k+1→hErrAt per life bk q=0)∧TalOk (hAt per life bk (k+1)) m1)∧SubOf _ _ _ _ _ _ from ⟨hlt,m',⟨fun q hq=>?_,ht'⟩,?_⟩)
        · rcases Nat.lt_succ_iff_lt_or_eq.1 hq with h|rfl
          · exact hb q h
          · exact he
        · (exact zsl [some 0,some 11,some 12,some 13,some 14,some 15,some 16,some 17,some 8,some 9] [])
      · (refine aw_mono_r (env':=[(6,.ptr 10 0 0 0),(7,vi k),(8,vi (hErrAt per life bk k))]) (H':=[.arr 10 1 (fun _=>noHse.enc)]) ?_ ?_;(focus (exact zsc [some 9] [])))
        refine aw_ret ?_;(repeat (first|refine ret_then ?_|refine ret_block ?_));exact bq3h ⟨hplayR_bad (hplayX_bad hn hl hb hlt he) he,rfl⟩
    · obtain rfl:k=bk.length:=by omega
      (repeat' (first|(refine ar_isq ?_;refine zq ?_)|(refine zbt ?_)|refine zst ?_|refine zco ?_ ?_|exact zd|(refine fun (hg:(_:Prop))=>?_;(try replace hg:=HG.out hg);(try dsimp only at hg);(try (have _h:True:=hg;clear _h hg)))))
      (refine aw_mono_r (env':=[(6,.ptr 10 0 0 0),(7,vi 0),(8,vi 0)]) (H':=[.arr 10 1 (fun _=>(hAt per life bk bk.length).enc)]) ?_ ?_;(focus (exact zsc [some 9] [1,2,3,4,5,6,7])))
      refine aw_ret ?_;(repeat (first|refine ret_then ?_|refine ret_block ?_));exact bq3h ⟨hplayR_ok (hplayX_ok hn hl hb),rfl⟩
  · (refine aw_mono_r (env':=[(6,.ptr 10 0 0 0),(7,vi 0),(8,vi 2)]) (H':=[.arr 10 1 (fun _=>noHse.enc)]) ?_ ?_;(focus (exact zsc [some 0] [])))
    refine aw_ret ?_;(repeat (first|refine ret_then ?_|refine ret_block ?_));exact bq3h ⟨hplayR_bad (hplayX_arg (by omega) (fun h=>hv (hvalid0.2 h))) (by decide),rfl⟩
section
variable {P:Program}{nt:Nat}{env:Env}{H:Heap}{dst:Option Tmp}{ty T T' E:TypeId}{pos:String}{after:Array Edge}{guard:Option (Nat × Bool)}{x y:Operand}{d de:TyD}
theorem TyIs.cellsE (h:TyIs P E de):P.cellsOf E=de.size:=by
  obtain ⟨i,hi,hs,_⟩:=h.inf
  unfold Program.cellsOf
  rw [hi]
  exact hs
theorem boolsOf_at {l:List Bool}{i:Nat}(h:i<l.length):(l.map vb)[i]?=some (.s (.bool (el l i))):=by
  rw [List.getElem?_map,List.getElem?_eq_getElem h]
  simp [el,h,vb,constV]
theorem eqItems_bools {I:Imm}{ρ:List (Option (Nat × Nat))}{l1 l2:List Bool}{us vs:Array Value}(he:TyIs P E de) (hk:de.tk=.bool) (hs:de.size=1) (h1:us.size=(l1.map vb).length) (hr:∀ (j:Nat) x u,(l1.map vb)[j]?=some x→us[j]?=some u→VRel I ρ x u)
    (h2:vs.size=(l2.map vb).length) (hr2:∀ (j:Nat) x u,(l2.map vb)[j]?=some x→vs[j]?=some u→VRel I ρ x u) (e:Nat) (w:World):∀ is:List Nat,(∀ i,i∈is→i<l1.length∧i<l2.length)→(Op.eqItems (e+1) E 1 us vs is).run P w=.ok (is.all fun i=>el l1 i==el l2 i) w
  | [],_=>by simp [Op.eqItems]
  | i::is,hi=>by
    have ih:=eqItems_bools he hk hs h1 hr h2 hr2 e w is fun j hj=>hi j (by simp [hj])
    obtain ⟨a1,a2⟩:=hi i (by simp)
    have p1:=part1_run (I:=I) (ρ:=ρ) he (by rw [hk];rfl) hs h1 hr (boolsOf_at a1) w
    have p2:=part1_run (I:=I) (ρ:=ρ) he (by rw [hk];rfl) hs h2 hr2 (boolsOf_at a2) w
    simp only [Op.eqItems,Nat.mul_one,Sem.run_bind,p1,p2,Result.andThen_ok,run_equalIn_bool w e _ _ _ (he.boolk hk),List.all_cons]
    cases hb:(el l1 i==el l2 i)
    · simp
    · simpa using ih
theorem all_elB {l1 l2:List Bool}{n:Nat}(h1:l1.length=n) (h2:l2.length=n):((List.range n).all fun i=>el l1 i==el l2 i)=decide (l1=l2):=by
  have:(((List.range n).all fun i=>el l1 i==el l2 i)=true)↔l1=l2:=by
    rw [List.all_eq_true]
    constructor
    · intro h
      refine List.ext_getElem (by omega) fun i a b=>?_
      have:=h i (List.mem_range.2 (by omega))
      simpa [el,a,b] using this
    · rintro rfl i _
      simp
  by_cases e:l1=l2
  · rw [decide_eq_true e,this.2 e]
  · rw [decide_eq_false e]
    cases hb:((List.range n).all fun i=>el l1 i==el l2 i) with
    | false=>rfl
    | true=>exact (e (this.1 hb)).elim
theorem qs_eqnil0 (ht:TyIs P T d) (hk:d.tk=.slice E) (hx:eo env x=some (.s (.slice none 0 0))) (hy:eo env y=some (.s (.slice none 0 0))):QS P nt env H ⟨dst,.binOp .eql T x y T',ty,pos,after,guard⟩ (.s (.bool true)):=.mk
  fun _ I ρ a w h hw=>⟨_,.s _,fun w' _=>by simp [execOp,sval h hx,sval h hy,eqGuard,binOp,run_equal_slice_nil w' T E none 0 0 (ht.slice hk)]⟩
theorem qs_eqnil1 {sz b i n:Nat}(hn:n≠0) (ht:TyIs P T d) (hk:d.tk=.slice E) (hx:eo env x=some (.sl sz b i n)) (hy:eo env y=some (.s (.slice none 0 0))):QS P nt env H ⟨dst,.binOp .eql T x y T',ty,pos,after,guard⟩ (.s (.bool false)):=.mk
  fun _ I ρ a w h hw=>by
    rcases (eo_rel h hx).sl_inv with ⟨cb,z,c,h1,_⟩|⟨A,_,_,_,h0⟩
    · exact ⟨_,.s _,fun w' _=>by simp [execOp,h1,sval h hy,eqGuard,binOp,run_equal_slice_nil w' T E (some ⟨cb,i*sz,none⟩) n c (ht.slice hk)]⟩
    · exact absurd h0 hn
theorem qs_arrB {l1 l2:List Bool}{n:Nat}(ht:TyIs P T d) (hk:d.tk=.array n E) (he:TyIs P E de) (heb:de.tk=.bool) (hes:de.size=1) (hg:P.eqGuardType P.depth T=false) (hx:eo env x=some (.agg (l1.map vb))) (hy:eo env y=some (.agg (l2.map vb))) (h1:l1.length=n) (h2:l2.length=n) :
    QS P nt env H ⟨dst,.binOp .eql T x y T',ty,pos,after,guard⟩ (.s (.bool (decide (l1=l2)))):=.mk
  fun _ I ρ a w h hw=>by
    obtain ⟨us,e1,g1,hr⟩:=agg_inv (eo_rel h hx)
    obtain ⟨vs,e2,g2,hr2⟩:=agg_inv (eo_rel h hy)
    obtain ⟨i,hi,_⟩:=he.inf
    have key:∀ w',(Op.eqItems (9998+1) E 1 us vs (List.range n)).run P w'=.ok (decide (l1=l2)) w':=fun w'=>by
      rw [eqItems_bools he heb hes g1 hr g2 hr2 9998 w' (List.range n) (fun j hj=>by have:=List.mem_range.1 hj;omega),all_elB h1 h2]
    exact ⟨_,.s _,fun w' _=>by
      simp only [execOp,e1,e2,Sem.run_bind,run_eqGuard_agg w' _ T x y us vs hg,Result.andThen_ok,run_eql_struct,run_equalIn_array w' 9999 us vs (ht.arr hk) hi,he.cellsE,hes,key]
      rfl⟩
end
def NilC:List V→List V→Prop
  | [],[]=>True
  | v::l,x::r=>(v=x∨v=vnil∧∃ sz g,x=.list sz 0 g)∧NilC l r
  | _,_=>False
theorem nilC_at:∀ {cs ds:List V},NilC cs ds→cs.length=ds.length∧∀ (j:Nat) v x,cs[j]?=some v→ds[j]?=some x→v=x∨v=vnil∧∃ sz g,x=.list sz 0 g
  | [],[],_=>⟨rfl,fun j v x h _=>by simp at h⟩
  | v::l,x::r,h=>by
    obtain ⟨h1,h2⟩:=nilC_at h.2
    refine ⟨by simp [h1],fun j a b ha hb=>?_⟩
    cases j with
    | zero=>simp at ha hb;subst ha hb;exact h.1
    | succ j=>exact h2 j a b (by simpa using ha) (by simpa using hb)
  | [],_::_,h=>h.elim
  | _::_,[],h=>h.elim
theorem rel_nilC {I:Imm}{ρ:List (Option (Nat × Nat))}{cs ds:List V}{u:Value}(hn:NilC cs ds) (h:VRel I ρ (.agg cs) u):VRel I ρ (.agg ds) u:=by
  obtain ⟨us,rfl,h1,hr⟩:=agg_inv h
  obtain ⟨h2,h3⟩:=nilC_at hn
  refine .agg (by rw [h1,h2]) fun j x u hx hu=>?_
  have hlt:j<cs.length:=by rw [h2];exact (List.getElem?_eq_some_iff.1 hx).1
  have hc:cs[j]?=some cs[j]:=by simp [hlt]
  have hv:=hr j cs[j] u hc hu
  rcases h3 j cs[j] x hc hx with e|⟨e,sz,g,rfl⟩
  · rw [e] at hv;exact hv
  · rw [e] at hv
    cases hv
    exact .list (us:=fun _ _=>undef) (Nat.le_refl 0) (Nat.zero_le _) (fun h=>absurd h (Nat.lt_irrefl 0)) (fun i h=>absurd h (Nat.not_lt_zero i)) (fun i _ _ h _=>absurd h (Nat.not_lt_zero i))
theorem sub_nilC {m nt t:Nat}{env:Env}{H:Heap}{cs ds:List V}(x:V) (hx:x=.agg ds) (ht:look env t=some (.agg cs)) (hn:NilC cs ds):SubK m nt env H ((t,x)::env) H:=.mk fun X I ρ a w _ hs=>by
  subst hx
  refine ⟨I,ρ,Imm.le_refl I,⟨⟨hs.1.1,fun t' v hv=>?_⟩,hs.2⟩,fun _ h=>h⟩
  rw [look_cons] at hv
  split at hv
  · rename_i e
    subst e
    cases hv
    obtain ⟨h1,h2⟩:=hs.1.2 t _ ht
    exact ⟨h1,rel_nilC hn h2⟩
  · exact hs.1.2 t' v hv
theorem fn1_subL {H:Heap}{σ:List (Option Nat)}{fr:Nat→Prop}{f:Fn}{a a':V}(ha:VSub H σ fr a a'):VSub H σ fr (.fn f [] [a]) (.fn f [] [a']) :=
  .fn rfl (fun j v x h _=>by simp at h) rfl fun j v x h h'=>match j,h,h' with
    | 0,h,h'=>by cases h;cases h';exact ha
    | j+1,h,_=>by simp at h
def catTo (b:List (List Int)) (k:Nat):List Int:=(b.take k).flatten
theorem catTo_succ {b:List (List Int)}{k:Nat}(h:k<b.length):catTo b (k+1)=catTo b k++el b k:=by
  unfold catTo
  rw [List.take_succ_eq_append_getElem h,List.flatten_append,el_eq h]
  simp
theorem catTo_all {b:List (List Int)}{k:Nat}(h:b.length≤k):catTo b k=b.flatten:=by unfold catTo;rw [List.take_of_length_le h]
theorem grow_p (n:Int) (h0:0≤n) (hn:n≤100000):FCalls Tryz.prog 112 [vnil,vi n] 1 (fun k _=>k=0):=by
  refine fcalls_of_aw Tryz.func112 rfl (dc rfl) ?_
  (repeat' (first|(refine ar_isq ?_;refine zq ?_)|refine ar_q (qs_cap_nil (ty rfl) rfl rfl rfl) (dc rfl) ?_|refine ar_q (qs_slice_nil (ty rfl) rfl (ty rfl) rfl rfl) (dc rfl) ?_|refine ar_append_zeros (n:=n.toNat) (ty rfl) rfl Tryz.underlying3 (ty rfl) rfl (by decide) (by decide) rfl rfl (by omega) (by omega) (by omega) (dc rfl) ?_|refine zcl (a:=0) (b:=0) ?_|refine zcs (a:=0) (b:=0) ?_|refine zst ?_|refine zco ?_ ?_|exact zd|(refine fun (hg:(_:Prop))=>?_;(try replace hg:=HG.out hg);(try dsimp only at hg);(try (have _h:True:=hg;clear _h hg)))))
  all_goals first
    | (exfalso;omega)
    | ((refine aw_mono_r (env':=[(4,.sl 1 0 0 0)]) (H':=[.arr 1 0 (fun _=>vnil)]) ?_ ?_;(focus (exact zsb [some 0] [])));refine aw_ret (bq1 rfl ⟨0,_,rfl,rfl,rfl,fun i hi=>by omega⟩))
    | ((refine aw_mono_r (env':=[(4,.sl 1 0 0 0)]) (H':=[.arr 1 0 (fun _=>vnil)]) ?_ ?_;(focus (exact zsb [none] [])));refine aw_ret (bq1 rfl ⟨0,_,rfl,rfl,rfl,fun i hi=>by omega⟩))
end Go.Proofs.YtloaefllpokkaaaGreat
namespace Go.Proofs.YtloaefllpokkaaaGreat
open Go.ChangeShapes Go.WideShapes Go.ChangeAt Go.RowKit Go.Deep
def Sheet.wf (s:Sheet):Prop:=i64ok s.cols∧i64ok s.rows∧i64ok s.weight∧i64ok s.clear∧i64ok s.lean
def Dsn.wf (d:Dsn):Prop:=i64ok d.owner∧d.sheet.wf∧∀ l,l∈d.band→∀ y,y∈l→i64ok y
def Lic.wf (l:Lic):Prop:=i64ok l.design∧i64ok l.client∧i64ok l.til∧i64ok l.left
def Ordr.wf (o:Ordr):Prop:=i64ok o.client∧i64ok o.design∧i64ok o.need
def Hse.wf (h:Hse):Prop:=i64ok h.per∧i64ok h.day∧h.store.wf∧(∀ x,x∈h.designs→x.wf)∧(∀ x,x∈h.lics→x.wf)∧(∀ x,x∈h.orders→x.wf)∧(∀ y,y∈h.made→i64ok y)∧∀ y,y∈h.fors→i64ok y
def Job.wf (j:Job):Prop:=u8ok j.kind∧i64ok j.client∧i64ok j.design∧i64ok j.order∧i64ok j.n∧i64ok j.til∧j.act.wf∧j.sheet.wf∧∀ l,l∈j.band→∀ y,y∈l→i64ok y
end Go.Proofs.YtloaefllpokkaaaGreat
-- old go
namespace Go.Proofs.YtloaefllpokkaaaGreat
open Go.RowKit
def tgT (l:List Prt):Nat→List (Int × Int)
  | 0=>[]
  | k+1=>putE (tgT l k) (el l k).plate (usedP l (el l k).plate k+1)
def tgD (l:List (Int × Int)) (q:Int):Int:=(getE l q).getD 0
theorem tgD_put (l:List (Int × Int)) (a b v:Int):tgD (putE l a v) b=if b=a then v else tgD l b:=by
  unfold tgD
  rw [getE_put]
  split<;>rfl
theorem tgD_eq (l:List Prt) (q:Int):∀ k,tgD (tgT l k) q=usedP l q k
  | 0=>rfl
  | k+1=>by
    rw [tgT,tgD_put]
    by_cases e:q=(el l k).plate
    · subst e
      rw [if_pos rfl,usedP_yes rfl]
    · rw [if_neg e,tgD_eq l q k,usedP_no (fun h=>e h.symm)]
end Go.Proofs.YtloaefllpokkaaaGreat
namespace Go.Proofs.YtloaefllpokkaaaGreat.Im
open Go.RowKit
section
variable {C:Cx Tryz.prog}{nt:Nat}{Q:Post}{env:Env}{H:Heap}{k:Option Nat}{ops:Array Oper}{l:List Stp}{ty:TypeId}{pos:String}{after:Array Edge}{T K E:TypeId}{d dk de:TyD}{x y:Operand}
theorem ar_lookupG {i f b:Nat}{ml:List (Int × Int)}{a c:Int}(hv:tgD ml a=c) (ht:TyIs Tryz.prog T d) (hk:d.tk=.map K E) (hK:TyIs Tryz.prog K dk) (hkk:dk.tk=.int .i64) (hE:TyIs Tryz.prog E de) (hx:eo env x=some (.map b)) (hy:eo env y=some (.s (.int .i64 a))) (hH:H[b]?=some (mapE vi ml)) (hz:constV de.zero=vi 0) (hd:f<nt)
    (h:AR C nt ops Q l ((f,vi c)::env) H k):AR C nt ops Q (.q i ⟨some f,.lookup T x y false,ty,pos,after,none⟩::l) env H k:=by
  subst hv
  refine ar_lookup ht hk hK hkk hE hx hy hH hd (fun v hv=>?_) fun hv=>?_
  · have:tgD ml a=v:=by unfold tgD;rw [hv];rfl
    rw [this] at h
    exact h
  · have:tgD ml a=0:=by unfold tgD;rw [hv];rfl
    rw [this] at h
    show AR C nt ops Q l ((f,constV de.zero)::env) H k
    rw [hz]
    exact h
end
theorem growths_iter (h:Hse) (hV:HValid h):IterX Tryz.prog 52 [.ref (.ref h.enc 0) 0] h.store.prints.length (fun k=>[.int .i64 k,.int .i64 (growF h k)]):=by
  have hper:=hV.per
  have hfew:=hV.store.1
  unfold Few at hfew
  refine iter_of_aw Tryz.func52 rfl (dc rfl) rfl fun C hN hel=>?_
  (repeat' (first|(refine ar_isq ?_;first|refine ar_q (qs_move rfl) (dc rfl) ?_|refine ar_q (qs_assign rfl) (dc rfl) ?_|(refine is_load ?_;first|refine ar_q (qs_load_ptr (ty rfl) rfl rfl (by first|exact Nat.one_pos|assumption|omega) rfl) (dc rfl) ?_|refine ar_q (qs_load_ref (ty rfl) rfl rfl) (dc rfl) ?_)|(refine is_binOp ?_;first|refine ar_q (qs_lss rfl rfl) (dc rfl) ?_|refine ar_q (qs_add rfl rfl (wrap64 (by omega))) (dc rfl) ?_|refine ar_q (qs_quo rfl rfl (by omega) (quo64 (by omega) (by omega))) (dc rfl) ?_)|(refine is_fieldAddr ?_;first|refine ar_q (qs_faddr_ptr (ty rfl) rfl rfl (ty rfl) (Nat.succ_ne_zero _) rfl) (dc rfl) ?_|refine ar_q (qs_faddr_ref (ty rfl) rfl rfl (ty rfl) (Nat.succ_ne_zero _) rfl) (dc rfl) ?_)|(refine is_indexAddr ?_;first|refine ar_q (qs_iaddr_list (ty rfl) rfl (ty rfl) rfl rfl rfl rfl (by omega)) (dc rfl) ?_|refine ar_q (qs_iaddr_sl0 (ty rfl) rfl (ty rfl) rfl rfl rfl rfl (by omega)) (dc rfl) ?_|refine ar_q (qs_iaddr_sl (ty rfl) rfl (ty rfl) rfl rfl rfl rfl (by omega)) (dc rfl) ?_|refine ar_q (qs_iaddr_aptr (ty rfl) rfl (ty rfl) rfl rfl rfl (by omega)) (dc rfl) ?_|refine ar_q (qs_iaddr_aref (ty rfl) rfl (ty rfl) rfl rfl rfl (by omega)) (dc rfl) ?_|(refine ar_idx_list (ty rfl) rfl (ty rfl) rfl rfl rfl (dc rfl) (by omega) ?_;intro _ _ _)|(refine ar_idx_sl (ty rfl) rfl (ty rfl) rfl rfl rfl (dc rfl) (by omega) ?_;intro _ _ _))|(refine is_call ?_;first|refine ar_q (qs_len_list (ty rfl) rfl rfl rfl) (dc rfl) ?_|refine ar_q (qs_len_sl (ty rfl) rfl rfl rfl) (dc rfl) ?_|refine ar_q (qs_len_nil (ty rfl) rfl rfl rfl) (dc rfl) ?_|refine ar_q (qs_len_emp (ty rfl) rfl rfl rfl) (dc rfl) ?_|refine ar_q (qs_min rfl rfl) (dc rfl) ?_)|refine ar_q (qs_not rfl) (dc rfl) ?_)|(refine ar_makeMap (dc rfl) ?_)|(refine ar_q (qs_nck_ref rfl) (dc rfl) ?_)|(refine ar_alloc (ty rfl) rfl (dc rfl) ?_)|(refine ar_store_var (ty rfl) rfl rfl rfl rfl rfl rfl (by first|(dsimp only;omega)|exact dc rfl) (.inr ⟨rfl,rfl,rfl,fun _ h=>by cases h⟩) ?_)|(refine ar_store_var (ty rfl) rfl rfl rfl rfl rfl rfl (by first|(dsimp only;omega)|exact dc rfl) (.inl ⟨_,rfl⟩) ?_)|(refine ar_store_elt (ty rfl) rfl rfl rfl rfl rfl rfl (by first|exact Nat.one_pos|assumption|omega) (by first|(dsimp only;omega)|exact dc rfl) (.inr ⟨rfl,rfl,rfl,fun _ h=>by cases h⟩) ?_)|(refine ar_store_elt (ty rfl) rfl rfl rfl rfl rfl rfl (by first|exact Nat.one_pos|assumption|omega) (by first|(dsimp only;omega)|exact dc rfl) (.inl ⟨_,rfl⟩) ?_)|(refine ar_nil ?_)|(refine aw_seq ?_)|(refine aw_skip ?_)|(refine aw_block ?_)|(refine aw_exit ?_)|(refine aw_region ?_)|(refine aw_cond rfl ?_ ?_<;>intro hg<;>first|exact absurd hg (by decide)|((first|replace hg:=hgT hg|replace hg:=hgF hg|replace hg:=hgNT hg|replace hg:=hgNF hg|replace hg:=hgBT hg|replace hg:=hgBF hg|replace hg:=hgV hg|replace hg:=hgW hg|skip);(try dsimp only at hg);(try (have _h:True:=hg;clear _h hg));first|(exfalso;omega)|skip))))
  refine aw_for h.store.prints.length (fun k=>[(0,.s (.func (.yield C.l) #[] #[])),(1,.ref (.ref h.enc 0) 0),(3,.map 0),(13,encPrints h.store.prints),(14,vi h.store.prints.length),(15,vi k)]) (fun k=>[mapE vi (tgT h.store.prints k)]) ⟨rfl,rfl,rfl,rfl,rfl,rfl,trivial⟩ rfl ?_
  intro k hk
  by_cases hlt:k<h.store.prints.length
  · have hb:=before_bnd h k
    have hg:=grow_bnd hper.1 k
    have ht:tgD (tgT h.store.prints k) (el h.store.prints k).plate=beforeF h k:=tgD_eq _ _ _
    (repeat' (first|(refine ar_isq ?_;first|refine ar_q (qs_move rfl) (dc rfl) ?_|refine ar_q (qs_assign rfl) (dc rfl) ?_|(refine is_load ?_;first|refine ar_q (qs_load_ptr (ty rfl) rfl rfl (by first|exact Nat.one_pos|assumption|omega) rfl) (dc rfl) ?_|refine ar_q (qs_load_ref (ty rfl) rfl rfl) (dc rfl) ?_)|(refine is_binOp ?_;first|refine ar_q (qs_lss rfl rfl) (dc rfl) ?_|refine ar_q (qs_add rfl rfl (wrap64 (by omega))) (dc rfl) ?_|refine ar_q (qs_quo rfl rfl (by omega) (quo64 (by omega) (by omega))) (dc rfl) ?_)|(refine is_fieldAddr ?_;first|refine ar_q (qs_faddr_ptr (ty rfl) rfl rfl (ty rfl) (Nat.succ_ne_zero _) rfl) (dc rfl) ?_|refine ar_q (qs_faddr_ref (ty rfl) rfl rfl (ty rfl) (Nat.succ_ne_zero _) rfl) (dc rfl) ?_)|(refine is_indexAddr ?_;first|refine ar_q (qs_iaddr_list (ty rfl) rfl (ty rfl) rfl rfl rfl rfl (by omega)) (dc rfl) ?_|refine ar_q (qs_iaddr_sl0 (ty rfl) rfl (ty rfl) rfl rfl rfl rfl (by omega)) (dc rfl) ?_|refine ar_q (qs_iaddr_sl (ty rfl) rfl (ty rfl) rfl rfl rfl rfl (by omega)) (dc rfl) ?_|refine ar_q (qs_iaddr_aptr (ty rfl) rfl (ty rfl) rfl rfl rfl (by omega)) (dc rfl) ?_|refine ar_q (qs_iaddr_aref (ty rfl) rfl (ty rfl) rfl rfl rfl (by omega)) (dc rfl) ?_|refine ar_q (qs_iaddr_list (j:=k) (ty rfl) rfl (ty rfl) rfl rfl rfl (by omega) (by omega)) (dc rfl) ?_|refine ar_q (qs_iaddr_sl0 (j:=k) (ty rfl) rfl (ty rfl) rfl rfl rfl (by omega) (by omega)) (dc rfl) ?_|refine ar_q (qs_iaddr_sl (j:=k) (ty rfl) rfl (ty rfl) rfl rfl rfl (by omega) (by omega)) (dc rfl) ?_|(refine ar_idx_list (ty rfl) rfl (ty rfl) rfl rfl rfl (dc rfl) (by omega) ?_;intro _ _ _)|(refine ar_idx_sl (ty rfl) rfl (ty rfl) rfl rfl rfl (dc rfl) (by omega) ?_;intro _ _ _))|(refine is_call ?_;first|refine ar_q (qs_len_list (ty rfl) rfl rfl rfl) (dc rfl) ?_|refine ar_q (qs_len_sl (ty rfl) rfl rfl rfl) (dc rfl) ?_|refine ar_q (qs_len_nil (ty rfl) rfl rfl rfl) (dc rfl) ?_|refine ar_q (qs_len_emp (ty rfl) rfl rfl rfl) (dc rfl) ?_|refine ar_q (qs_min rfl rfl) (dc rfl) ?_)|refine ar_q (qs_not rfl) (dc rfl) ?_)|(refine ar_q (qs_nck_ref rfl) (dc rfl) ?_)|(refine ar_copy (ty rfl) rfl rfl rfl rfl rfl rfl rfl rfl rfl ⟨_,rfl⟩ rfl (dc rfl) (dc rfl) ?_)|(refine ar_lookupG ht (ty rfl) rfl (ty rfl) rfl (ty rfl) rfl rfl rfl rfl (dc rfl) ?_)|(refine ar_drop_l [(0,.s (.func (.yield C.l) #[] #[])),(1,.ref (.ref h.enc 0) 0),(3,.map 0),(4,vi k),(6,vi (beforeF h k)),(13,encPrints h.store.prints),(14,vi h.store.prints.length),(15,vi k),(24,.map 0),(26,vi (el h.store.prints k).plate),(28,vi (beforeF h k+1))] (fun _=>rfl) ⟨rfl,rfl,rfl,rfl,rfl,rfl,rfl,rfl,rfl,rfl,rfl,trivial⟩ rfl ?_)|(refine ar_mapUpdate (e:=vi) (v:=beforeF h k+1) (ty rfl) rfl (ty rfl) rfl rfl rfl rfl ?_)|(refine ar_yield (us:=[.int .i64 k,.int .i64 (growF h k)]) rfl rfl (by rw [hN];exact hlt) (by rw [hel]) (dc rfl) only_mapE ?_ ?_)|(refine ar_alloc (ty rfl) rfl (dc rfl) ?_)|(refine ar_store_var (ty rfl) rfl rfl rfl rfl rfl rfl (by first|(dsimp only;omega)|exact dc rfl) (.inr ⟨rfl,rfl,rfl,fun _ h=>by cases h⟩) ?_)|(refine ar_store_var (ty rfl) rfl rfl rfl rfl rfl rfl (by first|(dsimp only;omega)|exact dc rfl) (.inl ⟨_,rfl⟩) ?_)|(refine ar_store_elt (ty rfl) rfl rfl rfl rfl rfl rfl (by first|exact Nat.one_pos|assumption|omega) (by first|(dsimp only;omega)|exact dc rfl) (.inr ⟨rfl,rfl,rfl,fun _ h=>by cases h⟩) ?_)|(refine ar_store_elt (ty rfl) rfl rfl rfl rfl rfl rfl (by first|exact Nat.one_pos|assumption|omega) (by first|(dsimp only;omega)|exact dc rfl) (.inl ⟨_,rfl⟩) ?_)|(refine ar_nil ?_)|(refine aw_seq ?_)|(refine aw_skip ?_)|(refine aw_block ?_)|(refine aw_exit ?_)|(refine aw_region ?_)|(refine aw_cond rfl ?_ ?_<;>intro hg<;>first|exact absurd hg (by decide)|((first|replace hg:=hgT hg|replace hg:=hgF hg|replace hg:=hgNT hg|replace hg:=hgNF hg|replace hg:=hgBT hg|replace hg:=hgBF hg|replace hg:=hgV hg|replace hg:=hgW hg|skip);(try dsimp only at hg);(try (have _h:True:=hg;clear _h hg));first|(exfalso;omega)|skip))))
    all_goals first
      | (exfalso;omega)
      | exact loop_next hlt rfl rfl ⟨rfl,rfl,rfl,rfl,rfl,rfl,trivial⟩
      | exact aw_ret (.inr rfl)
      | trace_state
  · obtain rfl:k=h.store.prints.length:=by omega
    (repeat' (first|(refine ar_isq ?_;first|refine ar_q (qs_move rfl) (dc rfl) ?_|refine ar_q (qs_assign rfl) (dc rfl) ?_|(refine is_load ?_;first|refine ar_q (qs_load_ptr (ty rfl) rfl rfl (by first|exact Nat.one_pos|assumption|omega) rfl) (dc rfl) ?_|refine ar_q (qs_load_ref (ty rfl) rfl rfl) (dc rfl) ?_)|(refine is_binOp ?_;first|refine ar_q (qs_lss rfl rfl) (dc rfl) ?_|refine ar_q (qs_add rfl rfl (wrap64 (by omega))) (dc rfl) ?_|refine ar_q (qs_quo rfl rfl (by omega) (quo64 (by omega) (by omega))) (dc rfl) ?_)|(refine is_fieldAddr ?_;first|refine ar_q (qs_faddr_ptr (ty rfl) rfl rfl (ty rfl) (Nat.succ_ne_zero _) rfl) (dc rfl) ?_|refine ar_q (qs_faddr_ref (ty rfl) rfl rfl (ty rfl) (Nat.succ_ne_zero _) rfl) (dc rfl) ?_)|(refine is_indexAddr ?_;first|refine ar_q (qs_iaddr_list (ty rfl) rfl (ty rfl) rfl rfl rfl rfl (by omega)) (dc rfl) ?_|refine ar_q (qs_iaddr_sl0 (ty rfl) rfl (ty rfl) rfl rfl rfl rfl (by omega)) (dc rfl) ?_|refine ar_q (qs_iaddr_sl (ty rfl) rfl (ty rfl) rfl rfl rfl rfl (by omega)) (dc rfl) ?_|refine ar_q (qs_iaddr_aptr (ty rfl) rfl (ty rfl) rfl rfl rfl (by omega)) (dc rfl) ?_|refine ar_q (qs_iaddr_aref (ty rfl) rfl (ty rfl) rfl rfl rfl (by omega)) (dc rfl) ?_|(refine ar_idx_list (ty rfl) rfl (ty rfl) rfl rfl rfl (dc rfl) (by omega) ?_;intro _ _ _)|(refine ar_idx_sl (ty rfl) rfl (ty rfl) rfl rfl rfl (dc rfl) (by omega) ?_;intro _ _ _))|(refine is_call ?_;first|refine ar_q (qs_len_list (ty rfl) rfl rfl rfl) (dc rfl) ?_|refine ar_q (qs_len_sl (ty rfl) rfl rfl rfl) (dc rfl) ?_|refine ar_q (qs_len_nil (ty rfl) rfl rfl rfl) (dc rfl) ?_|refine ar_q (qs_len_emp (ty rfl) rfl rfl rfl) (dc rfl) ?_|refine ar_q (qs_min rfl rfl) (dc rfl) ?_)|refine ar_q (qs_not rfl) (dc rfl) ?_)|(refine ar_alloc (ty rfl) rfl (dc rfl) ?_)|(refine ar_store_var (ty rfl) rfl rfl rfl rfl rfl rfl (by first|(dsimp only;omega)|exact dc rfl) (.inr ⟨rfl,rfl,rfl,fun _ h=>by cases h⟩) ?_)|(refine ar_store_var (ty rfl) rfl rfl rfl rfl rfl rfl (by first|(dsimp only;omega)|exact dc rfl) (.inl ⟨_,rfl⟩) ?_)|(refine ar_store_elt (ty rfl) rfl rfl rfl rfl rfl rfl (by first|exact Nat.one_pos|assumption|omega) (by first|(dsimp only;omega)|exact dc rfl) (.inr ⟨rfl,rfl,rfl,fun _ h=>by cases h⟩) ?_)|(refine ar_store_elt (ty rfl) rfl rfl rfl rfl rfl rfl (by first|exact Nat.one_pos|assumption|omega) (by first|(dsimp only;omega)|exact dc rfl) (.inl ⟨_,rfl⟩) ?_)|(refine ar_nil ?_)|(refine aw_seq ?_)|(refine aw_skip ?_)|(refine aw_block ?_)|(refine aw_exit ?_)|(refine aw_region ?_)|(refine aw_cond rfl ?_ ?_<;>intro hg<;>first|exact absurd hg (by decide)|((first|replace hg:=hgT hg|replace hg:=hgF hg|replace hg:=hgNT hg|replace hg:=hgNF hg|replace hg:=hgBT hg|replace hg:=hgBF hg|replace hg:=hgV hg|replace hg:=hgW hg|skip);(try dsimp only at hg);(try (have _h:True:=hg;clear _h hg));first|(exfalso;omega)|skip))))
    all_goals first
      | (exfalso;omega)
      | exact aw_ret (.inl rfl)
      | exact .inl rfl
      | trace_state
end Go.Proofs.YtloaefllpokkaaaGreat.Im
namespace Go.Proofs.YtloaefllpokkaaaGreat
open Go.RowKit
theorem sub_preC {m nt t sz b c:Nat}{env:Env}{H:Heap}{f:Nat→V}(cs ds:List V) (ht:look env t=some (.ptr sz b 0 0)) (hcH:H[c]?=some (.arr 1 1 f)) (hf:f 0=.ptr sz b 0 0) (hne:b≠c) (hb:H[b]?=some (.arr sz 1 (fun _=>.agg (cs++ds)))) (hc:V.closed.all cs=true) :
    SubK m nt env H ((t,.ref (.agg cs) 0)::env) ((H.set b .dead).set c (.arr 1 1 (fun _=>.ref (.agg cs) 0))):=.mk fun X I ρ a w _ ⟨hE,hw,hd⟩=>by
  have hlt:c<ρ.length:=by rw [hw.len];exact (List.getElem?_eq_some_iff.1 hcH).1
  obtain ⟨xc,hxc⟩:∃ x,ρ[c]?=some x:=⟨ρ[c],by simp [hlt]⟩
  cases xc with
  | none=>have:=hw.none _ _ _ _ hcH hxc;omega
  | some pc =>
    obtain ⟨bc,zc⟩:=pc
    obtain ⟨vs,tyc,hvs,hzc,hnc,hrc⟩:=hw.arr _ _ _ _ _ _ hcH hxc
    obtain ⟨uc,huc,hrel⟩:=hrc 0 0 (.ptr sz b 0 0) Nat.one_pos (by rw [hf];rfl)
    obtain ⟨cb,z,hu,hx⟩:=hrel.ptr_inv
    have hL:Live H ρ cb:=⟨b,_,hb,by simp,z,hx⟩
    have hI:=know_le (o:=w.heap[cb]?) (hw.apart cb hL)
    obtain ⟨us,ty,hcs,hz,hn,hr⟩:=hw.arr _ _ _ _ _ _ hb hx
    have hcell:∀ (j:Nat) x,cs[j]?=some x→∃ u,us[j]?=some u∧VRel I ρ x u:=fun j x hj=>by
      have hlt:=(List.getElem?_eq_some_iff.1 hj).1
      obtain ⟨u,h3,h4⟩:=hr 0 j x Nat.one_pos (by show (cs++ds)[j]?=_;rw [List.getElem?_append_left hlt];exact hj)
      exact ⟨u,by simpa using h3,h4⟩
    have href0:VRel (know I cb (w.heap[cb]?)) ρ (.ref (.agg cs) 0) (.pointer (some ⟨cb,0*sz+0,none⟩)):=by
      rw [Nat.zero_mul]
      refine .ref (us:=fun j=>us.getD j undef) ⟨us,ty,(0,0),by rw [know_at];exact hcs,fun j hj=>?_⟩ fun j x hj=>?_
      · have hj:j<cs.length:=hj
        obtain ⟨u,h3,_⟩:=hcell j cs[j] (by simp [hj])
        simp [h3]
      · have hj:cs[j]?=some x:=hj
        obtain ⟨u,h3,h4⟩:=hcell j x hj
        rw [show us.getD j undef=u by simp [h3]]
        exact (h4.close (closed_all hc hj)).mono hI (Pre.refl _)
    have href:VRel (know I cb (w.heap[cb]?)) ρ (.ref (.agg cs) 0) uc:=by rw [hu];exact href0
    have hw2:=hw.forget hb (by simp) hx
    have hw3:=hw2.write (w':=w) (k:=c) (g:=fun _=>.ref (.agg cs) 0) (by rw [List.getElem?_set_ne hne];exact hcH) hxc hzc (fun _ _=>rfl) (fun i j v hi hj=>by
      obtain rfl:i=0:=by omega
      cases j with
      | zero =>
        have hj:some (V.ref (.agg cs) 0)=some v:=hj
        cases hj
        exact ⟨uc,by simpa using huc,href⟩
      | succ j=>cases hj) hvs (fun _ _=>rfl) rfl rfl rfl rfl
    refine ⟨know I cb (w.heap[cb]?),ρ,hI,⟨⟨hE.1,fun t' v hv=>?_⟩,hw3,hd.mono hI⟩,fun y hy=>?_⟩
    · rw [look_cons] at hv
      split at hv
      · rename_i e
        subst e
        cases hv
        obtain ⟨h1,h2⟩:=hE.2 t _ ht
        obtain ⟨cb2,z2,hu2,hx2⟩:=h2.ptr_inv
        rw [hx] at hx2
        cases hx2
        exact ⟨h1,by rw [hu2];exact href0⟩
      · obtain ⟨h3,h4⟩:=hE.2 t' v hv
        exact ⟨h3,h4.mono hI (Pre.refl _)⟩
    obtain ⟨y1,y2,y3⟩:=hy
    have hcl:c<(H.set b Blk.dead).length:=by rw [List.length_set,← hw.len];exact hlt
    refine ⟨fun c o hc=>y1 c o (hI c o hc),fun k sz' n' f' b' z' hk hρ o ho=>?_,fun k mm b' z' hk hρ=>?_⟩
    · by_cases e:k=b
      · subst e
        rw [hx] at hρ
        cases hρ
        have:=y1 cb _ (by rw [know_at];exact hcs)
        simp [World.cell?,this,hcs]
      · by_cases e2:k=c
        · subst e2
          rw [hcH] at hk
          cases hk
          exact y2 k 1 1 (fun _=>.ref (.agg cs) 0) b' z' (List.getElem?_set_self hcl) hρ o ho
        · exact y2 k sz' n' f' b' z' (by rw [List.getElem?_set_ne (Ne.symm e2),List.getElem?_set_ne (Ne.symm e)];exact hk) hρ o ho
    · refine y3 k mm b' z' ?_ hρ
      by_cases e:k=b
      · subst e;rw [hb] at hk;cases hk
      · by_cases e2:k=c
        · subst e2;rw [hcH] at hk;cases hk
        · rw [List.getElem?_set_ne (Ne.symm e2),List.getElem?_set_ne (Ne.symm e)];exact hk
theorem aw_bad {P:Program}{r:Option Nat}{m nt b sz n i:Nat}{f:Nat→V}{c:Code}{Q:Post}{env:Env}{H:Heap}(hH:H[b]?=some (.arr sz n f)) (hi:i<n) (hs:(f i).cells.length≠sz):AW P r m nt c Q env H:=.mk fun X I ρ a w _ hst=>absurd (hst.2.1.size _ _ _ _ hH i hi) hs
theorem bq3k {P:Program}{env:Env}{H:Heap}{R Rp:V→Heap→Prop}{a1 a2 a3 b1 b2 b3:Nat}{v1 v2 v3:V}{T1 T2 T3:TypeId}{d1 d2 d3:TyD}{f1 f2 f3:Nat→V}(hT1:TyIs P T1 d1) (hT2:TyIs P T2 d2) (hT3:TyIs P T3 d3)
    (l1:look env a1=some (.ptr 1 b1 0 0)) (l2:look env a2=some (.ptr 1 b2 0 0)) (l3:look env a3=some (.ptr 1 b3 0 0)) (g1:H[b1]?=some (.arr 1 1 f1)) (g2:H[b2]?=some (.arr 1 1 f2)) (g3:H[b3]?=some (.arr 1 1 f3))
    (p1:partV d1.tk.agg (f1 0).cells 0 d1.size=some v1) (p2:partV d2.tk.agg (f2 0).cells 0 d2.size=some v2) (p3:partV d3.tk.agg (f3 0).cells 0 d3.size=some v3) (hR:R (.tup [v1,v2,v3]) H):BodyQ P #[.cell a1 T1,.cell a2 T2,.cell a3 T3] R Rp .ret env H :=
  ⟨_,.inr (.inr (.inr (.inl ⟨_,_,_,_,_,_,rfl,⟨d1,1,b1,0,0,1,f1,hT1,l1,g1,Nat.one_pos,p1⟩,⟨d2,1,b2,0,0,1,f2,hT2,l2,g2,Nat.one_pos,p2⟩,⟨d3,1,b3,0,0,1,f3,hT3,l3,g3,Nat.one_pos,p3⟩,rfl⟩))),hR⟩
def hseC (h:Hse):List V:=[vi h.per,vi h.day,vi h.store.life,encItems h.store.items,encPrints h.store.prints,encDsns h.designs,encLics h.lics,encOrders h.orders,encInts h.made,encInts h.fors]
theorem growths_p (h:Hse):PCalls Tryz.prog 28 [.ref h.enc 0] (·=.fn (.func 52) [] [.ref (.ref h.enc 0) 0]):=by
  refine pcalls_of_aw Tryz.func28 rfl (dc rfl) ?_
  (repeat' (first|(refine ar_isq ?_;refine zq ?_)|refine zst ?_|refine zco ?_ ?_|exact zd|(refine fun (hg:(_:Prop))=>?_;(try replace hg:=HG.out hg);(try dsimp only at hg);(try (have _h:True:=hg;clear _h hg)))))
  (refine aw_mono_r (env':=[(2,.fn (.func 52) [] [.ref (.ref h.enc 0) 0])]) (H':=[]) ?_ ?_;(focus ((refine sub_to [] [0] rfl ?_ ?_<;>(repeat' (first|exact trivial|refine ⟨⟨_,rfl,?_⟩,?_⟩|refine vs1 ?_ ?_|refine vs2 ?_ ?_|refine vs3 ?_|refine vs4 ?_ ?_|refine ⟨.inl ⟨_,_,rfl,rfl,?_⟩,?_⟩|exact ⟨.inr ⟨rfl,rfl⟩,trivial⟩|refine ⟨.inr ⟨rfl,rfl⟩,?_⟩|(intro _ _)|exact vz1|(exact fn1_sub (frzPtr' (by simp) rfl (by omega) rfl rfl))|exact vz2|fail)));done)))
  (refine aw_ret ?_;(repeat (first|refine ret_then ?_|refine ret_block ?_));refine bq1 rfl ⟨?_,rfl⟩)
  rfl
def vnp:V:=.s (.pointer none)
def inPrints (h:Hse) (n:Int):Prop:=0≤n∧n<(h.store.prints.length:Int)
instance (h:Hse) (n:Int):Decidable (inPrints h n):=by unfold inPrints;infer_instance
open Classical in
noncomputable def askE (h:Hse) (n:Int):Int:=if HValid h then if inPrints h n then 0 else 6 else 100
theorem askE_ok {h:Hse}{n:Int}(hV:HValid h) (hn:inPrints h n):askE h n=0:=by unfold askE;rw [if_pos hV,if_pos hn]
theorem askE_none {h:Hse}{n:Int}(hV:HValid h) (hn:¬ inPrints h n):askE h n=6:=by unfold askE;rw [if_pos hV,if_neg hn]
theorem askE_bad {h:Hse}{n:Int}(hV:¬ HValid h):askE h n=100:=by unfold askE;rw [if_neg hV]
def FindR (h:Hse) (n:Int) (v:V):Prop:=(HValid h∧inPrints h n∧v=.tup [.ref h.enc 0,vi (growF h n.toNat),vi 0])∨(¬ (HValid h∧inPrints h n)∧v=.tup [vnp,vi 0,vi (askE h n)])
def findG (n:Int) (h:Hse) (k:Nat):Heap:=[.arr 1 1 (fun _=>vi n),.arr 1 1 (fun _=>vnp),.arr 1 1 (fun _=>vi 0),.arr 1 1 (fun _=>vi 0),.dead,.dead,.arr 1 1 (fun _=>if (k:Int)≤n∨n<0 then .ref h.enc 0 else .agg [])]
theorem findG_at {n:Int}{h:Hse}{k:Nat}(hk:(k:Int)≤n∨n<0):findG n h k=[.arr 1 1 (fun _=>vi n),.arr 1 1 (fun _=>vnp),.arr 1 1 (fun _=>vi 0),.arr 1 1 (fun _=>vi 0),.dead,.dead,.arr 1 1 (fun _=>.ref h.enc 0)]:=by unfold findG;rw [if_pos hk]
theorem find_p (h:Hse) (n:Int) (hs:HSmall h) (hw:StOk h.store):PCalls Tryz.prog 24 [h.enc,vi n] (FindR h n):=by
  refine pcalls_of_aw Tryz.func24 rfl (dc rfl) ?_
  (repeat' (first|(refine ar_isq ?_;refine zq ?_)|((refine ar_gcall0 fn18 rfl rfl [h.enc] ⟨.closed rfl,trivial⟩ (hvalid_p h hs hw) (dc rfl) ?_ (fun _ _ h=>h.elim);rintro _ _ (⟨hv,rfl,m,ht,rfl⟩|⟨hv,rfl,rfl⟩)<;>(try rw [shoB_ren])))|refine zst ?_|refine zco ?_ ?_|exact zd|(refine fun (hg:(_:Prop))=>?_;(try replace hg:=HG.out hg);(try dsimp only at hg);(try (have _h:True:=hg;clear _h hg)))))
  · (refine ar_sub_l (env':=[(3,.ptr 1 0 0 0),(4,.ptr 1 1 0 0),(5,.ptr 1 2 0 0),(6,.ptr 1 3 0 0),(7,.ptr 1 6 0 0),(18,.ptr 11 4 0 0)]) (H':=[.arr 1 1 (fun _=>vi n),.arr 1 1 (fun _=>vnp),.arr 1 1 (fun _=>vi 0),.arr 1 1 (fun _=>vi 0),.arr 11 1 (fun _=>.agg (hseC h++[.map 5])),mapE Tal.enc m,.arr 1 1 (fun _=>.ptr 11 4 0 0)]) ?_ ?_;(focus ((refine sub_to [some 1,some 2,some 3,some 4,some 5,some 13,some 14] [6,7,8,9,10,11,12] rfl ?_ ?_<;>(repeat' (first|exact trivial|refine ⟨⟨_,rfl,?_⟩,?_⟩|refine vs1 ?_ ?_|refine vs2 ?_ ?_|refine vs3 ?_|refine vs4 ?_ ?_|refine ⟨.inl ⟨_,_,rfl,rfl,?_⟩,?_⟩|exact ⟨.inr ⟨rfl,rfl⟩,trivial⟩|refine ⟨.inr ⟨rfl,rfl⟩,?_⟩|(intro _ _)|exact vz1|(first|exact (VSub.ptr (b:=5) rfl:VSub _ _ _ (.ptr 11 5 0 0) (.ptr 11 4 0 0))|refine ⟨bsub_mapE rfl rfl (fun _=>rfl),?_⟩|exact VSub.aggL ⟨.closed rfl,.closed rfl,.closed rfl,frzLB (by first|decide|(simp;done)) rfl (fun _=>rfl) rfl,frzLB (by first|decide|(simp;done)) rfl (fun _=>rfl) rfl,frzLB (by first|decide|(simp;done)) rfl (fun _=>rfl) rfl,frzLB (by first|decide|(simp;done)) rfl (fun _=>rfl) rfl,frzLB (by first|decide|(simp;done)) rfl (fun _=>rfl) rfl,frzLB (by first|decide|(simp;done)) rfl (fun _=>rfl) rfl,frzLB (by first|decide|(simp;done)) rfl (fun _=>rfl) rfl,.map rfl,trivial⟩)|exact vz2|fail)));done)))
    refine ar_subk_l (sub_preC (t:=18) (b:=4) (c:=6) (hseC h) [.map 5] rfl rfl rfl (by omega) rfl rfl) ?_
    (repeat' (first|(refine ar_isq ?_;refine zq ?_)|(refine zpv fn28 (growths_p h) ?_)|refine zst ?_|refine zco ?_ ?_|exact zd|(refine fun (hg:(_:Prop))=>?_;(try replace hg:=HG.out hg);(try dsimp only at hg);(try (have _h:True:=hg;clear _h hg)))))
    refine aw_rangeX (findG n h) _ rfl rfl fn52 (Im.growths_iter h hv) (fun _ _=>rfl) (by decide) (fun k _=>rfl) ?maps ?start ?round ?done
    case maps=>intro k j ms;match j with|0|1|2|3|4|5|6=>simp [findG]|j+7=>simp [findG]
    case start =>
      rw [findG_at (by omega)]
      (exact zsc [some 0,some 1,some 2,some 3,some 4,some 5,some 6] [])
    case round =>
      intro k lp hk
      by_cases hin:(k:Int)≤n∨n<0
      · have hG:findG n h k=[.arr 1 1 (fun _=>vi n),.arr 1 1 (fun _=>vnp),.arr 1 1 (fun _=>vi 0),.arr 1 1 (fun _=>vi 0),.dead,.dead,.arr 1 1 (fun _=>.ref h.enc 0)]:=by unfold findG;rw [if_pos hin]
        rw [hG]
        (repeat' (first|(refine ar_isq ?_;refine zq ?_)|refine zst ?_|refine zco ?_ ?_|exact zd|(refine fun (hg:(_:Prop))=>?_;(try replace hg:=HG.out hg);(try dsimp only at hg);(try (have _h:True:=hg;clear _h hg)))))
        · obtain rfl:n=(k:Int):=by omega
          refine aw_ret ?_
          (repeat (first|refine ret_then ?_|refine ret_block ?_))
          refine ⟨[.arr 1 1 (fun _=>vi k),.arr 1 1 (fun _=>.ref h.enc 0),.arr 1 1 (fun _=>vi (growF h k)),.arr 1 1 (fun _=>vi 0),.dead,.dead,.arr 1 1 (fun _=>.ref h.enc 0)],?_,?_,?_⟩
          · intro j ms;match j with|0|1|2|3|4|5|6=>simp|j+7=>simp
          · (exact zsc [some 0,some 1,some 2,some 3,some 4,some 5,some 6] [])
          · (repeat (first|refine ret_then ?_|refine ret_block ?_))
            exact bq3k (ty rfl) (ty rfl) (ty rfl) rfl rfl rfl rfl rfl rfl rfl rfl rfl ⟨.inl ⟨hv,⟨by omega,by omega⟩,by rw [Int.toNat_natCast]⟩,rfl⟩
        · refine (show SubOf _ _ _ _ _ _ from ?_)
          rw [findG_at (by omega)]
          (exact zsc [some 0,some 1,some 2,some 3,some 4,some 5,some 6] [])
      · exact aw_bad (b:=6) (i:=0) rfl Nat.one_pos (by rw [if_neg hin];decide)
    case done =>
      by_cases hin:(h.store.prints.length:Int)≤n∨n<0
      · have hG:findG n h h.store.prints.length=[.arr 1 1 (fun _=>vi n),.arr 1 1 (fun _=>vnp),.arr 1 1 (fun _=>vi 0),.arr 1 1 (fun _=>vi 0),.dead,.dead,.arr 1 1 (fun _=>.ref h.enc 0)]:=by unfold findG;rw [if_pos hin]
        rw [hG]
        have hno:¬ inPrints h n:=by unfold inPrints;omega
        (repeat' (first|(refine ar_isq ?_;refine zq ?_)|refine zst ?_|refine zco ?_ ?_|exact zd|(refine fun (hg:(_:Prop))=>?_;(try replace hg:=HG.out hg);(try dsimp only at hg);(try (have _h:True:=hg;clear _h hg)))))
        refine aw_ret ?_
        (repeat (first|refine ret_then ?_|refine ret_block ?_))
        exact bq3k (ty rfl) (ty rfl) (ty rfl) rfl rfl rfl rfl rfl rfl rfl rfl rfl ⟨.inr ⟨fun h=>hno h.2,by rw [askE_none hv hno];rfl⟩,rfl⟩
      · refine (show AW Tryz.prog none 0 _ _ _ _ _ from ?_)
        exact aw_bad (b:=6) (i:=0) rfl Nat.one_pos (by rw [if_neg hin];decide)
  · refine aw_ret ?_
    (repeat (first|refine ret_then ?_|refine ret_block ?_))
    exact bq3k (ty rfl) (ty rfl) (ty rfl) rfl rfl rfl rfl rfl rfl rfl rfl rfl ⟨.inr ⟨fun h=>hv h.1,by rw [askE_bad hv];rfl⟩,rfl⟩
def dproofF (d:Dsn) (g:Int):List Bool:=proofF d.sheet d.band g true
def dsnAt (h:Hse) (n:Int):Dsn:=el h.designs n.toNat
def ordAt (h:Hse) (n:Int):Ordr:=el h.orders n.toNat
def forAt (h:Hse) (n:Int):Int:=el h.fors n.toNat
structure Org where
  order:Int
  client:Int
  design:Int
  line:List Int
  grow:Int
def Org.enc (o:Org):V:=.agg [vi o.order,vi o.client,vi o.design,encInts o.line,vi o.grow]
def orgF (h:Hse) (n:Int):Org:=⟨forAt h n,(ordAt h (forAt h n)).client,(ordAt h (forAt h n)).design,lineF h.store (el h.store.prints n.toNat).plate,growF h n.toNat⟩
def noOrg:Org:=⟨0,0,0,[],0⟩
noncomputable def traceF (h:Hse) (n:Int):Org:=if askE h n=0 then orgF h n else noOrg
noncomputable def imageF (h:Hse) (n:Int):List Bool:=if askE h n=0 then dproofF (dsnAt h (ordAt h (forAt h n)).design) (growF h n.toNat) else []
theorem askE_cases {h:Hse}{n:Int}(hno:¬ (HValid h∧inPrints h n)):askE h n=6∨askE h n=100:=by
  by_cases hV:HValid h
  · exact .inl (askE_none hV fun hn=>hno ⟨hV,hn⟩)
  · exact .inr (askE_bad hV)
section
variable (h:Hse)
theorem find_yes (hs:HSmall h) (hw:StOk h.store) {k:Nat}(hV:HValid h) (hk:k<h.store.prints.length):PCalls Tryz.prog 24 [h.enc,vi k] (·=.tup [.ref h.enc 0,vi (growF h k),vi 0]) :=
  (find_p h k hs hw).mono fun v hR=>by
    rcases hR with ⟨_,_,rfl⟩|⟨hn,_⟩
    · rw [Int.toNat_natCast]
    · exact absurd ⟨hV,⟨by omega,by omega⟩⟩ hn
theorem find_no (hs:HSmall h) (hw:StOk h.store) {n:Int}(hno:¬ (HValid h∧inPrints h n)):PCalls Tryz.prog 24 [h.enc,vi n] (·=.tup [vnp,vi 0,vi (askE h n)]) :=
  (find_p h n hs hw).mono fun v hR=>by
    rcases hR with ⟨h1,h2,_⟩|⟨_,rfl⟩
    · exact absurd ⟨h1,h2⟩ hno
    · rfl
theorem proof_p (hs:HSmall h) {i:Int}(hi:inDesigns h i) (g:Int):PCalls Tryz.prog 25 [.ref h.enc 0,vi i,vi g] (·=encBools (dproofF (dsnAt h i) g)):=by
  unfold HSmall at hs
  unfold inDesigns at hi
  refine pcalls_of_aw Tryz.func25 rfl (dc rfl) ?_
  (repeat' (first|(refine ar_isq ?_;refine zq ?_)|refine zil (j:=i.toNat) ?_|refine zis (j:=i.toNat) ?_|refine zit (j:=i.toNat) ?_|(refine zpv fn45 (lProof_p (dsnAt h i).sheet (dsnAt h i).band g true) ?_)|refine zst ?_|refine zco ?_ ?_|exact zd|(refine fun (hg:(_:Prop))=>?_;(try replace hg:=HG.out hg);(try dsimp only at hg);(try (have _h:True:=hg;clear _h hg)))))
  (refine aw_ret ?_;(repeat (first|refine ret_then ?_|refine ret_block ?_));refine bq1 rfl ⟨?_,rfl⟩)
  rfl
theorem hTrace_p (n:Int) (hs:HSmall h) (hw:StOk h.store):PCalls Tryz.prog 12 [h.enc,vi n] (·=.tup [(traceF h n).enc,vi (askE h n)]):=by
  by_cases hq:HValid h∧inPrints h n
  · obtain ⟨hV,hn⟩:=hq
    obtain ⟨k,rfl⟩:=Int.eq_ofNat_of_zero_le hn.1
    have hk:k<h.store.prints.length:=by have:=hn.2;omega
    have hf:=find_yes h hs hw hV hk
    have hF:=hV.forss
    have ho:=(hV.fors k (by omega)).1
    unfold inOrders at ho
    unfold HSmall at hs
    have he:=askE_ok hV hn
    rw [he]
    have ht:traceF h k=orgF h k:=by unfold traceF;rw [if_pos he]
    rw [ht]
    refine pcalls_of_aw Tryz.func12 rfl (dc rfl) ?_
    (repeat' (first|(refine ar_isq ?_;refine zq ?_)|refine zil (j:=k) ?_|refine zis (j:=k) ?_|refine zit (j:=k) ?_|refine zil (j:=(el h.fors k).toNat) ?_|refine zis (j:=(el h.fors k).toNat) ?_|refine zit (j:=(el h.fors k).toNat) ?_|(refine zbt ?_)|(refine zpv fn24 (hf) ?_)|(refine zpv fn26 (pLine_p h.store (el h.store.prints k).plate) ?_)|refine zst ?_|refine aw_drawn (id:=6) [(0,0),(1,0),(2,0),(3,0),(4,0),(5,0),(6,0),(7,0),(8,0),(9,0),(10,0),(11,0),(12,0),(13,0),(14,0),(15,2),(16,0),(17,0),(18,0),(19,0),(20,0)] mixed (by kernel_rfl) ?_|refine aw_drawn (id:=6) [(0,0),(1,0),(2,0),(3,0),(4,0),(5,0),(6,0),(7,0),(8,0),(9,0),(10,0),(11,0),(12,0),(13,0),(14,0),(15,1),(16,0),(17,0),(18,0),(19,0),(20,0)] mixed (by kernel_rfl) ?_|refine zco ?_ ?_|exact zd|(refine fun (hg:(_:Prop))=>?_;(try replace hg:=HG.out hg);(try dsimp only at hg);(try (have _h:True:=hg;clear _h hg)))))
    (refine aw_mono_r (env':=[(4,.ptr 5 0 0 0),(5,vi 0)]) (H':=[.arr 5 1 (fun _=>(orgF h k).enc)]) ?_ ?_;(focus ((refine sub_to [some 1] [] rfl ?_ ?_<;>(repeat' (first|exact trivial|refine ⟨⟨_,rfl,?_⟩,?_⟩|refine vs1 ?_ ?_|refine vs2 ?_ ?_|refine vs3 ?_|refine vs4 ?_ ?_|refine ⟨.inl ⟨_,_,rfl,rfl,?_⟩,?_⟩|exact ⟨.inr ⟨rfl,rfl⟩,trivial⟩|refine ⟨.inr ⟨rfl,rfl⟩,?_⟩|(intro _ _)|exact vz1|(exact .of_eq (by unfold orgF forAt ordAt Org.enc;rw [Int.toNat_natCast];rfl) rfl)|exact vz2|fail)));done)))
    refine aw_ret ?_
    (repeat (first|refine ret_then ?_|refine ret_block ?_))
    exact bq2c (f:=fun _=>(orgF h k).enc) (v:=(orgF h k).enc) (ty rfl) rfl rfl Nat.one_pos rfl rfl ⟨rfl,rfl⟩
  · have hf:=find_no h hs hw hq
    have he:=askE_cases hq
    have ht:traceF h n=noOrg:=by unfold traceF;rw [if_neg (by omega)]
    rw [ht]
    refine pcalls_of_aw Tryz.func12 rfl (dc rfl) ?_
    (repeat' (first|(refine ar_isq ?_;refine zq ?_)|(refine zbt ?_)|(refine zpv fn24 (hf) ?_)|refine zst ?_|refine aw_drawn (id:=6) [(0,0),(1,0),(2,0),(3,0),(4,0),(5,0),(6,0),(7,0),(8,0),(9,0),(10,0),(11,0),(12,0),(13,0),(14,0),(15,2),(16,0),(17,0),(18,0),(19,0),(20,0)] mixed (by kernel_rfl) ?_|refine aw_drawn (id:=6) [(0,0),(1,0),(2,0),(3,0),(4,0),(5,0),(6,0),(7,0),(8,0),(9,0),(10,0),(11,0),(12,0),(13,0),(14,0),(15,1),(16,0),(17,0),(18,0),(19,0),(20,0)] mixed (by kernel_rfl) ?_|refine zco ?_ ?_|exact zd|(refine fun (hg:(_:Prop))=>?_;(try replace hg:=HG.out hg);(try dsimp only at hg);(try (have _h:True:=hg;clear _h hg)))))
    all_goals first
      | (exfalso;omega)
      | ((refine aw_mono_r (env':=[(4,.ptr 5 0 0 0),(5,vi (askE h n))]) (H':=[.arr 5 1 (fun _=>noOrg.enc)]) ?_ ?_;(focus (exact zsc [some 1] [])))
         refine aw_ret ?_
         (repeat (first|refine ret_then ?_|refine ret_block ?_))
         exact bq2c (f:=fun _=>noOrg.enc) (v:=noOrg.enc) (ty rfl) rfl rfl Nat.one_pos rfl rfl ⟨rfl,rfl⟩)
      | trace_state
theorem hImage_p (n:Int) (hs:HSmall h) (hw:StOk h.store):PCalls Tryz.prog 11 [h.enc,vi n] (·=.tup [encBools (imageF h n),vi (askE h n)]):=by
  by_cases hq:HValid h∧inPrints h n
  · obtain ⟨hV,hn⟩:=hq
    obtain ⟨k,rfl⟩:=Int.eq_ofNat_of_zero_le hn.1
    have hk:k<h.store.prints.length:=by have:=hn.2;omega
    have hf:=find_yes h hs hw hV hk
    have hF:=hV.forss
    have ho:=(hV.fors k (by omega)).1
    have hd:=(hV.orders (el h.fors k).toNat (by unfold inOrders at ho;omega)).2.1
    have hp:=proof_p h hs hd (growF h k)
    unfold inOrders at ho
    unfold HSmall at hs
    have he:=askE_ok hV hn
    rw [he]
    have ht:imageF h k=dproofF (dsnAt h (ordAt h (forAt h k)).design) (growF h k):=by unfold imageF;rw [if_pos he,Int.toNat_natCast]
    rw [ht]
    refine pcalls_of_aw Tryz.func11 rfl (dc rfl) ?_
    (repeat' (first|(refine ar_isq ?_;refine zq ?_)|refine zil (j:=k) ?_|refine zis (j:=k) ?_|refine zit (j:=k) ?_|refine zil (j:=(el h.fors k).toNat) ?_|refine zis (j:=(el h.fors k).toNat) ?_|refine zit (j:=(el h.fors k).toNat) ?_|(refine zpv fn24 (hf) ?_)|(refine zpv fn25 (hp) ?_)|refine zst ?_|refine aw_drawn (id:=4) [(0,0),(1,0),(2,0),(3,0),(4,0),(5,0),(6,0),(7,0),(8,0),(9,0),(10,0),(11,0),(12,0),(13,0),(14,0),(15,0),(16,0),(17,0),(18,1),(19,0),(20,0)] mixed (by kernel_rfl) ?_|refine aw_drawn (id:=4) [(0,0),(1,0),(2,0),(3,0),(4,0),(5,0),(6,0),(7,0),(8,0),(9,0),(10,0),(11,0),(12,0),(13,0),(14,0),(15,0),(16,0),(17,0),(18,2),(19,0),(20,0)] mixed (by kernel_rfl) ?_|refine zco ?_ ?_|exact zd|(refine fun (hg:(_:Prop))=>?_;(try replace hg:=HG.out hg);(try dsimp only at hg);(try (have _h:True:=hg;clear _h hg)))))
    (refine aw_ret ?_;(repeat (first|refine ret_then ?_|refine ret_block ?_));refine bq2 rfl rfl ⟨?_,rfl⟩)
    unfold forAt ordAt
    rw [Int.toNat_natCast]
    rfl
  · have hf:=find_no h hs hw hq
    have he:=askE_cases hq
    have ht:imageF h n=[]:=by unfold imageF;rw [if_neg (by omega)]
    rw [ht]
    refine pcalls_of_aw Tryz.func11 rfl (dc rfl) ?_
    (repeat' (first|(refine ar_isq ?_;refine zq ?_)|(refine zpv fn24 (hf) ?_)|refine zst ?_|refine aw_drawn (id:=4) [(0,0),(1,0),(2,0),(3,0),(4,0),(5,0),(6,0),(7,0),(8,0),(9,0),(10,0),(11,0),(12,0),(13,0),(14,0),(15,0),(16,0),(17,0),(18,1),(19,0),(20,0)] mixed (by kernel_rfl) ?_|refine aw_drawn (id:=4) [(0,0),(1,0),(2,0),(3,0),(4,0),(5,0),(6,0),(7,0),(8,0),(9,0),(10,0),(11,0),(12,0),(13,0),(14,0),(15,0),(16,0),(17,0),(18,2),(19,0),(20,0)] mixed (by kernel_rfl) ?_|refine zco ?_ ?_|exact zd|(refine fun (hg:(_:Prop))=>?_;(try replace hg:=HG.out hg);(try dsimp only at hg);(try (have _h:True:=hg;clear _h hg)))))
    all_goals first
      | (exfalso;omega)
      | ((refine aw_ret ?_;(repeat (first|refine ret_then ?_|refine ret_block ?_));refine bq2 rfl rfl ⟨?_,rfl⟩);rfl)
      | ((refine aw_mono_r (env':=[(4,encBools []),(5,vi (askE h n))]) (H':=[]) ?_ ?_;(focus (exact zsb [] [])));(refine aw_ret ?_;(repeat (first|refine ret_then ?_|refine ret_block ?_));refine bq2 rfl rfl ⟨?_,rfl⟩);rfl)
      | trace_state
end
structure Fnd where
  design:Int
  grow:Int
  off:Int
instance:Inhabited Fnd:=⟨⟨0,0,0⟩⟩
def Fnd.enc (x:Fnd):V:=.agg [vi x.design,vi x.grow,vi x.off]
abbrev encFnds (l:List Fnd):V:=LV 3 Fnd.enc l
def offD (h:Hse) (dots:List Bool) (i g:Nat):Int:=offTo (dproofF (el h.designs i) g) dots dots.length
def fndOk (h:Hse) (dots:List Bool) (tol:Int) (i g:Nat):Prop:=shownF h i g=true∧offD h dots i g≤tol
instance (h:Hse) (dots:List Bool) (tol:Int) (i g:Nat):Decidable (fndOk h dots tol i g):=by unfold fndOk;infer_instance
def fndG (h:Hse) (dots:List Bool) (tol:Int) (i:Nat):Nat→List Fnd
  | 0=>[]
  | g+1=>if fndOk h dots tol i g then fndG h dots tol i g++[⟨i,g,offD h dots i g⟩] else fndG h dots tol i g
def fndSize (h:Hse) (dots:List Bool) (i:Nat):Prop:=(el h.designs i).sheet.cols*(el h.designs i).sheet.rows=(dots.length:Int)
instance (h:Hse) (dots:List Bool) (i:Nat):Decidable (fndSize h dots i):=by unfold fndSize;infer_instance
def fndD (h:Hse) (dots:List Bool) (tol:Int):Nat→List Fnd
  | 0=>[]
  | i+1=>if fndSize h dots i then fndD h dots tol i++fndG h dots tol i 21 else fndD h dots tol i
def fndS (h:Hse) (dots:List Bool) (tol:Int) (i g:Nat):List Fnd:=fndD h dots tol i++fndG h dots tol i g
def expArg (dots:List Bool) (tol:Int):Prop:=dots.length≤2400∧0≤tol∧tol≤2400
instance (dots:List Bool) (tol:Int):Decidable (expArg dots tol):=by unfold expArg;infer_instance
open Classical in
noncomputable def expE (h:Hse) (dots:List Bool) (tol:Int):Int:=if HValid h then if expArg dots tol then if (fndD h dots tol h.designs.length).length=0 then 105 else 0 else 2 else 100
noncomputable def expF (h:Hse) (dots:List Bool) (tol:Int):List Fnd:=if expE h dots tol=0 then fndD h dots tol h.designs.length else []
section
variable {h:Hse}{dots:List Bool}{tol:Int}{i g:Nat}
theorem expE_bad (hV:¬ HValid h):expE h dots tol=100:=by unfold expE;rw [if_neg hV]
theorem expE_arg (hV:HValid h) (ha:¬ expArg dots tol):expE h dots tol=2:=by unfold expE;rw [if_pos hV,if_neg ha]
theorem expE_forged (hV:HValid h) (ha:expArg dots tol) (h0:(fndD h dots tol h.designs.length).length=0):expE h dots tol=105:=by unfold expE;rw [if_pos hV,if_pos ha,if_pos h0]
theorem expE_ok (hV:HValid h) (ha:expArg dots tol) (h0:(fndD h dots tol h.designs.length).length≠0):expE h dots tol=0:=by unfold expE;rw [if_pos hV,if_pos ha,if_neg h0]
theorem expF_no {e:Int}(he:expE h dots tol=e) (h0:e≠0):expF h dots tol=[]:=by unfold expF;rw [he,if_neg h0]
theorem expF_ok (he:expE h dots tol=0):expF h dots tol=fndD h dots tol h.designs.length:=by unfold expF;rw [if_pos he]
theorem fndS_zero:fndS h dots tol i 0=fndD h dots tol i:=by unfold fndS fndG;rw [List.append_nil]
theorem fndS_yes (hg:fndOk h dots tol i g):fndS h dots tol i (g+1)=fndS h dots tol i g++[⟨i,g,offD h dots i g⟩]:=by
  unfold fndS
  rw [fndG,if_pos hg,List.append_assoc]
theorem fndS_no (hg:¬ fndOk h dots tol i g):fndS h dots tol i (g+1)=fndS h dots tol i g:=by
  unfold fndS
  rw [fndG,if_neg hg]
theorem fndD_skip (hs:¬ fndSize h dots i):fndD h dots tol (i+1)=fndD h dots tol i:=by rw [fndD,if_neg hs]
theorem fndD_full (hs:fndSize h dots i):fndD h dots tol (i+1)=fndS h dots tol i 21:=by rw [fndD,if_pos hs,fndS]
theorem fndG_len:∀ g,(fndG h dots tol i g).length≤g
  | 0=>Nat.le_refl 0
  | g+1=>by
    have:=fndG_len g
    rw [fndG]
    split
    · rw [List.length_append];exact Nat.succ_le_succ this
    · omega
theorem fndD_len:∀ i,(fndD h dots tol i).length≤21*i
  | 0=>Nat.le_refl 0
  | i+1=>by
    have h1:=fndD_len i
    have h2:=fndG_len (h:=h) (dots:=dots) (tol:=tol) (i:=i) 21
    rw [fndD]
    split
    · rw [List.length_append];omega
    · omega
theorem fndS_len (i g:Nat):(fndS h dots tol i g).length≤21*i+g:=by
  have h1:=fndD_len (h:=h) (dots:=dots) (tol:=tol) i
  have h2:=fndG_len (h:=h) (dots:=dots) (tol:=tol) (i:=i) g
  unfold fndS
  rw [List.length_append]
  omega
theorem fndG_none:∀ {g:Nat},(∀ q:Nat,q<g→shownF h i q=false)→fndG h dots tol i g=[]
  | 0,_=>rfl
  | g+1,hq=>by
    rw [fndG,if_neg (fun hk=>by have:=hq g (by omega);rw [hk.1] at this;cases this),fndG_none fun q hq'=>hq q (by omega)]
theorem fndD_none (hq:∀ q:Nat,q<21→shownF h i q=false):fndD h dots tol (i+1)=fndD h dots tol i:=by
  rw [fndD,fndG_none hq,List.append_nil,ite_self]
end
def seenA (h:Hse) (k q:Nat):Bool:=shownTo h ((q/21:Nat):Int) ((q % 21:Nat):Int) k
def seenL (h:Hse) (k:Nat):List V:=(List.range 168).map fun q=>vb (seenA h k q)
def seenV (h:Hse) (k:Nat):V:=.agg (seenL h k)
def rowL (h:Hse) (i:Nat):List Bool:=(List.range 21).map fun (g:Nat)=>shownF h i g
theorem rowL_len (h:Hse) (i:Nat):(rowL h i).length=21:=by unfold rowL;rw [List.length_map,List.length_range]
theorem seenV_ok (h:Hse) (k:Nat):V.closed.all (seenV h k).cells=true:=by
  have:∀ l:List Nat,V.closed.all (l.map fun q=>vb (seenA h k q))=true:=fun l=>by
    induction l with
    | nil=>rfl
    | cons q l ih=>rw [List.map_cons,V.closed.all,ih];rfl
  exact this _
theorem seen_set {h:Hse}{k a g:Nat}(ha:dsnOf h k=a) (hg:growF h k=g) (ha8:a<8) (hg21:g<21):putPart (seenV h k) (0+a*21+g*1) (vb true)=seenV h (k+1):=by
  have hoff:0+a*21+g*1=a*21+g:=by omega
  rw [hoff]
  unfold seenV putPart
  dsimp only
  congr 1
  refine List.ext_getElem? fun q=>?_
  have hl:(seenL h k).length=168:=by unfold seenL;rw [List.length_map,List.length_range]
  have e:∀ k,(seenL h k)[q]?=if q<168 then some (vb (seenA h k q)) else none:=fun k=>by
    unfold seenL
    rw [List.getElem?_map]
    by_cases hq:q<168
    · rw [if_pos hq,List.getElem?_range hq];rfl
    · rw [if_neg hq,List.getElem?_eq_none (by rw [List.length_range];omega)];rfl
  have hs:seenA h (k+1) q=(seenA h k q||(decide ((a:Int)=((q/21:Nat):Int))&&decide ((g:Int)=((q % 21:Nat):Int)))):=by
    unfold seenA
    rw [shownTo,ha,hg]
  rw [e (k+1),hs,List.append_assoc]
  by_cases h1:q<a*21+g
  · rw [List.getElem?_append_left (by rw [List.length_take];omega),List.getElem?_take,if_pos h1,e k]
    rw [show (decide ((a:Int)=((q/21:Nat):Int))&&decide ((g:Int)=((q % 21:Nat):Int)))=false by
      by_cases e1:(a:Int)=((q/21:Nat):Int)
      · rw [decide_eq_false (p:=(g:Int)=((q % 21:Nat):Int)) (by omega),Bool.and_false]
      · rw [decide_eq_false e1,Bool.false_and]]
    rw [Bool.or_false]
  · rw [List.getElem?_append_right (by rw [List.length_take];omega),List.length_take]
    by_cases h2:q=a*21+g
    · subst h2
      rw [if_pos (by omega),show (decide ((a:Int)=(((a*21+g)/21:Nat):Int))&&decide ((g:Int)=(((a*21+g) % 21:Nat):Int)))=true by rw [decide_eq_true (by omega),decide_eq_true (by omega)];rfl,Bool.or_true]
      rw [show a*21+g-min (a*21+g) (seenL h k).length=0 by omega]
      rfl
    · rw [List.getElem?_append_right (by show 1≤_;omega),List.getElem?_drop]
      rw [show a*21+g+(vb true).cells.length+(q-min (a*21+g) (seenL h k).length-(vb true).cells.length)=q by show a*21+g+1+(q-min (a*21+g) (seenL h k).length-1)=q;omega,e k]
      rw [show (decide ((a:Int)=((q/21:Nat):Int))&&decide ((g:Int)=((q % 21:Nat):Int)))=false by
        by_cases e1:(a:Int)=((q/21:Nat):Int)
        · rw [decide_eq_false (p:=(g:Int)=((q % 21:Nat):Int)) (by omega),Bool.and_false]
        · rw [decide_eq_false e1,Bool.false_and]]
      rw [Bool.or_false]
theorem seen_part {h:Hse}{i:Nat}(hi:i<8):partV true (seenV h h.store.prints.length).cells (0+i*21) 21=some (.agg ((rowL h i).map vb)):=by
  have hl:(seenL h h.store.prints.length).length=168:=by unfold seenL;rw [List.length_map,List.length_range]
  have hc:(seenV h h.store.prints.length).cells=seenL h h.store.prints.length:=rfl
  rw [hc]
  unfold partV
  dsimp only
  rw [show Nat.ble (0+i*21+21) (seenL h h.store.prints.length).length=true from Nat.ble_eq_true_of_le (by omega)]
  simp only [cond_true,Option.some.injEq,V.agg.injEq]
  refine List.ext_getElem? fun q=>?_
  rw [List.getElem?_take,List.getElem?_drop]
  unfold rowL seenL
  rw [List.map_map,List.getElem?_map,List.getElem?_map]
  by_cases hq:q<21
  · rw [if_pos hq,List.getElem?_range (by omega),List.getElem?_range hq]
    show some (vb (seenA h h.store.prints.length (0+i*21+q)))=some (vb (shownF h i q))
    unfold seenA shownF
    rw [show (0+i*21+q)/21=i by omega,show (0+i*21+q) % 21=q by omega]
  · rw [if_neg hq,List.getElem?_eq_none (by rw [List.length_range];omega)];rfl
theorem row_part {h:Hse}{i g:Nat}(hg:g<21):partV false ((rowL h i).map vb) (g*1) 1=some (vb (shownF h i g)):=by
  show ((rowL h i).map vb)[g*1]?=_
  unfold rowL
  rw [Nat.mul_one,List.map_map,List.getElem?_map,List.getElem?_range hg]
  rfl
theorem row_none {h:Hse}{i:Nat}(hr:rowL h i=List.replicate 21 false):∀ q:Nat,q<21→shownF h i q=false:=fun q hq=>by
  have h1:el (rowL h i) q=shownF h i q:=by unfold rowL;rw [el_map_range hq]
  rw [← h1,hr]
  unfold el
  rw [List.getD_eq_getElem?_getD,List.getElem?_replicate,if_pos hq]
  rfl
def fE (l:List Fnd):V:=match l with|[]=>vnil|x::r=>.sl 3 0 0 (x::r).length
def fB (l:List Fnd):Blk:=match l with|[]=>.dead|x::r=>LB 3 Fnd.enc (x::r)
theorem fE_pos {l:List Fnd}(h:l.length≠0):fE l=.sl 3 0 0 l.length:=by cases l with|nil=>exact (h rfl).elim|cons x r=>rfl
theorem fB_pos {l:List Fnd}(h:l.length≠0):fB l=LB 3 Fnd.enc l:=by cases l with|nil=>exact (h rfl).elim|cons x r=>rfl
theorem fE_snoc (l:List Fnd) (x:Fnd):fE (l++[x])=.sl 3 0 0 (l.length+1):=by rw [fE_pos (by simp),List.length_append];rfl
theorem fB_snoc (l:List Fnd) (x:Fnd):fB (l++[x])=LB 3 Fnd.enc (l++[x]):=fB_pos (by simp)
theorem vsub_fE {H:Heap}{σ:List (Option Nat)}{fr:Nat→Prop}{l:List Fnd}(h:σ[0]?=some (some 0)):VSub H σ fr (fE l) (fE l):=by
  cases l with
  | nil=>exact .closed rfl
  | cons x r=>exact .sl h
theorem bsub_fB {H:Heap}{σ:List (Option Nat)}{fr:Nat→Prop}{l:List Fnd}(h:σ[0]?=some (some 0)) (hH:H[0]?=some (fB l)):BSub H σ fr 0 (fB l):=by
  cases l with
  | nil=>trivial
  | cons x r=>exact .inl ⟨0,_,h,hH,fun _ _=>.closed rfl⟩
theorem dproof_len {d:Dsn}(hd:GoodD d) {g:Nat}(hg:g<21):(dproofF d g).length=d.sheet.rows.toNat*d.sheet.cols.toNat:=by
  have he:proofErr d.sheet d.band g=0:=by
    unfold proofErr
    rw [if_pos hd.2.2.1,if_pos (withinB_iff.2 (by omega))]
  unfold dproofF proofF
  rw [if_pos he,proofTo_len]
theorem good_size {d:Dsn}(hd:GoodD d):(1≤d.sheet.cols∧d.sheet.cols≤40)∧(1≤d.sheet.rows∧d.sheet.rows≤60)∧0≤d.sheet.cols*d.sheet.rows∧d.sheet.cols*d.sheet.rows≤2400:=by
  have hok:=(band_of_check hd.2.2.1).1
  unfold Sheet.ok at hok
  simp only [Bool.and_eq_true,withinB_iff] at hok
  obtain ⟨⟨⟨⟨h1,h2⟩,_⟩,_⟩,_⟩:=hok
  refine ⟨h1,h2,Int.mul_nonneg (by omega) (by omega),?_⟩
  have:=Int.mul_le_mul h1.2 h2.2 (by omega) (by omega)
  omega
theorem dproof_dots {h:Hse}{dots:List Bool}{i g:Nat}(hd:GoodD (el h.designs i)) (hg:g<21) (hs:fndSize h dots i):(dproofF (el h.designs i) g).length=dots.length:=by
  obtain ⟨h1,h2,_⟩:=good_size hd
  rw [dproof_len hd hg]
  unfold fndSize at hs
  have e1:(((el h.designs i).sheet.cols.toNat:Nat):Int)=(el h.designs i).sheet.cols:=by omega
  have e2:(((el h.designs i).sheet.rows.toNat:Nat):Int)=(el h.designs i).sheet.rows:=by omega
  have:(((el h.designs i).sheet.rows.toNat*(el h.designs i).sheet.cols.toNat:Nat):Int)=(dots.length:Int):=by
    rw [Int.natCast_mul,e1,e2,Int.mul_comm]
    exact hs
  omega
theorem offTo_bnd (a b:List Bool) (k:Nat):0≤offTo a b k∧offTo a b k≤k:=cntB_bnd k
theorem offTo_yes {a b:List Bool}{k:Nat}(h:¬ el a k=el b k):offTo a b (k+1)=offTo a b k+1:=cntB_yes (by simpa using h)
theorem offTo_no {a b:List Bool}{k:Nat}(h:el a k=el b k):offTo a b (k+1)=offTo a b k:=cntB_no (by simpa using h)
end Go.Proofs.YtloaefllpokkaaaGreat
