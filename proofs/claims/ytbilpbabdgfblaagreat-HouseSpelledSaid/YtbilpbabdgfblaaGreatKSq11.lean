/- Parts of the proof: contracts of functions. No condition. -/
import Derived.Test.YtbilpbabdgfblaaGreatKSq10
set_option maxHeartbeats 16000000
set_option linter.unusedSimpArgs false
set_option linter.unusedVariables false
namespace Go.Proofs.YtbilpbabdgfblaaGreat
open Go.RowKit
section
variable {P:Program}{nt:Nat}{env:Env}{H:Heap}{dst:Option Tmp}{ty:TypeId}{pos:String}{after:Array Edge}{guard:Option (Nat × Bool)}{T T':TypeId}{d:TyD}{x:Operand}{v:V}
theorem qs_nilIsNot {b:Bool}(ht:TyIs P T d) (hk:d.tk=.iface b) (hx:eo env x=some (.s .nilIface)):QS P nt env H ⟨dst,.binOp .neq T x (.const .nilIface) T',ty,pos,after,guard⟩ (.s (.bool false)):=.mk fun X I ρ a w h hw=>by
 obtain ⟨ms,hu⟩:=ht.ifacek hk
 refine ⟨_,.s _,fun w' _=>?_⟩
 have e:(Op.equal T .nilIface .nilIface).run P w'=.ok true w':=eq_nn 9999 w' hu
 have h2:a.eval (.const .nilIface)=.nilIface:=rfl
 simp [execOp,sval h hx,h2,eqGuard,binOp,e]
theorem qs_nilFuncIsNot (ht:TyIs P T d) (hk:d.tk=.func) (hx:eo env x=some (.s .nilFunc)):QS P nt env H ⟨dst,.binOp .neq T x (.const .nilFunc) T',ty,pos,after,guard⟩ (.s (.bool false)):=.mk fun X I ρ a w h hw=>by
 obtain ⟨_,_,_,hu⟩:=ht.funck hk
 refine ⟨_,.s _,fun w' _=>?_⟩
 have e:(Op.equal T .nilFunc .nilFunc).run P w'=.ok true w':=eq_ff 9999 w' hu
 have h2:a.eval (.const .nilFunc)=.nilFunc:=rfl
 simp [execOp,sval h hx,h2,eqGuard,binOp,e]
theorem qs_funcIsNot {g:Fn}{vs us:List V}(ht:TyIs P T d) (hk:d.tk=.func) (hx:eo env x=some (.fn g vs us)):QS P nt env H ⟨dst,.binOp .neq T x (.const .nilFunc) T',ty,pos,after,guard⟩ (.s (.bool true)):=.mk fun X I ρ a w h hw=>by
 obtain ⟨_,_,_,hu⟩:=ht.funck hk
 have h1:=eo_rel h hx
 cases h1':a.eval x<;>rw [h1'] at h1<;>cases h1
 rename_i fs cs _ _ _ _
 refine ⟨_,.s _,fun w' _=>?_⟩
 have e:(Op.equal T (.func g fs cs) .nilFunc).run P w'=.ok false w':=eq_fn 9999 w' hu
 have h2:a.eval (.const .nilFunc)=.nilFunc:=rfl
 simp [execOp,h1',h2,eqGuard,binOp,e]
theorem TyIs.structk {fs:List (TypeId × Nat)}(h:TyIs P T d) (hk:d.tk=.struct fs):∃ fields,P.underlying T=some (.struct fields):=by
 obtain ⟨t,h1,h2⟩:=h.desc
 rw [hk] at h2
 cases t<;>simp [TK.of] at h2
 exact ⟨_,h1⟩
theorem qs_assertS {fs:List (TypeId × Nat)}{B:TypeId}(ht:TyIs P T d) (hk:d.tk=.struct fs) (hx:eo env x=some (.iface T v)):QS P nt env H ⟨dst,.typeAssert x B T true,ty,pos,after,guard⟩ (.tup [v,.s (.bool true)]):=.mk fun X I ρ a w h hw=>by
 have h1:=eo_rel h hx
 cases h1':a.eval x<;>rw [h1'] at h1<;>cases h1
 rename_i u hu
 obtain ⟨fields,hS⟩:=ht.structk hk
 refine ⟨.tuple #[u,.bool true],.tup rfl (fun j v' u' h h'=>?_),fun w' _=>?_⟩
 ·match j with
  | 0=>simp at h h';subst h h';exact hu
  | 1=>simp at h h';subst h h';exact .s _
  | j+2=>simp at h
 ·simp [execOp,h1',Instr.typeAssert,run_underlying hS]
theorem qs_makeInterfaceS {fs:List (TypeId × Nat)}(ht:TyIs P T d) (hk:d.tk=.struct fs) (hx:eo env x=some v):QS P nt env H ⟨dst,.makeInterface T x,ty,pos,after,guard⟩ (.iface T v):=.mk fun X I ρ a w h hw=>by
 obtain ⟨fields,hS⟩:=ht.structk hk
 exact ⟨_,.iface (eo_rel h hx),fun w' _=>by simp [execOp,Instr.makeInterface,run_underlying hS]⟩
theorem qs_assertN {fs:List (TypeId × Nat)}{B:TypeId}(ht:TyIs P T d) (hk:d.tk=.struct fs) (hx:eo env x=some (.s .nilIface)):QS P nt env H ⟨dst,.typeAssert x B T true,ty,pos,after,guard⟩ (.tup [constV d.zero,.s (.bool false)]):=.mk fun X I ρ a w h hw=>by
 obtain ⟨fields,hS⟩:=ht.structk hk
 refine ⟨.tuple #[d.zero,.bool false],.tup rfl (fun j v' u' h h'=>?_),fun w' _=>?_⟩
 ·match j with
  | 0=>simp at h h';subst h h';exact constV_rel _ _ _
  | 1=>simp at h h';subst h h';exact .s _
  | j+2=>simp at h
 ·simp [execOp,sval h hx,Instr.typeAssert,run_underlying hS,ht.zeroV]
end
section
variable {P:Program}{H:Heap}{ty:TypeId}{pos:String}{after:Array Edge}
theorem rec_ops2 {o:Oper}{k j:Nat}{y:Value}{cs cs':List Frame}{a:Act}{w:World}{Q:Exit→Act→List Frame→World→Prop}{ty2:TypeId}{pos2:String}{after2:Array Edge}(hg:o.guard=none) (hd:o.dst=some k) (he:(execOp a.eval o).run P w=.ok .recover w) (hk:k<a.tmps.size) (hr:(recoverD cs=some (y,cs'))∨(recoverD cs=none∧y=.nilIface∧cs'=cs))
  (h:Q .normal ((a.put (some k) y).put (some j) y) cs' w):wpOpsSIn Fence.wide 0 P #[o,⟨some j,.assign (.tmp k),ty2,pos2,after2,none⟩] Q (List.range 2) a cs w:=by
 show wpOpsSIn Fence.wide 0 P #[o,⟨some j,.assign (.tmp k),ty2,pos2,after2,none⟩] Q [0,1] a cs w
 have h0:(#[o,⟨some j,.assign (.tmp k),ty2,pos2,after2,none⟩]:Array Oper)[0]?=some o:=rfl
 have h1:(#[o,⟨some j,.assign (.tmp k),ty2,pos2,after2,none⟩]:Array Oper)[1]?=some ⟨some j,.assign (.tmp k),ty2,pos2,after2,none⟩:=rfl
 have hev:(a.put (some k) y).eval (.tmp k)=y:=by simp [Act.put,Act.eval,hk]
 have next:wpOpsSIn Fence.wide 0 P #[o,⟨some j,.assign (.tmp k),ty2,pos2,after2,none⟩] Q [1] (a.put (some k) y) cs' w:=by
  simp only [wpOpsSIn,h1]
  refine ⟨fun _ _=>trivial,?_⟩
  rw [if_pos (wanted_none rfl)]
  have hx:(execOp (a.put (some k) y).eval ⟨some j,.assign (.tmp k),ty2,pos2,after2,none⟩).run P w=.ok (.value y) w:=by simp [execOp,hev]
  simp only [hx]
  exact h
 rw [wpOpsSIn]
 simp only [h0]
 refine ⟨fun _ _=>trivial,?_⟩
 rw [if_pos (wanted_none hg)]
 simp only [he,hd]
 rcases hr with h1|⟨h1,rfl,rfl⟩
 ·simp only [h1]
  exact next
 ·simp only [h1]
  exact next
theorem dcalls_of_aw2 {g:FuncId}{fn:Func}{id k j:Nat}{ty2:TypeId}{pos2:String}{after2:Array Edge}{c:Code}{args:List V}{pan:Option V}{R:Heap→Prop}(ats:Array TypeId) (hf:P.funcs[g]?=some fn)
  (hb:fn.body=some (.seq (.region id #[⟨some k,.call ⟨.builtin .recover,#[],ats⟩,ty,pos,after,none⟩,⟨some j,.assign (.tmp k),ty2,pos2,after2,none⟩] false) c)) (hn:args.length≤fn.ntmps) (hk:k<fn.ntmps) (hj:j<fn.ntmps) (hr:fn.results=#[]) (hp:∀ v,pan=some v→∃ t y,v=.iface t y)
  (h:Pn.AW fn.ntmps true P none H.length fn.ntmps c (DQ R) ((j,pan.getD (.s .nilIface))::(k,pan.getD (.s .nilIface))::argEnv args 0) H):DCalls P g args H pan R:=by
 refine ⟨fun X I ρ w us u hw hv hm=>callsDIn_of_wpSIn hf hb trivial fun c₀ cs hu=>wpSIn_seq (wpSIn_region ?_)⟩
 have key:∃ y u1,VRel I ρ (pan.getD (.s .nilIface)) y∧settle u1=.returning∧((recoverD (c₀::cs)=some (y,{ c₀ with mode:=u1 }::cs))∨(recoverD (c₀::cs)=none∧y=.nilIface∧u1=c₀.mode)):=by
  cases pan with
  | none =>
   have hu0:c₀.mode=.returning:=hu.trans hm
   exact ⟨.nilIface,.returning,.s _,rfl,.inr ⟨by simp [recoverD,hu0],rfl,hu0.symm⟩⟩
  | some v =>
   obtain ⟨y,hy,hu1⟩:=hm
   have hu0:=hu.trans hu1
   exact ⟨y,.panicking [{ v:=y,recovered:=true }],hy,by simp [settle],.inl (by simp [recoverD,hu0])⟩
 obtain ⟨y,u1,hy,hs1,hrec⟩:=key
 let a0:Act:={ tmps:=us++Array.replicate (fn.ntmps-us.size) undef,defers:=[] }
 have hsz0:us.size≤fn.ntmps:=by rw [hv.1];exact hn
 refine rec_ops2 (y:=y) (cs':={ c₀ with mode:=u1 }::cs) rfl rfl (by simp [execOp,resolve,invoke,builtin]) (by show k<(us++Array.replicate (fn.ntmps-us.size) undef).size;rw [Array.size_append,Array.size_replicate];omega) ?_ ?_
 ·rcases hrec with h1|⟨h1,h2,h3⟩
  ·exact .inl h1
  ·exact .inr ⟨h1,h2,by rw [h3]⟩
 refine wpSIn_of_wpIn rfl ?_
 have hsz:us.size≤fn.ntmps:=by rw [hv.1];exact hn
 have hst:St (Ctx.self w ρ H I) fn.ntmps ((j,pan.getD (.s .nilIface))::(k,pan.getD (.s .nilIface))::argEnv args 0) H I ρ ((a0.put (some k) y).put (some j) y) w:=⟨((argEnv_ok hv hsz).put hy hk).put hy hj,hw.self,DOk.nil rfl⟩
 have hpin:(⟨fn.ntmps,undef,some []⟩:Pin).Ok ((a0.put (some k) y).put (some j) y):=by
  refine ⟨?_,fun ds e=>by cases e;rfl⟩
  have hsz2:((a0.put (some k) y).put (some j) y).tmps.size=fn.ntmps:=hst.1.1
  simp [Array.getD,hsz2]
 refine wpIn_mono (h.1 (Ctx.self w ρ H I) I ρ _ w _ rfl rfl hw.len hst hpin) fun e a' w' hl=>?_
 have fin:∀ env' H' I' ρ',St (Ctx.self w ρ H I) fn.ntmps env' H' I' ρ' a' w'→(⟨fn.ntmps,undef,some []⟩:Pin).Ok a'→R H'→a'.defers=[]∧∃ u',({ c₀ with mode:=u1 }::cs:List Frame)={ c₀ with mode:=u' }::cs∧∃ v,(results fn a'.tmps).run P w'=.ok v w'∧(∃ x I' ρ' H',I.le I'∧Pre ρ ρ'∧WOk X I' ρ' H' w'∧Ending.returned v=.returned x∧settle u'=.returning∧R H'):=by
  intro env' H' I' ρ' hs ha hR
  refine ⟨ha.2 [] rfl,u1,rfl,.tuple #[],?_,.tuple #[],I',ρ',H',hs.2.1.le,hs.2.1.pre,hw.trans hs.2.1,rfl,hs1,hR⟩
  unfold results
  rw [hr]
  simp
 cases e with
 | normal=>obtain ⟨⟨env',H',I',ρ',hs,hq⟩,ha⟩:=hl;exact fin env' H' I' ρ' hs ha hq
 | ret=>obtain ⟨⟨env',H',I',ρ',hs,hq⟩,ha⟩:=hl;exact fin env' H' I' ρ' hs ha hq
 | exit id=>obtain ⟨⟨env',H',I',ρ',hs,hq⟩,ha⟩:=hl;exact hq.elim
 | goto id=>obtain ⟨⟨env',H',I',ρ',hs,hq⟩,ha⟩:=hl;exact hq.elim
 | panic ch=>obtain ⟨⟨v,u,H',I',ρ',_,_,_,_,hq⟩,ha⟩:=hl;exact hq.elim
 | outgrown=>exact hl.elim
end
theorem hfromF_p (lo hi n:Int):PCalls Tryz.prog 100 [vi n,.ref (vi lo) 0,.ref (vi hi) 0] (·=vb (outB lo hi n)):=by
 refine pcalls_of_aw Tryz.func100 rfl (dc rfl) ?_
 (repeat' (first|(refine ar_isq ?_;refine zq ?_)|refine zg ?_ ?_|refine zgu ?_|refine zst ?_|refine zco ?_ ?_|exact zd|(refine fun (hg:(_:Prop))=>?_;(try replace hg:=HG.out hg);(try dsimp only at hg);(try (have _h:True:=hg;clear _h hg)))))
 all_goals (refine aw_ret ?_;(repeat (first|refine ret_then ?_|refine ret_block ?_));refine bq1 rfl ⟨?_,rfl⟩)
 all_goals (simp only [vb,constV,outB];congr 2;simp;try omega)
theorem hfrom_p (lo hi:Int) (l:List Int):PCalls Tryz.prog 56 [vi lo,vi hi,encInts l] (·=vb (fromB lo hi l)):=by
 refine pcalls_of_aw Tryz.func56 rfl (dc rfl) ?_
 ((repeat refine aw_seq ?_);(first|(refine aw_region ?_));(repeat' (first|(refine ar_isq ?_;refine zq ?_)|refine zsr ?_)))
 (refine aw_mono_r (env':=[(0,vi lo),(1,vi hi),(2,encInts l),(3,.ref (vi lo) 0),(4,.ref (vi hi) 0)]) (H':=[]) ?_ ?_;(focus (exact zsb [] [0,1])))
 (repeat' (first|(refine ar_isq ?_;refine zq ?_)|(refine zpv fn99 (containsInts_p l fn100 rfl _ (fun x _=>hfromF_p lo hi x)) ?_)|refine zst ?_|refine zco ?_ ?_|exact zd|(refine fun (hg:(_:Prop))=>?_;(try replace hg:=HG.out hg);(try dsimp only at hg);(try (have _h:True:=hg;clear _h hg)))))
 (refine aw_ret ?_;(repeat (first|refine ret_then ?_|refine ret_block ?_));refine bq1 rfl ⟨?_,rfl⟩)
 rw [← any_out]
 rfl
def refV (e:Int):V:=.iface 169 (.agg [vi e])
theorem must_p (b:Bool) (e:Int):ACalls Tryz.prog 86 [vb b,vi e] [] (fun v H=>b=true∧v=.tup []∧H=[]) (fun v _=>b=false∧v=refV e):=by
 refine acalls_of_aw Tryz.func86 rfl (dc rfl) ?_
 (repeat' (first|(refine ar_isq ?_;refine zq ?_)|(refine zbt ?_)|refine ar_q (qs_makeInterfaceS (ty rfl) rfl rfl) (dc rfl) ?_|refine ar_panic rfl ?_|refine zst ?_|refine zco ?_ ?_|exact zd|(refine fun (hg:(_:Prop))=>?_;(try replace hg:=HG.out hg);(try dsimp only at hg);(try (have _h:True:=hg;clear _h hg)))))
 ·exact (⟨by simp_all,rfl⟩:b=false∧refV e=refV e)
 ·exact bq0n ⟨by simp_all,rfl,rfl⟩
section
variable {r:Option Nat}{m nt i d:Nat}{Q:Post}{env:Env}{H:Heap}{ops:Array Oper}{L:List Stp}{ty:TypeId}{pos:String}{after:Array Edge}{ats:Array TypeId}{x y z:Operand}
theorem ar_must {b:Bool}{e:Int}(h1:b=true→AR Tryz.prog r m nt ops Q L ((d,.tup [])::env) H) (h2:b=false→∀ H',Q (.panic (refV e)) [] H') (hx:eo env x=some (.s (.bool b)):=by exact rfl) (hy:eo env y=some (.s (.int .i64 e)):=by exact rfl) (hd:d<nt:=by exact dc rfl) :
  AR Tryz.prog r m nt ops Q (.l i ⟨some d,.call ⟨.value (.func 86),#[x,y],ats⟩,ty,pos,after,none⟩ false::L) env H:=by
 refine ar_gcall0 (args:=[x,y]) (vs:=[vb b,vi e]) (first:=[]) (cap:=[]) fn86 rfl (by rw [List.mapM_cons,List.mapM_cons,List.mapM_nil,hx,hy];rfl) [vb b,vi e] ⟨.closed rfl,.closed rfl,trivial⟩ (must_p b e) hd ?_ ?_
 ·rintro _ _ ⟨hb,rfl,rfl⟩
  have:H++List.map (Blk.ren (rn [] H.length)) []=H:=by simp
  rw [this]
  exact h1 hb
 ·rintro _ _ ⟨hb,rfl⟩
  exact h2 hb _
end
theorem fn1_sub {H:Heap}{σ:List (Option Nat)}{fr:Nat→Prop}{a a':V}{f:Fn}(ha:VSub H σ fr a a'):VSub H σ fr (.fn f [] [a]) (.fn f [] [a']) :=
 .fn rfl (fun j v x h1 _=>by simp at h1) rfl (fun j v x h1 h2=>by
  cases j with
  | zero=>simp at h1 h2;subst h1 h2;exact ha
  | succ j=>simp at h1)
theorem from1_p (lo hi x:Int):PCalls Tryz.prog 59 [vi lo,vi hi,encInts [x]] (·=vb (withinB x lo hi)):=(from_p lo hi [x]).mono fun v hv=>by rw [hv];simp [fromB]
theorem proofErr_check {s:Sheet}{b:List (List Int)}{g:Int}(h:checkErr s b≠0):proofErr s b g=checkErr s b:=by simp [proofErr,h]
theorem proofErr_arg {s:Sheet}{b:List (List Int)}{g:Int}(h:checkErr s b=0) (h2:withinB g 0 20=false):proofErr s b g=2:=by simp [proofErr,h,h2]
theorem proofErr_ok {s:Sheet}{b:List (List Int)}{g:Int}(h:checkErr s b=0) (h2:withinB g 0 20=true):proofErr s b g=0:=by simp [proofErr,h,h2]
theorem proofF_bad {s:Sheet}{b:List (List Int)}{g:Int}{m:Bool}(h:proofErr s b g≠0):proofF s b g m=[]:=by simp [proofF,h]
theorem proofF_ok {s:Sheet}{b:List (List Int)}{g:Int}{m:Bool}(h:proofErr s b g=0):proofF s b g m=proofTo s b g m (s.rows.toNat*s.cols.toNat):=by simp [proofF,h]
theorem pCol_int {s:Sheet}{m:Bool}{c:Nat}(h:c<s.cols.toNat):(pCol s m c:Int)=if m=true then s.cols-1-c else (c:Int):=by unfold pCol;split<;>omega
theorem lProof_p (s:Sheet) (b:List (List Int)) (g:Int) (m:Bool):PCalls Tryz.prog 30 [s.enc,encRows b,vi g,vb m] (·=.tup [encBools (proofF s b g m),vi (proofErr s b g)]):=by
 by_cases hce:checkErr s b=0
 ·cases hok:withinB g 0 20
  ·have he:=proofErr_arg hce hok
   rw [proofF_bad (by omega),he]
   refine pcalls_of_aw Tryz.func30 rfl (dc rfl) ?_
   (repeat' (first|(refine ar_isq ?_;refine zq ?_)|(refine zpv fn58 (check_p s b) ?_)|(refine ar_pcall (own:=true) fn59 rfl rfl (.cons (.closed rfl) (.cons (.closed rfl) (.cons (.lent rfl rfl (by omega) (fun _ _=>rfl) (fun k hk=>match k,hk with|0,_=>rfl)) .nil))) (from1_p 0 20 g) (by intros;subst_vars;rfl) (dc rfl) ?_;intro _ hv;subst hv)|refine zst ?_|refine zco ?_ ?_|exact zd|(refine fun (hg:(_:Prop))=>?_;(try replace hg:=HG.out hg);(try dsimp only at hg);(try (have _h:True:=hg;clear _h hg)))))
   all_goals first
    | (exfalso;simp_all;done)
    | ((refine aw_mono_r (env':=[(8,encBools []),(9,vi 2)]) (H':=[]) ?_ ?_;(focus (exact zsb [] [])));(refine aw_ret ?_;(repeat (first|refine ret_then ?_|refine ret_block ?_));refine bq2 rfl rfl ⟨?_,rfl⟩);rfl)
  ·have he:=proofErr_ok hce hok
   rw [proofF_ok he,he]
   obtain ⟨hs,h12,hl⟩:=band_of_check hce
   have hbd:=Sheet.bounds hs
   have hgb:=withinB_iff.1 hok
   have hN:s.rows.toNat*s.cols.toNat≤60*40:=Nat.mul_le_mul (by omega) (by omega)
   have hmk:s.cols*s.rows=((s.rows.toNat*s.cols.toNat:Nat):Int):=by
    rw [Int.natCast_mul,Int.toNat_of_nonneg (by omega),Int.toNat_of_nonneg (by omega),Int.mul_comm]
   have hq:∀ (r c:Nat),r<s.rows.toNat→c<s.cols.toNat→r*s.cols.toNat+c<s.rows.toNat*s.cols.toNat:=fun r c hr hc=>by
    have h1:(r+1)*s.cols.toNat≤s.rows.toNat*s.cols.toNat:=Nat.mul_le_mul_right _ hr
    rw [Nat.add_mul,Nat.one_mul] at h1
    omega
   have hmu:∀ r:Nat,(r:Int)*s.cols=((r*s.cols.toNat:Nat):Int):=fun r=>by rw [Int.natCast_mul,Int.toNat_of_nonneg (by omega)]
   have hdiv:∀ j,j<s.rows.toNat*s.cols.toNat→((j/s.cols.toNat:Nat):Int)<s.rows:=fun j hj=>by
    have:=(Nat.div_lt_iff_lt_mul (show 0<s.cols.toNat by omega)).2 hj
    omega
   refine pcalls_of_aw Tryz.func30 rfl (dc rfl) ?_
   (repeat' (first|(refine ar_isq ?_;refine zq ?_)|(refine zpv fn58 (check_p s b) ?_)|(refine ar_pcall (own:=true) fn59 rfl rfl (.cons (.closed rfl) (.cons (.closed rfl) (.cons (.lent rfl rfl (by omega) (fun _ _=>rfl) (fun k hk=>match k,hk with|0,_=>rfl)) .nil))) (from1_p 0 20 g) (by intros;subst_vars;rfl) (dc rfl) ?_;intro _ hv;subst hv)|(refine ar_make_v (n:=s.rows.toNat*s.cols.toNat) (ty rfl) rfl (ty rfl) rfl rfl (by omega) (by omega) (dc rfl) rfl rfl (by dsimp only;omega) (maxLen_ok (by omega)) ?_)|refine zst ?_|refine zco ?_ ?_|exact zd|(refine fun (hg:(_:Prop))=>?_;(try replace hg:=HG.out hg);(try dsimp only at hg);(try (have _h:True:=hg;clear _h hg)))))
   all_goals (try (exfalso;simp_all;done))
   refine aw_for b.length (fun _=>True) (fun i=>[(1,encRows b),(2,vi g),(3,vb m),(4,.ptr 5 0 0 0),(11,.sl 1 1 0 (s.rows.toNat*s.cols.toNat)),(33,encRows b),(34,vi b.length),(35,vi i)]) (fun i=>[.arr 5 1 (fun _=>s.enc),.arr 1 (s.rows.toNat*s.cols.toNat) (fun j=>vb (stLine s b g m i j))]) trivial ?_ ?_
   ·(exact zsb [some 0,some 2] [])
   intro i hi _
   by_cases hlti:i<b.length
   ·have hli:=of_all_el hl hlti
    have hln:=isLine_len hli
    (repeat' (first|(refine ar_isq ?_;refine zq ?_)|refine zst ?_|refine zco ?_ ?_|exact zd|(refine fun (hg:(_:Prop))=>?_;(try replace hg:=HG.out hg);(try dsimp only at hg);(try (have _h:True:=hg;clear _h hg)))))
    all_goals (try (exfalso;omega))
    refine aw_for (el b i).length (fun _=>True) (fun c=>[(1,encRows b),(2,vi g),(3,vb m),(4,.ptr 5 0 0 0),(11,.sl 1 1 0 (s.rows.toNat*s.cols.toNat)),(33,encRows b),(34,vi b.length),(35,vi i),(39,encInts (el b i)),(40,vi (el b i).length),(41,vi c)]) (fun c=>[.arr 5 1 (fun _=>s.enc),.arr 1 (s.rows.toNat*s.cols.toNat) (fun j=>vb (stCol s b g m i c j))]) trivial ?_ ?_
    ·(refine sub_to [some 0,some 1] [] rfl ?_ ?_<;>(repeat' (first|exact trivial|refine ⟨⟨_,rfl,?_⟩,?_⟩|refine vs1 ?_ ?_|refine vs2 ?_ ?_|refine vs3 ?_|refine vs4 ?_ ?_|refine ⟨.inl ⟨_,_,rfl,rfl,?_⟩,?_⟩|exact ⟨.inr ⟨rfl,rfl⟩,trivial⟩|refine ⟨.inr ⟨rfl,rfl⟩,?_⟩|(intro _ _)|exact vz1|(exact VSub.of_eq (congrArg vb (stCol_zero _ _ _ _ _ _).symm) rfl)|exact vz2|fail)))
    intro c hc _
    by_cases hltc:c<(el b i).length
    ·have hlc:=isLine_at hli hltc
     have hcc:c<s.cols.toNat:=by omega
     have hpcT:m=true→(pCol s m c:Int)=s.cols-1-c:=fun h=>by rw [pCol_int hcc,if_pos h]
     have hpcF:m=false→(pCol s m c:Int)=c:=fun h=>by rw [pCol_int hcc,if_neg (by simp [h])]
     have hpl:=pCol_lt (m:=m) hcc
     obtain ⟨R0,hR0⟩:∃ R0:Nat,(R0:Int)=max (el (el b i) c-g) 0:=⟨(max (el (el b i) c-g) 0).toNat,by omega⟩
     obtain ⟨cnt,hcnt⟩:∃ cnt:Nat,((R0+cnt:Nat):Int)=min (el (el b i) c+s.weight-1+g) (s.rows-1)+1:=⟨(min (el (el b i) c+s.weight-1+g) (s.rows-1)+1-R0).toNat,by omega⟩
     have hstart:∀ j,vb (stCol s b g m i c j)=vb (stRow s b g m i c (R0+0) j):=fun j=>congrArg vb (stRow_zero (by omega)).symm
     (repeat' (first|(refine ar_isq ?_;refine zq ?_)|refine zil (j:=c) ?_|refine zis (j:=c) ?_|refine zit (j:=c) ?_|refine zst ?_|refine zco ?_ ?_|exact zd|(refine fun (hg:(_:Prop))=>?_;(try replace hg:=HG.out hg);(try dsimp only at hg);(try (have _h:True:=hg;clear _h hg)))))
     all_goals (try (exfalso;omega))
     all_goals
      refine aw_for cnt (fun _=>True) (fun k=>[(1,encRows b),(2,vi g),(3,vb m),(4,.ptr 5 0 0 0),(11,.sl 1 1 0 (s.rows.toNat*s.cols.toNat)),(33,encRows b),(34,vi b.length),(35,vi i),(39,encInts (el b i)),(40,vi (el b i).length),(41,vi c),(14,vi (pCol s m c)),(15,vi (el (el b i) c)),(16,vi ((R0+k:Nat):Int))]) (fun k=>[.arr 5 1 (fun _=>s.enc),.arr 1 (s.rows.toNat*s.cols.toNat) (fun j=>vb (stRow s b g m i c (R0+k) j))]) trivial ?_ ?_
      ·(refine sub_to [some 0,some 1] [] rfl ?_ ?_<;>(repeat' (first|exact trivial|refine ⟨⟨_,rfl,?_⟩,?_⟩|refine vs1 ?_ ?_|refine vs2 ?_ ?_|refine vs3 ?_|refine vs4 ?_ ?_|refine ⟨.inl ⟨_,_,rfl,rfl,?_⟩,?_⟩|exact ⟨.inr ⟨rfl,rfl⟩,trivial⟩|refine ⟨.inr ⟨rfl,rfl⟩,?_⟩|(intro _ _)|exact vz1|(first|exact siEq (by omega)|exact siEq (by have:=hpcT (by assumption);omega)|exact siEq (by have:=hpcF (by assumption);omega)|exact VSub.of_eq (hstart _) rfl)|exact vz2|fail)))
      intro k hk _
      by_cases hltk:k<cnt
      ·have hrk:R0+k<s.rows.toNat:=by omega
       have hidx:=hq (R0+k) (pCol s m c) hrk hpl
       have hm2:=hmu (R0+k)
       have hst:∀ j,_:=fun j=>stRow_succ (s:=s) (b:=b) (g:=g) (m:=m) (i:=i) (c:=c) (r:=R0+k) (j:=j) hcc (by omega) (by omega)
       have hst1:vb (stRow s b g m i c (R0+k+1) ((R0+k)*s.cols.toNat+pCol s m c))=vb true:=by rw [← hst];simp
       have hst2:∀ j,j≠(R0+k)*s.cols.toNat+pCol s m c→vb (stRow s b g m i c (R0+k+1) j)=vb (stRow s b g m i c (R0+k) j):=fun j hj=>by
        rw [← hst,show Nat.beq j ((R0+k)*s.cols.toNat+pCol s m c)=false by cases q:Nat.beq j ((R0+k)*s.cols.toNat+pCol s m c) with|false=>rfl|true=>exact (hj (Nat.eq_of_beq_eq_true q)).elim]
        rfl
       (repeat' (first|(refine ar_isq ?_;refine zq ?_)|refine zil (j:=(R0+k)*s.cols.toNat+pCol s m c) ?_|refine zis (j:=(R0+k)*s.cols.toNat+pCol s m c) ?_|refine zit (j:=(R0+k)*s.cols.toNat+pCol s m c) ?_|(refine ar_store_as (fun j=>vb (stRow s b g m i c (R0+k+1) j)) (ty rfl) rfl rfl rfl rfl rfl rfl (by omega) (by dsimp only;omega) (fun _ h=>by cases h) rfl rfl (fun _ h=>by cases h) hst1 (fun j _ hj=>hst2 j hj) ?_)|refine zst ?_|refine zco ?_ ?_|exact zd|(refine fun (hg:(_:Prop))=>?_;(try replace hg:=HG.out hg);(try dsimp only at hg);(try (have _h:True:=hg;clear _h hg)))))
       all_goals first
        | (exfalso;omega)
        | ((first|refine loop_next (by omega) ?_ ?_|refine (show _∧_∧SubOf _ _ _ _ _ _ from And.intro (by omega) (And.intro ?_ ?_)));(focus ((trivial);done));(focus (exact zsb [some 0,some 1] [])))
      ·(repeat' (first|(refine ar_isq ?_;refine zq ?_)|refine zst ?_|refine zco ?_ ?_|exact zd|(refine fun (hg:(_:Prop))=>?_;(try replace hg:=HG.out hg);(try dsimp only at hg);(try (have _h:True:=hg;clear _h hg)))))
       all_goals first
        | (exfalso;omega)
        | ((first|refine loop_next (by omega) ?_ ?_|refine (show _∧_∧SubOf _ _ _ _ _ _ from And.intro (by omega) (And.intro ?_ ?_)));(focus ((trivial);done));(focus ((refine sub_to [some 0,some 1] [] rfl ?_ ?_<;>(repeat' (first|exact trivial|refine ⟨⟨_,rfl,?_⟩,?_⟩|refine vs1 ?_ ?_|refine vs2 ?_ ?_|refine vs3 ?_|refine vs4 ?_ ?_|refine ⟨.inl ⟨_,_,rfl,rfl,?_⟩,?_⟩|exact ⟨.inr ⟨rfl,rfl⟩,trivial⟩|refine ⟨.inr ⟨rfl,rfl⟩,?_⟩|(intro _ _)|exact vz1|(exact VSub.of_eq (congrArg vb (stRow_end (hdiv _ (by assumption)) (by omega))) rfl)|exact vz2|fail)));done)))
    ·(repeat' (first|(refine ar_isq ?_;refine zq ?_)|refine zst ?_|refine zco ?_ ?_|exact zd|(refine fun (hg:(_:Prop))=>?_;(try replace hg:=HG.out hg);(try dsimp only at hg);(try (have _h:True:=hg;clear _h hg)))))
     all_goals first
      | (exfalso;omega)
      | ((first|refine loop_next (by omega) ?_ ?_|refine (show _∧_∧SubOf _ _ _ _ _ _ from And.intro (by omega) (And.intro ?_ ?_)));(focus ((trivial);done));(focus ((refine sub_to [some 0,some 1] [] rfl ?_ ?_<;>(repeat' (first|exact trivial|refine ⟨⟨_,rfl,?_⟩,?_⟩|refine vs1 ?_ ?_|refine vs2 ?_ ?_|refine vs3 ?_|refine vs4 ?_ ?_|refine ⟨.inl ⟨_,_,rfl,rfl,?_⟩,?_⟩|exact ⟨.inr ⟨rfl,rfl⟩,trivial⟩|refine ⟨.inr ⟨rfl,rfl⟩,?_⟩|(intro _ _)|exact vz1|(exact VSub.of_eq (congrArg vb (stCol_end (by omega) (by omega) hlti)) rfl)|exact vz2|fail)));done)))
   ·(repeat' (first|(refine ar_isq ?_;refine zq ?_)|refine zst ?_|refine zco ?_ ?_|exact zd|(refine fun (hg:(_:Prop))=>?_;(try replace hg:=HG.out hg);(try dsimp only at hg);(try (have _h:True:=hg;clear _h hg)))))
    all_goals first
     | (exfalso;omega)
     | ((refine aw_mono_r (env':=[(8,encBools (proofTo s b g m (s.rows.toNat*s.cols.toNat))),(9,vi 0)]) (H':=[]) ?_ ?_;(focus ((refine sub_to [] [1] rfl ?_ ?_<;>(repeat' (first|exact trivial|refine ⟨⟨_,rfl,?_⟩,?_⟩|refine vs1 ?_ ?_|refine vs2 ?_ ?_|refine vs3 ?_|refine vs4 ?_ ?_|refine ⟨.inl ⟨_,_,rfl,rfl,?_⟩,?_⟩|exact ⟨.inr ⟨rfl,rfl⟩,trivial⟩|refine ⟨.inr ⟨rfl,rfl⟩,?_⟩|(intro _ _)|exact vz1|(exact frz_as (by simp) rfl rfl (proofTo_len _ _ _ _ _) (fun j hj=>by rw [proofTo_el hj,stLine_end (by omega)]) (fun _=>rfl))|exact vz2|fail)));done)));(refine aw_ret ?_;(repeat (first|refine ret_then ?_|refine ret_block ?_));refine bq2 rfl rfl ⟨?_,rfl⟩);rfl)
 ·have he:=proofErr_check (g:=g) hce
  rw [proofF_bad (by omega),he]
  refine pcalls_of_aw Tryz.func30 rfl (dc rfl) ?_
  (repeat' (first|(refine ar_isq ?_;refine zq ?_)|(refine zpv fn58 (check_p s b) ?_)|refine zst ?_|refine zco ?_ ?_|exact zd|(refine fun (hg:(_:Prop))=>?_;(try replace hg:=HG.out hg);(try dsimp only at hg);(try (have _h:True:=hg;clear _h hg)))))
  all_goals first
   | (exfalso;omega)
   | ((refine aw_mono_r (env':=[(8,encBools []),(9,vi (checkErr s b))]) (H':=[]) ?_ ?_;(focus (exact zsb [] [])));(refine aw_ret ?_;(repeat (first|refine ret_then ?_|refine ret_block ?_));refine bq2 rfl rfl ⟨?_,rfl⟩);rfl)
theorem gapErr_check {s:Sheet}{b:List (List Int)}(h:checkErr s b≠0):gapErr s b=checkErr s b:=by simp [gapErr,h]
theorem gapErr_few {s:Sheet}{b:List (List Int)}(h:checkErr s b=0) (h2:b.length<2):gapErr s b=6:=by simp [gapErr,h,h2]
theorem gapErr_ok {s:Sheet}{b:List (List Int)}(h:checkErr s b=0) (h2:¬ b.length<2):gapErr s b=0:=by simp [gapErr,h,h2]
theorem gapF_bad {s:Sheet}{b:List (List Int)}(h:gapErr s b≠0):gapF s b=0:=by simp [gapF,h]
theorem gapF_ok {s:Sheet}{b:List (List Int)}(h:gapErr s b=0):gapF s b=gapTo s b (b.length-1):=by simp [gapF,h]
def encGap (s:Sheet) (b:List (List Int)):V:=.tup [vi (gapF s b),vi (gapErr s b)]
theorem gap_next {s:Sheet}{b:List (List Int)}{k c:Nat}{x y z:Int}(hx:x=gapRow s b k (gapTo s b k) c) (hy:y=el (el b (k+1)) c) (hz:z=el (el b k) c):min x (y-z-s.weight)=gapRow s b k (gapTo s b k) (c+1):=by
 subst hx hy hz
 rw [gapRow_succ,gapAt]
theorem lGap_p (s:Sheet) (b:List (List Int)):PCalls Tryz.prog 109 [s.enc,encRows b] (·=encGap s b):=by
 by_cases hce:checkErr s b=0
 ·by_cases h2:b.length<2
  ·have he:=gapErr_few hce h2
   rw [encGap,gapF_bad (by omega),he]
   refine pcalls_of_aw Tryz.func109 rfl (dc rfl) ?_
   (repeat' (first|(refine ar_isq ?_;refine zq ?_)|(refine zpv fn58 (check_p s b) ?_)|refine zcl ?_|refine zcs ?_|refine zst ?_|refine aw_drawn (id:=13) [(0,0),(1,0),(2,0),(3,0),(4,0),(5,0),(6,0),(7,0),(8,0),(9,0),(10,0),(11,0),(12,0),(13,0),(14,0)] mixed (by kernel_rfl) ?_|refine zco ?_ ?_|exact zd|(refine fun (hg:(_:Prop))=>?_;(try replace hg:=HG.out hg);(try dsimp only at hg);(try (have _h:True:=hg;clear _h hg)))))
   all_goals first
    | (exfalso;omega)
    | ((refine aw_ret ?_;(repeat (first|refine ret_then ?_|refine ret_block ?_));refine bq2 rfl rfl ⟨?_,rfl⟩);rfl)
  ·have he:=gapErr_ok hce h2
   rw [encGap,gapF_ok he,he]
   obtain ⟨hs,h12,hl⟩:=band_of_check hce
   have hbd:=Sheet.bounds hs
   refine pcalls_of_aw Tryz.func109 rfl (dc rfl) ?_
   (repeat' (first|(refine ar_isq ?_;refine zq ?_)|(refine zpv fn58 (check_p s b) ?_)|refine zcl (a:=1) (b:=b.length) ?_|refine zcs (a:=1) (b:=b.length) ?_|refine zst ?_|refine aw_drawn (id:=13) [(0,0),(1,0),(2,0),(3,0),(4,0),(5,0),(6,0),(7,0),(8,0),(9,0),(10,0),(11,0),(12,0),(13,0),(14,0)] mixed (by kernel_rfl) ?_|refine zco ?_ ?_|exact zd|(refine fun (hg:(_:Prop))=>?_;(try replace hg:=HG.out hg);(try dsimp only at hg);(try (have _h:True:=hg;clear _h hg)))))
   all_goals (try (exfalso;omega))
   refine aw_for (b.length-1) (fun _=>True) (fun k=>[(1,encRows b),(2,.ptr 5 0 0 0),(7,vi (gapTo s b k)),(24,.list 1 (b.length-1) (fun j=>encInts (el b (1+j)))),(25,vi ((b.length-1:Nat):Int)),(26,vi k)]) (fun _=>[.arr 5 1 (fun _=>s.enc)]) trivial ?_ ?_
   ·(exact zsb [some 0] [])
   intro k hk _
   by_cases hlt:k<b.length-1
   ·have e1:1+k=k+1:=Nat.add_comm _ _
    have ha1:=of_all_el hl (k:=1+k) (by omega)
    have ha0:=of_all_el hl (k:=k) (by omega)
    have hn1:=isLine_len ha1
    have hn0:=isLine_len ha0
    (repeat' (first|(refine ar_isq ?_;refine zq ?_)|refine zil (j:=k) ?_|refine zis (j:=k) ?_|refine zit (j:=k) ?_|refine zcl ?_|refine zcs ?_|refine zst ?_|refine aw_drawn (id:=13) [(0,0),(1,0),(2,0),(3,0),(4,0),(5,0),(6,0),(7,0),(8,0),(9,0),(10,0),(11,0),(12,0),(13,0),(14,0)] mixed (by kernel_rfl) ?_|refine zco ?_ ?_|exact zd|(refine fun (hg:(_:Prop))=>?_;(try replace hg:=HG.out hg);(try dsimp only at hg);(try (have _h:True:=hg;clear _h hg)))))
    all_goals (try (exfalso;omega))
    refine aw_for (el b (1+k)).length (fun _=>True) (fun c=>[(1,encRows b),(2,.ptr 5 0 0 0),(7,vi (gapRow s b k (gapTo s b k) c)),(8,vi k),(24,.list 1 (b.length-1) (fun j=>encInts (el b (1+j)))),(25,vi ((b.length-1:Nat):Int)),(26,vi k),(31,encInts (el b (1+k))),(32,vi (el b (1+k)).length),(33,vi c)]) (fun _=>[.arr 5 1 (fun _=>s.enc)]) trivial ?_ ?_
    ·(exact zsb [some 0] [])
    intro c hc _
    by_cases hltc:c<(el b (1+k)).length
    ·have hv1:=isLine_at ha1 (j:=c) (by omega)
     have hv0:=isLine_at ha0 (j:=c) (by omega)
     (repeat' (first|(refine ar_isq ?_;refine zq ?_)|refine zil (j:=c) ?_|refine zis (j:=c) ?_|refine zit (j:=c) ?_|refine zil (j:=k) ?_|refine zis (j:=k) ?_|refine zit (j:=k) ?_|refine zcl ?_|refine zcs ?_|refine zst ?_|refine aw_drawn (id:=13) [(0,0),(1,0),(2,0),(3,0),(4,0),(5,0),(6,0),(7,0),(8,0),(9,0),(10,0),(11,0),(12,0),(13,0),(14,0)] mixed (by kernel_rfl) ?_|refine zco ?_ ?_|exact zd|(refine fun (hg:(_:Prop))=>?_;(try replace hg:=HG.out hg);(try dsimp only at hg);(try (have _h:True:=hg;clear _h hg)))))
     all_goals first
      | (exfalso;omega)
      | ((first|refine loop_next (by omega) ?_ ?_|refine (show _∧_∧SubOf _ _ _ _ _ _ from And.intro (by omega) (And.intro ?_ ?_)));(focus ((trivial);done));(focus ((refine sub_to [some 0] [] rfl ?_ ?_<;>(repeat' (first|exact trivial|refine ⟨⟨_,rfl,?_⟩,?_⟩|refine vs1 ?_ ?_|refine vs2 ?_ ?_|refine vs3 ?_|refine vs4 ?_ ?_|refine ⟨.inl ⟨_,_,rfl,rfl,?_⟩,?_⟩|exact ⟨.inr ⟨rfl,rfl⟩,trivial⟩|refine ⟨.inr ⟨rfl,rfl⟩,?_⟩|(intro _ _)|exact vz1|(exact siEq (gap_next rfl (by rw [e1]) rfl))|exact vz2|fail)));done)))
    ·(repeat' (first|(refine ar_isq ?_;refine zq ?_)|refine zcl ?_|refine zcs ?_|refine zst ?_|refine aw_drawn (id:=13) [(0,0),(1,0),(2,0),(3,0),(4,0),(5,0),(6,0),(7,0),(8,0),(9,0),(10,0),(11,0),(12,0),(13,0),(14,0)] mixed (by kernel_rfl) ?_|refine zco ?_ ?_|exact zd|(refine fun (hg:(_:Prop))=>?_;(try replace hg:=HG.out hg);(try dsimp only at hg);(try (have _h:True:=hg;clear _h hg)))))
     all_goals first
      | (exfalso;omega)
      | (rw [gapTo_succ,show s.cols.toNat=c by omega];((first|refine loop_next (by omega) ?_ ?_|refine (show _∧_∧SubOf _ _ _ _ _ _ from And.intro (by omega) (And.intro ?_ ?_)));(focus ((trivial);done));(focus (exact zsb [some 0] []))))
   ·(repeat' (first|(refine ar_isq ?_;refine zq ?_)|refine zcl ?_|refine zcs ?_|refine zst ?_|refine aw_drawn (id:=13) [(0,0),(1,0),(2,0),(3,0),(4,0),(5,0),(6,0),(7,0),(8,0),(9,0),(10,0),(11,0),(12,0),(13,0),(14,0)] mixed (by kernel_rfl) ?_|refine zco ?_ ?_|exact zd|(refine fun (hg:(_:Prop))=>?_;(try replace hg:=HG.out hg);(try dsimp only at hg);(try (have _h:True:=hg;clear _h hg)))))
    all_goals first
     | (exfalso;omega)
     | ((refine aw_mono_r (env':=[(4,vi (gapTo s b k)),(5,vi 0)]) (H':=[]) ?_ ?_;(focus (exact zsb [] [])));(refine aw_ret ?_;(repeat (first|refine ret_then ?_|refine ret_block ?_));refine bq2 rfl rfl ⟨?_,rfl⟩);rw [show k=b.length-1 by omega];try rfl)
 ·have he:=gapErr_check hce
  rw [encGap,gapF_bad (by omega),he]
  refine pcalls_of_aw Tryz.func109 rfl (dc rfl) ?_
  (repeat' (first|(refine ar_isq ?_;refine zq ?_)|(refine zpv fn58 (check_p s b) ?_)|refine zcl ?_|refine zcs ?_|refine zst ?_|refine aw_drawn (id:=13) [(0,0),(1,0),(2,0),(3,0),(4,0),(5,0),(6,0),(7,0),(8,0),(9,0),(10,0),(11,0),(12,0),(13,0),(14,0)] mixed (by kernel_rfl) ?_|refine zco ?_ ?_|exact zd|(refine fun (hg:(_:Prop))=>?_;(try replace hg:=HG.out hg);(try dsimp only at hg);(try (have _h:True:=hg;clear _h hg)))))
  all_goals first
   | (exfalso;omega)
   | ((refine aw_ret ?_;(repeat (first|refine ret_then ?_|refine ret_block ?_));refine bq2 rfl rfl ⟨?_,rfl⟩);rfl)
theorem lastErr_gap {s:Sheet}{b:List (List Int)}{per:Int}(h:gapErr s b≠0):lastErr s b per=gapErr s b:=by simp [lastErr,h]
theorem lastErr_arg {s:Sheet}{b:List (List Int)}{per:Int}(h:gapErr s b=0) (h2:withinB per 1 1000=false):lastErr s b per=2:=by simp [lastErr,h,h2]
theorem lastErr_none {s:Sheet}{b:List (List Int)}{per:Int}(h:gapErr s b=0) (h2:withinB per 1 1000=true) (h3:gapF s b=0):lastErr s b per=6:=by simp [lastErr,h,h2,h3]
theorem lastErr_ok {s:Sheet}{b:List (List Int)}{per:Int}(h:gapErr s b=0) (h2:withinB per 1 1000=true) (h3:gapF s b≠0):lastErr s b per=0:=by simp [lastErr,h,h2,h3]
theorem lastF_bad {s:Sheet}{b:List (List Int)}{per:Int}(h:lastErr s b per≠0):lastF s b per=0:=by simp [lastF,h]
theorem lastF_ok {s:Sheet}{b:List (List Int)}{per:Int}(h:lastErr s b per=0):lastF s b per=(gapF s b+1)/2*per-1:=by simp [lastF,h]
def encLast (s:Sheet) (b:List (List Int)) (per:Int):V:=.tup [vi (lastF s b per),vi (lastErr s b per)]
theorem last_bnd {g p:Int}(hg:1≤g∧g≤60) (hp:1≤p∧p≤1000):1≤(g+1)/2*p∧(g+1)/2*p≤30000:=by
 have h1:1≤(g+1)/2∧(g+1)/2≤30:=by omega
 constructor
 ·have:=Int.mul_le_mul h1.1 hp.1 (by omega) (by omega)
  omega
 ·have:=Int.mul_le_mul h1.2 hp.2 (by omega) (by omega)
  omega
theorem lLasts_p (s:Sheet) (b:List (List Int)) (per:Int):PCalls Tryz.prog 64 [s.enc,encRows b,vi per] (·=encLast s b per):=by
 by_cases hge:gapErr s b=0
 ·cases hp:withinB per 1 1000
  ·have he:=lastErr_arg hge hp
   rw [encLast,lastF_bad (by omega),he]
   refine pcalls_of_aw Tryz.func64 rfl (dc rfl) ?_
   (repeat' (first|(refine ar_isq ?_;refine zq ?_)|(refine zpv fn109 (lGap_p s b) ?_)|(refine ar_pcall (own:=true) fn59 rfl rfl (.cons (.closed rfl) (.cons (.closed rfl) (.cons (.lent rfl rfl (by omega) (fun _ _=>rfl) (fun k hk=>match k,hk with|0,_=>rfl)) .nil))) (from1_p 1 1000 per) (by intros;subst_vars;rfl) (dc rfl) ?_;intro _ hv;subst hv)|refine zst ?_|refine zco ?_ ?_|exact zd|(refine fun (hg:(_:Prop))=>?_;(try replace hg:=HG.out hg);(try dsimp only at hg);(try (have _h:True:=hg;clear _h hg)))))
   all_goals first
    | (exfalso;simp_all;done)
    | ((refine aw_ret ?_;(repeat (first|refine ret_then ?_|refine ret_block ?_));refine bq2 rfl rfl ⟨?_,rfl⟩);rfl)
  ·obtain ⟨hce,h2,hg0,hg60⟩:=gap_ok hge
   have hpb:=withinB_iff.1 hp
   by_cases hz:gapF s b=0
   ·have he:=lastErr_none hge hp hz
    rw [encLast,lastF_bad (by omega),he]
    refine pcalls_of_aw Tryz.func64 rfl (dc rfl) ?_
    (repeat' (first|(refine ar_isq ?_;refine zq ?_)|(refine zpv fn109 (lGap_p s b) ?_)|(refine ar_pcall (own:=true) fn59 rfl rfl (.cons (.closed rfl) (.cons (.closed rfl) (.cons (.lent rfl rfl (by omega) (fun _ _=>rfl) (fun k hk=>match k,hk with|0,_=>rfl)) .nil))) (from1_p 1 1000 per) (by intros;subst_vars;rfl) (dc rfl) ?_;intro _ hv;subst hv)|refine zst ?_|refine zco ?_ ?_|exact zd|(refine fun (hg:(_:Prop))=>?_;(try replace hg:=HG.out hg);(try dsimp only at hg);(try (have _h:True:=hg;clear _h hg)))))
    all_goals first
     | (exfalso;simp_all;done)
     | ((refine aw_ret ?_;(repeat (first|refine ret_then ?_|refine ret_block ?_));refine bq2 rfl rfl ⟨?_,rfl⟩);rfl)
   ·have he:=lastErr_ok hge hp hz
    rw [encLast,lastF_ok he,he]
    have hlb:=last_bnd (g:=gapF s b) (p:=per) (by omega) hpb
    refine pcalls_of_aw Tryz.func64 rfl (dc rfl) ?_
    (repeat' (first|(refine ar_isq ?_;refine zq ?_)|(refine zpv fn109 (lGap_p s b) ?_)|(refine ar_pcall (own:=true) fn59 rfl rfl (.cons (.closed rfl) (.cons (.closed rfl) (.cons (.lent rfl rfl (by omega) (fun _ _=>rfl) (fun k hk=>match k,hk with|0,_=>rfl)) .nil))) (from1_p 1 1000 per) (by intros;subst_vars;rfl) (dc rfl) ?_;intro _ hv;subst hv)|refine zst ?_|refine zco ?_ ?_|exact zd|(refine fun (hg:(_:Prop))=>?_;(try replace hg:=HG.out hg);(try dsimp only at hg);(try (have _h:True:=hg;clear _h hg)))))
    all_goals first
     | (exfalso;simp_all;done)
     | ((refine aw_ret ?_;(repeat (first|refine ret_then ?_|refine ret_block ?_));refine bq2 rfl rfl ⟨?_,rfl⟩);rfl)
 ·have he:=lastErr_gap (per:=per) hge
  rw [encLast,lastF_bad (by omega),he]
  refine pcalls_of_aw Tryz.func64 rfl (dc rfl) ?_
  (repeat' (first|(refine ar_isq ?_;refine zq ?_)|(refine zpv fn109 (lGap_p s b) ?_)|refine zst ?_|refine zco ?_ ?_|exact zd|(refine fun (hg:(_:Prop))=>?_;(try replace hg:=HG.out hg);(try dsimp only at hg);(try (have _h:True:=hg;clear _h hg)))))
  all_goals first
   | (exfalso;omega)
   | ((refine aw_ret ?_;(repeat (first|refine ret_then ?_|refine ret_block ?_));refine bq2 rfl rfl ⟨?_,rfl⟩);rfl)
theorem usedI_yes {l:List Itm}{i:Int}{k:Nat}(h:(el l k).src=i):usedI l i (k+1)=usedI l i k+1:=cntB_yes (by simpa using h)
theorem usedI_no {l:List Itm}{i:Int}{k:Nat}(h:¬ (el l k).src=i):usedI l i (k+1)=usedI l i k:=cntB_no (by simpa using h)
theorem usedP_yes {l:List Prt}{i:Int}{k:Nat}(h:(el l k).plate=i):usedP l i (k+1)=usedP l i k+1:=cntB_yes (by simpa using h)
theorem usedP_no {l:List Prt}{i:Int}{k:Nat}(h:¬ (el l k).plate=i):usedP l i (k+1)=usedP l i k:=cntB_no (by simpa using h)
theorem usedI_bnd (l:List Itm) (i:Int) (k:Nat):0≤usedI l i k∧usedI l i k≤k:=cntB_bnd k
theorem usedP_bnd (l:List Prt) (i:Int) (k:Nat):0≤usedP l i k∧usedP l i k≤k:=cntB_bnd k
def stoV (b:Nat) (s:Sto):V:=.agg [vi s.life,.sl 5 (b+1) 0 s.items.length,.sl 2 (b+2) 0 s.prints.length,.map (b+3)]
def stoB (b:Nat) (s:Sto) (m:List (Int × Int)):Heap:=[.arr 4 1 (fun _=>stoV b s),LB 5 Itm.enc s.items,LB 2 Prt.enc s.prints,mapE vi m]
theorem stoB_ren {s:Sto}{m:List (Int × Int)}{n:Nat}:(stoB 0 s m).map (Blk.ren (rn [] n))=stoB n s m:=by
 have e:entsE vi m=(entsE vi m).map fun p=>(p.1,p.2.ren (rn [] n)):=by
  unfold entsE
  rw [List.map_map]
  exact List.map_congr_left fun p _=>rfl
 have e2:mapE vi m=(mapE vi m).ren (rn [] n):=congrArg Blk.map e
 show _::_::_::[_]=_::_::_::[_]
 rw [← e2]
 rfl
theorem fromB_one {lo hi n:Int}:fromB lo hi [n]=withinB n lo hi:=by simp [fromB]
def AllPlaced (l:List Itm):Prop:=∀ i,i<l.length→PlacedTo l i i
theorem cloneI_p (l:List Itm) (hl:l.length≤1000):FCalls Tryz.prog 114 [encItems l] 5 (fun n f=>n=l.length∧∀ i,i<n→f i=Itm.enc (el l i)):=by
 refine fcalls_of_aw Tryz.func114 rfl (dc rfl) ?_
 (repeat' (first|(refine ar_isq ?_;refine zq ?_)|(refine ar_eqnil (ty rfl) rfl rfl rfl (dc rfl) ?_;intro bq hbq)|refine zst ?_|refine zco ?_ ?_|exact zd|(refine fun (hg:(_:Prop))=>?_;(try replace hg:=HG.out hg);(try dsimp only at hg);(try (have _h:True:=hg;clear _h hg)))))
 ·have h0:=hbq (by assumption)
  (refine aw_mono_r (env':=[(2,.sl 5 0 0 0)]) (H':=[.arr 5 0 (fun _=>vi 0)]) ?_ ?_;(focus (exact zsb [none] [])))
  refine aw_ret (ret_then (bq1 rfl ⟨0,_,rfl,rfl,⟨by omega,fun i hi=>by omega⟩,fun i hi=>by omega⟩))
 ·refine aw_ret (bq1 rfl ⟨0+l.length,_,rfl,rfl,⟨Nat.zero_add _,fun i hi=>by rw [appF_ge (Nat.zero_le _),Nat.sub_zero]⟩,fun i hi=>by rw [appF_ge (Nat.zero_le _)];rfl⟩)
theorem cloneP_p (l:List Prt) (hl:l.length≤1000):FCalls Tryz.prog 115 [encPrints l] 2 (fun n f=>n=l.length∧∀ i,i<n→f i=Prt.enc (el l i)):=by
 refine fcalls_of_aw Tryz.func115 rfl (dc rfl) ?_
 (repeat' (first|(refine ar_isq ?_;refine zq ?_)|(refine ar_eqnil (ty rfl) rfl rfl rfl (dc rfl) ?_;intro bq hbq)|refine zst ?_|refine zco ?_ ?_|exact zd|(refine fun (hg:(_:Prop))=>?_;(try replace hg:=HG.out hg);(try dsimp only at hg);(try (have _h:True:=hg;clear _h hg)))))
 ·have h0:=hbq (by assumption)
  (refine aw_mono_r (env':=[(2,.sl 2 0 0 0)]) (H':=[.arr 2 0 (fun _=>vi 0)]) ?_ ?_;(focus (exact zsb [none] [])))
  refine aw_ret (ret_then (bq1 rfl ⟨0,_,rfl,rfl,⟨by omega,fun i hi=>by omega⟩,fun i hi=>by omega⟩))
 ·refine aw_ret (bq1 rfl ⟨0+l.length,_,rfl,rfl,⟨Nat.zero_add _,fun i hi=>by rw [appF_ge (Nat.zero_le _),Nat.sub_zero]⟩,fun i hi=>by rw [appF_ge (Nat.zero_le _)];rfl⟩)
def OpenR (s:Sto) (v:V) (H:Heap):Prop:=(v=.tup [.ptr 4 0 0 0,vb true]∧H=stoB 0 s (pressTo s.items s.items.length)∧AllPlaced s.items)∨(v=.tup [.s (.pointer none),vb false]∧H=[]∧¬ AllPlaced s.items)
theorem open_p (s:Sto) (hn:s.items.length≤30) (hm:s.prints.length≤400):ACalls Tryz.prog 105 [s.enc] [] (OpenR s) NoP:=by
  refine acalls_of_aw Tryz.func105 rfl (dc rfl) ?_
  (repeat' (first|(refine ar_isq ?_;refine zq ?_)|(refine zbt ?_)|refine ar_makeMap (dc rfl) ?_|(refine ar_fcall fn114 rfl rfl (.cons (.closed rfl) .nil) (cloneI_p s.items (by omega)) (dc rfl) ?_;rintro n0 g0 ⟨rfl,hg0⟩)|(refine ar_fcall fn115 rfl rfl (.cons (.closed rfl) .nil) (cloneP_p s.prints (by omega)) (dc rfl) ?_;rintro n1 g1 ⟨rfl,hg1⟩)|refine zg ?_ ?_|refine zgu ?_|refine ar_forkL ?_ ?_|refine ar_lq rfl ?_|refine zst ?_|refine aw_fork (id:=1) [[(9,1),(4,1),(7,1),(8,0),(10,0),(11,1),(12,0)],[(9,1),(7,1),(8,0),(10,0),(11,1),(12,0)]] [(0,0),(1,0),(2,0),(3,0),(5,0),(6,0),(0,3),(4,1),(1,3),(7,1),(8,0),(9,1),(10,0),(11,1),(12,0)] mixed (by kernel_rfl) ?_|refine aw_drawn (id:=8) [(0,0),(1,0),(2,0),(3,0),(4,0),(5,0),(6,0),(7,0),(8,0),(9,0),(10,0),(11,0)] mixed (by kernel_rfl) ?_|refine aw_drawn (id:=11) [(0,0),(1,0),(2,0),(3,0),(4,0),(5,0),(6,0),(7,2)] mixed (by kernel_rfl) ?_|refine zco ?_ ?_|exact zd|(refine fun (hg:(_:Prop))=>?_;(try replace hg:=HG.out hg);(try dsimp only at hg);(try (have _h:True:=hg;clear _h hg)))))
  all_goals (
    refine aw_for s.items.length (fun k=>∀ j,j<k→PlacedTo s.items j j) (fun k=>[(1,.ptr 3 0 0 0),(4,.ptr 4 1 0 0),(22,encItems s.items),(23,vi s.items.length),(24,vi k)]) (fun k=>[.arr 3 1 (fun _=>s.enc),.arr 4 1 (fun _=>stoV 1 s),LB 5 Itm.enc s.items,LB 2 Prt.enc s.prints,mapE vi (pressTo s.items k)]) (fun j hj=>by omega) ?_ ?_
    · first
        | ((refine sub_to [some 0,some 4,some 1,some 2,some 3] [] rfl ?_ ?_<;>(repeat' (first|exact trivial|refine ⟨⟨_,rfl,?_⟩,?_⟩|refine vs1 ?_ ?_|refine vs2 ?_ ?_|refine vs3 ?_|refine vs4 ?_ ?_|refine ⟨.inl ⟨_,_,rfl,rfl,?_⟩,?_⟩|exact ⟨.inr ⟨rfl,rfl⟩,trivial⟩|refine ⟨.inr ⟨rfl,rfl⟩,?_⟩|(intro _ _)|exact vz1|(first|exact VSub.of_eq (hg0 _ (by assumption)) rfl|exact VSub.of_eq (hg1 _ (by assumption)) rfl|refine ⟨bsub_mapE rfl rfl (fun _=>rfl),?_⟩|exact VSub.aggL ⟨.closed rfl,.sl rfl,.sl rfl,.map rfl,trivial⟩)|exact vz2|fail)));done)
        | ((refine sub_to [some 0,some 4,some 1,some 3,some 2] [] rfl ?_ ?_<;>(repeat' (first|exact trivial|refine ⟨⟨_,rfl,?_⟩,?_⟩|refine vs1 ?_ ?_|refine vs2 ?_ ?_|refine vs3 ?_|refine vs4 ?_ ?_|refine ⟨.inl ⟨_,_,rfl,rfl,?_⟩,?_⟩|exact ⟨.inr ⟨rfl,rfl⟩,trivial⟩|refine ⟨.inr ⟨rfl,rfl⟩,?_⟩|(intro _ _)|exact vz1|(first|exact VSub.of_eq (hg0 _ (by assumption)) rfl|exact VSub.of_eq (hg1 _ (by assumption)) rfl|refine ⟨bsub_mapE rfl rfl (fun _=>rfl),?_⟩|exact VSub.aggL ⟨.closed rfl,.sl rfl,.sl rfl,.map rfl,trivial⟩)|exact vz2|fail)));done)
        | ((refine sub_to [some 0,some 4,some 2,some 1,some 3] [] rfl ?_ ?_<;>(repeat' (first|exact trivial|refine ⟨⟨_,rfl,?_⟩,?_⟩|refine vs1 ?_ ?_|refine vs2 ?_ ?_|refine vs3 ?_|refine vs4 ?_ ?_|refine ⟨.inl ⟨_,_,rfl,rfl,?_⟩,?_⟩|exact ⟨.inr ⟨rfl,rfl⟩,trivial⟩|refine ⟨.inr ⟨rfl,rfl⟩,?_⟩|(intro _ _)|exact vz1|(first|exact VSub.of_eq (hg0 _ (by assumption)) rfl|exact VSub.of_eq (hg1 _ (by assumption)) rfl|refine ⟨bsub_mapE rfl rfl (fun _=>rfl),?_⟩|exact VSub.aggL ⟨.closed rfl,.sl rfl,.sl rfl,.map rfl,trivial⟩)|exact vz2|fail)));done)
        | ((refine sub_to [some 0,some 4,some 2,some 3,some 1] [] rfl ?_ ?_<;>(repeat' (first|exact trivial|refine ⟨⟨_,rfl,?_⟩,?_⟩|refine vs1 ?_ ?_|refine vs2 ?_ ?_|refine vs3 ?_|refine vs4 ?_ ?_|refine ⟨.inl ⟨_,_,rfl,rfl,?_⟩,?_⟩|exact ⟨.inr ⟨rfl,rfl⟩,trivial⟩|refine ⟨.inr ⟨rfl,rfl⟩,?_⟩|(intro _ _)|exact vz1|(first|exact VSub.of_eq (hg0 _ (by assumption)) rfl|exact VSub.of_eq (hg1 _ (by assumption)) rfl|refine ⟨bsub_mapE rfl rfl (fun _=>rfl),?_⟩|exact VSub.aggL ⟨.closed rfl,.sl rfl,.sl rfl,.map rfl,trivial⟩)|exact vz2|fail)));done)
        | ((refine sub_to [some 0,some 4,some 3,some 1,some 2] [] rfl ?_ ?_<;>(repeat' (first|exact trivial|refine ⟨⟨_,rfl,?_⟩,?_⟩|refine vs1 ?_ ?_|refine vs2 ?_ ?_|refine vs3 ?_|refine vs4 ?_ ?_|refine ⟨.inl ⟨_,_,rfl,rfl,?_⟩,?_⟩|exact ⟨.inr ⟨rfl,rfl⟩,trivial⟩|refine ⟨.inr ⟨rfl,rfl⟩,?_⟩|(intro _ _)|exact vz1|(first|exact VSub.of_eq (hg0 _ (by assumption)) rfl|exact VSub.of_eq (hg1 _ (by assumption)) rfl|refine ⟨bsub_mapE rfl rfl (fun _=>rfl),?_⟩|exact VSub.aggL ⟨.closed rfl,.sl rfl,.sl rfl,.map rfl,trivial⟩)|exact vz2|fail)));done)
        | ((refine sub_to [some 0,some 4,some 3,some 2,some 1] [] rfl ?_ ?_<;>(repeat' (first|exact trivial|refine ⟨⟨_,rfl,?_⟩,?_⟩|refine vs1 ?_ ?_|refine vs2 ?_ ?_|refine vs3 ?_|refine vs4 ?_ ?_|refine ⟨.inl ⟨_,_,rfl,rfl,?_⟩,?_⟩|exact ⟨.inr ⟨rfl,rfl⟩,trivial⟩|refine ⟨.inr ⟨rfl,rfl⟩,?_⟩|(intro _ _)|exact vz1|(first|exact VSub.of_eq (hg0 _ (by assumption)) rfl|exact VSub.of_eq (hg1 _ (by assumption)) rfl|refine ⟨bsub_mapE rfl rfl (fun _=>rfl),?_⟩|exact VSub.aggL ⟨.closed rfl,.sl rfl,.sl rfl,.map rfl,trivial⟩)|exact vz2|fail)));done)
    clear hg0 hg1 g0 g1
    intro k hk hJ
    by_cases hlt:k<s.items.length
    · 
      (repeat' (first|(refine ar_isq ?_;refine zq ?_)|refine zil (j:=k) ?_|refine zis (j:=k) ?_|refine zit (j:=k) ?_|(refine zbt ?_)|(((refine ar_subk_l (sub_frzL (t:=31) vi ([(el s.items k).place]) rfl rfl rfl rfl (fun _ _=>rfl) (fun _=>rfl)) ?_);refine zpv fn59 (from_p _ _ [(el s.items k).place]) ?_))|refine ar_buildLE vi ([(el s.items k).place]) (by exact ty rfl) (by exact rfl) (by exact ty rfl) (by exact rfl) (by exact rfl) (by exact Nat.succ_pos _) (by exact rfl) (by exact dc rfl) (by exact rfl) (by exact fun _=>⟨rfl,rfl⟩) (by exact dc rfl) ?_|(refine ar_lookup (e:=vi) (ty rfl) rfl (ty rfl) rfl (ty rfl) rfl rfl rfl (dc rfl) ?_ ?_<;>intros)|refine ar_mapUpdate (e:=vi) (v:=(k:Int)) (ty rfl) rfl (ty rfl) rfl rfl rfl rfl rfl ?_|refine zg ?_ ?_|refine zgu ?_|refine ar_forkL ?_ ?_|refine ar_lq rfl ?_|refine zst ?_|refine aw_fork (id:=1) [[(9,1),(4,1),(7,1),(8,0),(10,0),(11,1),(12,0)],[(9,1),(7,1),(8,0),(10,0),(11,1),(12,0)]] [(0,0),(1,0),(2,0),(3,0),(5,0),(6,0),(0,3),(4,1),(1,3),(7,1),(8,0),(9,1),(10,0),(11,1),(12,0)] mixed (by kernel_rfl) ?_|refine aw_drawn (id:=8) [(0,0),(1,0),(2,0),(3,0),(4,0),(5,0),(6,0),(7,0),(8,0),(9,0),(10,0),(11,0)] mixed (by kernel_rfl) ?_|refine aw_drawn (id:=11) [(0,0),(1,0),(2,0),(3,0),(4,0),(5,0),(6,0),(7,2)] mixed (by kernel_rfl) ?_|refine zco ?_ ?_|(refine fun (hg:(_:Prop))=>?_;first|exact absurd hg (by decide)|((try replace hg:=HG.out hg);(try dsimp only at hg);(try rw [fromB_one] at hg);(try rw [withinB_iff] at hg);(try rw [withinB_no] at hg);(try (have _h:True:=hg;clear _h hg));first|(exfalso;omega)|skip))))
      all_goals first
        | (exfalso;omega)
        | (exfalso;simp at *;done)
        | ((refine aw_mono_r (env':=[(2,.s (.pointer none)),(3,vb false)]) (H':=[]) ?_ ?_;(focus (exact zsb [] [])));refine aw_ret ?_;(repeat (first|refine ret_then ?_|refine ret_block ?_));refine bq2 rfl rfl (.inr ⟨rfl,rfl,fun h=>?_⟩);have hp:=h k hlt;unfold PlacedTo at hp;omega)
        | ((refine aw_mono_r (env':=[(2,.s (.pointer none)),(3,vb false)]) (H':=[]) ?_ ?_;(focus (exact zsb [] [])));refine aw_ret ?_;(repeat (first|refine ret_then ?_|refine ret_block ?_));refine bq2 rfl rfl (.inr ⟨rfl,rfl,fun h=>?_⟩);have hp:=h k hlt;unfold PlacedTo at hp;simp_all;done)
        | ((refine aw_mono_r (env':=[(2,.s (.pointer none)),(3,vb false)]) (H':=[]) ?_ ?_;(focus (exact zsb [] [])));refine aw_ret ?_;(repeat (first|refine ret_then ?_|refine ret_block ?_));refine bq2 rfl rfl (.inr ⟨rfl,rfl,fun h=>?_⟩);have hp:=h k hlt;unfold PlacedTo at hp;obtain ⟨q1,q,q2,q3⟩:=press_taken hJ (by assumption);exact (hp.2.2 q1).2 q q2 (by omega) q3)
        | ((first|refine loop_next (by omega) ?_ ?_|refine (show _∧_∧SubOf _ _ _ _ _ _ from And.intro (by omega) (And.intro ?_ ?_)));(focus (((refine all_step hJ ⟨by omega,fun hh=>?_,fun hh=>⟨by omega,?_⟩⟩;(focus first|omega|simp_all);(focus exact fun j hj _=>press_free hJ hh (by assumption) j hj)));done));(focus ((refine sub_to [some 0,some 1,some 2,some 3,some 4] [] rfl ?_ ?_<;>(repeat' (first|exact trivial|refine ⟨⟨_,rfl,?_⟩,?_⟩|refine vs1 ?_ ?_|refine vs2 ?_ ?_|refine vs3 ?_|refine vs4 ?_ ?_|refine ⟨.inl ⟨_,_,rfl,rfl,?_⟩,?_⟩|exact ⟨.inr ⟨rfl,rfl⟩,trivial⟩|refine ⟨.inr ⟨rfl,rfl⟩,?_⟩|(intro _ _)|exact vz1|(first|refine ⟨bsub_mapE' rfl rfl (pressTo_yes (by omega)) (fun _=>rfl),?_⟩|exact VSub.aggL ⟨.closed rfl,.sl rfl,.sl rfl,.map rfl,trivial⟩)|exact vz2|fail)));done)))
        | ((first|refine loop_next (by omega) ?_ ?_|refine (show _∧_∧SubOf _ _ _ _ _ _ from And.intro (by omega) (And.intro ?_ ?_)));(focus (((refine all_step hJ ⟨by omega,fun hh=>?_,fun hh=>absurd hh (by omega)⟩;first|omega|simp_all));done));(focus ((refine sub_to [some 0,some 1,some 2,some 3,some 4] [] rfl ?_ ?_<;>(repeat' (first|exact trivial|refine ⟨⟨_,rfl,?_⟩,?_⟩|refine vs1 ?_ ?_|refine vs2 ?_ ?_|refine vs3 ?_|refine vs4 ?_ ?_|refine ⟨.inl ⟨_,_,rfl,rfl,?_⟩,?_⟩|exact ⟨.inr ⟨rfl,rfl⟩,trivial⟩|refine ⟨.inr ⟨rfl,rfl⟩,?_⟩|(intro _ _)|exact vz1|(first|refine ⟨bsub_mapE' rfl rfl (pressTo_no (by omega)) (fun _=>rfl),?_⟩|exact VSub.aggL ⟨.closed rfl,.sl rfl,.sl rfl,.map rfl,trivial⟩)|exact vz2|fail)));done)))
        | trace_state
    · 
      (repeat' (first|(refine ar_isq ?_;refine zq ?_)|(refine zbt ?_)|refine zg ?_ ?_|refine zgu ?_|refine ar_forkL ?_ ?_|refine ar_lq rfl ?_|refine zst ?_|refine aw_fork (id:=1) [[(9,1),(4,1),(7,1),(8,0),(10,0),(11,1),(12,0)],[(9,1),(7,1),(8,0),(10,0),(11,1),(12,0)]] [(0,0),(1,0),(2,0),(3,0),(5,0),(6,0),(0,3),(4,1),(1,3),(7,1),(8,0),(9,1),(10,0),(11,1),(12,0)] mixed (by kernel_rfl) ?_|refine aw_drawn (id:=8) [(0,0),(1,0),(2,0),(3,0),(4,0),(5,0),(6,0),(7,0),(8,0),(9,0),(10,0),(11,0)] mixed (by kernel_rfl) ?_|refine aw_drawn (id:=11) [(0,0),(1,0),(2,0),(3,0),(4,0),(5,0),(6,0),(7,2)] mixed (by kernel_rfl) ?_|refine zco ?_ ?_|exact zd|(refine fun (hg:(_:Prop))=>?_;(try replace hg:=HG.out hg);(try dsimp only at hg);(try (have _h:True:=hg;clear _h hg)))))
      all_goals first
        | (exfalso;omega)
        | (obtain rfl:k=s.items.length:=by omega
           (refine aw_mono_r (env':=[(2,.ptr 4 0 0 0),(3,vb true)]) (H':=[.arr 4 1 (fun _=>stoV 0 s),LB 5 Itm.enc s.items,LB 2 Prt.enc s.prints,mapE vi (pressTo s.items s.items.length)]) ?_ ?_;(focus (exact zsc [some 1,some 2,some 3,some 4] [])))
           refine aw_ret (bq2 rfl rfl (.inl ⟨rfl,rfl,hJ⟩)))
        | trace_state)
end Go.Proofs.YtbilpbabdgfblaaGreat
-- old go
namespace Go.Proofs.YtbilpbabdgfblaaGreat
open Go.RowKit
def Screen.ok (c:Screen):Bool:=withinB c.period 2 16&&withinB c.phase 0 (c.period-1)
theorem Screen.bounds {c:Screen}(h:c.ok=true):2≤c.period∧c.period≤16∧0≤c.phase∧c.phase≤c.period-1:=by
 simp only [Screen.ok,Bool.and_eq_true,withinB_iff] at h
 omega
def fitB (s:Sheet) (c:Screen) (i:Nat):Bool:=decide (c.phase+(i:Int)*c.period+c.period≤s.rows)
def cntF (s:Sheet) (c:Screen):Nat:=match (List.range 12).find? (fun i=>!fitB s c i) with|some i=>i|none=>12
theorem cntF_le (s:Sheet) (c:Screen):cntF s c≤12:=by
 unfold cntF
 split
 ·rename_i i h
  have:=List.mem_of_find?_eq_some h
  simp at this
  omega
 ·omega
theorem cntF_in {s:Sheet}{c:Screen}{j:Nat}(h:j<cntF s c):c.phase+(j:Int)*c.period+c.period≤s.rows:=by
 have h12:=cntF_le s c
 unfold cntF at h
 split at h
 ·rename_i i hf
  rw [List.find?_range_eq_some] at hf
  have:=hf.2.2 j h
  simpa [fitB] using this
 ·rename_i hf
  rw [List.find?_eq_none] at hf
  have:=hf j (by simp;omega)
  simpa [fitB] using this
theorem cntF_out {s:Sheet}{c:Screen}(h:cntF s c<12):¬ (c.phase+(cntF s c:Int)*c.period+c.period≤s.rows):=by
 unfold cntF at h ⊢
 split at h
 ·rename_i i hf
  have:=List.find?_some hf
  simpa [fitB] using this
 ·omega
theorem mulP {c:Screen}(hc:c.ok=true) {k:Nat}(hk:k≤12):0≤(k:Int)*c.period∧(k:Int)*c.period≤192:=by
 have hb:=Screen.bounds hc
 refine ⟨Int.mul_nonneg (by omega) (by omega),?_⟩
 have h1:(k:Int)*c.period≤12*16:=Int.mul_le_mul (by omega) (by omega) (by omega) (by omega)
 omega
theorem isScreen_p (c:Screen):PCalls Tryz.prog 66 [c.enc] (·=vb c.ok):=by
 refine pcalls_of_aw Tryz.func66 rfl (dc rfl) ?_
 (repeat' (first|refine ar_q (qs_move rfl) (dc rfl) ?_|refine ar_q (qs_assign rfl) (dc rfl) ?_|refine ar_q (qs_load_ptr (ty rfl) rfl rfl (by first|exact Nat.one_pos|assumption|omega) rfl) (dc rfl) ?_|refine ar_q (qs_load_ref (ty rfl) rfl rfl) (dc rfl) ?_|refine ar_q (qs_sub rfl rfl (wrap64 (by omega))) (dc rfl) ?_|refine ar_q (qs_faddr_ptr (ty rfl) rfl rfl (ty rfl) (Nat.succ_ne_zero _) rfl) (dc rfl) ?_|refine ar_q (qs_faddr_ref (ty rfl) rfl rfl (ty rfl) (Nat.succ_ne_zero _) rfl) (dc rfl) ?_|refine ar_q (qs_pick_t rfl rfl) (dc rfl) ?_|refine ar_q (qs_pick_f rfl rfl) (dc rfl) ?_|(refine zpv fn70 (within_p _ _ _) ?_)|refine ar_boxf rfl rfl (dc rfl) ?_|(refine ar_guard rfl rfl rfl rfl (dc rfl) ?_ ?_<;>intro hg<;>first|exact absurd hg (by decide)|((try simp only [Bool.not_eq_true',Bool.not_eq_false',Bool.not_true,Bool.not_false,decide_eq_true_eq,decide_eq_false_iff_not,not_true_eq_false,Int.not_lt,Int.not_le,withinB_iff,withinB_no] at hg);(try (have _h:True:=hg;clear _h hg));first|(exfalso;omega)|skip))|refine ar_guard_u rfl rfl rfl rfl (dc rfl) ?_|refine zst ?_|(refine aw_cond rfl ?_ ?_<;>intro hg<;>first|exact absurd hg (by decide)|((try simp only [Bool.not_eq_true',Bool.not_eq_false',Bool.not_true,Bool.not_false,decide_eq_true_eq,decide_eq_false_iff_not,not_true_eq_false,Int.not_lt,Int.not_le,withinB_iff,withinB_no] at hg);(try (have _h:True:=hg;clear _h hg));first|(exfalso;omega)|skip))))
 all_goals (refine aw_ret ?_;(repeat (first|refine ret_then ?_|refine ret_block ?_));refine bq1 rfl ⟨?_,rfl⟩)
 all_goals (simp only [vb,constV,Screen.ok,withinB];congr 2;simp;try omega)
end Go.Proofs.YtbilpbabdgfblaaGreat
namespace Go.Proofs.YtbilpbabdgfblaaGreat.It
open Go.RowKit
def rowEl (c:Screen) (k:Nat):List Value:=[.int .i64 k,.int .i64 (c.phase+(k:Int)*c.period)]
theorem rows_iter (s:Sheet) (hs:s.ok=true) (c:Screen) (hc:c.ok=true):Iter Tryz.prog 110 [.ref c.enc 0,.ref s.enc 0] (cntF s c) (rowEl c):=by
 have hb:=Sheet.bounds hs
 have hcb:=Screen.bounds hc
 have h12:=cntF_le s c
 refine iter_of_aw Tryz.func110 rfl (dc rfl) rfl fun C hN hel=>?_
 (repeat' (first|(refine ar_isq ?_;first|refine ar_q (qs_move rfl) (dc rfl) ?_|refine ar_q (qs_assign rfl) (dc rfl) ?_|(refine is_load ?_;first|refine ar_q (qs_load_ptr (ty rfl) rfl rfl (by first|exact Nat.one_pos|assumption|omega) rfl) (dc rfl) ?_|refine ar_q (qs_load_ref (ty rfl) rfl rfl) (dc rfl) ?_)|(refine is_binOp ?_;first|refine ar_q (qs_lss rfl rfl) (dc rfl) ?_|refine ar_q (qs_gtr rfl rfl) (dc rfl) ?_|refine ar_q (qs_add rfl rfl (wrap64 (by omega))) (dc rfl) ?_|refine ar_q (qs_mul rfl rfl (wrap64 (by omega))) (dc rfl) ?_)|(refine is_fieldAddr ?_;first|refine ar_q (qs_faddr_ptr (ty rfl) rfl rfl (ty rfl) (Nat.succ_ne_zero _) rfl) (dc rfl) ?_|refine ar_q (qs_faddr_ref (ty rfl) rfl rfl (ty rfl) (Nat.succ_ne_zero _) rfl) (dc rfl) ?_)|(refine is_pick ?_;first|refine ar_q (qs_pick_t rfl rfl) (dc rfl) ?_|refine ar_q (qs_pick_f rfl rfl) (dc rfl) ?_)|refine ar_q (qs_not rfl) (dc rfl) ?_)|(refine ar_guard rfl rfl rfl rfl (dc rfl) ?_ ?_<;>intro hg<;>first|exact absurd hg (by decide)|((first|replace hg:=hgT hg|replace hg:=hgF hg|replace hg:=hgNT hg|replace hg:=hgNF hg|replace hg:=hgBT hg|replace hg:=hgBF hg|replace hg:=hgV hg|replace hg:=hgW hg|skip);(try dsimp only at hg);(try (have _h:True:=hg;clear _h hg));first|(exfalso;omega)|skip))|(refine ar_guard_u rfl rfl rfl rfl (dc rfl) ?_)|(refine ar_nil ?_)|(refine aw_seq ?_)|(refine aw_skip ?_)|(refine aw_block ?_)|(refine aw_exit ?_)|(refine aw_region ?_)|(refine aw_cond rfl ?_ ?_<;>intro hg<;>first|exact absurd hg (by decide)|((first|replace hg:=hgT hg|replace hg:=hgF hg|replace hg:=hgNT hg|replace hg:=hgNF hg|replace hg:=hgBT hg|replace hg:=hgBF hg|replace hg:=hgV hg|replace hg:=hgW hg|skip);(try dsimp only at hg);(try (have _h:True:=hg;clear _h hg));first|(exfalso;omega)|skip))))
 refine aw_for (cntF s c) (fun k=>[(0,.s (.func (.yield C.l) #[] #[])),(1,.ref c.enc 0),(2,.ref s.enc 0),(6,vi k)]) (Nat.zero_le _) ⟨rfl,rfl,rfl,rfl,trivial⟩ ?_
 intro k hk
 have hm:=mulP hc (k:=k) (by omega)
 by_cases hlt:k<cntF s c
 ·have hin:=cntF_in hlt
  (repeat' (first|(refine ar_isq ?_;first|refine ar_q (qs_move rfl) (dc rfl) ?_|refine ar_q (qs_assign rfl) (dc rfl) ?_|(refine is_load ?_;first|refine ar_q (qs_load_ptr (ty rfl) rfl rfl (by first|exact Nat.one_pos|assumption|omega) rfl) (dc rfl) ?_|refine ar_q (qs_load_ref (ty rfl) rfl rfl) (dc rfl) ?_)|(refine is_binOp ?_;first|refine ar_q (qs_lss rfl rfl) (dc rfl) ?_|refine ar_q (qs_gtr rfl rfl) (dc rfl) ?_|refine ar_q (qs_add rfl rfl (wrap64 (by omega))) (dc rfl) ?_|refine ar_q (qs_mul rfl rfl (wrap64 (by omega))) (dc rfl) ?_)|(refine is_fieldAddr ?_;first|refine ar_q (qs_faddr_ptr (ty rfl) rfl rfl (ty rfl) (Nat.succ_ne_zero _) rfl) (dc rfl) ?_|refine ar_q (qs_faddr_ref (ty rfl) rfl rfl (ty rfl) (Nat.succ_ne_zero _) rfl) (dc rfl) ?_)|(refine is_pick ?_;first|refine ar_q (qs_pick_t rfl rfl) (dc rfl) ?_|refine ar_q (qs_pick_f rfl rfl) (dc rfl) ?_)|refine ar_q (qs_not rfl) (dc rfl) ?_)|(refine ar_yield (us:=rowEl c k) rfl rfl (by rw [hN];exact hlt) (by rw [hel]) (dc rfl) ?_)|(refine ar_guard rfl rfl rfl rfl (dc rfl) ?_ ?_<;>intro hg<;>first|exact absurd hg (by decide)|((first|replace hg:=hgT hg|replace hg:=hgF hg|replace hg:=hgNT hg|replace hg:=hgNF hg|replace hg:=hgBT hg|replace hg:=hgBF hg|replace hg:=hgV hg|replace hg:=hgW hg|skip);(try dsimp only at hg);(try (have _h:True:=hg;clear _h hg));first|(exfalso;omega)|skip))|(refine ar_guard_u rfl rfl rfl rfl (dc rfl) ?_)|(refine ar_nil ?_)|(refine aw_seq ?_)|(refine aw_skip ?_)|(refine aw_block ?_)|(refine aw_exit ?_)|(refine aw_region ?_)|(refine aw_cond rfl ?_ ?_<;>intro hg<;>first|exact absurd hg (by decide)|((first|replace hg:=hgT hg|replace hg:=hgF hg|replace hg:=hgNT hg|replace hg:=hgNF hg|replace hg:=hgBT hg|replace hg:=hgBF hg|replace hg:=hgV hg|replace hg:=hgW hg|skip);(try dsimp only at hg);(try (have _h:True:=hg;clear _h hg));first|(exfalso;omega)|skip))))
  all_goals first
   | (exfalso;omega)
   | exact loop_next hlt rfl ⟨rfl,rfl,rfl,rfl,trivial⟩
 ·obtain rfl:k=cntF s c:=by omega
  have hout:=fun h=>cntF_out (s:=s) (c:=c) h
  (repeat' (first|(refine ar_isq ?_;first|refine ar_q (qs_move rfl) (dc rfl) ?_|refine ar_q (qs_assign rfl) (dc rfl) ?_|(refine is_load ?_;first|refine ar_q (qs_load_ptr (ty rfl) rfl rfl (by first|exact Nat.one_pos|assumption|omega) rfl) (dc rfl) ?_|refine ar_q (qs_load_ref (ty rfl) rfl rfl) (dc rfl) ?_)|(refine is_binOp ?_;first|refine ar_q (qs_lss rfl rfl) (dc rfl) ?_|refine ar_q (qs_gtr rfl rfl) (dc rfl) ?_|refine ar_q (qs_add rfl rfl (wrap64 (by omega))) (dc rfl) ?_|refine ar_q (qs_mul rfl rfl (wrap64 (by omega))) (dc rfl) ?_)|(refine is_fieldAddr ?_;first|refine ar_q (qs_faddr_ptr (ty rfl) rfl rfl (ty rfl) (Nat.succ_ne_zero _) rfl) (dc rfl) ?_|refine ar_q (qs_faddr_ref (ty rfl) rfl rfl (ty rfl) (Nat.succ_ne_zero _) rfl) (dc rfl) ?_)|(refine is_pick ?_;first|refine ar_q (qs_pick_t rfl rfl) (dc rfl) ?_|refine ar_q (qs_pick_f rfl rfl) (dc rfl) ?_)|refine ar_q (qs_not rfl) (dc rfl) ?_)|(refine ar_guard rfl rfl rfl rfl (dc rfl) ?_ ?_<;>intro hg<;>first|exact absurd hg (by decide)|((first|replace hg:=hgT hg|replace hg:=hgF hg|replace hg:=hgNT hg|replace hg:=hgNF hg|replace hg:=hgBT hg|replace hg:=hgBF hg|replace hg:=hgV hg|replace hg:=hgW hg|skip);(try dsimp only at hg);(try (have _h:True:=hg;clear _h hg));first|(exfalso;omega)|skip))|(refine ar_guard_u rfl rfl rfl rfl (dc rfl) ?_)|(refine ar_nil ?_)|(refine aw_seq ?_)|(refine aw_skip ?_)|(refine aw_block ?_)|(refine aw_exit ?_)|(refine aw_region ?_)|(refine aw_cond rfl ?_ ?_<;>intro hg<;>first|exact absurd hg (by decide)|((first|replace hg:=hgT hg|replace hg:=hgF hg|replace hg:=hgNT hg|replace hg:=hgNF hg|replace hg:=hgBT hg|replace hg:=hgBF hg|replace hg:=hgV hg|replace hg:=hgW hg|skip);(try dsimp only at hg);(try (have _h:True:=hg;clear _h hg));first|(exfalso;omega)|skip))))
  all_goals first
   | (exfalso;omega)
   | exact aw_ret (show cntF s c=cntF s c from rfl)
   | exact (rfl:cntF s c=cntF s c)
end Go.Proofs.YtbilpbabdgfblaaGreat.It
namespace Go.Proofs.YtbilpbabdgfblaaGreat
open Go.RowKit
theorem rows_p (s:Sheet) (c:Screen):PCalls Tryz.prog 67 [s.enc,c.enc] (·=.fn (.func 110) [] [.ref c.enc 0,.ref s.enc 0]):=by
 refine pcalls_of_aw Tryz.func67 rfl (dc rfl) ?_
 (repeat' (first|refine ar_q (qs_assign rfl) (dc rfl) ?_|refine ar_q (qs_makeFunc rfl rfl) (dc rfl) ?_|refine ar_boxf rfl rfl (dc rfl) ?_|refine zst ?_|(refine aw_cond rfl ?_ ?_<;>intro hg<;>first|exact absurd hg (by decide)|((first|replace hg:=hgT hg|replace hg:=hgF hg|replace hg:=hgNT hg|replace hg:=hgNF hg|replace hg:=hgBT hg|replace hg:=hgBF hg|replace hg:=hgV hg|replace hg:=hgW hg|skip);(try dsimp only at hg);(try (have _h:True:=hg;clear _h hg));first|(exfalso;omega)|skip))))
 (refine aw_mono_r (env':=[(4,.fn (.func 110) [] [.ref c.enc 0,.ref s.enc 0])]) (H':=[]) ?_ ?_;(focus ((refine sub_to [] [0,1] rfl ?_ ?_<;>(repeat' (first|exact trivial|refine ⟨⟨_,rfl,?_⟩,?_⟩|refine vs1 ?_ ?_|refine vs2 ?_ ?_|refine vs3 ?_|refine vs4 ?_ ?_|refine ⟨.inl ⟨_,_,rfl,rfl,?_⟩,?_⟩|exact ⟨.inr ⟨rfl,rfl⟩,trivial⟩|refine ⟨.inr ⟨rfl,rfl⟩,?_⟩|(intro _ _)|exact vz1|(exact fn2_sub (frzPtr' (by simp) rfl (by omega) rfl rfl) (frzPtr' (by simp) rfl (by omega) rfl rfl))|exact vz2|fail)));done)))
 (refine aw_ret ?_;(repeat (first|refine ret_then ?_|refine ret_block ?_));refine bq1 rfl ⟨?_,rfl⟩)
 rfl
def roomErr (s:Sheet) (c:Screen):Int:=if s.ok then (if c.ok then (if c.period-s.weight-s.clear<0 then 71 else 0) else 2) else 70
def roomN (s:Sheet) (c:Screen):Int:=if roomErr s c=0 then (cntF s c:Int) else 0
def roomW (s:Sheet) (c:Screen):Int:=if roomErr s c=0 then c.period-s.weight-s.clear else 0
theorem room_ok {s:Sheet}{c:Screen}(h:roomErr s c=0):s.ok=true∧c.ok=true∧0≤c.period-s.weight-s.clear∧roomN s c=cntF s c∧roomW s c=c.period-s.weight-s.clear:=by
 have h0:=h
 unfold roomErr at h
 split at h
 ·split at h
  ·split at h
   ·omega
   ·exact ⟨by assumption,by assumption,by omega,by simp [roomN,h0],by simp [roomW,h0]⟩
  ·omega
 ·omega
theorem room_bad {s:Sheet}{c:Screen}{e:Int}(h:roomErr s c=e) (he:e≠0):roomN s c=0∧roomW s c=0:=by
 subst h
 exact ⟨by simp [roomN,he],by simp [roomW,he]⟩
def encRoom (s:Sheet) (c:Screen):V:=.tup [vi (roomN s c),vi (roomW s c),vi (roomErr s c)]
theorem lRoom_p (s:Sheet) (c:Screen):PCalls Tryz.prog 39 [s.enc,c.enc] (·=encRoom s c):=by
 cases hs:s.ok
 ·have he:roomErr s c=70:=by simp [roomErr,hs]
  have h1:=err_bad hs
  obtain ⟨e1,e2⟩:=room_bad he (by decide)
  rw [encRoom,e1,e2,he]
  refine pcalls_of_aw Tryz.func39 rfl (dc rfl) ?_
  (repeat' (first|(refine ar_isq ?_;refine zq ?_)|(refine zpv fn65 (checkSheet_p _) ?_)|refine zst ?_|refine zco ?_ ?_|exact zd|(refine fun (hg:(_:Prop))=>?_;(try replace hg:=HG.out hg);(try dsimp only at hg);(try (have _h:True:=hg;clear _h hg)))))
  all_goals first
   | (exfalso;omega)
   | ((refine aw_ret ?_;(repeat (first|refine ret_then ?_|refine ret_block ?_));refine bq3c (ty rfl) rfl rfl Nat.one_pos rfl rfl rfl ⟨?_,rfl⟩);simp only [h1];rfl)
 ·cases hc:c.ok
  ·have he:roomErr s c=2:=by simp [roomErr,hs,hc]
   have h1:=err_ok hs
   obtain ⟨e1,e2⟩:=room_bad he (by decide)
   rw [encRoom,e1,e2,he]
   refine pcalls_of_aw Tryz.func39 rfl (dc rfl) ?_
   (repeat' (first|(refine ar_isq ?_;refine zq ?_)|(refine zpv fn65 (checkSheet_p _) ?_)|(refine zpv fn66 (isScreen_p c) ?_)|refine zst ?_|refine zco ?_ ?_|exact zd|(refine fun (hg:(_:Prop))=>?_;(try replace hg:=HG.out hg);(try dsimp only at hg);(try (have _h:True:=hg;clear _h hg)))))
   all_goals first
    | (exfalso;omega)
    | (exfalso;simp_all;done)
    | ((refine aw_ret ?_;(repeat (first|refine ret_then ?_|refine ret_block ?_));refine bq3c (ty rfl) rfl rfl Nat.one_pos rfl rfl rfl ⟨?_,rfl⟩);rfl)
  ·have hbd:=Sheet.bounds hs
   have hcb:=Screen.bounds hc
   have h1:=err_ok hs
   have hc12:=cntF_le s c
   refine pcalls_of_aw Tryz.func39 rfl (dc rfl) ?_
   (repeat' (first|(refine ar_isq ?_;refine zq ?_)|(refine zpv fn65 (checkSheet_p _) ?_)|(refine zpv fn66 (isScreen_p c) ?_)|(refine zpv fn67 (rows_p s c) ?_)|refine zst ?_|refine zco ?_ ?_|exact zd|(refine fun (hg:(_:Prop))=>?_;(try replace hg:=HG.out hg);(try dsimp only at hg);(try (have _h:True:=hg;clear _h hg)))))
   all_goals (try (exfalso;simp_all;done))
   ·have he:roomErr s c=71:=by simp [roomErr,hs,hc];omega
    obtain ⟨e1,e2⟩:=room_bad he (by decide)
    rw [encRoom,e1,e2,he]
    (refine aw_ret ?_;(repeat (first|refine ret_then ?_|refine ret_block ?_));refine bq3c (ty rfl) rfl rfl Nat.one_pos rfl rfl rfl ⟨?_,rfl⟩)
    rfl
   have he:roomErr s c=0:=by simp [roomErr,hs,hc];omega
   obtain ⟨_,_,_,e1,e2⟩:=room_ok he
   rw [encRoom,e1,e2,he]
   (refine aw_mono_r (env':=[(4,.ptr 1 2 0 0),(5,vi (c.period-s.weight-s.clear)),(28,.fn (.func 110) [] [.ref c.enc 0,.ref s.enc 0])]) (H':=[.arr 5 1 (fun _=>s.enc),.arr 2 1 (fun _=>c.enc),.arr 1 1 (fun _=>vi 0)]) ?_ ?_;(focus (exact zsb [some 0,some 1,some 2] [])))
   refine aw_range (fun k=>[.arr 5 1 (fun _=>s.enc),.arr 2 1 (fun _=>c.enc),.arr 1 1 (fun _=>vi k)]) _ rfl rfl fn110 (It.rows_iter s hs c hc) (fun _ _=>rfl) (by decide) (fun k _=>rfl) ?maps ?start ?round ?done
   case maps=>intro k j ms;match j with|0|1|2=>simp|j+3=>simp
   case start=>(exact zsb [some 0,some 1,some 2] [])
   case round =>
    intro k lp hk
    (repeat' (first|(refine ar_isq ?_;refine zq ?_)|refine zst ?_|refine zco ?_ ?_|exact zd|(refine fun (hg:(_:Prop))=>?_;(try replace hg:=HG.out hg);(try dsimp only at hg);(try (have _h:True:=hg;clear _h hg)))))
    refine (show SubOf _ _ _ _ _ _ from ?_)
    (exact zsb [some 0,some 1,some 2] [])
   case done =>
    (repeat' (first|(refine ar_isq ?_;refine zq ?_)|refine zst ?_|refine zco ?_ ?_|exact zd|(refine fun (hg:(_:Prop))=>?_;(try replace hg:=HG.out hg);(try dsimp only at hg);(try (have _h:True:=hg;clear _h hg)))))
    (refine aw_ret ?_;(repeat (first|refine ret_then ?_|refine ret_block ?_));refine bq3c (ty rfl) rfl rfl Nat.one_pos rfl rfl rfl ⟨?_,rfl⟩)
    rfl
def fF (a:Int) (w:Nat→Int):Nat→Int
 | 0=>w 0
 | j+1=>min (w (j+1)) (fF a w j+a)
def bD (a:Int) (w:Nat→Int) (n:Nat):Nat→Int
 | 0=>fF a w (n-1)
 | d+1=>min (fF a w (n-1-(d+1))) (bD a w n d+a)
def leanAt (a:Int) (w:Nat→Int) (n j:Nat):Int:=bD a w n (n-1-j)
def carryF (a:Int) (g:Nat→Int) (i j k:Nat):Int:=if k=j then min (g j) (g i+a) else g k
def gOne (a:Int) (w:Nat→Int) (c k:Nat):Int:=if k≤c then fF a w k else w k
def gTwo (a:Int) (w:Nat→Int) (n d k:Nat):Int:=if n≤k+1+d then leanAt a w n k else fF a w k
theorem gOne_zero (a:Int) (w:Nat→Int) (k:Nat):gOne a w 0 k=w k:=by
 unfold gOne
 split
 ·obtain rfl:k=0:=by omega
  rfl
 ·rfl
theorem gOne_step (a:Int) (w:Nat→Int) (c k:Nat):carryF a (gOne a w c) c (c+1) k=gOne a w (c+1) k:=by
 unfold carryF gOne
 by_cases h:k=c+1
 ·subst h
  rw [if_pos rfl,if_neg (by omega),if_pos (Nat.le_refl c),if_pos (Nat.le_refl _)]
  rfl
 ·rw [if_neg h]
  by_cases h2:k≤c
  ·rw [if_pos h2,if_pos (by omega)]
  ·rw [if_neg h2,if_neg (by omega)]
theorem gTwo_zero {a:Int}{w:Nat→Int}{n c k:Nat}(hk:k<n) (hc:n≤c+1):gOne a w c k=gTwo a w n 0 k:=by
 unfold gOne gTwo
 rw [if_pos (by omega)]
 split
 ·obtain rfl:k=n-1:=by omega
  simp [leanAt,bD]
 ·rfl
theorem gTwo_step {a:Int}{w:Nat→Int}{n d i j:Nat}(hd:d+1<n) (hi:i=n-1-d) (hj:j=n-1-d-1) (k:Nat):carryF a (gTwo a w n d) i j k=gTwo a w n (d+1) k:=by
 subst hi hj
 unfold carryF gTwo
 by_cases h:k=n-1-d-1
 ·rw [if_pos h,if_neg (by omega),if_pos (by omega),if_pos (by omega)]
  unfold leanAt
  rw [show n-1-(n-1-d)=d by omega,show n-1-k=d+1 by omega]
  simp only [bD]
  rw [show n-1-(d+1)=n-1-d-1 by omega]
 ·rw [if_neg h]
  by_cases h2:n≤k+1+d
  ·rw [if_pos h2,if_pos (by omega)]
  ·rw [if_neg h2,if_neg (by omega)]
theorem gTwo_end {a:Int}{w:Nat→Int}{n d k:Nat}(hd:n≤d+1):gTwo a w n d k=leanAt a w n k:=by unfold gTwo;rw [if_pos (by omega)]
theorem fF_le (a:Int) (w:Nat→Int):∀ j,fF a w j≤w j
 | 0=>Int.le_refl _
 | j+1=>by simp only [fF];omega
theorem fF_bnd {a:Int}{w:Nat→Int}(ha:0≤a):∀ j,(∀ k,k≤j→0≤w k)→0≤fF a w j
 | 0,h=>h 0 (Nat.le_refl _)
 | j+1,h=>by
  have:=fF_bnd ha j fun k hk=>h k (by omega)
  have:=h (j+1) (Nat.le_refl _)
  simp only [fF];omega
theorem bD_bnd {a:Int}{w:Nat→Int}{n:Nat}(ha:0≤a) (hw:∀ k,k<n→0≤w k) (hn:0<n):∀ d,0≤bD a w n d
 | 0=>fF_bnd ha _ fun k hk=>hw k (by omega)
 | d+1=>by
  have:=bD_bnd ha hw hn d
  have:=fF_bnd (w:=w) ha (n-1-(d+1)) fun k hk=>hw k (by omega)
  simp only [bD];omega
theorem bD_le (a:Int) (w:Nat→Int) (n:Nat):∀ d,bD a w n d≤fF a w (n-1-d)
 | 0=>Int.le_refl _
 | d+1=>by simp only [bD];omega
theorem lean_bnd {a:Int}{w:Nat→Int}{n k:Nat}(ha:0≤a) (hw:∀ k,k<n→0≤w k∧w k≤100) (hk:k<n):0≤leanAt a w n k∧leanAt a w n k≤100:=by
 refine ⟨bD_bnd ha (fun k hk=>(hw k hk).1) (by omega) _,?_⟩
 have h1:=bD_le a w n (n-1-k)
 rw [show n-1-(n-1-k)=k by omega] at h1
 have h2:=fF_le a w k
 have h3:=hw k hk
 unfold leanAt
 omega
def farI (j k:Nat):Int:=max ((j:Int)-k) ((k:Int)-j)
theorem fF_all {a:Int}{w:Nat→Int}:∀ (d k:Nat),fF a w (k+d)≤w k+a*d
 | 0,k=>by have:=fF_le a w k;simp;exact this
 | d+1,k=>by
  have:=fF_all (a:=a) (w:=w) d k
  have e:a*((d+1:Nat):Int)=a*d+a:=by rw [Int.natCast_succ,Int.mul_add,Int.mul_one]
  rw [e,show k+(d+1)=(k+d)+1 by omega]
  simp only [fF];omega
theorem fF_some {a:Int}{w:Nat→Int}:∀ j,∃ i,i≤j∧fF a w j=w i+a*((j:Int)-i)
 | 0=>⟨0,Nat.le_refl _,by simp [fF]⟩
 | j+1=>by
  obtain ⟨i,hi,h⟩:=fF_some (a:=a) (w:=w) j
  simp only [fF]
  rcases Int.le_total (w (j+1)) (fF a w j+a) with h1|h1
  ·exact ⟨j+1,Nat.le_refl _,by rw [Int.min_eq_left h1];simp⟩
  ·refine ⟨i,by omega,?_⟩
   rw [Int.min_eq_right h1,h,Int.natCast_succ,show (j:Int)+1-i=((j:Int)-i)+1 by omega,Int.mul_add,Int.mul_one]
   omega
theorem bD_all {a:Int}{w:Nat→Int}{n:Nat}:∀ (d e:Nat),bD a w n (e+d)≤fF a w (n-1-e)+a*d
 | 0,e=>by have:=bD_le a w n e;simp;exact this
 | d+1,e=>by
  have:=bD_all (a:=a) (w:=w) (n:=n) d e
  have e1:a*((d+1:Nat):Int)=a*d+a:=by rw [Int.natCast_succ,Int.mul_add,Int.mul_one]
  rw [e1,show e+(d+1)=(e+d)+1 by omega]
  simp only [bD];omega
theorem bD_some {a:Int}{w:Nat→Int}{n:Nat}:∀ d,∃ e,e≤d∧bD a w n d=fF a w (n-1-e)+a*((d:Int)-e)
 | 0=>⟨0,Nat.le_refl _,by simp [bD]⟩
 | d+1=>by
  obtain ⟨e,he,h⟩:=bD_some (a:=a) (w:=w) (n:=n) d
  simp only [bD]
  rcases Int.le_total (fF a w (n-1-(d+1))) (bD a w n d+a) with h1|h1
  ·exact ⟨d+1,Nat.le_refl _,by rw [Int.min_eq_left h1];simp⟩
  ·refine ⟨e,by omega,?_⟩
   rw [Int.min_eq_right h1,h,Int.natCast_succ,show (d:Int)+1-e=((d:Int)-e)+1 by omega,Int.mul_add,Int.mul_one]
   omega
theorem lean_all {a:Int}{w:Nat→Int}{n j k:Nat}(hj:j<n) (hk:k<n):leanAt a w n j≤w k+a*farI j k:=by
 unfold leanAt
 by_cases h:k≤j
 ·have h1:=bD_le a w n (n-1-j)
  rw [show n-1-(n-1-j)=j by omega] at h1
  have h2:=fF_all (a:=a) (w:=w) (j-k) k
  rw [show k+(j-k)=j by omega] at h2
  rw [show farI j k=((j-k:Nat):Int) by unfold farI;omega]
  omega
 ·have h1:=bD_all (a:=a) (w:=w) (n:=n) (k-j) (n-1-k)
  rw [show n-1-k+(k-j)=n-1-j by omega,show n-1-(n-1-k)=k by omega] at h1
  have h2:=fF_le a w k
  rw [show farI j k=((k-j:Nat):Int) by unfold farI;omega]
  omega
theorem lean_some {a:Int}{w:Nat→Int}{n j:Nat}(ha:0≤a) (hj:j<n):∃ k,k<n∧w k+a*farI j k≤leanAt a w n j:=by
 obtain ⟨e,he,h1⟩:=bD_some (a:=a) (w:=w) (n:=n) (n-1-j)
 obtain ⟨i,hi,h2⟩:=fF_some (a:=a) (w:=w) (n-1-e)
 refine ⟨i,by omega,?_⟩
 unfold leanAt
 rw [h1,h2,Int.add_assoc,← Int.mul_add]
 have:a*farI j i≤a*(((n-1-e:Nat):Int)-i+(((n-1-j:Nat):Int)-e)):=Int.mul_le_mul_of_nonneg_left (by unfold farI;omega) ha
 omega
theorem clone_p (l:List Int) (hl:l.length≤1000):FCalls Tryz.prog 119 [encInts l] 1 (fun n f=>n=l.length∧∀ i,i<n→f i=vi (el l i)):=by
 refine fcalls_of_aw Tryz.func119 rfl (dc rfl) ?_
 (repeat' (first|(refine ar_isq ?_;refine zq ?_)|(refine ar_eqnil (ty rfl) rfl rfl rfl (dc rfl) ?_;intro bq hbq)|refine zst ?_|refine zco ?_ ?_|exact zd|(refine fun (hg:(_:Prop))=>?_;(try replace hg:=HG.out hg);(try dsimp only at hg);(try (have _h:True:=hg;clear _h hg)))))
 ·have h0:=hbq (by assumption)
  (refine aw_mono_r (env':=[(2,.sl 1 0 0 0)]) (H':=[.arr 1 0 (fun _=>vi 0)]) ?_ ?_;(focus (exact zsb [none] [])))
  refine aw_ret (ret_then (bq1 rfl ⟨0,_,rfl,rfl,⟨by omega,fun i hi=>by omega⟩,fun i hi=>by omega⟩))
 ·refine aw_ret (bq1 rfl ⟨0+l.length,_,rfl,rfl,⟨Nat.zero_add _,fun i hi=>by rw [appF_ge (Nat.zero_le _),Nat.sub_zero]⟩,fun i hi=>by rw [appF_ge (Nat.zero_le _)];rfl⟩)
theorem carry_a (s:Sheet) (hs:s.ok=true) (n:Nat) (g:Nat→Int) (i j:Nat) (hi:i<n) (hj:j<n) (hg:∀ k,k<n→0≤g k∧g k≤100) :
  ACalls Tryz.prog 153 [vi i,vi j,.ptr 1 2 0 0,.ptr 5 0 0 0] [.arr 5 1 (fun _=>s.enc),.arr 1 n (fun k=>vi (g k)),.arr 1 1 (fun _=>.sl 1 1 0 n)]
   (fun v H'=>v=.tup []∧H'=[.arr 5 1 (fun _=>s.enc),.arr 1 n (fun k=>vi (carryF s.lean g i j k)),.arr 1 1 (fun _=>.sl 1 1 0 n)]) NoP:=by
 have hb:=Sheet.bounds hs
 have h1:=hg i hi
 have h2:=hg j hj
 refine acalls_of_aw Tryz.func153 rfl (dc rfl) ?_
 (repeat' (first|(refine ar_isq ?_;refine zq ?_)|refine zil (j:=j) ?_|refine zis (j:=j) ?_|refine zit (j:=j) ?_|refine zil (j:=i) ?_|refine zis (j:=i) ?_|refine zit (j:=i) ?_|(refine ar_store_as (fun k=>vi (carryF s.lean g i j k)) (ty rfl) rfl rfl rfl rfl rfl rfl (by assumption) (by dsimp only;omega) (fun _ h=>by cases h) rfl rfl (fun _ h=>by cases h) (by simp [carryF,vi]) (fun k _ hk=>by simp [carryF,hk]) ?_)|refine zst ?_|refine aw_drawn (id:=0) [(0,0),(1,0),(2,0),(3,0),(4,0),(5,0),(6,0),(7,0),(8,0),(9,0),(10,0),(11,0),(12,0),(13,0),(14,0),(15,2)] mixed (by kernel_rfl) ?_|refine zco ?_ ?_|exact zd|(refine fun (hg:(_:Prop))=>?_;(try replace hg:=HG.out hg);(try dsimp only at hg);(try (have _h:True:=hg;clear _h hg)))))
 exact bq0n ⟨rfl,rfl⟩
theorem lean_p (s:Sheet) (hs:s.ok=true) (l:List Int) (hl:l.length≤1000) (hw:∀ k,k<l.length→0≤el l k∧el l k≤100):FCalls Tryz.prog 113 [s.enc,encInts l] 1 (fun n f=>n=l.length∧∀ i,i<n→f i=vi (leanAt s.lean (el l) l.length i)):=by
 have hb:=Sheet.bounds hs
 have hone:∀ c k,k<l.length→0≤gOne s.lean (el l) c k∧gOne s.lean (el l) c k≤100:=fun c k hk=>by
  have h1:=fF_le s.lean (el l) k
  have h2:=fF_bnd (a:=s.lean) (w:=el l) (by omega) k fun q hq=>(hw q (by omega)).1
  have h3:=hw k hk
  unfold gOne
  split<;>omega
 have htwo:∀ d k,k<l.length→0≤gTwo s.lean (el l) l.length d k∧gTwo s.lean (el l) l.length d k≤100:=fun d k hk=>by
  have h1:=fF_le s.lean (el l) k
  have h2:=fF_bnd (a:=s.lean) (w:=el l) (by omega) k fun q hq=>(hw q (by omega)).1
  have h3:=hw k hk
  have h4:=lean_bnd (a:=s.lean) (w:=el l) (n:=l.length) (k:=k) (by omega) hw hk
  unfold gTwo
  split<;>omega
 refine fcalls_of_aw Tryz.func113 rfl (dc rfl) ?_
 (repeat' (first|(refine ar_isq ?_;refine zq ?_)|(refine ar_fcall fn119 rfl rfl (.cons (.closed rfl) .nil) (clone_p l hl) (dc rfl) ?_;rintro n0 g0 ⟨rfl,hg0⟩)|refine zst ?_|refine zco ?_ ?_|exact zd|(refine fun (hg:(_:Prop))=>?_;(try replace hg:=HG.out hg);(try dsimp only at hg);(try (have _h:True:=hg;clear _h hg)))))
 refine aw_for (l.length-1) (fun _=>True) (fun c=>[(5,.ptr 1 2 0 0),(6,.fn (.func 153) [] [.ptr 1 2 0 0,.ptr 5 0 0 0]),(7,vi (c+1))]) (fun c=>[.arr 5 1 (fun _=>s.enc),.arr 1 l.length (fun k=>vi (gOne s.lean (el l) c k)),.arr 1 1 (fun _=>.sl 1 1 0 l.length)]) trivial ?_ ?_
 ·(refine sub_to [some 0,some 1,some 2] [] rfl ?_ ?_<;>(repeat' (first|exact trivial|refine ⟨⟨_,rfl,?_⟩,?_⟩|refine vs1 ?_ ?_|refine vs2 ?_ ?_|refine vs3 ?_|refine vs4 ?_ ?_|refine ⟨.inl ⟨_,_,rfl,rfl,?_⟩,?_⟩|exact ⟨.inr ⟨rfl,rfl⟩,trivial⟩|refine ⟨.inr ⟨rfl,rfl⟩,?_⟩|(intro _ _)|exact vz1|(first|exact fn2_sub (.ptr rfl) (.ptr rfl)|exact VSub.of_eq ((hg0 _ (by assumption)).trans (congrArg vi (gOne_zero _ _ _).symm)) rfl)|exact vz2|fail)))
 intro c hc _
 by_cases hlt:c+1<l.length
 ·(repeat' (first|(refine ar_isq ?_;refine zq ?_)|((refine ar_re (t:=20) (v':=vi (c:Int)) rfl (congrArg vi (by omega)) ?_;refine ar_re (t:=21) (v':=vi ((c+1:Nat):Int)) rfl (congrArg vi (by omega)) ?_;refine ar_acall fn153 rfl rfl (carry_a s hs l.length (gOne s.lean (el l) c) c (c+1) (by omega) hlt (fun k hk=>hone c k hk)) (dc rfl) ?_ (fun _ _ h=>h.elim);rintro _ _ ⟨rfl,rfl⟩))|refine zst ?_|refine zco ?_ ?_|exact zd|(refine fun (hg:(_:Prop))=>?_;(try replace hg:=HG.out hg);(try dsimp only at hg);(try (have _h:True:=hg;clear _h hg)))))
  all_goals first
   | (exfalso;omega)
   | ((first|refine loop_next (by omega) ?_ ?_|refine (show _∧_∧SubOf _ _ _ _ _ _ from And.intro (by omega) (And.intro ?_ ?_)));(focus ((trivial);done));(focus ((refine sub_to [some 0,some 1,some 2] [] rfl ?_ ?_<;>(repeat' (first|exact trivial|refine ⟨⟨_,rfl,?_⟩,?_⟩|refine vs1 ?_ ?_|refine vs2 ?_ ?_|refine vs3 ?_|refine vs4 ?_ ?_|refine ⟨.inl ⟨_,_,rfl,rfl,?_⟩,?_⟩|exact ⟨.inr ⟨rfl,rfl⟩,trivial⟩|refine ⟨.inr ⟨rfl,rfl⟩,?_⟩|(intro _ _)|exact vz1|(first|exact fn2_sub (.ptr rfl) (.ptr rfl)|exact siEq (by omega)|exact VSub.of_eq (congrArg vi (gOne_step _ _ _ _)) rfl)|exact vz2|fail)));done)))
 ·(repeat' (first|(refine ar_isq ?_;refine zq ?_)|refine zst ?_|refine zco ?_ ?_|exact zd|(refine fun (hg:(_:Prop))=>?_;(try replace hg:=HG.out hg);(try dsimp only at hg);(try (have _h:True:=hg;clear _h hg)))))
  all_goals (try (exfalso;omega))
  refine aw_for (l.length-1) (fun _=>True) (fun d=>[(5,.ptr 1 2 0 0),(6,.fn (.func 153) [] [.ptr 1 2 0 0,.ptr 5 0 0 0]),(8,vi ((l.length:Int)-1-d))]) (fun d=>[.arr 5 1 (fun _=>s.enc),.arr 1 l.length (fun k=>vi (gTwo s.lean (el l) l.length d k)),.arr 1 1 (fun _=>.sl 1 1 0 l.length)]) trivial ?_ ?_
  ·(refine sub_to [some 0,some 1,some 2] [] rfl ?_ ?_<;>(repeat' (first|exact trivial|refine ⟨⟨_,rfl,?_⟩,?_⟩|refine vs1 ?_ ?_|refine vs2 ?_ ?_|refine vs3 ?_|refine vs4 ?_ ?_|refine ⟨.inl ⟨_,_,rfl,rfl,?_⟩,?_⟩|exact ⟨.inr ⟨rfl,rfl⟩,trivial⟩|refine ⟨.inr ⟨rfl,rfl⟩,?_⟩|(intro _ _)|exact vz1|(first|exact fn2_sub (.ptr rfl) (.ptr rfl)|exact siEq (by omega)|exact VSub.of_eq (congrArg vi (gTwo_zero (by assumption) (by omega))) rfl)|exact vz2|fail)))
  intro d hd _
  by_cases hld:d+1<l.length
  ·(repeat' (first|(refine ar_isq ?_;refine zq ?_)|((refine ar_re (t:=31) (v':=vi ((l.length-1-d:Nat):Int)) rfl (congrArg vi (by omega)) ?_;refine ar_re (t:=33) (v':=vi ((l.length-1-d-1:Nat):Int)) rfl (congrArg vi (by omega)) ?_;refine ar_acall fn153 rfl rfl (carry_a s hs l.length (gTwo s.lean (el l) l.length d) (l.length-1-d) (l.length-1-d-1) (by omega) (by omega) (fun k hk=>htwo d k hk)) (dc rfl) ?_ (fun _ _ h=>h.elim);rintro _ _ ⟨rfl,rfl⟩))|refine zst ?_|refine zco ?_ ?_|exact zd|(refine fun (hg:(_:Prop))=>?_;(try replace hg:=HG.out hg);(try dsimp only at hg);(try (have _h:True:=hg;clear _h hg)))))
   all_goals first
    | (exfalso;omega)
    | ((first|refine loop_next (by omega) ?_ ?_|refine (show _∧_∧SubOf _ _ _ _ _ _ from And.intro (by omega) (And.intro ?_ ?_)));(focus ((trivial);done));(focus ((refine sub_to [some 0,some 1,some 2] [] rfl ?_ ?_<;>(repeat' (first|exact trivial|refine ⟨⟨_,rfl,?_⟩,?_⟩|refine vs1 ?_ ?_|refine vs2 ?_ ?_|refine vs3 ?_|refine vs4 ?_ ?_|refine ⟨.inl ⟨_,_,rfl,rfl,?_⟩,?_⟩|exact ⟨.inr ⟨rfl,rfl⟩,trivial⟩|refine ⟨.inr ⟨rfl,rfl⟩,?_⟩|(intro _ _)|exact vz1|(first|exact fn2_sub (.ptr rfl) (.ptr rfl)|exact siEq (by omega)|exact VSub.of_eq (congrArg vi (gTwo_step hld rfl rfl _)) rfl)|exact vz2|fail)));done)))
  ·(repeat' (first|(refine ar_isq ?_;refine zq ?_)|refine zst ?_|refine zco ?_ ?_|exact zd|(refine fun (hg:(_:Prop))=>?_;(try replace hg:=HG.out hg);(try dsimp only at hg);(try (have _h:True:=hg;clear _h hg)))))
   all_goals first
    | (exfalso;omega)
    | ((refine aw_mono_r (env':=[(4,.sl 1 0 0 l.length)]) (H':=[.arr 1 l.length (fun k=>vi (leanAt s.lean (el l) l.length k))]) ?_ ?_;(focus ((refine sub_to [some 1] [] rfl ?_ ?_<;>(repeat' (first|exact trivial|refine ⟨⟨_,rfl,?_⟩,?_⟩|refine vs1 ?_ ?_|refine vs2 ?_ ?_|refine vs3 ?_|refine vs4 ?_ ?_|refine ⟨.inl ⟨_,_,rfl,rfl,?_⟩,?_⟩|exact ⟨.inr ⟨rfl,rfl⟩,trivial⟩|refine ⟨.inr ⟨rfl,rfl⟩,?_⟩|(intro _ _)|exact vz1|(exact VSub.of_eq (congrArg vi (gTwo_end (by omega))) rfl)|exact vz2|fail)));done)));refine aw_ret (bq1 rfl ⟨_,_,rfl,rfl,⟨rfl,fun i hi=>rfl⟩,fun i hi=>rfl⟩))
end Go.Proofs.YtbilpbabdgfblaaGreat
