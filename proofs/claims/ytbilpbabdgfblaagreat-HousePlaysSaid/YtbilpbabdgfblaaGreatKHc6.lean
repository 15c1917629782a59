/- Parts of the proof: a layer of values over the model, and contracts of functions. No condition. -/
import Derived.Test.YtbilpbabdgfblaaGreatKHc5
set_option maxHeartbeats 16000000
set_option linter.unusedSimpArgs false
set_option linter.unusedVariables false
namespace Go.Proofs.YtbilpbabdgfblaaGreat
open Go.RowKit
/-- What a test tells. -/
class HG (p:Prop) (q:outParam Prop):Prop where
  out:p→q
instance hgi1 {p:Prop}[Decidable p]:HG (decide p=true) p:=⟨of_decide_eq_true⟩
instance hgi2 {p:Prop}[Decidable p]:HG (decide p=false) (¬ p):=⟨of_decide_eq_false⟩
instance hgi3 {p:Prop}[Decidable p]:HG ((!decide p)=true) (¬ p):=⟨hgNT⟩
instance hgi4 {p:Prop}[Decidable p]:HG ((!decide p)=false) p:=⟨hgNF⟩
instance hgi5 {p:Prop}[Decidable p]:HG (decide p=!false) p:=⟨of_decide_eq_true⟩
instance hgi6 {p:Prop}[Decidable p]:HG (decide p=!true) (¬ p):=⟨of_decide_eq_false⟩
instance hgi7 {p:Prop}[Decidable p]:HG ((!decide p)=!false) (¬ p):=⟨hgNT⟩
instance hgi8 {p:Prop}[Decidable p]:HG ((!decide p)=!true) p:=⟨hgNF⟩
instance (priority:=low) hgj1 {b:Bool}:HG ((!b)=true) (b=false):=⟨hgBT⟩
instance (priority:=low) hgj2 {b:Bool}:HG ((!b)=false) (b=true):=⟨hgBF⟩
instance (priority:=low) hgj3 {b:Bool}:HG ((!b)=!false) (b=false):=⟨hgBT⟩
instance (priority:=low) hgj4 {b:Bool}:HG ((!b)=!true) (b=true):=⟨hgBF⟩
instance (priority:=low) hgj5 {b:Bool}:HG (b=!true) (b=false):=⟨fun h=>h⟩
instance (priority:=low) hgj6 {b:Bool}:HG (b=!false) (b=true):=⟨fun h=>h⟩
variable {r:Option Nat}{m nt i e:Nat}{Q:Post}{env:Env}{H:Heap}{ops:Array Oper}{l:List Stp}{ty:TypeId}{pos:String}{after:Array Edge}{x y c:Operand}{T T2 E:TypeId}{d de:TyD}{v:V}{keep:Bool}
theorem zmv  (hk:AR Tryz.prog r m nt ops Q l ((e,v)::env) H) (hx:eo env x=some v:=by exact rfl) (hd:e<nt:=by exact dc rfl) :
    AR Tryz.prog r m nt ops Q (.q i ⟨some e,.move x,ty,pos,after,none⟩::l) env H:=ar_q (qs_move hx) hd hk
theorem zas  (hk:AR Tryz.prog r m nt ops Q l ((e,v)::env) H) (hx:eo env x=some v:=by exact rfl) (hd:e<nt:=by exact dc rfl) :
    AR Tryz.prog r m nt ops Q (.q i ⟨some e,.assign x,ty,pos,after,none⟩::l) env H:=ar_q (qs_assign hx) hd hk
theorem zlp {sz b j off n:Nat}{f:Nat→V}(hk:AR Tryz.prog r m nt ops Q l ((e,v)::env) H) (ht:TyIs Tryz.prog T d:=by exact ty rfl) (hx:eo env x=some (.ptr sz b j off):=by exact rfl) (hH:H[b]?=some (.arr sz n f):=by exact rfl) (hi:j<n:=by first|exact Nat.one_pos|assumption|omega) (hv:partV d.tk.agg (f j).cells off d.size=some v:=by exact rfl) (hd:e<nt:=by exact dc rfl) :
    AR Tryz.prog r m nt ops Q (.q i ⟨some e,.load T x,ty,pos,after,none⟩::l) env H:=ar_q (qs_load_ptr ht hx hH hi hv) hd hk
theorem zlr {w:V}{off:Nat}(hk:AR Tryz.prog r m nt ops Q l ((e,v)::env) H) (ht:TyIs Tryz.prog T d:=by exact ty rfl) (hx:eo env x=some (.ref w off):=by exact rfl) (hv:partV d.tk.agg w.cells off d.size=some v:=by exact rfl) (hd:e<nt:=by exact dc rfl) :
    AR Tryz.prog r m nt ops Q (.q i ⟨some e,.load T x,ty,pos,after,none⟩::l) env H:=ar_q (qs_load_ref ht hx hv) hd hk
theorem zlss {k:IntKind}{a b:Int}(hk:AR Tryz.prog r m nt ops Q l ((e,.s (.bool (decide (a<b))))::env) H) (hx:eo env x=some (.s (.int k a)):=by exact rfl) (hy:eo env y=some (.s (.int k b)):=by exact rfl) (hd:e<nt:=by exact dc rfl) :
    AR Tryz.prog r m nt ops Q (.q i ⟨some e,.binOp .lss T x y T2,ty,pos,after,none⟩::l) env H:=ar_q (qs_lss hx hy) hd hk
theorem zleq {k:IntKind}{a b:Int}(hk:AR Tryz.prog r m nt ops Q l ((e,.s (.bool (decide (a≤b))))::env) H) (hx:eo env x=some (.s (.int k a)):=by exact rfl) (hy:eo env y=some (.s (.int k b)):=by exact rfl) (hd:e<nt:=by exact dc rfl) :
    AR Tryz.prog r m nt ops Q (.q i ⟨some e,.binOp .leq T x y T2,ty,pos,after,none⟩::l) env H:=ar_q (qs_leq hx hy) hd hk
theorem zgtr {k:IntKind}{a b:Int}(hk:AR Tryz.prog r m nt ops Q l ((e,.s (.bool (decide (b<a))))::env) H) (hx:eo env x=some (.s (.int k a)):=by exact rfl) (hy:eo env y=some (.s (.int k b)):=by exact rfl) (hd:e<nt:=by exact dc rfl) :
    AR Tryz.prog r m nt ops Q (.q i ⟨some e,.binOp .gtr T x y T2,ty,pos,after,none⟩::l) env H:=ar_q (qs_gtr hx hy) hd hk
theorem zgeq {k:IntKind}{a b:Int}(hk:AR Tryz.prog r m nt ops Q l ((e,.s (.bool (decide (b≤a))))::env) H) (hx:eo env x=some (.s (.int k a)):=by exact rfl) (hy:eo env y=some (.s (.int k b)):=by exact rfl) (hd:e<nt:=by exact dc rfl) :
    AR Tryz.prog r m nt ops Q (.q i ⟨some e,.binOp .geq T x y T2,ty,pos,after,none⟩::l) env H:=ar_q (qs_geq hx hy) hd hk
theorem zeql {k:IntKind}{a b:Int}(hk:AR Tryz.prog r m nt ops Q l ((e,.s (.bool (decide (a=b))))::env) H) (hx:eo env x=some (.s (.int k a)):=by exact rfl) (hy:eo env y=some (.s (.int k b)):=by exact rfl) (hd:e<nt:=by exact dc rfl) :
    AR Tryz.prog r m nt ops Q (.q i ⟨some e,.binOp .eql T x y T2,ty,pos,after,none⟩::l) env H:=ar_q (qs_eql hx hy) hd hk
theorem zneq {k:IntKind}{a b:Int}(hk:AR Tryz.prog r m nt ops Q l ((e,.s (.bool (!decide (a=b))))::env) H) (hx:eo env x=some (.s (.int k a)):=by exact rfl) (hy:eo env y=some (.s (.int k b)):=by exact rfl) (hd:e<nt:=by exact dc rfl) :
    AR Tryz.prog r m nt ops Q (.q i ⟨some e,.binOp .neq T x y T2,ty,pos,after,none⟩::l) env H:=ar_q (qs_neq hx hy) hd hk
theorem zadd {a b c:Int}(hk:AR Tryz.prog r m nt ops Q l ((e,.s (.int .i64 c))::env) H) (hx:eo env x=some (.s (.int .i64 a)):=by exact rfl) (hy:eo env y=some (.s (.int .i64 b)):=by exact rfl) (hr:IntKind.i64.wrap (a+b)=c:=by exact wrap64 (by omega)) (hd:e<nt:=by exact dc rfl) :
    AR Tryz.prog r m nt ops Q (.q i ⟨some e,.binOp .add T x y T2,ty,pos,after,none⟩::l) env H:=ar_q (qs_add hx hy hr) hd hk
theorem zsub {a b c:Int}(hk:AR Tryz.prog r m nt ops Q l ((e,.s (.int .i64 c))::env) H) (hx:eo env x=some (.s (.int .i64 a)):=by exact rfl) (hy:eo env y=some (.s (.int .i64 b)):=by exact rfl) (hr:IntKind.i64.wrap (a-b)=c:=by exact wrap64 (by omega)) (hd:e<nt:=by exact dc rfl) :
    AR Tryz.prog r m nt ops Q (.q i ⟨some e,.binOp .sub T x y T2,ty,pos,after,none⟩::l) env H:=ar_q (qs_sub hx hy hr) hd hk
theorem zmul {a b c:Int}(hk:AR Tryz.prog r m nt ops Q l ((e,.s (.int .i64 c))::env) H) (hx:eo env x=some (.s (.int .i64 a)):=by exact rfl) (hy:eo env y=some (.s (.int .i64 b)):=by exact rfl) (hr:IntKind.i64.wrap (a*b)=c:=by exact wrap64 (by omega)) (hd:e<nt:=by exact dc rfl) :
    AR Tryz.prog r m nt ops Q (.q i ⟨some e,.binOp .mul T x y T2,ty,pos,after,none⟩::l) env H:=ar_q (qs_mul hx hy hr) hd hk
theorem zaddu8 {a b c:Int}(hk:AR Tryz.prog r m nt ops Q l ((e,.s (.int .u8 c))::env) H) (hx:eo env x=some (.s (.int .u8 a)):=by exact rfl) (hy:eo env y=some (.s (.int .u8 b)):=by exact rfl) (hr:IntKind.u8.wrap (a+b)=c:=by exact wrap8 (by omega)) (hd:e<nt:=by exact dc rfl) :
    AR Tryz.prog r m nt ops Q (.q i ⟨some e,.binOp .add T x y T2,ty,pos,after,none⟩::l) env H:=ar_q (qs_add hx hy hr) hd hk
theorem zsubu8 {a b c:Int}(hk:AR Tryz.prog r m nt ops Q l ((e,.s (.int .u8 c))::env) H) (hx:eo env x=some (.s (.int .u8 a)):=by exact rfl) (hy:eo env y=some (.s (.int .u8 b)):=by exact rfl) (hr:IntKind.u8.wrap (a-b)=c:=by exact wrap8 (by omega)) (hd:e<nt:=by exact dc rfl) :
    AR Tryz.prog r m nt ops Q (.q i ⟨some e,.binOp .sub T x y T2,ty,pos,after,none⟩::l) env H:=ar_q (qs_sub hx hy hr) hd hk
theorem zaddu64 {a b c:Int}(hk:AR Tryz.prog r m nt ops Q l ((e,.s (.int .u64 c))::env) H) (hx:eo env x=some (.s (.int .u64 a)):=by exact rfl) (hy:eo env y=some (.s (.int .u64 b)):=by exact rfl) (hr:IntKind.u64.wrap (a+b)=c:=by exact wrapU (by omega)) (hd:e<nt:=by exact dc rfl) :
    AR Tryz.prog r m nt ops Q (.q i ⟨some e,.binOp .add T x y T2,ty,pos,after,none⟩::l) env H:=ar_q (qs_add hx hy hr) hd hk
theorem zmulu64 {a b c:Int}(hk:AR Tryz.prog r m nt ops Q l ((e,.s (.int .u64 c))::env) H) (hx:eo env x=some (.s (.int .u64 a)):=by exact rfl) (hy:eo env y=some (.s (.int .u64 b)):=by exact rfl) (hr:IntKind.u64.wrap (a*b)=c:=by exact wrapU (by omega)) (hd:e<nt:=by exact dc rfl) :
    AR Tryz.prog r m nt ops Q (.q i ⟨some e,.binOp .mul T x y T2,ty,pos,after,none⟩::l) env H:=ar_q (qs_mul hx hy hr) hd hk
theorem zquo {a b c:Int}(hk:AR Tryz.prog r m nt ops Q l ((e,.s (.int .i64 c))::env) H) (hx:eo env x=some (.s (.int .i64 a)):=by exact rfl) (hy:eo env y=some (.s (.int .i64 b)):=by exact rfl) (hn:b≠0:=by omega) (hr:IntKind.i64.wrap (a.tdiv b)=c:=by exact quo64 (by omega) (by omega)) (hd:e<nt:=by exact dc rfl) :
    AR Tryz.prog r m nt ops Q (.q i ⟨some e,.binOp .quo T x y T2,ty,pos,after,none⟩::l) env H:=ar_q (qs_quo hx hy hn hr) hd hk
theorem zfp {fs:List (TypeId × Nat)}{k o:Nat}{sz b j off:Nat}(hk:AR Tryz.prog r m nt ops Q l ((e,.ptr sz b j (off+o))::env) H) (ht:TyIs Tryz.prog T d:=by exact ty rfl) (hk1:d.tk=.struct fs:=by exact rfl) (hf:fs[k]?=some (E,o):=by exact rfl) (he:TyIs Tryz.prog E de:=by exact ty rfl) (hz:de.size≠0:=by exact Nat.succ_ne_zero _) (hx:eo env x=some (.ptr sz b j off):=by exact rfl) (hd:e<nt:=by exact dc rfl) :
    AR Tryz.prog r m nt ops Q (.q i ⟨some e,.fieldAddr T x k,ty,pos,after,none⟩::l) env H:=ar_q (qs_faddr_ptr ht hk1 hf he hz hx) hd hk
theorem zfr {fs:List (TypeId × Nat)}{k o:Nat}{w:V}{off:Nat}(hk:AR Tryz.prog r m nt ops Q l ((e,.ref w (off+o))::env) H) (ht:TyIs Tryz.prog T d:=by exact ty rfl) (hk1:d.tk=.struct fs:=by exact rfl) (hf:fs[k]?=some (E,o):=by exact rfl) (he:TyIs Tryz.prog E de:=by exact ty rfl) (hz:de.size≠0:=by exact Nat.succ_ne_zero _) (hx:eo env x=some (.ref w off):=by exact rfl) (hd:e<nt:=by exact dc rfl) :
    AR Tryz.prog r m nt ops Q (.q i ⟨some e,.fieldAddr T x k,ty,pos,after,none⟩::l) env H:=ar_q (qs_faddr_ref ht hk1 hf he hz hx) hd hk
theorem zil {sz n j:Nat}{f:Nat→V}{k:IntKind}{a:Int}(hk:AR Tryz.prog r m nt ops Q l ((e,.ref (f j) 0)::env) H) (ht:TyIs Tryz.prog T d:=by exact ty rfl) (hk1:d.tk=.slice E:=by exact rfl) (he:TyIs Tryz.prog E de:=by exact ty rfl) (hs:de.size=sz:=by exact rfl) (hx:eo env x=some (.list sz n f):=by exact rfl) (hy:eo env y=some (.s (.int k a)):=by exact rfl) (hm:a=(j:Int):=by first|exact rfl|omega) (hj:j<n:=by omega) (hd:e<nt:=by exact dc rfl) :
    AR Tryz.prog r m nt ops Q (.q i ⟨some e,.indexAddr T x y,ty,pos,after,none⟩::l) env H:=ar_q (qs_iaddr_list ht hk1 he hs hx hy hm hj) hd hk
theorem zis {sz b n j:Nat}{k:IntKind}{a:Int}(hk:AR Tryz.prog r m nt ops Q l ((e,.ptr sz b j 0)::env) H) (ht:TyIs Tryz.prog T d:=by exact ty rfl) (hk1:d.tk=.slice E:=by exact rfl) (he:TyIs Tryz.prog E de:=by exact ty rfl) (hs:de.size=sz:=by exact rfl) (hx:eo env x=some (.sl sz b 0 n):=by exact rfl) (hy:eo env y=some (.s (.int k a)):=by exact rfl) (hm:a=(j:Int):=by first|exact rfl|omega) (hj:j<n:=by omega) (hd:e<nt:=by exact dc rfl) :
    AR Tryz.prog r m nt ops Q (.q i ⟨some e,.indexAddr T x y,ty,pos,after,none⟩::l) env H:=ar_q (qs_iaddr_sl0 ht hk1 he hs hx hy hm hj) hd hk
theorem zit {sz b o n j:Nat}{k:IntKind}{a:Int}(hk:AR Tryz.prog r m nt ops Q l ((e,.ptr sz b (o+j) 0)::env) H) (ht:TyIs Tryz.prog T d:=by exact ty rfl) (hk1:d.tk=.slice E:=by exact rfl) (he:TyIs Tryz.prog E de:=by exact ty rfl) (hs:de.size=sz:=by exact rfl) (hx:eo env x=some (.sl sz b o n):=by exact rfl) (hy:eo env y=some (.s (.int k a)):=by exact rfl) (hm:a=(j:Int):=by first|exact rfl|omega) (hj:j<n:=by omega) (hd:e<nt:=by exact dc rfl) :
    AR Tryz.prog r m nt ops Q (.q i ⟨some e,.indexAddr T x y,ty,pos,after,none⟩::l) env H:=ar_q (qs_iaddr_sl ht hk1 he hs hx hy hm hj) hd hk
theorem zll {sz n:Nat}{f:Nat→V}{ats:Array TypeId}(hk:AR Tryz.prog r m nt ops Q l ((e,.s (.int .i64 (n:Int)))::env) H) (h0:ats[0]?=some T:=by exact rfl) (ht:TyIs Tryz.prog T d:=by exact ty rfl) (hk1:d.tk=.slice E:=by exact rfl) (hx:eo env x=some (.list sz n f):=by exact rfl) (hd:e<nt:=by exact dc rfl) :
    AR Tryz.prog r m nt ops Q (.q i ⟨some e,.call ⟨.builtin .len,#[x],ats⟩,ty,pos,after,none⟩::l) env H:=ar_q (qs_len_list ht hk1 h0 hx) hd hk
theorem zls {sz b o n:Nat}{ats:Array TypeId}(hk:AR Tryz.prog r m nt ops Q l ((e,.s (.int .i64 (n:Int)))::env) H) (h0:ats[0]?=some T:=by exact rfl) (ht:TyIs Tryz.prog T d:=by exact ty rfl) (hk1:d.tk=.slice E:=by exact rfl) (hx:eo env x=some (.sl sz b o n):=by exact rfl) (hd:e<nt:=by exact dc rfl) :
    AR Tryz.prog r m nt ops Q (.q i ⟨some e,.call ⟨.builtin .len,#[x],ats⟩,ty,pos,after,none⟩::l) env H:=ar_q (qs_len_sl ht hk1 h0 hx) hd hk
theorem zmin {k:IntKind}{a b:Int}{ats:Array TypeId}(hk:AR Tryz.prog r m nt ops Q l ((e,.s (.int k (min a b)))::env) H) (hx:eo env x=some (.s (.int k a)):=by exact rfl) (hy:eo env y=some (.s (.int k b)):=by exact rfl) (hd:e<nt:=by exact dc rfl) :
    AR Tryz.prog r m nt ops Q (.q i ⟨some e,.call ⟨.builtin .min,#[x,y],ats⟩,ty,pos,after,none⟩::l) env H:=ar_q (qs_min hx hy) hd hk
theorem zpt  (hk:AR Tryz.prog r m nt ops Q l ((e,v)::env) H) (hc:eo env c=some (.s (.bool true)):=by exact rfl) (hx:eo env x=some v:=by exact rfl) (hd:e<nt:=by exact dc rfl) :
    AR Tryz.prog r m nt ops Q (.q i ⟨some e,.pick c x y,ty,pos,after,none⟩::l) env H:=ar_q (qs_pick_t hc hx) hd hk
theorem zpf  (hk:AR Tryz.prog r m nt ops Q l ((e,v)::env) H) (hc:eo env c=some (.s (.bool false)):=by exact rfl) (hx:eo env y=some v:=by exact rfl) (hd:e<nt:=by exact dc rfl) :
    AR Tryz.prog r m nt ops Q (.q i ⟨some e,.pick c x y,ty,pos,after,none⟩::l) env H:=ar_q (qs_pick_f hc hx) hd hk
theorem zex {cs:List V}{k:Nat}(hk:AR Tryz.prog r m nt ops Q l ((e,v)::env) H) (hx:eo env x=some (.tup cs):=by exact rfl) (hv:cs[k]?=some v:=by exact rfl) (hd:e<nt:=by exact dc rfl) :
    AR Tryz.prog r m nt ops Q (.q i ⟨some e,.extract x k,ty,pos,after,none⟩::l) env H:=ar_q (qs_extract hx hv) hd hk
theorem znt {b:Bool}(hk:AR Tryz.prog r m nt ops Q l ((e,.s (.bool !b))::env) H) (hx:eo env x=some (.s (.bool b)):=by exact rfl) (hd:e<nt:=by exact dc rfl) :
    AR Tryz.prog r m nt ops Q (.q i ⟨some e,.unOp .not T x,ty,pos,after,none⟩::l) env H:=ar_q (qs_not hx) hd hk
theorem zng {a b:Int}(hk:AR Tryz.prog r m nt ops Q l ((e,.s (.int .i64 b))::env) H) (hx:eo env x=some (.s (.int .i64 a)):=by exact rfl) (hr:IntKind.i64.wrap (0-a)=b:=by exact wrap64n (by omega)) (hd:e<nt:=by exact dc rfl) :
    AR Tryz.prog r m nt ops Q (.q i ⟨some e,.unOp .neg T x,ty,pos,after,none⟩::l) env H:=ar_q (qs_neg hx hr) hd hk
theorem zncp {sz b j off:Nat}(hk:AR Tryz.prog r m nt ops Q l ((e,.ptr sz b j off)::env) H) (hx:eo env x=some (.ptr sz b j off):=by exact rfl) (hd:e<nt:=by exact dc rfl) :
    AR Tryz.prog r m nt ops Q (.q i ⟨some e,.nilCheck x,ty,pos,after,none⟩::l) env H:=ar_q (qs_nck_ptr hx) hd hk
theorem zncr {w:V}{off:Nat}(hk:AR Tryz.prog r m nt ops Q l ((e,.ref w off)::env) H) (hx:eo env x=some (.ref w off):=by exact rfl) (hd:e<nt:=by exact dc rfl) :
    AR Tryz.prog r m nt ops Q (.q i ⟨some e,.nilCheck x,ty,pos,after,none⟩::l) env H:=ar_q (qs_nck_ref hx) hd hk
theorem zmf {g:Fn}{us ws:Array Operand}{vs vs2:List V}(hk:AR Tryz.prog r m nt ops Q l ((e,.fn g vs vs2)::env) H) (h1:us.toList.mapM (eo env)=some vs:=by exact rfl) (h2:ws.toList.mapM (eo env)=some vs2:=by exact rfl) (hd:e<nt:=by exact dc rfl) :
    AR Tryz.prog r m nt ops Q (.q i ⟨some e,.makeFunc g us ws,ty,pos,after,none⟩::l) env H:=ar_q (qs_makeFunc h1 h2) hd hk
theorem zcv {k:IntKind}{a b:Int}(hk:AR Tryz.prog r m nt ops Q l ((e,.s (.int .i64 b))::env) H) (ht:TyIs Tryz.prog T d:=by exact ty rfl) (hk0:d.tk=.int k:=by exact rfl) (he:TyIs Tryz.prog E de:=by exact ty rfl) (hk1:de.tk=.int .i64:=by exact rfl) (hx:eo env x=some (.s (.int k a)):=by exact rfl) (hr:IntKind.i64.wrap a=b:=by exact wrap64 (by omega)) (hd:e<nt:=by exact dc rfl) :
    AR Tryz.prog r m nt ops Q (.q i ⟨some e,.convert T E x,ty,pos,after,none⟩::l) env H:=ar_q (qs_conv ht hk0 he hk1 hx hr) hd hk
theorem zcvu64 {k:IntKind}{a b:Int}(hk:AR Tryz.prog r m nt ops Q l ((e,.s (.int .u64 b))::env) H) (ht:TyIs Tryz.prog T d:=by exact ty rfl) (hk0:d.tk=.int k:=by exact rfl) (he:TyIs Tryz.prog E de:=by exact ty rfl) (hk1:de.tk=.int .u64:=by exact rfl) (hx:eo env x=some (.s (.int k a)):=by exact rfl) (hr:IntKind.u64.wrap a=b:=by exact wrapU (by omega)) (hd:e<nt:=by exact dc rfl) :
    AR Tryz.prog r m nt ops Q (.q i ⟨some e,.convert T E x,ty,pos,after,none⟩::l) env H:=ar_q (qs_conv ht hk0 he hk1 hx hr) hd hk
theorem zcl {sz n a b:Nat}{f:Nat→V}{lo hi:Option Operand}(hk:AR Tryz.prog r m nt ops Q l ((e,.list sz (b-a) (fun k=>f (a+k)))::env) H) (ht:TyIs Tryz.prog T d:=by exact ty rfl) (hk1:d.tk=.slice E:=by exact rfl) (he:TyIs Tryz.prog E de:=by exact ty rfl) (hs:de.size=sz:=by exact rfl) (hx:eo env x=some (.list sz n f):=by exact rfl) (hl:bnd env lo 0 a:=by first|exact rfl|exact ⟨_,rfl⟩|exact bnd_some rfl (by omega)) (hh:bnd env hi n b:=by first|exact rfl|exact ⟨_,rfl⟩|exact bnd_some rfl (by omega)) (h1:a≤b:=by omega) (h2:b≤n:=by omega) (hd:e<nt:=by exact dc rfl) :
    AR Tryz.prog r m nt ops Q (.q i ⟨some e,.slice T x lo hi none,ty,pos,after,none⟩::l) env H:=ar_q (qs_slice_list ht hk1 he hs hx hl hh h1 h2) hd hk
theorem zcs {sz g o n a b:Nat}{lo hi:Option Operand}(hk:AR Tryz.prog r m nt ops Q l ((e,.sl sz g (o+a) (b-a))::env) H) (ht:TyIs Tryz.prog T d:=by exact ty rfl) (hk1:d.tk=.slice E:=by exact rfl) (he:TyIs Tryz.prog E de:=by exact ty rfl) (hs:de.size=sz:=by exact rfl) (hx:eo env x=some (.sl sz g o n):=by exact rfl) (hl:bnd env lo 0 a:=by first|exact rfl|exact ⟨_,rfl⟩|exact bnd_some rfl (by omega)) (hh:bnd env hi n b:=by first|exact rfl|exact ⟨_,rfl⟩|exact bnd_some rfl (by omega)) (h1:a≤b:=by omega) (h2:b≤n:=by omega) (h3:a<n∨a=0:=by omega) (hd:e<nt:=by exact dc rfl) :
    AR Tryz.prog r m nt ops Q (.q i ⟨some e,.slice T x lo hi none,ty,pos,after,none⟩::l) env H:=ar_q (qs_slice_sl ht hk1 he hs hx hl hh h1 h2 h3) hd hk
theorem zbx  (h:AR Tryz.prog r m nt ops Q l ((e,.ptr v.cells.length H.length 0 0)::env) (H++[.arr v.cells.length 1 (fun _=>v)])) (hx:eo env x=some v:=by exact rfl) (hok:v.ok=true:=by exact rfl) (hd:e<nt:=by exact dc rfl) :
    AR Tryz.prog r m nt ops Q (.l i ⟨some e,.box T x,ty,pos,after,none⟩ keep::l) env H:=ar_boxf hx hok hd h
theorem zal  (h:AR Tryz.prog r m nt ops Q l ((e,.ptr (constV d.zero).cells.length H.length 0 0)::env) (H++[.arr (constV d.zero).cells.length 1 (fun _=>constV d.zero)])) (ht:TyIs Tryz.prog T d:=by exact ty rfl) (hok:(constV d.zero).ok=true:=by exact rfl) (hd:e<nt:=by exact dc rfl) :
    AR Tryz.prog r m nt ops Q (.l i ⟨some e,.alloc T,ty,pos,after,none⟩ keep::l) env H:=ar_alloc ht hok hd h
theorem zb1  (h:AR Tryz.prog r m nt ops Q l ((e,.sl de.size H.length 0 1)::env) (H++[.arr de.size 1 (fun _=>v)])) (ht:TyIs Tryz.prog T d:=by exact ty rfl) (hk1:d.tk=.slice E:=by exact rfl) (he:TyIs Tryz.prog E de:=by exact ty rfl) (hx:eo env x=some v:=by exact rfl) (hz:(constV de.zero).ok=true:=by exact rfl) (hzs:de.zero.cells.size=de.size:=by exact rfl) (hn:1*de.size≤16777216:=by exact Nat.le_of_ble_eq_true rfl) (hs:v.cells.length=de.size:=by exact rfl) (hok:v.ok=true:=by exact rfl) (hd:e<nt:=by exact dc rfl) :
    AR Tryz.prog r m nt ops Q (.l i ⟨some e,.buildSlice T 1 #[(0,x)],ty,pos,after,none⟩ keep::l) env H:=ar_build1 ht hk1 he hx hz hzs hn hs hok hd h
theorem zb0  (h:AR Tryz.prog r m nt ops Q l ((e,.emp)::env) H) (ht:TyIs Tryz.prog T d:=by exact ty rfl) (hk1:d.tk=.slice E:=by exact rfl) (he:TyIs Tryz.prog E de:=by exact ty rfl) (hd:e<nt:=by exact dc rfl) :
    AR Tryz.prog r m nt ops Q (.l i ⟨some e,.buildSlice T 0 #[],ty,pos,after,none⟩ keep::l) env H:=ar_build0 ht hk1 he hd h
theorem zapoo {dv yv:V}{sz n k:Nat}{f g:Nat→V}{H0:Heap}(h:AR Tryz.prog r m nt ops Q l ((e,.sl sz H.length 0 (n+k))::env) (H0++[.arr sz (n+k) (appF n f g)])) (ht:TyIs Tryz.prog T d:=by exact ty rfl) (hk1:d.tk=.slice E:=by exact rfl) (he:TyIs Tryz.prog E de:=by exact ty rfl) (hs:de.size=sz:=by exact rfl) (hpos:0<sz:=by exact Nat.succ_pos _) (hz:de.zero.cells.size=sz:=by exact rfl) (hx:eo env x=some dv:=by exact rfl) (hy:eo env y=some yv:=by exact rfl) (hg:Grow H dv sz n f H0:=by exact (.inr (.inr ⟨_,rfl,rfl,rfl⟩))) (hsr:Src H yv sz k g:=by exact (.inr (.inl ⟨_,_,_,_,rfl,rfl,(by omega),rfl⟩))) (hone:∀ j,j<k→(g j).cells.all V.one=true:=by exact fun _ _=>rfl) (hm:n+k≤maxLen:=by first|exact maxLen_ok (by omega)|(unfold maxLen;omega)) (hb:(n+k)*de.bytes≤140737488355328:=by (dsimp only;omega)) (hd:e<nt:=by exact dc rfl) :
    AR Tryz.prog r m nt ops Q (.l i ⟨some e,.call ⟨.builtin .append,#[x,y],#[T,T]⟩,ty,pos,after,none⟩ keep::l) env H:=ar_append ht hk1 he hs hpos hz hx hy hg hsr hd hone hm hb h
theorem zapol {dv yv:V}{sz n k:Nat}{f g:Nat→V}{H0:Heap}(h:AR Tryz.prog r m nt ops Q l ((e,.sl sz H.length 0 (n+k))::env) (H0++[.arr sz (n+k) (appF n f g)])) (ht:TyIs Tryz.prog T d:=by exact ty rfl) (hk1:d.tk=.slice E:=by exact rfl) (he:TyIs Tryz.prog E de:=by exact ty rfl) (hs:de.size=sz:=by exact rfl) (hpos:0<sz:=by exact Nat.succ_pos _) (hz:de.zero.cells.size=sz:=by exact rfl) (hx:eo env x=some dv:=by exact rfl) (hy:eo env y=some yv:=by exact rfl) (hg:Grow H dv sz n f H0:=by exact (.inr (.inr ⟨_,rfl,rfl,rfl⟩))) (hsr:Src H yv sz k g:=by exact (.inl rfl)) (hone:∀ j,j<k→(g j).cells.all V.one=true:=by exact fun _ _=>rfl) (hm:n+k≤maxLen:=by first|exact maxLen_ok (by omega)|(unfold maxLen;omega)) (hb:(n+k)*de.bytes≤140737488355328:=by (dsimp only;omega)) (hd:e<nt:=by exact dc rfl) :
    AR Tryz.prog r m nt ops Q (.l i ⟨some e,.call ⟨.builtin .append,#[x,y],#[T,T]⟩,ty,pos,after,none⟩ keep::l) env H:=ar_append ht hk1 he hs hpos hz hx hy hg hsr hd hone hm hb h
theorem zapel {dv yv:V}{sz n k:Nat}{g:Nat→V}{H0:Heap}(h:AR Tryz.prog r m nt ops Q l ((e,.sl sz H.length 0 (n+k))::env) (H0++[.arr sz (n+k) (appF n (fun _=>vnil) g)])) (ht:TyIs Tryz.prog T d:=by exact ty rfl) (hk1:d.tk=.slice E:=by exact rfl) (he:TyIs Tryz.prog E de:=by exact ty rfl) (hs:de.size=sz:=by exact rfl) (hpos:0<sz:=by exact Nat.succ_pos _) (hz:de.zero.cells.size=sz:=by exact rfl) (hx:eo env x=some dv:=by exact rfl) (hy:eo env y=some yv:=by exact rfl) (hg:Grow H dv sz n (fun _=>vnil) H0:=by exact (.inr (.inl ⟨rfl,rfl,rfl⟩))) (hsr:Src H yv sz k g:=by exact (.inl rfl)) (hone:∀ j,j<k→(g j).cells.all V.one=true:=by exact fun _ _=>rfl) (hm:n+k≤maxLen:=by first|exact maxLen_ok (by omega)|(unfold maxLen;omega)) (hb:(n+k)*de.bytes≤140737488355328:=by (dsimp only;omega)) (hd:e<nt:=by exact dc rfl) :
    AR Tryz.prog r m nt ops Q (.l i ⟨some e,.call ⟨.builtin .append,#[x,y],#[T,T]⟩,ty,pos,after,none⟩ keep::l) env H:=ar_append ht hk1 he hs hpos hz hx hy hg hsr hd hone hm hb h
theorem zsvs {sz b off:Nat}{f:Nat→V}(h:AR Tryz.prog r m nt ops Q l env (H.set b (.arr sz 1 (fun _=>putPart (f 0) off v)))) (ht:TyIs Tryz.prog T d:=by exact ty rfl) (hx:eo env x=some (.ptr sz b 0 off):=by exact rfl) (hy:eo env y=some v:=by exact rfl) (hH:H[b]?=some (.arr sz 1 f):=by exact rfl) (hok:v.ok=true:=by exact rfl) (hone:v.cells.all V.one=true:=by exact rfl) (hsz:v.cells.length=d.size:=by exact rfl) (hoff:off+d.size≤sz:=by first|(dsimp only;omega)|exact dc rfl) (ha:(∃ cs,f 0=.agg cs)∨(off=0∧v.cells.length=1∧(f 0).cells.length=1∧∀ cs,v≠.agg cs):=by exact (.inr ⟨rfl,rfl,rfl,fun _ h=>by cases h⟩))  :
    AR Tryz.prog r m nt ops Q (.l i ⟨none,.store T x y,ty,pos,after,none⟩ false::l) env H:=ar_store_var ht hx hy hH hok hone hsz hoff ha h
theorem zses {sz b j off n:Nat}{f:Nat→V}(h:AR Tryz.prog r m nt ops Q l env (H.set b (.arr sz n (upd f j (putPart (f j) off v))))) (ht:TyIs Tryz.prog T d:=by exact ty rfl) (hx:eo env x=some (.ptr sz b j off):=by exact rfl) (hy:eo env y=some v:=by exact rfl) (hH:H[b]?=some (.arr sz n f):=by exact rfl) (hok:v.ok=true:=by exact rfl) (hone:v.cells.all V.one=true:=by exact rfl) (hsz:v.cells.length=d.size:=by exact rfl) (hi:j<n:=by first|exact Nat.one_pos|assumption|omega) (hoff:off+d.size≤sz:=by first|(dsimp only;omega)|exact dc rfl) (ha:(∃ cs,f j=.agg cs)∨(off=0∧v.cells.length=1∧(f j).cells.length=1∧∀ cs,v≠.agg cs):=by exact (.inr ⟨rfl,rfl,rfl,fun _ h=>by cases h⟩))  :
    AR Tryz.prog r m nt ops Q (.l i ⟨none,.store T x y,ty,pos,after,none⟩ false::l) env H:=ar_store_elt ht hx hy hH hok hone hsz hi hoff ha h
theorem zsva {sz b off:Nat}{f:Nat→V}(h:AR Tryz.prog r m nt ops Q l env (H.set b (.arr sz 1 (fun _=>putPart (f 0) off v)))) (ht:TyIs Tryz.prog T d:=by exact ty rfl) (hx:eo env x=some (.ptr sz b 0 off):=by exact rfl) (hy:eo env y=some v:=by exact rfl) (hH:H[b]?=some (.arr sz 1 f):=by exact rfl) (hok:v.ok=true:=by exact rfl) (hone:v.cells.all V.one=true:=by exact rfl) (hsz:v.cells.length=d.size:=by exact rfl) (hoff:off+d.size≤sz:=by first|(dsimp only;omega)|exact dc rfl) (ha:(∃ cs,f 0=.agg cs)∨(off=0∧v.cells.length=1∧(f 0).cells.length=1∧∀ cs,v≠.agg cs):=by exact (.inl ⟨_,rfl⟩))  :
    AR Tryz.prog r m nt ops Q (.l i ⟨none,.store T x y,ty,pos,after,none⟩ false::l) env H:=ar_store_var ht hx hy hH hok hone hsz hoff ha h
theorem zsea {sz b j off n:Nat}{f:Nat→V}(h:AR Tryz.prog r m nt ops Q l env (H.set b (.arr sz n (upd f j (putPart (f j) off v))))) (ht:TyIs Tryz.prog T d:=by exact ty rfl) (hx:eo env x=some (.ptr sz b j off):=by exact rfl) (hy:eo env y=some v:=by exact rfl) (hH:H[b]?=some (.arr sz n f):=by exact rfl) (hok:v.ok=true:=by exact rfl) (hone:v.cells.all V.one=true:=by exact rfl) (hsz:v.cells.length=d.size:=by exact rfl) (hi:j<n:=by first|exact Nat.one_pos|assumption|omega) (hoff:off+d.size≤sz:=by first|(dsimp only;omega)|exact dc rfl) (ha:(∃ cs,f j=.agg cs)∨(off=0∧v.cells.length=1∧(f j).cells.length=1∧∀ cs,v≠.agg cs):=by exact (.inl ⟨_,rfl⟩))  :
    AR Tryz.prog r m nt ops Q (.l i ⟨none,.store T x y,ty,pos,after,none⟩ false::l) env H:=ar_store_elt ht hx hy hH hok hone hsz hi hoff ha h
theorem zgu {s:Stp}{g t:Nat}{want:Bool}(h:AR Tryz.prog r m nt ops Q l ((e,.s undef)::env) H) (hg:s.oper.guard=some (g,want):=by exact rfl) (ht:(ops[g]?).bind (·.dst)=some t:=by exact rfl) (hd:s.oper.dst=some e:=by exact rfl) (hb:look env t=some (.s undef):=by exact rfl) (hdn:e<nt:=by exact dc rfl):AR Tryz.prog r m nt ops Q (s::l) env H:=ar_guard_u hg ht hd hb hdn h
theorem zg {s:Stp}{g t:Nat}{b want:Bool}(hy:b=want→AR Tryz.prog r m nt ops Q (s.bare::l) ((t,.s (.bool want))::env) H) (hn:b=!want→AR Tryz.prog r m nt ops Q l ((e,.s undef)::(t,.s (.bool !want))::env) H) (hg:s.oper.guard=some (g,want):=by exact rfl) (ht:(ops[g]?).bind (·.dst)=some t:=by exact rfl) (hb:look env t=some (.s (.bool b)):=by exact rfl) (hd:s.oper.dst=some e:=by exact rfl) (hdn:e<nt:=by exact dc rfl):AR Tryz.prog r m nt ops Q (s::l) env H:=ar_guard hg ht hb hd hdn hy hn
theorem zco {x:Operand}{c1 c2:Code}{b:Bool}(hy:b=true→AW Tryz.prog r m nt c1 Q env H) (hn:b=false→AW Tryz.prog r m nt c2 Q env H) (hc:eo env x=some (.s (.bool b)):=by exact rfl):AW Tryz.prog r m nt (.cond x c1 c2) Q env H:=aw_cond hc hy hn
theorem yzll {nt e:Nat}{env:Env}{H:Heap}{ty:TypeId}{pos:String}{after:Array Edge}{x:Operand}{T:TypeId}{E:TypeId}{d:TyD}{sz n:Nat}{f:Nat→V}{ats:Array TypeId}  (h0:ats[0]?=some T:=by exact rfl) (ht:TyIs Tryz.prog T d:=by exact ty rfl) (hk1:d.tk=.slice E:=by exact rfl) (hx:eo env x=some (.list sz n f):=by exact rfl):QS Tryz.prog nt env H ⟨some e,.call ⟨.builtin .len,#[x],ats⟩,ty,pos,after,none⟩ (.s (.int .i64 (n:Int))):=qs_len_list ht hk1 h0 hx
theorem yzls {nt e:Nat}{env:Env}{H:Heap}{ty:TypeId}{pos:String}{after:Array Edge}{x:Operand}{T:TypeId}{E:TypeId}{d:TyD}{sz b o n:Nat}{ats:Array TypeId}  (h0:ats[0]?=some T:=by exact rfl) (ht:TyIs Tryz.prog T d:=by exact ty rfl) (hk1:d.tk=.slice E:=by exact rfl) (hx:eo env x=some (.sl sz b o n):=by exact rfl):QS Tryz.prog nt env H ⟨some e,.call ⟨.builtin .len,#[x],ats⟩,ty,pos,after,none⟩ (.s (.int .i64 (n:Int))):=qs_len_sl ht hk1 h0 hx
theorem yzln {nt e:Nat}{env:Env}{H:Heap}{ty:TypeId}{pos:String}{after:Array Edge}{x:Operand}{T:TypeId}{E:TypeId}{d:TyD}{ats:Array TypeId}  (h0:ats[0]?=some T:=by exact rfl) (ht:TyIs Tryz.prog T d:=by exact ty rfl) (hk1:d.tk=.slice E:=by exact rfl) (hx:eo env x=some (.s (.slice none 0 0)):=by exact rfl):QS Tryz.prog nt env H ⟨some e,.call ⟨.builtin .len,#[x],ats⟩,ty,pos,after,none⟩ (.s (.int .i64 0)):=qs_len_nil ht hk1 h0 hx
theorem yzle {nt e:Nat}{env:Env}{H:Heap}{ty:TypeId}{pos:String}{after:Array Edge}{x:Operand}{T:TypeId}{E:TypeId}{d:TyD}{ats:Array TypeId}  (h0:ats[0]?=some T:=by exact rfl) (ht:TyIs Tryz.prog T d:=by exact ty rfl) (hk1:d.tk=.slice E:=by exact rfl) (hx:eo env x=some (.emp):=by exact rfl):QS Tryz.prog nt env H ⟨some e,.call ⟨.builtin .len,#[x],ats⟩,ty,pos,after,none⟩ (.s (.int .i64 0)):=qs_len_emp ht hk1 h0 hx
theorem zk_load {nt:Nat}{env:Env}{H:Heap}{v:V}{dst:Option Tmp}{ty:TypeId}{pos:String}{after:Array Edge}{guard:Option (Nat × Bool)}{T:TypeId}{x:Operand}(h:QS Tryz.prog nt env H ⟨dst,.load T x,ty,pos,after,guard⟩ v):QS Tryz.prog nt env H ⟨dst,.load T x,ty,pos,after,guard⟩ v:=h
theorem zk_binOp {nt:Nat}{env:Env}{H:Heap}{v:V}{dst:Option Tmp}{ty:TypeId}{pos:String}{after:Array Edge}{guard:Option (Nat × Bool)}{o:BinOp}{T T2:TypeId}{x y:Operand}(h:QS Tryz.prog nt env H ⟨dst,.binOp o T x y T2,ty,pos,after,guard⟩ v):QS Tryz.prog nt env H ⟨dst,.binOp o T x y T2,ty,pos,after,guard⟩ v:=h
theorem zk_fieldAddr {nt:Nat}{env:Env}{H:Heap}{v:V}{dst:Option Tmp}{ty:TypeId}{pos:String}{after:Array Edge}{guard:Option (Nat × Bool)}{T:TypeId}{x:Operand}{k:Nat}(h:QS Tryz.prog nt env H ⟨dst,.fieldAddr T x k,ty,pos,after,guard⟩ v):QS Tryz.prog nt env H ⟨dst,.fieldAddr T x k,ty,pos,after,guard⟩ v:=h
theorem zk_indexAddr {nt:Nat}{env:Env}{H:Heap}{v:V}{dst:Option Tmp}{ty:TypeId}{pos:String}{after:Array Edge}{guard:Option (Nat × Bool)}{T:TypeId}{x y:Operand}(h:QS Tryz.prog nt env H ⟨dst,.indexAddr T x y,ty,pos,after,guard⟩ v):QS Tryz.prog nt env H ⟨dst,.indexAddr T x y,ty,pos,after,guard⟩ v:=h
theorem zk_call {nt:Nat}{env:Env}{H:Heap}{v:V}{dst:Option Tmp}{ty:TypeId}{pos:String}{after:Array Edge}{guard:Option (Nat × Bool)}{c:Call}(h:QS Tryz.prog nt env H ⟨dst,.call c,ty,pos,after,guard⟩ v):QS Tryz.prog nt env H ⟨dst,.call c,ty,pos,after,guard⟩ v:=h
theorem zk_pick {nt:Nat}{env:Env}{H:Heap}{v:V}{dst:Option Tmp}{ty:TypeId}{pos:String}{after:Array Edge}{guard:Option (Nat × Bool)}{c x y:Operand}(h:QS Tryz.prog nt env H ⟨dst,.pick c x y,ty,pos,after,guard⟩ v):QS Tryz.prog nt env H ⟨dst,.pick c x y,ty,pos,after,guard⟩ v:=h
theorem zk_unOp {nt:Nat}{env:Env}{H:Heap}{v:V}{dst:Option Tmp}{ty:TypeId}{pos:String}{after:Array Edge}{guard:Option (Nat × Bool)}{o:UnOp}{T:TypeId}{x:Operand}(h:QS Tryz.prog nt env H ⟨dst,.unOp o T x,ty,pos,after,guard⟩ v):QS Tryz.prog nt env H ⟨dst,.unOp o T x,ty,pos,after,guard⟩ v:=h
theorem zk_convert {nt:Nat}{env:Env}{H:Heap}{v:V}{dst:Option Tmp}{ty:TypeId}{pos:String}{after:Array Edge}{guard:Option (Nat × Bool)}{T E:TypeId}{x:Operand}(h:QS Tryz.prog nt env H ⟨dst,.convert T E x,ty,pos,after,guard⟩ v):QS Tryz.prog nt env H ⟨dst,.convert T E x,ty,pos,after,guard⟩ v:=h
theorem zk_nilCheck {nt:Nat}{env:Env}{H:Heap}{v:V}{dst:Option Tmp}{ty:TypeId}{pos:String}{after:Array Edge}{guard:Option (Nat × Bool)}{x:Operand}(h:QS Tryz.prog nt env H ⟨dst,.nilCheck x,ty,pos,after,guard⟩ v):QS Tryz.prog nt env H ⟨dst,.nilCheck x,ty,pos,after,guard⟩ v:=h
theorem zq {r:Option Nat}{m nt i e:Nat}{Q:Post}{env:Env}{H:Heap}{ops:Array Oper}{l:List Stp}{op:Op}{ty:TypeId}{pos:String}{after:Array Edge}{v:V}(hk:AR Tryz.prog r m nt ops Q l ((e,v)::env) H) (hq:QS Tryz.prog nt env H ⟨some e,op,ty,pos,after,none⟩ v:=by first|exact qs_move (by exact rfl)|exact qs_assign (by exact rfl)|(apply zk_load;first|exact qs_load_ptr (by exact ty rfl) (by exact rfl) (by exact rfl) (by first|exact Nat.one_pos|assumption|omega) (by exact rfl)|exact qs_load_ref (by exact ty rfl) (by exact rfl) (by exact rfl))|(apply zk_binOp;first|exact qs_lss (by exact rfl) (by exact rfl)|exact qs_leq (by exact rfl) (by exact rfl)|exact qs_gtr (by exact rfl) (by exact rfl)|exact qs_geq (by exact rfl) (by exact rfl)|exact qs_eql (by exact rfl) (by exact rfl)|exact qs_neq (by exact rfl) (by exact rfl)|exact qs_add (by exact rfl) (by exact rfl) (by exact wrap64 (by omega))|exact qs_sub (by exact rfl) (by exact rfl) (by exact wrap64 (by omega))|exact qs_mul (by exact rfl) (by exact rfl) (by exact wrap64 (by omega))|exact qs_add (by exact rfl) (by exact rfl) (by exact wrap8 (by omega))|exact qs_sub (by exact rfl) (by exact rfl) (by exact wrap8 (by omega))|exact qs_mul (by exact rfl) (by exact rfl) (by exact wrap8 (by omega))|exact qs_add (by exact rfl) (by exact rfl) (by exact wrapU (by omega))|exact qs_sub (by exact rfl) (by exact rfl) (by exact wrapU (by omega))|exact qs_mul (by exact rfl) (by exact rfl) (by exact wrapU (by omega))|exact qs_add (by exact rfl) (by exact rfl) (by exact wrapU32 (by omega))|exact qs_sub (by exact rfl) (by exact rfl) (by exact wrapU32 (by omega))|exact qs_mul (by exact rfl) (by exact rfl) (by exact wrapU32 (by omega))|exact qs_beq (by exact ty rfl) (by exact rfl) (by exact rfl) (by exact rfl)|exact qs_bneq (by exact ty rfl) (by exact rfl) (by exact rfl) (by exact rfl)|exact qs_quo (by exact rfl) (by exact rfl) (by omega) (by exact quo64 (by omega) (by omega))|exact qs_rem (by exact rfl) (by exact rfl) (by omega) (by exact rem64 (by omega)))|(apply zk_fieldAddr;first|exact qs_faddr_ptr (by exact ty rfl) (by exact rfl) (by exact rfl) (by exact ty rfl) (by exact Nat.succ_ne_zero _) (by exact rfl)|exact qs_faddr_ref (by exact ty rfl) (by exact rfl) (by exact rfl) (by exact ty rfl) (by exact Nat.succ_ne_zero _) (by exact rfl))|(apply zk_indexAddr;first|exact qs_iaddr_list (by exact ty rfl) (by exact rfl) (by exact ty rfl) (by exact rfl) (by exact rfl) (by exact rfl) (by first|exact rfl|omega) (by omega)|exact qs_iaddr_sl0 (by exact ty rfl) (by exact rfl) (by exact ty rfl) (by exact rfl) (by exact rfl) (by exact rfl) (by first|exact rfl|omega) (by omega)|exact qs_iaddr_sl (by exact ty rfl) (by exact rfl) (by exact ty rfl) (by exact rfl) (by exact rfl) (by exact rfl) (by first|exact rfl|omega) (by omega)|exact qs_iaddr_aptr (by exact ty rfl) (by exact rfl) (by exact ty rfl) (by exact rfl) (by exact rfl) (by first|exact rfl|omega) (by omega)|exact qs_iaddr_aref (by exact ty rfl) (by exact rfl) (by exact ty rfl) (by exact rfl) (by exact rfl) (by first|exact rfl|omega) (by omega))|(apply zk_call;first|exact yzll|exact yzls|exact yzln|exact yzle|exact qs_min (by exact rfl) (by exact rfl)|exact qs_max (by exact rfl) (by exact rfl))|(apply zk_pick;first|exact qs_pick_t (by exact rfl) (by exact rfl)|exact qs_pick_f (by exact rfl) (by exact rfl))|(apply zk_unOp;first|exact qs_not (by exact rfl)|exact qs_neg (by exact rfl) (by exact wrap64n (by omega)))|(apply zk_convert;first|exact qs_conv (by exact ty rfl) (by exact rfl) (by exact ty rfl) (by exact rfl) (by exact rfl) (by exact wrap64 (by omega))|exact qs_conv (by exact ty rfl) (by exact rfl) (by exact ty rfl) (by exact rfl) (by exact rfl) (by exact wrap8 (by omega))|exact qs_conv (by exact ty rfl) (by exact rfl) (by exact ty rfl) (by exact rfl) (by exact rfl) (by exact wrapU (by omega))|exact qs_conv (by exact ty rfl) (by exact rfl) (by exact ty rfl) (by exact rfl) (by exact rfl) (by exact wrapU32 (by omega)))|(apply zk_nilCheck;first|exact qs_nck_ptr (by exact rfl)|exact qs_nck_ref (by exact rfl))|exact qs_extract (by exact rfl) (by exact rfl)|exact qs_field (by exact ty rfl) (by exact rfl) (by exact rfl) (by exact ty rfl) (by exact rfl) (by exact rfl)|exact qs_makeFunc (by exact rfl) (by exact rfl)|exact qs_index (by exact ty rfl) (by exact rfl) (by exact ty rfl) (by exact rfl) (by exact rfl) (by first|exact rfl|omega) (by omega) (by exact rfl)) (hd:e<nt:=by exact dc rfl) :
    AR Tryz.prog r m nt ops Q (.q i ⟨some e,op,ty,pos,after,none⟩::l) env H:=ar_q hq hd hk
theorem zpv {r:Option Nat}{m nt i d:Nat}{Q:Post}{env:Env}{H:Heap}{ops:Array Oper}{l:List Stp}{ty:TypeId}{pos:String}{after:Array Edge}{keep:Bool}{fo:Operand}{args:List Operand}{ats:Array TypeId}{f:FuncId}{first cap vs ws:List V}{v0:V}(hfn:FnOk Tryz.prog f) (hc:PCalls Tryz.prog f ws (·=v0)) (hk:AR Tryz.prog r m nt ops Q l ((d,v0)::env) H)
    (hf:eo env fo=some (.fn (.func f) first cap):=by exact rfl) (hargs:args.mapM (eo env)=some vs:=by exact rfl) (ha:ArgsOk false H (first++vs++cap) ws:=by ((repeat' (first|exact .nil|refine .cons (.closed rfl) ?_|refine .cons .nil ?_|refine .cons .emp ?_|refine .cons (.ext (fun _ _=>rfl)) ?_));first|done|fail)) (hd:d<nt:=by exact dc rfl) :
    AR Tryz.prog r m nt ops Q (.l i ⟨some d,.call ⟨.value fo,args.toArray,ats⟩,ty,pos,after,none⟩ keep::l) env H:=ar_pcall (own:=false) hfn hf hargs ha hc (by simp) hd (fun v hv=>by subst hv;exact hk)
theorem vz1 {H:Heap}{σ:List (Option Nat)}{fr:Nat→Prop}{v x:V}(h:VSub H σ fr v x:=by first|exact .closed rfl|exact .sl rfl|exact .ptr rfl|exact .map rfl|exact .nil rfl|exact .emp rfl|exact .nilList|exact .empList|exact frzPtr' (by simp;done) rfl (by omega) rfl rfl|exact frzLB (by simp;done) rfl (fun _=>rfl) rfl|exact frz_all (by simp;done) rfl (fun _ _=>rfl) (fun _=>rfl) rfl|exact .frz (by simp;done) rfl (by omega) (fun _ _=>rfl) (fun _ _=>rfl)|exact slEq rfl (by first|(simp;done)|(simp;omega))|exact siEq (by omega)|fail):VSub H σ fr v x:=h
theorem vz2 {H:Heap}{σ:List (Option Nat)}{fr:Nat→Prop}{v x:V}(h:VSub H σ fr v x:=by first|exact .of_eq (by refine (show V.agg _=V.agg _ from ?_);(try dsimp only);congr<;>first|rfl|omega) rfl|exact .closed (by simp [V.closed,V.closed.all, *];done)|fail):VSub H σ fr v x:=h
theorem zsb {m nt:Nat}{env env0:Env}{H H0:Heap}(σ:List (Option Nat)) (fr:List Nat) (h:(Nat.beq σ.length H0.length&&preB m σ&&injB σ&&apartB fr σ)=true:=by exact rfl) (he:EnvSub H σ (·∈fr) env env0:=by ((repeat' (first|exact trivial|refine ⟨⟨_,rfl,?_⟩,?_⟩|refine ⟨bsub_snoc rfl rfl (fun _=>rfl) ?_,?_⟩|refine ⟨bsub_one rfl rfl ?_,?_⟩|refine ⟨bsub_all rfl rfl (fun _ _=>rfl) (fun _=>rfl),?_⟩|refine ⟨bsub_updL rfl rfl ?_ (fun _ _ _=>rfl) (fun _=>rfl),?_⟩|refine ⟨.inl ⟨_,_,rfl,rfl,?_⟩,?_⟩|exact ⟨.inr ⟨rfl,rfl⟩,trivial⟩|refine ⟨.inr ⟨rfl,rfl⟩,?_⟩|(intro _ _)|exact vz1|exact vz2|fail));first|done|fail)) (hh:HSub H σ (·∈fr) 0 H0:=by ((repeat' (first|exact trivial|refine ⟨⟨_,rfl,?_⟩,?_⟩|refine ⟨bsub_snoc rfl rfl (fun _=>rfl) ?_,?_⟩|refine ⟨bsub_one rfl rfl ?_,?_⟩|refine ⟨bsub_all rfl rfl (fun _ _=>rfl) (fun _=>rfl),?_⟩|refine ⟨bsub_updL rfl rfl ?_ (fun _ _ _=>rfl) (fun _=>rfl),?_⟩|refine ⟨.inl ⟨_,_,rfl,rfl,?_⟩,?_⟩|exact ⟨.inr ⟨rfl,rfl⟩,trivial⟩|refine ⟨.inr ⟨rfl,rfl⟩,?_⟩|(intro _ _)|exact vz1|exact vz2|fail));first|done|fail)):SubOf m nt env H env0 H0:=sub_to σ fr h he hh
theorem vs1 {α:Type}[Inhabited α] {H:Heap}{σ:List (Option Nat)}{fr:Nat→Prop}{k:Nat}{l:Heap}{b sz:Nat}{e:α→V}{l0:List α}{x:α}{g:Nat→V}(hv:VSub H σ fr (g 0) (e x)) (h:HSub H σ fr (k+1) l) (h1:σ[k]?=some (some b):=by exact rfl) (h2:H[b]?=some (.arr sz (l0.length+1) (appF l0.length (fun i=>e (el l0 i)) g)):=by exact rfl) (hc:∀ y,(e y).closed=true:=by exact fun _=>rfl):HSub H σ fr k (LB sz e (l0++[x])::l):=⟨bsub_snoc h1 h2 hc hv,h⟩
theorem vs5 {H:Heap}{σ:List (Option Nat)}{fr:Nat→Prop}{k:Nat}{l:Heap}{b sz n:Nat}{f g:Nat→V}(hv:∀ i,i<n→VSub H σ fr (f i) (g i)) (h:HSub H σ fr (k+1) l) (h1:σ[k]?=some (some b):=by exact rfl) (h2:H[b]?=some (.arr sz n f):=by exact rfl):HSub H σ fr k (.arr sz n g::l):=⟨.inl ⟨b,f,h1,h2,hv⟩,h⟩
theorem vs2 {α:Type}[Inhabited α] {H:Heap}{σ:List (Option Nat)}{fr:Nat→Prop}{k:Nat}{l:Heap}{b sz:Nat}{e:α→V}{x:α}{f g:Nat→V}(hv:VSub H σ fr (g 0) (e x)) (h:HSub H σ fr (k+1) l) (h1:σ[k]?=some (some b):=by exact rfl) (h2:H[b]?=some (.arr sz (0+1) (appF 0 f g)):=by exact rfl):HSub H σ fr k (LB sz e [x]::l):=⟨bsub_one h1 h2 hv,h⟩
theorem vs3 {α:Type}[Inhabited α] {H:Heap}{σ:List (Option Nat)}{fr:Nat→Prop}{k:Nat}{l:Heap}{b sz:Nat}{e:α→V}{l0:List α}{f g:Nat→V}(h:HSub H σ fr (k+1) l) (h1:σ[k]?=some (some b):=by exact rfl) (h2:H[b]?=some (.arr sz (0+l0.length) (appF 0 f g)):=by exact rfl) (hg:∀ i,i<l0.length→g i=e (el l0 i):=by exact fun _ _=>rfl) (hc:∀ y,(e y).closed=true:=by exact fun _=>rfl):HSub H σ fr k (LB sz e l0::l):=⟨bsub_all h1 h2 hg hc,h⟩
theorem vs4 {α:Type}[Inhabited α] {H:Heap}{σ:List (Option Nat)}{fr:Nat→Prop}{k:Nat}{l:Heap}{b sz j:Nat}{e:α→V}{l0:List α}{f:Nat→V}{v:V}(hv:VSub H σ fr v (e (el l0 j))) (h:HSub H σ fr (k+1) l) (h1:σ[k]?=some (some b):=by exact rfl) (h2:H[b]?=some (.arr sz l0.length (upd f j v)):=by exact rfl) (hf:∀ i,i<l0.length→i≠j→f i=e (el l0 i):=by exact fun _ _ _=>rfl) (hc:∀ y,(e y).closed=true:=by exact fun _=>rfl):HSub H σ fr k (LB sz e l0::l):=⟨bsub_updL h1 h2 hv hf hc,h⟩
theorem zsr {G G':Prop}(h:G') (hs:G'→G:=by first|exact ar_nil|exact fun h=>zbx h|exact fun h=>zal h|exact fun h=>zb1 h|exact fun h=>zb0 h|exact fun h=>zapoo h|exact fun h=>zapol h|exact fun h=>zapno h|exact fun h=>zapnl h|exact fun h=>zapeo h|exact fun h=>zapel h|exact fun h=>zsvs h|exact fun h=>zsva h|exact fun h=>zses h|exact fun h=>zsea h|exact fun h=>zxl h|exact fun h=>zxs h):G:=hs h
theorem zst {G G':Prop}(h:G') (hs:G'→G:=by first|exact aw_seq|exact aw_skip|exact aw_block|exact aw_exit|exact aw_region|exact ar_nil|exact fun h=>zbx h|exact fun h=>zal h|exact fun h=>zb1 h|exact fun h=>zb0 h|exact fun h=>zapoo h|exact fun h=>zapol h|exact fun h=>zapno h|exact fun h=>zapnl h|exact fun h=>zapeo h|exact fun h=>zapel h|exact fun h=>zsvs h|exact fun h=>zsva h|exact fun h=>zses h|exact fun h=>zsea h|exact fun h=>zxl h|exact fun h=>zxs h):G:=hs h
theorem zd {p G:Prop}(h:¬ p:=by first|decide|(refine fun (hg:(_:Prop))=>?_;(try replace hg:=HG.out hg);(try dsimp only at hg);omega)):p→G:=fun a=>absurd a h
abbrev encInts (l:List Int):V:=LV 1 vi l
abbrev encRows (b:List (List Int)):V:=LV 1 encInts b
structure Sheet where
  cols:Int
  rows:Int
  weight:Int
  clear:Int
  lean:Int
def Sheet.enc (s:Sheet):V:=.agg [vi s.cols,vi s.rows,vi s.weight,vi s.clear,vi s.lean]
def withinB (n lo hi:Int):Bool:=decide (lo≤n)&&decide (n≤hi)
theorem withinB_iff {n lo hi:Int}:withinB n lo hi=true↔lo≤n∧n≤hi:=by simp [withinB]
theorem withinB_no {n lo hi:Int}:withinB n lo hi=false↔¬ (lo≤n∧n≤hi):=by rw [← withinB_iff];simp
def Sheet.ok (s:Sheet):Bool:=withinB s.cols 1 40&&withinB s.rows 1 60&&withinB s.weight 1 8&&withinB s.clear 0 20&&withinB s.lean 0 8
def Sheet.err (s:Sheet):Int:=if s.ok then 0 else 70
theorem Sheet.bounds {s:Sheet}(h:s.ok=true):1≤s.cols∧s.cols≤40∧1≤s.rows∧s.rows≤60∧1≤s.weight∧s.weight≤8∧0≤s.clear∧s.clear≤20∧0≤s.lean∧s.lean≤8:=by
  simp only [Sheet.ok,Bool.and_eq_true,withinB_iff] at h
  omega
def lineAt (s:Sheet) (l:List Int) (k:Nat):Bool:=withinB (el l k) 0 (s.rows-s.weight)&&(decide (k=0)||withinB (el l k-el l (k-1)) (-s.lean) s.lean)
def isLineB (s:Sheet) (l:List Int):Bool:=decide ((l.length:Int)=s.cols)&&(List.range l.length).all (lineAt s l)
theorem within_p (n lo hi:Int):PCalls Tryz.prog 70 [vi n,vi lo,vi hi] (·=vb (withinB n lo hi)):=by
  refine pcalls_of_aw Tryz.func70 rfl (dc rfl) ?_
  (repeat' (first|(refine ar_isq ?_;refine zq ?_)|refine zg ?_ ?_|refine zgu ?_|refine zst ?_|refine zco ?_ ?_|exact zd|(refine fun (hg:(_:Prop))=>?_;(try replace hg:=HG.out hg);(try dsimp only at hg);(try (have _h:True:=hg;clear _h hg)))))
  all_goals (refine aw_ret ?_;(repeat (first|refine ret_then ?_|refine ret_block ?_));refine bq1 rfl ⟨?_,rfl⟩)
  all_goals (simp only [vb,constV,withinB];congr 2;simp;try omega)
theorem checkSheet_p (s:Sheet):PCalls Tryz.prog 65 [s.enc] (·=vi s.err):=by
  refine pcalls_of_aw Tryz.func65 rfl (dc rfl) ?_
  (repeat' (first|(refine ar_isq ?_;refine zq ?_)|(refine zpv fn70 (within_p _ _ _) ?_)|refine zg ?_ ?_|refine zgu ?_|refine zst ?_|refine zco ?_ ?_|exact zd|(refine fun (hg:(_:Prop))=>?_;(try replace hg:=HG.out hg);(try dsimp only at hg);(try (have _h:True:=hg;clear _h hg)))))
  all_goals (refine aw_ret ?_;(repeat (first|refine ret_then ?_|refine ret_block ?_));refine bq1 rfl ⟨?_,rfl⟩)
  all_goals (simp only [vi,constV,Sheet.err,Sheet.ok];simp_all)
section
variable {H:Heap}{σ:List (Option Nat)}{fr:Nat→Prop}{α:Type}[Inhabited α]
theorem frz_as {b sz n N:Nat}{e:α→V}{l:List α}{f:Nat→V}(hf:fr b) (hb:H[b]?=some (.arr sz N f)) (hn:n=N) (hl:l.length=N) (hg:∀ i,i<N→f i=e (el l i)) (hc:∀ y,V.closed.all (e y).cells=true):VSub H σ fr (.sl sz b 0 n) (LV sz e l):=by
  subst hn hl
  exact .frz hf hb (by omega) (fun i hi=>by rw [hg i hi];exact hc _) (fun i hi=>by rw [Nat.zero_add];exact (hg i hi).symm)
end
theorem upd_same {f:Nat→V}{i:Nat}{v:V}:upd f i v i=v:=by rw [upd_at,if_pos rfl]
theorem upd_other {f:Nat→V}{i j:Nat}{v:V}(h:j≠i):upd f i v j=f j:=by rw [upd_at,if_neg h]
section
variable {P:Program}{r:Option Nat}{m nt:Nat}{Q:Post}{env:Env}{H:Heap}{ops:Array Oper}{l:List Stp}{ty:TypeId}{pos:String}{after:Array Edge}{x y:Operand}{T E:TypeId}{d de:TyD}{i dst:Nat}{keep:Bool}
theorem ar_make_v {n:Nat}{kl kc:IntKind}{v v':Int}(ht:TyIs P T d) (hk:d.tk=.slice E) (he:TyIs P E de) (hx:eo env x=some (.s (.int kl v))) (hy:eo env y=some (.s (.int kc v'))) (hv:v=(n:Int)) (hv':v'=(n:Int)) (hd:dst<nt) (hok:(constV de.zero).ok=true) (hz:(constV de.zero).cells.length=de.size) (hb:de.bytes*n≤281474976710656) (hm:n≤maxLen)
    (h:AR P r m nt ops Q l ((dst,.sl de.size H.length 0 n)::env) (H++[.arr de.size n (fun _=>constV de.zero)])):AR P r m nt ops Q (.l i ⟨some dst,.makeSlice T x y,ty,pos,after,none⟩ keep::l) env H:=by
  subst hv hv'
  exact ar_make ht hk he hx hy hd hok hz hb hm h
end
section
variable {P:Program}{r:Option Nat}{m nt:Nat}{Q:Post}{env env':Env}{H H':Heap}{ops:Array Oper}{l:List Stp}{ty:TypeId}{pos:String}{after:Array Edge}{i dst:Nat}{op:Op}
theorem ar_sub_l (hs:SubOf m nt env H env' H') (h:AR P r m nt ops Q (.l i ⟨some dst,op,ty,pos,after,none⟩ false::l) env' H'):AR P r m nt ops Q (.l i ⟨some dst,op,ty,pos,after,none⟩ false::l) env H:=.mk fun X I ρ a w hX hst=>by
  obtain ⟨I',ρ',_,h2⟩:=hs.1 X I ρ a w hX hst
  have h3:=h.1 X I' ρ' a w hX h2
  refine ⟨fun hw=>?_,fun hw=>by rw [wanted_none rfl] at hw;cases hw⟩
  refine Oper.wpIn_mono (fun a' w' ⟨S',h4,_,h5⟩=>⟨S',h4,(fun h=>by cases h),h5⟩) (h3.1 hw)
end
def KpI (I:Imm) (W W':World):Prop:=∀ b o,I b=some o→W.heap[b]?=some o→W'.heap[b]?=some o
end Go.Proofs.YtbilpbabdgfblaaGreat
namespace Go.Proofs.YtbilpbabdgfblaaGreat.It
open Go.RowKit
structure Cx (P:Program) where
  l:Nat
  I:Imm
  J:Nat→World→Prop
  N:Nat
  el:Nat→List Value
  round:∀ k W1,J k W1→k<N→YieldAt Fence.wide 0 P l (el k).toArray W1 fun e W'=>e=.returned (.bool true)∧J (k+1) W'∧KpI I W1 W'
abbrev Post:=AE→Env→Nat→Prop
section
variable {P:Program}(C:Cx P)
def St (nt:Nat) (env:Env) (k:Nat) (a:Act) (w:World):Prop:=EnvOk C.I [] nt env a∧(∀ b o,C.I b=some o→w.heap[b]?=some o)∧a.defers=[]∧C.J k w
def Lift (nt:Nat) (Q:Post):Exit→Act→World→Prop
  | .normal,a,w=>∃ env k,St C nt env k a w∧Q .normal env k
  | .exit id,a,w=>∃ env k,St C nt env k a w∧Q (.exit id) env k
  | .goto l,a,w=>∃ env k,St C nt env k a w∧Q (.goto l) env k
  | .ret,a,w=>∃ env k,St C nt env k a w∧Q .ret env k
  | .panic _,_,_=>False
  | .outgrown,_,_=>False
structure AW (nt:Nat) (c:Code) (Q:Post) (env:Env) (k:Nat):Prop where
  out:∀ a w,St C nt env k a w→c.wpIn (Fw none) 0 P (Lift C nt Q) a w
structure AR (nt:Nat) (ops:Array Oper) (Q:Post) (l:List Stp) (env:Env) (k:Nat):Prop where
  out:∀ a w,St C nt env k a w→runP P none ops (Lift C nt Q) l (Keeps C.I [] [] w) a w
end
def thenP (next:Env→Nat→Prop) (Q:Post):Post
  | .normal,env,k=>next env k
  | e,env,k=>Q e env k
def inBlockP (id:Nat) (Q:Post):Post
  | .exit id',env,k=>bif Nat.beq id' id then Q .normal env k else Q (.exit id') env k
  | e,env,k=>Q e env k
def Has (env:Env):Env→Prop
  | []=>True
  | (t,v)::l=>look env t=some v∧Has env l
end Go.Proofs.YtbilpbabdgfblaaGreat.It
namespace Go.Proofs.YtbilpbabdgfblaaGreat
open Go.RowKit
section
variable {P:Program}{r:Option Nat}{m nt:Nat}{Q:Post}{env:Env}{H:Heap}{ops:Array Oper}{l:List Stp}{t:Nat}{v v':V}
theorem EnvOk.re {I:Imm}{ρ:List (Option (Nat × Nat))}{a:Act}(he:EnvOk I ρ nt env a) (h:look env t=some v) (e:v=v'):EnvOk I ρ nt ((t,v')::env) a:=by
  subst e
  refine ⟨he.1,fun t' x hx=>?_⟩
  rw [look_cons] at hx
  split at hx
  · rename_i e;subst e;cases hx;exact he.2 t v h
  · exact he.2 t' x hx
theorem ar_re (h:look env t=some v) (e:v=v') (hk:AR P r m nt ops Q l ((t,v')::env) H):AR P r m nt ops Q l env H:=.mk fun X I ρ a w hX hs=>hk.1 X I ρ a w hX ⟨hs.1.re h e,hs.2⟩
end
def idxF (p:Int→Bool) (l:List Int):Int:=match (List.range l.length).find? (fun i=>p (el l i)) with|some i=>(i:Int)|none=>-1
theorem idxF_at {p:Int→Bool}{l:List Int}{i:Nat}(hi:i<l.length) (h0:∀ j,j<i→p (el l j)=false) (h:p (el l i)=true):idxF p l=i:=by
  have:(List.range l.length).find? (fun i=>p (el l i))=some i:=by
    rw [List.find?_range_eq_some]
    exact ⟨h,by simpa using hi,fun j hj=>by simp [h0 j hj]⟩
  unfold idxF
  rw [this]
theorem idxF_none {p:Int→Bool}{l:List Int}(h0:∀ j,j<l.length→p (el l j)=false):idxF p l=-1:=by
  have:(List.range l.length).find? (fun i=>p (el l i))=none:=by
    rw [List.find?_eq_none]
    intro j hj
    rw [List.mem_range] at hj
    simp [h0 j hj]
  unfold idxF
  rw [this]
theorem idxF_any (p:Int→Bool) (l:List Int):decide (0≤idxF p l)=l.any p:=by
  cases h:l.any p
  · rw [List.any_eq_false] at h
    rw [idxF_none fun j hj=>by simpa using h _ (el_mem hj)]
    rfl
  · rw [List.any_eq_true] at h
    obtain ⟨x,hx,hp⟩:=h
    obtain ⟨i,hi,rfl⟩:=mem_el hx
    unfold idxF
    split
    · simp
    · rename_i h0
      rw [List.find?_eq_none] at h0
      have:=h0 i (by simpa using hi)
      simp [hp] at this
def fromB (lo hi:Int) (l:List Int):Bool:=l.all fun n=>withinB n lo hi
def outB (lo hi n:Int):Bool:=decide (n<lo)||decide (hi<n)
theorem any_out (lo hi:Int) (l:List Int):(!l.any (outB lo hi))=fromB lo hi l:=by
  induction l with
  | nil=>rfl
  | cons x l ih =>
    simp only [List.any_cons,Bool.not_or,fromB,List.all_cons] at *
    rw [ih]
    congr 1
    simp only [outB,withinB]
    grind
theorem indexInts_p (l:List Int) {g:FuncId}{cap:List V}(hfn:FnOk Tryz.prog g) (hcap:V.closed.all cap=true) (p:Int→Bool) (hc:∀ x,x∈l→PCalls Tryz.prog g (vi x::cap) (·=vb (p x))) :
    PCalls Tryz.prog 146 [encInts l,.fn (.func g) [] cap] (·=vi (idxF p l)):=by
  (refine pcalls_know (fun I us h=>rel_len (rel_arg h (j:=0) rfl)) fun hlen0=>?_)
  refine pcalls_of_aw Tryz.func146 rfl (dc rfl) ?_
  (repeat' (first|(refine ar_isq ?_;refine zq ?_)|refine zst ?_|refine zco ?_ ?_|exact zd|(refine fun (hg:(_:Prop))=>?_;(try replace hg:=HG.out hg);(try dsimp only at hg);(try (have _h:True:=hg;clear _h hg)))))
  refine aw_for l.length (fun k=>∀ j,j<k→p (el l j)=false) (fun k=>[(0,encInts l),(1,.fn (.func g) [] cap),(7,vi l.length),(8,vi k)]) (fun _=>[]) (fun j hj=>by omega) ?_ ?_
  · (exact zsb [] [])
  intro k hk hJ
  by_cases hkn:k<l.length
  · (repeat' (first|(refine ar_isq ?_;refine zq ?_)|(refine ar_pcall (own:=false) hfn rfl rfl (args_closed hcap) (hc _ (el_mem hkn)) (by simp) (dc rfl) ?_;intro _ hv;subst hv)|refine zst ?_|refine zco ?_ ?_|exact zd|(refine fun (hg:(_:Prop))=>?_;(try replace hg:=HG.out hg);(try dsimp only at hg);(try (have _h:True:=hg;clear _h hg)))))
    all_goals first
      | (exfalso;omega)
      | ((first|refine loop_next (by omega) ?_ ?_|refine (show _∧_∧SubOf _ _ _ _ _ _ from And.intro (by omega) (And.intro ?_ ?_)));(focus ((exact all_step hJ (by assumption));done));(focus (exact zsb [] [])))
      | ((refine aw_ret ?_;(repeat (first|refine ret_then ?_|refine ret_block ?_));refine bq1 rfl ⟨?_,rfl⟩);rw [idxF_at hkn hJ (by assumption)];try rfl)
  · (repeat' (first|(refine ar_isq ?_;refine zq ?_)|refine zst ?_|refine zco ?_ ?_|exact zd|(refine fun (hg:(_:Prop))=>?_;(try replace hg:=HG.out hg);(try dsimp only at hg);(try (have _h:True:=hg;clear _h hg)))))
    all_goals first
      | (exfalso;omega)
      | ((refine aw_ret ?_;(repeat (first|refine ret_then ?_|refine ret_block ?_));refine bq1 rfl ⟨?_,rfl⟩);rw [idxF_none (fun j hj=>hJ j (by omega))];try rfl)
theorem containsInts_p (l:List Int) {g:FuncId}{cap:List V}(hfn:FnOk Tryz.prog g) (hcap:V.closed.all cap=true) (p:Int→Bool) (hc:∀ x,x∈l→PCalls Tryz.prog g (vi x::cap) (·=vb (p x))) :
    PCalls Tryz.prog 99 [encInts l,.fn (.func g) [] cap] (·=vb (l.any p)):=by
  refine pcalls_of_aw Tryz.func99 rfl (dc rfl) ?_
  (repeat' (first|(refine ar_isq ?_;refine zq ?_)|(refine ar_pcall (own:=false) fn146 rfl rfl (.cons (.closed rfl) (.cons (.closed hcap) .nil)) (indexInts_p l hfn hcap p hc) (by simp) (dc rfl) ?_;intro _ hv;subst hv)|refine zst ?_|refine zco ?_ ?_|exact zd|(refine fun (hg:(_:Prop))=>?_;(try replace hg:=HG.out hg);(try dsimp only at hg);(try (have _h:True:=hg;clear _h hg)))))
  (refine aw_ret ?_;(repeat (first|refine ret_then ?_|refine ret_block ?_));refine bq1 rfl ⟨?_,rfl⟩)
  rw [← idxF_any]
  rfl
theorem fromF_p (lo hi n:Int):PCalls Tryz.prog 104 [vi n,.ref (vi lo) 0,.ref (vi hi) 0] (·=vb (outB lo hi n)):=by
  refine pcalls_of_aw Tryz.func104 rfl (dc rfl) ?_
  (repeat' (first|(refine ar_isq ?_;refine zq ?_)|refine zg ?_ ?_|refine zgu ?_|refine zst ?_|refine zco ?_ ?_|exact zd|(refine fun (hg:(_:Prop))=>?_;(try replace hg:=HG.out hg);(try dsimp only at hg);(try (have _h:True:=hg;clear _h hg)))))
  all_goals (refine aw_ret ?_;(repeat (first|refine ret_then ?_|refine ret_block ?_));refine bq1 rfl ⟨?_,rfl⟩)
  all_goals (simp only [vb,constV,outB];congr 2;simp;try omega)
theorem from_p (lo hi:Int) (l:List Int):PCalls Tryz.prog 59 [vi lo,vi hi,encInts l] (·=vb (fromB lo hi l)):=by
  refine pcalls_of_aw Tryz.func59 rfl (dc rfl) ?_
  ((repeat refine aw_seq ?_);(first|(refine aw_region ?_));(repeat' (first|(refine ar_isq ?_;refine zq ?_)|refine zsr ?_)))
  (refine aw_mono_r (env':=[(0,vi lo),(1,vi hi),(2,encInts l),(3,.ref (vi lo) 0),(4,.ref (vi hi) 0)]) (H':=[]) ?_ ?_;(focus (exact zsb [] [0,1])))
  (repeat' (first|(refine ar_isq ?_;refine zq ?_)|(refine zpv fn99 (containsInts_p l fn104 rfl _ (fun x _=>fromF_p lo hi x)) ?_)|refine zst ?_|refine zco ?_ ?_|exact zd|(refine fun (hg:(_:Prop))=>?_;(try replace hg:=HG.out hg);(try dsimp only at hg);(try (have _h:True:=hg;clear _h hg)))))
  (refine aw_ret ?_;(repeat (first|refine ret_then ?_|refine ret_block ?_));refine bq1 rfl ⟨?_,rfl⟩)
  rw [← any_out]
  rfl
end Go.Proofs.YtbilpbabdgfblaaGreat
namespace Go.Proofs.YtbilpbabdgfblaaGreat
open Go.ChangeShapes Go.WideShapes Go.ChangeAt Go.RowKit Go.Deep
theorem own_knob:ownKnob Tryz.prog.godebug=none:=by kernel_rfl
theorem laid_out:laidOutB Tryz.prog=true:=by kernel_rfl
def snap (w:World):Imm:=fun b=>w.heap[b]?
def CellsAre (I:Imm) (v:V) (cs:List Value):Prop:=v.cells.length=cs.length∧∀ (j:Nat) x u,v.cells[j]?=some x→cs[j]?=some u→VRel I [] x u
structure ReadsV (P:Program) (t:TypeId) {α:Type} (e:α→V) (ok:α→Prop) (sz:Nat):Prop where
  cells:P.cellsOf t=sz
  pos:0<sz
  read:∀ {H:Type} {enc:TypeId × Value→H} {w:World} {base:Nat} {spare:Nat→Bool} {held:Bool} {fuel:Nat} {cs:List Value} {x:DataW H × List MemPlace},
    DataW.trod enc P w base spare held fuel t cs=some x→∃ a:α,ok a∧cs.length=sz∧CellsAre (snap w) (e a) cs
def i64ok (n:Int):Prop:=-9223372036854775808≤n∧n≤9223372036854775807
theorem rv_int {P:Program}{t:TypeId}(ht:P.underlying t=some (.int .i64)) (hc:P.cellsOf t=1):ReadsV P t vi i64ok 1 :=
  ⟨hc,by omega,fun h=>by
    obtain ⟨n,rfl,_,hw⟩:=DataW.trod_int ht h
    exact ⟨n,bounds_i64 hw,rfl,rfl,fun j x u hx hu=>by
      cases j with
      | zero=>simp [cells_vi] at hx hu;subst hx hu;exact .s _
      | succ j=>simp at hu⟩⟩
theorem rv_bool {P:Program}{t:TypeId}(ht:P.underlying t=some .bool) (hc:P.cellsOf t=1):ReadsV P t vb (fun _=>True) 1 :=
  ⟨hc,by omega,fun h=>by
    obtain ⟨n,rfl,_⟩:=DataW.trod_bool ht h
    exact ⟨n,trivial,rfl,rfl,fun j x u hx hu=>by
      cases j with
      | zero=>simp [cells_vb] at hx hu;subst hx hu;exact .s _
      | succ j=>simp at hu⟩⟩
theorem cell_block {w:World}{b i:Nat}{sp:Option Nat}{v:Value}(h:w.cell? ⟨b,i,sp⟩=some v):∃ cs ty fz,w.heap[b]?=some (.cells cs ty fz)∧cs[i]?=some v:=by
  unfold World.cell? at h
  simp only at h
  split at h
  · rename_i c ty fz hb
    split at h
    · cases h
    · exact ⟨c,ty,fz,hb,h⟩
  · cases h
theorem add_none (b off n:Nat):(⟨b,off,none⟩:Addr).add n=⟨b,off+n,none⟩:=by
  unfold Addr.add
  split
  · rename_i h;subst h;rfl
  · rfl
theorem read_list {α:Type}[Inhabited α] {P:Program}{t e:TypeId}{ea:α→V}{ok:α→Prop}{sz:Nat}(ht:P.underlying t=some (.slice e)) (R:ReadsV P e ea ok sz)
    {H:Type} {enc:TypeId × Value→H} {w:World} {base:Nat} {spare:Nat→Bool} {held:Bool} {fuel:Nat} {cs:List Value} {x:DataW H × List MemPlace}
    (h:DataW.trod enc P w base spare held fuel t cs=some x):∃ (l:List α) (u:Value),(∀ y,y∈l→ok y)∧cs=[u]∧VRel (snap w) [] (LV sz ea l) u:=by
  rcases open_slice ht h with ⟨rfl,_⟩|⟨a,len,cap,m,n,D,Pl,rfl,_,hl,hc,hm,_,hi⟩
  · exact ⟨[],_,(fun y hy=>by cases hy),rfl,VRel.none_list none⟩
  · have hml:len≤m:=by rw [hm];split<;>omega
    have hex:∀ i:Fin len,∃ y:α,∃ cs',w.cells? base (a.add (i*P.cellsOf e)) (P.cellsOf e)=some cs'∧ok y∧cs'.length=sz∧CellsAre (snap w) (ea y) cs':=fun i=>by
      obtain ⟨cs',h1,h2⟩:=hi i (by omega)
      obtain ⟨y,hy⟩:=R.read h2
      exact ⟨y,cs',h1,hy⟩
    obtain ⟨f,hf⟩:=Classical.skolem.1 hex
    obtain ⟨g,hg⟩:=Classical.skolem.1 hf
    have hel:∀ i (hi:i<len),el (List.ofFn f) i=f ⟨i,hi⟩:=fun i hi=>by rw [el_eq (by simpa using hi)];simp
    refine ⟨List.ofFn f,_,fun y hy=>?_,rfl,?_⟩
    · obtain ⟨k,hk,rfl⟩:=mem_el hy
      rw [hel k (by simpa using hk)]
      exact (hg _).2.1
    obtain ⟨b,off,sp⟩:=a
    have hspot:0<len→sp=none:=fun h0=>by
      obtain ⟨h1,_,h3,_⟩:=hg ⟨0,h0⟩
      obtain ⟨_,hcl,hat⟩:=World.cells?_some h1
      have hpos:=R.pos
      have h5:=hat 0 (by rw [R.cells];exact hpos)
      rw [List.getElem?_eq_getElem (by omega)] at h5
      simpa [Addr.add] using World.cell?_spot h5
    have hcell:∀ (i:Nat) (hi:i<len) (j:Nat),j<sz→∃ cs' ty fz,w.heap[b]?=some (.cells cs' ty fz)∧sp=none∧cs'[off+i*sz+j]?=some ((g ⟨i,hi⟩).getD j undef):=by
      intro i hi j hj
      obtain ⟨h1,_,h3,_⟩:=hg ⟨i,hi⟩
      obtain ⟨_,hcl,hat⟩:=World.cells?_some h1
      have hu:(g ⟨i,hi⟩)[j]?=some ((g ⟨i,hi⟩).getD j undef):=by simp [show j<(g ⟨i,hi⟩).length by omega]
      have h5:=hat j (by rw [R.cells];exact hj)
      rw [hu] at h5
      have hsp:sp=none:=hspot (by omega)
      subst hsp
      rw [add_none,add_none,R.cells] at h5
      obtain ⟨cs',ty,fz,h6,h7⟩:=cell_block h5
      exact ⟨cs',ty,fz,h6,rfl,h7⟩
    have hsz:∀ i (hi:i<len),(ea (el (List.ofFn f) i)).cells.length=sz:=fun i hi=>by
      rw [hel i hi]
      obtain ⟨_,_,h3,h4⟩:=hg ⟨i,hi⟩
      rw [h4.1,h3]
    have hlen:(List.ofFn f).length=len:=by simp
    show VRel (snap w) [] (.list sz (List.ofFn f).length fun i=>ea (el (List.ofFn f) i)) _
    rw [hlen]
    refine .list (us:=fun i j=>if hi:i<len then (g ⟨i,hi⟩).getD j undef else undef) hl (by first|exact hc|(have h:cap≤2 ^ 63-1:=hc;show cap≤maxLen;unfold maxLen;omega)) (fun h0=>?_) (fun i hi=>hsz i hi) (fun i j v hi hj=>?_)
    · obtain ⟨cs',ty,fz,h6,rfl,_⟩:=hcell 0 h0 0 R.pos
      refine ⟨b,off,rfl,fun i hi=>⟨cs',ty,fz,h6,fun j hj=>?_⟩⟩
      obtain ⟨cs2,ty2,fz2,h8,_,h9⟩:=hcell i hi j hj
      rw [h6] at h8
      cases h8
      simpa [hi] using h9
    · obtain ⟨_,_,h3,h4⟩:=hg ⟨i,hi⟩
      have hj2:=(List.getElem?_eq_some_iff.1 hj).1
      rw [hsz i hi] at hj2
      rw [hel i hi] at hj
      have:=h4.2 j v ((g ⟨i,hi⟩).getD j undef) hj (by simp [show j<(g ⟨i,hi⟩).length by omega])
      simpa [hi] using this
theorem rv_list {α:Type}[Inhabited α] {P:Program}{t e:TypeId}{ea:α→V}{ok:α→Prop}{sz:Nat}(ht:P.underlying t=some (.slice e)) (hc:P.cellsOf t=1) (R:ReadsV P e ea ok sz):ReadsV P t (LV sz ea) (fun l=>∀ y,y∈l→ok y) 1 :=
  ⟨hc,by omega,fun h=>by
    obtain ⟨l,u,h1,rfl,h2⟩:=read_list ht R h
    exact ⟨l,h1,rfl,rfl,fun j x u' hx hu=>by
      cases j with
      | zero=>simp [LV_cells] at hx hu;subst hx hu;exact h2
      | succ j=>simp at hu⟩⟩
section
variable {P:Program}{H:Type}{enc:TypeId × Value→H}{w:World}{base:Nat}{spare:Nat→Bool}{held:Bool}{r:Reach}{b0:Nat}{v:Value}{d:DataW H}{p:List MemPlace}{t e:TypeId}
theorem arg_list {α:Type}[Inhabited α] {ea:α→V}{ok:α→Prop}{sz:Nat}(ht:P.underlying t=some (.slice e)) (R:ReadsV P e ea ok sz) (hv:Value.okWide P w r b0 t v) (h:DataW.Trod enc P w base spare held t v d p):∃ l:List α,(∀ y,y∈l→ok y)∧VRel (snap w) [] (LV sz ea l) v:=by
  obtain ⟨a,len,cap,rfl⟩:=okWide_slice ht hv
  obtain ⟨fuel,hf⟩:=h
  obtain ⟨l,u,h1,h2,h3⟩:=read_list ht R hf
  simp only [Value.cells,List.cons.injEq,and_true] at h2
  exact ⟨l,h1,h2▸h3⟩
theorem arg_int (ht:P.underlying t=some (.int .i64)) (hv:Value.okWide P w r b0 t v) (h:DataW.Trod enc P w base spare held t v d p):∃ n:Int,i64ok n∧VRel (snap w) [] (vi n) v:=by
  obtain ⟨n,rfl,_,_,hw⟩:=open_int ht hv h
  exact ⟨n,bounds_i64 hw,.s _⟩
theorem arg_struct {α:Type}{ea:α→V}{ok:α→Prop}{sz:Nat}{fs:Array Field}(ht:P.underlying t=some (.struct fs)) (R:ReadsV P t ea ok sz) (hagg:∀ a,ea a=.agg (ea a).cells) (hv:Value.okWide P w r b0 t v) (h:DataW.Trod enc P w base spare held t v d p):∃ a:α,ok a∧VRel (snap w) [] (ea a) v:=by
  obtain ⟨cs,rfl,_⟩:=okWide_struct ht hv
  obtain ⟨fuel,hf⟩:=h
  obtain ⟨a,h1,h2,h3⟩:=R.read (by simpa [Value.cells] using hf)
  refine ⟨a,h1,?_⟩
  rw [hagg a]
  exact .agg (by rw [h3.1];simp) fun j x u hx hu=>h3.2 j x u hx (by simpa using hu)
theorem rels_nil {I:Imm}:VRels I [] [] #[]:=⟨rfl,fun j v u h=>by simp at h⟩
theorem rels_cons {I:Imm}{x:V}{u:Value}{vs:List V}{us:List Value}(h:VRel I [] x u) (k:VRels I [] vs us.toArray):VRels I [] (x::vs) (u::us).toArray:=by
  refine ⟨by have:=k.1;simpa using this,fun j v y hj hu=>?_⟩
  cases j with
  | zero=>simp at hj hu;subst hj hu;exact h
  | succ j=>exact k.2 j v y (by simpa using hj) (by simpa using hu)
end
theorem struct_part {P:Program}{t:TypeId}{fs:Array Field}(ht:P.underlying t=some (.struct fs))
    {H:Type} {enc:TypeId × Value→H} {w:World} {base:Nat} {spare:Nat→Bool} {held:Bool} {fuel:Nat} {cs:List Value} {x:DataW H × List MemPlace}
    (h:DataW.trod enc P w base spare held fuel t cs=some x) {α:Type} {ea:α→V} {ok:α→Prop} {sz:Nat} (i:Nat) {f:Field} (hfi:fs[i]?=some f) (R:ReadsV P f.type ea ok sz) :
    ∃ a:α,ok a∧((cs.drop f.offset).take sz).length=sz∧CellsAre (snap w) (ea a) ((cs.drop f.offset).take sz):=by
  obtain ⟨xs,n,_,_,_,hxl,hg⟩:=DataW.trod_struct ht h
  have h3:=hg i f hfi
  have hi:i<fs.size:=(Array.getElem?_eq_some_iff.1 hfi).1
  obtain ⟨a,h1,h2,h4⟩:=R.read (h3.trans (List.getElem?_eq_getElem (by omega)))
  rw [R.cells] at h2 h4
  exact ⟨a,h1,h2,h4⟩
theorem struct_len {P:Program}{t:TypeId}{fs:Array Field}(ht:P.underlying t=some (.struct fs))
    {H:Type} {enc:TypeId × Value→H} {w:World} {base:Nat} {spare:Nat→Bool} {held:Bool} {fuel:Nat} {cs:List Value} {x:DataW H × List MemPlace}
    (h:DataW.trod enc P w base spare held fuel t cs=some x):cs.length=P.cellsOf t:=by
  obtain ⟨_,_,_,_,hlen,_,_⟩:=DataW.trod_struct ht h
  exact hlen
theorem cells_one {I:Imm}{v:V}{cs:List Value}{o:Nat}{u:Value}(h:CellsAre I v ((cs.drop o).take 1)) (hv:v.cells=[v]) (hu:cs[o]?=some u):VRel I [] v u :=
  h.2 0 v u (by rw [hv];rfl) (by simp [hu])
end Go.Proofs.YtbilpbabdgfblaaGreat
namespace Go.Proofs.YtbilpbabdgfblaaGreat
open Go.ChangeShapes Go.WideShapes Go.ChangeAt Go.RowKit Go.Deep
structure Screen where
  period:Int
  phase:Int
def Screen.enc (s:Screen):V:=.agg [vi s.period,vi s.phase]
theorem rv_Int:ReadsV Tryz.prog 3 vi i64ok 1:=rv_int Tryz.underlying3 (by kernel_rfl)
theorem rv_Bool:ReadsV Tryz.prog 4 vb (fun _=>True) 1:=rv_bool Tryz.underlying4 (by kernel_rfl)
theorem rv_ints:ReadsV Tryz.prog 31 (LV 1 vi) (fun l=>∀ y,y∈l→i64ok y) 1:=rv_list Tryz.underlying31 (by kernel_rfl) rv_Int
set_option maxRecDepth 100000 in
theorem rv_sheet:ReadsV Tryz.prog 44 Sheet.enc (fun s=>i64ok s.cols∧i64ok s.rows∧i64ok s.weight∧i64ok s.clear∧i64ok s.lean) 5 :=
  ⟨by kernel_rfl,by omega,fun {_ _ _ _ _ _ _ cs _} h=>by
    have hlen:=struct_len Tryz.underlying44 h
    rw [show Tryz.prog.cellsOf 44=5 by kernel_rfl] at hlen
    obtain ⟨k0,o0,l0,e0⟩:=struct_part Tryz.underlying44 h 0 rfl rv_Int
    obtain ⟨k1,o1,l1,e1⟩:=struct_part Tryz.underlying44 h 1 rfl rv_Int
    obtain ⟨k2,o2,l2,e2⟩:=struct_part Tryz.underlying44 h 2 rfl rv_Int
    obtain ⟨k3,o3,l3,e3⟩:=struct_part Tryz.underlying44 h 3 rfl rv_Int
    obtain ⟨k4,o4,l4,e4⟩:=struct_part Tryz.underlying44 h 4 rfl rv_Int
    refine ⟨⟨k0,k1,k2,k3,k4⟩,⟨o0,o1,o2,o3,o4⟩,hlen,hlen.symm,fun j x u hx hu=>?_⟩
    match j,hx with
    | 0,hx=>cases hx;exact cells_one e0 rfl hu
    | 1,hx=>cases hx;exact cells_one e1 rfl hu
    | 2,hx=>cases hx;exact cells_one e2 rfl hu
    | 3,hx=>cases hx;exact cells_one e3 rfl hu
    | 4,hx=>cases hx;exact cells_one e4 rfl hu
    | j+5,hx=>simp [Sheet.enc,cells_agg] at hx⟩
end Go.Proofs.YtbilpbabdgfblaaGreat
