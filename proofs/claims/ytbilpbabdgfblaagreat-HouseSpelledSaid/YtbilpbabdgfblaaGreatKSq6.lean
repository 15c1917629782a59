/- Parts of the proof: contracts of functions. No condition. -/
import Derived.Test.YtbilpbabdgfblaaGreatKSq5
set_option maxHeartbeats 16000000
set_option linter.unusedSimpArgs false
set_option linter.unusedVariables false
namespace Go.Proofs.YtbilpbabdgfblaaGreat
open Go.RowKit
/-- What a test tells. -/
class HG (p:Prop) (q:outParam Prop):Prop where
 out:p→q
instance hgi1 {p:Prop}[Decidable p]:HG (decide p=true) p:=⟨of_decide_eq_true⟩
instance hgi2 {p:Prop}[Decidable p]:HG (decide p=false) (¬ p):=⟨of_decide_eq_false⟩
instance hgi3 {p:Prop}[Decidable p]:HG ((!decide p)=true) (¬ p):=⟨hgNT⟩
instance hgi4 {p:Prop}[Decidable p]:HG ((!decide p)=false) p:=⟨hgNF⟩
instance hgi5 {p:Prop}[Decidable p]:HG (decide p=!false) p:=⟨of_decide_eq_true⟩
instance hgi6 {p:Prop}[Decidable p]:HG (decide p=!true) (¬ p):=⟨of_decide_eq_false⟩
instance hgi7 {p:Prop}[Decidable p]:HG ((!decide p)=!false) (¬ p):=⟨hgNT⟩
instance hgi8 {p:Prop}[Decidable p]:HG ((!decide p)=!true) p:=⟨hgNF⟩
instance (priority:=low) hgj1 {b:Bool}:HG ((!b)=true) (b=false):=⟨hgBT⟩
instance (priority:=low) hgj2 {b:Bool}:HG ((!b)=false) (b=true):=⟨hgBF⟩
instance (priority:=low) hgj3 {b:Bool}:HG ((!b)=!false) (b=false):=⟨hgBT⟩
instance (priority:=low) hgj4 {b:Bool}:HG ((!b)=!true) (b=true):=⟨hgBF⟩
instance (priority:=low) hgj5 {b:Bool}:HG (b=!true) (b=false):=⟨fun h=>h⟩
instance (priority:=low) hgj6 {b:Bool}:HG (b=!false) (b=true):=⟨fun h=>h⟩
variable {r:Option Nat}{m nt i e:Nat}{Q:Post}{env:Env}{H:Heap}{ops:Array Oper}{l:List Stp}{ty:TypeId}{pos:String}{after:Array Edge}{x y c:Operand}{T T2 E:TypeId}{d de:TyD}{v:V}{keep:Bool}
theorem zmv  (hk:AR Tryz.prog r m nt ops Q l ((e,v)::env) H) (hx:eo env x=some v:=by exact rfl) (hd:e<nt:=by exact dc rfl) :
  AR Tryz.prog r m nt ops Q (.q i ⟨some e,.move x,ty,pos,after,none⟩::l) env H:=ar_q (qs_move hx) hd hk
theorem zas  (hk:AR Tryz.prog r m nt ops Q l ((e,v)::env) H) (hx:eo env x=some v:=by exact rfl) (hd:e<nt:=by exact dc rfl) :
  AR Tryz.prog r m nt ops Q (.q i ⟨some e,.assign x,ty,pos,after,none⟩::l) env H:=ar_q (qs_assign hx) hd hk
theorem zlp {sz b j off n:Nat}{f:Nat→V}(hk:AR Tryz.prog r m nt ops Q l ((e,v)::env) H) (ht:TyIs Tryz.prog T d:=by exact ty rfl) (hx:eo env x=some (.ptr sz b j off):=by exact rfl) (hH:H[b]?=some (.arr sz n f):=by exact rfl) (hi:j<n:=by first|exact Nat.one_pos|assumption|omega) (hv:partV d.tk.agg (f j).cells off d.size=some v:=by exact rfl) (hd:e<nt:=by exact dc rfl) :
  AR Tryz.prog r m nt ops Q (.q i ⟨some e,.load T x,ty,pos,after,none⟩::l) env H:=ar_q (qs_load_ptr ht hx hH hi hv) hd hk
theorem zlr {w:V}{off:Nat}(hk:AR Tryz.prog r m nt ops Q l ((e,v)::env) H) (ht:TyIs Tryz.prog T d:=by exact ty rfl) (hx:eo env x=some (.ref w off):=by exact rfl) (hv:partV d.tk.agg w.cells off d.size=some v:=by exact rfl) (hd:e<nt:=by exact dc rfl) :
  AR Tryz.prog r m nt ops Q (.q i ⟨some e,.load T x,ty,pos,after,none⟩::l) env H:=ar_q (qs_load_ref ht hx hv) hd hk
theorem zlss {k:IntKind}{a b:Int}(hk:AR Tryz.prog r m nt ops Q l ((e,.s (.bool (decide (a<b))))::env) H) (hx:eo env x=some (.s (.int k a)):=by exact rfl) (hy:eo env y=some (.s (.int k b)):=by exact rfl) (hd:e<nt:=by exact dc rfl) :
  AR Tryz.prog r m nt ops Q (.q i ⟨some e,.binOp .lss T x y T2,ty,pos,after,none⟩::l) env H:=ar_q (qs_lss hx hy) hd hk
theorem zleq {k:IntKind}{a b:Int}(hk:AR Tryz.prog r m nt ops Q l ((e,.s (.bool (decide (a≤b))))::env) H) (hx:eo env x=some (.s (.int k a)):=by exact rfl) (hy:eo env y=some (.s (.int k b)):=by exact rfl) (hd:e<nt:=by exact dc rfl) :
  AR Tryz.prog r m nt ops Q (.q i ⟨some e,.binOp .leq T x y T2,ty,pos,after,none⟩::l) env H:=ar_q (qs_leq hx hy) hd hk
theorem zgtr {k:IntKind}{a b:Int}(hk:AR Tryz.prog r m nt ops Q l ((e,.s (.bool (decide (b<a))))::env) H) (hx:eo env x=some (.s (.int k a)):=by exact rfl) (hy:eo env y=some (.s (.int k b)):=by exact rfl) (hd:e<nt:=by exact dc rfl) :
  AR Tryz.prog r m nt ops Q (.q i ⟨some e,.binOp .gtr T x y T2,ty,pos,after,none⟩::l) env H:=ar_q (qs_gtr hx hy) hd hk
theorem zgeq {k:IntKind}{a b:Int}(hk:AR Tryz.prog r m nt ops Q l ((e,.s (.bool (decide (b≤a))))::env) H) (hx:eo env x=some (.s (.int k a)):=by exact rfl) (hy:eo env y=some (.s (.int k b)):=by exact rfl) (hd:e<nt:=by exact dc rfl) :
  AR Tryz.prog r m nt ops Q (.q i ⟨some e,.binOp .geq T x y T2,ty,pos,after,none⟩::l) env H:=ar_q (qs_geq hx hy) hd hk
theorem zeql {k:IntKind}{a b:Int}(hk:AR Tryz.prog r m nt ops Q l ((e,.s (.bool (decide (a=b))))::env) H) (hx:eo env x=some (.s (.int k a)):=by exact rfl) (hy:eo env y=some (.s (.int k b)):=by exact rfl) (hd:e<nt:=by exact dc rfl) :
  AR Tryz.prog r m nt ops Q (.q i ⟨some e,.binOp .eql T x y T2,ty,pos,after,none⟩::l) env H:=ar_q (qs_eql hx hy) hd hk
theorem zneq {k:IntKind}{a b:Int}(hk:AR Tryz.prog r m nt ops Q l ((e,.s (.bool (!decide (a=b))))::env) H) (hx:eo env x=some (.s (.int k a)):=by exact rfl) (hy:eo env y=some (.s (.int k b)):=by exact rfl) (hd:e<nt:=by exact dc rfl) :
  AR Tryz.prog r m nt ops Q (.q i ⟨some e,.binOp .neq T x y T2,ty,pos,after,none⟩::l) env H:=ar_q (qs_neq hx hy) hd hk
theorem zadd {a b c:Int}(hk:AR Tryz.prog r m nt ops Q l ((e,.s (.int .i64 c))::env) H) (hx:eo env x=some (.s (.int .i64 a)):=by exact rfl) (hy:eo env y=some (.s (.int .i64 b)):=by exact rfl) (hr:IntKind.i64.wrap (a+b)=c:=by exact wrap64 (by omega)) (hd:e<nt:=by exact dc rfl) :
  AR Tryz.prog r m nt ops Q (.q i ⟨some e,.binOp .add T x y T2,ty,pos,after,none⟩::l) env H:=ar_q (qs_add hx hy hr) hd hk
theorem zsub {a b c:Int}(hk:AR Tryz.prog r m nt ops Q l ((e,.s (.int .i64 c))::env) H) (hx:eo env x=some (.s (.int .i64 a)):=by exact rfl) (hy:eo env y=some (.s (.int .i64 b)):=by exact rfl) (hr:IntKind.i64.wrap (a-b)=c:=by exact wrap64 (by omega)) (hd:e<nt:=by exact dc rfl) :
  AR Tryz.prog r m nt ops Q (.q i ⟨some e,.binOp .sub T x y T2,ty,pos,after,none⟩::l) env H:=ar_q (qs_sub hx hy hr) hd hk
theorem zmul {a b c:Int}(hk:AR Tryz.prog r m nt ops Q l ((e,.s (.int .i64 c))::env) H) (hx:eo env x=some (.s (.int .i64 a)):=by exact rfl) (hy:eo env y=some (.s (.int .i64 b)):=by exact rfl) (hr:IntKind.i64.wrap (a*b)=c:=by exact wrap64 (by omega)) (hd:e<nt:=by exact dc rfl) :
  AR Tryz.prog r m nt ops Q (.q i ⟨some e,.binOp .mul T x y T2,ty,pos,after,none⟩::l) env H:=ar_q (qs_mul hx hy hr) hd hk
theorem zaddu8 {a b c:Int}(hk:AR Tryz.prog r m nt ops Q l ((e,.s (.int .u8 c))::env) H) (hx:eo env x=some (.s (.int .u8 a)):=by exact rfl) (hy:eo env y=some (.s (.int .u8 b)):=by exact rfl) (hr:IntKind.u8.wrap (a+b)=c:=by exact wrap8 (by omega)) (hd:e<nt:=by exact dc rfl) :
  AR Tryz.prog r m nt ops Q (.q i ⟨some e,.binOp .add T x y T2,ty,pos,after,none⟩::l) env H:=ar_q (qs_add hx hy hr) hd hk
theorem zsubu8 {a b c:Int}(hk:AR Tryz.prog r m nt ops Q l ((e,.s (.int .u8 c))::env) H) (hx:eo env x=some (.s (.int .u8 a)):=by exact rfl) (hy:eo env y=some (.s (.int .u8 b)):=by exact rfl) (hr:IntKind.u8.wrap (a-b)=c:=by exact wrap8 (by omega)) (hd:e<nt:=by exact dc rfl) :
  AR Tryz.prog r m nt ops Q (.q i ⟨some e,.binOp .sub T x y T2,ty,pos,after,none⟩::l) env H:=ar_q (qs_sub hx hy hr) hd hk
theorem zaddu64 {a b c:Int}(hk:AR Tryz.prog r m nt ops Q l ((e,.s (.int .u64 c))::env) H) (hx:eo env x=some (.s (.int .u64 a)):=by exact rfl) (hy:eo env y=some (.s (.int .u64 b)):=by exact rfl) (hr:IntKind.u64.wrap (a+b)=c:=by exact wrapU (by omega)) (hd:e<nt:=by exact dc rfl) :
  AR Tryz.prog r m nt ops Q (.q i ⟨some e,.binOp .add T x y T2,ty,pos,after,none⟩::l) env H:=ar_q (qs_add hx hy hr) hd hk
theorem zmulu64 {a b c:Int}(hk:AR Tryz.prog r m nt ops Q l ((e,.s (.int .u64 c))::env) H) (hx:eo env x=some (.s (.int .u64 a)):=by exact rfl) (hy:eo env y=some (.s (.int .u64 b)):=by exact rfl) (hr:IntKind.u64.wrap (a*b)=c:=by exact wrapU (by omega)) (hd:e<nt:=by exact dc rfl) :
  AR Tryz.prog r m nt ops Q (.q i ⟨some e,.binOp .mul T x y T2,ty,pos,after,none⟩::l) env H:=ar_q (qs_mul hx hy hr) hd hk
theorem zbneq {a b:Bool}(hk:AR Tryz.prog r m nt ops Q l ((e,.s (.bool (!(a==b))))::env) H) (ht:TyIs Tryz.prog T d:=by exact ty rfl) (hk1:d.tk=.bool:=by exact rfl) (hx:eo env x=some (.s (.bool a)):=by exact rfl) (hy:eo env y=some (.s (.bool b)):=by exact rfl) (hd:e<nt:=by exact dc rfl) :
  AR Tryz.prog r m nt ops Q (.q i ⟨some e,.binOp .neq T x y T2,ty,pos,after,none⟩::l) env H:=ar_q (qs_bneq ht hk1 hx hy) hd hk
theorem zquo {a b c:Int}(hk:AR Tryz.prog r m nt ops Q l ((e,.s (.int .i64 c))::env) H) (hx:eo env x=some (.s (.int .i64 a)):=by exact rfl) (hy:eo env y=some (.s (.int .i64 b)):=by exact rfl) (hn:b≠0:=by omega) (hr:IntKind.i64.wrap (a.tdiv b)=c:=by exact quo64 (by omega) (by omega)) (hd:e<nt:=by exact dc rfl) :
  AR Tryz.prog r m nt ops Q (.q i ⟨some e,.binOp .quo T x y T2,ty,pos,after,none⟩::l) env H:=ar_q (qs_quo hx hy hn hr) hd hk
theorem zfp {fs:List (TypeId × Nat)}{k o:Nat}{sz b j off:Nat}(hk:AR Tryz.prog r m nt ops Q l ((e,.ptr sz b j (off+o))::env) H) (ht:TyIs Tryz.prog T d:=by exact ty rfl) (hk1:d.tk=.struct fs:=by exact rfl) (hf:fs[k]?=some (E,o):=by exact rfl) (he:TyIs Tryz.prog E de:=by exact ty rfl) (hz:de.size≠0:=by exact Nat.succ_ne_zero _) (hx:eo env x=some (.ptr sz b j off):=by exact rfl) (hd:e<nt:=by exact dc rfl) :
  AR Tryz.prog r m nt ops Q (.q i ⟨some e,.fieldAddr T x k,ty,pos,after,none⟩::l) env H:=ar_q (qs_faddr_ptr ht hk1 hf he hz hx) hd hk
theorem zfr {fs:List (TypeId × Nat)}{k o:Nat}{w:V}{off:Nat}(hk:AR Tryz.prog r m nt ops Q l ((e,.ref w (off+o))::env) H) (ht:TyIs Tryz.prog T d:=by exact ty rfl) (hk1:d.tk=.struct fs:=by exact rfl) (hf:fs[k]?=some (E,o):=by exact rfl) (he:TyIs Tryz.prog E de:=by exact ty rfl) (hz:de.size≠0:=by exact Nat.succ_ne_zero _) (hx:eo env x=some (.ref w off):=by exact rfl) (hd:e<nt:=by exact dc rfl) :
  AR Tryz.prog r m nt ops Q (.q i ⟨some e,.fieldAddr T x k,ty,pos,after,none⟩::l) env H:=ar_q (qs_faddr_ref ht hk1 hf he hz hx) hd hk
theorem zil {sz n j:Nat}{f:Nat→V}{k:IntKind}{a:Int}(hk:AR Tryz.prog r m nt ops Q l ((e,.ref (f j) 0)::env) H) (ht:TyIs Tryz.prog T d:=by exact ty rfl) (hk1:d.tk=.slice E:=by exact rfl) (he:TyIs Tryz.prog E de:=by exact ty rfl) (hs:de.size=sz:=by exact rfl) (hx:eo env x=some (.list sz n f):=by exact rfl) (hy:eo env y=some (.s (.int k a)):=by exact rfl) (hm:a=(j:Int):=by first|exact rfl|omega) (hj:j<n:=by omega) (hd:e<nt:=by exact dc rfl) :
  AR Tryz.prog r m nt ops Q (.q i ⟨some e,.indexAddr T x y,ty,pos,after,none⟩::l) env H:=ar_q (qs_iaddr_list ht hk1 he hs hx hy hm hj) hd hk
theorem zis {sz b n j:Nat}{k:IntKind}{a:Int}(hk:AR Tryz.prog r m nt ops Q l ((e,.ptr sz b j 0)::env) H) (ht:TyIs Tryz.prog T d:=by exact ty rfl) (hk1:d.tk=.slice E:=by exact rfl) (he:TyIs Tryz.prog E de:=by exact ty rfl) (hs:de.size=sz:=by exact rfl) (hx:eo env x=some (.sl sz b 0 n):=by exact rfl) (hy:eo env y=some (.s (.int k a)):=by exact rfl) (hm:a=(j:Int):=by first|exact rfl|omega) (hj:j<n:=by omega) (hd:e<nt:=by exact dc rfl) :
  AR Tryz.prog r m nt ops Q (.q i ⟨some e,.indexAddr T x y,ty,pos,after,none⟩::l) env H:=ar_q (qs_iaddr_sl0 ht hk1 he hs hx hy hm hj) hd hk
theorem zit {sz b o n j:Nat}{k:IntKind}{a:Int}(hk:AR Tryz.prog r m nt ops Q l ((e,.ptr sz b (o+j) 0)::env) H) (ht:TyIs Tryz.prog T d:=by exact ty rfl) (hk1:d.tk=.slice E:=by exact rfl) (he:TyIs Tryz.prog E de:=by exact ty rfl) (hs:de.size=sz:=by exact rfl) (hx:eo env x=some (.sl sz b o n):=by exact rfl) (hy:eo env y=some (.s (.int k a)):=by exact rfl) (hm:a=(j:Int):=by first|exact rfl|omega) (hj:j<n:=by omega) (hd:e<nt:=by exact dc rfl) :
  AR Tryz.prog r m nt ops Q (.q i ⟨some e,.indexAddr T x y,ty,pos,after,none⟩::l) env H:=ar_q (qs_iaddr_sl ht hk1 he hs hx hy hm hj) hd hk
theorem zia {sz b o off n j:Nat}{k:IntKind}{a:Int}(hk:AR Tryz.prog r m nt ops Q l ((e,.ptr sz b o (off+j*de.size))::env) H) (ht:TyIs Tryz.prog T d:=by exact ty rfl) (hk1:d.tk=.array n E:=by exact rfl) (he:TyIs Tryz.prog E de:=by exact ty rfl) (hx:eo env x=some (.ptr sz b o off):=by exact rfl) (hy:eo env y=some (.s (.int k a)):=by exact rfl) (hm:a=(j:Int):=by first|exact rfl|omega) (hj:j<n:=by omega) (hd:e<nt:=by exact dc rfl) :
  AR Tryz.prog r m nt ops Q (.q i ⟨some e,.indexAddr T x y,ty,pos,after,none⟩::l) env H:=ar_q (qs_iaddr_aptr ht hk1 he hx hy hm hj) hd hk
theorem zir {w:V}{off n j:Nat}{k:IntKind}{a:Int}(hk:AR Tryz.prog r m nt ops Q l ((e,.ref w (off+j*de.size))::env) H) (ht:TyIs Tryz.prog T d:=by exact ty rfl) (hk1:d.tk=.array n E:=by exact rfl) (he:TyIs Tryz.prog E de:=by exact ty rfl) (hx:eo env x=some (.ref w off):=by exact rfl) (hy:eo env y=some (.s (.int k a)):=by exact rfl) (hm:a=(j:Int):=by first|exact rfl|omega) (hj:j<n:=by omega) (hd:e<nt:=by exact dc rfl) :
  AR Tryz.prog r m nt ops Q (.q i ⟨some e,.indexAddr T x y,ty,pos,after,none⟩::l) env H:=ar_q (qs_iaddr_aref ht hk1 he hx hy hm hj) hd hk
theorem zll {sz n:Nat}{f:Nat→V}{ats:Array TypeId}(hk:AR Tryz.prog r m nt ops Q l ((e,.s (.int .i64 (n:Int)))::env) H) (h0:ats[0]?=some T:=by exact rfl) (ht:TyIs Tryz.prog T d:=by exact ty rfl) (hk1:d.tk=.slice E:=by exact rfl) (hx:eo env x=some (.list sz n f):=by exact rfl) (hd:e<nt:=by exact dc rfl) :
  AR Tryz.prog r m nt ops Q (.q i ⟨some e,.call ⟨.builtin .len,#[x],ats⟩,ty,pos,after,none⟩::l) env H:=ar_q (qs_len_list ht hk1 h0 hx) hd hk
theorem zls {sz b o n:Nat}{ats:Array TypeId}(hk:AR Tryz.prog r m nt ops Q l ((e,.s (.int .i64 (n:Int)))::env) H) (h0:ats[0]?=some T:=by exact rfl) (ht:TyIs Tryz.prog T d:=by exact ty rfl) (hk1:d.tk=.slice E:=by exact rfl) (hx:eo env x=some (.sl sz b o n):=by exact rfl) (hd:e<nt:=by exact dc rfl) :
  AR Tryz.prog r m nt ops Q (.q i ⟨some e,.call ⟨.builtin .len,#[x],ats⟩,ty,pos,after,none⟩::l) env H:=ar_q (qs_len_sl ht hk1 h0 hx) hd hk
theorem zmin {k:IntKind}{a b:Int}{ats:Array TypeId}(hk:AR Tryz.prog r m nt ops Q l ((e,.s (.int k (min a b)))::env) H) (hx:eo env x=some (.s (.int k a)):=by exact rfl) (hy:eo env y=some (.s (.int k b)):=by exact rfl) (hd:e<nt:=by exact dc rfl) :
  AR Tryz.prog r m nt ops Q (.q i ⟨some e,.call ⟨.builtin .min,#[x,y],ats⟩,ty,pos,after,none⟩::l) env H:=ar_q (qs_min hx hy) hd hk
theorem zmax {k:IntKind}{a b:Int}{ats:Array TypeId}(hk:AR Tryz.prog r m nt ops Q l ((e,.s (.int k (max a b)))::env) H) (hx:eo env x=some (.s (.int k a)):=by exact rfl) (hy:eo env y=some (.s (.int k b)):=by exact rfl) (hd:e<nt:=by exact dc rfl) :
  AR Tryz.prog r m nt ops Q (.q i ⟨some e,.call ⟨.builtin .max,#[x,y],ats⟩,ty,pos,after,none⟩::l) env H:=ar_q (qs_max hx hy) hd hk
theorem zpt  (hk:AR Tryz.prog r m nt ops Q l ((e,v)::env) H) (hc:eo env c=some (.s (.bool true)):=by exact rfl) (hx:eo env x=some v:=by exact rfl) (hd:e<nt:=by exact dc rfl) :
  AR Tryz.prog r m nt ops Q (.q i ⟨some e,.pick c x y,ty,pos,after,none⟩::l) env H:=ar_q (qs_pick_t hc hx) hd hk
theorem zpf  (hk:AR Tryz.prog r m nt ops Q l ((e,v)::env) H) (hc:eo env c=some (.s (.bool false)):=by exact rfl) (hx:eo env y=some v:=by exact rfl) (hd:e<nt:=by exact dc rfl) :
  AR Tryz.prog r m nt ops Q (.q i ⟨some e,.pick c x y,ty,pos,after,none⟩::l) env H:=ar_q (qs_pick_f hc hx) hd hk
theorem zex {cs:List V}{k:Nat}(hk:AR Tryz.prog r m nt ops Q l ((e,v)::env) H) (hx:eo env x=some (.tup cs):=by exact rfl) (hv:cs[k]?=some v:=by exact rfl) (hd:e<nt:=by exact dc rfl) :
  AR Tryz.prog r m nt ops Q (.q i ⟨some e,.extract x k,ty,pos,after,none⟩::l) env H:=ar_q (qs_extract hx hv) hd hk
theorem znt {b:Bool}(hk:AR Tryz.prog r m nt ops Q l ((e,.s (.bool !b))::env) H) (hx:eo env x=some (.s (.bool b)):=by exact rfl) (hd:e<nt:=by exact dc rfl) :
  AR Tryz.prog r m nt ops Q (.q i ⟨some e,.unOp .not T x,ty,pos,after,none⟩::l) env H:=ar_q (qs_not hx) hd hk
theorem zng {a b:Int}(hk:AR Tryz.prog r m nt ops Q l ((e,.s (.int .i64 b))::env) H) (hx:eo env x=some (.s (.int .i64 a)):=by exact rfl) (hr:IntKind.i64.wrap (0-a)=b:=by exact wrap64n (by omega)) (hd:e<nt:=by exact dc rfl) :
  AR Tryz.prog r m nt ops Q (.q i ⟨some e,.unOp .neg T x,ty,pos,after,none⟩::l) env H:=ar_q (qs_neg hx hr) hd hk
theorem zncp {sz b j off:Nat}(hk:AR Tryz.prog r m nt ops Q l ((e,.ptr sz b j off)::env) H) (hx:eo env x=some (.ptr sz b j off):=by exact rfl) (hd:e<nt:=by exact dc rfl) :
  AR Tryz.prog r m nt ops Q (.q i ⟨some e,.nilCheck x,ty,pos,after,none⟩::l) env H:=ar_q (qs_nck_ptr hx) hd hk
theorem zncr {w:V}{off:Nat}(hk:AR Tryz.prog r m nt ops Q l ((e,.ref w off)::env) H) (hx:eo env x=some (.ref w off):=by exact rfl) (hd:e<nt:=by exact dc rfl) :
  AR Tryz.prog r m nt ops Q (.q i ⟨some e,.nilCheck x,ty,pos,after,none⟩::l) env H:=ar_q (qs_nck_ref hx) hd hk
theorem zmf {g:Fn}{us ws:Array Operand}{vs vs2:List V}(hk:AR Tryz.prog r m nt ops Q l ((e,.fn g vs vs2)::env) H) (h1:us.toList.mapM (eo env)=some vs:=by exact rfl) (h2:ws.toList.mapM (eo env)=some vs2:=by exact rfl) (hd:e<nt:=by exact dc rfl) :
  AR Tryz.prog r m nt ops Q (.q i ⟨some e,.makeFunc g us ws,ty,pos,after,none⟩::l) env H:=ar_q (qs_makeFunc h1 h2) hd hk
theorem zix {cs:List V}{n j:Nat}{k:IntKind}{a:Int}(hk:AR Tryz.prog r m nt ops Q l ((e,v)::env) H) (ht:TyIs Tryz.prog T d:=by exact ty rfl) (hk1:d.tk=.array n E:=by exact rfl) (he:TyIs Tryz.prog E de:=by exact ty rfl) (hx:eo env x=some (.agg cs):=by exact rfl) (hy:eo env y=some (.s (.int k a)):=by exact rfl) (hm:a=(j:Int):=by first|exact rfl|omega) (hj:j<n:=by omega) (hv:partV de.tk.agg cs (j*de.size) de.size=some v:=by exact rfl) (hd:e<nt:=by exact dc rfl) :
  AR Tryz.prog r m nt ops Q (.q i ⟨some e,.index T x y,ty,pos,after,none⟩::l) env H:=ar_q (qs_index ht hk1 he hx hy hm hj hv) hd hk
theorem zcv {k:IntKind}{a b:Int}(hk:AR Tryz.prog r m nt ops Q l ((e,.s (.int .i64 b))::env) H) (ht:TyIs Tryz.prog T d:=by exact ty rfl) (hk0:d.tk=.int k:=by exact rfl) (he:TyIs Tryz.prog E de:=by exact ty rfl) (hk1:de.tk=.int .i64:=by exact rfl) (hx:eo env x=some (.s (.int k a)):=by exact rfl) (hr:IntKind.i64.wrap a=b:=by exact wrap64 (by omega)) (hd:e<nt:=by exact dc rfl) :
  AR Tryz.prog r m nt ops Q (.q i ⟨some e,.convert T E x,ty,pos,after,none⟩::l) env H:=ar_q (qs_conv ht hk0 he hk1 hx hr) hd hk
theorem zcvu64 {k:IntKind}{a b:Int}(hk:AR Tryz.prog r m nt ops Q l ((e,.s (.int .u64 b))::env) H) (ht:TyIs Tryz.prog T d:=by exact ty rfl) (hk0:d.tk=.int k:=by exact rfl) (he:TyIs Tryz.prog E de:=by exact ty rfl) (hk1:de.tk=.int .u64:=by exact rfl) (hx:eo env x=some (.s (.int k a)):=by exact rfl) (hr:IntKind.u64.wrap a=b:=by exact wrapU (by omega)) (hd:e<nt:=by exact dc rfl) :
  AR Tryz.prog r m nt ops Q (.q i ⟨some e,.convert T E x,ty,pos,after,none⟩::l) env H:=ar_q (qs_conv ht hk0 he hk1 hx hr) hd hk
theorem zcl {sz n a b:Nat}{f:Nat→V}{lo hi:Option Operand}(hk:AR Tryz.prog r m nt ops Q l ((e,.list sz (b-a) (fun k=>f (a+k)))::env) H) (ht:TyIs Tryz.prog T d:=by exact ty rfl) (hk1:d.tk=.slice E:=by exact rfl) (he:TyIs Tryz.prog E de:=by exact ty rfl) (hs:de.size=sz:=by exact rfl) (hx:eo env x=some (.list sz n f):=by exact rfl) (hl:bnd env lo 0 a:=by first|exact rfl|exact ⟨_,rfl⟩|exact bnd_some rfl (by omega)) (hh:bnd env hi n b:=by first|exact rfl|exact ⟨_,rfl⟩|exact bnd_some rfl (by omega)) (h1:a≤b:=by omega) (h2:b≤n:=by omega) (hd:e<nt:=by exact dc rfl) :
  AR Tryz.prog r m nt ops Q (.q i ⟨some e,.slice T x lo hi none,ty,pos,after,none⟩::l) env H:=ar_q (qs_slice_list ht hk1 he hs hx hl hh h1 h2) hd hk
theorem zcs {sz g o n a b:Nat}{lo hi:Option Operand}(hk:AR Tryz.prog r m nt ops Q l ((e,.sl sz g (o+a) (b-a))::env) H) (ht:TyIs Tryz.prog T d:=by exact ty rfl) (hk1:d.tk=.slice E:=by exact rfl) (he:TyIs Tryz.prog E de:=by exact ty rfl) (hs:de.size=sz:=by exact rfl) (hx:eo env x=some (.sl sz g o n):=by exact rfl) (hl:bnd env lo 0 a:=by first|exact rfl|exact ⟨_,rfl⟩|exact bnd_some rfl (by omega)) (hh:bnd env hi n b:=by first|exact rfl|exact ⟨_,rfl⟩|exact bnd_some rfl (by omega)) (h1:a≤b:=by omega) (h2:b≤n:=by omega) (h3:a<n∨a=0:=by omega) (hd:e<nt:=by exact dc rfl) :
  AR Tryz.prog r m nt ops Q (.q i ⟨some e,.slice T x lo hi none,ty,pos,after,none⟩::l) env H:=ar_q (qs_slice_sl ht hk1 he hs hx hl hh h1 h2 h3) hd hk
theorem zbx  (h:AR Tryz.prog r m nt ops Q l ((e,.ptr v.cells.length H.length 0 0)::env) (H++[.arr v.cells.length 1 (fun _=>v)])) (hx:eo env x=some v:=by exact rfl) (hok:v.ok=true:=by exact rfl) (hd:e<nt:=by exact dc rfl) :
  AR Tryz.prog r m nt ops Q (.l i ⟨some e,.box T x,ty,pos,after,none⟩ keep::l) env H:=ar_boxf hx hok hd h
theorem zal  (h:AR Tryz.prog r m nt ops Q l ((e,.ptr (constV d.zero).cells.length H.length 0 0)::env) (H++[.arr (constV d.zero).cells.length 1 (fun _=>constV d.zero)])) (ht:TyIs Tryz.prog T d:=by exact ty rfl) (hok:(constV d.zero).ok=true:=by exact rfl) (hd:e<nt:=by exact dc rfl) :
  AR Tryz.prog r m nt ops Q (.l i ⟨some e,.alloc T,ty,pos,after,none⟩ keep::l) env H:=ar_alloc ht hok hd h
theorem zb1  (h:AR Tryz.prog r m nt ops Q l ((e,.sl de.size H.length 0 1)::env) (H++[.arr de.size 1 (fun _=>v)])) (ht:TyIs Tryz.prog T d:=by exact ty rfl) (hk1:d.tk=.slice E:=by exact rfl) (he:TyIs Tryz.prog E de:=by exact ty rfl) (hx:eo env x=some v:=by exact rfl) (hz:(constV de.zero).ok=true:=by exact rfl) (hzs:de.zero.cells.size=de.size:=by exact rfl) (hn:1*de.size≤16777216:=by exact Nat.le_of_ble_eq_true rfl) (hs:v.cells.length=de.size:=by exact rfl) (hok:v.ok=true:=by exact rfl) (hd:e<nt:=by exact dc rfl) :
  AR Tryz.prog r m nt ops Q (.l i ⟨some e,.buildSlice T 1 #[(0,x)],ty,pos,after,none⟩ keep::l) env H:=ar_build1 ht hk1 he hx hz hzs hn hs hok hd h
theorem zb0  (h:AR Tryz.prog r m nt ops Q l ((e,.emp)::env) H) (ht:TyIs Tryz.prog T d:=by exact ty rfl) (hk1:d.tk=.slice E:=by exact rfl) (he:TyIs Tryz.prog E de:=by exact ty rfl) (hd:e<nt:=by exact dc rfl) :
  AR Tryz.prog r m nt ops Q (.l i ⟨some e,.buildSlice T 0 #[],ty,pos,after,none⟩ keep::l) env H:=ar_build0 ht hk1 he hd h
theorem zapoo {dv yv:V}{sz n k:Nat}{f g:Nat→V}{H0:Heap}(h:AR Tryz.prog r m nt ops Q l ((e,.sl sz H.length 0 (n+k))::env) (H0++[.arr sz (n+k) (appF n f g)])) (ht:TyIs Tryz.prog T d:=by exact ty rfl) (hk1:d.tk=.slice E:=by exact rfl) (he:TyIs Tryz.prog E de:=by exact ty rfl) (hs:de.size=sz:=by exact rfl) (hpos:0<sz:=by exact Nat.succ_pos _) (hz:de.zero.cells.size=sz:=by exact rfl) (hx:eo env x=some dv:=by exact rfl) (hy:eo env y=some yv:=by exact rfl) (hg:Grow H dv sz n f H0:=by exact (.inr (.inr ⟨_,rfl,rfl,rfl⟩))) (hsr:Src H yv sz k g:=by exact (.inr (.inl ⟨_,_,_,_,rfl,rfl,(by omega),rfl⟩))) (hone:∀ j,j<k→(g j).cells.all V.one=true:=by exact fun _ _=>rfl) (hm:n+k≤maxLen:=by first|exact maxLen_ok (by omega)|(unfold maxLen;omega)) (hb:(n+k)*de.bytes≤140737488355328:=by (dsimp only;omega)) (hd:e<nt:=by exact dc rfl) :
  AR Tryz.prog r m nt ops Q (.l i ⟨some e,.call ⟨.builtin .append,#[x,y],#[T,T]⟩,ty,pos,after,none⟩ keep::l) env H:=ar_append ht hk1 he hs hpos hz hx hy hg hsr hd hone hm hb h
theorem zapol {dv yv:V}{sz n k:Nat}{f g:Nat→V}{H0:Heap}(h:AR Tryz.prog r m nt ops Q l ((e,.sl sz H.length 0 (n+k))::env) (H0++[.arr sz (n+k) (appF n f g)])) (ht:TyIs Tryz.prog T d:=by exact ty rfl) (hk1:d.tk=.slice E:=by exact rfl) (he:TyIs Tryz.prog E de:=by exact ty rfl) (hs:de.size=sz:=by exact rfl) (hpos:0<sz:=by exact Nat.succ_pos _) (hz:de.zero.cells.size=sz:=by exact rfl) (hx:eo env x=some dv:=by exact rfl) (hy:eo env y=some yv:=by exact rfl) (hg:Grow H dv sz n f H0:=by exact (.inr (.inr ⟨_,rfl,rfl,rfl⟩))) (hsr:Src H yv sz k g:=by exact (.inl rfl)) (hone:∀ j,j<k→(g j).cells.all V.one=true:=by exact fun _ _=>rfl) (hm:n+k≤maxLen:=by first|exact maxLen_ok (by omega)|(unfold maxLen;omega)) (hb:(n+k)*de.bytes≤140737488355328:=by (dsimp only;omega)) (hd:e<nt:=by exact dc rfl) :
  AR Tryz.prog r m nt ops Q (.l i ⟨some e,.call ⟨.builtin .append,#[x,y],#[T,T]⟩,ty,pos,after,none⟩ keep::l) env H:=ar_append ht hk1 he hs hpos hz hx hy hg hsr hd hone hm hb h
theorem zapno {dv yv:V}{sz n k:Nat}{g:Nat→V}{H0:Heap}(h:AR Tryz.prog r m nt ops Q l ((e,.sl sz H.length 0 (n+k))::env) (H0++[.arr sz (n+k) (appF n (fun _=>vnil) g)])) (ht:TyIs Tryz.prog T d:=by exact ty rfl) (hk1:d.tk=.slice E:=by exact rfl) (he:TyIs Tryz.prog E de:=by exact ty rfl) (hs:de.size=sz:=by exact rfl) (hpos:0<sz:=by exact Nat.succ_pos _) (hz:de.zero.cells.size=sz:=by exact rfl) (hx:eo env x=some dv:=by exact rfl) (hy:eo env y=some yv:=by exact rfl) (hg:Grow H dv sz n (fun _=>vnil) H0:=by exact (.inl ⟨rfl,rfl,rfl⟩)) (hsr:Src H yv sz k g:=by exact (.inr (.inl ⟨_,_,_,_,rfl,rfl,(by omega),rfl⟩))) (hone:∀ j,j<k→(g j).cells.all V.one=true:=by exact fun _ _=>rfl) (hm:n+k≤maxLen:=by first|exact maxLen_ok (by omega)|(unfold maxLen;omega)) (hb:(n+k)*de.bytes≤140737488355328:=by (dsimp only;omega)) (hd:e<nt:=by exact dc rfl) :
  AR Tryz.prog r m nt ops Q (.l i ⟨some e,.call ⟨.builtin .append,#[x,y],#[T,T]⟩,ty,pos,after,none⟩ keep::l) env H:=ar_append ht hk1 he hs hpos hz hx hy hg hsr hd hone hm hb h
theorem zapel {dv yv:V}{sz n k:Nat}{g:Nat→V}{H0:Heap}(h:AR Tryz.prog r m nt ops Q l ((e,.sl sz H.length 0 (n+k))::env) (H0++[.arr sz (n+k) (appF n (fun _=>vnil) g)])) (ht:TyIs Tryz.prog T d:=by exact ty rfl) (hk1:d.tk=.slice E:=by exact rfl) (he:TyIs Tryz.prog E de:=by exact ty rfl) (hs:de.size=sz:=by exact rfl) (hpos:0<sz:=by exact Nat.succ_pos _) (hz:de.zero.cells.size=sz:=by exact rfl) (hx:eo env x=some dv:=by exact rfl) (hy:eo env y=some yv:=by exact rfl) (hg:Grow H dv sz n (fun _=>vnil) H0:=by exact (.inr (.inl ⟨rfl,rfl,rfl⟩))) (hsr:Src H yv sz k g:=by exact (.inl rfl)) (hone:∀ j,j<k→(g j).cells.all V.one=true:=by exact fun _ _=>rfl) (hm:n+k≤maxLen:=by first|exact maxLen_ok (by omega)|(unfold maxLen;omega)) (hb:(n+k)*de.bytes≤140737488355328:=by (dsimp only;omega)) (hd:e<nt:=by exact dc rfl) :
  AR Tryz.prog r m nt ops Q (.l i ⟨some e,.call ⟨.builtin .append,#[x,y],#[T,T]⟩,ty,pos,after,none⟩ keep::l) env H:=ar_append ht hk1 he hs hpos hz hx hy hg hsr hd hone hm hb h
theorem zsvs {sz b off:Nat}{f:Nat→V}(h:AR Tryz.prog r m nt ops Q l env (H.set b (.arr sz 1 (fun _=>putPart (f 0) off v)))) (ht:TyIs Tryz.prog T d:=by exact ty rfl) (hx:eo env x=some (.ptr sz b 0 off):=by exact rfl) (hy:eo env y=some v:=by exact rfl) (hH:H[b]?=some (.arr sz 1 f):=by exact rfl) (hok:v.ok=true:=by exact rfl) (hone:v.cells.all V.one=true:=by exact rfl) (hsz:v.cells.length=d.size:=by exact rfl) (hoff:off+d.size≤sz:=by first|(dsimp only;omega)|exact dc rfl) (ha:(∃ cs,f 0=.agg cs)∨(off=0∧v.cells.length=1∧(f 0).cells.length=1∧∀ cs,v≠.agg cs):=by exact (.inr ⟨rfl,rfl,rfl,fun _ h=>by cases h⟩))  :
  AR Tryz.prog r m nt ops Q (.l i ⟨none,.store T x y,ty,pos,after,none⟩ false::l) env H:=ar_store_var ht hx hy hH hok hone hsz hoff ha h
theorem zses {sz b j off n:Nat}{f:Nat→V}(h:AR Tryz.prog r m nt ops Q l env (H.set b (.arr sz n (upd f j (putPart (f j) off v))))) (ht:TyIs Tryz.prog T d:=by exact ty rfl) (hx:eo env x=some (.ptr sz b j off):=by exact rfl) (hy:eo env y=some v:=by exact rfl) (hH:H[b]?=some (.arr sz n f):=by exact rfl) (hok:v.ok=true:=by exact rfl) (hone:v.cells.all V.one=true:=by exact rfl) (hsz:v.cells.length=d.size:=by exact rfl) (hi:j<n:=by first|exact Nat.one_pos|assumption|omega) (hoff:off+d.size≤sz:=by first|(dsimp only;omega)|exact dc rfl) (ha:(∃ cs,f j=.agg cs)∨(off=0∧v.cells.length=1∧(f j).cells.length=1∧∀ cs,v≠.agg cs):=by exact (.inr ⟨rfl,rfl,rfl,fun _ h=>by cases h⟩))  :
  AR Tryz.prog r m nt ops Q (.l i ⟨none,.store T x y,ty,pos,after,none⟩ false::l) env H:=ar_store_elt ht hx hy hH hok hone hsz hi hoff ha h
theorem zsva {sz b off:Nat}{f:Nat→V}(h:AR Tryz.prog r m nt ops Q l env (H.set b (.arr sz 1 (fun _=>putPart (f 0) off v)))) (ht:TyIs Tryz.prog T d:=by exact ty rfl) (hx:eo env x=some (.ptr sz b 0 off):=by exact rfl) (hy:eo env y=some v:=by exact rfl) (hH:H[b]?=some (.arr sz 1 f):=by exact rfl) (hok:v.ok=true:=by exact rfl) (hone:v.cells.all V.one=true:=by exact rfl) (hsz:v.cells.length=d.size:=by exact rfl) (hoff:off+d.size≤sz:=by first|(dsimp only;omega)|exact dc rfl) (ha:(∃ cs,f 0=.agg cs)∨(off=0∧v.cells.length=1∧(f 0).cells.length=1∧∀ cs,v≠.agg cs):=by exact (.inl ⟨_,rfl⟩))  :
  AR Tryz.prog r m nt ops Q (.l i ⟨none,.store T x y,ty,pos,after,none⟩ false::l) env H:=ar_store_var ht hx hy hH hok hone hsz hoff ha h
theorem zsea {sz b j off n:Nat}{f:Nat→V}(h:AR Tryz.prog r m nt ops Q l env (H.set b (.arr sz n (upd f j (putPart (f j) off v))))) (ht:TyIs Tryz.prog T d:=by exact ty rfl) (hx:eo env x=some (.ptr sz b j off):=by exact rfl) (hy:eo env y=some v:=by exact rfl) (hH:H[b]?=some (.arr sz n f):=by exact rfl) (hok:v.ok=true:=by exact rfl) (hone:v.cells.all V.one=true:=by exact rfl) (hsz:v.cells.length=d.size:=by exact rfl) (hi:j<n:=by first|exact Nat.one_pos|assumption|omega) (hoff:off+d.size≤sz:=by first|(dsimp only;omega)|exact dc rfl) (ha:(∃ cs,f j=.agg cs)∨(off=0∧v.cells.length=1∧(f j).cells.length=1∧∀ cs,v≠.agg cs):=by exact (.inl ⟨_,rfl⟩))  :
  AR Tryz.prog r m nt ops Q (.l i ⟨none,.store T x y,ty,pos,after,none⟩ false::l) env H:=ar_store_elt ht hx hy hH hok hone hsz hi hoff ha h
theorem zcpl {yv:V}{b o n N k:Nat}{f g:Nat→V}{T2:TypeId}(h:AR Tryz.prog r m nt ops Q l ((e,vi (Nat.min k n))::env) (H.set b (.arr 1 N (copyF f o (Nat.min k n) g)))) (ht:TyIs Tryz.prog T d:=by exact ty rfl) (hk1:d.tk=.slice E:=by exact rfl) (he:TyIs Tryz.prog E de:=by exact ty rfl) (hs1:de.size=1:=by exact rfl) (hx:eo env x=some (.sl 1 b o n):=by exact rfl) (hH:H[b]?=some (.arr 1 N f):=by exact rfl) (hN:o+n≤N:=by omega) (hy:eo env y=some yv:=by exact rfl) (hsr:Src H yv 1 k g:=by exact (.inl rfl)) (hone:∀ j,j<k→(g j).cells.all V.one=true:=by exact fun _ _=>rfl) (hd:e<nt:=by exact dc rfl) :
  AR Tryz.prog r m nt ops Q (.l i ⟨some e,.call ⟨.builtin .copy,#[x,y],#[T,T2]⟩,ty,pos,after,none⟩ false::l) env H:=ar_copy ht hk1 he hs1 hx hH hN hy hsr hone hd h
theorem zgu {s:Stp}{g t:Nat}{want:Bool}(h:AR Tryz.prog r m nt ops Q l ((e,.s undef)::env) H) (hg:s.oper.guard=some (g,want):=by exact rfl) (ht:(ops[g]?).bind (·.dst)=some t:=by exact rfl) (hd:s.oper.dst=some e:=by exact rfl) (hb:look env t=some (.s undef):=by exact rfl) (hdn:e<nt:=by exact dc rfl):AR Tryz.prog r m nt ops Q (s::l) env H:=ar_guard_u hg ht hd hb hdn h
theorem zg {s:Stp}{g t:Nat}{b want:Bool}(hy:b=want→AR Tryz.prog r m nt ops Q (s.bare::l) ((t,.s (.bool want))::env) H) (hn:b=!want→AR Tryz.prog r m nt ops Q l ((e,.s undef)::(t,.s (.bool !want))::env) H) (hg:s.oper.guard=some (g,want):=by exact rfl) (ht:(ops[g]?).bind (·.dst)=some t:=by exact rfl) (hb:look env t=some (.s (.bool b)):=by exact rfl) (hd:s.oper.dst=some e:=by exact rfl) (hdn:e<nt:=by exact dc rfl):AR Tryz.prog r m nt ops Q (s::l) env H:=ar_guard hg ht hb hd hdn hy hn
theorem zco {x:Operand}{c1 c2:Code}{b:Bool}(hy:b=true→AW Tryz.prog r m nt c1 Q env H) (hn:b=false→AW Tryz.prog r m nt c2 Q env H) (hc:eo env x=some (.s (.bool b)):=by exact rfl):AW Tryz.prog r m nt (.cond x c1 c2) Q env H:=aw_cond hc hy hn
theorem yzll {nt e:Nat}{env:Env}{H:Heap}{ty:TypeId}{pos:String}{after:Array Edge}{x:Operand}{T:TypeId}{E:TypeId}{d:TyD}{sz n:Nat}{f:Nat→V}{ats:Array TypeId}  (h0:ats[0]?=some T:=by exact rfl) (ht:TyIs Tryz.prog T d:=by exact ty rfl) (hk1:d.tk=.slice E:=by exact rfl) (hx:eo env x=some (.list sz n f):=by exact rfl):QS Tryz.prog nt env H ⟨some e,.call ⟨.builtin .len,#[x],ats⟩,ty,pos,after,none⟩ (.s (.int .i64 (n:Int))):=qs_len_list ht hk1 h0 hx
theorem yzls {nt e:Nat}{env:Env}{H:Heap}{ty:TypeId}{pos:String}{after:Array Edge}{x:Operand}{T:TypeId}{E:TypeId}{d:TyD}{sz b o n:Nat}{ats:Array TypeId}  (h0:ats[0]?=some T:=by exact rfl) (ht:TyIs Tryz.prog T d:=by exact ty rfl) (hk1:d.tk=.slice E:=by exact rfl) (hx:eo env x=some (.sl sz b o n):=by exact rfl):QS Tryz.prog nt env H ⟨some e,.call ⟨.builtin .len,#[x],ats⟩,ty,pos,after,none⟩ (.s (.int .i64 (n:Int))):=qs_len_sl ht hk1 h0 hx
theorem yzln {nt e:Nat}{env:Env}{H:Heap}{ty:TypeId}{pos:String}{after:Array Edge}{x:Operand}{T:TypeId}{E:TypeId}{d:TyD}{ats:Array TypeId}  (h0:ats[0]?=some T:=by exact rfl) (ht:TyIs Tryz.prog T d:=by exact ty rfl) (hk1:d.tk=.slice E:=by exact rfl) (hx:eo env x=some (.s (.slice none 0 0)):=by exact rfl):QS Tryz.prog nt env H ⟨some e,.call ⟨.builtin .len,#[x],ats⟩,ty,pos,after,none⟩ (.s (.int .i64 0)):=qs_len_nil ht hk1 h0 hx
theorem yzle {nt e:Nat}{env:Env}{H:Heap}{ty:TypeId}{pos:String}{after:Array Edge}{x:Operand}{T:TypeId}{E:TypeId}{d:TyD}{ats:Array TypeId}  (h0:ats[0]?=some T:=by exact rfl) (ht:TyIs Tryz.prog T d:=by exact ty rfl) (hk1:d.tk=.slice E:=by exact rfl) (hx:eo env x=some (.emp):=by exact rfl):QS Tryz.prog nt env H ⟨some e,.call ⟨.builtin .len,#[x],ats⟩,ty,pos,after,none⟩ (.s (.int .i64 0)):=qs_len_emp ht hk1 h0 hx
theorem zk_load {nt:Nat}{env:Env}{H:Heap}{v:V}{dst:Option Tmp}{ty:TypeId}{pos:String}{after:Array Edge}{guard:Option (Nat × Bool)}{T:TypeId}{x:Operand}(h:QS Tryz.prog nt env H ⟨dst,.load T x,ty,pos,after,guard⟩ v):QS Tryz.prog nt env H ⟨dst,.load T x,ty,pos,after,guard⟩ v:=h
theorem zk_binOp {nt:Nat}{env:Env}{H:Heap}{v:V}{dst:Option Tmp}{ty:TypeId}{pos:String}{after:Array Edge}{guard:Option (Nat × Bool)}{o:BinOp}{T T2:TypeId}{x y:Operand}(h:QS Tryz.prog nt env H ⟨dst,.binOp o T x y T2,ty,pos,after,guard⟩ v):QS Tryz.prog nt env H ⟨dst,.binOp o T x y T2,ty,pos,after,guard⟩ v:=h
theorem zk_fieldAddr {nt:Nat}{env:Env}{H:Heap}{v:V}{dst:Option Tmp}{ty:TypeId}{pos:String}{after:Array Edge}{guard:Option (Nat × Bool)}{T:TypeId}{x:Operand}{k:Nat}(h:QS Tryz.prog nt env H ⟨dst,.fieldAddr T x k,ty,pos,after,guard⟩ v):QS Tryz.prog nt env H ⟨dst,.fieldAddr T x k,ty,pos,after,guard⟩ v:=h
theorem zk_indexAddr {nt:Nat}{env:Env}{H:Heap}{v:V}{dst:Option Tmp}{ty:TypeId}{pos:String}{after:Array Edge}{guard:Option (Nat × Bool)}{T:TypeId}{x y:Operand}(h:QS Tryz.prog nt env H ⟨dst,.indexAddr T x y,ty,pos,after,guard⟩ v):QS Tryz.prog nt env H ⟨dst,.indexAddr T x y,ty,pos,after,guard⟩ v:=h
theorem zk_call {nt:Nat}{env:Env}{H:Heap}{v:V}{dst:Option Tmp}{ty:TypeId}{pos:String}{after:Array Edge}{guard:Option (Nat × Bool)}{c:Call}(h:QS Tryz.prog nt env H ⟨dst,.call c,ty,pos,after,guard⟩ v):QS Tryz.prog nt env H ⟨dst,.call c,ty,pos,after,guard⟩ v:=h
theorem zk_pick {nt:Nat}{env:Env}{H:Heap}{v:V}{dst:Option Tmp}{ty:TypeId}{pos:String}{after:Array Edge}{guard:Option (Nat × Bool)}{c x y:Operand}(h:QS Tryz.prog nt env H ⟨dst,.pick c x y,ty,pos,after,guard⟩ v):QS Tryz.prog nt env H ⟨dst,.pick c x y,ty,pos,after,guard⟩ v:=h
theorem zk_unOp {nt:Nat}{env:Env}{H:Heap}{v:V}{dst:Option Tmp}{ty:TypeId}{pos:String}{after:Array Edge}{guard:Option (Nat × Bool)}{o:UnOp}{T:TypeId}{x:Operand}(h:QS Tryz.prog nt env H ⟨dst,.unOp o T x,ty,pos,after,guard⟩ v):QS Tryz.prog nt env H ⟨dst,.unOp o T x,ty,pos,after,guard⟩ v:=h
theorem zk_convert {nt:Nat}{env:Env}{H:Heap}{v:V}{dst:Option Tmp}{ty:TypeId}{pos:String}{after:Array Edge}{guard:Option (Nat × Bool)}{T E:TypeId}{x:Operand}(h:QS Tryz.prog nt env H ⟨dst,.convert T E x,ty,pos,after,guard⟩ v):QS Tryz.prog nt env H ⟨dst,.convert T E x,ty,pos,after,guard⟩ v:=h
theorem zk_nilCheck {nt:Nat}{env:Env}{H:Heap}{v:V}{dst:Option Tmp}{ty:TypeId}{pos:String}{after:Array Edge}{guard:Option (Nat × Bool)}{x:Operand}(h:QS Tryz.prog nt env H ⟨dst,.nilCheck x,ty,pos,after,guard⟩ v):QS Tryz.prog nt env H ⟨dst,.nilCheck x,ty,pos,after,guard⟩ v:=h
theorem zq {r:Option Nat}{m nt i e:Nat}{Q:Post}{env:Env}{H:Heap}{ops:Array Oper}{l:List Stp}{op:Op}{ty:TypeId}{pos:String}{after:Array Edge}{v:V}(hk:AR Tryz.prog r m nt ops Q l ((e,v)::env) H) (hq:QS Tryz.prog nt env H ⟨some e,op,ty,pos,after,none⟩ v:=by first|exact qs_move (by exact rfl)|exact qs_assign (by exact rfl)|(apply zk_load;first|exact qs_load_ptr (by exact ty rfl) (by exact rfl) (by exact rfl) (by first|exact Nat.one_pos|assumption|omega) (by exact rfl)|exact qs_load_ref (by exact ty rfl) (by exact rfl) (by exact rfl))|(apply zk_binOp;first|exact qs_lss (by exact rfl) (by exact rfl)|exact qs_leq (by exact rfl) (by exact rfl)|exact qs_gtr (by exact rfl) (by exact rfl)|exact qs_geq (by exact rfl) (by exact rfl)|exact qs_eql (by exact rfl) (by exact rfl)|exact qs_neq (by exact rfl) (by exact rfl)|exact qs_add (by exact rfl) (by exact rfl) (by exact wrap64 (by omega))|exact qs_sub (by exact rfl) (by exact rfl) (by exact wrap64 (by omega))|exact qs_mul (by exact rfl) (by exact rfl) (by exact wrap64 (by omega))|exact qs_add (by exact rfl) (by exact rfl) (by exact wrap8 (by omega))|exact qs_sub (by exact rfl) (by exact rfl) (by exact wrap8 (by omega))|exact qs_mul (by exact rfl) (by exact rfl) (by exact wrap8 (by omega))|exact qs_add (by exact rfl) (by exact rfl) (by exact wrapU (by omega))|exact qs_sub (by exact rfl) (by exact rfl) (by exact wrapU (by omega))|exact qs_mul (by exact rfl) (by exact rfl) (by exact wrapU (by omega))|exact qs_add (by exact rfl) (by exact rfl) (by exact wrapU32 (by omega))|exact qs_sub (by exact rfl) (by exact rfl) (by exact wrapU32 (by omega))|exact qs_mul (by exact rfl) (by exact rfl) (by exact wrapU32 (by omega))|exact qs_beq (by exact ty rfl) (by exact rfl) (by exact rfl) (by exact rfl)|exact qs_bneq (by exact ty rfl) (by exact rfl) (by exact rfl) (by exact rfl)|exact qs_quo (by exact rfl) (by exact rfl) (by omega) (by exact quo64 (by omega) (by omega))|exact qs_rem (by exact rfl) (by exact rfl) (by omega) (by exact rem64 (by omega)))|(apply zk_fieldAddr;first|exact qs_faddr_ptr (by exact ty rfl) (by exact rfl) (by exact rfl) (by exact ty rfl) (by exact Nat.succ_ne_zero _) (by exact rfl)|exact qs_faddr_ref (by exact ty rfl) (by exact rfl) (by exact rfl) (by exact ty rfl) (by exact Nat.succ_ne_zero _) (by exact rfl))|(apply zk_indexAddr;first|exact qs_iaddr_list (by exact ty rfl) (by exact rfl) (by exact ty rfl) (by exact rfl) (by exact rfl) (by exact rfl) (by first|exact rfl|omega) (by omega)|exact qs_iaddr_sl0 (by exact ty rfl) (by exact rfl) (by exact ty rfl) (by exact rfl) (by exact rfl) (by exact rfl) (by first|exact rfl|omega) (by omega)|exact qs_iaddr_sl (by exact ty rfl) (by exact rfl) (by exact ty rfl) (by exact rfl) (by exact rfl) (by exact rfl) (by first|exact rfl|omega) (by omega)|exact qs_iaddr_aptr (by exact ty rfl) (by exact rfl) (by exact ty rfl) (by exact rfl) (by exact rfl) (by first|exact rfl|omega) (by omega)|exact qs_iaddr_aref (by exact ty rfl) (by exact rfl) (by exact ty rfl) (by exact rfl) (by exact rfl) (by first|exact rfl|omega) (by omega))|(apply zk_call;first|exact yzll|exact yzls|exact yzln|exact yzle|exact qs_min (by exact rfl) (by exact rfl)|exact qs_max (by exact rfl) (by exact rfl))|(apply zk_pick;first|exact qs_pick_t (by exact rfl) (by exact rfl)|exact qs_pick_f (by exact rfl) (by exact rfl))|(apply zk_unOp;first|exact qs_not (by exact rfl)|exact qs_neg (by exact rfl) (by exact wrap64n (by omega)))|(apply zk_convert;first|exact qs_conv (by exact ty rfl) (by exact rfl) (by exact ty rfl) (by exact rfl) (by exact rfl) (by exact wrap64 (by omega))|exact qs_conv (by exact ty rfl) (by exact rfl) (by exact ty rfl) (by exact rfl) (by exact rfl) (by exact wrap8 (by omega))|exact qs_conv (by exact ty rfl) (by exact rfl) (by exact ty rfl) (by exact rfl) (by exact rfl) (by exact wrapU (by omega))|exact qs_conv (by exact ty rfl) (by exact rfl) (by exact ty rfl) (by exact rfl) (by exact rfl) (by exact wrapU32 (by omega)))|(apply zk_nilCheck;first|exact qs_nck_ptr (by exact rfl)|exact qs_nck_ref (by exact rfl))|exact qs_extract (by exact rfl) (by exact rfl)|exact qs_field (by exact ty rfl) (by exact rfl) (by exact rfl) (by exact ty rfl) (by exact rfl) (by exact rfl)|exact qs_makeFunc (by exact rfl) (by exact rfl)|exact qs_index (by exact ty rfl) (by exact rfl) (by exact ty rfl) (by exact rfl) (by exact rfl) (by first|exact rfl|omega) (by omega) (by exact rfl)) (hd:e<nt:=by exact dc rfl) :
  AR Tryz.prog r m nt ops Q (.q i ⟨some e,op,ty,pos,after,none⟩::l) env H:=ar_q hq hd hk
theorem zpv {r:Option Nat}{m nt i d:Nat}{Q:Post}{env:Env}{H:Heap}{ops:Array Oper}{l:List Stp}{ty:TypeId}{pos:String}{after:Array Edge}{keep:Bool}{fo:Operand}{args:List Operand}{ats:Array TypeId}{f:FuncId}{first cap vs ws:List V}{v0:V}(hfn:FnOk Tryz.prog f) (hc:PCalls Tryz.prog f ws (·=v0)) (hk:AR Tryz.prog r m nt ops Q l ((d,v0)::env) H)
  (hf:eo env fo=some (.fn (.func f) first cap):=by exact rfl) (hargs:args.mapM (eo env)=some vs:=by exact rfl) (ha:ArgsOk false H (first++vs++cap) ws:=by ((repeat' (first|exact .nil|refine .cons (.closed rfl) ?_|refine .cons .nil ?_|refine .cons .emp ?_|refine .cons (.ext (fun _ _=>rfl)) ?_));first|done|fail)) (hd:d<nt:=by exact dc rfl) :
  AR Tryz.prog r m nt ops Q (.l i ⟨some d,.call ⟨.value fo,args.toArray,ats⟩,ty,pos,after,none⟩ keep::l) env H:=ar_pcall (own:=false) hfn hf hargs ha hc (by simp) hd (fun v hv=>by subst hv;exact hk)
theorem vz1 {H:Heap}{σ:List (Option Nat)}{fr:Nat→Prop}{v x:V}(h:VSub H σ fr v x:=by first|exact .closed rfl|exact .sl rfl|exact .ptr rfl|exact .map rfl|exact .nil rfl|exact .emp rfl|exact .nilList|exact .empList|exact frzPtr' (by simp;done) rfl (by omega) rfl rfl|exact frzLB (by simp;done) rfl (fun _=>rfl) rfl|exact frz_all (by simp;done) rfl (fun _ _=>rfl) (fun _=>rfl) rfl|exact .frz (by simp;done) rfl (by omega) (fun _ _=>rfl) (fun _ _=>rfl)|exact slEq rfl (by first|(simp;done)|(simp;omega))|exact siEq (by omega)|fail):VSub H σ fr v x:=h
theorem vz2 {H:Heap}{σ:List (Option Nat)}{fr:Nat→Prop}{v x:V}(h:VSub H σ fr v x:=by first|exact .of_eq (by refine (show V.agg _=V.agg _ from ?_);(try dsimp only);congr<;>first|rfl|omega) rfl|exact .closed (by simp [V.closed,V.closed.all, *];done)|fail):VSub H σ fr v x:=h
theorem zsb {m nt:Nat}{env env0:Env}{H H0:Heap}(σ:List (Option Nat)) (fr:List Nat) (h:(Nat.beq σ.length H0.length&&preB m σ&&injB σ&&apartB fr σ)=true:=by exact rfl) (he:EnvSub H σ (·∈fr) env env0:=by ((repeat' (first|exact trivial|refine ⟨⟨_,rfl,?_⟩,?_⟩|refine ⟨bsub_snoc rfl rfl (fun _=>rfl) ?_,?_⟩|refine ⟨bsub_one rfl rfl ?_,?_⟩|refine ⟨bsub_all rfl rfl (fun _ _=>rfl) (fun _=>rfl),?_⟩|refine ⟨bsub_updL rfl rfl ?_ (fun _ _ _=>rfl) (fun _=>rfl),?_⟩|refine ⟨.inl ⟨_,_,rfl,rfl,?_⟩,?_⟩|exact ⟨.inr ⟨rfl,rfl⟩,trivial⟩|refine ⟨.inr ⟨rfl,rfl⟩,?_⟩|(intro _ _)|exact vz1|exact vz2|fail));first|done|fail)) (hh:HSub H σ (·∈fr) 0 H0:=by ((repeat' (first|exact trivial|refine ⟨⟨_,rfl,?_⟩,?_⟩|refine ⟨bsub_snoc rfl rfl (fun _=>rfl) ?_,?_⟩|refine ⟨bsub_one rfl rfl ?_,?_⟩|refine ⟨bsub_all rfl rfl (fun _ _=>rfl) (fun _=>rfl),?_⟩|refine ⟨bsub_updL rfl rfl ?_ (fun _ _ _=>rfl) (fun _=>rfl),?_⟩|refine ⟨.inl ⟨_,_,rfl,rfl,?_⟩,?_⟩|exact ⟨.inr ⟨rfl,rfl⟩,trivial⟩|refine ⟨.inr ⟨rfl,rfl⟩,?_⟩|(intro _ _)|exact vz1|exact vz2|fail));first|done|fail)):SubOf m nt env H env0 H0:=sub_to σ fr h he hh
theorem vs1 {α:Type}[Inhabited α] {H:Heap}{σ:List (Option Nat)}{fr:Nat→Prop}{k:Nat}{l:Heap}{b sz:Nat}{e:α→V}{l0:List α}{x:α}{g:Nat→V}(hv:VSub H σ fr (g 0) (e x)) (h:HSub H σ fr (k+1) l) (h1:σ[k]?=some (some b):=by exact rfl) (h2:H[b]?=some (.arr sz (l0.length+1) (appF l0.length (fun i=>e (el l0 i)) g)):=by exact rfl) (hc:∀ y,(e y).closed=true:=by exact fun _=>rfl):HSub H σ fr k (LB sz e (l0++[x])::l):=⟨bsub_snoc h1 h2 hc hv,h⟩
theorem vs5 {H:Heap}{σ:List (Option Nat)}{fr:Nat→Prop}{k:Nat}{l:Heap}{b sz n:Nat}{f g:Nat→V}(hv:∀ i,i<n→VSub H σ fr (f i) (g i)) (h:HSub H σ fr (k+1) l) (h1:σ[k]?=some (some b):=by exact rfl) (h2:H[b]?=some (.arr sz n f):=by exact rfl):HSub H σ fr k (.arr sz n g::l):=⟨.inl ⟨b,f,h1,h2,hv⟩,h⟩
theorem vs2 {α:Type}[Inhabited α] {H:Heap}{σ:List (Option Nat)}{fr:Nat→Prop}{k:Nat}{l:Heap}{b sz:Nat}{e:α→V}{x:α}{f g:Nat→V}(hv:VSub H σ fr (g 0) (e x)) (h:HSub H σ fr (k+1) l) (h1:σ[k]?=some (some b):=by exact rfl) (h2:H[b]?=some (.arr sz (0+1) (appF 0 f g)):=by exact rfl):HSub H σ fr k (LB sz e [x]::l):=⟨bsub_one h1 h2 hv,h⟩
theorem vs3 {α:Type}[Inhabited α] {H:Heap}{σ:List (Option Nat)}{fr:Nat→Prop}{k:Nat}{l:Heap}{b sz:Nat}{e:α→V}{l0:List α}{f g:Nat→V}(h:HSub H σ fr (k+1) l) (h1:σ[k]?=some (some b):=by exact rfl) (h2:H[b]?=some (.arr sz (0+l0.length) (appF 0 f g)):=by exact rfl) (hg:∀ i,i<l0.length→g i=e (el l0 i):=by exact fun _ _=>rfl) (hc:∀ y,(e y).closed=true:=by exact fun _=>rfl):HSub H σ fr k (LB sz e l0::l):=⟨bsub_all h1 h2 hg hc,h⟩
theorem vs4 {α:Type}[Inhabited α] {H:Heap}{σ:List (Option Nat)}{fr:Nat→Prop}{k:Nat}{l:Heap}{b sz j:Nat}{e:α→V}{l0:List α}{f:Nat→V}{v:V}(hv:VSub H σ fr v (e (el l0 j))) (h:HSub H σ fr (k+1) l) (h1:σ[k]?=some (some b):=by exact rfl) (h2:H[b]?=some (.arr sz l0.length (upd f j v)):=by exact rfl) (hf:∀ i,i<l0.length→i≠j→f i=e (el l0 i):=by exact fun _ _ _=>rfl) (hc:∀ y,(e y).closed=true:=by exact fun _=>rfl):HSub H σ fr k (LB sz e l0::l):=⟨bsub_updL h1 h2 hv hf hc,h⟩
theorem zsr {G G':Prop}(h:G') (hs:G'→G:=by first|exact ar_nil|exact fun h=>zbx h|exact fun h=>zal h|exact fun h=>zb1 h|exact fun h=>zb0 h|exact fun h=>zapoo h|exact fun h=>zapol h|exact fun h=>zapno h|exact fun h=>zapnl h|exact fun h=>zapeo h|exact fun h=>zapel h|exact fun h=>zsvs h|exact fun h=>zsva h|exact fun h=>zses h|exact fun h=>zsea h|exact fun h=>zxl h|exact fun h=>zxs h):G:=hs h
theorem zst {G G':Prop}(h:G') (hs:G'→G:=by first|exact aw_seq|exact aw_skip|exact aw_block|exact aw_exit|exact aw_region|exact ar_nil|exact fun h=>zbx h|exact fun h=>zal h|exact fun h=>zb1 h|exact fun h=>zb0 h|exact fun h=>zapoo h|exact fun h=>zapol h|exact fun h=>zapno h|exact fun h=>zapnl h|exact fun h=>zapeo h|exact fun h=>zapel h|exact fun h=>zsvs h|exact fun h=>zsva h|exact fun h=>zses h|exact fun h=>zsea h|exact fun h=>zxl h|exact fun h=>zxs h):G:=hs h
theorem zd {p G:Prop}(h:¬ p:=by first|decide|(refine fun (hg:(_:Prop))=>?_;(try replace hg:=HG.out hg);(try dsimp only at hg);omega)):p→G:=fun a=>absurd a h
abbrev encInts (l:List Int):V:=LV 1 vi l
abbrev encBools (l:List Bool):V:=LV 1 vb l
abbrev encRows (b:List (List Int)):V:=LV 1 encInts b
abbrev encMask (b:List (List Bool)):V:=LV 1 encBools b
structure Sheet where
 cols:Int
 rows:Int
 weight:Int
 clear:Int
 lean:Int
def Sheet.enc (s:Sheet):V:=.agg [vi s.cols,vi s.rows,vi s.weight,vi s.clear,vi s.lean]
def withinB (n lo hi:Int):Bool:=decide (lo≤n)&&decide (n≤hi)
theorem withinB_iff {n lo hi:Int}:withinB n lo hi=true↔lo≤n∧n≤hi:=by simp [withinB]
theorem withinB_no {n lo hi:Int}:withinB n lo hi=false↔¬ (lo≤n∧n≤hi):=by rw [← withinB_iff];simp
def Sheet.ok (s:Sheet):Bool:=withinB s.cols 1 40&&withinB s.rows 1 60&&withinB s.weight 1 8&&withinB s.clear 0 20&&withinB s.lean 0 8
def Sheet.err (s:Sheet):Int:=if s.ok then 0 else 70
theorem Sheet.bounds {s:Sheet}(h:s.ok=true):1≤s.cols∧s.cols≤40∧1≤s.rows∧s.rows≤60∧1≤s.weight∧s.weight≤8∧0≤s.clear∧s.clear≤20∧0≤s.lean∧s.lean≤8:=by
 simp only [Sheet.ok,Bool.and_eq_true,withinB_iff] at h
 omega
def lineAt (s:Sheet) (l:List Int) (k:Nat):Bool:=withinB (el l k) 0 (s.rows-s.weight)&&(decide (k=0)||withinB (el l k-el l (k-1)) (-s.lean) s.lean)
def isLineB (s:Sheet) (l:List Int):Bool:=decide ((l.length:Int)=s.cols)&&(List.range l.length).all (lineAt s l)
theorem within_p (n lo hi:Int):PCalls Tryz.prog 70 [vi n,vi lo,vi hi] (·=vb (withinB n lo hi)):=by
 refine pcalls_of_aw Tryz.func70 rfl (dc rfl) ?_
 (repeat' (first|(refine ar_isq ?_;refine zq ?_)|refine zg ?_ ?_|refine zgu ?_|refine zst ?_|refine zco ?_ ?_|exact zd|(refine fun (hg:(_:Prop))=>?_;(try replace hg:=HG.out hg);(try dsimp only at hg);(try (have _h:True:=hg;clear _h hg)))))
 all_goals (refine aw_ret ?_;(repeat (first|refine ret_then ?_|refine ret_block ?_));refine bq1 rfl ⟨?_,rfl⟩)
 all_goals (simp only [vb,constV,withinB];congr 2;simp;try omega)
theorem checkSheet_p (s:Sheet):PCalls Tryz.prog 65 [s.enc] (·=vi s.err):=by
 refine pcalls_of_aw Tryz.func65 rfl (dc rfl) ?_
 (repeat' (first|(refine ar_isq ?_;refine zq ?_)|(refine zpv fn70 (within_p _ _ _) ?_)|refine zg ?_ ?_|refine zgu ?_|refine zst ?_|refine zco ?_ ?_|exact zd|(refine fun (hg:(_:Prop))=>?_;(try replace hg:=HG.out hg);(try dsimp only at hg);(try (have _h:True:=hg;clear _h hg)))))
 all_goals (refine aw_ret ?_;(repeat (first|refine ret_then ?_|refine ret_block ?_));refine bq1 rfl ⟨?_,rfl⟩)
 all_goals (simp only [vi,constV,Sheet.err,Sheet.ok];simp_all)
section
variable {H:Heap}{σ:List (Option Nat)}{fr:Nat→Prop}{α:Type}[Inhabited α]
theorem frz_as {b sz n N:Nat}{e:α→V}{l:List α}{f:Nat→V}(hf:fr b) (hb:H[b]?=some (.arr sz N f)) (hn:n=N) (hl:l.length=N) (hg:∀ i,i<N→f i=e (el l i)) (hc:∀ y,V.closed.all (e y).cells=true):VSub H σ fr (.sl sz b 0 n) (LV sz e l):=by
 subst hn hl
 exact .frz hf hb (by omega) (fun i hi=>by rw [hg i hi];exact hc _) (fun i hi=>by rw [Nat.zero_add];exact (hg i hi).symm)
end
theorem part_of_eq {agg:Bool}{x v v':V}{off size:Nat}(h:x=v) (hv:partV agg v.cells off size=some v'):partV agg x.cells off size=some v':=by subst h;exact hv
theorem upd_same {f:Nat→V}{i:Nat}{v:V}:upd f i v i=v:=by rw [upd_at,if_pos rfl]
theorem upd_other {f:Nat→V}{i j:Nat}{v:V}(h:j≠i):upd f i v j=f j:=by rw [upd_at,if_neg h]
section
variable {P:Program}{r:Option Nat}{m nt:Nat}{Q:Post}{env:Env}{H:Heap}{ops:Array Oper}{l:List Stp}{ty:TypeId}{pos:String}{after:Array Edge}{x y:Operand}{T E:TypeId}{d de:TyD}{i dst:Nat}{keep:Bool}
theorem ar_make_v {n:Nat}{kl kc:IntKind}{v v':Int}(ht:TyIs P T d) (hk:d.tk=.slice E) (he:TyIs P E de) (hx:eo env x=some (.s (.int kl v))) (hy:eo env y=some (.s (.int kc v'))) (hv:v=(n:Int)) (hv':v'=(n:Int)) (hd:dst<nt) (hok:(constV de.zero).ok=true) (hz:(constV de.zero).cells.length=de.size) (hb:de.bytes*n≤281474976710656) (hm:n≤maxLen)
  (h:AR P r m nt ops Q l ((dst,.sl de.size H.length 0 n)::env) (H++[.arr de.size n (fun _=>constV de.zero)])):AR P r m nt ops Q (.l i ⟨some dst,.makeSlice T x y,ty,pos,after,none⟩ keep::l) env H:=by
 subst hv hv'
 exact ar_make ht hk he hx hy hd hok hz hb hm h
end
section
variable {P:Program}{r:Option Nat}{m nt:Nat}{Q:Post}{env env':Env}{H H':Heap}{ops:Array Oper}{l:List Stp}{ty:TypeId}{pos:String}{after:Array Edge}{i dst:Nat}{op:Op}
theorem ar_sub_l (hs:SubOf m nt env H env' H') (h:AR P r m nt ops Q (.l i ⟨some dst,op,ty,pos,after,none⟩ false::l) env' H'):AR P r m nt ops Q (.l i ⟨some dst,op,ty,pos,after,none⟩ false::l) env H:=.mk fun X I ρ a w hX hst=>by
 obtain ⟨I',ρ',_,h2⟩:=hs.1 X I ρ a w hX hst
 have h3:=h.1 X I' ρ' a w hX h2
 refine ⟨fun hw=>?_,fun hw=>by rw [wanted_none rfl] at hw;cases hw⟩
 refine Oper.wpIn_mono (fun a' w' ⟨S',h4,_,h5⟩=>⟨S',h4,(fun h=>by cases h),h5⟩) (h3.1 hw)
end
section
variable {P:Program}{r:Option Nat}{m nt:Nat}{Q:Post}{env:Env}{H:Heap}{ops:Array Oper}{l:List Stp}{ty:TypeId}{pos:String}{after:Array Edge}{i:Nat}{T:TypeId}{d:TyD}{x y:Operand}
theorem putPart_one {x v:V}(h:∀ cs,x≠.agg cs):putPart x 0 v=v:=by
 unfold putPart
 split
 ·exact (h _ rfl).elim
 ·rfl
theorem ar_store_as {v:V}{sz b j n:Nat}{f:Nat→V}(g:Nat→V) (ht:TyIs P T d) (hx:eo env x=some (.ptr sz b j 0)) (hy:eo env y=some v) (hH:H[b]?=some (.arr sz n f)) (hok:v.ok=true) (hone:v.cells.all V.one=true)
  (hsz:v.cells.length=d.size) (hi:j<n) (hoff:0+d.size≤sz) (hv:∀ cs,v≠.agg cs) (hv1:v.cells.length=1) (hf1:(f j).cells.length=1) (hf:∀ cs,f j≠.agg cs) (hgj:g j=v) (hg:∀ i,i<n→i≠j→g i=f i) (h:AR P r m nt ops Q l env (H.set b (.arr sz n g))) :
  AR P r m nt ops Q (.l i ⟨none,.store T x y,ty,pos,after,none⟩ false::l) env H :=
 ar_l0 (ls_store_g ht hx hy hok hone hH hi hsz hoff (.inr ⟨rfl,hv1,hf1,hv⟩) (by rw [putPart_one hf,hgj]) hg) (fun v H' a=>by subst a;exact h) (fun _ _ h=>h.elim)
end
section
variable {X:Ctx}{I J K:Imm}{ρ:List (Option (Nat × Nat))}{H:Heap}{w w':World}
theorem WOk.grown {row:Option Nat}(h:WOk X I ρ H w) (hg:w.grownBy w' row) (hrow:∀ r,row=some r→X.w.heap.size≤r∧I r=Option.none∧∃ o:Obj,w.heap[r]?=some o∧o.isCells=false) (hm:∀ (k:Nat) m,H[k]?≠some (.map m)):WOk X I ρ H w':=by
  have blk:∀ b o,w.heap[b]?=some o→(row≠some b)→w'.heap[b]?=some o:=fun b o hb hr=>(hg.block b (Array.getElem?_eq_some_iff.1 hb).1 (Ne.symm hr)).trans hb
  exact { len:=h.len,inj:=h.inj
          imm:=fun b o hb=>blk b o (h.imm b o hb) fun e=>by rw [(hrow b e).2.1] at hb;cases hb
          apart:=h.apart,size:=h.size,none:=h.none
          arr:=fun k sz n f b z hk hρ=>by
            obtain ⟨cs,ty,h1,h2⟩:=h.arr k sz n f b z hk hρ
            exact ⟨cs,ty,blk b _ h1 (fun e=>by obtain ⟨_,_,o,h3,h4⟩:=hrow b e;rw [h1] at h3;cases h3;cases h4),h2⟩
          map:=fun k m hk=>(hm k m hk).elim
          mine:=h.mine,news:=h.news,le:=h.le,pre:=h.pre,os:=hg.os.trans h.os,tape:=hg.tape.trans h.tape,out:=hg.output.trans h.out,grow:=Nat.le_trans h.grow hg.size
          keep:=fun b hb hl=>(hg.block b (Nat.lt_of_lt_of_le hb h.grow) fun e=>by have:=(hrow b e.symm).1;omega).trans (h.keep b hb hl) }
theorem WOk.cut (h:WOk X I ρ H w) (hJ:J.le I) (hX:X.I.le J) (hc:∀ b cs ty fz,I b=some (.cells cs ty fz)→J b=some (.cells cs ty fz)):WOk X J ρ H w :=
  { len:=h.len,inj:=h.inj,imm:=fun b o hb=>h.imm b o (hJ b o hb)
    apart:=fun b hb=>by
      cases e:J b with
      | none=>rfl
      | some o=>have:=hJ b o e;rw [h.apart b hb] at this;cases this
    size:=h.size,none:=h.none
    arr:=fun k sz n f b z hk hρ=>by
      obtain ⟨cs,ty,h1,h2,h3,h4⟩:=h.arr k sz n f b z hk hρ
      exact ⟨cs,ty,h1,h2,h3,fun i j v hi hv=>by obtain ⟨u,h5,h6⟩:=h4 i j v hi hv;exact ⟨u,h5,h6.cut hc⟩⟩
    map:=fun k m hk=>by
      obtain ⟨b,h1,es,clk,h2,h3,h4⟩:=h.map k m hk
      exact ⟨b,h1,es,clk,h2,h3,fun i e x he hx=>⟨(h4 i e x he hx).1,(h4 i e x he hx).2.cut hc⟩⟩
    mine:=h.mine
    news:=fun b hb=>h.news b fun e=>by
      cases e':J b with
      | none=>exact hb e'
      | some o=>rw [hJ b o e'] at e;cases e
    le:=hX,pre:=h.pre,os:=h.os,tape:=h.tape,out:=h.out,grow:=h.grow,keep:=h.keep }
theorem WOk.more (h:WOk X I ρ H w) (hI:I.le J) (hJ:∀ b o,J b=some o→w.heap[b]?=some o) (hn:∀ b,J b≠Option.none→I b≠Option.none∨(X.w.heap.size≤b∧¬ Live H ρ b)):WOk X J ρ H w :=
  { len:=h.len,inj:=h.inj,imm:=hJ
    apart:=fun b hb=>by
      cases e:J b with
      | none=>rfl
      | some o =>
        rcases hn b (by rw [e];simp) with h1|h1
        · exact (h1 (h.apart b hb)).elim
        · exact (h1.2 hb).elim
    size:=h.size,none:=h.none
    arr:=fun k sz n f b z hk hρ=>(h.arr k sz n f b z hk hρ).mono hI (Pre.refl _) rfl
    map:=fun k m hk=>by
      obtain ⟨b,h1,h2⟩:=h.map k m hk
      exact ⟨b,h1,h2.mono hI (Pre.refl _) rfl⟩
    mine:=h.mine
    news:=fun b hb=>by
      rcases hn b hb with h1|h1
      · exact h.news b h1
      · exact .inr (.inl h1.1)
    le:=Imm.le_trans h.le hI,pre:=h.pre,os:=h.os,tape:=h.tape,out:=h.out,grow:=h.grow,keep:=h.keep }
theorem WOk.ctx (h:WOk X I ρ H w):WOk ⟨X.w,X.ρ,X.H,I,X.base⟩ I ρ H w :=
 { h with news:=fun _ hb=>.inl hb,le:=Imm.le_refl _ }
theorem WOk.unctx (h:WOk ⟨X.w,X.ρ,X.H,K,X.base⟩ I ρ H w) (hX:X.I.le K) (hn:∀ b,K b≠Option.none→X.I b≠Option.none∨X.w.heap.size≤b∨Live X.H X.ρ b):WOk X I ρ H w :=
  { h with le:=Imm.le_trans hX h.le
           news:=fun b hb=>by
            rcases h.news b hb with h1|h1
            · exact hn b h1
            · exact .inr h1 }
end
def setsE:List (Nat × Value)→Env→Env
 | [],env=>env
 | (p,v)::l,env=>setsE l ((p,.s v)::env)
def movesE (nt:Nat):List Oper→Env→Option Env
 | [],env=>some env
 | o::l,env=>match o.op,o.dst,o.guard with
  | .move x,some d,none=>bif Nat.blt d nt then (eo env x).bind fun v=>movesE nt l ((d,v)::env) else none
  | .assign x,some d,none=>bif Nat.blt d nt then (eo env x).bind fun v=>movesE nt l ((d,v)::env) else none
  | _,_,_=>none
def movesC (nt:Nat):Code→Env→Option Env
 | .skip,env=>some env
 | .region _ ops false,env=>movesE nt ops.toList env
 | .seq x y,env=>(movesC nt x env).bind (movesC nt y)
 | _,_=>none
section
variable {P:Program}{r:Option Nat}{I:Imm}{ρ:List (Option (Nat × Nat))}{nt:Nat}{env env':Env}{a:Act}{w:World}{ops:Array Oper}{Q:Exit→Act→World→Prop}
theorem env_sets:∀ (l:List (Nat × Value)) (env:Env) (t:Array Value),EnvOk I ρ nt env { tmps:=t,defers:=[] }→(∀ p∈l,p.1<nt)→EnvOk I ρ nt (setsE l env) { tmps:=l.foldl (fun t pv=>t.setIfInBounds pv.1 pv.2) t,defers:=[] }
 | [],_,_,h,_=>h
 | (p,v)::l,_,_,h,hp=>env_sets l _ _ (h.put (d:=p) (.s v) (hp (p,v) List.mem_cons_self)) (fun q hq=>hp q (List.mem_cons_of_mem _ hq))
theorem runP_moves:∀ (l:List Oper) (i:Nat) (env:Env) (a:Act),movesE nt l env=some env'→EnvOk I ρ nt env a→(∀ a',EnvOk I ρ nt env' a'→a'.defers=a.defers→Q .normal a' w)→runP P r ops Q (textPlan l i) (fun _=>True) a w
 | [],_,_,a,h,he,hk=>by cases h;exact hk a he rfl
 | o::l,i,env,a,h,he,hk=>by
  have step:∀ (x:Operand) (d:Nat) (v:V),o.dst=some d→o.guard=none→plainOp o.op=true→(∀ w',(execOp a.eval o).run P w'=.ok (.value (a.eval x)) w')→d<nt→eo env x=some v→movesE nt l ((d,v)::env)=some env'→runP P r ops Q (textPlan (o::l) i) (fun _=>True) a w:=by
   intro x d v hd hg hp hr hlt hx hm
   simp only [textPlan,hp,cond_true]
   refine ⟨fun _=>⟨a.eval x,fun w' _=>hr w',?_⟩,fun hw=>by rw [wanted_none hg] at hw;cases hw⟩
   rw [hd]
   exact runP_moves l (i+1) _ _ hm (he.put (eo_rel he hx) hlt) hk
  simp only [movesE] at h
  split at h
  ·rename_i x d ho hd hg
   cases hb:Nat.blt d nt<;>rw [hb] at h
   ·cases h
   ·obtain ⟨v,hv,hm⟩:=Option.bind_eq_some_iff.1 h
    exact step x d v hd hg (by rw [ho];rfl) (fun w'=>by simp [execOp,ho]) (by rwa [Nat.blt_eq] at hb) hv hm
  ·rename_i x d ho hd hg
   cases hb:Nat.blt d nt<;>rw [hb] at h
   ·cases h
   ·obtain ⟨v,hv,hm⟩:=Option.bind_eq_some_iff.1 h
    exact step x d v hd hg (by rw [ho];rfl) (fun w'=>by simp [execOp,ho]) (by rwa [Nat.blt_eq] at hb) hv hm
  ·cases h
theorem wp_moves {c:Code}(h:movesC nt c env=some env') (he:EnvOk I ρ nt env a) (hk:∀ a',EnvOk I ρ nt env' a'→a'.defers=a.defers→Q .normal a' w):c.wpIn (Fw r) 0 P Q a w:=by
 induction c generalizing env env' a Q with
 | skip=>cases h;exact wpIn_skip (hk a he rfl)
 | region id ops b =>
  cases b with
  | true=>cases h
  | false =>
   rw [show ops=ops.toList.toArray from (Array.toArray_toList).symm]
   exact region_text (fun _=>True) trivial (runP_moves ops.toList 0 env a h he hk)
 | seq x y ihx ihy =>
  obtain ⟨e1,h1,h2⟩:=Option.bind_eq_some_iff.1 h
  exact wpIn_seq (ihx h1 he fun a1 ha1 hd1=>ihy h2 ha1 fun a' ha' hd'=>hk a' ha' (hd'.trans hd1))
 | _=>cases h
end
def KpI (I:Imm) (W W':World):Prop:=∀ b o,I b=some o→W.heap[b]?=some o→W'.heap[b]?=some o
structure Iter (P:Program) (gf:FuncId) (vs:List V) (N:Nat) (el:Nat→List Value):Prop where
 out:∀ (I:Imm) us (l:Nat) (J:Nat→World→Prop) (W:World),(∀ b o,I b=some o→W.heap[b]?=some o)→VRels I [] vs us→(∀ k W W',J k W→W.grownBy W' none→J k W') →
  (∀ k W1,J k W1→k<N→YieldAt Fence.wide 0 P l (el k).toArray W1 fun e W'=>e=.returned (.bool true)∧J (k+1) W'∧KpI I W1 W')→J 0 W →
  CallsIn Fence.wide 1 P gf (#[.func (.yield l) #[] #[]]++us) W fun e W'=>(∃ v,e=.returned v)∧J N W'
def RangeQ (m nt:Nat) (G':Heap):Post
 | .normal,env,H=>SubOf m nt env H [] G'
 | _,_,_=>False
theorem aw_range {P:Program}{m nt:Nat}{Q:Post}{env:Env}{H:Heap}{g:Operand}{ps:Array Tmp}{assign body:Code}{gf:FuncId}{vs:List V}{N:Nat}{el:Nat→List Value}(G:Nat→Heap) (E1:Nat→Env)
  (hg:eo env g=some (.fn (.func gf) [] vs)) (hvs:V.closed.all vs=true) (hfn:FnOk P gf) (hit:Iter P gf vs N el) (hps:∀ k,k<N→(el k).length=ps.size) (hpn:∀ p∈ps.toList,p<nt)
  (hmv:∀ k,k<N→movesC nt assign (setsE (ps.toList.zip (el k)) env)=some (E1 k)) (hmaps:∀ (k b:Nat) ms,(G k)[b]?≠some (.map ms)) (h0:SubOf H.length nt env H [] (G 0))
  (round:∀ k lp,k<N→AW P (some lp) H.length nt body (RangeQ H.length nt (G (k+1))) (E1 k) (G k)) (hdone:Q .normal env (G N)):AW P none m nt (.rangeFunc g ps assign body) Q env H:=by
 classical
 refine ⟨fun X I ρ a w hX hst=>?_⟩
 obtain ⟨hE,hw,hD⟩:=hst
 refine (wpIn_wide (n:=0)).2 ((wpIn_wide (n:=2)).1 (wpIn_rangeFunc (F:=Fence.wide) ?_))
 intro fn hfn'
 have hIlt:∀ b o,I b=some o→b<w.heap.size:=fun b o hb=>(Array.getElem?_eq_some_iff.1 (hw.imm b o hb)).1
 have hgv:=eo_rel hE hg
 obtain ⟨lb,hev,hrel⟩:∃ lb,a.eval g=.func (.func gf) #[] lb∧VRels I [] vs lb:=by
  cases e:a.eval g<;>rw [e] at hgv<;>cases hgv
  rename_i us ws h1 h2 h3 h4
  have:us=#[]:=by cases us;simp at h1;simp [h1]
  subst this
  exact ⟨ws,rfl,h3,fun j v u hj hu=>(h4 j v u hj hu).close (closed_all hvs hj)⟩
 obtain ⟨rec,hrec⟩:∃ rec:LoopState→Option Code→Loop,rec=fun st pe=>{ state:=st,pending:=pe,fn,tmps:=a.tmps,params:=ps,assign,body,defers:=w.heap.size }:=⟨_,rfl⟩
 obtain ⟨W1,hW1⟩:∃ W1,(w.alloc (.deferred (some []))).alloc (.loop (rec .ready none))=W1:=⟨_,rfl⟩
 have hL1:W1.heap[w.heap.size+1]?=some (.loop (rec .ready none)):=by
  rw [← hW1];have:=World.alloc_heap_new (w.alloc (.deferred (some []))) (.loop (rec .ready none));rwa [World.size_alloc] at this
 have hK1:W1.heap[w.heap.size]?=some (.deferred (some [])):=by
  rw [← hW1];exact (Below.heap_alloc _ _ _ (by simp)).trans (World.alloc_heap_new w _)
 let Inv:Nat→World→Prop:=fun k W=>∃ I' ρ',WOk (Ctx.self w ρ H I) I' ρ' (G k) W∧∀ b o,I' b=some o→I b=some o∨o.isCells=true
 have invGrow:∀ k W W' row,Inv k W→W.grownBy W' row→(∀ r,row=some r→w.heap.size≤r∧∃ o:Obj,W.heap[r]?=some o∧o.isCells=false)→Inv k W':=by
  rintro k W W' row ⟨I',ρ',h1,h2⟩ hg hr
  refine ⟨I',ρ',h1.grown hg (fun r e=>?_) (hmaps k),h2⟩
  obtain ⟨h3,o,h4,h5⟩:=hr r e
  refine ⟨h3,?_,o,h4,h5⟩
  cases e':I' r with
  | none=>rfl
  | some o' =>
   have h6:=h1.imm r o' e'
   rw [h4] at h6;cases h6
   rcases h2 r _ e' with h7|h7
   ·have:=hIlt r _ h7;omega
   ·rw [h5] at h7;cases h7
 have cutInv:∀ k W I' ρ',WOk (Ctx.self w ρ H I) I' ρ' (G k) W→Inv k W:=fun k W I' ρ' h1=>by
  let I4:Imm:=fun b=>if I b=none∧(∀ o,I' b=some o→o.isCells=false) then none else I' b
  refine ⟨I4,ρ',h1.cut (fun b o hb=>?_) (fun b o hb=>?_) (fun b cs ty fz hb=>?_),fun b o hb=>?_⟩
  ·have hb:(if I b=none∧(∀ o,I' b=some o→o.isCells=false) then none else I' b)=some o:=hb
   split at hb
   ·cases hb
   ·exact hb
  ·show (if I b=none∧(∀ o,I' b=some o→o.isCells=false) then none else I' b)=some o
   have hb':I b=some o:=hb
   rw [if_neg (fun h=>by rw [hb'] at h;cases h.1)]
   exact h1.le b o hb
  ·show (if I b=none∧(∀ o,I' b=some o→o.isCells=false) then none else I' b)=_
   rw [if_neg (fun h=>by have:=h.2 _ hb;cases this)]
   exact hb
  ·have hb:(if I b=none∧(∀ o,I' b=some o→o.isCells=false) then none else I' b)=some o:=hb
   split at hb
   ·cases hb
   ·rename_i hno
    cases hI:I b with
    | none =>
     right
     cases ho:o.isCells with
     | true=>rfl
     | false=>exact (hno ⟨hI,fun o' ho'=>by rw [hb] at ho';cases ho';exact ho⟩).elim
    | some o2 =>
     have:=h1.le b o2 hI
     rw [hb] at this;cases this
     exact .inl rfl
 have hInv0:Inv 0 W1:=by
  have hself:St (Ctx.self w ρ H I) nt env H I ρ { a with defers:=[] } w:=⟨hE,hw.self,DOk.nil rfl⟩
  obtain ⟨I1,ρ1,hle,h2⟩:=h0.1 (Ctx.self w ρ H I) I ρ _ w hw.len hself
  have h3:=cutInv 0 w I1 ρ1 h2.2.1
  rw [← hW1]
  refine invGrow 0 _ _ none (invGrow 0 _ _ none h3 (World.grownBy_alloc _ _ none) (fun r e=>by cases e)) (World.grownBy_alloc _ _ none) (fun r e=>by cases e)
 refine ⟨w.heap.size+1,[{ target:=.collected w.heap.size,args:=#[] }],W1,{ target:=.fn (.func gf) lb,args:=#[.func (.yield (w.heap.size+1)) #[] #[]] },W1,gf,
  #[.func (.yield (w.heap.size+1)) #[] #[]]++lb,W1,?_,?_,?_,?_,fun _=>by omega,?_⟩
 ·rw [← hW1,hrec];exact run_enterLoop_outer _ _ _ _ _
 ·simp only [resolve,hev]
  simp [go_sem]
 ·intro f' hf';simp [Target.leads] at hf';subst hf';exact trivial
 ·have:=hfn
  simp only [FnOk] at this
  simp [invoke,go_sem,this]
 ·refine (hit.out I lb (w.heap.size+1) (fun k W=>Inv k W∧W.heap[w.heap.size+1]?=some (.loop (rec .ready none))∧W.heap[w.heap.size]?=some (.deferred (some []))) W1 ?_ hrel ?_ ?_ ⟨hInv0,hL1,hK1⟩).mono ?_
  ·intro b o hb
   have hlt:=hIlt b o hb
   rw [← hW1]
   exact (Below.heap_alloc _ _ _ (by simp;omega)).trans ((Below.heap_alloc _ _ _ hlt).trans (hw.imm b o hb))
  ·rintro k W W' ⟨h1,h2,h3⟩ hg
   refine ⟨invGrow k W W' none h1 hg (fun r e=>by cases e),?_,?_⟩
   ·exact (hg.block _ (Array.getElem?_eq_some_iff.1 h2).1 (by simp)).trans h2
   ·exact (hg.block _ (Array.getElem?_eq_some_iff.1 h3).1 (by simp)).trans h3
  · -- one round
   rintro k W ⟨hi,hl,hk⟩ hlen
   have hlt:w.heap.size+1<W.heap.size:=(Array.getElem?_eq_some_iff.1 hl).1
   have hy:=run_yield (P:=P) (args:=(el k).toArray) hl (by rw [hrec];simpa using hps k hlen)
   rw [hrec] at hy
   refine ⟨fn,_,assign,body,hy,roundIn_of_wpIn hfn' ?_⟩
   have hE1:EnvOk I ρ nt (setsE (ps.toList.zip (el k)) env) { tmps:=(ps.toList.zip (el k)).foldl (fun t pv=>t.setIfInBounds pv.1 pv.2) a.tmps,defers:=[] } :=
    env_sets _ _ _ hE fun p hp=>hpn p.1 (List.of_mem_zip hp).1
   have etmps:(ps.zip (el k).toArray).foldl (fun t (p,v)=>t.setIfInBounds p v) a.tmps=(ps.toList.zip (el k)).foldl (fun t pv=>t.setIfInBounds pv.1 pv.2) a.tmps:=by
    rw [← Array.foldl_toList,Array.toList_zip]
   refine wp_moves (r:=some (w.heap.size+1)) (I:=I) (ρ:=ρ) (hmv k hlen) (by rw [← etmps] at hE1;exact hE1) fun a' ha' hd'=>?_
   refine ⟨_,run_beginRound hl (by rw [hrec]),?_⟩
   obtain ⟨W2,hW2⟩:∃ W2,W.putObj (w.heap.size+1) (.loop { rec .ready none with state:=.busy })=W2:=⟨_,rfl⟩
   rw [hW2]
   have hl2:W2.heap[w.heap.size+1]?=some (.loop { rec .ready none with state:=.busy }):=by rw [← hW2];exact World.putObj_heap_same hlt
   have hk2:W2.heap[w.heap.size]?=some (.deferred (some [])):=by rw [← hW2];exact (World.putObj_heap_other (by omega)).trans hk
   obtain ⟨I',ρ',hwk,hcells⟩:Inv k W2:=by
    rw [← hW2]
    exact invGrow k W _ (some (w.heap.size+1)) hi (grownBy_putObj' W _ _) (fun r e=>by cases e;exact ⟨by omega,_,hl,rfl⟩)
   let I2:Imm:=fun b=>if I' b=none∧w.heap.size≤b∧(∃ o,W2.heap[b]?=some o∧o.isCells=false) then W2.heap[b]? else I' b
   have hle2:I'.le I2:=fun b o hb=>by
    show (if I' b=none∧w.heap.size≤b∧(∃ o,W2.heap[b]?=some o∧o.isCells=false) then W2.heap[b]? else I' b)=some o
    rw [if_neg (fun h=>by rw [hb] at h;cases h.1)]
    exact hb
   have notLive:∀ b o,W2.heap[b]?=some o→o.isCells=false→¬ Live (G k) ρ' b:=by
    rintro b o hb ho ⟨j,blk,h1,h2,z,h3⟩
    cases blk with
    | dead=>exact h2 rfl
    | map ms=>exact hmaps k j ms h1
    | arr sz n f =>
     obtain ⟨cs,ty,h4,_⟩:=hwk.arr _ _ _ _ _ _ h1 h3
     rw [hb] at h4;cases h4;cases ho
   have hwk2:WOk (Ctx.self w ρ H I) I2 ρ' (G k) W2:=hwk.more hle2 (fun b o hb=>by
     have hb:(if I' b=none∧w.heap.size≤b∧(∃ o,W2.heap[b]?=some o∧o.isCells=false) then W2.heap[b]? else I' b)=some o:=hb
     split at hb
     ·exact hb
     ·exact hwk.imm b o hb) (fun b hb=>by
     have hb:(if I' b=none∧w.heap.size≤b∧(∃ o,W2.heap[b]?=some o∧o.isCells=false) then W2.heap[b]? else I' b)≠none:=hb
     split at hb
     ·rename_i h
      obtain ⟨_,h1,o,h2,h3⟩:=h
      exact .inr ⟨h1,notLive b o h2 h3⟩
     ·exact .inl hb)
   have inI2:∀ b o,w.heap.size≤b→W2.heap[b]?=some o→o.isCells=false→I2 b=some o:=fun b o h1 h2 h3=>by
    show (if I' b=none∧w.heap.size≤b∧(∃ o,W2.heap[b]?=some o∧o.isCells=false) then W2.heap[b]? else I' b)=some o
    split
    ·exact h2
    ·rename_i hno
     cases e:I' b with
     | none=>exact (hno ⟨e,h1,o,h2,h3⟩).elim
     | some o'=>have:=hwk.imm b o' e;rw [h2] at this;cases this;rfl
   have hbody:=(round k (w.heap.size+1) hlen).1 ⟨w,ρ,H,I2,[]⟩ I2 ρ' a' W2 hw.len ⟨(ha'.mono hwk.le hwk.pre).mono hle2 (Pre.refl _),hwk2.ctx,DOk.nil hd'⟩
   refine wpIn_mono hbody fun e a3 W3 hq=>?_
   cases e with
   | normal =>
    obtain ⟨env3,H3,I3,ρ3,hst3,hsub⟩:=hq
    obtain ⟨I4,ρ4,_,hst4⟩:=hsub.1 ⟨w,ρ,H,I2,[]⟩ I3 ρ3 a3 W3 hw.len hst3
    have hw4:=hst4.2.1
    have hl3:W3.heap[w.heap.size+1]?=some (.loop { rec .ready none with state:=.busy }):=hw4.imm _ _ (hw4.le _ _ (inI2 _ _ (by omega) hl2 rfl))
    have hk3:W3.heap[w.heap.size]?=some (.deferred (some [])):=hw4.imm _ _ (hw4.le _ _ (inI2 _ _ (Nat.le_refl _) hk2 rfl))
    have hw5:WOk (Ctx.self w ρ H I) I4 ρ4 (G (k+1)) W3:=WOk.unctx (X:=Ctx.self w ρ H I) (K:=I2) hw4 (Imm.le_trans hwk.le hle2) fun b hb=>hwk2.news b hb
    have hinv:=cutInv (k+1) W3 I4 ρ4 hw5
    have hend:=run_endRound (P:=P) none hl3
    rw [hrec] at hend
    have hlt3:=(Array.getElem?_eq_some_iff.1 hl3).1
    refine ⟨_,_,hend,rfl,⟨?_,?_,?_⟩,?_⟩
    ·exact invGrow (k+1) W3 _ (some (w.heap.size+1)) hinv (grownBy_putObj' W3 _ _) (fun r e=>by cases e;exact ⟨by omega,_,hl3,rfl⟩)
    ·rw [hrec];exact World.putObj_heap_same hlt3
    ·exact (World.putObj_heap_other (by omega)).trans hk3
    ·intro b o hb hWb
     have hlt:=hIlt b o hb
     refine (World.putObj_heap_other (by omega)).trans (hw5.imm b o (hw5.le b o hb))
   | exit id=>obtain ⟨_,_,_,_,_,h⟩:=hq;exact h.elim
   | goto t=>obtain ⟨_,_,_,_,_,h⟩:=hq;exact h.elim
   | ret=>obtain ⟨_,_,_,_,_,h⟩:=hq;exact h.elim
   | panic c=>obtain ⟨_,_,_,_,_,_,_,_,_,h⟩:=hq;exact h.elim
   | outgrown=>exact hq.elim
  · -- behind the iterator
   rintro e W2 ⟨⟨v,rfl⟩,hi,hl,hk⟩
   have hend:=run_endLoop (P:=P) hl (by rw [hrec];simp)
   rw [hrec] at hend
   obtain ⟨o4,hend4⟩:∃ o4,(Instr.endLoop (w.heap.size+1)).run P W2=.ok none (W2.putObj (w.heap.size+1) o4):=⟨_,hend⟩
   refine ⟨none,_,hend4,?_⟩
   obtain ⟨I',ρ',h1,h2⟩:=invGrow N W2 _ (some (w.heap.size+1)) hi (grownBy_putObj' W2 _ o4) (fun r e=>by cases e;exact ⟨by omega,_,hl,rfl⟩)
   have hkk:(W2.putObj (w.heap.size+1) o4).heap[w.heap.size]?=some (.deferred (some [])):=(World.putObj_heap_other (by omega)).trans hk
   let I2:Imm:=fun b=>if b=w.heap.size then some (.deferred (some [])) else I' b
   have hIn:I' w.heap.size=none:=by
    cases e:I' w.heap.size with
    | none=>rfl
    | some o =>
     have h3:=h1.imm _ o e
     rw [hkk] at h3;cases h3
     rcases h2 _ _ e with h4|h4
     ·have:=hIlt _ _ h4;omega
     ·cases h4
   have hle2:I'.le I2:=fun b o hb=>by
    show (if b=w.heap.size then some (.deferred (some [])) else I' b)=some o
    rw [if_neg (fun e=>by subst e;rw [hIn] at hb;cases hb)]
    exact hb
   have h3:=h1.more hle2 (fun b o hb=>by
    have hb':(if b=w.heap.size then some (.deferred (some [])) else I' b)=some o:=hb
    clear hb
    split at hb'
    ·rename_i e;rw [e,← hb'];exact hkk
    ·exact h1.imm b o hb') (fun b hb=>by
    have hb:(if b=w.heap.size then some (Obj.deferred (some [])) else I' b)≠none:=hb
    split at hb
    ·rename_i e
     subst e
     refine .inr ⟨Nat.le_refl _,?_⟩
     rintro ⟨j,blk,g1,g2,z,g3⟩
     cases blk with
     | dead=>exact g2 rfl
     | map ms=>exact hmaps N j ms g1
     | arr sz n f =>
      obtain ⟨cs,ty,g4,_⟩:=h1.arr _ _ _ _ _ _ g1 g3
      rw [hkk] at g4;cases g4
    ·exact .inl hb)
   obtain ⟨Ds,d1,d2,d3⟩:=hD
   refine ⟨env,G N,I2,ρ',⟨hE.mono (Imm.le_trans h1.le hle2) h1.pre,hw.trans h3,w.heap.size::Ds,?_,?_,?_⟩,hdone⟩
   ·rw [List.nodup_cons]
    exact ⟨fun hd=>by have:=hIlt _ _ (d3 _ hd).2;omega,d1⟩
   ·show [_]++a.defers=_
    rw [d2];rfl
   ·intro D hD
    rcases List.mem_cons.1 hD with e|e
    ·subst e
     refine ⟨hw.grow,?_⟩
     show (if w.heap.size=w.heap.size then some (Obj.deferred (some [])) else _)=_
     rw [if_pos rfl]
    ·exact ⟨(d3 D e).1,hle2 _ _ (h1.le _ _ (d3 D e).2)⟩
end Go.Proofs.YtbilpbabdgfblaaGreat
