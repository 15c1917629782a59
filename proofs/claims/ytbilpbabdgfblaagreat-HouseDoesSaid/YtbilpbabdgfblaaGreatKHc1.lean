/- Parts of the proof: a layer of values over the model, and contracts of functions. No condition. -/
import Derived.WalkKit
import Derived.OrdersIn
import Derived.RangeFuncIn
import Derived.RangeFuncLeaves
import Derived.RangeFuncNested
import Derived.Below
import Derived.Laws.AppendOwn
import Derived.Laws.MakeOwn
import Derived.Laws.CopyRow
import Derived.Laws.StructEq
import Derived.Laws.CopyOwn
import Derived.Test.YtbilpbabdgfblaaGreatChecked
import Derived.KernelRfl
import Derived.Test.YtbilpbabdgfblaaGreatRows
import Derived.ProofKit
import Derived.OpenShut
import Derived.ChangeOld
import Derived.Deep.Slices
import Derived.Laws.Cover3
import Derived.RecoverIn
import Derived.Shelf.Spec.SlicesInsert
import Derived.Shelf.Spec.SlicesInsertGrow
import Derived.ChangeKeysEq
set_option maxHeartbeats 16000000
set_option linter.unusedSimpArgs false
set_option linter.unusedVariables false
namespace Go.Proofs.YtbilpbabdgfblaaGreat
open Go.RowKit
/-- A value by what it says: a scalar avs it is; a slice that nobody writes avs its elements; memory of our own by its number. -/
inductive V where
  | s (v:Value)
  | emp
  | agg (cs:List V)
  | tup (cs:List V)
  | list (sz n:Nat) (f:Nat→V)
  | sl (sz b i n:Nat)
  | ptr (sz b i off:Nat)
  | ref (v:V) (off:Nat)
  | fn (f:Fn) (first cap:List V)
  | iface (t:TypeId) (v:V)
  | map (b:Nat)
instance:Inhabited V:=⟨.emp⟩
def V.cells:V→List V
  | .agg cs=>cs
  | v=>[v]
def capMax:Option Addr→Nat
  | none=>0
  | some _=>maxLen
abbrev Imm:=Nat→Option Obj
def Imm.le (I J:Imm):Prop:=∀ b o,I b=some o→J b=some o
def Pre (ρ σ:List (Option (Nat × Nat))):Prop:=∀ (k:Nat) x,ρ[k]?=some x→σ[k]?=some x
theorem Pre.refl (ρ:List (Option (Nat × Nat))):Pre ρ ρ:=fun _ _ h=>h
theorem Pre.trans {ρ σ τ:List (Option (Nat × Nat))}(h:Pre ρ σ) (k:Pre σ τ):Pre ρ τ:=fun i x a=>k i x (h i x a)
theorem Imm.le_refl (I:Imm):I.le I:=fun _ _ h=>h
theorem Imm.le_trans {I J K:Imm}(h:I.le J) (k:J.le K):I.le K:=fun b o a=>k b o (h b o a)
def Lies (I:Imm) (b off n:Nat) (us:Nat→Value):Prop:=∃ cs ty fz,I b=some (.cells cs ty fz)∧∀ j,j<n→cs[off+j]?=some (us j)
/-- A value of Go's and what it says. 'ρ': where our own blocks lie ('none': nowhere yet). -/
inductive VRel (I:Imm):List (Option (Nat × Nat))→V→Value→Prop
  | s {ρ} (v:Value):VRel I ρ (.s v) v
  | emp {ρ} (A:Option Addr):VRel I ρ .emp (.slice A 0 0)
  | agg {ρ} {cs:List V} {us:Array Value} (h:us.size=cs.length) (hv:∀ (j:Nat) v u,cs[j]?=some v→us[j]?=some u→VRel I ρ v u):VRel I ρ (.agg cs) (.agg us)
  | tup {ρ} {cs:List V} {us:Array Value} (h:us.size=cs.length) (hv:∀ (j:Nat) v u,cs[j]?=some v→us[j]?=some u→VRel I ρ v u):VRel I ρ (.tup cs) (.tuple us)
  | list {ρ} {sz n:Nat} {f:Nat→V} {A:Option Addr} {c:Nat} {us:Nat→Nat→Value} (hc:n≤c) (hm:c≤capMax A)
      (hl:0<n→∃ b off,A=some ⟨b,off,none⟩∧∀ i,i<n→Lies I b (off+i*sz) sz (us i))
      (hsz:∀ i,i<n→(f i).cells.length=sz) (hv:∀ (i j:Nat) v,i<n→(f i).cells[j]?=some v→VRel I [] v (us i j)):VRel I ρ (.list sz n f) (.slice A n c)
  | sl {ρ} {sz b i n cb z c:Nat} (hb:ρ[b]?=some (some (cb,z))) (hc:n≤c) (hm:c≤maxLen) (hz:(i+c)*sz≤z):VRel I ρ (.sl sz b i n) (.slice (some ⟨cb,i*sz,none⟩) n c)
  | slNone {ρ} {sz b:Nat} (A:Option Addr) (hb:ρ[b]?=some none):VRel I ρ (.sl sz b 0 0) (.slice A 0 0)
  | ptr {ρ} {sz b i off cb z:Nat} (hb:ρ[b]?=some (some (cb,z))):VRel I ρ (.ptr sz b i off) (.pointer (some ⟨cb,i*sz+off,none⟩))
  | ref {ρ} {v:V} {off b o:Nat} {us:Nat→Value} (hl:Lies I b o v.cells.length us) (hv:∀ (j:Nat) x,v.cells[j]?=some x→VRel I [] x (us j)):VRel I ρ (.ref v off) (.pointer (some ⟨b,o+off,none⟩))
  | fn {ρ} {f:Fn} {first cap:List V} {us vs:Array Value} (h:us.size=first.length) (hv:∀ (j:Nat) v u,first[j]?=some v→us[j]?=some u→VRel I ρ v u)
      (h':vs.size=cap.length) (hv':∀ (j:Nat) v u,cap[j]?=some v→vs[j]?=some u→VRel I ρ v u):VRel I ρ (.fn f first cap) (.func f us vs)
  | iface {ρ} {t:TypeId} {v:V} {u:Value} (h:VRel I ρ v u):VRel I ρ (.iface t v) (.iface t u)
  | map {ρ} {b cb z:Nat} (hb:ρ[b]?=some (some (cb,z))):VRel I ρ (.map b) (.map (some cb))
theorem Lies.mono {I J:Imm}{b off n:Nat}{us:Nat→Value}(h:Lies I b off n us) (hI:I.le J):Lies J b off n us:=by
  obtain ⟨cs,ty,fz,h1,h2⟩:=h
  exact ⟨cs,ty,fz,hI _ _ h1,h2⟩
theorem VRel.mono {I J:Imm}{ρ σ:List (Option (Nat × Nat))}{v:V}{u:Value}(h:VRel I ρ v u) (hI:I.le J) (hρ:Pre ρ σ):VRel J σ v u:=by
  induction h generalizing σ with
  | s v=>exact .s v
  | emp A=>exact .emp A
  | agg h _ ih=>exact .agg h fun j v u a b=>ih j v u a b hρ
  | tup h _ ih=>exact .tup h fun j v u a b=>ih j v u a b hρ
  | list hc hm hl hsz _ ih =>
    refine .list hc hm (fun h0=>?_) hsz fun i j v a b=>ih i j v a b (Pre.refl _)
    obtain ⟨b,off,e,k⟩:=hl h0
    exact ⟨b,off,e,fun i hi=>(k i hi).mono hI⟩
  | sl hb hc hm hz=>exact .sl (hρ _ _ hb) hc hm hz
  | slNone A hb=>exact .slNone A (hρ _ _ hb)
  | ptr hb=>exact .ptr (hρ _ _ hb)
  | ref hl _ ih=>exact .ref (hl.mono hI) fun j x a=>ih j x a (Pre.refl _)
  | fn h _ h' _ ih ih'=>exact .fn h (fun j v u a b=>ih j v u a b hρ) h' (fun j v u a b=>ih' j v u a b hρ)
  | iface _ ih=>exact .iface (ih hρ)
  | map hb=>exact .map (hρ _ _ hb)
theorem VRel.closed {I:Imm}{ρ:List (Option (Nat × Nat))}{v:V}{u:Value}(h:VRel I [] v u):VRel I ρ v u:=h.mono (Imm.le_refl _) (fun k x h=>by simp at h)
theorem VRel.list_inv {I:Imm}{ρ:List (Option (Nat × Nat))}{sz n:Nat}{f:Nat→V}{u:Value}(h:VRel I ρ (.list sz n f) u) :
    ∃ (A:Option Addr) (c:Nat) (us:Nat→Nat→Value),u=.slice A n c∧n≤c∧c≤capMax A∧(0<n→∃ b off,A=some ⟨b,off,none⟩∧∀ i,i<n→Lies I b (off+i*sz) sz (us i)) ∧
      (∀ i,i<n→(f i).cells.length=sz)∧∀ (i j:Nat) v,i<n→(f i).cells[j]?=some v→VRel I [] v (us i j):=by
  cases h with
  | list hc hm hl hsz hv=>exact ⟨_,_,_,rfl,hc,hm,hl,hsz,hv⟩
theorem VRel.ptr_inv {I:Imm}{ρ:List (Option (Nat × Nat))}{sz b i off:Nat}{u:Value}(h:VRel I ρ (.ptr sz b i off) u):∃ cb z,u=.pointer (some ⟨cb,i*sz+off,none⟩)∧ρ[b]?=some (some (cb,z)):=by
  cases h with
  | ptr hb=>exact ⟨_,_,rfl,hb⟩
theorem VRel.sl_inv {I:Imm}{ρ:List (Option (Nat × Nat))}{sz b i n:Nat}{u:Value}(h:VRel I ρ (.sl sz b i n) u) :
    (∃ cb z c,u=.slice (some ⟨cb,i*sz,none⟩) n c∧ρ[b]?=some (some (cb,z))∧n≤c∧c≤maxLen∧(i+c)*sz≤z)∨(∃ A,u=.slice A 0 0∧ρ[b]?=some none∧i=0∧n=0):=by
  cases h with
  | sl hb hc hm hz=>exact .inl ⟨_,_,_,rfl,hb,hc,hm,hz⟩
  | slNone A hb=>exact .inr ⟨A,rfl,hb,rfl,rfl⟩
theorem VRel.cells {I:Imm}{ρ:List (Option (Nat × Nat))}{v:V}{u:Value}(h:VRel I ρ v u) (hn:∀ cs,v=.s (.agg cs)→False) :
    u.cells.size=v.cells.length∧∀ (j:Nat) x y,v.cells[j]?=some x→u.cells[j]?=some y→VRel I ρ x y:=by
  cases h with
  | agg h hv=>exact ⟨h,hv⟩
  | s =>
    have:u.cells=#[u]:=by cases u<;>first|rfl|exact (hn _ rfl).elim
    rw [this]
    refine ⟨rfl,fun j x y hx hy=>?_⟩
    cases j with
    | zero=>simp [V.cells] at hx hy;subst hx hy;exact .s _
    | succ j=>simp [V.cells] at hx
  | emp A=>refine ⟨rfl,fun j x y hx hy=>?_⟩;cases j<;>simp [V.cells,Value.cells] at hx hy;subst hx hy;exact .emp A
  | tup h hv=>refine ⟨rfl,fun j x y hx hy=>?_⟩;cases j<;>simp [V.cells,Value.cells] at hx hy;subst hx hy;exact .tup h hv
  | list a b c d e=>refine ⟨rfl,fun j x y hx hy=>?_⟩;cases j<;>simp [V.cells,Value.cells] at hx hy;subst hx hy;exact .list a b c d e
  | sl a b c d=>refine ⟨rfl,fun j x y hx hy=>?_⟩;cases j<;>simp [V.cells,Value.cells] at hx hy;subst hx hy;exact .sl a b c d
  | slNone A a=>refine ⟨rfl,fun j x y hx hy=>?_⟩;cases j<;>simp [V.cells,Value.cells] at hx hy;subst hx hy;exact .slNone A a
  | ptr a=>refine ⟨rfl,fun j x y hx hy=>?_⟩;cases j<;>simp [V.cells,Value.cells] at hx hy;subst hx hy;exact .ptr a
  | ref a b=>refine ⟨rfl,fun j x y hx hy=>?_⟩;cases j<;>simp [V.cells,Value.cells] at hx hy;subst hx hy;exact .ref a b
  | fn a b c d=>refine ⟨rfl,fun j x y hx hy=>?_⟩;cases j<;>simp [V.cells,Value.cells] at hx hy;subst hx hy;exact .fn a b c d
  | iface a=>refine ⟨rfl,fun j x y hx hy=>?_⟩;cases j<;>simp [V.cells,Value.cells] at hx hy;subst hx hy;exact .iface a
  | map a=>refine ⟨rfl,fun j x y hx hy=>?_⟩;cases j<;>simp [V.cells,Value.cells] at hx hy;subst hx hy;exact .map a
/-- A block of our own. -/
inductive Blk where
  | arr (sz n:Nat) (f:Nat→V)
  | map (m:List (Value × V))
  | dead
instance:Inhabited Blk:=⟨.dead⟩
abbrev Heap:=List Blk
abbrev Env:=List (Nat × V)
def look:Env→Nat→Option V
  | [],_=>none
  | (k,v)::e,t=>bif Nat.beq k t then some v else look e t
theorem look_cons (k:Nat) (v:V) (e:Env) (t:Nat):look ((k,v)::e) t=if k=t then some v else look e t:=by
  simp only [look]
  by_cases h:k=t
  · subst h;simp
  · have:Nat.beq k t=false:=by cases e:Nat.beq k t with|false=>rfl|true=>exact (h (Nat.eq_of_beq_eq_true e)).elim
    simp [this,h]
structure Ctx where
  w:World
  ρ:List (Option (Nat × Nat))
  H:Heap
  I:Imm
  base:List Deferred
def Live (H:Heap) (ρ:List (Option (Nat × Nat))) (b:Nat):Prop:=∃ (k:Nat) (blk:Blk),H[k]?=some blk∧blk≠.dead∧∃ z,ρ[k]?=some (some (b,z))
def ArrRel (I:Imm) (ρ:List (Option (Nat × Nat))) (w:World) (b z sz n:Nat) (f:Nat→V):Prop :=
  ∃ cs ty,w.heap[b]?=some (.cells cs ty (0,0))∧cs.size=z∧n*sz≤z∧∀ (i j:Nat) v,i<n→(f i).cells[j]?=some v→∃ u,cs[i*sz+j]?=some u∧VRel I ρ v u
def MapRel (I:Imm) (ρ:List (Option (Nat × Nat))) (w:World) (b:Nat) (m:List (Value × V)):Prop :=
  ∃ es clock,w.heap[b]?=some (.map es clock)∧es.size=m.length∧∀ (i:Nat) e x,es[i]?=some e→m[i]?=some x→e.key=x.1∧VRel I ρ x.2 e.val
structure WOk (X:Ctx) (I:Imm) (ρ:List (Option (Nat × Nat))) (H:Heap) (w:World):Prop where
  len:ρ.length=H.length
  inj:∀ (i j b:Nat),(∃ x:Blk,H[i]?=some x∧x≠.dead)→(∃ x:Blk,H[j]?=some x∧x≠.dead)→∀ y z,ρ[i]?=some (some (b,y))→ρ[j]?=some (some (b,z))→i=j
  imm:∀ b o,I b=some o→w.heap[b]?=some o
  apart:∀ b,Live H ρ b→I b=none
  size:∀ (k sz n:Nat) (f:Nat→V),H[k]?=some (.arr sz n f)→∀ i:Nat,i<n→(f i).cells.length=sz
  none:∀ (k sz n:Nat) (f:Nat→V),H[k]?=some (.arr sz n f)→ρ[k]?=some none→n=0
  arr:∀ (k sz n:Nat) (f:Nat→V) (b z:Nat),H[k]?=some (.arr sz n f)→ρ[k]?=some (some (b,z))→ArrRel I ρ w b z sz n f
  map:∀ (k:Nat) (m:List (Value × V)),H[k]?=some (.map m)→∃ b,ρ[k]?=some (some (b,0))∧MapRel I ρ w b m
  mine:∀ b,Live H ρ b→X.w.heap.size≤b∨Live X.H X.ρ b
  news:∀ b,I b≠Option.none→X.I b≠Option.none∨X.w.heap.size≤b∨Live X.H X.ρ b
  le:X.I.le I
  pre:Pre X.ρ ρ
  os:w.os=X.w.os
  tape:w.tape=X.w.tape
  out:w.output=X.w.output
  grow:X.w.heap.size≤w.heap.size
  keep:∀ b,b<X.w.heap.size→¬ Live X.H X.ρ b→w.heap[b]?=X.w.heap[b]?
def EnvOk (I:Imm) (ρ:List (Option (Nat × Nat))) (nt:Nat) (env:Env) (a:Act):Prop :=
  a.tmps.size=nt∧∀ t v,look env t=some v→t<nt∧VRel I ρ v (a.tmps.getD t undef)
theorem EnvOk.mono {I J:Imm}{ρ σ:List (Option (Nat × Nat))}{nt:Nat}{env:Env}{a:Act}(h:EnvOk I ρ nt env a) (hI:I.le J) (hρ:Pre ρ σ):EnvOk J σ nt env a :=
  ⟨h.1,fun t v hv=>⟨(h.2 t v hv).1,(h.2 t v hv).2.mono hI hρ⟩⟩
theorem EnvOk.put {I:Imm}{ρ:List (Option (Nat × Nat))}{nt:Nat}{env:Env}{a:Act}(h:EnvOk I ρ nt env a) {d:Nat}{v:V}{u:Value}(hv:VRel I ρ v u) (hd:d<nt):EnvOk I ρ nt ((d,v)::env) (a.put (some d) u):=by
  refine ⟨by simp [Act.put,h.1],fun t x hx=>?_⟩
  rw [look_cons] at hx
  by_cases e:d=t
  · subst e
    rw [if_pos rfl] at hx
    cases hx
    have:d<a.tmps.size:=by rw [h.1];exact hd
    exact ⟨hd,by simpa [Act.put,this] using hv⟩
  · rw [if_neg e] at hx
    obtain ⟨h1,h2⟩:=h.2 t x hx
    refine ⟨h1,?_⟩
    have e1:(a.put (some d) u).tmps.getD t undef=a.tmps.getD t undef:=by simp [Act.put,Array.getElem?_setIfInBounds_ne e]
    rw [e1]
    exact h2
def constV:Value→V
  | .agg cs=>.agg (cs.toList.map .s)
  | v=>.s v
def eo (env:Env):Operand→Option V
  | .tmp t=>look env t
  | .const v=>some (constV v)
  | .func f=>some (.fn (.func f) [] [])
  | .global _=>none
theorem constV_rel (I:Imm) (ρ:List (Option (Nat × Nat))) (v:Value):VRel I ρ (constV v) v:=by
  cases v<;>first|exact .s _|skip
  rename_i cs
  refine .agg (by simp) fun j x u hx hu=>?_
  simp only [List.getElem?_map,Array.getElem?_toList] at hx
  rw [hu] at hx
  cases hx
  exact .s _
theorem eo_rel {I:Imm}{ρ:List (Option (Nat × Nat))}{nt:Nat}{env:Env}{a:Act}(h:EnvOk I ρ nt env a) {x:Operand}{v:V}(hx:eo env x=some v):VRel I ρ v (a.eval x):=by
  cases x with
  | tmp t=>exact (h.2 t v hx).2
  | const c=>cases hx;exact constV_rel _ _ _
  | func f=>cases hx;exact .fn rfl (fun _ _ _ a=>by simp at a) rfl (fun _ _ _ a=>by simp at a)
  | global g=>cases hx
def Keeps (I:Imm) (ρ:List (Option (Nat × Nat))) (H:Heap) (w w':World):Prop :=
  (∀ b o,I b=some o→w'.heap[b]?=some o) ∧
  (∀ (k sz n:Nat) (f:Nat→V) (b z:Nat),H[k]?=some (.arr sz n f)→ρ[k]?=some (some (b,z))→∀ o,o<n*sz→w'.cell? ⟨b,o,none⟩=w.cell? ⟨b,o,none⟩) ∧
  (∀ (k:Nat) (m:List (Value × V)) (b z:Nat),H[k]?=some (.map m)→ρ[k]?=some (some (b,z))→w'.heap[b]?=w.heap[b]?)
theorem Keeps.refl {X:Ctx}{I:Imm}{ρ:List (Option (Nat × Nat))}{H:Heap}{w:World}(h:WOk X I ρ H w):Keeps I ρ H w w:=⟨h.imm,fun _ _ _ _ _ _ _ _ _ _=>rfl,fun _ _ _ _ _ _=>rfl⟩
structure QS (P:Program) (nt:Nat) (env:Env) (H:Heap) (o:Oper) (v:V):Prop where
  out:∀ X I ρ a w,EnvOk I ρ nt env a→WOk X I ρ H w→∃ u,VRel I ρ v u∧∀ w',Keeps I ρ H w w'→(execOp a.eval o).run P w'=.ok (.value u) w'
/-- What a type is. -/
inductive TK where
  | int (k:IntKind)
  | bool
  | slice (e:TypeId)
  | array (n:Nat) (e:TypeId)
  | struct (fs:List (TypeId × Nat))
  | ptr (e:TypeId)
  | map (k e:TypeId)
  | iface (bare:Bool)
  | func
  | other
def TK.of:TypeDesc→TK
  | .int k=>.int k
  | .bool=>.bool
  | .slice e=>.slice e
  | .array n e=>.array n e
  | .struct fs=>.struct (fs.toList.map fun f=>(f.type,f.offset))
  | .pointer e=>.ptr e
  | .map k e=>.map k e
  | .interface ms=>.iface ms.isEmpty
  | .func _ _ _=>.func
  | _=>.other
def TK.agg:TK→Bool
  | .array _ _=>true
  | .struct _=>true
  | _=>false
structure TyD where
  tk:TK
  size:Nat
  bytes:Nat
  zero:Value
structure TyIs (P:Program) (T:TypeId) (d:TyD):Prop where
  und:(P.underlying T).map TK.of=some d.tk
  info:(P.info? T).map (fun i=>(i.size,i.bytes,i.zero))=some (d.size,d.bytes,some d.zero)
section
variable {P:Program}{T:TypeId}{d:TyD}{w:World}
theorem TyIs.desc (h:TyIs P T d):∃ t,P.underlying T=some t∧TK.of t=d.tk:=by
  have:=h.und
  cases hu:P.underlying T with
  | none=>rw [hu] at this;cases this
  | some t=>rw [hu] at this;exact ⟨t,rfl,by simpa using this⟩
theorem TyIs.inf (h:TyIs P T d):∃ i,P.info? T=some i∧i.size=d.size∧i.bytes=d.bytes∧i.zero=some d.zero:=by
  have:=h.info
  cases hu:P.info? T with
  | none=>rw [hu] at this;cases this
  | some i=>rw [hu] at this;simp only [Option.map_some,Option.some.injEq,Prod.mk.injEq] at this;exact ⟨i,rfl,this.1,this.2.1,this.2.2⟩
theorem run_underlying {t:TypeDesc}(h:P.underlying T=some t):(underlying T).run P w=.ok t w:=by simp [underlying,h]
theorem TyIs.sizeOf (h:TyIs P T d):(Go.sizeOf T).run P w=.ok d.size w:=by
  obtain ⟨i,hi,hs,_⟩:=h.inf
  simp [Go.sizeOf,typeInfo,hi,hs]
theorem TyIs.isAgg (h:TyIs P T d):(Go.isAgg T).run P w=.ok d.tk.agg w:=by
  obtain ⟨t,ht,hk⟩:=h.desc
  simp only [Go.isAgg,Sem.run_bind,run_underlying ht,Result.andThen_ok]
  rw [← hk]
  cases t<;>rfl
theorem TyIs.zeroV (h:TyIs P T d):(zeroValue T).run P w=.ok d.zero w:=by
  obtain ⟨i,hi,_,_,hz⟩:=h.inf
  simp [zeroValue,typeInfo,hi,hz]
theorem TyIs.slice {e:TypeId}(h:TyIs P T d) (hk:d.tk=.slice e):P.underlying T=some (.slice e):=by
  obtain ⟨t,ht,hk'⟩:=h.desc
  rw [hk] at hk'
  cases t<;>simp [TK.of] at hk'
  rw [ht,hk']
theorem TyIs.arr {n:Nat}{e:TypeId}(h:TyIs P T d) (hk:d.tk=.array n e):P.underlying T=some (.array n e):=by
  obtain ⟨t,ht,hk'⟩:=h.desc
  rw [hk] at hk'
  cases t<;>simp [TK.of] at hk'
  rw [ht,hk'.1,hk'.2]
theorem TyIs.map {k e:TypeId}(h:TyIs P T d) (hk:d.tk=.map k e):P.underlying T=some (.map k e):=by
  obtain ⟨t,ht,hk'⟩:=h.desc
  rw [hk] at hk'
  cases t<;>simp [TK.of] at hk'
  rw [ht,hk'.1,hk'.2]
theorem TyIs.intk {k:IntKind}(h:TyIs P T d) (hk:d.tk=.int k):P.underlying T=some (.int k):=by
  obtain ⟨t,ht,hk'⟩:=h.desc
  rw [hk] at hk'
  cases t<;>simp [TK.of] at hk'
  rw [ht,hk']
theorem TyIs.boolk (h:TyIs P T d) (hk:d.tk=.bool):P.underlying T=some .bool:=by
  obtain ⟨t,ht,hk'⟩:=h.desc
  rw [hk] at hk'
  cases t<;>simp [TK.of] at hk'
  exact ht
theorem TyIs.ptrk {e:TypeId}(h:TyIs P T d) (hk:d.tk=.ptr e):P.underlying T=some (.pointer e):=by
  obtain ⟨t,ht,hk'⟩:=h.desc
  rw [hk] at hk'
  cases t<;>simp [TK.of] at hk'
  rw [ht,hk']
theorem TyIs.field {fs:List (TypeId × Nat)}{k o:Nat}{E:TypeId}(h:TyIs P T d) (hk:d.tk=.struct fs) (hf:fs[k]?=some (E,o)) :
    ∃ (fields:Array Field) (f:Field),P.underlying T=some (.struct fields)∧fields[k]?=some f∧f.type=E∧f.offset=o:=by
  obtain ⟨t,ht,hk'⟩:=h.desc
  rw [hk] at hk'
  cases t<;>simp [TK.of] at hk'
  rename_i fields
  subst hk'
  simp only [List.getElem?_map,Array.getElem?_toList] at hf
  cases hg:fields[k]? with
  | none=>rw [hg] at hf;cases hf
  | some f =>
    rw [hg] at hf
    simp only [Option.map_some,Option.some.injEq,Prod.mk.injEq] at hf
    exact ⟨fields,f,ht,hg,hf.1,hf.2⟩
theorem loadCellsFrom_run {a:Addr}:∀ (n i:Nat) (acc:Array Value) (us:Nat→Value),(∀ j,j<n→w.cell? (a.add (i+j))=some (us j)) →
    (loadCellsFrom a i n acc).run P w=.ok (acc++((List.range n).map us).toArray) w
  | 0,i,acc,us,_=>by simp [loadCellsFrom]
  | n+1,i,acc,us,h=>by
    have h0:=h 0 (by omega)
    have ih:=loadCellsFrom_run n (i+1) (acc.push (us 0)) (fun j=>us (j+1)) (fun j hj=>by have:=h (j+1) (by omega);rwa [show i+1+j=i+(j+1) by omega])
    simp only [loadCellsFrom,Sem.run_bind,run_load]
    rw [Nat.add_zero] at h0
    simp only [h0,Result.andThen_ok,ih]
    congr 1
    rw [List.range_succ_eq_map]
    have e:∀ (l:List Value),acc.push (us 0)++l.toArray=acc++(us 0::l).toArray:=fun l=>by
      apply Array.ext_getElem?
      intro k
      simp only [Array.getElem?_append,Array.size_push,Array.getElem?_push]
      by_cases h1:k<acc.size
      · simp [h1,show k<acc.size+1 by omega,show k≠acc.size by omega]
      · by_cases h2:k=acc.size
        · subst h2;simp
        · rw [if_neg (by omega),if_neg (by omega),show k-acc.size=(k-(acc.size+1))+1 by omega];simp
    simp only [List.map_cons,List.map_map]
    rw [e]
    rfl
theorem loadCells_run {a:Addr}{n:Nat}{us:Nat→Value}(h:∀ j,j<n→w.cell? (a.add j)=some (us j)):(loadCells a n).run P w=.ok ((List.range n).map us).toArray w:=by
  unfold loadCells
  rw [loadCellsFrom_run n 0 #[] us (fun j hj=>by rw [Nat.zero_add];exact h j hj)]
  simp
def partV (agg:Bool) (cs:List V) (off size:Nat):Option V :=
  match agg with
  | true=>bif Nat.ble (off+size) cs.length then some (.agg ((cs.drop off).take size)) else none
  | false=>cs[off]?
theorem loadAt_run {I:Imm}{ρ:List (Option (Nat × Nat))}(h:TyIs P T d) {cs:List V}{us:Nat→Value}(hr:∀ (j:Nat) x,cs[j]?=some x→VRel I ρ x (us j)) {off:Nat}{v:V}(hv:partV d.tk.agg cs off d.size=some v) (b o:Nat) :
    ∃ u,VRel I ρ v u∧∀ w:World,(∀ j,j<cs.length→w.cell? ⟨b,o+j,none⟩=some (us j))→(Instr.loadAt T (.pointer (some ⟨b,o+off,none⟩))).run P w=.ok u w:=by
  cases ha:d.tk.agg
  · rw [ha] at hv
    have hv':cs[off]?=some v:=hv
    refine ⟨us off,hr _ _ hv',fun w hw=>?_⟩
    simp only [Instr.loadAt,Instr.sureAddr,loadVar,Sem.run_bind,Sem.run_pure,Result.andThen_ok,h.isAgg,ha,Bool.false_eq_true,if_false,run_load]
    rw [hw off (List.getElem?_eq_some_iff.1 hv').1]
  · rw [ha] at hv
    simp only [partV] at hv
    cases hb:Nat.ble (off+d.size) cs.length
    · rw [hb] at hv;cases hv
    · rw [hb] at hv
      have hle:=Nat.le_of_ble_eq_true hb
      simp only [cond_true,Option.some.injEq] at hv
      subst hv
      refine ⟨.agg ((List.range d.size).map fun j=>us (off+j)).toArray,.agg (by simp;omega) fun j x u hx hu=>?_,fun w hw=>?_⟩
      · simp only [List.getElem?_take,List.getElem?_drop] at hx
        by_cases hj:j<d.size
        · rw [if_pos hj] at hx
          have:=hr _ _ hx
          simp [hj] at hu
          rwa [← hu]
        · rw [if_neg hj] at hx;cases hx
      · simp only [Instr.loadAt,Instr.sureAddr,loadVar,Sem.run_bind,Sem.run_pure,Result.andThen_ok,h.isAgg,ha,if_true,h.sizeOf]
        rw [loadCells_run (us:=fun j=>us (off+j)) fun j hj=>by
          have:=hw (off+j) (by omega)
          by_cases h0:j=0
          · subst h0;simpa [Addr.add] using this
          · simpa [Addr.add,Nat.add_assoc,h0] using this]
        simp
end
section
variable {P:Program}{nt:Nat}{env:Env}{H:Heap}{dst:Option Tmp}{ty:TypeId}{pos:String}{after:Array Edge}{guard:Option (Nat × Bool)}{x y c:Operand}{T:TypeId}{d:TyD}{v:V}
theorem qs_move (h:eo env x=some v):QS P nt env H ⟨dst,.move x,ty,pos,after,guard⟩ v:=.mk
  fun _ _ _ a _ he _=>⟨a.eval x,eo_rel he h,fun _ _=>rfl⟩
theorem qs_assign (h:eo env x=some v):QS P nt env H ⟨dst,.assign x,ty,pos,after,guard⟩ v:=.mk
  fun _ _ _ a _ he _=>⟨a.eval x,eo_rel he h,fun _ _=>rfl⟩
theorem qs_pick_t (hc:eo env c=some (.s (.bool true))) (h:eo env x=some v):QS P nt env H ⟨dst,.pick c x y,ty,pos,after,guard⟩ v:=.mk
  fun _ _ _ a _ he _=>by
    have h1:=eo_rel he hc
    have h2:=eo_rel he h
    cases h1':a.eval c<;>rw [h1'] at h1<;>cases h1
    exact ⟨_,h2,fun w' _=>by simp [execOp,h1',asBool]⟩
theorem qs_pick_f (hc:eo env c=some (.s (.bool false))) (h:eo env y=some v):QS P nt env H ⟨dst,.pick c x y,ty,pos,after,guard⟩ v:=.mk
  fun _ _ _ a _ he _=>by
    have h1:=eo_rel he hc
    have h2:=eo_rel he h
    cases h1':a.eval c<;>rw [h1'] at h1<;>cases h1
    exact ⟨_,h2,fun w' _=>by simp [execOp,h1',asBool]⟩
theorem cell_of {w:World}{b:Nat}{cs:Array Value}{ty:TypeId}{fz:Nat × Nat}(h:w.heap[b]?=some (.cells cs ty fz)) (o:Nat):w.cell? ⟨b,o,none⟩=cs[o]?:=by
  simp [World.cell?,h]
theorem qs_load_ref {r:V}{off:Nat}(ht:TyIs P T d) (hx:eo env x=some (.ref r off)) (hv:partV d.tk.agg r.cells off d.size=some v):QS P nt env H ⟨dst,.load T x,ty,pos,after,guard⟩ v:=.mk
  fun _ I ρ a w he hw=>by
    have h1:=eo_rel he hx
    cases h1':a.eval x<;>rw [h1'] at h1<;>cases h1
    rename_i b o us hl hr
    obtain ⟨u,hu,hrun⟩:=loadAt_run (I:=I) (ρ:=ρ) ht (fun j x hj=>(hr j x hj).closed) hv b o
    refine ⟨u,hu,fun w' hk=>?_⟩
    obtain ⟨cs,ty,fz,hI,hc⟩:=hl
    have:=hrun w' (fun j hj=>by rw [cell_of (hk.1 _ _ hI)];exact hc j hj)
    simp [execOp,h1',this]
theorem qs_load_ptr {sz b i off n:Nat}{f:Nat→V}(ht:TyIs P T d) (hx:eo env x=some (.ptr sz b i off)) (hH:H[b]?=some (.arr sz n f)) (hi:i<n) (hv:partV d.tk.agg (f i).cells off d.size=some v) :
    QS P nt env H ⟨dst,.load T x,ty,pos,after,guard⟩ v:=.mk
  fun _ I ρ a w he hw=>by
    have h1:=eo_rel he hx
    obtain ⟨cb,z,h1',hb⟩:=h1.ptr_inv
    obtain ⟨cs,ty,hc,hz,hn,hr⟩:=hw.arr _ _ _ _ _ _ hH hb
    have hs:=hw.size _ _ _ _ hH i hi
    have hlt:i*sz+sz≤n*sz:=by rw [← Nat.succ_mul];exact Nat.mul_le_mul_right _ hi
    obtain ⟨u,hu,hrun⟩:=loadAt_run (I:=I) (ρ:=ρ) (us:=fun j=>cs.getD (i*sz+j) undef) ht (fun j x hj=>by
      obtain ⟨u,h2,h3⟩:=hr i j x hi hj
      rw [show cs.getD (i*sz+j) undef=u by simp [h2]]
      exact h3) hv cb (i*sz)
    refine ⟨u,hu,fun w' hk=>?_⟩
    have:=hrun w' (fun j hj=>by
      rw [hk.2.1 _ _ _ _ _ _ hH hb _ (by rw [hs] at hj;omega),cell_of hc]
      have:i*sz+j<cs.size:=by rw [hs] at hj;omega
      simp [this])
    simp [execOp,h1',this]
theorem addr_add (b o k:Nat):(⟨b,o,none⟩:Addr).add k=⟨b,o+k,none⟩:=by
  unfold Addr.add
  split<;>simp_all
theorem fieldPlace_run {f:Field}{w:World}{b o:Nat}{d:TyD}(h:TyIs P f.type d) (hs:d.size≠0):(fieldPlace ⟨b,o,none⟩ f).run P w=.ok ⟨b,o+f.offset,none⟩ w:=by
  simp [fieldPlace,h.sizeOf,hs,addr_add]
theorem qs_faddr_ref {r:V}{off k o:Nat}{fs:List (TypeId × Nat)}{E:TypeId}{de:TyD}(ht:TyIs P T d) (hk:d.tk=.struct fs) (hf:fs[k]?=some (E,o)) (he:TyIs P E de) (hz:de.size≠0) (hx:eo env x=some (.ref r off)) :
    QS P nt env H ⟨dst,.fieldAddr T x k,ty,pos,after,guard⟩ (.ref r (off+o)):=.mk
  fun _ I ρ a w h hw=>by
    have h1:=eo_rel h hx
    cases h1':a.eval x<;>rw [h1'] at h1<;>cases h1
    rename_i b o' us hl hr
    obtain ⟨fields,f,hu,hg,rfl,rfl⟩:=ht.field hk hf
    refine ⟨.pointer (some ⟨b,o'+(off+f.offset),none⟩),.ref hl hr,fun w' _=>?_⟩
    simp [execOp,h1',Instr.fieldAt,run_underlying hu,hg,Instr.sureAddr,fieldPlace_run he hz,Nat.add_assoc]
theorem qs_faddr_ptr {sz b i off k o:Nat}{fs:List (TypeId × Nat)}{E:TypeId}{de:TyD}(ht:TyIs P T d) (hk:d.tk=.struct fs) (hf:fs[k]?=some (E,o)) (he:TyIs P E de) (hz:de.size≠0) (hx:eo env x=some (.ptr sz b i off)) :
    QS P nt env H ⟨dst,.fieldAddr T x k,ty,pos,after,guard⟩ (.ptr sz b i (off+o)):=.mk
  fun _ I ρ a w h hw=>by
    have h1:=eo_rel h hx
    obtain ⟨cb,z,h1',hb⟩:=h1.ptr_inv
    obtain ⟨fields,f,hu,hg,rfl,rfl⟩:=ht.field hk hf
    refine ⟨.pointer (some ⟨cb,i*sz+(off+f.offset),none⟩),.ptr hb,fun w' _=>?_⟩
    simp [execOp,h1',Instr.fieldAt,run_underlying hu,hg,Instr.sureAddr,fieldPlace_run he hz,Nat.add_assoc]
theorem part_run {I:Imm}{ρ:List (Option (Nat × Nat))}{cs:List V}{us:Array Value}(ht:TyIs P T d) (hs:us.size=cs.length) (hr:∀ (j:Nat) x u,cs[j]?=some x→us[j]?=some u→VRel I ρ x u) {off:Nat}(hv:partV d.tk.agg cs off d.size=some v) :
    ∃ u,VRel I ρ v u∧∀ w:World,(part T us off).run P w=.ok u w:=by
  cases ha:d.tk.agg
  · rw [ha] at hv
    have hv':cs[off]?=some v:=hv
    have hlt:off<us.size:=by rw [hs];exact (List.getElem?_eq_some_iff.1 hv').1
    refine ⟨us[off],hr _ _ _ hv' (by simp [hlt]),fun w=>?_⟩
    simp [part,ht.isAgg,ha,hlt]
  · rw [ha] at hv
    simp only [partV] at hv
    cases hb:Nat.ble (off+d.size) cs.length
    · rw [hb] at hv;cases hv
    · rw [hb] at hv
      have hle:=Nat.le_of_ble_eq_true hb
      simp only [cond_true,Option.some.injEq] at hv
      subst hv
      refine ⟨.agg (us.extract off (off+d.size)),.agg (by simp;omega) fun j x u hx hu=>?_,fun w=>?_⟩
      · simp only [List.getElem?_take,List.getElem?_drop] at hx
        by_cases hj:j<d.size
        · rw [if_pos hj] at hx
          refine hr _ _ _ hx ?_
          rw [Array.getElem?_extract] at hu
          simpa [show j<min (off+d.size) us.size-off by omega] using hu
        · rw [if_neg hj] at hx;cases hx
      · simp [part,ht.isAgg,ha,ht.sizeOf]
theorem qs_extract {cs:List V}{k:Nat}(hx:eo env x=some (.tup cs)) (hv:cs[k]?=some v):QS P nt env H ⟨dst,.extract x k,ty,pos,after,guard⟩ v:=.mk
  fun _ I ρ a w h hw=>by
    have h1:=eo_rel h hx
    cases h1':a.eval x<;>rw [h1'] at h1<;>cases h1
    rename_i us hs hr
    have hlt:k<us.size:=by rw [hs];exact (List.getElem?_eq_some_iff.1 hv).1
    exact ⟨us[k],hr _ _ _ hv (by simp [hlt]),fun w' _=>by simp [execOp,h1',Instr.extract,hlt]⟩
theorem qs_not {b:Bool}(hx:eo env x=some (.s (.bool b))):QS P nt env H ⟨dst,.unOp .not T x,ty,pos,after,guard⟩ (.s (.bool !b)):=.mk
  fun _ I ρ a w h hw=>by
    have h1:=eo_rel h hx
    cases h1':a.eval x<;>rw [h1'] at h1<;>cases h1
    exact ⟨_,.s _,fun w' _=>by simp [execOp,h1',Op.unary]⟩
theorem qs_neg {k:IntKind}{n r:Int}(hx:eo env x=some (.s (.int k n))) (hr:k.wrap (0-n)=r):QS P nt env H ⟨dst,.unOp .neg T x,ty,pos,after,guard⟩ (.s (.int k r)):=.mk
  fun _ I ρ a w h hw=>by
    have h1:=eo_rel h hx
    cases h1':a.eval x<;>rw [h1'] at h1<;>cases h1
    exact ⟨_,.s _,fun w' _=>by simp [execOp,h1',Op.unary,Op.intArith,← hr]⟩
theorem int2 {I:Imm}{ρ:List (Option (Nat × Nat))}{a:Act}{k k':IntKind}{m n:Int}(h:EnvOk I ρ nt env a) (hx:eo env x=some (.s (.int k m))) (hy:eo env y=some (.s (.int k' n))):a.eval x=.int k m∧a.eval y=.int k' n:=by
  have h1:=eo_rel h hx
  have h2:=eo_rel h hy
  cases h1':a.eval x<;>rw [h1'] at h1<;>cases h1
  cases h2':a.eval y<;>rw [h2'] at h2<;>cases h2
  exact ⟨rfl,rfl⟩
variable {k:IntKind}{m n r:Int}{T':TypeId}
theorem qs_add (hx:eo env x=some (.s (.int k m))) (hy:eo env y=some (.s (.int k n))) (hr:k.wrap (m+n)=r):QS P nt env H ⟨dst,.binOp .add T x y T',ty,pos,after,guard⟩ (.s (.int k r)):=.mk
  fun _ I ρ a w h hw=>by
    obtain ⟨h1,h2⟩:=int2 h hx hy
    exact ⟨_,.s _,fun w' _=>by simp [execOp,h1,h2,eqGuard,binOp,Op.intArith,← hr]⟩
theorem qs_sub (hx:eo env x=some (.s (.int k m))) (hy:eo env y=some (.s (.int k n))) (hr:k.wrap (m-n)=r):QS P nt env H ⟨dst,.binOp .sub T x y T',ty,pos,after,guard⟩ (.s (.int k r)):=.mk
  fun _ I ρ a w h hw=>by
    obtain ⟨h1,h2⟩:=int2 h hx hy
    exact ⟨_,.s _,fun w' _=>by simp [execOp,h1,h2,eqGuard,binOp,Op.intArith,← hr]⟩
theorem qs_mul (hx:eo env x=some (.s (.int k m))) (hy:eo env y=some (.s (.int k n))) (hr:k.wrap (m*n)=r):QS P nt env H ⟨dst,.binOp .mul T x y T',ty,pos,after,guard⟩ (.s (.int k r)):=.mk
  fun _ I ρ a w h hw=>by
    obtain ⟨h1,h2⟩:=int2 h hx hy
    exact ⟨_,.s _,fun w' _=>by simp [execOp,h1,h2,eqGuard,binOp,Op.intArith,← hr]⟩
theorem qs_quo (hx:eo env x=some (.s (.int k m))) (hy:eo env y=some (.s (.int k n))) (hn:n≠0) (hr:k.wrap (m.tdiv n)=r):QS P nt env H ⟨dst,.binOp .quo T x y T',ty,pos,after,guard⟩ (.s (.int k r)):=.mk
  fun _ I ρ a w h hw=>by
    obtain ⟨h1,h2⟩:=int2 h hx hy
    exact ⟨_,.s _,fun w' _=>by simp [execOp,h1,h2,eqGuard,binOp,Op.intDiv,hn,← hr]⟩
theorem qs_and (hx:eo env x=some (.s (.int k m))) (hy:eo env y=some (.s (.int k n))) (hr:k.wrap ((BitVec.ofInt k.bits m &&& BitVec.ofInt k.bits n).toNat:Int)=r):QS P nt env H ⟨dst,.binOp .and T x y T',ty,pos,after,guard⟩ (.s (.int k r)):=.mk
  fun _ I ρ a w h hw=>by
    obtain ⟨h1,h2⟩:=int2 h hx hy
    refine ⟨_,.s _,fun w' _=>?_⟩
    subst hr
    simp [execOp,h1,h2,eqGuard,binOp,Op.intBits]
theorem qs_shr {k':IntKind}(hx:eo env x=some (.s (.int k m))) (hy:eo env y=some (.s (.int k' n))) (hn:0≤n) (hr:m.fdiv (2 ^ (min n.toNat k.bits))=r):QS P nt env H ⟨dst,.binOp .shr T x y T',ty,pos,after,guard⟩ (.s (.int k r)):=.mk
  fun _ I ρ a w h hw=>by
    obtain ⟨h1,h2⟩:=int2 h hx hy
    refine ⟨_,.s _,fun w' _=>?_⟩
    subst hr
    simp [execOp,h1,h2,eqGuard,binOp,Op.shift,show ¬ n<0 by omega]
theorem qs_eql (hx:eo env x=some (.s (.int k m))) (hy:eo env y=some (.s (.int k n))):QS P nt env H ⟨dst,.binOp .eql T x y T',ty,pos,after,guard⟩ (.s (.bool (decide (m=n)))):=.mk
  fun _ I ρ a w h hw=>by
    obtain ⟨h1,h2⟩:=int2 h hx hy
    exact ⟨_,.s _,fun w' _=>by simp [execOp,h1,h2,eqGuard,binOp,Op.intCmp];rfl⟩
theorem qs_neq (hx:eo env x=some (.s (.int k m))) (hy:eo env y=some (.s (.int k n))):QS P nt env H ⟨dst,.binOp .neq T x y T',ty,pos,after,guard⟩ (.s (.bool (!decide (m=n)))):=.mk
  fun _ I ρ a w h hw=>by
    obtain ⟨h1,h2⟩:=int2 h hx hy
    exact ⟨_,.s _,fun w' _=>by simp [execOp,h1,h2,eqGuard,binOp,Op.intCmp];rfl⟩
theorem qs_lss (hx:eo env x=some (.s (.int k m))) (hy:eo env y=some (.s (.int k n))):QS P nt env H ⟨dst,.binOp .lss T x y T',ty,pos,after,guard⟩ (.s (.bool (decide (m<n)))):=.mk
  fun _ I ρ a w h hw=>by
    obtain ⟨h1,h2⟩:=int2 h hx hy
    exact ⟨_,.s _,fun w' _=>by simp [execOp,h1,h2,eqGuard,binOp,Op.intCmp]⟩
theorem qs_leq (hx:eo env x=some (.s (.int k m))) (hy:eo env y=some (.s (.int k n))):QS P nt env H ⟨dst,.binOp .leq T x y T',ty,pos,after,guard⟩ (.s (.bool (decide (m≤n)))):=.mk
  fun _ I ρ a w h hw=>by
    obtain ⟨h1,h2⟩:=int2 h hx hy
    exact ⟨_,.s _,fun w' _=>by simp [execOp,h1,h2,eqGuard,binOp,Op.intCmp]⟩
theorem qs_gtr (hx:eo env x=some (.s (.int k m))) (hy:eo env y=some (.s (.int k n))):QS P nt env H ⟨dst,.binOp .gtr T x y T',ty,pos,after,guard⟩ (.s (.bool (decide (n<m)))):=.mk
  fun _ I ρ a w h hw=>by
    obtain ⟨h1,h2⟩:=int2 h hx hy
    exact ⟨_,.s _,fun w' _=>by simp [execOp,h1,h2,eqGuard,binOp,Op.intCmp]⟩
theorem qs_geq (hx:eo env x=some (.s (.int k m))) (hy:eo env y=some (.s (.int k n))):QS P nt env H ⟨dst,.binOp .geq T x y T',ty,pos,after,guard⟩ (.s (.bool (decide (n≤m)))):=.mk
  fun _ I ρ a w h hw=>by
    obtain ⟨h1,h2⟩:=int2 h hx hy
    exact ⟨_,.s _,fun w' _=>by simp [execOp,h1,h2,eqGuard,binOp,Op.intCmp]⟩
theorem qs_conv {k':IntKind}{D:TypeId}{dd:TyD}{ds:TyD}(hs:TyIs P T ds) (hsk:ds.tk=.int k') (ht:TyIs P D dd) (hk:dd.tk=.int k) (hx:eo env x=some (.s (.int k' m))) (hr:k.wrap m=r):QS P nt env H ⟨dst,.convert T D x,ty,pos,after,guard⟩ (.s (.int k r)):=.mk
  fun _ I ρ a w h hw=>by
    have h1:=eo_rel h hx
    cases h1':a.eval x<;>rw [h1'] at h1<;>cases h1
    exact ⟨_,.s _,fun w' _=>by simp [execOp,h1',convert,run_underlying (ht.intk hk),run_underlying (hs.intk hsk),Conv.intToInt,← hr]⟩
theorem qs_min (hx:eo env x=some (.s (.int k m))) (hy:eo env y=some (.s (.int k n))) {ats:Array TypeId}:QS P nt env H ⟨dst,.call ⟨.builtin .min,#[x,y],ats⟩,ty,pos,after,guard⟩ (.s (.int k (min m n))):=.mk
  fun _ I ρ a w h hw=>by
    obtain ⟨h1,h2⟩:=int2 h hx hy
    refine ⟨_,.s _,fun w' _=>?_⟩
    have e:min m n=if n<m then n else m:=by split<;>omega
    rw [e]
    simp [execOp,resolve,invoke,builtin,Builtin.min_,Builtin.min2,h1,h2]
end
section
variable {P:Program}{nt:Nat}{env:Env}{H:Heap}{dst:Option Tmp}{ty:TypeId}{pos:String}{after:Array Edge}{guard:Option (Nat × Bool)}{x y c:Operand}{T E:TypeId}{d de:TyD}{v:V}
theorem int1 {I:Imm}{ρ:List (Option (Nat × Nat))}{a:Act}{k:IntKind}{m:Int}(h:EnvOk I ρ nt env a) (hx:eo env x=some (.s (.int k m))):a.eval x=.int k m:=by
  have h1:=eo_rel h hx
  cases h1':a.eval x<;>rw [h1'] at h1<;>cases h1
  rfl
theorem indexAt_run {w:World}{A:Option Addr}{b off n cap j:Nat}{k:IntKind}(ht:TyIs P T d) (hk:d.tk=.slice E) (he:TyIs P E de) (hA:A=some ⟨b,off,none⟩) (hj:j<n) :
    (Instr.indexAt T (.slice A n cap) (.int k (j:Int))).run P w=.ok (.pointer (some ⟨b,off+j*de.size,none⟩)) w:=by
  subst hA
  simp [Instr.indexAt,asIntOf,run_underlying (ht.slice hk),he.sizeOf,addr_add,hj]
theorem qs_iaddr_list {sz n j:Nat}{f:Nat→V}{k:IntKind}{m:Int}(ht:TyIs P T d) (hk:d.tk=.slice E) (he:TyIs P E de) (hs:de.size=sz) (hx:eo env x=some (.list sz n f)) (hy:eo env y=some (.s (.int k m))) (hm:m=(j:Int)) (hj:j<n) :
    QS P nt env H ⟨dst,.indexAddr T x y,ty,pos,after,guard⟩ (.ref (f j) 0):=.mk
  fun _ I ρ a w h hw=>by
    have h1:=eo_rel h hx
    have h2:=int1 h hy
    subst hm
    obtain ⟨A,c,us,h1',hc,hm,hl,hsz,hv⟩:=h1.list_inv
    obtain ⟨b,off,hA,hL⟩:=hl (by omega)
    have hLj:Lies I b (off+j*sz) (f j).cells.length (us j):=by rw [hsz j hj];exact hL j hj
    refine ⟨.pointer (some ⟨b,off+j*sz+0,none⟩),.ref hLj fun i x hx=>hv j i x hj hx,fun w' _=>?_⟩
    simp [execOp,h1',h2,indexAt_run ht hk he hA hj,hs]
theorem qs_iaddr_sl {sz b i n j:Nat}{k:IntKind}{m:Int}(ht:TyIs P T d) (hk:d.tk=.slice E) (he:TyIs P E de) (hs:de.size=sz) (hx:eo env x=some (.sl sz b i n)) (hy:eo env y=some (.s (.int k m))) (hm:m=(j:Int)) (hj:j<n) :
    QS P nt env H ⟨dst,.indexAddr T x y,ty,pos,after,guard⟩ (.ptr sz b (i+j) 0):=.mk
  fun _ I ρ a w h hw=>by
    have h1:=eo_rel h hx
    have h2:=int1 h hy
    subst hm
    rcases h1.sl_inv with ⟨cb,z,c,h1',hb,hc,hm,hz⟩|⟨_,_,_,_,rfl⟩
    · refine ⟨.pointer (some ⟨cb,(i+j)*sz+0,none⟩),.ptr hb,fun w' _=>?_⟩
      simp [execOp,h1',h2,indexAt_run ht hk he rfl hj ,hs,Nat.add_mul]
    · omega
theorem qs_iaddr_aptr {sz b i off n j:Nat}{k:IntKind}{m:Int}(ht:TyIs P T d) (hk:d.tk=.array n E) (he:TyIs P E de) (hx:eo env x=some (.ptr sz b i off)) (hy:eo env y=some (.s (.int k m))) (hm:m=(j:Int)) (hj:j<n) :
    QS P nt env H ⟨dst,.indexAddr T x y,ty,pos,after,guard⟩ (.ptr sz b i (off+j*de.size)):=.mk
  fun _ I ρ a w h hw=>by
    have h1:=eo_rel h hx
    have h2:=int1 h hy
    subst hm
    obtain ⟨cb,z,h1',hb⟩:=h1.ptr_inv
    refine ⟨.pointer (some ⟨cb,i*sz+(off+j*de.size),none⟩),.ptr hb,fun w' _=>?_⟩
    simp [execOp,h1',h2,Instr.indexAt,asIntOf,run_underlying (ht.arr hk),he.sizeOf,addr_add,hj,Instr.sureAddr,Nat.add_assoc]
theorem qs_index {cs:List V}{n j:Nat}{k:IntKind}{m:Int}(ht:TyIs P T d) (hk:d.tk=.array n E) (he:TyIs P E de) (hx:eo env x=some (.agg cs)) (hy:eo env y=some (.s (.int k m))) (hm:m=(j:Int)) (hj:j<n) (hv:partV de.tk.agg cs (j*de.size) de.size=some v) :
    QS P nt env H ⟨dst,.index T x y,ty,pos,after,guard⟩ v:=.mk
  fun _ I ρ a w h hw=>by
    have h1:=eo_rel h hx
    have h2:=int1 h hy
    subst hm
    cases h1':a.eval x<;>rw [h1'] at h1<;>cases h1
    rename_i us hs hr
    obtain ⟨u,h3,h4⟩:=part_run he hs hr hv
    exact ⟨u,h3,fun w' _=>by simp [execOp,h1',h2,Instr.index,asIntOf,run_underlying (ht.arr hk),he.sizeOf,hj,h4]⟩
def bnd (env:Env) (o:Option Operand) (dflt:Nat) (n:Nat):Prop :=
  match o with
  | none=>n=dflt
  | some x=>∃ k,eo env x=some (.s (.int k (n:Int)))
theorem slice_run {w:World}{A:Option Addr}{n cap l h m:Nat}{lo hi mx:Option Value}(ht:TyIs P T d) (hk:d.tk=.slice E) (he:TyIs P E de)
    (hm:match mx with|none=>m=cap|some v=>∃ k,v=.int k (m:Int)) (hh:match hi with|none=>h=n∧mx=none|some v=>∃ k,v=.int k (h:Int)) (hl:match lo with|none=>l=0|some v=>∃ k,v=.int k (l:Int))
    (h1:l≤h) (h2:h≤m) (h3:m≤cap) :
    (Instr.sliceAt T (.slice A n cap) lo hi mx).run P w=.ok (.slice (if m=l then A else A.map (·.add (l*de.size))) (h-l) (m-l)) w:=by
  have e1:Instr.sliceAt T (.slice A n cap) lo hi mx=(do match ← underlying T with
    | .array n elem =>
      let a ← Instr.sureAddr (.slice A n cap)
      let (l,h,m) ← Instr.sliceBounds false n n lo hi mx
      let size ← sizeOf elem
      pure (.slice (some (if m=l then a else a.add (l*size))) (h-l) (m-l))
    | _=>Instr.slice T (.slice A n cap) lo hi mx):=rfl
  rw [e1]
  simp only [Sem.run_bind,run_underlying (ht.slice hk),Result.andThen_ok,Instr.slice]
  have hb:(Instr.sliceBounds true n cap lo hi mx).run P w=.ok (l,h,m) w:=by
    cases mx with
    | none =>
      simp only at hm
      subst hm
      cases hi with
      | none =>
        obtain ⟨rfl,_⟩:=hh
        cases lo with
        | none=>simp only at hl;subst hl;simp [Instr.sliceBounds]
        | some v=>obtain ⟨k,rfl⟩:=hl;simp [Instr.sliceBounds,Instr.sliceBound,asIntOf,h1]
      | some u =>
        obtain ⟨k',rfl⟩:=hh
        cases lo with
        | none=>simp only at hl;subst hl;simp [Instr.sliceBounds,Instr.sliceBound,asIntOf,h2]
        | some v=>obtain ⟨k,rfl⟩:=hl;simp [Instr.sliceBounds,Instr.sliceBound,asIntOf,h1,h2]
    | some q =>
      obtain ⟨kq,rfl⟩:=hm
      cases hi with
      | none=>obtain ⟨_,h0⟩:=hh;cases h0
      | some u =>
        obtain ⟨k',rfl⟩:=hh
        cases lo with
        | none=>simp only at hl;subst hl;simp [Instr.sliceBounds,Instr.sliceBound,asIntOf,h2,h3]
        | some v=>obtain ⟨k,rfl⟩:=hl;simp [Instr.sliceBounds,Instr.sliceBound,asIntOf,h1,h2,h3]
  simp [hb,he.sizeOf]
theorem bnd_val {I:Imm}{ρ:List (Option (Nat × Nat))}{a:Act}(he:EnvOk I ρ nt env a) {o:Option Operand}{dflt n:Nat}(h:bnd env o dflt n) :
    match o.map a.eval with|none=>n=dflt|some v=>∃ k,v=.int k (n:Int):=by
  cases o with
  | none=>exact h
  | some x=>obtain ⟨k,hk⟩:=h;exact ⟨k,int1 he hk⟩
theorem VRel.sub {I:Imm}{ρ:List (Option (Nat × Nat))}{sz n l h m c:Nat}{f:Nat→V}{A:Option Addr}(hr:VRel I ρ (.list sz n f) (.slice A n c)) (h1:l≤h) (h2:h≤m) (h3:m≤c) (hn:h≤n) :
    VRel I ρ (.list sz (h-l) (fun k=>f (l+k))) (.slice (if m=l then A else A.map (·.add (l*sz))) (h-l) (m-l)):=by
  cases hr with
  | list hc hm hl hsz hv =>
    rename_i us
    refine .list (us:=fun i j=>us (l+i) j) (by omega) ?_ (fun h0=>?_) (fun i hi=>hsz _ (by omega)) (fun i j v hi=>hv _ j v (by omega))
    · split
      · omega
      · cases A<;>simp [capMax] at hm ⊢<;>omega
    · obtain ⟨b,off,rfl,hL⟩:=hl (by omega)
      refine ⟨b,off+l*sz,by rw [if_neg (by omega)];simp [addr_add],fun i hi=>?_⟩
      have:=hL (l+i) (by omega)
      rwa [Nat.add_mul,← Nat.add_assoc] at this
theorem qs_slice_list {sz n l h:Nat}{f:Nat→V}{lo hi:Option Operand}(ht:TyIs P T d) (hk:d.tk=.slice E) (he:TyIs P E de) (hs:de.size=sz) (hx:eo env x=some (.list sz n f)) (hl:bnd env lo 0 l) (hh:bnd env hi n h) (h1:l≤h) (h2:h≤n) :
    QS P nt env H ⟨dst,.slice T x lo hi none,ty,pos,after,guard⟩ (.list sz (h-l) (fun k=>f (l+k))):=.mk
  fun _ I ρ a w hE hw=>by
    have hr:=eo_rel hE hx
    have bl:=bnd_val hE hl
    have bh:=bnd_val hE hh
    cases h1':a.eval x<;>rw [h1'] at hr<;>first|(exfalso;cases hr;done)|skip
    rename_i A n' c
    obtain ⟨rfl,hc⟩:n'=n∧n≤c:=by cases hr;exact ⟨rfl,by assumption⟩
    refine ⟨_,hr.sub (m:=c) h1 (by omega) (Nat.le_refl _) h2,fun w' _=>?_⟩
    subst hs
    have:=slice_run (P:=P) (w:=w') (A:=A) (n:=n') (cap:=c) (l:=l) (h:=h) (m:=c) (lo:=lo.map a.eval) (hi:=hi.map a.eval) (mx:=none) ht hk he rfl (by
      cases hi with
      | none=>exact ⟨bh,rfl⟩
      | some u=>exact bh) bl h1 (by omega) (Nat.le_refl _)
    simp only [execOp,h1',Sem.run_bind,Option.map_none,this,Result.andThen_ok]
    rfl
theorem qs_slice00 {sz n:Nat}{f:Nat→V}{hi mx:Operand}{km kh:IntKind}(ht:TyIs P T d) (hk:d.tk=.slice E) (he:TyIs P E de) (hx:eo env x=some (.list sz n f)) (hh:eo env hi=some (.s (.int kh 0))) (hm:eo env mx=some (.s (.int km 0))) :
    QS P nt env H ⟨dst,.slice T x none (some hi) (some mx),ty,pos,after,guard⟩ .emp:=.mk
  fun _ I ρ a w hE hw=>by
    have hr:=eo_rel hE hx
    have bh:=int1 hE hh
    have bm:=int1 hE hm
    cases h1':a.eval x<;>rw [h1'] at hr<;>first|(exfalso;cases hr;done)|skip
    rename_i A n' c
    refine ⟨.slice A 0 0,.emp A,fun w' _=>?_⟩
    have:=slice_run (P:=P) (w:=w') (A:=A) (n:=n') (cap:=c) (l:=0) (h:=0) (m:=0) (lo:=none) (hi:=some (a.eval hi)) (mx:=some (a.eval mx)) ht hk he ⟨km,bm⟩ ⟨kh,bh⟩ rfl (Nat.le_refl _) (Nat.le_refl _) (by omega)
    simp only [execOp,h1',Sem.run_bind,Option.map_some,Option.map_none,this,Result.andThen_ok]
    rfl
theorem qs_makeFunc {f:Fn}{first cap:Array Operand}{vs us:List V}(h1:first.toList.mapM (eo env)=some vs) (h2:cap.toList.mapM (eo env)=some us):QS P nt env H ⟨dst,.makeFunc f first cap,ty,pos,after,guard⟩ (.fn f vs us):=by
  have key:∀ (I:Imm) (ρ:List (Option (Nat × Nat))) (a:Act),EnvOk I ρ nt env a→∀ (l:List Operand) (vs:List V),l.mapM (eo env)=some vs→l.length=vs.length∧∀ (j:Nat) v u,vs[j]?=some v→(l.map a.eval)[j]?=some u→VRel I ρ v u:=by
    intro I ρ a he l
    induction l with
    | nil=>intro vs h;simp at h;subst h;exact ⟨rfl,fun j v u h=>by simp at h⟩
    | cons x l ih =>
      intro vs h
      simp only [List.mapM_cons,Option.pure_def,Option.bind_eq_bind,Option.bind_eq_some_iff] at h
      obtain ⟨v0,hv0,vs',hvs,h'⟩:=h
      cases h'
      obtain ⟨e1,e2⟩:=ih vs' hvs
      refine ⟨by simp [e1],fun j v u hj hu=>?_⟩
      cases j with
      | zero=>simp at hj hu;subst hj hu;exact eo_rel he hv0
      | succ j=>exact e2 j v u (by simpa using hj) (by simpa using hu)
  refine ⟨?_⟩
  intro X I ρ a w he hw
  obtain ⟨a1,a2⟩:=key I ρ a he _ _ h1
  obtain ⟨b1,b2⟩:=key I ρ a he _ _ h2
  refine ⟨.func f (first.map a.eval) (cap.map a.eval),.fn (by simpa using a1) (fun j v u hj hu=>a2 j v u hj (by simpa using hu)) (by simpa using b1) (fun j v u hj hu=>b2 j v u hj (by simpa using hu)),fun w' _=>rfl⟩
theorem qs_len_list {sz n:Nat}{f:Nat→V}{ats:Array TypeId}(ht:TyIs P T d) (hk:d.tk=.slice E) (h0:ats[0]?=some T) (hx:eo env x=some (.list sz n f)):QS P nt env H ⟨dst,.call ⟨.builtin .len,#[x],ats⟩,ty,pos,after,guard⟩ (.s (.int .i64 (n:Int))):=.mk
  fun _ I ρ a w h hw=>by
    have h1:=eo_rel h hx
    cases h1':a.eval x<;>rw [h1'] at h1<;>cases h1
    exact ⟨_,.s _,fun w' _=>by simp [execOp,resolve,invoke,builtin,Builtin.len_,h1',h0,run_underlying (ht.slice hk),goInt]⟩
theorem qs_len_sl {sz b i n:Nat}{ats:Array TypeId}(ht:TyIs P T d) (hk:d.tk=.slice E) (h0:ats[0]?=some T) (hx:eo env x=some (.sl sz b i n)):QS P nt env H ⟨dst,.call ⟨.builtin .len,#[x],ats⟩,ty,pos,after,guard⟩ (.s (.int .i64 (n:Int))):=.mk
  fun _ I ρ a w h hw=>by
    have h1:=eo_rel h hx
    cases h1':a.eval x<;>rw [h1'] at h1<;>cases h1 <;>
    exact ⟨_,.s _,fun w' _=>by simp [execOp,resolve,invoke,builtin,Builtin.len_,h1',h0,run_underlying (ht.slice hk),goInt]⟩
theorem qs_len_emp {ats:Array TypeId}(ht:TyIs P T d) (hk:d.tk=.slice E) (h0:ats[0]?=some T) (hx:eo env x=some .emp):QS P nt env H ⟨dst,.call ⟨.builtin .len,#[x],ats⟩,ty,pos,after,guard⟩ (.s (.int .i64 0)):=.mk
  fun _ I ρ a w h hw=>by
    have h1:=eo_rel h hx
    cases h1':a.eval x<;>rw [h1'] at h1<;>cases h1
    exact ⟨_,.s _,fun w' _=>by simp [execOp,resolve,invoke,builtin,Builtin.len_,h1',h0,run_underlying (ht.slice hk),goInt]⟩
theorem qs_len_nil {ats:Array TypeId}(ht:TyIs P T d) (hk:d.tk=.slice E) (h0:ats[0]?=some T) (hx:eo env x=some (.s (.slice none 0 0))):QS P nt env H ⟨dst,.call ⟨.builtin .len,#[x],ats⟩,ty,pos,after,guard⟩ (.s (.int .i64 0)):=.mk
  fun _ I ρ a w h hw=>by
    have h1:=eo_rel h hx
    cases h1':a.eval x<;>rw [h1'] at h1<;>cases h1
    exact ⟨_,.s _,fun w' _=>by simp [execOp,resolve,invoke,builtin,Builtin.len_,h1',h0,run_underlying (ht.slice hk),goInt]⟩
end
end Go.Proofs.YtbilpbabdgfblaaGreat
