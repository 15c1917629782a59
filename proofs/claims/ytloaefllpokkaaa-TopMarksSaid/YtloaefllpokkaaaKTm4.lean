/- Parts of the proof: contracts of functions. No condition. -/
import Derived.Test.YtloaefllpokkaaaKTm3
set_option linter.unusedSimpArgs false
set_option linter.unusedVariables false
namespace Go.Proofs.Ytloaefllpokkaaa
open Go.RowKit
section
variable {P : Program} {nt : Nat} {Q : Post} {env : Env} {H : Heap} {R Rp : V → Heap → Prop} {a t2 t3 : Nat} {v v2 v3 : V}
theorem bq1c {T : TypeId} {d : TyD} {sz b i off n : Nat} {f : Nat → V} (hT : TyIs P T d) (ha : look env a = some (.ptr sz b i off)) (hH : H[b]? = some (.arr sz n f)) (hi : i < n) (hv : partV d.tk.agg (f i).cells off d.size = some v)
    (hR : R v H) : BodyQ P #[.cell a T] R Rp .ret env H := ⟨_, .inl ⟨_, rfl, ⟨d, sz, b, i, off, n, f, hT, ha, hH, hi, hv⟩⟩, hR⟩
end
/-- A call that writes nothing that was there, of arguments without own blocks; its result is a new row of our own. -/
structure FCalls (P : Program) (f : FuncId) (args : List V) (sz : Nat) (R : Nat → (Nat → V) → Prop) : Prop where
  out : ∀ (I : Imm) w us, (∀ b o, I b = some o → w.heap[b]? = some o) → VRels I [] args us → Calls P f us w fun e w' => ∃ n g u I' ρ', R n g ∧ (∀ i, i < n → V.closed.all (g i).cells = true) ∧ e = .returned u ∧ VRel I' ρ' (.sl sz 0 0 n) u ∧ WOk (Ctx.self w [] [] I) I' ρ' [.arr sz n g] w'
def FreshQ (sz : Nat) (R : Nat → (Nat → V) → Prop) (v : V) (H : Heap) : Prop := ∃ n g, v = .sl sz 0 0 n ∧ H = [.arr sz n g] ∧ R n g ∧ ∀ i, i < n → V.closed.all (g i).cells = true
theorem fcalls_of_aw {P : Program} {f : FuncId} {fn : Func} {c : Code} {args : List V} {sz : Nat} {R : Nat → (Nat → V) → Prop} (hf : P.funcs[f]? = some fn) (hb : fn.body = some c) (hn : args.length ≤ fn.ntmps)
    (h : AW P none 0 fn.ntmps c (BodyQ P fn.results (FreshQ sz R) NoP) (argEnv args 0) []) : FCalls P f args sz R := by
  refine ⟨fun I w us hI hv => ?_⟩
  refine ((acalls_of_aw (H := []) hf hb hn h).1 (Ctx.self w [] [] I) I [] w us (WOk.begin hI) hv).mono fun e w' ⟨v, u, I', ρ', H', hle, hpre, hw', hr, h2⟩ => ?_
  rcases h2 with ⟨rfl, n, g, rfl, rfl, hR, hc⟩ | ⟨_, hno⟩
  · exact ⟨n, g, u, I', ρ', hR, hc, rfl, hr, hw'⟩
  · exact hno.elim
theorem get_snoc {α : Type} {l : List α} {a x : α} {k : Nat} (h : (l ++ [a])[k]? = some x) : (k < l.length ∧ l[k]? = some x) ∨ (k = l.length ∧ x = a) := by
  rcases Nat.lt_or_ge k l.length with hk | hk
  · exact .inl ⟨hk, by rwa [List.getElem?_append_left hk] at h⟩
  · rw [List.getElem?_append_right hk] at h
    have : k - l.length = 0 := by
      have := (List.getElem?_eq_some_iff.1 h).1
      simp at this
      omega
    rw [this] at h
    simp at h
    exact .inr ⟨by omega, h.symm⟩
theorem WOk.join {X : Ctx} {I J : Imm} {ρ : List (Option (Nat × Nat))} {x : Option (Nat × Nat)} {H : Heap} {w w' : World} {sz n : Nat} {g : Nat → V} (hw : WOk X I ρ H w) (k : WOk (Ctx.self w [] [] I) J [x] [.arr sz n g] w') (hc : ∀ i, i < n → V.closed.all (g i).cells = true) :
    WOk X J (ρ ++ [x]) (H ++ [.arr sz n g]) w' := by
  have hlen := hw.len
  have old : ∀ b, b < w.heap.size → w'.heap[b]? = w.heap[b]? := fun b hb => k.keep b hb not_live_nil
  have nw : ∀ b z, x = some (b, z) → w.heap.size ≤ b := fun b z e => by
    rcases k.mine b ⟨0, _, rfl, by simp, z, by rw [e]; rfl⟩ with h | h
    · exact h
    · exact (not_live_nil h).elim
  have oldLive : ∀ i b y (blk : Blk), H[i]? = some blk → blk ≠ .dead → ρ[i]? = some (some (b, y)) → b < w.heap.size := fun i b y blk h1 h2 h3 => hw.lt ⟨i, blk, h1, h2, y, h3⟩
  have both : ∀ (i : Nat) (blk : Blk) (y : Option (Nat × Nat)), (H ++ [Blk.arr sz n g])[i]? = some blk → (ρ ++ [x])[i]? = some y → (i < H.length ∧ H[i]? = some blk ∧ ρ[i]? = some y) ∨ (i = H.length ∧ blk = .arr sz n g ∧ y = x) := fun i blk y h1 h2 => by
    rcases get_snoc h1 with ⟨a1, a2⟩ | ⟨a1, a2⟩ <;> rcases get_snoc h2 with ⟨b1, b2⟩ | ⟨b1, b2⟩
    · exact .inl ⟨a1, a2, b2⟩
    · omega
    · omega
    · exact .inr ⟨a1, a2, b2⟩
  exact { len := by simp [hlen]
          inj := fun i j b ⟨p, hp, hp'⟩ ⟨q, hq, hq'⟩ y z hy hz => by
            rcases both i p _ hp hy with ⟨_, a2, a3⟩ | ⟨a1, _, a3⟩ <;> rcases both j q _ hq hz with ⟨_, b2, b3⟩ | ⟨b1, _, b3⟩
            · exact hw.inj i j b ⟨p, a2, hp'⟩ ⟨q, b2, hq'⟩ y z a3 b3
            · have h1 := oldLive i b y p a2 hp' a3
              have h2 := nw b z b3.symm
              omega
            · have h1 := oldLive j b z q b2 hq' b3
              have h2 := nw b y a3.symm
              omega
            · omega
          imm := k.imm
          apart := fun b ⟨i, blk, h1, h2, z, h3⟩ => by
            rcases both i blk _ h1 h3 with ⟨_, a2, a3⟩ | ⟨_, _, a3⟩
            · have hlt := oldLive i b z blk a2 h2 a3
              have hI := hw.apart b ⟨i, blk, a2, h2, z, a3⟩
              cases e : J b with
              | none => rfl
              | some o =>
                rcases k.news b (by rw [e]; simp) with h | h | h
                · exact (h hI).elim
                · have : w.heap.size ≤ b := h
                  omega
                · exact (not_live_nil h).elim
            · exact k.apart b ⟨0, _, rfl, by simp, z, by rw [← a3]; rfl⟩
          size := fun i s m f h => by
            rcases get_snoc h with ⟨_, a2⟩ | ⟨_, a2⟩
            · exact hw.size i s m f a2
            · cases a2; exact k.size 0 _ _ _ rfl
          none := fun i s m f h h' => by
            rcases both i _ _ h h' with ⟨_, a2, a3⟩ | ⟨_, a2, a3⟩
            · exact hw.none i s m f a2 a3
            · cases a2; exact k.none 0 _ _ _ rfl (by rw [← a3]; rfl)
          arr := fun i s m f b z h h' => by
            rcases both i _ _ h h' with ⟨_, a2, a3⟩ | ⟨_, a2, a3⟩
            · exact (hw.arr i s m f b z a2 a3).mono k.le (pre_append _) (old b (oldLive i b z _ a2 (by simp) a3))
            · cases a2
              obtain ⟨cs, ty, h1, h2, h3, h4⟩ := k.arr 0 _ _ _ b z rfl (by rw [← a3]; rfl)
              exact ⟨cs, ty, h1, h2, h3, fun i j v hi hv => by obtain ⟨u, h5, h6⟩ := h4 i j v hi hv; exact ⟨u, h5, (h6.close (closed_all (hc i hi) hv)).closed⟩⟩
          map := fun i m h => by
            rcases get_snoc h with ⟨a1, a2⟩ | ⟨_, a2⟩
            · obtain ⟨b, h1, h2⟩ := hw.map i m a2
              refine ⟨b, ?_, h2.mono k.le (pre_append _) (old b (oldLive i b 0 _ a2 (by simp) h1))⟩
              rw [List.getElem?_append_left (by omega)]
              exact h1
            · cases a2
          mine := fun b ⟨i, blk, h1, h2, z, h3⟩ => by
            rcases both i blk _ h1 h3 with ⟨_, a2, a3⟩ | ⟨_, _, a3⟩
            · exact hw.mine b ⟨i, blk, a2, h2, z, a3⟩
            · exact .inl (Nat.le_trans hw.grow (nw b z a3.symm))
          news := fun b hb => by
            rcases k.news b hb with h | h | h
            · exact hw.news b h
            · exact .inr (.inl (Nat.le_trans hw.grow h))
            · exact (not_live_nil h).elim
          le := Imm.le_trans hw.le k.le
          pre := hw.pre.trans (pre_append _)
          os := k.os.trans hw.os, tape := k.tape.trans hw.tape, out := k.out.trans hw.out, grow := Nat.le_trans hw.grow k.grow
          keep := fun b hb hl => (old b (Nat.lt_of_lt_of_le hb hw.grow)).trans (hw.keep b hb hl) }
section
variable {P : Program} {r : Option Nat} {m nt : Nat} {Q : Post} {env : Env} {H : Heap} {ops : Array Oper} {l : List Stp} {dst : Option Tmp} {ty : TypeId} {pos : String} {after : Array Edge} {guard : Option (Nat × Bool)} {keep : Bool}
theorem ls_fcall {fo : Operand} {args : List Operand} {ats : Array TypeId} {f : FuncId} {first cap vs avs : List V} {sz : Nat} {R : Nat → (Nat → V) → Prop} (hfn : FnOk P f) (hf : eo env fo = some (.fn (.func f) first cap)) (hargs : args.mapM (eo env) = some vs)
    (ha : ArgsOk false H (first ++ vs ++ cap) avs) (h : FCalls P f avs sz R) : LS P r m nt keep env H ⟨dst, .call ⟨.value fo, args.toArray, ats⟩, ty, pos, after, guard⟩ (fun v H' => ∃ n g, R n g ∧ v = .sl sz H.length 0 n ∧ H' = H ++ [.arr sz n g]) NoP := .mk
  fun X I ρ a w next Qx hX hs hk hp => by
    have hw := hs.2.1
    have h1 := eo_rel hs.1 hf
    cases h1' : a.eval fo <;> rw [h1'] at h1 <;> cases h1
    rename_i us ws e1 e2 e3 e4
    have hrel : VRels I ρ (first ++ vs ++ cap) (us ++ (args.map a.eval).toArray ++ ws) := (VRels.append ⟨e1, e2⟩ (evals hs.1 hargs)).append ⟨e3, e4⟩
    have hrel' := args_rel (us := (us ++ (args.map a.eval).toArray ++ ws).toList) hw ha (by rw [Array.toArray_toList]; exact hrel)
    rw [Array.toArray_toList] at hrel'
    refine wpIn_of_run (by simp) (call_run hfn h1' w) ⟨fun h => by simp [Fw, Fence.wide] at h, callsIn_fw.2 ?_⟩
    refine (h.1 I w _ hw.imm hrel').mono fun e w' ⟨n, g, u, I', ρ', hR, hc, he, hv, hk'⟩ => ?_
    subst he
    obtain ⟨x, rfl⟩ : ∃ x, ρ' = [x] := by
      have := hk'.len
      match ρ', this with
      | [x], _ => exact ⟨x, rfl⟩
    have hx : (ρ ++ [x])[H.length]? = some x := by rw [← hw.len]; simp
    have hv2 : VRel I' (ρ ++ [x]) (.sl sz H.length 0 n) u := by
      rcases hv.sl_inv with ⟨cb, z, c, rfl, hρ, h2, h3, h4⟩ | ⟨A, rfl, hρ, _, rfl⟩
      · exact .sl (by rw [hx]; simpa using hρ) h2 h3 h4
      · exact .slNone A (by rw [hx]; simpa using hρ)
    exact hk I' (ρ ++ [x]) _ _ u w' ⟨n, g, hR, rfl, rfl⟩ hk'.le (pre_append _) (hw.join hk' hc) hv2 (fun _ y hy => by
      have old : ∀ b, b < w.heap.size → w'.heap[b]? = w.heap[b]? := fun b hb => hk'.keep b hb not_live_nil
      have hlen := hw.len
      refine ⟨fun b o h1 => hy.1 b o (hk'.le b o h1), fun k s' m f b z h1 h2 o ho => ?_, fun k ms b z h1 h2 => ?_⟩
      · have hk1 := (List.getElem?_eq_some_iff.1 h1).1
        exact (hy.2.1 k s' m f b z (by rw [List.getElem?_append_left hk1]; exact h1) (by rw [List.getElem?_append_left (by omega)]; exact h2) o ho).trans (World.cell?_of_block (a := ⟨b, o, none⟩) (old b (hw.lt ⟨k, _, h1, by simp, z, h2⟩)))
      · have hk1 := (List.getElem?_eq_some_iff.1 h1).1
        exact (hy.2.2 k ms b z (by rw [List.getElem?_append_left hk1]; exact h1) (by rw [List.getElem?_append_left (by omega)]; exact h2)).trans (old b (hw.lt ⟨k, _, h1, by simp, z, h2⟩)))
theorem ar_fcall {i d : Nat} {fo : Operand} {args : List Operand} {ats : Array TypeId} {f : FuncId} {first cap vs avs : List V} {sz : Nat} {R : Nat → (Nat → V) → Prop} (hfn : FnOk P f) (hf : eo env fo = some (.fn (.func f) first cap)) (hargs : args.mapM (eo env) = some vs)
    (ha : ArgsOk false H (first ++ vs ++ cap) avs) (h : FCalls P f avs sz R) (hd : d < nt) (hk : ∀ n g, R n g → AR P r m nt ops Q l ((d, .sl sz H.length 0 n) :: env) (H ++ [.arr sz n g])) : AR P r m nt ops Q (.l i ⟨some d, .call ⟨.value fo, args.toArray, ats⟩, ty, pos, after, none⟩ keep :: l) env H :=
  ar_l (ls_fcall hfn hf hargs ha h) hd (fun v H' ⟨n, g, hR, a, b⟩ => by subst a; subst b; exact hk n g hR) (fun _ _ h => h.elim)
end
end Go.Proofs.Ytloaefllpokkaaa
namespace Go.Proofs.Ytloaefllpokkaaa
open Go.RowKit
section
variable {P : Program} {r : Option Nat} {m nt : Nat} {Q : Post} {env : Env} {H : Heap} {ops : Array Oper} {l : List Stp} {ty : TypeId} {pos : String} {after : Array Edge} {guard : Option (Nat × Bool)} {dst : Option Tmp} {T T2 E : TypeId} {d de : TyD} {x y : Operand} {keep : Bool}
theorem append_zeros_run {w : World} {i : TypeInfo} {z : Value} {n : Nat} (ht : P.underlying T = some (.slice E)) (ht2 : P.underlying T2 = some (.int .i64)) (hi : P.info? E = some i) (hz : i.zero = some z) (h0 : 0 < n) (hn : n ≤ 1000000) (hby : i.bytes ≤ 1024) (hs : i.size ≠ 0) :
    (Builtin.append_ #[T, T2] ty #[.slice none 0 0, .int .i64 (n : Int)]).run P w =
      .ok (.slice (some ⟨w.heap.size, 0, none⟩) n (grownCap w n 0 E)) (w.drew.alloc (.cells (Builtin.zeroCells z.cells n ++ Builtin.zeroCells z.cells (grownCap w n 0 E - n)) E)) := by
  have hb : n * i.bytes ≤ 1000000 * 1024 := Nat.mul_le_mul hn hby
  have hfit := growslice_fits (need := n) (old := 0) (bytes := i.bytes) h0 (by omega)
  have hn' : ¬ (n ≤ 0) := by omega
  have h63' : ¬ (9223372036854775807 < (n : Int)) := by omega
  have h48' : ¬ (281474976710656 < Builtin.nextslicecap n 0 * i.bytes) := by omega
  have hwr : IntKind.i64.wrap (n : Int) = n := wrap64 (by omega)
  have hneg : ¬ ((n : Int) < 0) := by omega
  have hbig : ¬ (281474976710656 < (n : Int) * (i.bytes : Int)) := by rw [← Int.natCast_mul]; omega
  have hn0 : ¬ n = 0 := by omega
  have hns : ¬ n * i.size = 0 := Nat.mul_ne_zero hn0 hs
  simp [Builtin.append_, run_underlying ht, run_underlying ht2, sizeOf, typeInfo, zeroValue, hi, hz, asInt, asIntOf, hwr, hneg, hbig, h63', h48', hn0, hns, Question.forced, newRow, grownCap, Builtin.firstCells]
theorem ar_append_zeros {i e n : Nat} {v : Int} (ht : TyIs P T d) (hk : d.tk = .slice E) (ht2 : P.underlying T2 = some (.int .i64)) (he : TyIs P E de) (hz : de.zero.cells.size = de.size) (hsz : de.size ≠ 0) (hby : de.bytes ≤ 1024) (hx : eo env x = some (.s (.slice none 0 0))) (hy : eo env y = some (.s (.int .i64 v))) (hv : v = (n : Int)) (h0 : 0 < n) (hn : n ≤ 1000000) (hd : e < nt)
    (h : AR P r m nt ops Q l ((e, .sl de.size H.length 0 n) :: env) (H ++ [.arr de.size 0 (fun _ => vnil)])) : AR P r m nt ops Q (.l i ⟨some e, .call ⟨.builtin .append, #[x, y], #[T, T2]⟩, ty, pos, after, none⟩ keep :: l) env H :=
  ar_l (R := fun u H' => u = .sl de.size H.length 0 n ∧ H' = H ++ [.arr de.size 0 (fun _ => vnil)]) (Rp := NoP) (.mk fun X I ρ a w next Qx hX hS hK hp => by
    obtain ⟨hE, hw, hdf⟩ := hS
    subst hv
    have hu := sval hE hx
    have hv := sval hE hy
    obtain ⟨ii, hi, hs1, hby1, hz0⟩ := he.inf
    have hrun := append_zeros_run (P := P) (w := w) (ty := ty) (ht.slice hk) ht2 hi hz0 h0 hn (by omega) (by omega)
    refine wpIn_of_run (by simp) (res := .ok (.value (.slice (some ⟨w.heap.size, 0, none⟩) n (grownCap w n 0 E))) (w.drew.alloc (.cells (Builtin.zeroCells de.zero.cells n ++ Builtin.zeroCells de.zero.cells (grownCap w n 0 E - n)) E))) (by simp [execOp, resolve, invoke, builtin, hu, hv, hrun]) ?_
    have hge := grownCap_ge w n 0 E
    have hcm := grownCap_le_maxLen w n 0 E (by unfold maxLen; omega)
    have hcs : (Builtin.zeroCells de.zero.cells n ++ Builtin.zeroCells de.zero.cells (grownCap w n 0 E - n)).size = grownCap w n 0 E * de.size := by
      rw [Array.size_append, size_zeroCells, size_zeroCells, hz, ← Nat.add_mul]
      congr 1
      omega
    have ok := WOk.alloc (w' := w.drew.alloc (.cells (Builtin.zeroCells de.zero.cells n ++ Builtin.zeroCells de.zero.cells (grownCap w n 0 E - n)) E)) (ty := E) (sz := de.size) (n := 0) (f := fun _ => vnil) hw.drew (cs := Builtin.zeroCells de.zero.cells n ++ Builtin.zeroCells de.zero.cells (grownCap w n 0 E - n)) (by simp) (fun i hi => by omega) (fun i j v hi => by omega) rfl rfl rfl rfl
    rw [hcs] at ok
    refine hK I _ _ _ _ _ ⟨rfl, rfl⟩ (Imm.le_refl _) (pre_append _) ok ?_ (fun _ => keeps_alloc hw fun b hb => Below.heap_alloc w.drew _ b hb)
    have := VRel.sl (I := I) (ρ := ρ ++ [some (w.heap.size, grownCap w n 0 E * de.size)]) (sz := de.size) (b := H.length) (i := 0) (n := n) (cb := w.heap.size) (z := grownCap w n 0 E * de.size) (c := grownCap w n 0 E) (by rw [← hw.len]; simp) (by omega) hcm (by simp)
    simpa using this) hd (fun v H' ⟨a, b⟩ => by subst a; subst b; exact h) (fun _ _ h => h.elim)
theorem qs_cap_nil {ats : Array TypeId} (ht : TyIs P T d) (hk : d.tk = .slice E) (h0 : ats[0]? = some T) (hx : eo env x = some (.s (.slice none 0 0))) : QS P nt env H ⟨dst, .call ⟨.builtin .cap, #[x], ats⟩, ty, pos, after, guard⟩ (.s (.int .i64 0)) := .mk
  fun _ I ρ a w h hw => ⟨_, .s _, fun w' _ => by simp [execOp, resolve, invoke, builtin, Builtin.cap_, sval h hx, h0, run_underlying (ht.slice hk), goInt]⟩
theorem qs_slice_nil {hi : Operand} {k : IntKind} (ht : TyIs P T d) (hk : d.tk = .slice E) (he : TyIs P E de) (hx : eo env x = some (.s (.slice none 0 0))) (hh : eo env hi = some (.s (.int k 0))) : QS P nt env H ⟨dst, .slice T x none (some hi) none, ty, pos, after, guard⟩ (.s (.slice none 0 0)) := .mk
  fun _ I ρ a w h hw => ⟨_, .s _, fun w' _ => by
    have := slice_run (P := P) (w := w') (A := none) (n := 0) (cap := 0) (l := 0) (h := 0) (m := 0) (lo := none) (hi := some (a.eval hi)) (mx := none) ht hk he rfl ⟨k, by rw [sval h hh]; rfl⟩ rfl (Nat.le_refl _) (Nat.le_refl _) (Nat.le_refl _)
    simp only [execOp, sval h hx, Sem.run_bind, Option.map_some, Option.map_none, this, Result.andThen_ok]
    rfl⟩
end
end Go.Proofs.Ytloaefllpokkaaa
namespace Go.Proofs.Ytloaefllpokkaaa
open Go.RowKit
def enumV : Nat → List V → List (Nat × V)
  | _, [] => []
  | k, v :: l => (k, v) :: enumV (k + 1) l
def flatC : List V → List V
  | [] => []
  | v :: l => v.cells ++ flatC l
theorem flatC_get {sz : Nat} : ∀ {vs : List V} {i j : Nat} {v : V}, (∀ x ∈ vs, x.cells.length = sz) → i < vs.length → (el vs i).cells[j]? = some v → (flatC vs)[i * sz + j]? = some v
  | [], i, j, v, _, hi, _ => by simp at hi
  | x :: l, 0, j, v, h, _, hv => by
    have hj : j < x.cells.length := (List.getElem?_eq_some_iff.1 hv).1
    simp only [flatC, Nat.zero_mul, Nat.zero_add]
    rw [List.getElem?_append_left hj]
    exact hv
  | x :: l, i + 1, j, v, h, hi, hv => by
    have hx := h x (List.mem_cons_self ..)
    have hh := flatC_get (vs := l) (i := i) (j := j) (v := v) (fun y hy => h y (List.mem_cons_of_mem _ hy)) (by simpa using hi) hv
    simp only [flatC]
    rw [List.getElem?_append_right (by rw [hx, Nat.succ_mul]; omega), hx, show (i + 1) * sz + j - sz = i * sz + j from (by rw [Nat.succ_mul] <;> omega)]
    exact hh
theorem buildR_enum {sz : Nat} : ∀ (vs : List V) (k : Nat) (cs : List V), (∀ v ∈ vs, v.cells.length = sz ∧ v.ok = true) → cs.length = (k + vs.length) * sz → BuildR (fun k => some (k * sz, sz)) cs (enumV k vs) (cs.take (k * sz) ++ flatC vs)
  | [], k, cs, _, hl => by
    have : cs.take (k * sz) = cs := List.take_of_length_le (by rw [hl]; simp)
    simp only [flatC, enumV, List.append_nil, this]
    exact .nil
  | v :: vs, k, cs, h, hl => by
    obtain ⟨h1, h2⟩ := h v (List.mem_cons_self ..)
    have h3 : k * sz + sz ≤ cs.length := by rw [hl, ← Nat.succ_mul]; exact Nat.mul_le_mul_right _ (by simp only [List.length_cons]; omega)
    refine .cons rfl h1 h2 h3 ?_
    have ht : (cs.take (k * sz)).length = k * sz := by rw [List.length_take]; omega
    have ih := buildR_enum vs (k + 1) (cs.take (k * sz) ++ v.cells ++ cs.drop (k * sz + sz)) (fun x hx => h x (List.mem_cons_of_mem _ hx)) (by
      simp only [List.length_append, ht, h1, List.length_drop, hl, List.length_cons]
      rw [show k + 1 + vs.length = k + (vs.length + 1) by omega]
      rw [hl] at h3
      simp only [List.length_cons] at h3
      omega)
    have e : (cs.take (k * sz) ++ v.cells ++ cs.drop (k * sz + sz)).take ((k + 1) * sz) = cs.take (k * sz) ++ v.cells := by
      rw [List.take_append_of_le_length (by rw [List.length_append, ht, h1, Nat.succ_mul]; omega), List.take_of_length_le (by rw [List.length_append, ht, h1, Nat.succ_mul]; omega)]
    rw [e] at ih
    rw [show cs.take (k * sz) ++ flatC (v :: vs) = cs.take (k * sz) ++ v.cells ++ flatC vs by simp [flatC]]
    exact ih
section
variable {P : Program} {r : Option Nat} {m nt : Nat} {Q : Post} {env : Env} {H : Heap} {ops : Array Oper} {l : List Stp} {ty : TypeId} {pos : String} {after : Array Edge} {T E : TypeId} {d de : TyD} {i dst : Nat} {keep : Bool} {α : Type} [Inhabited α]
theorem ar_buildLE {parts : Array (Nat × Operand)} {n : Nat} (e : α → V) (L : List α) (ht : TyIs P T d) (hk : d.tk = .slice E) (he : TyIs P E de) (hz : (constV de.zero).ok = true) (hzs : de.zero.cells.size = de.size) (hpos : 0 < de.size) (hn : n = L.length) (hb : n * de.size ≤ 16777216)
    (hv : parts.toList.mapM (fun p => (eo env p.2).map fun v => (p.1, v)) = some (enumV 0 (L.map e))) (hs : ∀ x, (e x).cells.length = de.size ∧ (e x).ok = true) (hd : dst < nt)
    (h : AR P r m nt ops Q l ((dst, .sl de.size H.length 0 L.length) :: env) (H ++ [LB de.size e L])) : AR P r m nt ops Q (.l i ⟨some dst, .buildSlice T n parts, ty, pos, after, none⟩ keep :: l) env H := by
  subst hn
  have hall : ∀ x ∈ L.map e, x.cells.length = de.size ∧ x.ok = true := fun x hx => by
    obtain ⟨y, _, rfl⟩ := List.mem_map.1 hx
    exact hs y
  have hB := buildR_enum (sz := de.size) (L.map e) 0 ((List.range (L.length * de.size)).map fun j => ((constV de.zero).cells)[j % de.size]!) hall (by simp)
  rw [Nat.zero_mul, List.take_zero, List.nil_append] at hB
  by_cases h0 : L.length = 0
  · refine ar_buildSlice (fun i => e (el L i)) ht hk he hz hzs hb hv hB (fun i hi => by omega) (by rw [h0]; unfold maxLen; omega) hd h
  · refine ar_buildSlice (fun i => e (el L i)) ht hk he hz hzs hb hv hB (fun i hi => ⟨(hs _).1, fun j v hj => ?_⟩) ?_ hd h
    · refine flatC_get (fun x hx => (hall x hx).1) (by simpa using hi) ?_
      rw [el_map hi]
      exact hj
    · have := Nat.le_mul_of_pos_right L.length hpos
      unfold maxLen
      omega
end
/-- Other words behind which all stands that stood. -/
structure SubK (m nt : Nat) (env : Env) (H : Heap) (env' : Env) (H' : Heap) : Prop where
  out : ∀ X I ρ a w, X.ρ.length = m → St X nt env H I ρ a w → ∃ I' ρ', I.le I' ∧ St X nt env' H' I' ρ' a w ∧ ∀ x, Keeps I' ρ' H' w x → Keeps I ρ H w x
theorem SubK.of {m nt : Nat} {env env' : Env} {H H' : Heap} (h : SubK m nt env H env' H') : SubOf m nt env H env' H' := .mk fun X I ρ a w hX hs => by
  obtain ⟨I', ρ', h1, h2, _⟩ := h.1 X I ρ a w hX hs
  exact ⟨I', ρ', h1, h2⟩
section
variable {P : Program} {r : Option Nat} {m nt : Nat} {Q : Post} {env env' : Env} {H H' : Heap} {ops : Array Oper} {l : List Stp} {ty : TypeId} {pos : String} {after : Array Edge} {i dst : Nat} {op : Op} {keep : Bool}
theorem ar_subk_l (hs : SubK m nt env H env' H') (h : AR P r m nt ops Q (.l i ⟨some dst, op, ty, pos, after, none⟩ keep :: l) env' H') : AR P r m nt ops Q (.l i ⟨some dst, op, ty, pos, after, none⟩ keep :: l) env H := .mk fun X I ρ a w hX hst => by
  obtain ⟨I', ρ', _, h2, hk⟩ := hs.1 X I ρ a w hX hst
  have h3 := h.1 X I' ρ' a w hX h2
  refine ⟨fun hw => ?_, fun hw => by rw [wanted_none rfl] at hw; cases hw⟩
  exact Oper.wpIn_mono (fun a' w' ⟨S', h4, h6, h5⟩ => ⟨S', h4, fun e x hx => hk x (h6 e x hx), h5⟩) (h3.1 hw)
end
/-- An own row is let go where it stands. -/
theorem sub_frz {m nt t sz b n N : Nat} {env : Env} {H : Heap} {f g : Nat → V} (ht : look env t = some (.sl sz b 0 n)) (hb : H[b]? = some (.arr sz N f)) (hN : n ≤ N) (hc : ∀ k, k < N → V.closed.all (f k).cells = true) (hg : ∀ k, k < n → g k = f k) :
    SubK m nt env H ((t, .list sz n g) :: env) (H.set b .dead) := .mk fun X I ρ a w _ ⟨hE, hw, hd⟩ => by
  obtain ⟨h1, h2⟩ := hE.2 t _ ht
  have hlt : b < ρ.length := by rw [hw.len]; exact (List.getElem?_eq_some_iff.1 hb).1
  have hg' : ∀ k, k < n → g k = f (0 + k) := fun k hk => by rw [Nat.zero_add]; exact hg k hk
  obtain ⟨x, hx⟩ : ∃ x, ρ[b]? = some x := ⟨_, List.getElem?_eq_getElem hlt⟩
  cases x with
  | none =>
    refine ⟨I, ρ, Imm.le_refl _, ⟨⟨hE.1, fun t' v hv => ?_⟩, hw.kill b, hd⟩, fun y hy => keeps_kill hy fun cb z h => by rw [hx] at h; cases h⟩
    rw [look_cons] at hv
    split at hv
    · rename_i e; subst e; cases hv
      exact ⟨h1, h2.lend hw hb (by omega) hc hg' (Imm.le_refl _) (fun cb z o h => by rw [hx] at h; cases h)⟩
    · exact hE.2 t' v hv
  | some q =>
    obtain ⟨cb, z⟩ := q
    have hL : Live H ρ cb := ⟨b, _, hb, by simp, z, hx⟩
    have hI := know_le (o := w.heap[cb]?) (hw.apart cb hL)
    refine ⟨know I cb (w.heap[cb]?), ρ, hI, ⟨⟨hE.1, fun t' v hv => ?_⟩, hw.forget hb (by simp) hx, hd.mono hI⟩, fun y hy => ?_⟩
    · rw [look_cons] at hv
      split at hv
      · rename_i e; subst e; cases hv
        exact ⟨h1, h2.lend hw hb (by omega) hc hg' hI (fun cb' z' o h h' => by rw [hx] at h; cases h; rw [know_at]; exact h')⟩
      · obtain ⟨h3, h4⟩ := hE.2 t' v hv
        exact ⟨h3, h4.mono hI (Pre.refl _)⟩
    · obtain ⟨y1, y2, y3⟩ := hy
      refine ⟨fun c o hc => y1 c o (hI c o hc), fun k sz' n' f' b' z' hk hρ o ho => ?_, fun k mm b' z' hk hρ => ?_⟩
      · by_cases e : k = b
        · subst e
          rw [hx] at hρ
          cases hρ
          obtain ⟨cs, ty, hcs, _⟩ := hw.arr _ _ _ _ _ _ hb hx
          have := y1 cb _ (by rw [know_at]; exact hcs)
          simp [World.cell?, this, hcs]
        · exact y2 k sz' n' f' b' z' (by rw [List.getElem?_set_ne (Ne.symm e)]; exact hk) hρ o ho
      · refine y3 k mm b' z' ?_ hρ
        by_cases e : k = b
        · subst e; rw [hb] at hk; cases hk
        · rw [List.getElem?_set_ne (Ne.symm e)]; exact hk
theorem sub_frzL {α : Type} [Inhabited α] {m nt t sz b n N : Nat} {env : Env} {H : Heap} {f : Nat → V} (e : α → V) (L : List α) (ht : look env t = some (.sl sz b 0 n)) (hb : H[b]? = some (.arr sz N f)) (hn : n = L.length) (hN : n = N) (hf : ∀ k, k < n → e (el L k) = f k) (hc : ∀ y, V.closed.all (e y).cells = true) :
    SubK m nt env H ((t, LV sz e L) :: env) (H.set b .dead) := by
  subst hn hN
  exact sub_frz ht hb (Nat.le_refl _) (fun k hk => by rw [← hf k hk]; exact hc _) hf
end Go.Proofs.Ytloaefllpokkaaa
namespace Go.Proofs.Ytloaefllpokkaaa
open Go.RowKit
theorem hgK {a b : Bool} (h : (a == b) = true) : a = b := by simpa using h
theorem hgK' {a b : Bool} (h : (a == b) = false) : ¬ a = b := by simpa using h
theorem hgKN {a b : Bool} (h : (!(a == b)) = true) : ¬ a = b := by simpa using h
theorem hgKN' {a b : Bool} (h : (!(a == b)) = false) : a = b := by simpa using h
instance hgk1 {a b : Bool} : HG ((a == b) = true) (a = b) := ⟨hgK⟩
instance hgk2 {a b : Bool} : HG ((a == b) = false) (¬ a = b) := ⟨hgK'⟩
instance hgk3 {a b : Bool} : HG ((!(a == b)) = true) (¬ a = b) := ⟨hgKN⟩
instance hgk4 {a b : Bool} : HG ((!(a == b)) = false) (a = b) := ⟨hgKN'⟩
instance hgk5 {a b : Bool} : HG ((a == b) = !false) (a = b) := ⟨hgK⟩
instance hgk6 {a b : Bool} : HG ((a == b) = !true) (¬ a = b) := ⟨hgK'⟩
instance hgk7 {a b : Bool} : HG ((!(a == b)) = !false) (¬ a = b) := ⟨hgKN⟩
instance hgk8 {a b : Bool} : HG ((!(a == b)) = !true) (a = b) := ⟨hgKN'⟩
end Go.Proofs.Ytloaefllpokkaaa
namespace Go.Proofs.Ytloaefllpokkaaa
open Go.RowKit
theorem ar_buildT {P : Program} {r : Option Nat} {m nt i dst : Nat} {Q : Post} {env : Env} {H : Heap} {ops : Array Oper} {l : List Stp} {ty T : TypeId} {pos : String} {after : Array Edge} {d : TyD} {parts : Array (Nat × Operand)} {fs : List (TypeId × Nat)} {ns : List Nat} {vs : List (Nat × V)} {ds0 : List V}
    (h : ∀ ds, ds0 = ds → AR P r m nt ops Q l ((dst, .agg ds) :: env) H) (ht : TyIs P T d) (hk : d.tk = .struct fs) (hs : SizesAre P fs ns) (hz : (constV d.zero).ok = true)
    (hv : parts.toList.mapM (fun p => (eo env p.2).map fun v => (p.1, v)) = some vs) (hb : BuildR (fun k => (List.zip (fs.map (·.2)) ns)[k]?) (constV d.zero).cells vs ds0) (hd : dst < nt) : AR P r m nt ops Q (.q i ⟨some dst, .build T parts, ty, pos, after, none⟩ :: l) env H :=
  ar_buildS ht hk hs hz hv hb hd rfl (h _ rfl)
end Go.Proofs.Ytloaefllpokkaaa
namespace Go.Proofs.Ytloaefllpokkaaa
open Go.RowKit
section
variable {H : Heap} {σ : List (Option Nat)} {fr : Nat → Prop}
def VSubsL (H : Heap) (σ : List (Option Nat)) (fr : Nat → Prop) : List V → List V → Prop
  | [], [] => True
  | v :: l, x :: m => VSub H σ fr v x ∧ VSubsL H σ fr l m
  | _, _ => False
theorem vsubsL_len : ∀ {l m : List V}, VSubsL H σ fr l m → l.length = m.length
  | [], [], _ => rfl
  | _ :: l, _ :: m, h => by simp [vsubsL_len (l := l) (m := m) h.2]
  | [], _ :: _, h => h.elim
  | _ :: _, [], h => h.elim
theorem vsubsL_get : ∀ {l m : List V}, VSubsL H σ fr l m → ∀ (j : Nat) v x, l[j]? = some v → m[j]? = some x → VSub H σ fr v x
  | [], [], _, j, v, x, h, _ => by simp at h
  | a :: l, b :: m, h, j, v, x, h1, h2 => by
    cases j with
    | zero => simp at h1 h2; subst h1 h2; exact h.1
    | succ j => exact vsubsL_get h.2 j v x (by simpa using h1) (by simpa using h2)
  | [], _ :: _, h, _, _, _, _, _ => h.elim
  | _ :: _, [], h, _, _, _, _, _ => h.elim
theorem VSub.aggL {cs ds : List V} (h : VSubsL H σ fr cs ds) : VSub H σ fr (.agg cs) (.agg ds) := .agg (vsubsL_len h) (vsubsL_get h)
end
end Go.Proofs.Ytloaefllpokkaaa
namespace Go.Proofs.Ytloaefllpokkaaa
open Go.RowKit
section
variable {P : Program} {ops : Array Oper} {r : Option Nat} {Q Q' : Exit → Act → World → Prop}
theorem drawn_go1 (hsel : Region.noSelect ops = true) (hQ : ∀ (i : Nat) (o : Oper), ops[i]? = some o → ∀ c a v w, Q (.panic c) (a.put o.dst v) w → Q (.panic c) a w) :
    ∀ (l : List Stp) (listed : Array Bool) (S : World → Prop) (a : Act) (w : World), (∀ s ∈ l, s.flat = true → ops[s.idx]? = some s.oper) → ShutL ops listed → planOk0 ops listed l = true → S w →
      runP0 P r ops Q l S a w → wpAnyS P r ops Q S (phaseEnd ops.size l) l.length listed a w
  | [], listed, S, a, w, _, _, hok, _, h => ⟨by simpa [planOk0] using hok, h⟩
  | .q i o :: l, listed, S, a, w, hn, hsh, hok, hS, h => by
    simp only [planOk0, Bool.and_eq_true] at hok
    obtain ⟨⟨⟨⟨⟨hp, hr⟩, hf⟩, hl⟩, him⟩, hok'⟩ := hok
    have hi : ops[i]? = some o := hn (.q i o) (by simp) rfl
    simp only [runP0] at h
    have hn' : ∀ s ∈ l, s.flat = true → ops[s.idx]? = some s.oper := fun s hs => hn s (by simp [hs])
    show wpAnyS P r ops Q S (phaseEnd ops.size l) (l.length + 1) listed a w
    rw [Bool.or_eq_true] at hl
    have hri : i ∈ Region.ready .any ops listed := by simpa using hr
    rcases hl with hl | hl
    · cases hw : Region.wanted o (yielded ops a.tmps)
      · exact first_S (v := undef) hp hi hsel (fun c a w => hQ i o hi c a undef w) (awaits_of hl) (by simpa using him) l.length listed a w (Region.free_spec hi hf) hsh hri (.inr ⟨hw, rfl⟩) hS
          (drawn_go1 hsel hQ l _ S _ w hn' (hsh.set hri) hok' hS (h.2 hw))
      · obtain ⟨u, h1, h2⟩ := h.1 hw
        exact first_S (v := u) hp hi hsel (fun c a w => hQ i o hi c a u w) (awaits_of hl) (by simpa using him) l.length listed a w (Region.free_spec hi hf) hsh hri (.inl ⟨hw, h1⟩) hS
          (drawn_go1 hsel hQ l _ S _ w hn' (hsh.set hri) hok' hS h2)
    · cases hw : Region.wanted o (yielded ops a.tmps)
      · exact first_still (v := undef) hp hi hsel (fun c a w => hQ i o hi c a undef w) (by simpa using him) l.length listed a w (Region.free_spec hi hf) hsh hri (.inr ⟨hw, rfl⟩) hS
          (drawn_go1 hsel hQ l _ S _ w hn' (hsh.set hri) hok' hS (h.2 hw))
      · obtain ⟨u, h1, h2⟩ := h.1 hw
        exact first_still (v := u) hp hi hsel (fun c a w => hQ i o hi c a u w) (by simpa using him) l.length listed a w (Region.free_spec hi hf) hsh hri (.inl ⟨hw, fun w' _ => still_all hl (h1 w hS) w'⟩) hS
          (drawn_go1 hsel hQ l _ S _ w hn' (hsh.set hri) hok' hS h2)
  | .l i o keep :: l, listed, S, a, w, hn, hsh, hok, hS, h => by
    simp only [planOk0, Bool.and_eq_true, beq_iff_eq] at hok
    obtain ⟨⟨hr, hk⟩, hok'⟩ := hok
    have hi : ops[i]? = some o := hn (.l i o keep) (by simp) rfl
    have hn' : ∀ s ∈ l, s.flat = true → ops[s.idx]? = some s.oper := fun s hs => hn s (by simp [hs])
    refine ⟨fun h0 => (by rw [hr] at h0; cases h0), fun j hj => ?_⟩
    have hj0 := hj
    rw [hr] at hj
    obtain rfl : j = i := by simpa using hj
    exact head_ok (R := runP0 P r ops Q l) hi hS (fun e => by rw [e] at hk; simpa using hk) (fun S' a' w' h1 h3 => drawn_go1 hsel hQ l _ S' a' w' hn' (hsh.set hj0) hok' h1 h3) h
/-- A plan without forks. -/
theorem region_drawn1 {l : List Oper} {id : Nat} {a : Act} {w : World} (ps : List (Nat × Nat)) (S : World → Prop) (hm : P.follows .mixedOrders = true) (hB : (ps.all (fun x => decide (x.1 < l.length)) && Region.noSelect l.toArray && planOk0 l.toArray (Array.replicate l.toArray.size false) (numPlan l ps) && (ps.length == l.length)) = true)
    (hQ : ∀ (i : Nat) (o : Oper), l.toArray[i]? = some o → ∀ c a v w, Q (.panic c) (a.put o.dst v) w → Q (.panic c) a w)
    (hS : S { w with drawn := w.drawn + 1 }) (h : runP0 P r l.toArray Q (numPlan l ps) S a { w with drawn := w.drawn + 1 }) : (Code.region id l.toArray true).wpIn (Fw r) 0 P Q a w := by
  simp only [Bool.and_eq_true, beq_iff_eq, List.all_eq_true, decide_eq_true_eq] at hB
  obtain ⟨⟨⟨hn, hsel⟩, hok⟩, hlen⟩ := hB
  refine wpIn_region_any hm ?_
  have := any_of_S _ _ _ _ (drawn_go1 hsel hQ (numPlan l ps) _ S a _ (fun s hs _ => by
    simp only [numPlan, List.mem_map] at hs
    obtain ⟨x, hx, rfl⟩ := hs
    have := opAt_get l x.1 (hn x hx)
    split <;> simpa [Stp.idx, Stp.oper] using this) (fun j oj _ hl => by exfalso; rw [Array.getD_eq_getD_getElem?, Array.getElem?_replicate] at hl; split at hl <;> simp at hl) hok hS h)
  rw [show (numPlan l ps).length = l.toArray.size by simp [numPlan, hlen]] at this
  exact this
/-- The register (and, if asked, the deferred calls) are avs they were. -/
structure Pin where
  t : Nat
  u : Value
  ds : Option (List Deferred)
def Pin.Ok (p : Pin) (a : Act) : Prop := a.tmps.getD p.t undef = p.u ∧ ∀ ds, p.ds = some ds → a.defers = ds
def PinQ (p : Pin) (Q : Exit → Act → World → Prop) : Exit → Act → World → Prop
  | .outgrown, a, w => Q .outgrown a w
  | e, a, w => Q e a w ∧ p.Ok a
/-- An operation of which one sees that it defers nothing. -/
def calmOp : Op → Bool
  | .move _ | .assign _ | .pick .. | .load .. | .binOp .. | .unOp .. | .convert .. | .fieldAddr .. | .field .. | .indexAddr .. | .index .. | .slice .. | .lookup .. | .extract .. | .build .. | .makeInterface .. | .makeFunc .. | .typeAssert .. | .store .. | .panic _ => true
  | _ => false
def opKeeps (t : Nat) (pd : Bool) (o : Oper) : Bool := !(o.dst == some t) && (!pd || calmOp o.op)
theorem op_dst {t : Nat} {pd : Bool} {o : Oper} (h : opKeeps t pd o = true) : o.dst ≠ some t := by
  unfold opKeeps at h
  simp only [Bool.and_eq_true] at h
  exact fun e => by rw [e] at h; simp at h
theorem op_calm {t : Nat} {o : Oper} (h : opKeeps t true o = true) : calmOp o.op = true := by
  unfold opKeeps at h
  simp only [Bool.and_eq_true] at h
  simpa using h.2
theorem val_no {s : Sem Value} {w w' : World} {d : Deferred} (h : ((do let x ← s; pure (Next.value x)) : Sem Next).run P w = .ok (.defer d) w') : False := by
  rw [Sem.run_bind] at h
  cases hs : s.run P w <;> rw [hs] at h <;> simp at h
theorem skip_no {s : Sem Unit} {w w' : World} {d : Deferred} (h : ((do s; pure Next.skip) : Sem Next).run P w = .ok (.defer d) w') : False := by
  rw [Sem.run_bind] at h
  cases hs : s.run P w <;> rw [hs] at h <;> simp at h
theorem calm_no {o : Oper} {r : Option Nat} {a : Act} {w w' : World} {d : Deferred} (ho : calmOp o.op = true) (h : (o.semAt (Fw r).round a.eval).run P w = .ok (.defer d) w') : False := by
  rw [Oper.semAt_eq _ _ _ (fun c e => by rw [e] at ho; cases ho)] at h
  unfold execOp at h
  cases hop : o.op <;> rw [hop] at h ho <;> first | (cases ho; done) | exact val_no h | exact skip_no h | (simp at h; done) | skip
  rename_i c x y
  simp only [Sem.run_bind] at h
  cases hs : (asBool (a.eval c)).run P w <;> rw [hs] at h <;> simp at h
theorem put_pin {p : Pin} {a : Act} (h : p.Ok a) {d : Option Tmp} (hd : d ≠ some p.t) (v : Value) : p.Ok (a.put d v) := by
  cases d with
  | none => exact h
  | some d =>
    have : d ≠ p.t := fun e => hd (by rw [e])
    exact ⟨by simpa [Act.put, Array.getElem?_setIfInBounds_ne this] using h.1, h.2⟩
theorem pin_put {p : Pin} {a : Act} {d : Option Tmp} (hd : d ≠ some p.t) {v : Value} (h : p.Ok (a.put d v)) : p.Ok a := by
  cases d with
  | none => exact h
  | some d =>
    have : d ≠ p.t := fun e => hd (by rw [e])
    exact ⟨by simpa [Act.put, Array.getElem?_setIfInBounds_ne this] using h.1, h.2⟩
theorem wpIn_pin {p : Pin} {o : Oper} {a : Act} {w : World} {next next' : Act → World → Prop} (hk : opKeeps p.t p.ds.isSome o = true) (ha : p.Ok a) (hn : ∀ a' w', p.Ok a' → next a' w' → next' a' w')
    (h : o.wpIn (Fw r) 0 P a w next Q) : o.wpIn (Fw r) 0 P a w next' (PinQ p Q) := by
  have hd := op_dst hk
  refine ⟨h.1, ?_⟩
  have h2 := h.2
  revert h2
  generalize hres : (o.semAt (Fw r).round a.eval).run P w = res
  intro h2
  cases res
  case ok x w' =>
    cases x
    case value v => exact hn _ _ (put_pin ha hd v) h2
    case skip => exact hn _ _ (put_pin ha hd undef) h2
    case defer d =>
      cases hds : p.ds with
      | some ds => rw [hds] at hk; exact (calm_no (op_calm hk) hres).elim
      | none => exact hn _ _ (put_pin (a := { a with defers := d :: a.defers }) ⟨ha.1, fun ds e => by rw [hds] at e; cases e⟩ hd undef) h2
    case enter f args =>
      refine ⟨h2.1, h2.2.mono fun e w'' he => ?_⟩
      cases e
      case returned v => exact hn _ _ (put_pin ha hd v) he
      case panicked c => exact ⟨he, ha⟩
      all_goals exact he
    case row row args => exact ⟨h2.1, h2.2.mono fun v w'' he => hn _ _ (put_pin ha hd v) he⟩
    case round l f tmps args body =>
      refine ⟨h2.1, h2.2.mono fun e w'' he => ?_⟩
      cases e
      case returned v => exact hn _ _ (put_pin ha hd v) he
      case panicked c => exact ⟨he, ha⟩
      all_goals exact he
    all_goals exact h2.elim
  case halt x w' =>
    cases x
    case panic v => exact ⟨h2, ha⟩
    all_goals exact h2.elim
theorem runP0_pin {p : Pin} : ∀ {l : List Stp} {S : World → Prop} {a : Act} {w : World}, (∀ s ∈ l, s.flat = true ∧ opKeeps p.t p.ds.isSome s.oper = true) → p.Ok a → runP0 P r ops Q l S a w → runP0 P r ops (PinQ p Q) l S a w
  | [], _, _, _, _, ha, h => ⟨h, ha⟩
  | .q i o :: l, S, a, w, hf, ha, h => by
    have hf' : ∀ s ∈ l, s.flat = true ∧ opKeeps p.t p.ds.isSome s.oper = true := fun s hs => hf s (by simp [hs])
    have hd : o.dst ≠ some p.t := op_dst (hf (.q i o) (by simp)).2
    refine ⟨fun hw => ?_, fun hw => runP0_pin hf' (put_pin ha hd _) (h.2 hw)⟩
    obtain ⟨v, h1, h2⟩ := h.1 hw
    exact ⟨v, h1, runP0_pin hf' (put_pin ha hd _) h2⟩
  | .l i o keep :: l, S, a, w, hf, ha, h => by
    have hf' : ∀ s ∈ l, s.flat = true ∧ opKeeps p.t p.ds.isSome s.oper = true := fun s hs => hf s (by simp [hs])
    have hk := (hf (.l i o keep) (by simp)).2
    refine ⟨fun hw => wpIn_pin hk ha ?_ (h.1 hw), fun hw => runP0_pin hf' (put_pin ha (op_dst hk) _) (h.2 hw)⟩
    rintro a' w' ha' ⟨S', h1, h2, h3⟩
    exact ⟨S', h1, h2, runP0_pin hf' ha' h3⟩
  | .fork ps :: l, S, a, w, hf, _, _ => by have := (hf (.fork ps) (by simp)).1; cases this
theorem runP_pin {p : Pin} : ∀ {l : List Stp} {S : World → Prop} {a : Act} {w : World}, (∀ s ∈ l, s.flat = true ∧ opKeeps p.t p.ds.isSome s.oper = true) → p.Ok a → runP P r ops Q l S a w → runP P r ops (PinQ p Q) l S a w
  | [], _, _, _, _, ha, h => ⟨h, ha⟩
  | .q i o :: l, S, a, w, hf, ha, h => by
    have hf' : ∀ s ∈ l, s.flat = true ∧ opKeeps p.t p.ds.isSome s.oper = true := fun s hs => hf s (by simp [hs])
    have hd : o.dst ≠ some p.t := op_dst (hf (.q i o) (by simp)).2
    refine ⟨fun hw => ?_, fun hw => runP_pin hf' (put_pin ha hd _) (h.2 hw)⟩
    obtain ⟨v, h1, h2⟩ := h.1 hw
    exact ⟨v, h1, runP_pin hf' (put_pin ha hd _) h2⟩
  | .l i o keep :: l, S, a, w, hf, ha, h => by
    have hf' : ∀ s ∈ l, s.flat = true ∧ opKeeps p.t p.ds.isSome s.oper = true := fun s hs => hf s (by simp [hs])
    have hk := (hf (.l i o keep) (by simp)).2
    refine ⟨fun hw => wpIn_pin hk ha ?_ (h.1 hw), fun hw => runP_pin hf' (put_pin ha (op_dst hk) _) (h.2 hw)⟩
    rintro a' w' ha' ⟨S', h1, h2, h3⟩
    exact ⟨S', h1, h2, runP_pin hf' ha' h3⟩
  | .fork ps :: l, S, a, w, hf, _, _ => by have := (hf (.fork ps) (by simp)).1; cases this
end
namespace Pn
/-- The walk of a piece of code that keeps register t and defers nothing. -/
structure AW (t : Nat) (pd : Bool) (P : Program) (r : Option Nat) (m nt : Nat) (c : Code) (Q : Post) (env : Env) (H : Heap) : Prop where
  out : ∀ X I ρ a w (p : Pin), p.t = t → p.ds.isSome = pd → X.ρ.length = m → St X nt env H I ρ a w → p.Ok a → c.wpIn (Fw r) 0 P (PinQ p (Lift X nt Q)) a w
section
variable {t : Nat} {pd : Bool} {P : Program} {r : Option Nat} {m nt : Nat} {Q Q' : Post} {env env' : Env} {H H' : Heap}
theorem aw_skip (h : Q .normal env H) : AW t pd P r m nt .skip Q env H := .mk fun _ I ρ _ _ _ _ _ _ hs ha => wpIn_skip ⟨⟨env, H, I, ρ, hs, h⟩, ha⟩
theorem aw_exit {id : Nat} (h : Q (.exit id) env H) : AW t pd P r m nt (.exit id) Q env H := .mk fun _ I ρ _ _ _ _ _ _ hs ha => wpIn_exit ⟨⟨env, H, I, ρ, hs, h⟩, ha⟩
theorem aw_ret (h : Q .ret env H) : AW t pd P r m nt .ret Q env H := .mk fun _ I ρ _ _ _ _ _ _ hs ha => wpIn_ret ⟨⟨env, H, I, ρ, hs, h⟩, ha⟩
theorem aw_seq {x y : Code} (h : AW t pd P r m nt x (AE.then (AW t pd P r m nt y Q) Q) env H) : AW t pd P r m nt (.seq x y) Q env H := .mk
  fun X I ρ a w p hp hq0 hX hs ha => wpIn_seq (wpIn_mono (h.1 X I ρ a w p hp hq0 hX hs ha) fun e a' w' hl => by
    cases e with
    | normal => obtain ⟨⟨env', H', I', ρ', hs', hq⟩, ha'⟩ := hl; exact hq.1 X I' ρ' a' w' p hp hq0 hX hs' ha'
    | exit _ => exact hl
    | goto _ => exact hl
    | ret => exact hl
    | panic _ => exact hl
    | outgrown => exact hl)
theorem aw_cond {c : Operand} {x y : Code} {b : Bool} (hc : eo env c = some (.s (.bool b))) (ht : b = true → AW t pd P r m nt x Q env H) (hf : b = false → AW t pd P r m nt y Q env H) : AW t pd P r m nt (.cond c x y) Q env H := .mk
  fun X I ρ a w p hp hq hX hs ha => wpIn_cond_split (eo_bool hs.1 hc) (fun e => (ht e).1 X I ρ a w p hp hq hX hs ha) (fun e => (hf e).1 X I ρ a w p hp hq hX hs ha)
theorem aw_block {id : Nat} {c : Code} (h : AW t pd P r m nt c (AE.inBlock id Q) env H) : AW t pd P r m nt (.block id c) Q env H := .mk
  fun X I ρ a w p hp hq hX hs ha => wpIn_block (wpIn_mono (h.1 X I ρ a w p hp hq hX hs ha) fun e a w h => by
    cases e with
    | exit id' =>
      obtain ⟨⟨env, H, I, ρ, hs, hq⟩, ha⟩ := h
      simp only [AE.inBlock] at hq
      simp only [Exit.inBlock]
      cases hb : Nat.beq id' id
      · rw [hb] at hq
        rw [if_neg (fun e => by rw [e, Nat.beq_refl] at hb; cases hb)]
        exact ⟨⟨env, H, I, ρ, hs, hq⟩, ha⟩
      · rw [hb] at hq
        rw [if_pos (Nat.eq_of_beq_eq_true hb)]
        exact ⟨⟨env, H, I, ρ, hs, hq⟩, ha⟩
    | normal => exact h
    | goto _ => exact h
    | ret => exact h
    | panic _ => exact h
    | outgrown => exact h)
theorem aw_region {l : List Oper} {id : Nat} (h : AR P r m nt l.toArray Q (textPlan l 0) env H) (hk : l.all (opKeeps t pd) = true := by rfl) : AW t pd P r m nt (.region id l.toArray false) Q env H := .mk fun X I ρ a w p hp hq hX hs ha => by
  subst hp hq
  exact region_text (Keeps I ρ H w) (Keeps.refl hs.2.1) (runP_pin (fun s hs => ⟨textPlan_flat l 0 s hs, (by
    have key : ∀ (l : List Oper) (n : Nat), l.all (opKeeps p.t p.ds.isSome) = true → ∀ s ∈ textPlan l n, opKeeps p.t p.ds.isSome s.oper = true := fun l => by
      induction l with
      | nil => intro n _ s hs; simp [textPlan] at hs
      | cons o l ih =>
        intro n hl s hs
        simp only [List.all_cons, Bool.and_eq_true] at hl
        unfold textPlan at hs
        rcases List.mem_cons.1 hs with h | h
        · rw [h]; cases plainOp o.op <;> exact hl.1
        · exact ih _ hl.2 s h
    exact key l 0 hk s hs)⟩) ha (h.1 X I ρ a w hX hs))
theorem aw_drawn {l : List Oper} {id : Nat} (ps : List (Nat × Nat)) (hm : P.follows .mixedOrders = true) (_hB : drawnOk l ps = true) (h : AR P r m nt l.toArray Q (numPlan l ps) env H)
    (hB0 : (ps.all (fun x => decide (x.1 < l.length)) && Region.noSelect l.toArray && planOk0 l.toArray (Array.replicate l.toArray.size false) (numPlan l ps) && (ps.length == l.length)) = true := by kernel_rfl) (hk : l.all (opKeeps t pd) = true := by kernel_rfl) :
    AW t pd P r m nt (.region id l.toArray true) Q env H := .mk fun X I ρ a w p hp hq hX hs ha => by
  subst hp hq
  have hdl : ∀ o ∈ l, opKeeps p.t p.ds.isSome o = true := List.all_eq_true.1 hk
  refine region_drawn1 ps (Keeps I ρ H w) hm hB0 (fun i o hi c a' v w' hp => ⟨lift_put c a' o.dst v w' hp.1, pin_put (op_dst (hdl o (List.mem_of_getElem? (show l[i]? = some o by simpa using hi)))) hp.2⟩) (Keeps.refl (X := X) hs.2.1.drew) ?_
  refine runP0_pin (fun s hs' => ⟨numPlan_flat l ps s hs', ?_⟩) ha (run0 (numPlan_flat l ps) (h.1 X I ρ a _ hX ⟨hs.1, hs.2.1.drew, hs.2.2⟩))
  simp only [Bool.and_eq_true, List.all_eq_true, decide_eq_true_eq] at hB0
  unfold numPlan at hs'
  obtain ⟨x, hx, rfl⟩ := List.mem_map.1 hs'
  have := hdl _ (List.mem_of_getElem? (opAt_get l x.1 (hB0.1.1.1 x hx)))
  split <;> exact this
theorem aw_sub {c : Code} (hs : SubOf m nt env H env' H') (h : AW t pd P r m nt c Q env' H') : AW t pd P r m nt c Q env H := .mk fun X I ρ a w p hp hq hX h1 ha => by
  obtain ⟨I', ρ', _, h2⟩ := hs.1 X I ρ a w hX h1
  exact h.1 X I' ρ' a w p hp hq hX h2 ha
end
end Pn
theorem qs_build_arr {P : Program} {nt n : Nat} {env : Env} {H : Heap} {T E : TypeId} {d de : TyD} {dst : Option Tmp} {ty : TypeId} {pos : String} {after : Array Edge} {guard : Option (Nat × Bool)} {parts : Array (Nat × Operand)} {vs : List (Nat × V)} {ds : List V} (ht : TyIs P T d) (hk : d.tk = .array n E) (he : TyIs P E de) (hz : (constV d.zero).ok = true)
    (hv : parts.toList.mapM (fun p => (eo env p.2).map fun v => (p.1, v)) = some vs) (hb : BuildR (fun k => some (k * de.size, de.size)) (constV d.zero).cells vs ds) :
    QS P nt env H ⟨dst, .build T parts, ty, pos, after, guard⟩ (.agg ds) := .mk fun X I ρ a w h hw => by
  obtain ⟨e1, e2⟩ := evals2 h hv
  obtain ⟨out, h1, h2⟩ := fill_rel (I := I) (ρ := ρ) hb e1 e2 ((constV_rel I ρ d.zero).cells (V.ok_ne hz))
  refine ⟨.agg out, .agg h2.1 h2.2, fun w' _ => ?_⟩
  have h1' : Instr.fill (fun i => some (i * de.size, de.size)) d.zero.cells (parts.map fun p => (p.1, a.eval p.2)).toList = some out := by
    rw [← h1]
    simp
  simp only [execOp, Instr.build, Sem.run_bind, ht.zeroV, Result.andThen_ok, run_underlying (ht.arr hk), he.sizeOf]
  rw [h1']
  rfl
end Go.Proofs.Ytloaefllpokkaaa
namespace Go.Proofs.Ytloaefllpokkaaa
open Go.RowKit
/-- Maps that lie from block B on stay avs they are. -/
def KpW (B : Nat) (W W' : World) : Prop := ∀ r es clk, B ≤ r → W.heap[r]? = some (.map es clk) → W'.heap[r]? = some (.map es clk)
def RowMap (B : Nat) (W : World) (row : Option Nat) : Prop := ∀ r, row = some r → B ≤ r ∧ ∃ es clk, W.heap[r]? = some (.map es clk)
/-- An iterator whose closure holds 'vs': it hands over 'el 0', 'el 1', .. 'el (N - 1)', avs long avs the loop goes on; it may keep maps of its own. -/
structure IterX (P : Program) (gf : FuncId) (vs : List V) (N : Nat) (el : Nat → List Value) : Prop where
  out : ∀ (I : Imm) us (l : Nat) (J : Nat → World → Prop) (K : World → Prop) (W : World), (∀ b o, I b = some o → W.heap[b]? = some o) → VRels I [] vs us →
    (∀ k W1 W2 row, J k W1 → W1.grownBy W2 row → RowMap W.heap.size W1 row → J k W2) →
    (∀ k W1, J k W1 → k < N → YieldAt Fence.wide 0 P l (el k).toArray W1 fun e W' => ((e = .returned (.bool true) ∧ J (k + 1) W') ∨ (e = .returned (.bool false) ∧ K W')) ∧ KpI I W1 W' ∧ KpW W.heap.size W1 W') → J 0 W →
    CallsIn Fence.wide 1 P gf (#[.func (.yield l) #[] #[]] ++ us) W fun e W' => (∃ v, e = .returned v) ∧ (J N W' ∨ K W')
def NoMaps (G : Heap) : Prop := ∀ (b : Nat) ms, G[b]? ≠ some (.map ms)
/-- The end of a round: off its end, or by a jump out of the loop. -/
def RangeXQ (m nt : Nat) (G' : Heap) (E : AE → Heap → Prop) : Post
  | .normal, env, H => SubOf m nt env H [] G'
  | .ret, env, H => ∃ GX, NoMaps GX ∧ SubOf m nt env H [] GX ∧ E .ret GX
  | .exit id, env, H => ∃ GX, NoMaps GX ∧ SubOf m nt env H [] GX ∧ E (.exit id) GX
  | _, _, _ => False
end Go.Proofs.Ytloaefllpokkaaa
namespace Go.Proofs.Ytloaefllpokkaaa
open Go.RowKit
/-- The walk of a piece of code within a round of loop lp, whose record is known. -/
structure AWN (P : Program) (lp m nt : Nat) (c : Code) (Q : Post) (env : Env) (H : Heap) : Prop where
  out : ∀ X I ρ a w, X.ρ.length = m → (∃ r0, X.I lp = some (.loop r0)) → St X nt env H I ρ a w → c.wpIn (Fw (some lp)) 0 P (Lift X nt Q) a w
section
variable {P : Program} {lp m nt : Nat} {Q : Post} {env : Env} {H : Heap}
theorem awn_of {c : Code} (h : AW P (some lp) m nt c Q env H) : AWN P lp m nt c Q env H := .mk fun X I ρ a w hX _ hs => h.1 X I ρ a w hX hs
theorem awn_seq {x y : Code} (h : AW P (some lp) m nt x (AE.then (AWN P lp m nt y Q) Q) env H) : AWN P lp m nt (.seq x y) Q env H := .mk
  fun X I ρ a w hX hR hs => wpIn_seq (wpIn_mono (h.1 X I ρ a w hX hs) (lift_then fun _ _ I ρ a w hs h => h.1 X I ρ a w hX hR hs))
theorem awn_block {id : Nat} {c : Code} (h : AWN P lp m nt c (AE.inBlock id Q) env H) : AWN P lp m nt (.block id c) Q env H := .mk
  fun X I ρ a w hX hR hs => wpIn_block (wpIn_mono (h.1 X I ρ a w hX hR hs) fun e a w h => by
    cases e with
    | exit id' =>
      obtain ⟨env, H, I, ρ, hs, hq⟩ := h
      simp only [AE.inBlock] at hq
      simp only [Exit.inBlock]
      cases hb : Nat.beq id' id
      · rw [hb] at hq
        rw [if_neg (fun e => by rw [e, Nat.beq_refl] at hb; cases hb)]
        exact ⟨env, H, I, ρ, hs, hq⟩
      · rw [hb] at hq
        rw [if_pos (Nat.eq_of_beq_eq_true hb)]
        exact ⟨env, H, I, ρ, hs, hq⟩
    | normal => exact h
    | goto _ => exact h
    | ret => exact h
    | panic _ => exact h
    | outgrown => exact h)
end
set_option maxHeartbeats 1000000 in
theorem aw_rangeXN {P : Program} {m nt : Nat} {Q : Post} {env : Env} {H : Heap} {g : Operand} {ps : Array Tmp} {assign body : Code} {gf : FuncId} {vs : List V} {N : Nat} {el : Nat → List Value} (G : Nat → Heap)
    (hg : eo env g = some (.fn (.func gf) [] vs)) (hvs : V.closed.all vs = true) (hfn : FnOk P gf) (hit : IterX P gf vs N el) (hps : ∀ k, k < N → (el k).length = ps.size) (hpn : ∀ p ∈ ps.toList, p < nt)
    (hmaps : ∀ k, NoMaps (G k)) (h0 : SubOf H.length nt env H [] (G 0))
    (round : ∀ k lp, k < N → AW P (some lp) H.length nt assign (AE.then (fun env1 H1 => NoMaps H1 ∧ AWN P lp H.length nt body (RangeXQ H.length nt (G (k + 1)) (fun e GX => Q e env GX)) env1 H1) (fun _ _ _ => False)) (setsE (ps.toList.zip (el k)) env) (G k)) (hdone : Q .normal env (G N)) : AW P none m nt (.rangeFunc g ps assign body) Q env H := by
  classical
  refine ⟨fun X I ρ a w hX hst => ?_⟩
  obtain ⟨hE, hw, hD⟩ := hst
  refine (wpIn_wide (n := 0)).2 ((wpIn_wide (n := 2)).1 (wpIn_rangeFunc (F := Fence.wide) ?_))
  intro fn hfn'
  have hIlt : ∀ b o, I b = some o → b < w.heap.size := fun b o hb => (Array.getElem?_eq_some_iff.1 (hw.imm b o hb)).1
  -- the iterator's value
  have hgv := eo_rel hE hg
  obtain ⟨lb, hev, hrel⟩ : ∃ lb, a.eval g = .func (.func gf) #[] lb ∧ VRels I [] vs lb := by
    cases e : a.eval g <;> rw [e] at hgv <;> cases hgv
    rename_i us ws h1 h2 h3 h4
    have : us = #[] := by cases us; simp at h1; simp [h1]
    subst this
    exact ⟨ws, rfl, h3, fun j v u hj hu => (h4 j v u hj hu).close (closed_all hvs hj)⟩
  obtain ⟨rec, hrec⟩ : ∃ rec : LoopState → Option Code → Loop, rec = fun st pe => { state := st, pending := pe, fn, tmps := a.tmps, params := ps, assign, body, defers := w.heap.size } := ⟨_, rfl⟩
  obtain ⟨W1, hW1⟩ : ∃ W1, (w.alloc (.deferred (some []))).alloc (.loop (rec .ready none)) = W1 := ⟨_, rfl⟩
  have hL1 : W1.heap[w.heap.size + 1]? = some (.loop (rec .ready none)) := by
    rw [← hW1]; have := World.alloc_heap_new (w.alloc (.deferred (some []))) (.loop (rec .ready none)); rwa [World.size_alloc] at this
  have hK1 : W1.heap[w.heap.size]? = some (.deferred (some [])) := by
    rw [← hW1]; exact (Below.heap_alloc _ _ _ (by simp)).trans (World.alloc_heap_new w _)
  -- between two rounds
  let InvH : Heap → World → Prop := fun GX W => ∃ I' ρ', WOk (Ctx.self w ρ H I) I' ρ' GX W ∧ ∀ b o, I' b = some o → I b = some o ∨ o.isCells = true
  let Inv : Nat → World → Prop := fun k W => InvH (G k) W
  have growI : ∀ GX W W' row I' ρ', NoMaps GX → WOk (Ctx.self w ρ H I) I' ρ' GX W → (∀ b o, I' b = some o → I b = some o ∨ o.isCells = true) → W.grownBy W' row → (∀ r, row = some r → w.heap.size ≤ r ∧ ∃ o : Obj, W.heap[r]? = some o ∧ o.isCells = false) → WOk (Ctx.self w ρ H I) I' ρ' GX W' := by
    intro GX W W' row I' ρ' hno h1 h2 hg hr
    refine h1.grown hg (fun r e => ?_) hno
    obtain ⟨h3, o, h4, h5⟩ := hr r e
    refine ⟨h3, ?_, o, h4, h5⟩
    cases e' : I' r with
    | none => rfl
    | some o' =>
      have h6 := h1.imm r o' e'
      rw [h4] at h6; cases h6
      rcases h2 r _ e' with h7 | h7
      · have := hIlt r _ h7; omega
      · rw [h5] at h7; cases h7
  have invGrowH : ∀ GX W W' row, NoMaps GX → InvH GX W → W.grownBy W' row → (∀ r, row = some r → w.heap.size ≤ r ∧ ∃ o : Obj, W.heap[r]? = some o ∧ o.isCells = false) → InvH GX W' := by
    rintro GX W W' row hno ⟨I', ρ', h1, h2⟩ hg hr
    refine ⟨I', ρ', h1.grown hg (fun r e => ?_) hno, h2⟩
    obtain ⟨h3, o, h4, h5⟩ := hr r e
    refine ⟨h3, ?_, o, h4, h5⟩
    cases e' : I' r with
    | none => rfl
    | some o' =>
      have h6 := h1.imm r o' e'
      rw [h4] at h6; cases h6
      rcases h2 r _ e' with h7 | h7
      · have := hIlt r _ h7; omega
      · rw [h5] at h7; cases h7
  have invGrow : ∀ k W W' row, Inv k W → W.grownBy W' row → (∀ r, row = some r → w.heap.size ≤ r ∧ ∃ o : Obj, W.heap[r]? = some o ∧ o.isCells = false) → Inv k W' := fun k W W' row => invGrowH (G k) W W' row (hmaps k)
  have cutInvH : ∀ GX W I' ρ', WOk (Ctx.self w ρ H I) I' ρ' GX W → InvH GX W := fun GX W I' ρ' h1 => by
    let I4 : Imm := fun b => if I b = none ∧ (∀ o, I' b = some o → o.isCells = false) then none else I' b
    refine ⟨I4, ρ', h1.cut (fun b o hb => ?_) (fun b o hb => ?_) (fun b cs ty fz hb => ?_), fun b o hb => ?_⟩
    · have hb : (if I b = none ∧ (∀ o, I' b = some o → o.isCells = false) then none else I' b) = some o := hb
      split at hb
      · cases hb
      · exact hb
    · show (if I b = none ∧ (∀ o, I' b = some o → o.isCells = false) then none else I' b) = some o
      have hb' : I b = some o := hb
      rw [if_neg (fun h => by rw [hb'] at h; cases h.1)]
      exact h1.le b o hb
    · show (if I b = none ∧ (∀ o, I' b = some o → o.isCells = false) then none else I' b) = _
      rw [if_neg (fun h => by have := h.2 _ hb; cases this)]
      exact hb
    · have hb : (if I b = none ∧ (∀ o, I' b = some o → o.isCells = false) then none else I' b) = some o := hb
      split at hb
      · cases hb
      · rename_i hno
        cases hI : I b with
        | none =>
          right
          cases ho : o.isCells with
          | true => rfl
          | false => exact (hno ⟨hI, fun o' ho' => by rw [hb] at ho'; cases ho'; exact ho⟩).elim
        | some o2 =>
          have := h1.le b o2 hI
          rw [hb] at this; cases this
          exact .inl rfl
  have cutE : ∀ GX W I' ρ' env1 a1, WOk (Ctx.self w ρ H I) I' ρ' GX W → EnvOk I' ρ' nt env1 a1 → ∃ I4, WOk (Ctx.self w ρ H I) I4 ρ' GX W ∧ (∀ b o, I4 b = some o → I b = some o ∨ o.isCells = true) ∧ EnvOk I4 ρ' nt env1 a1 := fun GX W I' ρ' env1 a1 h1 he1 => by
    let I4 : Imm := fun b => if I b = none ∧ (∀ o, I' b = some o → o.isCells = false) then none else I' b
    have hcut : ∀ b cs ty fz, I' b = some (.cells cs ty fz) → I4 b = some (.cells cs ty fz) := fun b cs ty fz hb => by
      show (if I b = none ∧ (∀ o, I' b = some o → o.isCells = false) then none else I' b) = _
      rw [if_neg (fun h => by have := h.2 _ hb; cases this)]
      exact hb
    refine ⟨I4, h1.cut (fun b o hb => ?_) (fun b o hb => ?_) hcut, fun b o hb => ?_, he1.1, fun t v ht => ⟨(he1.2 t v ht).1, (he1.2 t v ht).2.cut hcut⟩⟩
    · have hb : (if I b = none ∧ (∀ o, I' b = some o → o.isCells = false) then none else I' b) = some o := hb
      split at hb
      · cases hb
      · exact hb
    · show (if I b = none ∧ (∀ o, I' b = some o → o.isCells = false) then none else I' b) = some o
      have hb' : I b = some o := hb
      rw [if_neg (fun h => by rw [hb'] at h; cases h.1)]
      exact h1.le b o hb
    · have hb : (if I b = none ∧ (∀ o, I' b = some o → o.isCells = false) then none else I' b) = some o := hb
      split at hb
      · cases hb
      · rename_i hno
        cases hI : I b with
        | none =>
          right
          cases ho : o.isCells with
          | true => rfl
          | false => exact (hno ⟨hI, fun o' ho' => by rw [hb] at ho'; cases ho'; exact ho⟩).elim
        | some o2 =>
          have := h1.le b o2 hI
          rw [hb] at this; cases this
          exact .inl rfl
  have cutInv : ∀ k W I' ρ', WOk (Ctx.self w ρ H I) I' ρ' (G k) W → Inv k W := fun k => cutInvH (G k)
  have hInv0 : Inv 0 W1 := by
    have hself : St (Ctx.self w ρ H I) nt env H I ρ { a with defers := [] } w := ⟨hE, hw.self, DOk.nil rfl⟩
    obtain ⟨I1, ρ1, hle, h2⟩ := h0.1 (Ctx.self w ρ H I) I ρ _ w hw.len hself
    have h3 := cutInv 0 w I1 ρ1 h2.2.1
    rw [← hW1]
    refine invGrow 0 _ _ none (invGrow 0 _ _ none h3 (World.grownBy_alloc _ _ none) (fun r e => by cases e)) (World.grownBy_alloc _ _ none) (fun r e => by cases e)
  -- left by a jump
  let Left : World → Prop := fun W => ∃ (e : AE) (c : Code) (GX : Heap), ((e = .ret ∧ c = .ret) ∨ (∃ id, e = .exit id ∧ c = .exit id)) ∧ NoMaps GX ∧ InvH GX W ∧ Q e env GX ∧ W.heap[w.heap.size + 1]? = some (.loop { rec .ready (some c) with state := .done }) ∧ W.heap[w.heap.size]? = some (.deferred (some []))
  have hB : W1.heap.size = w.heap.size + 2 := by rw [← hW1]; simp
  refine ⟨w.heap.size + 1, [{ target := .collected w.heap.size, args := #[] }], W1, { target := .fn (.func gf) lb, args := #[.func (.yield (w.heap.size + 1)) #[] #[]] }, W1, gf,
    #[.func (.yield (w.heap.size + 1)) #[] #[]] ++ lb, W1, ?_, ?_, ?_, ?_, fun _ => by omega, ?_⟩
  · rw [← hW1, hrec]; exact run_enterLoop_outer _ _ _ _ _
  · simp only [resolve, hev]
    simp [go_sem]
  · intro f' hf'; simp [Target.leads] at hf'; subst hf'; exact trivial
  · have := hfn
    simp only [FnOk] at this
    simp [invoke, go_sem, this]
  · refine (hit.out I lb (w.heap.size + 1) (fun k W => Inv k W ∧ W.heap[w.heap.size + 1]? = some (.loop (rec .ready none)) ∧ W.heap[w.heap.size]? = some (.deferred (some []))) Left W1 ?_ hrel ?_ ?_ ⟨hInv0, hL1, hK1⟩).mono ?_
    · intro b o hb
      have hlt := hIlt b o hb
      rw [← hW1]
      exact (Below.heap_alloc _ _ _ (by simp; omega)).trans ((Below.heap_alloc _ _ _ hlt).trans (hw.imm b o hb))
    · rintro k W W' row ⟨h1, h2, h3⟩ hg hr
      refine ⟨invGrow k W W' row h1 hg (fun r e => by obtain ⟨a, es, clk, b⟩ := hr r e; exact ⟨by omega, _, b, rfl⟩), ?_, ?_⟩
      · exact (hg.block _ (Array.getElem?_eq_some_iff.1 h2).1 (fun e => by obtain ⟨a, es, clk, b⟩ := hr _ e.symm; omega)).trans h2
      · exact (hg.block _ (Array.getElem?_eq_some_iff.1 h3).1 (fun e => by obtain ⟨a, es, clk, b⟩ := hr _ e.symm; omega)).trans h3
    · -- one round
      rintro k W ⟨hi, hl, hk⟩ hlen
      have hlt : w.heap.size + 1 < W.heap.size := (Array.getElem?_eq_some_iff.1 hl).1
      have hy := run_yield (P := P) (args := (el k).toArray) hl (by rw [hrec]; simpa using hps k hlen)
      rw [hrec] at hy
      refine ⟨fn, _, assign, body, hy, roundIn_of_wpIn hfn' ?_⟩
      have hE1 : EnvOk I ρ nt (setsE (ps.toList.zip (el k)) env) { tmps := (ps.toList.zip (el k)).foldl (fun t pv => t.setIfInBounds pv.1 pv.2) a.tmps, defers := [] } :=
        env_sets _ _ _ hE fun p hp => hpn p.1 (List.of_mem_zip hp).1
      have etmps : (ps.zip (el k).toArray).foldl (fun t (p, v) => t.setIfInBounds p v) a.tmps = (ps.toList.zip (el k)).foldl (fun t pv => t.setIfInBounds pv.1 pv.2) a.tmps := by
        rw [← Array.foldl_toList, Array.toList_zip]
      rw [← etmps] at hE1
      obtain ⟨Ia, ρa, hwa, hca⟩ := hi
      let Ib : Imm := fun b => if Ia b = none ∧ w.heap.size ≤ b ∧ (∃ o, W.heap[b]? = some o ∧ o.isCells = false) then W.heap[b]? else Ia b
      have hleb : Ia.le Ib := fun b o hb => by
        show (if Ia b = none ∧ w.heap.size ≤ b ∧ (∃ o, W.heap[b]? = some o ∧ o.isCells = false) then W.heap[b]? else Ia b) = some o
        rw [if_neg (fun h => by rw [hb] at h; cases h.1)]
        exact hb
      have notLivea : ∀ b o, W.heap[b]? = some o → o.isCells = false → ¬ Live (G k) ρa b := by
        rintro b o hb ho ⟨j, blk, h1, h2, z, h3⟩
        cases blk with
        | dead => exact h2 rfl
        | map ms => exact hmaps k j ms h1
        | arr sz n f =>
          obtain ⟨cs, ty, h4, _⟩ := hwa.arr _ _ _ _ _ _ h1 h3
          rw [hb] at h4; cases h4; cases ho
      have hwb : WOk (Ctx.self w ρ H I) Ib ρa (G k) W := hwa.more hleb (fun b o hb => by
          have hb : (if Ia b = none ∧ w.heap.size ≤ b ∧ (∃ o, W.heap[b]? = some o ∧ o.isCells = false) then W.heap[b]? else Ia b) = some o := hb
          split at hb
          · exact hb
          · exact hwa.imm b o hb) (fun b hb => by
          have hb : (if Ia b = none ∧ w.heap.size ≤ b ∧ (∃ o, W.heap[b]? = some o ∧ o.isCells = false) then W.heap[b]? else Ia b) ≠ none := hb
          split at hb
          · rename_i h
            obtain ⟨_, h1, o, h2, h3⟩ := h
            exact .inr ⟨h1, notLivea b o h2 h3⟩
          · exact .inl hb)
      have inIb : ∀ b o, w.heap.size ≤ b → W.heap[b]? = some o → o.isCells = false → Ib b = some o := fun b o h1 h2 h3 => by
        show (if Ia b = none ∧ w.heap.size ≤ b ∧ (∃ o, W.heap[b]? = some o ∧ o.isCells = false) then W.heap[b]? else Ia b) = some o
        split
        · exact h2
        · rename_i hno
          cases e : Ia b with
          | none => exact (hno ⟨e, h1, o, h2, h3⟩).elim
          | some o' => have := hwa.imm b o' e; rw [h2] at this; cases this; rfl
      refine wpIn_mono ((round k (w.heap.size + 1) hlen).1 ⟨w, ρ, H, Ib, []⟩ Ib ρa _ W hw.len ⟨(hE1.mono hwa.le hwa.pre).mono hleb (Pre.refl _), hwb.ctx, DOk.nil rfl⟩) fun e a1 Wm hq => ?_
      cases e with
      | exit _ => obtain ⟨_, _, _, _, _, h⟩ := hq; exact h.elim
      | goto _ => obtain ⟨_, _, _, _, _, h⟩ := hq; exact h.elim
      | ret => obtain ⟨_, _, _, _, _, h⟩ := hq; exact h.elim
      | panic _ => obtain ⟨_, _, _, _, _, _, _, _, _, h⟩ := hq; exact h.elim
      | outgrown => exact hq.elim
      | normal =>
      obtain ⟨env1, H1, I3, ρ3, ⟨hE3, hw3, hD3⟩, hno1, hbodyN⟩ := hq
      have hlm : Wm.heap[(w.heap.size + 1)]? = some (.loop (rec .ready none)) := hw3.imm _ _ (hw3.le _ _ (inIb _ _ (by omega) hl rfl))
      have hkm : Wm.heap[w.heap.size]? = some (.deferred (some [])) := hw3.imm _ _ (hw3.le _ _ (inIb _ _ (Nat.le_refl _) hk rfl))
      have hltm : (w.heap.size + 1) < Wm.heap.size := (Array.getElem?_eq_some_iff.1 hlm).1
      refine ⟨_, run_beginRound hlm (by rw [hrec]), ?_⟩
      obtain ⟨W2, hW2⟩ : ∃ W2, Wm.putObj (w.heap.size + 1) (.loop { rec .ready none with state := .busy }) = W2 := ⟨_, rfl⟩
      rw [hW2]
      have hl2 : W2.heap[(w.heap.size + 1)]? = some (.loop { rec .ready none with state := .busy }) := by rw [← hW2]; exact World.putObj_heap_same hltm
      have hk2 : W2.heap[w.heap.size]? = some (.deferred (some [])) := by rw [← hW2]; exact (World.putObj_heap_other (by omega)).trans hkm
      have hw3' : WOk (Ctx.self w ρ H I) I3 ρ3 H1 Wm := WOk.unctx (X := Ctx.self w ρ H I) (K := Ib) hw3 (Imm.le_trans hwa.le hleb) fun b hb => hwb.news b hb
      obtain ⟨I4, hwk0, hcells, hE4⟩ := cutE H1 Wm I3 ρ3 env1 a1 hw3' hE3
      have hwk : WOk (Ctx.self w ρ H I) I4 ρ3 H1 W2 := by
        rw [← hW2]
        exact growI H1 Wm _ (some (w.heap.size + 1)) I4 ρ3 hno1 hwk0 hcells (grownBy_putObj' Wm _ _) (fun r e => by cases e; exact ⟨by omega, _, hlm, rfl⟩)
      let I2 : Imm := fun b => if I4 b = none ∧ w.heap.size ≤ b ∧ (∃ o, W2.heap[b]? = some o ∧ o.isCells = false) then W2.heap[b]? else I4 b
      have hle2 : I4.le I2 := fun b o hb => by
        show (if I4 b = none ∧ w.heap.size ≤ b ∧ (∃ o, W2.heap[b]? = some o ∧ o.isCells = false) then W2.heap[b]? else I4 b) = some o
        rw [if_neg (fun h => by rw [hb] at h; cases h.1)]
        exact hb
      have notLive : ∀ b o, W2.heap[b]? = some o → o.isCells = false → ¬ Live H1 ρ3 b := by
        rintro b o hb ho ⟨j, blk, h1, h2, z, h3⟩
        cases blk with
        | dead => exact h2 rfl
        | map ms => exact hno1 j ms h1
        | arr sz n f =>
          obtain ⟨cs, ty, h4, _⟩ := hwk.arr _ _ _ _ _ _ h1 h3
          rw [hb] at h4; cases h4; cases ho
      have hwk2 : WOk (Ctx.self w ρ H I) I2 ρ3 H1 W2 := hwk.more hle2 (fun b o hb => by
          have hb : (if I4 b = none ∧ w.heap.size ≤ b ∧ (∃ o, W2.heap[b]? = some o ∧ o.isCells = false) then W2.heap[b]? else I4 b) = some o := hb
          split at hb
          · exact hb
          · exact hwk.imm b o hb) (fun b hb => by
          have hb : (if I4 b = none ∧ w.heap.size ≤ b ∧ (∃ o, W2.heap[b]? = some o ∧ o.isCells = false) then W2.heap[b]? else I4 b) ≠ none := hb
          split at hb
          · rename_i h
            obtain ⟨_, h1, o, h2, h3⟩ := h
            exact .inr ⟨h1, notLive b o h2 h3⟩
          · exact .inl hb)
      have inI2 : ∀ b o, w.heap.size ≤ b → W2.heap[b]? = some o → o.isCells = false → I2 b = some o := fun b o h1 h2 h3 => by
        show (if I4 b = none ∧ w.heap.size ≤ b ∧ (∃ o, W2.heap[b]? = some o ∧ o.isCells = false) then W2.heap[b]? else I4 b) = some o
        split
        · exact h2
        · rename_i hno
          cases e : I4 b with
          | none => exact (hno ⟨e, h1, o, h2, h3⟩).elim
          | some o' => have := hwk.imm b o' e; rw [h2] at this; cases this; rfl
      have hDb : DOk ⟨w, ρ, H, I2, []⟩ I2 a1 := by
        obtain ⟨Ds, d1, d2, d3⟩ := hD3
        refine ⟨Ds, d1, d2, fun D hD => ⟨(d3 D hD).1, inI2 _ _ (d3 D hD).1 ?_ rfl⟩⟩
        have hDm := hw3.imm _ _ (d3 D hD).2
        rw [← hW2]
        exact (World.putObj_heap_other (fun e => by rw [e] at hDm; first | (rw [hlm] at hDm; cases hDm) | (rw [hDm] at hlm; cases hlm))).trans hDm
      have hbody := hbodyN.1 ⟨w, ρ, H, I2, []⟩ I2 ρ3 a1 W2 hw.len ⟨_, inI2 _ _ (by omega) hl2 rfl⟩ ⟨hE4.mono hle2 (Pre.refl _), hwk2.ctx, hDb⟩
      have fin : ∀ (GX : Heap) (env3 : Env) (H3 : Heap) (I3 : Imm) (ρ3 : List (Option (Nat × Nat))) (a3 : Act) (W3 : World) (jump : Option Code), NoMaps GX → St ⟨w, ρ, H, I2, []⟩ nt env3 H3 I3 ρ3 a3 W3 → SubOf H.length nt env3 H3 [] GX →
          ∃ W4, (Instr.endRound (w.heap.size + 1) jump).run P W3 = .ok (.bool jump.isNone) W4 ∧ InvH GX W4 ∧ W4.heap[w.heap.size + 1]? = some (.loop { rec .ready jump with state := if jump.isNone then .ready else .done }) ∧ W4.heap[w.heap.size]? = some (.deferred (some [])) ∧ KpI I W W4 ∧ KpW W1.heap.size W W4 := by
        intro GX env3 H3 I3 ρ3 a3 W3 jump hno hst3 hsub
        obtain ⟨I4, ρ4, _, hst4⟩ := hsub.1 ⟨w, ρ, H, I2, []⟩ I3 ρ3 a3 W3 hw.len hst3
        have hw4 := hst4.2.1
        have hl3 : W3.heap[w.heap.size + 1]? = some (.loop { rec .ready none with state := .busy }) := hw4.imm _ _ (hw4.le _ _ (inI2 _ _ (by omega) hl2 rfl))
        have hk3 : W3.heap[w.heap.size]? = some (.deferred (some [])) := hw4.imm _ _ (hw4.le _ _ (inI2 _ _ (Nat.le_refl _) hk2 rfl))
        have hw5 : WOk (Ctx.self w ρ H I) I4 ρ4 GX W3 := WOk.unctx (X := Ctx.self w ρ H I) (K := I2) hw4 (Imm.le_trans hwk.le hle2) fun b hb => hwk2.news b hb
        have hinv := cutInvH GX W3 I4 ρ4 hw5
        have hend := run_endRound (P := P) jump hl3
        rw [hrec] at hend
        have hlt3 := (Array.getElem?_eq_some_iff.1 hl3).1
        refine ⟨_, hend, ?_, ?_, ?_, ?_, ?_⟩
        · exact invGrowH GX W3 _ (some (w.heap.size + 1)) hno hinv (grownBy_putObj' W3 _ _) (fun r e => by cases e; exact ⟨by omega, _, hl3, rfl⟩)
        · rw [hrec]; exact World.putObj_heap_same hlt3
        · exact (World.putObj_heap_other (by omega)).trans hk3
        · intro b o hb hWb
          have hlt := hIlt b o hb
          refine (World.putObj_heap_other (by omega)).trans (hw5.imm b o (hw5.le b o hb))
        · intro r es clk hr hWr
          have hWmr : Wm.heap[r]? = some (.map es clk) := hw3.imm _ _ (hw3.le _ _ (inIb _ _ (by omega) hWr rfl))
          have hW2r : W2.heap[r]? = some (.map es clk) := by rw [← hW2]; exact (World.putObj_heap_other (by omega)).trans hWmr
          exact (World.putObj_heap_other (by omega)).trans (hw4.imm _ _ (hw4.le _ _ (inI2 _ _ (by omega) hW2r rfl)))
      refine wpIn_mono hbody fun e a3 W3 hq => ?_
      cases e with
      | normal =>
        obtain ⟨env3, H3, I3, ρ3, hst3, hsub⟩ := hq
        obtain ⟨W4, h1, h2, h3, h4, h5, h6⟩ := fin (G (k + 1)) env3 H3 I3 ρ3 a3 W3 none (hmaps _) hst3 hsub
        exact ⟨_, W4, h1, .inl ⟨rfl, h2, by rw [h3, hrec]; rfl, h4⟩, h5, h6⟩
      | exit id =>
        obtain ⟨env3, H3, I3, ρ3, hst3, GX, hno, hsub, hE⟩ := hq
        obtain ⟨W4, h1, h2, h3, h4, h5, h6⟩ := fin GX env3 H3 I3 ρ3 a3 W3 (some (.exit id)) hno hst3 hsub
        exact ⟨_, W4, h1, .inr ⟨rfl, .exit id, .exit id, GX, .inr ⟨id, rfl, rfl⟩, hno, h2, hE, h3, h4⟩, h5, h6⟩
      | goto t => obtain ⟨_, _, _, _, _, h⟩ := hq; exact h.elim
      | ret =>
        obtain ⟨env3, H3, I3, ρ3, hst3, GX, hno, hsub, hE⟩ := hq
        obtain ⟨W4, h1, h2, h3, h4, h5, h6⟩ := fin GX env3 H3 I3 ρ3 a3 W3 (some .ret) hno hst3 hsub
        exact ⟨_, W4, h1, .inr ⟨rfl, .ret, .ret, GX, .inl ⟨rfl, rfl⟩, hno, h2, hE, h3, h4⟩, h5, h6⟩
      | panic c => obtain ⟨_, _, _, _, _, _, _, _, _, h⟩ := hq; exact h.elim
      | outgrown => exact hq.elim
    · -- behind the iterator
      have fin : ∀ (GX : Heap) (W2 : World) (L : Loop), NoMaps GX → InvH GX W2 → W2.heap[w.heap.size + 1]? = some (.loop L) → L.state ≠ .busy → W2.heap[w.heap.size]? = some (.deferred (some [])) →
          ∃ W3, (Instr.endLoop (w.heap.size + 1)).run P W2 = .ok L.pending W3 ∧ ∃ I2 ρ', St X nt env GX I2 ρ' { a with defers := [{ target := .collected w.heap.size, args := #[] }] ++ a.defers } W3 := by
        intro GX W2 L hno hi hl hL hk
        have hend := run_endLoop (P := P) hl hL
        obtain ⟨o4, ho4⟩ : ∃ o4, Obj.loop { L with state := .exhausted } = o4 := ⟨_, rfl⟩
        rw [ho4] at hend
        refine ⟨_, hend, ?_⟩
        obtain ⟨I', ρ', h1, h2⟩ := invGrowH GX W2 _ (some (w.heap.size + 1)) hno hi (grownBy_putObj' W2 _ o4) (fun r e => by cases e; exact ⟨by omega, _, hl, rfl⟩)
        have hkk : (W2.putObj (w.heap.size + 1) o4).heap[w.heap.size]? = some (.deferred (some [])) := (World.putObj_heap_other (by omega)).trans hk
        let I2 : Imm := fun b => if b = w.heap.size then some (.deferred (some [])) else I' b
        have hIn : I' w.heap.size = none := by
          cases e : I' w.heap.size with
          | none => rfl
          | some o =>
            have h3 := h1.imm _ o e
            rw [hkk] at h3; cases h3
            rcases h2 _ _ e with h4 | h4
            · have := hIlt _ _ h4; omega
            · cases h4
        have hle2 : I'.le I2 := fun b o hb => by
          show (if b = w.heap.size then some (.deferred (some [])) else I' b) = some o
          rw [if_neg (fun e => by subst e; rw [hIn] at hb; cases hb)]
          exact hb
        have h3 := h1.more hle2 (fun b o hb => by
          have hb' : (if b = w.heap.size then some (.deferred (some [])) else I' b) = some o := hb
          clear hb
          split at hb'
          · rename_i e; rw [e, ← hb']; exact hkk
          · exact h1.imm b o hb') (fun b hb => by
          have hb : (if b = w.heap.size then some (Obj.deferred (some [])) else I' b) ≠ none := hb
          split at hb
          · rename_i e
            subst e
            refine .inr ⟨Nat.le_refl _, ?_⟩
            rintro ⟨j, blk, g1, g2, z, g3⟩
            cases blk with
            | dead => exact g2 rfl
            | map ms => exact hno j ms g1
            | arr sz n f =>
              obtain ⟨cs, ty, g4, _⟩ := h1.arr _ _ _ _ _ _ g1 g3
              rw [hkk] at g4; cases g4
          · exact .inl hb)
        obtain ⟨Ds, d1, d2, d3⟩ := hD
        refine ⟨I2, ρ', hE.mono (Imm.le_trans h1.le hle2) h1.pre, hw.trans h3, w.heap.size :: Ds, ?_, ?_, ?_⟩
        · rw [List.nodup_cons]
          exact ⟨fun hd => by have := hIlt _ _ (d3 _ hd).2; omega, d1⟩
        · show [_] ++ a.defers = _
          rw [d2]; rfl
        · intro D hD
          rcases List.mem_cons.1 hD with e | e
          · subst e
            refine ⟨hw.grow, ?_⟩
            show (if w.heap.size = w.heap.size then some (Obj.deferred (some [])) else _) = _
            rw [if_pos rfl]
          · exact ⟨(d3 D e).1, hle2 _ _ (h1.le _ _ (d3 D e).2)⟩
      rintro e W2 ⟨⟨v, rfl⟩, (⟨hi, hl, hk⟩ | ⟨e, c, GX, hec, hno, hi, hQ, hl, hk⟩)⟩
      · obtain ⟨W3, h1, I2, ρ', h2⟩ := fin (G N) W2 _ (hmaps N) hi hl (by rw [hrec]; simp) hk
        refine ⟨none, W3, by rw [h1, hrec], ?_⟩
        exact ⟨env, G N, I2, ρ', h2, hdone⟩
      · obtain ⟨W3, h1, I2, ρ', h2⟩ := fin GX W2 _ hno hi hl (by simp) hk
        refine ⟨some c, W3, by rw [h1, hrec], ?_⟩
        rcases hec with ⟨rfl, rfl⟩ | ⟨id, rfl, rfl⟩
        · exact wpIn_ret ⟨env, GX, I2, ρ', h2, hQ⟩
        · exact wpIn_exit ⟨env, GX, I2, ρ', h2, hQ⟩
set_option maxHeartbeats 1000000 in
theorem awn_range {P : Program} {l0 m nt : Nat} {Q : Post} {env : Env} {H : Heap} {g : Operand} {ps : Array Tmp} {assign body : Code} {gf : FuncId} {vs : List V} {N : Nat} {el : Nat → List Value} (G : Nat → Heap)
    (hg : eo env g = some (.fn (.func gf) [] vs)) (hvs : V.closed.all vs = true) (hfn : FnOk P gf) (hit : IterX P gf vs N el) (hps : ∀ k, k < N → (el k).length = ps.size) (hpn : ∀ p ∈ ps.toList, p < nt)
    (hmaps : ∀ k, NoMaps (G k)) (h0 : SubOf H.length nt env H [] (G 0))
    (round : ∀ k lp, k < N → AW P (some lp) H.length nt assign (AE.then (fun env1 H1 => NoMaps H1 ∧ AWN P lp H.length nt body (RangeXQ H.length nt (G (k + 1)) (fun e GX => Q e env GX)) env1 H1) (fun _ _ _ => False)) (setsE (ps.toList.zip (el k)) env) (G k)) (hdone : Q .normal env (G N)) : AWN P l0 m nt (.rangeFunc g ps assign body) Q env H := by
  classical
  refine ⟨fun X I ρ a w hX hR hst => ?_⟩
  obtain ⟨hE, hw, hD⟩ := hst
  obtain ⟨r0, hr0⟩ := hR
  have hl0 : w.heap[l0]? = some (.loop r0) := hw.imm _ _ (hw.le _ _ hr0)
  refine wpIn_rangeFunc ?_
  intro fn hfn'
  have hIlt : ∀ b o, I b = some o → b < w.heap.size := fun b o hb => (Array.getElem?_eq_some_iff.1 (hw.imm b o hb)).1
  -- the iterator's value
  have hgv := eo_rel hE hg
  obtain ⟨lb, hev, hrel⟩ : ∃ lb, a.eval g = .func (.func gf) #[] lb ∧ VRels I [] vs lb := by
    cases e : a.eval g <;> rw [e] at hgv <;> cases hgv
    rename_i us ws h1 h2 h3 h4
    have : us = #[] := by cases us; simp at h1; simp [h1]
    subst this
    exact ⟨ws, rfl, h3, fun j v u hj hu => (h4 j v u hj hu).close (closed_all hvs hj)⟩
  obtain ⟨rec, hrec⟩ : ∃ rec : LoopState → Option Code → Loop, rec = fun st pe => { state := st, pending := pe, fn, tmps := a.tmps, params := ps, assign, body, defers := r0.defers } := ⟨_, rfl⟩
  obtain ⟨W1, hW1⟩ : ∃ W1, w.alloc (.loop (rec .ready none)) = W1 := ⟨_, rfl⟩
  have hL1 : W1.heap[w.heap.size]? = some (.loop (rec .ready none)) := by rw [← hW1]; exact World.alloc_heap_new w _
  -- between two rounds
  let InvH : Heap → World → Prop := fun GX W => ∃ I' ρ', WOk (Ctx.self w ρ H I) I' ρ' GX W ∧ ∀ b o, I' b = some o → I b = some o ∨ o.isCells = true
  let Inv : Nat → World → Prop := fun k W => InvH (G k) W
  have growI : ∀ GX W W' row I' ρ', NoMaps GX → WOk (Ctx.self w ρ H I) I' ρ' GX W → (∀ b o, I' b = some o → I b = some o ∨ o.isCells = true) → W.grownBy W' row → (∀ r, row = some r → w.heap.size ≤ r ∧ ∃ o : Obj, W.heap[r]? = some o ∧ o.isCells = false) → WOk (Ctx.self w ρ H I) I' ρ' GX W' := by
    intro GX W W' row I' ρ' hno h1 h2 hg hr
    refine h1.grown hg (fun r e => ?_) hno
    obtain ⟨h3, o, h4, h5⟩ := hr r e
    refine ⟨h3, ?_, o, h4, h5⟩
    cases e' : I' r with
    | none => rfl
    | some o' =>
      have h6 := h1.imm r o' e'
      rw [h4] at h6; cases h6
      rcases h2 r _ e' with h7 | h7
      · have := hIlt r _ h7; omega
      · rw [h5] at h7; cases h7
  have invGrowH : ∀ GX W W' row, NoMaps GX → InvH GX W → W.grownBy W' row → (∀ r, row = some r → w.heap.size ≤ r ∧ ∃ o : Obj, W.heap[r]? = some o ∧ o.isCells = false) → InvH GX W' := by
    rintro GX W W' row hno ⟨I', ρ', h1, h2⟩ hg hr
    refine ⟨I', ρ', h1.grown hg (fun r e => ?_) hno, h2⟩
    obtain ⟨h3, o, h4, h5⟩ := hr r e
    refine ⟨h3, ?_, o, h4, h5⟩
    cases e' : I' r with
    | none => rfl
    | some o' =>
      have h6 := h1.imm r o' e'
      rw [h4] at h6; cases h6
      rcases h2 r _ e' with h7 | h7
      · have := hIlt r _ h7; omega
      · rw [h5] at h7; cases h7
  have invGrow : ∀ k W W' row, Inv k W → W.grownBy W' row → (∀ r, row = some r → w.heap.size ≤ r ∧ ∃ o : Obj, W.heap[r]? = some o ∧ o.isCells = false) → Inv k W' := fun k W W' row => invGrowH (G k) W W' row (hmaps k)
  have cutInvH : ∀ GX W I' ρ', WOk (Ctx.self w ρ H I) I' ρ' GX W → InvH GX W := fun GX W I' ρ' h1 => by
    let I4 : Imm := fun b => if I b = none ∧ (∀ o, I' b = some o → o.isCells = false) then none else I' b
    refine ⟨I4, ρ', h1.cut (fun b o hb => ?_) (fun b o hb => ?_) (fun b cs ty fz hb => ?_), fun b o hb => ?_⟩
    · have hb : (if I b = none ∧ (∀ o, I' b = some o → o.isCells = false) then none else I' b) = some o := hb
      split at hb
      · cases hb
      · exact hb
    · show (if I b = none ∧ (∀ o, I' b = some o → o.isCells = false) then none else I' b) = some o
      have hb' : I b = some o := hb
      rw [if_neg (fun h => by rw [hb'] at h; cases h.1)]
      exact h1.le b o hb
    · show (if I b = none ∧ (∀ o, I' b = some o → o.isCells = false) then none else I' b) = _
      rw [if_neg (fun h => by have := h.2 _ hb; cases this)]
      exact hb
    · have hb : (if I b = none ∧ (∀ o, I' b = some o → o.isCells = false) then none else I' b) = some o := hb
      split at hb
      · cases hb
      · rename_i hno
        cases hI : I b with
        | none =>
          right
          cases ho : o.isCells with
          | true => rfl
          | false => exact (hno ⟨hI, fun o' ho' => by rw [hb] at ho'; cases ho'; exact ho⟩).elim
        | some o2 =>
          have := h1.le b o2 hI
          rw [hb] at this; cases this
          exact .inl rfl
  have cutE : ∀ GX W I' ρ' env1 a1, WOk (Ctx.self w ρ H I) I' ρ' GX W → EnvOk I' ρ' nt env1 a1 → ∃ I4, WOk (Ctx.self w ρ H I) I4 ρ' GX W ∧ (∀ b o, I4 b = some o → I b = some o ∨ o.isCells = true) ∧ EnvOk I4 ρ' nt env1 a1 := fun GX W I' ρ' env1 a1 h1 he1 => by
    let I4 : Imm := fun b => if I b = none ∧ (∀ o, I' b = some o → o.isCells = false) then none else I' b
    have hcut : ∀ b cs ty fz, I' b = some (.cells cs ty fz) → I4 b = some (.cells cs ty fz) := fun b cs ty fz hb => by
      show (if I b = none ∧ (∀ o, I' b = some o → o.isCells = false) then none else I' b) = _
      rw [if_neg (fun h => by have := h.2 _ hb; cases this)]
      exact hb
    refine ⟨I4, h1.cut (fun b o hb => ?_) (fun b o hb => ?_) hcut, fun b o hb => ?_, he1.1, fun t v ht => ⟨(he1.2 t v ht).1, (he1.2 t v ht).2.cut hcut⟩⟩
    · have hb : (if I b = none ∧ (∀ o, I' b = some o → o.isCells = false) then none else I' b) = some o := hb
      split at hb
      · cases hb
      · exact hb
    · show (if I b = none ∧ (∀ o, I' b = some o → o.isCells = false) then none else I' b) = some o
      have hb' : I b = some o := hb
      rw [if_neg (fun h => by rw [hb'] at h; cases h.1)]
      exact h1.le b o hb
    · have hb : (if I b = none ∧ (∀ o, I' b = some o → o.isCells = false) then none else I' b) = some o := hb
      split at hb
      · cases hb
      · rename_i hno
        cases hI : I b with
        | none =>
          right
          cases ho : o.isCells with
          | true => rfl
          | false => exact (hno ⟨hI, fun o' ho' => by rw [hb] at ho'; cases ho'; exact ho⟩).elim
        | some o2 =>
          have := h1.le b o2 hI
          rw [hb] at this; cases this
          exact .inl rfl
  have cutInv : ∀ k W I' ρ', WOk (Ctx.self w ρ H I) I' ρ' (G k) W → Inv k W := fun k => cutInvH (G k)
  have hInv0 : Inv 0 W1 := by
    have hself : St (Ctx.self w ρ H I) nt env H I ρ { a with defers := [] } w := ⟨hE, hw.self, DOk.nil rfl⟩
    obtain ⟨I1, ρ1, hle, h2⟩ := h0.1 (Ctx.self w ρ H I) I ρ _ w hw.len hself
    have h3 := cutInv 0 w I1 ρ1 h2.2.1
    rw [← hW1]
    exact invGrow 0 _ _ none h3 (World.grownBy_alloc _ _ none) (fun r e => by cases e)
  -- left by a jump
  let Left : World → Prop := fun W => ∃ (e : AE) (c : Code) (GX : Heap), ((e = .ret ∧ c = .ret) ∨ (∃ id, e = .exit id ∧ c = .exit id)) ∧ NoMaps GX ∧ InvH GX W ∧ Q e env GX ∧ W.heap[w.heap.size]? = some (.loop { rec .ready (some c) with state := .done })
  have hB : W1.heap.size = w.heap.size + 1 := by rw [← hW1]; simp
  refine ⟨w.heap.size, [], W1, { target := .fn (.func gf) lb, args := #[.func (.yield (w.heap.size)) #[] #[]] }, W1, gf,
    #[.func (.yield (w.heap.size)) #[] #[]] ++ lb, W1, ?_, ?_, ?_, ?_, fun h => by simp [Fw, Fence.wide] at h, ?_⟩
  · rw [← hW1, hrec]; exact run_enterLoop_inner hl0 _ _ _ _ _
  · simp only [resolve, hev]
    simp [go_sem]
  · intro f' hf'; simp [Target.leads] at hf'; subst hf'; exact trivial
  · have := hfn
    simp only [FnOk] at this
    simp [invoke, go_sem, this]
  · refine callsIn_fw.2 ((callsIn_fw (r := none) (n := 1)).1 ((hit.out I lb (w.heap.size) (fun k W => Inv k W ∧ W.heap[w.heap.size]? = some (.loop (rec .ready none))) Left W1 ?_ hrel ?_ ?_ ⟨hInv0, hL1⟩).mono ?_))
    · intro b o hb
      have hlt := hIlt b o hb
      rw [← hW1]
      exact (Below.heap_alloc _ _ _ hlt).trans (hw.imm b o hb)
    · rintro k W W' row ⟨h1, h2⟩ hg hr
      refine ⟨invGrow k W W' row h1 hg (fun r e => by obtain ⟨a, es, clk, b⟩ := hr r e; exact ⟨by omega, _, b, rfl⟩), ?_⟩
      · exact (hg.block _ (Array.getElem?_eq_some_iff.1 h2).1 (fun e => by obtain ⟨a, es, clk, b⟩ := hr _ e.symm; omega)).trans h2
    · -- one round
      rintro k W ⟨hi, hl⟩ hlen
      have hlt : w.heap.size < W.heap.size := (Array.getElem?_eq_some_iff.1 hl).1
      have hy := run_yield (P := P) (args := (el k).toArray) hl (by rw [hrec]; simpa using hps k hlen)
      rw [hrec] at hy
      refine ⟨fn, _, assign, body, hy, roundIn_of_wpIn hfn' ?_⟩
      have hE1 : EnvOk I ρ nt (setsE (ps.toList.zip (el k)) env) { tmps := (ps.toList.zip (el k)).foldl (fun t pv => t.setIfInBounds pv.1 pv.2) a.tmps, defers := [] } :=
        env_sets _ _ _ hE fun p hp => hpn p.1 (List.of_mem_zip hp).1
      have etmps : (ps.zip (el k).toArray).foldl (fun t (p, v) => t.setIfInBounds p v) a.tmps = (ps.toList.zip (el k)).foldl (fun t pv => t.setIfInBounds pv.1 pv.2) a.tmps := by
        rw [← Array.foldl_toList, Array.toList_zip]
      rw [← etmps] at hE1
      obtain ⟨Ia, ρa, hwa, hca⟩ := hi
      let Ib : Imm := fun b => if Ia b = none ∧ w.heap.size ≤ b ∧ (∃ o, W.heap[b]? = some o ∧ o.isCells = false) then W.heap[b]? else Ia b
      have hleb : Ia.le Ib := fun b o hb => by
        show (if Ia b = none ∧ w.heap.size ≤ b ∧ (∃ o, W.heap[b]? = some o ∧ o.isCells = false) then W.heap[b]? else Ia b) = some o
        rw [if_neg (fun h => by rw [hb] at h; cases h.1)]
        exact hb
      have notLivea : ∀ b o, W.heap[b]? = some o → o.isCells = false → ¬ Live (G k) ρa b := by
        rintro b o hb ho ⟨j, blk, h1, h2, z, h3⟩
        cases blk with
        | dead => exact h2 rfl
        | map ms => exact hmaps k j ms h1
        | arr sz n f =>
          obtain ⟨cs, ty, h4, _⟩ := hwa.arr _ _ _ _ _ _ h1 h3
          rw [hb] at h4; cases h4; cases ho
      have hwb : WOk (Ctx.self w ρ H I) Ib ρa (G k) W := hwa.more hleb (fun b o hb => by
          have hb : (if Ia b = none ∧ w.heap.size ≤ b ∧ (∃ o, W.heap[b]? = some o ∧ o.isCells = false) then W.heap[b]? else Ia b) = some o := hb
          split at hb
          · exact hb
          · exact hwa.imm b o hb) (fun b hb => by
          have hb : (if Ia b = none ∧ w.heap.size ≤ b ∧ (∃ o, W.heap[b]? = some o ∧ o.isCells = false) then W.heap[b]? else Ia b) ≠ none := hb
          split at hb
          · rename_i h
            obtain ⟨_, h1, o, h2, h3⟩ := h
            exact .inr ⟨h1, notLivea b o h2 h3⟩
          · exact .inl hb)
      have inIb : ∀ b o, w.heap.size ≤ b → W.heap[b]? = some o → o.isCells = false → Ib b = some o := fun b o h1 h2 h3 => by
        show (if Ia b = none ∧ w.heap.size ≤ b ∧ (∃ o, W.heap[b]? = some o ∧ o.isCells = false) then W.heap[b]? else Ia b) = some o
        split
        · exact h2
        · rename_i hno
          cases e : Ia b with
          | none => exact (hno ⟨e, h1, o, h2, h3⟩).elim
          | some o' => have := hwa.imm b o' e; rw [h2] at this; cases this; rfl
      refine wpIn_mono ((round k w.heap.size hlen).1 ⟨w, ρ, H, Ib, []⟩ Ib ρa _ W hw.len ⟨(hE1.mono hwa.le hwa.pre).mono hleb (Pre.refl _), hwb.ctx, DOk.nil rfl⟩) fun e a1 Wm hq => ?_
      cases e with
      | exit _ => obtain ⟨_, _, _, _, _, h⟩ := hq; exact h.elim
      | goto _ => obtain ⟨_, _, _, _, _, h⟩ := hq; exact h.elim
      | ret => obtain ⟨_, _, _, _, _, h⟩ := hq; exact h.elim
      | panic _ => obtain ⟨_, _, _, _, _, _, _, _, _, h⟩ := hq; exact h.elim
      | outgrown => exact hq.elim
      | normal =>
      obtain ⟨env1, H1, I3, ρ3, ⟨hE3, hw3, hD3⟩, hno1, hbodyN⟩ := hq
      have hlm : Wm.heap[w.heap.size]? = some (.loop (rec .ready none)) := hw3.imm _ _ (hw3.le _ _ (inIb _ _ (by omega) hl rfl))
      have hltm : w.heap.size < Wm.heap.size := (Array.getElem?_eq_some_iff.1 hlm).1
      refine ⟨_, run_beginRound hlm (by rw [hrec]), ?_⟩
      obtain ⟨W2, hW2⟩ : ∃ W2, Wm.putObj w.heap.size (.loop { rec .ready none with state := .busy }) = W2 := ⟨_, rfl⟩
      rw [hW2]
      have hl2 : W2.heap[w.heap.size]? = some (.loop { rec .ready none with state := .busy }) := by rw [← hW2]; exact World.putObj_heap_same hltm
      have hw3' : WOk (Ctx.self w ρ H I) I3 ρ3 H1 Wm := WOk.unctx (X := Ctx.self w ρ H I) (K := Ib) hw3 (Imm.le_trans hwa.le hleb) fun b hb => hwb.news b hb
      obtain ⟨I4, hwk0, hcells, hE4⟩ := cutE H1 Wm I3 ρ3 env1 a1 hw3' hE3
      have hwk : WOk (Ctx.self w ρ H I) I4 ρ3 H1 W2 := by
        rw [← hW2]
        exact growI H1 Wm _ (some w.heap.size) I4 ρ3 hno1 hwk0 hcells (grownBy_putObj' Wm _ _) (fun r e => by cases e; exact ⟨by omega, _, hlm, rfl⟩)
      let I2 : Imm := fun b => if I4 b = none ∧ w.heap.size ≤ b ∧ (∃ o, W2.heap[b]? = some o ∧ o.isCells = false) then W2.heap[b]? else I4 b
      have hle2 : I4.le I2 := fun b o hb => by
        show (if I4 b = none ∧ w.heap.size ≤ b ∧ (∃ o, W2.heap[b]? = some o ∧ o.isCells = false) then W2.heap[b]? else I4 b) = some o
        rw [if_neg (fun h => by rw [hb] at h; cases h.1)]
        exact hb
      have notLive : ∀ b o, W2.heap[b]? = some o → o.isCells = false → ¬ Live H1 ρ3 b := by
        rintro b o hb ho ⟨j, blk, h1, h2, z, h3⟩
        cases blk with
        | dead => exact h2 rfl
        | map ms => exact hno1 j ms h1
        | arr sz n f =>
          obtain ⟨cs, ty, h4, _⟩ := hwk.arr _ _ _ _ _ _ h1 h3
          rw [hb] at h4; cases h4; cases ho
      have hwk2 : WOk (Ctx.self w ρ H I) I2 ρ3 H1 W2 := hwk.more hle2 (fun b o hb => by
          have hb : (if I4 b = none ∧ w.heap.size ≤ b ∧ (∃ o, W2.heap[b]? = some o ∧ o.isCells = false) then W2.heap[b]? else I4 b) = some o := hb
          split at hb
          · exact hb
          · exact hwk.imm b o hb) (fun b hb => by
          have hb : (if I4 b = none ∧ w.heap.size ≤ b ∧ (∃ o, W2.heap[b]? = some o ∧ o.isCells = false) then W2.heap[b]? else I4 b) ≠ none := hb
          split at hb
          · rename_i h
            obtain ⟨_, h1, o, h2, h3⟩ := h
            exact .inr ⟨h1, notLive b o h2 h3⟩
          · exact .inl hb)
      have inI2 : ∀ b o, w.heap.size ≤ b → W2.heap[b]? = some o → o.isCells = false → I2 b = some o := fun b o h1 h2 h3 => by
        show (if I4 b = none ∧ w.heap.size ≤ b ∧ (∃ o, W2.heap[b]? = some o ∧ o.isCells = false) then W2.heap[b]? else I4 b) = some o
        split
        · exact h2
        · rename_i hno
          cases e : I4 b with
          | none => exact (hno ⟨e, h1, o, h2, h3⟩).elim
          | some o' => have := hwk.imm b o' e; rw [h2] at this; cases this; rfl
      have hDb : DOk ⟨w, ρ, H, I2, []⟩ I2 a1 := by
        obtain ⟨Ds, d1, d2, d3⟩ := hD3
        refine ⟨Ds, d1, d2, fun D hD => ⟨(d3 D hD).1, inI2 _ _ (d3 D hD).1 ?_ rfl⟩⟩
        have hDm := hw3.imm _ _ (d3 D hD).2
        rw [← hW2]
        exact (World.putObj_heap_other (fun e => by rw [e] at hDm; first | (rw [hlm] at hDm; cases hDm) | (rw [hDm] at hlm; cases hlm))).trans hDm
      have hbody := hbodyN.1 ⟨w, ρ, H, I2, []⟩ I2 ρ3 a1 W2 hw.len ⟨_, inI2 _ _ (by omega) hl2 rfl⟩ ⟨hE4.mono hle2 (Pre.refl _), hwk2.ctx, hDb⟩
      have fin : ∀ (GX : Heap) (env3 : Env) (H3 : Heap) (I3 : Imm) (ρ3 : List (Option (Nat × Nat))) (a3 : Act) (W3 : World) (jump : Option Code), NoMaps GX → St ⟨w, ρ, H, I2, []⟩ nt env3 H3 I3 ρ3 a3 W3 → SubOf H.length nt env3 H3 [] GX →
          ∃ W4, (Instr.endRound (w.heap.size) jump).run P W3 = .ok (.bool jump.isNone) W4 ∧ InvH GX W4 ∧ W4.heap[w.heap.size]? = some (.loop { rec .ready jump with state := if jump.isNone then .ready else .done }) ∧ KpI I W W4 ∧ KpW W1.heap.size W W4 := by
        intro GX env3 H3 I3 ρ3 a3 W3 jump hno hst3 hsub
        obtain ⟨I4, ρ4, _, hst4⟩ := hsub.1 ⟨w, ρ, H, I2, []⟩ I3 ρ3 a3 W3 hw.len hst3
        have hw4 := hst4.2.1
        have hl3 : W3.heap[w.heap.size]? = some (.loop { rec .ready none with state := .busy }) := hw4.imm _ _ (hw4.le _ _ (inI2 _ _ (by omega) hl2 rfl))
        have hw5 : WOk (Ctx.self w ρ H I) I4 ρ4 GX W3 := WOk.unctx (X := Ctx.self w ρ H I) (K := I2) hw4 (Imm.le_trans hwk.le hle2) fun b hb => hwk2.news b hb
        have hinv := cutInvH GX W3 I4 ρ4 hw5
        have hend := run_endRound (P := P) jump hl3
        rw [hrec] at hend
        have hlt3 := (Array.getElem?_eq_some_iff.1 hl3).1
        refine ⟨_, hend, ?_, ?_, ?_, ?_⟩
        · exact invGrowH GX W3 _ (some (w.heap.size)) hno hinv (grownBy_putObj' W3 _ _) (fun r e => by cases e; exact ⟨by omega, _, hl3, rfl⟩)
        · rw [hrec]; exact World.putObj_heap_same hlt3
        · intro b o hb hWb
          have hlt := hIlt b o hb
          refine (World.putObj_heap_other (by omega)).trans (hw5.imm b o (hw5.le b o hb))
        · intro r es clk hr hWr
          have hWmr : Wm.heap[r]? = some (.map es clk) := hw3.imm _ _ (hw3.le _ _ (inIb _ _ (by omega) hWr rfl))
          have hW2r : W2.heap[r]? = some (.map es clk) := by rw [← hW2]; exact (World.putObj_heap_other (by omega)).trans hWmr
          exact (World.putObj_heap_other (by omega)).trans (hw4.imm _ _ (hw4.le _ _ (inI2 _ _ (by omega) hW2r rfl)))
      refine wpIn_mono hbody fun e a3 W3 hq => ?_
      cases e with
      | normal =>
        obtain ⟨env3, H3, I3, ρ3, hst3, hsub⟩ := hq
        obtain ⟨W4, h1, h2, h3, h5, h6⟩ := fin (G (k + 1)) env3 H3 I3 ρ3 a3 W3 none (hmaps _) hst3 hsub
        exact ⟨_, W4, h1, .inl ⟨rfl, h2, by rw [h3, hrec]; rfl⟩, h5, h6⟩
      | exit id =>
        obtain ⟨env3, H3, I3, ρ3, hst3, GX, hno, hsub, hE⟩ := hq
        obtain ⟨W4, h1, h2, h3, h5, h6⟩ := fin GX env3 H3 I3 ρ3 a3 W3 (some (.exit id)) hno hst3 hsub
        exact ⟨_, W4, h1, .inr ⟨rfl, .exit id, .exit id, GX, .inr ⟨id, rfl, rfl⟩, hno, h2, hE, h3⟩, h5, h6⟩
      | goto t => obtain ⟨_, _, _, _, _, h⟩ := hq; exact h.elim
      | ret =>
        obtain ⟨env3, H3, I3, ρ3, hst3, GX, hno, hsub, hE⟩ := hq
        obtain ⟨W4, h1, h2, h3, h5, h6⟩ := fin GX env3 H3 I3 ρ3 a3 W3 (some .ret) hno hst3 hsub
        exact ⟨_, W4, h1, .inr ⟨rfl, .ret, .ret, GX, .inl ⟨rfl, rfl⟩, hno, h2, hE, h3⟩, h5, h6⟩
      | panic c => obtain ⟨_, _, _, _, _, _, _, _, _, h⟩ := hq; exact h.elim
      | outgrown => exact hq.elim
    · -- behind the iterator
      have fin : ∀ (GX : Heap) (W2 : World) (L : Loop), NoMaps GX → InvH GX W2 → W2.heap[w.heap.size]? = some (.loop L) → L.state ≠ .busy →
          ∃ W3, (Instr.endLoop w.heap.size).run P W2 = .ok L.pending W3 ∧ ∃ I2 ρ', St X nt env GX I2 ρ' a W3 := by
        intro GX W2 L hno hi hl hL
        have hend := run_endLoop (P := P) hl hL
        obtain ⟨o4, ho4⟩ : ∃ o4, Obj.loop { L with state := .exhausted } = o4 := ⟨_, rfl⟩
        rw [ho4] at hend
        refine ⟨_, hend, ?_⟩
        obtain ⟨I', ρ', h1, h2⟩ := invGrowH GX W2 _ (some w.heap.size) hno hi (grownBy_putObj' W2 _ o4) (fun r e => by cases e; exact ⟨Nat.le_refl _, _, hl, rfl⟩)
        exact ⟨I', ρ', hE.mono h1.le h1.pre, hw.trans h1, hD.mono h1.le⟩
      rintro e W2 ⟨⟨v, rfl⟩, (⟨hi, hl⟩ | ⟨e, c, GX, hec, hno, hi, hQ, hl⟩)⟩
      · obtain ⟨W3, h1, I2, ρ', h2⟩ := fin (G N) W2 _ (hmaps N) hi hl (by rw [hrec]; simp)
        refine ⟨none, W3, by rw [h1, hrec], ?_⟩
        exact ⟨env, G N, I2, ρ', h2, hdone⟩
      · obtain ⟨W3, h1, I2, ρ', h2⟩ := fin GX W2 _ hno hi hl (by simp)
        refine ⟨some c, W3, by rw [h1, hrec], ?_⟩
        rcases hec with ⟨rfl, rfl⟩ | ⟨id, rfl, rfl⟩
        · exact wpIn_ret ⟨env, GX, I2, ρ', h2, hQ⟩
        · exact wpIn_exit ⟨env, GX, I2, ρ', h2, hQ⟩
end Go.Proofs.Ytloaefllpokkaaa
namespace Go.Proofs.Ytloaefllpokkaaa
open Go.RowKit
def SpOk (s : Spt) : Prop := (-10000 ≤ s.x ∧ s.x ≤ 10000) ∧ (-10000 ≤ s.y ∧ s.y ≤ 10000)
def stV (x y : Int) : V := .agg [vi x, vi y]
def sqV (s : Int × Int) : V := .agg [vi s.1, vi s.2]
theorem mul_bnd {a b K L : Int} (ha : -K ≤ a ∧ a ≤ K) (hb : -L ≤ b ∧ b ≤ L) : -(K * L) ≤ a * b ∧ a * b ≤ K * L := by
  have hK : 0 ≤ K := by omega
  have hL : 0 ≤ L := by omega
  rcases Int.le_total 0 a with g | g <;> rcases Int.le_total 0 b with q | q
  · have h1 := Int.mul_le_mul ha.2 hb.2 q hK
    have h2 := Int.mul_nonneg g q
    omega
  · have h1 := Int.mul_le_mul ha.2 (show -b ≤ L by omega) (by omega) hK
    have h2 := Int.mul_nonneg g (show 0 ≤ -b by omega)
    rw [Int.mul_neg] at h1 h2
    omega
  · have h1 := Int.mul_le_mul (show -a ≤ K by omega) hb.2 q hK
    have h2 := Int.mul_nonneg (show 0 ≤ -a by omega) q
    rw [Int.neg_mul] at h1 h2
    omega
  · have h1 := Int.mul_le_mul (show -a ≤ K by omega) (show -b ≤ L by omega) (by omega) hK
    have h2 := Int.mul_nonneg (show 0 ≤ -a by omega) (show 0 ≤ -b by omega)
    rw [Int.neg_mul_neg] at h1 h2
    omega
theorem andM {m : Int} (h : 0 ≤ m ∧ m ≤ 9223372036854775807) : IntKind.u64.wrap ((BitVec.ofInt IntKind.u64.bits m &&& BitVec.ofInt IntKind.u64.bits 4294967295).toNat : Int) = m % 4294967296 := by
  obtain ⟨k, rfl⟩ := Int.eq_ofNat_of_zero_le h.1
  have e : ((BitVec.ofInt IntKind.u64.bits (k : Int) &&& BitVec.ofInt IntKind.u64.bits 4294967295).toNat) = k % 4294967296 := by
    show ((BitVec.ofInt 64 (k : Int) &&& BitVec.ofInt 64 4294967295).toNat) = k % 4294967296
    rw [BitVec.toNat_and]
    have h1 : (BitVec.ofInt 64 (k : Int)).toNat = k := by simp; omega
    have h2 : (BitVec.ofInt 64 4294967295).toNat = 2 ^ 32 - 1 := by decide
    rw [h1, h2, Nat.and_two_pow_sub_one_eq_mod]
  rw [e]
  have hk : k % 4294967296 < 4294967296 := Nat.mod_lt _ (by decide)
  have e2 : ((k % 4294967296 : Nat) : Int) = (k : Int) % 4294967296 := by omega
  rw [← e2]
  generalize k % 4294967296 = q at *
  simp only [IntKind.wrap, go_sem]
  first | omega | (simp; omega) | skip
theorem shrM {m : Int} (h : 0 ≤ m) : m.fdiv (2 ^ (min (32 : Int).toNat IntKind.u64.bits)) = m / 4294967296 := by
  have e : (2 : Int) ^ (min (32 : Int).toNat IntKind.u64.bits) = 4294967296 := by decide
  rw [e, Int.fdiv_eq_ediv_of_nonneg _ (by omega)]
set_option maxHeartbeats 2000000 in
theorem mul64W_p (x y : Int) (hx : 0 ≤ x ∧ x ≤ 1099511627775) (hy : 0 ≤ y ∧ y ≤ 4294967295) (hxy : 0 ≤ x * y ∧ x * y ≤ 9223372036854775807) : PCalls Try.prog 70 [vu x, vu y] (· = .tup [vu 0, vu (x * y)]) := by
  obtain ⟨a, ha⟩ : ∃ a, x % 4294967296 = a := ⟨_, rfl⟩
  obtain ⟨b, hb⟩ : ∃ b, x / 4294967296 = b := ⟨_, rfl⟩
  have hab : x = 4294967296 * b + a := by omega
  have hm : x * y = 4294967296 * (b * y) + a * y := by rw [hab]; grind
  have h1 := Int.mul_nonneg (show 0 ≤ a by omega) hy.1
  have h2 := Int.mul_nonneg (show 0 ≤ b by omega) hy.1
  have hand := andM (m := x) (by omega)
  have hshr := shrM (m := x) hx.1
  have hshr2 := shrM (m := a * y) h1
  rw [ha] at hand
  rw [hb] at hshr
  refine pcalls_of_aw Try.func70 rfl (Nat.le_of_ble_eq_true rfl) ?_
  (repeat' (first | (refine ar_isq ?_; first | refine zmv ?_ | refine zas ?_ | (refine is_binOp ?_; first | refine zaddu64 ?_ | refine zmulu64 ?_ | refine ar_q (qs_and rfl rfl (andMask (by omega))) (dc rfl) ?_ | refine ar_q (qs_shr rfl rfl (by omega) (shr0 (by omega))) (dc rfl) ?_)) | (refine ar_q (qs_and rfl rfl hand) (dc rfl) ?_) | (refine ar_q (qs_shr rfl rfl (by omega) hshr) (dc rfl) ?_) | (refine ar_q (qs_shr rfl rfl (by omega) hshr2) (dc rfl) ?_) | (refine ar_nil ?_) | (refine aw_seq ?_) | (refine aw_skip ?_) | (refine aw_block ?_) | (refine aw_exit ?_) | (refine aw_region ?_) | (refine zco ?_ ?_ <;> intro hg <;> first | exact absurd hg (by decide) | ((try replace hg := HG.out hg); (try dsimp only at hg); (try (have _h : True := hg; clear _h hg)); first | (exfalso; omega) | skip))))
  all_goals first
    | ((refine aw_ret ?_; (repeat (first | refine ret_then ?_ | refine ret_block ?_)); refine bq2 rfl rfl ⟨?_, rfl⟩); simp [vu])
    | trace_state
set_option maxHeartbeats 1000000 in
theorem way_p (a b : Spt) (ha : SpOk a) (hb : SpOk b) : PCalls Try.prog 72 [a.enc, b.enc] (· = stV (b.x - a.x) (b.y - a.y)) := by
  unfold SpOk at ha hb
  refine pcalls_of_aw Try.func72 rfl (Nat.le_of_ble_eq_true rfl) ?_
  (repeat' (first | (refine ar_isq ?_; first | (refine is_load ?_; first | refine zlp ?_ | refine zlr ?_) | refine zsub ?_ | (refine is_fieldAddr ?_; first | refine zfp ?_ | refine zfr ?_) | (refine ar_buildS (ds := ?ds) (by exact ty rfl) (by exact rfl) (by exact sizes rfl) (by exact rfl) (by exact rfl) (by exact build rfl) (by exact dc rfl) ?hn ?h; (case hn => (dsimp only [cells_s, cells_emp, cells_agg, cells_list, cells_sl, cells_ptr, cells_ref, cells_fn, cells_vi, cells_vb, cells_vnil, constV, List.map_cons, List.map_nil, List.take_succ_cons, List.take_zero, List.drop_succ_cons, List.drop_zero, List.cons_append, List.nil_append, List.append_nil, LV_cells]; exact rfl)))) | (refine zbx ?_) | (refine zal ?_) | (refine zsvs ?_) | (refine zsva ?_) | (refine zses ?_) | (refine zsea ?_) | (refine ar_nil ?_) | (refine aw_seq ?_) | (refine aw_skip ?_) | (refine aw_block ?_) | (refine aw_exit ?_) | (refine aw_region ?_) | (refine zco ?_ ?_ <;> intro hg <;> first | exact absurd hg (by decide) | ((try replace hg := HG.out hg); (try dsimp only at hg); (try (have _h : True := hg; clear _h hg)); first | (exfalso; omega) | skip))))
  (refine aw_mono_r (env' := [(4, .ptr 2 0 0 0)]) (H' := [.arr 2 1 (fun _ => stV (b.x - a.x) (b.y - a.y))]) ?_ ?_; (focus ((refine sub_to [some 2] [] rfl ?_ ?_ <;> (repeat' (first | exact trivial | refine ⟨⟨_, rfl, ?_⟩, ?_⟩ | refine ⟨bsub_snoc rfl rfl (fun _ => rfl) ?_, ?_⟩ | refine ⟨bsub_one rfl rfl ?_, ?_⟩ | refine ⟨bsub_all rfl rfl (fun _ _ => rfl) (fun _ => rfl), ?_⟩ | refine ⟨bsub_updL rfl rfl ?_ (fun _ _ _ => rfl) (fun _ => rfl), ?_⟩ | refine ⟨.inl ⟨_, _, rfl, rfl, ?_⟩, ?_⟩ | exact ⟨.inr ⟨rfl, rfl⟩, trivial⟩ | refine ⟨.inr ⟨rfl, rfl⟩, ?_⟩ | (intro _ _) | exact vz1 | exact vz2 | fail))); done)))
  refine aw_ret ?_
  (repeat (first | refine ret_then ?_ | refine ret_block ?_))
  exact bq1c (f := fun _ => stV (b.x - a.x) (b.y - a.y)) (v := stV (b.x - a.x) (b.y - a.y)) (ty rfl) rfl rfl Nat.one_pos rfl ⟨rfl, rfl⟩
set_option maxHeartbeats 1000000 in
theorem cross_p (a b c d : Int) (ha : -20000 ≤ a ∧ a ≤ 20000) (hb : -20000 ≤ b ∧ b ≤ 20000) (hc : -20000 ≤ c ∧ c ≤ 20000) (hd : -20000 ≤ d ∧ d ≤ 20000) : PCalls Try.prog 73 [stV a b, stV c d] (· = vi (a * d - b * c)) := by
  have h1 := mul_bnd ha hd
  have h2 := mul_bnd hb hc
  refine pcalls_of_aw Try.func73 rfl (Nat.le_of_ble_eq_true rfl) ?_
  (repeat' (first | (refine ar_isq ?_; first | refine zas ?_ | (refine is_load ?_; first | refine zlp ?_ | refine zlr ?_) | (refine is_binOp ?_; first | refine zsub ?_ | refine zmul ?_) | (refine is_fieldAddr ?_; first | refine zfp ?_ | refine zfr ?_)) | (refine zbx ?_) | (refine ar_nil ?_) | (refine aw_seq ?_) | (refine aw_skip ?_) | (refine aw_block ?_) | (refine aw_exit ?_) | (refine aw_region ?_) | (refine zco ?_ ?_ <;> intro hg <;> first | exact absurd hg (by decide) | ((try replace hg := HG.out hg); (try dsimp only at hg); (try (have _h : True := hg; clear _h hg)); first | (exfalso; omega) | skip))))
  all_goals first
    | ((refine aw_ret ?_; (repeat (first | refine ret_then ?_ | refine ret_block ?_)); refine bq1 rfl ⟨?_, rfl⟩); rfl)
    | trace_state
set_option maxHeartbeats 1000000 in
theorem dot_p (a b c d : Int) (ha : -20000 ≤ a ∧ a ≤ 20000) (hb : -20000 ≤ b ∧ b ≤ 20000) (hc : -20000 ≤ c ∧ c ≤ 20000) (hd : -20000 ≤ d ∧ d ≤ 20000) : PCalls Try.prog 74 [stV a b, stV c d] (· = vi (a * c + b * d)) := by
  have h1 := mul_bnd ha hc
  have h2 := mul_bnd hb hd
  refine pcalls_of_aw Try.func74 rfl (Nat.le_of_ble_eq_true rfl) ?_
  (repeat' (first | (refine ar_isq ?_; first | refine zas ?_ | (refine is_load ?_; first | refine zlp ?_ | refine zlr ?_) | (refine is_binOp ?_; first | refine zadd ?_ | refine zmul ?_) | (refine is_fieldAddr ?_; first | refine zfp ?_ | refine zfr ?_)) | (refine zbx ?_) | (refine ar_nil ?_) | (refine aw_seq ?_) | (refine aw_skip ?_) | (refine aw_block ?_) | (refine aw_exit ?_) | (refine aw_region ?_) | (refine zco ?_ ?_ <;> intro hg <;> first | exact absurd hg (by decide) | ((try replace hg := HG.out hg); (try dsimp only at hg); (try (have _h : True := hg; clear _h hg)); first | (exfalso; omega) | skip))))
  all_goals first
    | ((refine aw_ret ?_; (repeat (first | refine ret_then ?_ | refine ret_block ?_)); refine bq1 rfl ⟨?_, rfl⟩); rfl)
    | trace_state
set_option maxHeartbeats 2000000 in
theorem apart_p (a b c d : Spt) (ha : SpOk a) (hb : SpOk b) (hc : SpOk c) (hd : SpOk d) : PCalls Try.prog 51 [a.enc, b.enc, c.enc, d.enc] (· = vb (crossB a b c d)) := by
  have w1 := way_p a b ha hb
  have w2 := way_p a c ha hc
  have w3 := way_p a d ha hd
  unfold SpOk at ha hb hc hd
  have k1 := cross_p (b.x - a.x) (b.y - a.y) (c.x - a.x) (c.y - a.y) (by omega) (by omega) (by omega) (by omega)
  have k2 := cross_p (b.x - a.x) (b.y - a.y) (d.x - a.x) (d.y - a.y) (by omega) (by omega) (by omega) (by omega)
  have e1 : (b.x - a.x) * (c.y - a.y) - (b.y - a.y) * (c.x - a.x) = crossF a b a c := rfl
  have e2 : (b.x - a.x) * (d.y - a.y) - (b.y - a.y) * (d.x - a.x) = crossF a b a d := rfl
  rw [e1] at k1
  rw [e2] at k2
  have hB : crossB a b c d = ((decide (0 < crossF a b a c) != decide (0 < crossF a b a d)) && (decide (crossF a b a c ≠ 0) && decide (crossF a b a d ≠ 0))) := rfl
  rw [hB]
  generalize crossF a b a c = M at *
  generalize crossF a b a d = N at *
  refine pcalls_of_aw Try.func51 rfl (Nat.le_of_ble_eq_true rfl) ?_
  (repeat' (first | (refine ar_isq ?_; first | refine zmv ?_ | refine zas ?_ | (refine is_load ?_; first | refine zlp ?_ | refine zlr ?_) | (refine is_binOp ?_; first | refine zgtr ?_ | refine zneq ?_ | refine zbneq ?_) | (refine is_pick ?_; first | refine zpt ?_ | refine zpf ?_)) | (refine ar_pcall (own := false) fn72 rfl rfl (.cons (.closed rfl) (.cons (.closed rfl) .nil)) (w1) (by simp) (dc rfl) ?_; intro _ hv; subst hv) | (refine ar_pcall (own := false) fn72 rfl rfl (.cons (.closed rfl) (.cons (.closed rfl) .nil)) (w2) (by simp) (dc rfl) ?_; intro _ hv; subst hv) | (refine ar_pcall (own := false) fn72 rfl rfl (.cons (.closed rfl) (.cons (.closed rfl) .nil)) (w3) (by simp) (dc rfl) ?_; intro _ hv; subst hv) | (refine ar_pcall (own := false) fn73 rfl rfl (.cons (.closed rfl) (.cons (.closed rfl) .nil)) (k1) (by simp) (dc rfl) ?_; intro _ hv; subst hv) | (refine ar_pcall (own := false) fn73 rfl rfl (.cons (.closed rfl) (.cons (.closed rfl) .nil)) (k2) (by simp) (dc rfl) ?_; intro _ hv; subst hv) | (refine zbx ?_) | (refine zg ?_ ?_ <;> intro hg <;> first | exact absurd hg (by decide) | ((try replace hg := HG.out hg); (try dsimp only at hg); (try (have _h : True := hg; clear _h hg)); first | (exfalso; omega) | skip)) | (refine zgu ?_) | (refine ar_nil ?_) | (refine aw_seq ?_) | (refine aw_skip ?_) | (refine aw_block ?_) | (refine aw_exit ?_) | (refine aw_region ?_) | (refine aw_drawn (id := 1) [(0, 0), (1, 0), (3, 0), (4, 0), (7, 0), (8, 0), (10, 0), (11, 0), (2, 1), (5, 1), (6, 1), (9, 1), (12, 1), (13, 1), (14, 0), (15, 0)] mixed (by kernel_rfl) ?_) | (refine zco ?_ ?_ <;> intro hg <;> first | exact absurd hg (by decide) | ((try replace hg := HG.out hg); (try dsimp only at hg); (try (have _h : True := hg; clear _h hg)); first | (exfalso; omega) | skip))))
  all_goals first
    | ((refine aw_ret ?_; (repeat (first | refine ret_then ?_ | refine ret_block ?_)); refine bq1 rfl ⟨?_, rfl⟩); refine congrArg vb ?_; cases h1 : decide (0 < M) <;> cases h2 : decide (0 < N) <;> simp_all; done)
    | trace_state
end Go.Proofs.Ytloaefllpokkaaa
namespace Go.Proofs.Ytloaefllpokkaaa
open Go.RowKit
/-- As 'runP', forks within forks: 'fs': the orders by number; 'd': how deep. -/
def runD (P : Program) (r : Option Nat) (ops : Array Oper) (fs : List (List (Nat × Nat))) (Q : Exit → Act → World → Prop) : Nat → List Stp → (World → Prop) → Act → World → Prop
  | 0, l, S, a, w => runP0 P r ops Q l S a w
  | _ + 1, [], _, a, w => Q .normal a w
  | d + 1, .q _ o :: rest, S, a, w =>
    (Region.wanted o (yielded ops a.tmps) = true → ∃ u, (∀ w', S w' → (execOp a.eval o).run P w' = .ok (.value u) w') ∧ runD P r ops fs Q (d + 1) rest S (a.put o.dst u) w) ∧
    (Region.wanted o (yielded ops a.tmps) = false → runD P r ops fs Q (d + 1) rest S (a.put o.dst undef) w)
  | d + 1, .l _ o keep :: rest, S, a, w =>
    (Region.wanted o (yielded ops a.tmps) = true → o.wpIn (Fw r) 0 P a w (fun a' w' => ∃ S' : World → Prop, S' w' ∧ (keep = true → ∀ x, S' x → S x) ∧ runD P r ops fs Q (d + 1) rest S' a' w') Q) ∧
    (Region.wanted o (yielded ops a.tmps) = false → runD P r ops fs Q (d + 1) rest S (a.put o.dst undef) w)
  | d + 1, .fork ps :: rest, S, a, w => runD P r ops fs Q (d + 1) rest S a w ∧ runD P r ops fs Q d (forkPlan ops.toList fs ps) S a w
termination_by d l => (d, l.length)
def psOk (n : Nat) (ps : List (Nat × Nat)) : Bool := ps.all fun x => decide (x.1 < n) || decide (3 ≤ x.2)
def planOkL (ops : Array Oper) (fs : List (List (Nat × Nat))) (sub : Array Bool → List Stp → Bool) : List Nat → Array Bool → List Stp → Bool
  | hs, listed, [] => hs.isEmpty && (Region.ready .any ops listed).isEmpty
  | hs, listed, .q i o :: l => hs.isEmpty && (plainOp o.op && (Region.ready .any ops listed).contains i && Region.free .any ops listed i && (((waitsFor ops (phaseEnd ops.size l) i || phaseEnd ops.size l == ops.size) || (needs ops l).contains i) || stillOp o.op) && i != phaseEnd ops.size l && planOkL ops fs sub [] (listed.setIfInBounds i true) l)
  | hs, listed, .l i _ keep :: l => ((Region.ready .any ops listed).contains i && (Region.ready .any ops listed).all fun x => x == i || hs.contains x) && (!keep || i != phaseEnd ops.size l) && planOkL ops fs sub [] (listed.setIfInBounds i true) l
  | hs, listed, .fork ps :: l => (match headP ops.size (forkPlan ops.toList fs ps) with
    | some (j, keep, l') => (phaseEnd ops.size (forkPlan ops.toList fs ps) == phaseEnd ops.size l) && (Region.ready .any ops listed).contains j && sub (listed.setIfInBounds j true) l' && (cntP l == cntP l' + 1) && psOk ops.size ps && planOkL ops fs sub (j :: hs) listed l
    | none => false)
def planOkD (ops : Array Oper) (fs : List (List (Nat × Nat))) : Nat → List Nat → Array Bool → List Stp → Bool
  | 0, hs, listed, l => hs.isEmpty && planOk0 ops listed l
  | d + 1, hs, listed, l => planOkL ops fs (planOkD ops fs d []) hs listed l
section
variable {P : Program} {ops : Array Oper} {r : Option Nat} {Q : Exit → Act → World → Prop} {fs : List (List (Nat × Nat))}
theorem forkPlan_get {ops : Array Oper} {ps : List (Nat × Nat)} (hps : psOk ops.size ps = true) : ∀ s ∈ forkPlan ops.toList fs ps, s.flat = true → ops[s.idx]? = some s.oper := fun s hs hf => by
  simp only [psOk, List.all_eq_true, Bool.or_eq_true, decide_eq_true_eq] at hps
  simp only [forkPlan, List.mem_map] at hs
  obtain ⟨x, hx, rfl⟩ := hs
  have h1 := hps x hx
  split at hf
  · rename_i e; rw [e] at h1; have := opAt_get ops.toList x.1 (by simpa using h1); simpa [Stp.idx, Stp.oper] using this
  · rename_i e; rw [e] at h1; have := opAt_get ops.toList x.1 (by simpa using h1); simpa [Stp.idx, Stp.oper] using this
  · rename_i e; rw [e] at h1; have := opAt_get ops.toList x.1 (by simpa using h1); simpa [Stp.idx, Stp.oper] using this
  · cases hf
theorem cnt_flat : ∀ (l : List Stp) (listed : Array Bool), planOk0 ops listed l = true → cntP l = l.length
  | [], _, _ => rfl
  | .q i o :: l, listed, h => by
    simp only [planOk0, Bool.and_eq_true] at h
    rw [cntP, cnt_flat l _ h.2, List.length_cons]
  | .l i o keep :: l, listed, h => by
    simp only [planOk0, Bool.and_eq_true] at h
    rw [cntP, cnt_flat l _ h.2, List.length_cons]
  | .fork _ :: l, listed, h => by simp [planOk0] at h
theorem drawn_goD (hsel : Region.noSelect ops = true) (hQ : ∀ c a d v w, Q (.panic c) (a.put d v) w → Q (.panic c) a w) :
    ∀ (d : Nat) (l : List Stp) (hs : List Nat) (listed : Array Bool) (S : World → Prop) (a : Act) (w : World), (∀ s ∈ l, s.flat = true → ops[s.idx]? = some s.oper) → ShutL ops listed → planOkD ops fs d hs listed l = true → S w →
      (∀ j ∈ hs, HeadOk P r ops Q S (phaseEnd ops.size l) (cntP l - 1) listed a w j) → runD P r ops fs Q d l S a w → wpAnyS P r ops Q S (phaseEnd ops.size l) (cntP l) listed a w
  | 0, l, hs, listed, S, a, w, hn, hsh, hok, hS, _, h => by
    simp only [planOkD, Bool.and_eq_true] at hok
    rw [runD] at h
    rw [cnt_flat l _ hok.2]
    exact drawn_go0 hsel hQ l listed S a w hn hsh hok.2 hS h
  | d + 1, [], hs, listed, S, a, w, _, _, hok, _, _, h => by
    simp only [planOkD, planOkL, Bool.and_eq_true] at hok
    rw [runD] at h
    exact ⟨by simpa using hok.2, h⟩
  | d + 1, .q i o :: l, hs, listed, S, a, w, hn, hsh, hok, hS, _, h => by
    simp only [planOkD, planOkL, Bool.and_eq_true] at hok
    obtain ⟨_, ⟨⟨⟨⟨⟨hp, hr⟩, hf⟩, hl⟩, him⟩, hok'⟩⟩ := hok
    have hi : ops[i]? = some o := hn (.q i o) (by simp) rfl
    rw [runD] at h
    have hn' : ∀ s ∈ l, s.flat = true → ops[s.idx]? = some s.oper := fun s hs => hn s (by simp [hs])
    show wpAnyS P r ops Q S (phaseEnd ops.size l) (cntP l + 1) listed a w
    rw [Bool.or_eq_true] at hl
    have hri : i ∈ Region.ready .any ops listed := by simpa using hr
    rcases hl with hl | hl
    · cases hw : Region.wanted o (yielded ops a.tmps)
      · exact first_S (v := undef) hp hi hsel (fun c a w => hQ c a o.dst undef w) (awaits_of hl) (by simpa using him) (cntP l) listed a w (Region.free_spec hi hf) hsh hri (.inr ⟨hw, rfl⟩) hS
          (drawn_goD hsel hQ (d + 1) l [] _ S _ w hn' (hsh.set hri) hok' hS (fun j hj => by simp at hj) (h.2 hw))
      · obtain ⟨u, h1, h2⟩ := h.1 hw
        exact first_S (v := u) hp hi hsel (fun c a w => hQ c a o.dst u w) (awaits_of hl) (by simpa using him) (cntP l) listed a w (Region.free_spec hi hf) hsh hri (.inl ⟨hw, h1⟩) hS
          (drawn_goD hsel hQ (d + 1) l [] _ S _ w hn' (hsh.set hri) hok' hS (fun j hj => by simp at hj) h2)
    · cases hw : Region.wanted o (yielded ops a.tmps)
      · exact first_still (v := undef) hp hi hsel (fun c a w => hQ c a o.dst undef w) (by simpa using him) (cntP l) listed a w (Region.free_spec hi hf) hsh hri (.inr ⟨hw, rfl⟩) hS
          (drawn_goD hsel hQ (d + 1) l [] _ S _ w hn' (hsh.set hri) hok' hS (fun j hj => by simp at hj) (h.2 hw))
      · obtain ⟨u, h1, h2⟩ := h.1 hw
        exact first_still (v := u) hp hi hsel (fun c a w => hQ c a o.dst u w) (by simpa using him) (cntP l) listed a w (Region.free_spec hi hf) hsh hri (.inl ⟨hw, fun w' _ => still_all hl (h1 w hS) w'⟩) hS
          (drawn_goD hsel hQ (d + 1) l [] _ S _ w hn' (hsh.set hri) hok' hS (fun j hj => by simp at hj) h2)
  | d + 1, .l i o keep :: l, hs, listed, S, a, w, hn, hsh, hok, hS, hh, h => by
    simp only [planOkD, planOkL, Bool.and_eq_true] at hok
    obtain ⟨⟨⟨hr, hall⟩, hk⟩, hok'⟩ := hok
    have hi : ops[i]? = some o := hn (.l i o keep) (by simp) rfl
    have hn' : ∀ s ∈ l, s.flat = true → ops[s.idx]? = some s.oper := fun s hs => hn s (by simp [hs])
    have hri : i ∈ Region.ready .any ops listed := by simpa using hr
    rw [runD] at h
    show wpAnyS P r ops Q S (phaseEnd ops.size (.l i o keep :: l)) (cntP l + 1) listed a w
    refine ⟨fun h0 => (by rw [h0] at hri; cases hri), fun j hj => ?_⟩
    by_cases hji : j = i
    · subst hji
      exact head_ok (R := runD P r ops fs Q (d + 1) l) hi hS (fun e => by rw [e] at hk; simpa using hk) (fun S' a' w' h1 h3 => drawn_goD hsel hQ (d + 1) l [] _ S' a' w' hn' (hsh.set hj) hok' h1 (fun j hj => by simp at hj) h3) h
    · rw [List.all_eq_true] at hall
      have h1 := hall j hj
      exact hh j (by simpa [hji] using h1)
  | d + 1, .fork ps :: l, hs, listed, S, a, w, hn, hsh, hok, hS, hh, h => by
    rw [planOkD, planOkL] at hok
    rw [runD] at h
    have hn' : ∀ s ∈ l, s.flat = true → ops[s.idx]? = some s.oper := fun s hs => hn s (by simp [hs])
    cases hp : headP ops.size (forkPlan ops.toList fs ps) with
    | none => rw [hp] at hok; cases hok
    | some x =>
      obtain ⟨j, keep, l'⟩ := x
      rw [hp] at hok
      simp only [Bool.and_eq_true, beq_iff_eq] at hok
      obtain ⟨⟨⟨⟨⟨hm, hr⟩, hok0⟩, hc⟩, hps⟩, hok'⟩ := hok
      obtain ⟨o, e, hk⟩ := headP_some hp
      have hget := forkPlan_get (fs := fs) hps
      rw [e] at hget hm
      have hrj : j ∈ Region.ready .any ops listed := by simpa using hr
      refine drawn_goD hsel hQ (d + 1) l (j :: hs) listed S a w hn' hsh hok' hS (fun x hx => ?_) h.1
      rcases List.mem_cons.1 hx with rfl | hx
      · have h2 := h.2
        rw [e] at h2
        have hm' : phaseEnd ops.size l = bif keep then phaseEnd ops.size l' else x := by rw [← hm]; rfl
        rw [hm', hc, Nat.add_sub_cancel]
        refine head_ok (R := runD P r ops fs Q d l') (show ops[x]? = some o from hget (.l x o keep) (by simp) rfl) hS hk (fun S' a' w' h1 h3 => drawn_goD hsel hQ d l' [] _ S' a' w' (fun s hs hf => hget s (by simp [hs]) hf) (hsh.set hrj) hok0 h1 (fun j hj => by simp at hj) h3) ?_
        cases d with
        | zero =>
          rw [runD] at h2
          simp only [runP0] at h2
          exact ⟨fun hw => Oper.wpIn_mono (fun a' w' ⟨S', h4, h5, h6⟩ => ⟨S', h4, h5, by rw [runD]; exact h6⟩) (h2.1 hw), fun hw => by rw [runD]; exact h2.2 hw⟩
        | succ d => rw [runD] at h2; exact h2
      · exact hh x hx
termination_by d l => (d, l.length)
def forkOkD (l : List Oper) (fs : List (List (Nat × Nat))) (d : Nat) (ps : List (Nat × Nat)) : Bool :=
  psOk l.length ps && Region.noSelect l.toArray && planOkD l.toArray fs d [] (Array.replicate l.toArray.size false) (forkPlan l fs ps) && (cntP (forkPlan l fs ps) == l.length)
theorem region_forkD {l : List Oper} {id : Nat} {a : Act} {w : World} (fs : List (List (Nat × Nat))) (d : Nat) (ps : List (Nat × Nat)) (S : World → Prop) (hm : P.follows .mixedOrders = true) (hB : forkOkD l fs d ps = true) (hQ : ∀ c a d v w, Q (.panic c) (a.put d v) w → Q (.panic c) a w)
    (hS : S { w with drawn := w.drawn + 1 }) (h : runD P r l.toArray fs Q d (forkPlan l fs ps) S a { w with drawn := w.drawn + 1 }) : (Code.region id l.toArray true).wpIn (Fw r) 0 P Q a w := by
  simp only [forkOkD, Bool.and_eq_true, beq_iff_eq] at hB
  obtain ⟨⟨⟨hn, hsel⟩, hok⟩, hlen⟩ := hB
  refine wpIn_region_any hm ?_
  have := any_of_S _ _ _ _ (drawn_goD hsel hQ d (forkPlan l fs ps) [] _ S a _ (by have := forkPlan_get (fs := fs) (ops := l.toArray) (ps := ps) (by simpa using hn); simpa using this) (fun j oj _ hl => by exfalso; rw [Array.getD_eq_getD_getElem?, Array.getElem?_replicate] at hl; split at hl <;> simp at hl) hok hS (fun j hj => by simp at hj) h)
  rw [hlen] at this
  simpa using this
end
/-- The walk of a plan with forks within forks. -/
structure ARD (P : Program) (r : Option Nat) (m nt : Nat) (ops : Array Oper) (fs : List (List (Nat × Nat))) (d : Nat) (Q : Post) (l : List Stp) (env : Env) (H : Heap) : Prop where
  out : ∀ X I ρ a w, X.ρ.length = m → St X nt env H I ρ a w → runD P r ops fs (Lift X nt Q) d l (Keeps I ρ H w) a w
section
variable {P : Program} {r : Option Nat} {m nt : Nat} {Q : Post} {env : Env} {H : Heap} {ops : Array Oper} {l : List Stp} {fs : List (List (Nat × Nat))} {d : Nat}
theorem aw_forkD {l : List Oper} {id : Nat} (fs : List (List (Nat × Nat))) (d : Nat) (ps : List (Nat × Nat)) (hm : P.follows .mixedOrders = true) (hB : forkOkD l fs d ps = true) (h : ARD P r m nt l.toArray fs d Q (forkPlan l fs ps) env H) : AW P r m nt (.region id l.toArray true) Q env H := .mk
  fun X I ρ a w hX hs => region_forkD fs d ps (Keeps I ρ H w) hm hB lift_put (Keeps.refl (X := X) hs.2.1.drew) (h.1 X I ρ a { w with drawn := w.drawn + 1 } hX ⟨hs.1, hs.2.1.drew, hs.2.2⟩)
theorem ard_fork {ps : List (Nat × Nat)} (h : ARD P r m nt ops fs (d + 1) Q l env H) (h' : ARD P r m nt ops fs d Q (forkPlan ops.toList fs ps) env H) : ARD P r m nt ops fs (d + 1) Q (.fork ps :: l) env H := .mk
  fun X I ρ a w hX hs => by rw [runD]; exact ⟨h.1 X I ρ a w hX hs, h'.1 X I ρ a w hX hs⟩
/-- No forks are left. -/
theorem runD_flat {Q : Exit → Act → World → Prop} : ∀ {l : List Stp} {S : World → Prop} {a : Act} {w : World}, (l.all Stp.flat) = true → runP P r ops Q l S a w → runD P r ops fs Q (d + 1) l S a w
  | [], _, _, _, _, h => by rw [runD]; exact h
  | .q i o :: l, S, a, w, hf, h => by
    rw [List.all_cons, Bool.and_eq_true] at hf
    rw [runD]
    refine ⟨fun hw => ?_, fun hw => runD_flat hf.2 (h.2 hw)⟩
    obtain ⟨u, h1, h2⟩ := h.1 hw
    exact ⟨u, h1, runD_flat hf.2 h2⟩
  | .l i o keep :: l, S, a, w, hf, h => by
    rw [List.all_cons, Bool.and_eq_true] at hf
    rw [runD]
    exact ⟨fun hw => Oper.wpIn_mono (fun a' w' ⟨S', h1, h2, h3⟩ => ⟨S', h1, h2, runD_flat hf.2 h3⟩) (h.1 hw), fun hw => runD_flat hf.2 (h.2 hw)⟩
  | .fork ps :: l, S, a, w, hf, h => by rw [List.all_cons, Bool.and_eq_true] at hf; cases hf.1
theorem ard_flat (hf : (l.all Stp.flat) = true) (h : AR P r m nt ops Q l env H) : ARD P r m nt ops fs d Q l env H := .mk fun X I ρ a w hX hs => by
  have h1 := h.1 X I ρ a w hX hs
  cases d with
  | zero =>
    rw [runD]
    exact run0 (fun s hs => List.all_eq_true.1 hf s hs) h1
  | succ d => exact runD_flat hf h1
theorem ard_q {i e : Nat} {op : Op} {ty : TypeId} {pos : String} {after : Array Edge} {v : V} (h : QS P nt env H ⟨some e, op, ty, pos, after, none⟩ v) (hd : e < nt) (hk : ARD P r m nt ops fs (d + 1) Q l ((e, v) :: env) H) :
    ARD P r m nt ops fs (d + 1) Q (.q i ⟨some e, op, ty, pos, after, none⟩ :: l) env H := .mk fun X I ρ a w hX hs => by
  rw [runD]
  refine ⟨fun _ => ?_, fun hw => by rw [wanted_none rfl] at hw; cases hw⟩
  obtain ⟨u, h1, h2⟩ := h.1 X I ρ a w hs.1 hs.2.1
  exact ⟨u, h2, hk.1 X I ρ _ w hX ⟨hs.1.put h1 hd, hs.2⟩⟩
theorem ard_l {i e : Nat} {op : Op} {ty : TypeId} {pos : String} {after : Array Edge} {keep : Bool} {R : V → Heap → Prop} (h : LS P r m nt keep env H ⟨some e, op, ty, pos, after, none⟩ R NoP) (hd : e < nt)
    (hk : ∀ v H', R v H' → ARD P r m nt ops fs (d + 1) Q l ((e, v) :: env) H') : ARD P r m nt ops fs (d + 1) Q (.l i ⟨some e, op, ty, pos, after, none⟩ keep :: l) env H := .mk fun X I ρ a w hX hs => by
  rw [runD]
  refine ⟨fun _ => ?_, fun hw => by rw [wanted_none rfl] at hw; cases hw⟩
  refine h.1 X I ρ a w _ _ hX hs (fun I' ρ' H' v u w' hR hI hρ hw hv hK => ?_) (fun I' ρ' H' v u w' hR hI hw hv => hR.elim)
  exact ⟨Keeps I' ρ' H' w', Keeps.refl hw, hK, (hk v H' hR).1 X I' ρ' _ w' hX ⟨(hs.1.mono hI hρ).put hv hd, hw, hs.2.2.mono hI⟩⟩
end
end Go.Proofs.Ytloaefllpokkaaa
namespace Go.Proofs.Ytloaefllpokkaaa
open Go.RowKit
def spv (s : Spt) : Value := .agg #[.int .i64 s.x, .int .i64 s.y]
/-- A pair of numbers, avs one value or avs two cells. -/
theorem flat_rel {I : Imm} {ρ : List (Option (Nat × Nat))} {s : Spt} {u : Value} (h : VRel I ρ s.enc u) : VRel I ρ (.s (spv s)) u := by
  cases h with
  | agg h hv =>
    rename_i us
    have e0 := hv 0 (vi s.x) (us.getD 0 undef) rfl (by have : 0 < us.size := by rw [h]; simp
                                                       simp [this])
    have e1 := hv 1 (vi s.y) (us.getD 1 undef) rfl (by have : 1 < us.size := by rw [h]; simp
                                                       simp [this])
    have : us = #[.int .i64 s.x, .int .i64 s.y] := by
      refine Array.ext (by rw [h]; rfl) fun i h1 h2 => ?_
      match i, h1, h2 with
      | 0, h1, _ =>
        have hq : us.getD 0 undef = us[0] := by simp [h1]
        rw [hq] at e0
        cases e0' : us[0] <;> (rw [e0'] at e0; cases e0) <;> rfl
      | 1, h1, _ =>
        have hq : us.getD 1 undef = us[1] := by simp [h1]
        rw [hq] at e1
        cases e1' : us[1] <;> (rw [e1'] at e1; cases e1) <;> rfl
      | i + 2, _, h2 => exact absurd h2 (by simp)
    subst this
    exact .s _
theorem unflat_rel {I : Imm} {ρ : List (Option (Nat × Nat))} {s : Spt} {u : Value} (h : VRel I ρ (.s (spv s)) u) : VRel I ρ s.enc u := by
  cases h
  refine .agg rfl fun j v u hv hu => ?_
  match j, hv, hu with
  | 0, hv, hu => cases hv; cases hu; exact .s _
  | 1, hv, hu => cases hv; cases hu; exact .s _
  | j + 2, hv, _ => simp at hv
theorem sub_unflat {m nt t : Nat} {env : Env} {H : Heap} {s : Spt} (h : look env t = some (.s (spv s))) : SubOf m nt env H ((t, s.enc) :: env) H := .mk fun X I ρ a w _ ⟨hE, hw, hd⟩ => by
  refine ⟨I, ρ, Imm.le_refl _, ⟨hE.1, fun k v hk => ?_⟩, hw, hd⟩
  rw [look_cons] at hk
  split at hk
  · rename_i e; subst e; cases hk
    exact ⟨(hE.2 _ _ h).1, unflat_rel (hE.2 _ _ h).2⟩
  · exact hE.2 k v hk
structure KeyW (P : Prop) : Prop where
  fits : P
theorem shareW {P G : Prop} (h : KeyW P → G) (hp : P) : G := h ⟨hp⟩
set_option maxRecDepth 20000 in
set_option maxHeartbeats 4000000 in
theorem spot_p (p a b : Spt) (hp : SpOk p) (ha : SpOk a) (hb : SpOk b) : PCalls Try.prog 52 [p.enc, a.enc, b.enc] (· = sqV (spotF p a b)) := by
  have w1 := way_p a b ha hb
  have w2 := way_p a p ha hp
  have w3 := way_p b p hb hp
  unfold SpOk at hp ha hb
  have d1 := dot_p (b.x - a.x) (b.y - a.y) (p.x - a.x) (p.y - a.y) (by omega) (by omega) (by omega) (by omega)
  have d2 := dot_p (b.x - a.x) (b.y - a.y) (b.x - a.x) (b.y - a.y) (by omega) (by omega) (by omega) (by omega)
  have d3 := dot_p (p.x - a.x) (p.y - a.y) (p.x - a.x) (p.y - a.y) (by omega) (by omega) (by omega) (by omega)
  have d4 := dot_p (p.x - b.x) (p.y - b.y) (p.x - b.x) (p.y - b.y) (by omega) (by omega) (by omega) (by omega)
  have c1 := cross_p (b.x - a.x) (b.y - a.y) (p.x - a.x) (p.y - a.y) (by omega) (by omega) (by omega) (by omega)
  have m1 := mul_bnd (a := b.x - a.x) (b := p.y - a.y) (K := 20000) (L := 20000) (by omega) (by omega)
  have m2 := mul_bnd (a := b.y - a.y) (b := p.x - a.x) (K := 20000) (L := 20000) (by omega) (by omega)
  have e1 : (b.x - a.x) * (p.x - a.x) + (b.y - a.y) * (p.y - a.y) = dotF a b a p := rfl
  have e2 : (b.x - a.x) * (b.x - a.x) + (b.y - a.y) * (b.y - a.y) = dotF a b a b := rfl
  have e3 : (p.x - a.x) * (p.x - a.x) + (p.y - a.y) * (p.y - a.y) = dotF a p a p := rfl
  have e4 : (p.x - b.x) * (p.x - b.x) + (p.y - b.y) * (p.y - b.y) = dotF b p b p := rfl
  have e5 : (b.x - a.x) * (p.y - a.y) - (b.y - a.y) * (p.x - a.x) = crossF a b a p := rfl
  have hC : -800000000 ≤ crossF a b a p ∧ crossF a b a p ≤ 800000000 := by rw [← e5]; omega
  have hCC := mul_bnd hC hC
  rw [e1] at d1
  rw [e2] at d2
  rw [e3] at d3
  rw [e4] at d4
  rw [e5] at c1
  have hS : spotF p a b = if dotF a b a p ≤ 0 then (dotF a p a p, 1) else if dotF a b a b ≤ dotF a b a p then (dotF b p b p, 1) else (crossF a b a p * crossF a b a p, dotF a b a b) := rfl
  rw [hS]
  generalize dotF a b a p = D1 at *
  generalize dotF a b a b = D2 at *
  generalize dotF a p a p = D3 at *
  generalize dotF b p b p = D4 at *
  generalize crossF a b a p = C at *
  refine pcalls_of_aw Try.func52 rfl (Nat.le_of_ble_eq_true rfl) ?_
  ((repeat refine aw_seq ?_); (first | (refine aw_region ?_) | (refine aw_drawn (id := 2) [(0, 0), (1, 0), (3, 0), (4, 0), (2, 1), (5, 1), (6, 0), (7, 0)] mixed (by kernel_rfl) ?_)); (repeat' (first | (refine ar_isq ?_; first | refine zmv ?_ | refine zas ?_ | (refine is_load ?_; first | refine zlp ?_ | refine zlr ?_) | (refine is_binOp ?_; first | refine zleq ?_ | refine zgeq ?_ | refine zmul ?_) | (refine ar_buildS (ds := ?ds) (by exact ty rfl) (by exact rfl) (by exact sizes rfl) (by exact rfl) (by exact rfl) (by exact build rfl) (by exact dc rfl) ?hn ?h; (case hn => (dsimp only [cells_s, cells_emp, cells_agg, cells_list, cells_sl, cells_ptr, cells_ref, cells_fn, cells_vi, cells_vb, cells_vnil, constV, List.map_cons, List.map_nil, List.take_succ_cons, List.take_zero, List.drop_succ_cons, List.drop_zero, List.cons_append, List.nil_append, List.append_nil, LV_cells]; exact rfl)))) | (refine zbx ?_) | (refine zal ?_) | (refine zsvs ?_) | (refine zsva ?_) | (refine zses ?_) | (refine zsea ?_) | (refine ar_nil ?_))))
  (refine aw_mono_r (env' := [(3, .ptr 2 0 0 0), (4, .ptr 2 1 0 0), (5, .ptr 2 2 0 0), (6, .ptr 2 3 0 0)]) (H' := [.arr 2 1 (fun _ => p.enc), .arr 2 1 (fun _ => a.enc), .arr 2 1 (fun _ => b.enc), .arr 2 1 (fun _ => sqV (0, 0))]) ?_ ?_; (focus ((refine sub_to [some 0, some 1, some 2, some 3] [] rfl ?_ ?_ <;> (repeat' (first | exact trivial | refine ⟨⟨_, rfl, ?_⟩, ?_⟩ | refine ⟨bsub_snoc rfl rfl (fun _ => rfl) ?_, ?_⟩ | refine ⟨bsub_one rfl rfl ?_, ?_⟩ | refine ⟨bsub_all rfl rfl (fun _ _ => rfl) (fun _ => rfl), ?_⟩ | refine ⟨bsub_updL rfl rfl ?_ (fun _ _ _ => rfl) (fun _ => rfl), ?_⟩ | refine ⟨.inl ⟨_, _, rfl, rfl, ?_⟩, ?_⟩ | exact ⟨.inr ⟨rfl, rfl⟩, trivial⟩ | refine ⟨.inr ⟨rfl, rfl⟩, ?_⟩ | (intro _ _) | exact vz1 | exact vz2 | fail))); done)))
  refine aw_seq ?_
  apply shareW
  · intro key
    refine aw_forkD (id := 1) [[(7, 1), (6, 1), (8, 2), (9, 2)], [(6, 1), (2, 3), (5, 1), (7, 1), (8, 2), (9, 2)], [(7, 1), (5, 1), (8, 2), (9, 2)], [(7, 1), (4, 3), (5, 1), (6, 1), (8, 2), (9, 2)], [(6, 1), (5, 1), (8, 2), (9, 2)], [(6, 1), (6, 3), (2, 1), (2, 3), (5, 1), (7, 1), (8, 2), (9, 2)], [(7, 1), (2, 1), (5, 1), (8, 2), (9, 2)], [(7, 1), (8, 3), (2, 1), (4, 3), (5, 1), (6, 1), (8, 2), (9, 2)], [(6, 1), (2, 1), (5, 1), (8, 2), (9, 2)]] 2 [(0, 0), (1, 0), (3, 0), (4, 0), (5, 3), (7, 3), (2, 1), (1, 3), (3, 3), (5, 1), (0, 3), (6, 1), (7, 1), (8, 2), (9, 2)] mixed (by kernel_rfl) ?_
    repeat' (first
      | (refine ard_flat rfl ?_)
      | (refine ard_fork ?_ ?_)
      | (refine ard_q (qs_load_ptr (ty rfl) rfl rfl Nat.one_pos rfl) (dc rfl) ?_)
      | (refine ard_l (ls_alloc (ty rfl) rfl) (dc rfl) ?_; rintro _ _ ⟨rfl, rfl⟩)
      | (refine ard_l (ls_pcall (own := false) fn72 rfl rfl (.cons (.closed rfl) (.cons (.closed rfl) .nil)) w1 (by simp)) (dc rfl) ?_; rintro _ _ ⟨rfl, rfl⟩)
      | (refine ard_l (ls_pcall (own := false) fn72 rfl rfl (.cons (.closed rfl) (.cons (.closed rfl) .nil)) w2 (by simp)) (dc rfl) ?_; rintro _ _ ⟨rfl, rfl⟩))
    all_goals (repeat' (first | (refine ar_isq ?_; first | refine zmv ?_ | refine zas ?_ | (refine is_load ?_; first | refine zlp ?_ | refine zlr ?_) | (refine is_binOp ?_; first | refine zleq ?_ | refine zgeq ?_ | refine zmul ?_) | (refine ar_buildS (ds := ?ds) (by exact ty rfl) (by exact rfl) (by exact sizes rfl) (by exact rfl) (by exact rfl) (by exact build rfl) (by exact dc rfl) ?hn ?h; (case hn => (dsimp only [cells_s, cells_emp, cells_agg, cells_list, cells_sl, cells_ptr, cells_ref, cells_fn, cells_vi, cells_vb, cells_vnil, constV, List.map_cons, List.map_nil, List.take_succ_cons, List.take_zero, List.drop_succ_cons, List.drop_zero, List.cons_append, List.nil_append, List.append_nil, LV_cells]; exact rfl)))) | (refine ar_pcall (own := false) fn72 rfl rfl (.cons (.closed rfl) (.cons (.closed rfl) .nil)) (w1) (by simp) (dc rfl) ?_; intro _ hv; subst hv) | (refine ar_pcall (own := false) fn72 rfl rfl (.cons (.closed rfl) (.cons (.closed rfl) .nil)) (w2) (by simp) (dc rfl) ?_; intro _ hv; subst hv) | (refine zbx ?_) | (refine zal ?_) | (refine zsvs ?_) | (refine zsva ?_) | (refine zses ?_) | (refine zsea ?_) | (refine ar_nil ?_)))
    all_goals first
      | ((refine aw_mono_r (env' := [(3, .ptr 2 0 0 0), (4, .ptr 2 1 0 0), (5, .ptr 2 2 0 0), (6, .ptr 2 3 0 0), (7, .ptr 2 4 0 0), (8, .ptr 2 5 0 0)]) (H' := [.arr 2 1 (fun _ => p.enc), .arr 2 1 (fun _ => a.enc), .arr 2 1 (fun _ => b.enc), .arr 2 1 (fun _ => sqV (0, 0)), .arr 2 1 (fun _ => stV (b.x - a.x) (b.y - a.y)), .arr 2 1 (fun _ => stV (p.x - a.x) (p.y - a.y))]) ?_ ?_; (focus ((refine sub_to [some 0, some 1, some 2, some 3, some 4, some 5] [] rfl ?_ ?_ <;> (repeat' (first | exact trivial | refine ⟨⟨_, rfl, ?_⟩, ?_⟩ | refine ⟨bsub_snoc rfl rfl (fun _ => rfl) ?_, ?_⟩ | refine ⟨bsub_one rfl rfl ?_, ?_⟩ | refine ⟨bsub_all rfl rfl (fun _ _ => rfl) (fun _ => rfl), ?_⟩ | refine ⟨bsub_updL rfl rfl ?_ (fun _ _ _ => rfl) (fun _ => rfl), ?_⟩ | refine ⟨.inl ⟨_, _, rfl, rfl, ?_⟩, ?_⟩ | exact ⟨.inr ⟨rfl, rfl⟩, trivial⟩ | refine ⟨.inr ⟨rfl, rfl⟩, ?_⟩ | (intro _ _) | exact vz1 | exact vz2 | fail))); done))); exact key.fits)
      | ((refine aw_mono_r (env' := [(3, .ptr 2 0 0 0), (4, .ptr 2 1 0 0), (5, .ptr 2 2 0 0), (6, .ptr 2 3 0 0), (7, .ptr 2 4 0 0), (8, .ptr 2 5 0 0)]) (H' := [.arr 2 1 (fun _ => p.enc), .arr 2 1 (fun _ => a.enc), .arr 2 1 (fun _ => b.enc), .arr 2 1 (fun _ => sqV (0, 0)), .arr 2 1 (fun _ => stV (b.x - a.x) (b.y - a.y)), .arr 2 1 (fun _ => stV (p.x - a.x) (p.y - a.y))]) ?_ ?_; (focus ((refine sub_to [some 0, some 1, some 2, some 3, some 5, some 4] [] rfl ?_ ?_ <;> (repeat' (first | exact trivial | refine ⟨⟨_, rfl, ?_⟩, ?_⟩ | refine ⟨bsub_snoc rfl rfl (fun _ => rfl) ?_, ?_⟩ | refine ⟨bsub_one rfl rfl ?_, ?_⟩ | refine ⟨bsub_all rfl rfl (fun _ _ => rfl) (fun _ => rfl), ?_⟩ | refine ⟨bsub_updL rfl rfl ?_ (fun _ _ _ => rfl) (fun _ => rfl), ?_⟩ | refine ⟨.inl ⟨_, _, rfl, rfl, ?_⟩, ?_⟩ | exact ⟨.inr ⟨rfl, rfl⟩, trivial⟩ | refine ⟨.inr ⟨rfl, rfl⟩, ?_⟩ | (intro _ _) | exact vz1 | exact vz2 | fail))); done))); exact key.fits)
      | trace_state
  · (repeat' (first | (refine ar_isq ?_; first | refine zmv ?_ | refine zas ?_ | (refine is_load ?_; first | refine zlp ?_ | refine zlr ?_) | (refine is_binOp ?_; first | refine zleq ?_ | refine zgeq ?_ | refine zmul ?_) | (refine ar_buildS (ds := ?ds) (by exact ty rfl) (by exact rfl) (by exact sizes rfl) (by exact rfl) (by exact rfl) (by exact build rfl) (by exact dc rfl) ?hn ?h; (case hn => (dsimp only [cells_s, cells_emp, cells_agg, cells_list, cells_sl, cells_ptr, cells_ref, cells_fn, cells_vi, cells_vb, cells_vnil, constV, List.map_cons, List.map_nil, List.take_succ_cons, List.take_zero, List.drop_succ_cons, List.drop_zero, List.cons_append, List.nil_append, List.append_nil, LV_cells]; exact rfl)))) | ((refine ar_buildT ?_ (by exact ty rfl) (by exact rfl) (by exact sizes rfl) (by exact rfl) (by exact rfl) (by exact build rfl) (by exact dc rfl); intro _ hds; (try dsimp only [List.toList_toArray, cells_s, cells_emp, cells_agg, cells_list, cells_sl, cells_ptr, cells_ref, cells_fn, cells_vi, cells_vb, cells_vnil, constV, List.map_cons, List.map_nil, List.take_succ_cons, List.take_zero, List.drop_succ_cons, List.drop_zero, List.cons_append, List.nil_append, List.append_nil, LV_cells] at hds); (try dsimp only [cells_s, cells_emp, cells_agg, cells_list, cells_sl, cells_ptr, cells_ref, cells_fn, cells_vi, cells_vb, cells_vnil, constV, List.map_cons, List.map_nil, List.take_succ_cons, List.take_zero, List.drop_succ_cons, List.drop_zero, List.cons_append, List.nil_append, List.append_nil, LV_cells] at hds); subst hds)) | (refine ar_pcall (own := false) fn72 rfl rfl (.cons (.closed rfl) (.cons (.closed rfl) .nil)) (w3) (by simp) (dc rfl) ?_; intro _ hv; subst hv) | (refine ar_pcall (own := false) fn74 rfl rfl (.cons (.closed rfl) (.cons (.closed rfl) .nil)) (d1) (by simp) (dc rfl) ?_; intro _ hv; subst hv) | (refine ar_pcall (own := false) fn74 rfl rfl (.cons (.closed rfl) (.cons (.closed rfl) .nil)) (d2) (by simp) (dc rfl) ?_; intro _ hv; subst hv) | (refine ar_pcall (own := false) fn74 rfl rfl (.cons (.closed rfl) (.cons (.closed rfl) .nil)) (d3) (by simp) (dc rfl) ?_; intro _ hv; subst hv) | (refine ar_pcall (own := false) fn74 rfl rfl (.cons (.closed rfl) (.cons (.closed rfl) .nil)) (d4) (by simp) (dc rfl) ?_; intro _ hv; subst hv) | (refine ar_pcall (own := false) fn73 rfl rfl (.cons (.closed rfl) (.cons (.closed rfl) .nil)) (c1) (by simp) (dc rfl) ?_; intro _ hv; subst hv) | (refine zbx ?_) | (refine zal ?_) | (refine zsvs ?_) | (refine zsva ?_) | (refine zses ?_) | (refine zsea ?_) | (refine ar_nil ?_) | (refine aw_seq ?_) | (refine aw_skip ?_) | (refine aw_block ?_) | (refine aw_exit ?_) | (refine aw_region ?_) | (refine aw_drawn (id := 2) [(0, 0), (1, 0), (3, 0), (4, 0), (2, 1), (5, 1), (6, 0), (7, 0)] mixed (by kernel_rfl) ?_) | (refine zco ?_ ?_ <;> intro hg <;> first | exact absurd hg (by decide) | ((try replace hg := HG.out hg); (try dsimp only at hg); (try (have _h : True := hg; clear _h hg)); first | (exfalso; omega) | skip))))
    all_goals first
      | ((refine aw_mono_r (env' := [(6, .ptr 2 0 0 0)]) (H' := [.arr 2 1 (fun _ => sqV (D3, 1))]) ?_ ?_; (focus ((refine sub_to [some 3] [] rfl ?_ ?_ <;> (repeat' (first | exact trivial | refine ⟨⟨_, rfl, ?_⟩, ?_⟩ | refine ⟨bsub_snoc rfl rfl (fun _ => rfl) ?_, ?_⟩ | refine ⟨bsub_one rfl rfl ?_, ?_⟩ | refine ⟨bsub_all rfl rfl (fun _ _ => rfl) (fun _ => rfl), ?_⟩ | refine ⟨bsub_updL rfl rfl ?_ (fun _ _ _ => rfl) (fun _ => rfl), ?_⟩ | refine ⟨.inl ⟨_, _, rfl, rfl, ?_⟩, ?_⟩ | exact ⟨.inr ⟨rfl, rfl⟩, trivial⟩ | refine ⟨.inr ⟨rfl, rfl⟩, ?_⟩ | (intro _ _) | exact vz1 | exact vz2 | fail))); done))); refine aw_ret ?_; (repeat (first | refine ret_then ?_ | refine ret_block ?_)); refine bq1c (f := fun _ => sqV (D3, 1)) (v := sqV (D3, 1)) (ty rfl) rfl rfl Nat.one_pos rfl ⟨?_, rfl⟩; rw [if_pos (by assumption)])
      | ((refine aw_mono_r (env' := [(6, .ptr 2 0 0 0)]) (H' := [.arr 2 1 (fun _ => sqV (D4, 1))]) ?_ ?_; (focus ((refine sub_to [some 3] [] rfl ?_ ?_ <;> (repeat' (first | exact trivial | refine ⟨⟨_, rfl, ?_⟩, ?_⟩ | refine ⟨bsub_snoc rfl rfl (fun _ => rfl) ?_, ?_⟩ | refine ⟨bsub_one rfl rfl ?_, ?_⟩ | refine ⟨bsub_all rfl rfl (fun _ _ => rfl) (fun _ => rfl), ?_⟩ | refine ⟨bsub_updL rfl rfl ?_ (fun _ _ _ => rfl) (fun _ => rfl), ?_⟩ | refine ⟨.inl ⟨_, _, rfl, rfl, ?_⟩, ?_⟩ | exact ⟨.inr ⟨rfl, rfl⟩, trivial⟩ | refine ⟨.inr ⟨rfl, rfl⟩, ?_⟩ | (intro _ _) | exact vz1 | exact vz2 | fail))); done))); refine aw_ret ?_; (repeat (first | refine ret_then ?_ | refine ret_block ?_)); refine bq1c (f := fun _ => sqV (D4, 1)) (v := sqV (D4, 1)) (ty rfl) rfl rfl Nat.one_pos rfl ⟨?_, rfl⟩; rw [if_neg (by assumption), if_pos (by assumption)])
      | ((refine aw_mono_r (env' := [(6, .ptr 2 0 0 0)]) (H' := [.arr 2 1 (fun _ => sqV (C * C, D2))]) ?_ ?_; (focus ((refine sub_to [some 3] [] rfl ?_ ?_ <;> (repeat' (first | exact trivial | refine ⟨⟨_, rfl, ?_⟩, ?_⟩ | refine ⟨bsub_snoc rfl rfl (fun _ => rfl) ?_, ?_⟩ | refine ⟨bsub_one rfl rfl ?_, ?_⟩ | refine ⟨bsub_all rfl rfl (fun _ _ => rfl) (fun _ => rfl), ?_⟩ | refine ⟨bsub_updL rfl rfl ?_ (fun _ _ _ => rfl) (fun _ => rfl), ?_⟩ | refine ⟨.inl ⟨_, _, rfl, rfl, ?_⟩, ?_⟩ | exact ⟨.inr ⟨rfl, rfl⟩, trivial⟩ | refine ⟨.inr ⟨rfl, rfl⟩, ?_⟩ | (intro _ _) | exact vz1 | exact vz2 | fail))); done))); refine aw_ret ?_; (repeat (first | refine ret_then ?_ | refine ret_block ?_)); refine bq1c (f := fun _ => sqV (C * C, D2)) (v := sqV (C * C, D2)) (ty rfl) rfl rfl Nat.one_pos rfl ⟨?_, rfl⟩; rw [if_neg (by assumption), if_neg (by assumption)])
      | trace_state
set_option maxHeartbeats 1000000 in
theorem less_p (s t : Int × Int) (hs : 0 ≤ s.1 ∧ s.1 ≤ 1099511627775) (hs2 : 0 ≤ s.2 ∧ s.2 ≤ 4294967295) (ht : 0 ≤ t.1 ∧ t.1 ≤ 1099511627775) (ht2 : 0 ≤ t.2 ∧ t.2 ≤ 4294967295) (h1 : s.1 * t.2 ≤ 9223372036854775807) (h2 : t.1 * s.2 ≤ 9223372036854775807) :
    PCalls Try.prog 49 [sqV s, sqV t] (· = vb (decide (s.1 * t.2 < t.1 * s.2))) := by
  have k1 := mul64W_p s.1 t.2 hs ht2 ⟨Int.mul_nonneg hs.1 ht2.1, h1⟩
  have k2 := mul64W_p t.1 s.2 ht hs2 ⟨Int.mul_nonneg ht.1 hs2.1, h2⟩
  refine pcalls_of_aw Try.func49 rfl (Nat.le_of_ble_eq_true rfl) ?_
  (repeat' (first | (refine ar_isq ?_; first | refine zmv ?_ | refine zas ?_ | (refine is_load ?_; first | refine zlp ?_ | refine zlr ?_) | (refine is_binOp ?_; first | refine zlss ?_ | refine zeql ?_) | (refine is_fieldAddr ?_; first | refine zfp ?_ | refine zfr ?_) | (refine is_pick ?_; first | refine zpt ?_ | refine zpf ?_) | refine zex ?_ | refine zcvu64 ?_) | (refine ar_pcall (own := false) fn70 rfl rfl (.cons (.closed rfl) (.cons (.closed rfl) .nil)) (k1) (by simp) (dc rfl) ?_; intro _ hv; subst hv) | (refine ar_pcall (own := false) fn70 rfl rfl (.cons (.closed rfl) (.cons (.closed rfl) .nil)) (k2) (by simp) (dc rfl) ?_; intro _ hv; subst hv) | (refine zbx ?_) | (refine zg ?_ ?_ <;> intro hg <;> first | exact absurd hg (by decide) | ((try replace hg := HG.out hg); (try dsimp only at hg); (try (have _h : True := hg; clear _h hg)); first | (exfalso; omega) | skip)) | (refine zgu ?_) | (refine ar_nil ?_) | (refine aw_seq ?_) | (refine aw_skip ?_) | (refine aw_block ?_) | (refine aw_exit ?_) | (refine aw_region ?_) | (refine zco ?_ ?_ <;> intro hg <;> first | exact absurd hg (by decide) | ((try replace hg := HG.out hg); (try dsimp only at hg); (try (have _h : True := hg; clear _h hg)); first | (exfalso; omega) | skip))))
  all_goals first
    | ((refine aw_ret ?_; (repeat (first | refine ret_then ?_ | refine ret_block ?_)); refine bq1 rfl ⟨?_, rfl⟩); rfl)
    | trace_state
end Go.Proofs.Ytloaefllpokkaaa
