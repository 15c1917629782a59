/- Results in variables; contracts whose result is a new row of our own. No condition. -/
import Derived.Test.YtccidiflnmchiaaAm21
import Derived.Laws.Cover3
namespace Go.Proofs.Ytccidiflnmchiaa
open Go.RowKit
section
variable {P : Program} {nt : Nat} {Q : Post} {env : Env} {H : Heap} {R Rp : V → Heap → Prop} {a t2 t3 : Nat} {v v2 v3 : V}
theorem bq3c {T : TypeId} {d : TyD} {sz b i off n : Nat} {f : Nat → V} (hT : TyIs P T d) (ha : look env a = some (.ptr sz b i off)) (hH : H[b]? = some (.arr sz n f)) (hi : i < n) (hv : partV d.tk.agg (f i).cells off d.size = some v)
    (h2 : look env t2 = some v2) (h3 : look env t3 = some v3) (hR : R (.tup [v, v2, v3]) H) : BodyQ P #[.cell a T, .tmp t2, .tmp t3] R Rp .ret env H :=
  ⟨_, .inr (.inr (.inr (.inl ⟨_, _, _, _, _, _, rfl, ⟨d, sz, b, i, off, n, f, hT, ha, hH, hi, hv⟩, h2, h3, rfl⟩))), hR⟩
theorem bq1c {T : TypeId} {d : TyD} {sz b i off n : Nat} {f : Nat → V} (hT : TyIs P T d) (ha : look env a = some (.ptr sz b i off)) (hH : H[b]? = some (.arr sz n f)) (hi : i < n) (hv : partV d.tk.agg (f i).cells off d.size = some v)
    (hR : R v H) : BodyQ P #[.cell a T] R Rp .ret env H := ⟨_, .inl ⟨_, rfl, ⟨d, sz, b, i, off, n, f, hT, ha, hH, hi, hv⟩⟩, hR⟩
end
/-- A call that writes nothing that was there, of arguments without own blocks; its result is a new row of our own. -/
structure FCalls (P : Program) (f : FuncId) (args : List V) (sz : Nat) (R : Nat → (Nat → V) → Prop) : Prop where
  out : ∀ (I : Imm) w us, (∀ b o, I b = some o → w.heap[b]? = some o) → VRels I [] args us → Calls P f us w fun e w' => ∃ n g u I' ρ', R n g ∧ (∀ i, i < n → V.closed.all (g i).cells = true) ∧ e = .returned u ∧ VRel I' ρ' (.sl sz 0 0 n) u ∧ WOk (Ctx.self w [] [] I) I' ρ' [.arr sz n g] w'
def FreshQ (sz : Nat) (R : Nat → (Nat → V) → Prop) (v : V) (H : Heap) : Prop := ∃ n g, v = .sl sz 0 0 n ∧ H = [.arr sz n g] ∧ R n g ∧ ∀ i, i < n → V.closed.all (g i).cells = true
theorem fcalls_of_aw {P : Program} {f : FuncId} {fn : Func} {c : Code} {args : List V} {sz : Nat} {R : Nat → (Nat → V) → Prop} (hf : P.funcs[f]? = some fn) (hb : fn.body = some c) (hn : args.length ≤ fn.ntmps)
    (h : AW P none 0 fn.ntmps c (BodyQ P fn.results (FreshQ sz R) NoP) (argEnv args 0) []) : FCalls P f args sz R := by
  refine ⟨fun I w us hI hv => ?_⟩
  refine ((acalls_of_aw (H := []) hf hb hn h).1 (Ctx.self w [] [] I) I [] w us (WOk.begin hI) hv).mono fun e w' ⟨v, u, I', ρ', H', hle, hpre, hw', hr, h2⟩ => ?_
  rcases h2 with ⟨rfl, n, g, rfl, rfl, hR, hc⟩ | ⟨_, hno⟩
  · exact ⟨n, g, u, I', ρ', hR, hc, rfl, hr, hw'⟩
  · exact hno.elim
theorem get_snoc {α : Type} {l : List α} {a x : α} {k : Nat} (h : (l ++ [a])[k]? = some x) : (k < l.length ∧ l[k]? = some x) ∨ (k = l.length ∧ x = a) := by
  rcases Nat.lt_or_ge k l.length with hk | hk
  · exact .inl ⟨hk, by rwa [List.getElem?_append_left hk] at h⟩
  · rw [List.getElem?_append_right hk] at h
    have : k - l.length = 0 := by
      have := (List.getElem?_eq_some_iff.1 h).1
      simp at this
      omega
    rw [this] at h
    simp at h
    exact .inr ⟨by omega, h.symm⟩
theorem WOk.join {X : Ctx} {I J : Imm} {ρ : List (Option (Nat × Nat))} {x : Option (Nat × Nat)} {H : Heap} {w w' : World} {sz n : Nat} {g : Nat → V} (hw : WOk X I ρ H w) (k : WOk (Ctx.self w [] [] I) J [x] [.arr sz n g] w') (hc : ∀ i, i < n → V.closed.all (g i).cells = true) :
    WOk X J (ρ ++ [x]) (H ++ [.arr sz n g]) w' := by
  have hlen := hw.len
  have old : ∀ b, b < w.heap.size → w'.heap[b]? = w.heap[b]? := fun b hb => k.keep b hb not_live_nil
  have nw : ∀ b z, x = some (b, z) → w.heap.size ≤ b := fun b z e => by
    rcases k.mine b ⟨0, _, rfl, by simp, z, by rw [e]; rfl⟩ with h | h
    · exact h
    · exact (not_live_nil h).elim
  have oldLive : ∀ i b y (blk : Blk), H[i]? = some blk → blk ≠ .dead → ρ[i]? = some (some (b, y)) → b < w.heap.size := fun i b y blk h1 h2 h3 => hw.lt ⟨i, blk, h1, h2, y, h3⟩
  have both : ∀ (i : Nat) (blk : Blk) (y : Option (Nat × Nat)), (H ++ [Blk.arr sz n g])[i]? = some blk → (ρ ++ [x])[i]? = some y → (i < H.length ∧ H[i]? = some blk ∧ ρ[i]? = some y) ∨ (i = H.length ∧ blk = .arr sz n g ∧ y = x) := fun i blk y h1 h2 => by
    rcases get_snoc h1 with ⟨a1, a2⟩ | ⟨a1, a2⟩ <;> rcases get_snoc h2 with ⟨b1, b2⟩ | ⟨b1, b2⟩
    · exact .inl ⟨a1, a2, b2⟩
    · omega
    · omega
    · exact .inr ⟨a1, a2, b2⟩
  exact { len := by simp [hlen]
          inj := fun i j b ⟨p, hp, hp'⟩ ⟨q, hq, hq'⟩ y z hy hz => by
            rcases both i p _ hp hy with ⟨_, a2, a3⟩ | ⟨a1, _, a3⟩ <;> rcases both j q _ hq hz with ⟨_, b2, b3⟩ | ⟨b1, _, b3⟩
            · exact hw.inj i j b ⟨p, a2, hp'⟩ ⟨q, b2, hq'⟩ y z a3 b3
            · have h1 := oldLive i b y p a2 hp' a3
              have h2 := nw b z b3.symm
              omega
            · have h1 := oldLive j b z q b2 hq' b3
              have h2 := nw b y a3.symm
              omega
            · omega
          imm := k.imm
          apart := fun b ⟨i, blk, h1, h2, z, h3⟩ => by
            rcases both i blk _ h1 h3 with ⟨_, a2, a3⟩ | ⟨_, _, a3⟩
            · have hlt := oldLive i b z blk a2 h2 a3
              have hI := hw.apart b ⟨i, blk, a2, h2, z, a3⟩
              cases e : J b with
              | none => rfl
              | some o =>
                rcases k.news b (by rw [e]; simp) with h | h | h
                · exact (h hI).elim
                · have : w.heap.size ≤ b := h
                  omega
                · exact (not_live_nil h).elim
            · exact k.apart b ⟨0, _, rfl, by simp, z, by rw [← a3]; rfl⟩
          size := fun i s m f h => by
            rcases get_snoc h with ⟨_, a2⟩ | ⟨_, a2⟩
            · exact hw.size i s m f a2
            · cases a2; exact k.size 0 _ _ _ rfl
          none := fun i s m f h h' => by
            rcases both i _ _ h h' with ⟨_, a2, a3⟩ | ⟨_, a2, a3⟩
            · exact hw.none i s m f a2 a3
            · cases a2; exact k.none 0 _ _ _ rfl (by rw [← a3]; rfl)
          arr := fun i s m f b z h h' => by
            rcases both i _ _ h h' with ⟨_, a2, a3⟩ | ⟨_, a2, a3⟩
            · exact (hw.arr i s m f b z a2 a3).mono k.le (pre_append _) (old b (oldLive i b z _ a2 (by simp) a3))
            · cases a2
              obtain ⟨cs, ty, h1, h2, h3, h4⟩ := k.arr 0 _ _ _ b z rfl (by rw [← a3]; rfl)
              exact ⟨cs, ty, h1, h2, h3, fun i j v hi hv => by obtain ⟨u, h5, h6⟩ := h4 i j v hi hv; exact ⟨u, h5, (h6.close (closed_all (hc i hi) hv)).closed⟩⟩
          map := fun i m h => by
            rcases get_snoc h with ⟨a1, a2⟩ | ⟨_, a2⟩
            · obtain ⟨b, h1, h2⟩ := hw.map i m a2
              refine ⟨b, ?_, h2.mono k.le (pre_append _) (old b (oldLive i b 0 _ a2 (by simp) h1))⟩
              rw [List.getElem?_append_left (by omega)]
              exact h1
            · cases a2
          mine := fun b ⟨i, blk, h1, h2, z, h3⟩ => by
            rcases both i blk _ h1 h3 with ⟨_, a2, a3⟩ | ⟨_, _, a3⟩
            · exact hw.mine b ⟨i, blk, a2, h2, z, a3⟩
            · exact .inl (Nat.le_trans hw.grow (nw b z a3.symm))
          news := fun b hb => by
            rcases k.news b hb with h | h | h
            · exact hw.news b h
            · exact .inr (.inl (Nat.le_trans hw.grow h))
            · exact (not_live_nil h).elim
          le := Imm.le_trans hw.le k.le
          pre := hw.pre.trans (pre_append _)
          os := k.os.trans hw.os, tape := k.tape.trans hw.tape, out := k.out.trans hw.out, grow := Nat.le_trans hw.grow k.grow
          keep := fun b hb hl => (old b (Nat.lt_of_lt_of_le hb hw.grow)).trans (hw.keep b hb hl) }
section
variable {P : Program} {r : Option Nat} {m nt : Nat} {Q : Post} {env : Env} {H : Heap} {ops : Array Oper} {l : List Stp} {dst : Option Tmp} {ty : TypeId} {pos : String} {after : Array Edge} {guard : Option (Nat × Bool)} {keep : Bool}
theorem ls_fcall {fo : Operand} {args : List Operand} {ats : Array TypeId} {f : FuncId} {first cap vs as : List V} {sz : Nat} {R : Nat → (Nat → V) → Prop} (hfn : FnOk P f) (hf : eo env fo = some (.fn (.func f) first cap)) (hargs : args.mapM (eo env) = some vs)
    (ha : ArgsOk false H (first ++ vs ++ cap) as) (h : FCalls P f as sz R) : LS P r m nt keep env H ⟨dst, .call ⟨.value fo, args.toArray, ats⟩, ty, pos, after, guard⟩ (fun v H' => ∃ n g, R n g ∧ v = .sl sz H.length 0 n ∧ H' = H ++ [.arr sz n g]) NoP := .mk
  fun X I ρ a w next Qx hX hs hk hp => by
    have hw := hs.2.1
    have h1 := eo_rel hs.1 hf
    cases h1' : a.eval fo <;> rw [h1'] at h1 <;> cases h1
    rename_i us ws e1 e2 e3 e4
    have hrel : VRels I ρ (first ++ vs ++ cap) (us ++ (args.map a.eval).toArray ++ ws) := (VRels.append ⟨e1, e2⟩ (evals hs.1 hargs)).append ⟨e3, e4⟩
    have hrel' := args_rel (us := (us ++ (args.map a.eval).toArray ++ ws).toList) hw ha (by rw [Array.toArray_toList]; exact hrel)
    rw [Array.toArray_toList] at hrel'
    refine wpIn_of_run (by simp) (call_run hfn h1' w) ⟨fun h => by simp [Fw, Fence.wide] at h, callsIn_fw.2 ?_⟩
    refine (h.1 I w _ hw.imm hrel').mono fun e w' ⟨n, g, u, I', ρ', hR, hc, he, hv, hk'⟩ => ?_
    subst he
    obtain ⟨x, rfl⟩ : ∃ x, ρ' = [x] := by
      have := hk'.len
      match ρ', this with
      | [x], _ => exact ⟨x, rfl⟩
    have hx : (ρ ++ [x])[H.length]? = some x := by rw [← hw.len]; simp
    have hv2 : VRel I' (ρ ++ [x]) (.sl sz H.length 0 n) u := by
      rcases hv.sl_inv with ⟨cb, z, c, rfl, hρ, h2, h3, h4⟩ | ⟨A, rfl, hρ, _, rfl⟩
      · exact .sl (by rw [hx]; simpa using hρ) h2 h3 h4
      · exact .slNone A (by rw [hx]; simpa using hρ)
    exact hk I' (ρ ++ [x]) _ _ u w' ⟨n, g, hR, rfl, rfl⟩ hk'.le (pre_append _) (hw.join hk' hc) hv2 (fun _ y hy => by
      have old : ∀ b, b < w.heap.size → w'.heap[b]? = w.heap[b]? := fun b hb => hk'.keep b hb not_live_nil
      have hlen := hw.len
      refine ⟨fun b o h1 => hy.1 b o (hk'.le b o h1), fun k s' m f b z h1 h2 o ho => ?_, fun k ms b z h1 h2 => ?_⟩
      · have hk1 := (List.getElem?_eq_some_iff.1 h1).1
        exact (hy.2.1 k s' m f b z (by rw [List.getElem?_append_left hk1]; exact h1) (by rw [List.getElem?_append_left (by omega)]; exact h2) o ho).trans (World.cell?_of_block (a := ⟨b, o, none⟩) (old b (hw.lt ⟨k, _, h1, by simp, z, h2⟩)))
      · have hk1 := (List.getElem?_eq_some_iff.1 h1).1
        exact (hy.2.2 k ms b z (by rw [List.getElem?_append_left hk1]; exact h1) (by rw [List.getElem?_append_left (by omega)]; exact h2)).trans (old b (hw.lt ⟨k, _, h1, by simp, z, h2⟩)))
theorem ar_fcall {i d : Nat} {fo : Operand} {args : List Operand} {ats : Array TypeId} {f : FuncId} {first cap vs as : List V} {sz : Nat} {R : Nat → (Nat → V) → Prop} (hfn : FnOk P f) (hf : eo env fo = some (.fn (.func f) first cap)) (hargs : args.mapM (eo env) = some vs)
    (ha : ArgsOk false H (first ++ vs ++ cap) as) (h : FCalls P f as sz R) (hd : d < nt) (hk : ∀ n g, R n g → AR P r m nt ops Q l ((d, .sl sz H.length 0 n) :: env) (H ++ [.arr sz n g])) : AR P r m nt ops Q (.l i ⟨some d, .call ⟨.value fo, args.toArray, ats⟩, ty, pos, after, none⟩ keep :: l) env H :=
  ar_l (ls_fcall hfn hf hargs ha h) hd (fun v H' ⟨n, g, hR, a, b⟩ => by subst a; subst b; exact hk n g hR) (fun _ _ h => h.elim)
end
section
variable {P : Program} {r : Option Nat} {m nt : Nat} {Q : Post} {env : Env} {H : Heap} {ops : Array Oper} {l : List Stp} {ty : TypeId} {pos : String} {after : Array Edge} {T E T' : TypeId} {d : TyD} {x y : Operand}
/-- 's == nil' of a slice that nobody writes: true only if it is empty. -/
theorem ar_eqnil {i e sz n : Nat} {f : Nat → V} (ht : TyIs P T d) (hk : d.tk = .slice E) (hx : eo env x = some (.list sz n f)) (hy : eo env y = some (.s (.slice none 0 0))) (hd : e < nt)
    (h : ∀ b : Bool, (b = true → n = 0) → AR P r m nt ops Q l ((e, .s (.bool b)) :: env) H) : AR P r m nt ops Q (.q i ⟨some e, .binOp .eql T x y T', ty, pos, after, none⟩ :: l) env H := by
  refine ar_q_any (C := fun v => ∃ b : Bool, v = .s (.bool b) ∧ (b = true → n = 0)) (fun X I ρ a w hE hw => ?_) hd (fun v ⟨b, hv, hb⟩ => by subst hv; exact h b hb)
  obtain ⟨A, c, us, h1, hc, hm, _⟩ := (eo_rel hE hx).list_inv
  refine ⟨_, ⟨A.isNone, rfl, fun hn => ?_⟩, _, .s _, fun w' _ => by simp [execOp, h1, sval hE hy, eqGuard, binOp, run_equal_slice_nil w' T E A n c (ht.slice hk)]⟩
  cases A with
  | none => simp only [capMax] at hm; omega
  | some _ => cases hn
end
end Go.Proofs.Ytccidiflnmchiaa
