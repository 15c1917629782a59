/- The rules as a walk takes them. No condition. -/
import Derived.Test.YtccidiflnmchiaaAm10
namespace Go.Proofs.Ytccidiflnmchiaa
open Go.RowKit
section
variable {P : Program} {r : Option Nat} {m nt : Nat} {Q : Post} {env : Env} {H : Heap} {ops : Array Oper} {l : List Stp} {ty : TypeId} {pos : String} {after : Array Edge} {x y : Operand} {T E : TypeId} {d de : TyD} {i dst : Nat} {keep : Bool}
theorem hgT {p : Prop} [Decidable p] (h : decide p = true) : p := of_decide_eq_true h
theorem hgF {p : Prop} [Decidable p] (h : decide p = false) : ¬ p := of_decide_eq_false h
theorem hgNT {p : Prop} [Decidable p] (h : (!decide p) = true) : ¬ p := of_decide_eq_false (by simpa using h)
theorem hgNF {p : Prop} [Decidable p] (h : (!decide p) = false) : p := of_decide_eq_true (by simpa using h)
theorem hgBT {b : Bool} (h : (!b) = true) : b = false := by simpa using h
theorem hgBF {b : Bool} (h : (!b) = false) : b = true := by simpa using h
theorem hgV {b : Bool} (h : b = !true) : b = false := h
theorem hgW {b : Bool} (h : b = !false) : b = true := h
theorem dc {a b : Nat} (h : Nat.ble a b = true) : a ≤ b := Nat.le_of_ble_eq_true h
theorem wrap64 {n : Int} (h : -9223372036854775808 ≤ n ∧ n ≤ 9223372036854775807) : IntKind.i64.wrap n = n := by rw [IntKind.wrap_i64]; omega
theorem wrap64n {n : Int} (h : -9223372036854775808 ≤ -n ∧ -n ≤ 9223372036854775807) : IntKind.i64.wrap (0 - n) = -n := by rw [IntKind.wrap_i64]; omega
theorem wrap8 {n : Int} (h : 0 ≤ n ∧ n ≤ 255) : IntKind.u8.wrap n = n := by
  simp only [IntKind.wrap, IntKind.bits, IntKind.signed]
  simp
  omega

theorem ar_isq {i d : Nat} {op : Op} (h : AR P r m nt ops Q (.q i ⟨some d, op, ty, pos, after, none⟩ :: l) env H) : AR P r m nt ops Q (.q i ⟨some d, op, ty, pos, after, none⟩ :: l) env H := h
theorem ar_isl {i : Nat} {o : Oper} (h : AR P r m nt ops Q (.l i o keep :: l) env H) : AR P r m nt ops Q (.l i o keep :: l) env H := h
theorem is_move {i d : Nat} {x : Operand} (h : AR P r m nt ops Q (.q i ⟨some d, .move x, ty, pos, after, none⟩ :: l) env H) : AR P r m nt ops Q (.q i ⟨some d, .move x, ty, pos, after, none⟩ :: l) env H := h
theorem is_assign {i d : Nat} {x : Operand} (h : AR P r m nt ops Q (.q i ⟨some d, .assign x, ty, pos, after, none⟩ :: l) env H) : AR P r m nt ops Q (.q i ⟨some d, .assign x, ty, pos, after, none⟩ :: l) env H := h
theorem is_load {i d : Nat} {T : TypeId} {x : Operand} (h : AR P r m nt ops Q (.q i ⟨some d, .load T x, ty, pos, after, none⟩ :: l) env H) : AR P r m nt ops Q (.q i ⟨some d, .load T x, ty, pos, after, none⟩ :: l) env H := h
theorem is_binOp {i d : Nat} {o : BinOp} {T : TypeId} {x y : Operand} {T2 : TypeId} (h : AR P r m nt ops Q (.q i ⟨some d, .binOp o T x y T2, ty, pos, after, none⟩ :: l) env H) : AR P r m nt ops Q (.q i ⟨some d, .binOp o T x y T2, ty, pos, after, none⟩ :: l) env H := h
theorem is_fieldAddr {i d : Nat} {T : TypeId} {x : Operand} {k : Nat} (h : AR P r m nt ops Q (.q i ⟨some d, .fieldAddr T x k, ty, pos, after, none⟩ :: l) env H) : AR P r m nt ops Q (.q i ⟨some d, .fieldAddr T x k, ty, pos, after, none⟩ :: l) env H := h
theorem is_indexAddr {i d : Nat} {T : TypeId} {x y : Operand} (h : AR P r m nt ops Q (.q i ⟨some d, .indexAddr T x y, ty, pos, after, none⟩ :: l) env H) : AR P r m nt ops Q (.q i ⟨some d, .indexAddr T x y, ty, pos, after, none⟩ :: l) env H := h
theorem is_call {i d : Nat} {c : Call} (h : AR P r m nt ops Q (.q i ⟨some d, .call c, ty, pos, after, none⟩ :: l) env H) : AR P r m nt ops Q (.q i ⟨some d, .call c, ty, pos, after, none⟩ :: l) env H := h
theorem is_pick {i d : Nat} {c x y : Operand} (h : AR P r m nt ops Q (.q i ⟨some d, .pick c x y, ty, pos, after, none⟩ :: l) env H) : AR P r m nt ops Q (.q i ⟨some d, .pick c x y, ty, pos, after, none⟩ :: l) env H := h
theorem is_extract {i d : Nat} {x : Operand} {k : Nat} (h : AR P r m nt ops Q (.q i ⟨some d, .extract x k, ty, pos, after, none⟩ :: l) env H) : AR P r m nt ops Q (.q i ⟨some d, .extract x k, ty, pos, after, none⟩ :: l) env H := h
theorem is_unOp {i d : Nat} {o : UnOp} {T : TypeId} {x : Operand} (h : AR P r m nt ops Q (.q i ⟨some d, .unOp o T x, ty, pos, after, none⟩ :: l) env H) : AR P r m nt ops Q (.q i ⟨some d, .unOp o T x, ty, pos, after, none⟩ :: l) env H := h
theorem maxLen_ok {n : Nat} (h : n ≤ 9223372036854775807) : n ≤ maxLen := by unfold maxLen; omega
/-! ### Conditions -/
theorem aw_cond_d {c : Operand} {x y : Code} {p : Prop} [Decidable p] (hc : eo env c = some (.s (.bool (decide p)))) (ht : p → AW P r m nt x Q env H) (hf : ¬ p → AW P r m nt y Q env H) : AW P r m nt (.cond c x y) Q env H :=
  aw_cond hc (fun h => ht (of_decide_eq_true h)) (fun h => hf (of_decide_eq_false h))
theorem aw_cond_nd {c : Operand} {x y : Code} {p : Prop} [Decidable p] (hc : eo env c = some (.s (.bool (!decide p)))) (ht : ¬ p → AW P r m nt x Q env H) (hf : p → AW P r m nt y Q env H) : AW P r m nt (.cond c x y) Q env H :=
  aw_cond hc (fun h => ht (of_decide_eq_false (by simpa using h))) (fun h => hf (of_decide_eq_true (by simpa using h)))
theorem aw_cond_n {c : Operand} {x y : Code} {b : Bool} (hc : eo env c = some (.s (.bool (!b)))) (ht : b = false → AW P r m nt x Q env H) (hf : b = true → AW P r m nt y Q env H) : AW P r m nt (.cond c x y) Q env H :=
  aw_cond hc (fun h => ht (by simpa using h)) (fun h => hf (by simpa using h))
section
variable {s : Stp} {g t e : Nat} {want : Bool}
theorem ar_guard_y (hg : s.oper.guard = some (g, want)) (ht : (ops[g]?).bind (·.dst) = some t) (hd : s.oper.dst = some e) (hb : look env t = some (.s (.bool want))) (hdn : e < nt) (h : AR P r m nt ops Q (s.bare :: l) env H) : AR P r m nt ops Q (s :: l) env H :=
  ar_guard hg ht hb hd hdn (fun _ => .mk fun X I ρ a w hX hs => h.1 X I ρ a w hX ⟨⟨hs.1.1, fun t' v' h' => hs.1.2 t' v' (by
    rw [look_cons]
    split
    · rename_i e; subst e; rw [hb] at h'; exact h'
    · exact h')⟩, hs.2⟩) (fun h => by cases want <;> cases h)
theorem ar_guard_n {b : Bool} (hg : s.oper.guard = some (g, want)) (ht : (ops[g]?).bind (·.dst) = some t) (hd : s.oper.dst = some e) (hb : look env t = some (.s (.bool b))) (hbw : (b == want) = false) (hdn : e < nt) (h : AR P r m nt ops Q l ((e, .s undef) :: env) H) : AR P r m nt ops Q (s :: l) env H :=
  ar_guard hg ht hb hd hdn (fun h => by subst h; simp at hbw) (fun hbb => .mk fun X I ρ a w hX hs => h.1 X I ρ a w hX ⟨⟨hs.1.1, fun t' v' h' => hs.1.2 t' v' (by
    rw [look_cons] at h' ⊢
    split
    · rename_i e; rw [if_pos e] at h'; exact h'
    · rename_i e
      rw [if_neg e] at h'
      rw [look_cons]
      split
      · rename_i e'; subst e'; rw [hb, hbb] at h'; exact h'
      · exact h')⟩, hs.2⟩)
theorem ar_guard_d {p : Prop} [Decidable p] (hg : s.oper.guard = some (g, want)) (ht : (ops[g]?).bind (·.dst) = some t) (hd : s.oper.dst = some e) (hb : look env t = some (.s (.bool (decide p)))) (hdn : e < nt)
    (hy : (p ↔ want = true) → AR P r m nt ops Q (s.bare :: l) ((t, .s (.bool want)) :: env) H) (hn : (p ↔ want = false) → AR P r m nt ops Q l ((e, .s undef) :: (t, .s (.bool !want)) :: env) H) : AR P r m nt ops Q (s :: l) env H :=
  ar_guard hg ht hb hd hdn (fun h => hy (by rw [← h]; simp)) (fun h => hn (by cases want <;> simp at h ⊢ <;> exact h))
end
theorem ar_guard_u {s : Stp} {g t e : Nat} {want : Bool} (hg : s.oper.guard = some (g, want)) (ht : (ops[g]?).bind (·.dst) = some t) (hd : s.oper.dst = some e) (hb : look env t = some (.s undef)) (hdn : e < nt) (h : AR P r m nt ops Q l ((e, .s undef) :: env) H) : AR P r m nt ops Q (s :: l) env H := .mk fun X I ρ a w hX hs => by
  obtain ⟨h1, h2⟩ := hs.1.2 t _ hb
  have ev : a.tmps.getD t undef = undef := by generalize a.tmps.getD t undef = u at h2; cases h2; rfl
  have hwf : Region.wanted s.oper (yielded ops a.tmps) = false := by
    unfold Region.wanted
    rw [hg]
    have : yielded ops a.tmps g = none := by
      unfold yielded
      have hlt : t < a.tmps.size := by rw [hs.1.1]; exact h1
      simp only [ht, Option.bind_some]
      simp [hlt] at ev
      simp [hlt, ev, undef]
    simp only [this]
    cases want <;> rfl
  have ih : runP P r ops (Lift X nt Q) l (Keeps I ρ H w) (a.put (some e) undef) w := h.1 X I ρ _ w hX ⟨hs.1.put (.s _) hdn, hs.2.1, hs.2.2⟩
  rw [← hd] at ih
  cases s with
  | q i o => exact ⟨fun h' => absurd (h'.symm.trans hwf) (by decide), fun _ => ih⟩
  | l i o k => exact ⟨fun h' => absurd (h'.symm.trans hwf) (by decide), fun _ => ih⟩
theorem iff_t {p : Prop} (h : p ↔ true = true) : p := h.2 rfl
theorem iff_f {p : Prop} (h : p ↔ false = true) : ¬ p := fun hp => by cases h.1 hp
theorem iff_t' {p : Prop} (h : p ↔ true = false) : ¬ p := fun hp => by cases h.1 hp
theorem iff_f' {p : Prop} (h : p ↔ false = false) : p := h.2 rfl

/-! ### Indexes -/
theorem ar_idx_list {sz n : Nat} {f : Nat → V} {k : IntKind} {v : Int} (ht : TyIs P T d) (hk : d.tk = .slice E) (he : TyIs P E de) (hs : de.size = sz) (hx : eo env x = some (.list sz n f)) (hy : eo env y = some (.s (.int k v))) (hd : dst < nt) (h0 : 0 ≤ v ∧ v < (n : Int))
    (h : ∀ j : Nat, v = (j : Int) → j < n → AR P r m nt ops Q l ((dst, .ref (f j) 0) :: env) H) : AR P r m nt ops Q (.q i ⟨some dst, .indexAddr T x y, ty, pos, after, none⟩ :: l) env H := by
  obtain ⟨j, rfl⟩ := Int.eq_ofNat_of_zero_le h0.1
  exact ar_q (qs_iaddr_list ht hk he hs hx hy rfl (by omega)) hd (h j rfl (by omega))
theorem ar_idx_sl {sz b i0 n : Nat} {k : IntKind} {v : Int} (ht : TyIs P T d) (hk : d.tk = .slice E) (he : TyIs P E de) (hs : de.size = sz) (hx : eo env x = some (.sl sz b i0 n)) (hy : eo env y = some (.s (.int k v))) (hd : dst < nt) (h0 : 0 ≤ v ∧ v < (n : Int))
    (h : ∀ j : Nat, v = (j : Int) → j < n → AR P r m nt ops Q l ((dst, .ptr sz b (i0 + j) 0) :: env) H) : AR P r m nt ops Q (.q i ⟨some dst, .indexAddr T x y, ty, pos, after, none⟩ :: l) env H := by
  obtain ⟨j, rfl⟩ := Int.eq_ofNat_of_zero_le h0.1
  exact ar_q (qs_iaddr_sl ht hk he hs hx hy rfl (by omega)) hd (h j rfl (by omega))

/-! ### Memory -/
theorem ar_box {v : V} {x : Operand} (hx : eo env x = some v) (hok : v.ok = true) (hd : dst < nt) (h : AR P r m nt ops Q l ((dst, .ptr v.cells.length H.length 0 0) :: env) (H ++ [.arr v.cells.length 1 (fun _ => v)])) :
    AR P r m nt ops Q (.l i ⟨some dst, .box T x, ty, pos, after, none⟩ true :: l) env H :=
  ar_l (ls_box hx hok) hd (fun v H' ⟨a, b⟩ => by subst a; subst b; exact h) (fun _ _ h => h.elim)
theorem LS.loose {keep : Bool} {o : Oper} {R Rp : V → Heap → Prop} (h : LS P r m nt true env H o R Rp) : LS P r m nt keep env H o R Rp :=
  .mk fun X I ρ a w next Qx hX hs hk hp => h.1 X I ρ a w next Qx hX hs (fun I' ρ' H' v u w' h1 h2 h3 h4 h5 h6 => hk I' ρ' H' v u w' h1 h2 h3 h4 h5 (fun _ => h6 rfl)) hp
theorem ar_boxf {v : V} {x : Operand} (hx : eo env x = some v) (hok : v.ok = true) (hd : dst < nt) (h : AR P r m nt ops Q l ((dst, .ptr v.cells.length H.length 0 0) :: env) (H ++ [.arr v.cells.length 1 (fun _ => v)])) :
    AR P r m nt ops Q (.l i ⟨some dst, .box T x, ty, pos, after, none⟩ keep :: l) env H :=
  ar_l (ls_box hx hok).loose hd (fun v H' ⟨a, b⟩ => by subst a; subst b; exact h) (fun _ _ h => h.elim)
theorem ar_alloc (ht : TyIs P T d) (hok : (constV d.zero).ok = true) (hd : dst < nt) (h : AR P r m nt ops Q l ((dst, .ptr (constV d.zero).cells.length H.length 0 0) :: env) (H ++ [.arr (constV d.zero).cells.length 1 (fun _ => constV d.zero)])) :
    AR P r m nt ops Q (.l i ⟨some dst, .alloc T, ty, pos, after, none⟩ keep :: l) env H :=
  ar_l (ls_alloc ht hok).loose hd (fun v H' ⟨a, b⟩ => by subst a; subst b; exact h) (fun _ _ h => h.elim)
theorem ar_make {n : Nat} {kl kc : IntKind} (ht : TyIs P T d) (hk : d.tk = .slice E) (he : TyIs P E de) (hx : eo env x = some (.s (.int kl (n : Int)))) (hy : eo env y = some (.s (.int kc (n : Int)))) (hd : dst < nt) (hok : (constV de.zero).ok = true) (hz : (constV de.zero).cells.length = de.size) (hb : de.bytes * n ≤ 281474976710656) (hm : n ≤ maxLen)
    (h : AR P r m nt ops Q l ((dst, .sl de.size H.length 0 n) :: env) (H ++ [.arr de.size n (fun _ => constV de.zero)])) : AR P r m nt ops Q (.l i ⟨some dst, .makeSlice T x y, ty, pos, after, none⟩ keep :: l) env H :=
  ar_l (ls_make ht hk he hx hy hb hm hok hz).loose hd (fun v H' ⟨a, b⟩ => by subst a; subst b; exact h) (fun _ _ h => h.elim)
theorem ar_store_var {v : V} {sz b off : Nat} {f : Nat → V} (ht : TyIs P T d) (hx : eo env x = some (.ptr sz b 0 off)) (hy : eo env y = some v) (hH : H[b]? = some (.arr sz 1 f)) (hok : v.ok = true) (hone : v.cells.all V.one = true)
    (hsz : v.cells.length = d.size) (hoff : off + d.size ≤ sz) (ha : (∃ cs, f 0 = .agg cs) ∨ (off = 0 ∧ v.cells.length = 1 ∧ (f 0).cells.length = 1 ∧ ∀ cs, v ≠ .agg cs)) (h : AR P r m nt ops Q l env (H.set b (.arr sz 1 (fun _ => putPart (f 0) off v)))) :
    AR P r m nt ops Q (.l i ⟨none, .store T x y, ty, pos, after, none⟩ false :: l) env H :=
  ar_l0 (ls_store_var ht hx hy hok hone hH hsz hoff ha) (fun v H' a => by subst a; exact h) (fun _ _ h => h.elim)
theorem ar_store_elt {v : V} {sz b j off n : Nat} {f : Nat → V} (ht : TyIs P T d) (hx : eo env x = some (.ptr sz b j off)) (hy : eo env y = some v) (hH : H[b]? = some (.arr sz n f)) (hok : v.ok = true) (hone : v.cells.all V.one = true)
    (hsz : v.cells.length = d.size) (hi : j < n) (hoff : off + d.size ≤ sz) (ha : (∃ cs, f j = .agg cs) ∨ (off = 0 ∧ v.cells.length = 1 ∧ (f j).cells.length = 1 ∧ ∀ cs, v ≠ .agg cs)) (h : AR P r m nt ops Q l env (H.set b (.arr sz n (upd f j (putPart (f j) off v))))) :
    AR P r m nt ops Q (.l i ⟨none, .store T x y, ty, pos, after, none⟩ false :: l) env H :=
  ar_l0 (ls_store_elt ht hx hy hok hone hH hi hsz hoff ha) (fun v H' a => by subst a; exact h) (fun _ _ h => h.elim)
theorem ar_append {dv yv : V} {sz n k : Nat} {f g : Nat → V} {H0 : Heap} (ht : TyIs P T d) (hk : d.tk = .slice E) (he : TyIs P E de) (hsz : de.size = sz) (hpos : 0 < sz) (hz : de.zero.cells.size = sz) (hx : eo env x = some dv) (hy : eo env y = some yv) (hg : Grow H dv sz n f H0) (hs : Src H yv sz k g) (hd : dst < nt)
    (hone : ∀ j, j < k → (g j).cells.all V.one = true) (hm : n + k ≤ maxLen) (hb : (n + k) * de.bytes ≤ 140737488355328) (h : AR P r m nt ops Q l ((dst, .sl sz H.length 0 (n + k)) :: env) (H0 ++ [.arr sz (n + k) (appF n f g)])) :
    AR P r m nt ops Q (.l i ⟨some dst, .call ⟨.builtin .append, #[x, y], #[T, T]⟩, ty, pos, after, none⟩ keep :: l) env H :=
  ar_l (ls_append ht hk he hsz hpos hz hx hy hg hs hone hm hb) hd (fun v H' ⟨a, b⟩ => by subst a; subst b; exact h) (fun _ _ h => h.elim)

/-! ### Calls -/
theorem ar_pcall {own : Bool} {fo : Operand} {args : List Operand} {ats : Array TypeId} {f : FuncId} {first cap vs as : List V} {R : V → Prop} (hfn : FnOk P f) (hf : eo env fo = some (.fn (.func f) first cap)) (hargs : args.mapM (eo env) = some vs)
    (ha : ArgsOk own H (first ++ vs ++ cap) as) (h : PCalls P f as R) (hflat : own = true → ∀ v, R v → v.flat = true) (hd : dst < nt) (hk : ∀ v, R v → AR P r m nt ops Q l ((dst, v) :: env) H) : AR P r m nt ops Q (.l i ⟨some dst, .call ⟨.value fo, args.toArray, ats⟩, ty, pos, after, none⟩ keep :: l) env H :=
  ar_l (ls_pcall hfn hf hargs ha h hflat) hd (fun v H' ⟨a, b⟩ => by subst b; exact hk v a) (fun _ _ h => h.elim)
theorem ar_acall {fo : Operand} {args : List Operand} {ats : Array TypeId} {f : FuncId} {first cap vs : List V} {R Rp : V → Heap → Prop} (hfn : FnOk P f) (hf : eo env fo = some (.fn (.func f) first cap)) (hargs : args.mapM (eo env) = some vs)
    (h : ACalls P f (first ++ vs ++ cap) H R Rp) (hd : dst < nt) (hk : ∀ v H', R v H' → AR P r m nt ops Q l ((dst, v) :: env) H') (hp : ∀ v H', Rp v H' → Q (.panic v) [] H') : AR P r m nt ops Q (.l i ⟨some dst, .call ⟨.value fo, args.toArray, ats⟩, ty, pos, after, none⟩ false :: l) env H :=
  ar_l (ls_call hfn hf hargs h) hd hk hp

/-! ### Results -/
theorem ret_then {K : Env → Heap → Prop} (h : Q .ret env H) : AE.then K Q .ret env H := h
theorem ret_block {id : Nat} (h : Q .ret env H) : AE.inBlock id Q .ret env H := h
variable {R Rp : V → Heap → Prop} {t t2 t3 t4 : Nat} {v v2 v3 v4 : V}
theorem bq1 (h : look env t = some v) (hR : R v H) : BodyQ P #[.tmp t] R Rp .ret env H := ⟨v, .inl ⟨_, rfl, h⟩, hR⟩
theorem bq1n (h : look env t = some v) (hR : R v H) : BodyQ P #[.tmp t] R Rp .normal env H := ⟨v, .inl ⟨_, rfl, h⟩, hR⟩
theorem bq0 (hR : R (.tup []) H) : BodyQ P #[] R Rp .ret env H := ⟨_, .inr (.inl ⟨rfl, rfl⟩), hR⟩
theorem bq0n (hR : R (.tup []) H) : BodyQ P #[] R Rp .normal env H := ⟨_, .inr (.inl ⟨rfl, rfl⟩), hR⟩
theorem bq2 (h : look env t = some v) (h2 : look env t2 = some v2) (hR : R (.tup [v, v2]) H) : BodyQ P #[.tmp t, .tmp t2] R Rp .ret env H := ⟨_, .inr (.inr (.inl ⟨_, _, _, _, rfl, h, h2, rfl⟩)), hR⟩
theorem bq3 (h : look env t = some v) (h2 : look env t2 = some v2) (h3 : look env t3 = some v3) (hR : R (.tup [v, v2, v3]) H) : BodyQ P #[.tmp t, .tmp t2, .tmp t3] R Rp .ret env H := ⟨_, .inr (.inr (.inr (.inl ⟨_, _, _, _, _, _, rfl, h, h2, h3, rfl⟩))), hR⟩
theorem bq4 (h : look env t = some v) (h2 : look env t2 = some v2) (h3 : look env t3 = some v3) (h4 : look env t4 = some v4) (hR : R (.tup [v, v2, v3, v4]) H) : BodyQ P #[.tmp t, .tmp t2, .tmp t3, .tmp t4] R Rp .ret env H := ⟨_, .inr (.inr (.inr (.inr ⟨_, _, _, _, _, _, _, _, rfl, h, h2, h3, h4, rfl⟩))), hR⟩
end

/-! ### Loops -/
theorem loop_next {m nt N k : Nat} {J : Prop} {E : Env} {G : Heap} {Q : Post} {env : Env} {H : Heap} (h1 : k < N) (h2 : J) (h3 : SubOf m nt env H E G) : AE.then (fun env' H' => k < N ∧ J ∧ SubOf m nt env' H' E G) Q .normal env H := ⟨h1, h2, h3⟩
def injB (σ : List (Option Nat)) : Bool := (List.range σ.length).all fun i => (List.range σ.length).all fun j => i == j || match σ[i]?, σ[j]? with | some (some a), some (some b) => a != b | _, _ => true
theorem inj_of {σ : List (Option Nat)} (h : injB σ = true) : Inj σ := fun i j b h1 h2 => by
  have hi := (List.getElem?_eq_some_iff.1 h1).1
  have hj := (List.getElem?_eq_some_iff.1 h2).1
  have := List.all_eq_true.1 (List.all_eq_true.1 h i (List.mem_range.2 hi)) j (List.mem_range.2 hj)
  rw [h1, h2] at this
  simpa using this
def apartB (fr : List Nat) (σ : List (Option Nat)) : Bool := fr.all fun b => !σ.contains (some b)
theorem apart_of {fr : List Nat} {σ : List (Option Nat)} (h : apartB fr σ = true) : ∀ b ∈ fr, some b ∉ σ := fun b hb hs => by
  have := List.all_eq_true.1 h b hb
  simp [hs] at this
def preB (m : Nat) (σ : List (Option Nat)) : Bool := (List.range m).all fun k => σ[k]? == some (some k)
theorem pre_of {m : Nat} {σ : List (Option Nat)} (h : preB m σ = true) : ∀ k, k < m → σ[k]? = some (some k) := fun k hk => by
  have := List.all_eq_true.1 h k (List.mem_range.2 hk)
  simpa using this
/-- 'σ': where each block that is kept stood; 'fr': the rows that are let go for good. -/
theorem sub_to {m nt : Nat} {env env0 : Env} {H H0 : Heap} (σ : List (Option Nat)) (fr : List Nat) (h : (Nat.beq σ.length H0.length && preB m σ && injB σ && apartB fr σ) = true) (he : EnvSub H σ (· ∈ fr) env env0) (hh : HSub H σ (· ∈ fr) 0 H0) : SubOf m nt env H env0 H0 := by
  simp only [Bool.and_eq_true] at h
  exact sub_gen σ fr (Nat.eq_of_beq_eq_true h.1.1.1) (pre_of h.1.1.2) (inj_of h.1.2) (apart_of h.2) he hh
theorem aw_mono_r {P : Program} {r : Option Nat} {m nt : Nat} {c : Code} {Q : Post} {env env' : Env} {H H' : Heap} (hs : SubOf m nt env H env' H') (h : AW P r m nt c Q env' H') : AW P r m nt c Q env H := aw_sub hs h
theorem frzPtr' {H : Heap} {σ : List (Option Nat)} {fr : Nat → Prop} {sz b i off N : Nat} {f : Nat → V} {v : V} (hf : fr b) (hb : H[b]? = some (.arr sz N f)) (hi : i < N) (hc : V.closed.all (f i).cells = true) (hv : f i = v) : VSub H σ fr (.ptr sz b i off) (.ref v off) := by
  subst hv; exact .frzPtr hf hb hi hc
theorem args_closed {own : Bool} {H : Heap} : ∀ {vs : List V}, V.closed.all vs = true → ArgsOk own H vs vs
  | [], _ => .nil
  | v :: l, h => by
    simp only [V.closed.all, Bool.and_eq_true] at h
    exact .cons (.closed h.1) (args_closed h.2)
theorem closed_app : ∀ {a b : List V}, V.closed.all (a ++ b) = (V.closed.all a && V.closed.all b)
  | [], b => rfl
  | v :: l, b => by simp [V.closed.all, closed_app, Bool.and_assoc]
end Go.Proofs.Ytccidiflnmchiaa
