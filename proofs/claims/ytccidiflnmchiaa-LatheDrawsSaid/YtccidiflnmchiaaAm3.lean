/- More operations that only look: indexes, slices of slices, lengths. No condition. -/
import Derived.Test.YtccidiflnmchiaaAm2
namespace Go.Proofs.Ytccidiflnmchiaa
open Go.RowKit
section
variable {P : Program} {nt : Nat} {env : Env} {H : Heap} {dst : Option Tmp} {ty : TypeId} {pos : String} {after : Array Edge} {guard : Option (Nat × Bool)} {x y c : Operand} {T E : TypeId} {d de : TyD} {v : V}

theorem int1 {I : Imm} {ρ : List (Option (Nat × Nat))} {a : Act} {k : IntKind} {m : Int} (h : EnvOk I ρ nt env a) (hx : eo env x = some (.s (.int k m))) : a.eval x = .int k m := by
  have h1 := eo_rel h hx
  cases h1' : a.eval x <;> rw [h1'] at h1 <;> cases h1
  rfl
theorem indexAt_run {w : World} {A : Option Addr} {b off n cap j : Nat} {k : IntKind} (ht : TyIs P T d) (hk : d.tk = .slice E) (he : TyIs P E de) (hA : A = some ⟨b, off, none⟩) (hj : j < n) :
    (Instr.indexAt T (.slice A n cap) (.int k (j : Int))).run P w = .ok (.pointer (some ⟨b, off + j * de.size, none⟩)) w := by
  subst hA
  simp [Instr.indexAt, asIntOf, run_underlying (ht.slice hk), he.sizeOf, addr_add, hj]
theorem qs_iaddr_list {sz n j : Nat} {f : Nat → V} {k : IntKind} {m : Int} (ht : TyIs P T d) (hk : d.tk = .slice E) (he : TyIs P E de) (hs : de.size = sz) (hx : eo env x = some (.list sz n f)) (hy : eo env y = some (.s (.int k m))) (hm : m = (j : Int)) (hj : j < n) :
    QS P nt env H ⟨dst, .indexAddr T x y, ty, pos, after, guard⟩ (.ref (f j) 0) := .mk
  fun _ I ρ a w h hw => by
    have h1 := eo_rel h hx
    have h2 := int1 h hy
    subst hm
    obtain ⟨A, c, us, h1', hc, hm, hl, hsz, hv⟩ := h1.list_inv
    obtain ⟨b, off, hA, hL⟩ := hl (by omega)
    have hLj : Lies I b (off + j * sz) (f j).cells.length (us j) := by rw [hsz j hj]; exact hL j hj
    refine ⟨.pointer (some ⟨b, off + j * sz + 0, none⟩), .ref hLj fun i x hx => hv j i x hj hx, fun w' _ => ?_⟩
    simp [execOp, h1', h2, indexAt_run ht hk he hA hj, hs]
theorem qs_iaddr_sl {sz b i n j : Nat} {k : IntKind} {m : Int} (ht : TyIs P T d) (hk : d.tk = .slice E) (he : TyIs P E de) (hs : de.size = sz) (hx : eo env x = some (.sl sz b i n)) (hy : eo env y = some (.s (.int k m))) (hm : m = (j : Int)) (hj : j < n) :
    QS P nt env H ⟨dst, .indexAddr T x y, ty, pos, after, guard⟩ (.ptr sz b (i + j) 0) := .mk
  fun _ I ρ a w h hw => by
    have h1 := eo_rel h hx
    have h2 := int1 h hy
    subst hm
    rcases h1.sl_inv with ⟨cb, z, c, h1', hb, hc, hm, hz⟩ | ⟨_, _, _, _, rfl⟩
    · refine ⟨.pointer (some ⟨cb, (i + j) * sz + 0, none⟩), .ptr hb, fun w' _ => ?_⟩
      simp [execOp, h1', h2, indexAt_run ht hk he rfl hj , hs, Nat.add_mul]
    · omega
theorem qs_iaddr_aref {r : V} {off n j : Nat} {k : IntKind} {m : Int} (ht : TyIs P T d) (hk : d.tk = .array n E) (he : TyIs P E de) (hx : eo env x = some (.ref r off)) (hy : eo env y = some (.s (.int k m))) (hm : m = (j : Int)) (hj : j < n) :
    QS P nt env H ⟨dst, .indexAddr T x y, ty, pos, after, guard⟩ (.ref r (off + j * de.size)) := .mk
  fun _ I ρ a w h hw => by
    have h1 := eo_rel h hx
    have h2 := int1 h hy
    subst hm
    cases h1' : a.eval x <;> rw [h1'] at h1 <;> cases h1
    rename_i b o us hl hr
    refine ⟨.pointer (some ⟨b, o + (off + j * de.size), none⟩), .ref hl hr, fun w' _ => ?_⟩
    simp [execOp, h1', h2, Instr.indexAt, asIntOf, run_underlying (ht.arr hk), he.sizeOf, addr_add, hj, Instr.sureAddr, Nat.add_assoc]
theorem qs_iaddr_aptr {sz b i off n j : Nat} {k : IntKind} {m : Int} (ht : TyIs P T d) (hk : d.tk = .array n E) (he : TyIs P E de) (hx : eo env x = some (.ptr sz b i off)) (hy : eo env y = some (.s (.int k m))) (hm : m = (j : Int)) (hj : j < n) :
    QS P nt env H ⟨dst, .indexAddr T x y, ty, pos, after, guard⟩ (.ptr sz b i (off + j * de.size)) := .mk
  fun _ I ρ a w h hw => by
    have h1 := eo_rel h hx
    have h2 := int1 h hy
    subst hm
    obtain ⟨cb, z, h1', hb⟩ := h1.ptr_inv
    refine ⟨.pointer (some ⟨cb, i * sz + (off + j * de.size), none⟩), .ptr hb, fun w' _ => ?_⟩
    simp [execOp, h1', h2, Instr.indexAt, asIntOf, run_underlying (ht.arr hk), he.sizeOf, addr_add, hj, Instr.sureAddr, Nat.add_assoc]
theorem qs_index {cs : List V} {n j : Nat} {k : IntKind} {m : Int} (ht : TyIs P T d) (hk : d.tk = .array n E) (he : TyIs P E de) (hx : eo env x = some (.agg cs)) (hy : eo env y = some (.s (.int k m))) (hm : m = (j : Int)) (hj : j < n) (hv : partV de.tk.agg cs (j * de.size) de.size = some v) :
    QS P nt env H ⟨dst, .index T x y, ty, pos, after, guard⟩ v := .mk
  fun _ I ρ a w h hw => by
    have h1 := eo_rel h hx
    have h2 := int1 h hy
    subst hm
    cases h1' : a.eval x <;> rw [h1'] at h1 <;> cases h1
    rename_i us hs hr
    obtain ⟨u, h3, h4⟩ := part_run he hs hr hv
    exact ⟨u, h3, fun w' _ => by simp [execOp, h1', h2, Instr.index, asIntOf, run_underlying (ht.arr hk), he.sizeOf, hj, h4]⟩

/-! ### Slices of slices -/
def bnd (env : Env) (o : Option Operand) (dflt : Nat) (n : Nat) : Prop :=
  match o with
  | none => n = dflt
  | some x => ∃ k, eo env x = some (.s (.int k (n : Int)))
theorem slice_run {w : World} {A : Option Addr} {n cap l h m : Nat} {lo hi mx : Option Value} (ht : TyIs P T d) (hk : d.tk = .slice E) (he : TyIs P E de)
    (hm : match mx with | none => m = cap | some v => ∃ k, v = .int k (m : Int)) (hh : match hi with | none => h = n ∧ mx = none | some v => ∃ k, v = .int k (h : Int)) (hl : match lo with | none => l = 0 | some v => ∃ k, v = .int k (l : Int))
    (h1 : l ≤ h) (h2 : h ≤ m) (h3 : m ≤ cap) :
    (Instr.sliceAt T (.slice A n cap) lo hi mx).run P w = .ok (.slice (if m = l then A else A.map (·.add (l * de.size))) (h - l) (m - l)) w := by
  have e1 : Instr.sliceAt T (.slice A n cap) lo hi mx = (do match ← underlying T with
    | .array n elem =>
      let a ← Instr.sureAddr (.slice A n cap)
      let (l, h, m) ← Instr.sliceBounds false n n lo hi mx
      let size ← sizeOf elem
      pure (.slice (some (if m = l then a else a.add (l * size))) (h - l) (m - l))
    | _ => Instr.slice T (.slice A n cap) lo hi mx) := rfl
  rw [e1]
  simp only [Sem.run_bind, run_underlying (ht.slice hk), Result.andThen_ok, Instr.slice]
  have hb : (Instr.sliceBounds true n cap lo hi mx).run P w = .ok (l, h, m) w := by
    cases mx with
    | none =>
      simp only at hm
      subst hm
      cases hi with
      | none =>
        obtain ⟨rfl, _⟩ := hh
        cases lo with
        | none => simp only at hl; subst hl; simp [Instr.sliceBounds]
        | some v => obtain ⟨k, rfl⟩ := hl; simp [Instr.sliceBounds, Instr.sliceBound, asIntOf, h1]
      | some u =>
        obtain ⟨k', rfl⟩ := hh
        cases lo with
        | none => simp only at hl; subst hl; simp [Instr.sliceBounds, Instr.sliceBound, asIntOf, h2]
        | some v => obtain ⟨k, rfl⟩ := hl; simp [Instr.sliceBounds, Instr.sliceBound, asIntOf, h1, h2]
    | some q =>
      obtain ⟨kq, rfl⟩ := hm
      cases hi with
      | none => obtain ⟨_, h0⟩ := hh; cases h0
      | some u =>
        obtain ⟨k', rfl⟩ := hh
        cases lo with
        | none => simp only at hl; subst hl; simp [Instr.sliceBounds, Instr.sliceBound, asIntOf, h2, h3]
        | some v => obtain ⟨k, rfl⟩ := hl; simp [Instr.sliceBounds, Instr.sliceBound, asIntOf, h1, h2, h3]
  simp [hb, he.sizeOf]
theorem bnd_val {I : Imm} {ρ : List (Option (Nat × Nat))} {a : Act} (he : EnvOk I ρ nt env a) {o : Option Operand} {dflt n : Nat} (h : bnd env o dflt n) :
    match o.map a.eval with | none => n = dflt | some v => ∃ k, v = .int k (n : Int) := by
  cases o with
  | none => exact h
  | some x => obtain ⟨k, hk⟩ := h; exact ⟨k, int1 he hk⟩
theorem VRel.sub {I : Imm} {ρ : List (Option (Nat × Nat))} {sz n l h m c : Nat} {f : Nat → V} {A : Option Addr} (hr : VRel I ρ (.list sz n f) (.slice A n c)) (h1 : l ≤ h) (h2 : h ≤ m) (h3 : m ≤ c) (hn : h ≤ n) :
    VRel I ρ (.list sz (h - l) (fun k => f (l + k))) (.slice (if m = l then A else A.map (·.add (l * sz))) (h - l) (m - l)) := by
  cases hr with
  | list hc hm hl hsz hv =>
    rename_i us
    refine .list (us := fun i j => us (l + i) j) (by omega) ?_ (fun h0 => ?_) (fun i hi => hsz _ (by omega)) (fun i j v hi => hv _ j v (by omega))
    · split
      · omega
      · cases A <;> simp [capMax] at hm ⊢ <;> omega
    · obtain ⟨b, off, rfl, hL⟩ := hl (by omega)
      refine ⟨b, off + l * sz, by rw [if_neg (by omega)]; simp [addr_add], fun i hi => ?_⟩
      have := hL (l + i) (by omega)
      rwa [Nat.add_mul, ← Nat.add_assoc] at this
theorem qs_slice_list {sz n l h : Nat} {f : Nat → V} {lo hi : Option Operand} (ht : TyIs P T d) (hk : d.tk = .slice E) (he : TyIs P E de) (hs : de.size = sz) (hx : eo env x = some (.list sz n f)) (hl : bnd env lo 0 l) (hh : bnd env hi n h) (h1 : l ≤ h) (h2 : h ≤ n) :
    QS P nt env H ⟨dst, .slice T x lo hi none, ty, pos, after, guard⟩ (.list sz (h - l) (fun k => f (l + k))) := .mk
  fun _ I ρ a w hE hw => by
    have hr := eo_rel hE hx
    have bl := bnd_val hE hl
    have bh := bnd_val hE hh
    cases h1' : a.eval x <;> rw [h1'] at hr <;> first | (exfalso; cases hr; done) | skip
    rename_i A n' c
    obtain ⟨rfl, hc⟩ : n' = n ∧ n ≤ c := by cases hr; exact ⟨rfl, by assumption⟩
    refine ⟨_, hr.sub (m := c) h1 (by omega) (Nat.le_refl _) h2, fun w' _ => ?_⟩
    subst hs
    have := slice_run (P := P) (w := w') (A := A) (n := n') (cap := c) (l := l) (h := h) (m := c) (lo := lo.map a.eval) (hi := hi.map a.eval) (mx := none) ht hk he rfl (by
      cases hi with
      | none => exact ⟨bh, rfl⟩
      | some u => exact bh) bl h1 (by omega) (Nat.le_refl _)
    simp only [execOp, h1', Sem.run_bind, Option.map_none, this, Result.andThen_ok]
    rfl
theorem qs_slice3_list {sz n l h m : Nat} {f : Nat → V} {lo : Option Operand} {hi mx : Operand} {km kh : IntKind} (ht : TyIs P T d) (hk : d.tk = .slice E) (he : TyIs P E de) (hs : de.size = sz) (hx : eo env x = some (.list sz n f)) (hl : bnd env lo 0 l) (hh : eo env hi = some (.s (.int kh (h : Int)))) (hm : eo env mx = some (.s (.int km (m : Int)))) (h1 : l ≤ h) (h2 : h ≤ m) (h3 : m ≤ n) :
    QS P nt env H ⟨dst, .slice T x lo (some hi) (some mx), ty, pos, after, guard⟩ (.list sz (h - l) (fun k => f (l + k))) := .mk
  fun _ I ρ a w hE hw => by
    have hr := eo_rel hE hx
    have bl := bnd_val hE hl
    have bh := int1 hE hh
    have bm := int1 hE hm
    cases h1' : a.eval x <;> rw [h1'] at hr <;> first | (exfalso; cases hr; done) | skip
    rename_i A n' c
    obtain ⟨rfl, hc⟩ : n' = n ∧ n ≤ c := by cases hr; exact ⟨rfl, by assumption⟩
    refine ⟨_, hr.sub (m := m) h1 h2 (by omega) (by omega), fun w' _ => ?_⟩
    subst hs
    have := slice_run (P := P) (w := w') (A := A) (n := n') (cap := c) (l := l) (h := h) (m := m) (lo := lo.map a.eval) (hi := some (a.eval hi)) (mx := some (a.eval mx)) ht hk he ⟨km, bm⟩ ⟨kh, bh⟩ bl h1 h2 (by omega)
    simp only [execOp, h1', Sem.run_bind, Option.map_some, this, Result.andThen_ok]
    rfl
/-- 'x[:0:0]': nothing, and no room. -/
theorem qs_slice00 {sz n : Nat} {f : Nat → V} {hi mx : Operand} {km kh : IntKind} (ht : TyIs P T d) (hk : d.tk = .slice E) (he : TyIs P E de) (hx : eo env x = some (.list sz n f)) (hh : eo env hi = some (.s (.int kh 0))) (hm : eo env mx = some (.s (.int km 0))) :
    QS P nt env H ⟨dst, .slice T x none (some hi) (some mx), ty, pos, after, guard⟩ .emp := .mk
  fun _ I ρ a w hE hw => by
    have hr := eo_rel hE hx
    have bh := int1 hE hh
    have bm := int1 hE hm
    cases h1' : a.eval x <;> rw [h1'] at hr <;> first | (exfalso; cases hr; done) | skip
    rename_i A n' c
    refine ⟨.slice A 0 0, .emp A, fun w' _ => ?_⟩
    have := slice_run (P := P) (w := w') (A := A) (n := n') (cap := c) (l := 0) (h := 0) (m := 0) (lo := none) (hi := some (a.eval hi)) (mx := some (a.eval mx)) ht hk he ⟨km, bm⟩ ⟨kh, bh⟩ rfl (Nat.le_refl _) (Nat.le_refl _) (by omega)
    simp only [execOp, h1', Sem.run_bind, Option.map_some, Option.map_none, this, Result.andThen_ok]
    rfl
theorem qs_makeFunc {f : Fn} {first cap : Array Operand} {vs us : List V} (h1 : first.toList.mapM (eo env) = some vs) (h2 : cap.toList.mapM (eo env) = some us) : QS P nt env H ⟨dst, .makeFunc f first cap, ty, pos, after, guard⟩ (.fn f vs us) := by
  have key : ∀ (I : Imm) (ρ : List (Option (Nat × Nat))) (a : Act), EnvOk I ρ nt env a → ∀ (l : List Operand) (vs : List V), l.mapM (eo env) = some vs → l.length = vs.length ∧ ∀ (j : Nat) v u, vs[j]? = some v → (l.map a.eval)[j]? = some u → VRel I ρ v u := by
    intro I ρ a he l
    induction l with
    | nil => intro vs h; simp at h; subst h; exact ⟨rfl, fun j v u h => by simp at h⟩
    | cons x l ih =>
      intro vs h
      simp only [List.mapM_cons, Option.pure_def, Option.bind_eq_bind, Option.bind_eq_some_iff] at h
      obtain ⟨v0, hv0, vs', hvs, h'⟩ := h
      cases h'
      obtain ⟨e1, e2⟩ := ih vs' hvs
      refine ⟨by simp [e1], fun j v u hj hu => ?_⟩
      cases j with
      | zero => simp at hj hu; subst hj hu; exact eo_rel he hv0
      | succ j => exact e2 j v u (by simpa using hj) (by simpa using hu)
  refine ⟨?_⟩
  intro X I ρ a w he hw
  obtain ⟨a1, a2⟩ := key I ρ a he _ _ h1
  obtain ⟨b1, b2⟩ := key I ρ a he _ _ h2
  refine ⟨.func f (first.map a.eval) (cap.map a.eval), .fn (by simpa using a1) (fun j v u hj hu => a2 j v u hj (by simpa using hu)) (by simpa using b1) (fun j v u hj hu => b2 j v u hj (by simpa using hu)), fun w' _ => rfl⟩
theorem qs_len_list {sz n : Nat} {f : Nat → V} {ats : Array TypeId} (ht : TyIs P T d) (hk : d.tk = .slice E) (h0 : ats[0]? = some T) (hx : eo env x = some (.list sz n f)) : QS P nt env H ⟨dst, .call ⟨.builtin .len, #[x], ats⟩, ty, pos, after, guard⟩ (.s (.int .i64 (n : Int))) := .mk
  fun _ I ρ a w h hw => by
    have h1 := eo_rel h hx
    cases h1' : a.eval x <;> rw [h1'] at h1 <;> cases h1
    exact ⟨_, .s _, fun w' _ => by simp [execOp, resolve, invoke, builtin, Builtin.len_, h1', h0, run_underlying (ht.slice hk), goInt]⟩
theorem qs_len_sl {sz b i n : Nat} {ats : Array TypeId} (ht : TyIs P T d) (hk : d.tk = .slice E) (h0 : ats[0]? = some T) (hx : eo env x = some (.sl sz b i n)) : QS P nt env H ⟨dst, .call ⟨.builtin .len, #[x], ats⟩, ty, pos, after, guard⟩ (.s (.int .i64 (n : Int))) := .mk
  fun _ I ρ a w h hw => by
    have h1 := eo_rel h hx
    cases h1' : a.eval x <;> rw [h1'] at h1 <;> cases h1 <;>
    exact ⟨_, .s _, fun w' _ => by simp [execOp, resolve, invoke, builtin, Builtin.len_, h1', h0, run_underlying (ht.slice hk), goInt]⟩
theorem qs_len_emp {ats : Array TypeId} (ht : TyIs P T d) (hk : d.tk = .slice E) (h0 : ats[0]? = some T) (hx : eo env x = some .emp) : QS P nt env H ⟨dst, .call ⟨.builtin .len, #[x], ats⟩, ty, pos, after, guard⟩ (.s (.int .i64 0)) := .mk
  fun _ I ρ a w h hw => by
    have h1 := eo_rel h hx
    cases h1' : a.eval x <;> rw [h1'] at h1 <;> cases h1
    exact ⟨_, .s _, fun w' _ => by simp [execOp, resolve, invoke, builtin, Builtin.len_, h1', h0, run_underlying (ht.slice hk), goInt]⟩
theorem qs_len_nil {ats : Array TypeId} (ht : TyIs P T d) (hk : d.tk = .slice E) (h0 : ats[0]? = some T) (hx : eo env x = some (.s (.slice none 0 0))) : QS P nt env H ⟨dst, .call ⟨.builtin .len, #[x], ats⟩, ty, pos, after, guard⟩ (.s (.int .i64 0)) := .mk
  fun _ I ρ a w h hw => by
    have h1 := eo_rel h hx
    cases h1' : a.eval x <;> rw [h1'] at h1 <;> cases h1
    exact ⟨_, .s _, fun w' _ => by simp [execOp, resolve, invoke, builtin, Builtin.len_, h1', h0, run_underlying (ht.slice hk), goInt]⟩
end
end Go.Proofs.Ytccidiflnmchiaa
