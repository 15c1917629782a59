/- append. No condition. -/
import Derived.Test.YtccidiflnmchiaaAm7
namespace Go.Proofs.Ytccidiflnmchiaa
open Go.RowKit
section
variable {P : Program} {r : Option Nat} {m nt : Nat} {env : Env} {H H0 : Heap} {dst : Option Tmp} {ty : TypeId} {pos : String} {after : Array Edge} {guard : Option (Nat × Bool)} {x y c : Operand} {T E : TypeId} {d de : TyD} {v : V} {keep : Bool}

/-- A slice that may be appended to: nothing, or all of a block of ours. -/
def Grow (H : Heap) (dv : V) (sz n : Nat) (f : Nat → V) (H0 : Heap) : Prop :=
  (dv = .s (.slice none 0 0) ∧ n = 0 ∧ H0 = H) ∨ (dv = .emp ∧ n = 0 ∧ H0 = H) ∨ ∃ b, dv = .sl sz b 0 n ∧ H[b]? = some (.arr sz n f) ∧ H0 = H.set b .dead
/-- A slice whose elements are known. -/
def Src (H : Heap) (yv : V) (sz k : Nat) (g : Nat → V) : Prop :=
  yv = .list sz k g ∨ (∃ b i N f, yv = .sl sz b i k ∧ H[b]? = some (.arr sz N f) ∧ i + k ≤ N ∧ g = fun j => f (i + j)) ∨ (yv = .emp ∧ k = 0) ∨ (yv = .s (.slice none 0 0) ∧ k = 0)
def appF (n : Nat) (f g : Nat → V) : Nat → V := fun i => bif Nat.blt i n then f i else g (i - n)
theorem appF_lt {n i : Nat} {f g : Nat → V} (h : i < n) : appF n f g i = f i := by
  have : Nat.blt i n = true := by simp [Nat.blt_eq, h]
  simp [appF, this]
theorem appF_ge {n i : Nat} {f g : Nat → V} (h : n ≤ i) : appF n f g i = g (i - n) := by
  have : Nat.blt i n = false := by cases e : Nat.blt i n with | false => rfl | true => rw [Nat.blt_eq] at e; omega
  simp [appF, this]

/-- The cells of a source. -/
theorem src_cells {X : Ctx} {I : Imm} {ρ : List (Option (Nat × Nat))} {w : World} {yv : V} {sz k : Nat} {g : Nat → V} {u : Value} (hw : WOk X I ρ H w) (hs : Src H yv sz k g) (hu : VRel I ρ yv u) :
    ∃ (A : Option Addr) (cap : Nat) (news : List Value), u = .slice A k cap ∧ news.length = k * sz ∧ (0 < k → ∃ a : Addr, A = some a ∧ a.spot = none ∧ ∀ w' : World, w'.heap = w.heap → ∀ (j : Nat) x, news[j]? = some x → w'.cell? (a.add j) = some x) ∧
      (∀ i, i < k → (g i).cells.length = sz) ∧ ∀ (i j : Nat) x, i < k → (g i).cells[j]? = some x → ∃ q, news[i * sz + j]? = some q ∧ VRel I ρ x q := by
  rcases hs with rfl | ⟨b, i0, N, f, rfl, hb, hN, rfl⟩ | ⟨rfl, rfl⟩ | ⟨rfl, rfl⟩
  · obtain ⟨A, cap, us, rfl, hc, hm, hl, hsz, hv⟩ := hu.list_inv
    refine ⟨A, cap, (List.range (k * sz)).map fun t => us (t / sz) (t % sz), rfl, by simp, fun hk => ?_, hsz, fun i j x hi hj => ?_⟩
    · obtain ⟨b, off, rfl, hL⟩ := hl hk
      refine ⟨_, rfl, rfl, fun w' hw' t x ht => ?_⟩
      have hlt : t < k * sz := by have := (List.getElem?_eq_some_iff.1 ht).1; simpa using this
      simp [hlt] at ht
      have hs0 : 0 < sz := by cases sz with | zero => simp at hlt | succ q => omega
      have hi : t / sz < k := (Nat.div_lt_iff_lt_mul hs0).2 hlt
      obtain ⟨cs, ty, fz, hI, hcs⟩ := hL _ hi
      have := hcs (t % sz) (Nat.mod_lt _ hs0)
      rw [addr_add, cell_of (by rw [hw']; exact hw.imm _ _ hI), ← ht, ← this]
      congr 1
      have := Nat.div_add_mod' t sz
      omega
    · have hlen : j < sz := by have := (List.getElem?_eq_some_iff.1 hj).1; rw [hsz i hi] at this; exact this
      have hlt : i * sz + j < k * sz := by
        have : i * sz + sz ≤ k * sz := by rw [← Nat.succ_mul]; exact Nat.mul_le_mul_right _ hi
        omega
      refine ⟨us i j, ?_, (hv i j x hi hj).closed⟩
      have e1 : (i * sz + j) / sz = i := by rw [Nat.mul_comm, Nat.mul_add_div (by omega), Nat.div_eq_of_lt hlen]; rfl
      have e2 : (i * sz + j) % sz = j := by rw [Nat.mul_comm, Nat.mul_add_mod, Nat.mod_eq_of_lt hlen]
      simp [hlt, e1, e2]
  · have hsz := hw.size _ _ _ _ hb
    rcases hu.sl_inv with ⟨cb, z, cap, rfl, hρ, hc, hm, hz⟩ | ⟨A, rfl, hρ, rfl, rfl⟩
    · obtain ⟨cs, t, hcs, hcz, hn, hr⟩ := hw.arr _ _ _ _ _ _ hb hρ
      have hfit : i0 * sz + k * sz ≤ cs.size := by
        have : (i0 + k) * sz ≤ N * sz := Nat.mul_le_mul_right _ hN
        rw [Nat.add_mul] at this
        omega
      refine ⟨_, cap, (List.range (k * sz)).map fun t => cs.getD (i0 * sz + t) undef, rfl, by simp, fun hk => ⟨_, rfl, rfl, fun w' hw' t x ht => ?_⟩, fun i hi => hsz _ (by omega), fun i j x hi hj => ?_⟩
      · have hlt : t < k * sz := by have := (List.getElem?_eq_some_iff.1 ht).1; simpa using this
        have h2 : i0 * sz + t < cs.size := by omega
        simp [hlt, h2] at ht
        rw [addr_add, cell_of (by rw [hw']; exact hcs)]
        simp [h2, ht]
      · have hlen : j < sz := by have := (List.getElem?_eq_some_iff.1 hj).1; rw [hsz _ (by omega)] at this; exact this
        have hlt : i * sz + j < k * sz := by
          have : i * sz + sz ≤ k * sz := by rw [← Nat.succ_mul]; exact Nat.mul_le_mul_right _ hi
          omega
        obtain ⟨q, h1, h2⟩ := hr (i0 + i) j x (by omega) hj
        refine ⟨q, ?_, h2⟩
        have h3 : i0 * sz + (i * sz + j) < cs.size := by omega
        rw [Nat.add_mul, Nat.add_assoc] at h1
        simp [h3] at h1
        simp [hlt, h3, h1]
    · exact ⟨A, 0, [], rfl, by simp, fun h => by omega, fun i hi => by omega, fun i j x hi => by omega⟩
  · cases hu with
    | emp A => exact ⟨A, 0, [], rfl, by simp, fun h => by omega, fun i hi => by omega, fun i j x hi => by omega⟩
  · cases hu with
    | s => exact ⟨none, 0, [], rfl, by simp, fun h => by omega, fun i hi => by omega, fun i j x hi => by omega⟩
theorem firstCells_run {w : World} {size k cap : Nat} {A : Option Addr} {news : List Value} (hl : news.length = k * size) (h : 0 < k → ∃ a : Addr, A = some a ∧ a.spot = none ∧ ∀ (j : Nat) x, news[j]? = some x → w.cell? (a.add j) = some x) :
    (Builtin.firstCells size k (.slice A k cap)).run P w = .ok news.toArray w := by
  rcases Nat.eq_zero_or_pos k with h0 | h0
  · subst h0
    have : news = [] := List.eq_nil_of_length_eq_zero (by simpa using hl)
    subst this
    cases A <;> simp [Builtin.firstCells, loadCells, loadCellsFrom]
  · obtain ⟨a, rfl, _, h2⟩ := h h0
    exact run_firstCells_some (P := P) w size k a k cap news hl h2
theorem append_grow_run {w : World} {i : TypeInfo} {z : Value} {A B : Option Addr} {n c k cap : Nat} {olds news : List Value} (ht : P.underlying T = some (.slice E)) (hi : P.info? E = some i) (hz : i.zero = some z)
    (ho : (Builtin.firstCells i.size n (.slice A n c)).run P w.drew = .ok olds.toArray w.drew) (hn : (Builtin.firstCells i.size k (.slice B k cap)).run P w.drew = .ok news.toArray w.drew) (hg : c < n + k) (h63 : n + k ≤ 9223372036854775807) (hfit : Builtin.nextslicecap (n + k) c * i.bytes ≤ 281474976710656) :
    (Builtin.append_ #[T, T] ty #[.slice A n c, .slice B k cap]).run P w =
      .ok (.slice (some ⟨w.heap.size, 0, none⟩) (n + k) (grownCap w (n + k) c E)) (w.drew.alloc (.cells (olds.toArray ++ news.toArray ++ Builtin.zeroCells z.cells (grownCap w (n + k) c E - (n + k))) E)) := by
  have hn' : ¬ (n + k ≤ c) := by omega
  have h63' : ¬ (9223372036854775807 < ((n : Int) + (k : Int))) := by omega
  have h48' : ¬ (281474976710656 < Builtin.nextslicecap (n + k) c * i.bytes) := by omega
  simp [Builtin.append_, run_underlying ht, sizeOf, typeInfo, zeroValue, hi, hz, Builtin.lenOf, hn', h63', h48', Question.forced, hn, ho, newRow, grownCap]
  congr 2
  apply Array.ext'
  simp [List.append_assoc]
theorem append_none_run {w : World} {i : TypeInfo} {A B : Option Addr} {cap : Nat} (ht : P.underlying T = some (.slice E)) (hi : P.info? E = some i) :
    (Builtin.append_ #[T, T] ty #[.slice A 0 0, .slice B 0 cap]).run P w = .ok (.slice A 0 0) w := by
  have h := firstCells_run (P := P) (w := w) (size := i.size) (k := 0) (cap := cap) (A := B) (news := []) (by simp) (fun h => by omega)
  cases A <;> simp [Builtin.append_, run_underlying ht, sizeOf, typeInfo, hi, Builtin.lenOf, h, storeCells]
theorem append_room_run {w : World} {i : TypeInfo} {B : Option Addr} {n c k cap cb : Nat} {t : TypeId} {cs : Array Value} {news : List Value} (ht : P.underlying T = some (.slice E)) (hi : P.info? E = some i)
    (hn : (Builtin.firstCells i.size k (.slice B k cap)).run P w = .ok news.toArray w) (hcs : w.heap[cb]? = some (.cells cs t (0, 0))) (hg : n + k ≤ c) (hfit : n * i.size + news.length ≤ cs.size) (h1 : ∀ u ∈ news, u.oneCell' = true) :
    (Builtin.append_ #[T, T] ty #[.slice (some ⟨cb, 0, none⟩) n c, .slice B k cap]).run P w =
      .ok (.slice (some ⟨cb, 0, none⟩) (n + k) c) (w.setRow cb (cs.toList.take (n * i.size) ++ news ++ cs.toList.drop (n * i.size + news.length)).toArray) := by
  have hst := run_storeCells_at P cb (n * i.size) t news 0 cs w hcs (by simpa using hfit) h1
  simp only [Nat.add_zero] at hst
  simp [Builtin.append_, run_underlying ht, sizeOf, typeInfo, hi, Builtin.lenOf, hg, hn, addr_add, hst]

/-- One more block known. -/
def know (I : Imm) (cb : Nat) (o : Option Obj) : Imm := fun b => if b = cb then o else I b
theorem know_at {I : Imm} {cb : Nat} {o : Option Obj} : know I cb o cb = o := by simp [know]
theorem know_le {I : Imm} {cb : Nat} {o : Option Obj} (h : I cb = none) : I.le (know I cb o) := fun b x hb => by
  unfold know
  split
  · rename_i e; subst e; rw [h] at hb; cases hb
  · exact hb
theorem keeps_kill {I : Imm} {ρ : List (Option (Nat × Nat))} {w y : World} {b : Nat} (hy : Keeps I ρ (H.set b .dead) w y) (hb : ∀ cb z, ρ[b]? = some (some (cb, z)) → False) : Keeps I ρ H w y :=
  ⟨hy.1, fun k sz n f b' z hk hρ o ho => hy.2.1 k sz n f b' z (by rw [List.getElem?_set_ne (fun e => by subst e; exact hb _ _ hρ)]; exact hk) hρ o ho,
   fun k m b' z hk hρ => hy.2.2 k m b' z (by rw [List.getElem?_set_ne (fun e => by subst e; exact hb _ _ hρ)]; exact hk) hρ⟩
/-- A row that is let go for good: nobody writes it any more. -/
theorem WOk.forget {X : Ctx} {I : Imm} {ρ : List (Option (Nat × Nat))} {w : World} (h : WOk X I ρ H w) {k : Nat} {blk : Blk} {b z : Nat} (hk : H[k]? = some blk) (hd : blk ≠ .dead) (hb : ρ[k]? = some (some (b, z))) : WOk X (know I b (w.heap[b]?)) ρ (H.set k .dead) w := by
  have h' := h.kill k
  have hL : Live H ρ b := ⟨k, _, hk, hd, z, hb⟩
  have hn := not_live_kill h hk hd hb
  have hI := know_le (o := w.heap[b]?) (h.apart b hL)
  exact { len := h'.len, inj := h'.inj, imm := fun c o hc => by
            unfold know at hc
            split at hc
            · rename_i e; subst e; exact hc
            · exact h.imm c o hc
          apart := fun c hc => by
            unfold know
            rw [if_neg (show ¬ c = b from fun e => by subst e; exact hn hc)]
            exact h'.apart c hc
          size := h'.size, none := h'.none, arr := fun j sz n f c y hj hρ => (h'.arr j sz n f c y hj hρ).mono hI (Pre.refl _) rfl, map := fun j m hj => by
            obtain ⟨c, h1, h2⟩ := h'.map j m hj
            exact ⟨c, h1, h2.mono hI (Pre.refl _) rfl⟩
          mine := h'.mine, news := fun c hc => by
            unfold know at hc
            split at hc
            · rename_i e; subst e; exact .inr (h.mine c hL)
            · exact h.news c hc
          le := Imm.le_trans h.le hI, pre := h.pre, os := h.os, tape := h.tape, out := h.out, grow := h.grow, keep := h.keep }
theorem ls_append {dv yv : V} {sz n k : Nat} {f g : Nat → V} (ht : TyIs P T d) (hk : d.tk = .slice E) (he : TyIs P E de) (hsz : de.size = sz) (hpos : 0 < sz) (hz : de.zero.cells.size = sz) (hx : eo env x = some dv) (hy : eo env y = some yv) (hg : Grow H dv sz n f H0) (hs : Src H yv sz k g)
    (hone : ∀ j, j < k → (g j).cells.all V.one = true) (hm : n + k ≤ maxLen) (hb : (n + k) * de.bytes ≤ 140737488355328) :
    LS P r m nt keep env H ⟨dst, .call ⟨.builtin .append, #[x, y], #[T, T]⟩, ty, pos, after, guard⟩ (fun u H' => u = .sl sz H.length 0 (n + k) ∧ H' = H0 ++ [.arr sz (n + k) (appF n f g)]) NoP := .mk
  fun X I ρ a w next Qx hX hS hK hp => by
    obtain ⟨hE, hw, hdf⟩ := hS
    have hu := eo_rel hE hx
    have hv := eo_rel hE hy
    obtain ⟨i, hi, hs1, hby, hz0⟩ := he.inf
    have hmm := hm
    unfold maxLen at hmm
    obtain ⟨B, cap, news, ey, hnl, hnc, hgsz, hgr⟩ := src_cells hw hs hv
    have hlen0 : H0.length = H.length := by rcases hg with ⟨_, _, rfl⟩ | ⟨_, _, rfl⟩ | ⟨b, _, _, rfl⟩ <;> simp
    have hex : ∀ {res : Value} {w' : World}, (Builtin.append_ #[T, T] ty #[a.eval x, a.eval y]).run P w = .ok res w' → (execOp a.eval ⟨dst, .call ⟨.builtin .append, #[x, y], #[T, T]⟩, ty, pos, after, guard⟩).run P w = .ok (.value res) w' := fun h => by
      simp [execOp, resolve, invoke, builtin, h]
    have hones : ∀ u ∈ news, u.oneCell' = true := fun u hu => by
      obtain ⟨t, hlt, rfl⟩ := List.getElem_of_mem hu
      rw [hnl] at hlt
      have hi1 : t / sz < k := (Nat.div_lt_iff_lt_mul hpos).2 hlt
      have hj1 := Nat.mod_lt t hpos
      have e := Nat.div_add_mod' t sz
      obtain ⟨q, h1, h2⟩ := hgr (t / sz) (t % sz) ((g (t / sz)).cells[t % sz]'(by rw [hgsz _ hi1]; exact hj1)) hi1 (by simp [hgsz _ hi1, hj1])
      rw [e] at h1
      have : news[t]'(by rw [hnl]; exact hlt) = q := by rw [List.getElem?_eq_getElem (by rw [hnl]; exact hlt)] at h1; exact Option.some.inj h1
      rw [this]
      exact h2.one (List.all_eq_true.1 (hone _ hi1) _ (List.getElem_mem _))
    have hf1 : (Builtin.firstCells i.size k (.slice B k cap)).run P w = .ok news.toArray w := firstCells_run (by rw [hnl, hs1, hsz]) (fun h0 => by obtain ⟨a', h1, h2, h3⟩ := hnc h0; exact ⟨a', h1, h2, h3 w rfl⟩)
    have hf2 : (Builtin.firstCells i.size k (.slice B k cap)).run P w.drew = .ok news.toArray w.drew := firstCells_run (by rw [hnl, hs1, hsz]) (fun h0 => by obtain ⟨a', h1, h2, h3⟩ := hnc h0; exact ⟨a', h1, h2, h3 w.drew rfl⟩)
    -- a new row
    have grown : ∀ (J : Imm) (A : Option Addr) (c : Nat) (olds : List Value), I.le J → a.eval x = .slice A n c → c < n + k → olds.length = n * sz → WOk X J ρ H0 w → (∀ x, Keeps J ρ H0 w x → Keeps I ρ H w x) → (Builtin.firstCells i.size n (.slice A n c)).run P w.drew = .ok olds.toArray w.drew →
        (∀ j, j < n → (f j).cells.length = sz) → (∀ (j l : Nat) v, j < n → (f j).cells[l]? = some v → ∃ u, olds[j * sz + l]? = some u ∧ VRel I ρ v u) → Oper.wpIn (Fw r) 0 P ⟨dst, .call ⟨.builtin .append, #[x, y], #[T, T]⟩, ty, pos, after, guard⟩ a w next Qx := by
      intro J A c olds hIJ ex hc hol hw0 hkm hfo hfs hfr
      have hr := append_grow_run (P := P) (w := w) (ty := ty) (ht.slice hk) hi hz0 hfo hf2 hc (by omega) (growslice_fits hc (by rw [hby]; exact hb))
      rw [← ex, ← ey] at hr
      refine wpIn_of_run (by simp) (hex hr) ?_
      have hge := grownCap_ge w (n + k) c E
      have hcm := grownCap_le_maxLen w (n + k) c E hm
      have hcsz : (olds.toArray ++ news.toArray ++ Builtin.zeroCells de.zero.cells (grownCap w (n + k) c E - (n + k))).size = grownCap w (n + k) c E * sz := by
        simp only [Array.size_append, List.size_toArray, size_zeroCells, hz, hol, hnl, ← Nat.add_mul]
        congr 1
        omega
      have ok := WOk.alloc (w' := w.drew.alloc (.cells (olds.toArray ++ news.toArray ++ Builtin.zeroCells de.zero.cells (grownCap w (n + k) c E - (n + k))) E)) (ty := E) (sz := sz) (n := n + k) (f := appF n f g) hw0.drew (cs := olds.toArray ++ news.toArray ++ Builtin.zeroCells de.zero.cells (grownCap w (n + k) c E - (n + k))) (by rw [hcsz]; exact Nat.mul_le_mul_right _ hge)
        (fun j hj => by
          by_cases h1 : j < n
          · rw [appF_lt h1]; exact hfs j h1
          · rw [appF_ge (by omega)]; exact hgsz _ (by omega))
        (fun j l v hj hv => by
          by_cases h1 : j < n
          · rw [appF_lt h1] at hv
            obtain ⟨u, h2, h3⟩ := hfr j l v h1 hv
            refine ⟨u, ?_, h3.mono hIJ (Pre.refl _)⟩
            have hlt := (List.getElem?_eq_some_iff.1 h2).1
            rw [Array.append_assoc, Array.getElem?_append_left (by simpa using hlt)]
            simpa using h2
          · rw [appF_ge (by omega)] at hv
            obtain ⟨u, h2, h3⟩ := hgr (j - n) l v (by omega) hv
            refine ⟨u, ?_, h3.mono hIJ (Pre.refl _)⟩
            have hlt := (List.getElem?_eq_some_iff.1 h2).1
            have hjn : j * sz = n * sz + (j - n) * sz := by rw [← Nat.add_mul]; congr 1; omega
            rw [Array.getElem?_append_left (by simp; omega), Array.getElem?_append_right (by simp; omega)]
            simp
            rw [← h2]; congr 1; omega) rfl rfl rfl rfl
      rw [hcsz] at ok
      refine hK J _ _ _ _ _ ⟨rfl, rfl⟩ hIJ (pre_append _) ok ?_ (fun _ x hx => hkm x (keeps_alloc (w' := w.drew.alloc (.cells (olds.toArray ++ news.toArray ++ Builtin.zeroCells de.zero.cells (grownCap w (n + k) c E - (n + k))) E)) hw0 (fun b hb => Below.heap_alloc w.drew _ b hb) x hx))
      have := VRel.sl (I := J) (ρ := ρ ++ [some (w.heap.size, grownCap w (n + k) c E * sz)]) (sz := sz) (b := H.length) (i := 0) (n := n + k) (cb := w.heap.size) (z := grownCap w (n + k) c E * sz) (c := grownCap w (n + k) c E) (by rw [← hw.len]; simp) hge hcm (by simp)
      simpa using this
    -- nothing there
    have nothing : ∀ A, a.eval x = .slice A 0 0 → n = 0 → WOk X I ρ H0 w → (∀ x, Keeps I ρ H0 w x → Keeps I ρ H w x) → Oper.wpIn (Fw r) 0 P ⟨dst, .call ⟨.builtin .append, #[x, y], #[T, T]⟩, ty, pos, after, guard⟩ a w next Qx := by
      intro A ex hn0 hw0 hkm
      subst hn0
      rcases Nat.eq_zero_or_pos k with h0 | h0
      · subst h0
        have hr := append_none_run (P := P) (w := w) (ty := ty) (A := A) (B := B) (cap := cap) (ht.slice hk) hi
        have hr' : (Builtin.append_ #[T, T] ty #[a.eval x, a.eval y]).run P w = .ok (.slice A 0 0) w := by rw [ex, ey]; exact hr
        refine wpIn_of_run (by simp) (hex hr') ?_
        refine hK I (ρ ++ [Option.none]) (H0 ++ [.arr sz (0 + 0) (appF 0 f g)]) (.sl sz H.length 0 (0 + 0)) _ w ⟨rfl, rfl⟩ (Imm.le_refl _) (pre_append _) hw0.virtual (.slNone A (by rw [← hw.len]; simp)) (fun _ x hx => hkm x (keeps_alloc (w' := w) hw0 (fun _ _ => rfl) x hx))
      · exact grown I A 0 [] (Imm.le_refl _) ex (by omega) (by simp) hw0 hkm (by cases A <;> simp [Builtin.firstCells, loadCells, loadCellsFrom]) (fun j hj => by omega) (fun j l v hj => by omega)
    rcases hg with ⟨rfl, rfl, rfl⟩ | ⟨rfl, rfl, rfl⟩ | ⟨b, rfl, hH, rfl⟩
    · cases h1' : a.eval x <;> rw [h1'] at hu <;> cases hu
      exact nothing _ h1' rfl hw (fun _ h => h)
    · cases h1' : a.eval x <;> rw [h1'] at hu <;> cases hu
      exact nothing _ h1' rfl hw (fun _ h => h)
    · rcases hu.sl_inv with ⟨cb, z, c, ex, hρ, hc, hcm, hcz⟩ | ⟨A, ex, hρn, _, rfl⟩
      · rw [Nat.zero_mul] at ex
        rw [Nat.zero_add] at hcz
        obtain ⟨cs, t, hcs, hzz, hnz, hr0⟩ := hw.arr _ _ _ _ _ _ hH hρ
        have hfs := hw.size _ _ _ _ hH
        by_cases hroom : n + k ≤ c
        · have hle : (n + k) * sz ≤ c * sz := Nat.mul_le_mul_right _ hroom
          rw [Nat.add_mul] at hle
          have hfit : n * i.size + news.length ≤ cs.size := by rw [hnl, hs1, hsz]; omega
          have hr := append_room_run (P := P) (w := w) (ty := ty) (n := n) (c := c) (ht.slice hk) hi hf1 hcs hroom hfit hones
          rw [← ex, ← ey] at hr
          refine wpIn_of_run (by simp) (hex hr) ?_
          obtain ⟨s1, s2, s3⟩ := setRow_facts (new := (cs.toList.take (n * i.size) ++ news ++ cs.toList.drop (n * i.size + news.length)).toArray) hcs
          have hL : Live H ρ cb := ⟨b, _, hH, by simp, z, hρ⟩
          have hnewsz : (cs.toList.take (n * i.size) ++ news ++ cs.toList.drop (n * i.size + news.length)).toArray.size = z := by simp; omega
          have hget : ∀ t, (cs.toList.take (n * i.size) ++ news ++ cs.toList.drop (n * i.size + news.length)).toArray[t]? = if n * sz ≤ t ∧ t < n * sz + news.length then news[t - n * sz]? else cs[t]? := fun t => by
            simp only [List.getElem?_toArray]
            rw [splice_get (by simpa using hfit), hs1, hsz]
            simp
          have ok := (hw.kill b).adopt (w' := w.setRow cb (cs.toList.take (n * i.size) ++ news ++ cs.toList.drop (n * i.size + news.length)).toArray) (cb := cb) (ty := t) (sz := sz) (n := n + k) (f := appF n f g) (not_live_kill hw hH (by simp) hρ) (hw.apart cb hL) (hw.mine cb hL) (cs := (cs.toList.take (n * i.size) ++ news ++ cs.toList.drop (n * i.size + news.length)).toArray) (by rw [hnewsz, Nat.add_mul]; omega)
            (fun j hj => by
              by_cases h1 : j < n
              · rw [appF_lt h1]; exact hfs j h1
              · rw [appF_ge (by omega)]; exact hgsz _ (by omega))
            (fun j l v hj hv => by
              rw [hget]
              by_cases h1 : j < n
              · rw [appF_lt h1] at hv
                have hl : l < sz := by have := (List.getElem?_eq_some_iff.1 hv).1; rw [hfs j h1] at this; exact this
                have : j * sz + sz ≤ n * sz := by rw [← Nat.succ_mul]; exact Nat.mul_le_mul_right _ h1
                rw [if_neg (by omega)]
                exact hr0 j l v h1 hv
              · rw [appF_ge (by omega)] at hv
                obtain ⟨u, h2, h3⟩ := hgr (j - n) l v (by omega) hv
                have hlt := (List.getElem?_eq_some_iff.1 h2).1
                have hjn : j * sz = n * sz + (j - n) * sz := by rw [← Nat.add_mul]; congr 1; omega
                rw [if_pos (by omega)]
                exact ⟨u, by rw [← h2]; congr 1; omega, h3⟩) s1 (fun q hq _ => s2 q hq) (by rw [s3]; exact Nat.le_refl _) rfl rfl rfl
          rw [hnewsz] at ok
          refine hK I _ _ _ _ _ ⟨rfl, rfl⟩ (Imm.le_refl _) (pre_append _) ok ?_ (fun _ y hy => ?_)
          rotate_left
          · have hH0 : (H.set b .dead ++ [.arr sz (n + k) (appF n f g)])[H.length]? = some (.arr sz (n + k) (appF n f g)) := by
              rw [List.getElem?_append_right (by simp)]; simp
            have hρ0 : (ρ ++ [some (cb, z)])[H.length]? = some (some (cb, z)) := by rw [← hw.len]; simp
            refine ⟨hy.1, fun k' sz' n' f' b' z' hk' hρ' o ho => ?_, fun k' m' b' z' hk' hρ' => ?_⟩
            · by_cases e : k' = b
              · subst e
                rw [hH] at hk'; cases hk'
                rw [hρ] at hρ'; cases hρ'
                rw [hy.2.1 _ _ _ _ _ _ hH0 hρ0 o (by rw [Nat.add_mul]; omega), cell_of s1, hget, if_neg (by omega), cell_of hcs]
              · have h2 : b' ≠ cb := fun e2 => e (hw.inj k' b b' ⟨_, hk', by simp⟩ ⟨_, hH, by simp⟩ z' z hρ' (by rw [e2]; exact hρ))
                rw [hy.2.1 k' sz' n' f' b' z' (by rw [List.getElem?_append_left (by simp; exact (List.getElem?_eq_some_iff.1 hk').1), List.getElem?_set_ne (fun e' => e e'.symm)]; exact hk') (by rw [List.getElem?_append_left (List.getElem?_eq_some_iff.1 hρ').1]; exact hρ') o ho]
                exact World.cell?_of_block (a := ⟨b', o, none⟩) (s2 b' h2)
            · have e : k' ≠ b := fun e => by subst e; rw [hH] at hk'; cases hk'
              have h2 : b' ≠ cb := fun e2 => e (hw.inj k' b b' ⟨_, hk', by simp⟩ ⟨_, hH, by simp⟩ z' z hρ' (by rw [e2]; exact hρ))
              rw [hy.2.2 k' m' b' z' (by rw [List.getElem?_append_left (by simp; exact (List.getElem?_eq_some_iff.1 hk').1), List.getElem?_set_ne (fun e' => e e'.symm)]; exact hk') (by rw [List.getElem?_append_left (List.getElem?_eq_some_iff.1 hρ').1]; exact hρ')]
              exact s2 b' h2
          have := VRel.sl (I := I) (ρ := ρ ++ [some (cb, z)]) (sz := sz) (b := H.length) (i := 0) (n := n + k) (cb := cb) (z := z) (c := c) (by rw [← hw.len]; simp) hroom hcm (by rw [Nat.zero_add]; exact hcz)
          simpa using this
        · have hol : (List.range (n * sz)).map (fun t => cs.getD t undef) = (List.range (n * sz)).map (fun t => cs.getD t undef) := rfl
          have hL : Live H ρ cb := ⟨b, _, hH, by simp, z, hρ⟩
          refine grown (know I cb (w.heap[cb]?)) (some ⟨cb, 0, none⟩) c ((List.range (n * sz)).map fun t => cs.getD t undef) (know_le (hw.apart cb hL)) ex (by omega) (by simp) (hw.forget hH (by simp) hρ) (fun y hy => ?_) (firstCells_run (by simp [hs1, hsz]) fun _ => ⟨_, rfl, rfl, fun j q hq => ?_⟩) hfs (fun j l v hj hv => ?_)
          · refine ⟨fun b' o h => hy.1 b' o (know_le (hw.apart cb hL) b' o h), fun k' sz' n' f' b' z' hk' hρ' o ho => ?_, fun k' m' b' z' hk' hρ' => ?_⟩
            · by_cases e : k' = b
              · subst e
                rw [hρ] at hρ'; cases hρ'
                exact World.cell?_of_block (a := ⟨cb, o, none⟩) ((hy.1 cb _ (by rw [know_at]; exact hcs)).trans hcs.symm)
              · exact hy.2.1 k' sz' n' f' b' z' (by rw [List.getElem?_set_ne (fun e' => e e'.symm)]; exact hk') hρ' o ho
            · have e : k' ≠ b := fun e => by subst e; rw [hH] at hk'; cases hk'
              exact hy.2.2 k' m' b' z' (by rw [List.getElem?_set_ne (fun e' => e e'.symm)]; exact hk') hρ'
          · have hlt : j < n * sz := by have := (List.getElem?_eq_some_iff.1 hq).1; simpa using this
            have h2 : j < cs.size := by omega
            simp [hlt, h2] at hq
            rw [addr_add, Nat.zero_add]
            show w.cell? _ = _
            rw [cell_of hcs]
            simp [h2, hq]
          · have hl : l < sz := by have := (List.getElem?_eq_some_iff.1 hv).1; rw [hfs j hj] at this; exact this
            have : j * sz + sz ≤ n * sz := by rw [← Nat.succ_mul]; exact Nat.mul_le_mul_right _ hj
            obtain ⟨u, h2, h3⟩ := hr0 j l v hj hv
            have h4 : j * sz + l < cs.size := by omega
            simp [h4] at h2
            exact ⟨u, by simp [show j * sz + l < n * sz by omega, h4, h2], h3⟩
      · exact nothing A ex rfl (hw.kill b) (fun y hy => keeps_kill hy (fun cb z h => by rw [hρn] at h; cases h))
end
end Go.Proofs.Ytccidiflnmchiaa
