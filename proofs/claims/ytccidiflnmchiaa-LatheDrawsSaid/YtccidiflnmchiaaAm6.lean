/- The operations that make memory or write it. No condition. -/
import Derived.Test.YtccidiflnmchiaaAm5
import Derived.Laws.AppendOwn
import Derived.Laws.MakeOwn
import Derived.Laws.CopyRow
namespace Go.Proofs.Ytccidiflnmchiaa
open Go.RowKit

section
variable {X : Ctx} {I I' : Imm} {ρ ρ' : List (Option (Nat × Nat))} {H H' : Heap} {w w' : World}
def Ctx.self (w : World) (ρ : List (Option (Nat × Nat))) (H : Heap) (I : Imm) : Ctx := ⟨w, ρ, H, I⟩
theorem WOk.lt (h : WOk X I ρ H w) {b : Nat} (hb : Live H ρ b) : b < w.heap.size := by
  obtain ⟨k, blk, h1, h2, z, h3⟩ := hb
  cases blk with
  | dead => exact (h2 rfl).elim
  | arr sz n f =>
    obtain ⟨cs, ty, h4, _⟩ := h.arr _ _ _ _ _ _ h1 h3
    exact (Array.getElem?_eq_some_iff.1 h4).1
  | map m =>
    obtain ⟨b', h5, es, clk, h6, _⟩ := h.map _ _ h1
    rw [h3] at h5
    cases h5
    exact (Array.getElem?_eq_some_iff.1 h6).1
theorem WOk.self (h : WOk X I ρ H w) : WOk (Ctx.self w ρ H I) I ρ H w :=
  ⟨h.len, h.inj, h.imm, h.apart, h.size, h.none, h.arr, h.map, fun _ hb => .inr hb, fun _ hb => .inl hb, Imm.le_refl _, Pre.refl _, rfl, rfl, rfl, Nat.le_refl _, fun _ _ _ => rfl⟩
theorem WOk.trans (h : WOk X I ρ H w) (k : WOk (Ctx.self w ρ H I) I' ρ' H' w') : WOk X I' ρ' H' w' where
  len := k.len
  inj := k.inj
  imm := k.imm
  apart := k.apart
  size := k.size
  none := k.none
  arr := k.arr
  map := k.map
  mine := fun b hb => by
    rcases k.mine b hb with h1 | h1
    · exact .inl (Nat.le_trans h.grow h1)
    · exact h.mine b h1
  news := fun b hb => by
    rcases k.news b hb with h1 | h1 | h1
    · exact h.news b h1
    · exact .inr (.inl (Nat.le_trans h.grow h1))
    · exact .inr (h.mine b h1)
  le := Imm.le_trans h.le k.le
  pre := h.pre.trans k.pre
  os := k.os.trans h.os
  tape := k.tape.trans h.tape
  out := k.out.trans h.out
  grow := Nat.le_trans h.grow k.grow
  keep := fun b hb hl => by
    have h1 : ¬ Live H ρ b := fun hL => by
      rcases h.mine b hL with h2 | h2
      · omega
      · exact hl h2
    exact (k.keep b (Nat.lt_of_lt_of_le hb h.grow) h1).trans (h.keep b hb hl)

theorem ArrRel.mono {b z sz n : Nat} {f : Nat → V} (h : ArrRel I ρ w b z sz n f) (hI : I.le I') (hρ : Pre ρ ρ') (hw : w'.heap[b]? = w.heap[b]?) : ArrRel I' ρ' w' b z sz n f := by
  obtain ⟨cs, ty, h1, h2, h3, h4⟩ := h
  refine ⟨cs, ty, hw.trans h1, h2, h3, fun i j v hi hj => ?_⟩
  obtain ⟨u, h5, h6⟩ := h4 i j v hi hj
  exact ⟨u, h5, h6.mono hI hρ⟩
theorem MapRel.mono {b : Nat} {m : List (Value × V)} (h : MapRel I ρ w b m) (hI : I.le I') (hρ : Pre ρ ρ') (hw : w'.heap[b]? = w.heap[b]?) : MapRel I' ρ' w' b m := by
  obtain ⟨es, clk, h1, h2, h3⟩ := h
  refine ⟨es, clk, hw.trans h1, h2, fun i e x hi hx => ?_⟩
  obtain ⟨h4, h5⟩ := h3 i e x hi hx
  exact ⟨h4, h5.mono hI hρ⟩

theorem pre_append (x : Option (Nat × Nat)) : Pre ρ (ρ ++ [x]) := fun k y h => by
  rw [List.getElem?_append_left (List.getElem?_eq_some_iff.1 h).1]; exact h
theorem live_append (hlen : ρ.length = H.length) {blk : Blk} {x : Option (Nat × Nat)} {b : Nat} (h : Live (H ++ [blk]) (ρ ++ [x]) b) : Live H ρ b ∨ ∃ z, x = some (b, z) ∧ blk ≠ .dead := by
  obtain ⟨k, bl, h1, h2, z, h3⟩ := h
  by_cases hk : k < H.length
  · rw [List.getElem?_append_left hk] at h1
    rw [List.getElem?_append_left (by omega)] at h3
    exact .inl ⟨k, bl, h1, h2, z, h3⟩
  · have : k = H.length := by
      have := (List.getElem?_eq_some_iff.1 h1).1
      simp at this
      omega
    subst this
    simp at h1
    rw [← hlen] at h3
    simp at h3
    exact .inr ⟨z, h3, by rw [h1]; exact h2⟩
theorem get_append_lt {α : Type} {l : List α} {x y : α} {k : Nat} (h : (l ++ [x])[k]? = some y) : (k < l.length ∧ l[k]? = some y) ∨ (k = l.length ∧ x = y) := by
  by_cases hk : k < l.length
  · rw [List.getElem?_append_left hk] at h; exact .inl ⟨hk, h⟩
  · have := (List.getElem?_eq_some_iff.1 h).1
    simp at this
    have e : k = l.length := by omega
    subst e
    simp at h
    exact .inr ⟨rfl, h⟩

/-- A block that becomes ours. -/
theorem WOk.adopt (h : WOk X I ρ H w) {cb : Nat} {cs : Array Value} {ty : TypeId} {sz n : Nat} {f : Nat → V} (hL : ¬ Live H ρ cb) (hI : I cb = Option.none) (hm : X.w.heap.size ≤ cb ∨ Live X.H X.ρ cb) (hn : n * sz ≤ cs.size) (hs : ∀ i, i < n → (f i).cells.length = sz)
    (hr : ∀ (i j : Nat) v, i < n → (f i).cells[j]? = some v → ∃ u, cs[i * sz + j]? = some u ∧ VRel I ρ v u) (hnew : w'.heap[cb]? = some (.cells cs ty (0, 0))) (hold : ∀ c, c ≠ cb → c < w.heap.size → w'.heap[c]? = w.heap[c]?) (hsize : w.heap.size ≤ w'.heap.size)
    (ho : w'.os = w.os) (ht : w'.tape = w.tape) (hout : w'.output = w.output) :
    WOk X I (ρ ++ [some (cb, cs.size)]) (H ++ [.arr sz n f]) w' := by
  have old : ∀ b, Live H ρ b → w'.heap[b]? = w.heap[b]? := fun b hb => hold b (fun e => hL (e ▸ hb)) (h.lt hb)
  refine { len := by simp [h.len], inj := ?_, imm := ?_, apart := ?_, size := ?_, none := ?_, arr := ?_, map := ?_, mine := ?_, news := h.news, le := h.le, pre := h.pre.trans (pre_append _), os := ho.trans h.os, tape := ht.trans h.tape, out := hout.trans h.out, grow := Nat.le_trans h.grow hsize, keep := ?_ }
  · rintro i j b ⟨x, hx, hx'⟩ ⟨y, hy, hy'⟩ z1 z2 h1 h2
    rcases get_append_lt hx with ⟨a1, a2⟩ | ⟨a1, a2⟩ <;> rcases get_append_lt hy with ⟨b1, b2⟩ | ⟨b1, b2⟩
    · rw [List.getElem?_append_left (by rw [h.len]; exact a1)] at h1
      rw [List.getElem?_append_left (by rw [h.len]; exact b1)] at h2
      exact h.inj i j b ⟨x, a2, hx'⟩ ⟨y, b2, hy'⟩ z1 z2 h1 h2
    · rw [List.getElem?_append_left (by rw [h.len]; exact a1)] at h1
      rw [b1, ← h.len] at h2
      simp at h2
      exact (hL ⟨i, x, a2, hx', z1, by rw [h2.1]; exact h1⟩).elim
    · rw [List.getElem?_append_left (by rw [h.len]; exact b1)] at h2
      rw [a1, ← h.len] at h1
      simp at h1
      exact (hL ⟨j, y, b2, hy', z2, by rw [h1.1]; exact h2⟩).elim
    · omega
  · intro b o hb
    have := h.imm b o hb
    rw [hold b (fun e => by subst e; rw [hI] at hb; cases hb) (Array.getElem?_eq_some_iff.1 this).1]
    exact this
  · intro b hb
    rcases live_append h.len hb with h1 | ⟨z, h1, _⟩
    · exact h.apart b h1
    · simp at h1; rw [← h1.1]; exact hI
  · intro k sz' n' f' hk
    rcases get_append_lt hk with ⟨_, a2⟩ | ⟨_, a2⟩
    · exact h.size k sz' n' f' a2
    · cases a2; exact hs
  · intro k sz' n' f' hk hρ
    rcases get_append_lt hk with ⟨a1, a2⟩ | ⟨a1, a2⟩
    · rw [List.getElem?_append_left (by rw [h.len]; exact a1)] at hρ
      exact h.none k sz' n' f' a2 hρ
    · rw [a1, ← h.len] at hρ; simp at hρ
  · intro k sz' n' f' b z hk hρ
    rcases get_append_lt hk with ⟨a1, a2⟩ | ⟨a1, a2⟩
    · rw [List.getElem?_append_left (by rw [h.len]; exact a1)] at hρ
      exact (h.arr k sz' n' f' b z a2 hρ).mono (Imm.le_refl _) (pre_append _) (old b ⟨k, _, a2, by simp, z, hρ⟩)
    · rw [a1, ← h.len] at hρ
      simp at hρ
      obtain ⟨rfl, rfl⟩ := hρ
      cases a2
      refine ⟨cs, ty, hnew, rfl, hn, fun i j v hi hj => ?_⟩
      obtain ⟨u, h5, h6⟩ := hr i j v hi hj
      exact ⟨u, h5, h6.mono (Imm.le_refl _) (pre_append _)⟩
  · intro k m hk
    rcases get_append_lt hk with ⟨a1, a2⟩ | ⟨a1, a2⟩
    · obtain ⟨b, h1, h2⟩ := h.map k m a2
      exact ⟨b, by rw [List.getElem?_append_left (by rw [h.len]; exact a1)]; exact h1, h2.mono (Imm.le_refl _) (pre_append _) (old b ⟨k, _, a2, by simp, 0, h1⟩)⟩
    · cases a2
  · intro b hb
    rcases live_append h.len hb with h1 | ⟨z, h1, _⟩
    · exact h.mine b h1
    · simp at h1; rw [← h1.1]; exact hm
  · intro b hb hl
    have hb' : b < w.heap.size := Nat.lt_of_lt_of_le hb h.grow
    rw [hold b (fun e => by
      subst e
      rcases hm with h1 | h1
      · omega
      · exact hl h1) hb']
    exact h.keep b hb hl
/-- A new block, ours. -/
theorem WOk.alloc (h : WOk X I ρ H w) {cs : Array Value} {ty : TypeId} {sz n : Nat} {f : Nat → V} (hn : n * sz ≤ cs.size) (hs : ∀ i, i < n → (f i).cells.length = sz)
    (hr : ∀ (i j : Nat) v, i < n → (f i).cells[j]? = some v → ∃ u, cs[i * sz + j]? = some u ∧ VRel I ρ v u) (hd : w'.heap = w.heap.push (.cells cs ty)) (ho : w'.os = w.os) (ht : w'.tape = w.tape) (hout : w'.output = w.output) :
    WOk X I (ρ ++ [some (w.heap.size, cs.size)]) (H ++ [.arr sz n f]) w' :=
  h.adopt (fun hb => by have := h.lt hb; omega) (by
    cases hI : I w.heap.size with
    | none => rfl
    | some o =>
      have := (Array.getElem?_eq_some_iff.1 (h.imm _ o hI)).1
      omega) (.inl h.grow) hn hs hr (ty := ty) (by rw [hd]; simp) (fun c hc hlt => by rw [hd, Array.getElem?_push]; simp [hc]) (by rw [hd]; simp) ho ht hout
/-- A block that is let go. -/
theorem WOk.kill (h : WOk X I ρ H w) (k : Nat) : WOk X I ρ (H.set k .dead) w := by
  have get : ∀ (j : Nat) blk, (H.set k .dead)[j]? = some blk → blk ≠ .dead → j ≠ k ∧ H[j]? = some blk := fun j blk hj hd => by
    rw [List.getElem?_set] at hj
    by_cases e : k = j
    · subst e
      rw [if_pos rfl] at hj
      split at hj
      · cases hj; exact (hd rfl).elim
      · cases hj
    · rw [if_neg e] at hj; exact ⟨fun x => e x.symm, hj⟩
  have alive : ∀ (j : Nat), (∃ x : Blk, (H.set k .dead)[j]? = some x ∧ x ≠ .dead) → ∃ x : Blk, H[j]? = some x ∧ x ≠ .dead := fun j ⟨x, hx, hx'⟩ => ⟨x, (get j x hx hx').2, hx'⟩
  have live : ∀ c, Live (H.set k .dead) ρ c → Live H ρ c := fun c ⟨j, x, h1, h2, z', h3⟩ => ⟨j, x, (get j x h1 h2).2, h2, z', h3⟩
  exact { len := by simp [h.len], inj := fun i j c hi hj => h.inj i j c (alive i hi) (alive j hj), imm := h.imm, apart := fun c hc => h.apart c (live c hc), size := fun j sz n f hj => h.size j sz n f (get j _ hj (by simp)).2, none := fun j sz n f hj => h.none j sz n f (get j _ hj (by simp)).2, arr := fun j sz n f b z hj => h.arr j sz n f b z (get j _ hj (by simp)).2, map := fun j m hj => h.map j m (get j _ hj (by simp)).2, mine := fun c hc => h.mine c (live c hc), news := h.news, le := h.le, pre := h.pre, os := h.os, tape := h.tape, out := h.out, grow := h.grow, keep := h.keep }
theorem not_live_kill (h : WOk X I ρ H w) {k : Nat} {blk : Blk} {b z : Nat} (hk : H[k]? = some blk) (hd : blk ≠ .dead) (hb : ρ[k]? = some (some (b, z))) : ¬ Live (H.set k .dead) ρ b := by
  rintro ⟨j, x, h1, h2, z', h3⟩
  rw [List.getElem?_set] at h1
  by_cases e : k = j
  · subst e
    rw [if_pos rfl] at h1
    split at h1
    · cases h1; exact h2 rfl
    · cases h1
  · rw [if_neg e] at h1
    exact e (h.inj k j b ⟨_, hk, hd⟩ ⟨_, h1, h2⟩ z z' hb h3)
/-- A row of nothing, nowhere yet. -/
theorem WOk.virtual (h : WOk X I ρ H w) {sz : Nat} {f : Nat → V} : WOk X I (ρ ++ [Option.none]) (H ++ [.arr sz 0 f]) w := by
  have live : ∀ c, Live (H ++ [.arr sz 0 f]) (ρ ++ [Option.none]) c → Live H ρ c := fun c hc => by
    rcases live_append h.len hc with h1 | ⟨z, h1, _⟩
    · exact h1
    · cases h1
  have back : ∀ (j : Nat) blk b z, (H ++ [.arr sz 0 f])[j]? = some blk → (ρ ++ [Option.none])[j]? = some (some (b, z)) → H[j]? = some blk ∧ ρ[j]? = some (some (b, z)) := fun j blk b z h1 h2 => by
    rcases get_append_lt h1 with ⟨a1, a2⟩ | ⟨a1, a2⟩
    · rw [List.getElem?_append_left (by rw [h.len]; exact a1)] at h2; exact ⟨a2, h2⟩
    · rw [a1, ← h.len] at h2; simp at h2
  refine { len := by simp [h.len], inj := ?_, imm := h.imm, apart := fun c hc => h.apart c (live c hc), size := ?_, none := ?_, arr := ?_, map := ?_, mine := fun c hc => h.mine c (live c hc), news := h.news, le := h.le, pre := h.pre.trans (pre_append _), os := h.os, tape := h.tape, out := h.out, grow := h.grow, keep := h.keep }
  · rintro i j b ⟨x, hx, hx'⟩ ⟨y, hy, hy'⟩ z1 z2 h1 h2
    obtain ⟨a1, a2⟩ := back i x b z1 hx h1
    obtain ⟨b1, b2⟩ := back j y b z2 hy h2
    exact h.inj i j b ⟨x, a1, hx'⟩ ⟨y, b1, hy'⟩ z1 z2 a2 b2
  · intro k sz' n' f' hk
    rcases get_append_lt hk with ⟨_, a2⟩ | ⟨_, a2⟩
    · exact h.size k sz' n' f' a2
    · cases a2; intro i hi; omega
  · intro k sz' n' f' hk hρ
    rcases get_append_lt hk with ⟨a1, a2⟩ | ⟨a1, a2⟩
    · rw [List.getElem?_append_left (by rw [h.len]; exact a1)] at hρ
      exact h.none k sz' n' f' a2 hρ
    · cases a2; rfl
  · intro k sz' n' f' b z hk hρ
    obtain ⟨a1, a2⟩ := back k _ b z hk hρ
    exact (h.arr k sz' n' f' b z a1 a2).mono (Imm.le_refl _) (pre_append _) rfl
  · intro k m hk
    rcases get_append_lt hk with ⟨a1, a2⟩ | ⟨a1, a2⟩
    · obtain ⟨b, h1, h2⟩ := h.map k m a2
      exact ⟨b, by rw [List.getElem?_append_left (by rw [h.len]; exact a1)]; exact h1, h2.mono (Imm.le_refl _) (pre_append _) rfl⟩
    · cases a2
theorem keeps_alloc (h : WOk X I ρ H w) {x : Option (Nat × Nat)} {blk : Blk} (old : ∀ b, b < w.heap.size → w'.heap[b]? = w.heap[b]?) : ∀ y, Keeps I (ρ ++ [x]) (H ++ [blk]) w' y → Keeps I ρ H w y := fun y hy => by
  refine ⟨hy.1, fun k sz n f b z hk hρ o ho => ?_, fun k m b z hk hρ => ?_⟩
  · have := hy.2.1 k sz n f b z (by rw [List.getElem?_append_left (List.getElem?_eq_some_iff.1 hk).1]; exact hk) (by rw [List.getElem?_append_left (List.getElem?_eq_some_iff.1 hρ).1]; exact hρ) o ho
    rw [this]
    exact World.cell?_of_block (a := ⟨b, o, none⟩) (old b (h.lt ⟨k, _, hk, by simp, z, hρ⟩))
  · have := hy.2.2 k m b z (by rw [List.getElem?_append_left (List.getElem?_eq_some_iff.1 hk).1]; exact hk) (by rw [List.getElem?_append_left (List.getElem?_eq_some_iff.1 hρ).1]; exact hρ)
    rw [this]
    exact old b (h.lt ⟨k, _, hk, by simp, z, hρ⟩)

/-- Other contents in a block of ours. -/
theorem WOk.write (h : WOk X I ρ H w) {k sz n b z : Nat} {f g : Nat → V} (hk : H[k]? = some (.arr sz n f)) (hb : ρ[k]? = some (some (b, z))) {cs : Array Value} {ty : TypeId} (hsz : cs.size = z) (hs : ∀ i, i < n → (g i).cells.length = sz)
    (hr : ∀ (i j : Nat) v, i < n → (g i).cells[j]? = some v → ∃ u, cs[i * sz + j]? = some u ∧ VRel I ρ v u) (hnew : w'.heap[b]? = some (.cells cs ty (0, 0))) (hold : ∀ c, c ≠ b → w'.heap[c]? = w.heap[c]?) (hsize : w'.heap.size = w.heap.size)
    (ho : w'.os = w.os) (ht : w'.tape = w.tape) (hout : w'.output = w.output) : WOk X I ρ (H.set k (.arr sz n g)) w' := by
  have hL : Live H ρ b := ⟨k, _, hk, by simp, z, hb⟩
  have hkl : k < H.length := (List.getElem?_eq_some_iff.1 hk).1
  have get : ∀ (j : Nat) blk, (H.set k (.arr sz n g))[j]? = some blk → (j = k ∧ blk = .arr sz n g) ∨ (j ≠ k ∧ H[j]? = some blk) := fun j blk hj => by
    rw [List.getElem?_set] at hj
    by_cases e : k = j
    · subst e; rw [if_pos rfl, if_pos hkl] at hj; cases hj; exact .inl ⟨rfl, rfl⟩
    · rw [if_neg e] at hj; exact .inr ⟨fun x => e x.symm, hj⟩
  have alive : ∀ (j : Nat), (∃ x : Blk, (H.set k (.arr sz n g))[j]? = some x ∧ x ≠ .dead) → ∃ x : Blk, H[j]? = some x ∧ x ≠ .dead := fun j ⟨x, hx, hx'⟩ => by
    rcases get j x hx with ⟨rfl, _⟩ | ⟨_, h1⟩
    · exact ⟨_, hk, by simp⟩
    · exact ⟨x, h1, hx'⟩
  have live : ∀ c, Live (H.set k (.arr sz n g)) ρ c → Live H ρ c := fun c ⟨j, x, h1, h2, z', h3⟩ => by
    obtain ⟨y, h4, h5⟩ := alive j ⟨x, h1, h2⟩
    exact ⟨j, y, h4, h5, z', h3⟩
  have other : ∀ (j c : Nat) z', (∃ x : Blk, H[j]? = some x ∧ x ≠ .dead) → j ≠ k → ρ[j]? = some (some (c, z')) → w'.heap[c]? = w.heap[c]? := fun j c z' hx hj hc => by
    refine hold c fun e => hj ?_
    subst e
    exact h.inj j k c hx ⟨_, hk, by simp⟩ z' z hc hb
  refine h.trans { len := by simp [h.len], inj := fun i j c hi hj => h.inj i j c (alive i hi) (alive j hj), imm := ?_, apart := fun c hc => h.apart c (live c hc), size := ?_, none := ?_, arr := ?_, map := ?_, mine := fun c hc => .inr (live c hc), news := fun _ hb => .inl hb, le := Imm.le_refl _, pre := Pre.refl _, os := ho, tape := ht, out := hout, grow := by show w.heap.size ≤ _; omega, keep := ?_ }
  · intro c o hc
    have : c ≠ b := fun e => by subst e; rw [h.apart c hL] at hc; cases hc
    rw [hold c this]
    exact h.imm c o hc
  · intro j sz' n' f' hj
    rcases get j _ hj with ⟨_, h1⟩ | ⟨_, h1⟩
    · cases h1; exact hs
    · exact h.size j sz' n' f' h1
  · intro j sz' n' f' hj hρ
    rcases get j _ hj with ⟨rfl, h1⟩ | ⟨_, h1⟩
    · rw [hb] at hρ; cases hρ
    · exact h.none j sz' n' f' h1 hρ
  · intro j sz' n' f' c z' hj hρ
    rcases get j _ hj with ⟨rfl, h1⟩ | ⟨hne, h1⟩
    · rw [hb] at hρ
      cases hρ
      cases h1
      obtain ⟨_, _, _, _, hn, _⟩ := h.arr _ _ _ _ _ _ hk hb
      exact ⟨cs, ty, hnew, hsz, hn, hr⟩
    · exact (h.arr j sz' n' f' c z' h1 hρ).mono (Imm.le_refl _) (Pre.refl _) (other j c z' ⟨_, h1, by simp⟩ hne hρ)
  · intro j m hj
    rcases get j _ hj with ⟨_, h1⟩ | ⟨hne, h1⟩
    · cases h1
    · obtain ⟨c, h2, h3⟩ := h.map j m h1
      exact ⟨c, h2, h3.mono (Imm.le_refl _) (Pre.refl _) (other j c 0 ⟨_, h1, by simp⟩ hne h2)⟩
  · intro c hc hl
    exact hold c fun e => hl (by subst e; exact hL)
end

/-! ### Operations -/
section
variable {P : Program} {r : Option Nat} {m nt : Nat} {env : Env} {H : Heap} {dst : Option Tmp} {ty : TypeId} {pos : String} {after : Array Edge} {guard : Option (Nat × Bool)} {x y c : Operand} {T E : TypeId} {d de : TyD} {v : V} {keep : Bool}
theorem wpIn_of_run {o : Oper} {a : Act} {w : World} {next : Act → World → Prop} {Q : Exit → Act → World → Prop} {res : Result Next} (hnd : ∀ c, o.op ≠ .defer c) (h : (execOp a.eval o).run P w = res) (k : o.uponIn (Fw r) 0 P a next Q res) : o.wpIn (Fw r) 0 P a w next Q := by
  refine ⟨fun _ _ => trivial, ?_⟩
  rw [Oper.semAt_eq _ _ _ hnd, h]
  exact k
/-- A value that is none of Go's aggregates as they are. -/
def V.ok : V → Bool
  | .s (.agg _) => false
  | _ => true
theorem V.ok_ne (h : v.ok = true) : ∀ cs, v = .s (.agg cs) → False := fun cs e => by subst e; cases h
theorem ptr_new {I : Imm} {ρ : List (Option (Nat × Nat))} {b z sz : Nat} (hl : ρ.length = H.length) : VRel I (ρ ++ [some (b, z)]) (.ptr sz H.length 0 0) (.pointer (some ⟨b, 0, none⟩)) := by
  have := VRel.ptr (I := I) (ρ := ρ ++ [some (b, z)]) (sz := sz) (b := H.length) (i := 0) (off := 0) (cb := b) (z := z) (by rw [← hl]; simp)
  simpa using this
theorem alloc_core {X : Ctx} {I : Imm} {ρ : List (Option (Nat × Nat))} {w : World} (hw : WOk X I ρ H w) {u : Value} (hv : VRel I ρ v u) (hok : v.ok = true) (T : TypeId) :
    WOk X I (ρ ++ [some (w.heap.size, u.cells.size)]) (H ++ [.arr v.cells.length 1 (fun _ => v)]) { w with heap := w.heap.push (.cells u.cells T) } := by
  obtain ⟨h1, h2⟩ := hv.cells (V.ok_ne hok)
  refine hw.alloc (by simp [h1]) (fun _ _ => rfl) (fun i j x hi hj => ?_) rfl rfl rfl rfl
  obtain rfl : i = 0 := by omega
  have hlt : j < u.cells.size := by rw [h1]; exact (List.getElem?_eq_some_iff.1 hj).1
  exact ⟨u.cells[j], by simp [hlt], h2 j x _ hj (by simp [hlt])⟩
theorem ls_box (hx : eo env x = some v) (hok : v.ok = true) :
    LS P r m nt true env H ⟨dst, .box T x, ty, pos, after, guard⟩ (fun u H' => u = .ptr v.cells.length H.length 0 0 ∧ H' = H ++ [.arr v.cells.length 1 (fun _ => v)]) NoP := .mk
  fun X I ρ a w next Qx hX hs hk hp => by
    have hv := eo_rel hs.1 hx
    refine wpIn_of_run (by simp) (res := .ok (.value (.pointer (some ⟨w.heap.size, 0, none⟩))) { w with heap := w.heap.push (.cells (a.eval x).cells T) }) (by simp [execOp, Instr.box, newVar, newRow]) ?_
    exact hk I _ _ _ _ _ ⟨rfl, rfl⟩ (Imm.le_refl _) (pre_append _) (alloc_core hs.2.1 hv hok T) (ptr_new hs.2.1.len)
      (fun _ => keeps_alloc hs.2.1 fun b hb => by simp [Array.getElem?_push, show b ≠ w.heap.size by omega])
theorem ls_alloc (ht : TyIs P T d) (hok : (constV d.zero).ok = true) :
    LS P r m nt true env H ⟨dst, .alloc T, ty, pos, after, guard⟩ (fun u H' => u = .ptr (constV d.zero).cells.length H.length 0 0 ∧ H' = H ++ [.arr (constV d.zero).cells.length 1 (fun _ => constV d.zero)]) NoP := .mk
  fun X I ρ a w next Qx hX hs hk hp => by
    refine wpIn_of_run (by simp) (res := .ok (.value (.pointer (some ⟨w.heap.size, 0, none⟩))) { w with heap := w.heap.push (.cells d.zero.cells T) }) (by simp [execOp, Instr.alloc, ht.zeroV, newVar, newRow]) ?_
    exact hk I _ _ _ _ _ ⟨rfl, rfl⟩ (Imm.le_refl _) (pre_append _) (alloc_core hs.2.1 (constV_rel I ρ d.zero) hok T) (ptr_new hs.2.1.len)
      (fun _ => keeps_alloc hs.2.1 fun b hb => by simp [Array.getElem?_push, show b ≠ w.heap.size by omega])

/-! ### Stores -/
def V.one : V → Bool
  | .agg _ => false
  | .tup _ => false
  | .s v => v.oneCell'
  | _ => true
theorem VRel.one {I : Imm} {ρ : List (Option (Nat × Nat))} {v : V} {u : Value} (h : VRel I ρ v u) (ho : v.one = true) : u.oneCell' = true := by
  cases h <;> first | rfl | exact ho | (cases ho; done)
/-- A value into a part of another one. -/
def putPart (x : V) (off : Nat) (v : V) : V :=
  match x with
  | .agg cs => .agg (cs.take off ++ v.cells ++ cs.drop (off + v.cells.length))
  | _ => v
def upd (f : Nat → V) (i : Nat) (v : V) : Nat → V := fun j => bif Nat.beq j i then v else f j
theorem upd_at (f : Nat → V) (i j : Nat) (v : V) : upd f i v j = if j = i then v else f j := by
  unfold upd
  by_cases h : j = i
  · subst h; simp
  · have : Nat.beq j i = false := by cases e : Nat.beq j i with | false => rfl | true => exact (h (Nat.eq_of_beq_eq_true e)).elim
    simp [this, h]
theorem cells_put {x v : V} {off : Nat} (h : off + v.cells.length ≤ x.cells.length) (ha : (∃ cs, x = .agg cs) ∨ (off = 0 ∧ v.cells.length = 1 ∧ x.cells.length = 1 ∧ ∀ cs, v ≠ .agg cs)) :
    (putPart x off v).cells = x.cells.take off ++ v.cells ++ x.cells.drop (off + v.cells.length) := by
  rcases ha with ⟨cs, rfl⟩ | ⟨rfl, h1, h2, h3⟩
  · rfl
  · cases x <;> first | rfl | (simp [putPart, V.cells, h1] at h2 ⊢)
    all_goals (cases v <;> first | (simp [V.cells]; done) | exact (h3 _ rfl).elim)
end
end Go.Proofs.Ytccidiflnmchiaa
