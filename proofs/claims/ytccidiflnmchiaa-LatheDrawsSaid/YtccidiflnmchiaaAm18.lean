/- More ways to say a row in other words; an element by its value. No condition. -/
import Derived.Test.YtccidiflnmchiaaAm17
namespace Go.Proofs.Ytccidiflnmchiaa
open Go.RowKit
section
variable {H : Heap} {σ : List (Option Nat)} {fr : Nat → Prop} {α : Type} [Inhabited α]
theorem frz_as {b sz n N : Nat} {e : α → V} {l : List α} {f : Nat → V} (hf : fr b) (hb : H[b]? = some (.arr sz N f)) (hn : n = N) (hl : l.length = N) (hg : ∀ i, i < N → f i = e (el l i)) (hc : ∀ y, V.closed.all (e y).cells = true) : VSub H σ fr (.sl sz b 0 n) (LV sz e l) := by
  subst hn hl
  exact .frz hf hb (by omega) (fun i hi => by rw [hg i hi]; exact hc _) (fun i hi => by rw [Nat.zero_add]; exact (hg i hi).symm)
end
theorem part_of_eq {agg : Bool} {x v v' : V} {off size : Nat} (h : x = v) (hv : partV agg v.cells off size = some v') : partV agg x.cells off size = some v' := by subst h; exact hv
theorem upd_same {f : Nat → V} {i : Nat} {v : V} : upd f i v i = v := by rw [upd_at, if_pos rfl]
theorem upd_other {f : Nat → V} {i j : Nat} {v : V} (h : j ≠ i) : upd f i v j = f j := by rw [upd_at, if_neg h]
section
variable {P : Program} {r : Option Nat} {m nt : Nat} {Q : Post} {env : Env} {H : Heap} {ops : Array Oper} {l : List Stp} {ty : TypeId} {pos : String} {after : Array Edge} {x y : Operand} {T E : TypeId} {d de : TyD} {i dst : Nat} {keep : Bool}
theorem ar_make_v {n : Nat} {kl kc : IntKind} {v v' : Int} (ht : TyIs P T d) (hk : d.tk = .slice E) (he : TyIs P E de) (hx : eo env x = some (.s (.int kl v))) (hy : eo env y = some (.s (.int kc v'))) (hv : v = (n : Int)) (hv' : v' = (n : Int)) (hd : dst < nt) (hok : (constV de.zero).ok = true) (hz : (constV de.zero).cells.length = de.size) (hb : de.bytes * n ≤ 281474976710656) (hm : n ≤ maxLen)
    (h : AR P r m nt ops Q l ((dst, .sl de.size H.length 0 n) :: env) (H ++ [.arr de.size n (fun _ => constV de.zero)])) : AR P r m nt ops Q (.l i ⟨some dst, .makeSlice T x y, ty, pos, after, none⟩ keep :: l) env H := by
  subst hv hv'
  exact ar_make ht hk he hx hy hd hok hz hb hm h
end
section
variable {P : Program} {r : Option Nat} {m nt : Nat} {Q : Post} {env env' : Env} {H H' : Heap} {ops : Array Oper} {l : List Stp} {ty : TypeId} {pos : String} {after : Array Edge} {i dst : Nat} {op : Op}
/-- Other words for what is known, ahead of an operation behind which nothing need stand as it stood. -/
theorem ar_sub_l (hs : SubOf m nt env H env' H') (h : AR P r m nt ops Q (.l i ⟨some dst, op, ty, pos, after, none⟩ false :: l) env' H') : AR P r m nt ops Q (.l i ⟨some dst, op, ty, pos, after, none⟩ false :: l) env H := .mk fun X I ρ a w hX hst => by
  obtain ⟨I', ρ', _, h2⟩ := hs.1 X I ρ a w hX hst
  have h3 := h.1 X I' ρ' a w hX h2
  refine ⟨fun hw => ?_, fun hw => by rw [wanted_none rfl] at hw; cases hw⟩
  refine Oper.wpIn_mono (fun a' w' ⟨S', h4, _, h5⟩ => ⟨S', h4, (fun h => by cases h), h5⟩) (h3.1 hw)
end
section
variable {P : Program} {r : Option Nat} {m nt : Nat} {Q : Post} {env : Env} {H : Heap} {ops : Array Oper} {l : List Stp} {ty : TypeId} {pos : String} {after : Array Edge} {i : Nat} {T : TypeId} {d : TyD} {x y : Operand}
theorem putPart_one {x v : V} (h : ∀ cs, x ≠ .agg cs) : putPart x 0 v = v := by
  unfold putPart
  split
  · exact (h _ rfl).elim
  · rfl
/-- A store of a whole element of one cell, the row said in new words. -/
theorem ar_store_as {v : V} {sz b j n : Nat} {f : Nat → V} (g : Nat → V) (ht : TyIs P T d) (hx : eo env x = some (.ptr sz b j 0)) (hy : eo env y = some v) (hH : H[b]? = some (.arr sz n f)) (hok : v.ok = true) (hone : v.cells.all V.one = true)
    (hsz : v.cells.length = d.size) (hi : j < n) (hoff : 0 + d.size ≤ sz) (hv : ∀ cs, v ≠ .agg cs) (hv1 : v.cells.length = 1) (hf1 : (f j).cells.length = 1) (hf : ∀ cs, f j ≠ .agg cs) (hgj : g j = v) (hg : ∀ i, i < n → i ≠ j → g i = f i) (h : AR P r m nt ops Q l env (H.set b (.arr sz n g))) :
    AR P r m nt ops Q (.l i ⟨none, .store T x y, ty, pos, after, none⟩ false :: l) env H :=
  ar_l0 (ls_store_g ht hx hy hok hone hH hi hsz hoff (.inr ⟨rfl, hv1, hf1, hv⟩) (by rw [putPart_one hf, hgj]) hg) (fun v H' a => by subst a; exact h) (fun _ _ h => h.elim)
end
end Go.Proofs.Ytccidiflnmchiaa
