/- More on rows; copy. No condition. -/
import Derived.Test.YtccidiflnmchiaaAm14
import Derived.Laws.CopyOwn
namespace Go.Proofs.Ytccidiflnmchiaa
open Go.RowKit
section
variable {H : Heap} {σ : List (Option Nat)} {fr : Nat → Prop} {α : Type} [Inhabited α]
/-- All of a list behind nothing. -/
theorem bsub_all {k b sz : Nat} {e : α → V} {l : List α} {f g : Nat → V} (h : σ[k]? = some (some b)) (hb : H[b]? = some (.arr sz (0 + l.length) (appF 0 f g))) (hg : ∀ i, i < l.length → g i = e (el l i)) (hc : ∀ y, (e y).closed = true) : BSub H σ fr k (LB sz e l) := by
  rw [Nat.zero_add] at hb
  refine .inl ⟨b, _, h, hb, fun i hi => ?_⟩
  rw [appF_ge (Nat.zero_le _), Nat.sub_zero, hg i hi]
  exact .closed (hc _)
theorem frz_all {b sz n : Nat} {e : α → V} {l : List α} {f g : Nat → V} (hf : fr b) (hb : H[b]? = some (.arr sz (0 + l.length) (appF 0 f g))) (hg : ∀ i, i < l.length → g i = e (el l i)) (hc : ∀ y, V.closed.all (e y).cells = true) (hn : n = 0 + l.length) : VSub H σ fr (.sl sz b 0 n) (LV sz e l) := by
  rw [Nat.zero_add] at hb hn
  subst hn
  refine .frz hf hb (by omega) (fun i hi => ?_) (fun i hi => ?_)
  · rw [appF_ge (Nat.zero_le _), Nat.sub_zero, hg i hi]; exact hc _
  · show e (el l i) = _
    rw [Nat.zero_add, appF_ge (Nat.zero_le _), Nat.sub_zero, hg i hi]
/-- A row of which one element was written. -/
theorem bsub_upd {k b sz n j : Nat} {f g : Nat → V} {v : V} (h : σ[k]? = some (some b)) (hb : H[b]? = some (.arr sz n (upd f j v))) (hv : VSub H σ fr v (g j)) (hf : ∀ i, i < n → i ≠ j → f i = g i) (hc : ∀ i, i < n → i ≠ j → (g i).closed = true) : BSub H σ fr k (.arr sz n g) := by
  refine .inl ⟨b, _, h, hb, fun i hi => ?_⟩
  by_cases e : i = j
  · subst e
    rw [upd_at, if_pos rfl]
    exact hv
  · rw [upd_at, if_neg e]
    exact .of_eq (hf i hi e) (hc i hi e)
theorem bsub_updL {k b sz j : Nat} {e : α → V} {l : List α} {f : Nat → V} {v : V} (h : σ[k]? = some (some b)) (hb : H[b]? = some (.arr sz l.length (upd f j v))) (hv : VSub H σ fr v (e (el l j))) (hf : ∀ i, i < l.length → i ≠ j → f i = e (el l i)) (hc : ∀ y, (e y).closed = true) : BSub H σ fr k (LB sz e l) :=
  bsub_upd h hb hv hf (fun _ _ _ => hc _)
end
section
variable {P : Program} {nt : Nat} {env : Env} {H : Heap} {dst : Option Tmp} {ty T E : TypeId} {pos : String} {after : Array Edge} {guard : Option (Nat × Bool)} {x y : Operand} {d de : TyD}
theorem qs_iaddr_sl0 {sz b n j : Nat} {k : IntKind} {v : Int} (ht : TyIs P T d) (hk : d.tk = .slice E) (he : TyIs P E de) (hs : de.size = sz) (hx : eo env x = some (.sl sz b 0 n)) (hy : eo env y = some (.s (.int k v))) (hv : v = (j : Int)) (hj : j < n) :
    QS P nt env H ⟨dst, .indexAddr T x y, ty, pos, after, guard⟩ (.ptr sz b j 0) := by
  have h := qs_iaddr_sl (nt := nt) (H := H) (dst := dst) (ty := ty) (pos := pos) (after := after) (guard := guard) ht hk he hs hx hy hv hj
  rwa [Nat.zero_add] at h
end
end Go.Proofs.Ytccidiflnmchiaa
