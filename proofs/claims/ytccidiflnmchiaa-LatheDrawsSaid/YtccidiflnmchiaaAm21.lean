/- A value said in other words; closures in other words. No condition. -/
import Derived.Test.YtccidiflnmchiaaAm20
namespace Go.Proofs.Ytccidiflnmchiaa
open Go.RowKit
section
variable {P : Program} {r : Option Nat} {m nt : Nat} {Q : Post} {env : Env} {H : Heap} {ops : Array Oper} {l : List Stp} {t : Nat} {v v' : V}
theorem EnvOk.re {I : Imm} {ρ : List (Option (Nat × Nat))} {a : Act} (he : EnvOk I ρ nt env a) (h : look env t = some v) (e : v = v') : EnvOk I ρ nt ((t, v') :: env) a := by
  subst e
  refine ⟨he.1, fun t' x hx => ?_⟩
  rw [look_cons] at hx
  split at hx
  · rename_i e; subst e; cases hx; exact he.2 t v h
  · exact he.2 t' x hx
/-- A value said in other words, within a region. -/
theorem ar_re (h : look env t = some v) (e : v = v') (hk : AR P r m nt ops Q l ((t, v') :: env) H) : AR P r m nt ops Q l env H := .mk fun X I ρ a w hX hs => hk.1 X I ρ a w hX ⟨hs.1.re h e, hs.2⟩
end
section
variable {H : Heap} {σ : List (Option Nat)} {fr : Nat → Prop} {f : Fn} {a b a' b' : V}
theorem fn2_sub (ha : VSub H σ fr a a') (hb : VSub H σ fr b b') : VSub H σ fr (.fn f [] [a, b]) (.fn f [] [a', b']) :=
  .fn rfl (fun j v x h _ => by simp at h) rfl fun j v x h h' => match j, h, h' with
    | 0, h, h' => by cases h; cases h'; exact ha
    | 1, h, h' => by cases h; cases h'; exact hb
    | j + 2, h, _ => by simp at h
end
end Go.Proofs.Ytccidiflnmchiaa
