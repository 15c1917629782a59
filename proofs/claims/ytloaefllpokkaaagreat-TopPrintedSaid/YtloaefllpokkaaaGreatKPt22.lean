/- Parts of the proof: contracts of functions. No condition. -/
import Derived.Test.YtloaefllpokkaaaGreatKPt21
set_option maxHeartbeats 16000000
set_option linter.unusedSimpArgs false
set_option linter.unusedVariables false
namespace Go.Proofs.YtloaefllpokkaaaGreat
open Go.ChangeShapes Go.WideShapes Go.ChangeAt Go.RowKit Go.Deep
def Pat.wf (p:Pat):Prop:=(∀ y,y∈p.ros→i64ok y)∧(∀ y,y∈p.rub→i64ok y)∧i64ok p.start∧i64ok p.throw∧i64ok p.adv∧∀ y,y∈p.shifts→i64ok y
set_option maxRecDepth 100000 in
theorem rv_prog:ReadsV Tryz.prog 24 Pat.enc Pat.wf 6 :=
  ⟨by kernel_rfl,by omega,fun {_ _ _ _ _ _ _ cs _} h=>by
    have hlen:=struct_len Tryz.underlying24 h
    rw [show Tryz.prog.cellsOf 24=6 by kernel_rfl] at hlen
    obtain ⟨k0,o0,l0,e0⟩:=struct_part Tryz.underlying24 h 0 rfl rv_ints
    obtain ⟨k1,o1,l1,e1⟩:=struct_part Tryz.underlying24 h 1 rfl rv_ints
    obtain ⟨k2,o2,l2,e2⟩:=struct_part Tryz.underlying24 h 2 rfl rv_Int
    obtain ⟨k3,o3,l3,e3⟩:=struct_part Tryz.underlying24 h 3 rfl rv_Int
    obtain ⟨k4,o4,l4,e4⟩:=struct_part Tryz.underlying24 h 4 rfl rv_Int
    obtain ⟨k5,o5,l5,e5⟩:=struct_part Tryz.underlying24 h 5 rfl rv_ints
    refine ⟨⟨k0,k1,k2,k3,k4,k5⟩,⟨o0,o1,o2,o3,o4,o5⟩,hlen,hlen.symm,fun j x u hx hu=>?_⟩
    match j,hx with
    | 0,hx=>cases hx;exact cells_one e0 rfl hu
    | 1,hx=>cases hx;exact cells_one e1 rfl hu
    | 2,hx=>cases hx;exact cells_one e2 rfl hu
    | 3,hx=>cases hx;exact cells_one e3 rfl hu
    | 4,hx=>cases hx;exact cells_one e4 rfl hu
    | 5,hx=>cases hx;exact cells_one e5 rfl hu
    | j+6,hx=>simp [cells_agg] at hx⟩
section
variable {H:Type}{enc:TypeId × Value→H}{w:World}{base:Nat}{spare:Nat→Bool}{held:Bool}{r:Reach}{b0:Nat}{v:Value}{d:DataW H}{p:List MemPlace}
set_option maxRecDepth 100000 in
theorem arg_prog (hv:Value.okWide Tryz.prog w r b0 24 v) (h:DataW.Trod enc Tryz.prog w base spare held 24 v d p):∃ s:Pat,s.wf∧VRel (snap w) [] s.enc v:=arg_struct Tryz.underlying24 rv_prog (fun _=>rfl) hv h
end
end Go.Proofs.YtloaefllpokkaaaGreat
