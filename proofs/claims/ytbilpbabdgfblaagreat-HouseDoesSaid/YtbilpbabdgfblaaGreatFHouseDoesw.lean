/- HouseDoes: the walk of the law. No condition. -/
import Derived.Test.YtbilpbabdgfblaaGreatKHc201
set_option maxHeartbeats 16000000
set_option linter.unusedSimpArgs false
set_option linter.unusedVariables false
namespace Go.Proofs.YtbilpbabdgfblaaGreat
open Go.RowKit


theorem houseDoes_p (h:Hse) (hw:h.wf) (j:Job) (hj:j.wf):PCalls Tryz.prog 4 [h.enc,j.enc] (·=vb true):=by
  have hu:u8ok j.kind:=hj.1
  have hua:u8ok j.act.kind:=hj.2.2.2.2.2.2.1.1
  have hst:StOk h.store:=stOk_wf hw.2.2.1
  refine pcalls_of_aw Tryz.func4 rfl (Nat.le_of_ble_eq_true rfl) ?_
  (repeat' (first|(refine ar_isq ?_;refine zq ?_)|(refine ar_pcall (own:=false) fn17 rfl rfl (.cons (.closed rfl) .nil) (rgreat_p h) (by simp) (dc rfl) ?_;rintro _ (rfl|⟨rfl,hs⟩))|(refine ar_pcall (own:=false) fn18 rfl rfl (.cons (.closed rfl) .nil) (great_p j.band) (by simp) (dc rfl) ?_;rintro _ (rfl|⟨rfl,g20,g60⟩))|(refine zpv fn19 (rcopiedV_p h hs) ?_)|(refine zpv fn20 (hDoV_p h j hs hst hu hua) ?_)|(refine zpv fn21 (rDo_p h j hs hu hua (smallB_of g20 g60)) ?_)|(refine zpv fn22 (hcheck_p h hs hst) ?_)|(refine zpv fn23 (rcheck_p h hs) ?_)|(refine zpv fn16 (rsame_p (hdoF h j)) ?_)|(refine zpv fn16 (rsame_p h) ?_)|refine zg ?_ ?_|refine zgu ?_|refine zst ?_|refine aw_drawn (id:=6) [(0,0),(2,0),(1,1),(3,1),(4,0),(5,0),(6,0),(7,0),(8,1),(9,0),(10,0),(11,0),(12,0),(13,0),(14,0),(15,0),(16,0),(17,0),(18,1),(19,0),(20,0)] mixed (by kernel_rfl) ?_|refine zco ?_ ?_|exact zd|(refine fun (hg:(_:Prop))=>?_;(try replace hg:=HG.out hg);(try dsimp only at hg);(try (have _h:True:=hg;clear _h hg)))))
  all_goals first
    | (exfalso;omega)
    | (exfalso;simp at *;done)
    | ((refine aw_ret ?_;(repeat (first|refine ret_then ?_|refine ret_block ?_));refine bq1 rfl ⟨?_,rfl⟩);rfl)
    | ((refine aw_ret ?_;(repeat (first|refine ret_then ?_|refine ret_block ?_));refine bq1 rfl ⟨?_,rfl⟩);exact congrArg vb (decide_eq_true rfl))
    | trace_state
end Go.Proofs.YtbilpbabdgfblaaGreat
