/- HousePlays: the walk of the law. No condition. -/
import Derived.Test.YtbilpbabdgfblaaGreatKHc201
set_option maxHeartbeats 16000000
set_option linter.unusedSimpArgs false
set_option linter.unusedVariables false
namespace Go.Proofs.YtbilpbabdgfblaaGreat
open Go.RowKit

theorem housePlays_p (per:Int) (_hp:i64ok per) (life:Int) (_hl:i64ok life) (bk:List Job) (hw:∀ x,x∈bk→x.wf):PCalls Tryz.prog 3 [vi per,vi life,encJobs bk] (·=vb true):=by
  have hu:=jobs_u8 hw
  refine pcalls_of_aw Tryz.func3 rfl (Nat.le_of_ble_eq_true rfl) ?_
  (repeat' (first|(refine ar_isq ?_;refine zq ?_)|(refine ar_pcall (own:=false) fn13 rfl rfl (.cons (.ext (fun _ _=>rfl)) .nil) (greatBook_p bk) (by simp) (dc rfl) ?_;rintro _ (rfl|⟨rfl,h220,hb⟩))|(refine zpv fn14 (hPlay_p per life bk hu) ?_)|(refine zpv fn15 (rPlay_p per life bk hu hb) ?_)|(refine zpv fn16 (rsame_p (hplayF per life bk)) ?_)|refine zg ?_ ?_|refine zgu ?_|refine zst ?_|refine zco ?_ ?_|exact zd|(refine fun (hg:(_:Prop))=>?_;(try replace hg:=HG.out hg);(try dsimp only at hg);(try (have _h:True:=hg;clear _h hg)))))
  all_goals first
    | (exfalso;omega)
    | (exfalso;simp at *;done)
    | ((refine aw_ret ?_;(repeat (first|refine ret_then ?_|refine ret_block ?_));refine bq1 rfl ⟨?_,rfl⟩);rfl)
    | ((refine aw_ret ?_;(repeat (first|refine ret_then ?_|refine ret_block ?_));refine bq1 rfl ⟨?_,rfl⟩);exact congrArg vb (decide_eq_true rfl))
    | trace_state
end Go.Proofs.YtbilpbabdgfblaaGreat
