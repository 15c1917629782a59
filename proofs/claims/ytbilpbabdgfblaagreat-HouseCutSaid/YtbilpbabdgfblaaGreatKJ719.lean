/- Parts of the proof: a layer of values over the model, and contracts of functions. No condition. -/
import Derived.Test.YtbilpbabdgfblaaGreatKJ718
set_option maxHeartbeats 16000000
set_option linter.unusedSimpArgs false
set_option linter.unusedVariables false
-- k3
namespace Go.Proofs.YtbilpbabdgfblaaGreat
open Go.RowKit
section
variable (h:Hse)
theorem rsame_p:PCalls Tryz.prog 16 [h.enc,h.enc] (·=vb true):=by
  refine pcalls_know (Φ:=h.designs.length≤9223372036854775807∧h.lics.length≤9223372036854775807∧h.orders.length≤9223372036854775807) (fun I us hh=>?_) fun hlen=>?_
  · obtain ⟨u,hu⟩:=rel_arg hh (j:=0) rfl
    obtain ⟨cs,_,h1,h2⟩:=agg_inv hu
    have hsz:cs.size=10:=h1
    exact ⟨rel_len ⟨_,h2 5 _ cs[5] rfl (by simp [hsz])⟩,rel_len ⟨_,h2 6 _ cs[6] rfl (by simp [hsz])⟩,rel_len ⟨_,h2 7 _ cs[7] rfl (by simp [hsz])⟩⟩
  obtain ⟨hl1,hl2,hl3⟩:=hlen
  refine pcalls_of_aw Tryz.func16 rfl (dc rfl) ?_
  (repeat' (first|refine ar_k2 ?_|refine ar_k3 ?_|refine ark_alloc (ty rfl) rfl (dc rfl) ?_|refine ark_store (ty rfl) rfl rfl rfl rfl rfl rfl (dc rfl) (.inl ⟨_,rfl⟩) (dc rfl) ?_|refine ark_assign rfl (dc rfl) ?_|refine ark_move rfl (dc rfl) ?_|refine ark_nil ?_|(refine ar_isq ?_;refine zq ?_)|refine ar_q (qs_sneq (seq rfl) rfl rfl (.int (ty rfl) rfl rfl rfl rfl (.int (ty rfl) rfl rfl rfl rfl .nil))) (dc rfl) ?_|refine ar_q (qs_sneq (seq rfl) rfl rfl (.int (ty rfl) rfl rfl rfl rfl (.int (ty rfl) rfl rfl rfl rfl (.int (ty rfl) rfl rfl rfl rfl .nil)))) (dc rfl) ?_|refine ar_q (qs_sneq (seq rfl) rfl rfl (.int (ty rfl) rfl rfl rfl rfl (.int (ty rfl) rfl rfl rfl rfl (.int (ty rfl) rfl rfl rfl rfl (.int (ty rfl) rfl rfl rfl rfl .nil))))) (dc rfl) ?_|refine ar_q (qs_sneq (seq rfl) rfl rfl (.int (ty rfl) rfl rfl rfl rfl (.int (ty rfl) rfl rfl rfl rfl (.int (ty rfl) rfl rfl rfl rfl (.int (ty rfl) rfl rfl rfl rfl (.int (ty rfl) rfl rfl rfl rfl .nil)))))) (dc rfl) ?_|(refine zpvD fn47 (sameStore_p h.store) ?_)|(refine zpvD fn32 (sameInts_p h.made) ?_)|(refine zpvD fn32 (sameInts_p h.fors) ?_)|refine zg ?_ ?_|refine zgu ?_|refine ar_forkL ?_ ?_|refine ar_lq rfl ?_|refine zst ?_|refine aw_fork (id:=6) [[(11,1),(10,1),(12,1),(13,1)]] [(0,0),(1,0),(2,0),(3,0),(4,0),(5,0),(6,0),(7,0),(8,0),(9,0),(0,3),(10,1),(11,1),(12,1),(13,1)] mixed (by kernel_rfl) ?_|refine aw_drawn (id:=12) [(0,0),(1,0),(2,0),(3,0),(4,0),(5,0),(6,0),(7,0),(8,0),(9,0),(10,0)] mixed (by kernel_rfl) ?_|refine aw_drawn (id:=17) [(0,0),(1,0),(2,0),(3,0),(4,0),(5,0),(6,0),(7,0),(8,0),(9,0),(10,0)] mixed (by kernel_rfl) ?_|refine zco ?_ ?_|exact zd|(refine fun (hg:(_:Prop))=>?_;(try replace hg:=HG.out hg);(try dsimp only at hg);(try (have _h:True:=hg;clear _h hg)))))
  all_goals (try (exfalso;simp at *;done))
  refine aw_for h.designs.length (fun _=>True) (fun k=>[(2,.ptr 10 0 0 0),(3,.ptr 10 1 0 0),(5,vi k)]) (fun _=>[.arr 10 1 (fun _=>h.enc),.arr 10 1 (fun _=>h.enc)]) trivial ?_ ?_
  · (exact zsbD [some 0,some 1] [])
  intro k hk _
  by_cases hlt:k<h.designs.length
  · (repeat' (first|refine ar_k2 ?_|refine ar_k3 ?_|refine ark_alloc (ty rfl) rfl (dc rfl) ?_|refine ark_store (ty rfl) rfl rfl rfl rfl rfl rfl (dc rfl) (.inl ⟨_,rfl⟩) (dc rfl) ?_|refine ark_assign rfl (dc rfl) ?_|refine ark_move rfl (dc rfl) ?_|refine ark_nil ?_|(refine ar_isq ?_;refine zq ?_)|refine ar_q (qs_sneq (seq rfl) rfl rfl (.int (ty rfl) rfl rfl rfl rfl (.int (ty rfl) rfl rfl rfl rfl .nil))) (dc rfl) ?_|refine ar_q (qs_sneq (seq rfl) rfl rfl (.int (ty rfl) rfl rfl rfl rfl (.int (ty rfl) rfl rfl rfl rfl (.int (ty rfl) rfl rfl rfl rfl .nil)))) (dc rfl) ?_|refine ar_q (qs_sneq (seq rfl) rfl rfl (.int (ty rfl) rfl rfl rfl rfl (.int (ty rfl) rfl rfl rfl rfl (.int (ty rfl) rfl rfl rfl rfl (.int (ty rfl) rfl rfl rfl rfl .nil))))) (dc rfl) ?_|refine ar_q (qs_sneq (seq rfl) rfl rfl (.int (ty rfl) rfl rfl rfl rfl (.int (ty rfl) rfl rfl rfl rfl (.int (ty rfl) rfl rfl rfl rfl (.int (ty rfl) rfl rfl rfl rfl (.int (ty rfl) rfl rfl rfl rfl .nil)))))) (dc rfl) ?_|refine zil (j:=k) ?_|refine zis (j:=k) ?_|refine zit (j:=k) ?_|(refine zpvD fn38 (sameBand_p (el h.designs k).band) ?_)|refine ar_q (qs_sneq (seq rfl) rfl rfl (.int (ty rfl) rfl rfl rfl rfl (.int (ty rfl) rfl rfl rfl rfl (.int (ty rfl) rfl rfl rfl rfl (.int (ty rfl) rfl rfl rfl rfl (.int (ty rfl) rfl rfl rfl rfl .nil)))))) (dc rfl) ?_|refine zg ?_ ?_|refine zgu ?_|refine ar_forkL ?_ ?_|refine ar_lq rfl ?_|refine zst ?_|refine aw_fork (id:=6) [[(11,1),(10,1),(12,1),(13,1)]] [(0,0),(1,0),(2,0),(3,0),(4,0),(5,0),(6,0),(7,0),(8,0),(9,0),(0,3),(10,1),(11,1),(12,1),(13,1)] mixed (by kernel_rfl) ?_|refine aw_drawn (id:=12) [(0,0),(1,0),(2,0),(3,0),(4,0),(5,0),(6,0),(7,0),(8,0),(9,0),(10,0)] mixed (by kernel_rfl) ?_|refine aw_drawn (id:=17) [(0,0),(1,0),(2,0),(3,0),(4,0),(5,0),(6,0),(7,0),(8,0),(9,0),(10,0)] mixed (by kernel_rfl) ?_|refine zco ?_ ?_|exact zd|(refine fun (hg:(_:Prop))=>?_;(try replace hg:=HG.out hg);(try dsimp only at hg);(try (have _h:True:=hg;clear _h hg)))))
    all_goals first
      | (exfalso;omega)
      | (exfalso;simp at *;done)
      | ((first|refine loop_next (by omega) ?_ ?_|refine (show _∧_∧SubOf _ _ _ _ _ _ from And.intro (by omega) (And.intro ?_ ?_)));(focus ((trivial);done));(focus (exact zsbD [some 0,some 1] [])))
      | trace_state
  · obtain rfl:k=h.designs.length:=by omega
    (repeat' (first|refine ar_k2 ?_|refine ar_k3 ?_|refine ark_alloc (ty rfl) rfl (dc rfl) ?_|refine ark_store (ty rfl) rfl rfl rfl rfl rfl rfl (dc rfl) (.inl ⟨_,rfl⟩) (dc rfl) ?_|refine ark_assign rfl (dc rfl) ?_|refine ark_move rfl (dc rfl) ?_|refine ark_nil ?_|(refine ar_isq ?_;refine zq ?_)|refine ar_q (qs_sneq (seq rfl) rfl rfl (.int (ty rfl) rfl rfl rfl rfl (.int (ty rfl) rfl rfl rfl rfl .nil))) (dc rfl) ?_|refine ar_q (qs_sneq (seq rfl) rfl rfl (.int (ty rfl) rfl rfl rfl rfl (.int (ty rfl) rfl rfl rfl rfl (.int (ty rfl) rfl rfl rfl rfl .nil)))) (dc rfl) ?_|refine ar_q (qs_sneq (seq rfl) rfl rfl (.int (ty rfl) rfl rfl rfl rfl (.int (ty rfl) rfl rfl rfl rfl (.int (ty rfl) rfl rfl rfl rfl (.int (ty rfl) rfl rfl rfl rfl .nil))))) (dc rfl) ?_|refine ar_q (qs_sneq (seq rfl) rfl rfl (.int (ty rfl) rfl rfl rfl rfl (.int (ty rfl) rfl rfl rfl rfl (.int (ty rfl) rfl rfl rfl rfl (.int (ty rfl) rfl rfl rfl rfl (.int (ty rfl) rfl rfl rfl rfl .nil)))))) (dc rfl) ?_|refine zg ?_ ?_|refine zgu ?_|refine ar_forkL ?_ ?_|refine ar_lq rfl ?_|refine zst ?_|refine aw_fork (id:=6) [[(11,1),(10,1),(12,1),(13,1)]] [(0,0),(1,0),(2,0),(3,0),(4,0),(5,0),(6,0),(7,0),(8,0),(9,0),(0,3),(10,1),(11,1),(12,1),(13,1)] mixed (by kernel_rfl) ?_|refine aw_drawn (id:=12) [(0,0),(1,0),(2,0),(3,0),(4,0),(5,0),(6,0),(7,0),(8,0),(9,0),(10,0)] mixed (by kernel_rfl) ?_|refine aw_drawn (id:=17) [(0,0),(1,0),(2,0),(3,0),(4,0),(5,0),(6,0),(7,0),(8,0),(9,0),(10,0)] mixed (by kernel_rfl) ?_|refine zco ?_ ?_|exact zd|(refine fun (hg:(_:Prop))=>?_;(try replace hg:=HG.out hg);(try dsimp only at hg);(try (have _h:True:=hg;clear _h hg)))))
    all_goals (try (exfalso;omega))
    refine aw_for h.lics.length (fun _=>True) (fun k=>[(2,.ptr 10 0 0 0),(3,.ptr 10 1 0 0),(8,vi k)]) (fun _=>[.arr 10 1 (fun _=>h.enc),.arr 10 1 (fun _=>h.enc)]) trivial ?_ ?_
    · (exact zsbD [some 0,some 1] [])
    intro k hk _
    by_cases hlt:k<h.lics.length
    · (repeat' (first|refine ar_k2 ?_|refine ar_k3 ?_|refine ark_alloc (ty rfl) rfl (dc rfl) ?_|refine ark_store (ty rfl) rfl rfl rfl rfl rfl rfl (dc rfl) (.inl ⟨_,rfl⟩) (dc rfl) ?_|refine ark_assign rfl (dc rfl) ?_|refine ark_move rfl (dc rfl) ?_|refine ark_nil ?_|(refine ar_isq ?_;refine zq ?_)|refine ar_q (qs_sneq (seq rfl) rfl rfl (.int (ty rfl) rfl rfl rfl rfl (.int (ty rfl) rfl rfl rfl rfl .nil))) (dc rfl) ?_|refine ar_q (qs_sneq (seq rfl) rfl rfl (.int (ty rfl) rfl rfl rfl rfl (.int (ty rfl) rfl rfl rfl rfl (.int (ty rfl) rfl rfl rfl rfl .nil)))) (dc rfl) ?_|refine ar_q (qs_sneq (seq rfl) rfl rfl (.int (ty rfl) rfl rfl rfl rfl (.int (ty rfl) rfl rfl rfl rfl (.int (ty rfl) rfl rfl rfl rfl (.int (ty rfl) rfl rfl rfl rfl .nil))))) (dc rfl) ?_|refine ar_q (qs_sneq (seq rfl) rfl rfl (.int (ty rfl) rfl rfl rfl rfl (.int (ty rfl) rfl rfl rfl rfl (.int (ty rfl) rfl rfl rfl rfl (.int (ty rfl) rfl rfl rfl rfl (.int (ty rfl) rfl rfl rfl rfl .nil)))))) (dc rfl) ?_|refine zil (j:=k) ?_|refine zis (j:=k) ?_|refine zit (j:=k) ?_|refine ar_q (qs_sneq (seq rfl) rfl rfl (.int (ty rfl) rfl rfl rfl rfl (.int (ty rfl) rfl rfl rfl rfl (.int (ty rfl) rfl rfl rfl rfl (.int (ty rfl) rfl rfl rfl rfl .nil))))) (dc rfl) ?_|refine zg ?_ ?_|refine zgu ?_|refine ar_forkL ?_ ?_|refine ar_lq rfl ?_|refine zst ?_|refine aw_fork (id:=6) [[(11,1),(10,1),(12,1),(13,1)]] [(0,0),(1,0),(2,0),(3,0),(4,0),(5,0),(6,0),(7,0),(8,0),(9,0),(0,3),(10,1),(11,1),(12,1),(13,1)] mixed (by kernel_rfl) ?_|refine aw_drawn (id:=12) [(0,0),(1,0),(2,0),(3,0),(4,0),(5,0),(6,0),(7,0),(8,0),(9,0),(10,0)] mixed (by kernel_rfl) ?_|refine aw_drawn (id:=17) [(0,0),(1,0),(2,0),(3,0),(4,0),(5,0),(6,0),(7,0),(8,0),(9,0),(10,0)] mixed (by kernel_rfl) ?_|refine zco ?_ ?_|exact zd|(refine fun (hg:(_:Prop))=>?_;(try replace hg:=HG.out hg);(try dsimp only at hg);(try (have _h:True:=hg;clear _h hg)))))
      all_goals first
        | (exfalso;omega)
        | (exfalso;simp at *;done)
        | ((first|refine loop_next (by omega) ?_ ?_|refine (show _∧_∧SubOf _ _ _ _ _ _ from And.intro (by omega) (And.intro ?_ ?_)));(focus ((trivial);done));(focus (exact zsbD [some 0,some 1] [])))
        | trace_state
    · obtain rfl:k=h.lics.length:=by omega
      (repeat' (first|refine ar_k2 ?_|refine ar_k3 ?_|refine ark_alloc (ty rfl) rfl (dc rfl) ?_|refine ark_store (ty rfl) rfl rfl rfl rfl rfl rfl (dc rfl) (.inl ⟨_,rfl⟩) (dc rfl) ?_|refine ark_assign rfl (dc rfl) ?_|refine ark_move rfl (dc rfl) ?_|refine ark_nil ?_|(refine ar_isq ?_;refine zq ?_)|refine ar_q (qs_sneq (seq rfl) rfl rfl (.int (ty rfl) rfl rfl rfl rfl (.int (ty rfl) rfl rfl rfl rfl .nil))) (dc rfl) ?_|refine ar_q (qs_sneq (seq rfl) rfl rfl (.int (ty rfl) rfl rfl rfl rfl (.int (ty rfl) rfl rfl rfl rfl (.int (ty rfl) rfl rfl rfl rfl .nil)))) (dc rfl) ?_|refine ar_q (qs_sneq (seq rfl) rfl rfl (.int (ty rfl) rfl rfl rfl rfl (.int (ty rfl) rfl rfl rfl rfl (.int (ty rfl) rfl rfl rfl rfl (.int (ty rfl) rfl rfl rfl rfl .nil))))) (dc rfl) ?_|refine ar_q (qs_sneq (seq rfl) rfl rfl (.int (ty rfl) rfl rfl rfl rfl (.int (ty rfl) rfl rfl rfl rfl (.int (ty rfl) rfl rfl rfl rfl (.int (ty rfl) rfl rfl rfl rfl (.int (ty rfl) rfl rfl rfl rfl .nil)))))) (dc rfl) ?_|refine zg ?_ ?_|refine zgu ?_|refine ar_forkL ?_ ?_|refine ar_lq rfl ?_|refine zst ?_|refine aw_fork (id:=6) [[(11,1),(10,1),(12,1),(13,1)]] [(0,0),(1,0),(2,0),(3,0),(4,0),(5,0),(6,0),(7,0),(8,0),(9,0),(0,3),(10,1),(11,1),(12,1),(13,1)] mixed (by kernel_rfl) ?_|refine aw_drawn (id:=12) [(0,0),(1,0),(2,0),(3,0),(4,0),(5,0),(6,0),(7,0),(8,0),(9,0),(10,0)] mixed (by kernel_rfl) ?_|refine aw_drawn (id:=17) [(0,0),(1,0),(2,0),(3,0),(4,0),(5,0),(6,0),(7,0),(8,0),(9,0),(10,0)] mixed (by kernel_rfl) ?_|refine zco ?_ ?_|exact zd|(refine fun (hg:(_:Prop))=>?_;(try replace hg:=HG.out hg);(try dsimp only at hg);(try (have _h:True:=hg;clear _h hg)))))
      all_goals (try (exfalso;omega))
      refine aw_for h.orders.length (fun _=>True) (fun k=>[(2,.ptr 10 0 0 0),(3,.ptr 10 1 0 0),(9,vi k)]) (fun _=>[.arr 10 1 (fun _=>h.enc),.arr 10 1 (fun _=>h.enc)]) trivial ?_ ?_
      · (exact zsbD [some 0,some 1] [])
      intro k hk _
      by_cases hlt:k<h.orders.length
      · (repeat' (first|refine ar_k2 ?_|refine ar_k3 ?_|refine ark_alloc (ty rfl) rfl (dc rfl) ?_|refine ark_store (ty rfl) rfl rfl rfl rfl rfl rfl (dc rfl) (.inl ⟨_,rfl⟩) (dc rfl) ?_|refine ark_assign rfl (dc rfl) ?_|refine ark_move rfl (dc rfl) ?_|refine ark_nil ?_|(refine ar_isq ?_;refine zq ?_)|refine ar_q (qs_sneq (seq rfl) rfl rfl (.int (ty rfl) rfl rfl rfl rfl (.int (ty rfl) rfl rfl rfl rfl .nil))) (dc rfl) ?_|refine ar_q (qs_sneq (seq rfl) rfl rfl (.int (ty rfl) rfl rfl rfl rfl (.int (ty rfl) rfl rfl rfl rfl (.int (ty rfl) rfl rfl rfl rfl .nil)))) (dc rfl) ?_|refine ar_q (qs_sneq (seq rfl) rfl rfl (.int (ty rfl) rfl rfl rfl rfl (.int (ty rfl) rfl rfl rfl rfl (.int (ty rfl) rfl rfl rfl rfl (.int (ty rfl) rfl rfl rfl rfl .nil))))) (dc rfl) ?_|refine ar_q (qs_sneq (seq rfl) rfl rfl (.int (ty rfl) rfl rfl rfl rfl (.int (ty rfl) rfl rfl rfl rfl (.int (ty rfl) rfl rfl rfl rfl (.int (ty rfl) rfl rfl rfl rfl (.int (ty rfl) rfl rfl rfl rfl .nil)))))) (dc rfl) ?_|refine zil (j:=k) ?_|refine zis (j:=k) ?_|refine zit (j:=k) ?_|refine ar_q (qs_sneq (seq rfl) rfl rfl (.int (ty rfl) rfl rfl rfl rfl (.int (ty rfl) rfl rfl rfl rfl (.int (ty rfl) rfl rfl rfl rfl (.bool (ty rfl) rfl rfl rfl rfl .nil))))) (dc rfl) ?_|refine zg ?_ ?_|refine zgu ?_|refine ar_forkL ?_ ?_|refine ar_lq rfl ?_|refine zst ?_|refine aw_fork (id:=6) [[(11,1),(10,1),(12,1),(13,1)]] [(0,0),(1,0),(2,0),(3,0),(4,0),(5,0),(6,0),(7,0),(8,0),(9,0),(0,3),(10,1),(11,1),(12,1),(13,1)] mixed (by kernel_rfl) ?_|refine aw_drawn (id:=12) [(0,0),(1,0),(2,0),(3,0),(4,0),(5,0),(6,0),(7,0),(8,0),(9,0),(10,0)] mixed (by kernel_rfl) ?_|refine aw_drawn (id:=17) [(0,0),(1,0),(2,0),(3,0),(4,0),(5,0),(6,0),(7,0),(8,0),(9,0),(10,0)] mixed (by kernel_rfl) ?_|refine zco ?_ ?_|exact zd|(refine fun (hg:(_:Prop))=>?_;(try replace hg:=HG.out hg);(try dsimp only at hg);(try (have _h:True:=hg;clear _h hg)))))
        all_goals first
          | (exfalso;omega)
          | (exfalso;simp at *;done)
          | ((first|refine loop_next (by omega) ?_ ?_|refine (show _∧_∧SubOf _ _ _ _ _ _ from And.intro (by omega) (And.intro ?_ ?_)));(focus ((trivial);done));(focus (exact zsbD [some 0,some 1] [])))
          | trace_state
      · obtain rfl:k=h.orders.length:=by omega
        (repeat' (first|refine ar_k2 ?_|refine ar_k3 ?_|refine ark_alloc (ty rfl) rfl (dc rfl) ?_|refine ark_store (ty rfl) rfl rfl rfl rfl rfl rfl (dc rfl) (.inl ⟨_,rfl⟩) (dc rfl) ?_|refine ark_assign rfl (dc rfl) ?_|refine ark_move rfl (dc rfl) ?_|refine ark_nil ?_|(refine ar_isq ?_;refine zq ?_)|refine ar_q (qs_sneq (seq rfl) rfl rfl (.int (ty rfl) rfl rfl rfl rfl (.int (ty rfl) rfl rfl rfl rfl .nil))) (dc rfl) ?_|refine ar_q (qs_sneq (seq rfl) rfl rfl (.int (ty rfl) rfl rfl rfl rfl (.int (ty rfl) rfl rfl rfl rfl (.int (ty rfl) rfl rfl rfl rfl .nil)))) (dc rfl) ?_|refine ar_q (qs_sneq (seq rfl) rfl rfl (.int (ty rfl) rfl rfl rfl rfl (.int (ty rfl) rfl rfl rfl rfl (.int (ty rfl) rfl rfl rfl rfl (.int (ty rfl) rfl rfl rfl rfl .nil))))) (dc rfl) ?_|refine ar_q (qs_sneq (seq rfl) rfl rfl (.int (ty rfl) rfl rfl rfl rfl (.int (ty rfl) rfl rfl rfl rfl (.int (ty rfl) rfl rfl rfl rfl (.int (ty rfl) rfl rfl rfl rfl (.int (ty rfl) rfl rfl rfl rfl .nil)))))) (dc rfl) ?_|refine zg ?_ ?_|refine zgu ?_|refine ar_forkL ?_ ?_|refine ar_lq rfl ?_|refine zst ?_|refine aw_fork (id:=6) [[(11,1),(10,1),(12,1),(13,1)]] [(0,0),(1,0),(2,0),(3,0),(4,0),(5,0),(6,0),(7,0),(8,0),(9,0),(0,3),(10,1),(11,1),(12,1),(13,1)] mixed (by kernel_rfl) ?_|refine aw_drawn (id:=12) [(0,0),(1,0),(2,0),(3,0),(4,0),(5,0),(6,0),(7,0),(8,0),(9,0),(10,0)] mixed (by kernel_rfl) ?_|refine aw_drawn (id:=17) [(0,0),(1,0),(2,0),(3,0),(4,0),(5,0),(6,0),(7,0),(8,0),(9,0),(10,0)] mixed (by kernel_rfl) ?_|refine zco ?_ ?_|exact zd|(refine fun (hg:(_:Prop))=>?_;(try replace hg:=HG.out hg);(try dsimp only at hg);(try (have _h:True:=hg;clear _h hg)))))
        all_goals first
          | (exfalso;omega)
          | ((refine aw_ret ?_;(repeat (first|refine ret_then ?_|refine ret_block ?_));refine bq1 rfl ⟨?_,rfl⟩);rfl)
          | trace_state
theorem smallB_of {b:List (List Int)}(h1:b.length≤20) (h2:∀ l,l∈b→l.length≤60):SmallB b:=⟨by omega,fun l hl=>by have:=h2 l hl;omega⟩
theorem rgreat_p:PCalls Tryz.prog 17 [h.enc] (fun v=>v=vb true∨v=vb false∧HSmall h):=by
  refine pcalls_of_aw Tryz.func17 rfl (dc rfl) ?_
  (repeat' (first|(refine ar_isq ?_;refine zq ?_)|(refine ar_pcall (own:=false) fn48 rfl rfl (.cons (.closed rfl) .nil) (great8_p h.store) (by simp) (dc rfl) ?_;rintro _ (rfl|⟨rfl,g40,g500⟩))|refine zg ?_ ?_|refine zgu ?_|refine zst ?_|refine zco ?_ ?_|exact zd|(refine fun (hg:(_:Prop))=>?_;(try replace hg:=HG.out hg);(try dsimp only at hg);(try (have _h:True:=hg;clear _h hg)))))
  all_goals first
    | ((refine aw_ret ?_;(repeat (first|refine ret_then ?_|refine ret_block ?_));refine bq1 rfl ?_);exact ⟨.inl rfl,rfl⟩)
    | skip
  refine aw_for h.designs.length (fun k=>∀ j,j<k→SmallB (el h.designs j).band) (fun k=>[(1,.ptr 10 0 0 0),(3,vi k)]) (fun _=>[.arr 10 1 (fun _=>h.enc)]) (fun q hq=>by omega) ?_ ?_
  · (exact zsbD [some 0] [])
  intro k hk hJ
  by_cases hlt:k<h.designs.length
  · (repeat' (first|(refine ar_isq ?_;refine zq ?_)|refine zil (j:=k) ?_|refine zis (j:=k) ?_|refine zit (j:=k) ?_|(refine ar_pcall (own:=false) fn18 rfl rfl (.cons (.closed rfl) .nil) (great_p (el h.designs k).band) (by simp) (dc rfl) ?_;rintro _ (rfl|⟨rfl,h20,h60⟩))|refine zg ?_ ?_|refine zgu ?_|refine zst ?_|refine zco ?_ ?_|exact zd|(refine fun (hg:(_:Prop))=>?_;(try replace hg:=HG.out hg);(try dsimp only at hg);(try (have _h:True:=hg;clear _h hg)))))
    all_goals first
      | (exfalso;omega)
      | ((refine aw_ret ?_;(repeat (first|refine ret_then ?_|refine ret_block ?_));refine bq1 rfl ?_);exact ⟨.inl rfl,rfl⟩)
      | ((first|refine loop_next (by omega) ?_ ?_|refine (show _∧_∧SubOf _ _ _ _ _ _ from And.intro (by omega) (And.intro ?_ ?_)));(focus ((exact all_step hJ (smallB_of h20 h60));done));(focus (exact zsbD [some 0] [])))
      | trace_state
  · obtain rfl:k=h.designs.length:=by omega
    (repeat' (first|(refine ar_isq ?_;refine zq ?_)|refine zg ?_ ?_|refine zgu ?_|refine zst ?_|refine zco ?_ ?_|exact zd|(refine fun (hg:(_:Prop))=>?_;(try replace hg:=HG.out hg);(try dsimp only at hg);(try (have _h:True:=hg;clear _h hg)))))
    all_goals first
      | (exfalso;omega)
      | ((refine aw_ret ?_;(repeat (first|refine ret_then ?_|refine ret_block ?_));refine bq1 rfl ?_);exact ⟨.inr ⟨rfl,by omega,by omega,by omega,by omega,by omega,by omega,by omega,fun d hd=>by obtain ⟨i,hi,rfl⟩:=List.getElem_of_mem hd;rw [← show el h.designs i=h.designs[i] by simp [el,hi]];exact hJ i hi⟩,rfl⟩)
      | trace_state
end
theorem greatBook_p (bk:List Job):PCalls Tryz.prog 13 [encJobs bk] (fun v=>v=vb true∨v=vb false∧bk.length≤220∧∀ k,k<bk.length→SmallB (el bk k).band):=by
  refine pcalls_of_aw Tryz.func13 rfl (dc rfl) ?_
  (repeat' (first|(refine ar_isq ?_;refine zq ?_)|refine zst ?_|refine zco ?_ ?_|exact zd|(refine fun (hg:(_:Prop))=>?_;(try replace hg:=HG.out hg);(try dsimp only at hg);(try (have _h:True:=hg;clear _h hg)))))
  all_goals first
    | ((refine aw_ret ?_;(repeat (first|refine ret_then ?_|refine ret_block ?_));refine bq1 rfl ?_);exact ⟨.inl rfl,rfl⟩)
    | skip
  have hn:¬ 220<bk.length:=by omega
  refine aw_for bk.length (fun k=>∀ j,j<k→SmallB (el bk j).band) (fun k=>[(8,encJobs bk),(9,vi bk.length),(10,vi k)]) (fun _=>[]) (fun q hq=>by omega) ?_ ?_
  · (exact zsbD [] [])
  intro k hk hJ
  by_cases hlt:k<bk.length
  · (repeat' (first|(refine ar_isq ?_;refine zq ?_)|refine zil (j:=k) ?_|refine zis (j:=k) ?_|refine zit (j:=k) ?_|(refine ar_pcall (own:=false) fn18 rfl rfl (.cons (.closed rfl) .nil) (great_p (el bk k).band) (by simp) (dc rfl) ?_;rintro _ (rfl|⟨rfl,h20,h60⟩))|refine zst ?_|refine zco ?_ ?_|exact zd|(refine fun (hg:(_:Prop))=>?_;(try replace hg:=HG.out hg);(try dsimp only at hg);(try (have _h:True:=hg;clear _h hg)))))
    all_goals first
      | (exfalso;omega)
      | ((refine aw_ret ?_;(repeat (first|refine ret_then ?_|refine ret_block ?_));refine bq1 rfl ?_);exact ⟨.inl rfl,rfl⟩)
      | ((first|refine loop_next (by omega) ?_ ?_|refine (show _∧_∧SubOf _ _ _ _ _ _ from And.intro (by omega) (And.intro ?_ ?_)));(focus ((exact all_step hJ (smallB_of h20 h60));done));(focus (exact zsbD [] [])))
      | trace_state
  · obtain rfl:k=bk.length:=by omega
    (repeat' (first|(refine ar_isq ?_;refine zq ?_)|refine zst ?_|refine zco ?_ ?_|exact zd|(refine fun (hg:(_:Prop))=>?_;(try replace hg:=HG.out hg);(try dsimp only at hg);(try (have _h:True:=hg;clear _h hg)))))
    all_goals first
      | (exfalso;omega)
      | ((refine aw_ret ?_;(repeat (first|refine ret_then ?_|refine ret_block ?_));refine bq1 rfl ?_);exact ⟨.inr ⟨rfl,by omega,hJ⟩,rfl⟩)
      | trace_state
theorem pcalls_of_acalls {P:Program}{f:FuncId}{args:List V}{R:V→Prop}(h:ACalls P f args [] (fun v _=>R v∧v.closed=true) NoP):PCalls P f args R:=by
  refine ⟨?_⟩
  intro I w us hI hv
  have h1:=h.1 (Ctx.self w [] [] I) I [] w us (WOk.begin hI) hv
  refine h1.mono fun e w' ⟨v,u,I',ρ',H',hle,hpre,hw',hr,h2⟩=>?_
  rcases h2 with ⟨rfl,hR,hc⟩|⟨_,hno⟩
  · refine ⟨v,u,I',hR,rfl,hr.close hc,hle,hw'.imm,fun b hb=>?_,⟨hw'.os,hw'.tape,hw'.out,hw'.grow,fun b hb=>hw'.keep b hb not_live_nil⟩⟩
    rcases hw'.news b hb with h3|h3|h3
    · exact .inl h3
    · exact .inr h3
    · exact (not_live_nil h3).elim
  · exact hno.elim
section
variable (h:Hse) (j:Job)
theorem hDoV_p (hs:HSmall h) (hw:StOk h.store) (hu:u8ok j.kind) (hua:u8ok j.act.kind):PCalls Tryz.prog 20 [h.enc,j.enc] (·=.tup [(hdoF h j).enc,vi (hdoE h j)]):=by
  refine pcalls_of_acalls (acalls_sub (hDo_p h j hs hw hu hua) ?_ (fun _ _ h=>h.elim))
  rintro _ _ (⟨he,rfl,rfl⟩|⟨he,rfl,rfl⟩)
  · have hF:hdoF h j=jobF h j:=by unfold hdoF;rw [if_pos he]
    refine ⟨.tup [(jobF h j).enc,vi 0],[],?_,by rw [hF,he],rfl⟩
    unfold hseR
    (exact zscD [] [0,1,2,3,4,5,6])
  · have hF:hdoF h j=noHse:=by unfold hdoF;rw [if_neg he]
    refine ⟨.tup [noHse.enc,vi (hdoE h j)],[],?_,by rw [hF],rfl⟩
    (exact zsbD [] [])
end
end Go.Proofs.YtbilpbabdgfblaaGreat
namespace Go.Proofs.YtbilpbabdgfblaaGreat
open Go.ChangeShapes Go.WideShapes Go.ChangeAt Go.RowKit Go.Deep
def Sheet.wf (s:Sheet):Prop:=i64ok s.cols∧i64ok s.rows∧i64ok s.weight∧i64ok s.clear∧i64ok s.lean
def Dsn.wf (d:Dsn):Prop:=i64ok d.owner∧d.sheet.wf∧∀ l,l∈d.band→∀ y,y∈l→i64ok y
def Lic.wf (l:Lic):Prop:=i64ok l.design∧i64ok l.client∧i64ok l.til∧i64ok l.left
def Ordr.wf (o:Ordr):Prop:=i64ok o.client∧i64ok o.design∧i64ok o.need
def Hse.wf (h:Hse):Prop:=i64ok h.per∧i64ok h.day∧h.store.wf∧(∀ x,x∈h.designs→x.wf)∧(∀ x,x∈h.lics→x.wf)∧(∀ x,x∈h.orders→x.wf)∧(∀ y,y∈h.made→i64ok y)∧∀ y,y∈h.fors→i64ok y
def Job.wf (j:Job):Prop:=u8ok j.kind∧i64ok j.client∧i64ok j.design∧i64ok j.order∧i64ok j.n∧i64ok j.til∧j.act.wf∧j.sheet.wf∧∀ l,l∈j.band→∀ y,y∈l→i64ok y
theorem stOk_wf {s:Sto}(h:s.wf):StOk s:=fun j hj=>(h.2.2 _ (el_mem hj)).2.1
theorem jobs_u8 {bk:List Job}(h:∀ x,x∈bk→x.wf):∀ j,j<bk.length→u8ok (el bk j).kind∧u8ok (el bk j).act.kind:=fun j hj=>by
  have:=h _ (el_mem hj)
  exact ⟨this.1,this.2.2.2.2.2.2.1.1⟩
theorem rv_Rows:ReadsV Tryz.prog 46 encRows (fun b=>∀ l,l∈b→∀ y,y∈l→i64ok y) 1:=rv_list Tryz.underlying46 (by kernel_rfl) rv_ints
set_option maxRecDepth 100000 in
theorem rv_design:ReadsV Tryz.prog 66 Dsn.enc Dsn.wf 7 :=
  ⟨by kernel_rfl,by omega,fun {_ _ _ _ _ _ _ cs _} h=>by
    have hlen:=struct_len Tryz.underlying66 h
    rw [show Tryz.prog.cellsOf 66=7 by kernel_rfl] at hlen
    obtain ⟨k0,o0,l0,e0⟩:=struct_part Tryz.underlying66 h 0 rfl rv_Int
    obtain ⟨k1,o1,l1,e1⟩:=struct_part Tryz.underlying66 h 1 rfl rv_sheet
    obtain ⟨k2,o2,l2,e2⟩:=struct_part Tryz.underlying66 h 2 rfl rv_Rows
    refine ⟨⟨k0,k1,k2⟩,⟨o0,o1,o2⟩,hlen,hlen.symm,fun j x u hx hu=>?_⟩
    match j,hx with
    | 0,hx=>cases hx;exact cells_one e0 rfl hu
    | 1,hx=>cases hx;exact e1.2 0 _ u rfl (by simpa using hu)
    | 2,hx=>cases hx;exact e1.2 1 _ u rfl (by simpa using hu)
    | 3,hx=>cases hx;exact e1.2 2 _ u rfl (by simpa using hu)
    | 4,hx=>cases hx;exact e1.2 3 _ u rfl (by simpa using hu)
    | 5,hx=>cases hx;exact e1.2 4 _ u rfl (by simpa using hu)
    | 6,hx=>cases hx;exact cells_one e2 rfl hu
    | j+7,hx=>simp [Dsn.enc,cells_agg] at hx⟩
set_option maxRecDepth 100000 in
theorem rv_licence:ReadsV Tryz.prog 98 Lic.enc Lic.wf 4 :=
  ⟨by kernel_rfl,by omega,fun {_ _ _ _ _ _ _ cs _} h=>by
    have hlen:=struct_len Tryz.underlying98 h
    rw [show Tryz.prog.cellsOf 98=4 by kernel_rfl] at hlen
    obtain ⟨k0,o0,l0,e0⟩:=struct_part Tryz.underlying98 h 0 rfl rv_Int
    obtain ⟨k1,o1,l1,e1⟩:=struct_part Tryz.underlying98 h 1 rfl rv_Int
    obtain ⟨k2,o2,l2,e2⟩:=struct_part Tryz.underlying98 h 2 rfl rv_Int
    obtain ⟨k3,o3,l3,e3⟩:=struct_part Tryz.underlying98 h 3 rfl rv_Int
    refine ⟨⟨k0,k1,k2,k3⟩,⟨o0,o1,o2,o3⟩,hlen,hlen.symm,fun j x u hx hu=>?_⟩
    match j,hx with
    | 0,hx=>cases hx;exact cells_one e0 rfl hu
    | 1,hx=>cases hx;exact cells_one e1 rfl hu
    | 2,hx=>cases hx;exact cells_one e2 rfl hu
    | 3,hx=>cases hx;exact cells_one e3 rfl hu
    | j+4,hx=>simp [Lic.enc,cells_agg] at hx⟩
set_option maxRecDepth 100000 in
theorem rv_order:ReadsV Tryz.prog 64 Ordr.enc Ordr.wf 4 :=
  ⟨by kernel_rfl,by omega,fun {_ _ _ _ _ _ _ cs _} h=>by
    have hlen:=struct_len Tryz.underlying64 h
    rw [show Tryz.prog.cellsOf 64=4 by kernel_rfl] at hlen
    obtain ⟨k0,o0,l0,e0⟩:=struct_part Tryz.underlying64 h 0 rfl rv_Int
    obtain ⟨k1,o1,l1,e1⟩:=struct_part Tryz.underlying64 h 1 rfl rv_Int
    obtain ⟨k2,o2,l2,e2⟩:=struct_part Tryz.underlying64 h 2 rfl rv_Int
    obtain ⟨k3,o3,l3,e3⟩:=struct_part Tryz.underlying64 h 3 rfl rv_Bool
    refine ⟨⟨k0,k1,k2,k3⟩,⟨o0,o1,o2⟩,hlen,hlen.symm,fun j x u hx hu=>?_⟩
    match j,hx with
    | 0,hx=>cases hx;exact cells_one e0 rfl hu
    | 1,hx=>cases hx;exact cells_one e1 rfl hu
    | 2,hx=>cases hx;exact cells_one e2 rfl hu
    | 3,hx=>cases hx;exact cells_one e3 rfl hu
    | j+4,hx=>simp [Ordr.enc,cells_agg] at hx⟩
theorem rv_designs:ReadsV Tryz.prog 28 (LV 7 Dsn.enc) (fun l=>∀ y,y∈l→y.wf) 1:=rv_list Tryz.underlying28 (by kernel_rfl) rv_design
theorem rv_licences:ReadsV Tryz.prog 29 (LV 4 Lic.enc) (fun l=>∀ y,y∈l→y.wf) 1:=rv_list Tryz.underlying29 (by kernel_rfl) rv_licence
theorem rv_orders:ReadsV Tryz.prog 30 (LV 4 Ordr.enc) (fun l=>∀ y,y∈l→y.wf) 1:=rv_list Tryz.underlying30 (by kernel_rfl) rv_order
set_option maxRecDepth 100000 in
theorem rv_house:ReadsV Tryz.prog 33 Hse.enc Hse.wf 10 :=
  ⟨by kernel_rfl,by omega,fun {_ _ _ _ _ _ _ cs _} h=>by
    have hlen:=struct_len Tryz.underlying33 h
    rw [show Tryz.prog.cellsOf 33=10 by kernel_rfl] at hlen
    obtain ⟨k0,o0,l0,e0⟩:=struct_part Tryz.underlying33 h 0 rfl rv_Int
    obtain ⟨k1,o1,l1,e1⟩:=struct_part Tryz.underlying33 h 1 rfl rv_Int
    obtain ⟨k2,o2,l2,e2⟩:=struct_part Tryz.underlying33 h 2 rfl rv_store
    obtain ⟨k3,o3,l3,e3⟩:=struct_part Tryz.underlying33 h 3 rfl rv_designs
    obtain ⟨k4,o4,l4,e4⟩:=struct_part Tryz.underlying33 h 4 rfl rv_licences
    obtain ⟨k5,o5,l5,e5⟩:=struct_part Tryz.underlying33 h 5 rfl rv_orders
    obtain ⟨k6,o6,l6,e6⟩:=struct_part Tryz.underlying33 h 6 rfl rv_ints
    obtain ⟨k7,o7,l7,e7⟩:=struct_part Tryz.underlying33 h 7 rfl rv_ints
    refine ⟨⟨k0,k1,k2,k3,k4,k5,k6,k7⟩,⟨o0,o1,o2,o3,o4,o5,o6,o7⟩,hlen,hlen.symm,fun j x u hx hu=>?_⟩
    match j,hx with
    | 0,hx=>cases hx;exact cells_one e0 rfl hu
    | 1,hx=>cases hx;exact cells_one e1 rfl hu
    | 2,hx=>cases hx;exact e2.2 0 _ u rfl (by simpa using hu)
    | 3,hx=>cases hx;exact e2.2 1 _ u rfl (by simpa using hu)
    | 4,hx=>cases hx;exact e2.2 2 _ u rfl (by simpa using hu)
    | 5,hx=>cases hx;exact cells_one e3 rfl hu
    | 6,hx=>cases hx;exact cells_one e4 rfl hu
    | 7,hx=>cases hx;exact cells_one e5 rfl hu
    | 8,hx=>cases hx;exact cells_one e6 rfl hu
    | 9,hx=>cases hx;exact cells_one e7 rfl hu
    | j+10,hx=>simp [Hse.enc,cells_agg] at hx⟩
set_option maxRecDepth 100000 in
theorem rv_job:ReadsV Tryz.prog 48 Job.enc Job.wf 16 :=
  ⟨by kernel_rfl,by omega,fun {_ _ _ _ _ _ _ cs _} h=>by
    have hlen:=struct_len Tryz.underlying48 h
    rw [show Tryz.prog.cellsOf 48=16 by kernel_rfl] at hlen
    obtain ⟨k0,o0,l0,e0⟩:=struct_part Tryz.underlying48 h 0 rfl rv_U8
    obtain ⟨k1,o1,l1,e1⟩:=struct_part Tryz.underlying48 h 1 rfl rv_Int
    obtain ⟨k2,o2,l2,e2⟩:=struct_part Tryz.underlying48 h 2 rfl rv_Int
    obtain ⟨k3,o3,l3,e3⟩:=struct_part Tryz.underlying48 h 3 rfl rv_Int
    obtain ⟨k4,o4,l4,e4⟩:=struct_part Tryz.underlying48 h 4 rfl rv_Int
    obtain ⟨k5,o5,l5,e5⟩:=struct_part Tryz.underlying48 h 5 rfl rv_Int
    obtain ⟨k6,o6,l6,e6⟩:=struct_part Tryz.underlying48 h 6 rfl rv_deed
    obtain ⟨k7,o7,l7,e7⟩:=struct_part Tryz.underlying48 h 7 rfl rv_sheet
    obtain ⟨k8,o8,l8,e8⟩:=struct_part Tryz.underlying48 h 8 rfl rv_Rows
    refine ⟨⟨k0,k1,k2,k3,k4,k5,k6,k7,k8⟩,⟨o0,o1,o2,o3,o4,o5,o6,o7,o8⟩,hlen,hlen.symm,fun j x u hx hu=>?_⟩
    match j,hx with
    | 0,hx=>cases hx;exact cells_one e0 rfl hu
    | 1,hx=>cases hx;exact cells_one e1 rfl hu
    | 2,hx=>cases hx;exact cells_one e2 rfl hu
    | 3,hx=>cases hx;exact cells_one e3 rfl hu
    | 4,hx=>cases hx;exact cells_one e4 rfl hu
    | 5,hx=>cases hx;exact cells_one e5 rfl hu
    | 6,hx=>cases hx;exact e6.2 0 _ u rfl (by simpa using hu)
    | 7,hx=>cases hx;exact e6.2 1 _ u rfl (by simpa using hu)
    | 8,hx=>cases hx;exact e6.2 2 _ u rfl (by simpa using hu)
    | 9,hx=>cases hx;exact e6.2 3 _ u rfl (by simpa using hu)
    | 10,hx=>cases hx;exact e7.2 0 _ u rfl (by simpa using hu)
    | 11,hx=>cases hx;exact e7.2 1 _ u rfl (by simpa using hu)
    | 12,hx=>cases hx;exact e7.2 2 _ u rfl (by simpa using hu)
    | 13,hx=>cases hx;exact e7.2 3 _ u rfl (by simpa using hu)
    | 14,hx=>cases hx;exact e7.2 4 _ u rfl (by simpa using hu)
    | 15,hx=>cases hx;exact cells_one e8 rfl hu
    | j+16,hx=>simp [Job.enc,cells_agg] at hx⟩
section
variable {H:Type}{enc:TypeId × Value→H}{w:World}{base:Nat}{spare:Nat→Bool}{held:Bool}{r:Reach}{b0:Nat}{v:Value}{d:DataW H}{p:List MemPlace}
set_option maxRecDepth 100000 in
theorem arg_house (hv:Value.okWide Tryz.prog w r b0 33 v) (h:DataW.Trod enc Tryz.prog w base spare held 33 v d p):∃ s:Hse,s.wf∧VRel (snap w) [] s.enc v:=arg_struct Tryz.underlying33 rv_house (fun _=>rfl) hv h
set_option maxRecDepth 100000 in
theorem arg_job (hv:Value.okWide Tryz.prog w r b0 48 v) (h:DataW.Trod enc Tryz.prog w base spare held 48 v d p):∃ s:Job,s.wf∧VRel (snap w) [] s.enc v:=arg_struct Tryz.underlying48 rv_job (fun _=>rfl) hv h
end
end Go.Proofs.YtbilpbabdgfblaaGreat
-- old go
namespace Go.Proofs.YtbilpbabdgfblaaGreat
open Go.RowKit
def tgT (l:List Prt):Nat→List (Int × Int)
  | 0=>[]
  | k+1=>putE (tgT l k) (el l k).plate (usedP l (el l k).plate k+1)
def tgD (l:List (Int × Int)) (q:Int):Int:=(getE l q).getD 0
theorem tgD_put (l:List (Int × Int)) (a b v:Int):tgD (putE l a v) b=if b=a then v else tgD l b:=by
  unfold tgD
  rw [getE_put]
  split<;>rfl
theorem tgD_eq (l:List Prt) (q:Int):∀ k,tgD (tgT l k) q=usedP l q k
  | 0=>rfl
  | k+1=>by
    rw [tgT,tgD_put]
    by_cases e:q=(el l k).plate
    · subst e
      rw [if_pos rfl,usedP_yes rfl]
    · rw [if_neg e,tgD_eq l q k,usedP_no (fun h=>e h.symm)]
end Go.Proofs.YtbilpbabdgfblaaGreat
namespace Go.Proofs.YtbilpbabdgfblaaGreat.Im
open Go.RowKit
section
variable {C:Cx Tryz.prog}{nt:Nat}{Q:Post}{env:Env}{H:Heap}{k:Option Nat}{ops:Array Oper}{l:List Stp}{ty:TypeId}{pos:String}{after:Array Edge}{T K E:TypeId}{d dk de:TyD}{x y:Operand}
theorem ar_lookupG {i f b:Nat}{ml:List (Int × Int)}{a c:Int}(hv:tgD ml a=c) (ht:TyIs Tryz.prog T d) (hk:d.tk=.map K E) (hK:TyIs Tryz.prog K dk) (hkk:dk.tk=.int .i64) (hE:TyIs Tryz.prog E de) (hx:eo env x=some (.map b)) (hy:eo env y=some (.s (.int .i64 a))) (hH:H[b]?=some (mapE vi ml)) (hz:constV de.zero=vi 0) (hd:f<nt)
    (h:AR C nt ops Q l ((f,vi c)::env) H k):AR C nt ops Q (.q i ⟨some f,.lookup T x y false,ty,pos,after,none⟩::l) env H k:=by
  subst hv
  refine ar_lookup ht hk hK hkk hE hx hy hH hd (fun v hv=>?_) fun hv=>?_
  · have:tgD ml a=v:=by unfold tgD;rw [hv];rfl
    rw [this] at h
    exact h
  · have:tgD ml a=0:=by unfold tgD;rw [hv];rfl
    rw [this] at h
    show AR C nt ops Q l ((f,constV de.zero)::env) H k
    rw [hz]
    exact h
end
theorem growths_iter (h:Hse) (hV:HValid h):IterX Tryz.prog 101 [.ref (.ref h.enc 0) 0] h.store.prints.length (fun k=>[.int .i64 k,.int .i64 (growF h k)]):=by
  have hper:=hV.per
  have hfew:=hV.store.1
  unfold Few at hfew
  refine iter_of_aw Tryz.func101 rfl (dc rfl) rfl fun C hN hel=>?_
  (repeat' (first|(refine ar_isq ?_;first|refine ar_q (qs_move rfl) (dc rfl) ?_|refine ar_q (qs_assign rfl) (dc rfl) ?_|(refine is_load ?_;first|refine ar_q (qs_load_ptr (ty rfl) rfl rfl (by first|exact Nat.one_pos|assumption|omega) rfl) (dc rfl) ?_|refine ar_q (qs_load_ref (ty rfl) rfl rfl) (dc rfl) ?_)|(refine is_binOp ?_;first|refine ar_q (qs_lss rfl rfl) (dc rfl) ?_|refine ar_q (qs_add rfl rfl (wrap64 (by omega))) (dc rfl) ?_|refine ar_q (qs_quo rfl rfl (by omega) (quo64 (by omega) (by omega))) (dc rfl) ?_)|(refine is_fieldAddr ?_;first|refine ar_q (qs_faddr_ptr (ty rfl) rfl rfl (ty rfl) (Nat.succ_ne_zero _) rfl) (dc rfl) ?_|refine ar_q (qs_faddr_ref (ty rfl) rfl rfl (ty rfl) (Nat.succ_ne_zero _) rfl) (dc rfl) ?_)|(refine is_indexAddr ?_;first|refine ar_q (qs_iaddr_list (ty rfl) rfl (ty rfl) rfl rfl rfl rfl (by omega)) (dc rfl) ?_|refine ar_q (qs_iaddr_sl0 (ty rfl) rfl (ty rfl) rfl rfl rfl rfl (by omega)) (dc rfl) ?_|refine ar_q (qs_iaddr_sl (ty rfl) rfl (ty rfl) rfl rfl rfl rfl (by omega)) (dc rfl) ?_|refine ar_q (qs_iaddr_aptr (ty rfl) rfl (ty rfl) rfl rfl rfl (by omega)) (dc rfl) ?_|refine ar_q (qs_iaddr_aref (ty rfl) rfl (ty rfl) rfl rfl rfl (by omega)) (dc rfl) ?_|(refine ar_idx_list (ty rfl) rfl (ty rfl) rfl rfl rfl (dc rfl) (by omega) ?_;intro _ _ _)|(refine ar_idx_sl (ty rfl) rfl (ty rfl) rfl rfl rfl (dc rfl) (by omega) ?_;intro _ _ _))|(refine is_call ?_;first|refine ar_q (qs_len_list (ty rfl) rfl rfl rfl) (dc rfl) ?_|refine ar_q (qs_len_sl (ty rfl) rfl rfl rfl) (dc rfl) ?_|refine ar_q (qs_len_nil (ty rfl) rfl rfl rfl) (dc rfl) ?_|refine ar_q (qs_len_emp (ty rfl) rfl rfl rfl) (dc rfl) ?_|refine ar_q (qs_min rfl rfl) (dc rfl) ?_)|refine ar_q (qs_not rfl) (dc rfl) ?_)|(refine ar_makeMap (dc rfl) ?_)|(refine ar_q (qs_nck_ref rfl) (dc rfl) ?_)|(refine ar_alloc (ty rfl) rfl (dc rfl) ?_)|(refine ar_store_var (ty rfl) rfl rfl rfl rfl rfl rfl (by first|(dsimp only;omega)|exact dc rfl) (.inr ⟨rfl,rfl,rfl,fun _ h=>by cases h⟩) ?_)|(refine ar_store_var (ty rfl) rfl rfl rfl rfl rfl rfl (by first|(dsimp only;omega)|exact dc rfl) (.inl ⟨_,rfl⟩) ?_)|(refine ar_store_elt (ty rfl) rfl rfl rfl rfl rfl rfl (by first|exact Nat.one_pos|assumption|omega) (by first|(dsimp only;omega)|exact dc rfl) (.inr ⟨rfl,rfl,rfl,fun _ h=>by cases h⟩) ?_)|(refine ar_store_elt (ty rfl) rfl rfl rfl rfl rfl rfl (by first|exact Nat.one_pos|assumption|omega) (by first|(dsimp only;omega)|exact dc rfl) (.inl ⟨_,rfl⟩) ?_)|(refine ar_nil ?_)|(refine aw_seq ?_)|(refine aw_skip ?_)|(refine aw_block ?_)|(refine aw_exit ?_)|(refine aw_region ?_)|(refine aw_cond rfl ?_ ?_<;>intro hg<;>first|exact absurd hg (by decide)|((first|replace hg:=hgT hg|replace hg:=hgF hg|replace hg:=hgNT hg|replace hg:=hgNF hg|replace hg:=hgBT hg|replace hg:=hgBF hg|replace hg:=hgV hg|replace hg:=hgW hg|skip);(try dsimp only at hg);(try (have _h:True:=hg;clear _h hg));first|(exfalso;omega)|skip))))
  refine aw_for h.store.prints.length (fun k=>[(0,.s (.func (.yield C.l) #[] #[])),(1,.ref (.ref h.enc 0) 0),(3,.map 0),(13,encPrints h.store.prints),(14,vi h.store.prints.length),(15,vi k)]) (fun k=>[mapE vi (tgT h.store.prints k)]) ⟨rfl,rfl,rfl,rfl,rfl,rfl,trivial⟩ rfl ?_
  intro k hk
  by_cases hlt:k<h.store.prints.length
  · have hb:=before_bnd h k
    have hg:=grow_bnd hper.1 k
    have ht:tgD (tgT h.store.prints k) (el h.store.prints k).plate=beforeF h k:=tgD_eq _ _ _
    (repeat' (first|(refine ar_isq ?_;first|refine ar_q (qs_move rfl) (dc rfl) ?_|refine ar_q (qs_assign rfl) (dc rfl) ?_|(refine is_load ?_;first|refine ar_q (qs_load_ptr (ty rfl) rfl rfl (by first|exact Nat.one_pos|assumption|omega) rfl) (dc rfl) ?_|refine ar_q (qs_load_ref (ty rfl) rfl rfl) (dc rfl) ?_)|(refine is_binOp ?_;first|refine ar_q (qs_lss rfl rfl) (dc rfl) ?_|refine ar_q (qs_add rfl rfl (wrap64 (by omega))) (dc rfl) ?_|refine ar_q (qs_quo rfl rfl (by omega) (quo64 (by omega) (by omega))) (dc rfl) ?_)|(refine is_fieldAddr ?_;first|refine ar_q (qs_faddr_ptr (ty rfl) rfl rfl (ty rfl) (Nat.succ_ne_zero _) rfl) (dc rfl) ?_|refine ar_q (qs_faddr_ref (ty rfl) rfl rfl (ty rfl) (Nat.succ_ne_zero _) rfl) (dc rfl) ?_)|(refine is_indexAddr ?_;first|refine ar_q (qs_iaddr_list (ty rfl) rfl (ty rfl) rfl rfl rfl rfl (by omega)) (dc rfl) ?_|refine ar_q (qs_iaddr_sl0 (ty rfl) rfl (ty rfl) rfl rfl rfl rfl (by omega)) (dc rfl) ?_|refine ar_q (qs_iaddr_sl (ty rfl) rfl (ty rfl) rfl rfl rfl rfl (by omega)) (dc rfl) ?_|refine ar_q (qs_iaddr_aptr (ty rfl) rfl (ty rfl) rfl rfl rfl (by omega)) (dc rfl) ?_|refine ar_q (qs_iaddr_aref (ty rfl) rfl (ty rfl) rfl rfl rfl (by omega)) (dc rfl) ?_|refine ar_q (qs_iaddr_list (j:=k) (ty rfl) rfl (ty rfl) rfl rfl rfl (by omega) (by omega)) (dc rfl) ?_|refine ar_q (qs_iaddr_sl0 (j:=k) (ty rfl) rfl (ty rfl) rfl rfl rfl (by omega) (by omega)) (dc rfl) ?_|refine ar_q (qs_iaddr_sl (j:=k) (ty rfl) rfl (ty rfl) rfl rfl rfl (by omega) (by omega)) (dc rfl) ?_|(refine ar_idx_list (ty rfl) rfl (ty rfl) rfl rfl rfl (dc rfl) (by omega) ?_;intro _ _ _)|(refine ar_idx_sl (ty rfl) rfl (ty rfl) rfl rfl rfl (dc rfl) (by omega) ?_;intro _ _ _))|(refine is_call ?_;first|refine ar_q (qs_len_list (ty rfl) rfl rfl rfl) (dc rfl) ?_|refine ar_q (qs_len_sl (ty rfl) rfl rfl rfl) (dc rfl) ?_|refine ar_q (qs_len_nil (ty rfl) rfl rfl rfl) (dc rfl) ?_|refine ar_q (qs_len_emp (ty rfl) rfl rfl rfl) (dc rfl) ?_|refine ar_q (qs_min rfl rfl) (dc rfl) ?_)|refine ar_q (qs_not rfl) (dc rfl) ?_)|(refine ar_q (qs_nck_ref rfl) (dc rfl) ?_)|(refine ar_copy (ty rfl) rfl rfl rfl rfl rfl rfl rfl rfl rfl ⟨_,rfl⟩ rfl (dc rfl) (dc rfl) ?_)|(refine ar_lookupG ht (ty rfl) rfl (ty rfl) rfl (ty rfl) rfl rfl rfl rfl (dc rfl) ?_)|(refine ar_drop_l [(0,.s (.func (.yield C.l) #[] #[])),(1,.ref (.ref h.enc 0) 0),(3,.map 0),(4,vi k),(6,vi (beforeF h k)),(13,encPrints h.store.prints),(14,vi h.store.prints.length),(15,vi k),(24,.map 0),(26,vi (el h.store.prints k).plate),(28,vi (beforeF h k+1))] (fun _=>rfl) ⟨rfl,rfl,rfl,rfl,rfl,rfl,rfl,rfl,rfl,rfl,rfl,trivial⟩ rfl ?_)|(refine ar_mapUpdate (e:=vi) (v:=beforeF h k+1) (ty rfl) rfl (ty rfl) rfl rfl rfl rfl ?_)|(refine ar_yield (us:=[.int .i64 k,.int .i64 (growF h k)]) rfl rfl (by rw [hN];exact hlt) (by rw [hel]) (dc rfl) only_mapE ?_ ?_)|(refine ar_alloc (ty rfl) rfl (dc rfl) ?_)|(refine ar_store_var (ty rfl) rfl rfl rfl rfl rfl rfl (by first|(dsimp only;omega)|exact dc rfl) (.inr ⟨rfl,rfl,rfl,fun _ h=>by cases h⟩) ?_)|(refine ar_store_var (ty rfl) rfl rfl rfl rfl rfl rfl (by first|(dsimp only;omega)|exact dc rfl) (.inl ⟨_,rfl⟩) ?_)|(refine ar_store_elt (ty rfl) rfl rfl rfl rfl rfl rfl (by first|exact Nat.one_pos|assumption|omega) (by first|(dsimp only;omega)|exact dc rfl) (.inr ⟨rfl,rfl,rfl,fun _ h=>by cases h⟩) ?_)|(refine ar_store_elt (ty rfl) rfl rfl rfl rfl rfl rfl (by first|exact Nat.one_pos|assumption|omega) (by first|(dsimp only;omega)|exact dc rfl) (.inl ⟨_,rfl⟩) ?_)|(refine ar_nil ?_)|(refine aw_seq ?_)|(refine aw_skip ?_)|(refine aw_block ?_)|(refine aw_exit ?_)|(refine aw_region ?_)|(refine aw_cond rfl ?_ ?_<;>intro hg<;>first|exact absurd hg (by decide)|((first|replace hg:=hgT hg|replace hg:=hgF hg|replace hg:=hgNT hg|replace hg:=hgNF hg|replace hg:=hgBT hg|replace hg:=hgBF hg|replace hg:=hgV hg|replace hg:=hgW hg|skip);(try dsimp only at hg);(try (have _h:True:=hg;clear _h hg));first|(exfalso;omega)|skip))))
    all_goals first
      | (exfalso;omega)
      | exact loop_next hlt rfl rfl ⟨rfl,rfl,rfl,rfl,rfl,rfl,trivial⟩
      | exact aw_ret (.inr rfl)
      | trace_state
  · obtain rfl:k=h.store.prints.length:=by omega
    (repeat' (first|(refine ar_isq ?_;first|refine ar_q (qs_move rfl) (dc rfl) ?_|refine ar_q (qs_assign rfl) (dc rfl) ?_|(refine is_load ?_;first|refine ar_q (qs_load_ptr (ty rfl) rfl rfl (by first|exact Nat.one_pos|assumption|omega) rfl) (dc rfl) ?_|refine ar_q (qs_load_ref (ty rfl) rfl rfl) (dc rfl) ?_)|(refine is_binOp ?_;first|refine ar_q (qs_lss rfl rfl) (dc rfl) ?_|refine ar_q (qs_add rfl rfl (wrap64 (by omega))) (dc rfl) ?_|refine ar_q (qs_quo rfl rfl (by omega) (quo64 (by omega) (by omega))) (dc rfl) ?_)|(refine is_fieldAddr ?_;first|refine ar_q (qs_faddr_ptr (ty rfl) rfl rfl (ty rfl) (Nat.succ_ne_zero _) rfl) (dc rfl) ?_|refine ar_q (qs_faddr_ref (ty rfl) rfl rfl (ty rfl) (Nat.succ_ne_zero _) rfl) (dc rfl) ?_)|(refine is_indexAddr ?_;first|refine ar_q (qs_iaddr_list (ty rfl) rfl (ty rfl) rfl rfl rfl rfl (by omega)) (dc rfl) ?_|refine ar_q (qs_iaddr_sl0 (ty rfl) rfl (ty rfl) rfl rfl rfl rfl (by omega)) (dc rfl) ?_|refine ar_q (qs_iaddr_sl (ty rfl) rfl (ty rfl) rfl rfl rfl rfl (by omega)) (dc rfl) ?_|refine ar_q (qs_iaddr_aptr (ty rfl) rfl (ty rfl) rfl rfl rfl (by omega)) (dc rfl) ?_|refine ar_q (qs_iaddr_aref (ty rfl) rfl (ty rfl) rfl rfl rfl (by omega)) (dc rfl) ?_|(refine ar_idx_list (ty rfl) rfl (ty rfl) rfl rfl rfl (dc rfl) (by omega) ?_;intro _ _ _)|(refine ar_idx_sl (ty rfl) rfl (ty rfl) rfl rfl rfl (dc rfl) (by omega) ?_;intro _ _ _))|(refine is_call ?_;first|refine ar_q (qs_len_list (ty rfl) rfl rfl rfl) (dc rfl) ?_|refine ar_q (qs_len_sl (ty rfl) rfl rfl rfl) (dc rfl) ?_|refine ar_q (qs_len_nil (ty rfl) rfl rfl rfl) (dc rfl) ?_|refine ar_q (qs_len_emp (ty rfl) rfl rfl rfl) (dc rfl) ?_|refine ar_q (qs_min rfl rfl) (dc rfl) ?_)|refine ar_q (qs_not rfl) (dc rfl) ?_)|(refine ar_alloc (ty rfl) rfl (dc rfl) ?_)|(refine ar_store_var (ty rfl) rfl rfl rfl rfl rfl rfl (by first|(dsimp only;omega)|exact dc rfl) (.inr ⟨rfl,rfl,rfl,fun _ h=>by cases h⟩) ?_)|(refine ar_store_var (ty rfl) rfl rfl rfl rfl rfl rfl (by first|(dsimp only;omega)|exact dc rfl) (.inl ⟨_,rfl⟩) ?_)|(refine ar_store_elt (ty rfl) rfl rfl rfl rfl rfl rfl (by first|exact Nat.one_pos|assumption|omega) (by first|(dsimp only;omega)|exact dc rfl) (.inr ⟨rfl,rfl,rfl,fun _ h=>by cases h⟩) ?_)|(refine ar_store_elt (ty rfl) rfl rfl rfl rfl rfl rfl (by first|exact Nat.one_pos|assumption|omega) (by first|(dsimp only;omega)|exact dc rfl) (.inl ⟨_,rfl⟩) ?_)|(refine ar_nil ?_)|(refine aw_seq ?_)|(refine aw_skip ?_)|(refine aw_block ?_)|(refine aw_exit ?_)|(refine aw_region ?_)|(refine aw_cond rfl ?_ ?_<;>intro hg<;>first|exact absurd hg (by decide)|((first|replace hg:=hgT hg|replace hg:=hgF hg|replace hg:=hgNT hg|replace hg:=hgNF hg|replace hg:=hgBT hg|replace hg:=hgBF hg|replace hg:=hgV hg|replace hg:=hgW hg|skip);(try dsimp only at hg);(try (have _h:True:=hg;clear _h hg));first|(exfalso;omega)|skip))))
    all_goals first
      | (exfalso;omega)
      | exact aw_ret (.inl rfl)
      | exact .inl rfl
      | trace_state
end Go.Proofs.YtbilpbabdgfblaaGreat.Im
namespace Go.Proofs.YtbilpbabdgfblaaGreat
open Go.RowKit
theorem sub_preC {m nt t sz b c:Nat}{env:Env}{H:Heap}{f:Nat→V}(cs ds:List V) (ht:look env t=some (.ptr sz b 0 0)) (hcH:H[c]?=some (.arr 1 1 f)) (hf:f 0=.ptr sz b 0 0) (hne:b≠c) (hb:H[b]?=some (.arr sz 1 (fun _=>.agg (cs++ds)))) (hc:V.closed.all cs=true) :
    SubK m nt env H ((t,.ref (.agg cs) 0)::env) ((H.set b .dead).set c (.arr 1 1 (fun _=>.ref (.agg cs) 0))):=.mk fun X I ρ a w _ ⟨hE,hw,hd⟩=>by
  have hlt:c<ρ.length:=by rw [hw.len];exact (List.getElem?_eq_some_iff.1 hcH).1
  obtain ⟨xc,hxc⟩:∃ x,ρ[c]?=some x:=⟨ρ[c],by simp [hlt]⟩
  cases xc with
  | none=>have:=hw.none _ _ _ _ hcH hxc;omega
  | some pc =>
    obtain ⟨bc,zc⟩:=pc
    obtain ⟨vs,tyc,hvs,hzc,hnc,hrc⟩:=hw.arr _ _ _ _ _ _ hcH hxc
    obtain ⟨uc,huc,hrel⟩:=hrc 0 0 (.ptr sz b 0 0) Nat.one_pos (by rw [hf];rfl)
    obtain ⟨cb,z,hu,hx⟩:=hrel.ptr_inv
    have hL:Live H ρ cb:=⟨b,_,hb,by simp,z,hx⟩
    have hI:=know_le (o:=w.heap[cb]?) (hw.apart cb hL)
    obtain ⟨us,ty,hcs,hz,hn,hr⟩:=hw.arr _ _ _ _ _ _ hb hx
    have hcell:∀ (j:Nat) x,cs[j]?=some x→∃ u,us[j]?=some u∧VRel I ρ x u:=fun j x hj=>by
      have hlt:=(List.getElem?_eq_some_iff.1 hj).1
      obtain ⟨u,h3,h4⟩:=hr 0 j x Nat.one_pos (by show (cs++ds)[j]?=_;rw [List.getElem?_append_left hlt];exact hj)
      exact ⟨u,by simpa using h3,h4⟩
    have href0:VRel (know I cb (w.heap[cb]?)) ρ (.ref (.agg cs) 0) (.pointer (some ⟨cb,0*sz+0,none⟩)):=by
      rw [Nat.zero_mul]
      refine .ref (us:=fun j=>us.getD j undef) ⟨us,ty,(0,0),by rw [know_at];exact hcs,fun j hj=>?_⟩ fun j x hj=>?_
      · have hj:j<cs.length:=hj
        obtain ⟨u,h3,_⟩:=hcell j cs[j] (by simp [hj])
        simp [h3]
      · have hj:cs[j]?=some x:=hj
        obtain ⟨u,h3,h4⟩:=hcell j x hj
        rw [show us.getD j undef=u by simp [h3]]
        exact (h4.close (closed_all hc hj)).mono hI (Pre.refl _)
    have href:VRel (know I cb (w.heap[cb]?)) ρ (.ref (.agg cs) 0) uc:=by rw [hu];exact href0
    have hw2:=hw.forget hb (by simp) hx
    have hw3:=hw2.write (w':=w) (k:=c) (g:=fun _=>.ref (.agg cs) 0) (by rw [List.getElem?_set_ne hne];exact hcH) hxc hzc (fun _ _=>rfl) (fun i j v hi hj=>by
      obtain rfl:i=0:=by omega
      cases j with
      | zero =>
        have hj:some (V.ref (.agg cs) 0)=some v:=hj
        cases hj
        exact ⟨uc,by simpa using huc,href⟩
      | succ j=>cases hj) hvs (fun _ _=>rfl) rfl rfl rfl rfl
    refine ⟨know I cb (w.heap[cb]?),ρ,hI,⟨⟨hE.1,fun t' v hv=>?_⟩,hw3,hd.mono hI⟩,fun y hy=>?_⟩
    · rw [look_cons] at hv
      split at hv
      · rename_i e
        subst e
        cases hv
        obtain ⟨h1,h2⟩:=hE.2 t _ ht
        obtain ⟨cb2,z2,hu2,hx2⟩:=h2.ptr_inv
        rw [hx] at hx2
        cases hx2
        exact ⟨h1,by rw [hu2];exact href0⟩
      · obtain ⟨h3,h4⟩:=hE.2 t' v hv
        exact ⟨h3,h4.mono hI (Pre.refl _)⟩
    obtain ⟨y1,y2,y3⟩:=hy
    have hcl:c<(H.set b Blk.dead).length:=by rw [List.length_set,← hw.len];exact hlt
    refine ⟨fun c o hc=>y1 c o (hI c o hc),fun k sz' n' f' b' z' hk hρ o ho=>?_,fun k mm b' z' hk hρ=>?_⟩
    · by_cases e:k=b
      · subst e
        rw [hx] at hρ
        cases hρ
        have:=y1 cb _ (by rw [know_at];exact hcs)
        simp [World.cell?,this,hcs]
      · by_cases e2:k=c
        · subst e2
          rw [hcH] at hk
          cases hk
          exact y2 k 1 1 (fun _=>.ref (.agg cs) 0) b' z' (List.getElem?_set_self hcl) hρ o ho
        · exact y2 k sz' n' f' b' z' (by rw [List.getElem?_set_ne (Ne.symm e2),List.getElem?_set_ne (Ne.symm e)];exact hk) hρ o ho
    · refine y3 k mm b' z' ?_ hρ
      by_cases e:k=b
      · subst e;rw [hb] at hk;cases hk
      · by_cases e2:k=c
        · subst e2;rw [hcH] at hk;cases hk
        · rw [List.getElem?_set_ne (Ne.symm e2),List.getElem?_set_ne (Ne.symm e)];exact hk
theorem aw_bad {P:Program}{r:Option Nat}{m nt b sz n i:Nat}{f:Nat→V}{c:Code}{Q:Post}{env:Env}{H:Heap}(hH:H[b]?=some (.arr sz n f)) (hi:i<n) (hs:(f i).cells.length≠sz):AW P r m nt c Q env H:=.mk fun X I ρ a w _ hst=>absurd (hst.2.1.size _ _ _ _ hH i hi) hs
theorem bq3k {P:Program}{env:Env}{H:Heap}{R Rp:V→Heap→Prop}{a1 a2 a3 b1 b2 b3:Nat}{v1 v2 v3:V}{T1 T2 T3:TypeId}{d1 d2 d3:TyD}{f1 f2 f3:Nat→V}(hT1:TyIs P T1 d1) (hT2:TyIs P T2 d2) (hT3:TyIs P T3 d3)
    (l1:look env a1=some (.ptr 1 b1 0 0)) (l2:look env a2=some (.ptr 1 b2 0 0)) (l3:look env a3=some (.ptr 1 b3 0 0)) (g1:H[b1]?=some (.arr 1 1 f1)) (g2:H[b2]?=some (.arr 1 1 f2)) (g3:H[b3]?=some (.arr 1 1 f3))
    (p1:partV d1.tk.agg (f1 0).cells 0 d1.size=some v1) (p2:partV d2.tk.agg (f2 0).cells 0 d2.size=some v2) (p3:partV d3.tk.agg (f3 0).cells 0 d3.size=some v3) (hR:R (.tup [v1,v2,v3]) H):BodyQ P #[.cell a1 T1,.cell a2 T2,.cell a3 T3] R Rp .ret env H :=
  ⟨_,.inr (.inr (.inr (.inl ⟨_,_,_,_,_,_,rfl,⟨d1,1,b1,0,0,1,f1,hT1,l1,g1,Nat.one_pos,p1⟩,⟨d2,1,b2,0,0,1,f2,hT2,l2,g2,Nat.one_pos,p2⟩,⟨d3,1,b3,0,0,1,f3,hT3,l3,g3,Nat.one_pos,p3⟩,rfl⟩))),hR⟩
def hseC (h:Hse):List V:=[vi h.per,vi h.day,vi h.store.life,encItems h.store.items,encPrints h.store.prints,encDsns h.designs,encLics h.lics,encOrders h.orders,encInts h.made,encInts h.fors]
theorem growths_p (h:Hse):PCalls Tryz.prog 57 [.ref h.enc 0] (·=.fn (.func 101) [] [.ref (.ref h.enc 0) 0]):=by
  refine pcalls_of_aw Tryz.func57 rfl (dc rfl) ?_
  (repeat' (first|(refine ar_isq ?_;refine zq ?_)|refine zst ?_|refine zco ?_ ?_|exact zd|(refine fun (hg:(_:Prop))=>?_;(try replace hg:=HG.out hg);(try dsimp only at hg);(try (have _h:True:=hg;clear _h hg)))))
  (refine aw_mono_r (env':=[(2,.fn (.func 101) [] [.ref (.ref h.enc 0) 0])]) (H':=[]) ?_ ?_;(focus ((refine sub_to [] [0] rfl ?_ ?_<;>(repeat' (first|exact trivial|refine ⟨⟨_,rfl,?_⟩,?_⟩|refine vs1 ?_ ?_|refine vs2 ?_ ?_|refine vs3 ?_|refine vs4 ?_ ?_|refine ⟨.inl ⟨_,_,rfl,rfl,?_⟩,?_⟩|exact ⟨.inr ⟨rfl,rfl⟩,trivial⟩|refine ⟨.inr ⟨rfl,rfl⟩,?_⟩|(intro _ _)|exact vz1|(exact fn1_sub (frzPtr' (by simp) rfl (by omega) rfl rfl))|exact vz2|fail)));done)))
  (refine aw_ret ?_;(repeat (first|refine ret_then ?_|refine ret_block ?_));refine bq1 rfl ⟨?_,rfl⟩)
  rfl
def vnp:V:=.s (.pointer none)
def inPrints (h:Hse) (n:Int):Prop:=0≤n∧n<(h.store.prints.length:Int)
instance (h:Hse) (n:Int):Decidable (inPrints h n):=by unfold inPrints;infer_instance
open Classical in
noncomputable def askE (h:Hse) (n:Int):Int:=if HValid h then if inPrints h n then 0 else 6 else 100
theorem askE_ok {h:Hse}{n:Int}(hV:HValid h) (hn:inPrints h n):askE h n=0:=by unfold askE;rw [if_pos hV,if_pos hn]
theorem askE_none {h:Hse}{n:Int}(hV:HValid h) (hn:¬ inPrints h n):askE h n=6:=by unfold askE;rw [if_pos hV,if_neg hn]
theorem askE_bad {h:Hse}{n:Int}(hV:¬ HValid h):askE h n=100:=by unfold askE;rw [if_neg hV]
def FindR (h:Hse) (n:Int) (v:V):Prop:=(HValid h∧inPrints h n∧v=.tup [.ref h.enc 0,vi (growF h n.toNat),vi 0])∨(¬ (HValid h∧inPrints h n)∧v=.tup [vnp,vi 0,vi (askE h n)])
def findG (n:Int) (h:Hse) (k:Nat):Heap:=[.arr 1 1 (fun _=>vi n),.arr 1 1 (fun _=>vnp),.arr 1 1 (fun _=>vi 0),.arr 1 1 (fun _=>vi 0),.dead,.dead,.arr 1 1 (fun _=>if (k:Int)≤n∨n<0 then .ref h.enc 0 else .agg [])]
theorem findG_at {n:Int}{h:Hse}{k:Nat}(hk:(k:Int)≤n∨n<0):findG n h k=[.arr 1 1 (fun _=>vi n),.arr 1 1 (fun _=>vnp),.arr 1 1 (fun _=>vi 0),.arr 1 1 (fun _=>vi 0),.dead,.dead,.arr 1 1 (fun _=>.ref h.enc 0)]:=by unfold findG;rw [if_pos hk]
theorem find_p (h:Hse) (n:Int) (hs:HSmall h) (hw:StOk h.store):PCalls Tryz.prog 54 [h.enc,vi n] (FindR h n):=by
  refine pcalls_of_aw Tryz.func54 rfl (dc rfl) ?_
  (repeat' (first|(refine ar_isq ?_;refine zq ?_)|((refine ar_gcall0 fn43 rfl rfl [h.enc] ⟨.closed rfl,trivial⟩ (hvalid_p h hs hw) (dc rfl) ?_ (fun _ _ h=>h.elim);rintro _ _ (⟨hv,rfl,m,ht,rfl⟩|⟨hv,rfl,rfl⟩)<;>(try rw [shoB_ren])))|refine zst ?_|refine zco ?_ ?_|exact zd|(refine fun (hg:(_:Prop))=>?_;(try replace hg:=HG.out hg);(try dsimp only at hg);(try (have _h:True:=hg;clear _h hg)))))
  · (refine ar_sub_l (env':=[(3,.ptr 1 0 0 0),(4,.ptr 1 1 0 0),(5,.ptr 1 2 0 0),(6,.ptr 1 3 0 0),(7,.ptr 1 6 0 0),(18,.ptr 11 4 0 0)]) (H':=[.arr 1 1 (fun _=>vi n),.arr 1 1 (fun _=>vnp),.arr 1 1 (fun _=>vi 0),.arr 1 1 (fun _=>vi 0),.arr 11 1 (fun _=>.agg (hseC h++[.map 5])),mapE Tal.enc m,.arr 1 1 (fun _=>.ptr 11 4 0 0)]) ?_ ?_;(focus ((refine sub_to [some 1,some 2,some 3,some 4,some 5,some 13,some 14] [6,7,8,9,10,11,12] rfl ?_ ?_<;>(repeat' (first|exact trivial|refine ⟨⟨_,rfl,?_⟩,?_⟩|refine vs1 ?_ ?_|refine vs2 ?_ ?_|refine vs3 ?_|refine vs4 ?_ ?_|refine ⟨.inl ⟨_,_,rfl,rfl,?_⟩,?_⟩|exact ⟨.inr ⟨rfl,rfl⟩,trivial⟩|refine ⟨.inr ⟨rfl,rfl⟩,?_⟩|(intro _ _)|exact vz1|(first|exact (VSub.ptr (b:=5) rfl:VSub _ _ _ (.ptr 11 5 0 0) (.ptr 11 4 0 0))|refine ⟨bsub_mapE rfl rfl (fun _=>rfl),?_⟩|exact VSub.aggL ⟨.closed rfl,.closed rfl,.closed rfl,frzLB (by first|decide|(simp;done)) rfl (fun _=>rfl) rfl,frzLB (by first|decide|(simp;done)) rfl (fun _=>rfl) rfl,frzLB (by first|decide|(simp;done)) rfl (fun _=>rfl) rfl,frzLB (by first|decide|(simp;done)) rfl (fun _=>rfl) rfl,frzLB (by first|decide|(simp;done)) rfl (fun _=>rfl) rfl,frzLB (by first|decide|(simp;done)) rfl (fun _=>rfl) rfl,frzLB (by first|decide|(simp;done)) rfl (fun _=>rfl) rfl,.map rfl,trivial⟩)|exact vz2|fail)));done)))
    refine ar_subk_l (sub_preC (t:=18) (b:=4) (c:=6) (hseC h) [.map 5] rfl rfl rfl (by omega) rfl rfl) ?_
    (repeat' (first|(refine ar_isq ?_;refine zq ?_)|(refine zpvD fn57 (growths_p h) ?_)|refine zst ?_|refine zco ?_ ?_|exact zd|(refine fun (hg:(_:Prop))=>?_;(try replace hg:=HG.out hg);(try dsimp only at hg);(try (have _h:True:=hg;clear _h hg)))))
    refine aw_rangeX (findG n h) _ rfl rfl fn101 (Im.growths_iter h hv) (fun _ _=>rfl) (by decide) (fun k _=>rfl) ?maps ?start ?round ?done
    case maps=>intro k j ms;match j with|0|1|2|3|4|5|6=>simp [findG]|j+7=>simp [findG]
    case start =>
      rw [findG_at (by omega)]
      (exact zscD [some 0,some 1,some 2,some 3,some 4,some 5,some 6] [])
    case round =>
      intro k lp hk
      by_cases hin:(k:Int)≤n∨n<0
      · have hG:findG n h k=[.arr 1 1 (fun _=>vi n),.arr 1 1 (fun _=>vnp),.arr 1 1 (fun _=>vi 0),.arr 1 1 (fun _=>vi 0),.dead,.dead,.arr 1 1 (fun _=>.ref h.enc 0)]:=by unfold findG;rw [if_pos hin]
        rw [hG]
        (repeat' (first|(refine ar_isq ?_;refine zq ?_)|refine zst ?_|refine zco ?_ ?_|exact zd|(refine fun (hg:(_:Prop))=>?_;(try replace hg:=HG.out hg);(try dsimp only at hg);(try (have _h:True:=hg;clear _h hg)))))
        · obtain rfl:n=(k:Int):=by omega
          refine aw_ret ?_
          (repeat (first|refine ret_then ?_|refine ret_block ?_))
          refine ⟨[.arr 1 1 (fun _=>vi k),.arr 1 1 (fun _=>.ref h.enc 0),.arr 1 1 (fun _=>vi (growF h k)),.arr 1 1 (fun _=>vi 0),.dead,.dead,.arr 1 1 (fun _=>.ref h.enc 0)],?_,?_,?_⟩
          · intro j ms;match j with|0|1|2|3|4|5|6=>simp|j+7=>simp
          · (exact zscD [some 0,some 1,some 2,some 3,some 4,some 5,some 6] [])
          · (repeat (first|refine ret_then ?_|refine ret_block ?_))
            exact bq3k (ty rfl) (ty rfl) (ty rfl) rfl rfl rfl rfl rfl rfl rfl rfl rfl ⟨.inl ⟨hv,⟨by omega,by omega⟩,by rw [Int.toNat_natCast]⟩,rfl⟩
        · refine (show SubOf _ _ _ _ _ _ from ?_)
          rw [findG_at (by omega)]
          (exact zscD [some 0,some 1,some 2,some 3,some 4,some 5,some 6] [])
      · exact aw_bad (b:=6) (i:=0) rfl Nat.one_pos (by rw [if_neg hin];decide)
    case done =>
      by_cases hin:(h.store.prints.length:Int)≤n∨n<0
      · have hG:findG n h h.store.prints.length=[.arr 1 1 (fun _=>vi n),.arr 1 1 (fun _=>vnp),.arr 1 1 (fun _=>vi 0),.arr 1 1 (fun _=>vi 0),.dead,.dead,.arr 1 1 (fun _=>.ref h.enc 0)]:=by unfold findG;rw [if_pos hin]
        rw [hG]
        have hno:¬ inPrints h n:=by unfold inPrints;omega
        (repeat' (first|(refine ar_isq ?_;refine zq ?_)|refine zst ?_|refine zco ?_ ?_|exact zd|(refine fun (hg:(_:Prop))=>?_;(try replace hg:=HG.out hg);(try dsimp only at hg);(try (have _h:True:=hg;clear _h hg)))))
        refine aw_ret ?_
        (repeat (first|refine ret_then ?_|refine ret_block ?_))
        exact bq3k (ty rfl) (ty rfl) (ty rfl) rfl rfl rfl rfl rfl rfl rfl rfl rfl ⟨.inr ⟨fun h=>hno h.2,by rw [askE_none hv hno];rfl⟩,rfl⟩
      · refine (show AW Tryz.prog none 0 _ _ _ _ _ from ?_)
        exact aw_bad (b:=6) (i:=0) rfl Nat.one_pos (by rw [if_neg hin];decide)
  · refine aw_ret ?_
    (repeat (first|refine ret_then ?_|refine ret_block ?_))
    exact bq3k (ty rfl) (ty rfl) (ty rfl) rfl rfl rfl rfl rfl rfl rfl rfl rfl ⟨.inr ⟨fun h=>hv h.1,by rw [askE_bad hv];rfl⟩,rfl⟩
def dproofF (d:Dsn) (g:Int):List Bool:=proofF d.sheet d.band g true
def dsnAt (h:Hse) (n:Int):Dsn:=el h.designs n.toNat
def ordAt (h:Hse) (n:Int):Ordr:=el h.orders n.toNat
def forAt (h:Hse) (n:Int):Int:=el h.fors n.toNat
structure Org where
  order:Int
  client:Int
  design:Int
  line:List Int
  grow:Int
def Org.enc (o:Org):V:=.agg [vi o.order,vi o.client,vi o.design,encInts o.line,vi o.grow]
def orgF (h:Hse) (n:Int):Org:=⟨forAt h n,(ordAt h (forAt h n)).client,(ordAt h (forAt h n)).design,lineF h.store (el h.store.prints n.toNat).plate,growF h n.toNat⟩
def noOrg:Org:=⟨0,0,0,[],0⟩
noncomputable def traceF (h:Hse) (n:Int):Org:=if askE h n=0 then orgF h n else noOrg
noncomputable def imageF (h:Hse) (n:Int):List Bool:=if askE h n=0 then dproofF (dsnAt h (ordAt h (forAt h n)).design) (growF h n.toNat) else []
open Classical in
noncomputable def repE (h:Hse) (n:Int):Int:=if HValid h then if inOrders h n then 0 else 6 else 100
theorem repE_ok {h:Hse}{n:Int}(hV:HValid h) (hn:inOrders h n):repE h n=0:=by unfold repE;rw [if_pos hV,if_pos hn]
theorem repE_none {h:Hse}{n:Int}(hV:HValid h) (hn:¬ inOrders h n):repE h n=6:=by unfold repE;rw [if_pos hV,if_neg hn]
theorem repE_bad {h:Hse}{n:Int}(hV:¬ HValid h):repE h n=100:=by unfold repE;rw [if_neg hV]
noncomputable def repA (h:Hse) (n:Int):Int:=if repE h n=0 then doneF h n 0+doneF h n 1 else 0
noncomputable def repB (h:Hse) (n:Int):Int:=if repE h n=0 then doneF h n 2 else 0
noncomputable def repC (h:Hse) (n:Int):Int:=if repE h n=0 then (ordAt h n).need-(doneF h n 0+doneF h n 1) else 0
noncomputable def repV (h:Hse) (n:Int):V:=.tup [vi (repA h n),vi (repB h n),vi (repC h n),vi (repE h n)]
theorem repV_ok {h:Hse}{n:Int}(he:repE h n=0):repV h n=.tup [vi (doneF h n 0+doneF h n 1),vi (doneF h n 2),vi ((ordAt h n).need-(doneF h n 0+doneF h n 1)),vi 0]:=by unfold repV repA repB repC;rw [if_pos he,if_pos he,if_pos he,he]
theorem repV_no {h:Hse}{n e:Int}(he:repE h n=e) (h0:e≠0):repV h n=.tup [vi 0,vi 0,vi 0,vi e]:=by unfold repV repA repB repC;rw [he,if_neg h0,if_neg h0,if_neg h0]
theorem askE_cases {h:Hse}{n:Int}(hno:¬ (HValid h∧inPrints h n)):askE h n=6∨askE h n=100:=by
  by_cases hV:HValid h
  · exact .inl (askE_none hV fun hn=>hno ⟨hV,hn⟩)
  · exact .inr (askE_bad hV)
section
variable (h:Hse)
theorem find_yes (hs:HSmall h) (hw:StOk h.store) {k:Nat}(hV:HValid h) (hk:k<h.store.prints.length):PCalls Tryz.prog 54 [h.enc,vi k] (·=.tup [.ref h.enc 0,vi (growF h k),vi 0]) :=
  (find_p h k hs hw).mono fun v hR=>by
    rcases hR with ⟨_,_,rfl⟩|⟨hn,_⟩
    · rw [Int.toNat_natCast]
    · exact absurd ⟨hV,⟨by omega,by omega⟩⟩ hn
theorem find_no (hs:HSmall h) (hw:StOk h.store) {n:Int}(hno:¬ (HValid h∧inPrints h n)):PCalls Tryz.prog 54 [h.enc,vi n] (·=.tup [vnp,vi 0,vi (askE h n)]) :=
  (find_p h n hs hw).mono fun v hR=>by
    rcases hR with ⟨h1,h2,_⟩|⟨_,rfl⟩
    · exact absurd ⟨h1,h2⟩ hno
    · rfl
theorem proof_p (hs:HSmall h) {i:Int}(hi:inDesigns h i) (g:Int):PCalls Tryz.prog 55 [.ref h.enc 0,vi i,vi g] (·=encBools (dproofF (dsnAt h i) g)):=by
  unfold HSmall at hs
  unfold inDesigns at hi
  refine pcalls_of_aw Tryz.func55 rfl (dc rfl) ?_
  (repeat' (first|(refine ar_isq ?_;refine zq ?_)|refine zil (j:=i.toNat) ?_|refine zis (j:=i.toNat) ?_|refine zit (j:=i.toNat) ?_|(refine zpvD fn30 (lProof_p (dsnAt h i).sheet (dsnAt h i).band g true) ?_)|refine zst ?_|refine zco ?_ ?_|exact zd|(refine fun (hg:(_:Prop))=>?_;(try replace hg:=HG.out hg);(try dsimp only at hg);(try (have _h:True:=hg;clear _h hg)))))
  (refine aw_ret ?_;(repeat (first|refine ret_then ?_|refine ret_block ?_));refine bq1 rfl ⟨?_,rfl⟩)
  rfl
theorem hTrace_p (n:Int) (hs:HSmall h) (hw:StOk h.store):PCalls Tryz.prog 27 [h.enc,vi n] (·=.tup [(traceF h n).enc,vi (askE h n)]):=by
  by_cases hq:HValid h∧inPrints h n
  · obtain ⟨hV,hn⟩:=hq
    obtain ⟨k,rfl⟩:=Int.eq_ofNat_of_zero_le hn.1
    have hk:k<h.store.prints.length:=by have:=hn.2;omega
    have hf:=find_yes h hs hw hV hk
    have hF:=hV.forss
    have ho:=(hV.fors k (by omega)).1
    unfold inOrders at ho
    unfold HSmall at hs
    have he:=askE_ok hV hn
    rw [he]
    have ht:traceF h k=orgF h k:=by unfold traceF;rw [if_pos he]
    rw [ht]
    refine pcalls_of_aw Tryz.func27 rfl (dc rfl) ?_
    (repeat' (first|(refine ar_isq ?_;refine zq ?_)|refine zil (j:=k) ?_|refine zis (j:=k) ?_|refine zit (j:=k) ?_|refine zil (j:=(el h.fors k).toNat) ?_|refine zis (j:=(el h.fors k).toNat) ?_|refine zit (j:=(el h.fors k).toNat) ?_|(refine zbt ?_)|(refine zpvD fn54 (hf) ?_)|(refine zpvD fn31 (pLine_p h.store (el h.store.prints k).plate) ?_)|refine zst ?_|refine aw_drawn (id:=6) [(0,0),(1,0),(2,0),(3,0),(4,0),(5,0),(6,0),(7,0),(8,0),(9,0),(10,0),(11,0),(12,0),(13,0),(14,0),(15,2),(16,0),(17,0),(18,0),(19,0),(20,0)] mixed (by kernel_rfl) ?_|refine aw_drawn (id:=6) [(0,0),(1,0),(2,0),(3,0),(4,0),(5,0),(6,0),(7,0),(8,0),(9,0),(10,0),(11,0),(12,0),(13,0),(14,0),(15,1),(16,0),(17,0),(18,0),(19,0),(20,0)] mixed (by kernel_rfl) ?_|refine zco ?_ ?_|exact zd|(refine fun (hg:(_:Prop))=>?_;(try replace hg:=HG.out hg);(try dsimp only at hg);(try (have _h:True:=hg;clear _h hg)))))
    (refine aw_mono_r (env':=[(4,.ptr 5 0 0 0),(5,vi 0)]) (H':=[.arr 5 1 (fun _=>(orgF h k).enc)]) ?_ ?_;(focus ((refine sub_to [some 1] [] rfl ?_ ?_<;>(repeat' (first|exact trivial|refine ⟨⟨_,rfl,?_⟩,?_⟩|refine vs1 ?_ ?_|refine vs2 ?_ ?_|refine vs3 ?_|refine vs4 ?_ ?_|refine ⟨.inl ⟨_,_,rfl,rfl,?_⟩,?_⟩|exact ⟨.inr ⟨rfl,rfl⟩,trivial⟩|refine ⟨.inr ⟨rfl,rfl⟩,?_⟩|(intro _ _)|exact vz1|(exact .of_eq (by unfold orgF forAt ordAt Org.enc;rw [Int.toNat_natCast];rfl) rfl)|exact vz2|fail)));done)))
    refine aw_ret ?_
    (repeat (first|refine ret_then ?_|refine ret_block ?_))
    exact bq2c (f:=fun _=>(orgF h k).enc) (v:=(orgF h k).enc) (ty rfl) rfl rfl Nat.one_pos rfl rfl ⟨rfl,rfl⟩
  · have hf:=find_no h hs hw hq
    have he:=askE_cases hq
    have ht:traceF h n=noOrg:=by unfold traceF;rw [if_neg (by omega)]
    rw [ht]
    refine pcalls_of_aw Tryz.func27 rfl (dc rfl) ?_
    (repeat' (first|(refine ar_isq ?_;refine zq ?_)|(refine zbt ?_)|(refine zpvD fn54 (hf) ?_)|refine zst ?_|refine aw_drawn (id:=6) [(0,0),(1,0),(2,0),(3,0),(4,0),(5,0),(6,0),(7,0),(8,0),(9,0),(10,0),(11,0),(12,0),(13,0),(14,0),(15,2),(16,0),(17,0),(18,0),(19,0),(20,0)] mixed (by kernel_rfl) ?_|refine aw_drawn (id:=6) [(0,0),(1,0),(2,0),(3,0),(4,0),(5,0),(6,0),(7,0),(8,0),(9,0),(10,0),(11,0),(12,0),(13,0),(14,0),(15,1),(16,0),(17,0),(18,0),(19,0),(20,0)] mixed (by kernel_rfl) ?_|refine zco ?_ ?_|exact zd|(refine fun (hg:(_:Prop))=>?_;(try replace hg:=HG.out hg);(try dsimp only at hg);(try (have _h:True:=hg;clear _h hg)))))
    all_goals first
      | (exfalso;omega)
      | ((refine aw_mono_r (env':=[(4,.ptr 5 0 0 0),(5,vi (askE h n))]) (H':=[.arr 5 1 (fun _=>noOrg.enc)]) ?_ ?_;(focus (exact zscD [some 1] [])))
         refine aw_ret ?_
         (repeat (first|refine ret_then ?_|refine ret_block ?_))
         exact bq2c (f:=fun _=>noOrg.enc) (v:=noOrg.enc) (ty rfl) rfl rfl Nat.one_pos rfl rfl ⟨rfl,rfl⟩)
      | trace_state
theorem hImage_p (n:Int) (hs:HSmall h) (hw:StOk h.store):PCalls Tryz.prog 26 [h.enc,vi n] (·=.tup [encBools (imageF h n),vi (askE h n)]):=by
  by_cases hq:HValid h∧inPrints h n
  · obtain ⟨hV,hn⟩:=hq
    obtain ⟨k,rfl⟩:=Int.eq_ofNat_of_zero_le hn.1
    have hk:k<h.store.prints.length:=by have:=hn.2;omega
    have hf:=find_yes h hs hw hV hk
    have hF:=hV.forss
    have ho:=(hV.fors k (by omega)).1
    have hd:=(hV.orders (el h.fors k).toNat (by unfold inOrders at ho;omega)).2.1
    have hp:=proof_p h hs hd (growF h k)
    unfold inOrders at ho
    unfold HSmall at hs
    have he:=askE_ok hV hn
    rw [he]
    have ht:imageF h k=dproofF (dsnAt h (ordAt h (forAt h k)).design) (growF h k):=by unfold imageF;rw [if_pos he,Int.toNat_natCast]
    rw [ht]
    refine pcalls_of_aw Tryz.func26 rfl (dc rfl) ?_
    (repeat' (first|(refine ar_isq ?_;refine zq ?_)|refine zil (j:=k) ?_|refine zis (j:=k) ?_|refine zit (j:=k) ?_|refine zil (j:=(el h.fors k).toNat) ?_|refine zis (j:=(el h.fors k).toNat) ?_|refine zit (j:=(el h.fors k).toNat) ?_|(refine zpvD fn54 (hf) ?_)|(refine zpvD fn55 (hp) ?_)|refine zst ?_|refine aw_drawn (id:=4) [(0,0),(1,0),(2,0),(3,0),(4,0),(5,0),(6,0),(7,0),(8,0),(9,0),(10,0),(11,0),(12,0),(13,0),(14,0),(15,0),(16,0),(17,0),(18,1),(19,0),(20,0)] mixed (by kernel_rfl) ?_|refine aw_drawn (id:=4) [(0,0),(1,0),(2,0),(3,0),(4,0),(5,0),(6,0),(7,0),(8,0),(9,0),(10,0),(11,0),(12,0),(13,0),(14,0),(15,0),(16,0),(17,0),(18,2),(19,0),(20,0)] mixed (by kernel_rfl) ?_|refine zco ?_ ?_|exact zd|(refine fun (hg:(_:Prop))=>?_;(try replace hg:=HG.out hg);(try dsimp only at hg);(try (have _h:True:=hg;clear _h hg)))))
    (refine aw_ret ?_;(repeat (first|refine ret_then ?_|refine ret_block ?_));refine bq2 rfl rfl ⟨?_,rfl⟩)
    unfold forAt ordAt
    rw [Int.toNat_natCast]
    rfl
  · have hf:=find_no h hs hw hq
    have he:=askE_cases hq
    have ht:imageF h n=[]:=by unfold imageF;rw [if_neg (by omega)]
    rw [ht]
    refine pcalls_of_aw Tryz.func26 rfl (dc rfl) ?_
    (repeat' (first|(refine ar_isq ?_;refine zq ?_)|(refine zpvD fn54 (hf) ?_)|refine zst ?_|refine aw_drawn (id:=4) [(0,0),(1,0),(2,0),(3,0),(4,0),(5,0),(6,0),(7,0),(8,0),(9,0),(10,0),(11,0),(12,0),(13,0),(14,0),(15,0),(16,0),(17,0),(18,1),(19,0),(20,0)] mixed (by kernel_rfl) ?_|refine aw_drawn (id:=4) [(0,0),(1,0),(2,0),(3,0),(4,0),(5,0),(6,0),(7,0),(8,0),(9,0),(10,0),(11,0),(12,0),(13,0),(14,0),(15,0),(16,0),(17,0),(18,2),(19,0),(20,0)] mixed (by kernel_rfl) ?_|refine zco ?_ ?_|exact zd|(refine fun (hg:(_:Prop))=>?_;(try replace hg:=HG.out hg);(try dsimp only at hg);(try (have _h:True:=hg;clear _h hg)))))
    all_goals first
      | (exfalso;omega)
      | ((refine aw_ret ?_;(repeat (first|refine ret_then ?_|refine ret_block ?_));refine bq2 rfl rfl ⟨?_,rfl⟩);rfl)
      | ((refine aw_mono_r (env':=[(4,encBools []),(5,vi (askE h n))]) (H':=[]) ?_ ?_;(focus (exact zsbD [] [])));(refine aw_ret ?_;(repeat (first|refine ret_then ?_|refine ret_block ?_));refine bq2 rfl rfl ⟨?_,rfl⟩);rfl)
      | trace_state
theorem hReport_p (n:Int) (hs:HSmall h) (hw:StOk h.store):PCalls Tryz.prog 25 [h.enc,vi n] (·=repV h n):=by
  have hr:∀ st,0≤doneF h n st∧doneF h n st≤h.fors.length:=fun st=>cntB_bnd _
  have h0:=hr 0
  have h1:=hr 1
  have h2:=hr 2
  by_cases hq:HValid h∧inOrders h n
  · obtain ⟨hV,hn⟩:=hq
    have hp:=order_p h n hs
    rw [decide_eq_true hn] at hp
    have hF:=hV.forss
    have hneed:=(hV.orders n.toNat (by unfold inOrders at hn;omega)).2.2.1
    have he:=repE_ok hV hn
    have ht:=repV_ok he
    rw [ht]
    have hin:=hn
    unfold inOrders at hin
    have hsm:=hs
    unfold HSmall at hsm
    refine pcalls_of_aw Tryz.func25 rfl (dc rfl) ?_
    (repeat' (first|(refine ar_isq ?_;refine zq ?_)|refine zil (j:=n.toNat) ?_|refine zis (j:=n.toNat) ?_|refine zit (j:=n.toNat) ?_|((refine ar_gcall0 fn43 rfl rfl [h.enc] ⟨.closed rfl,trivial⟩ (hvalid_p h hs hw) (dc rfl) ?_ (fun _ _ h=>h.elim);rintro _ _ (⟨hv,rfl,m,hta,rfl⟩|⟨hv,rfl,rfl⟩)<;>(try rw [shoB_ren])<;>(try (exact absurd hV hv))))|((refine ar_read h m hp fn53 (by intros;subst_vars;rfl) ?_;intro _ hv;subst hv))|((refine ar_lookupT ?_ (ty rfl) rfl (ty rfl) rfl (ty rfl) rfl rfl rfl rfl (dc rfl);rw [show Tal.enc (talAt m n)=.agg [vi (doneF h n 0),vi (doneF h n 1),vi (doneF h n 2)] by rw [hta n];rfl]))|refine zia (j:=0) ?_|refine zia (j:=1) ?_|refine zia (j:=2) ?_|refine zst ?_|refine aw_drawn (id:=8) [(0,0),(1,0),(2,0),(3,0),(4,0),(5,0),(6,0),(7,0),(8,0),(9,0),(10,0),(11,0),(12,0),(13,0),(14,0),(15,0),(16,0),(17,0)] mixed (by kernel_rfl) ?_|refine zco ?_ ?_|exact zd|(refine fun (hg:(_:Prop))=>?_;(try replace hg:=HG.out hg);(try dsimp only at hg);(try (have _h:True:=hg;clear _h hg)))))
    all_goals first
      | (exfalso;omega)
      | ((refine aw_ret ?_;(repeat (first|refine ret_then ?_|refine ret_block ?_));refine bq4 rfl rfl rfl rfl ⟨?_,rfl⟩);rfl)
      | trace_state
  · by_cases hV:HValid h
    · have hn:¬ inOrders h n:=fun hn=>hq ⟨hV,hn⟩
      have hp:=order_p h n hs
      rw [decide_eq_false hn] at hp
      have he:=repE_none hV hn
      have ht:=repV_no he (by decide)
      rw [ht]
      refine pcalls_of_aw Tryz.func25 rfl (dc rfl) ?_
      (repeat' (first|(refine ar_isq ?_;refine zq ?_)|((refine ar_gcall0 fn43 rfl rfl [h.enc] ⟨.closed rfl,trivial⟩ (hvalid_p h hs hw) (dc rfl) ?_ (fun _ _ h=>h.elim);rintro _ _ (⟨hv,rfl,m,hta,rfl⟩|⟨hv,rfl,rfl⟩)<;>(try rw [shoB_ren])<;>(try (exact absurd hV hv))))|((refine ar_read h m hp fn53 (by intros;subst_vars;rfl) ?_;intro _ hv;subst hv))|refine zst ?_|refine aw_drawn (id:=8) [(0,0),(1,0),(2,0),(3,0),(4,0),(5,0),(6,0),(7,0),(8,0),(9,0),(10,0),(11,0),(12,0),(13,0),(14,0),(15,0),(16,0),(17,0)] mixed (by kernel_rfl) ?_|refine zco ?_ ?_|exact zd|(refine fun (hg:(_:Prop))=>?_;(try replace hg:=HG.out hg);(try dsimp only at hg);(try (have _h:True:=hg;clear _h hg)))))
      all_goals first
        | ((refine aw_ret ?_;(repeat (first|refine ret_then ?_|refine ret_block ?_));refine bq4 rfl rfl rfl rfl ⟨?_,rfl⟩);rfl)
        | trace_state
    · have he:=repE_bad (n:=n) hV
      have ht:=repV_no he (by decide)
      rw [ht]
      refine pcalls_of_aw Tryz.func25 rfl (dc rfl) ?_
      (repeat' (first|(refine ar_isq ?_;refine zq ?_)|((refine ar_gcall0 fn43 rfl rfl [h.enc] ⟨.closed rfl,trivial⟩ (hvalid_p h hs hw) (dc rfl) ?_ (fun _ _ h=>h.elim);rintro _ _ (⟨hv,rfl,m,hta,rfl⟩|⟨hv,rfl,rfl⟩)<;>(try (exact absurd hv hV))))|refine zst ?_|refine aw_drawn (id:=8) [(0,0),(1,0),(2,0),(3,0),(4,0),(5,0),(6,0),(7,0),(8,0),(9,0),(10,0),(11,0),(12,0),(13,0),(14,0),(15,0),(16,0),(17,0)] mixed (by kernel_rfl) ?_|refine zco ?_ ?_|exact zd|(refine fun (hg:(_:Prop))=>?_;(try replace hg:=HG.out hg);(try dsimp only at hg);(try (have _h:True:=hg;clear _h hg)))))
      all_goals first
        | ((refine aw_ret ?_;(repeat (first|refine ret_then ?_|refine ret_block ?_));refine bq4 rfl rfl rfl rfl ⟨?_,rfl⟩);rfl)
        | trace_state
end
end Go.Proofs.YtbilpbabdgfblaaGreat
