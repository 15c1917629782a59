/- Parts of the proof: a layer of values over the model, and contracts of functions. No condition. -/
import Derived.Test.YtbilpbabdgfblaaGreatKHc191
import Derived.Test.YtbilpbabdgfblaaGreatKHc192
set_option maxHeartbeats 16000000
set_option linter.unusedSimpArgs false
set_option linter.unusedVariables false
namespace Go.Proofs.YtbilpbabdgfblaaGreat
open Go.RowKit
theorem hse0_small {per life:Int}:HSmall (hse0 per life):=by
  unfold HSmall hse0
  simp
theorem hse0_st {per life:Int}:StOk (hse0 per life).store:=fun j hj=>by simp [hse0] at hj
theorem bq3h {F:Hse}{x e:Int}{R Rp:V→Heap→Prop}{L:Heap}(hR:R (.tup [F.enc,vi x,vi e]) (.arr 10 1 (fun _=>F.enc)::L)):BodyQ Tryz.prog #[.cell 6 33,.tmp 7,.tmp 8] R Rp .ret [(6,.ptr 10 0 0 0),(7,vi x),(8,vi e)] (.arr 10 1 (fun _=>F.enc)::L) :=
  bq3c (f:=fun _=>F.enc) (v:=F.enc) (ty rfl) rfl rfl Nat.one_pos rfl rfl rfl hR
theorem hplayR_bad {per life:Int}{bk:List Job}{x e:Int}(h:hplayX per life bk=(x,e)) (he:e≠0):V.tup [noHse.enc,vi x,vi e]=.tup [(hplayF per life bk).enc,vi (hplayX per life bk).1,vi (hplayX per life bk).2]:=by rw [hplayF_bad (by rw [h];exact he),h]
theorem hplayR_ok {per life:Int}{bk:List Job}(h:hplayX per life bk=(0,0)):V.tup [(hAt per life bk bk.length).enc,vi 0,vi 0]=.tup [(hplayF per life bk).enc,vi (hplayX per life bk).1,vi (hplayX per life bk).2]:=by rw [hplayF_ok (by rw [h]),h]
theorem hPlay_p (per life:Int) (bk:List Job) (hu:∀ j,j<bk.length→u8ok (el bk j).kind∧u8ok (el bk j).act.kind):PCalls Tryz.prog 14 [vi per,vi life,encJobs bk] (·=.tup [(hplayF per life bk).enc,vi (hplayX per life bk).1,vi (hplayX per life bk).2]):=by
  refine pcalls_of_aw Tryz.func14 rfl (dc rfl) ?_
  (repeat' (first|(refine ar_isq ?_;refine zq ?_)|(refine zbt ?_)|((refine ar_gcall0 fn43 rfl rfl [(hse0 per life).enc] ⟨.aggL ⟨.closed rfl,.closed rfl,.closed rfl,.nilList,.nilList,.nilList,.nilList,.nilList,.nilList,.nilList,trivial⟩,trivial⟩ (hvalid_p (hse0 per life) hse0_small hse0_st) (dc rfl) ?_ (fun _ _ h=>h.elim);rintro _ _ (⟨hv,rfl,m0,ht0,rfl⟩|⟨hv,rfl,rfl⟩)<;>(try rw [shoB_ren])))|refine zst ?_|refine zco ?_ ?_|exact zd|(refine fun (hg:(_:Prop))=>?_;(try replace hg:=HG.out hg);(try dsimp only at hg);(try (have _h:True:=hg;clear _h hg)))))
  · (refine aw_mono_r (env':=[(6,.ptr 10 0 0 0),(7,vi 0),(8,vi 4)]) (H':=[.arr 10 1 (fun _=>noHse.enc)]) ?_ ?_;(focus (exact zsc [some 0] [])))
    refine aw_ret ?_;(repeat (first|refine ret_then ?_|refine ret_block ?_));exact bq3h ⟨hplayR_bad (hplayX_many (by omega)) (by decide),rfl⟩
  · have hl:=hvalid0.1 hv
    have hn:¬ 200<bk.length:=by omega
    refine aw_forE bk.length (fun k m=>(∀ q,q<k→hErrAt per life bk q=0)∧TalOk (hAt per life bk k) m) (fun k=>[(6,.ptr 10 9 0 0),(9,.ptr 11 0 0 0),(29,encJobs bk),(30,vi bk.length),(31,vi k)]) (fun k m=>[.arr 11 1 (fun _=>shoV 1 2 3 4 5 6 7 8 (hAt per life bk k)),LB 5 Itm.enc (hAt per life bk k).store.items,LB 2 Prt.enc (hAt per life bk k).store.prints,LB 7 Dsn.enc (hAt per life bk k).designs,LB 4 Lic.enc (hAt per life bk k).lics,LB 4 Ordr.enc (hAt per life bk k).orders,LB 1 vi (hAt per life bk k).made,LB 1 vi (hAt per life bk k).fors,mapE Tal.enc m,.arr 10 1 (fun _=>noHv)]) m0 ⟨fun q hq=>by omega,ht0⟩ ?_ ?_
    · (exact zsc [some 1,some 2,some 3,some 4,some 5,some 6,some 7,some 8,some 9,some 0] [])
    rintro k m hk2 ⟨hb,ht⟩
    have hV:HValid (hAt per life bk k):=hAt_ok hv hb
    by_cases hlt:k<bk.length
    · (repeat' (first|(refine ar_isq ?_;refine zq ?_)|refine zil (j:=k) ?_|refine zis (j:=k) ?_|refine zit (j:=k) ?_|(refine zbt ?_)|((refine ar_hdo (hAt per life bk k) m (el bk k) (hu k hlt).1 (hu k hlt).2 hV ht (fun he m' ht'=>?_) (fun he=>?_)<;>(try (unfold shoF;dsimp only [List.length_cons,List.length_nil,List.cons_append,List.nil_append]))))|refine zst ?_|refine zco ?_ ?_|exact zd|(refine fun (hg:(_:Prop))=>?_;(try replace hg:=HG.out hg);(try dsimp only at hg);(try (have _h:True:=hg;clear _h hg)))))
      · refine (show k<bk.length∧∃ m1,((∀ q,q<k+1→hErrAt per life bk q=0)∧TalOk (hAt per life bk (k+1)) m1)∧SubOf _ _ _ _ _ _ from ⟨hlt,m',⟨fun q hq=>?_,ht'⟩,?_⟩)
        · rcases Nat.lt_succ_iff_lt_or_eq.1 hq with h|rfl
          · exact hb q h
          · exact he
        · (exact zsl [some 0,some 11,some 12,some 13,some 14,some 15,some 16,some 17,some 8,some 9] [])
      · (refine aw_mono_r (env':=[(6,.ptr 10 0 0 0),(7,vi k),(8,vi (hErrAt per life bk k))]) (H':=[.arr 10 1 (fun _=>noHse.enc)]) ?_ ?_;(focus (exact zsc [some 9] [])))
        refine aw_ret ?_;(repeat (first|refine ret_then ?_|refine ret_block ?_));exact bq3h ⟨hplayR_bad (hplayX_bad hn hl hb hlt he) he,rfl⟩
    · obtain rfl:k=bk.length:=by omega
      (repeat' (first|(refine ar_isq ?_;refine zq ?_)|(refine zbt ?_)|refine zst ?_|refine zco ?_ ?_|exact zd|(refine fun (hg:(_:Prop))=>?_;(try replace hg:=HG.out hg);(try dsimp only at hg);(try (have _h:True:=hg;clear _h hg)))))
      (refine aw_mono_r (env':=[(6,.ptr 10 0 0 0),(7,vi 0),(8,vi 0)]) (H':=[.arr 10 1 (fun _=>(hAt per life bk bk.length).enc)]) ?_ ?_;(focus (exact zsc [some 9] [1,2,3,4,5,6,7])))
      refine aw_ret ?_;(repeat (first|refine ret_then ?_|refine ret_block ?_));exact bq3h ⟨hplayR_ok (hplayX_ok hn hl hb),rfl⟩
  · (refine aw_mono_r (env':=[(6,.ptr 10 0 0 0),(7,vi 0),(8,vi 2)]) (H':=[.arr 10 1 (fun _=>noHse.enc)]) ?_ ?_;(focus (exact zsc [some 0] [])))
    refine aw_ret ?_;(repeat (first|refine ret_then ?_|refine ret_block ?_));exact bq3h ⟨hplayR_bad (hplayX_arg (by omega) (fun h=>hv (hvalid0.2 h))) (by decide),rfl⟩
section
variable {P:Program}{r:Option Nat}{m nt:Nat}{Q:Post}{env:Env}{H:Heap}{ops:Array Oper}{l:List Stp}{ty ty2 ty3 T:TypeId}{pos pos2 pos3:String}{after after2 after3:Array Edge}{x y:Operand}
theorem ar_k3 {i i2 j e e2:Nat}{op op2:Op}(h:ARK P r m nt ops Q (.l i ⟨some e,op,ty,pos,after,none⟩ true::.l i2 ⟨some e2,op2,ty2,pos2,after2,none⟩ true::.l j ⟨none,.store T x y,ty3,pos3,after3,none⟩ true::l) env H H) :
    AR P r m nt ops Q (.l i ⟨some e,op,ty,pos,after,none⟩ true::.l i2 ⟨some e2,op2,ty2,pos2,after2,none⟩ true::.l j ⟨none,.store T x y,ty3,pos3,after3,none⟩ true::l) env H:=ar_k h
end
theorem sameInts_p (l:List Int):PCalls Tryz.prog 32 [encInts l,encInts l] (·=vb true):=by
  (refine pcalls_know (fun I us h=>rel_len (rel_arg h (j:=0) rfl)) fun hlen0=>?_)
  refine pcalls_of_aw Tryz.func32 rfl (dc rfl) ?_
  (repeat' (first|(refine ar_isq ?_;refine zq ?_)|refine zst ?_|refine aw_drawn (id:=6) [(0,0),(1,0),(2,0),(3,0),(4,0),(5,0),(6,0),(7,0),(8,0)] mixed (by kernel_rfl) ?_|refine zco ?_ ?_|exact zd|(refine fun (hg:(_:Prop))=>?_;(try replace hg:=HG.out hg);(try dsimp only at hg);(try (have _h:True:=hg;clear _h hg)))))
  refine aw_for l.length (fun _=>True) (fun k=>[(0,encInts l),(1,encInts l),(5,vi k)]) (fun _=>[]) trivial ?_ ?_
  · (exact zsb [] [])
  intro k hk _
  by_cases hlt:k<l.length
  · (repeat' (first|(refine ar_isq ?_;refine zq ?_)|refine zst ?_|refine aw_drawn (id:=6) [(0,0),(1,0),(2,0),(3,0),(4,0),(5,0),(6,0),(7,0),(8,0)] mixed (by kernel_rfl) ?_|refine zco ?_ ?_|exact zd|(refine fun (hg:(_:Prop))=>?_;(try replace hg:=HG.out hg);(try dsimp only at hg);(try (have _h:True:=hg;clear _h hg)))))
    all_goals first
      | (exfalso;omega)
      | ((first|refine loop_next (by omega) ?_ ?_|refine (show _∧_∧SubOf _ _ _ _ _ _ from And.intro (by omega) (And.intro ?_ ?_)));(focus ((trivial);done));(focus (exact zsb [] [])))
      | ((refine aw_ret ?_;(repeat (first|refine ret_then ?_|refine ret_block ?_));refine bq1 rfl ⟨?_,rfl⟩);rfl)
  · (repeat' (first|(refine ar_isq ?_;refine zq ?_)|refine zst ?_|refine aw_drawn (id:=6) [(0,0),(1,0),(2,0),(3,0),(4,0),(5,0),(6,0),(7,0),(8,0)] mixed (by kernel_rfl) ?_|refine zco ?_ ?_|exact zd|(refine fun (hg:(_:Prop))=>?_;(try replace hg:=HG.out hg);(try dsimp only at hg);(try (have _h:True:=hg;clear _h hg)))))
    all_goals first
      | (exfalso;omega)
      | ((refine aw_ret ?_;(repeat (first|refine ret_then ?_|refine ret_block ?_));refine bq1 rfl ⟨?_,rfl⟩);rfl)
end Go.Proofs.YtbilpbabdgfblaaGreat
-- k3
namespace Go.Proofs.YtbilpbabdgfblaaGreat
open Go.RowKit
section
variable (h:Hse)
theorem rsame_p:PCalls Tryz.prog 16 [h.enc,h.enc] (·=vb true):=by
  refine pcalls_know (Φ:=h.designs.length≤9223372036854775807∧h.lics.length≤9223372036854775807∧h.orders.length≤9223372036854775807) (fun I us hh=>?_) fun hlen=>?_
  · obtain ⟨u,hu⟩:=rel_arg hh (j:=0) rfl
    obtain ⟨cs,_,h1,h2⟩:=agg_inv hu
    have hsz:cs.size=10:=h1
    exact ⟨rel_len ⟨_,h2 5 _ cs[5] rfl (by simp [hsz])⟩,rel_len ⟨_,h2 6 _ cs[6] rfl (by simp [hsz])⟩,rel_len ⟨_,h2 7 _ cs[7] rfl (by simp [hsz])⟩⟩
  obtain ⟨hl1,hl2,hl3⟩:=hlen
  refine pcalls_of_aw Tryz.func16 rfl (dc rfl) ?_
  (repeat' (first|refine ar_k2 ?_|refine ar_k3 ?_|refine ark_alloc (ty rfl) rfl (dc rfl) ?_|refine ark_store (ty rfl) rfl rfl rfl rfl rfl rfl (dc rfl) (.inl ⟨_,rfl⟩) (dc rfl) ?_|refine ark_assign rfl (dc rfl) ?_|refine ark_move rfl (dc rfl) ?_|refine ark_nil ?_|(refine ar_isq ?_;refine zq ?_)|refine ar_q (qs_sneq (seq rfl) rfl rfl (.int (ty rfl) rfl rfl rfl rfl (.int (ty rfl) rfl rfl rfl rfl .nil))) (dc rfl) ?_|refine ar_q (qs_sneq (seq rfl) rfl rfl (.int (ty rfl) rfl rfl rfl rfl (.int (ty rfl) rfl rfl rfl rfl (.int (ty rfl) rfl rfl rfl rfl .nil)))) (dc rfl) ?_|refine ar_q (qs_sneq (seq rfl) rfl rfl (.int (ty rfl) rfl rfl rfl rfl (.int (ty rfl) rfl rfl rfl rfl (.int (ty rfl) rfl rfl rfl rfl (.int (ty rfl) rfl rfl rfl rfl .nil))))) (dc rfl) ?_|refine ar_q (qs_sneq (seq rfl) rfl rfl (.int (ty rfl) rfl rfl rfl rfl (.int (ty rfl) rfl rfl rfl rfl (.int (ty rfl) rfl rfl rfl rfl (.int (ty rfl) rfl rfl rfl rfl (.int (ty rfl) rfl rfl rfl rfl .nil)))))) (dc rfl) ?_|(refine zpv fn47 (sameStore_p h.store) ?_)|(refine zpv fn32 (sameInts_p h.made) ?_)|(refine zpv fn32 (sameInts_p h.fors) ?_)|refine zg ?_ ?_|refine zgu ?_|refine ar_forkL ?_ ?_|refine ar_lq rfl ?_|refine zst ?_|refine aw_fork (id:=6) [[(11,1),(10,1),(12,1),(13,1)]] [(0,0),(1,0),(2,0),(3,0),(4,0),(5,0),(6,0),(7,0),(8,0),(9,0),(0,3),(10,1),(11,1),(12,1),(13,1)] mixed (by kernel_rfl) ?_|refine aw_drawn (id:=12) [(0,0),(1,0),(2,0),(3,0),(4,0),(5,0),(6,0),(7,0),(8,0),(9,0),(10,0)] mixed (by kernel_rfl) ?_|refine aw_drawn (id:=17) [(0,0),(1,0),(2,0),(3,0),(4,0),(5,0),(6,0),(7,0),(8,0),(9,0),(10,0)] mixed (by kernel_rfl) ?_|refine zco ?_ ?_|exact zd|(refine fun (hg:(_:Prop))=>?_;(try replace hg:=HG.out hg);(try dsimp only at hg);(try (have _h:True:=hg;clear _h hg)))))
  all_goals (try (exfalso;simp at *;done))
  refine aw_for h.designs.length (fun _=>True) (fun k=>[(2,.ptr 10 0 0 0),(3,.ptr 10 1 0 0),(5,vi k)]) (fun _=>[.arr 10 1 (fun _=>h.enc),.arr 10 1 (fun _=>h.enc)]) trivial ?_ ?_
  · (exact zsb [some 0,some 1] [])
  intro k hk _
  by_cases hlt:k<h.designs.length
  · (repeat' (first|refine ar_k2 ?_|refine ar_k3 ?_|refine ark_alloc (ty rfl) rfl (dc rfl) ?_|refine ark_store (ty rfl) rfl rfl rfl rfl rfl rfl (dc rfl) (.inl ⟨_,rfl⟩) (dc rfl) ?_|refine ark_assign rfl (dc rfl) ?_|refine ark_move rfl (dc rfl) ?_|refine ark_nil ?_|(refine ar_isq ?_;refine zq ?_)|refine ar_q (qs_sneq (seq rfl) rfl rfl (.int (ty rfl) rfl rfl rfl rfl (.int (ty rfl) rfl rfl rfl rfl .nil))) (dc rfl) ?_|refine ar_q (qs_sneq (seq rfl) rfl rfl (.int (ty rfl) rfl rfl rfl rfl (.int (ty rfl) rfl rfl rfl rfl (.int (ty rfl) rfl rfl rfl rfl .nil)))) (dc rfl) ?_|refine ar_q (qs_sneq (seq rfl) rfl rfl (.int (ty rfl) rfl rfl rfl rfl (.int (ty rfl) rfl rfl rfl rfl (.int (ty rfl) rfl rfl rfl rfl (.int (ty rfl) rfl rfl rfl rfl .nil))))) (dc rfl) ?_|refine ar_q (qs_sneq (seq rfl) rfl rfl (.int (ty rfl) rfl rfl rfl rfl (.int (ty rfl) rfl rfl rfl rfl (.int (ty rfl) rfl rfl rfl rfl (.int (ty rfl) rfl rfl rfl rfl (.int (ty rfl) rfl rfl rfl rfl .nil)))))) (dc rfl) ?_|refine zil (j:=k) ?_|refine zis (j:=k) ?_|refine zit (j:=k) ?_|(refine zpv fn38 (sameBand_p (el h.designs k).band) ?_)|refine ar_q (qs_sneq (seq rfl) rfl rfl (.int (ty rfl) rfl rfl rfl rfl (.int (ty rfl) rfl rfl rfl rfl (.int (ty rfl) rfl rfl rfl rfl (.int (ty rfl) rfl rfl rfl rfl (.int (ty rfl) rfl rfl rfl rfl .nil)))))) (dc rfl) ?_|refine zg ?_ ?_|refine zgu ?_|refine ar_forkL ?_ ?_|refine ar_lq rfl ?_|refine zst ?_|refine aw_fork (id:=6) [[(11,1),(10,1),(12,1),(13,1)]] [(0,0),(1,0),(2,0),(3,0),(4,0),(5,0),(6,0),(7,0),(8,0),(9,0),(0,3),(10,1),(11,1),(12,1),(13,1)] mixed (by kernel_rfl) ?_|refine aw_drawn (id:=12) [(0,0),(1,0),(2,0),(3,0),(4,0),(5,0),(6,0),(7,0),(8,0),(9,0),(10,0)] mixed (by kernel_rfl) ?_|refine aw_drawn (id:=17) [(0,0),(1,0),(2,0),(3,0),(4,0),(5,0),(6,0),(7,0),(8,0),(9,0),(10,0)] mixed (by kernel_rfl) ?_|refine zco ?_ ?_|exact zd|(refine fun (hg:(_:Prop))=>?_;(try replace hg:=HG.out hg);(try dsimp only at hg);(try (have _h:True:=hg;clear _h hg)))))
    all_goals first
      | (exfalso;omega)
      | (exfalso;simp at *;done)
      | ((first|refine loop_next (by omega) ?_ ?_|refine (show _∧_∧SubOf _ _ _ _ _ _ from And.intro (by omega) (And.intro ?_ ?_)));(focus ((trivial);done));(focus (exact zsb [some 0,some 1] [])))
      | trace_state
  · obtain rfl:k=h.designs.length:=by omega
    (repeat' (first|refine ar_k2 ?_|refine ar_k3 ?_|refine ark_alloc (ty rfl) rfl (dc rfl) ?_|refine ark_store (ty rfl) rfl rfl rfl rfl rfl rfl (dc rfl) (.inl ⟨_,rfl⟩) (dc rfl) ?_|refine ark_assign rfl (dc rfl) ?_|refine ark_move rfl (dc rfl) ?_|refine ark_nil ?_|(refine ar_isq ?_;refine zq ?_)|refine ar_q (qs_sneq (seq rfl) rfl rfl (.int (ty rfl) rfl rfl rfl rfl (.int (ty rfl) rfl rfl rfl rfl .nil))) (dc rfl) ?_|refine ar_q (qs_sneq (seq rfl) rfl rfl (.int (ty rfl) rfl rfl rfl rfl (.int (ty rfl) rfl rfl rfl rfl (.int (ty rfl) rfl rfl rfl rfl .nil)))) (dc rfl) ?_|refine ar_q (qs_sneq (seq rfl) rfl rfl (.int (ty rfl) rfl rfl rfl rfl (.int (ty rfl) rfl rfl rfl rfl (.int (ty rfl) rfl rfl rfl rfl (.int (ty rfl) rfl rfl rfl rfl .nil))))) (dc rfl) ?_|refine ar_q (qs_sneq (seq rfl) rfl rfl (.int (ty rfl) rfl rfl rfl rfl (.int (ty rfl) rfl rfl rfl rfl (.int (ty rfl) rfl rfl rfl rfl (.int (ty rfl) rfl rfl rfl rfl (.int (ty rfl) rfl rfl rfl rfl .nil)))))) (dc rfl) ?_|refine zg ?_ ?_|refine zgu ?_|refine ar_forkL ?_ ?_|refine ar_lq rfl ?_|refine zst ?_|refine aw_fork (id:=6) [[(11,1),(10,1),(12,1),(13,1)]] [(0,0),(1,0),(2,0),(3,0),(4,0),(5,0),(6,0),(7,0),(8,0),(9,0),(0,3),(10,1),(11,1),(12,1),(13,1)] mixed (by kernel_rfl) ?_|refine aw_drawn (id:=12) [(0,0),(1,0),(2,0),(3,0),(4,0),(5,0),(6,0),(7,0),(8,0),(9,0),(10,0)] mixed (by kernel_rfl) ?_|refine aw_drawn (id:=17) [(0,0),(1,0),(2,0),(3,0),(4,0),(5,0),(6,0),(7,0),(8,0),(9,0),(10,0)] mixed (by kernel_rfl) ?_|refine zco ?_ ?_|exact zd|(refine fun (hg:(_:Prop))=>?_;(try replace hg:=HG.out hg);(try dsimp only at hg);(try (have _h:True:=hg;clear _h hg)))))
    all_goals (try (exfalso;omega))
    refine aw_for h.lics.length (fun _=>True) (fun k=>[(2,.ptr 10 0 0 0),(3,.ptr 10 1 0 0),(8,vi k)]) (fun _=>[.arr 10 1 (fun _=>h.enc),.arr 10 1 (fun _=>h.enc)]) trivial ?_ ?_
    · (exact zsb [some 0,some 1] [])
    intro k hk _
    by_cases hlt:k<h.lics.length
    · (repeat' (first|refine ar_k2 ?_|refine ar_k3 ?_|refine ark_alloc (ty rfl) rfl (dc rfl) ?_|refine ark_store (ty rfl) rfl rfl rfl rfl rfl rfl (dc rfl) (.inl ⟨_,rfl⟩) (dc rfl) ?_|refine ark_assign rfl (dc rfl) ?_|refine ark_move rfl (dc rfl) ?_|refine ark_nil ?_|(refine ar_isq ?_;refine zq ?_)|refine ar_q (qs_sneq (seq rfl) rfl rfl (.int (ty rfl) rfl rfl rfl rfl (.int (ty rfl) rfl rfl rfl rfl .nil))) (dc rfl) ?_|refine ar_q (qs_sneq (seq rfl) rfl rfl (.int (ty rfl) rfl rfl rfl rfl (.int (ty rfl) rfl rfl rfl rfl (.int (ty rfl) rfl rfl rfl rfl .nil)))) (dc rfl) ?_|refine ar_q (qs_sneq (seq rfl) rfl rfl (.int (ty rfl) rfl rfl rfl rfl (.int (ty rfl) rfl rfl rfl rfl (.int (ty rfl) rfl rfl rfl rfl (.int (ty rfl) rfl rfl rfl rfl .nil))))) (dc rfl) ?_|refine ar_q (qs_sneq (seq rfl) rfl rfl (.int (ty rfl) rfl rfl rfl rfl (.int (ty rfl) rfl rfl rfl rfl (.int (ty rfl) rfl rfl rfl rfl (.int (ty rfl) rfl rfl rfl rfl (.int (ty rfl) rfl rfl rfl rfl .nil)))))) (dc rfl) ?_|refine zil (j:=k) ?_|refine zis (j:=k) ?_|refine zit (j:=k) ?_|refine ar_q (qs_sneq (seq rfl) rfl rfl (.int (ty rfl) rfl rfl rfl rfl (.int (ty rfl) rfl rfl rfl rfl (.int (ty rfl) rfl rfl rfl rfl (.int (ty rfl) rfl rfl rfl rfl .nil))))) (dc rfl) ?_|refine zg ?_ ?_|refine zgu ?_|refine ar_forkL ?_ ?_|refine ar_lq rfl ?_|refine zst ?_|refine aw_fork (id:=6) [[(11,1),(10,1),(12,1),(13,1)]] [(0,0),(1,0),(2,0),(3,0),(4,0),(5,0),(6,0),(7,0),(8,0),(9,0),(0,3),(10,1),(11,1),(12,1),(13,1)] mixed (by kernel_rfl) ?_|refine aw_drawn (id:=12) [(0,0),(1,0),(2,0),(3,0),(4,0),(5,0),(6,0),(7,0),(8,0),(9,0),(10,0)] mixed (by kernel_rfl) ?_|refine aw_drawn (id:=17) [(0,0),(1,0),(2,0),(3,0),(4,0),(5,0),(6,0),(7,0),(8,0),(9,0),(10,0)] mixed (by kernel_rfl) ?_|refine zco ?_ ?_|exact zd|(refine fun (hg:(_:Prop))=>?_;(try replace hg:=HG.out hg);(try dsimp only at hg);(try (have _h:True:=hg;clear _h hg)))))
      all_goals first
        | (exfalso;omega)
        | (exfalso;simp at *;done)
        | ((first|refine loop_next (by omega) ?_ ?_|refine (show _∧_∧SubOf _ _ _ _ _ _ from And.intro (by omega) (And.intro ?_ ?_)));(focus ((trivial);done));(focus (exact zsb [some 0,some 1] [])))
        | trace_state
    · obtain rfl:k=h.lics.length:=by omega
      (repeat' (first|refine ar_k2 ?_|refine ar_k3 ?_|refine ark_alloc (ty rfl) rfl (dc rfl) ?_|refine ark_store (ty rfl) rfl rfl rfl rfl rfl rfl (dc rfl) (.inl ⟨_,rfl⟩) (dc rfl) ?_|refine ark_assign rfl (dc rfl) ?_|refine ark_move rfl (dc rfl) ?_|refine ark_nil ?_|(refine ar_isq ?_;refine zq ?_)|refine ar_q (qs_sneq (seq rfl) rfl rfl (.int (ty rfl) rfl rfl rfl rfl (.int (ty rfl) rfl rfl rfl rfl .nil))) (dc rfl) ?_|refine ar_q (qs_sneq (seq rfl) rfl rfl (.int (ty rfl) rfl rfl rfl rfl (.int (ty rfl) rfl rfl rfl rfl (.int (ty rfl) rfl rfl rfl rfl .nil)))) (dc rfl) ?_|refine ar_q (qs_sneq (seq rfl) rfl rfl (.int (ty rfl) rfl rfl rfl rfl (.int (ty rfl) rfl rfl rfl rfl (.int (ty rfl) rfl rfl rfl rfl (.int (ty rfl) rfl rfl rfl rfl .nil))))) (dc rfl) ?_|refine ar_q (qs_sneq (seq rfl) rfl rfl (.int (ty rfl) rfl rfl rfl rfl (.int (ty rfl) rfl rfl rfl rfl (.int (ty rfl) rfl rfl rfl rfl (.int (ty rfl) rfl rfl rfl rfl (.int (ty rfl) rfl rfl rfl rfl .nil)))))) (dc rfl) ?_|refine zg ?_ ?_|refine zgu ?_|refine ar_forkL ?_ ?_|refine ar_lq rfl ?_|refine zst ?_|refine aw_fork (id:=6) [[(11,1),(10,1),(12,1),(13,1)]] [(0,0),(1,0),(2,0),(3,0),(4,0),(5,0),(6,0),(7,0),(8,0),(9,0),(0,3),(10,1),(11,1),(12,1),(13,1)] mixed (by kernel_rfl) ?_|refine aw_drawn (id:=12) [(0,0),(1,0),(2,0),(3,0),(4,0),(5,0),(6,0),(7,0),(8,0),(9,0),(10,0)] mixed (by kernel_rfl) ?_|refine aw_drawn (id:=17) [(0,0),(1,0),(2,0),(3,0),(4,0),(5,0),(6,0),(7,0),(8,0),(9,0),(10,0)] mixed (by kernel_rfl) ?_|refine zco ?_ ?_|exact zd|(refine fun (hg:(_:Prop))=>?_;(try replace hg:=HG.out hg);(try dsimp only at hg);(try (have _h:True:=hg;clear _h hg)))))
      all_goals (try (exfalso;omega))
      refine aw_for h.orders.length (fun _=>True) (fun k=>[(2,.ptr 10 0 0 0),(3,.ptr 10 1 0 0),(9,vi k)]) (fun _=>[.arr 10 1 (fun _=>h.enc),.arr 10 1 (fun _=>h.enc)]) trivial ?_ ?_
      · (exact zsb [some 0,some 1] [])
      intro k hk _
      by_cases hlt:k<h.orders.length
      · (repeat' (first|refine ar_k2 ?_|refine ar_k3 ?_|refine ark_alloc (ty rfl) rfl (dc rfl) ?_|refine ark_store (ty rfl) rfl rfl rfl rfl rfl rfl (dc rfl) (.inl ⟨_,rfl⟩) (dc rfl) ?_|refine ark_assign rfl (dc rfl) ?_|refine ark_move rfl (dc rfl) ?_|refine ark_nil ?_|(refine ar_isq ?_;refine zq ?_)|refine ar_q (qs_sneq (seq rfl) rfl rfl (.int (ty rfl) rfl rfl rfl rfl (.int (ty rfl) rfl rfl rfl rfl .nil))) (dc rfl) ?_|refine ar_q (qs_sneq (seq rfl) rfl rfl (.int (ty rfl) rfl rfl rfl rfl (.int (ty rfl) rfl rfl rfl rfl (.int (ty rfl) rfl rfl rfl rfl .nil)))) (dc rfl) ?_|refine ar_q (qs_sneq (seq rfl) rfl rfl (.int (ty rfl) rfl rfl rfl rfl (.int (ty rfl) rfl rfl rfl rfl (.int (ty rfl) rfl rfl rfl rfl (.int (ty rfl) rfl rfl rfl rfl .nil))))) (dc rfl) ?_|refine ar_q (qs_sneq (seq rfl) rfl rfl (.int (ty rfl) rfl rfl rfl rfl (.int (ty rfl) rfl rfl rfl rfl (.int (ty rfl) rfl rfl rfl rfl (.int (ty rfl) rfl rfl rfl rfl (.int (ty rfl) rfl rfl rfl rfl .nil)))))) (dc rfl) ?_|refine zil (j:=k) ?_|refine zis (j:=k) ?_|refine zit (j:=k) ?_|refine ar_q (qs_sneq (seq rfl) rfl rfl (.int (ty rfl) rfl rfl rfl rfl (.int (ty rfl) rfl rfl rfl rfl (.int (ty rfl) rfl rfl rfl rfl (.bool (ty rfl) rfl rfl rfl rfl .nil))))) (dc rfl) ?_|refine zg ?_ ?_|refine zgu ?_|refine ar_forkL ?_ ?_|refine ar_lq rfl ?_|refine zst ?_|refine aw_fork (id:=6) [[(11,1),(10,1),(12,1),(13,1)]] [(0,0),(1,0),(2,0),(3,0),(4,0),(5,0),(6,0),(7,0),(8,0),(9,0),(0,3),(10,1),(11,1),(12,1),(13,1)] mixed (by kernel_rfl) ?_|refine aw_drawn (id:=12) [(0,0),(1,0),(2,0),(3,0),(4,0),(5,0),(6,0),(7,0),(8,0),(9,0),(10,0)] mixed (by kernel_rfl) ?_|refine aw_drawn (id:=17) [(0,0),(1,0),(2,0),(3,0),(4,0),(5,0),(6,0),(7,0),(8,0),(9,0),(10,0)] mixed (by kernel_rfl) ?_|refine zco ?_ ?_|exact zd|(refine fun (hg:(_:Prop))=>?_;(try replace hg:=HG.out hg);(try dsimp only at hg);(try (have _h:True:=hg;clear _h hg)))))
        all_goals first
          | (exfalso;omega)
          | (exfalso;simp at *;done)
          | ((first|refine loop_next (by omega) ?_ ?_|refine (show _∧_∧SubOf _ _ _ _ _ _ from And.intro (by omega) (And.intro ?_ ?_)));(focus ((trivial);done));(focus (exact zsb [some 0,some 1] [])))
          | trace_state
      · obtain rfl:k=h.orders.length:=by omega
        (repeat' (first|refine ar_k2 ?_|refine ar_k3 ?_|refine ark_alloc (ty rfl) rfl (dc rfl) ?_|refine ark_store (ty rfl) rfl rfl rfl rfl rfl rfl (dc rfl) (.inl ⟨_,rfl⟩) (dc rfl) ?_|refine ark_assign rfl (dc rfl) ?_|refine ark_move rfl (dc rfl) ?_|refine ark_nil ?_|(refine ar_isq ?_;refine zq ?_)|refine ar_q (qs_sneq (seq rfl) rfl rfl (.int (ty rfl) rfl rfl rfl rfl (.int (ty rfl) rfl rfl rfl rfl .nil))) (dc rfl) ?_|refine ar_q (qs_sneq (seq rfl) rfl rfl (.int (ty rfl) rfl rfl rfl rfl (.int (ty rfl) rfl rfl rfl rfl (.int (ty rfl) rfl rfl rfl rfl .nil)))) (dc rfl) ?_|refine ar_q (qs_sneq (seq rfl) rfl rfl (.int (ty rfl) rfl rfl rfl rfl (.int (ty rfl) rfl rfl rfl rfl (.int (ty rfl) rfl rfl rfl rfl (.int (ty rfl) rfl rfl rfl rfl .nil))))) (dc rfl) ?_|refine ar_q (qs_sneq (seq rfl) rfl rfl (.int (ty rfl) rfl rfl rfl rfl (.int (ty rfl) rfl rfl rfl rfl (.int (ty rfl) rfl rfl rfl rfl (.int (ty rfl) rfl rfl rfl rfl (.int (ty rfl) rfl rfl rfl rfl .nil)))))) (dc rfl) ?_|refine zg ?_ ?_|refine zgu ?_|refine ar_forkL ?_ ?_|refine ar_lq rfl ?_|refine zst ?_|refine aw_fork (id:=6) [[(11,1),(10,1),(12,1),(13,1)]] [(0,0),(1,0),(2,0),(3,0),(4,0),(5,0),(6,0),(7,0),(8,0),(9,0),(0,3),(10,1),(11,1),(12,1),(13,1)] mixed (by kernel_rfl) ?_|refine aw_drawn (id:=12) [(0,0),(1,0),(2,0),(3,0),(4,0),(5,0),(6,0),(7,0),(8,0),(9,0),(10,0)] mixed (by kernel_rfl) ?_|refine aw_drawn (id:=17) [(0,0),(1,0),(2,0),(3,0),(4,0),(5,0),(6,0),(7,0),(8,0),(9,0),(10,0)] mixed (by kernel_rfl) ?_|refine zco ?_ ?_|exact zd|(refine fun (hg:(_:Prop))=>?_;(try replace hg:=HG.out hg);(try dsimp only at hg);(try (have _h:True:=hg;clear _h hg)))))
        all_goals first
          | (exfalso;omega)
          | ((refine aw_ret ?_;(repeat (first|refine ret_then ?_|refine ret_block ?_));refine bq1 rfl ⟨?_,rfl⟩);rfl)
          | trace_state
theorem smallB_of {b:List (List Int)}(h1:b.length≤20) (h2:∀ l,l∈b→l.length≤60):SmallB b:=⟨by omega,fun l hl=>by have:=h2 l hl;omega⟩
theorem rgreat_p:PCalls Tryz.prog 17 [h.enc] (fun v=>v=vb true∨v=vb false∧HSmall h):=by
  refine pcalls_of_aw Tryz.func17 rfl (dc rfl) ?_
  (repeat' (first|(refine ar_isq ?_;refine zq ?_)|(refine ar_pcall (own:=false) fn48 rfl rfl (.cons (.closed rfl) .nil) (great8_p h.store) (by simp) (dc rfl) ?_;rintro _ (rfl|⟨rfl,g40,g500⟩))|refine zg ?_ ?_|refine zgu ?_|refine zst ?_|refine zco ?_ ?_|exact zd|(refine fun (hg:(_:Prop))=>?_;(try replace hg:=HG.out hg);(try dsimp only at hg);(try (have _h:True:=hg;clear _h hg)))))
  all_goals first
    | ((refine aw_ret ?_;(repeat (first|refine ret_then ?_|refine ret_block ?_));refine bq1 rfl ?_);exact ⟨.inl rfl,rfl⟩)
    | skip
  refine aw_for h.designs.length (fun k=>∀ j,j<k→SmallB (el h.designs j).band) (fun k=>[(1,.ptr 10 0 0 0),(3,vi k)]) (fun _=>[.arr 10 1 (fun _=>h.enc)]) (fun q hq=>by omega) ?_ ?_
  · (exact zsb [some 0] [])
  intro k hk hJ
  by_cases hlt:k<h.designs.length
  · (repeat' (first|(refine ar_isq ?_;refine zq ?_)|refine zil (j:=k) ?_|refine zis (j:=k) ?_|refine zit (j:=k) ?_|(refine ar_pcall (own:=false) fn18 rfl rfl (.cons (.closed rfl) .nil) (great_p (el h.designs k).band) (by simp) (dc rfl) ?_;rintro _ (rfl|⟨rfl,h20,h60⟩))|refine zg ?_ ?_|refine zgu ?_|refine zst ?_|refine zco ?_ ?_|exact zd|(refine fun (hg:(_:Prop))=>?_;(try replace hg:=HG.out hg);(try dsimp only at hg);(try (have _h:True:=hg;clear _h hg)))))
    all_goals first
      | (exfalso;omega)
      | ((refine aw_ret ?_;(repeat (first|refine ret_then ?_|refine ret_block ?_));refine bq1 rfl ?_);exact ⟨.inl rfl,rfl⟩)
      | ((first|refine loop_next (by omega) ?_ ?_|refine (show _∧_∧SubOf _ _ _ _ _ _ from And.intro (by omega) (And.intro ?_ ?_)));(focus ((exact all_step hJ (smallB_of h20 h60));done));(focus (exact zsb [some 0] [])))
      | trace_state
  · obtain rfl:k=h.designs.length:=by omega
    (repeat' (first|(refine ar_isq ?_;refine zq ?_)|refine zg ?_ ?_|refine zgu ?_|refine zst ?_|refine zco ?_ ?_|exact zd|(refine fun (hg:(_:Prop))=>?_;(try replace hg:=HG.out hg);(try dsimp only at hg);(try (have _h:True:=hg;clear _h hg)))))
    all_goals first
      | (exfalso;omega)
      | ((refine aw_ret ?_;(repeat (first|refine ret_then ?_|refine ret_block ?_));refine bq1 rfl ?_);exact ⟨.inr ⟨rfl,by omega,by omega,by omega,by omega,by omega,by omega,by omega,fun d hd=>by obtain ⟨i,hi,rfl⟩:=List.getElem_of_mem hd;rw [← show el h.designs i=h.designs[i] by simp [el,hi]];exact hJ i hi⟩,rfl⟩)
      | trace_state
end
theorem greatBook_p (bk:List Job):PCalls Tryz.prog 13 [encJobs bk] (fun v=>v=vb true∨v=vb false∧bk.length≤220∧∀ k,k<bk.length→SmallB (el bk k).band):=by
  refine pcalls_of_aw Tryz.func13 rfl (dc rfl) ?_
  (repeat' (first|(refine ar_isq ?_;refine zq ?_)|refine zst ?_|refine zco ?_ ?_|exact zd|(refine fun (hg:(_:Prop))=>?_;(try replace hg:=HG.out hg);(try dsimp only at hg);(try (have _h:True:=hg;clear _h hg)))))
  all_goals first
    | ((refine aw_ret ?_;(repeat (first|refine ret_then ?_|refine ret_block ?_));refine bq1 rfl ?_);exact ⟨.inl rfl,rfl⟩)
    | skip
  have hn:¬ 220<bk.length:=by omega
  refine aw_for bk.length (fun k=>∀ j,j<k→SmallB (el bk j).band) (fun k=>[(8,encJobs bk),(9,vi bk.length),(10,vi k)]) (fun _=>[]) (fun q hq=>by omega) ?_ ?_
  · (exact zsb [] [])
  intro k hk hJ
  by_cases hlt:k<bk.length
  · (repeat' (first|(refine ar_isq ?_;refine zq ?_)|refine zil (j:=k) ?_|refine zis (j:=k) ?_|refine zit (j:=k) ?_|(refine ar_pcall (own:=false) fn18 rfl rfl (.cons (.closed rfl) .nil) (great_p (el bk k).band) (by simp) (dc rfl) ?_;rintro _ (rfl|⟨rfl,h20,h60⟩))|refine zst ?_|refine zco ?_ ?_|exact zd|(refine fun (hg:(_:Prop))=>?_;(try replace hg:=HG.out hg);(try dsimp only at hg);(try (have _h:True:=hg;clear _h hg)))))
    all_goals first
      | (exfalso;omega)
      | ((refine aw_ret ?_;(repeat (first|refine ret_then ?_|refine ret_block ?_));refine bq1 rfl ?_);exact ⟨.inl rfl,rfl⟩)
      | ((first|refine loop_next (by omega) ?_ ?_|refine (show _∧_∧SubOf _ _ _ _ _ _ from And.intro (by omega) (And.intro ?_ ?_)));(focus ((exact all_step hJ (smallB_of h20 h60));done));(focus (exact zsb [] [])))
      | trace_state
  · obtain rfl:k=bk.length:=by omega
    (repeat' (first|(refine ar_isq ?_;refine zq ?_)|refine zst ?_|refine zco ?_ ?_|exact zd|(refine fun (hg:(_:Prop))=>?_;(try replace hg:=HG.out hg);(try dsimp only at hg);(try (have _h:True:=hg;clear _h hg)))))
    all_goals first
      | (exfalso;omega)
      | ((refine aw_ret ?_;(repeat (first|refine ret_then ?_|refine ret_block ?_));refine bq1 rfl ?_);exact ⟨.inr ⟨rfl,by omega,hJ⟩,rfl⟩)
      | trace_state
theorem pcalls_of_acalls {P:Program}{f:FuncId}{args:List V}{R:V→Prop}(h:ACalls P f args [] (fun v _=>R v∧v.closed=true) NoP):PCalls P f args R:=by
  refine ⟨?_⟩
  intro I w us hI hv
  have h1:=h.1 (Ctx.self w [] [] I) I [] w us (WOk.begin hI) hv
  refine h1.mono fun e w' ⟨v,u,I',ρ',H',hle,hpre,hw',hr,h2⟩=>?_
  rcases h2 with ⟨rfl,hR,hc⟩|⟨_,hno⟩
  · refine ⟨v,u,I',hR,rfl,hr.close hc,hle,hw'.imm,fun b hb=>?_,⟨hw'.os,hw'.tape,hw'.out,hw'.grow,fun b hb=>hw'.keep b hb not_live_nil⟩⟩
    rcases hw'.news b hb with h3|h3|h3
    · exact .inl h3
    · exact .inr h3
    · exact (not_live_nil h3).elim
  · exact hno.elim
section
variable (h:Hse) (j:Job)
theorem hDoV_p (hs:HSmall h) (hw:StOk h.store) (hu:u8ok j.kind) (hua:u8ok j.act.kind):PCalls Tryz.prog 20 [h.enc,j.enc] (·=.tup [(hdoF h j).enc,vi (hdoE h j)]):=by
  refine pcalls_of_acalls (acalls_sub (hDo_p h j hs hw hu hua) ?_ (fun _ _ h=>h.elim))
  rintro _ _ (⟨he,rfl,rfl⟩|⟨he,rfl,rfl⟩)
  · have hF:hdoF h j=jobF h j:=by unfold hdoF;rw [if_pos he]
    refine ⟨.tup [(jobF h j).enc,vi 0],[],?_,by rw [hF,he],rfl⟩
    unfold hseR
    (exact zsc [] [0,1,2,3,4,5,6])
  · have hF:hdoF h j=noHse:=by unfold hdoF;rw [if_neg he]
    refine ⟨.tup [noHse.enc,vi (hdoE h j)],[],?_,by rw [hF],rfl⟩
    (exact zsb [] [])
theorem rcopiedV_p (hs:HSmall h):PCalls Tryz.prog 19 [h.enc] (·=h.enc):=by
  refine pcalls_of_acalls (acalls_sub (rcopied_p h hs) ?_ (fun _ _ h=>h.elim))
  rintro _ _ ⟨rfl,rfl⟩
  refine ⟨h.enc,[],?_,rfl,rfl⟩
  unfold hseR
  (exact zsc [] [0,1,2,3,4,5,6])
end
end Go.Proofs.YtbilpbabdgfblaaGreat
namespace Go.Proofs.YtbilpbabdgfblaaGreat
open Go.ChangeShapes Go.WideShapes Go.ChangeAt Go.RowKit Go.Deep
def Sheet.wf (s:Sheet):Prop:=i64ok s.cols∧i64ok s.rows∧i64ok s.weight∧i64ok s.clear∧i64ok s.lean
def Dsn.wf (d:Dsn):Prop:=i64ok d.owner∧d.sheet.wf∧∀ l,l∈d.band→∀ y,y∈l→i64ok y
def Lic.wf (l:Lic):Prop:=i64ok l.design∧i64ok l.client∧i64ok l.til∧i64ok l.left
def Ordr.wf (o:Ordr):Prop:=i64ok o.client∧i64ok o.design∧i64ok o.need
def Hse.wf (h:Hse):Prop:=i64ok h.per∧i64ok h.day∧h.store.wf∧(∀ x,x∈h.designs→x.wf)∧(∀ x,x∈h.lics→x.wf)∧(∀ x,x∈h.orders→x.wf)∧(∀ y,y∈h.made→i64ok y)∧∀ y,y∈h.fors→i64ok y
def Job.wf (j:Job):Prop:=u8ok j.kind∧i64ok j.client∧i64ok j.design∧i64ok j.order∧i64ok j.n∧i64ok j.til∧j.act.wf∧j.sheet.wf∧∀ l,l∈j.band→∀ y,y∈l→i64ok y
theorem stOk_wf {s:Sto}(h:s.wf):StOk s:=fun j hj=>(h.2.2 _ (el_mem hj)).2.1
theorem jobs_u8 {bk:List Job}(h:∀ x,x∈bk→x.wf):∀ j,j<bk.length→u8ok (el bk j).kind∧u8ok (el bk j).act.kind:=fun j hj=>by
  have:=h _ (el_mem hj)
  exact ⟨this.1,this.2.2.2.2.2.2.1.1⟩
theorem rv_Rows:ReadsV Tryz.prog 46 encRows (fun b=>∀ l,l∈b→∀ y,y∈l→i64ok y) 1:=rv_list Tryz.underlying46 (by kernel_rfl) rv_ints
set_option maxRecDepth 100000 in
theorem rv_design:ReadsV Tryz.prog 66 Dsn.enc Dsn.wf 7 :=
  ⟨by kernel_rfl,by omega,fun {_ _ _ _ _ _ _ cs _} h=>by
    have hlen:=struct_len Tryz.underlying66 h
    rw [show Tryz.prog.cellsOf 66=7 by kernel_rfl] at hlen
    obtain ⟨k0,o0,l0,e0⟩:=struct_part Tryz.underlying66 h 0 rfl rv_Int
    obtain ⟨k1,o1,l1,e1⟩:=struct_part Tryz.underlying66 h 1 rfl rv_sheet
    obtain ⟨k2,o2,l2,e2⟩:=struct_part Tryz.underlying66 h 2 rfl rv_Rows
    refine ⟨⟨k0,k1,k2⟩,⟨o0,o1,o2⟩,hlen,hlen.symm,fun j x u hx hu=>?_⟩
    match j,hx with
    | 0,hx=>cases hx;exact cells_one e0 rfl hu
    | 1,hx=>cases hx;exact e1.2 0 _ u rfl (by simpa using hu)
    | 2,hx=>cases hx;exact e1.2 1 _ u rfl (by simpa using hu)
    | 3,hx=>cases hx;exact e1.2 2 _ u rfl (by simpa using hu)
    | 4,hx=>cases hx;exact e1.2 3 _ u rfl (by simpa using hu)
    | 5,hx=>cases hx;exact e1.2 4 _ u rfl (by simpa using hu)
    | 6,hx=>cases hx;exact cells_one e2 rfl hu
    | j+7,hx=>simp [Dsn.enc,cells_agg] at hx⟩
set_option maxRecDepth 100000 in
theorem rv_licence:ReadsV Tryz.prog 98 Lic.enc Lic.wf 4 :=
  ⟨by kernel_rfl,by omega,fun {_ _ _ _ _ _ _ cs _} h=>by
    have hlen:=struct_len Tryz.underlying98 h
    rw [show Tryz.prog.cellsOf 98=4 by kernel_rfl] at hlen
    obtain ⟨k0,o0,l0,e0⟩:=struct_part Tryz.underlying98 h 0 rfl rv_Int
    obtain ⟨k1,o1,l1,e1⟩:=struct_part Tryz.underlying98 h 1 rfl rv_Int
    obtain ⟨k2,o2,l2,e2⟩:=struct_part Tryz.underlying98 h 2 rfl rv_Int
    obtain ⟨k3,o3,l3,e3⟩:=struct_part Tryz.underlying98 h 3 rfl rv_Int
    refine ⟨⟨k0,k1,k2,k3⟩,⟨o0,o1,o2,o3⟩,hlen,hlen.symm,fun j x u hx hu=>?_⟩
    match j,hx with
    | 0,hx=>cases hx;exact cells_one e0 rfl hu
    | 1,hx=>cases hx;exact cells_one e1 rfl hu
    | 2,hx=>cases hx;exact cells_one e2 rfl hu
    | 3,hx=>cases hx;exact cells_one e3 rfl hu
    | j+4,hx=>simp [Lic.enc,cells_agg] at hx⟩
set_option maxRecDepth 100000 in
theorem rv_order:ReadsV Tryz.prog 64 Ordr.enc Ordr.wf 4 :=
  ⟨by kernel_rfl,by omega,fun {_ _ _ _ _ _ _ cs _} h=>by
    have hlen:=struct_len Tryz.underlying64 h
    rw [show Tryz.prog.cellsOf 64=4 by kernel_rfl] at hlen
    obtain ⟨k0,o0,l0,e0⟩:=struct_part Tryz.underlying64 h 0 rfl rv_Int
    obtain ⟨k1,o1,l1,e1⟩:=struct_part Tryz.underlying64 h 1 rfl rv_Int
    obtain ⟨k2,o2,l2,e2⟩:=struct_part Tryz.underlying64 h 2 rfl rv_Int
    obtain ⟨k3,o3,l3,e3⟩:=struct_part Tryz.underlying64 h 3 rfl rv_Bool
    refine ⟨⟨k0,k1,k2,k3⟩,⟨o0,o1,o2⟩,hlen,hlen.symm,fun j x u hx hu=>?_⟩
    match j,hx with
    | 0,hx=>cases hx;exact cells_one e0 rfl hu
    | 1,hx=>cases hx;exact cells_one e1 rfl hu
    | 2,hx=>cases hx;exact cells_one e2 rfl hu
    | 3,hx=>cases hx;exact cells_one e3 rfl hu
    | j+4,hx=>simp [Ordr.enc,cells_agg] at hx⟩
theorem rv_designs:ReadsV Tryz.prog 28 (LV 7 Dsn.enc) (fun l=>∀ y,y∈l→y.wf) 1:=rv_list Tryz.underlying28 (by kernel_rfl) rv_design
theorem rv_licences:ReadsV Tryz.prog 29 (LV 4 Lic.enc) (fun l=>∀ y,y∈l→y.wf) 1:=rv_list Tryz.underlying29 (by kernel_rfl) rv_licence
theorem rv_orders:ReadsV Tryz.prog 30 (LV 4 Ordr.enc) (fun l=>∀ y,y∈l→y.wf) 1:=rv_list Tryz.underlying30 (by kernel_rfl) rv_order
set_option maxRecDepth 100000 in
theorem rv_house:ReadsV Tryz.prog 33 Hse.enc Hse.wf 10 :=
  ⟨by kernel_rfl,by omega,fun {_ _ _ _ _ _ _ cs _} h=>by
    have hlen:=struct_len Tryz.underlying33 h
    rw [show Tryz.prog.cellsOf 33=10 by kernel_rfl] at hlen
    obtain ⟨k0,o0,l0,e0⟩:=struct_part Tryz.underlying33 h 0 rfl rv_Int
    obtain ⟨k1,o1,l1,e1⟩:=struct_part Tryz.underlying33 h 1 rfl rv_Int
    obtain ⟨k2,o2,l2,e2⟩:=struct_part Tryz.underlying33 h 2 rfl rv_store
    obtain ⟨k3,o3,l3,e3⟩:=struct_part Tryz.underlying33 h 3 rfl rv_designs
    obtain ⟨k4,o4,l4,e4⟩:=struct_part Tryz.underlying33 h 4 rfl rv_licences
    obtain ⟨k5,o5,l5,e5⟩:=struct_part Tryz.underlying33 h 5 rfl rv_orders
    obtain ⟨k6,o6,l6,e6⟩:=struct_part Tryz.underlying33 h 6 rfl rv_ints
    obtain ⟨k7,o7,l7,e7⟩:=struct_part Tryz.underlying33 h 7 rfl rv_ints
    refine ⟨⟨k0,k1,k2,k3,k4,k5,k6,k7⟩,⟨o0,o1,o2,o3,o4,o5,o6,o7⟩,hlen,hlen.symm,fun j x u hx hu=>?_⟩
    match j,hx with
    | 0,hx=>cases hx;exact cells_one e0 rfl hu
    | 1,hx=>cases hx;exact cells_one e1 rfl hu
    | 2,hx=>cases hx;exact e2.2 0 _ u rfl (by simpa using hu)
    | 3,hx=>cases hx;exact e2.2 1 _ u rfl (by simpa using hu)
    | 4,hx=>cases hx;exact e2.2 2 _ u rfl (by simpa using hu)
    | 5,hx=>cases hx;exact cells_one e3 rfl hu
    | 6,hx=>cases hx;exact cells_one e4 rfl hu
    | 7,hx=>cases hx;exact cells_one e5 rfl hu
    | 8,hx=>cases hx;exact cells_one e6 rfl hu
    | 9,hx=>cases hx;exact cells_one e7 rfl hu
    | j+10,hx=>simp [Hse.enc,cells_agg] at hx⟩
set_option maxRecDepth 100000 in
theorem rv_job:ReadsV Tryz.prog 48 Job.enc Job.wf 16 :=
  ⟨by kernel_rfl,by omega,fun {_ _ _ _ _ _ _ cs _} h=>by
    have hlen:=struct_len Tryz.underlying48 h
    rw [show Tryz.prog.cellsOf 48=16 by kernel_rfl] at hlen
    obtain ⟨k0,o0,l0,e0⟩:=struct_part Tryz.underlying48 h 0 rfl rv_U8
    obtain ⟨k1,o1,l1,e1⟩:=struct_part Tryz.underlying48 h 1 rfl rv_Int
    obtain ⟨k2,o2,l2,e2⟩:=struct_part Tryz.underlying48 h 2 rfl rv_Int
    obtain ⟨k3,o3,l3,e3⟩:=struct_part Tryz.underlying48 h 3 rfl rv_Int
    obtain ⟨k4,o4,l4,e4⟩:=struct_part Tryz.underlying48 h 4 rfl rv_Int
    obtain ⟨k5,o5,l5,e5⟩:=struct_part Tryz.underlying48 h 5 rfl rv_Int
    obtain ⟨k6,o6,l6,e6⟩:=struct_part Tryz.underlying48 h 6 rfl rv_deed
    obtain ⟨k7,o7,l7,e7⟩:=struct_part Tryz.underlying48 h 7 rfl rv_sheet
    obtain ⟨k8,o8,l8,e8⟩:=struct_part Tryz.underlying48 h 8 rfl rv_Rows
    refine ⟨⟨k0,k1,k2,k3,k4,k5,k6,k7,k8⟩,⟨o0,o1,o2,o3,o4,o5,o6,o7,o8⟩,hlen,hlen.symm,fun j x u hx hu=>?_⟩
    match j,hx with
    | 0,hx=>cases hx;exact cells_one e0 rfl hu
    | 1,hx=>cases hx;exact cells_one e1 rfl hu
    | 2,hx=>cases hx;exact cells_one e2 rfl hu
    | 3,hx=>cases hx;exact cells_one e3 rfl hu
    | 4,hx=>cases hx;exact cells_one e4 rfl hu
    | 5,hx=>cases hx;exact cells_one e5 rfl hu
    | 6,hx=>cases hx;exact e6.2 0 _ u rfl (by simpa using hu)
    | 7,hx=>cases hx;exact e6.2 1 _ u rfl (by simpa using hu)
    | 8,hx=>cases hx;exact e6.2 2 _ u rfl (by simpa using hu)
    | 9,hx=>cases hx;exact e6.2 3 _ u rfl (by simpa using hu)
    | 10,hx=>cases hx;exact e7.2 0 _ u rfl (by simpa using hu)
    | 11,hx=>cases hx;exact e7.2 1 _ u rfl (by simpa using hu)
    | 12,hx=>cases hx;exact e7.2 2 _ u rfl (by simpa using hu)
    | 13,hx=>cases hx;exact e7.2 3 _ u rfl (by simpa using hu)
    | 14,hx=>cases hx;exact e7.2 4 _ u rfl (by simpa using hu)
    | 15,hx=>cases hx;exact cells_one e8 rfl hu
    | j+16,hx=>simp [Job.enc,cells_agg] at hx⟩
section
variable {H:Type}{enc:TypeId × Value→H}{w:World}{base:Nat}{spare:Nat→Bool}{held:Bool}{r:Reach}{b0:Nat}{v:Value}{d:DataW H}{p:List MemPlace}
set_option maxRecDepth 100000 in
theorem arg_house (hv:Value.okWide Tryz.prog w r b0 33 v) (h:DataW.Trod enc Tryz.prog w base spare held 33 v d p):∃ s:Hse,s.wf∧VRel (snap w) [] s.enc v:=arg_struct Tryz.underlying33 rv_house (fun _=>rfl) hv h
set_option maxRecDepth 100000 in
theorem arg_job (hv:Value.okWide Tryz.prog w r b0 48 v) (h:DataW.Trod enc Tryz.prog w base spare held 48 v d p):∃ s:Job,s.wf∧VRel (snap w) [] s.enc v:=arg_struct Tryz.underlying48 rv_job (fun _=>rfl) hv h
end
end Go.Proofs.YtbilpbabdgfblaaGreat
