/- Parts of the proof: contracts of functions. No condition. -/
import Derived.Test.YtbilpbabdgfblaaGreatKSq20
set_option maxHeartbeats 16000000
set_option linter.unusedSimpArgs false
set_option linter.unusedVariables false
namespace Go.Proofs.YtbilpbabdgfblaaGreat
open Go.RowKit
section
variable {a:Int}{w v:Nat→Int}{n j k:Nat}
theorem lean_le (hj:j<n):leanAt a w n j≤w j:=by
 have:=lean_all (a:=a) (w:=w) hj hj
 rw [show farI j j=0 by unfold farI;omega,Int.mul_zero] at this
 omega
theorem lean_ge0 (ha:0≤a) (hw:∀ k,k<n→0≤w k) (hj:j<n):0≤leanAt a w n j:=bD_bnd ha hw (by omega) _
theorem lean_step (ha:0≤a) (hj:j<n) (hk:k<n) (h:k≤j+1) (h':j≤k+1):leanAt a w n j-leanAt a w n k≤a:=by
 obtain ⟨i,hi,h1⟩:=lean_some (w:=w) ha hk
 have h2:=lean_all (a:=a) (w:=w) hj hi
 have h3:a*farI j i≤a*(farI k i+1):=Int.mul_le_mul_of_nonneg_left (by unfold farI;omega) ha
 rw [Int.mul_add,Int.mul_one] at h3
 omega
end
theorem check_band {s:Sheet}{b:List (List Int)}(hs:s.ok=true) (h:bandB s b=true):checkErr s b=0:=by simp [checkErr,hs,h]
theorem draw_band {s:Sheet}{c:Screen}{w:List (List Int)}(hr:roomErr s c=0) (hn:w.length=cntF s c) (hw:∀ i,i<w.length→∀ j:Nat,(j:Int)<s.cols→0≤el (el w i) j∧el (el w i) j≤roomW s c):bandB s (drawTo s c w (cntF s c))=true:=by
 obtain ⟨hs,hc,hrm,_,hrw⟩:=room_ok hr
 have hb:=Sheet.bounds hs
 have hcb:=Screen.bounds hc
 have hc12:=cntF_le s c
 rw [hrw] at hw
 have ext:∀ i,i<cntF s c→∀ k,k<s.cols.toNat→0≤leanAt s.lean (el (el w i)) s.cols.toNat k∧leanAt s.lean (el (el w i)) s.cols.toNat k≤c.period-s.weight-s.clear:=fun i hi k hk=>by
  have h1:=lean_ge0 (a:=s.lean) (w:=el (el w i)) (n:=s.cols.toNat) (by omega) (fun k hk=>(hw i (by omega) k (by omega)).1) hk
  have h2:=lean_le (a:=s.lean) (w:=el (el w i)) hk
  have h3:=hw i (by omega) k (by omega)
  omega
 rw [bandB_iff,drawTo_len]
 refine ⟨hc12,linesB_yes ?_,fun i hi j hj=>?_⟩
 ·rw [drawTo_len]
  intro i hi
  unfold drawTo
  rw [el_map_range hi,isLineB_iff,drawRow_len]
  refine ⟨by omega,fun j hj=>?_⟩
  have e1:=ext i hi j hj
  have e2:=cntF_in (s:=s) (c:=c) hi
  have e3:=mulP hc (k:=i) (by omega)
  rw [lineAt_iff,drawRow_el hj]
  unfold rowI
  refine ⟨by omega,?_⟩
  by_cases h0:j=0
  ·exact .inl h0
  ·right
   rw [drawRow_el (show j-1<s.cols.toNat by omega)]
   unfold rowI
   have l1:=lean_step (a:=s.lean) (w:=el (el w i)) (n:=s.cols.toNat) (j:=j) (k:=j-1) (by omega) hj (by omega) (by omega) (by omega)
   have l2:=lean_step (a:=s.lean) (w:=el (el w i)) (n:=s.cols.toNat) (j:=j-1) (k:=j) (by omega) (by omega) hj (by omega) (by omega)
   omega
 ·have e1:=ext i (by omega) j (by omega)
  have e2:=ext (i+1) (by omega) j (by omega)
  unfold drawTo
  rw [el_map_range hi,el_map_range (show i<cntF s c by omega),drawRow_el (show j<s.cols.toNat by omega),drawRow_el (show j<s.cols.toNat by omega)]
  unfold rowI
  rw [Int.natCast_succ,Int.add_mul]
  omega
theorem hide_ok {s:Sheet}{c:Screen}{m:List (List Bool)}(h:hideErr s c m=0):roomErr s c=0∧s.weight≤c.period/2∧c.period/2≤roomW s c∧m.length=cntF s c∧∀ i,i<m.length→((el m i).length:Int)=s.cols:=by
 unfold hideErr at h
 split at h
 ·rename_i h1
  split at h
  ·rename_i h2
   split at h
   ·rename_i h3
    obtain ⟨_,_,_,hn,_⟩:=room_ok h1
    obtain ⟨h4,h5⟩:=mask_rows h3
    have h6:=withinB_iff.1 h2
    exact ⟨h1,h6.1,h6.2,by omega,h5⟩
   ·cases h
  ·cases h
 ·rename_i h1;exact (h1 h).elim
theorem hide_el {s:Sheet}{c:Screen}{m:List (List Bool)}{i j:Nat}(hi:i<m.length) (hl:((el m i).length:Int)=s.cols) (hj:(j:Int)<s.cols):el (el (hideTo c m m.length) i) j=hV c (el (el m i) j):=by
 unfold hideTo
 rw [el_map_range hi,hRowTo_el (by omega)]
theorem hV_at (c:Screen) (b:Bool):hV c b=0∨hV c b=c.period/2:=by unfold hV;split<;>simp
theorem hide_band {s:Sheet}{c:Screen}{m:List (List Bool)}(h:hideErr s c m=0):bandB s (hideF s c m)=true:=by
 obtain ⟨hr,hw,hh,hn,hl⟩:=hide_ok h
 obtain ⟨hs,hc,_,_,_⟩:=room_ok hr
 have hb:=Sheet.bounds hs
 rw [hideF_ok h]
 refine draw_band hr (by rw [hideTo_len,hn]) fun i hi j hj=>?_
 rw [hideTo_len] at hi
 rw [hide_el hi (hl i hi) hj]
 rcases hV_at c (el (el m i) j) with e|e<;>rw [e]<;>omega
def hideA (s:Sheet) (c:Screen) (m:List (List Bool)) (i j:Nat):Int:=leanAt s.lean (el (el (hideTo c m m.length) i)) s.cols.toNat j
theorem hideA_bnd {s:Sheet}{c:Screen}{m:List (List Bool)}(h:hideErr s c m=0) {i j:Nat}(hi:i<m.length) (hj:(j:Int)<s.cols):0≤hideA s c m i j∧hideA s c m i j≤hV c (el (el m i) j):=by
 obtain ⟨hr,hw,hh,hn,hl⟩:=hide_ok h
 obtain ⟨hs,hc,_,_,_⟩:=room_ok hr
 have hb:=Sheet.bounds hs
 have hcb:=Screen.bounds hc
 refine ⟨lean_ge0 (by omega) (fun k hk=>?_) (by omega),?_⟩
 ·rw [hide_el hi (hl i hi) (by omega)]
  rcases hV_at c (el (el m i) k) with e|e<;>rw [e]<;>omega
 ·have:=lean_le (a:=s.lean) (w:=el (el (hideTo c m m.length) i)) (n:=s.cols.toNat) (j:=j) (by omega)
  rw [hide_el hi (hl i hi) hj] at this
  exact this
theorem hide_dot {s:Sheet}{c:Screen}{m:List (List Bool)}(h:hideErr s c m=0) {by':Int}(hb0:0≤by') (hb1:by'<c.period) {i j:Nat}(hi:i<m.length) (hj:(j:Int)<s.cols) :
  dotB s (hideF s c m) (rowN c by' i) j=decide (hideA s c m i j≤by'∧by'-hideA s c m i j<s.weight):=by
 obtain ⟨hr,hw,hh,hn,hl⟩:=hide_ok h
 obtain ⟨hs,hc,h0,_,hrw⟩:=room_ok hr
 have hb:=Sheet.bounds hs
 have hcb:=Screen.bounds hc
 have hc12:=cntF_le s c
 have hrow:((rowN c by' i:Nat):Int)=c.phase+(i:Int)*c.period+by':=by
  have:=mulP hc (k:=i) (by omega)
  unfold rowN
  omega
 have hel:∀ k,k<m.length→el (el (hideF s c m) k) j=hideA s c m k j+(c.phase+(k:Int)*c.period):=fun k hk=>by
  rw [hideF_ok h]
  unfold drawTo
  rw [el_map_range (by omega),drawRow_el (by omega)]
  rfl
 have hA:=hideA_bnd h hi hj
 have hlen:(hideF s c m).length=m.length:=by rw [hideF_ok h,drawTo_len,hn]
 have key:∀ k,k<m.length→dotAt s (rowN c by' i) j (el (hideF s c m) k)=true→k=i:=fun k hk hd=>by
  unfold dotAt at hd
  rw [withinB_iff,hrow,hel k hk] at hd
  have hAk:=hideA_bnd h hk hj
  have hv:hV c (el (el m k) j)≤c.period/2:=by rcases hV_at c (el (el m k) j) with e|e<;>rw [e]<;>omega
  rcases Nat.lt_trichotomy k i with h1|h1|h1
  ·have:((k:Int)+1)*c.period≤(i:Int)*c.period:=Int.mul_le_mul_of_nonneg_right (by omega) (by omega)
   rw [Int.add_mul,Int.one_mul] at this
   omega
  ·exact h1
  ·have:((i:Int)+1)*c.period≤(k:Int)*c.period:=Int.mul_le_mul_of_nonneg_right (by omega) (by omega)
   rw [Int.add_mul,Int.one_mul] at this
   omega
 have hat:dotAt s (rowN c by' i) j (el (hideF s c m) i)=decide (hideA s c m i j≤by'∧by'-hideA s c m i j<s.weight):=by
  unfold dotAt
  rw [hrow,hel i hi]
  refine Bool.eq_iff_iff.2 ?_
  rw [withinB_iff,decide_eq_true_eq]
  omega
 rw [← hat]
 unfold dotB
 cases hd:dotAt s (rowN c by' i) j (el (hideF s c m) i)
 ·refine none_el fun k hk=>?_
  rw [hlen] at hk
  cases hk2:dotAt s (rowN c by' i) j (el (hideF s c m) k)
  ·rfl
  ·have:=key k hk hk2
   subst this
   rw [hd] at hk2
   cases hk2
 ·exact any_el (k:=i) (by omega) hd
theorem hide_seen {s:Sheet}{c:Screen}{m:List (List Bool)}(h:hideErr s c m=0) {by':Int}(hb0:0≤by') (hb1:by'<c.period):seenErr s (hideF s c m) c by'=0∧(seenF s (hideF s c m) c by').length=m.length ∧
  ∀ i,i<m.length→(el (seenF s (hideF s c m) c by') i).length=(el m i).length∧∀ j,j<(el m i).length→el (el (seenF s (hideF s c m) c by') i) j=decide (hideA s c m i j≤by'∧by'-hideA s c m i j<s.weight):=by
 obtain ⟨hr,hw,hh,hn,hl⟩:=hide_ok h
 obtain ⟨hs,hc,h0,_,hrw⟩:=room_ok hr
 have hb:=Sheet.bounds hs
 have he:seenErr s (hideF s c m) c by'=0:=seenErr_ok (check_band hs (hide_band h)) ⟨hc,withinB_iff.2 ⟨hb0,by omega⟩⟩
 rw [seenF_ok he,seenTo_len]
 refine ⟨he,hn.symm,fun i hi=>?_⟩
 have hli:=hl i hi
 unfold seenTo
 rw [el_map_range (by omega),seenRow_len]
 refine ⟨by omega,fun j hj=>?_⟩
 unfold seenRow
 rw [el_map_range (by omega)]
 exact hide_dot h hb0 hb1 hi (by omega)
def pPaper (w cl:Int) (d:Nat→Bool):Nat→Int × Int × Int
 | 0=>(cl,0,0)
 | r+1=>if d r=true then (if (pPaper w cl d r).2.1 % w=0 then (0,(pPaper w cl d r).2.1+1,(pPaper w cl d r).2.2+1) else ((pPaper w cl d r).1,(pPaper w cl d r).2.1+1,(pPaper w cl d r).2.2)) else ((pPaper w cl d r).1+1,0,(pPaper w cl d r).2.2)
def cntD (d:Nat→Bool):Nat→Nat
 | 0=>0
 | r+1=>cntD d r+(if d r=true then 1 else 0)
structure Col (w cl R:Int) (n:Nat) (l:Nat→Int) (d:Nat→Bool):Prop where
 hw:1≤w
 hc:0≤cl
 low:∀ i,i<n→0≤l i∧l i+w≤R
 gap:∀ i,i+1<n→l i+w+cl≤l (i+1)
 dot:∀ r:Nat,d r=true↔∃ i,i<n∧l i≤r∧(r:Int)<l i+w
theorem Col.far {w cl R:Int}{n:Nat}{l:Nat→Int}{d:Nat→Bool}(h:Col w cl R n l d):∀ (e i:Nat),i+(e+1)<n→l i+w+cl≤l (i+(e+1))
 | 0,i,hi=>h.gap i hi
 | e+1,i,hi=>by
  have h1:=h.far e i (by omega)
  have h2:=h.gap (i+(e+1)) (by omega)
  have:=h.hw
  have:=h.hc
  rw [show i+(e+1+1)=i+(e+1)+1 by omega]
  omega
theorem Col.apart {w cl R:Int}{n:Nat}{l:Nat→Int}{d:Nat→Bool}(h:Col w cl R n l d) {i j:Nat}(hij:i<j) (hj:j<n):l i+w+cl≤l j:=by
 have:=h.far (j-i-1) i (by omega)
 rw [show i+(j-i-1+1)=j by omega] at this
 exact this
structure At (w cl:Int) (n:Nat) (l:Nat→Int) (d:Nat→Bool) (r L:Nat):Prop where
 le:L≤n
 old:∀ i,i<L→l i<r
 new:∀ i,L≤i→i<n→(r:Int)≤l i
 zero:L=0→(pPaper w cl d r).2.1=0∧(pPaper w cl d r).2.2=0∧cntD d r=0
 lines:(pPaper w cl d r).2.2=L
 ink:0<L→(r:Int)<l (L-1)+w→(pPaper w cl d r).2.1 % w=r-l (L-1)∧(pPaper w cl d r).1=0∧(cntD d r:Int)=(L:Int)*w-w+(r-l (L-1))
 edge:0<L→l (L-1)+w≤r→(pPaper w cl d r).2.1 % w=0∧(pPaper w cl d r).1=r-l (L-1)-w∧(cntD d r:Int)=(L:Int)*w
theorem Col.at_ {w cl R:Int}{n:Nat}{l:Nat→Int}{d:Nat→Bool}(h:Col w cl R n l d):∀ r,∃ L,At w cl n l d r L∧(d r=false→(pPaper w cl d r).2.1 % w=0)∧(d r=true→(pPaper w cl d r).2.1 % w=0→(pPaper w cl d r).2.2=0∨cl≤(pPaper w cl d r).1):=by
  have hw:=h.hw
  have hc:=h.hc
  have key:∀ {r L:Nat},At w cl n l d r L→(d r=true↔(0<L∧(r:Int)<l (L-1)+w)∨(L<n∧l L=r)):=fun {r L} a=>by
    rw [h.dot]
    constructor
    · rintro ⟨i,hi,h1,h2⟩
      rcases Nat.lt_or_ge i L with h3|h3
      · rcases Nat.lt_or_ge (i+1) L with h4|h4
        · have:=h.apart (i:=i) (j:=L-1) (by omega) (by have:=a.le;omega)
          have:=a.old (L-1) (by omega)
          omega
        · obtain rfl:i=L-1:=by omega
          exact .inl ⟨by omega,h2⟩
      · have h4:=a.new i h3 hi
        rcases Nat.lt_or_ge L i with h5|h5
        · have:=h.apart h5 hi
          have:=a.new L (Nat.le_refl _) (by omega)
          omega
        · obtain rfl:i=L:=by omega
          exact .inr ⟨hi,by omega⟩
    · rintro (⟨h1,h2⟩|⟨h1,h2⟩)
      · exact ⟨L-1,by have:=a.le;omega,by have:=a.old (L-1) (by omega);omega,h2⟩
      · exact ⟨L,h1,by omega,by omega⟩
  have asks:∀ {r L:Nat},At w cl n l d r L→(d r=false→(pPaper w cl d r).2.1 % w=0)∧(d r=true→(pPaper w cl d r).2.1 % w=0→(pPaper w cl d r).2.2=0∨cl≤(pPaper w cl d r).1):=fun {r L} a=>by
    have k:=key a
    refine ⟨fun hf=>?_,fun ht h0=>?_⟩
    · rw [hf] at k
      have k':¬ ((0<L∧(r:Int)<l (L-1)+w)∨(L<n∧l L=r)):=fun x=>by have:=k.2 x;cases this
      rcases Nat.eq_zero_or_pos L with h1|h1
      · rw [(a.zero h1).1];exact Int.zero_emod _
      · by_cases h2:(r:Int)<l (L-1)+w
        · exact (k' (.inl ⟨h1,h2⟩)).elim
        · exact (a.edge h1 (by omega)).1
    · rcases Nat.eq_zero_or_pos L with h1|h1
      · exact .inl (a.zero h1).2.1
      · by_cases h2:(r:Int)<l (L-1)+w
        · have:=(a.ink h1 h2).1
          have:=a.old (L-1) (by omega)
          omega
        · rcases k.1 ht with ⟨_,h3⟩|⟨h3,h4⟩
          · omega
          · have:=(a.edge h1 (by omega)).2.1
            have:=h.apart (i:=L-1) (j:=L) (by omega) h3
            right
            omega
  intro r
  induction r with
  | zero =>
    refine ⟨0,?_⟩
    have a:At w cl n l d 0 0:=⟨Nat.zero_le _,fun i hi=>by omega,fun i _ hi=>(h.low i hi).1,fun _=>⟨rfl,rfl,rfl⟩,rfl,fun h=>by omega,fun h=>by omega⟩
    exact ⟨a,asks a⟩
  | succ r ih =>
    obtain ⟨L,a,_⟩:=ih
    have k:=key a
    have ak:=asks a
    have hle:=a.le
    have hlines:=a.lines
    have inkStep:∀ (L':Nat),L'≤n→0<L'→(∀ i,i<L'→l i<(r:Int)+1)→(∀ i,L'≤i→i<n→(r:Int)+1≤l i)→(pPaper w cl d (r+1)).2.2=L'→(pPaper w cl d (r+1)).1=0→(r:Int)<l (L'-1)+w →
        (pPaper w cl d (r+1)).2.1 % w=(if (r:Int)+1-l (L'-1)=w then 0 else (r:Int)+1-l (L'-1))→(cntD d (r+1):Int)=(L':Int)*w-w+((r:Int)+1-l (L'-1))→At w cl n l d (r+1) L':=fun L' h1 h2 h3 h4 h5 h6 h7 h8 h9=>{
      le:=h1,old:=fun i hi=>by have:=h3 i hi;omega,new:=fun i hi hn=>by have:=h4 i hi hn;omega,zero:=fun h=>by omega,lines:=h5
      ink:=fun _ hb=>by
        rw [if_neg (by omega)] at h8
        refine ⟨by omega,h6,by omega⟩
      edge:=fun _ hb=>by
        rw [if_pos (by omega)] at h8
        refine ⟨h8,by omega,by omega⟩ }
    by_cases hA:0<L∧(r:Int)<l (L-1)+w
    · have hd:d r=true:=k.2 (.inl hA)
      obtain ⟨i1,i2,i3⟩:=a.ink hA.1 hA.2
      have hold:=a.old (L-1) (by omega)
      have hne:¬ (pPaper w cl d r).2.1 % w=0:=by omega
      have e:(pPaper w cl d (r+1)).2.1=(pPaper w cl d r).2.1+1∧(pPaper w cl d (r+1)).2.2=(pPaper w cl d r).2.2∧(pPaper w cl d (r+1)).1=(pPaper w cl d r).1:=by simp only [pPaper,hd,if_true];rw [if_neg hne];exact ⟨rfl,rfl,rfl⟩
      obtain ⟨e1,e2,e3⟩:=e
      have e4:cntD d (r+1)=cntD d r+1:=by simp [cntD,hd]
      have b:At w cl n l d (r+1) L:=by
        refine inkStep L hle hA.1 (fun i hi=>by have:=a.old i hi;omega) (fun i hi hn=>?_) (by omega) (by omega) hA.2 ?_ (by rw [e4];omega)
        · have:=h.apart (i:=L-1) (j:=i) (by omega) hn
          omega
        · rw [e1,Int.add_emod,i1]
          by_cases hw1:w=1
          · omega
          · rw [Int.emod_eq_of_lt (show (0:Int)≤1 by omega) (by omega)]
            split
            · rw [show (r:Int)-l (L-1)+1=w by omega];exact Int.emod_self
            · rw [Int.emod_eq_of_lt (by omega) (by omega)];omega
      exact ⟨L,b,(asks b).1,(asks b).2⟩
    · have h0:(pPaper w cl d r).2.1 % w=0∧(cntD d r:Int)=(L:Int)*w:=by
        rcases Nat.eq_zero_or_pos L with h1|h1
        · obtain ⟨z1,z2,z3⟩:=a.zero h1
          rw [z1,z3,h1]
          exact ⟨Int.zero_emod _,by simp⟩
        · obtain ⟨z1,z2,z3⟩:=a.edge h1 (by omega)
          exact ⟨z1,z3⟩
      by_cases hB:L<n∧l L=r
      · have hd:d r=true:=k.2 (.inr hB)
        have e:(pPaper w cl d (r+1)).2.1=(pPaper w cl d r).2.1+1∧(pPaper w cl d (r+1)).2.2=(pPaper w cl d r).2.2+1∧(pPaper w cl d (r+1)).1=0:=by simp only [pPaper,hd,if_true];rw [if_pos h0.1];exact ⟨rfl,rfl,rfl⟩
        obtain ⟨e1,e2,e3⟩:=e
        have e4:cntD d (r+1)=cntD d r+1:=by simp [cntD,hd]
        have hm:((L+1:Nat):Int)*w=(L:Int)*w+w:=by rw [Int.natCast_succ,Int.add_mul,Int.one_mul]
        have b:At w cl n l d (r+1) (L+1):=by
          refine inkStep (L+1) hB.1 (by omega) (fun i hi=>?_) (fun i hi hn=>?_) (by omega) e3 (by rw [show L+1-1=L by omega];omega) ?_ ?_
          · rcases Nat.lt_or_ge i L with h1|h1
            · have:=a.old i h1;omega
            · obtain rfl:i=L:=by omega
              omega
          · have:=h.apart (i:=L) (j:=i) (by omega) hn
            omega
          · rw [show L+1-1=L by omega,e1,Int.add_emod,h0.1,Int.zero_add,Int.emod_emod]
            split
            · rw [show w=1 by omega];rfl
            · rw [Int.emod_eq_of_lt (by omega) (by omega)];omega
          · rw [e4,hm,show L+1-1=L by omega]
            omega
        exact ⟨L+1,b,(asks b).1,(asks b).2⟩
      · have hd:d r=false:=by
          cases hd:d r
          · rfl
          · rcases k.1 hd with h1|h1
            · exact (hA h1).elim
            · exact (hB h1).elim
        have e:(pPaper w cl d (r+1)).2.1=0∧(pPaper w cl d (r+1)).2.2=(pPaper w cl d r).2.2∧(pPaper w cl d (r+1)).1=(pPaper w cl d r).1+1:=by simp only [pPaper,hd];exact ⟨rfl,rfl,rfl⟩
        obtain ⟨e1,e2,e3⟩:=e
        have e4:cntD d (r+1)=cntD d r:=by simp [cntD,hd]
        have b:At w cl n l d (r+1) L:={
          le:=hle,old:=fun i hi=>by have:=a.old i hi;omega
          new:=fun i hi hn=>by
            have h1:=a.new i hi hn
            rcases Nat.lt_or_ge L i with h2|h2
            · have:=h.apart h2 hn
              have:=a.new L (Nat.le_refl _) (by omega)
              omega
            · obtain rfl:i=L:=by omega
              have:¬ l i=r:=fun e=>hB ⟨hn,e⟩
              omega
          zero:=fun h1=>by
            obtain ⟨z1,z2,z3⟩:=a.zero h1
            exact ⟨e1,by omega,by omega⟩
          lines:=by omega
          ink:=fun h1 h2=>(hA ⟨h1,by omega⟩).elim
          edge:=fun h1 h2=>by
            obtain ⟨z1,z2,z3⟩:=a.edge h1 (by omega)
            exact ⟨by rw [e1];exact Int.zero_emod _,by omega,by rw [e4];exact z3⟩ }
        exact ⟨L,b,(asks b).1,(asks b).2⟩
theorem Col.all {w cl:Int}{R n:Nat}{l:Nat→Int}{d:Nat→Bool}(h:Col w cl R n l d):(pPaper w cl d R).2.2=n∧(cntD d R:Int)=(n:Int)*w:=by
 have hw:=h.hw
 obtain ⟨L,a,_,_⟩:=h.at_ R
 have hn:L=n:=by
  rcases Nat.lt_or_ge L n with h1|h1
  ·have:=a.new L (Nat.le_refl _) h1
   have:=h.low L h1
   omega
  ·have:=a.le;omega
 subst hn
 refine ⟨a.lines,?_⟩
 rcases Nat.eq_zero_or_pos L with h1|h1
 ·rw [(a.zero h1).2.2,h1];simp
 ·have:=h.low (L-1) (by omega)
  exact (a.edge h1 (by omega)).2.2
theorem numTo_bits {n:Nat}(hn:n<32768):∀ j,j≤15→numTo (bitB n) j=shN n (15-j)
 | 0,_=>by
  show 0=n/pow2 15
  rw [show pow2 15=32768 from rfl,Nat.div_eq_of_lt hn]
 | j+1,hj=>by
  simp only [numTo]
  rw [numTo_bits hn j (by omega)]
  have h1:=half_pow n (14-j)
  rw [show 14-j+1=15-j by omega] at h1
  have h2:bitB n j=decide (shN n (14-j) % 2=1):=rfl
  rw [show 15-(j+1)=14-j by omega,h1,h2]
  by_cases e:shN n (14-j) % 2=1
  ·rw [if_pos (by simpa using e)];omega
  ·rw [if_neg (by simpa using e)];omega
theorem numTo_word {n:Nat}(hn:n<32768):numTo (bitB n) 15=n:=by
 rw [numTo_bits hn 15 (Nat.le_refl _)]
 show n/1=n
 exact Nat.div_one n
theorem cnt_none {l:List Bool}{a:Nat}:∀ {n:Nat},(∀ q,q<n→el l (a+q)=false)→cntTo l a n=0
 | 0,_=>rfl
 | n+1,h=>by simp only [cntTo];rw [cnt_none fun q hq=>h q (by omega),h n (by omega)];rfl
theorem cnt_ge {l:List Bool}{a lo hi:Nat}(h:∀ q,lo≤q→q<hi→el l (a+q)=true):∀ n:Nat,(min n hi:Nat)≤lo+cntTo l a n
 | 0=>by simp
 | n+1=>by
  have ih:=cnt_ge h n
  simp only [cntTo]
  by_cases h1:lo≤n∧n<hi
  ·rw [if_pos (h n h1.1 h1.2)];omega
  ·split<;>omega
theorem cell_yes {m:List (List Bool)}{z g r k d:Nat}(hz:4*d<z) (h:∀ q,d≤q→q<z-d→el (el m r) (z*(4*g+k)+q)=true):cellB m z g r k=true:=by
 have:=cnt_ge h z
 unfold cellB
 rw [decide_eq_true_eq]
 omega
theorem cell_no {m:List (List Bool)}{z g r k:Nat}(h:∀ q,q<z→el (el m r) (z*(4*g+k)+q)=false):cellB m z g r k=false:=by
 unfold cellB
 rw [cnt_none h]
 simp
theorem cell_place {z g k q:Nat}(hk:k<4) (hq:q<z):(z*(4*g+k)+q)/(4*z)=g∧(z*(4*g+k)+q) % (4*z)/z=k:=by
 have h1:(z*(4*g+k)+q)/z=4*g+k:=by rw [Nat.mul_add_div (by omega),Nat.div_eq_of_lt hq];omega
 constructor
 ·rw [Nat.mul_comm 4 z,← Nat.div_div_eq_div_mul,h1];omega
 ·rw [Nat.mul_comm 4 z,Nat.mod_mul_right_div_self,h1];omega
theorem mask_cell {w:List Int}{z C L g r k q:Nat}(hr:r<L) (hk:k<3) (hq:q<z) (hC:z*(4*g+k)+q<C):el (el (maskTo w z C L) r) (z*(4*g+k)+q)=maskAt w r g k:=by
 obtain ⟨h1,h2⟩:=cell_place (g:=g) (show k<4 by omega) hq
 unfold maskTo
 rw [el_map_range hr]
 unfold maskRow
 rw [el_map_range hC,h1,h2]
theorem spell_word {w:List Int}{m:List (List Bool)}{z:Nat}(hw:wordB w=true) (h:∀ g,g<w.length→∀ r,r<5→∀ k,k<3→cellB m z g r k=bitB (el w g).toNat (r*3+k)):spellTo m z w.length=w:=by
 refine ext_el (spellTo_len _ _ _) fun g hg=>?_
 rw [spellTo_len] at hg
 unfold spellTo
 rw [el_map_range hg]
 have hwg:=withinB_iff.1 (of_all_el hw hg)
 have e:numTo (glyphB m z g) 15=numTo (bitB (el w g).toNat) 15:=numTo_congr fun j hj=>by
  have h1:=h g hg (j/3) (by omega) (j % 3) (by omega)
  unfold glyphB
  rw [h1]
  congr 1
  omega
 rw [e,numTo_word (by omega)]
 omega
theorem mask_parts {w:List Int}{size cols lines:Int}(h:maskErr w size cols lines=0):w.length≤8∧wordB w=true∧(1≤size∧size≤40)∧(1≤cols∧cols≤40)∧(1≤lines∧lines≤12)∧5≤lines∧wideI size w.length≤cols:=by
 unfold maskErr at h
 split at h
 ·cases h
 ·rename_i h1
  split at h
  ·rename_i h2
   split at h
   ·cases h
   ·rename_i h3
    exact ⟨by omega,h2.1,withinB_iff.1 h2.2.1,withinB_iff.1 h2.2.2.1,withinB_iff.1 h2.2.2.2,by omega,by omega⟩
  ·cases h
 done
theorem wide_cell {z g k:Nat}{w:List Int}{C:Nat}(hz:1≤z) (hC:wideI (z:Int) w.length≤(C:Int)) (hg:g<w.length) (hk:k<3):z*(4*g+k)+z≤C:=by
 have h1:=cell_in (z:=z) hg hk
 have h2:wideI (z:Int) w.length=((z*(4*w.length-1):Nat):Int):=by
  unfold wideI
  rw [Int.natCast_mul]
  congr 1
  omega
 omega
theorem spell_good {m:List (List Bool)}{z N C:Nat}(hz:1≤z∧z≤40) (hN:N≤8) (hm:5≤m.length) (hl:∀ r,r<5→(el m r).length=C) (hC:wideI (z:Int) N≤(C:Int)):spellErr m z N=0 :=
 spellErr_ok ⟨withinB_iff.2 (by omega),withinB_iff.2 (by omega)⟩ (by omega) (long_yes (by omega) fun r hr=>by rw [hl r hr];exact hC)
theorem hideA_in {s:Sheet}{c:Screen}{m:List (List Bool)}(h:hideErr s c m=0) (hlean:1≤s.lean) {i a z q d:Nat}(hi:i<m.length) (haz:((a+z:Nat):Int)≤s.cols) (hon:∀ q,q<z→el (el m i) (a+q)=true) (hd:(d:Int)=(c.period/2-s.weight)/s.lean) (hq1:d≤q) (hq2:q<z-d) :
  hideA s c m i (a+q)≤c.period/2∧c.period/2-hideA s c m i (a+q)<s.weight:=by
 obtain ⟨hr,hw,hh,hn,hl⟩:=hide_ok h
 obtain ⟨hs,hc,h0,_,_⟩:=room_ok hr
 have hb:=Sheet.bounds hs
 have hcb:=Screen.bounds hc
 have hbn:=hideA_bnd h hi (j:=a+q) (by omega)
 have hle:hV c (el (el m i) (a+q))≤c.period/2:=by rcases hV_at c (el (el m i) (a+q)) with e|e<;>rw [e]<;>omega
 refine ⟨by omega,?_⟩
 obtain ⟨k,hk,h1⟩:=lean_some (a:=s.lean) (w:=el (el (hideTo c m m.length) i)) (n:=s.cols.toNat) (j:=a+q) (by omega) (by omega)
 rw [hide_el hi (hl i hi) (by omega)] at h1
 have hA:hideA s c m i (a+q)=leanAt s.lean (el (el (hideTo c m m.length) i)) s.cols.toNat (a+q):=rfl
 rw [← hA] at h1
 have hf0:0≤farI (a+q) k:=by unfold farI;omega
 have hm0:0≤s.lean*farI (a+q) k:=Int.mul_nonneg (by omega) hf0
 by_cases hin:a≤k∧k<a+z
 ·have h2:=hon (k-a) (by omega)
  rw [show a+(k-a)=k by omega] at h2
  rw [h2] at h1
  have:hV c true=c.period/2:=rfl
  omega
 ·have hfar:(d:Int)+1≤farI (a+q) k:=by unfold farI;omega
  have h3:s.lean*((d:Int)+1)≤s.lean*farI (a+q) k:=Int.mul_le_mul_of_nonneg_left hfar (by omega)
  have h4:c.period/2-s.weight<s.lean*((d:Int)+1):=by
   rw [hd,Int.mul_add,Int.mul_one]
   have h5:=Int.mul_ediv_add_emod (c.period/2-s.weight) s.lean
   have h6:=Int.emod_lt_of_pos (c.period/2-s.weight) (show 0<s.lean by omega)
   omega
  have h5:0≤hV c (el (el m i) k):=(hV_bnd hc _).1
  omega
theorem spell_seen {s:Sheet}{c:Screen}{w:List Int}{z:Nat}(hr:roomErr s c=0) (h:maskErr w z s.cols (roomN s c)=0) (hh:hideErr s c (maskF w z s.cols (roomN s c))=0) (hlean:1≤s.lean) (hz:(c.period/2-s.weight)/s.lean*4<z) :
  spellErr (seenF s (hideF s c (maskF w z s.cols (roomN s c))) c (c.period/2)) z w.length=0∧spellF (seenF s (hideF s c (maskF w z s.cols (roomN s c))) c (c.period/2)) z w.length=w:=by
 obtain ⟨h8,hw,hz1,hC,hL,h5,hwd⟩:=mask_parts h
 obtain ⟨hs,hc,h0,hrn,_⟩:=room_ok hr
 obtain ⟨_,hwt,hhf,hml,hmr⟩:=hide_ok hh
 have hb:=Sheet.bounds hs
 have hcb:=Screen.bounds hc
 obtain ⟨se,sl,sr⟩:=hide_seen hh (by':=c.period/2) (by omega) (by omega)
 obtain ⟨C,hCe⟩:∃ C:Nat,s.cols=(C:Int):=⟨s.cols.toNat,by omega⟩
 have hmf:maskF w z s.cols (roomN s c)=maskTo w z C (cntF s c):=by
  rw [maskF_ok h,hrn,Int.toNat_natCast,Int.toNat_natCast,hCe,Int.toNat_natCast]
 have hd0:0≤(c.period/2-s.weight)/s.lean:=Int.ediv_nonneg (by omega) (by omega)
 obtain ⟨d,hd⟩:∃ d:Nat,(d:Int)=(c.period/2-s.weight)/s.lean:=⟨((c.period/2-s.weight)/s.lean).toNat,by omega⟩
 generalize hM:maskF w z s.cols (roomN s c)=M at *
 generalize hS:seenF s (hideF s c M) c (c.period/2)=S at *
 have hMl:∀ r,r<5→(el M r).length=C:=fun r hr=>by have:=hmr r (by omega);omega
 have he:spellErr S z w.length=0:=by
  refine spell_good (C:=C) (by omega) h8 (by omega) (fun r hr=>?_) (by omega)
  rw [(sr r (by omega)).1,hMl r hr]
 refine ⟨he,?_⟩
 rw [spellF_ok he,Int.toNat_natCast,Int.toNat_natCast]
 refine spell_word hw fun g hg r hr k hk=>?_
 have hin:=wide_cell (z:=z) (w:=w) (C:=C) (by omega) (by omega) hg hk
 have hat:∀ q,q<z→el (el M r) (z*(4*g+k)+q)=bitB (el w g).toNat (r*3+k):=fun q hq=>by
  rw [hmf,mask_cell (by omega) hk hq (by omega),maskAt_t hr hg hk]
 have hsn:∀ q,q<z→el (el S r) (z*(4*g+k)+q)=decide (hideA s c M r (z*(4*g+k)+q)≤c.period/2∧c.period/2-hideA s c M r (z*(4*g+k)+q)<s.weight):=fun q hq =>
  (sr r (by omega)).2 _ (by rw [hMl r hr];omega)
 cases hbt:bitB (el w g).toNat (r*3+k)
 ·refine cell_no fun q hq=>?_
  rw [hsn q hq,decide_eq_false_iff_not]
  have hA:=hideA_bnd hh (i:=r) (j:=z*(4*g+k)+q) (by omega) (by omega)
  rw [hat q hq,hbt] at hA
  have:hV c false=0:=rfl
  omega
 ·refine cell_yes (d:=d) (by omega) fun q hq1 hq2=>?_
  rw [hsn q (by omega),decide_eq_true_eq]
  exact hideA_in hh hlean (z:=z) (by omega) (by omega) (fun q hq=>by rw [hat q hq,hbt]) hd hq1 hq2
end Go.Proofs.YtbilpbabdgfblaaGreat
