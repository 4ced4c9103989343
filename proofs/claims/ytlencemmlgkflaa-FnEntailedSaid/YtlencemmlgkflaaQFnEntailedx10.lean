-- Made by a program of this claim's own (wip/print): not the kit's print as it stands.
import Derived.Test.YtlencemmlgkflaaUFnEntailedTri
import Derived.Test.YtlencemmlgkflaaQFnEntailedx0
import Derived.Test.YtlencemmlgkflaaQFnEntailedx7
import Derived.Test.YtlencemmlgkflaaQFnEntailedx8
import Derived.Test.YtlencemmlgkflaaQFnEntailedx9
namespace Go.Proofs.Ytlencemmlgkflaa.QFnEntailed
open Go.RowKit Go.Proofs.YtlencemmlgkflaaV.PrintWords Go.Proofs.YtlencemmlgkflaaV.PrintLast Go.Proofs.YtlencemmlgkflaaV.PrintMore
attribute [local go_sem] max2_int min2_int max_two min_two max_three min_three max_four min_four   -- for this text's walks alone
set_option linter.unusedVariables false
set_option linter.unusedSimpArgs false

/-! ### spec_IsConstant: function 86 -/
def spec_IsConstant.l0 : Nat → Int → Int → List Int → Option (Bool)
 | 0, _, _, _ => none
 | k + 1, x3, x280000, x280001 => if x3 < (x280001.length : Int) then (if 0 ≤ x3 then (if (rd x280001 x3) = 0 then (spec_IsConstant.l0 k (wrap64 (x3 + 1)) x280000 x280001) else (some false)) else (none)) else (some true)
def spec_IsConstant.f (k : Nat) (a0_0 : Int) (l0_1 : List Int) : Option (Bool) := spec_IsConstant.l0 k 0 a0_0 l0_1
theorem spec_IsConstant.mono_l : ∀ k, (∀ y0 y1 y2, LeO (spec_IsConstant.l0 k y0 y1 y2) (spec_IsConstant.l0 (k + 1) y0 y1 y2))
 | 0 => fun _ _ _ r h => by simp [spec_IsConstant.l0] at h
 | k + 1 => by
  have ih0 := spec_IsConstant.mono_l k
  ·intro y0 y1 y2
   unfold spec_IsConstant.l0
   repeat' with_reducible first
   | exact ih0 _ _ _
   | exact LeO.refl _
   | exact LeO.none _
   | refine LeO.ite ?_ ?_
   | refine LeO.bind ?_ (fun _ => ?_)
theorem spec_IsConstant.mono : ∀ a0 a1 k, LeO (spec_IsConstant.f k a0 a1) (spec_IsConstant.f (k + 1) a0 a1) := by
 intro a0 a1 k
 have ih0 := spec_IsConstant.mono_l k
 unfold spec_IsConstant.f
 repeat' with_reducible first
 | exact ih0 _ _ _
 | exact LeO.refl _
 | exact LeO.none _
 | refine LeO.ite ?_ ?_
 | refine LeO.bind ?_ (fun _ => ?_)
set_option maxHeartbeats 8000000 in
set_option maxRecDepth 100000 in
theorem spec_IsConstant.calls (k : Nat) (a0_0 : Int) (A0_1 : Option Addr) (c0_1 : Nat) (l0_1 : List Int) (r : Bool) (w : World) (hr0_1 : Kd.C (Kd.int .i64) w A0_1 l0_1.length l0_1) (hc0_1 : l0_1.length ≤ c0_1) (h : spec_IsConstant.f k a0_0 l0_1 = some r) :
  Calls Try.prog 86 #[.agg #[.int .i64 a0_0, .slice A0_1 l0_1.length c0_1]] w fun e w' => e = .returned (.bool r) ∧ Below w.heap.size w w' := by
 have hu29 := Try.underlying29
 have HR0_1 := Aside0.mk hr0_1
 have HC0_1 := Aside0.mk hc0_1
 clear hr0_1 hc0_1
 have HB := Aside0.mk (Below.refl w.heap.size w)
 have H : (spec_IsConstant.l0 k 0 a0_0 l0_1) = some r := h
 clear h
 have H' := Aside0.mk H
 clear H
 go_enter Try.func86, Try.ntmps86
 go_wp2_with (first | ((with_reducible refine gate_dst (N := 1) rfl ?_); refine box_event ?hg (N := 1) ?hd (cs := #[.int .i64 a0_0, .slice A0_1 l0_1.length c0_1]) (t := 29) ?hr ?_; (case hd => rfl); (case hg => rfl); (case hr => first | (go_simp; done) | (go_simp; rfl)); intro gb279 hg w2 hbox hb; have BK279 := Aside0.mk (hbox); have GW279 := gw hg HB; have GE279 := gw hg HB; replace HB := bs HB hb; clear hb hbox hg))
 go_loopg [3] k (fun kq v3 w' => ∃ (x3_1 : Int), v3 = .int .i64 x3_1 ∧ Aside0 (spec_IsConstant.l0 kq x3_1 a0_0 l0_1 = some r) ∧ Aside0 (kq ≤ k) ∧ Aside0 (w'.heap[gb279]? = some (.cells #[.int .i64 a0_0, (.slice A0_1 l0_1.length c0_1)] 29 (0, 0))) ∧ Aside0 (Below w.heap.size w w'))
 case atStart => exact ⟨(0), (by first | rfl | (simp; done) | (simp [*]; done)), H', ⟨Nat.le_refl _⟩, ⟨mb BK279⟩, ⟨ms HB⟩⟩
 case round =>
  clear H'
  try clear p2
  obtain ⟨x3_1, rfl, HA, HK1, BK279, HB⟩ := hrel
  cases gk with
  | zero => exact absurd HA.out (by simp [spec_IsConstant.l0])
  | succ k1 =>
   have H := HA.out
   clear HA
   simp only [spec_IsConstant.l0] at H
   by_cases c3 : x3_1 < (l0_1.length : Int)
   ·rw [if_pos c3] at H
    have c3b0 : decide (x3_1 < (l0_1.length : Int)) = true := decide_eq_true c3
    clear c3
    by_cases c4 : 0 ≤ x3_1
    ·rw [if_pos c4] at H
     have c4b0 : decide (0 ≤ x3_1) = true := decide_eq_true c4
     clear c4
     by_cases c5 : (rd l0_1 x3_1) = 0
     ·rw [if_pos c5] at H
      have c5b0 : ((rd l0_1 x3_1) == 0) = true := beq_iff_eq.mpr c5
      have c5b1 : ((rd l0_1 x3_1) != 0) = false := bne_eq_false_iff_eq.mpr c5
      clear c5
      have H' := Aside0.mk H
      clear H
      obtain ⟨_, _, _, _⟩ := cFour BK279
      have p280 : 0 ≤ (x3_1 : Int) := of_decide_eq_true (by first | (with_reducible assumption) | assumption)
      have q280 : x3_1 < (l0_1.length : Int) := of_decide_eq_true (by first | (with_reducible assumption) | assumption)
      obtain ⟨ad280, e280, hx280_0⟩ := Kd.at_int HR0_1.out x3_1 p280 q280
      cases e280
      replace hx280_0 := (HB.out.cell (World.block_lt_of_cell? w _ hx280_0)).trans hx280_0
      replace p280 := eq_true p280
      replace q280 := eq_true q280
      go_wp2
      go_roundg k1
      case measure => have := HK1.out; omega
      case rel => exact ⟨(wrap64 (x3_1 + 1)), (by first | rfl | (simp; done) | (simp [*]; done)), H', ⟨by have := HK1.out; omega⟩, ⟨mb BK279⟩, ⟨ms HB⟩⟩
     rw [if_neg c5] at H
     have c5b0 : ((rd l0_1 x3_1) == 0) = false := beq_eq_false_iff_ne.mpr c5
     have c5b1 : ((rd l0_1 x3_1) != 0) = true := bne_iff_ne.mpr c5
     obtain rfl := Option.some.inj H
     obtain ⟨_, _, _, _⟩ := cFour BK279
     have p280 : 0 ≤ (x3_1 : Int) := of_decide_eq_true (by first | (with_reducible assumption) | assumption)
     have q280 : x3_1 < (l0_1.length : Int) := of_decide_eq_true (by first | (with_reducible assumption) | assumption)
     obtain ⟨ad280, e280, hx280_0⟩ := Kd.at_int HR0_1.out x3_1 p280 q280
     cases e280
     replace hx280_0 := (HB.out.cell (World.block_lt_of_cell? w _ hx280_0)).trans hx280_0
     replace p280 := eq_true p280
     replace q280 := eq_true q280
     go_wp2
     go_ret
     exact ⟨by first | rfl | (simp [errW_none, errW_some] <;> rfl) | (simp [*, errW_none, errW_some] <;> rfl), ms HB⟩
    rw [if_neg c4] at H
    exact absurd H (by simp)
   rw [if_neg c3] at H
   have c3b0 : decide (x3_1 < (l0_1.length : Int)) = false := decide_eq_false c3
   clear c3
   obtain rfl := Option.some.inj H
   obtain ⟨_, _, _, _⟩ := cFour BK279
   go_wp2
   go_ret
   exact ⟨by first | rfl | (simp [errW_none, errW_some] <;> rfl) | (simp [*, errW_none, errW_some] <;> rfl), ms HB⟩

def spec_CheckFarkas.j0 : Nat → Bool → Int → List (S29) → Int → List Int → Int → List Int → Int → List Int → Option (Bool)
 | 0, _, _, _, _, _, _, _, _, _ => none
 | k + 1, x34, x336000, x336001, x337000, x337001, x338000, x338001, x344000, x344001 => if x34 = true then (some false) else ((spec_ConstLin.f 1 x336000).bind fun bt346 => ((spec_AddScaled.f k x337000 x337001 1 bt346.1 bt346.2).bind fun bt350 => ((spec_AddScaled.f k x344000 x344001 (wrap64 (-x338000)) bt350.1 bt350.2.1).bind fun bt356 => (if bt350.2.2 = true then (if bt356.2.2 = true then ((spec_IsConstant.f k bt356.1 bt356.2.1).bind fun t362 => (if t362 = true then (some (decide (bt356.1 < 0))) else (some false))) else (some false)) else (some false)))))
def spec_CheckFarkas.f (k : Nat) (a0_0 : Int) (l0_1 : List (S29)) (a1_0 : Int) (l1_1 : List Int) (a2_0 : Int) (l2_1 : List Int) : Option (Bool) := (spec_CombineRows.f k a0_0 l0_1 l2_1).bind fun bt338 => (if bt338.2.2 = true then ((spec_IsValidLin.f k a1_0 l1_1 a0_0).bind fun t344 => (if t344 = true then ((spec_l1In.f a2_0 0 1000000000).bind fun t345 => (spec_CheckFarkas.j0 k (!t345) a0_0 l0_1 a1_0 l1_1 a2_0 l2_1 bt338.1 bt338.2.1)) else (spec_CheckFarkas.j0 k true a0_0 l0_1 a1_0 l1_1 a2_0 l2_1 bt338.1 bt338.2.1))) else (spec_CheckFarkas.j0 k true a0_0 l0_1 a1_0 l1_1 a2_0 l2_1 bt338.1 bt338.2.1))
theorem spec_CheckFarkas.mono_l : ∀ k, (∀ y0 y1 y2 y3 y4 y5 y6 y7 y8, LeO (spec_CheckFarkas.j0 k y0 y1 y2 y3 y4 y5 y6 y7 y8) (spec_CheckFarkas.j0 (k + 1) y0 y1 y2 y3 y4 y5 y6 y7 y8))
 | 0 => fun _ _ _ _ _ _ _ _ _ r h => by simp [spec_CheckFarkas.j0] at h
 | k + 1 => by
  have ih0 := spec_CheckFarkas.mono_l k
  ·intro y0 y1 y2 y3 y4 y5 y6 y7 y8
   unfold spec_CheckFarkas.j0
   repeat' with_reducible first
   | exact ih0 _ _ _ _ _ _ _ _ _
   | exact spec_AddScaled.mono _ _ _ _ _ _
   | exact spec_CombineRows.mono _ _ _ _
   | exact spec_IsConstant.mono _ _ _
   | exact spec_IsValidLin.mono _ _ _ _
   | exact LeO.refl _
   | exact LeO.none _
   | refine LeO.ite ?_ ?_
   | refine LeO.bind ?_ (fun _ => ?_)
theorem spec_CheckFarkas.mono : ∀ a0 a1 a2 a3 a4 a5 k, LeO (spec_CheckFarkas.f k a0 a1 a2 a3 a4 a5) (spec_CheckFarkas.f (k + 1) a0 a1 a2 a3 a4 a5) := by
 intro a0 a1 a2 a3 a4 a5 k
 have ih0 := spec_CheckFarkas.mono_l k
 unfold spec_CheckFarkas.f
 repeat' with_reducible first
 | exact ih0 _ _ _ _ _ _ _ _ _
 | exact spec_AddScaled.mono _ _ _ _ _ _
 | exact spec_CombineRows.mono _ _ _ _
 | exact spec_IsConstant.mono _ _ _
 | exact spec_IsValidLin.mono _ _ _ _
 | exact LeO.refl _
 | exact LeO.none _
 | refine LeO.ite ?_ ?_
 | refine LeO.bind ?_ (fun _ => ?_)
theorem spec_CheckFarkas.j0_true {k : Nat} {a b c d e f g h r} (H : spec_CheckFarkas.j0 k true a b c d e f g h = some r) : r = false := by
 cases k with
 | zero => simp [spec_CheckFarkas.j0] at H
 | succ k => simpa [spec_CheckFarkas.j0] using H.symm
set_option maxHeartbeats 8000000 in
set_option maxRecDepth 100000 in
theorem spec_CheckFarkas.calls (k : Nat) (a0_0 : Int) (A0_1 : Option Addr) (c0_1 : Nat) (l0_1 : List (S29)) (a1_0 : Int) (A1_1 : Option Addr) (c1_1 : Nat) (l1_1 : List Int) (a2_0 : Int) (A2_1 : Option Addr) (c2_1 : Nat) (l2_1 : List Int) (r : Bool) (w : World) (hr0_1 : Kd.C k29 w A0_1 l0_1.length l0_1) (hc0_1 : l0_1.length ≤ c0_1) (hr1_1 : Kd.C (Kd.int .i64) w A1_1 l1_1.length l1_1) (hc1_1 : l1_1.length ≤ c1_1) (hr2_1 : Kd.C (Kd.int .i64) w A2_1 l2_1.length l2_1) (hc2_1 : l2_1.length ≤ c2_1) (h : spec_CheckFarkas.f k a0_0 l0_1 a1_0 l1_1 a2_0 l2_1 = some r) :
  Calls Try.prog 19 #[.agg #[.int .i64 a0_0, .slice A0_1 l0_1.length c0_1], .agg #[.int .i64 a1_0, .slice A1_1 l1_1.length c1_1], .agg #[.int .i64 a2_0, .slice A2_1 l2_1.length c2_1]] w fun e w' => e = .returned (.bool r) ∧ Below w.heap.size w w' := by
 have hu29 := Try.underlying29
 have hu26 := Try.underlying26
 have hu33 := Try.underlying33
 unfold spec_CheckFarkas.f at h
 obtain ⟨⟨s1, s1', sok⟩, A0, h⟩ := Option.bind_eq_some_iff.mp h
 have H0 := Aside0.mk A0
 dsimp only at h
 have H := Aside0.mk h
 have HR0_1 := Aside0.mk hr0_1
 have HC0_1 := Aside0.mk hc0_1
 have HR1_1 := Aside0.mk hr1_1
 have HC1_1 := Aside0.mk hc1_1
 have HR2_1 := Aside0.mk hr2_1
 have HC2_1 := Aside0.mk hc2_1
 clear hr0_1 hc0_1 hr1_1 hc1_1 hr2_1 hc2_1 h A0
 have HB := Aside0.mk (Below.refl w.heap.size w)
 go_enter Try.func19, Try.ntmps19
 go_upto_region 1 with (first | ((with_reducible refine gate_dst (N := 3) rfl ?_); refine box_event ?hg (N := 3) ?hd (cs := #[.int .i64 a0_0, .slice A0_1 l0_1.length c0_1]) (t := 26) ?hr ?_; (case hd => rfl); (case hg => rfl); (case hr => first | (go_simp; done) | (go_simp; rfl)); intro q3 hg_ wa hx_ hb_; have Gq3 := gw hg_ HB; replace HB := bs HB hb_; have X3 := Aside0.mk hx_; clear hg_ hx_ hb_) | ((with_reducible refine gate_dst (N := 4) rfl ?_); refine box_event ?hg (N := 4) ?hd (cs := #[.int .i64 a1_0, .slice A1_1 l1_1.length c1_1]) (t := 29) ?hr ?_; (case hd => rfl); (case hg => rfl); (case hr => first | (go_simp; done) | (go_simp; rfl)); intro q4 hg_ wb hx_ hb_; have Gq4 := gw hg_ HB; replace X3 := bb X3 hb_; replace HB := bs HB hb_; have X4 := Aside0.mk hx_; clear hg_ hx_ hb_) | ((with_reducible refine gate_dst (N := 5) rfl ?_); refine box_event ?hg (N := 5) ?hd (cs := #[.int .i64 a2_0, .slice A2_1 l2_1.length c2_1]) (t := 33) ?hr ?_; (case hd => rfl); (case hg => rfl); (case hr => first | (go_simp; done) | (go_simp; rfl)); intro q5 hg_ wo hx_ hb_; have Gq5 := gw hg_ HB; replace X3 := bb X3 hb_; replace X4 := bb X4 hb_; replace HB := bs HB hb_; have X5 := Aside0.mk hx_; clear hg_ hx_ hb_))
 have HB0 := HB
 clear HB
 replace HR0_1 := Aside0.mk (Kd.C_below HR0_1.out HB0.out)
 replace HR1_1 := Aside0.mk (Kd.C_below HR1_1.out HB0.out)
 replace HR2_1 := Aside0.mk (Kd.C_below HR2_1.out HB0.out)
 obtain ⟨h30, h31⟩ := c2 X3
 obtain ⟨h40, h41⟩ := c2 X4
 obtain ⟨h50, h51⟩ := c2 X5
 have HB := Aside0.mk (Below.refl wo.heap.size wo)
 go_upto_region 2 with (first | (go_at_call 33; refine (spec_CombineRows.calls k a0_0 A0_1 c0_1 l0_1 A2_1 c2_1 l2_1 s1 s1' sok _ (Kd.C_below HR0_1.out HB.out) HC0_1.out (Kd.C_below HR2_1.out HB.out) HC2_1.out H0.out).mono ?_; rintro e wp ⟨v1, rfl, ho, hb⟩; obtain ⟨As, cs, rfl⟩ := Kd.R_slice ho; have RS := Aside0.mk (Kd.R_lower ho HB.out.size); replace HB := bs HB hb; clear ho hb) | ((with_reducible refine gate_dst (N := 7) rfl ?_); refine box_event ?hg (N := 7) ?hd (cs := #[.int .i64 0, .slice none 0 0]) (t := 29) ?hr ?_; (case hd => rfl); (case hg => rfl); (case hr => first | (go_simp; done) | (go_simp; rfl)); intro q7 hg_ w7 hx_ hb_; have Gq7 := gw hg_ HB; replace HB := bs HB hb_; have X7 := Aside0.mk hx_; replace RS := rb RS hb_; obtain ⟨hz0, hz1⟩ := c2 X7; have hf0 := blk_frozen X7.out 0; have hf1 := blk_frozen X7.out 1; clear hg_ hx_ hb_) | ((with_reducible refine gate_store (t := 29) (p := 7) rfl ?_); refine store_event (t := 29) (p := 7) (v := ?vo_s7) (w1 := (w7.setCell ⟨q7, 0, none⟩ (.int .i64 s1)).setCell ⟨q7, 1, none⟩ (.slice As s1'.length cs)) ?hg ?ho ?hn ?hr ?_; (case ho => rfl); (case hg => rfl); (case hn => rfl); (case hr => first | (go_simp; done) | (go_simp; rfl)); intro w8 hw; have X7' : Aside0 (w8.heap[q7]? = some (.cells #[.int .i64 s1, .slice As s1'.length cs] 29 (0, 0))) := ⟨by rw [hw]; exact put2 X7.out⟩; have RS' : Aside0 (Kd.R (Kd.int .i64) 3 w8 wo.heap.size (fun _ => True) (.slice As s1'.length cs) s1') := ⟨by rw [hw]; exact own2 RS.out X7.out (by decide)⟩; have HB' : Aside0 (Below wo.heap.size wo w8) := ⟨by rw [hw]; exact below_set (below_set HB.out Gq7.out) Gq7.out⟩; clear hw RS HB X7 hz0 hz1 hf0 hf1; have HB := HB'; clear HB'; obtain ⟨h30, h31⟩ := c2 (Aside0.mk (blk_below X3.out HB.out)); obtain ⟨h40, h41⟩ := c2 (Aside0.mk (blk_below X4.out HB.out)); obtain ⟨h50, h51⟩ := c2 (Aside0.mk (blk_below X5.out HB.out))))
 have h := H.out
 clear H
 cases sok with
 | false =>
  obtain rfl := spec_CheckFarkas.j0_true h
  go_wp2
  go_ret
  exact ⟨by first | rfl | (simp; done) | (simp [*]; done), HB0.out.trans (HB.out.mono HB0.out.size)⟩
 | true =>
  rw [if_pos rfl] at h
  obtain ⟨v, A1, h⟩ := Option.bind_eq_some_iff.mp h
  have H1 := Aside0.mk A1
  clear A1
  cases v with
  | false =>
   obtain rfl := spec_CheckFarkas.j0_true h
   go_wp2_with ((go_at_call 80; refine (spec_IsValidLin.calls k a1_0 A1_1 c1_1 l1_1 a0_0 _ _ (Kd.C_below HR1_1.out HB.out) HC1_1.out H1.out).mono ?_; rintro e w9 ⟨rfl, hb⟩; replace HB := bs HB hb; replace X7' := bb X7' hb; replace RS' := rb RS' hb; obtain ⟨h30, h31⟩ := c2 (Aside0.mk (blk_below X3.out HB.out)); obtain ⟨h40, h41⟩ := c2 (Aside0.mk (blk_below X4.out HB.out)); obtain ⟨h50, h51⟩ := c2 (Aside0.mk (blk_below X5.out HB.out)); clear hb))
   go_ret
   exact ⟨by first | rfl | (simp; done) | (simp [*]; done), HB0.out.trans (HB.out.mono HB0.out.size)⟩
  | true =>
   rw [if_pos rfl] at h
   obtain ⟨t, A2, h⟩ := Option.bind_eq_some_iff.mp h
   have H2 := Aside0.mk A2
   clear A2
   cases t with
   | false =>
    obtain rfl := spec_CheckFarkas.j0_true h
    go_wp2_with (first | (go_at_call 80; refine (spec_IsValidLin.calls k a1_0 A1_1 c1_1 l1_1 a0_0 _ _ (Kd.C_below HR1_1.out HB.out) HC1_1.out H1.out).mono ?_; rintro e w9 ⟨rfl, hb⟩; replace HB := bs HB hb; replace X7' := bb X7' hb; replace RS' := rb RS' hb; obtain ⟨h30, h31⟩ := c2 (Aside0.mk (blk_below X3.out HB.out)); obtain ⟨h40, h41⟩ := c2 (Aside0.mk (blk_below X4.out HB.out)); obtain ⟨h50, h51⟩ := c2 (Aside0.mk (blk_below X5.out HB.out)); clear hb) | (go_at_call 85; refine (spec_l1In.calls _ _ _ _ _ H2.out).mono ?_; rintro e w10 ⟨rfl, hd⟩; have hb := hd.below; replace HB := bs HB hb; replace X7' := bb X7' hb; replace RS' := rb RS' hb; clear hd hb))
    go_ret
    exact ⟨by first | rfl | (simp; done) | (simp [*]; done), HB0.out.trans (HB.out.mono HB0.out.size)⟩
   | true =>
    cases k with
    | zero => simp [spec_CheckFarkas.j0] at h
    | succ k =>
     rw [spec_CheckFarkas.j0, if_neg (by decide)] at h
     obtain ⟨⟨t0, t0'⟩, A3, h⟩ := Option.bind_eq_some_iff.mp h
     obtain ⟨⟨t1, t1', t1b⟩, A4, h⟩ := Option.bind_eq_some_iff.mp h
     obtain ⟨⟨t2, t2', t2b⟩, A5, h⟩ := Option.bind_eq_some_iff.mp h
     have H3 : Aside0 (spec_ConstLin.f 1 a0_0 = some (t0, t0')) := ⟨A3⟩
     have H4 : Aside0 (spec_AddScaled.f k a1_0 l1_1 1 t0 t0' = some (t1, t1', t1b)) := ⟨A4⟩
     have H5 : Aside0 (spec_AddScaled.f k s1 s1' (wrap64 (-a2_0)) t1 t1' = some (t2, t2', t2b)) := ⟨A5⟩
     have H := Aside0.mk h
     clear A3 A4 A5 h
     go_upto_region 4 with (first | (go_at_call 80; refine (spec_IsValidLin.calls (k + 1) a1_0 A1_1 c1_1 l1_1 a0_0 _ _ (Kd.C_below HR1_1.out HB.out) HC1_1.out H1.out).mono ?_; rintro e w9 ⟨rfl, hb⟩; replace HB := bs HB hb; replace X7' := bb X7' hb; replace RS' := rb RS' hb; obtain ⟨h30, h31⟩ := c2 (Aside0.mk (blk_below X3.out HB.out)); obtain ⟨h40, h41⟩ := c2 (Aside0.mk (blk_below X4.out HB.out)); obtain ⟨h50, h51⟩ := c2 (Aside0.mk (blk_below X5.out HB.out)); clear hb) | (go_at_call 85; refine (spec_l1In.calls _ _ _ _ _ H2.out).mono ?_; rintro e w10 ⟨rfl, hd⟩; have hb := hd.below; replace HB := bs HB hb; replace X7' := bb X7' hb; replace RS' := rb RS' hb; clear hd hb))
     replace X3 := Aside0.mk (blk_below X3.out HB.out)
     replace X4 := Aside0.mk (blk_below X4.out HB.out)
     replace X5 := Aside0.mk (blk_below X5.out HB.out)
     have HR1w := Aside0.mk (Kd.C_below HR1_1.out HB.out)
     replace HB0 := Aside0.mk (HB0.out.trans (HB.out.mono HB0.out.size))
     clear HB h30 h31 h40 h41 h50 h51
     go_cut [9, 10] (fun v9 v10 wc => ∃ (g9 : Nat) (A1 : Option Addr) (c1 : Nat), v9 = .pointer (some ⟨g9, 0, none⟩) ∧ v10 = .bool t1b ∧ Aside0 (wc.heap[g9]? = some (.cells #[.int .i64 t1, .slice A1 t1'.length c1] 29 (0, 0))) ∧ Aside0 (Kd.R (Kd.int .i64) 3 wc w10.heap.size (fun _ => True) (.slice A1 t1'.length c1) t1') ∧ Aside0 (Below w10.heap.size w10 wc))
     case first =>
      have HZ := Aside0.mk (Below.refl w10.heap.size w10)
      have La : Aside0 (∀ g, w10.heap.size ≤ g → q4 ≠ g) := ⟨fun g h => by have := blk_lt X4.out; omega⟩
      have Lb : Aside0 (∀ g, w10.heap.size ≤ g → q3 ≠ g) := ⟨fun g h => by have := blk_lt X3.out; omega⟩
      go_region_held3 (fun w' => w'.cell? ⟨q4, 0, none⟩ = some (.int .i64 a1_0) ∧ w'.cell? ⟨q4, 1, none⟩ = some (.slice A1_1 l1_1.length c1_1) ∧ w'.cell? ⟨q3, 0, none⟩ = some (.int .i64 a0_0))
       (first | exact ⟨(blk_cell (mb X4) 0).trans rfl, (blk_cell (mb X4) 1).trans rfl, (blk_cell (mb X3) 0).trans rfl⟩ | exact ⟨(blk_cell (far2 (mb X4) (La.out _ (by first | exact HZ.out.size | exact SZ.out | exact Nat.le_refl _))) 0).trans rfl, (blk_cell (far2 (mb X4) (La.out _ (by first | exact HZ.out.size | exact SZ.out | exact Nat.le_refl _))) 1).trans rfl, (blk_cell (far2 (mb X3) (Lb.out _ (by first | exact HZ.out.size | exact SZ.out | exact Nat.le_refl _))) 0).trans rfl⟩)
       (first | (go_at_call 82; refine (spec_ConstLin.calls _ _ _ _ _ H3.out).mono ?_; rintro e w1 ⟨v0, rfl, ho, hb⟩; replace X4 := bb X4 hb; replace X3 := bb X3 hb; replace HZ := bs HZ hb; have SZ := Aside0.mk HZ.out.size; (first | have X9 := Aside0.mk (blk_below (heap_alloc_new _ _) hb) | have X9 := Aside0.mk (blk_below (blk_drew (heap_alloc_new _ _)) hb) | skip); obtain ⟨Az, cz, rfl, lz, Cz⟩ := Kd.R_reads ho; have CZ := Aside0.mk Cz; have LZ := Aside0.mk lz; clear ho hb Cz lz) | (go_at_call 81; refine (spec_AddScaled.calls k a1_0 A1_1 c1_1 l1_1 1 t0 Az cz t0' t1 t1' t1b _ (Kd.C_below HR1w.out (ms HZ)) HC1_1.out (mc CZ.out) LZ.out H4.out).mono ?_; rintro e w2 ⟨v1, rfl, ho, hb⟩; obtain ⟨Ay, cy, rfl⟩ := Kd.R_slice ho; have RY := Aside0.mk (Kd.R_lower (Kd.R_mono ho (fun _ _ => trivial)) (below_size (ms HZ))); replace X4 := bb X4 hb; replace X3 := bb X3 hb; (first | replace X9 := bb X9 hb | have X9 := Aside0.mk (blk_below (heap_alloc_new _ _) hb) | skip); replace HZ := bs HZ hb; (try (have hz0 := (blk_cell X9.out 0).trans (rfl : _ = some (Value.int .i64 0)); have hz1 := (blk_cell X9.out 1).trans (rfl : _ = some (Value.slice none 0 0)); have hf0 := blk_frozen X9.out 0; have hf1 := blk_frozen X9.out 1; (try simp only [World.drew] at hz0 hz1 hf0 hf1))); clear ho hb))
      all_goals go_wp2
      all_goals go_meet
      case rel => exact ⟨_, _, _, rfl, rfl, ⟨heap_alloc_new _ _⟩, ⟨Kd.R_alloc RY.out _⟩, ⟨below_alloc HZ.out _⟩⟩
      case rel => exact ⟨_, _, _, rfl, rfl, ⟨put2 X9.out⟩, ⟨own2 RY.out X9.out (by decide)⟩, ⟨below_set (below_set HZ.out SZ.out) SZ.out⟩⟩
      case rel => exact ⟨_, _, _, rfl, rfl, ⟨put2 X9.out⟩, ⟨own2 RY.out X9.out (by decide)⟩, ⟨below_set (below_set HZ.out (Nat.le_refl _)) (Nat.le_refl _)⟩⟩
     case rest =>
      obtain ⟨g9, Ay, cy, rfl, rfl, X9, RY, HB⟩ := hcut
      have X7 := Aside0.mk (blk_below X7'.out HB.out)
      have RS := Aside0.mk (Kd.R_below RS'.out HB.out)
      obtain ⟨h50, h51⟩ := c2 (Aside0.mk (blk_below X5.out HB.out))
      obtain ⟨ha0, ha1⟩ := c2 X7
      obtain ⟨hb0, hb1⟩ := c2 X9
      clear X7' RS' X3 X4 HR1w HR0_1 HR1_1 HR2_1
      go_upto_region 6 with (first | (go_at_call 81; refine (spec_AddScaled.calls k s1 As cs s1' (wrap64 (-a2_0)) t1 Ay cy t1' t2 t2' t2b _ (Kd.R_reads' RS.out).2.2 (Kd.R_reads' RS.out).2.1 (Kd.R_reads' RY.out).2.2 (Kd.R_reads' RY.out).2.1 H5.out).mono ?_; rintro e w11 ⟨v2, rfl, ho, hb⟩; obtain ⟨A2, cA, rfl⟩ := Kd.R_slice ho; have R2 := Aside0.mk ho; replace HB := bs HB hb; clear ho hb) | ((with_reducible refine gate_dst (N := 11) rfl ?_); refine box_event ?hg (N := 11) ?hd (cs := #[.int .i64 0, .slice none 0 0]) (t := 29) ?hr ?_; (case hd => rfl); (case hg => rfl); (case hr => first | (go_simp; done) | (go_simp; rfl)); intro q11 hg_ w12 hx_ hb_; have Gq11 := gw hg_ HB; replace HB := bs HB hb_; have X11 := Aside0.mk hx_; replace R2 := rb R2 hb_; obtain ⟨hz0, hz1⟩ := c2 X11; have hf0 := blk_frozen X11.out 0; have hf1 := blk_frozen X11.out 1; clear hg_ hx_ hb_) | ((with_reducible refine gate_store (t := 29) (p := 11) rfl ?_); refine store_event (t := 29) (p := 11) (v := ?vo_s11) (w1 := (w12.setCell ⟨q11, 0, none⟩ (.int .i64 t2)).setCell ⟨q11, 1, none⟩ (.slice A2 t2'.length cA)) ?hg ?ho ?hn ?hr ?_; (case ho => rfl); (case hg => rfl); (case hn => rfl); (case hr => first | (go_simp; done) | (go_simp; rfl)); intro w13 hw; have X11' : Aside0 (w13.heap[q11]? = some (.cells #[.int .i64 t2, .slice A2 t2'.length cA] 29 (0, 0))) := ⟨by rw [hw]; exact put2 X11.out⟩; have R2' : Aside0 (Kd.R (Kd.int .i64) 3 w13 wc.heap.size (fun _ => True) (.slice A2 t2'.length cA) t2') := ⟨by rw [hw]; exact own2 R2.out X11.out (by decide)⟩; have HB' : Aside0 (Below w10.heap.size w10 w13) := ⟨by rw [hw]; exact below_set (below_set HB.out Gq11.out) Gq11.out⟩; clear hw R2 HB X11 hz0 hz1 hf0 hf1; have HB := HB'; clear HB'; obtain ⟨hc0, hc1⟩ := c2 X11'))
      clear ha0 ha1 hb0 hb1 h50 h51
      have h := H.out
      clear H
      cases t1b with
      | false =>
       obtain rfl : r = false := by simpa using h.symm
       go_wp2
       go_ret
       exact ⟨by first | rfl | (simp; done) | (simp [*]; done), HB0.out.trans (HB.out.mono HB0.out.size)⟩
      | true =>
       rw [if_pos rfl] at h
       cases t2b with
       | false =>
        obtain rfl : r = false := by simpa using h.symm
        go_wp2
        go_ret
        exact ⟨by first | rfl | (simp; done) | (simp [*]; done), HB0.out.trans (HB.out.mono HB0.out.size)⟩
       | true =>
        rw [if_pos rfl] at h
        obtain ⟨ic, A6, h⟩ := Option.bind_eq_some_iff.mp h
        have H6 := Aside0.mk A6
        clear A6
        cases ic with
        | false =>
         obtain rfl : r = false := by simpa using h.symm
         go_wp2_with ((go_at_call 86; refine (spec_IsConstant.calls k t2 A2 cA t2' _ _ (Kd.R_reads' R2'.out).2.2 (Kd.R_reads' R2'.out).2.1 H6.out).mono ?_; rintro e w14 ⟨rfl, hb⟩; replace HB := bs HB hb; obtain ⟨hc0, hc1⟩ := c2 (Aside0.mk (blk_below X11'.out hb)); clear hb))
         go_ret
         exact ⟨by first | rfl | (simp; done) | (simp [*]; done), HB0.out.trans (HB.out.mono HB0.out.size)⟩
        | true =>
         obtain rfl : r = decide (t2 < 0) := by simpa using h.symm
         go_wp2_with ((go_at_call 86; refine (spec_IsConstant.calls k t2 A2 cA t2' _ _ (Kd.R_reads' R2'.out).2.2 (Kd.R_reads' R2'.out).2.1 H6.out).mono ?_; rintro e w14 ⟨rfl, hb⟩; replace HB := bs HB hb; obtain ⟨hc0, hc1⟩ := c2 (Aside0.mk (blk_below X11'.out hb)); clear hb))
         go_ret
         exact ⟨by first | rfl | (simp; done) | (simp [*]; done), HB0.out.trans (HB.out.mono HB0.out.size)⟩

/-! ### spec_l1Max: function 103 -/
def spec_l1Max.f (a0 : Int) (a1 : Int) : Option (Int) := if a0 > a1 then (some a0) else (some a1)
set_option maxHeartbeats 8000000 in
set_option maxRecDepth 100000 in
theorem spec_l1Max.calls (a0 : Int) (a1 : Int) (r : Int) (w : World) (h : spec_l1Max.f a0 a1 = some r) :
  Calls Try.prog 103 #[.int .i64 a0, .int .i64 a1] w fun e w' => e = .returned (.int .i64 r) ∧ Drawn0 w w' := by
 have H : (if a0 > a1 then (some a0) else (some a1)) = some r := h
 clear h
 by_cases c3 : a0 > a1
 ·rw [if_pos c3] at H
  have c3b0 : decide (a1 < a0) = true := decide_eq_true c3
  clear c3
  obtain rfl := Option.some.inj H
  go_enter Try.func103, Try.ntmps103
  go_wp2
  go_ret
  exact ⟨by first | rfl | (simp; done) | (simp [*]; done), by repeat (first | exact Drawn0.refl _ | apply Drawn0.step)⟩
 rw [if_neg c3] at H
 have c3b0 : decide (a1 < a0) = false := decide_eq_false c3
 clear c3
 obtain rfl := Option.some.inj H
 go_enter Try.func103, Try.ntmps103
 go_wp2
 go_ret
 exact ⟨by first | rfl | (simp; done) | (simp [*]; done), by repeat (first | exact Drawn0.refl _ | apply Drawn0.step)⟩

/-! ### spec_l3Size: function 168 -/
def spec_l3Size.f (a0 : Int) : Option (Int) := if a0 < 0 then (some (wrap64 (-a0))) else (some a0)
set_option maxHeartbeats 8000000 in
set_option maxRecDepth 100000 in
theorem spec_l3Size.calls (a0 : Int) (r : Int) (w : World) (h : spec_l3Size.f a0 = some r) :
  Calls Try.prog 168 #[.int .i64 a0] w fun e w' => e = .returned (.int .i64 r) ∧ Drawn0 w w' := by
 have H : (if a0 < 0 then (some (wrap64 (-a0))) else (some a0)) = some r := h
 clear h
 by_cases c2 : a0 < 0
 ·rw [if_pos c2] at H
  have c2b0 : decide (a0 < 0) = true := decide_eq_true c2
  clear c2
  obtain rfl := Option.some.inj H
  go_enter Try.func168, Try.ntmps168
  go_wp2
  go_ret
  exact ⟨by first | rfl | (simp; done) | (simp [*]; done), by repeat (first | exact Drawn0.refl _ | apply Drawn0.step)⟩
 rw [if_neg c2] at H
 have c2b0 : decide (a0 < 0) = false := decide_eq_false c2
 clear c2
 obtain rfl := Option.some.inj H
 go_enter Try.func168, Try.ntmps168
 go_wp2
 go_ret
 exact ⟨by first | rfl | (simp; done) | (simp [*]; done), by repeat (first | exact Drawn0.refl _ | apply Drawn0.step)⟩

/-! ### spec_Gcd: function 153 -/
mutual
def spec_Gcd.j0 : Nat → Int → Int → Bool → Option (Int)
 | 0, _, _, _ => none
 | k + 1, x0, x1, x15 => if x15 = true then (some 0) else ((spec_l3Size.f x0).bind fun t283 => ((spec_l3Size.f x1).bind fun t284 => (spec_Gcd.l0 k t283 t284)))
def spec_Gcd.l0 : Nat → Int → Int → Option (Int)
 | 0, _, _ => none
 | k + 1, x5, x6 => if x6 > 0 then (if x6 = 0 then (none) else (spec_Gcd.l0 k x6 (Int.tmod x5 x6))) else (some x5)
end
def spec_Gcd.f (k : Nat) (a0 : Int) (a1 : Int) : Option (Int) := (spec_l3In.f a0).bind fun t281 => (if t281 = true then ((spec_l3In.f a1).bind fun t282 => (spec_Gcd.j0 k a0 a1 (!t282))) else (spec_Gcd.j0 k a0 a1 true))
theorem spec_Gcd.mono_l : ∀ k, (∀ y0 y1 y2, LeO (spec_Gcd.j0 k y0 y1 y2) (spec_Gcd.j0 (k + 1) y0 y1 y2)) ∧ (∀ y0 y1, LeO (spec_Gcd.l0 k y0 y1) (spec_Gcd.l0 (k + 1) y0 y1))
 | 0 => ⟨fun _ _ _ r h => by simp [spec_Gcd.j0] at h, fun _ _ r h => by simp [spec_Gcd.l0] at h⟩
 | k + 1 => by
  obtain ⟨ih0, ih1⟩ := spec_Gcd.mono_l k
  refine ⟨?_, ?_⟩
  ·intro y0 y1 y2
   unfold spec_Gcd.j0
   repeat' with_reducible first
   | exact ih0 _ _ _
   | exact ih1 _ _
   | exact LeO.refl _
   | exact LeO.none _
   | refine LeO.ite ?_ ?_
   | refine LeO.bind ?_ (fun _ => ?_)
  intro y0 y1
  unfold spec_Gcd.l0
  repeat' with_reducible first
  | exact ih0 _ _ _
  | exact ih1 _ _
  | exact LeO.refl _
  | exact LeO.none _
  | refine LeO.ite ?_ ?_
  | refine LeO.bind ?_ (fun _ => ?_)
theorem spec_Gcd.mono : ∀ a0 a1 k, LeO (spec_Gcd.f k a0 a1) (spec_Gcd.f (k + 1) a0 a1) := by
 intro a0 a1 k
 obtain ⟨ih0, ih1⟩ := spec_Gcd.mono_l k
 unfold spec_Gcd.f
 repeat' with_reducible first
 | exact ih0 _ _ _
 | exact ih1 _ _
 | exact LeO.refl _
 | exact LeO.none _
 | refine LeO.ite ?_ ?_
 | refine LeO.bind ?_ (fun _ => ?_)
set_option maxHeartbeats 8000000 in
set_option maxRecDepth 100000 in
theorem spec_Gcd.calls (k : Nat) (a0 : Int) (a1 : Int) (r : Int) (w : World) (h : spec_Gcd.f k a0 a1 = some r) :
  Calls Try.prog 153 #[.int .i64 a0, .int .i64 a1] w fun e w' => e = .returned (.int .i64 r) ∧ Drawn0 w w' := by
 have H : ((spec_l3In.f a0).bind fun t281 => (if t281 = true then ((spec_l3In.f a1).bind fun t282 => (spec_Gcd.j0 k a0 a1 (!t282))) else (spec_Gcd.j0 k a0 a1 true))) = some r := h
 clear h
 have HC3 := Aside0.mk H
 clear H
 go_enter Try.func153, Try.ntmps153
 go_upto_region 1 with (fail)
 go_cut [15] (fun v15 wc => ∃ (kq : Nat) (x15_2 : Bool), v15 = .bool x15_2 ∧ Aside0 (spec_Gcd.j0 kq a0 a1 x15_2 = some r) ∧ Aside0 (kq ≤ k) ∧ Drawn0 w wc)
 case first =>
  have H := HC3.out
  clear HC3
  replace H := Option.bind_eq_some_iff.mp H
  obtain ⟨t281, A40, H⟩ := H
  replace H : (if t281 = true then ((spec_l3In.f a1).bind fun t282 => (spec_Gcd.j0 k a0 a1 (!t282))) else (spec_Gcd.j0 k a0 a1 true)) = some r := H
  have A4 := Aside0.mk A40
  clear A40
  by_cases c5 : t281 = true
  ·subst c5
   have H1 : ((spec_l3In.f a1).bind fun t282 => (spec_Gcd.j0 k a0 a1 (!t282))) = some r := by rw [if_pos rfl] at H; exact H
   clear H
   have H := H1
   clear H1
   replace H := Option.bind_eq_some_iff.mp H
   obtain ⟨t282, A60, H⟩ := H
   replace H : (spec_Gcd.j0 k a0 a1 (!t282)) = some r := H
   have A6 := Aside0.mk A60
   clear A60
   have H' := Aside0.mk H
   clear H
   go_wp2_with (first | ((with_reducible refine gate_callee (f := 129) rfl ?_); refine gl (some 9) rfl rfl Try.func129 (by kernel_rfl) rfl #[.int .i64 a0] rfl ?_; (with_reducible refine (spec_l3In.calls a0 true _ A4.out).mono ?_); rintro e w' ⟨rfl, ⟨nd, rfl⟩⟩; refine ⟨_, rfl, ?_⟩) | (go_at_call 129; (with_reducible refine (spec_l3In.calls a1 t282 _ A6.out).mono ?_); rintro e w' ⟨rfl, ⟨nd, rfl⟩⟩))
   go_meet
   case rel => exact ⟨_, (!t282), (by first | rfl | (simp; done) | (simp [*]; done)), H', ⟨by first | omega | exact Nat.le_refl _⟩, by repeat (first | exact Drawn0.refl _ | apply Drawn0.step)⟩
  replace c5 := Bool.eq_false_iff.mpr c5
  subst c5
  have H1 : (spec_Gcd.j0 k a0 a1 true) = some r := by rw [if_neg (show ¬ (false = true) by decide)] at H; exact H
  clear H
  have H := H1
  clear H1
  have H' := Aside0.mk H
  clear H
  go_wp2_with (first | ((with_reducible refine gate_callee (f := 129) rfl ?_); refine gl (some 9) rfl rfl Try.func129 (by kernel_rfl) rfl #[.int .i64 a0] rfl ?_; (with_reducible refine (spec_l3In.calls a0 false _ A4.out).mono ?_); rintro e w' ⟨rfl, ⟨nd, rfl⟩⟩; refine ⟨_, rfl, ?_⟩))
  go_meet
  case rel => exact ⟨_, (true), (by first | rfl | (simp; done) | (simp [*]; done)), H', ⟨by first | omega | exact Nat.le_refl _⟩, by repeat (first | exact Drawn0.refl _ | apply Drawn0.step)⟩
 case rest =>
  clear HC3
  try clear c1
  try clear p2
  try clear c5
  obtain ⟨kq, x15_2, rfl, HA, HJ2, ⟨mc2, rfl⟩⟩ := hcut
  cases kq with
  | zero => exact absurd HA.out (by simp [spec_Gcd.j0])
  | succ kj2 =>
   have H := HA.out
   clear HA
   simp only [spec_Gcd.j0] at H
   by_cases c7 : x15_2 = true
   ·subst c7
    have H1 : (some 0) = some r := by rw [if_pos rfl] at H; exact H
    clear H
    have H := H1
    clear H1
    obtain rfl := Option.some.inj H
    go_wp2
    go_ret
    exact ⟨by first | rfl | (simp; done) | (simp [*]; done), by repeat (first | exact Drawn0.refl _ | apply Drawn0.step)⟩
   replace c7 := Bool.eq_false_iff.mpr c7
   subst c7
   have H1 : ((spec_l3Size.f a0).bind fun t283 => ((spec_l3Size.f a1).bind fun t284 => (spec_Gcd.l0 kj2 t283 t284))) = some r := by rw [if_neg (show ¬ (false = true) by decide)] at H; exact H
   clear H
   have H := H1
   clear H1
   replace H := Option.bind_eq_some_iff.mp H
   obtain ⟨t283, A80, H⟩ := H
   replace H : ((spec_l3Size.f a1).bind fun t284 => (spec_Gcd.l0 kj2 t283 t284)) = some r := H
   have A8 := Aside0.mk A80
   clear A80
   replace H := Option.bind_eq_some_iff.mp H
   obtain ⟨t284, A90, H⟩ := H
   replace H : (spec_Gcd.l0 kj2 t283 t284) = some r := H
   have A9 := Aside0.mk A90
   clear A90
   have H' := Aside0.mk H
   clear H
   go_wp2_with (first | ((with_reducible refine gate_callee (f := 168) rfl ?_); refine gl (some 17) rfl rfl Try.func168 (by kernel_rfl) rfl #[.int .i64 a0] rfl ?_; (with_reducible refine (spec_l3Size.calls a0 t283 _ A8.out).mono ?_); rintro e w' ⟨rfl, ⟨nd, rfl⟩⟩; refine ⟨_, rfl, ?_⟩) | ((with_reducible refine gate_callee (f := 168) rfl ?_); refine gl (some 19) rfl rfl Try.func168 (by kernel_rfl) rfl #[.int .i64 a1] rfl ?_; (with_reducible refine (spec_l3Size.calls a1 t284 _ A9.out).mono ?_); rintro e w' ⟨rfl, ⟨nd, rfl⟩⟩; refine ⟨_, rfl, ?_⟩))
   go_loopg [5, 6] kj2 (fun kq v5 v6 w' => ∃ (x5_2 : Int) (x6_2 : Int), v5 = .int .i64 x5_2 ∧ v6 = .int .i64 x6_2 ∧ Aside0 (spec_Gcd.l0 kq x5_2 x6_2 = some r) ∧ Aside0 (kq ≤ kj2) ∧ Drawn0 w w')
   case atStart => exact ⟨(t283), (t284), (by first | rfl | (simp; done) | (simp [*]; done)), (by first | rfl | (simp; done) | (simp [*]; done)), H', ⟨Nat.le_refl _⟩, by repeat (first | exact Drawn0.refl _ | apply Drawn0.step)⟩
   case round =>
    clear H'
    try clear c1
    try clear c2
    try clear p2
    try clear c5
    try clear c7
    try clear p2
    obtain ⟨x5_2, x6_2, rfl, rfl, HA, HK2, ⟨m2, rfl⟩⟩ := hrel
    cases gk with
    | zero => exact absurd HA.out (by simp [spec_Gcd.l0])
    | succ k2 =>
     have H := HA.out
     clear HA
     simp only [spec_Gcd.l0] at H
     by_cases c10 : x6_2 > 0
     ·rw [if_pos c10] at H
      have c10b0 : decide (0 < x6_2) = true := decide_eq_true c10
      clear c10
      by_cases c11 : x6_2 = 0
      ·rw [if_pos c11] at H
       exact absurd H (by simp)
      rw [if_neg c11] at H
      have c11b0 : (x6_2 == 0) = false := beq_eq_false_iff_ne.mpr c11
      have c11b1 : (x6_2 != 0) = true := bne_iff_ne.mpr c11
      have H' := Aside0.mk H
      clear H
      go_wp2
      go_roundg k2
      case measure => have := HJ2.out; have := HK2.out; omega
      case rel => exact ⟨(x6_2), (Int.tmod x5_2 x6_2), (by first | rfl | (simp; done) | (simp [*]; done)), (by first | rfl | (simp; done) | (simp [*]; done)), H', ⟨by have := HJ2.out; have := HK2.out; omega⟩, by repeat (first | exact Drawn0.refl _ | apply Drawn0.step)⟩
     rw [if_neg c10] at H
     have c10b0 : decide (0 < x6_2) = false := decide_eq_false c10
     clear c10
     obtain rfl := Option.some.inj H
     go_wp2
     go_ret
     exact ⟨by first | rfl | (simp; done) | (simp [*]; done), by repeat (first | exact Drawn0.refl _ | apply Drawn0.step)⟩

/-! ### spec_l8Scaled: function 154 -/
def spec_l8Scaled.l0 : Nat → List Int → Int → List Int → Int → List Int → Int → Option (List Int × Bool)
 | 0, _, _, _, _, _, _ => none
 | k + 1, x0, x1, x2, x3, x10, x11 => if x11 < (x0.length : Int) then (if 0 ≤ x11 then ((spec_MulLimited.f (rd x0 x11) x1).bind fun bt289 => (if x11 < (x2.length : Int) then ((spec_MulLimited.f (rd x2 x11) x3).bind fun bt292 => ((spec_AddLimited.f bt289.1 bt292.1).bind fun bt294 => (if bt289.2 = true then (if bt292.2 = true then (if bt294.2 = true then (if x10.length < 17592186044416 then (spec_l8Scaled.l0 k x0 x1 x2 x3 (x10 ++ [bt294.1]) (wrap64 (x11 + 1))) else (none)) else (some ((([] : List Int)), false))) else (some ((([] : List Int)), false))) else (some ((([] : List Int)), false))))) else (none))) else (none)) else (some (x10, true))
def spec_l8Scaled.f (k : Nat) (l0 : List Int) (a1 : Int) (l2 : List Int) (a3 : Int) : Option (List Int × Bool) := spec_l8Scaled.l0 k l0 a1 l2 a3 (([] : List Int)) 0
theorem spec_l8Scaled.mono_l : ∀ k, (∀ y0 y1 y2 y3 y4 y5, LeO (spec_l8Scaled.l0 k y0 y1 y2 y3 y4 y5) (spec_l8Scaled.l0 (k + 1) y0 y1 y2 y3 y4 y5))
 | 0 => fun _ _ _ _ _ _ r h => by simp [spec_l8Scaled.l0] at h
 | k + 1 => by
  have ih0 := spec_l8Scaled.mono_l k
  ·intro y0 y1 y2 y3 y4 y5
   unfold spec_l8Scaled.l0
   repeat' with_reducible first
   | exact ih0 _ _ _ _ _ _
   | exact LeO.refl _
   | exact LeO.none _
   | refine LeO.ite ?_ ?_
   | refine LeO.bind ?_ (fun _ => ?_)
theorem spec_l8Scaled.mono : ∀ a0 a1 a2 a3 k, LeO (spec_l8Scaled.f k a0 a1 a2 a3) (spec_l8Scaled.f (k + 1) a0 a1 a2 a3) := by
 intro a0 a1 a2 a3 k
 have ih0 := spec_l8Scaled.mono_l k
 unfold spec_l8Scaled.f
 repeat' with_reducible first
 | exact ih0 _ _ _ _ _ _
 | exact LeO.refl _
 | exact LeO.none _
 | refine LeO.ite ?_ ?_
 | refine LeO.bind ?_ (fun _ => ?_)
set_option maxHeartbeats 8000000 in
set_option maxRecDepth 100000 in
theorem spec_l8Scaled.calls (k : Nat) (A0 : Option Addr) (c0 : Nat) (l0 : List Int) (a1 : Int) (A2 : Option Addr) (c2 : Nat) (l2 : List Int) (a3 : Int) (r1 : List Int) (r2 : Bool) (w : World) (hr0 : Kd.C (Kd.int .i64) w A0 l0.length l0) (hc0 : l0.length ≤ c0) (hr2 : Kd.C (Kd.int .i64) w A2 l2.length l2) (hc2 : l2.length ≤ c2) (h : spec_l8Scaled.f k l0 a1 l2 a3 = some (r1, r2)) :
  Calls Try.prog 154 #[.slice A0 l0.length c0, .int .i64 a1, .slice A2 l2.length c2, .int .i64 a3] w fun e w' => ∃ v0_ : Value, e = .returned (.tuple #[v0_, .bool r2]) ∧ Kd.R (Kd.int .i64) 3 w' w.heap.size (fun _ => True) v0_ r1 ∧ Below w.heap.size w w' := by
 have HR0 := Aside0.mk hr0
 have HC0 := Aside0.mk hc0
 clear hr0 hc0
 have HR2 := Aside0.mk hr2
 have HC2 := Aside0.mk hc2
 clear hr2 hc2
 have HB := Aside0.mk (Below.refl w.heap.size w)
 have H : (spec_l8Scaled.l0 k l0 a1 l2 a3 (([] : List Int)) 0) = some (r1, r2) := h
 clear h
 obtain ⟨y285, hy285⟩ : ∃ y_ : List Int, y_ = (([] : List Int)) := ⟨_, rfl⟩
 replace H : (spec_l8Scaled.l0 k l0 a1 l2 a3 y285 0) = some (r1, r2) := by first | (rw [hy285]; with_reducible exact H) | (have H2_ := (Option.bind_some _ _).symm.trans H; rw [hy285]; with_reducible exact H2_) | (have H2_ := (Option.bind_some _ _).symm.trans H; with_reducible exact H2_) | with_reducible exact H | (rw [hy285]; exact H) | exact H
 have Ny285 := Aside0.mk hy285
 clear hy285
 have H' := Aside0.mk H
 clear H
 go_enter Try.func154, Try.ntmps154
 go_wp2_with (first | ((with_reducible refine gate_dst (N := 18) rfl ?_); refine Kd.R_lit (Kd.int .i64) _ 3 ?hg (N := 18) ?hd (xs := ([] : List Int)) (inner := []) (ok := fun _ => True) (okp := fun _ => True) ?hr ?hp (fun _ hk => hk) trivial (Below.refl _ _) (Nat.le_refl _) (by simp) ?_; (case hd => rfl); (case hg => rfl); (case hr => first | (go_simp; done) | (go_simp; rfl)); (case hp => exact (Reps.none _ _)); intro v286 w5 ho6 hb hg_ hnew_; clear hg_ hnew_; (first | rw [← Ny285.out] at ho6 | (simp only [Int.reduceToNat] at ho6; rw [← Ny285.out] at ho6)); have HO287 := Aside0.mk (Kd.R_lower ho6 (below_size (ms HB))); replace HB := bs HB hb; clear hb ho6))
 go_loopg [10, 11] k (fun kq v10 v11 w' => ∃ (x10_1 : List Int) (x11_1 : Int), v11 = .int .i64 x11_1 ∧ Aside0 (spec_l8Scaled.l0 kq l0 a1 l2 a3 x10_1 x11_1 = some (r1, r2)) ∧ Aside0 (kq ≤ k) ∧ Aside0 (Kd.R (Kd.int .i64) 3 w' w.heap.size (fun _ => True) v10 x10_1) ∧ Aside0 (Below w.heap.size w w'))
 case atStart => exact ⟨(y285), (0), (by first | rfl | (simp; done) | (simp [*]; done)), H', ⟨Nat.le_refl _⟩, ⟨by (with_reducible repeat (first | apply Kd.R_alloc | apply Kd.R_drewN | apply Kd.R_drew)); exact HO287.out⟩, ⟨ms HB⟩⟩
 case round =>
  clear H'
  try clear c1
  try clear c2
  try clear p2
  obtain ⟨x10_1, x11_1, rfl, HA, HK1, HO_10, HB⟩ := hrel
  cases gk with
  | zero => exact absurd HA.out (by simp [spec_l8Scaled.l0])
  | succ k1 =>
   have H := HA.out
   clear HA
   simp only [spec_l8Scaled.l0] at H
   by_cases c7 : x11_1 < (l0.length : Int)
   ·rw [if_pos c7] at H
    have c7b0 : decide (x11_1 < (l0.length : Int)) = true := decide_eq_true c7
    clear c7
    by_cases c8 : 0 ≤ x11_1
    ·rw [if_pos c8] at H
     have c8b0 : decide (0 ≤ x11_1) = true := decide_eq_true c8
     clear c8
     replace H := Option.bind_eq_some_iff.mp H
     obtain ⟨⟨t289, t290⟩, A90, H⟩ := H
     replace H : (if x11_1 < (l2.length : Int) then ((spec_MulLimited.f (rd l2 x11_1) a3).bind fun bt292 => ((spec_AddLimited.f t289 bt292.1).bind fun bt294 => (if t290 = true then (if bt292.2 = true then (if bt294.2 = true then (if x10_1.length < 17592186044416 then (spec_l8Scaled.l0 k1 l0 a1 l2 a3 (x10_1 ++ [bt294.1]) (wrap64 (x11_1 + 1))) else (none)) else (some ((([] : List Int)), false))) else (some ((([] : List Int)), false))) else (some ((([] : List Int)), false))))) else (none)) = some (r1, r2) := H
     have A9 := Aside0.mk A90
     clear A90
     by_cases c10 : x11_1 < (l2.length : Int)
     ·rw [if_pos c10] at H
      have c10b0 : decide (x11_1 < (l2.length : Int)) = true := decide_eq_true c10
      clear c10
      replace H := Option.bind_eq_some_iff.mp H
      obtain ⟨⟨t292, t293⟩, A110, H⟩ := H
      replace H : ((spec_AddLimited.f t289 t292).bind fun bt294 => (if t290 = true then (if t293 = true then (if bt294.2 = true then (if x10_1.length < 17592186044416 then (spec_l8Scaled.l0 k1 l0 a1 l2 a3 (x10_1 ++ [bt294.1]) (wrap64 (x11_1 + 1))) else (none)) else (some ((([] : List Int)), false))) else (some ((([] : List Int)), false))) else (some ((([] : List Int)), false)))) = some (r1, r2) := H
      have A11 := Aside0.mk A110
      clear A110
      replace H := Option.bind_eq_some_iff.mp H
      obtain ⟨⟨t294, t295⟩, A120, H⟩ := H
      replace H : (if t290 = true then (if t293 = true then (if t295 = true then (if x10_1.length < 17592186044416 then (spec_l8Scaled.l0 k1 l0 a1 l2 a3 (x10_1 ++ [t294]) (wrap64 (x11_1 + 1))) else (none)) else (some ((([] : List Int)), false))) else (some ((([] : List Int)), false))) else (some ((([] : List Int)), false))) = some (r1, r2) := H
      have A12 := Aside0.mk A120
      clear A120
      by_cases c13 : t290 = true
      ·subst c13
       have H1 : (if t293 = true then (if t295 = true then (if x10_1.length < 17592186044416 then (spec_l8Scaled.l0 k1 l0 a1 l2 a3 (x10_1 ++ [t294]) (wrap64 (x11_1 + 1))) else (none)) else (some ((([] : List Int)), false))) else (some ((([] : List Int)), false))) = some (r1, r2) := by rw [if_pos rfl] at H; exact H
       clear H
       have H := H1
       clear H1
       by_cases c14 : t293 = true
       ·subst c14
        have H1 : (if t295 = true then (if x10_1.length < 17592186044416 then (spec_l8Scaled.l0 k1 l0 a1 l2 a3 (x10_1 ++ [t294]) (wrap64 (x11_1 + 1))) else (none)) else (some ((([] : List Int)), false))) = some (r1, r2) := by rw [if_pos rfl] at H; exact H
        clear H
        have H := H1
        clear H1
        by_cases c15 : t295 = true
        ·subst c15
         have H1 : (if x10_1.length < 17592186044416 then (spec_l8Scaled.l0 k1 l0 a1 l2 a3 (x10_1 ++ [t294]) (wrap64 (x11_1 + 1))) else (none)) = some (r1, r2) := by rw [if_pos rfl] at H; exact H
         clear H
         have H := H1
         clear H1
         by_cases c16 : x10_1.length < 17592186044416
         ·rw [if_pos c16] at H
          have LMc16 := Aside0.mk c16
          clear c16
          obtain ⟨y296, hy296⟩ : ∃ y_ : List Int, y_ = (x10_1 ++ [t294]) := ⟨_, rfl⟩
          replace H : (spec_l8Scaled.l0 k1 l0 a1 l2 a3 y296 (wrap64 (x11_1 + 1))) = some (r1, r2) := by first | (rw [hy296]; with_reducible exact H) | (have H2_ := (Option.bind_some _ _).symm.trans H; rw [hy296]; with_reducible exact H2_) | (have H2_ := (Option.bind_some _ _).symm.trans H; with_reducible exact H2_) | with_reducible exact H | (rw [hy296]; exact H) | exact H
          have Ny296 := Aside0.mk hy296
          clear hy296
          have H' := Aside0.mk H
          clear H
          have p288 : 0 ≤ (x11_1 : Int) := of_decide_eq_true (by first | (with_reducible assumption) | assumption)
          have q288 : x11_1 < (l0.length : Int) := of_decide_eq_true (by first | (with_reducible assumption) | assumption)
          obtain ⟨ad288, e288, hx288_0⟩ := Kd.at_int HR0.out x11_1 p288 q288
          cases e288
          replace hx288_0 := (HB.out.cell (World.block_lt_of_cell? w _ hx288_0)).trans hx288_0
          replace p288 := eq_true p288
          replace q288 := eq_true q288
          go_wp2_with (first | ((with_reducible refine gate_callee (f := 151) rfl ?_); refine gl (some 31) rfl rfl Try.func151 (by kernel_rfl) rfl #[.int .i64 (rd l0 x11_1), .int .i64 a1] rfl ?_; (with_reducible refine (spec_MulLimited.calls (rd l0 x11_1) a1 t289 true _ A9.out).mono ?_); rintro e w' ⟨rfl, ⟨nd, rfl⟩⟩; refine ⟨_, rfl, ?_⟩; have p291 : 0 ≤ (x11_1 : Int) := of_decide_eq_true (by first | (with_reducible assumption) | assumption); have q291 : x11_1 < (l2.length : Int) := of_decide_eq_true (by first | (with_reducible assumption) | assumption); obtain ⟨ad291, e291, hx291_0⟩ := Kd.at_int HR2.out x11_1 p291 q291; cases e291; replace hx291_0 := (HB.out.cell (World.block_lt_of_cell? w _ hx291_0)).trans hx291_0; replace p291 := eq_true p291; replace q291 := eq_true q291) | ((with_reducible refine gate_callee (f := 151) rfl ?_); refine gl (some 40) rfl rfl Try.func151 (by kernel_rfl) rfl #[.int .i64 (rd l2 x11_1), .int .i64 a3] rfl ?_; (with_reducible refine (spec_MulLimited.calls (rd l2 x11_1) a3 t292 true _ A11.out).mono ?_); rintro e w' ⟨rfl, ⟨nd, rfl⟩⟩; refine ⟨_, rfl, ?_⟩) | ((with_reducible refine gate_callee (f := 152) rfl ?_); refine gl (some 46) rfl rfl Try.func152 (by kernel_rfl) rfl #[.int .i64 t289, .int .i64 t292] rfl ?_; (with_reducible refine (spec_AddLimited.calls t289 t292 t294 true _ A12.out).mono ?_); rintro e w' ⟨rfl, ⟨nd, rfl⟩⟩; refine ⟨_, rfl, ?_⟩) | ((with_reducible refine gate_builtin (b := .append) (xs := #[.tmp 60, .tmp 62]) rfl ?_); at_builtin; refine Kd.R_append (Kd.int .i64) (w0 := w) w.heap.size rfl (.tmp 60) (.tmp 62) 27 3 (.int .i64 0) 8 rfl Try.underlying27 info3 rfl (by decide) (by omega) u10 x10_1 t294 [.int .i64 t294] (fun _ => True) (fun _ => False) rfl rfl ?aP (fun _ hk => hk.elim) ?aF ?aO ?aB ?aS ?aL ?_; (case aP => exact rfl); (case aB => exact (ms HB)); (case aF => exact (fun _ _ => trivial)); (case aO => exact (mr HO_10)); (case aS => exact (below_size (ms HB))); (case aL => have := LMc16.out; omega); intro v297 w17 ho hb hg hat; rw [← Ny296.out] at ho; replace HB := Aside0.mk (hb); have HO298 := Aside0.mk (ho); clear HO_10 ho hb hg hat))
          go_roundg k1
          case measure => have := HK1.out; omega
          case rel => exact ⟨(y296), (wrap64 (x11_1 + 1)), (by first | rfl | (simp; done) | (simp [*]; done)), H', ⟨by have := HK1.out; omega⟩, ⟨by (with_reducible repeat (first | apply Kd.R_alloc | apply Kd.R_drewN | apply Kd.R_drew)); exact HO298.out⟩, ⟨ms HB⟩⟩
         rw [if_neg c16] at H
         exact absurd H (by simp)
        replace c15 := Bool.eq_false_iff.mpr c15
        subst c15
        have H1 : (some ((([] : List Int)), false)) = some (r1, r2) := by rw [if_neg (show ¬ (false = true) by decide)] at H; exact H
        clear H
        have H := H1
        clear H1
        obtain ⟨y299, hy299⟩ : ∃ y_ : List Int, y_ = (([] : List Int)) := ⟨_, rfl⟩
        replace H : (some (y299, false)) = some (r1, r2) := by first | (rw [hy299]; with_reducible exact H) | (have H2_ := (Option.bind_some _ _).symm.trans H; rw [hy299]; with_reducible exact H2_) | (have H2_ := (Option.bind_some _ _).symm.trans H; with_reducible exact H2_) | with_reducible exact H | (rw [hy299]; exact H) | exact H
        have Ny299 := Aside0.mk hy299
        clear hy299
        simp only [Option.some.injEq, Prod.mk.injEq] at H
        obtain ⟨rfl, rfl⟩ := H
        have p288 : 0 ≤ (x11_1 : Int) := of_decide_eq_true (by first | (with_reducible assumption) | assumption)
        have q288 : x11_1 < (l0.length : Int) := of_decide_eq_true (by first | (with_reducible assumption) | assumption)
        obtain ⟨ad288, e288, hx288_0⟩ := Kd.at_int HR0.out x11_1 p288 q288
        cases e288
        replace hx288_0 := (HB.out.cell (World.block_lt_of_cell? w _ hx288_0)).trans hx288_0
        replace p288 := eq_true p288
        replace q288 := eq_true q288
        go_wp2_with (first | ((with_reducible refine gate_callee (f := 151) rfl ?_); refine gl (some 31) rfl rfl Try.func151 (by kernel_rfl) rfl #[.int .i64 (rd l0 x11_1), .int .i64 a1] rfl ?_; (with_reducible refine (spec_MulLimited.calls (rd l0 x11_1) a1 t289 true _ A9.out).mono ?_); rintro e w' ⟨rfl, ⟨nd, rfl⟩⟩; refine ⟨_, rfl, ?_⟩; have p291 : 0 ≤ (x11_1 : Int) := of_decide_eq_true (by first | (with_reducible assumption) | assumption); have q291 : x11_1 < (l2.length : Int) := of_decide_eq_true (by first | (with_reducible assumption) | assumption); obtain ⟨ad291, e291, hx291_0⟩ := Kd.at_int HR2.out x11_1 p291 q291; cases e291; replace hx291_0 := (HB.out.cell (World.block_lt_of_cell? w _ hx291_0)).trans hx291_0; replace p291 := eq_true p291; replace q291 := eq_true q291) | ((with_reducible refine gate_callee (f := 151) rfl ?_); refine gl (some 40) rfl rfl Try.func151 (by kernel_rfl) rfl #[.int .i64 (rd l2 x11_1), .int .i64 a3] rfl ?_; (with_reducible refine (spec_MulLimited.calls (rd l2 x11_1) a3 t292 true _ A11.out).mono ?_); rintro e w' ⟨rfl, ⟨nd, rfl⟩⟩; refine ⟨_, rfl, ?_⟩) | ((with_reducible refine gate_callee (f := 152) rfl ?_); refine gl (some 46) rfl rfl Try.func152 (by kernel_rfl) rfl #[.int .i64 t289, .int .i64 t292] rfl ?_; (with_reducible refine (spec_AddLimited.calls t289 t292 t294 false _ A12.out).mono ?_); rintro e w' ⟨rfl, ⟨nd, rfl⟩⟩; refine ⟨_, rfl, ?_⟩) | ((with_reducible refine gate_dst (N := 59) rfl ?_); refine Kd.R_lit (Kd.int .i64) _ 3 ?hg (N := 59) ?hd (xs := ([] : List Int)) (inner := []) (ok := fun _ => True) (okp := fun _ => True) ?hr ?hp (fun _ hk => hk) trivial (Below.refl _ _) (Nat.le_refl _) (by simp) ?_; (case hd => rfl); (case hg => rfl); (case hr => first | (go_simp; done) | (go_simp; rfl)); (case hp => exact (Reps.none _ _)); intro v300 w18 ho19 hb hg_ hnew_; clear hg_ hnew_; (first | rw [← Ny299.out] at ho19 | (simp only [Int.reduceToNat] at ho19; rw [← Ny299.out] at ho19)); have HO301 := Aside0.mk (Kd.R_lower (Kd.R_new' ho19 (Kd.R_lt (mr HO_10))) (below_size (ms HB))); replace HO_10 := rl HO_10 ho19 hb; replace HB := bs HB hb; clear hb ho19))
        go_ret2
        exact ⟨_, by first | rfl | (simp [errW_none, errW_some] <;> rfl) | (simp [*, errW_none, errW_some] <;> rfl), by (with_reducible repeat (first | apply Kd.R_alloc | apply Kd.R_drewN | apply Kd.R_drew)); exact Kd.R_mono HO301.out (fun _ hk => trivial), ms HB⟩
       replace c14 := Bool.eq_false_iff.mpr c14
       subst c14
       have H1 : (some ((([] : List Int)), false)) = some (r1, r2) := by rw [if_neg (show ¬ (false = true) by decide)] at H; exact H
       clear H
       have H := H1
       clear H1
       obtain ⟨y302, hy302⟩ : ∃ y_ : List Int, y_ = (([] : List Int)) := ⟨_, rfl⟩
       replace H : (some (y302, false)) = some (r1, r2) := by first | (rw [hy302]; with_reducible exact H) | (have H2_ := (Option.bind_some _ _).symm.trans H; rw [hy302]; with_reducible exact H2_) | (have H2_ := (Option.bind_some _ _).symm.trans H; with_reducible exact H2_) | with_reducible exact H | (rw [hy302]; exact H) | exact H
       have Ny302 := Aside0.mk hy302
       clear hy302
       simp only [Option.some.injEq, Prod.mk.injEq] at H
       obtain ⟨rfl, rfl⟩ := H
       have p288 : 0 ≤ (x11_1 : Int) := of_decide_eq_true (by first | (with_reducible assumption) | assumption)
       have q288 : x11_1 < (l0.length : Int) := of_decide_eq_true (by first | (with_reducible assumption) | assumption)
       obtain ⟨ad288, e288, hx288_0⟩ := Kd.at_int HR0.out x11_1 p288 q288
       cases e288
       replace hx288_0 := (HB.out.cell (World.block_lt_of_cell? w _ hx288_0)).trans hx288_0
       replace p288 := eq_true p288
       replace q288 := eq_true q288
       go_wp2_with (first | ((with_reducible refine gate_callee (f := 151) rfl ?_); refine gl (some 31) rfl rfl Try.func151 (by kernel_rfl) rfl #[.int .i64 (rd l0 x11_1), .int .i64 a1] rfl ?_; (with_reducible refine (spec_MulLimited.calls (rd l0 x11_1) a1 t289 true _ A9.out).mono ?_); rintro e w' ⟨rfl, ⟨nd, rfl⟩⟩; refine ⟨_, rfl, ?_⟩; have p291 : 0 ≤ (x11_1 : Int) := of_decide_eq_true (by first | (with_reducible assumption) | assumption); have q291 : x11_1 < (l2.length : Int) := of_decide_eq_true (by first | (with_reducible assumption) | assumption); obtain ⟨ad291, e291, hx291_0⟩ := Kd.at_int HR2.out x11_1 p291 q291; cases e291; replace hx291_0 := (HB.out.cell (World.block_lt_of_cell? w _ hx291_0)).trans hx291_0; replace p291 := eq_true p291; replace q291 := eq_true q291) | ((with_reducible refine gate_callee (f := 151) rfl ?_); refine gl (some 40) rfl rfl Try.func151 (by kernel_rfl) rfl #[.int .i64 (rd l2 x11_1), .int .i64 a3] rfl ?_; (with_reducible refine (spec_MulLimited.calls (rd l2 x11_1) a3 t292 false _ A11.out).mono ?_); rintro e w' ⟨rfl, ⟨nd, rfl⟩⟩; refine ⟨_, rfl, ?_⟩) | ((with_reducible refine gate_callee (f := 152) rfl ?_); refine gl (some 46) rfl rfl Try.func152 (by kernel_rfl) rfl #[.int .i64 t289, .int .i64 t292] rfl ?_; (with_reducible refine (spec_AddLimited.calls t289 t292 t294 t295 _ A12.out).mono ?_); rintro e w' ⟨rfl, ⟨nd, rfl⟩⟩; refine ⟨_, rfl, ?_⟩) | ((with_reducible refine gate_dst (N := 59) rfl ?_); refine Kd.R_lit (Kd.int .i64) _ 3 ?hg (N := 59) ?hd (xs := ([] : List Int)) (inner := []) (ok := fun _ => True) (okp := fun _ => True) ?hr ?hp (fun _ hk => hk) trivial (Below.refl _ _) (Nat.le_refl _) (by simp) ?_; (case hd => rfl); (case hg => rfl); (case hr => first | (go_simp; done) | (go_simp; rfl)); (case hp => exact (Reps.none _ _)); intro v303 w20 ho21 hb hg_ hnew_; clear hg_ hnew_; (first | rw [← Ny302.out] at ho21 | (simp only [Int.reduceToNat] at ho21; rw [← Ny302.out] at ho21)); have HO304 := Aside0.mk (Kd.R_lower (Kd.R_new' ho21 (Kd.R_lt (mr HO_10))) (below_size (ms HB))); replace HO_10 := rl HO_10 ho21 hb; replace HB := bs HB hb; clear hb ho21))
       go_ret2
       exact ⟨_, by first | rfl | (simp [errW_none, errW_some] <;> rfl) | (simp [*, errW_none, errW_some] <;> rfl), by (with_reducible repeat (first | apply Kd.R_alloc | apply Kd.R_drewN | apply Kd.R_drew)); exact Kd.R_mono HO304.out (fun _ hk => trivial), ms HB⟩
      replace c13 := Bool.eq_false_iff.mpr c13
      subst c13
      have H1 : (some ((([] : List Int)), false)) = some (r1, r2) := by rw [if_neg (show ¬ (false = true) by decide)] at H; exact H
      clear H
      have H := H1
      clear H1
      obtain ⟨y305, hy305⟩ : ∃ y_ : List Int, y_ = (([] : List Int)) := ⟨_, rfl⟩
      replace H : (some (y305, false)) = some (r1, r2) := by first | (rw [hy305]; with_reducible exact H) | (have H2_ := (Option.bind_some _ _).symm.trans H; rw [hy305]; with_reducible exact H2_) | (have H2_ := (Option.bind_some _ _).symm.trans H; with_reducible exact H2_) | with_reducible exact H | (rw [hy305]; exact H) | exact H
      have Ny305 := Aside0.mk hy305
      clear hy305
      simp only [Option.some.injEq, Prod.mk.injEq] at H
      obtain ⟨rfl, rfl⟩ := H
      have p288 : 0 ≤ (x11_1 : Int) := of_decide_eq_true (by first | (with_reducible assumption) | assumption)
      have q288 : x11_1 < (l0.length : Int) := of_decide_eq_true (by first | (with_reducible assumption) | assumption)
      obtain ⟨ad288, e288, hx288_0⟩ := Kd.at_int HR0.out x11_1 p288 q288
      cases e288
      replace hx288_0 := (HB.out.cell (World.block_lt_of_cell? w _ hx288_0)).trans hx288_0
      replace p288 := eq_true p288
      replace q288 := eq_true q288
      go_wp2_with (first | ((with_reducible refine gate_callee (f := 151) rfl ?_); refine gl (some 31) rfl rfl Try.func151 (by kernel_rfl) rfl #[.int .i64 (rd l0 x11_1), .int .i64 a1] rfl ?_; (with_reducible refine (spec_MulLimited.calls (rd l0 x11_1) a1 t289 false _ A9.out).mono ?_); rintro e w' ⟨rfl, ⟨nd, rfl⟩⟩; refine ⟨_, rfl, ?_⟩; have p291 : 0 ≤ (x11_1 : Int) := of_decide_eq_true (by first | (with_reducible assumption) | assumption); have q291 : x11_1 < (l2.length : Int) := of_decide_eq_true (by first | (with_reducible assumption) | assumption); obtain ⟨ad291, e291, hx291_0⟩ := Kd.at_int HR2.out x11_1 p291 q291; cases e291; replace hx291_0 := (HB.out.cell (World.block_lt_of_cell? w _ hx291_0)).trans hx291_0; replace p291 := eq_true p291; replace q291 := eq_true q291) | ((with_reducible refine gate_callee (f := 151) rfl ?_); refine gl (some 40) rfl rfl Try.func151 (by kernel_rfl) rfl #[.int .i64 (rd l2 x11_1), .int .i64 a3] rfl ?_; (with_reducible refine (spec_MulLimited.calls (rd l2 x11_1) a3 t292 t293 _ A11.out).mono ?_); rintro e w' ⟨rfl, ⟨nd, rfl⟩⟩; refine ⟨_, rfl, ?_⟩) | ((with_reducible refine gate_callee (f := 152) rfl ?_); refine gl (some 46) rfl rfl Try.func152 (by kernel_rfl) rfl #[.int .i64 t289, .int .i64 t292] rfl ?_; (with_reducible refine (spec_AddLimited.calls t289 t292 t294 t295 _ A12.out).mono ?_); rintro e w' ⟨rfl, ⟨nd, rfl⟩⟩; refine ⟨_, rfl, ?_⟩) | ((with_reducible refine gate_dst (N := 59) rfl ?_); refine Kd.R_lit (Kd.int .i64) _ 3 ?hg (N := 59) ?hd (xs := ([] : List Int)) (inner := []) (ok := fun _ => True) (okp := fun _ => True) ?hr ?hp (fun _ hk => hk) trivial (Below.refl _ _) (Nat.le_refl _) (by simp) ?_; (case hd => rfl); (case hg => rfl); (case hr => first | (go_simp; done) | (go_simp; rfl)); (case hp => exact (Reps.none _ _)); intro v306 w22 ho23 hb hg_ hnew_; clear hg_ hnew_; (first | rw [← Ny305.out] at ho23 | (simp only [Int.reduceToNat] at ho23; rw [← Ny305.out] at ho23)); have HO307 := Aside0.mk (Kd.R_lower (Kd.R_new' ho23 (Kd.R_lt (mr HO_10))) (below_size (ms HB))); replace HO_10 := rl HO_10 ho23 hb; replace HB := bs HB hb; clear hb ho23))
      go_ret2
      exact ⟨_, by first | rfl | (simp [errW_none, errW_some] <;> rfl) | (simp [*, errW_none, errW_some] <;> rfl), by (with_reducible repeat (first | apply Kd.R_alloc | apply Kd.R_drewN | apply Kd.R_drew)); exact Kd.R_mono HO307.out (fun _ hk => trivial), ms HB⟩
     rw [if_neg c10] at H
     exact absurd H (by simp)
    rw [if_neg c8] at H
    exact absurd H (by simp)
   rw [if_neg c7] at H
   have c7b0 : decide (x11_1 < (l0.length : Int)) = false := decide_eq_false c7
   clear c7
   simp only [Option.some.injEq, Prod.mk.injEq] at H
   obtain ⟨rfl, rfl⟩ := H
   go_wp2
   go_ret2
   exact ⟨_, by first | rfl | (simp [errW_none, errW_some] <;> rfl) | (simp [*, errW_none, errW_some] <;> rfl), by (with_reducible repeat (first | apply Kd.R_alloc | apply Kd.R_drewN | apply Kd.R_drew)); exact HO_10.out, ms HB⟩

end Go.Proofs.Ytlencemmlgkflaa.QFnEntailed
