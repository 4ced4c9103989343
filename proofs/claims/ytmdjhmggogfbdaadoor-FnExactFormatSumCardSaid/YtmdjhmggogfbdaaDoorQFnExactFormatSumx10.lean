-- Made by a program of this claim's own (wip/print): not the kit's print as it stands.
import Derived.Test.YtmdjhmggogfbdaaDoorUFnExactFormatSumTri
import Derived.Test.YtmdjhmggogfbdaaDoorQFnExactFormatSumx0
import Derived.Test.YtmdjhmggogfbdaaDoorQFnExactFormatSumx5
import Derived.Test.YtmdjhmggogfbdaaDoorQFnExactFormatSumx7
import Derived.Test.YtmdjhmggogfbdaaDoorQFnExactFormatSumx9
namespace Go.Proofs.YtmdjhmggogfbdaaDoor.QFnExactFormatSum
open Go.RowKit Go.Proofs.YtmdjhmggogfbdaaDoorV.PrintWords Go.Proofs.YtmdjhmggogfbdaaDoorV.PrintLast Go.Proofs.YtmdjhmggogfbdaaDoorV.PrintMore
attribute [local go_sem] max2_int min2_int max_two min_two max_three min_three max_four min_four   -- for this text's walks alone
set_option linter.unusedVariables false
set_option linter.unusedSimpArgs false

/-! ### impl_FormatSum: function 34 -/
def impl_FormatSum.l0 : Nat → List ByteArray → List (S79) → Int → Int → Int → List Int → Option (ByteArray)
 | 0, _, _, _, _, _, _ => none
 | k + 1, x4, x14, x15, x16, x231000, x231001 => if x16 < x15 then (if 0 ≤ x16 then (if x16 < (x14.length : Int) then ((some (([(rd_T79 x14 x16).f0] : List Int) : List Int)).bind fun y233 => (if x231001.length + y233.length < 17592186044416 then ((some (([(rd_T79 x14 x16).f1] : List ByteArray) : List ByteArray)).bind fun y239 => (if x4.length + y239.length < 8796093022208 then (impl_FormatSum.l0 k (x4 ++ y239) x14 x15 (wrap64 (x16 + 1)) x231000 (x231001 ++ y233)) else (none))) else (none))) else (none)) else (none)) else ((impl_FormatLin.f k x231000 x231001 x4).bind fun t245 => (some t245))
def impl_FormatSum.f (k : Nat) (a0_0 : Int) (l0_1 : List (S79)) : Option (ByteArray) := (impl_IsValidSum.f k a0_0 l0_1).bind fun t229 => (if t229 = true then (impl_FormatSum.l0 k ([] : List ByteArray) l0_1 (l0_1.length : Int) 0 a0_0 ([] : List Int)) else (some (⟨#[]⟩ : ByteArray)))
theorem impl_FormatSum.mono_l : ∀ k, (∀ y0 y1 y2 y3 y4 y5, LeO (impl_FormatSum.l0 k y0 y1 y2 y3 y4 y5) (impl_FormatSum.l0 (k + 1) y0 y1 y2 y3 y4 y5))
 | 0 => fun _ _ _ _ _ _ r h => by simp [impl_FormatSum.l0] at h
 | k + 1 => by
  have ih0 := impl_FormatSum.mono_l k
  ·intro y0 y1 y2 y3 y4 y5
   unfold impl_FormatSum.l0
   repeat' first
   | (with_reducible exact ih0 _ _ _ _ _ _)
   | (with_reducible exact impl_FormatLin.mono _ _ _ _)
   | (with_reducible exact impl_IsValidSum.mono _ _ _)
   | (with_reducible exact LeO.refl _)
   | (with_reducible exact LeO.none _)
   | (with_reducible refine LeO.ite ?_ ?_)
   | (with_reducible refine LeO.bind ?_ (fun _ => ?_))
   | exact ih0 _ _ _ _ _ _
   | exact impl_FormatLin.mono _ _ _ _
   | exact impl_IsValidSum.mono _ _ _
   | exact LeO.none _
   | refine LeO.ite ?_ ?_
   | refine LeO.bind ?_ (fun _ => ?_)
theorem impl_FormatSum.mono : ∀ a0 a1 k, LeO (impl_FormatSum.f k a0 a1) (impl_FormatSum.f (k + 1) a0 a1) := by
 intro a0 a1 k
 have ih0 := impl_FormatSum.mono_l k
 unfold impl_FormatSum.f
 repeat' first
   | (with_reducible exact ih0 _ _ _ _ _ _)
   | (with_reducible exact impl_FormatLin.mono _ _ _ _)
   | (with_reducible exact impl_IsValidSum.mono _ _ _)
   | (with_reducible exact LeO.refl _)
   | (with_reducible exact LeO.none _)
   | (with_reducible refine LeO.ite ?_ ?_)
   | (with_reducible refine LeO.bind ?_ (fun _ => ?_))
   | exact ih0 _ _ _ _ _ _
   | exact impl_FormatLin.mono _ _ _ _
   | exact impl_IsValidSum.mono _ _ _
   | exact LeO.none _
   | refine LeO.ite ?_ ?_
   | refine LeO.bind ?_ (fun _ => ?_)
def impl_FormatSum.T8 : Bool × List (List Nat × List Nat) := (true, [([], []), ([0], [0]), ([], []), ([2], [2]), ([3], [3]), ([1, 4], [1, 4]), ([], []), ([], []), ([7], [7]), ([8], [8]), ([6, 9, 5], [6, 9]), ([0, 1, 2, 3, 4, 5], []), ([11, 5, 10, 0, 1, 2, 3, 4, 5], [5, 11]), ([10, 12, 0, 1, 2, 3, 4, 5, 6, 7, 8, 9, 10, 11, 12], [6, 10])])
def impl_FormatSum.B8 : List Nat := [0, 1, 0, 4, 12, 31, 0, 0, 128, 384, 1023, 63, 4095, 8191]
theorem impl_FormatSum.tab8 : rtab .any (opsOf Tryd.f34 8) = impl_FormatSum.T8 := by kernel_rfl
theorem impl_FormatSum.bits8 : waitsOk impl_FormatSum.T8.2 impl_FormatSum.B8 = true := by kernel_rfl
set_option maxHeartbeats 8000000 in
set_option maxRecDepth 100000 in
theorem impl_FormatSum.calls (k : Nat) (a0_0 : Int) (A0_1 : Option Addr) (c0_1 : Nat) (l0_1 : List (S79)) (r : ByteArray) (w : World) (hr0_1 : Kd.C k79 w A0_1 l0_1.length l0_1) (hc0_1 : l0_1.length ≤ c0_1) (h : impl_FormatSum.f k a0_0 l0_1 = some r) (hTb_ : TbL w := by first | assumption | ((with_reducible repeat (first | apply tb_alloc | apply tb_drewN | apply tb_drew)); first | assumption | exact tb_of (by assumption) (by assumption) | exact tb_of (by assumption) ⟨below_set (below_set (Aside0.out (by assumption)) (Aside0.out (by assumption))) (Aside0.out (by assumption))⟩)) :
  Calls Tryd.prog 34 #[.agg #[.int .i64 a0_0, .slice A0_1 l0_1.length c0_1]] w fun e w' => e = .returned (.string r) ∧ Below w.heap.size w w' := by
 have hu51 := Tryd.underlying51
 have hu39 := Tryd.underlying39
 have hu79 := Tryd.underlying79
 have HR0_1 := Aside0.mk hr0_1
 have HC0_1 := Aside0.mk hc0_1
 clear hr0_1 hc0_1
 have HB := Aside0.mk (Below.refl w.heap.size w)
 have H : ((impl_IsValidSum.f k a0_0 l0_1).bind fun t229 => (if t229 = true then (impl_FormatSum.l0 k ([] : List ByteArray) l0_1 (l0_1.length : Int) 0 a0_0 ([] : List Int)) else (some (⟨#[]⟩ : ByteArray)))) = some r := h
 clear h
 replace H := Option.bind_eq_some_iff.mp H
 obtain ⟨t229, A20, H⟩ := H
 replace H : (if t229 = true then (impl_FormatSum.l0 k ([] : List ByteArray) l0_1 (l0_1.length : Int) 0 a0_0 ([] : List Int)) else (some (⟨#[]⟩ : ByteArray))) = some r := H
 have A2 := Aside0.mk A20
 clear A20
 by_cases c3 : t229 = true
 ·subst c3
  have H1 : (impl_FormatSum.l0 k ([] : List ByteArray) l0_1 (l0_1.length : Int) 0 a0_0 ([] : List Int)) = some r := by rw [if_pos rfl] at H; exact H
  clear H
  have H := H1
  clear H1
  have H' := Aside0.mk H
  clear H
  go_enter Tryd.func34, Tryd.ntmps34
  go_wp2_with (first | ((with_reducible refine gate_dst (N := 1) rfl ?_); refine box_event ?hg (N := 1) ?hd (cs := #[.int .i64 a0_0, .slice A0_1 l0_1.length c0_1]) (t := 51) ?hr ?_; (case hd => rfl); (case hg => rfl); (case hr => first | (go_simp; done) | (go_simp; rfl)); intro gb228 hg w4 hbox hb; have BK228 := Aside0.mk (hbox); have GW228 := gw hg HB; have GE228 := gw hg HB; replace HB := bs HB hb; clear hb hbox hg; obtain ⟨hcz5_0, hcz5_1⟩ := c2 BK228; have hfz5_0 := blk_frozen BK228.out 0; have hfz5_1 := blk_frozen BK228.out 1) | ((with_reducible refine gate_callee (f := 65) rfl ?_); refine gl (some 8) rfl rfl Tryd.func65 (by kernel_rfl) rfl #[.agg #[.int .i64 a0_0, .slice A0_1 l0_1.length c0_1]] rfl ?_; (with_reducible refine (impl_IsValidSum.calls k a0_0 _ _ l0_1 true _ ?side1 ?side2 A2.out).mono ?_); (case side1 => exact mc ((Kd.C_below HR0_1.out HB.out))); (case side2 => exact HC0_1.out); rintro e w6 ⟨rfl, hb⟩; refine ⟨_, rfl, ?_⟩; replace BK228 := bb BK228 hb; replace HB := bs HB hb; (try clear hb); obtain ⟨hcz7_0, hcz7_1⟩ := c2 BK228; have hfz7_0 := blk_frozen BK228.out 0; have hfz7_1 := blk_frozen BK228.out 1) | ((with_reducible refine gate_dst (N := 3) rfl ?_); refine box_event ?hg (N := 3) ?hd (cs := #[.int .i64 0, .slice none 0 0]) (t := 39) ?hr ?_; (case hd => rfl); (case hg => rfl); (case hr => first | (go_simp; done) | (go_simp; rfl)); intro gb230 hg w8 hbox hb; have BK230 := Aside0.mk (hbox); have GW230 := gw hg HB; have GE230 := gw hg HB; replace HB := bs HB hb; have NB228_230 := nl hg BK228; have NB230_228 := ng hg BK228; replace BK228 := bb BK228 hb; clear hb hbox hg; have hnb9 := NB230_228.out; have hnc9 := NB228_230.out; obtain ⟨hcz10_0, hcz10_1⟩ := c2 BK230; have hfz10_0 := blk_frozen BK230.out 0; have hfz10_1 := blk_frozen BK230.out 1; obtain ⟨hcz11_0, hcz11_1⟩ := c2 BK228; have hfz11_0 := blk_frozen BK228.out 0; have hfz11_1 := blk_frozen BK228.out 1))
  go_loopg [4, 16] k (fun kq v4 v16 w' => ∃ (x4_1 : List ByteArray) (x16_1 : Int) (x231001_1 : List Int) (u231001 : Value), v16 = .int .i64 x16_1 ∧ Aside0 (impl_FormatSum.l0 kq x4_1 l0_1 (l0_1.length : Int) x16_1 a0_0 x231001_1 = some r) ∧ Aside0 (kq ≤ k) ∧ Aside0 (Kd.R Kd.string 9 w' w.heap.size (fun _ => True) v4 x4_1) ∧ Aside0 (Kd.R (Kd.int .i64) 3 w' w.heap.size (fun _ => True) u231001 x231001_1) ∧ Aside0 (w'.heap[gb228]? = some (.cells #[.int .i64 a0_0, (.slice A0_1 l0_1.length c0_1)] 51 (0, 0))) ∧ Aside0 (w'.heap[gb230]? = some (.cells #[.int .i64 a0_0, u231001] 39 (0, 0))) ∧ Aside0 (Below w.heap.size w w'))
  case atStart => exact ⟨(([] : List ByteArray)), (0), (([] : List Int)), (.slice none 0 0), (by first | rfl | (simp; done) | (simp [*]; done)), H', ⟨Nat.le_refl _⟩, ⟨by first | exact Kd.R_nil _ _ _ _ _ | exact Kd.N_nil _ _ _ _ _ | exact Kd.V_nil _ _ _ _ _ | exact Kd.Q_nil _ _ _ _ _ | exact Kd.S_nil _ _ _ _ _⟩, ⟨by first | exact Kd.R_nil _ _ _ _ _ | exact Kd.N_nil _ _ _ _ _ | exact Kd.V_nil _ _ _ _ _ | exact Kd.Q_nil _ _ _ _ _ | exact Kd.S_nil _ _ _ _ _⟩, ⟨by (with_reducible repeat (first | refine blk_drewN ?_ _ | refine blk_drew ?_ | refine blk_alloc ?_ _)); refine blk_far ?_ NB228_230.out _; (with_reducible repeat (first | refine blk_drewN ?_ _ | refine blk_drew ?_ | refine blk_alloc ?_ _)); refine blk_far ?_ NB228_230.out _; (with_reducible repeat (first | refine blk_drewN ?_ _ | refine blk_drew ?_ | refine blk_alloc ?_ _)); exact BK228.out⟩, ⟨by (with_reducible repeat (first | refine blk_drewN ?_ _ | refine blk_drew ?_ | refine blk_alloc ?_ _)); refine blk_put (cs := #[.int .i64 a0_0, .slice none 0 0]) ?_ 1 _ rfl; (with_reducible repeat (first | refine blk_drewN ?_ _ | refine blk_drew ?_ | refine blk_alloc ?_ _)); refine blk_put (cs := #[.int .i64 0, .slice none 0 0]) ?_ 0 _ rfl; (with_reducible repeat (first | refine blk_drewN ?_ _ | refine blk_drew ?_ | refine blk_alloc ?_ _)); exact BK230.out⟩, ⟨ms HB⟩⟩
  case round =>
   clear H'
   try clear p2
   try clear c3
   try clear c6
   try clear c9
   try clear hcz10_0
   try clear hcz10_1
   try clear hcz11_0
   try clear hcz11_1
   try clear hcz5_0
   try clear hcz5_1
   try clear hcz7_0
   try clear hcz7_1
   try clear hfz10_0
   try clear hfz10_1
   try clear hfz11_0
   try clear hfz11_1
   try clear hfz5_0
   try clear hfz5_1
   try clear hfz7_0
   try clear hfz7_1
   obtain ⟨x4_1, x16_1, x231001_1, u231001, rfl, HA, HK1, HO_4, HO_231001, BK228, BK230, HB⟩ := hrel
   cases gk with
   | zero => exact absurd HA.out (by simp [impl_FormatSum.l0])
   | succ k1 =>
    have H := HA.out
    clear HA
    simp only [impl_FormatSum.l0] at H
    by_cases c12 : x16_1 < (l0_1.length : Int)
    ·rw [if_pos c12] at H
     have c12b0 : decide (x16_1 < (l0_1.length : Int)) = true := decide_eq_true c12
     clear c12
     by_cases c13 : 0 ≤ x16_1
     ·rw [if_pos c13] at H
      have c13b0 : decide (0 ≤ x16_1) = true := decide_eq_true c13
      clear c13
      by_cases c14 : x16_1 < (l0_1.length : Int)
      ·rw [if_pos c14] at H
       have c14b0 : decide (x16_1 < (l0_1.length : Int)) = true := decide_eq_true c14
       clear c14
       obtain ⟨y233, hy233⟩ : ∃ y_ : List Int, y_ = (([(rd_T79 l0_1 x16_1).f0] : List Int)) := ⟨_, rfl⟩
       replace H : (if x231001_1.length + y233.length < 17592186044416 then ((some (([(rd_T79 l0_1 x16_1).f1] : List ByteArray) : List ByteArray)).bind fun y239 => (if x4_1.length + y239.length < 8796093022208 then (impl_FormatSum.l0 k1 (x4_1 ++ y239) l0_1 (l0_1.length : Int) (wrap64 (x16_1 + 1)) a0_0 (x231001_1 ++ y233)) else (none))) else (none)) = some r := by first | (rw [hy233]; with_reducible exact H) | (have H2_ := (Option.bind_some _ _).symm.trans H; rw [hy233]; with_reducible exact H2_) | (have H2_ := (Option.bind_some _ _).symm.trans H; with_reducible exact H2_) | with_reducible exact H | (rw [hy233]; exact H) | exact H
       have Ny233 := Aside0.mk hy233
       clear hy233
       by_cases c15 : x231001_1.length + y233.length < 17592186044416
       ·rw [if_pos c15] at H
        have LMc15 := Aside0.mk c15
        clear c15
        obtain ⟨y236, hy236⟩ : ∃ y_ : List Int, y_ = (x231001_1 ++ y233) := ⟨_, rfl⟩
        replace H : ((some (([(rd_T79 l0_1 x16_1).f1] : List ByteArray) : List ByteArray)).bind fun y239 => (if x4_1.length + y239.length < 8796093022208 then (impl_FormatSum.l0 k1 (x4_1 ++ y239) l0_1 (l0_1.length : Int) (wrap64 (x16_1 + 1)) a0_0 y236) else (none))) = some r := by first | (rw [hy236]; with_reducible exact H) | (have H2_ := (Option.bind_some _ _).symm.trans H; rw [hy236]; with_reducible exact H2_) | (have H2_ := (Option.bind_some _ _).symm.trans H; with_reducible exact H2_) | with_reducible exact H | (rw [hy236]; exact H) | exact H
        have Ny236 := Aside0.mk hy236
        clear hy236
        obtain ⟨y239, hy239⟩ : ∃ y_ : List ByteArray, y_ = (([(rd_T79 l0_1 x16_1).f1] : List ByteArray)) := ⟨_, rfl⟩
        replace H : (if x4_1.length + y239.length < 8796093022208 then (impl_FormatSum.l0 k1 (x4_1 ++ y239) l0_1 (l0_1.length : Int) (wrap64 (x16_1 + 1)) a0_0 y236) else (none)) = some r := by first | (rw [hy239]; with_reducible exact H) | (have H2_ := (Option.bind_some _ _).symm.trans H; rw [hy239]; with_reducible exact H2_) | (have H2_ := (Option.bind_some _ _).symm.trans H; with_reducible exact H2_) | with_reducible exact H | (rw [hy239]; exact H) | exact H
        have Ny239 := Aside0.mk hy239
        clear hy239
        by_cases c16 : x4_1.length + y239.length < 8796093022208
        ·rw [if_pos c16] at H
         have LMc16 := Aside0.mk c16
         clear c16
         obtain ⟨y242, hy242⟩ : ∃ y_ : List ByteArray, y_ = (x4_1 ++ y239) := ⟨_, rfl⟩
         replace H : (impl_FormatSum.l0 k1 y242 l0_1 (l0_1.length : Int) (wrap64 (x16_1 + 1)) a0_0 y236) = some r := by first | (rw [hy242]; with_reducible exact H) | (have H2_ := (Option.bind_some _ _).symm.trans H; rw [hy242]; with_reducible exact H2_) | (have H2_ := (Option.bind_some _ _).symm.trans H; with_reducible exact H2_) | with_reducible exact H | (rw [hy242]; exact H) | exact H
         have Ny242 := Aside0.mk hy242
         clear hy242
         have H' := Aside0.mk H
         clear H
         have p231 : 0 ≤ (x16_1 : Int) := of_decide_eq_true (by first | (with_reducible assumption) | assumption)
         have q231 : x16_1 < (l0_1.length : Int) := of_decide_eq_true (by first | (with_reducible assumption) | assumption)
         obtain ⟨ad231, e231, hx231_0, hx231_1⟩ := at_T79 HR0_1.out x16_1 p231 q231
         cases e231
         replace hx231_0 := (HB.out.cell (World.block_lt_of_cell? w _ hx231_0)).trans hx231_0
         replace hx231_1 := (HB.out.cell (World.block_lt_of_cell? w _ hx231_1)).trans hx231_1
         replace p231 := eq_true p231
         replace q231 := eq_true q231
         try go_wp2_with (first | ((with_reducible refine gate_dst (N := 6) rfl ?_); refine box_event ?hg (N := 6) ?hd (cs := #[.int .i64 0, .string (⟨#[]⟩ : ByteArray)]) (t := 79) ?hr ?_; (case hd => rfl); (case hg => rfl); (case hr => first | (go_simp; done) | (go_simp; rfl)); intro gb232 hg w17 hbox hb; replace HO_4 := rb HO_4 hb; replace HO_231001 := rb HO_231001 hb; have BK232 := Aside0.mk (hbox); have GW232 := gw hg HB; have GE232 := gw hg HB; replace HB := bs HB hb; have NB228_232 := nl hg BK228; have NB232_228 := ng hg BK228; replace BK228 := bb BK228 hb; have NB230_232 := nl hg BK230; have NB232_230 := ng hg BK230; replace BK230 := bb BK230 hb; clear hb hbox hg; have hnb18 := NB232_228.out; have hnc18 := NB228_232.out; have hnb19 := NB232_230.out; have hnc19 := NB230_232.out; obtain ⟨hcz20_0, hcz20_1⟩ := c2 BK232; have hfz20_0 := blk_frozen BK232.out 0; have hfz20_1 := blk_frozen BK232.out 1; obtain ⟨Ao21, co21, eo21⟩ := Kd.R_slice HO_231001.out; subst eo21; obtain ⟨Ao22, co22, eo22⟩ := Kd.R_slice HO_4.out; subst eo22))
         have n0_ : Aside0 (Kd.R Kd.string 9 ((w17.setCell ⟨gb232, 0, none⟩ (.int .i64 ((rd_T79 l0_1 x16_1).f0))).setCell ⟨gb232, 1, none⟩ (.string ((rd_T79 l0_1 x16_1).f1))) w.heap.size (fun _ => True) (.slice Ao22 x4_1.length co22) x4_1) := ⟨by (with_reducible repeat (first | apply Kd.R_alloc | apply Kd.R_drewN | apply Kd.R_drew)); exact Kd.R_mono (Kd.R_far (p := ⟨gb232, 1, none⟩) (Kd.R_far (p := ⟨gb232, 0, none⟩) (Kd.R_types HO_4.out BK232.out (by decide)) (fun _ hk => hk.2) (.int .i64 ((rd_T79 l0_1 x16_1).f0))) (fun _ hk => hk.2) (.string ((rd_T79 l0_1 x16_1).f1))) (fun _ hk => trivial)⟩
         have n1_ : Aside0 (Kd.R (Kd.int .i64) 3 ((w17.setCell ⟨gb232, 0, none⟩ (.int .i64 ((rd_T79 l0_1 x16_1).f0))).setCell ⟨gb232, 1, none⟩ (.string ((rd_T79 l0_1 x16_1).f1))) w.heap.size (fun _ => True) (.slice Ao21 x231001_1.length co21) x231001_1) := ⟨by (with_reducible repeat (first | apply Kd.R_alloc | apply Kd.R_drewN | apply Kd.R_drew)); exact Kd.R_mono (Kd.R_far (p := ⟨gb232, 1, none⟩) (Kd.R_far (p := ⟨gb232, 0, none⟩) (Kd.R_types HO_231001.out BK232.out (by decide)) (fun _ hk => hk.2) (.int .i64 ((rd_T79 l0_1 x16_1).f0))) (fun _ hk => hk.2) (.string ((rd_T79 l0_1 x16_1).f1))) (fun _ hk => trivial)⟩
         have n2_ : Aside0 (((w17.setCell ⟨gb232, 0, none⟩ (.int .i64 ((rd_T79 l0_1 x16_1).f0))).setCell ⟨gb232, 1, none⟩ (.string ((rd_T79 l0_1 x16_1).f1))).heap[gb228]? = some (.cells #[.int .i64 a0_0, .slice (some ad231) l0_1.length c0_1] 51 (0, 0))) := ⟨by (with_reducible repeat (first | refine blk_drewN ?_ _ | refine blk_drew ?_ | refine blk_alloc ?_ _)); refine blk_far ?_ NB228_232.out _; (with_reducible repeat (first | refine blk_drewN ?_ _ | refine blk_drew ?_ | refine blk_alloc ?_ _)); refine blk_far ?_ NB228_232.out _; (with_reducible repeat (first | refine blk_drewN ?_ _ | refine blk_drew ?_ | refine blk_alloc ?_ _)); exact BK228.out⟩
         have n3_ : Aside0 (((w17.setCell ⟨gb232, 0, none⟩ (.int .i64 ((rd_T79 l0_1 x16_1).f0))).setCell ⟨gb232, 1, none⟩ (.string ((rd_T79 l0_1 x16_1).f1))).heap[gb230]? = some (.cells #[.int .i64 a0_0, .slice Ao21 x231001_1.length co21] 39 (0, 0))) := ⟨by (with_reducible repeat (first | refine blk_drewN ?_ _ | refine blk_drew ?_ | refine blk_alloc ?_ _)); refine blk_far ?_ NB230_232.out _; (with_reducible repeat (first | refine blk_drewN ?_ _ | refine blk_drew ?_ | refine blk_alloc ?_ _)); refine blk_far ?_ NB230_232.out _; (with_reducible repeat (first | refine blk_drewN ?_ _ | refine blk_drew ?_ | refine blk_alloc ?_ _)); exact BK230.out⟩
         have n4_ : Aside0 (((w17.setCell ⟨gb232, 0, none⟩ (.int .i64 ((rd_T79 l0_1 x16_1).f0))).setCell ⟨gb232, 1, none⟩ (.string ((rd_T79 l0_1 x16_1).f1))).heap[gb232]? = some (.cells #[.int .i64 ((rd_T79 l0_1 x16_1).f0), .string ((rd_T79 l0_1 x16_1).f1)] 79 (0, 0))) := ⟨by (with_reducible repeat (first | refine blk_drewN ?_ _ | refine blk_drew ?_ | refine blk_alloc ?_ _)); refine blk_put (cs := #[.int .i64 ((rd_T79 l0_1 x16_1).f0), .string (⟨#[]⟩ : ByteArray)]) ?_ 1 _ rfl; (with_reducible repeat (first | refine blk_drewN ?_ _ | refine blk_drew ?_ | refine blk_alloc ?_ _)); refine blk_put (cs := #[.int .i64 0, .string (⟨#[]⟩ : ByteArray)]) ?_ 0 _ rfl; (with_reducible repeat (first | refine blk_drewN ?_ _ | refine blk_drew ?_ | refine blk_alloc ?_ _)); exact BK232.out⟩
         have n5_ : Aside0 (Below w.heap.size w ((w17.setCell ⟨gb232, 0, none⟩ (.int .i64 ((rd_T79 l0_1 x16_1).f0))).setCell ⟨gb232, 1, none⟩ (.string ((rd_T79 l0_1 x16_1).f1)))) := ⟨ms HB⟩
         (try clear HO_4)
         (try clear HO_231001)
         (try clear BK228)
         (try clear BK230)
         (try clear BK232)
         (try clear HB)
         generalize ((w17.setCell ⟨gb232, 0, none⟩ (.int .i64 ((rd_T79 l0_1 x16_1).f0))).setCell ⟨gb232, 1, none⟩ (.string ((rd_T79 l0_1 x16_1).f1))) = w23 at n0_ n1_ n2_ n3_ n4_ n5_ ⊢
         have HO_4 := n0_
         have HO_231001 := n1_
         have BK228 := n2_
         have BK230 := n3_
         have BK232 := n4_
         have HB := n5_
         clear n0_ n1_ n2_ n3_ n4_ n5_
         replace HO_4 := Aside0.mk (Kd.R_drew HO_4.out)
         replace HO_231001 := Aside0.mk (Kd.R_drew HO_231001.out)
         replace BK228 := Aside0.mk (blk_drew BK228.out)
         replace BK230 := Aside0.mk (blk_drew BK230.out)
         replace BK232 := Aside0.mk (blk_drew BK232.out)
         replace HB := Aside0.mk (below_drew1 HB.out)
         refine start_ (n := 14) (S := fun w' => w'.cell? ⟨gb230, 0, none⟩ = some (.int .i64 a0_0) ∧ w'.cell? ⟨gb230, 1, none⟩ = some (.slice Ao21 x231001_1.length co21) ∧ w'.cell? ⟨gb232, 0, none⟩ = some (.int .i64 ((rd_T79 l0_1 x16_1).f0)) ∧ w'.cell? ⟨gb232, 1, none⟩ = some (.string ((rd_T79 l0_1 x16_1).f1))) (ds := [12]) #[false, false, false, false, false, false, false, false, false, false, false, false, false, false] (by kernel_rfl) rfl rfl ⟨(c2 BK230).1, (c2 BK230).2, (c2 BK232).1, (c2 BK232).2⟩ (fun hHeld => ?_); refine with_tabW impl_FormatSum.tab8 impl_FormatSum.bits8 (fun HT_ HW_ => ?_)
         generalize w23.drew = w24 at HO_4 HO_231001 BK228 BK230 BK232 HB hHeld ⊢
         refine pure_ (i := 0) (N := some 20) (v := ?_) (a' := ?_) #[true, false, false, false, false, false, false, false, false, false, false, false, false, false] rfl rfl (any_of HT_.out (by kernel_rfl)) (fun _ _ _ h => h) (Or.inl ⟨by rfl, ?_⟩) ?_ ?_
         rotate_left
         ·intro w'
          go_simp
          with_reducible rfl
         rotate_left
         ·simp only [Act.put, List.setIfInBounds_toArray, List.set_cons_zero, List.set_cons_succ, i64_w, i32_w]
          rfl
         refine pure_ (i := 2) (N := some 22) (v := ?_) (a' := ?_) #[true, false, true, false, false, false, false, false, false, false, false, false, false, false] rfl rfl (any_of HT_.out (by kernel_rfl)) (fun _ _ _ h => h) (Or.inl ⟨by rfl, ?_⟩) ?_ ?_
         rotate_left
         ·intro w'
          go_simp
          with_reducible rfl
         rotate_left
         ·simp only [Act.put, List.setIfInBounds_toArray, List.set_cons_zero, List.set_cons_succ, i64_w, i32_w]
          rfl
         refine pure_ (i := 6) (N := some 26) (v := ?_) (a' := ?_) #[true, false, true, false, false, false, true, false, false, false, false, false, false, false] rfl rfl (any_of HT_.out (by kernel_rfl)) (fun _ _ _ h => h) (Or.inl ⟨by rfl, ?_⟩) ?_ ?_
         rotate_left
         ·intro w'
          go_simp
          with_reducible rfl
         rotate_left
         ·simp only [Act.put, List.setIfInBounds_toArray, List.set_cons_zero, List.set_cons_succ, i64_w, i32_w]
          rfl
         refine pure_ (i := 7) (N := some 27) (v := ?_) (a' := ?_) #[true, false, true, false, false, false, true, true, false, false, false, false, false, false] rfl rfl (any_of HT_.out (by kernel_rfl)) (fun _ _ _ h => h) (Or.inl ⟨by rfl, ?_⟩) ?_ ?_
         rotate_left
         ·intro w'
          go_simp
          with_reducible rfl
         rotate_left
         ·simp only [Act.put, List.setIfInBounds_toArray, List.set_cons_zero, List.set_cons_succ, i64_w, i32_w]
          rfl
         refine take_ (i := 1) (N := some 21) (v := ?_) (a' := ?_) #[true, true, true, false, false, false, true, true, false, false, false, false, false, false] rfl rfl (take_ofW HT_.out HW_.out (by kernel_rfl)) (fun _ _ _ h => h) (Or.inl ⟨by rfl, ?_⟩) hHeld ?_ ?_
         rotate_left
         ·rintro w' ⟨s0, s1, s2, s3⟩
          go_simp
          with_reducible rfl
         rotate_left
         ·simp only [Act.put, List.setIfInBounds_toArray, List.set_cons_zero, List.set_cons_succ, i64_w, i32_w]
          rfl
         refine take_ (i := 3) (N := some 23) (v := ?_) (a' := ?_) #[true, true, true, true, false, false, true, true, false, false, false, false, false, false] rfl rfl (take_ofW HT_.out HW_.out (by kernel_rfl)) (fun _ _ _ h => h) (Or.inl ⟨by rfl, ?_⟩) hHeld ?_ ?_
         rotate_left
         ·rintro w' ⟨s0, s1, s2, s3⟩
          go_simp
          with_reducible rfl
         rotate_left
         ·simp only [Act.put, List.setIfInBounds_toArray, List.set_cons_zero, List.set_cons_succ, i64_w, i32_w]
          rfl
         refine take_ (i := 8) (N := some 28) (v := ?_) (a' := ?_) #[true, true, true, true, false, false, true, true, true, false, false, false, false, false] rfl rfl (take_ofW HT_.out HW_.out (by kernel_rfl)) (fun _ _ _ h => h) (Or.inl ⟨by rfl, ?_⟩) hHeld ?_ ?_
         rotate_left
         ·rintro w' ⟨s0, s1, s2, s3⟩
          go_simp
          with_reducible rfl
         rotate_left
         ·simp only [Act.put, List.setIfInBounds_toArray, List.set_cons_zero, List.set_cons_succ, i64_w, i32_w]
          rfl
         refine join_ (σ := Value × Value × Value) 3 #[true, true, true, true, true, true, true, true, true, true, false, true, false, false] (fun s_ => [(24, s_.1), (25, s_.2.1), (29, s_.2.2), (31, .pointer (some ⟨gb230, 1, none⟩))]) (fun s_ w' => (w'.cell? ⟨gb230, 0, none⟩ = some (.int .i64 a0_0) ∧ w'.cell? ⟨gb230, 1, none⟩ = some (.slice Ao21 x231001_1.length co21) ∧ w'.cell? ⟨gb232, 0, none⟩ = some (.int .i64 ((rd_T79 l0_1 x16_1).f0)) ∧ w'.cell? ⟨gb232, 1, none⟩ = some (.string ((rd_T79 l0_1 x16_1).f1))) ∧ (Kd.R (Kd.int .i64) 3 w' w.heap.size (fun k_ => some k_ ≠ (s_.2.1 : Value).ownBlock) s_.1 y233) ∧ (Kd.R (Kd.int .i64) 3 w' w.heap.size (fun k_ => some k_ ≠ (s_.1 : Value).ownBlock) s_.2.1 y236) ∧ (Kd.R Kd.string 9 w' w.heap.size (fun k_ => some k_ ≠ (.slice Ao22 x4_1.length co22 : Value).ownBlock) s_.2.2 y239) ∧ (Kd.R Kd.string 9 w' w.heap.size (fun k_ => some k_ ≠ (s_.2.2 : Value).ownBlock) (.slice Ao22 x4_1.length co22) x4_1) ∧ (w'.heap[gb228]? = some (.cells #[.int .i64 a0_0, .slice (some ad231) l0_1.length c0_1] 51 (0, 0))) ∧ (w'.heap[gb230]? = some (.cells #[.int .i64 a0_0, .slice Ao21 x231001_1.length co21] 39 (0, 0))) ∧ (w'.heap[gb232]? = some (.cells #[.int .i64 ((rd_T79 l0_1 x16_1).f0), .string ((rd_T79 l0_1 x16_1).f1)] 79 (0, 0))) ∧ (Below w.heap.size w w')) ?_ ?_
         rotate_left
         ·intro hCont
          refine two_ (i := 4) (j := 9) (Ni := some 24) (Nj := some 29) #[true, true, true, true, true, false, true, true, true, false, false, false, false, false] #[true, true, true, true, false, false, true, true, true, true, false, false, false, false] rfl rfl rfl rfl (two_of HT_.out (by kernel_rfl)) (by decide) (by decide) (fun K hK => ?_) (fun K hK => ?_)
          ·skip
           refine Kd.R_lit_step (Kd.int .i64) _ 3 ?hg (N := 24) ?hd (xs := ([(rd_T79 l0_1 x16_1).f0] : List Int)) (inner := [.int .i64 ((rd_T79 l0_1 x16_1).f0)]) (ok := fun _ => True) (okp := fun _ => True) ?hr ?hp (fun _ hk => hk) trivial (Below.refl _ _) (Nat.le_refl _) (by simp) ?_; (case hd => rfl); (case hg => rfl); (case hr => first | (go_simp; done) | (go_simp; rfl)); (case hp => exact (Reps.one (show Kd.M (Kd.int .i64) _ _ _ ((rd_T79 l0_1 x16_1).f0) [.int .i64 ((rd_T79 l0_1 x16_1).f0)] from rfl) (Reps.none _ _)))
           intro v234 w25 ho26 hb hg_ hnew_
           clear hg_ hnew_
           (first | rw [← Ny233.out] at ho26 | (simp only [Int.reduceToNat] at ho26; rw [← Ny233.out] at ho26))
           replace HO_4 := rb HO_4 hb
           have HO235 := Aside0.mk (Kd.R_lower (Kd.R_new' ho26 (Kd.R_lt (mr HO_231001))) (below_size (ms HB)))
           replace HO_231001 := rl HO_231001 ho26 hb
           replace BK228 := bb BK228 hb
           replace BK230 := bb BK230 hb
           replace BK232 := bb BK232 hb
           replace HB := bs HB hb
           clear hb ho26
           obtain ⟨Ao28, co28, eo28⟩ := Kd.R_slice HO235.out
           (first | subst eo28 | (injection eo28 with f1_ f2_ f3_; have f4_ := f1_.symm; have f5_ := f3_.symm; clear f1_ f2_ f3_; subst f4_; subst f5_))
           refine hK.out _ _ ⟨(c2 BK230).1, (c2 BK230).2, (c2 BK232).1, (c2 BK232).2⟩ (fun hHeld => ?_)
           clear hK K
           refine norm_ (a' := ?_) ?_ ?_
           rotate_left
           ·show Act.put _ (some 24) _ = _
            simp only [Act.put, List.setIfInBounds_toArray, List.set_cons_zero, List.set_cons_succ, i64_w, i32_w]
            rfl
           refine two_ (i := 5) (j := 9) (Ni := some 25) (Nj := some 29) #[true, true, true, true, true, true, true, true, true, false, false, false, false, false] #[true, true, true, true, true, false, true, true, true, true, false, false, false, false] rfl rfl rfl rfl (two_of HT_.out (by kernel_rfl)) (by decide) (by decide) (fun K hK => ?_) (fun K hK => ?_)
           ·skip
            refine Kd.R_append_rows_step (Kd.int .i64) (w0 := w) w.heap.size (by rfl) (.tmp 21) (.tmp 24) 34 3 (.int .i64 0) 8 rfl Tryd.underlying34 info3 rfl (by decide) (by omega) (.slice Ao21 x231001_1.length co21) x231001_1 y233 _ _ _ (fun k_ => some k_ ≠ (.slice Ao28 y233.length co28 : Value).ownBlock) (fun _ => False) rfl rfl ?aO ?aR (fun _ _ h => h) (fun _ h => h.elim) ?aF ?aB ?aS ?aL ?_
            (case aR => exact mc ((Kd.R_reads' HO235.out).2.2))
            (case aB => exact (ms HB))
            (case aF => exact (fun k_ hk => Kd.fresh' (Kd.R_lt (mr HO235)) k_ hk))
            (case aO => exact (by (with_reducible repeat (first | apply Kd.R_alloc | apply Kd.R_drewN | apply Kd.R_drew)); exact Kd.R_mono HO_231001.out (fun _ hk => hk.2)))
            (case aS => exact (below_size (ms HB)))
            (case aL => have := LMc15.out; omega)
            intro v237 w27 ho hb hg hat
            rw [← Ny236.out] at ho
            replace HO_4 := Aside0.mk (Kd.R_over' (mr HO_4) (Kd.R_typed (mr HO_231001)) (by decide) hg)
            replace BK228 := Aside0.mk (blk_grown (g := gb228) (o := .cells #[.int .i64 a0_0, .slice (some ad231) l0_1.length c0_1] 51 (0, 0)) (mb BK228) hg (Kd.R_ne HO_231001.out BK228.out (by decide)))
            replace BK230 := Aside0.mk (blk_grown (g := gb230) (o := .cells #[.int .i64 a0_0, .slice Ao21 x231001_1.length co21] 39 (0, 0)) (mb BK230) hg (Kd.R_ne HO_231001.out BK230.out (by decide)))
            replace BK232 := Aside0.mk (blk_grown (g := gb232) (o := .cells #[.int .i64 ((rd_T79 l0_1 x16_1).f0), .string ((rd_T79 l0_1 x16_1).f1)] 79 (0, 0)) (mb BK232) hg (Kd.R_ne HO_231001.out BK232.out (by decide)))
            replace HO235 := Aside0.mk (Kd.R_after (ok := (fun _ => True)) (mr HO235) hg hat)
            replace HB := Aside0.mk (hb)
            have HO238 := Aside0.mk (ho)
            clear HO_231001
            clear ho hb hg hat
            refine hK.out _ _ ⟨(c2 BK230).1, (c2 BK230).2, (c2 BK232).1, (c2 BK232).2⟩ (fun hHeld => ?_)
            clear hK K
            refine norm_ (a' := ?_) ?_ ?_
            rotate_left
            ·show Act.put _ (some 25) _ = _
             simp only [Act.put, List.setIfInBounds_toArray, List.set_cons_zero, List.set_cons_succ, i64_w, i32_w]
             rfl
            refine pure_ (i := 11) (N := some 31) (v := ?_) (a' := ?_) #[true, true, true, true, true, true, true, true, true, false, false, true, false, false] rfl rfl (any_of HT_.out (by kernel_rfl)) (fun _ _ _ h => h) (Or.inl ⟨by rfl, ?_⟩) ?_ ?_
            rotate_left
            ·intro w'
             go_simp
             with_reducible rfl
            rotate_left
            ·simp only [Act.put, List.setIfInBounds_toArray, List.set_cons_zero, List.set_cons_succ, i64_w, i32_w]
             rfl
            refine one_ (i := 9) (N := some 29) #[true, true, true, true, true, true, true, true, true, true, false, true, false, false] rfl rfl (one_of HT_.out (by kernel_rfl)) (by decide) (fun K hK => ?_)
            refine Kd.R_lit_step Kd.string _ 9 ?hg (N := 29) ?hd (xs := ([(rd_T79 l0_1 x16_1).f1] : List ByteArray)) (inner := [.string ((rd_T79 l0_1 x16_1).f1)]) (ok := fun _ => True) (okp := fun _ => True) ?hr ?hp (fun _ hk => hk) trivial (Below.refl _ _) (Nat.le_refl _) (by simp) ?_; (case hd => rfl); (case hg => rfl); (case hr => first | (go_simp; done) | (go_simp; rfl)); (case hp => exact (Reps.one (show Kd.M Kd.string _ _ _ ((rd_T79 l0_1 x16_1).f1) [.string ((rd_T79 l0_1 x16_1).f1)] from rfl) (Reps.none _ _)))
            intro v240 w29 ho30 hb hg_ hnew_
            clear hg_ hnew_
            (first | rw [← Ny239.out] at ho30 | (simp only [Int.reduceToNat] at ho30; rw [← Ny239.out] at ho30))
            replace HO235 := rb HO235 hb
            replace HO238 := rb HO238 hb
            have HO241 := Aside0.mk (Kd.R_lower (Kd.R_new' ho30 (Kd.R_lt (mr HO_4))) (below_size (ms HB)))
            replace HO_4 := rl HO_4 ho30 hb
            replace BK228 := bb BK228 hb
            replace BK230 := bb BK230 hb
            replace BK232 := bb BK232 hb
            replace HB := bs HB hb
            clear hb ho30
            refine hK.out _ _ ⟨(c2 BK230).1, (c2 BK230).2, (c2 BK232).1, (c2 BK232).2⟩ (fun hHeld => ?_)
            clear hK K
            refine norm_ (a' := ?_) ?_ ?_
            rotate_left
            ·show Act.put _ (some 29) _ = _
             simp only [Act.put, List.setIfInBounds_toArray, List.set_cons_zero, List.set_cons_succ, i64_w, i32_w]
             rfl
            exact norm_ (by simp only [putAll, Act.put, List.setIfInBounds_toArray, List.set_cons_zero, List.set_cons_succ]) (hCont (.slice Ao28 y233.length co28, v237, v240) _ ⟨hHeld, (by (with_reducible repeat (first | apply Kd.R_alloc | apply Kd.R_drewN | apply Kd.R_drew)); exact Kd.R_mono HO235.out (fun _ hk => hk.2)), (mr HO238), (by (with_reducible repeat (first | apply Kd.R_alloc | apply Kd.R_drewN | apply Kd.R_drew)); exact Kd.R_mono HO241.out (fun _ hk => hk.2)), (by (with_reducible repeat (first | apply Kd.R_alloc | apply Kd.R_drewN | apply Kd.R_drew)); exact Kd.R_mono HO_4.out (fun _ hk => hk.2)), (mb BK228), (mb BK230), (mb BK232), (ms HB)⟩)
           ·skip
            refine Kd.R_lit_step Kd.string _ 9 ?hg (N := 29) ?hd (xs := ([(rd_T79 l0_1 x16_1).f1] : List ByteArray)) (inner := [.string ((rd_T79 l0_1 x16_1).f1)]) (ok := fun _ => True) (okp := fun _ => True) ?hr ?hp (fun _ hk => hk) trivial (Below.refl _ _) (Nat.le_refl _) (by simp) ?_; (case hd => rfl); (case hg => rfl); (case hr => first | (go_simp; done) | (go_simp; rfl)); (case hp => exact (Reps.one (show Kd.M Kd.string _ _ _ ((rd_T79 l0_1 x16_1).f1) [.string ((rd_T79 l0_1 x16_1).f1)] from rfl) (Reps.none _ _)))
            intro v240 w27 ho28 hb hg_ hnew_
            clear hg_ hnew_
            (first | rw [← Ny239.out] at ho28 | (simp only [Int.reduceToNat] at ho28; rw [← Ny239.out] at ho28))
            replace HO_231001 := rb HO_231001 hb
            replace HO235 := rb HO235 hb
            have HO241 := Aside0.mk (Kd.R_lower (Kd.R_new' ho28 (Kd.R_lt (mr HO_4))) (below_size (ms HB)))
            replace HO_4 := rl HO_4 ho28 hb
            replace BK228 := bb BK228 hb
            replace BK230 := bb BK230 hb
            replace BK232 := bb BK232 hb
            replace HB := bs HB hb
            clear hb ho28
            obtain ⟨Ao30, co30, eo30⟩ := Kd.R_slice HO235.out
            (first | subst eo30 | (injection eo30 with f1_ f2_ f3_; have f4_ := f1_.symm; have f5_ := f3_.symm; clear f1_ f2_ f3_; subst f4_; subst f5_))
            refine hK.out _ _ ⟨(c2 BK230).1, (c2 BK230).2, (c2 BK232).1, (c2 BK232).2⟩ (fun hHeld => ?_)
            clear hK K
            refine norm_ (a' := ?_) ?_ ?_
            rotate_left
            ·show Act.put _ (some 29) _ = _
             simp only [Act.put, List.setIfInBounds_toArray, List.set_cons_zero, List.set_cons_succ, i64_w, i32_w]
             rfl
            refine one_ (i := 5) (N := some 25) #[true, true, true, true, true, true, true, true, true, true, false, false, false, false] rfl rfl (one_of HT_.out (by kernel_rfl)) (by decide) (fun K hK => ?_)
            refine Kd.R_append_rows_step (Kd.int .i64) (w0 := w) w.heap.size (by rfl) (.tmp 21) (.tmp 24) 34 3 (.int .i64 0) 8 rfl Tryd.underlying34 info3 rfl (by decide) (by omega) (.slice Ao21 x231001_1.length co21) x231001_1 y233 _ _ _ (fun k_ => some k_ ≠ (.slice Ao30 y233.length co30 : Value).ownBlock) (fun _ => False) rfl rfl ?aO ?aR (fun _ _ h => h) (fun _ h => h.elim) ?aF ?aB ?aS ?aL ?_
            (case aR => exact mc ((Kd.R_reads' HO235.out).2.2))
            (case aB => exact (ms HB))
            (case aF => exact (fun k_ hk => Kd.fresh' (Kd.R_lt (mr HO235)) k_ hk))
            (case aO => exact (by (with_reducible repeat (first | apply Kd.R_alloc | apply Kd.R_drewN | apply Kd.R_drew)); exact Kd.R_mono HO_231001.out (fun _ hk => hk.2)))
            (case aS => exact (below_size (ms HB)))
            (case aL => have := LMc15.out; omega)
            intro v237 w29 ho hb hg hat
            rw [← Ny236.out] at ho
            replace HO_4 := Aside0.mk (Kd.R_over' (mr HO_4) (Kd.R_typed (mr HO_231001)) (by decide) hg)
            replace BK228 := Aside0.mk (blk_grown (g := gb228) (o := .cells #[.int .i64 a0_0, .slice (some ad231) l0_1.length c0_1] 51 (0, 0)) (mb BK228) hg (Kd.R_ne HO_231001.out BK228.out (by decide)))
            replace BK230 := Aside0.mk (blk_grown (g := gb230) (o := .cells #[.int .i64 a0_0, .slice Ao21 x231001_1.length co21] 39 (0, 0)) (mb BK230) hg (Kd.R_ne HO_231001.out BK230.out (by decide)))
            replace BK232 := Aside0.mk (blk_grown (g := gb232) (o := .cells #[.int .i64 ((rd_T79 l0_1 x16_1).f0), .string ((rd_T79 l0_1 x16_1).f1)] 79 (0, 0)) (mb BK232) hg (Kd.R_ne HO_231001.out BK232.out (by decide)))
            replace HO235 := Aside0.mk (Kd.R_after (ok := (fun _ => True)) (mr HO235) hg hat)
            replace HO241 := Aside0.mk (Kd.R_over' (mr HO241) (Kd.R_typed (mr HO_231001)) (by decide) hg)
            replace HB := Aside0.mk (hb)
            have HO238 := Aside0.mk (ho)
            clear HO_231001
            clear ho hb hg hat
            refine hK.out _ _ ⟨(c2 BK230).1, (c2 BK230).2, (c2 BK232).1, (c2 BK232).2⟩ (fun hHeld => ?_)
            clear hK K
            refine norm_ (a' := ?_) ?_ ?_
            rotate_left
            ·show Act.put _ (some 25) _ = _
             simp only [Act.put, List.setIfInBounds_toArray, List.set_cons_zero, List.set_cons_succ, i64_w, i32_w]
             rfl
            refine pure_ (i := 11) (N := some 31) (v := ?_) (a' := ?_) #[true, true, true, true, true, true, true, true, true, true, false, true, false, false] rfl rfl (any_of HT_.out (by kernel_rfl)) (fun _ _ _ h => h) (Or.inl ⟨by rfl, ?_⟩) ?_ ?_
            rotate_left
            ·intro w'
             go_simp
             with_reducible rfl
            rotate_left
            ·simp only [Act.put, List.setIfInBounds_toArray, List.set_cons_zero, List.set_cons_succ, i64_w, i32_w]
             rfl
            exact norm_ (by simp only [putAll, Act.put, List.setIfInBounds_toArray, List.set_cons_zero, List.set_cons_succ]) (hCont (.slice Ao30 y233.length co30, v237, v240) _ ⟨hHeld, (by (with_reducible repeat (first | apply Kd.R_alloc | apply Kd.R_drewN | apply Kd.R_drew)); exact Kd.R_mono HO235.out (fun _ hk => hk.2)), (mr HO238), (by (with_reducible repeat (first | apply Kd.R_alloc | apply Kd.R_drewN | apply Kd.R_drew)); exact Kd.R_mono HO241.out (fun _ hk => hk.2)), (by (with_reducible repeat (first | apply Kd.R_alloc | apply Kd.R_drewN | apply Kd.R_drew)); exact Kd.R_mono HO_4.out (fun _ hk => hk.2)), (mb BK228), (mb BK230), (mb BK232), (ms HB)⟩)
          ·skip
           refine Kd.R_lit_step Kd.string _ 9 ?hg (N := 29) ?hd (xs := ([(rd_T79 l0_1 x16_1).f1] : List ByteArray)) (inner := [.string ((rd_T79 l0_1 x16_1).f1)]) (ok := fun _ => True) (okp := fun _ => True) ?hr ?hp (fun _ hk => hk) trivial (Below.refl _ _) (Nat.le_refl _) (by simp) ?_; (case hd => rfl); (case hg => rfl); (case hr => first | (go_simp; done) | (go_simp; rfl)); (case hp => exact (Reps.one (show Kd.M Kd.string _ _ _ ((rd_T79 l0_1 x16_1).f1) [.string ((rd_T79 l0_1 x16_1).f1)] from rfl) (Reps.none _ _)))
           intro v240 w25 ho26 hb hg_ hnew_
           clear hg_ hnew_
           (first | rw [← Ny239.out] at ho26 | (simp only [Int.reduceToNat] at ho26; rw [← Ny239.out] at ho26))
           replace HO_231001 := rb HO_231001 hb
           have HO241 := Aside0.mk (Kd.R_lower (Kd.R_new' ho26 (Kd.R_lt (mr HO_4))) (below_size (ms HB)))
           replace HO_4 := rl HO_4 ho26 hb
           replace BK228 := bb BK228 hb
           replace BK230 := bb BK230 hb
           replace BK232 := bb BK232 hb
           replace HB := bs HB hb
           clear hb ho26
           refine hK.out _ _ ⟨(c2 BK230).1, (c2 BK230).2, (c2 BK232).1, (c2 BK232).2⟩ (fun hHeld => ?_)
           clear hK K
           refine norm_ (a' := ?_) ?_ ?_
           rotate_left
           ·show Act.put _ (some 29) _ = _
            simp only [Act.put, List.setIfInBounds_toArray, List.set_cons_zero, List.set_cons_succ, i64_w, i32_w]
            rfl
           refine one_ (i := 4) (N := some 24) #[true, true, true, true, true, false, true, true, true, true, false, false, false, false] rfl rfl (one_of HT_.out (by kernel_rfl)) (by decide) (fun K hK => ?_)
           refine Kd.R_lit_step (Kd.int .i64) _ 3 ?hg (N := 24) ?hd (xs := ([(rd_T79 l0_1 x16_1).f0] : List Int)) (inner := [.int .i64 ((rd_T79 l0_1 x16_1).f0)]) (ok := fun _ => True) (okp := fun _ => True) ?hr ?hp (fun _ hk => hk) trivial (Below.refl _ _) (Nat.le_refl _) (by simp) ?_; (case hd => rfl); (case hg => rfl); (case hr => first | (go_simp; done) | (go_simp; rfl)); (case hp => exact (Reps.one (show Kd.M (Kd.int .i64) _ _ _ ((rd_T79 l0_1 x16_1).f0) [.int .i64 ((rd_T79 l0_1 x16_1).f0)] from rfl) (Reps.none _ _)))
           intro v234 w27 ho28 hb hg_ hnew_
           clear hg_ hnew_
           (first | rw [← Ny233.out] at ho28 | (simp only [Int.reduceToNat] at ho28; rw [← Ny233.out] at ho28))
           replace HO_4 := rb HO_4 hb
           replace HO241 := rb HO241 hb
           have HO235 := Aside0.mk (Kd.R_lower (Kd.R_new' ho28 (Kd.R_lt (mr HO_231001))) (below_size (ms HB)))
           replace HO_231001 := rl HO_231001 ho28 hb
           replace BK228 := bb BK228 hb
           replace BK230 := bb BK230 hb
           replace BK232 := bb BK232 hb
           replace HB := bs HB hb
           clear hb ho28
           obtain ⟨Ao30, co30, eo30⟩ := Kd.R_slice HO235.out
           (first | subst eo30 | (injection eo30 with f1_ f2_ f3_; have f4_ := f1_.symm; have f5_ := f3_.symm; clear f1_ f2_ f3_; subst f4_; subst f5_))
           refine hK.out _ _ ⟨(c2 BK230).1, (c2 BK230).2, (c2 BK232).1, (c2 BK232).2⟩ (fun hHeld => ?_)
           clear hK K
           refine norm_ (a' := ?_) ?_ ?_
           rotate_left
           ·show Act.put _ (some 24) _ = _
            simp only [Act.put, List.setIfInBounds_toArray, List.set_cons_zero, List.set_cons_succ, i64_w, i32_w]
            rfl
           refine one_ (i := 5) (N := some 25) #[true, true, true, true, true, true, true, true, true, true, false, false, false, false] rfl rfl (one_of HT_.out (by kernel_rfl)) (by decide) (fun K hK => ?_)
           refine Kd.R_append_rows_step (Kd.int .i64) (w0 := w) w.heap.size (by rfl) (.tmp 21) (.tmp 24) 34 3 (.int .i64 0) 8 rfl Tryd.underlying34 info3 rfl (by decide) (by omega) (.slice Ao21 x231001_1.length co21) x231001_1 y233 _ _ _ (fun k_ => some k_ ≠ (.slice Ao30 y233.length co30 : Value).ownBlock) (fun _ => False) rfl rfl ?aO ?aR (fun _ _ h => h) (fun _ h => h.elim) ?aF ?aB ?aS ?aL ?_
           (case aR => exact mc ((Kd.R_reads' HO235.out).2.2))
           (case aB => exact (ms HB))
           (case aF => exact (fun k_ hk => Kd.fresh' (Kd.R_lt (mr HO235)) k_ hk))
           (case aO => exact (by (with_reducible repeat (first | apply Kd.R_alloc | apply Kd.R_drewN | apply Kd.R_drew)); exact Kd.R_mono HO_231001.out (fun _ hk => hk.2)))
           (case aS => exact (below_size (ms HB)))
           (case aL => have := LMc15.out; omega)
           intro v237 w29 ho hb hg hat
           rw [← Ny236.out] at ho
           replace HO_4 := Aside0.mk (Kd.R_over' (mr HO_4) (Kd.R_typed (mr HO_231001)) (by decide) hg)
           replace BK228 := Aside0.mk (blk_grown (g := gb228) (o := .cells #[.int .i64 a0_0, .slice (some ad231) l0_1.length c0_1] 51 (0, 0)) (mb BK228) hg (Kd.R_ne HO_231001.out BK228.out (by decide)))
           replace BK230 := Aside0.mk (blk_grown (g := gb230) (o := .cells #[.int .i64 a0_0, .slice Ao21 x231001_1.length co21] 39 (0, 0)) (mb BK230) hg (Kd.R_ne HO_231001.out BK230.out (by decide)))
           replace BK232 := Aside0.mk (blk_grown (g := gb232) (o := .cells #[.int .i64 ((rd_T79 l0_1 x16_1).f0), .string ((rd_T79 l0_1 x16_1).f1)] 79 (0, 0)) (mb BK232) hg (Kd.R_ne HO_231001.out BK232.out (by decide)))
           replace HO241 := Aside0.mk (Kd.R_over' (mr HO241) (Kd.R_typed (mr HO_231001)) (by decide) hg)
           replace HO235 := Aside0.mk (Kd.R_after (ok := (fun _ => True)) (mr HO235) hg hat)
           replace HB := Aside0.mk (hb)
           have HO238 := Aside0.mk (ho)
           clear HO_231001
           clear ho hb hg hat
           refine hK.out _ _ ⟨(c2 BK230).1, (c2 BK230).2, (c2 BK232).1, (c2 BK232).2⟩ (fun hHeld => ?_)
           clear hK K
           refine norm_ (a' := ?_) ?_ ?_
           rotate_left
           ·show Act.put _ (some 25) _ = _
            simp only [Act.put, List.setIfInBounds_toArray, List.set_cons_zero, List.set_cons_succ, i64_w, i32_w]
            rfl
           refine pure_ (i := 11) (N := some 31) (v := ?_) (a' := ?_) #[true, true, true, true, true, true, true, true, true, true, false, true, false, false] rfl rfl (any_of HT_.out (by kernel_rfl)) (fun _ _ _ h => h) (Or.inl ⟨by rfl, ?_⟩) ?_ ?_
           rotate_left
           ·intro w'
            go_simp
            with_reducible rfl
           rotate_left
           ·simp only [Act.put, List.setIfInBounds_toArray, List.set_cons_zero, List.set_cons_succ, i64_w, i32_w]
            rfl
           exact norm_ (by simp only [putAll, Act.put, List.setIfInBounds_toArray, List.set_cons_zero, List.set_cons_succ]) (hCont (.slice Ao30 y233.length co30, v237, v240) _ ⟨hHeld, (by (with_reducible repeat (first | apply Kd.R_alloc | apply Kd.R_drewN | apply Kd.R_drew)); exact Kd.R_mono HO235.out (fun _ hk => hk.2)), (mr HO238), (by (with_reducible repeat (first | apply Kd.R_alloc | apply Kd.R_drewN | apply Kd.R_drew)); exact Kd.R_mono HO241.out (fun _ hk => hk.2)), (by (with_reducible repeat (first | apply Kd.R_alloc | apply Kd.R_drewN | apply Kd.R_drew)); exact Kd.R_mono HO_4.out (fun _ hk => hk.2)), (mb BK228), (mb BK230), (mb BK232), (ms HB)⟩)
         rintro ⟨v234, v237, v240⟩ w31 ⟨hS_, h0_, h1_, h2_, h3_, h4_, h5_, h6_, h7_⟩
         have n0_ : Aside0 (Kd.R (Kd.int .i64) 3 w31 w.heap.size (fun k_ => some k_ ≠ (v237 : Value).ownBlock) v234 y233) := ⟨h0_⟩
         have n1_ : Aside0 (Kd.R (Kd.int .i64) 3 w31 w.heap.size (fun k_ => some k_ ≠ (v234 : Value).ownBlock) v237 y236) := ⟨h1_⟩
         have n2_ : Aside0 (Kd.R Kd.string 9 w31 w.heap.size (fun k_ => some k_ ≠ (.slice Ao22 x4_1.length co22 : Value).ownBlock) v240 y239) := ⟨h2_⟩
         have n3_ : Aside0 (Kd.R Kd.string 9 w31 w.heap.size (fun k_ => some k_ ≠ (v240 : Value).ownBlock) (.slice Ao22 x4_1.length co22) x4_1) := ⟨h3_⟩
         have n4_ : Aside0 (w31.heap[gb228]? = some (.cells #[.int .i64 a0_0, .slice (some ad231) l0_1.length c0_1] 51 (0, 0))) := ⟨h4_⟩
         have n5_ : Aside0 (w31.heap[gb230]? = some (.cells #[.int .i64 a0_0, .slice Ao21 x231001_1.length co21] 39 (0, 0))) := ⟨h5_⟩
         have n6_ : Aside0 (w31.heap[gb232]? = some (.cells #[.int .i64 ((rd_T79 l0_1 x16_1).f0), .string ((rd_T79 l0_1 x16_1).f1)] 79 (0, 0))) := ⟨h6_⟩
         have n7_ : Aside0 (Below w.heap.size w w31) := ⟨h7_⟩
         clear HO_4
         clear HO_231001
         clear BK228
         clear BK230
         clear BK232
         clear HB
         clear h0_ h1_ h2_ h3_ h4_ h5_ h6_ h7_
         have HO235 := n0_
         have HO238 := n1_
         have HO241 := n2_
         have HO_4 := n3_
         have BK228 := n4_
         have BK230 := n5_
         have BK232 := n6_
         have HB := n7_
         clear n0_ n1_ n2_ n3_ n4_ n5_ n6_ n7_
         have hHeld : w31.cell? ⟨gb230, 0, none⟩ = some (.int .i64 a0_0) ∧ w31.cell? ⟨gb230, 1, none⟩ = some (.slice Ao21 x231001_1.length co21) ∧ w31.cell? ⟨gb232, 0, none⟩ = some (.int .i64 ((rd_T79 l0_1 x16_1).f0)) ∧ w31.cell? ⟨gb232, 1, none⟩ = some (.string ((rd_T79 l0_1 x16_1).f1)) := hS_
         obtain ⟨Ao33, co33, eo33⟩ := Kd.R_slice HO241.out
         (first | subst eo33 | (injection eo33 with f1_ f2_ f3_; have f4_ := f1_.symm; have f5_ := f3_.symm; clear f1_ f2_ f3_; subst f4_; subst f5_))
         refine norm_ (a' := ?_) ?_ ?_
         rotate_left
         ·simp only [putAll, Act.put, List.setIfInBounds_toArray, List.set_cons_zero, List.set_cons_succ]
          rfl
         refine one_ (i := 10) (N := some 30) #[true, true, true, true, true, true, true, true, true, true, true, true, false, false] rfl rfl (one_of HT_.out (by kernel_rfl)) (by decide) (fun K hK => ?_)
         refine Kd.R_append_rows_step Kd.string (w0 := w) w.heap.size (by rfl) (.tmp 26) (.tmp 29) 24 9 (.string ⟨#[]⟩) 16 rfl Tryd.underlying24 info9 rfl (by decide) (by omega) (.slice Ao22 x4_1.length co22) x4_1 y239 _ _ _ (fun k_ => some k_ ≠ (.slice Ao33 y239.length co33 : Value).ownBlock) (fun _ => False) rfl rfl ?aO ?aR (fun _ _ h => h) (fun _ h => h.elim) ?aF ?aB ?aS ?aL ?_
         (case aR => exact mc ((Kd.R_reads' HO241.out).2.2))
         (case aB => exact (ms HB))
         (case aF => exact (fun k_ hk => Kd.fresh' (Kd.R_lt (mr HO241)) k_ hk))
         (case aO => exact (mr HO_4))
         (case aS => exact (below_size (ms HB)))
         (case aL => have := LMc16.out; omega)
         intro v243 w32 ho hb hg hat
         rw [← Ny242.out] at ho
         have n0_ := Aside0.mk (blk_grown (g := gb228) (o := .cells #[.int .i64 a0_0, .slice (some ad231) l0_1.length c0_1] 51 (0, 0)) (mb BK228) hg (Kd.R_ne HO_4.out BK228.out (by decide)))
         have n1_ := Aside0.mk (blk_grown (g := gb230) (o := .cells #[.int .i64 a0_0, .slice Ao21 x231001_1.length co21] 39 (0, 0)) (mb BK230) hg (Kd.R_ne HO_4.out BK230.out (by decide)))
         have n2_ := Aside0.mk (blk_grown (g := gb232) (o := .cells #[.int .i64 ((rd_T79 l0_1 x16_1).f0), .string ((rd_T79 l0_1 x16_1).f1)] 79 (0, 0)) (mb BK232) hg (Kd.R_ne HO_4.out BK232.out (by decide)))
         have n3_ := Aside0.mk (Kd.R_over' (mr HO235) (Kd.R_typed (mr HO_4)) (by decide) hg)
         have n4_ := Aside0.mk (Kd.R_over' (mr HO238) (Kd.R_typed (mr HO_4)) (by decide) hg)
         have n5_ := Aside0.mk (Kd.R_after (ok := (fun _ => True)) (by (with_reducible repeat (first | apply Kd.R_alloc | apply Kd.R_drewN | apply Kd.R_drew)); exact Kd.R_mono HO241.out (fun _ hk => ⟨trivial, by first | exact hk | exact fun e_ => hk (e_.trans Go.Proofs.YtmdjhmggogfbdaaDoorV.PrintWords.own_len)⟩)) hg hat)
         have n6_ := Aside0.mk (hb)
         have n7_ := Aside0.mk (ho)
         clear BK228
         clear BK230
         clear BK232
         clear HO235
         clear HO238
         clear HO241
         clear HB
         clear HO_4
         have BK228 := n0_
         have BK230 := n1_
         have BK232 := n2_
         have HO235 := n3_
         have HO238 := n4_
         have HO241 := n5_
         have HB := n6_
         have HO244 := n7_
         clear n0_ n1_ n2_ n3_ n4_ n5_ n6_ n7_
         clear ho hb hg hat
         obtain ⟨Ao34, co34, eo34⟩ := Kd.R_slice HO238.out
         (first | subst eo34 | (injection eo34 with f1_ f2_ f3_; have f4_ := f1_.symm; have f5_ := f3_.symm; clear f1_ f2_ f3_; subst f4_; subst f5_))
         refine hK.out _ _ ⟨(c2 BK230).1, (c2 BK230).2, (c2 BK232).1, (c2 BK232).2⟩ (fun hHeld => ?_)
         clear hK K
         refine norm_ (a' := ?_) ?_ ?_
         rotate_left
         ·show Act.put _ (some 30) _ = _
          simp only [Act.put, List.setIfInBounds_toArray, List.set_cons_zero, List.set_cons_succ, i64_w, i32_w]
          rfl
         refine last_ (i := 12) (N := none) #[true, true, true, true, true, true, true, true, true, true, true, true, true, false] rfl rfl (one_of HT_.out (by kernel_rfl)) (by decide) (fun K hK => ?_)
         have hs35 : w32.cell? ⟨gb230, 1, none⟩ = some (.slice Ao21 x231001_1.length co21) := (blk_cell BK230.out 1).trans rfl
         have hfs35 := blk_frozen BK230.out 1
         have hns35_0 := NB228_230.out
         have hns35_2 := NB232_230.out
         have hms35_0 := NB230_228.out
         have hms35_2 := NB230_232.out
         refine skip_ (w1 := ?_) (by rfl) rfl ?_ ?_
         rotate_left
         ·go_simp
          rfl
         refine hK.out _ _ ?_
         clear hK K
         refine pure_ (i := 13) (N := some 4) (v := ?_) (a' := ?_) #[true, true, true, true, true, true, true, true, true, true, true, true, true, true] rfl rfl (any_of HT_.out (by kernel_rfl)) (fun _ _ _ h => h) (Or.inl ⟨by rfl, ?_⟩) ?_ ?_
         rotate_left
         ·intro w'
          go_simp
          with_reducible rfl
         rotate_left
         ·simp only [Act.put, List.setIfInBounds_toArray, List.set_cons_zero, List.set_cons_succ, i64_w, i32_w]
          rfl
         refine done_ (done_of HT_.out (by kernel_rfl)) ?_
         try go_wp2
         go_roundg k1
         case measure => have := HK1.out; omega
         case rel => exact ⟨(y242), (wrap64 (x16_1 + 1)), (y236), (.slice Ao34 y236.length co34), (by first | rfl | (simp; done) | (simp [*]; done)), H', ⟨by have := HK1.out; omega⟩, ⟨by (with_reducible repeat (first | apply Kd.R_alloc | apply Kd.R_drewN | apply Kd.R_drew)); exact Kd.R_mono (Kd.R_far (p := ⟨gb230, 1, none⟩) (Kd.R_types HO244.out BK230.out (by decide)) (fun _ hk => hk.2) (.slice Ao34 y236.length co34)) (fun _ hk => trivial)⟩, ⟨by (with_reducible repeat (first | apply Kd.R_alloc | apply Kd.R_drewN | apply Kd.R_drew)); exact Kd.R_mono (Kd.R_far (p := ⟨gb230, 1, none⟩) (Kd.R_types HO238.out BK230.out (by decide)) (fun _ hk => hk.2) (.slice Ao34 y236.length co34)) (fun _ hk => trivial)⟩, ⟨by (with_reducible repeat (first | refine blk_drewN ?_ _ | refine blk_drew ?_ | refine blk_alloc ?_ _)); refine blk_far ?_ NB228_230.out _; (with_reducible repeat (first | refine blk_drewN ?_ _ | refine blk_drew ?_ | refine blk_alloc ?_ _)); exact BK228.out⟩, ⟨by (with_reducible repeat (first | refine blk_drewN ?_ _ | refine blk_drew ?_ | refine blk_alloc ?_ _)); refine blk_put (cs := #[.int .i64 a0_0, .slice Ao21 x231001_1.length co21]) ?_ 1 _ rfl; (with_reducible repeat (first | refine blk_drewN ?_ _ | refine blk_drew ?_ | refine blk_alloc ?_ _)); exact BK230.out⟩, ⟨ms HB⟩⟩
        ·rw [if_neg c16] at H
         exact absurd H (by simp)
       ·rw [if_neg c15] at H
        exact absurd H (by simp)
      ·rw [if_neg c14] at H
       exact absurd H (by simp)
     ·rw [if_neg c13] at H
      exact absurd H (by simp)
    ·rw [if_neg c12] at H
     have c12b0 : decide (x16_1 < (l0_1.length : Int)) = false := decide_eq_false c12
     clear c12
     replace H := Option.bind_eq_some_iff.mp H
     obtain ⟨t245, A360, H⟩ := H
     replace H : (some t245) = some r := H
     have A36 := Aside0.mk A360
     clear A360
     obtain rfl := Option.some.inj H
     have hnb37 := NB230_228.out
     have hnc37 := NB228_230.out
     obtain ⟨hcz38_0, hcz38_1⟩ := c2 BK230
     have hfz38_0 := blk_frozen BK230.out 0
     have hfz38_1 := blk_frozen BK230.out 1
     obtain ⟨Ao39, co39, eo39⟩ := Kd.R_slice HO_231001.out
     subst eo39
     obtain ⟨Ao40, co40, eo40⟩ := Kd.R_slice HO_4.out
     subst eo40
     go_wp2_with (first | ((with_reducible refine gate_callee (f := 27) rfl ?_); refine gl (some 35) rfl rfl Tryd.func27 (by kernel_rfl) rfl #[.agg #[.int .i64 a0_0, .slice Ao39 x231001_1.length co39], .slice Ao40 x4_1.length co40] rfl ?_; (with_reducible refine (impl_FormatLin.calls k1 a0_0 _ _ x231001_1 _ _ x4_1 t245 _ ?side1 ?side2 ?side3 ?side4 A36.out).mono ?_); (case side1 => exact mc ((Kd.R_reads' HO_231001.out).2.2)); (case side2 => exact (Kd.R_reads' HO_231001.out).2.1); (case side3 => exact mc ((Kd.R_reads' HO_4.out).2.2)); (case side4 => exact (Kd.R_reads' HO_4.out).2.1); rintro e w41 ⟨rfl, hb⟩; refine ⟨_, rfl, ?_⟩; replace HO_4 := rb HO_4 hb; replace HO_231001 := rb HO_231001 hb; replace BK228 := bb BK228 hb; replace BK230 := bb BK230 hb; replace HB := bs HB hb; (try clear hb)))
     go_ret
     exact ⟨by first | rfl | (simp [errW_none, errW_some] <;> rfl) | (simp [*, errW_none, errW_some] <;> rfl), ms HB⟩
 ·replace c3 := Bool.eq_false_iff.mpr c3
  subst c3
  have H1 : (some (⟨#[]⟩ : ByteArray)) = some r := by rw [if_neg (show ¬ (false = true) by decide)] at H; exact H
  clear H
  have H := H1
  clear H1
  obtain rfl := Option.some.inj H
  go_enter Tryd.func34, Tryd.ntmps34
  go_wp2_with (first | ((with_reducible refine gate_dst (N := 1) rfl ?_); refine box_event ?hg (N := 1) ?hd (cs := #[.int .i64 a0_0, .slice A0_1 l0_1.length c0_1]) (t := 51) ?hr ?_; (case hd => rfl); (case hg => rfl); (case hr => first | (go_simp; done) | (go_simp; rfl)); intro gb228 hg w42 hbox hb; have BK228 := Aside0.mk (hbox); have GW228 := gw hg HB; have GE228 := gw hg HB; replace HB := bs HB hb; clear hb hbox hg; obtain ⟨hcz43_0, hcz43_1⟩ := c2 BK228; have hfz43_0 := blk_frozen BK228.out 0; have hfz43_1 := blk_frozen BK228.out 1) | ((with_reducible refine gate_callee (f := 65) rfl ?_); refine gl (some 8) rfl rfl Tryd.func65 (by kernel_rfl) rfl #[.agg #[.int .i64 a0_0, .slice A0_1 l0_1.length c0_1]] rfl ?_; (with_reducible refine (impl_IsValidSum.calls k a0_0 _ _ l0_1 false _ ?side1 ?side2 A2.out).mono ?_); (case side1 => exact mc ((Kd.C_below HR0_1.out HB.out))); (case side2 => exact HC0_1.out); rintro e w44 ⟨rfl, hb⟩; refine ⟨_, rfl, ?_⟩; replace BK228 := bb BK228 hb; replace HB := bs HB hb; (try clear hb)))
  go_ret
  exact ⟨by first | rfl | (simp [errW_none, errW_some] <;> rfl) | (simp [*, errW_none, errW_some] <;> rfl), ms HB⟩

/-! ### laws_eqTerm: function 95 -/
def laws_eqTerm.f (a0_0 : Int) (a0_1 : ByteArray) (a1_0 : Int) (a1_1 : ByteArray) : Option (Bool) := if a0_0 = a1_0 then (if a0_1.toList = a1_1.toList then (some true) else (some false)) else (some false)
set_option maxHeartbeats 8000000 in
set_option maxRecDepth 100000 in
theorem laws_eqTerm.calls (a0_0 : Int) (a0_1 : ByteArray) (a1_0 : Int) (a1_1 : ByteArray) (r : Bool) (w : World) (h : laws_eqTerm.f a0_0 a0_1 a1_0 a1_1 = some r) :
  Calls Tryd.prog 95 #[.agg #[.int .i64 a0_0, .string a0_1], .agg #[.int .i64 a1_0, .string a1_1]] w fun e w' => e = .returned (.bool r) ∧ Below w.heap.size w w' := by
 have hu79 := Tryd.underlying79
 have HB := Aside0.mk (Below.refl w.heap.size w)
 have H : (if a0_0 = a1_0 then (if a0_1.toList = a1_1.toList then (some true) else (some false)) else (some false)) = some r := h
 clear h
 by_cases c3 : a0_0 = a1_0
 ·rw [if_pos c3] at H
  have c3b0 : (a0_0 == a1_0) = true := beq_iff_eq.mpr c3
  have c3b1 : (a0_0 != a1_0) = false := bne_eq_false_iff_eq.mpr c3
  clear c3
  by_cases c4 : a0_1.toList = a1_1.toList
  ·rw [if_pos c4] at H
   have c4b0 : (a0_1.toList == a1_1.toList) = true := beq_iff_eq.mpr c4
   have c4b1 : (a0_1.toList != a1_1.toList) = false := bne_eq_false_iff_eq.mpr c4
   clear c4
   obtain rfl := Option.some.inj H
   go_enter Tryd.func95, Tryd.ntmps95
   go_wp2_with (first | ((with_reducible refine gate_dst (N := 2) rfl ?_); refine box_event ?hg (N := 2) ?hd (cs := #[.int .i64 a0_0, .string a0_1]) (t := 79) ?hr ?_; (case hd => rfl); (case hg => rfl); (case hr => first | (go_simp; done) | (go_simp; rfl)); intro gb246 hg w5 hbox hb; have BK246 := Aside0.mk (hbox); have GW246 := gw hg HB; have GE246 := gw hg HB; replace HB := bs HB hb; clear hb hbox hg) | ((with_reducible refine gate_dst (N := 3) rfl ?_); refine box_event ?hg (N := 3) ?hd (cs := #[.int .i64 a1_0, .string a1_1]) (t := 79) ?hr ?_; (case hd => rfl); (case hg => rfl); (case hr => first | (go_simp; done) | (go_simp; rfl)); intro gb247 hg w6 hbox hb; have BK247 := Aside0.mk (hbox); have GW247 := gw hg HB; have GE247 := gw hg HB; replace HB := bs HB hb; have NB246_247 := nl hg BK246; have NB247_246 := ng hg BK246; replace BK246 := bb BK246 hb; clear hb hbox hg; have hnb7 := NB246_247.out; have hnc7 := NB247_246.out; obtain ⟨hcz8_0, hcz8_1⟩ := c2 BK246; have hfz8_0 := blk_frozen BK246.out 0; have hfz8_1 := blk_frozen BK246.out 1; obtain ⟨hcz9_0, hcz9_1⟩ := c2 BK247; have hfz9_0 := blk_frozen BK247.out 0; have hfz9_1 := blk_frozen BK247.out 1))
   go_ret
   exact ⟨by first | rfl | (simp [errW_none, errW_some] <;> rfl) | (simp [*, errW_none, errW_some] <;> rfl), ms HB⟩
  ·rw [if_neg c4] at H
   have c4b0 : (a0_1.toList == a1_1.toList) = false := beq_eq_false_iff_ne.mpr c4
   have c4b1 : (a0_1.toList != a1_1.toList) = true := bne_iff_ne.mpr c4
   obtain rfl := Option.some.inj H
   go_enter Tryd.func95, Tryd.ntmps95
   go_wp2_with (first | ((with_reducible refine gate_dst (N := 2) rfl ?_); refine box_event ?hg (N := 2) ?hd (cs := #[.int .i64 a0_0, .string a0_1]) (t := 79) ?hr ?_; (case hd => rfl); (case hg => rfl); (case hr => first | (go_simp; done) | (go_simp; rfl)); intro gb246 hg w10 hbox hb; have BK246 := Aside0.mk (hbox); have GW246 := gw hg HB; have GE246 := gw hg HB; replace HB := bs HB hb; clear hb hbox hg) | ((with_reducible refine gate_dst (N := 3) rfl ?_); refine box_event ?hg (N := 3) ?hd (cs := #[.int .i64 a1_0, .string a1_1]) (t := 79) ?hr ?_; (case hd => rfl); (case hg => rfl); (case hr => first | (go_simp; done) | (go_simp; rfl)); intro gb247 hg w11 hbox hb; have BK247 := Aside0.mk (hbox); have GW247 := gw hg HB; have GE247 := gw hg HB; replace HB := bs HB hb; have NB246_247 := nl hg BK246; have NB247_246 := ng hg BK246; replace BK246 := bb BK246 hb; clear hb hbox hg; have hnb12 := NB246_247.out; have hnc12 := NB247_246.out; obtain ⟨hcz13_0, hcz13_1⟩ := c2 BK246; have hfz13_0 := blk_frozen BK246.out 0; have hfz13_1 := blk_frozen BK246.out 1; obtain ⟨hcz14_0, hcz14_1⟩ := c2 BK247; have hfz14_0 := blk_frozen BK247.out 0; have hfz14_1 := blk_frozen BK247.out 1))
   go_ret
   exact ⟨by first | rfl | (simp [errW_none, errW_some] <;> rfl) | (simp [*, errW_none, errW_some] <;> rfl), ms HB⟩
 ·rw [if_neg c3] at H
  have c3b0 : (a0_0 == a1_0) = false := beq_eq_false_iff_ne.mpr c3
  have c3b1 : (a0_0 != a1_0) = true := bne_iff_ne.mpr c3
  obtain rfl := Option.some.inj H
  go_enter Tryd.func95, Tryd.ntmps95
  go_wp2_with (first | ((with_reducible refine gate_dst (N := 2) rfl ?_); refine box_event ?hg (N := 2) ?hd (cs := #[.int .i64 a0_0, .string a0_1]) (t := 79) ?hr ?_; (case hd => rfl); (case hg => rfl); (case hr => first | (go_simp; done) | (go_simp; rfl)); intro gb246 hg w15 hbox hb; have BK246 := Aside0.mk (hbox); have GW246 := gw hg HB; have GE246 := gw hg HB; replace HB := bs HB hb; clear hb hbox hg) | ((with_reducible refine gate_dst (N := 3) rfl ?_); refine box_event ?hg (N := 3) ?hd (cs := #[.int .i64 a1_0, .string a1_1]) (t := 79) ?hr ?_; (case hd => rfl); (case hg => rfl); (case hr => first | (go_simp; done) | (go_simp; rfl)); intro gb247 hg w16 hbox hb; have BK247 := Aside0.mk (hbox); have GW247 := gw hg HB; have GE247 := gw hg HB; replace HB := bs HB hb; have NB246_247 := nl hg BK246; have NB247_246 := ng hg BK246; replace BK246 := bb BK246 hb; clear hb hbox hg; have hnb17 := NB246_247.out; have hnc17 := NB247_246.out; obtain ⟨hcz18_0, hcz18_1⟩ := c2 BK246; have hfz18_0 := blk_frozen BK246.out 0; have hfz18_1 := blk_frozen BK246.out 1; obtain ⟨hcz19_0, hcz19_1⟩ := c2 BK247; have hfz19_0 := blk_frozen BK247.out 0; have hfz19_1 := blk_frozen BK247.out 1))
  go_ret
  exact ⟨by first | rfl | (simp [errW_none, errW_some] <;> rfl) | (simp [*, errW_none, errW_some] <;> rfl), ms HB⟩

end Go.Proofs.YtmdjhmggogfbdaaDoor.QFnExactFormatSum
