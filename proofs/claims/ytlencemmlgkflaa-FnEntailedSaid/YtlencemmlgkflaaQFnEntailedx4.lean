-- Made by a program of this claim's own (wip/print): not the kit's print as it stands.
import Derived.Test.YtlencemmlgkflaaUFnEntailedTri
import Derived.Test.YtlencemmlgkflaaQFnEntailedx0
import Derived.Test.YtlencemmlgkflaaQFnEntailedx1
import Derived.Test.YtlencemmlgkflaaQFnEntailedx2
import Derived.Test.YtlencemmlgkflaaQFnEntailedx3
namespace Go.Proofs.Ytlencemmlgkflaa.QFnEntailed
open Go.RowKit Go.Proofs.YtlencemmlgkflaaV.PrintWords Go.Proofs.YtlencemmlgkflaaV.PrintLast Go.Proofs.YtlencemmlgkflaaV.PrintMore
attribute [local go_sem] max2_int min2_int max_two min_two max_three min_three max_four min_four   -- for this text's walks alone
set_option linter.unusedVariables false
set_option linter.unusedSimpArgs false

/-! ### impl_CombineRows: function 35 -/
mutual
def impl_CombineRows.j0 : Nat → List Int → Bool → Int → List (S29) → Option (Int × List Int × Bool)
 | 0, _, _, _, _ => none
 | k + 1, x1, x24, x156000, x156001 => if x24 = true then (some (0, ([] : List Int), false)) else ((impl_ConstLin.f 0 x156000).bind fun bt159 => (impl_CombineRows.l0 k x1 (x1.length : Int) 0 x156000 x156001 bt159.1 bt159.2))
def impl_CombineRows.l0 : Nat → List Int → Int → Int → Int → List (S29) → Int → List Int → Option (Int × List Int × Bool)
 | 0, _, _, _, _, _, _, _ => none
 | k + 1, x29, x30, x31, x156000, x156001, x164000, x164001 => if x31 < x30 then (if 0 ≤ x31 then (if x31 < (x29.length : Int) then (if x31 < (x156001.length : Int) then ((impl_AddScaled.f k x164000 x164001 (rd x29 x31) ((rd_T29 x156001 x31).f0) ((rd_T29 x156001 x31).f1)).bind fun bt166 => (if bt166.2.2 = true then (impl_CombineRows.l0 k x29 x30 (wrap64 (x31 + 1)) x156000 x156001 bt166.1 bt166.2.1) else (some (0, ([] : List Int), false)))) else (none)) else (none)) else (none)) else (some (x164000, x164001, true))
end
def impl_CombineRows.f (k : Nat) (a0_0 : Int) (l0_1 : List (S29)) (l1 : List Int) : Option (Int × List Int × Bool) := (impl_IsValidSystem.f k a0_0 l0_1).bind fun t157 => (if t157 = true then (if (l1.length : Int) = (l0_1.length : Int) then ((slices_ContainsFunc_int_int__CombineRows_1.f k l1 ()).bind fun t158 => (impl_CombineRows.j0 k l1 t158 a0_0 l0_1)) else (impl_CombineRows.j0 k l1 true a0_0 l0_1)) else (impl_CombineRows.j0 k l1 true a0_0 l0_1))
theorem impl_CombineRows.mono_l : ∀ k, (∀ y0 y1 y2 y3, LeO (impl_CombineRows.j0 k y0 y1 y2 y3) (impl_CombineRows.j0 (k + 1) y0 y1 y2 y3)) ∧ (∀ y0 y1 y2 y3 y4 y5 y6, LeO (impl_CombineRows.l0 k y0 y1 y2 y3 y4 y5 y6) (impl_CombineRows.l0 (k + 1) y0 y1 y2 y3 y4 y5 y6))
 | 0 => ⟨fun _ _ _ _ r h => by simp [impl_CombineRows.j0] at h, fun _ _ _ _ _ _ _ r h => by simp [impl_CombineRows.l0] at h⟩
 | k + 1 => by
  obtain ⟨ih0, ih1⟩ := impl_CombineRows.mono_l k
  refine ⟨?_, ?_⟩
  ·intro y0 y1 y2 y3
   unfold impl_CombineRows.j0
   repeat' with_reducible first
   | exact ih0 _ _ _ _
   | exact ih1 _ _ _ _ _ _ _
   | exact impl_AddScaled.mono _ _ _ _ _ _
   | exact impl_IsValidSystem.mono _ _ _
   | exact slices_ContainsFunc_int_int__CombineRows_1.mono _ _ _
   | exact LeO.refl _
   | exact LeO.none _
   | refine LeO.ite ?_ ?_
   | refine LeO.bind ?_ (fun _ => ?_)
  intro y0 y1 y2 y3 y4 y5 y6
  unfold impl_CombineRows.l0
  repeat' with_reducible first
  | exact ih0 _ _ _ _
  | exact ih1 _ _ _ _ _ _ _
  | exact impl_AddScaled.mono _ _ _ _ _ _
  | exact impl_IsValidSystem.mono _ _ _
  | exact slices_ContainsFunc_int_int__CombineRows_1.mono _ _ _
  | exact LeO.refl _
  | exact LeO.none _
  | refine LeO.ite ?_ ?_
  | refine LeO.bind ?_ (fun _ => ?_)
theorem impl_CombineRows.mono : ∀ a0 a1 a2 k, LeO (impl_CombineRows.f k a0 a1 a2) (impl_CombineRows.f (k + 1) a0 a1 a2) := by
 intro a0 a1 a2 k
 obtain ⟨ih0, ih1⟩ := impl_CombineRows.mono_l k
 unfold impl_CombineRows.f
 repeat' with_reducible first
 | exact ih0 _ _ _ _
 | exact ih1 _ _ _ _ _ _ _
 | exact impl_AddScaled.mono _ _ _ _ _ _
 | exact impl_IsValidSystem.mono _ _ _
 | exact slices_ContainsFunc_int_int__CombineRows_1.mono _ _ _
 | exact LeO.refl _
 | exact LeO.none _
 | refine LeO.ite ?_ ?_
 | refine LeO.bind ?_ (fun _ => ?_)
def impl_CombineRows.T8 : Bool × List (List Nat × List Nat) := (true, [([], []), ([], []), ([], []), ([2], [2]), ([], []), ([3, 4], [3, 4]), ([5], [5]), ([0, 1, 6], [0, 1, 6]), ([7], [7]), ([8], [8]), ([8], [8]), ([9, 7, 0, 1, 2, 3, 4, 5, 6, 7, 8, 9], [9]), ([10, 11, 0, 1, 2, 3, 4, 5, 6, 7, 8, 9, 10, 11], [10])])
def impl_CombineRows.B8 : List Nat := [0, 0, 0, 4, 0, 28, 60, 127, 255, 511, 511, 1023, 4095]
theorem impl_CombineRows.tab8 : rtab .any (opsOf Try.f35 8) = impl_CombineRows.T8 := by kernel_rfl
theorem impl_CombineRows.bits8 : waitsOk impl_CombineRows.T8.2 impl_CombineRows.B8 = true := by kernel_rfl
set_option maxHeartbeats 8000000 in
set_option maxRecDepth 100000 in
theorem impl_CombineRows.calls (k : Nat) (a0_0 : Int) (A0_1 : Option Addr) (c0_1 : Nat) (l0_1 : List (S29)) (A1 : Option Addr) (c1 : Nat) (l1 : List Int) (r1 : Int) (r2 : List Int) (r3 : Bool) (w : World) (hr0_1 : Kd.C k29 w A0_1 l0_1.length l0_1) (hc0_1 : l0_1.length ≤ c0_1) (hr1 : Kd.C (Kd.int .i64) w A1 l1.length l1) (hc1 : l1.length ≤ c1) (h : impl_CombineRows.f k a0_0 l0_1 l1 = some (r1, r2, r3)) :
  Calls Try.prog 35 #[.agg #[.int .i64 a0_0, .slice A0_1 l0_1.length c0_1], .slice A1 l1.length c1] w fun e w' => ∃ v1_ : Value, e = .returned (.tuple #[.agg #[.int .i64 r1, v1_], .bool r3]) ∧ Kd.R (Kd.int .i64) 3 w' w.heap.size (fun _ => True) v1_ r2 ∧ Below w.heap.size w w' := by
 have hu26 := Try.underlying26
 have hu29 := Try.underlying29
 have HR0_1 := Aside0.mk hr0_1
 have HC0_1 := Aside0.mk hc0_1
 clear hr0_1 hc0_1
 have HR1 := Aside0.mk hr1
 have HC1 := Aside0.mk hc1
 clear hr1 hc1
 have HB := Aside0.mk (Below.refl w.heap.size w)
 have H : ((impl_IsValidSystem.f k a0_0 l0_1).bind fun t157 => (if t157 = true then (if (l1.length : Int) = (l0_1.length : Int) then ((slices_ContainsFunc_int_int__CombineRows_1.f k l1 ()).bind fun t158 => (impl_CombineRows.j0 k l1 t158 a0_0 l0_1)) else (impl_CombineRows.j0 k l1 true a0_0 l0_1)) else (impl_CombineRows.j0 k l1 true a0_0 l0_1))) = some (r1, r2, r3) := h
 clear h
 have HC3 := Aside0.mk H; clear H
 go_enter Try.func35, Try.ntmps35
 go_upto_region 1 with (first | ((with_reducible refine gate_dst (N := 2) rfl ?_); refine box_event ?hg (N := 2) ?hd (cs := #[.int .i64 a0_0, .slice A0_1 l0_1.length c0_1]) (t := 26) ?hr ?_; (case hd => rfl); (case hg => rfl); (case hr => first | (go_simp; done) | (go_simp; rfl)); intro gb155 hg w4 hbox hb; have BK155 := Aside0.mk (hbox); have GW155 := gw hg HB; have GE155 := gw hg HB; replace HB := bs HB hb; clear hb hbox hg) | ((with_reducible refine gate_dst (N := 4) rfl ?_); refine box_event ?hg (N := 4) ?hd (cs := #[.int .i64 0, .slice none 0 0]) (t := 29) ?hr ?_; (case hd => rfl); (case hg => rfl); (case hr => first | (go_simp; done) | (go_simp; rfl)); intro gb156 hg w5 hbox hb; have BK156 := Aside0.mk (hbox); have GW156 := gw hg HB; have GE156 := gw hg HB; replace HB := bs HB hb; have NB155_156 := nl hg BK155; have NB156_155 := ng hg BK155; replace BK155 := bb BK155 hb; clear hb hbox hg))
 (try simp only [Act.put, List.setIfInBounds_toArray, List.set_cons_zero, List.set_cons_succ])
 go_cut [24] (fun v24 wc => ∃ (kq : Nat) (x24_2 : Bool), v24 = .bool x24_2 ∧ Aside0 (impl_CombineRows.j0 kq l1 x24_2 a0_0 l0_1 = some (r1, r2, r3)) ∧ Aside0 (kq ≤ k) ∧ Aside0 (wc.heap[gb155]? = some (.cells #[.int .i64 a0_0, (.slice A0_1 l0_1.length c0_1)] 26 (0, 0))) ∧ Aside0 (wc.heap[gb156]? = some (.cells #[.int .i64 0, (.slice none 0 0)] 29 (0, 0))) ∧ Aside0 (Below w.heap.size w wc))
 case first =>
  have H := HC3.out
  clear HC3
  obtain ⟨t157, A60, H⟩ := Option.bind_eq_some_iff.mp H
  try dsimp only at H
  have A6 := Aside0.mk A60; clear A60
  by_cases c7 : t157 = true
  ·subst c7
   rw [if_pos rfl] at H
   by_cases c8 : (l1.length : Int) = (l0_1.length : Int)
   ·rw [if_pos c8] at H
    have c8b0 : ((l1.length : Int) == (l0_1.length : Int)) = true := beq_iff_eq.mpr c8
    have c8b1 : ((l1.length : Int) != (l0_1.length : Int)) = false := bne_eq_false_iff_eq.mpr c8
    have c8b2 : (l1.length == l0_1.length) = true := by first | simpa using c8 | (simp at c8 ⊢; omega)
    clear c8
    (first | rw [c8b0] | (simp only [i64_w, i32_w]; rw [c8b0]) | skip)
    obtain ⟨t158, A90, H⟩ := Option.bind_eq_some_iff.mp H
    try dsimp only at H
    have A9 := Aside0.mk A90; clear A90
    have H' := Aside0.mk H
    clear H
    have := NB155_156.out
    have := NB156_155.out
    obtain ⟨hcz11_0, hcz11_1, hfz11_0, hfz11_1⟩ := cFour BK155
    go_wp2_with (first | ((with_reducible refine gate_callee (f := 73) rfl ?_); refine gl (some 11) rfl rfl Try.func73 (by kernel_rfl) rfl #[.agg #[.int .i64 a0_0, .slice A0_1 l0_1.length c0_1]] rfl ?_; (with_reducible refine (impl_IsValidSystem.calls k a0_0 _ _ l0_1 true _ ?side1 ?side2 A6.out).mono ?_); (case side1 => exact mc ((Kd.C_below HR0_1.out HB.out))); (case side2 => exact HC0_1.out); rintro e w12 ⟨rfl, hb⟩; refine ⟨_, rfl, ?_⟩; replace BK155 := bb BK155 hb; replace BK156 := bb BK156 hb; replace HB := bs HB hb; (try clear hb); obtain ⟨hcz13_0, hcz13_1, hfz13_0, hfz13_1⟩ := cFour BK155) | (go_at_call 97; (with_reducible refine (slices_ContainsFunc_int_int__CombineRows_1.calls k _ _ l1 () t158 _ ?side1 ?side2 A9.out).mono ?_); (case side1 => exact mc ((Kd.C_below HR1.out HB.out))); (case side2 => exact HC1.out); rintro e w' ⟨rfl, ⟨nd, rfl⟩⟩))
    go_meet
    case rel => exact ⟨_, (t158), (by first | rfl | (simp; done) | (simp [*]; done)), H', ⟨by first | omega | exact Nat.le_refl _⟩, ⟨mb BK155⟩, ⟨mb BK156⟩, ⟨ms HB⟩⟩
   rw [if_neg c8] at H
   have c8b0 : ((l1.length : Int) == (l0_1.length : Int)) = false := beq_eq_false_iff_ne.mpr c8
   have c8b1 : ((l1.length : Int) != (l0_1.length : Int)) = true := bne_iff_ne.mpr c8
   have c8b2 : (l1.length == l0_1.length) = false := by first | simpa using c8 | (simp at c8 ⊢; omega)
   (first | rw [c8b0] | (simp only [i64_w, i32_w]; rw [c8b0]) | skip)
   have H' := Aside0.mk H
   clear H
   have := NB155_156.out
   have := NB156_155.out
   obtain ⟨hcz15_0, hcz15_1, hfz15_0, hfz15_1⟩ := cFour BK155
   go_wp2_with (((with_reducible refine gate_callee (f := 73) rfl ?_); refine gl (some 11) rfl rfl Try.func73 (by kernel_rfl) rfl #[.agg #[.int .i64 a0_0, .slice A0_1 l0_1.length c0_1]] rfl ?_; (with_reducible refine (impl_IsValidSystem.calls k a0_0 _ _ l0_1 true _ ?side1 ?side2 A6.out).mono ?_); (case side1 => exact mc ((Kd.C_below HR0_1.out HB.out))); (case side2 => exact HC0_1.out); rintro e w16 ⟨rfl, hb⟩; refine ⟨_, rfl, ?_⟩; replace BK155 := bb BK155 hb; replace BK156 := bb BK156 hb; replace HB := bs HB hb; (try clear hb); obtain ⟨hcz17_0, hcz17_1, hfz17_0, hfz17_1⟩ := cFour BK155))
   go_meet
   case rel => exact ⟨_, (true), (by first | rfl | (simp; done) | (simp [*]; done)), H', ⟨by first | omega | exact Nat.le_refl _⟩, ⟨mb BK155⟩, ⟨mb BK156⟩, ⟨ms HB⟩⟩
  replace c7 := Bool.eq_false_iff.mpr c7
  subst c7
  rw [if_neg (show ¬ (false = true) by decide)] at H
  have H' := Aside0.mk H
  clear H
  have := NB155_156.out
  have := NB156_155.out
  obtain ⟨hcz19_0, hcz19_1, hfz19_0, hfz19_1⟩ := cFour BK155
  go_wp2_with (((with_reducible refine gate_callee (f := 73) rfl ?_); refine gl (some 11) rfl rfl Try.func73 (by kernel_rfl) rfl #[.agg #[.int .i64 a0_0, .slice A0_1 l0_1.length c0_1]] rfl ?_; (with_reducible refine (impl_IsValidSystem.calls k a0_0 _ _ l0_1 false _ ?side1 ?side2 A6.out).mono ?_); (case side1 => exact mc ((Kd.C_below HR0_1.out HB.out))); (case side2 => exact HC0_1.out); rintro e w20 ⟨rfl, hb⟩; refine ⟨_, rfl, ?_⟩; replace BK155 := bb BK155 hb; replace BK156 := bb BK156 hb; replace HB := bs HB hb; (try clear hb)))
  go_meet
  case rel => exact ⟨_, (true), (by first | rfl | (simp; done) | (simp [*]; done)), H', ⟨by first | omega | exact Nat.le_refl _⟩, ⟨mb BK155⟩, ⟨mb BK156⟩, ⟨ms HB⟩⟩
 case rest =>
  clear HC3
  try clear c1
  try clear p2
  try clear c3
  try clear c7
  try clear c8
  try clear c8b0
  try clear c8b1
  try clear c8b2
  try clear c10
  try clear c14
  try clear c18
  try clear hcz11_0
  try clear hcz11_1
  try clear hcz13_0
  try clear hcz13_1
  try clear hcz15_0
  try clear hcz15_1
  try clear hcz17_0
  try clear hcz17_1
  try clear hcz19_0
  try clear hcz19_1
  try clear hfz11_0
  try clear hfz11_1
  try clear hfz13_0
  try clear hfz13_1
  try clear hfz15_0
  try clear hfz15_1
  try clear hfz17_0
  try clear hfz17_1
  try clear hfz19_0
  try clear hfz19_1
  obtain ⟨kq, x24_2, rfl, HA, HJ2, BK155, BK156, HB⟩ := hcut
  cases kq with
  | zero => exact absurd HA.out (by simp [impl_CombineRows.j0])
  | succ kj2 =>
   have H := HA.out
   clear HA
   simp only [impl_CombineRows.j0] at H
   by_cases c21 : x24_2 = true
   ·subst c21
    rw [if_pos rfl] at H
    simp only [Option.some.injEq, Prod.mk.injEq] at H
    obtain ⟨rfl, rfl, rfl⟩ := H
    have := NB156_155.out
    have := NB155_156.out
    obtain ⟨hcz23_0, hcz23_1, hfz23_0, hfz23_1⟩ := cFour BK156
    go_wp2
    refine bodyPost_ret (results_ct rfl _ _ gb156 29 #[.int .i64 0, .slice none 0 0] (0, 0) _ rfl (mq BK156) Try.underlying29 rfl (by kernel_rfl)) rfl ?_
    exact ⟨_, by first | rfl | (simp [errW_none, errW_some] <;> rfl) | (simp [*, errW_none, errW_some] <;> rfl), by first | exact Kd.R_nil _ _ _ _ _ | exact Kd.N_nil _ _ _ _ _ | exact Kd.V_nil _ _ _ _ _ | exact Kd.Q_nil _ _ _ _ _ | exact Kd.S_nil _ _ _ _ _, ms HB⟩
   replace c21 := Bool.eq_false_iff.mpr c21
   subst c21
   rw [if_neg (show ¬ (false = true) by decide)] at H
   obtain ⟨⟨t159, t160⟩, A240, H⟩ := Option.bind_eq_some_iff.mp H
   try dsimp only at H
   have A24 := Aside0.mk A240; clear A240
   have H' := Aside0.mk H
   clear H
   have := NB155_156.out
   have := NB156_155.out
   obtain ⟨hcz26_0, hcz26_1, hfz26_0, hfz26_1⟩ := cFour BK155
   go_wp2_with (first | ((with_reducible refine gate_callee (f := 76) rfl ?_); refine gl (some 28) rfl rfl Try.func76 (by kernel_rfl) rfl #[.int .i64 0, .int .i64 a0_0] rfl ?_; (with_reducible refine (impl_ConstLin.calls 0 a0_0 t159 t160 _ A24.out).mono ?_); rintro e w27 ⟨v161, rfl, ho0, hb⟩; refine ⟨_, rfl, ?_⟩; have HO162 := Aside0.mk (Kd.R_lower ho0 (below_size (ms HB))); replace BK155 := bb BK155 hb; replace BK156 := bb BK156 hb; replace HB := bs HB hb; (try clear hb); (try clear ho0)) | ((with_reducible refine gate_dst (N := 6) rfl ?_); refine box_event ?hg (N := 6) ?hd (cs := #[.int .i64 0, .slice none 0 0]) (t := 29) ?hr ?_; (case hd => rfl); (case hg => rfl); (case hr => first | (go_simp; done) | (go_simp; rfl)); intro gb163 hg w28 hbox hb; replace HO162 := rb HO162 hb; have BK163 := Aside0.mk (hbox); have GW163 := gw hg HB; have GE163 := gw hg HB; replace HB := bs HB hb; have NB155_163 := nl hg BK155; have NB163_155 := ng hg BK155; replace BK155 := bb BK155 hb; have NB156_163 := nl hg BK156; have NB163_156 := ng hg BK156; replace BK156 := bb BK156 hb; clear hb hbox hg; have := NB163_155.out; have := NB155_163.out; have := NB163_156.out; have := NB156_163.out; obtain ⟨hcz31_0, hcz31_1, hfz31_0, hfz31_1⟩ := cFour BK163; obtain ⟨Ao32, co32, eo32⟩ := Kd.R_slice HO162.out; subst eo32))
   go_loopg [31] kj2 (fun kq v31 w' => ∃ (x31_2 : Int) (x157000_2 : Int) (x164000_2 : Int) (x164001_2 : List Int) (u164001 : Value), v31 = .int .i64 x31_2 ∧ Aside0 (impl_CombineRows.l0 kq l1 (l1.length : Int) x31_2 a0_0 l0_1 x164000_2 x164001_2 = some (r1, r2, r3)) ∧ Aside0 (kq ≤ kj2) ∧ Aside0 (Kd.R (Kd.int .i64) 3 w' w.heap.size (fun _ => True) u164001 x164001_2) ∧ Aside0 (w'.heap[gb155]? = some (.cells #[.int .i64 a0_0, (.slice A0_1 l0_1.length c0_1)] 26 (0, 0))) ∧ Aside0 (w'.heap[gb156]? = some (.cells #[.int .i64 x157000_2, (.slice none 0 0)] 29 (0, 0))) ∧ Aside0 (w'.heap[gb163]? = some (.cells #[.int .i64 x164000_2, u164001] 29 (0, 0))) ∧ Aside0 (Below w.heap.size w w'))
   case atStart => exact ⟨(0), (0), (t159), (t160), (.slice Ao32 t160.length co32), (by first | rfl | (simp; done) | (simp [*]; done)), H', ⟨Nat.le_refl _⟩, ⟨by (with_reducible repeat (first | apply Kd.R_alloc | apply Kd.R_drewN | apply Kd.R_drew)); exact Kd.R_mono (Kd.R_far (p := ⟨gb163, 1, none⟩) (Kd.R_far (p := ⟨gb163, 0, none⟩) (Kd.R_types HO162.out BK163.out (by decide)) (fun _ hk => hk.2) (.int .i64 t159)) (fun _ hk => hk.2) (.slice Ao32 t160.length co32)) (fun _ hk => trivial)⟩, ⟨mf BK155⟩, ⟨mf BK156⟩, ⟨mq BK163⟩, ⟨ms HB⟩⟩
   case round =>
    clear H'
    try clear c1
    try clear c2
    try clear p2
    try clear c3
    try clear c7
    try clear c8
    try clear c8b0
    try clear c8b1
    try clear c8b2
    try clear c10
    try clear c14
    try clear c18
    try clear c21
    try clear c22
    try clear c25
    try clear c29
    try clear c30
    try clear hcz11_0
    try clear hcz11_1
    try clear hcz13_0
    try clear hcz13_1
    try clear hcz15_0
    try clear hcz15_1
    try clear hcz17_0
    try clear hcz17_1
    try clear hcz19_0
    try clear hcz19_1
    try clear hcz23_0
    try clear hcz23_1
    try clear hcz26_0
    try clear hcz26_1
    try clear hcz31_0
    try clear hcz31_1
    try clear hfz11_0
    try clear hfz11_1
    try clear hfz13_0
    try clear hfz13_1
    try clear hfz15_0
    try clear hfz15_1
    try clear hfz17_0
    try clear hfz17_1
    try clear hfz19_0
    try clear hfz19_1
    try clear hfz23_0
    try clear hfz23_1
    try clear hfz26_0
    try clear hfz26_1
    try clear hfz31_0
    try clear hfz31_1
    try clear p2
    obtain ⟨x31_2, x157000_2, x164000_2, x164001_2, u164001, rfl, HA, HK2, HO_164001, BK155, BK156, BK163, HB⟩ := hrel
    cases gk with
    | zero => exact absurd HA.out (by simp [impl_CombineRows.l0])
    | succ k2 =>
     have H := HA.out
     clear HA
     simp only [impl_CombineRows.l0] at H
     by_cases c33 : x31_2 < (l1.length : Int)
     ·rw [if_pos c33] at H
      have c33b0 : decide (x31_2 < (l1.length : Int)) = true := decide_eq_true c33
      clear c33
      by_cases c34 : 0 ≤ x31_2
      ·rw [if_pos c34] at H
       have c34b0 : decide (0 ≤ x31_2) = true := decide_eq_true c34
       clear c34
       by_cases c35 : x31_2 < (l1.length : Int)
       ·rw [if_pos c35] at H
        have c35b0 : decide (x31_2 < (l1.length : Int)) = true := decide_eq_true c35
        clear c35
        by_cases c36 : x31_2 < (l0_1.length : Int)
        ·rw [if_pos c36] at H
         have c36b0 : decide (x31_2 < (l0_1.length : Int)) = true := decide_eq_true c36
         clear c36
         obtain ⟨⟨t166, t167, t170⟩, A370, H⟩ := Option.bind_eq_some_iff.mp H
         try dsimp only at H
         have A37 := Aside0.mk A370; clear A370
         by_cases c38 : t170 = true
         ·subst c38
          rw [if_pos rfl] at H
          have H' := Aside0.mk H
          clear H
          have p164 : 0 ≤ (x31_2 : Int) := of_decide_eq_true (by first | (with_reducible assumption) | assumption)
          have q164 : x31_2 < (l1.length : Int) := of_decide_eq_true (by first | (with_reducible assumption) | assumption)
          obtain ⟨ad164, e164, hx164_0⟩ := Kd.at_int HR1.out x31_2 p164 q164
          cases e164
          replace hx164_0 := (HB.out.cell (World.block_lt_of_cell? w _ hx164_0)).trans hx164_0
          replace p164 := eq_true p164
          replace q164 := eq_true q164
          try go_wp2
          replace HO_164001 := Aside0.mk (Kd.R_drew HO_164001.out)
          replace BK155 := Aside0.mk (blk_drew BK155.out)
          replace BK156 := Aside0.mk (blk_drew BK156.out)
          replace BK163 := Aside0.mk (blk_drew BK163.out)
          replace HB := Aside0.mk (below_drew1 HB.out)
          have p165 : 0 ≤ (x31_2 : Int) := of_decide_eq_true (by first | (with_reducible assumption) | assumption)
          have q165 : x31_2 < (l0_1.length : Int) := of_decide_eq_true (by first | (with_reducible assumption) | assumption)
          obtain ⟨ad165, A165_1, c165_1, e165, hx165_0, hx165_1, hl165_1, hi165_1⟩ := at_T29 HR0_1.out x31_2 p165 q165
          have hw165_1 := hx165_1
          have hw165_0 := hx165_0
          cases e165
          replace hx165_0 := (HB.out.cell (World.block_lt_of_cell? w _ hx165_0)).trans hx165_0
          replace hx165_1 := (HB.out.cell (World.block_lt_of_cell? w _ hx165_1)).trans hx165_1
          have HR165_1 := Aside0.mk hi165_1
          have HC165_1 := Aside0.mk hl165_1
          clear hi165_1 hl165_1
          replace p165 := eq_true p165
          replace q165 := eq_true q165
          obtain ⟨Ao40, co40, eo40⟩ := Kd.R_slice HO_164001.out
          (first | subst eo40 | (injection eo40 with f1_ f2_ f3_; have f4_ := f1_.symm; have f5_ := f3_.symm; clear f1_ f2_ f3_; subst f4_; subst f5_))
          refine start_ (n := 13) (S := fun w' => w'.cell? ⟨gb163, 0, none⟩ = some (.int .i64 x164000_2) ∧ w'.cell? ⟨gb163, 1, none⟩ = some (.slice Ao40 x164001_2.length co40) ∧ w'.cell? ⟨gb155, 0, none⟩ = some (.int .i64 a0_0) ∧ w'.cell? ⟨gb155, 1, none⟩ = some (.slice (some ad165) l0_1.length c0_1) ∧ w'.cell? (ad165.add ((x31_2).toNat * 2)) = some (.int .i64 ((rd_T29 l0_1 x31_2).f0)) ∧ w'.cell? ⟨(ad165.add ((x31_2).toNat * 2)).block, (ad165.add ((x31_2).toNat * 2)).off + 1, none⟩ = some (.slice A165_1 ((rd_T29 l0_1 x31_2).f1).length c165_1)) (ds := [11]) #[false, false, false, false, false, false, false, false, false, false, false, false, false] (by kernel_rfl) rfl rfl ⟨(c2 BK163).1, (c2 BK163).2, (c2 BK155).1, (c2 BK155).2, ((HB.out.cell (World.block_lt_of_cell? w _ hw165_0)).trans hw165_0), ((HB.out.cell (World.block_lt_of_cell? w _ hw165_1)).trans hw165_1)⟩ (fun hHeld => ?_); refine with_tabW impl_CombineRows.tab8 impl_CombineRows.bits8 (fun HT_ HW_ => ?_)
          generalize wr.drew = w39 at HO_164001 BK155 BK156 BK163 HB HR165_1 hx165_0 hx165_1 hHeld ⊢
          refine pu 1 (some 38) (v := ?_) (a' := ?_) #[false, true, false, false, false, false, false, false, false, false, false, false, false] rfl rfl HT_ (fun _ _ _ h => h) (by rfl) ?_ ?_ ?_
          rotate_left
          ·intro w'
           go_simp
           with_reducible rfl
          rotate_left
          ·simp only [Act.put, z1, z2, z3, i64_w, i32_w]
           rfl
          refine pu 2 (some 39) (v := ?_) (a' := ?_) #[false, true, true, false, false, false, false, false, false, false, false, false, false] rfl rfl HT_ (fun _ _ _ h => h) (by rfl) ?_ ?_ ?_
          rotate_left
          ·intro w'
           go_simp
           with_reducible rfl
          rotate_left
          ·simp only [Act.put, z1, z2, z3, i64_w, i32_w]
           rfl
          refine pu 4 (some 41) (v := ?_) (a' := ?_) #[false, true, true, false, true, false, false, false, false, false, false, false, false] rfl rfl HT_ (fun _ _ _ h => h) (by rfl) ?_ ?_ ?_
          rotate_left
          ·intro w'
           go_simp
           with_reducible rfl
          rotate_left
          ·simp only [Act.put, z1, z2, z3, i64_w, i32_w]
           rfl
          refine tk 0 (some 37) (v := ?_) (a' := ?_) #[true, true, true, false, true, false, false, false, false, false, false, false, false] rfl rfl HT_ HW_ (fun _ _ _ h => h) (by rfl) ?_ hHeld ?_ ?_
          rotate_left
          ·rintro w' ⟨s0, s1, s2, s3, s4, s5⟩
           go_simp
           with_reducible rfl
          rotate_left
          ·simp only [Act.put, z1, z2, z3, i64_w, i32_w]
           rfl
          refine tk 3 (some 40) (v := ?_) (a' := ?_) #[true, true, true, true, true, false, false, false, false, false, false, false, false] rfl rfl HT_ HW_ (fun _ _ _ h => h) (by rfl) ?_ hHeld ?_ ?_
          rotate_left
          ·rintro w' ⟨s0, s1, s2, s3, s4, s5⟩
           go_simp
           with_reducible rfl
          rotate_left
          ·simp only [Act.put, z1, z2, z3, i64_w, i32_w]
           rfl
          refine pu 5 (some 42) (v := ?_) (a' := ?_) #[true, true, true, true, true, true, false, false, false, false, false, false, false] rfl rfl HT_ (fun _ _ _ h => h) (by rfl) ?_ ?_ ?_
          rotate_left
          ·intro w'
           go_simp
           with_reducible rfl
          rotate_left
          ·simp only [Act.put, z1, z2, z3, i64_w, i32_w]
           rfl
          refine tk 6 (some 43) (v := ?_) (a' := ?_) #[true, true, true, true, true, true, true, false, false, false, false, false, false] rfl rfl HT_ HW_ (fun _ _ _ h => h) (by rfl) ?_ hHeld ?_ ?_
          rotate_left
          ·rintro w' ⟨s0, s1, s2, s3, s4, s5⟩
           go_simp
           with_reducible rfl
          rotate_left
          ·simp only [Act.put, z1, z2, z3, i64_w, i32_w]
           rfl
          refine one_ (i := 7) (N := some 44) #[true, true, true, true, true, true, true, true, false, false, false, false, false] rfl rfl (one_of HT_.out (by kernel_rfl)) (by decide) (fun K hK => ?_)
          refine gs Try.func75 (by kernel_rfl) rfl #[.agg #[.int .i64 x164000_2, .slice Ao40 x164001_2.length co40], .int .i64 (rd l1 x31_2), .agg #[.int .i64 ((rd_T29 l0_1 x31_2).f0), .slice A165_1 ((rd_T29 l0_1 x31_2).f1).length c165_1]] (by rfl) rfl rfl ?_
          with_reducible refine (impl_AddScaled.calls k2 x164000_2 _ _ x164001_2 (rd l1 x31_2) ((rd_T29 l0_1 x31_2).f0) _ _ ((rd_T29 l0_1 x31_2).f1) t166 t167 true _ ?side1 ?side2 ?side3 ?side4 A37.out).mono ?_
          (case side1 => exact mc ((Kd.R_reads' HO_164001.out).2.2))
          (case side2 => exact (Kd.R_reads' HO_164001.out).2.1)
          (case side3 => exact mc ((Kd.C_below HR165_1.out HB.out)))
          (case side4 => exact HC165_1.out)
          rintro e w41 ⟨v168, rfl, ho0, hb⟩
          refine ⟨_, rfl, ?_⟩
          have HO169 := Aside0.mk (Kd.R_lower (Kd.R_new' ho0 (Kd.R_lt (mr HO_164001))) (below_size (ms HB)))
          replace HO_164001 := rl HO_164001 ho0 hb
          replace BK155 := bb BK155 hb
          replace BK156 := bb BK156 hb
          replace BK163 := bb BK163 hb
          replace HB := bs HB hb
          (try clear hb)
          (try clear hb2)
          (try clear hk)
          (try clear hi)
          (try clear ho0)
          obtain ⟨Ao43, co43, eo43⟩ := Kd.R_slice HO169.out
          (first | subst eo43 | (injection eo43 with f1_ f2_ f3_; have f4_ := f1_.symm; have f5_ := f3_.symm; clear f1_ f2_ f3_; subst f4_; subst f5_))
          refine hK.out _ _ ⟨(c2 BK163).1, (c2 BK163).2, (c2 BK155).1, (c2 BK155).2, ((HB.out.cell (World.block_lt_of_cell? w _ hw165_0)).trans hw165_0), ((HB.out.cell (World.block_lt_of_cell? w _ hw165_1)).trans hw165_1)⟩ (fun hHeld => ?_)
          clear hK K
          refine norm_ (a' := ?_) ?_ ?_
          rotate_left
          ·show Act.put _ (some 44) _ = _
           simp only [Act.put, z1, z2, z3, i64_w, i32_w]
           rfl
          refine pu 8 (some 36) (v := ?_) (a' := ?_) #[true, true, true, true, true, true, true, true, true, false, false, false, false] rfl rfl HT_ (fun _ _ _ h => h) (by rfl) ?_ ?_ ?_
          rotate_left
          ·intro w'
           go_simp
           with_reducible rfl
          rotate_left
          ·simp only [Act.put, z1, z2, z3, i64_w, i32_w]
           rfl
          refine pu 9 (some 45) (v := ?_) (a' := ?_) #[true, true, true, true, true, true, true, true, true, true, false, false, false] rfl rfl HT_ (fun _ _ _ h => h) (by rfl) ?_ ?_ ?_
          rotate_left
          ·intro w'
           go_simp
           with_reducible rfl
          rotate_left
          ·simp only [Act.put, z1, z2, z3, i64_w, i32_w]
           rfl
          refine pu 10 (some 46) (v := ?_) (a' := ?_) #[true, true, true, true, true, true, true, true, true, true, true, false, false] rfl rfl HT_ (fun _ _ _ h => h) (by rfl) ?_ ?_ ?_
          rotate_left
          ·intro w'
           go_simp
           with_reducible rfl
          rotate_left
          ·simp only [Act.put, z1, z2, z3, i64_w, i32_w]
           rfl
          refine last_ (i := 11) (N := none) #[true, true, true, true, true, true, true, true, true, true, true, true, false] rfl rfl (one_of HT_.out (by kernel_rfl)) (by decide) (fun K hK => ?_)
          have hs42 : w41.cell? ⟨gb163, 0, none⟩ = some (.int .i64 x164000_2) := (blk_cell BK163.out 0).trans rfl
          have hfs42 := blk_frozen BK163.out 0
          have hns42_0 := NB155_163.out
          have hns42_1 := NB156_163.out
          have hms42_0 := NB163_155.out
          have hms42_1 := NB163_156.out
          have hs44 : w41.cell? ⟨gb163, 1, none⟩ = some (.slice Ao40 x164001_2.length co40) := (blk_cell BK163.out 1).trans rfl
          have hfs44 := blk_frozen BK163.out 1
          have hns44_0 := NB155_163.out
          have hns44_1 := NB156_163.out
          have hms44_0 := NB163_155.out
          have hms44_1 := NB163_156.out
          refine skip_ (w1 := ?_) (by rfl) rfl ?_ ?_
          rotate_left
          ·go_simp
           rfl
          refine hK.out _ _ ?_
          clear hK K
          refine pu 12 (some 7) (v := ?_) (a' := ?_) #[true, true, true, true, true, true, true, true, true, true, true, true, true] rfl rfl HT_ (fun _ _ _ h => h) (by rfl) ?_ ?_ ?_
          rotate_left
          ·intro w'
           go_simp
           with_reducible rfl
          rotate_left
          ·simp only [Act.put, z1, z2, z3, i64_w, i32_w]
           rfl
          refine done_ (done_of HT_.out (by kernel_rfl)) ?_
          try go_wp2
          go_roundg k2
          case measure => have := HJ2.out; have := HK2.out; omega
          case rel => exact ⟨(wrap64 (x31_2 + 1)), (x157000_2), (t166), (t167), (.slice Ao43 t167.length co43), (by first | rfl | (simp; done) | (simp [*]; done)), H', ⟨by have := HJ2.out; have := HK2.out; omega⟩, ⟨by (with_reducible repeat (first | apply Kd.R_alloc | apply Kd.R_drewN | apply Kd.R_drew)); exact Kd.R_mono (Kd.R_far (p := ⟨gb163, 1, none⟩) (Kd.R_far (p := ⟨gb163, 0, none⟩) (Kd.R_types HO169.out BK163.out (by decide)) (fun _ hk => hk.2) (.int .i64 t166)) (fun _ hk => hk.2) (.slice Ao43 t167.length co43)) (fun _ hk => trivial)⟩, ⟨mf BK155⟩, ⟨mf BK156⟩, ⟨mq BK163⟩, ⟨ms HB⟩⟩
         replace c38 := Bool.eq_false_iff.mpr c38
         subst c38
         rw [if_neg (show ¬ (false = true) by decide)] at H
         simp only [Option.some.injEq, Prod.mk.injEq] at H
         obtain ⟨rfl, rfl, rfl⟩ := H
         have p164 : 0 ≤ (x31_2 : Int) := of_decide_eq_true (by first | (with_reducible assumption) | assumption)
         have q164 : x31_2 < (l1.length : Int) := of_decide_eq_true (by first | (with_reducible assumption) | assumption)
         obtain ⟨ad164, e164, hx164_0⟩ := Kd.at_int HR1.out x31_2 p164 q164
         cases e164
         replace hx164_0 := (HB.out.cell (World.block_lt_of_cell? w _ hx164_0)).trans hx164_0
         replace p164 := eq_true p164
         replace q164 := eq_true q164
         try go_wp2
         replace HO_164001 := Aside0.mk (Kd.R_drew HO_164001.out)
         replace BK155 := Aside0.mk (blk_drew BK155.out)
         replace BK156 := Aside0.mk (blk_drew BK156.out)
         replace BK163 := Aside0.mk (blk_drew BK163.out)
         replace HB := Aside0.mk (below_drew1 HB.out)
         have p165 : 0 ≤ (x31_2 : Int) := of_decide_eq_true (by first | (with_reducible assumption) | assumption)
         have q165 : x31_2 < (l0_1.length : Int) := of_decide_eq_true (by first | (with_reducible assumption) | assumption)
         obtain ⟨ad165, A165_1, c165_1, e165, hx165_0, hx165_1, hl165_1, hi165_1⟩ := at_T29 HR0_1.out x31_2 p165 q165
         have hw165_1 := hx165_1
         have hw165_0 := hx165_0
         cases e165
         replace hx165_0 := (HB.out.cell (World.block_lt_of_cell? w _ hx165_0)).trans hx165_0
         replace hx165_1 := (HB.out.cell (World.block_lt_of_cell? w _ hx165_1)).trans hx165_1
         have HR165_1 := Aside0.mk hi165_1
         have HC165_1 := Aside0.mk hl165_1
         clear hi165_1 hl165_1
         replace p165 := eq_true p165
         replace q165 := eq_true q165
         obtain ⟨Ao46, co46, eo46⟩ := Kd.R_slice HO_164001.out
         (first | subst eo46 | (injection eo46 with f1_ f2_ f3_; have f4_ := f1_.symm; have f5_ := f3_.symm; clear f1_ f2_ f3_; subst f4_; subst f5_))
         refine start_ (n := 13) (S := fun w' => w'.cell? ⟨gb163, 0, none⟩ = some (.int .i64 x164000_2) ∧ w'.cell? ⟨gb163, 1, none⟩ = some (.slice Ao46 x164001_2.length co46) ∧ w'.cell? ⟨gb155, 0, none⟩ = some (.int .i64 a0_0) ∧ w'.cell? ⟨gb155, 1, none⟩ = some (.slice (some ad165) l0_1.length c0_1) ∧ w'.cell? (ad165.add ((x31_2).toNat * 2)) = some (.int .i64 ((rd_T29 l0_1 x31_2).f0)) ∧ w'.cell? ⟨(ad165.add ((x31_2).toNat * 2)).block, (ad165.add ((x31_2).toNat * 2)).off + 1, none⟩ = some (.slice A165_1 ((rd_T29 l0_1 x31_2).f1).length c165_1)) (ds := [11]) #[false, false, false, false, false, false, false, false, false, false, false, false, false] (by kernel_rfl) rfl rfl ⟨(c2 BK163).1, (c2 BK163).2, (c2 BK155).1, (c2 BK155).2, ((HB.out.cell (World.block_lt_of_cell? w _ hw165_0)).trans hw165_0), ((HB.out.cell (World.block_lt_of_cell? w _ hw165_1)).trans hw165_1)⟩ (fun hHeld => ?_); refine with_tabW impl_CombineRows.tab8 impl_CombineRows.bits8 (fun HT_ HW_ => ?_)
         generalize wr.drew = w45 at HO_164001 BK155 BK156 BK163 HB HR165_1 hx165_0 hx165_1 hHeld ⊢
         refine pu 1 (some 38) (v := ?_) (a' := ?_) #[false, true, false, false, false, false, false, false, false, false, false, false, false] rfl rfl HT_ (fun _ _ _ h => h) (by rfl) ?_ ?_ ?_
         rotate_left
         ·intro w'
          go_simp
          with_reducible rfl
         rotate_left
         ·simp only [Act.put, z1, z2, z3, i64_w, i32_w]
          rfl
         refine pu 2 (some 39) (v := ?_) (a' := ?_) #[false, true, true, false, false, false, false, false, false, false, false, false, false] rfl rfl HT_ (fun _ _ _ h => h) (by rfl) ?_ ?_ ?_
         rotate_left
         ·intro w'
          go_simp
          with_reducible rfl
         rotate_left
         ·simp only [Act.put, z1, z2, z3, i64_w, i32_w]
          rfl
         refine pu 4 (some 41) (v := ?_) (a' := ?_) #[false, true, true, false, true, false, false, false, false, false, false, false, false] rfl rfl HT_ (fun _ _ _ h => h) (by rfl) ?_ ?_ ?_
         rotate_left
         ·intro w'
          go_simp
          with_reducible rfl
         rotate_left
         ·simp only [Act.put, z1, z2, z3, i64_w, i32_w]
          rfl
         refine tk 0 (some 37) (v := ?_) (a' := ?_) #[true, true, true, false, true, false, false, false, false, false, false, false, false] rfl rfl HT_ HW_ (fun _ _ _ h => h) (by rfl) ?_ hHeld ?_ ?_
         rotate_left
         ·rintro w' ⟨s0, s1, s2, s3, s4, s5⟩
          go_simp
          with_reducible rfl
         rotate_left
         ·simp only [Act.put, z1, z2, z3, i64_w, i32_w]
          rfl
         refine tk 3 (some 40) (v := ?_) (a' := ?_) #[true, true, true, true, true, false, false, false, false, false, false, false, false] rfl rfl HT_ HW_ (fun _ _ _ h => h) (by rfl) ?_ hHeld ?_ ?_
         rotate_left
         ·rintro w' ⟨s0, s1, s2, s3, s4, s5⟩
          go_simp
          with_reducible rfl
         rotate_left
         ·simp only [Act.put, z1, z2, z3, i64_w, i32_w]
          rfl
         refine pu 5 (some 42) (v := ?_) (a' := ?_) #[true, true, true, true, true, true, false, false, false, false, false, false, false] rfl rfl HT_ (fun _ _ _ h => h) (by rfl) ?_ ?_ ?_
         rotate_left
         ·intro w'
          go_simp
          with_reducible rfl
         rotate_left
         ·simp only [Act.put, z1, z2, z3, i64_w, i32_w]
          rfl
         refine tk 6 (some 43) (v := ?_) (a' := ?_) #[true, true, true, true, true, true, true, false, false, false, false, false, false] rfl rfl HT_ HW_ (fun _ _ _ h => h) (by rfl) ?_ hHeld ?_ ?_
         rotate_left
         ·rintro w' ⟨s0, s1, s2, s3, s4, s5⟩
          go_simp
          with_reducible rfl
         rotate_left
         ·simp only [Act.put, z1, z2, z3, i64_w, i32_w]
          rfl
         refine one_ (i := 7) (N := some 44) #[true, true, true, true, true, true, true, true, false, false, false, false, false] rfl rfl (one_of HT_.out (by kernel_rfl)) (by decide) (fun K hK => ?_)
         refine gs Try.func75 (by kernel_rfl) rfl #[.agg #[.int .i64 x164000_2, .slice Ao46 x164001_2.length co46], .int .i64 (rd l1 x31_2), .agg #[.int .i64 ((rd_T29 l0_1 x31_2).f0), .slice A165_1 ((rd_T29 l0_1 x31_2).f1).length c165_1]] (by rfl) rfl rfl ?_
         with_reducible refine (impl_AddScaled.calls k2 x164000_2 _ _ x164001_2 (rd l1 x31_2) ((rd_T29 l0_1 x31_2).f0) _ _ ((rd_T29 l0_1 x31_2).f1) t166 t167 false _ ?side1 ?side2 ?side3 ?side4 A37.out).mono ?_
         (case side1 => exact mc ((Kd.R_reads' HO_164001.out).2.2))
         (case side2 => exact (Kd.R_reads' HO_164001.out).2.1)
         (case side3 => exact mc ((Kd.C_below HR165_1.out HB.out)))
         (case side4 => exact HC165_1.out)
         rintro e w47 ⟨v168, rfl, ho0, hb⟩
         refine ⟨_, rfl, ?_⟩
         have HO169 := Aside0.mk (Kd.R_lower (Kd.R_new' ho0 (Kd.R_lt (mr HO_164001))) (below_size (ms HB)))
         replace HO_164001 := rl HO_164001 ho0 hb
         replace BK155 := bb BK155 hb
         replace BK156 := bb BK156 hb
         replace BK163 := bb BK163 hb
         replace HB := bs HB hb
         (try clear hb)
         (try clear hb2)
         (try clear hk)
         (try clear hi)
         (try clear ho0)
         obtain ⟨Ao49, co49, eo49⟩ := Kd.R_slice HO169.out
         (first | subst eo49 | (injection eo49 with f1_ f2_ f3_; have f4_ := f1_.symm; have f5_ := f3_.symm; clear f1_ f2_ f3_; subst f4_; subst f5_))
         refine hK.out _ _ ⟨(c2 BK163).1, (c2 BK163).2, (c2 BK155).1, (c2 BK155).2, ((HB.out.cell (World.block_lt_of_cell? w _ hw165_0)).trans hw165_0), ((HB.out.cell (World.block_lt_of_cell? w _ hw165_1)).trans hw165_1)⟩ (fun hHeld => ?_)
         clear hK K
         refine norm_ (a' := ?_) ?_ ?_
         rotate_left
         ·show Act.put _ (some 44) _ = _
          simp only [Act.put, z1, z2, z3, i64_w, i32_w]
          rfl
         refine pu 8 (some 36) (v := ?_) (a' := ?_) #[true, true, true, true, true, true, true, true, true, false, false, false, false] rfl rfl HT_ (fun _ _ _ h => h) (by rfl) ?_ ?_ ?_
         rotate_left
         ·intro w'
          go_simp
          with_reducible rfl
         rotate_left
         ·simp only [Act.put, z1, z2, z3, i64_w, i32_w]
          rfl
         refine pu 9 (some 45) (v := ?_) (a' := ?_) #[true, true, true, true, true, true, true, true, true, true, false, false, false] rfl rfl HT_ (fun _ _ _ h => h) (by rfl) ?_ ?_ ?_
         rotate_left
         ·intro w'
          go_simp
          with_reducible rfl
         rotate_left
         ·simp only [Act.put, z1, z2, z3, i64_w, i32_w]
          rfl
         refine pu 10 (some 46) (v := ?_) (a' := ?_) #[true, true, true, true, true, true, true, true, true, true, true, false, false] rfl rfl HT_ (fun _ _ _ h => h) (by rfl) ?_ ?_ ?_
         rotate_left
         ·intro w'
          go_simp
          with_reducible rfl
         rotate_left
         ·simp only [Act.put, z1, z2, z3, i64_w, i32_w]
          rfl
         refine last_ (i := 11) (N := none) #[true, true, true, true, true, true, true, true, true, true, true, true, false] rfl rfl (one_of HT_.out (by kernel_rfl)) (by decide) (fun K hK => ?_)
         have hs48 : w47.cell? ⟨gb163, 0, none⟩ = some (.int .i64 x164000_2) := (blk_cell BK163.out 0).trans rfl
         have hfs48 := blk_frozen BK163.out 0
         have hns48_0 := NB155_163.out
         have hns48_1 := NB156_163.out
         have hms48_0 := NB163_155.out
         have hms48_1 := NB163_156.out
         have hs50 : w47.cell? ⟨gb163, 1, none⟩ = some (.slice Ao46 x164001_2.length co46) := (blk_cell BK163.out 1).trans rfl
         have hfs50 := blk_frozen BK163.out 1
         have hns50_0 := NB155_163.out
         have hns50_1 := NB156_163.out
         have hms50_0 := NB163_155.out
         have hms50_1 := NB163_156.out
         refine skip_ (w1 := ?_) (by rfl) rfl ?_ ?_
         rotate_left
         ·go_simp
          rfl
         refine hK.out _ _ ?_
         clear hK K
         refine pu 12 (some 7) (v := ?_) (a' := ?_) #[true, true, true, true, true, true, true, true, true, true, true, true, true] rfl rfl HT_ (fun _ _ _ h => h) (by rfl) ?_ ?_ ?_
         rotate_left
         ·intro w'
          go_simp
          with_reducible rfl
         rotate_left
         ·simp only [Act.put, z1, z2, z3, i64_w, i32_w]
          rfl
         refine done_ (done_of HT_.out (by kernel_rfl)) ?_
         have := NB156_155.out
         have := NB155_156.out
         have := NB156_163.out
         have := NB163_156.out
         obtain ⟨_, _, _, _⟩ := cFour BK156
         try go_wp2
         refine bodyPost_ret (results_ct rfl _ _ gb156 29 #[.int .i64 0, .slice none 0 0] (0, 0) _ rfl (by (with_reducible repeat (first | refine blk_drewN ?_ _ | refine blk_drew ?_ | refine blk_alloc ?_ _)); refine blk_put (cs := #[.int .i64 0, .slice none 0 0]) ?_ 1 _ rfl; (with_reducible repeat (first | refine blk_drewN ?_ _ | refine blk_drew ?_ | refine blk_alloc ?_ _)); refine blk_put (cs := #[.int .i64 x157000_2, .slice none 0 0]) ?_ 0 _ rfl; (with_reducible repeat (first | refine blk_drewN ?_ _ | refine blk_drew ?_ | refine blk_alloc ?_ _)); refine blk_far ?_ NB156_163.out _; (with_reducible repeat (first | refine blk_drewN ?_ _ | refine blk_drew ?_ | refine blk_alloc ?_ _)); refine blk_far ?_ NB156_163.out _; (with_reducible repeat (first | refine blk_drewN ?_ _ | refine blk_drew ?_ | refine blk_alloc ?_ _)); exact BK156.out) Try.underlying29 rfl (by kernel_rfl)) rfl ?_
         exact ⟨_, by first | rfl | (simp [errW_none, errW_some] <;> rfl) | (simp [*, errW_none, errW_some] <;> rfl), by first | exact Kd.R_nil _ _ _ _ _ | exact Kd.N_nil _ _ _ _ _ | exact Kd.V_nil _ _ _ _ _ | exact Kd.Q_nil _ _ _ _ _ | exact Kd.S_nil _ _ _ _ _, ms HB⟩
        rw [if_neg c36] at H
        exact absurd H (by simp)
       rw [if_neg c35] at H
       exact absurd H (by simp)
      rw [if_neg c34] at H
      exact absurd H (by simp)
     rw [if_neg c33] at H
     have c33b0 : decide (x31_2 < (l1.length : Int)) = false := decide_eq_false c33
     clear c33
     simp only [Option.some.injEq, Prod.mk.injEq] at H
     obtain ⟨rfl, rfl, rfl⟩ := H
     have := NB163_155.out
     have := NB155_163.out
     have := NB163_156.out
     have := NB156_163.out
     obtain ⟨_, _, _, _⟩ := cFour BK163
     have := NB156_155.out
     have := NB155_156.out
     obtain ⟨_, _, _, _⟩ := cFour BK156
     obtain ⟨Ao59, co59, eo59⟩ := Kd.R_slice HO_164001.out
     subst eo59
     go_wp2
     refine bodyPost_ret (results_ct rfl _ _ gb156 29 #[.int .i64 x164000_2, .slice Ao59 x164001_2.length co59] (0, 0) _ rfl (mq BK156) Try.underlying29 rfl (by kernel_rfl)) rfl ?_
     exact ⟨_, by first | rfl | (simp [errW_none, errW_some] <;> rfl) | (simp [*, errW_none, errW_some] <;> rfl), by (with_reducible repeat (first | apply Kd.R_alloc | apply Kd.R_drewN | apply Kd.R_drew)); exact Kd.R_mono (Kd.R_far (p := ⟨gb156, 1, none⟩) (Kd.R_far (p := ⟨gb156, 0, none⟩) (Kd.R_types HO_164001.out BK156.out (by decide)) (fun _ hk => hk.2) (.int .i64 x164000_2)) (fun _ hk => hk.2) (.slice Ao59 x164001_2.length co59)) (fun _ hk => trivial), ms HB⟩

/-! ### slices_Clone_int_int: function 133 -/
def slices_Clone_int_int.f (l0 : List Int) : Option (List Int) := (some (([] : List Int) : List Int)).bind fun y171 => (if y171.length + l0.length < 17592186044416 then (some (y171 ++ l0)) else (none))
set_option maxHeartbeats 8000000 in
set_option maxRecDepth 100000 in
theorem slices_Clone_int_int.calls (A0 : Option Addr) (c0 : Nat) (l0 : List Int) (r : List Int) (w : World) (hr0 : Kd.C (Kd.int .i64) w A0 l0.length l0) (hc0 : l0.length ≤ c0) (h : slices_Clone_int_int.f l0 = some r) :
  Calls Try.prog 133 #[.slice A0 l0.length c0] w fun e w' => ∃ v0_ : Value, e = .returned (v0_) ∧ Kd.R (Kd.int .i64) 3 w' w.heap.size (fun _ => True) v0_ r ∧ Below w.heap.size w w' := by
 have q_ : ∀ (W : World) (a : Option Addr) (m c m' c' : Nat), (Go.binOp .eql 27 (.slice a m c) (.slice none m' c')).run Try.prog W = .ok (.bool a.isNone) W := fun W a m c m' c' => Lib.run_eql_slice_nil W _ _ a m c m' c' Try.underlying27
 cases A0 with
 | none =>
  have e_ : l0 = [] := by
   rcases Nat.eq_zero_or_pos l0.length with e | e
   ·exact List.length_eq_zero_iff.1 e
   obtain ⟨_, e', _⟩ := hr0.2.2 e; cases e'
  subst e_
  obtain rfl : r = [] := by simpa [slices_Clone_int_int.f] using h.symm
  go_enter Try.func133, Try.ntmps133
  go_wp2
  go_ret
  exact ⟨_, rfl, Kd.R_nil _ _ _ _ _, Below.refl _ _⟩
 | some a0_ =>
  have HR0 := Aside0.mk hr0
  have HC0 := Aside0.mk hc0
  clear hr0 hc0
  have HB := Aside0.mk (Below.refl w.heap.size w)
  have H : ((some (([] : List Int) : List Int)).bind fun y171 => (if y171.length + l0.length < 17592186044416 then (some (y171 ++ l0)) else (none))) = some r := h
  clear h
  obtain ⟨y171, hy171⟩ : ∃ y_ : List Int, y_ = (([] : List Int)) := ⟨_, rfl⟩
  replace H : (if y171.length + l0.length < 17592186044416 then (some (y171 ++ l0)) else (none)) = some r := by first | (rw [hy171]; with_reducible exact H) | (have H2_ := (Option.bind_some _ _).symm.trans H; rw [hy171]; with_reducible exact H2_) | (have H2_ := (Option.bind_some _ _).symm.trans H; with_reducible exact H2_) | with_reducible exact H | (rw [hy171]; exact H) | exact H
  have Ny171 := Aside0.mk hy171; clear hy171
  by_cases c2 : y171.length + l0.length < 17592186044416
  ·rw [if_pos c2] at H
   have LMc2 := Aside0.mk c2; clear c2
   obtain ⟨y174, hy174⟩ : ∃ y_ : List Int, y_ = (y171 ++ l0) := ⟨_, rfl⟩
   replace H : (some y174) = some r := by first | (rw [hy174]; with_reducible exact H) | (have H2_ := (Option.bind_some _ _).symm.trans H; rw [hy174]; with_reducible exact H2_) | (have H2_ := (Option.bind_some _ _).symm.trans H; with_reducible exact H2_) | with_reducible exact H | (rw [hy174]; exact H) | exact H
   have Ny174 := Aside0.mk hy174; clear hy174
   obtain rfl := Option.some.inj H
   go_enter Try.func133, Try.ntmps133
   go_wp2_with (first | ((with_reducible refine gate_dst (N := 5) rfl ?_); refine Kd.R_lit (Kd.int .i64) _ 3 ?hg (N := 5) ?hd (xs := ([] : List Int)) (inner := []) (ok := fun _ => True) (okp := fun _ => True) ?hr ?hp (fun _ hk => hk) trivial (Below.refl _ _) (Nat.le_refl _) (by simp) ?_; (case hd => rfl); (case hg => rfl); (case hr => first | (go_simp; done) | (go_simp; rfl)); (case hp => exact (Reps.none _ _)); intro v172 w3 ho4 hb hg_ hnew_; clear hg_ hnew_; (first | rw [← Ny171.out] at ho4 | (simp only [Int.reduceToNat] at ho4; rw [← Ny171.out] at ho4)); have HO173 := Aside0.mk (Kd.R_lower ho4 (below_size (ms HB))); replace HB := bs HB hb; clear hb ho4) | ((with_reducible refine gate_builtin (b := .append) (xs := #[.tmp 5, .tmp 6]) rfl ?_); at_builtin; refine Kd.R_append_rows (Kd.int .i64) (w0 := w) w.heap.size rfl (.tmp 5) (.tmp 6) 27 3 (.int .i64 0) 8 rfl Try.underlying27 info3 rfl (by decide) (by omega) v172 y171 l0 _ _ _ (fun _ => True) (fun _ => False) rfl rfl ?aO ?aR (fun _ _ h => h) (fun _ h => h.elim) ?aF ?aB ?aS ?aL ?_; (case aR => exact mc ((Kd.C_below HR0.out HB.out))); (case aB => exact (ms HB)); (case aF => exact (fun _ _ => trivial)); (case aO => exact (mr HO173)); (case aS => exact (below_size (ms HB))); (case aL => have := LMc2.out; omega); intro v175 w5 ho hb hg hat; rw [← Ny174.out] at ho; replace HB := Aside0.mk (hb); have HO176 := Aside0.mk (ho); clear HO173 ho hb hg hat))
   go_ret
   exact ⟨_, by first | rfl | (simp [errW_none, errW_some] <;> rfl) | (simp [*, errW_none, errW_some] <;> rfl), by (with_reducible repeat (first | apply Kd.R_alloc | apply Kd.R_drewN | apply Kd.R_drew)); exact HO176.out, ms HB⟩
  rw [if_neg c2] at H
  exact absurd H (by simp)

end Go.Proofs.Ytlencemmlgkflaa.QFnEntailed
