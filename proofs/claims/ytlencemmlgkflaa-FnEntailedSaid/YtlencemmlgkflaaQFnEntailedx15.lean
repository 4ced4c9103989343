-- Made by a program of this claim's own (wip/print): not the kit's print as it stands.
import Derived.Test.YtlencemmlgkflaaUFnEntailedTri
import Derived.Test.YtlencemmlgkflaaQFnEntailedx0
import Derived.Test.YtlencemmlgkflaaQFnEntailedx9
import Derived.Test.YtlencemmlgkflaaQFnEntailedx12
import Derived.Test.YtlencemmlgkflaaQFnEntailedx14
namespace Go.Proofs.Ytlencemmlgkflaa.QFnEntailed
open Go.RowKit Go.Proofs.YtlencemmlgkflaaV.PrintWords Go.Proofs.YtlencemmlgkflaaV.PrintLast Go.Proofs.YtlencemmlgkflaaV.PrintMore
attribute [local go_sem] max2_int min2_int max_two min_two max_three min_three max_four min_four   -- for this text's walks alone
set_option linter.unusedVariables false
set_option linter.unusedSimpArgs false

/-! ### spec_l6Bent: function 71 -/
def spec_l6Bent.l0 : Nat → Int → List Int → Int → Int → Int → List (S29) → Option (Int × (List (S29)) × Int × Int)
 | 0, _, _, _, _, _, _ => none
 | k + 1, x4, x1000, x1001, x1002, x420000, x420001 => if x4 < 20 then ((spec_ConstLin.f 1 x420000).bind fun bt438 => (if x420001.length < 4398046511104 then (spec_l6Bent.l0 k (wrap64 (x4 + 1)) x1000 x1001 x1002 x420000 (x420001 ++ [(⟨bt438.1, bt438.2⟩ : S29)])) else (none))) else (some (x420000, x420001, x1001, x1002))
def spec_l6Bent.f (k : Nat) (s0_0 : List Int) (s0_1 : Int) (s0_2 : Int) : Option (Int × (List (S29)) × Int × Int) := (spec_l1Below.f s0_0 s0_1 s0_2 4).bind fun bt410 => ((spec_l6Draw.f k s0_0 bt410.2.1 bt410.2.2 bt410.1).bind fun bt413 => ((spec_l1Below.f s0_0 bt413.2.2.1 bt413.2.2.2 16).bind fun bt420 => (if bt420.1 = 0 then ((spec_l1PickInt.f s0_0 bt420.2.1 bt420.2.2 (([(-1), 9, wrap64 (bt413.1 + 1)] : List Int))).bind fun bt426 => (some (bt426.1, bt413.2.1, bt426.2.1, bt426.2.2))) else (if bt420.1 = 1 then ((spec_l4Bent.f k s0_0 bt420.2.1 bt420.2.2).bind fun bt429 => (if bt413.2.1.length < 4398046511104 then (some (bt413.1, (bt413.2.1 ++ [(⟨bt429.1, bt429.2.1⟩ : S29)]), bt429.2.2.1, bt429.2.2.2)) else (none))) else (if bt420.1 = 2 then (spec_l6Bent.l0 k 0 s0_0 bt420.2.1 bt420.2.2 bt413.1 bt413.2.1) else (some (bt413.1, bt413.2.1, bt420.2.1, bt420.2.2)))))))
theorem spec_l6Bent.mono_l : ∀ k, (∀ y0 y1 y2 y3 y4 y5, LeO (spec_l6Bent.l0 k y0 y1 y2 y3 y4 y5) (spec_l6Bent.l0 (k + 1) y0 y1 y2 y3 y4 y5))
 | 0 => fun _ _ _ _ _ _ r h => by simp [spec_l6Bent.l0] at h
 | k + 1 => by
  have ih0 := spec_l6Bent.mono_l k
  ·intro y0 y1 y2 y3 y4 y5
   unfold spec_l6Bent.l0
   repeat' with_reducible first
   | exact ih0 _ _ _ _ _ _
   | exact spec_l4Bent.mono _ _ _ _
   | exact spec_l6Draw.mono _ _ _ _ _
   | exact LeO.refl _
   | exact LeO.none _
   | refine LeO.ite ?_ ?_
   | refine LeO.bind ?_ (fun _ => ?_)
theorem spec_l6Bent.mono : ∀ a0 a1 a2 k, LeO (spec_l6Bent.f k a0 a1 a2) (spec_l6Bent.f (k + 1) a0 a1 a2) := by
 intro a0 a1 a2 k
 have ih0 := spec_l6Bent.mono_l k
 unfold spec_l6Bent.f
 repeat' with_reducible first
 | exact ih0 _ _ _ _ _ _
 | exact spec_l4Bent.mono _ _ _ _
 | exact spec_l6Draw.mono _ _ _ _ _
 | exact LeO.refl _
 | exact LeO.none _
 | refine LeO.ite ?_ ?_
 | refine LeO.bind ?_ (fun _ => ?_)
def spec_l6Bent.T6 : Bool × List (List Nat × List Nat) := (true, [([], []), ([0], [0]), ([], []), ([2], [2]), ([3], [3]), ([1, 4, 3], [1, 4]), ([0, 1, 2, 3, 4, 5], []), ([6, 5, 5, 0, 1, 2, 3, 4, 5], [5, 6])])
def spec_l6Bent.B6 : List Nat := [0, 1, 0, 4, 12, 31, 63, 127]
theorem spec_l6Bent.tab6 : rtab .any (opsOf Try.f71 6) = spec_l6Bent.T6 := by kernel_rfl
theorem spec_l6Bent.bits6 : waitsOk spec_l6Bent.T6.2 spec_l6Bent.B6 = true := by kernel_rfl
def spec_l6Bent.T11 : Bool × List (List Nat × List Nat) := (true, [([], []), ([0], [0]), ([], []), ([2], [2]), ([3], [3]), ([4], [4]), ([1, 5, 4], [1, 5]), ([0, 1, 2, 3, 4, 5, 6], []), ([7, 6, 6, 0, 1, 2, 3, 4, 5, 6], [6, 7])])
def spec_l6Bent.B11 : List Nat := [0, 1, 0, 4, 12, 28, 63, 127, 255]
theorem spec_l6Bent.tab11 : rtab .any (opsOf Try.f71 11) = spec_l6Bent.T11 := by kernel_rfl
theorem spec_l6Bent.bits11 : waitsOk spec_l6Bent.T11.2 spec_l6Bent.B11 = true := by kernel_rfl
set_option maxHeartbeats 8000000 in
set_option maxRecDepth 100000 in
theorem spec_l6Bent.calls (k : Nat) (g : Nat) (s0_0 : List Int) (s0_1 : Int) (s0_2 : Int) (r1 : Int) (r2 : List (S29)) (r3 : Int) (r4 : Int) (w0 w : World) (hI : IsS112 w0 w g s0_0 s0_1 s0_2) (hB : Below w0.heap.size w0 w) (h : spec_l6Bent.f k s0_0 s0_1 s0_2 = some (r1, r2, r3, r4)) :
  Calls Try.prog 71 #[.pointer (some ⟨g, 0, none⟩)] w fun e w' => ∃ v1_ : Value, e = .returned (.agg #[.int .i64 r1, v1_]) ∧ Kd.S k29 29 w' w.heap.size (fun _ => True) v1_ r2 ∧ IsS112 w0 w' g s0_0 r3 r4 ∧ Below w0.heap.size w0 w' ∧ KeepBut w w' g none := by
 have hu26 := Try.underlying26
 have HI0 := Aside0.mk hI
 have HK := Aside0.mk (KeepBut.refl w g none)
 have HL := Aside0.mk hB.size
 clear hI
 have HW0 := Aside0.mk hB.size
 have HB := Aside0.mk hB; clear hB
 have H : ((spec_l1Below.f s0_0 s0_1 s0_2 4).bind fun bt410 => ((spec_l6Draw.f k s0_0 bt410.2.1 bt410.2.2 bt410.1).bind fun bt413 => ((spec_l1Below.f s0_0 bt413.2.2.1 bt413.2.2.2 16).bind fun bt420 => (if bt420.1 = 0 then ((spec_l1PickInt.f s0_0 bt420.2.1 bt420.2.2 (([(-1), 9, wrap64 (bt413.1 + 1)] : List Int))).bind fun bt426 => (some (bt426.1, bt413.2.1, bt426.2.1, bt426.2.2))) else (if bt420.1 = 1 then ((spec_l4Bent.f k s0_0 bt420.2.1 bt420.2.2).bind fun bt429 => (if bt413.2.1.length < 4398046511104 then (some (bt413.1, (bt413.2.1 ++ [(⟨bt429.1, bt429.2.1⟩ : S29)]), bt429.2.2.1, bt429.2.2.2)) else (none))) else (if bt420.1 = 2 then (spec_l6Bent.l0 k 0 s0_0 bt420.2.1 bt420.2.2 bt413.1 bt413.2.1) else (some (bt413.1, bt413.2.1, bt420.2.1, bt420.2.2)))))))) = some (r1, r2, r3, r4) := h
 clear h
 obtain ⟨⟨t410, t411, t412⟩, A20, H⟩ := Option.bind_eq_some_iff.mp H
 try dsimp only at H
 have A2 := Aside0.mk A20; clear A20
 obtain ⟨⟨t413, t414, t417, t418⟩, A30, H⟩ := Option.bind_eq_some_iff.mp H
 try dsimp only at H
 have A3 := Aside0.mk A30; clear A30
 obtain ⟨⟨t420, t421, t422⟩, A40, H⟩ := Option.bind_eq_some_iff.mp H
 try dsimp only at H
 have A4 := Aside0.mk A40; clear A40
 by_cases c5 : t420 = 0
 ·rw [if_pos c5] at H
  have c5b0 : (t420 == 0) = true := beq_iff_eq.mpr c5
  have c5b1 : (t420 != 0) = false := bne_eq_false_iff_eq.mpr c5
  clear c5
  obtain ⟨y423, hy423⟩ : ∃ y_ : List Int, y_ = (([(-1), 9, wrap64 (t413 + 1)] : List Int)) := ⟨_, rfl⟩
  replace H : ((spec_l1PickInt.f s0_0 t421 t422 y423).bind fun bt426 => (some (bt426.1, t414, bt426.2.1, bt426.2.2))) = some (r1, r2, r3, r4) := by first | (rw [hy423]; with_reducible exact H) | (have H2_ := (Option.bind_some _ _).symm.trans H; rw [hy423]; with_reducible exact H2_) | (have H2_ := (Option.bind_some _ _).symm.trans H; with_reducible exact H2_) | with_reducible exact H | (rw [hy423]; exact H) | exact H
  have Ny423 := Aside0.mk hy423; clear hy423
  obtain ⟨⟨t426, t427, t428⟩, A60, H⟩ := Option.bind_eq_some_iff.mp H
  try dsimp only at H
  have A6 := Aside0.mk A60; clear A60
  simp only [Option.some.injEq, Prod.mk.injEq] at H
  obtain ⟨rfl, rfl, rfl, rfl⟩ := H
  go_enter Try.func71, Try.ntmps71
  go_wp2_with (first | ((with_reducible refine gate_dst (N := 2) rfl ?_); refine box_event ?hg (N := 2) ?hd (cs := #[.int .i64 0, .slice none 0 0]) (t := 26) ?hr ?_; (case hd => rfl); (case hg => rfl); (case hr => first | (go_simp; done) | (go_simp; rfl)); intro gb409 hg w7 hbox hb; have n0_ := Aside0.mk (IsS112.below (IsS112.mi HI0) hb); have n1_ := Aside0.mk (KeepBut.trans (mk HK) (KeepBut.of_below hb g none) (.inl rfl)); have n2_ := Aside0.mk (below_step (IsS112.ms HB) hb); have n3_ := Aside0.mk (hbox); have n4_ := Aside0.mk ((by rw [hg]; exact (keep_size (w := w) (g := g) (row := none) (mk HK)) : w.heap.size ≤ gb409)); have n5_ := Aside0.mk ((Nat.le_trans HW0.out (by rw [hg]; exact (keep_size (w := w) (g := g) (row := none) (mk HK)) : w.heap.size ≤ gb409) : w0.heap.size ≤ gb409)); have n6_ := Aside0.mk ((by rw [hg]; exact Nat.ne_of_lt (IsS112.lt (show IsS112 w0 _ g s0_0 s0_1 s0_2 from IsS112.mi HI0)) : g ≠ gb409)); have n7_ := Aside0.mk ((by rw [hg]; exact Nat.ne_of_gt (IsS112.lt (show IsS112 w0 _ g s0_0 s0_1 s0_2 from IsS112.mi HI0)) : gb409 ≠ g)); clear HI0 HK HB; have HI0 := n0_; have HK := n1_; have HB := n2_; have BK409 := n3_; have GW409 := n4_; have GE409 := n5_; have NB0_409 := n6_; have NB409_0 := n7_; clear n0_ n1_ n2_ n3_ n4_ n5_ n6_ n7_; clear hb hbox hg) | ((with_reducible refine gate_callee (f := 116) rfl ?_); refine gl (some 7) rfl rfl Try.func116 (by kernel_rfl) rfl #[.pointer (some ⟨g, 0, none⟩), .int .i64 4] rfl ?_; (with_reducible refine (spec_l1Below.calls g s0_0 s0_1 s0_2 4 t410 t411 t412 w0 _ ?side1 ?side2 A2.out).mono ?_); (case side1 => exact IsS112.mi HI0); (case side2 => exact IsS112.ms HB); rintro e w8 ⟨rfl, hi, hb, hk⟩; refine ⟨_, rfl, ?_⟩; replace BK409 := Aside0.mk (KeepBut.blk hk (g' := gb409) (o := .cells #[.int .i64 0, .slice none 0 0] 26 (0, 0)) (mb BK409) NB409_0.out (by simp)); replace HK := Aside0.mk (KeepBut.trans (mk HK) hk (.inl rfl)); replace HB := Aside0.mk (hb); replace HI0 := Aside0.mk (hi); (try clear hb)) | ((with_reducible refine gate_callee (f := 115) rfl ?_); refine gl (some 8) rfl rfl Try.func115 (by kernel_rfl) rfl #[.pointer (some ⟨g, 0, none⟩), .int .i64 t410] rfl ?_; (with_reducible refine (spec_l6Draw.calls k g s0_0 t411 t412 t410 t413 t414 t417 t418 w0 _ ?side1 ?side2 A3.out).mono ?_); (case side1 => exact IsS112.mi HI0); (case side2 => exact IsS112.ms HB); rintro e w9 ⟨v415, rfl, ho0, hi, hb, hk⟩; refine ⟨_, rfl, ?_⟩; replace BK409 := Aside0.mk (KeepBut.blk hk (g' := gb409) (o := .cells #[.int .i64 0, .slice none 0 0] 26 (0, 0)) (mb BK409) NB409_0.out (by simp)); have HO416 := Aside0.mk (Kd.S_lower ho0 (keep_size (w := w) (g := g) (row := none) (mk HK))); replace HK := Aside0.mk (KeepBut.trans (mk HK) hk (.inl rfl)); replace HB := Aside0.mk (hb); replace HI0 := Aside0.mk (hi); (try clear hb); (try clear ho0)) | ((with_reducible refine gate_dst (N := 3) rfl ?_); refine box_event ?hg (N := 3) ?hd (cs := #[.int .i64 0, .slice none 0 0]) (t := 26) ?hr ?_; (case hd => rfl); (case hg => rfl); (case hr => first | (go_simp; done) | (go_simp; rfl)); intro gb419 hg w10 hbox hb; have n0_ := bS HO416 hb; have n1_ := Aside0.mk (IsS112.below (IsS112.mi HI0) hb); have n2_ := bb BK409 hb; have n3_ := Aside0.mk (KeepBut.trans (mk HK) (KeepBut.of_below hb g none) (.inl rfl)); have n4_ := Aside0.mk (below_step (IsS112.ms HB) hb); have n5_ := Aside0.mk (hbox); have n6_ := Aside0.mk ((by rw [hg]; exact (keep_size (w := w) (g := g) (row := none) (mk HK)) : w.heap.size ≤ gb419)); have n7_ := Aside0.mk ((Nat.le_trans HW0.out (by rw [hg]; exact (keep_size (w := w) (g := g) (row := none) (mk HK)) : w.heap.size ≤ gb419) : w0.heap.size ≤ gb419)); have n8_ := nl hg BK409; have n9_ := ng hg BK409; have n10_ := Aside0.mk ((by rw [hg]; exact Nat.ne_of_lt (IsS112.lt (show IsS112 w0 _ g s0_0 t417 t418 from IsS112.mi HI0)) : g ≠ gb419)); have n11_ := Aside0.mk ((by rw [hg]; exact Nat.ne_of_gt (IsS112.lt (show IsS112 w0 _ g s0_0 t417 t418 from IsS112.mi HI0)) : gb419 ≠ g)); clear HO416 HI0 BK409 HK HB; have HO416 := n0_; have HI0 := n1_; have BK409 := n2_; have HK := n3_; have HB := n4_; have BK419 := n5_; have GW419 := n6_; have GE419 := n7_; have NB409_419 := n8_; have NB419_409 := n9_; have NB0_419 := n10_; have NB419_0 := n11_; clear n0_ n1_ n2_ n3_ n4_ n5_ n6_ n7_ n8_ n9_ n10_ n11_; clear hb hbox hg; have := NB419_409.out; have := NB409_419.out; have := NB419_0.out; have := NB0_419.out; obtain ⟨hcz13_0, hcz13_1, hfz13_0, hfz13_1⟩ := cFour BK419; obtain ⟨Ao14, co14, eo14⟩ := Kd.S_slice HO416.out; subst eo14) | ((with_reducible refine gate_callee (f := 116) rfl ?_); refine gl (some 10) rfl rfl Try.func116 (by kernel_rfl) rfl #[.pointer (some ⟨g, 0, none⟩), .int .i64 16] rfl ?_; (with_reducible refine (spec_l1Below.calls g s0_0 t417 t418 16 t420 t421 t422 w0 _ ?side1 ?side2 A4.out).mono ?_); (case side1 => exact IsS112.mi HI0); (case side2 => exact IsS112.ms HB); rintro e w15 ⟨rfl, hi, hb, hk⟩; refine ⟨_, rfl, ?_⟩; have n0_ := Aside0.mk (KeepBut.blk hk (g' := gb409) (o := .cells #[.int .i64 0, .slice none 0 0] 26 (0, 0)) (mf BK409) NB409_0.out (by simp)); have n1_ := Aside0.mk (Kd.S_mono (Kd.S_keep (IsS112.apartS (show IsS112 w0 _ g s0_0 t417 t418 from IsS112.mi HI0) (by (with_reducible repeat (first | apply Kd.S_alloc | apply Kd.S_drewN | apply Kd.S_drew)); exact (Kd.S_mono (Kd.S_far (p := ⟨gb419, 1, none⟩) (Kd.S_far (p := ⟨gb419, 0, none⟩) (Kd.S_types HO416.out BK419.out (by decide)) (fun _ hk => hk.2) (.int .i64 t413)) (fun _ hk => hk.2) (.slice Ao14 t414.length co14)) (fun _ h_ => h_.1))) (by decide)) hk (fun _ h => h.2)) (fun _ h => h.1)); have n2_ := Aside0.mk (KeepBut.blk hk (g' := gb419) (o := .cells #[.int .i64 t413, .slice Ao14 t414.length co14] 26 (0, 0)) (mq BK419) NB419_0.out (by simp)); have n3_ := Aside0.mk (KeepBut.trans (mk HK) hk (.inl rfl)); have n4_ := Aside0.mk (hb); have n5_ := Aside0.mk (hi); clear BK409 HO416 BK419 HK HB HI0; have BK409 := n0_; have HO416 := n1_; have BK419 := n2_; have HK := n3_; have HB := n4_; have HI0 := n5_; clear n0_ n1_ n2_ n3_ n4_ n5_; (try clear hb); obtain ⟨hcz16_0, hcz16_1, hfz16_0, hfz16_1⟩ := cFour BK419) | ((with_reducible refine gate_dst (N := 17) rfl ?_); refine Kd.R_lit (Kd.int .i64) _ 3 ?hg (N := 17) ?hd (xs := ([(-1), 9, wrap64 (t413 + 1)] : List Int)) (inner := [.int .i64 (-1), .int .i64 9, .int .i64 (wrap64 (t413 + 1))]) (ok := fun _ => True) (okp := fun _ => True) ?hr ?hp (fun _ hk => hk) trivial (Below.refl _ _) (Nat.le_refl _) (by simp) ?_; (case hd => rfl); (case hg => rfl); (case hr => first | (go_simp; done) | (go_simp; rfl)); (case hp => exact (Reps.one (show Kd.M (Kd.int .i64) _ _ _ (-1) [.int .i64 (-1)] from rfl) (Reps.one (show Kd.M (Kd.int .i64) _ _ _ 9 [.int .i64 9] from rfl) (Reps.one (show Kd.M (Kd.int .i64) _ _ _ (wrap64 (t413 + 1)) [.int .i64 (wrap64 (t413 + 1))] from rfl) (Reps.none _ _))))); intro v424 w17 ho18 hb hg_ hnew_; clear hg_ hnew_; (first | rw [← Ny423.out] at ho18 | (simp only [Int.reduceToNat] at ho18; rw [← Ny423.out] at ho18)); replace HO416 := lS HO416 ho18 hb; have HO425 := Aside0.mk (Kd.R_lower ho18 (keep_size (w := w) (g := g) (row := none) (mk HK))); replace BK409 := bb BK409 hb; replace BK419 := bb BK419 hb; replace HK := Aside0.mk (KeepBut.trans (mk HK) (KeepBut.of_below hb g none) (.inl rfl)); replace HB := Aside0.mk (below_step (IsS112.ms HB) hb); replace HI0 := Aside0.mk (IsS112.below (IsS112.mi HI0) hb); clear hb ho18; obtain ⟨Ao19, co19, eo19⟩ := Kd.R_slice HO425.out; subst eo19) | ((with_reducible refine gate_callee (f := 117) rfl ?_); refine gl (some 18) rfl rfl Try.func117 (by kernel_rfl) rfl #[.pointer (some ⟨g, 0, none⟩), .slice Ao19 y423.length co19] rfl ?_; (with_reducible refine (spec_l1PickInt.calls g s0_0 t421 t422 _ _ y423 t426 t427 t428 w0 _ ?side1 ?side2 ?side3 ?side4 ?side5 A6.out).mono ?_); (case side1 => exact IsS112.mi HI0); (case side2 => exact IsS112.ms HB); (case side3 => exact mc ((Kd.R_reads' HO425.out).2.2)); (case side4 => exact (Kd.R_reads' HO425.out).2.1); (case side5 => exact far_slice (IsS112.own_ne HI0.out HO425.out (by decide))); rintro e w20 ⟨rfl, hi, hb, hk⟩; refine ⟨_, rfl, ?_⟩; replace BK409 := Aside0.mk (KeepBut.blk hk (g' := gb409) (o := .cells #[.int .i64 0, .slice none 0 0] 26 (0, 0)) (mb BK409) NB409_0.out (by simp)); replace HO416 := Aside0.mk (Kd.S_mono (Kd.S_keep (IsS112.apartS (show IsS112 w0 _ g s0_0 t421 t422 from IsS112.mi HI0) (mS HO416) (by decide)) hk (fun _ h => h.2)) (fun _ h => h.1)); replace BK419 := Aside0.mk (KeepBut.blk hk (g' := gb419) (o := .cells #[.int .i64 t413, .slice Ao14 t414.length co14] 26 (0, 0)) (mb BK419) NB419_0.out (by simp)); replace HO425 := Aside0.mk (Kd.R_mono (Kd.R_keep (IsS112.apart (show IsS112 w0 _ g s0_0 t421 t422 from IsS112.mi HI0) (mr HO425) (by decide)) hk (fun _ h => h.2)) (fun _ h => h.1)); replace HK := Aside0.mk (KeepBut.trans (mk HK) hk (.inl rfl)); replace HB := Aside0.mk (hb); replace HI0 := Aside0.mk (hi); (try clear hb); obtain ⟨hcz21_0, hcz21_1, hfz21_0, hfz21_1⟩ := cFour BK419; have := NB409_0.out; have := NB0_409.out; obtain ⟨hcz23_0, hcz23_1, hfz23_0, hfz23_1⟩ := cFour BK409))
  refine bodyPost_ret (results_cell_row rfl _ _ gb409 26 #[.int .i64 t426, .slice Ao14 t414.length co14] (0, 0) _ rfl (by (with_reducible repeat (first | refine blk_drewN ?_ _ | refine blk_drew ?_ | refine blk_alloc ?_ _)); refine blk_put (cs := #[.int .i64 t426, .slice none 0 0]) ?_ 1 _ rfl; (with_reducible repeat (first | refine blk_drewN ?_ _ | refine blk_drew ?_ | refine blk_alloc ?_ _)); refine blk_put (cs := #[.int .i64 0, .slice none 0 0]) ?_ 0 _ rfl; (with_reducible repeat (first | refine blk_drewN ?_ _ | refine blk_drew ?_ | refine blk_alloc ?_ _)); refine blk_far ?_ NB409_419.out _; (with_reducible repeat (first | refine blk_drewN ?_ _ | refine blk_drew ?_ | refine blk_alloc ?_ _)); exact BK409.out) Try.underlying26 rfl (by kernel_rfl)) rfl ?_
  exact ⟨_, by first | rfl | (simp [errW_none, errW_some] <;> rfl) | (simp [*, errW_none, errW_some] <;> rfl), by (with_reducible repeat (first | apply Kd.S_alloc | apply Kd.S_drewN | apply Kd.S_drew)); exact Kd.S_mono (Kd.S_far (p := ⟨gb409, 1, none⟩) (Kd.S_far (p := ⟨gb409, 0, none⟩) (Kd.S_far (p := ⟨gb419, 0, none⟩) (Kd.S_types (Kd.S_types HO416.out BK419.out (by decide)) BK409.out (by decide)) (fun _ hk => hk.1.2) (.int .i64 t426)) (fun _ hk => hk.2) (.int .i64 t426)) (fun _ hk => hk.2) (.slice Ao14 t414.length co14)) (fun _ hk => trivial), IsS112.mi HI0, IsS112.ms HB, mk HK⟩
 rw [if_neg c5] at H
 have c5b0 : (t420 == 0) = false := beq_eq_false_iff_ne.mpr c5
 have c5b1 : (t420 != 0) = true := bne_iff_ne.mpr c5
 by_cases c24 : t420 = 1
 ·rw [if_pos c24] at H
  have c24b0 : (t420 == 1) = true := beq_iff_eq.mpr c24
  have c24b1 : (t420 != 1) = false := bne_eq_false_iff_eq.mpr c24
  clear c24
  obtain ⟨⟨t429, t430, t433, t434⟩, A250, H⟩ := Option.bind_eq_some_iff.mp H
  try dsimp only at H
  have A25 := Aside0.mk A250; clear A250
  by_cases c26 : t414.length < 4398046511104
  ·rw [if_pos c26] at H
   have LMc26 := Aside0.mk c26; clear c26
   obtain ⟨y435, hy435⟩ : ∃ y_ : List (S29), y_ = (t414 ++ [(⟨t429, t430⟩ : S29)]) := ⟨_, rfl⟩
   replace H : (some (t413, y435, t433, t434)) = some (r1, r2, r3, r4) := by first | (rw [hy435]; with_reducible exact H) | (have H2_ := (Option.bind_some _ _).symm.trans H; rw [hy435]; with_reducible exact H2_) | (have H2_ := (Option.bind_some _ _).symm.trans H; with_reducible exact H2_) | with_reducible exact H | (rw [hy435]; exact H) | exact H
   have Ny435 := Aside0.mk hy435; clear hy435
   simp only [Option.some.injEq, Prod.mk.injEq] at H
   obtain ⟨rfl, rfl, rfl, rfl⟩ := H
   go_enter Try.func71, Try.ntmps71
   try go_wp2_with (first | ((with_reducible refine gate_dst (N := 2) rfl ?_); refine box_event ?hg (N := 2) ?hd (cs := #[.int .i64 0, .slice none 0 0]) (t := 26) ?hr ?_; (case hd => rfl); (case hg => rfl); (case hr => first | (go_simp; done) | (go_simp; rfl)); intro gb409 hg w27 hbox hb; have n0_ := Aside0.mk (IsS112.below (IsS112.mi HI0) hb); have n1_ := Aside0.mk (KeepBut.trans (mk HK) (KeepBut.of_below hb g none) (.inl rfl)); have n2_ := Aside0.mk (below_step (IsS112.ms HB) hb); have n3_ := Aside0.mk (hbox); have n4_ := Aside0.mk ((by rw [hg]; exact (keep_size (w := w) (g := g) (row := none) (mk HK)) : w.heap.size ≤ gb409)); have n5_ := Aside0.mk ((Nat.le_trans HW0.out (by rw [hg]; exact (keep_size (w := w) (g := g) (row := none) (mk HK)) : w.heap.size ≤ gb409) : w0.heap.size ≤ gb409)); have n6_ := Aside0.mk ((by rw [hg]; exact Nat.ne_of_lt (IsS112.lt (show IsS112 w0 _ g s0_0 s0_1 s0_2 from IsS112.mi HI0)) : g ≠ gb409)); have n7_ := Aside0.mk ((by rw [hg]; exact Nat.ne_of_gt (IsS112.lt (show IsS112 w0 _ g s0_0 s0_1 s0_2 from IsS112.mi HI0)) : gb409 ≠ g)); clear HI0 HK HB; have HI0 := n0_; have HK := n1_; have HB := n2_; have BK409 := n3_; have GW409 := n4_; have GE409 := n5_; have NB0_409 := n6_; have NB409_0 := n7_; clear n0_ n1_ n2_ n3_ n4_ n5_ n6_ n7_; clear hb hbox hg) | ((with_reducible refine gate_callee (f := 116) rfl ?_); refine gl (some 7) rfl rfl Try.func116 (by kernel_rfl) rfl #[.pointer (some ⟨g, 0, none⟩), .int .i64 4] rfl ?_; (with_reducible refine (spec_l1Below.calls g s0_0 s0_1 s0_2 4 t410 t411 t412 w0 _ ?side1 ?side2 A2.out).mono ?_); (case side1 => exact IsS112.mi HI0); (case side2 => exact IsS112.ms HB); rintro e w28 ⟨rfl, hi, hb, hk⟩; refine ⟨_, rfl, ?_⟩; replace BK409 := Aside0.mk (KeepBut.blk hk (g' := gb409) (o := .cells #[.int .i64 0, .slice none 0 0] 26 (0, 0)) (mb BK409) NB409_0.out (by simp)); replace HK := Aside0.mk (KeepBut.trans (mk HK) hk (.inl rfl)); replace HB := Aside0.mk (hb); replace HI0 := Aside0.mk (hi); (try clear hb)) | ((with_reducible refine gate_callee (f := 115) rfl ?_); refine gl (some 8) rfl rfl Try.func115 (by kernel_rfl) rfl #[.pointer (some ⟨g, 0, none⟩), .int .i64 t410] rfl ?_; (with_reducible refine (spec_l6Draw.calls k g s0_0 t411 t412 t410 t413 t414 t417 t418 w0 _ ?side1 ?side2 A3.out).mono ?_); (case side1 => exact IsS112.mi HI0); (case side2 => exact IsS112.ms HB); rintro e w29 ⟨v415, rfl, ho0, hi, hb, hk⟩; refine ⟨_, rfl, ?_⟩; replace BK409 := Aside0.mk (KeepBut.blk hk (g' := gb409) (o := .cells #[.int .i64 0, .slice none 0 0] 26 (0, 0)) (mb BK409) NB409_0.out (by simp)); have HO416 := Aside0.mk (Kd.S_lower ho0 (keep_size (w := w) (g := g) (row := none) (mk HK))); replace HK := Aside0.mk (KeepBut.trans (mk HK) hk (.inl rfl)); replace HB := Aside0.mk (hb); replace HI0 := Aside0.mk (hi); (try clear hb); (try clear ho0)) | ((with_reducible refine gate_dst (N := 3) rfl ?_); refine box_event ?hg (N := 3) ?hd (cs := #[.int .i64 0, .slice none 0 0]) (t := 26) ?hr ?_; (case hd => rfl); (case hg => rfl); (case hr => first | (go_simp; done) | (go_simp; rfl)); intro gb419 hg w30 hbox hb; have n0_ := bS HO416 hb; have n1_ := Aside0.mk (IsS112.below (IsS112.mi HI0) hb); have n2_ := bb BK409 hb; have n3_ := Aside0.mk (KeepBut.trans (mk HK) (KeepBut.of_below hb g none) (.inl rfl)); have n4_ := Aside0.mk (below_step (IsS112.ms HB) hb); have n5_ := Aside0.mk (hbox); have n6_ := Aside0.mk ((by rw [hg]; exact (keep_size (w := w) (g := g) (row := none) (mk HK)) : w.heap.size ≤ gb419)); have n7_ := Aside0.mk ((Nat.le_trans HW0.out (by rw [hg]; exact (keep_size (w := w) (g := g) (row := none) (mk HK)) : w.heap.size ≤ gb419) : w0.heap.size ≤ gb419)); have n8_ := nl hg BK409; have n9_ := ng hg BK409; have n10_ := Aside0.mk ((by rw [hg]; exact Nat.ne_of_lt (IsS112.lt (show IsS112 w0 _ g s0_0 t417 t418 from IsS112.mi HI0)) : g ≠ gb419)); have n11_ := Aside0.mk ((by rw [hg]; exact Nat.ne_of_gt (IsS112.lt (show IsS112 w0 _ g s0_0 t417 t418 from IsS112.mi HI0)) : gb419 ≠ g)); clear HO416 HI0 BK409 HK HB; have HO416 := n0_; have HI0 := n1_; have BK409 := n2_; have HK := n3_; have HB := n4_; have BK419 := n5_; have GW419 := n6_; have GE419 := n7_; have NB409_419 := n8_; have NB419_409 := n9_; have NB0_419 := n10_; have NB419_0 := n11_; clear n0_ n1_ n2_ n3_ n4_ n5_ n6_ n7_ n8_ n9_ n10_ n11_; clear hb hbox hg; have := NB419_409.out; have := NB409_419.out; have := NB419_0.out; have := NB0_419.out; obtain ⟨hcz33_0, hcz33_1, hfz33_0, hfz33_1⟩ := cFour BK419; obtain ⟨Ao34, co34, eo34⟩ := Kd.S_slice HO416.out; subst eo34) | ((with_reducible refine gate_callee (f := 116) rfl ?_); refine gl (some 10) rfl rfl Try.func116 (by kernel_rfl) rfl #[.pointer (some ⟨g, 0, none⟩), .int .i64 16] rfl ?_; (with_reducible refine (spec_l1Below.calls g s0_0 t417 t418 16 t420 t421 t422 w0 _ ?side1 ?side2 A4.out).mono ?_); (case side1 => exact IsS112.mi HI0); (case side2 => exact IsS112.ms HB); rintro e w35 ⟨rfl, hi, hb, hk⟩; refine ⟨_, rfl, ?_⟩; have n0_ := Aside0.mk (KeepBut.blk hk (g' := gb409) (o := .cells #[.int .i64 0, .slice none 0 0] 26 (0, 0)) (mf BK409) NB409_0.out (by simp)); have n1_ := Aside0.mk (Kd.S_mono (Kd.S_keep (IsS112.apartS (show IsS112 w0 _ g s0_0 t417 t418 from IsS112.mi HI0) (by (with_reducible repeat (first | apply Kd.S_alloc | apply Kd.S_drewN | apply Kd.S_drew)); exact (Kd.S_mono (Kd.S_far (p := ⟨gb419, 1, none⟩) (Kd.S_far (p := ⟨gb419, 0, none⟩) (Kd.S_types HO416.out BK419.out (by decide)) (fun _ hk => hk.2) (.int .i64 t413)) (fun _ hk => hk.2) (.slice Ao34 t414.length co34)) (fun _ h_ => h_.1))) (by decide)) hk (fun _ h => h.2)) (fun _ h => h.1)); have n2_ := Aside0.mk (KeepBut.blk hk (g' := gb419) (o := .cells #[.int .i64 t413, .slice Ao34 t414.length co34] 26 (0, 0)) (mq BK419) NB419_0.out (by simp)); have n3_ := Aside0.mk (KeepBut.trans (mk HK) hk (.inl rfl)); have n4_ := Aside0.mk (hb); have n5_ := Aside0.mk (hi); clear BK409 HO416 BK419 HK HB HI0; have BK409 := n0_; have HO416 := n1_; have BK419 := n2_; have HK := n3_; have HB := n4_; have HI0 := n5_; clear n0_ n1_ n2_ n3_ n4_ n5_; (try clear hb)))
   replace HO416 := Aside0.mk (Kd.S_drew HO416.out)
   replace BK409 := Aside0.mk (blk_drew BK409.out)
   replace BK419 := Aside0.mk (blk_drew BK419.out)
   replace HI0 := Aside0.mk (IsS112.drew HI0.out)
   replace HK := Aside0.mk (keep_drew HK.out)
   replace HB := Aside0.mk (below_drew1 HB.out)
   refine start_ (n := 8) (S := fun w' => w'.cell? ⟨gb419, 0, none⟩ = some (.int .i64 t413) ∧ w'.cell? ⟨gb419, 1, none⟩ = some (.slice Ao34 t414.length co34)) (ds := [7]) #[false, false, false, false, false, false, false, false] (by kernel_rfl) rfl rfl ⟨(c2 BK419).1, (c2 BK419).2⟩ (fun hHeld => ?_); refine with_tabW spec_l6Bent.tab6 spec_l6Bent.bits6 (fun HT_ HW_ => ?_)
   generalize w35.drew = w36 at HO416 BK409 BK419 HI0 HK HB hHeld ⊢
   refine pu 0 (some 22) (v := ?_) (a' := ?_) #[true, false, false, false, false, false, false, false] rfl rfl HT_ (fun _ _ _ h => h) (by rfl) ?_ ?_ ?_
   rotate_left
   ·intro w'
    go_simp
    with_reducible rfl
   rotate_left
   ·simp only [Act.put, z1, z2, z3, i64_w, i32_w]
    rfl
   refine pu 2 (some 24) (v := ?_) (a' := ?_) #[true, false, true, false, false, false, false, false] rfl rfl HT_ (fun _ _ _ h => h) (by rfl) ?_ ?_ ?_
   rotate_left
   ·intro w'
    go_simp
    with_reducible rfl
   rotate_left
   ·simp only [Act.put, z1, z2, z3, i64_w, i32_w]
    rfl
   refine tk 1 (some 23) (v := ?_) (a' := ?_) #[true, true, true, false, false, false, false, false] rfl rfl HT_ HW_ (fun _ _ _ h => h) (by rfl) ?_ hHeld ?_ ?_
   rotate_left
   ·rintro w' ⟨s0, s1⟩
    go_simp
    with_reducible rfl
   rotate_left
   ·simp only [Act.put, z1, z2, z3, i64_w, i32_w]
    rfl
   refine one_ (i := 3) (N := some 25) #[true, true, true, true, false, false, false, false] rfl rfl (one_of HT_.out (by kernel_rfl)) (by decide) (fun K hK => ?_)
   refine gs Try.func118 (by kernel_rfl) rfl #[.pointer (some ⟨g, 0, none⟩)] (by rfl) rfl rfl ?_
   with_reducible refine (spec_l4Bent.calls k g s0_0 t421 t422 t429 t430 t433 t434 w0 _ ?side1 ?side2 A25.out).mono ?_
   (case side1 => exact IsS112.mi HI0)
   (case side2 => exact IsS112.ms HB)
   rintro e w37 ⟨v431, rfl, ho0, hi, hb, hk⟩
   refine ⟨_, rfl, ?_⟩
   replace BK409 := Aside0.mk (KeepBut.blk hk (g' := gb409) (o := .cells #[.int .i64 0, .slice none 0 0] 26 (0, 0)) (mb BK409) NB409_0.out (by simp))
   replace HO416 := Aside0.mk (Kd.S_mono (Kd.S_told (Kd.S_oldK (IsS112.apartS (show IsS112 w0 _ g s0_0 t421 t422 from IsS112.mi HI0) (mS HO416) (by decide)) hk) (Kd.R_base ho0)) (fun _ h_ => h_.1))
   replace BK419 := Aside0.mk (KeepBut.blk hk (g' := gb419) (o := .cells #[.int .i64 t413, .slice Ao34 t414.length co34] 26 (0, 0)) (mb BK419) NB419_0.out (by simp))
   have HO432 := Aside0.mk (Kd.R_lower ho0 (keep_size (w := w) (g := g) (row := none) (mk HK)))
   replace HK := Aside0.mk (KeepBut.trans (mk HK) hk (.inl rfl))
   replace HB := Aside0.mk (hb)
   replace HI0 := Aside0.mk (hi)
   (try clear hb)
   (try clear hb2)
   (try clear hk)
   (try clear hi)
   (try clear ho0)
   obtain ⟨Ao39, co39, eo39⟩ := Kd.R_slice HO432.out
   (first | subst eo39 | (injection eo39 with f1_ f2_ f3_; have f4_ := f1_.symm; have f5_ := f3_.symm; clear f1_ f2_ f3_; subst f4_; subst f5_))
   refine hK.out _ _ ⟨(c2 BK419).1, (c2 BK419).2⟩ (fun hHeld => ?_)
   clear hK K
   refine norm_ (a' := ?_) ?_ ?_
   rotate_left
   ·show Act.put _ (some 25) _ = _
    simp only [Act.put, z1, z2, z3, i64_w, i32_w]
    rfl
   refine one_ (i := 4) (N := some 26) #[true, true, true, true, true, false, false, false] rfl rfl (one_of HT_.out (by kernel_rfl)) (by decide) (fun K hK => ?_)
   refine value_ (w1 := ?_) (v := ?_) (by rfl) rfl ?_ ?_
   rotate_left 2
   ·go_simp
    constructor
    ·rfl
    rfl
   refine hK.out _ _ ⟨(blk_cell (blk_alloc BK419.out _) 0).trans rfl, (blk_cell (blk_alloc BK419.out _) 1).trans rfl⟩ (fun hHeld => ?_)
   clear hK K
   refine norm_ (a' := ?_) ?_ ?_
   rotate_left
   ·show Act.put _ (some 26) _ = _
    simp only [Act.put, z1, z2, z3, i64_w, i32_w]
    rfl
   refine one_ (i := 5) (N := some 27) #[true, true, true, true, true, true, false, false] rfl rfl (one_of HT_.out (by kernel_rfl)) (by decide) (fun K hK => ?_)
   refine Kd.S_append_step k29 w.heap.size (by rfl) (.tmp 23) (.tmp 26) 24 29 (.agg #[(.int .i64 0), (.slice none 0 0)]) 32 rfl Try.underlying24 info29 rfl (by decide) (by omega) (.slice Ao34 t414.length co34) t414 (⟨t429, t430⟩ : S29) [.int .i64 t429, .slice Ao39 t430.length co39] (fun _ => True) (fun k_ => some k_ = (.slice Ao39 t430.length co39 : Value).ownBlock) rfl rfl ?aP (fun k_ hk_ => ((Kd.R_mono (ok' := fun k_ => ((fun _ => True)) k_ ∧ some k_ ≠ (.slice Ao34 t414.length co34 : Value).ownBlock) (Kd.R_apart' (HO432.out) (Kd.S_typed HO416.out) (by decide)) (fun k_ hk => ⟨trivial, hk.2⟩))).1 k_ hk_.symm) ?aF ?aO (Below.refl _ _) ?aS ?aL ?_
   (case aP => exact k29_mkM _ _ _ (⟨t429, t430⟩ : S29) (Kd.R_mono (Kd.R_tight rfl (Kd.R_mono (ok' := fun k_ => ((fun _ => True)) k_ ∧ some k_ ≠ (.slice Ao34 t414.length co34 : Value).ownBlock) (Kd.R_apart' (HO432.out) (Kd.S_typed HO416.out) (by decide)) (fun k_ hk => ⟨trivial, hk.2⟩))) (fun _ h_ => h_)))
   (case aF => exact (fun _ _ => trivial))
   (case aO => exact (by (with_reducible repeat (first | apply Kd.S_alloc | apply Kd.S_drewN | apply Kd.S_drew)); exact Kd.S_mono HO416.out (fun k_ hk => ⟨trivial, fun e_ => hk.2 e_⟩)))
   (case aS => exact (keep_size (w := w) (g := g) (row := none) (mk HK)))
   (case aL => have := LMc26.out; omega)
   intro v436 w38 ho hb hg hat
   rw [← Ny435.out] at ho
   replace BK409 := Aside0.mk (blk_grown (g := gb409) (o := .cells #[.int .i64 0, .slice none 0 0] 26 (0, 0)) (mb BK409) hg (Kd.S_ne HO416.out BK409.out (by decide)))
   replace BK419 := Aside0.mk (blk_grown (g := gb419) (o := .cells #[.int .i64 t413, .slice Ao34 t414.length co34] 26 (0, 0)) (mb BK419) hg (Kd.S_ne HO416.out BK419.out (by decide)))
   replace HB := Aside0.mk (below_weaken (IsS112.ms HB) HL.out hb)
   replace HI0 := Aside0.mk (IsS112.grown (IsS112.mi HI0) hg (IsS112.own_neS HI0.out HO416.out (by decide)))
   replace HK := Aside0.mk (KeepBut.trans (mk HK) (KeepBut.of_grown hg g) (Kd.S_base2 HO416.out))
   have HO437 := Aside0.mk (ho)
   clear HO416 HO432 ho hb hg hat
   obtain ⟨Ao40, co40, eo40⟩ := Kd.S_slice HO437.out
   (first | subst eo40 | (injection eo40 with f1_ f2_ f3_; have f4_ := f1_.symm; have f5_ := f3_.symm; clear f1_ f2_ f3_; subst f4_; subst f5_))
   refine hK.out _ _ ⟨(c2 BK419).1, (c2 BK419).2⟩ (fun hHeld => ?_)
   clear hK K
   refine norm_ (a' := ?_) ?_ ?_
   rotate_left
   ·show Act.put _ (some 27) _ = _
    simp only [Act.put, z1, z2, z3, i64_w, i32_w]
    rfl
   refine pu 6 (some 28) (v := ?_) (a' := ?_) #[true, true, true, true, true, true, true, false] rfl rfl HT_ (fun _ _ _ h => h) (by rfl) ?_ ?_ ?_
   rotate_left
   ·intro w'
    go_simp
    with_reducible rfl
   rotate_left
   ·simp only [Act.put, z1, z2, z3, i64_w, i32_w]
    rfl
   refine last_ (i := 7) (N := none) #[true, true, true, true, true, true, true, true] rfl rfl (one_of HT_.out (by kernel_rfl)) (by decide) (fun K hK => ?_)
   have hs41 : w38.cell? ⟨gb419, 1, none⟩ = some (.slice Ao34 t414.length co34) := (blk_cell BK419.out 1).trans rfl
   have hfs41 := blk_frozen BK419.out 1
   have hns41_0 := NB409_419.out
   have hms41_0 := NB419_409.out
   refine skip_ (w1 := ?_) (by rfl) rfl ?_ ?_
   rotate_left
   ·go_simp
    rfl
   refine hK.out _ _ ?_
   clear hK K
   refine done_ (done_of HT_.out (by kernel_rfl)) ?_
   obtain ⟨hcz42_0, hcz42_1, hfz42_0, hfz42_1⟩ := cFour BK419
   have := NB409_0.out
   have := NB0_409.out
   obtain ⟨hcz44_0, hcz44_1, hfz44_0, hfz44_1⟩ := cFour BK409
   try go_wp2
   refine bodyPost_ret (results_cell_row rfl _ _ gb409 26 #[.int .i64 t413, .slice Ao40 y435.length co40] (0, 0) _ rfl (by (with_reducible repeat (first | refine blk_drewN ?_ _ | refine blk_drew ?_ | refine blk_alloc ?_ _)); refine blk_put (cs := #[.int .i64 t413, .slice none 0 0]) ?_ 1 _ rfl; (with_reducible repeat (first | refine blk_drewN ?_ _ | refine blk_drew ?_ | refine blk_alloc ?_ _)); refine blk_put (cs := #[.int .i64 0, .slice none 0 0]) ?_ 0 _ rfl; (with_reducible repeat (first | refine blk_drewN ?_ _ | refine blk_drew ?_ | refine blk_alloc ?_ _)); refine blk_far ?_ NB409_419.out _; (with_reducible repeat (first | refine blk_drewN ?_ _ | refine blk_drew ?_ | refine blk_alloc ?_ _)); exact BK409.out) Try.underlying26 rfl (by kernel_rfl)) rfl ?_
   exact ⟨_, by first | rfl | (simp [errW_none, errW_some] <;> rfl) | (simp [*, errW_none, errW_some] <;> rfl), by (with_reducible repeat (first | apply Kd.S_alloc | apply Kd.S_drewN | apply Kd.S_drew)); exact Kd.S_mono (Kd.S_far (p := ⟨gb409, 1, none⟩) (Kd.S_far (p := ⟨gb409, 0, none⟩) (Kd.S_far (p := ⟨gb419, 1, none⟩) (Kd.S_types (Kd.S_types HO437.out BK419.out (by decide)) BK409.out (by decide)) (fun _ hk => hk.1.2) (.slice Ao40 y435.length co40)) (fun _ hk => hk.2) (.int .i64 t413)) (fun _ hk => hk.2) (.slice Ao40 y435.length co40)) (fun _ hk => trivial), IsS112.mi HI0, IsS112.ms HB, mk HK⟩
  rw [if_neg c26] at H
  exact absurd H (by simp)
 rw [if_neg c24] at H
 have c24b0 : (t420 == 1) = false := beq_eq_false_iff_ne.mpr c24
 have c24b1 : (t420 != 1) = true := bne_iff_ne.mpr c24
 by_cases c45 : t420 = 2
 ·rw [if_pos c45] at H
  have c45b0 : (t420 == 2) = true := beq_iff_eq.mpr c45
  have c45b1 : (t420 != 2) = false := bne_eq_false_iff_eq.mpr c45
  clear c45
  have H' := Aside0.mk H
  clear H
  go_enter Try.func71, Try.ntmps71
  go_wp2_with (first | ((with_reducible refine gate_dst (N := 2) rfl ?_); refine box_event ?hg (N := 2) ?hd (cs := #[.int .i64 0, .slice none 0 0]) (t := 26) ?hr ?_; (case hd => rfl); (case hg => rfl); (case hr => first | (go_simp; done) | (go_simp; rfl)); intro gb409 hg w46 hbox hb; have n0_ := Aside0.mk (IsS112.below (IsS112.mi HI0) hb); have n1_ := Aside0.mk (KeepBut.trans (mk HK) (KeepBut.of_below hb g none) (.inl rfl)); have n2_ := Aside0.mk (below_step (IsS112.ms HB) hb); have n3_ := Aside0.mk (hbox); have n4_ := Aside0.mk ((by rw [hg]; exact (keep_size (w := w) (g := g) (row := none) (mk HK)) : w.heap.size ≤ gb409)); have n5_ := Aside0.mk ((Nat.le_trans HW0.out (by rw [hg]; exact (keep_size (w := w) (g := g) (row := none) (mk HK)) : w.heap.size ≤ gb409) : w0.heap.size ≤ gb409)); have n6_ := Aside0.mk ((by rw [hg]; exact Nat.ne_of_lt (IsS112.lt (show IsS112 w0 _ g s0_0 s0_1 s0_2 from IsS112.mi HI0)) : g ≠ gb409)); have n7_ := Aside0.mk ((by rw [hg]; exact Nat.ne_of_gt (IsS112.lt (show IsS112 w0 _ g s0_0 s0_1 s0_2 from IsS112.mi HI0)) : gb409 ≠ g)); clear HI0 HK HB; have HI0 := n0_; have HK := n1_; have HB := n2_; have BK409 := n3_; have GW409 := n4_; have GE409 := n5_; have NB0_409 := n6_; have NB409_0 := n7_; clear n0_ n1_ n2_ n3_ n4_ n5_ n6_ n7_; clear hb hbox hg) | ((with_reducible refine gate_callee (f := 116) rfl ?_); refine gl (some 7) rfl rfl Try.func116 (by kernel_rfl) rfl #[.pointer (some ⟨g, 0, none⟩), .int .i64 4] rfl ?_; (with_reducible refine (spec_l1Below.calls g s0_0 s0_1 s0_2 4 t410 t411 t412 w0 _ ?side1 ?side2 A2.out).mono ?_); (case side1 => exact IsS112.mi HI0); (case side2 => exact IsS112.ms HB); rintro e w47 ⟨rfl, hi, hb, hk⟩; refine ⟨_, rfl, ?_⟩; replace BK409 := Aside0.mk (KeepBut.blk hk (g' := gb409) (o := .cells #[.int .i64 0, .slice none 0 0] 26 (0, 0)) (mb BK409) NB409_0.out (by simp)); replace HK := Aside0.mk (KeepBut.trans (mk HK) hk (.inl rfl)); replace HB := Aside0.mk (hb); replace HI0 := Aside0.mk (hi); (try clear hb)) | ((with_reducible refine gate_callee (f := 115) rfl ?_); refine gl (some 8) rfl rfl Try.func115 (by kernel_rfl) rfl #[.pointer (some ⟨g, 0, none⟩), .int .i64 t410] rfl ?_; (with_reducible refine (spec_l6Draw.calls k g s0_0 t411 t412 t410 t413 t414 t417 t418 w0 _ ?side1 ?side2 A3.out).mono ?_); (case side1 => exact IsS112.mi HI0); (case side2 => exact IsS112.ms HB); rintro e w48 ⟨v415, rfl, ho0, hi, hb, hk⟩; refine ⟨_, rfl, ?_⟩; replace BK409 := Aside0.mk (KeepBut.blk hk (g' := gb409) (o := .cells #[.int .i64 0, .slice none 0 0] 26 (0, 0)) (mb BK409) NB409_0.out (by simp)); have HO416 := Aside0.mk (Kd.S_lower ho0 (keep_size (w := w) (g := g) (row := none) (mk HK))); replace HK := Aside0.mk (KeepBut.trans (mk HK) hk (.inl rfl)); replace HB := Aside0.mk (hb); replace HI0 := Aside0.mk (hi); (try clear hb); (try clear ho0)) | ((with_reducible refine gate_dst (N := 3) rfl ?_); refine box_event ?hg (N := 3) ?hd (cs := #[.int .i64 0, .slice none 0 0]) (t := 26) ?hr ?_; (case hd => rfl); (case hg => rfl); (case hr => first | (go_simp; done) | (go_simp; rfl)); intro gb419 hg w49 hbox hb; have n0_ := bS HO416 hb; have n1_ := Aside0.mk (IsS112.below (IsS112.mi HI0) hb); have n2_ := bb BK409 hb; have n3_ := Aside0.mk (KeepBut.trans (mk HK) (KeepBut.of_below hb g none) (.inl rfl)); have n4_ := Aside0.mk (below_step (IsS112.ms HB) hb); have n5_ := Aside0.mk (hbox); have n6_ := Aside0.mk ((by rw [hg]; exact (keep_size (w := w) (g := g) (row := none) (mk HK)) : w.heap.size ≤ gb419)); have n7_ := Aside0.mk ((Nat.le_trans HW0.out (by rw [hg]; exact (keep_size (w := w) (g := g) (row := none) (mk HK)) : w.heap.size ≤ gb419) : w0.heap.size ≤ gb419)); have n8_ := nl hg BK409; have n9_ := ng hg BK409; have n10_ := Aside0.mk ((by rw [hg]; exact Nat.ne_of_lt (IsS112.lt (show IsS112 w0 _ g s0_0 t417 t418 from IsS112.mi HI0)) : g ≠ gb419)); have n11_ := Aside0.mk ((by rw [hg]; exact Nat.ne_of_gt (IsS112.lt (show IsS112 w0 _ g s0_0 t417 t418 from IsS112.mi HI0)) : gb419 ≠ g)); clear HO416 HI0 BK409 HK HB; have HO416 := n0_; have HI0 := n1_; have BK409 := n2_; have HK := n3_; have HB := n4_; have BK419 := n5_; have GW419 := n6_; have GE419 := n7_; have NB409_419 := n8_; have NB419_409 := n9_; have NB0_419 := n10_; have NB419_0 := n11_; clear n0_ n1_ n2_ n3_ n4_ n5_ n6_ n7_ n8_ n9_ n10_ n11_; clear hb hbox hg; have := NB419_409.out; have := NB409_419.out; have := NB419_0.out; have := NB0_419.out; obtain ⟨hcz52_0, hcz52_1, hfz52_0, hfz52_1⟩ := cFour BK419; obtain ⟨Ao53, co53, eo53⟩ := Kd.S_slice HO416.out; subst eo53) | ((with_reducible refine gate_callee (f := 116) rfl ?_); refine gl (some 10) rfl rfl Try.func116 (by kernel_rfl) rfl #[.pointer (some ⟨g, 0, none⟩), .int .i64 16] rfl ?_; (with_reducible refine (spec_l1Below.calls g s0_0 t417 t418 16 t420 t421 t422 w0 _ ?side1 ?side2 A4.out).mono ?_); (case side1 => exact IsS112.mi HI0); (case side2 => exact IsS112.ms HB); rintro e w54 ⟨rfl, hi, hb, hk⟩; refine ⟨_, rfl, ?_⟩; have n0_ := Aside0.mk (KeepBut.blk hk (g' := gb409) (o := .cells #[.int .i64 0, .slice none 0 0] 26 (0, 0)) (mf BK409) NB409_0.out (by simp)); have n1_ := Aside0.mk (Kd.S_mono (Kd.S_keep (IsS112.apartS (show IsS112 w0 _ g s0_0 t417 t418 from IsS112.mi HI0) (by (with_reducible repeat (first | apply Kd.S_alloc | apply Kd.S_drewN | apply Kd.S_drew)); exact (Kd.S_mono (Kd.S_far (p := ⟨gb419, 1, none⟩) (Kd.S_far (p := ⟨gb419, 0, none⟩) (Kd.S_types HO416.out BK419.out (by decide)) (fun _ hk => hk.2) (.int .i64 t413)) (fun _ hk => hk.2) (.slice Ao53 t414.length co53)) (fun _ h_ => h_.1))) (by decide)) hk (fun _ h => h.2)) (fun _ h => h.1)); have n2_ := Aside0.mk (KeepBut.blk hk (g' := gb419) (o := .cells #[.int .i64 t413, .slice Ao53 t414.length co53] 26 (0, 0)) (mq BK419) NB419_0.out (by simp)); have n3_ := Aside0.mk (KeepBut.trans (mk HK) hk (.inl rfl)); have n4_ := Aside0.mk (hb); have n5_ := Aside0.mk (hi); clear BK409 HO416 BK419 HK HB HI0; have BK409 := n0_; have HO416 := n1_; have BK419 := n2_; have HK := n3_; have HB := n4_; have HI0 := n5_; clear n0_ n1_ n2_ n3_ n4_ n5_; (try clear hb)))
  go_loopg [4] k (fun kq v4 w' => ∃ (x4_1 : Int) (x420001_1 : List (S29)) (u420001 : Value), v4 = .int .i64 x4_1 ∧ Aside0 (spec_l6Bent.l0 kq x4_1 s0_0 t421 t422 t413 x420001_1 = some (r1, r2, r3, r4)) ∧ Aside0 (kq ≤ k) ∧ Aside0 (Kd.S k29 29 w' w.heap.size (fun _ => True) u420001 x420001_1) ∧ Aside0 (w'.heap[gb409]? = some (.cells #[.int .i64 0, (.slice none 0 0)] 26 (0, 0))) ∧ Aside0 (w'.heap[gb419]? = some (.cells #[.int .i64 t413, u420001] 26 (0, 0))) ∧ Aside0 (IsS112 w0 w' g s0_0 t421 t422) ∧ Aside0 (KeepBut w w' g none) ∧ Aside0 (Below w0.heap.size w0 w'))
  case atStart => exact ⟨(0), (t414), (.slice Ao53 t414.length co53), (by first | rfl | (simp; done) | (simp [*]; done)), H', ⟨Nat.le_refl _⟩, ⟨by (with_reducible repeat (first | apply Kd.S_alloc | apply Kd.S_drewN | apply Kd.S_drew)); exact HO416.out⟩, ⟨mb BK409⟩, ⟨mb BK419⟩, ⟨IsS112.mi HI0⟩, ⟨mk HK⟩, ⟨IsS112.ms HB⟩⟩
  case round =>
   clear H'
   try clear c1
   try clear c2
   try clear p2
   try clear c3
   try clear c4
   try clear c5
   try clear c5b0
   try clear c5b1
   try clear p6
   try clear c7
   try clear c11
   try clear c12
   try clear c22
   try clear c24
   try clear c24b0
   try clear c24b1
   try clear c26
   try clear c31
   try clear c32
   try clear c43
   try clear c45
   try clear c45b0
   try clear c45b1
   try clear c50
   try clear c51
   try clear hcz13_0
   try clear hcz13_1
   try clear hcz16_0
   try clear hcz16_1
   try clear hcz21_0
   try clear hcz21_1
   try clear hcz23_0
   try clear hcz23_1
   try clear hcz33_0
   try clear hcz33_1
   try clear hcz42_0
   try clear hcz42_1
   try clear hcz44_0
   try clear hcz44_1
   try clear hcz52_0
   try clear hcz52_1
   try clear hfz13_0
   try clear hfz13_1
   try clear hfz16_0
   try clear hfz16_1
   try clear hfz21_0
   try clear hfz21_1
   try clear hfz23_0
   try clear hfz23_1
   try clear hfz33_0
   try clear hfz33_1
   try clear hfz42_0
   try clear hfz42_1
   try clear hfz44_0
   try clear hfz44_1
   try clear hfz52_0
   try clear hfz52_1
   obtain ⟨x4_1, x420001_1, u420001, rfl, HA, HK1, HO_420001, BK409, BK419, HI0, HK, HB⟩ := hrel
   cases gk with
   | zero => exact absurd HA.out (by simp [spec_l6Bent.l0])
   | succ k1 =>
    have H := HA.out
    clear HA
    simp only [spec_l6Bent.l0] at H
    by_cases c55 : x4_1 < 20
    ·rw [if_pos c55] at H
     have c55b0 : decide (x4_1 < 20) = true := decide_eq_true c55
     clear c55
     obtain ⟨⟨t438, t439⟩, A560, H⟩ := Option.bind_eq_some_iff.mp H
     try dsimp only at H
     have A56 := Aside0.mk A560; clear A560
     by_cases c57 : x420001_1.length < 4398046511104
     ·rw [if_pos c57] at H
      have LMc57 := Aside0.mk c57; clear c57
      obtain ⟨y442, hy442⟩ : ∃ y_ : List (S29), y_ = (x420001_1 ++ [(⟨t438, t439⟩ : S29)]) := ⟨_, rfl⟩
      replace H : (spec_l6Bent.l0 k1 (wrap64 (x4_1 + 1)) s0_0 t421 t422 t413 y442) = some (r1, r2, r3, r4) := by first | (rw [hy442]; with_reducible exact H) | (have H2_ := (Option.bind_some _ _).symm.trans H; rw [hy442]; with_reducible exact H2_) | (have H2_ := (Option.bind_some _ _).symm.trans H; with_reducible exact H2_) | with_reducible exact H | (rw [hy442]; exact H) | exact H
      have Ny442 := Aside0.mk hy442; clear hy442
      have H' := Aside0.mk H
      clear H
      try go_wp2
      replace HO_420001 := Aside0.mk (Kd.S_drew HO_420001.out)
      replace BK409 := Aside0.mk (blk_drew BK409.out)
      replace BK419 := Aside0.mk (blk_drew BK419.out)
      replace HI0 := Aside0.mk (IsS112.drew HI0.out)
      replace HK := Aside0.mk (keep_drew HK.out)
      replace HB := Aside0.mk (below_drew1 HB.out)
      refine start_ (n := 9) (S := fun w' => w'.cell? ⟨gb419, 0, none⟩ = some (.int .i64 t413) ∧ w'.cell? ⟨gb419, 1, none⟩ = some (u420001)) (ds := [8]) #[false, false, false, false, false, false, false, false, false] (by kernel_rfl) rfl rfl ⟨(c2 BK419).1, (c2 BK419).2⟩ (fun hHeld => ?_); refine with_tabW spec_l6Bent.tab11 spec_l6Bent.bits11 (fun HT_ HW_ => ?_)
      generalize wr.drew = w58 at HO_420001 BK409 BK419 HI0 HK HB hHeld ⊢
      refine pu 0 (some 35) (v := ?_) (a' := ?_) #[true, false, false, false, false, false, false, false, false] rfl rfl HT_ (fun _ _ _ h => h) (by rfl) ?_ ?_ ?_
      rotate_left
      ·intro w'
       go_simp
       with_reducible rfl
      rotate_left
      ·simp only [Act.put, z1, z2, z3, i64_w, i32_w]
       rfl
      refine pu 2 (some 37) (v := ?_) (a' := ?_) #[true, false, true, false, false, false, false, false, false] rfl rfl HT_ (fun _ _ _ h => h) (by rfl) ?_ ?_ ?_
      rotate_left
      ·intro w'
       go_simp
       with_reducible rfl
      rotate_left
      ·simp only [Act.put, z1, z2, z3, i64_w, i32_w]
       rfl
      refine tk 1 (some 36) (v := ?_) (a' := ?_) #[true, true, true, false, false, false, false, false, false] rfl rfl HT_ HW_ (fun _ _ _ h => h) (by rfl) ?_ hHeld ?_ ?_
      rotate_left
      ·rintro w' ⟨s0, s1⟩
       go_simp
       with_reducible rfl
      rotate_left
      ·simp only [Act.put, z1, z2, z3, i64_w, i32_w]
       rfl
      refine tk 3 (some 38) (v := ?_) (a' := ?_) #[true, true, true, true, false, false, false, false, false] rfl rfl HT_ HW_ (fun _ _ _ h => h) (by rfl) ?_ hHeld ?_ ?_
      rotate_left
      ·rintro w' ⟨s0, s1⟩
       go_simp
       with_reducible rfl
      rotate_left
      ·simp only [Act.put, z1, z2, z3, i64_w, i32_w]
       rfl
      refine one_ (i := 4) (N := some 39) #[true, true, true, true, true, false, false, false, false] rfl rfl (one_of HT_.out (by kernel_rfl)) (by decide) (fun K hK => ?_)
      refine gs Try.func82 (by kernel_rfl) rfl #[.int .i64 1, .int .i64 t413] (by rfl) rfl rfl ?_
      with_reducible refine (spec_ConstLin.calls 1 t413 t438 t439 _ A56.out).mono ?_
      rintro e w59 ⟨v440, rfl, ho0, hb⟩
      refine ⟨_, rfl, ?_⟩
      replace HO_420001 := lS HO_420001 ho0 hb
      have HO441 := Aside0.mk (Kd.R_lower ho0 (keep_size (w := w) (g := g) (row := none) (mk HK)))
      replace BK409 := bb BK409 hb
      replace BK419 := bb BK419 hb
      replace HK := Aside0.mk (KeepBut.trans (mk HK) (KeepBut.of_below hb g none) (.inl rfl))
      replace HB := Aside0.mk (below_step (IsS112.ms HB) hb)
      replace HI0 := Aside0.mk (IsS112.below (IsS112.mi HI0) hb)
      (try clear hb)
      (try clear hb2)
      (try clear hk)
      (try clear hi)
      (try clear ho0)
      obtain ⟨Ao61, co61, eo61⟩ := Kd.R_slice HO441.out
      (first | subst eo61 | (injection eo61 with f1_ f2_ f3_; have f4_ := f1_.symm; have f5_ := f3_.symm; clear f1_ f2_ f3_; subst f4_; subst f5_))
      refine hK.out _ _ ⟨(c2 BK419).1, (c2 BK419).2⟩ (fun hHeld => ?_)
      clear hK K
      refine norm_ (a' := ?_) ?_ ?_
      rotate_left
      ·show Act.put _ (some 39) _ = _
       simp only [Act.put, z1, z2, z3, i64_w, i32_w]
       rfl
      refine one_ (i := 5) (N := some 40) #[true, true, true, true, true, true, false, false, false] rfl rfl (one_of HT_.out (by kernel_rfl)) (by decide) (fun K hK => ?_)
      refine value_ (w1 := ?_) (v := ?_) (by rfl) rfl ?_ ?_
      rotate_left 2
      ·go_simp
       constructor
       ·rfl
       rfl
      refine hK.out _ _ ⟨(blk_cell (blk_alloc BK419.out _) 0).trans rfl, (blk_cell (blk_alloc BK419.out _) 1).trans rfl⟩ (fun hHeld => ?_)
      clear hK K
      refine norm_ (a' := ?_) ?_ ?_
      rotate_left
      ·show Act.put _ (some 40) _ = _
       simp only [Act.put, z1, z2, z3, i64_w, i32_w]
       rfl
      refine one_ (i := 6) (N := some 41) #[true, true, true, true, true, true, true, false, false] rfl rfl (one_of HT_.out (by kernel_rfl)) (by decide) (fun K hK => ?_)
      refine Kd.S_append_step k29 w.heap.size (by rfl) (.tmp 36) (.tmp 40) 24 29 (.agg #[(.int .i64 0), (.slice none 0 0)]) 32 rfl Try.underlying24 info29 rfl (by decide) (by omega) u420001 x420001_1 (⟨t438, t439⟩ : S29) [.int .i64 t438, .slice Ao61 t439.length co61] (fun _ => True) (fun k_ => some k_ = (.slice Ao61 t439.length co61 : Value).ownBlock) rfl rfl ?aP (fun k_ hk_ => ((Kd.R_mono (ok' := fun k_ => ((fun _ => True)) k_ ∧ some k_ ≠ (u420001 : Value).ownBlock) (Kd.R_apart' (HO441.out) (Kd.S_typed HO_420001.out) (by decide)) (fun k_ hk => ⟨trivial, hk.2⟩))).1 k_ hk_.symm) ?aF ?aO (Below.refl _ _) ?aS ?aL ?_
      (case aP => exact k29_mkM _ _ _ (⟨t438, t439⟩ : S29) (Kd.R_mono (Kd.R_tight rfl (Kd.R_mono (ok' := fun k_ => ((fun _ => True)) k_ ∧ some k_ ≠ (u420001 : Value).ownBlock) (Kd.R_apart' (HO441.out) (Kd.S_typed HO_420001.out) (by decide)) (fun k_ hk => ⟨trivial, hk.2⟩))) (fun _ h_ => h_)))
      (case aF => exact (fun _ _ => trivial))
      (case aO => exact (by (with_reducible repeat (first | apply Kd.S_alloc | apply Kd.S_drewN | apply Kd.S_drew)); exact Kd.S_mono HO_420001.out (fun k_ hk => ⟨trivial, fun e_ => hk.2 e_⟩)))
      (case aS => exact (keep_size (w := w) (g := g) (row := none) (mk HK)))
      (case aL => have := LMc57.out; omega)
      intro v443 w60 ho hb hg hat
      rw [← Ny442.out] at ho
      replace BK409 := Aside0.mk (blk_grown (g := gb409) (o := .cells #[.int .i64 0, .slice none 0 0] 26 (0, 0)) (mb BK409) hg (Kd.S_ne HO_420001.out BK409.out (by decide)))
      replace BK419 := Aside0.mk (blk_grown (g := gb419) (o := .cells #[.int .i64 t413, u420001] 26 (0, 0)) (mb BK419) hg (Kd.S_ne HO_420001.out BK419.out (by decide)))
      replace HB := Aside0.mk (below_weaken (IsS112.ms HB) HL.out hb)
      replace HI0 := Aside0.mk (IsS112.grown (IsS112.mi HI0) hg (IsS112.own_neS HI0.out HO_420001.out (by decide)))
      replace HK := Aside0.mk (KeepBut.trans (mk HK) (KeepBut.of_grown hg g) (Kd.S_base2 HO_420001.out))
      have HO444 := Aside0.mk (ho)
      clear HO_420001 HO441 ho hb hg hat
      obtain ⟨Ao62, co62, eo62⟩ := Kd.S_slice HO444.out
      (first | subst eo62 | (injection eo62 with f1_ f2_ f3_; have f4_ := f1_.symm; have f5_ := f3_.symm; clear f1_ f2_ f3_; subst f4_; subst f5_))
      refine hK.out _ _ ⟨(c2 BK419).1, (c2 BK419).2⟩ (fun hHeld => ?_)
      clear hK K
      refine norm_ (a' := ?_) ?_ ?_
      rotate_left
      ·show Act.put _ (some 41) _ = _
       simp only [Act.put, z1, z2, z3, i64_w, i32_w]
       rfl
      refine pu 7 (some 42) (v := ?_) (a' := ?_) #[true, true, true, true, true, true, true, true, false] rfl rfl HT_ (fun _ _ _ h => h) (by rfl) ?_ ?_ ?_
      rotate_left
      ·intro w'
       go_simp
       with_reducible rfl
      rotate_left
      ·simp only [Act.put, z1, z2, z3, i64_w, i32_w]
       rfl
      refine last_ (i := 8) (N := none) #[true, true, true, true, true, true, true, true, true] rfl rfl (one_of HT_.out (by kernel_rfl)) (by decide) (fun K hK => ?_)
      have hs63 : w60.cell? ⟨gb419, 1, none⟩ = some (u420001) := (blk_cell BK419.out 1).trans rfl
      have hfs63 := blk_frozen BK419.out 1
      have hns63_0 := NB409_419.out
      have hms63_0 := NB419_409.out
      refine skip_ (w1 := ?_) (by rfl) rfl ?_ ?_
      rotate_left
      ·go_simp
       rfl
      refine hK.out _ _ ?_
      clear hK K
      refine done_ (done_of HT_.out (by kernel_rfl)) ?_
      try go_wp2
      go_roundg k1
      case measure => have := HK1.out; omega
      case rel => exact ⟨(wrap64 (x4_1 + 1)), (y442), (.slice Ao62 y442.length co62), (by first | rfl | (simp; done) | (simp [*]; done)), H', ⟨by have := HK1.out; omega⟩, ⟨by (with_reducible repeat (first | apply Kd.S_alloc | apply Kd.S_drewN | apply Kd.S_drew)); exact Kd.S_mono (Kd.S_far (p := ⟨gb419, 1, none⟩) (Kd.S_types HO444.out BK419.out (by decide)) (fun _ hk => hk.2) (.slice Ao62 y442.length co62)) (fun _ hk => trivial)⟩, ⟨mf BK409⟩, ⟨by (with_reducible repeat (first | refine blk_drewN ?_ _ | refine blk_drew ?_ | refine blk_alloc ?_ _)); refine blk_put (cs := #[.int .i64 t413, u420001]) ?_ 1 _ rfl; (with_reducible repeat (first | refine blk_drewN ?_ _ | refine blk_drew ?_ | refine blk_alloc ?_ _)); exact BK419.out⟩, ⟨IsS112.mi HI0⟩, ⟨mk HK⟩, ⟨IsS112.ms HB⟩⟩
     rw [if_neg c57] at H
     exact absurd H (by simp)
    rw [if_neg c55] at H
    have c55b0 : decide (x4_1 < 20) = false := decide_eq_false c55
    clear c55
    simp only [Option.some.injEq, Prod.mk.injEq] at H
    obtain ⟨rfl, rfl, rfl, rfl⟩ := H
    have := NB419_409.out
    have := NB409_419.out
    have := NB419_0.out
    have := NB0_419.out
    obtain ⟨_, _, _, _⟩ := cFour BK419
    have := NB409_0.out
    have := NB0_409.out
    obtain ⟨_, _, _, _⟩ := cFour BK409
    obtain ⟨Ao69, co69, eo69⟩ := Kd.S_slice HO_420001.out
    subst eo69
    go_wp2
    refine bodyPost_ret (results_cell_row rfl _ _ gb409 26 #[.int .i64 t413, .slice Ao69 x420001_1.length co69] (0, 0) _ rfl (mq BK409) Try.underlying26 rfl (by kernel_rfl)) rfl ?_
    exact ⟨_, by first | rfl | (simp [errW_none, errW_some] <;> rfl) | (simp [*, errW_none, errW_some] <;> rfl), by (with_reducible repeat (first | apply Kd.S_alloc | apply Kd.S_drewN | apply Kd.S_drew)); exact Kd.S_mono (Kd.S_far (p := ⟨gb409, 1, none⟩) (Kd.S_far (p := ⟨gb409, 0, none⟩) (Kd.S_types HO_420001.out BK409.out (by decide)) (fun _ hk => hk.2) (.int .i64 t413)) (fun _ hk => hk.2) (.slice Ao69 x420001_1.length co69)) (fun _ hk => trivial), IsS112.mi HI0, IsS112.ms HB, mk HK⟩
 rw [if_neg c45] at H
 have c45b0 : (t420 == 2) = false := beq_eq_false_iff_ne.mpr c45
 have c45b1 : (t420 != 2) = true := bne_iff_ne.mpr c45
 simp only [Option.some.injEq, Prod.mk.injEq] at H
 obtain ⟨rfl, rfl, rfl, rfl⟩ := H
 go_enter Try.func71, Try.ntmps71
 go_wp2_with (first | ((with_reducible refine gate_dst (N := 2) rfl ?_); refine box_event ?hg (N := 2) ?hd (cs := #[.int .i64 0, .slice none 0 0]) (t := 26) ?hr ?_; (case hd => rfl); (case hg => rfl); (case hr => first | (go_simp; done) | (go_simp; rfl)); intro gb409 hg w70 hbox hb; have n0_ := Aside0.mk (IsS112.below (IsS112.mi HI0) hb); have n1_ := Aside0.mk (KeepBut.trans (mk HK) (KeepBut.of_below hb g none) (.inl rfl)); have n2_ := Aside0.mk (below_step (IsS112.ms HB) hb); have n3_ := Aside0.mk (hbox); have n4_ := Aside0.mk ((by rw [hg]; exact (keep_size (w := w) (g := g) (row := none) (mk HK)) : w.heap.size ≤ gb409)); have n5_ := Aside0.mk ((Nat.le_trans HW0.out (by rw [hg]; exact (keep_size (w := w) (g := g) (row := none) (mk HK)) : w.heap.size ≤ gb409) : w0.heap.size ≤ gb409)); have n6_ := Aside0.mk ((by rw [hg]; exact Nat.ne_of_lt (IsS112.lt (show IsS112 w0 _ g s0_0 s0_1 s0_2 from IsS112.mi HI0)) : g ≠ gb409)); have n7_ := Aside0.mk ((by rw [hg]; exact Nat.ne_of_gt (IsS112.lt (show IsS112 w0 _ g s0_0 s0_1 s0_2 from IsS112.mi HI0)) : gb409 ≠ g)); clear HI0 HK HB; have HI0 := n0_; have HK := n1_; have HB := n2_; have BK409 := n3_; have GW409 := n4_; have GE409 := n5_; have NB0_409 := n6_; have NB409_0 := n7_; clear n0_ n1_ n2_ n3_ n4_ n5_ n6_ n7_; clear hb hbox hg) | ((with_reducible refine gate_callee (f := 116) rfl ?_); refine gl (some 7) rfl rfl Try.func116 (by kernel_rfl) rfl #[.pointer (some ⟨g, 0, none⟩), .int .i64 4] rfl ?_; (with_reducible refine (spec_l1Below.calls g s0_0 s0_1 s0_2 4 t410 t411 t412 w0 _ ?side1 ?side2 A2.out).mono ?_); (case side1 => exact IsS112.mi HI0); (case side2 => exact IsS112.ms HB); rintro e w71 ⟨rfl, hi, hb, hk⟩; refine ⟨_, rfl, ?_⟩; replace BK409 := Aside0.mk (KeepBut.blk hk (g' := gb409) (o := .cells #[.int .i64 0, .slice none 0 0] 26 (0, 0)) (mb BK409) NB409_0.out (by simp)); replace HK := Aside0.mk (KeepBut.trans (mk HK) hk (.inl rfl)); replace HB := Aside0.mk (hb); replace HI0 := Aside0.mk (hi); (try clear hb)) | ((with_reducible refine gate_callee (f := 115) rfl ?_); refine gl (some 8) rfl rfl Try.func115 (by kernel_rfl) rfl #[.pointer (some ⟨g, 0, none⟩), .int .i64 t410] rfl ?_; (with_reducible refine (spec_l6Draw.calls k g s0_0 t411 t412 t410 t413 t414 t417 t418 w0 _ ?side1 ?side2 A3.out).mono ?_); (case side1 => exact IsS112.mi HI0); (case side2 => exact IsS112.ms HB); rintro e w72 ⟨v415, rfl, ho0, hi, hb, hk⟩; refine ⟨_, rfl, ?_⟩; replace BK409 := Aside0.mk (KeepBut.blk hk (g' := gb409) (o := .cells #[.int .i64 0, .slice none 0 0] 26 (0, 0)) (mb BK409) NB409_0.out (by simp)); have HO416 := Aside0.mk (Kd.S_lower ho0 (keep_size (w := w) (g := g) (row := none) (mk HK))); replace HK := Aside0.mk (KeepBut.trans (mk HK) hk (.inl rfl)); replace HB := Aside0.mk (hb); replace HI0 := Aside0.mk (hi); (try clear hb); (try clear ho0)) | ((with_reducible refine gate_dst (N := 3) rfl ?_); refine box_event ?hg (N := 3) ?hd (cs := #[.int .i64 0, .slice none 0 0]) (t := 26) ?hr ?_; (case hd => rfl); (case hg => rfl); (case hr => first | (go_simp; done) | (go_simp; rfl)); intro gb419 hg w73 hbox hb; have n0_ := bS HO416 hb; have n1_ := Aside0.mk (IsS112.below (IsS112.mi HI0) hb); have n2_ := bb BK409 hb; have n3_ := Aside0.mk (KeepBut.trans (mk HK) (KeepBut.of_below hb g none) (.inl rfl)); have n4_ := Aside0.mk (below_step (IsS112.ms HB) hb); have n5_ := Aside0.mk (hbox); have n6_ := Aside0.mk ((by rw [hg]; exact (keep_size (w := w) (g := g) (row := none) (mk HK)) : w.heap.size ≤ gb419)); have n7_ := Aside0.mk ((Nat.le_trans HW0.out (by rw [hg]; exact (keep_size (w := w) (g := g) (row := none) (mk HK)) : w.heap.size ≤ gb419) : w0.heap.size ≤ gb419)); have n8_ := nl hg BK409; have n9_ := ng hg BK409; have n10_ := Aside0.mk ((by rw [hg]; exact Nat.ne_of_lt (IsS112.lt (show IsS112 w0 _ g s0_0 t417 t418 from IsS112.mi HI0)) : g ≠ gb419)); have n11_ := Aside0.mk ((by rw [hg]; exact Nat.ne_of_gt (IsS112.lt (show IsS112 w0 _ g s0_0 t417 t418 from IsS112.mi HI0)) : gb419 ≠ g)); clear HO416 HI0 BK409 HK HB; have HO416 := n0_; have HI0 := n1_; have BK409 := n2_; have HK := n3_; have HB := n4_; have BK419 := n5_; have GW419 := n6_; have GE419 := n7_; have NB409_419 := n8_; have NB419_409 := n9_; have NB0_419 := n10_; have NB419_0 := n11_; clear n0_ n1_ n2_ n3_ n4_ n5_ n6_ n7_ n8_ n9_ n10_ n11_; clear hb hbox hg; have := NB419_409.out; have := NB409_419.out; have := NB419_0.out; have := NB0_419.out; obtain ⟨_, _, _, _⟩ := cFour BK419; obtain ⟨Ao77, co77, eo77⟩ := Kd.S_slice HO416.out; subst eo77) | ((with_reducible refine gate_callee (f := 116) rfl ?_); refine gl (some 10) rfl rfl Try.func116 (by kernel_rfl) rfl #[.pointer (some ⟨g, 0, none⟩), .int .i64 16] rfl ?_; (with_reducible refine (spec_l1Below.calls g s0_0 t417 t418 16 t420 t421 t422 w0 _ ?side1 ?side2 A4.out).mono ?_); (case side1 => exact IsS112.mi HI0); (case side2 => exact IsS112.ms HB); rintro e w78 ⟨rfl, hi, hb, hk⟩; refine ⟨_, rfl, ?_⟩; have n0_ := Aside0.mk (KeepBut.blk hk (g' := gb409) (o := .cells #[.int .i64 0, .slice none 0 0] 26 (0, 0)) (mf BK409) NB409_0.out (by simp)); have n1_ := Aside0.mk (Kd.S_mono (Kd.S_keep (IsS112.apartS (show IsS112 w0 _ g s0_0 t417 t418 from IsS112.mi HI0) (by (with_reducible repeat (first | apply Kd.S_alloc | apply Kd.S_drewN | apply Kd.S_drew)); exact (Kd.S_mono (Kd.S_far (p := ⟨gb419, 1, none⟩) (Kd.S_far (p := ⟨gb419, 0, none⟩) (Kd.S_types HO416.out BK419.out (by decide)) (fun _ hk => hk.2) (.int .i64 t413)) (fun _ hk => hk.2) (.slice Ao77 t414.length co77)) (fun _ h_ => h_.1))) (by decide)) hk (fun _ h => h.2)) (fun _ h => h.1)); have n2_ := Aside0.mk (KeepBut.blk hk (g' := gb419) (o := .cells #[.int .i64 t413, .slice Ao77 t414.length co77] 26 (0, 0)) (mq BK419) NB419_0.out (by simp)); have n3_ := Aside0.mk (KeepBut.trans (mk HK) hk (.inl rfl)); have n4_ := Aside0.mk (hb); have n5_ := Aside0.mk (hi); clear BK409 HO416 BK419 HK HB HI0; have BK409 := n0_; have HO416 := n1_; have BK419 := n2_; have HK := n3_; have HB := n4_; have HI0 := n5_; clear n0_ n1_ n2_ n3_ n4_ n5_; (try clear hb); obtain ⟨_, _, _, _⟩ := cFour BK419; have := NB409_0.out; have := NB0_409.out; obtain ⟨_, _, _, _⟩ := cFour BK409))
 refine bodyPost_ret (results_cell_row rfl _ _ gb409 26 #[.int .i64 t413, .slice Ao77 t414.length co77] (0, 0) _ rfl (mq BK409) Try.underlying26 rfl (by kernel_rfl)) rfl ?_
 exact ⟨_, by first | rfl | (simp [errW_none, errW_some] <;> rfl) | (simp [*, errW_none, errW_some] <;> rfl), by (with_reducible repeat (first | apply Kd.S_alloc | apply Kd.S_drewN | apply Kd.S_drew)); exact Kd.S_mono (Kd.S_far (p := ⟨gb409, 1, none⟩) (Kd.S_far (p := ⟨gb409, 0, none⟩) (Kd.S_types HO416.out BK409.out (by decide)) (fun _ hk => hk.2) (.int .i64 t413)) (fun _ hk => hk.2) (.slice Ao77 t414.length co77)) (fun _ hk => trivial), IsS112.mi HI0, IsS112.ms HB, mk HK⟩

/-! ### spec_l1Once: function 102 -/
def spec_l1Once.f (s0_0 : List Int) (s0_1 : Int) (s0_2 : Int) (a1 : Int) : Option (Bool × Int × Int) := (spec_l1Below.f s0_0 s0_1 s0_2 a1).bind fun bt445 => (some ((bt445.1 == 0), bt445.2.1, bt445.2.2))
set_option maxHeartbeats 8000000 in
set_option maxRecDepth 100000 in
theorem spec_l1Once.calls (g : Nat) (s0_0 : List Int) (s0_1 : Int) (s0_2 : Int) (a1 : Int) (r1 : Bool) (r2 : Int) (r3 : Int) (w0 w : World) (hI : IsS112 w0 w g s0_0 s0_1 s0_2) (hB : Below w0.heap.size w0 w) (h : spec_l1Once.f s0_0 s0_1 s0_2 a1 = some (r1, r2, r3)) :
  Calls Try.prog 102 #[.pointer (some ⟨g, 0, none⟩), .int .i64 a1] w fun e w' => e = .returned (.bool r1) ∧ IsS112 w0 w' g s0_0 r2 r3 ∧ Below w0.heap.size w0 w' ∧ KeepBut w w' g none := by
 have HI0 := Aside0.mk hI
 have HK := Aside0.mk (KeepBut.refl w g none)
 have HL := Aside0.mk hB.size
 clear hI
 have HW0 := Aside0.mk hB.size
 have HB := Aside0.mk hB; clear hB
 have H : ((spec_l1Below.f s0_0 s0_1 s0_2 a1).bind fun bt445 => (some ((bt445.1 == 0), bt445.2.1, bt445.2.2))) = some (r1, r2, r3) := h
 clear h
 obtain ⟨⟨t445, t446, t447⟩, A30, H⟩ := Option.bind_eq_some_iff.mp H
 try dsimp only at H
 have A3 := Aside0.mk A30; clear A30
 simp only [Option.some.injEq, Prod.mk.injEq] at H
 obtain ⟨rfl, rfl, rfl⟩ := H
 go_enter Try.func102, Try.ntmps102
 go_wp2_with (((with_reducible refine gate_callee (f := 116) rfl ?_); refine gl (some 7) rfl rfl Try.func116 (by kernel_rfl) rfl #[.pointer (some ⟨g, 0, none⟩), .int .i64 a1] rfl ?_; (with_reducible refine (spec_l1Below.calls g s0_0 s0_1 s0_2 a1 t445 t446 t447 w0 _ ?side1 ?side2 A3.out).mono ?_); (case side1 => exact IsS112.mi HI0); (case side2 => exact IsS112.ms HB); rintro e w4 ⟨rfl, hi, hb, hk⟩; refine ⟨_, rfl, ?_⟩; replace HK := Aside0.mk (KeepBut.trans (mk HK) hk (.inl rfl)); replace HB := Aside0.mk (hb); replace HI0 := Aside0.mk (hi); (try clear hb)))
 go_ret
 exact ⟨by first | rfl | (simp [errW_none, errW_some] <;> rfl) | (simp [*, errW_none, errW_some] <;> rfl), IsS112.mi HI0, IsS112.ms HB, mk HK⟩

/-! ### spec_l7Mult: function 119 -/
def spec_l7Mult.l0 : Nat → Int → List Int → Int → List Int → Int → Int → Option (List Int × Int × Int)
 | 0, _, _, _, _, _, _ => none
 | k + 1, x1, x5, x6, x1000, x1001, x1002 => if x6 < x1 then ((spec_l1PickInt.f x1000 x1001 x1002 (([0, 0, 1, 1, 2] : List Int))).bind fun bt454 => (if x5.length < 17592186044416 then (spec_l7Mult.l0 k x1 (x5 ++ [bt454.1]) (wrap64 (x6 + 1)) x1000 bt454.2.1 bt454.2.2) else (none))) else (if x1 > 0 then ((spec_l1Once.f x1000 x1001 x1002 12).bind fun bt460 => (if bt460.1 = true then ((spec_l1PickInt.f x1000 bt460.2.1 bt460.2.2 (([(-1), 1000000000, 1000000001] : List Int))).bind fun bt466 => (if 0 < (x5.length : Int) then (some ((x5.set (0 : Int).toNat bt466.1), bt466.2.1, bt466.2.2)) else (none))) else (some (x5, bt460.2.1, bt460.2.2)))) else (some (x5, x1001, x1002)))
def spec_l7Mult.f (k : Nat) (s0_0 : List Int) (s0_1 : Int) (s0_2 : Int) (a1 : Int) : Option (List Int × Int × Int) := spec_l7Mult.l0 k a1 (([] : List Int)) 0 s0_0 s0_1 s0_2
theorem spec_l7Mult.mono_l : ∀ k, (∀ y0 y1 y2 y3 y4 y5, LeO (spec_l7Mult.l0 k y0 y1 y2 y3 y4 y5) (spec_l7Mult.l0 (k + 1) y0 y1 y2 y3 y4 y5))
 | 0 => fun _ _ _ _ _ _ r h => by simp [spec_l7Mult.l0] at h
 | k + 1 => by
  have ih0 := spec_l7Mult.mono_l k
  ·intro y0 y1 y2 y3 y4 y5
   unfold spec_l7Mult.l0
   repeat' with_reducible first
   | exact ih0 _ _ _ _ _ _
   | exact LeO.refl _
   | exact LeO.none _
   | refine LeO.ite ?_ ?_
   | refine LeO.bind ?_ (fun _ => ?_)
theorem spec_l7Mult.mono : ∀ a0 a1 a2 a3 k, LeO (spec_l7Mult.f k a0 a1 a2 a3) (spec_l7Mult.f (k + 1) a0 a1 a2 a3) := by
 intro a0 a1 a2 a3 k
 have ih0 := spec_l7Mult.mono_l k
 unfold spec_l7Mult.f
 repeat' with_reducible first
 | exact ih0 _ _ _ _ _ _
 | exact LeO.refl _
 | exact LeO.none _
 | refine LeO.ite ?_ ?_
 | refine LeO.bind ?_ (fun _ => ?_)
set_option maxHeartbeats 8000000 in
set_option maxRecDepth 100000 in
theorem spec_l7Mult.calls (k : Nat) (g : Nat) (s0_0 : List Int) (s0_1 : Int) (s0_2 : Int) (a1 : Int) (r1 : List Int) (r2 : Int) (r3 : Int) (w0 w : World) (hI : IsS112 w0 w g s0_0 s0_1 s0_2) (hB : Below w0.heap.size w0 w) (h : spec_l7Mult.f k s0_0 s0_1 s0_2 a1 = some (r1, r2, r3)) :
  Calls Try.prog 119 #[.pointer (some ⟨g, 0, none⟩), .int .i64 a1] w fun e w' => ∃ v0_ : Value, e = .returned (v0_) ∧ Kd.R (Kd.int .i64) 3 w' w.heap.size (fun _ => True) v0_ r1 ∧ IsS112 w0 w' g s0_0 r2 r3 ∧ Below w0.heap.size w0 w' ∧ KeepBut w w' g none := by
 have HI0 := Aside0.mk hI
 have HK := Aside0.mk (KeepBut.refl w g none)
 have HL := Aside0.mk hB.size
 clear hI
 have HW0 := Aside0.mk hB.size
 have HB := Aside0.mk hB; clear hB
 have H : (spec_l7Mult.l0 k a1 (([] : List Int)) 0 s0_0 s0_1 s0_2) = some (r1, r2, r3) := h
 clear h
 obtain ⟨y448, hy448⟩ : ∃ y_ : List Int, y_ = (([] : List Int)) := ⟨_, rfl⟩
 replace H : (spec_l7Mult.l0 k a1 y448 0 s0_0 s0_1 s0_2) = some (r1, r2, r3) := by first | (rw [hy448]; with_reducible exact H) | (have H2_ := (Option.bind_some _ _).symm.trans H; rw [hy448]; with_reducible exact H2_) | (have H2_ := (Option.bind_some _ _).symm.trans H; with_reducible exact H2_) | with_reducible exact H | (rw [hy448]; exact H) | exact H
 have Ny448 := Aside0.mk hy448; clear hy448
 have H' := Aside0.mk H
 clear H
 go_enter Try.func119, Try.ntmps119
 go_wp2_with (((with_reducible refine gate_dst (N := 7) rfl ?_); refine Kd.R_lit (Kd.int .i64) _ 3 ?hg (N := 7) ?hd (xs := ([] : List Int)) (inner := []) (ok := fun _ => True) (okp := fun _ => True) ?hr ?hp (fun _ hk => hk) trivial (Below.refl _ _) (Nat.le_refl _) (by simp) ?_; (case hd => rfl); (case hg => rfl); (case hr => first | (go_simp; done) | (go_simp; rfl)); (case hp => exact (Reps.none _ _)); intro v449 w3 ho4 hb hg_ hnew_; clear hg_ hnew_; (first | rw [← Ny448.out] at ho4 | (simp only [Int.reduceToNat] at ho4; rw [← Ny448.out] at ho4)); have HO450 := Aside0.mk (Kd.R_lower ho4 (keep_size (w := w) (g := g) (row := none) (mk HK))); replace HK := Aside0.mk (KeepBut.trans (mk HK) (KeepBut.of_below hb g none) (.inl rfl)); replace HB := Aside0.mk (below_step (IsS112.ms HB) hb); replace HI0 := Aside0.mk (IsS112.below (IsS112.mi HI0) hb); clear hb ho4))
 go_loopg [5, 6] k (fun kq v5 v6 w' => ∃ (x5_1 : List Int) (x6_1 : Int) (x1001_1 : Int) (x1002_1 : Int), v6 = .int .i64 x6_1 ∧ Aside0 (spec_l7Mult.l0 kq a1 x5_1 x6_1 s0_0 x1001_1 x1002_1 = some (r1, r2, r3)) ∧ Aside0 (kq ≤ k) ∧ Aside0 (Kd.R (Kd.int .i64) 3 w' w.heap.size (fun _ => True) v5 x5_1) ∧ Aside0 (IsS112 w0 w' g s0_0 x1001_1 x1002_1) ∧ Aside0 (KeepBut w w' g none) ∧ Aside0 (Below w0.heap.size w0 w'))
 case atStart => exact ⟨(y448), (0), (s0_1), (s0_2), (by first | rfl | (simp; done) | (simp [*]; done)), H', ⟨Nat.le_refl _⟩, ⟨by (with_reducible repeat (first | apply Kd.R_alloc | apply Kd.R_drewN | apply Kd.R_drew)); exact HO450.out⟩, ⟨IsS112.mi HI0⟩, ⟨mk HK⟩, ⟨IsS112.ms HB⟩⟩
 case round =>
  clear H'
  try clear c1
  try clear p2
  obtain ⟨x5_1, x6_1, x1001_1, x1002_1, rfl, HA, HK1, HO_5, HI0, HK, HB⟩ := hrel
  cases gk with
  | zero => exact absurd HA.out (by simp [spec_l7Mult.l0])
  | succ k1 =>
   have H := HA.out
   clear HA
   simp only [spec_l7Mult.l0] at H
   by_cases c5 : x6_1 < a1
   ·rw [if_pos c5] at H
    have c5b0 : decide (x6_1 < a1) = true := decide_eq_true c5
    clear c5
    obtain ⟨y451, hy451⟩ : ∃ y_ : List Int, y_ = (([0, 0, 1, 1, 2] : List Int)) := ⟨_, rfl⟩
    replace H : ((spec_l1PickInt.f s0_0 x1001_1 x1002_1 y451).bind fun bt454 => (if x5_1.length < 17592186044416 then (spec_l7Mult.l0 k1 a1 (x5_1 ++ [bt454.1]) (wrap64 (x6_1 + 1)) s0_0 bt454.2.1 bt454.2.2) else (none))) = some (r1, r2, r3) := by first | (rw [hy451]; with_reducible exact H) | (have H2_ := (Option.bind_some _ _).symm.trans H; rw [hy451]; with_reducible exact H2_) | (have H2_ := (Option.bind_some _ _).symm.trans H; with_reducible exact H2_) | with_reducible exact H | (rw [hy451]; exact H) | exact H
    have Ny451 := Aside0.mk hy451; clear hy451
    obtain ⟨⟨t454, t455, t456⟩, A60, H⟩ := Option.bind_eq_some_iff.mp H
    try dsimp only at H
    have A6 := Aside0.mk A60; clear A60
    by_cases c7 : x5_1.length < 17592186044416
    ·rw [if_pos c7] at H
     have LMc7 := Aside0.mk c7; clear c7
     obtain ⟨y457, hy457⟩ : ∃ y_ : List Int, y_ = (x5_1 ++ [t454]) := ⟨_, rfl⟩
     replace H : (spec_l7Mult.l0 k1 a1 y457 (wrap64 (x6_1 + 1)) s0_0 t455 t456) = some (r1, r2, r3) := by first | (rw [hy457]; with_reducible exact H) | (have H2_ := (Option.bind_some _ _).symm.trans H; rw [hy457]; with_reducible exact H2_) | (have H2_ := (Option.bind_some _ _).symm.trans H; with_reducible exact H2_) | with_reducible exact H | (rw [hy457]; exact H) | exact H
     have Ny457 := Aside0.mk hy457; clear hy457
     have H' := Aside0.mk H
     clear H
     go_wp2_with (first | ((with_reducible refine gate_dst (N := 15) rfl ?_); refine Kd.R_lit (Kd.int .i64) _ 3 ?hg (N := 15) ?hd (xs := ([0, 0, 1, 1, 2] : List Int)) (inner := [.int .i64 0, .int .i64 0, .int .i64 1, .int .i64 1, .int .i64 2]) (ok := fun _ => True) (okp := fun _ => True) ?hr ?hp (fun _ hk => hk) trivial (Below.refl _ _) (Nat.le_refl _) (by simp) ?_; (case hd => rfl); (case hg => rfl); (case hr => first | (go_simp; done) | (go_simp; rfl)); (case hp => exact (Reps.one (show Kd.M (Kd.int .i64) _ _ _ 0 [.int .i64 0] from rfl) (Reps.one (show Kd.M (Kd.int .i64) _ _ _ 0 [.int .i64 0] from rfl) (Reps.one (show Kd.M (Kd.int .i64) _ _ _ 1 [.int .i64 1] from rfl) (Reps.one (show Kd.M (Kd.int .i64) _ _ _ 1 [.int .i64 1] from rfl) (Reps.one (show Kd.M (Kd.int .i64) _ _ _ 2 [.int .i64 2] from rfl) (Reps.none _ _))))))); intro v452 w8 ho9 hb hg_ hnew_; clear hg_ hnew_; (first | rw [← Ny451.out] at ho9 | (simp only [Int.reduceToNat] at ho9; rw [← Ny451.out] at ho9)); have HO453 := Aside0.mk (Kd.R_lower (Kd.R_new' ho9 (Kd.R_lt (mr HO_5))) (keep_size (w := w) (g := g) (row := none) (mk HK))); replace HO_5 := rl HO_5 ho9 hb; replace HK := Aside0.mk (KeepBut.trans (mk HK) (KeepBut.of_below hb g none) (.inl rfl)); replace HB := Aside0.mk (below_step (IsS112.ms HB) hb); replace HI0 := Aside0.mk (IsS112.below (IsS112.mi HI0) hb); clear hb ho9; obtain ⟨Ao10, co10, eo10⟩ := Kd.R_slice HO453.out; subst eo10) | ((with_reducible refine gate_callee (f := 117) rfl ?_); refine gl (some 16) rfl rfl Try.func117 (by kernel_rfl) rfl #[.pointer (some ⟨g, 0, none⟩), .slice Ao10 y451.length co10] rfl ?_; (with_reducible refine (spec_l1PickInt.calls g s0_0 x1001_1 x1002_1 _ _ y451 t454 t455 t456 w0 _ ?side1 ?side2 ?side3 ?side4 ?side5 A6.out).mono ?_); (case side1 => exact IsS112.mi HI0); (case side2 => exact IsS112.ms HB); (case side3 => exact mc ((Kd.R_reads' HO453.out).2.2)); (case side4 => exact (Kd.R_reads' HO453.out).2.1); (case side5 => exact far_slice (IsS112.own_ne HI0.out HO453.out (by decide))); rintro e w11 ⟨rfl, hi, hb, hk⟩; refine ⟨_, rfl, ?_⟩; replace HO_5 := Aside0.mk (Kd.R_mono (Kd.R_keep (IsS112.apart (show IsS112 w0 _ g s0_0 x1001_1 x1002_1 from IsS112.mi HI0) (mr HO_5) (by decide)) hk (fun _ h => h.2)) (fun _ h => h.1)); replace HO453 := Aside0.mk (Kd.R_mono (Kd.R_keep (IsS112.apart (show IsS112 w0 _ g s0_0 x1001_1 x1002_1 from IsS112.mi HI0) (mr HO453) (by decide)) hk (fun _ h => h.2)) (fun _ h => h.1)); replace HK := Aside0.mk (KeepBut.trans (mk HK) hk (.inl rfl)); replace HB := Aside0.mk (hb); replace HI0 := Aside0.mk (hi); (try clear hb)) | ((with_reducible refine gate_builtin (b := .append) (xs := #[.tmp 13, .tmp 17]) rfl ?_); at_builtin; refine Kd.R_append (Kd.int .i64) w.heap.size rfl (.tmp 13) (.tmp 17) 27 3 (.int .i64 0) 8 rfl Try.underlying27 info3 rfl (by decide) (by omega) u5 x5_1 t454 [.int .i64 t454] (fun k_ => some k_ ≠ (.slice Ao10 y451.length co10 : Value).ownBlock) (fun _ => False) rfl rfl ?aP (fun _ hk => hk.elim) ?aF ?aO (Below.refl _ _) ?aS ?aL ?_; (case aP => exact rfl); (case aF => exact (fun k_ hk => Kd.fresh' (Kd.R_lt (mr HO453)) k_ hk)); (case aO => exact (by (with_reducible repeat (first | apply Kd.R_alloc | apply Kd.R_drewN | apply Kd.R_drew)); exact Kd.R_mono HO_5.out (fun _ hk => hk.2))); (case aS => exact (keep_size (w := w) (g := g) (row := none) (mk HK))); (case aL => have := LMc7.out; omega); intro v458 w12 ho hb hg hat; rw [← Ny457.out] at ho; replace HO453 := Aside0.mk (Kd.R_after (ok := (fun _ => True)) (mr HO453) hg hat); replace HB := Aside0.mk (below_weaken (IsS112.ms HB) HL.out hb); replace HI0 := Aside0.mk (IsS112.grown (IsS112.mi HI0) hg (IsS112.own_ne HI0.out HO_5.out (by decide))); replace HK := Aside0.mk (KeepBut.trans (mk HK) (KeepBut.of_grown hg g) (Kd.R_base2 HO_5.out)); have HO459 := Aside0.mk (ho); clear HO_5 ho hb hg hat))
     go_roundg k1
     case measure => have := HK1.out; omega
     case rel => exact ⟨(y457), (wrap64 (x6_1 + 1)), (t455), (t456), (by first | rfl | (simp; done) | (simp [*]; done)), H', ⟨by have := HK1.out; omega⟩, ⟨by (with_reducible repeat (first | apply Kd.R_alloc | apply Kd.R_drewN | apply Kd.R_drew)); exact Kd.R_mono HO459.out (fun _ hk => trivial)⟩, ⟨IsS112.mi HI0⟩, ⟨mk HK⟩, ⟨IsS112.ms HB⟩⟩
    rw [if_neg c7] at H
    exact absurd H (by simp)
   rw [if_neg c5] at H
   have c5b0 : decide (x6_1 < a1) = false := decide_eq_false c5
   clear c5
   by_cases c13 : a1 > 0
   ·rw [if_pos c13] at H
    have c13b0 : decide (0 < a1) = true := decide_eq_true c13
    clear c13
    obtain ⟨⟨t460, t461, t462⟩, A140, H⟩ := Option.bind_eq_some_iff.mp H
    try dsimp only at H
    have A14 := Aside0.mk A140; clear A140
    by_cases c15 : t460 = true
    ·subst c15
     rw [if_pos rfl] at H
     obtain ⟨y463, hy463⟩ : ∃ y_ : List Int, y_ = (([(-1), 1000000000, 1000000001] : List Int)) := ⟨_, rfl⟩
     replace H : ((spec_l1PickInt.f s0_0 t461 t462 y463).bind fun bt466 => (if 0 < (x5_1.length : Int) then (some ((x5_1.set (0 : Int).toNat bt466.1), bt466.2.1, bt466.2.2)) else (none))) = some (r1, r2, r3) := by first | (rw [hy463]; with_reducible exact H) | (have H2_ := (Option.bind_some _ _).symm.trans H; rw [hy463]; with_reducible exact H2_) | (have H2_ := (Option.bind_some _ _).symm.trans H; with_reducible exact H2_) | with_reducible exact H | (rw [hy463]; exact H) | exact H
     have Ny463 := Aside0.mk hy463; clear hy463
     obtain ⟨⟨t466, t467, t468⟩, A160, H⟩ := Option.bind_eq_some_iff.mp H
     try dsimp only at H
     have A16 := Aside0.mk A160; clear A160
     by_cases c17 : 0 < (x5_1.length : Int)
     ·rw [if_pos c17] at H
      have c17b0 : decide (0 < (x5_1.length : Int)) = true := decide_eq_true c17
      have c17b1 : decide (0 < x5_1.length) = true := decide_eq_true (by omega)
      clear c17
      obtain ⟨y469, hy469⟩ : ∃ y_ : List Int, y_ = (x5_1.set (0 : Int).toNat t466) := ⟨_, rfl⟩
      replace H : (some (y469, t467, t468)) = some (r1, r2, r3) := by first | (rw [hy469]; with_reducible exact H) | (have H2_ := (Option.bind_some _ _).symm.trans H; rw [hy469]; with_reducible exact H2_) | (have H2_ := (Option.bind_some _ _).symm.trans H; with_reducible exact H2_) | with_reducible exact H | (rw [hy469]; exact H) | exact H
      have Ny469 := Aside0.mk hy469; clear hy469
      simp only [Option.some.injEq, Prod.mk.injEq] at H
      obtain ⟨rfl, rfl, rfl⟩ := H
      go_wp2_with (first | (go_at_call 102; (with_reducible refine (spec_l1Once.calls g s0_0 x1001_1 x1002_1 12 true t461 t462 w0 _ ?side1 ?side2 A14.out).mono ?_); (case side1 => exact IsS112.mi HI0); (case side2 => exact IsS112.ms HB); rintro e w19 ⟨rfl, hi, hb, hk⟩; replace HO_5 := Aside0.mk (Kd.R_mono (Kd.R_keep (IsS112.apart (show IsS112 w0 _ g s0_0 x1001_1 x1002_1 from IsS112.mi HI0) (mr HO_5) (by decide)) hk (fun _ h => h.2)) (fun _ h => h.1)); replace HK := Aside0.mk (KeepBut.trans (mk HK) hk (.inl rfl)); replace HB := Aside0.mk (hb); replace HI0 := Aside0.mk (hi); (try clear hb)) | ((with_reducible refine gate_dst (N := 27) rfl ?_); refine Kd.R_lit (Kd.int .i64) _ 3 ?hg (N := 27) ?hd (xs := ([(-1), 1000000000, 1000000001] : List Int)) (inner := [.int .i64 (-1), .int .i64 1000000000, .int .i64 1000000001]) (ok := fun _ => True) (okp := fun _ => True) ?hr ?hp (fun _ hk => hk) trivial (Below.refl _ _) (Nat.le_refl _) (by simp) ?_; (case hd => rfl); (case hg => rfl); (case hr => first | (go_simp; done) | (go_simp; rfl)); (case hp => exact (Reps.one (show Kd.M (Kd.int .i64) _ _ _ (-1) [.int .i64 (-1)] from rfl) (Reps.one (show Kd.M (Kd.int .i64) _ _ _ 1000000000 [.int .i64 1000000000] from rfl) (Reps.one (show Kd.M (Kd.int .i64) _ _ _ 1000000001 [.int .i64 1000000001] from rfl) (Reps.none _ _))))); intro v464 w20 ho21 hb hg_ hnew_; clear hg_ hnew_; (first | rw [← Ny463.out] at ho21 | (simp only [Int.reduceToNat] at ho21; rw [← Ny463.out] at ho21)); have HO465 := Aside0.mk (Kd.R_lower (Kd.R_new' ho21 (Kd.R_lt (mr HO_5))) (keep_size (w := w) (g := g) (row := none) (mk HK))); replace HO_5 := rl HO_5 ho21 hb; replace HK := Aside0.mk (KeepBut.trans (mk HK) (KeepBut.of_below hb g none) (.inl rfl)); replace HB := Aside0.mk (below_step (IsS112.ms HB) hb); replace HI0 := Aside0.mk (IsS112.below (IsS112.mi HI0) hb); clear hb ho21; obtain ⟨Ao22, co22, eo22⟩ := Kd.R_slice HO465.out; subst eo22) | ((with_reducible refine gate_callee (f := 117) rfl ?_); refine gl (some 28) rfl rfl Try.func117 (by kernel_rfl) rfl #[.pointer (some ⟨g, 0, none⟩), .slice Ao22 y463.length co22] rfl ?_; (with_reducible refine (spec_l1PickInt.calls g s0_0 t461 t462 _ _ y463 t466 t467 t468 w0 _ ?side1 ?side2 ?side3 ?side4 ?side5 A16.out).mono ?_); (case side1 => exact IsS112.mi HI0); (case side2 => exact IsS112.ms HB); (case side3 => exact mc ((Kd.R_reads' HO465.out).2.2)); (case side4 => exact (Kd.R_reads' HO465.out).2.1); (case side5 => exact far_slice (IsS112.own_ne HI0.out HO465.out (by decide))); rintro e w23 ⟨rfl, hi, hb, hk⟩; refine ⟨_, rfl, ?_⟩; replace HO_5 := Aside0.mk (Kd.R_mono (Kd.R_keep (IsS112.apart (show IsS112 w0 _ g s0_0 t461 t462 from IsS112.mi HI0) (mr HO_5) (by decide)) hk (fun _ h => h.2)) (fun _ h => h.1)); replace HO465 := Aside0.mk (Kd.R_mono (Kd.R_keep (IsS112.apart (show IsS112 w0 _ g s0_0 t461 t462 from IsS112.mi HI0) (mr HO465) (by decide)) hk (fun _ h => h.2)) (fun _ h => h.1)); replace HK := Aside0.mk (KeepBut.trans (mk HK) hk (.inl rfl)); replace HB := Aside0.mk (hb); replace HI0 := Aside0.mk (hi); (try clear hb); have p18 : 0 ≤ (0 : Int) := (by omega); have q18 : (0 : Int) < ((x5_1.length : Int) : Int) := of_decide_eq_true (by first | (with_reducible assumption) | assumption); have qi18 : (0 < x5_1.length) = True := eq_true (by omega); obtain ⟨go18, co18, eo18, gb18, gl18, cl18, HG18⟩ := Kd.R_form HO_5.out (by omega); (first | cases eo18 | (injection eo18 with ea_ en_ ec_; (first | subst ea_ | (injection ea_ with ea_; subst ea_)); subst ec_; clear en_)); have GB18 := Aside0.mk gb18; have GG18 := Aside0.mk HG18; clear gb18 gl18 HG18; obtain ⟨hx18_0, hf18_0⟩ := Kd.R_celln 0 HO_5.out (0 : Int) p18 q18; (try rw [show ((0 : Int)).toNat = 0 from rfl] at hx18_0); (try simp only [Nat.reduceMul, Nat.zero_mul, Nat.zero_add, Nat.reduceAdd] at hx18_0); (try rw [show ((0 : Int)).toNat = 0 from rfl] at hf18_0); (try simp only [Nat.reduceMul, Nat.zero_mul, Nat.zero_add, Nat.reduceAdd] at hf18_0); replace p18 := eq_true p18; replace q18 := eq_true q18; have n_ := Aside0.mk (Kd.R_mono (ok' := (fun k_ => some k_ ≠ (.slice Ao22 y463.length co22 : Value).ownBlock)) HO_5.out (fun k_ hk => hk.2)); clear HO_5; have HO_5 := n_; clear n_; obtain ⟨hy24_, hz24_⟩ := Kd.R_celln 0 HO_5.out (0 : Int) (by omega) (of_decide_eq_true (by first | (with_reducible assumption) | assumption)); (try simp only [Int.reduceToNat, Int.toNat_zero, Int.toNat_ofNat, Nat.reduceMul, Nat.zero_mul, Nat.zero_add] at hy24_ hz24_); (try rw [show ((0 : Int)).toNat = 0 from rfl] at hy24_); (try rw [show ((0 : Int)).toNat = 0 from rfl] at hz24_); have HP24 := Kd.R_putg HO_5.out (0 : Int) t466) | ((with_reducible refine gate_store (t := 3) (p := 29) rfl ?_); refine store_event (t := 3) (p := 29) (v := ?vo_w25) (w1 := (w23.setCell ⟨go18, (0 : Int).toNat, none⟩ (.int .i64 t466))) ?hg ?ho ?hn ?hr ?_; (case ho => rfl); (case hg => rfl); (case hn => rfl); (case hr => first | (go_simp; done) | (go_simp; rfl)); intro w25 hw; have hg : w23.grownBy w25 (some go18) := (by rw [hw]; exact HP24.2); have hp_ : Kd.R (Kd.int .i64) 3 w25 w.heap.size (fun k_ => some k_ ≠ (.slice Ao22 y463.length co22 : Value).ownBlock) (.slice (some ⟨go18, 0, none⟩) x5_1.length co18) y469 := (by rw [hw, Ny469.out]; exact HP24.1); clear HP24; have n0_ := Aside0.mk (hp_); have n1_ := Aside0.mk (IsS112.grown (IsS112.mi HI0) hg (IsS112.own_ne HI0.out HO_5.out (by decide))); have n2_ := Aside0.mk (Kd.R_after (v := (.slice (some ⟨go18, 0, none⟩) x5_1.length co18)) (v1 := (.slice (some ⟨go18, 0, none⟩) x5_1.length co18)) (ok := (fun _ => True)) (mr HO465) hg (.inl rfl)); have n3_ := Aside0.mk ((by rw [hw]; exact below_set (HB.out) (Nat.le_trans HL.out GB18.out) : Below w0.heap.size w0 w25)); have n4_ := Aside0.mk (KeepBut.trans (mk HK) (KeepBut.of_grown hg g) (Kd.R_base2 HO_5.out)); clear HO_5 HI0 HO465 HB HK; have HO_5 := n0_; have HI0 := n1_; have HO465 := n2_; have HB := n3_; have HK := n4_; clear n0_ n1_ n2_ n3_ n4_; clear hg hw hp_))
      go_ret
      exact ⟨_, by first | rfl | (simp [errW_none, errW_some] <;> rfl) | (simp [*, errW_none, errW_some] <;> rfl), by (with_reducible repeat (first | apply Kd.R_alloc | apply Kd.R_drewN | apply Kd.R_drew)); exact Kd.R_mono HO_5.out (fun _ hk => trivial), IsS112.mi HI0, IsS112.ms HB, mk HK⟩
     rw [if_neg c17] at H
     exact absurd H (by simp)
    replace c15 := Bool.eq_false_iff.mpr c15
    subst c15
    rw [if_neg (show ¬ (false = true) by decide)] at H
    simp only [Option.some.injEq, Prod.mk.injEq] at H
    obtain ⟨rfl, rfl, rfl⟩ := H
    go_wp2_with ((go_at_call 102; (with_reducible refine (spec_l1Once.calls g s0_0 x1001_1 x1002_1 12 false t461 t462 w0 _ ?side1 ?side2 A14.out).mono ?_); (case side1 => exact IsS112.mi HI0); (case side2 => exact IsS112.ms HB); rintro e w26 ⟨rfl, hi, hb, hk⟩; replace HO_5 := Aside0.mk (Kd.R_mono (Kd.R_keep (IsS112.apart (show IsS112 w0 _ g s0_0 x1001_1 x1002_1 from IsS112.mi HI0) (mr HO_5) (by decide)) hk (fun _ h => h.2)) (fun _ h => h.1)); replace HK := Aside0.mk (KeepBut.trans (mk HK) hk (.inl rfl)); replace HB := Aside0.mk (hb); replace HI0 := Aside0.mk (hi); (try clear hb)))
    go_ret
    exact ⟨_, by first | rfl | (simp [errW_none, errW_some] <;> rfl) | (simp [*, errW_none, errW_some] <;> rfl), by (with_reducible repeat (first | apply Kd.R_alloc | apply Kd.R_drewN | apply Kd.R_drew)); exact HO_5.out, IsS112.mi HI0, IsS112.ms HB, mk HK⟩
   rw [if_neg c13] at H
   have c13b0 : decide (0 < a1) = false := decide_eq_false c13
   clear c13
   simp only [Option.some.injEq, Prod.mk.injEq] at H
   obtain ⟨rfl, rfl, rfl⟩ := H
   go_wp2
   go_ret
   exact ⟨_, by first | rfl | (simp [errW_none, errW_some] <;> rfl) | (simp [*, errW_none, errW_some] <;> rfl), by (with_reducible repeat (first | apply Kd.R_alloc | apply Kd.R_drewN | apply Kd.R_drew)); exact HO_5.out, IsS112.mi HI0, IsS112.ms HB, mk HK⟩

/-! ### spec_l1Min: function 121 -/
def spec_l1Min.f (a0 : Int) (a1 : Int) : Option (Int) := if a0 < a1 then (some a0) else (some a1)
set_option maxHeartbeats 8000000 in
set_option maxRecDepth 100000 in
theorem spec_l1Min.calls (a0 : Int) (a1 : Int) (r : Int) (w : World) (h : spec_l1Min.f a0 a1 = some r) :
  Calls Try.prog 121 #[.int .i64 a0, .int .i64 a1] w fun e w' => e = .returned (.int .i64 r) ∧ Drawn0 w w' := by
 have H : (if a0 < a1 then (some a0) else (some a1)) = some r := h
 clear h
 by_cases c3 : a0 < a1
 ·rw [if_pos c3] at H
  have c3b0 : decide (a0 < a1) = true := decide_eq_true c3
  clear c3
  obtain rfl := Option.some.inj H
  go_enter Try.func121, Try.ntmps121
  go_wp2
  go_ret
  exact ⟨by first | rfl | (simp; done) | (simp [*]; done), by repeat (first | exact Drawn0.refl _ | apply Drawn0.step)⟩
 rw [if_neg c3] at H
 have c3b0 : decide (a0 < a1) = false := decide_eq_false c3
 clear c3
 obtain rfl := Option.some.inj H
 go_enter Try.func121, Try.ntmps121
 go_wp2
 go_ret
 exact ⟨by first | rfl | (simp; done) | (simp [*]; done), by repeat (first | exact Drawn0.refl _ | apply Drawn0.step)⟩

end Go.Proofs.Ytlencemmlgkflaa.QFnEntailed
