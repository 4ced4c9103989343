-- Made by a program of this claim's own (wip/print): not the kit's print as it stands.
import Derived.Test.YtlencemmlgkflaaUFnEntailedTri
import Derived.Test.YtlencemmlgkflaaQFnEntailedx0
import Derived.Test.YtlencemmlgkflaaQFnEntailedx7
import Derived.Test.YtlencemmlgkflaaQFnEntailedx8
import Derived.Test.YtlencemmlgkflaaQFnEntailedx12
import Derived.Test.YtlencemmlgkflaaQFnEntailedx15
import Derived.Test.YtlencemmlgkflaaQFnEntailedx16
namespace Go.Proofs.Ytlencemmlgkflaa.QFnEntailed
open Go.RowKit Go.Proofs.YtlencemmlgkflaaV.PrintWords Go.Proofs.YtlencemmlgkflaaV.PrintLast Go.Proofs.YtlencemmlgkflaaV.PrintMore
attribute [local go_sem] max2_int min2_int max_two min_two max_three min_three max_four min_four   -- for this text's walks alone
set_option linter.unusedVariables false
set_option linter.unusedSimpArgs false

/-! ### spec_DrawFindFarkas: function 14 -/
def spec_DrawFindFarkas.f (k : Nat) (l0 : List Int) : Option (Int × (List (S29)) × Int × List Int) := (spec_l1New.f k l0).bind fun bt499 => ((spec_l6Bent.f k bt499.1 bt499.2.1 bt499.2.2).bind fun bt503 => ((spec_l7Target.f k bt499.1 bt503.2.2.1 bt503.2.2.2 bt503.1 bt503.2.1).bind fun bt510 => (some (bt503.1, bt503.2.1, bt510.1, bt510.2.1))))
theorem spec_DrawFindFarkas.mono : ∀ a0 k, LeO (spec_DrawFindFarkas.f k a0) (spec_DrawFindFarkas.f (k + 1) a0) := by
 intro a0 k
 unfold spec_DrawFindFarkas.f
 repeat' with_reducible first
 | exact spec_l1New.mono _ _
 | exact spec_l6Bent.mono _ _ _ _
 | exact spec_l7Target.mono _ _ _ _ _ _
 | exact LeO.refl _
 | exact LeO.none _
 | refine LeO.ite ?_ ?_
 | refine LeO.bind ?_ (fun _ => ?_)
set_option maxHeartbeats 8000000 in
set_option maxRecDepth 100000 in
theorem spec_DrawFindFarkas.calls (k : Nat) (A0 : Option Addr) (c0 : Nat) (l0 : List Int) (r1 : Int) (r2 : List (S29)) (r3 : Int) (r4 : List Int) (w : World) (hr0 : Kd.C (Kd.int .u8) w A0 l0.length l0) (hc0 : l0.length ≤ c0) (h : spec_DrawFindFarkas.f k l0 = some (r1, r2, r3, r4)) :
  Calls Try.prog 14 #[.slice A0 l0.length c0] w fun e w' => ∃ v1_ v3_ : Value, e = .returned (.tuple #[.agg #[.int .i64 r1, v1_], .agg #[.int .i64 r3, v3_]]) ∧ Kd.S k29 29 w' w.heap.size (fun k_ => some k_ ≠ (v3_ : Value).ownBlock) v1_ r2 ∧ Kd.R (Kd.int .i64) 3 w' w.heap.size (fun _ => True) v3_ r4 ∧ Below w.heap.size w w' := by
 have hu26 := Try.underlying26
 have hu29 := Try.underlying29
 have HR0 := Aside0.mk hr0
 have HC0 := Aside0.mk hc0
 clear hr0 hc0
 have HB := Aside0.mk (Below.refl w.heap.size w)
 have H : ((spec_l1New.f k l0).bind fun bt499 => ((spec_l6Bent.f k bt499.1 bt499.2.1 bt499.2.2).bind fun bt503 => ((spec_l7Target.f k bt499.1 bt503.2.2.1 bt503.2.2.2 bt503.1 bt503.2.1).bind fun bt510 => (some (bt503.1, bt503.2.1, bt510.1, bt510.2.1))))) = some (r1, r2, r3, r4) := h
 clear h
 obtain ⟨⟨t499, t500, t501⟩, A20, H⟩ := Option.bind_eq_some_iff.mp H
 try dsimp only at H
 have A2 := Aside0.mk A20; clear A20
 obtain ⟨⟨t503, t504, t507, t508⟩, A30, H⟩ := Option.bind_eq_some_iff.mp H
 try dsimp only at H
 have A3 := Aside0.mk A30; clear A30
 obtain ⟨⟨t510, t511, t514, t515⟩, A40, H⟩ := Option.bind_eq_some_iff.mp H
 try dsimp only at H
 have A4 := Aside0.mk A40; clear A40
 simp only [Option.some.injEq, Prod.mk.injEq] at H
 obtain ⟨rfl, rfl, rfl, rfl⟩ := H
 go_enter Try.func14, Try.ntmps14
 try go_wp2_with (first | ((with_reducible refine gate_dst (N := 2) rfl ?_); refine box_event ?hg (N := 2) ?hd (cs := #[.int .i64 0, .slice none 0 0]) (t := 26) ?hr ?_; (case hd => rfl); (case hg => rfl); (case hr => first | (go_simp; done) | (go_simp; rfl)); intro gb497 hg w5 hbox hb; have BK497 := Aside0.mk (hbox); have GW497 := gw hg HB; have GE497 := gw hg HB; replace HB := bs HB hb; clear hb hbox hg) | ((with_reducible refine gate_dst (N := 3) rfl ?_); refine box_event ?hg (N := 3) ?hd (cs := #[.int .i64 0, .slice none 0 0]) (t := 29) ?hr ?_; (case hd => rfl); (case hg => rfl); (case hr => first | (go_simp; done) | (go_simp; rfl)); intro gb498 hg w6 hbox hb; have BK498 := Aside0.mk (hbox); have GW498 := gw hg HB; have GE498 := gw hg HB; replace HB := bs HB hb; have NB497_498 := nl hg BK497; have NB498_497 := ng hg BK497; replace BK497 := bb BK497 hb; clear hb hbox hg) | ((with_reducible refine gate_callee (f := 70) rfl ?_); refine gl (some 7) rfl rfl Try.func70 (by kernel_rfl) rfl #[.slice A0 l0.length c0] rfl ?_; (with_reducible refine (spec_l1New.calls k _ _ l0 t499 t500 t501 w _ ?side1 ?side2 ?side3 A2.out).mono ?_); (case side1 => exact ms HB); (case side2 => exact HR0.out); (case side3 => exact HC0.out); rintro e w7 ⟨g502, rfl, hi, hb, hb2⟩; refine ⟨_, rfl, ?_⟩; replace HB := Aside0.mk (hb); have HI502 := Aside0.mk (hi); have NB502_497 := Aside0.mk (IsS112.ne_blk hi (blk_below (mb BK497) hb2) (by decide)); have NB497_502 := Aside0.mk (Ne.symm (IsS112.ne_blk hi (blk_below (mb BK497) hb2) (by decide))); replace BK497 := Aside0.mk (blk_below (mb BK497) hb2); have NB502_498 := Aside0.mk (IsS112.ne_blk hi (blk_below (mb BK498) hb2) (by decide)); have NB498_502 := Aside0.mk (Ne.symm (IsS112.ne_blk hi (blk_below (mb BK498) hb2) (by decide))); replace BK498 := Aside0.mk (blk_below (mb BK498) hb2); (try clear hb)) | ((with_reducible refine gate_callee (f := 71) rfl ?_); refine gl (some 9) rfl rfl Try.func71 (by kernel_rfl) rfl #[.pointer (some ⟨g502, 0, none⟩)] rfl ?_; (with_reducible refine (spec_l6Bent.calls k g502 t499 t500 t501 t503 t504 t507 t508 w _ ?side1 ?side2 A3.out).mono ?_); (case side1 => exact IsS112.mi HI502); (case side2 => exact IsS112.ms HB); rintro e w8 ⟨v505, rfl, ho0, hi, hb, hk⟩; refine ⟨_, rfl, ?_⟩; replace BK497 := Aside0.mk (KeepBut.blk hk (g' := gb497) (o := .cells #[.int .i64 0, .slice none 0 0] 26 (0, 0)) (mb BK497) NB497_502.out (by simp)); have HO506 := Aside0.mk (Kd.S_lower (Kd.S_newB ho0 (g := gb498) (o := .cells #[.int .i64 0, .slice none 0 0] 29 (0, 0)) (mb BK498)) (below_size (IsS112.ms HB))); replace BK498 := Aside0.mk (KeepBut.blk hk (g' := gb498) (o := .cells #[.int .i64 0, .slice none 0 0] 29 (0, 0)) (mb BK498) NB498_502.out (by simp)); replace HB := Aside0.mk (hb); replace HI502 := Aside0.mk (hi); (try clear hb); (try clear ho0)) | ((with_reducible refine gate_dst (N := 5) rfl ?_); refine box_event ?hg (N := 5) ?hd (cs := #[.int .i64 0, .slice none 0 0]) (t := 26) ?hr ?_; (case hd => rfl); (case hg => rfl); (case hr => first | (go_simp; done) | (go_simp; rfl)); intro gb509 hg w9 hbox hb; have n0_ := bS HO506 hb; have n1_ := bb BK497 hb; have n2_ := bb BK498 hb; have n3_ := Aside0.mk (IsS112.below (IsS112.mi HI502) hb); have n4_ := Aside0.mk (below_step (IsS112.ms HB) hb); have n5_ := Aside0.mk (hbox); have n6_ := Aside0.mk ((by rw [hg]; exact (below_size (IsS112.ms HB)) : w.heap.size ≤ gb509)); have n7_ := Aside0.mk ((by rw [hg]; exact (below_size (IsS112.ms HB)) : w.heap.size ≤ gb509)); have n8_ := nl hg BK497; have n9_ := ng hg BK497; have n10_ := nl hg BK498; have n11_ := ng hg BK498; have n12_ := Aside0.mk ((by rw [hg]; exact Nat.ne_of_lt (IsS112.lt (show IsS112 w _ g502 t499 t507 t508 from IsS112.mi HI502)) : g502 ≠ gb509)); have n13_ := Aside0.mk ((by rw [hg]; exact Nat.ne_of_gt (IsS112.lt (show IsS112 w _ g502 t499 t507 t508 from IsS112.mi HI502)) : gb509 ≠ g502)); clear HO506 BK497 BK498 HI502 HB; have HO506 := n0_; have BK497 := n1_; have BK498 := n2_; have HI502 := n3_; have HB := n4_; have BK509 := n5_; have GW509 := n6_; have GE509 := n7_; have NB497_509 := n8_; have NB509_497 := n9_; have NB498_509 := n10_; have NB509_498 := n11_; have NB502_509 := n12_; have NB509_502 := n13_; clear n0_ n1_ n2_ n3_ n4_ n5_ n6_ n7_ n8_ n9_ n10_ n11_ n12_ n13_; clear hb hbox hg; have := NB509_497.out; have := NB497_509.out; have := NB509_498.out; have := NB498_509.out; have := NB509_502.out; have := NB502_509.out; obtain ⟨hcz13_0, hcz13_1, hfz13_0, hfz13_1⟩ := cFour BK509; obtain ⟨Ao14, co14, eo14⟩ := Kd.S_slice HO506.out; subst eo14))
 have n0_ : Aside0 (Kd.S k29 29 ((w9.setCell ⟨gb509, 0, none⟩ (.int .i64 t503)).setCell ⟨gb509, 1, none⟩ (.slice Ao14 t504.length co14)) w.heap.size (fun k_ => k_ ≠ gb498) (.slice Ao14 t504.length co14) t504) := ⟨by (with_reducible repeat (first | apply Kd.S_alloc | apply Kd.S_drewN | apply Kd.S_drew)); exact Kd.S_mono (Kd.S_far (p := ⟨gb509, 1, none⟩) (Kd.S_far (p := ⟨gb509, 0, none⟩) (Kd.S_types HO506.out BK509.out (by decide)) (fun _ hk => hk.2) (.int .i64 t503)) (fun _ hk => hk.2) (.slice Ao14 t504.length co14)) (fun _ hk => hk.1.2)⟩
 have n1_ : Aside0 (((w9.setCell ⟨gb509, 0, none⟩ (.int .i64 t503)).setCell ⟨gb509, 1, none⟩ (.slice Ao14 t504.length co14)).heap[gb497]? = some (.cells #[.int .i64 0, .slice none 0 0] 26 (0, 0))) := ⟨mf BK497⟩
 have n2_ : Aside0 (((w9.setCell ⟨gb509, 0, none⟩ (.int .i64 t503)).setCell ⟨gb509, 1, none⟩ (.slice Ao14 t504.length co14)).heap[gb498]? = some (.cells #[.int .i64 0, .slice none 0 0] 29 (0, 0))) := ⟨mf BK498⟩
 have n3_ : Aside0 (((w9.setCell ⟨gb509, 0, none⟩ (.int .i64 t503)).setCell ⟨gb509, 1, none⟩ (.slice Ao14 t504.length co14)).heap[gb509]? = some (.cells #[.int .i64 t503, .slice Ao14 t504.length co14] 26 (0, 0))) := ⟨mq BK509⟩
 have n4_ : Aside0 (IsS112 w ((w9.setCell ⟨gb509, 0, none⟩ (.int .i64 t503)).setCell ⟨gb509, 1, none⟩ (.slice Ao14 t504.length co14)) g502 t499 t507 t508) := ⟨IsS112.mi HI502⟩
 have n5_ : Aside0 (Below w.heap.size w ((w9.setCell ⟨gb509, 0, none⟩ (.int .i64 t503)).setCell ⟨gb509, 1, none⟩ (.slice Ao14 t504.length co14))) := ⟨IsS112.ms HB⟩
 (try clear HO506)
 (try clear BK497)
 (try clear BK498)
 (try clear BK509)
 (try clear HI502)
 (try clear HB)
 generalize ((w9.setCell ⟨gb509, 0, none⟩ (.int .i64 t503)).setCell ⟨gb509, 1, none⟩ (.slice Ao14 t504.length co14)) = w15 at n0_ n1_ n2_ n3_ n4_ n5_ ⊢
 have HO506 := n0_
 have BK497 := n1_
 have BK498 := n2_
 have BK509 := n3_
 have HI502 := n4_
 have HB := n5_
 clear n0_ n1_ n2_ n3_ n4_ n5_
 replace HO506 := Aside0.mk (Kd.S_drew HO506.out)
 replace BK497 := Aside0.mk (blk_drew BK497.out)
 replace BK498 := Aside0.mk (blk_drew BK498.out)
 replace BK509 := Aside0.mk (blk_drew BK509.out)
 replace HI502 := Aside0.mk (IsS112.drew HI502.out)
 replace HB := Aside0.mk (below_drew1 HB.out)
 refine start_ (n := 6) (S := fun w' => w'.cell? ⟨gb509, 0, none⟩ = some (.int .i64 t503) ∧ w'.cell? ⟨gb509, 1, none⟩ = some (.slice Ao14 t504.length co14)) (ds := []) #[false, false, false, false, false, false] (by kernel_rfl) rfl rfl ⟨(c2 BK509).1, (c2 BK509).2⟩ (fun hHeld => ?_)
 generalize w15.drew = w16 at HO506 BK497 BK498 BK509 HI502 HB hHeld ⊢
 refine pure_ (i := 1) (N := some 11) (v := ?_) (a' := ?_) #[false, true, false, false, false, false] rfl rfl (by kernel_rfl) (fun _ _ _ h => h) (Or.inl ⟨by rfl, ?_⟩) ?_ ?_
 rotate_left
 ·intro w'
  go_simp
  with_reducible rfl
 rotate_left
 ·simp only [Act.put, z1, z2, z3, i64_w, i32_w]
  rfl
 refine take_ (i := 0) (N := some 10) (v := ?_) (a' := ?_) #[true, true, false, false, false, false] rfl rfl (by kernel_rfl) (fun _ _ _ h => h) (Or.inl ⟨by rfl, ?_⟩) hHeld ?_ ?_
 rotate_left
 ·rintro w' ⟨s0, s1⟩
  go_simp
  with_reducible rfl
 rotate_left
 ·simp only [Act.put, z1, z2, z3, i64_w, i32_w]
  rfl
 refine take_ (i := 2) (N := some 12) (v := ?_) (a' := ?_) #[true, true, true, false, false, false] rfl rfl (by kernel_rfl) (fun _ _ _ h => h) (Or.inl ⟨by rfl, ?_⟩) hHeld ?_ ?_
 rotate_left
 ·rintro w' ⟨s0, s1⟩
  go_simp
  with_reducible rfl
 rotate_left
 ·simp only [Act.put, z1, z2, z3, i64_w, i32_w]
  rfl
 refine one_ (i := 3) (N := some 13) #[true, true, true, true, false, false] rfl rfl (by kernel_rfl) (by decide) (fun K hK => ?_)
 refine gs Try.func72 (by kernel_rfl) rfl #[.pointer (some ⟨g502, 0, none⟩), .agg #[.int .i64 t503, .slice Ao14 t504.length co14]] (by rfl) rfl rfl ?_
 with_reducible refine (spec_l7Target.calls k g502 t499 t507 t508 t503 _ _ t504 t510 t511 t514 t515 w _ ?side1 ?side2 ?side3 ?side4 A4.out).mono ?_
 (case side1 => exact IsS112.mi HI502)
 (case side2 => exact IsS112.ms HB)
 (case side3 => exact Kd.C_foot_own ((Kd.S_R (IsS112.apartS (show IsS112 w _ g502 t499 t507 t508 from IsS112.mi HI502) (mS HO506) (by decide)))) (fun _ h_ => h_.2))
 (case side4 => exact (Kd.S_reads' HO506.out).2.1)
 rintro e w17 ⟨v512, rfl, ho0, hi, hb, hk⟩
 refine ⟨_, rfl, ?_⟩
 replace BK497 := Aside0.mk (KeepBut.blk hk (g' := gb497) (o := .cells #[.int .i64 0, .slice none 0 0] 26 (0, 0)) (mb BK497) NB497_502.out (by simp))
 replace BK498 := Aside0.mk (KeepBut.blk hk (g' := gb498) (o := .cells #[.int .i64 0, .slice none 0 0] 29 (0, 0)) (mb BK498) NB498_502.out (by simp))
 replace HO506 := Aside0.mk (Kd.S_mono (Kd.S_told (Kd.S_oldK (IsS112.apartS (show IsS112 w _ g502 t499 t507 t508 from IsS112.mi HI502) (mS HO506) (by decide)) hk) (Kd.R_base ho0)) (fun _ h_ => h_.1))
 replace BK509 := Aside0.mk (KeepBut.blk hk (g' := gb509) (o := .cells #[.int .i64 t503, .slice Ao14 t504.length co14] 26 (0, 0)) (mb BK509) NB509_502.out (by simp))
 have HO513 := Aside0.mk (Kd.R_lower ho0 (below_size (IsS112.ms HB)))
 replace HB := Aside0.mk (hb)
 replace HI502 := Aside0.mk (hi)
 (try clear hb)
 (try clear hb2)
 (try clear hk)
 (try clear hi)
 (try clear ho0)
 obtain ⟨Ao21, co21, eo21⟩ := Kd.R_slice HO513.out
 (first | subst eo21 | (injection eo21 with f1_ f2_ f3_; have f4_ := f1_.symm; have f5_ := f3_.symm; clear f1_ f2_ f3_; subst f4_; subst f5_))
 refine hK.out _ _ ⟨(c2 BK509).1, (c2 BK509).2⟩ (fun hHeld => ?_)
 clear hK K
 refine norm_ (a' := ?_) ?_ ?_
 rotate_left
 ·show Act.put _ (some 13) _ = _
  simp only [Act.put, z1, z2, z3, i64_w, i32_w]
  rfl
 refine one_ (i := 4) (N := none) #[true, true, true, true, true, false] rfl rfl (by kernel_rfl) (by decide) (fun K hK => ?_)
 have hs18 : w17.cell? ⟨gb497, 0, none⟩ = some (.int .i64 0) := (blk_cell BK497.out 0).trans rfl
 have hfs18 := blk_frozen BK497.out 0
 have hns18_1 := NB498_497.out
 have hns18_2 := NB509_497.out
 have hms18_1 := NB497_498.out
 have hms18_2 := NB497_509.out
 have hs19 : w17.cell? ⟨gb497, 1, none⟩ = some (.slice none 0 0) := (blk_cell BK497.out 1).trans rfl
 have hfs19 := blk_frozen BK497.out 1
 have hns19_1 := NB498_497.out
 have hns19_2 := NB509_497.out
 have hms19_1 := NB497_498.out
 have hms19_2 := NB497_509.out
 refine skip_ (w1 := ?_) (by rfl) rfl ?_ ?_
 rotate_left
 ·go_simp
  rfl
 refine hK.out _ _ ⟨((cell_far (p := ⟨gb497, _, none⟩) NB509_497.out _).trans (((cell_far (p := ⟨gb497, _, none⟩) NB509_497.out _).trans (hHeld.1)))), ((cell_far (p := ⟨gb497, _, none⟩) NB509_497.out _).trans (((cell_far (p := ⟨gb497, _, none⟩) NB509_497.out _).trans (hHeld.2))))⟩ (fun hHeld => ?_)
 clear hK K
 refine one_ (i := 5) (N := none) #[true, true, true, true, true, true] rfl rfl (by kernel_rfl) (by decide) (fun K hK => ?_)
 have hs20 : w17.cell? ⟨gb498, 0, none⟩ = some (.int .i64 0) := (blk_cell BK498.out 0).trans rfl
 have hfs20 := blk_frozen BK498.out 0
 have hns20_0 := NB497_498.out
 have hns20_2 := NB509_498.out
 have hms20_0 := NB498_497.out
 have hms20_2 := NB498_509.out
 have hs22 : w17.cell? ⟨gb498, 1, none⟩ = some (.slice none 0 0) := (blk_cell BK498.out 1).trans rfl
 have hfs22 := blk_frozen BK498.out 1
 have hns22_0 := NB497_498.out
 have hns22_2 := NB509_498.out
 have hms22_0 := NB498_497.out
 have hms22_2 := NB498_509.out
 refine skip_ (w1 := ?_) (by rfl) rfl ?_ ?_
 rotate_left
 ·go_simp
  rfl
 refine hK.out _ _ ⟨((cell_far (p := ⟨gb498, _, none⟩) NB509_498.out _).trans (((cell_far (p := ⟨gb498, _, none⟩) NB509_498.out _).trans (hHeld.1)))), ((cell_far (p := ⟨gb498, _, none⟩) NB509_498.out _).trans (((cell_far (p := ⟨gb498, _, none⟩) NB509_498.out _).trans (hHeld.2))))⟩ (fun hHeld => ?_)
 clear hK K
 refine done_ (by kernel_rfl) ?_
 try go_wp2
 refine bodyPost_ret (results_cc rfl _ _ gb497 gb498 26 29 #[.int .i64 t503, .slice Ao14 t504.length co14] #[.int .i64 t510, .slice Ao21 t511.length co21] (0, 0) (0, 0) _ _ rfl (by (with_reducible repeat (first | refine blk_drewN ?_ _ | refine blk_drew ?_ | refine blk_alloc ?_ _)); refine blk_far ?_ NB497_498.out _; (with_reducible repeat (first | refine blk_drewN ?_ _ | refine blk_drew ?_ | refine blk_alloc ?_ _)); refine blk_far ?_ NB497_498.out _; (with_reducible repeat (first | refine blk_drewN ?_ _ | refine blk_drew ?_ | refine blk_alloc ?_ _)); refine blk_put (cs := #[.int .i64 t503, .slice none 0 0]) ?_ 1 _ rfl; (with_reducible repeat (first | refine blk_drewN ?_ _ | refine blk_drew ?_ | refine blk_alloc ?_ _)); refine blk_put (cs := #[.int .i64 0, .slice none 0 0]) ?_ 0 _ rfl; (with_reducible repeat (first | refine blk_drewN ?_ _ | refine blk_drew ?_ | refine blk_alloc ?_ _)); exact BK497.out) Try.underlying26 rfl (by kernel_rfl) rfl (by (with_reducible repeat (first | refine blk_drewN ?_ _ | refine blk_drew ?_ | refine blk_alloc ?_ _)); refine blk_put (cs := #[.int .i64 t510, .slice none 0 0]) ?_ 1 _ rfl; (with_reducible repeat (first | refine blk_drewN ?_ _ | refine blk_drew ?_ | refine blk_alloc ?_ _)); refine blk_put (cs := #[.int .i64 0, .slice none 0 0]) ?_ 0 _ rfl; (with_reducible repeat (first | refine blk_drewN ?_ _ | refine blk_drew ?_ | refine blk_alloc ?_ _)); refine blk_far ?_ NB498_497.out _; (with_reducible repeat (first | refine blk_drewN ?_ _ | refine blk_drew ?_ | refine blk_alloc ?_ _)); refine blk_far ?_ NB498_497.out _; (with_reducible repeat (first | refine blk_drewN ?_ _ | refine blk_drew ?_ | refine blk_alloc ?_ _)); exact BK498.out) Try.underlying29 rfl (by kernel_rfl)) rfl ?_
 exact ⟨_, _, by first | rfl | (simp [errW_none, errW_some] <;> rfl) | (simp [*, errW_none, errW_some] <;> rfl), by (with_reducible repeat (first | apply Kd.S_alloc | apply Kd.S_drewN | apply Kd.S_drew)); exact Kd.S_mono (Kd.S_far (p := ⟨gb498, 1, none⟩) (Kd.S_far (p := ⟨gb498, 0, none⟩) (Kd.S_far (p := ⟨gb497, 1, none⟩) (Kd.S_far (p := ⟨gb497, 0, none⟩) (Kd.S_mono (Kd.S_types HO506.out BK497.out (by decide)) (fun k_ hk => (⟨hk, hk.1.1⟩ : _ ∧ k_ ≠ gb498))) (fun _ hk => hk.1.2) (.int .i64 t503)) (fun _ hk => hk.1.2) (.slice Ao14 t504.length co14)) (fun _ hk => hk.2) (.int .i64 t510)) (fun _ hk => hk.2) (.slice Ao21 t511.length co21)) (fun _ hk => hk.1.1.2), by (with_reducible repeat (first | apply Kd.R_alloc | apply Kd.R_drewN | apply Kd.R_drew)); exact Kd.R_mono (Kd.R_far (p := ⟨gb498, 1, none⟩) (Kd.R_far (p := ⟨gb498, 0, none⟩) (Kd.R_far (p := ⟨gb497, 1, none⟩) (Kd.R_far (p := ⟨gb497, 0, none⟩) (Kd.R_types (Kd.R_types HO513.out BK497.out (by decide)) BK498.out (by decide)) (fun _ hk => hk.1.2) (.int .i64 t503)) (fun _ hk => hk.1.2) (.slice Ao14 t504.length co14)) (fun _ hk => hk.2) (.int .i64 t510)) (fun _ hk => hk.2) (.slice Ao21 t511.length co21)) (fun _ hk => trivial), IsS112.ms HB⟩

/-! ### spec_DrawEntails: function 43 -/
def spec_DrawEntails.f (k : Nat) (l0 : List Int) : Option (Int × (List (S29)) × Int × List Int) := (spec_DrawFindFarkas.f k l0).bind fun bt518 => (some (bt518.1, bt518.2.1, bt518.2.2.1, bt518.2.2.2))
theorem spec_DrawEntails.mono : ∀ a0 k, LeO (spec_DrawEntails.f k a0) (spec_DrawEntails.f (k + 1) a0) := by
 intro a0 k
 unfold spec_DrawEntails.f
 repeat' with_reducible first
 | exact spec_DrawFindFarkas.mono _ _
 | exact LeO.refl _
 | exact LeO.none _
 | refine LeO.ite ?_ ?_
 | refine LeO.bind ?_ (fun _ => ?_)
set_option maxHeartbeats 8000000 in
set_option maxRecDepth 100000 in
theorem spec_DrawEntails.calls (k : Nat) (A0 : Option Addr) (c0 : Nat) (l0 : List Int) (r1 : Int) (r2 : List (S29)) (r3 : Int) (r4 : List Int) (w : World) (hr0 : Kd.C (Kd.int .u8) w A0 l0.length l0) (hc0 : l0.length ≤ c0) (h : spec_DrawEntails.f k l0 = some (r1, r2, r3, r4)) :
  Calls Try.prog 43 #[.slice A0 l0.length c0] w fun e w' => ∃ v1_ v3_ : Value, e = .returned (.tuple #[.agg #[.int .i64 r1, v1_], .agg #[.int .i64 r3, v3_]]) ∧ Kd.S k29 29 w' w.heap.size (fun k_ => some k_ ≠ (v3_ : Value).ownBlock) v1_ r2 ∧ Kd.R (Kd.int .i64) 3 w' w.heap.size (fun _ => True) v3_ r4 ∧ Below w.heap.size w w' := by
 have hu26 := Try.underlying26
 have hu29 := Try.underlying29
 have HR0 := Aside0.mk hr0
 have HC0 := Aside0.mk hc0
 clear hr0 hc0
 have HB := Aside0.mk (Below.refl w.heap.size w)
 have H : ((spec_DrawFindFarkas.f k l0).bind fun bt518 => (some (bt518.1, bt518.2.1, bt518.2.2.1, bt518.2.2.2))) = some (r1, r2, r3, r4) := h
 clear h
 obtain ⟨⟨t518, t519, t522, t523⟩, A20, H⟩ := Option.bind_eq_some_iff.mp H
 try dsimp only at H
 have A2 := Aside0.mk A20; clear A20
 simp only [Option.some.injEq, Prod.mk.injEq] at H
 obtain ⟨rfl, rfl, rfl, rfl⟩ := H
 go_enter Try.func43, Try.ntmps43
 go_wp2_with (first | ((with_reducible refine gate_dst (N := 2) rfl ?_); refine box_event ?hg (N := 2) ?hd (cs := #[.int .i64 0, .slice none 0 0]) (t := 26) ?hr ?_; (case hd => rfl); (case hg => rfl); (case hr => first | (go_simp; done) | (go_simp; rfl)); intro gb516 hg w3 hbox hb; have BK516 := Aside0.mk (hbox); have GW516 := gw hg HB; have GE516 := gw hg HB; replace HB := bs HB hb; clear hb hbox hg) | ((with_reducible refine gate_dst (N := 3) rfl ?_); refine box_event ?hg (N := 3) ?hd (cs := #[.int .i64 0, .slice none 0 0]) (t := 29) ?hr ?_; (case hd => rfl); (case hg => rfl); (case hr => first | (go_simp; done) | (go_simp; rfl)); intro gb517 hg w4 hbox hb; have BK517 := Aside0.mk (hbox); have GW517 := gw hg HB; have GE517 := gw hg HB; replace HB := bs HB hb; have NB516_517 := nl hg BK516; have NB517_516 := ng hg BK516; replace BK516 := bb BK516 hb; clear hb hbox hg) | ((with_reducible refine gate_callee (f := 14) rfl ?_); refine gl (some 5) rfl rfl Try.func14 (by kernel_rfl) rfl #[.slice A0 l0.length c0] rfl ?_; (with_reducible refine (spec_DrawFindFarkas.calls k _ _ l0 t518 t519 t522 t523 _ ?side1 ?side2 A2.out).mono ?_); (case side1 => exact mc ((Kd.C_below HR0.out HB.out))); (case side2 => exact HC0.out); rintro e w5 ⟨v520, v524, rfl, ho0, ho1, hb⟩; refine ⟨_, rfl, ?_⟩; have HO521 := Aside0.mk (Kd.S_lower (Kd.S_newB ho0 (g := gb517) (o := .cells #[.int .i64 0, .slice none 0 0] 29 (0, 0)) (mb BK517)) (below_size (ms HB))); have HO525 := Aside0.mk (Kd.R_lower ho1 (below_size (ms HB))); replace BK516 := bb BK516 hb; replace BK517 := bb BK517 hb; replace HB := bs HB hb; (try clear hb); (try clear ho0); (try clear ho1); have := NB516_517.out; have := NB517_516.out; obtain ⟨_, _, _, _⟩ := cFour BK516; obtain ⟨Ao8, co8, eo8⟩ := Kd.S_slice HO521.out; subst eo8; obtain ⟨_, _, _, _⟩ := cFour BK517; obtain ⟨Ao10, co10, eo10⟩ := Kd.R_slice HO525.out; subst eo10))
 refine bodyPost_ret (results_cc rfl _ _ gb516 gb517 26 29 #[.int .i64 t518, .slice Ao8 t519.length co8] #[.int .i64 t522, .slice Ao10 t523.length co10] (0, 0) (0, 0) _ _ rfl (by (with_reducible repeat (first | refine blk_drewN ?_ _ | refine blk_drew ?_ | refine blk_alloc ?_ _)); refine blk_far ?_ NB516_517.out _; (with_reducible repeat (first | refine blk_drewN ?_ _ | refine blk_drew ?_ | refine blk_alloc ?_ _)); refine blk_far ?_ NB516_517.out _; (with_reducible repeat (first | refine blk_drewN ?_ _ | refine blk_drew ?_ | refine blk_alloc ?_ _)); refine blk_put (cs := #[.int .i64 t518, .slice none 0 0]) ?_ 1 _ rfl; (with_reducible repeat (first | refine blk_drewN ?_ _ | refine blk_drew ?_ | refine blk_alloc ?_ _)); refine blk_put (cs := #[.int .i64 0, .slice none 0 0]) ?_ 0 _ rfl; (with_reducible repeat (first | refine blk_drewN ?_ _ | refine blk_drew ?_ | refine blk_alloc ?_ _)); exact BK516.out) Try.underlying26 rfl (by kernel_rfl) rfl (by (with_reducible repeat (first | refine blk_drewN ?_ _ | refine blk_drew ?_ | refine blk_alloc ?_ _)); refine blk_put (cs := #[.int .i64 t522, .slice none 0 0]) ?_ 1 _ rfl; (with_reducible repeat (first | refine blk_drewN ?_ _ | refine blk_drew ?_ | refine blk_alloc ?_ _)); refine blk_put (cs := #[.int .i64 0, .slice none 0 0]) ?_ 0 _ rfl; (with_reducible repeat (first | refine blk_drewN ?_ _ | refine blk_drew ?_ | refine blk_alloc ?_ _)); refine blk_far ?_ NB517_516.out _; (with_reducible repeat (first | refine blk_drewN ?_ _ | refine blk_drew ?_ | refine blk_alloc ?_ _)); refine blk_far ?_ NB517_516.out _; (with_reducible repeat (first | refine blk_drewN ?_ _ | refine blk_drew ?_ | refine blk_alloc ?_ _)); exact BK517.out) Try.underlying29 rfl (by kernel_rfl)) rfl ?_
 exact ⟨_, _, by first | rfl | (simp [errW_none, errW_some] <;> rfl) | (simp [*, errW_none, errW_some] <;> rfl), by (with_reducible repeat (first | apply Kd.S_alloc | apply Kd.S_drewN | apply Kd.S_drew)); exact Kd.S_mono (Kd.S_far (p := ⟨gb517, 1, none⟩) (Kd.S_far (p := ⟨gb517, 0, none⟩) (Kd.S_far (p := ⟨gb516, 1, none⟩) (Kd.S_far (p := ⟨gb516, 0, none⟩) (Kd.S_mono (Kd.S_types HO521.out BK516.out (by decide)) (fun k_ hk => (⟨hk, hk.1.2⟩ : _ ∧ k_ ≠ gb517))) (fun _ hk => hk.1.2) (.int .i64 t518)) (fun _ hk => hk.1.2) (.slice Ao8 t519.length co8)) (fun _ hk => hk.2) (.int .i64 t522)) (fun _ hk => hk.2) (.slice Ao10 t523.length co10)) (fun _ hk => hk.1.1.1), by (with_reducible repeat (first | apply Kd.R_alloc | apply Kd.R_drewN | apply Kd.R_drew)); exact Kd.R_mono (Kd.R_far (p := ⟨gb517, 1, none⟩) (Kd.R_far (p := ⟨gb517, 0, none⟩) (Kd.R_far (p := ⟨gb516, 1, none⟩) (Kd.R_far (p := ⟨gb516, 0, none⟩) (Kd.R_types (Kd.R_types HO525.out BK516.out (by decide)) BK517.out (by decide)) (fun _ hk => hk.1.2) (.int .i64 t518)) (fun _ hk => hk.1.2) (.slice Ao8 t519.length co8)) (fun _ hk => hk.2) (.int .i64 t522)) (fun _ hk => hk.2) (.slice Ao10 t523.length co10)) (fun _ hk => trivial), ms HB⟩

/-! ### laws_at0: function 44 -/
def laws_at0.f (l0 : List Int) (a1 : Int) : Option (Int) := if a1 < (l0.length : Int) then (if 0 ≤ a1 then (some (wrap64 (rd l0 a1))) else (none)) else (some (Int.tmod (wrap64 ((wrap64 (a1 * 7)) + (l0.length : Int))) 256))
set_option maxHeartbeats 8000000 in
set_option maxRecDepth 100000 in
theorem laws_at0.calls (A0 : Option Addr) (c0 : Nat) (l0 : List Int) (a1 : Int) (r : Int) (w : World) (hr0 : Kd.C (Kd.int .u8) w A0 l0.length l0) (hc0 : l0.length ≤ c0) (h : laws_at0.f l0 a1 = some r) :
  Calls Try.prog 44 #[.slice A0 l0.length c0, .int .i64 a1] w fun e w' => e = .returned (.int .i64 r) ∧ Drawn0 w w' := by
 have HR0 := Aside0.mk hr0
 have HC0 := Aside0.mk hc0
 clear hr0 hc0
 have H : (if a1 < (l0.length : Int) then (if 0 ≤ a1 then (some (wrap64 (rd l0 a1))) else (none)) else (some (Int.tmod (wrap64 ((wrap64 (a1 * 7)) + (l0.length : Int))) 256))) = some r := h
 clear h
 by_cases c3 : a1 < (l0.length : Int)
 ·rw [if_pos c3] at H
  have c3b0 : decide (a1 < (l0.length : Int)) = true := decide_eq_true c3
  clear c3
  by_cases c4 : 0 ≤ a1
  ·rw [if_pos c4] at H
   have c4b0 : decide (0 ≤ a1) = true := decide_eq_true c4
   clear c4
   obtain rfl := Option.some.inj H
   have p526 : 0 ≤ (a1 : Int) := of_decide_eq_true (by first | (with_reducible assumption) | assumption)
   have q526 : a1 < (l0.length : Int) := of_decide_eq_true (by first | (with_reducible assumption) | assumption)
   obtain ⟨ad526, e526, hx526_0⟩ := Kd.at_int HR0.out a1 p526 q526
   cases e526
   replace p526 := eq_true p526
   replace q526 := eq_true q526
   go_enter Try.func44, Try.ntmps44
   go_wp2
   go_ret
   exact ⟨by first | rfl | (simp; done) | (simp [*]; done), by repeat (first | exact Drawn0.refl _ | apply Drawn0.step)⟩
  rw [if_neg c4] at H
  exact absurd H (by simp)
 rw [if_neg c3] at H
 have c3b0 : decide (a1 < (l0.length : Int)) = false := decide_eq_false c3
 clear c3
 obtain rfl := Option.some.inj H
 go_enter Try.func44, Try.ntmps44
 go_wp2
 go_ret
 exact ⟨by first | rfl | (simp; done) | (simp [*]; done), by repeat (first | exact Drawn0.refl _ | apply Drawn0.step)⟩

/-! ### spec_Fits: function 101 -/
def spec_Fits.f (a0 : Int) : Option (Bool) := (spec_l1In.f a0 (-1000000) 1000000).bind fun t527 => (some t527)
set_option maxHeartbeats 8000000 in
set_option maxRecDepth 100000 in
theorem spec_Fits.calls (a0 : Int) (r : Bool) (w : World) (h : spec_Fits.f a0 = some r) :
  Calls Try.prog 101 #[.int .i64 a0] w fun e w' => e = .returned (.bool r) ∧ Drawn0 w w' := by
 have H : ((spec_l1In.f a0 (-1000000) 1000000).bind fun t527 => (some t527)) = some r := h
 clear h
 obtain ⟨t527, A20, H⟩ := Option.bind_eq_some_iff.mp H
 try dsimp only at H
 have A2 := Aside0.mk A20; clear A20
 obtain rfl := Option.some.inj H
 go_enter Try.func101, Try.ntmps101
 go_wp2_with (((with_reducible refine gate_callee (f := 85) rfl ?_); refine gl (some 4) rfl rfl Try.func85 (by kernel_rfl) rfl #[.int .i64 a0, .int .i64 (-1000000), .int .i64 1000000] rfl ?_; (with_reducible refine (spec_l1In.calls a0 (-1000000) 1000000 t527 _ A2.out).mono ?_); rintro e w' ⟨rfl, ⟨nd, rfl⟩⟩; refine ⟨_, rfl, ?_⟩))
 go_ret
 exact ⟨by first | rfl | (simp; done) | (simp [*]; done), by repeat (first | exact Drawn0.refl _ | apply Drawn0.step)⟩

/-! ### spec_EvalLin: function 45 -/
def spec_EvalLin.l0 : Nat → List Int → Int → Int → Int → List Int → Option (Int × Bool)
 | 0, _, _, _, _, _ => none
 | k + 1, x1, x6, x7, x529000, x529001 => if x7 < (x1.length : Int) then (if 0 ≤ x7 then ((spec_Fits.f (rd x1 x7)).bind fun t531 => (if t531 = true then (if x7 < (x529001.length : Int) then (spec_EvalLin.l0 k x1 (wrap64 (x6 + (wrap64 ((rd x529001 x7) * (rd x1 x7))))) (wrap64 (x7 + 1)) x529000 x529001) else (none)) else (some (0, false)))) else (none)) else (some (x6, true))
def spec_EvalLin.f (k : Nat) (a0_0 : Int) (l0_1 : List Int) (l1 : List Int) : Option (Int × Bool) := (spec_IsValidLin.f k a0_0 l0_1 (l1.length : Int)).bind fun t529 => (if t529 = true then (spec_EvalLin.l0 k l1 a0_0 0 a0_0 l0_1) else (some (0, false)))
theorem spec_EvalLin.mono_l : ∀ k, (∀ y0 y1 y2 y3 y4, LeO (spec_EvalLin.l0 k y0 y1 y2 y3 y4) (spec_EvalLin.l0 (k + 1) y0 y1 y2 y3 y4))
 | 0 => fun _ _ _ _ _ r h => by simp [spec_EvalLin.l0] at h
 | k + 1 => by
  have ih0 := spec_EvalLin.mono_l k
  ·intro y0 y1 y2 y3 y4
   unfold spec_EvalLin.l0
   repeat' with_reducible first
   | exact ih0 _ _ _ _ _
   | exact spec_IsValidLin.mono _ _ _ _
   | exact LeO.refl _
   | exact LeO.none _
   | refine LeO.ite ?_ ?_
   | refine LeO.bind ?_ (fun _ => ?_)
theorem spec_EvalLin.mono : ∀ a0 a1 a2 k, LeO (spec_EvalLin.f k a0 a1 a2) (spec_EvalLin.f (k + 1) a0 a1 a2) := by
 intro a0 a1 a2 k
 have ih0 := spec_EvalLin.mono_l k
 unfold spec_EvalLin.f
 repeat' with_reducible first
 | exact ih0 _ _ _ _ _
 | exact spec_IsValidLin.mono _ _ _ _
 | exact LeO.refl _
 | exact LeO.none _
 | refine LeO.ite ?_ ?_
 | refine LeO.bind ?_ (fun _ => ?_)
set_option maxHeartbeats 8000000 in
set_option maxRecDepth 100000 in
theorem spec_EvalLin.calls (k : Nat) (a0_0 : Int) (A0_1 : Option Addr) (c0_1 : Nat) (l0_1 : List Int) (A1 : Option Addr) (c1 : Nat) (l1 : List Int) (r1 : Int) (r2 : Bool) (w : World) (hr0_1 : Kd.C (Kd.int .i64) w A0_1 l0_1.length l0_1) (hc0_1 : l0_1.length ≤ c0_1) (hr1 : Kd.C (Kd.int .i64) w A1 l1.length l1) (hc1 : l1.length ≤ c1) (h : spec_EvalLin.f k a0_0 l0_1 l1 = some (r1, r2)) :
  Calls Try.prog 45 #[.agg #[.int .i64 a0_0, .slice A0_1 l0_1.length c0_1], .slice A1 l1.length c1] w fun e w' => e = .returned (.tuple #[.int .i64 r1, .bool r2]) ∧ Below w.heap.size w w' := by
 have hu29 := Try.underlying29
 have HR0_1 := Aside0.mk hr0_1
 have HC0_1 := Aside0.mk hc0_1
 clear hr0_1 hc0_1
 have HR1 := Aside0.mk hr1
 have HC1 := Aside0.mk hc1
 clear hr1 hc1
 have HB := Aside0.mk (Below.refl w.heap.size w)
 have H : ((spec_IsValidLin.f k a0_0 l0_1 (l1.length : Int)).bind fun t529 => (if t529 = true then (spec_EvalLin.l0 k l1 a0_0 0 a0_0 l0_1) else (some (0, false)))) = some (r1, r2) := h
 clear h
 obtain ⟨t529, A30, H⟩ := Option.bind_eq_some_iff.mp H
 try dsimp only at H
 have A3 := Aside0.mk A30; clear A30
 by_cases c4 : t529 = true
 ·subst c4
  rw [if_pos rfl] at H
  have H' := Aside0.mk H
  clear H
  go_enter Try.func45, Try.ntmps45
  go_wp2_with (first | ((with_reducible refine gate_dst (N := 2) rfl ?_); refine box_event ?hg (N := 2) ?hd (cs := #[.int .i64 a0_0, .slice A0_1 l0_1.length c0_1]) (t := 29) ?hr ?_; (case hd => rfl); (case hg => rfl); (case hr => first | (go_simp; done) | (go_simp; rfl)); intro gb528 hg w5 hbox hb; have BK528 := Aside0.mk (hbox); have GW528 := gw hg HB; have GE528 := gw hg HB; replace HB := bs HB hb; clear hb hbox hg; obtain ⟨hcz6_0, hcz6_1, hfz6_0, hfz6_1⟩ := cFour BK528) | (go_at_call 80; (with_reducible refine (spec_IsValidLin.calls k a0_0 _ _ l0_1 (l1.length : Int) true _ ?side1 ?side2 A3.out).mono ?_); (case side1 => exact mc ((Kd.C_below HR0_1.out HB.out))); (case side2 => exact HC0_1.out); rintro e w7 ⟨rfl, hb⟩; replace BK528 := bb BK528 hb; replace HB := bs HB hb; (try clear hb); obtain ⟨hcz8_0, hcz8_1, hfz8_0, hfz8_1⟩ := cFour BK528))
  repeat (go_quiet (fail); try go_wp2_with (fail))
  go_loopg [6, 7] k (fun kq v6 v7 w' => ∃ (x6_1 : Int) (x7_1 : Int), v6 = .int .i64 x6_1 ∧ v7 = .int .i64 x7_1 ∧ Aside0 (spec_EvalLin.l0 kq l1 x6_1 x7_1 a0_0 l0_1 = some (r1, r2)) ∧ Aside0 (kq ≤ k) ∧ Aside0 (w'.heap[gb528]? = some (.cells #[.int .i64 a0_0, (.slice A0_1 l0_1.length c0_1)] 29 (0, 0))) ∧ Aside0 (Below w.heap.size w w'))
  case atStart => exact ⟨(a0_0), (0), (by first | rfl | (simp; done) | (simp [*]; done)), (by first | rfl | (simp; done) | (simp [*]; done)), H', ⟨Nat.le_refl _⟩, ⟨mb BK528⟩, ⟨ms HB⟩⟩
  case round =>
   clear H'
   try clear c1
   try clear p2
   try clear c4
   try clear hcz6_0
   try clear hcz6_1
   try clear hcz8_0
   try clear hcz8_1
   try clear hfz6_0
   try clear hfz6_1
   try clear hfz8_0
   try clear hfz8_1
   obtain ⟨x6_1, x7_1, rfl, rfl, HA, HK1, BK528, HB⟩ := hrel
   cases gk with
   | zero => exact absurd HA.out (by simp [spec_EvalLin.l0])
   | succ k1 =>
    have H := HA.out
    clear HA
    simp only [spec_EvalLin.l0] at H
    by_cases c9 : x7_1 < (l1.length : Int)
    ·rw [if_pos c9] at H
     have c9b0 : decide (x7_1 < (l1.length : Int)) = true := decide_eq_true c9
     clear c9
     by_cases c10 : 0 ≤ x7_1
     ·rw [if_pos c10] at H
      have c10b0 : decide (0 ≤ x7_1) = true := decide_eq_true c10
      clear c10
      obtain ⟨t531, A110, H⟩ := Option.bind_eq_some_iff.mp H
      try dsimp only at H
      have A11 := Aside0.mk A110; clear A110
      by_cases c12 : t531 = true
      ·subst c12
       rw [if_pos rfl] at H
       by_cases c13 : x7_1 < (l0_1.length : Int)
       ·rw [if_pos c13] at H
        have c13b0 : decide (x7_1 < (l0_1.length : Int)) = true := decide_eq_true c13
        clear c13
        have H' := Aside0.mk H
        clear H
        have p530 : 0 ≤ (x7_1 : Int) := of_decide_eq_true (by first | (with_reducible assumption) | assumption)
        have q530 : x7_1 < (l1.length : Int) := of_decide_eq_true (by first | (with_reducible assumption) | assumption)
        obtain ⟨ad530, e530, hx530_0⟩ := Kd.at_int HR1.out x7_1 p530 q530
        cases e530
        replace hx530_0 := (HB.out.cell (World.block_lt_of_cell? w _ hx530_0)).trans hx530_0
        replace p530 := eq_true p530
        replace q530 := eq_true q530
        go_wp2_with ((go_at_call 101; (with_reducible refine (spec_Fits.calls (rd l1 x7_1) true _ A11.out).mono ?_); rintro e w' ⟨rfl, ⟨nd, rfl⟩⟩; (try first | exact ⟨rfl, _, World.drewN_drewN _ _ _⟩ | exact ⟨rfl, _, Eq.trans (World.drewN_drewN _ _ _) (congrArg (World.drewN _) (Nat.add_assoc _ _ _))⟩); obtain ⟨hcz14_0, hcz14_1, hfz14_0, hfz14_1⟩ := cFour BK528; have p532 : 0 ≤ (x7_1 : Int) := of_decide_eq_true (by first | (with_reducible assumption) | assumption); have q532 : x7_1 < (l0_1.length : Int) := of_decide_eq_true (by first | (with_reducible assumption) | assumption); obtain ⟨ad532, e532, hx532_0⟩ := Kd.at_int HR0_1.out x7_1 p532 q532; cases e532; replace hx532_0 := (HB.out.cell (World.block_lt_of_cell? w _ hx532_0)).trans hx532_0; replace p532 := eq_true p532; replace q532 := eq_true q532; have p533 : 0 ≤ (x7_1 : Int) := of_decide_eq_true (by first | (with_reducible assumption) | assumption); have q533 : x7_1 < (l1.length : Int) := of_decide_eq_true (by first | (with_reducible assumption) | assumption); obtain ⟨ad533, e533, hx533_0⟩ := Kd.at_int HR1.out x7_1 p533 q533; obtain rfl : ad530 = ad533 := (by injection e533); replace hx533_0 := (HB.out.cell (World.block_lt_of_cell? w _ hx533_0)).trans hx533_0; replace p533 := eq_true p533; replace q533 := eq_true q533))
        repeat (go_quiet (fail); try go_wp2_with (fail))
        go_roundg k1
        case measure => have := HK1.out; omega
        case rel => exact ⟨(wrap64 (x6_1 + (wrap64 ((rd l0_1 x7_1) * (rd l1 x7_1))))), (wrap64 (x7_1 + 1)), (by first | rfl | (simp; done) | (simp [*]; done)), (by first | rfl | (simp; done) | (simp [*]; done)), H', ⟨by have := HK1.out; omega⟩, ⟨mb BK528⟩, ⟨ms HB⟩⟩
       rw [if_neg c13] at H
       exact absurd H (by simp)
      replace c12 := Bool.eq_false_iff.mpr c12
      subst c12
      rw [if_neg (show ¬ (false = true) by decide)] at H
      simp only [Option.some.injEq, Prod.mk.injEq] at H
      obtain ⟨rfl, rfl⟩ := H
      have p530 : 0 ≤ (x7_1 : Int) := of_decide_eq_true (by first | (with_reducible assumption) | assumption)
      have q530 : x7_1 < (l1.length : Int) := of_decide_eq_true (by first | (with_reducible assumption) | assumption)
      obtain ⟨ad530, e530, hx530_0⟩ := Kd.at_int HR1.out x7_1 p530 q530
      cases e530
      replace hx530_0 := (HB.out.cell (World.block_lt_of_cell? w _ hx530_0)).trans hx530_0
      replace p530 := eq_true p530
      replace q530 := eq_true q530
      go_wp2_with ((go_at_call 101; (with_reducible refine (spec_Fits.calls (rd l1 x7_1) false _ A11.out).mono ?_); rintro e w' ⟨rfl, ⟨nd, rfl⟩⟩; (try first | exact ⟨rfl, _, World.drewN_drewN _ _ _⟩ | exact ⟨rfl, _, Eq.trans (World.drewN_drewN _ _ _) (congrArg (World.drewN _) (Nat.add_assoc _ _ _))⟩)))
      repeat (go_quiet (fail); try go_wp2_with (fail))
      go_ret2
      exact ⟨by first | rfl | (simp [errW_none, errW_some] <;> rfl) | (simp [*, errW_none, errW_some] <;> rfl), ms HB⟩
     rw [if_neg c10] at H
     exact absurd H (by simp)
    rw [if_neg c9] at H
    have c9b0 : decide (x7_1 < (l1.length : Int)) = false := decide_eq_false c9
    clear c9
    simp only [Option.some.injEq, Prod.mk.injEq] at H
    obtain ⟨rfl, rfl⟩ := H
    go_wp2
    repeat (go_quiet (fail); try go_wp2)
    go_ret2
    exact ⟨by first | rfl | (simp [errW_none, errW_some] <;> rfl) | (simp [*, errW_none, errW_some] <;> rfl), ms HB⟩
 replace c4 := Bool.eq_false_iff.mpr c4
 subst c4
 rw [if_neg (show ¬ (false = true) by decide)] at H
 simp only [Option.some.injEq, Prod.mk.injEq] at H
 obtain ⟨rfl, rfl⟩ := H
 go_enter Try.func45, Try.ntmps45
 go_wp2_with (first | ((with_reducible refine gate_dst (N := 2) rfl ?_); refine box_event ?hg (N := 2) ?hd (cs := #[.int .i64 a0_0, .slice A0_1 l0_1.length c0_1]) (t := 29) ?hr ?_; (case hd => rfl); (case hg => rfl); (case hr => first | (go_simp; done) | (go_simp; rfl)); intro gb528 hg w15 hbox hb; have BK528 := Aside0.mk (hbox); have GW528 := gw hg HB; have GE528 := gw hg HB; replace HB := bs HB hb; clear hb hbox hg; obtain ⟨_, _, _, _⟩ := cFour BK528) | (go_at_call 80; (with_reducible refine (spec_IsValidLin.calls k a0_0 _ _ l0_1 (l1.length : Int) false _ ?side1 ?side2 A3.out).mono ?_); (case side1 => exact mc ((Kd.C_below HR0_1.out HB.out))); (case side2 => exact HC0_1.out); rintro e w17 ⟨rfl, hb⟩; replace BK528 := bb BK528 hb; replace HB := bs HB hb; (try clear hb)))
 repeat (go_quiet (fail); try go_wp2_with (fail))
 go_ret2
 exact ⟨by first | rfl | (simp [errW_none, errW_some] <;> rfl) | (simp [*, errW_none, errW_some] <;> rfl), ms HB⟩

/-! ### spec_Satisfies: function 46 -/
mutual
def spec_Satisfies.l0 : Nat → List Int → Int → Int → List (S29) → Option (Bool)
 | 0, _, _, _, _ => none
 | k + 1, x1, x5, x535000, x535001 => if x5 < (x1.length : Int) then (if 0 ≤ x5 then ((spec_Fits.f (rd x1 x5)).bind fun t536 => (if t536 = true then (spec_Satisfies.l0 k x1 (wrap64 (x5 + 1)) x535000 x535001) else (some false))) else (none)) else ((spec_IsValidSystem.f k x535000 x535001).bind fun t537 => (if t537 = true then (spec_Satisfies.j1 k x1 ((x1.length : Int) != x535000) x535000 x535001) else (spec_Satisfies.j1 k x1 true x535000 x535001)))
def spec_Satisfies.j1 : Nat → List Int → Bool → Int → List (S29) → Option (Bool)
 | 0, _, _, _, _ => none
 | k + 1, x1, x30, x535000, x535001 => if x30 = true then (some false) else (spec_Satisfies.l1 k x1 0 x535000 x535001)
def spec_Satisfies.l1 : Nat → List Int → Int → Int → List (S29) → Option (Bool)
 | 0, _, _, _, _ => none
 | k + 1, x1, x6, x535000, x535001 => if x6 < (x535001.length : Int) then (if 0 ≤ x6 then ((spec_EvalLin.f k ((rd_T29 x535001 x6).f0) ((rd_T29 x535001 x6).f1) x1).bind fun bt539 => (if bt539.1 < 0 then (some false) else (spec_Satisfies.l1 k x1 (wrap64 (x6 + 1)) x535000 x535001))) else (none)) else (some true)
end
def spec_Satisfies.f (k : Nat) (a0_0 : Int) (l0_1 : List (S29)) (l1 : List Int) : Option (Bool) := spec_Satisfies.l0 k l1 0 a0_0 l0_1
theorem spec_Satisfies.mono_l : ∀ k, (∀ y0 y1 y2 y3, LeO (spec_Satisfies.l0 k y0 y1 y2 y3) (spec_Satisfies.l0 (k + 1) y0 y1 y2 y3)) ∧ (∀ y0 y1 y2 y3, LeO (spec_Satisfies.j1 k y0 y1 y2 y3) (spec_Satisfies.j1 (k + 1) y0 y1 y2 y3)) ∧ (∀ y0 y1 y2 y3, LeO (spec_Satisfies.l1 k y0 y1 y2 y3) (spec_Satisfies.l1 (k + 1) y0 y1 y2 y3))
 | 0 => ⟨fun _ _ _ _ r h => by simp [spec_Satisfies.l0] at h, fun _ _ _ _ r h => by simp [spec_Satisfies.j1] at h, fun _ _ _ _ r h => by simp [spec_Satisfies.l1] at h⟩
 | k + 1 => by
  obtain ⟨ih0, ih1, ih2⟩ := spec_Satisfies.mono_l k
  refine ⟨?_, ?_, ?_⟩
  ·intro y0 y1 y2 y3
   unfold spec_Satisfies.l0
   repeat' with_reducible first
   | exact ih0 _ _ _ _
   | exact ih1 _ _ _ _
   | exact ih2 _ _ _ _
   | exact spec_EvalLin.mono _ _ _ _
   | exact spec_IsValidSystem.mono _ _ _
   | exact LeO.refl _
   | exact LeO.none _
   | refine LeO.ite ?_ ?_
   | refine LeO.bind ?_ (fun _ => ?_)
  ·intro y0 y1 y2 y3
   unfold spec_Satisfies.j1
   repeat' with_reducible first
   | exact ih0 _ _ _ _
   | exact ih1 _ _ _ _
   | exact ih2 _ _ _ _
   | exact spec_EvalLin.mono _ _ _ _
   | exact spec_IsValidSystem.mono _ _ _
   | exact LeO.refl _
   | exact LeO.none _
   | refine LeO.ite ?_ ?_
   | refine LeO.bind ?_ (fun _ => ?_)
  intro y0 y1 y2 y3
  unfold spec_Satisfies.l1
  repeat' with_reducible first
  | exact ih0 _ _ _ _
  | exact ih1 _ _ _ _
  | exact ih2 _ _ _ _
  | exact spec_EvalLin.mono _ _ _ _
  | exact spec_IsValidSystem.mono _ _ _
  | exact LeO.refl _
  | exact LeO.none _
  | refine LeO.ite ?_ ?_
  | refine LeO.bind ?_ (fun _ => ?_)
theorem spec_Satisfies.mono : ∀ a0 a1 a2 k, LeO (spec_Satisfies.f k a0 a1 a2) (spec_Satisfies.f (k + 1) a0 a1 a2) := by
 intro a0 a1 a2 k
 obtain ⟨ih0, ih1, ih2⟩ := spec_Satisfies.mono_l k
 unfold spec_Satisfies.f
 repeat' with_reducible first
 | exact ih0 _ _ _ _
 | exact ih1 _ _ _ _
 | exact ih2 _ _ _ _
 | exact spec_EvalLin.mono _ _ _ _
 | exact spec_IsValidSystem.mono _ _ _
 | exact LeO.refl _
 | exact LeO.none _
 | refine LeO.ite ?_ ?_
 | refine LeO.bind ?_ (fun _ => ?_)
set_option maxHeartbeats 8000000 in
set_option maxRecDepth 100000 in
theorem spec_Satisfies.calls (k : Nat) (a0_0 : Int) (A0_1 : Option Addr) (c0_1 : Nat) (l0_1 : List (S29)) (A1 : Option Addr) (c1 : Nat) (l1 : List Int) (r : Bool) (w : World) (hr0_1 : Kd.C k29 w A0_1 l0_1.length l0_1) (hc0_1 : l0_1.length ≤ c0_1) (hr1 : Kd.C (Kd.int .i64) w A1 l1.length l1) (hc1 : l1.length ≤ c1) (h : spec_Satisfies.f k a0_0 l0_1 l1 = some r) :
  Calls Try.prog 46 #[.agg #[.int .i64 a0_0, .slice A0_1 l0_1.length c0_1], .slice A1 l1.length c1] w fun e w' => e = .returned (.bool r) ∧ Below w.heap.size w w' := by
 have hu26 := Try.underlying26
 have hu29 := Try.underlying29
 have HR0_1 := Aside0.mk hr0_1
 have HC0_1 := Aside0.mk hc0_1
 clear hr0_1 hc0_1
 have HR1 := Aside0.mk hr1
 have HC1 := Aside0.mk hc1
 clear hr1 hc1
 have HB := Aside0.mk (Below.refl w.heap.size w)
 have H : (spec_Satisfies.l0 k l1 0 a0_0 l0_1) = some r := h
 clear h
 have H' := Aside0.mk H
 clear H
 go_enter Try.func46, Try.ntmps46
 go_wp2_with (((with_reducible refine gate_dst (N := 2) rfl ?_); refine box_event ?hg (N := 2) ?hd (cs := #[.int .i64 a0_0, .slice A0_1 l0_1.length c0_1]) (t := 26) ?hr ?_; (case hd => rfl); (case hg => rfl); (case hr => first | (go_simp; done) | (go_simp; rfl)); intro gb534 hg w3 hbox hb; have BK534 := Aside0.mk (hbox); have GW534 := gw hg HB; have GE534 := gw hg HB; replace HB := bs HB hb; clear hb hbox hg))
 go_loopg [5] k (fun kq v5 w' => ∃ (x5_1 : Int), v5 = .int .i64 x5_1 ∧ Aside0 (spec_Satisfies.l0 kq l1 x5_1 a0_0 l0_1 = some r) ∧ Aside0 (kq ≤ k) ∧ Aside0 (w'.heap[gb534]? = some (.cells #[.int .i64 a0_0, (.slice A0_1 l0_1.length c0_1)] 26 (0, 0))) ∧ Aside0 (Below w.heap.size w w'))
 case atStart => exact ⟨(0), (by first | rfl | (simp; done) | (simp [*]; done)), H', ⟨Nat.le_refl _⟩, ⟨mb BK534⟩, ⟨ms HB⟩⟩
 case round =>
  clear H'
  try clear c1
  try clear p2
  obtain ⟨x5_1, rfl, HA, HK1, BK534, HB⟩ := hrel
  cases gk with
  | zero => exact absurd HA.out (by simp [spec_Satisfies.l0])
  | succ k1 =>
   have H := HA.out
   clear HA
   simp only [spec_Satisfies.l0] at H
   by_cases c4 : x5_1 < (l1.length : Int)
   ·rw [if_pos c4] at H
    have c4b0 : decide (x5_1 < (l1.length : Int)) = true := decide_eq_true c4
    clear c4
    by_cases c5 : 0 ≤ x5_1
    ·rw [if_pos c5] at H
     have c5b0 : decide (0 ≤ x5_1) = true := decide_eq_true c5
     clear c5
     obtain ⟨t536, A60, H⟩ := Option.bind_eq_some_iff.mp H
     try dsimp only at H
     have A6 := Aside0.mk A60; clear A60
     by_cases c7 : t536 = true
     ·subst c7
      rw [if_pos rfl] at H
      have H' := Aside0.mk H
      clear H
      have p535 : 0 ≤ (x5_1 : Int) := of_decide_eq_true (by first | (with_reducible assumption) | assumption)
      have q535 : x5_1 < (l1.length : Int) := of_decide_eq_true (by first | (with_reducible assumption) | assumption)
      obtain ⟨ad535, e535, hx535_0⟩ := Kd.at_int HR1.out x5_1 p535 q535
      cases e535
      replace hx535_0 := (HB.out.cell (World.block_lt_of_cell? w _ hx535_0)).trans hx535_0
      replace p535 := eq_true p535
      replace q535 := eq_true q535
      go_wp2_with (((with_reducible refine gate_callee (f := 101) rfl ?_); refine gl (some 19) rfl rfl Try.func101 (by kernel_rfl) rfl #[.int .i64 (rd l1 x5_1)] rfl ?_; (with_reducible refine (spec_Fits.calls (rd l1 x5_1) true _ A6.out).mono ?_); rintro e w' ⟨rfl, ⟨nd, rfl⟩⟩; refine ⟨_, rfl, ?_⟩))
      go_roundg k1
      case measure => have := HK1.out; omega
      case rel => exact ⟨(wrap64 (x5_1 + 1)), (by first | rfl | (simp; done) | (simp [*]; done)), H', ⟨by have := HK1.out; omega⟩, ⟨mb BK534⟩, ⟨ms HB⟩⟩
     replace c7 := Bool.eq_false_iff.mpr c7
     subst c7
     rw [if_neg (show ¬ (false = true) by decide)] at H
     obtain rfl := Option.some.inj H
     have p535 : 0 ≤ (x5_1 : Int) := of_decide_eq_true (by first | (with_reducible assumption) | assumption)
     have q535 : x5_1 < (l1.length : Int) := of_decide_eq_true (by first | (with_reducible assumption) | assumption)
     obtain ⟨ad535, e535, hx535_0⟩ := Kd.at_int HR1.out x5_1 p535 q535
     cases e535
     replace hx535_0 := (HB.out.cell (World.block_lt_of_cell? w _ hx535_0)).trans hx535_0
     replace p535 := eq_true p535
     replace q535 := eq_true q535
     go_wp2_with (((with_reducible refine gate_callee (f := 101) rfl ?_); refine gl (some 19) rfl rfl Try.func101 (by kernel_rfl) rfl #[.int .i64 (rd l1 x5_1)] rfl ?_; (with_reducible refine (spec_Fits.calls (rd l1 x5_1) false _ A6.out).mono ?_); rintro e w' ⟨rfl, ⟨nd, rfl⟩⟩; refine ⟨_, rfl, ?_⟩))
     go_ret
     exact ⟨by first | rfl | (simp [errW_none, errW_some] <;> rfl) | (simp [*, errW_none, errW_some] <;> rfl), ms HB⟩
    rw [if_neg c5] at H
    exact absurd H (by simp)
   rw [if_neg c4] at H
   have c4b0 : decide (x5_1 < (l1.length : Int)) = false := decide_eq_false c4
   clear c4
   have HC8 := Aside0.mk H; clear H
   go_upto_region 6 with (fail)
   go_cut [30] (fun v30 wc => ∃ (kq : Nat) (x30_7 : Bool), v30 = .bool x30_7 ∧ Aside0 (spec_Satisfies.j1 kq l1 x30_7 a0_0 l0_1 = some r) ∧ Aside0 (kq ≤ k1) ∧ Aside0 (wc.heap[gb534]? = some (.cells #[.int .i64 a0_0, (.slice A0_1 l0_1.length c0_1)] 26 (0, 0))) ∧ Aside0 (Below w.heap.size w wc))
   case first =>
    have H := HC8.out
    clear HC8
    obtain ⟨t537, A90, H⟩ := Option.bind_eq_some_iff.mp H
    try dsimp only at H
    have A9 := Aside0.mk A90; clear A90
    by_cases c10 : t537 = true
    ·subst c10
     rw [if_pos rfl] at H
     have H' := Aside0.mk H
     clear H
     obtain ⟨hcz11_0, hcz11_1, hfz11_0, hfz11_1⟩ := cFour BK534
     go_wp2_with (((with_reducible refine gate_callee (f := 79) rfl ?_); refine gl (some 22) rfl rfl Try.func79 (by kernel_rfl) rfl #[.agg #[.int .i64 a0_0, .slice A0_1 l0_1.length c0_1]] rfl ?_; (with_reducible refine (spec_IsValidSystem.calls k1 a0_0 _ _ l0_1 true _ ?side1 ?side2 A9.out).mono ?_); (case side1 => exact mc ((Kd.C_below HR0_1.out HB.out))); (case side2 => exact HC0_1.out); rintro e w12 ⟨rfl, hb⟩; refine ⟨_, rfl, ?_⟩; replace BK534 := bb BK534 hb; replace HB := bs HB hb; (try clear hb); obtain ⟨hcz13_0, hcz13_1, hfz13_0, hfz13_1⟩ := cFour BK534))
     go_meet
     case rel => exact ⟨_, (((l1.length : Int) != a0_0)), (by first | rfl | (simp; done) | (simp [*]; done)), H', ⟨by have := HK1.out; first | omega | exact Nat.le_refl _⟩, ⟨mb BK534⟩, ⟨ms HB⟩⟩
    replace c10 := Bool.eq_false_iff.mpr c10
    subst c10
    rw [if_neg (show ¬ (false = true) by decide)] at H
    have H' := Aside0.mk H
    clear H
    obtain ⟨hcz14_0, hcz14_1, hfz14_0, hfz14_1⟩ := cFour BK534
    go_wp2_with (((with_reducible refine gate_callee (f := 79) rfl ?_); refine gl (some 22) rfl rfl Try.func79 (by kernel_rfl) rfl #[.agg #[.int .i64 a0_0, .slice A0_1 l0_1.length c0_1]] rfl ?_; (with_reducible refine (spec_IsValidSystem.calls k1 a0_0 _ _ l0_1 false _ ?side1 ?side2 A9.out).mono ?_); (case side1 => exact mc ((Kd.C_below HR0_1.out HB.out))); (case side2 => exact HC0_1.out); rintro e w15 ⟨rfl, hb⟩; refine ⟨_, rfl, ?_⟩; replace BK534 := bb BK534 hb; replace HB := bs HB hb; (try clear hb)))
    go_meet
    case rel => exact ⟨_, (true), (by first | rfl | (simp; done) | (simp [*]; done)), H', ⟨by have := HK1.out; first | omega | exact Nat.le_refl _⟩, ⟨mb BK534⟩, ⟨ms HB⟩⟩
   case rest =>
    clear HC8
    try clear c1
    try clear p2
    try clear c4
    try clear c4b0
    try clear c5
    try clear c5b0
    try clear p5
    try clear q5
    try clear hx5
    try clear p6
    try clear c7
    try clear c10
    try clear hcz11_0
    try clear hcz11_1
    try clear hcz13_0
    try clear hcz13_1
    try clear hcz14_0
    try clear hcz14_1
    try clear hfz11_0
    try clear hfz11_1
    try clear hfz13_0
    try clear hfz13_1
    try clear hfz14_0
    try clear hfz14_1
    try clear hx535_0
    try clear p2
    try clear p535
    try clear q535
    obtain ⟨kq, x30_7, rfl, HA, HJ7, BK534, HB⟩ := hcut
    cases kq with
    | zero => exact absurd HA.out (by simp [spec_Satisfies.j1])
    | succ kj7 =>
     have H := HA.out
     clear HA
     simp only [spec_Satisfies.j1] at H
     by_cases c16 : x30_7 = true
     ·subst c16
      rw [if_pos rfl] at H
      obtain rfl := Option.some.inj H
      go_wp2
      go_ret
      exact ⟨by first | rfl | (simp [errW_none, errW_some] <;> rfl) | (simp [*, errW_none, errW_some] <;> rfl), ms HB⟩
     replace c16 := Bool.eq_false_iff.mpr c16
     subst c16
     rw [if_neg (show ¬ (false = true) by decide)] at H
     have H' := Aside0.mk H
     clear H
     go_wp2
     go_loopg [6] kj7 (fun kq v6 w' => ∃ (x6_3 : Int), v6 = .int .i64 x6_3 ∧ Aside0 (spec_Satisfies.l1 kq l1 x6_3 a0_0 l0_1 = some r) ∧ Aside0 (kq ≤ kj7) ∧ Aside0 (w'.heap[gb534]? = some (.cells #[.int .i64 a0_0, (.slice A0_1 l0_1.length c0_1)] 26 (0, 0))) ∧ Aside0 (Below w.heap.size w w'))
     case atStart => exact ⟨(0), (by first | rfl | (simp; done) | (simp [*]; done)), H', ⟨Nat.le_refl _⟩, ⟨mb BK534⟩, ⟨ms HB⟩⟩
     case round =>
      clear H'
      try clear c1
      try clear p2
      try clear c4
      try clear c4b0
      try clear c5
      try clear c5b0
      try clear p5
      try clear q5
      try clear hx5
      try clear p6
      try clear c7
      try clear c10
      try clear c16
      try clear hcz11_0
      try clear hcz11_1
      try clear hcz13_0
      try clear hcz13_1
      try clear hcz14_0
      try clear hcz14_1
      try clear hfz11_0
      try clear hfz11_1
      try clear hfz13_0
      try clear hfz13_1
      try clear hfz14_0
      try clear hfz14_1
      try clear hx535_0
      try clear p2
      try clear p5
      try clear p535
      try clear p6
      try clear q5
      try clear q535
      obtain ⟨x6_3, rfl, HA, HK3, BK534, HB⟩ := hrel
      cases gk with
      | zero => exact absurd HA.out (by simp [spec_Satisfies.l1])
      | succ k3 =>
       have H := HA.out
       clear HA
       simp only [spec_Satisfies.l1] at H
       by_cases c17 : x6_3 < (l0_1.length : Int)
       ·rw [if_pos c17] at H
        have c17b0 : decide (x6_3 < (l0_1.length : Int)) = true := decide_eq_true c17
        clear c17
        by_cases c18 : 0 ≤ x6_3
        ·rw [if_pos c18] at H
         have c18b0 : decide (0 ≤ x6_3) = true := decide_eq_true c18
         clear c18
         obtain ⟨⟨t539, t540⟩, A190, H⟩ := Option.bind_eq_some_iff.mp H
         try dsimp only at H
         have A19 := Aside0.mk A190; clear A190
         by_cases c20 : t539 < 0
         ·rw [if_pos c20] at H
          have c20b0 : decide (t539 < 0) = true := decide_eq_true c20
          clear c20
          obtain rfl := Option.some.inj H
          obtain ⟨_, _, _, _⟩ := cFour BK534
          have p538 : 0 ≤ (x6_3 : Int) := of_decide_eq_true (by first | (with_reducible assumption) | assumption)
          have q538 : x6_3 < (l0_1.length : Int) := of_decide_eq_true (by first | (with_reducible assumption) | assumption)
          obtain ⟨ad538, A538_1, c538_1, e538, hx538_0, hx538_1, hl538_1, hi538_1⟩ := at_T29 HR0_1.out x6_3 p538 q538
          cases e538
          replace hx538_0 := (HB.out.cell (World.block_lt_of_cell? w _ hx538_0)).trans hx538_0
          replace hx538_1 := (HB.out.cell (World.block_lt_of_cell? w _ hx538_1)).trans hx538_1
          have HR538_1 := Aside0.mk hi538_1
          have HC538_1 := Aside0.mk hl538_1
          clear hi538_1 hl538_1
          replace p538 := eq_true p538
          replace q538 := eq_true q538
          go_wp2_with (((with_reducible refine gate_callee (f := 45) rfl ?_); refine gl (some 45) rfl rfl Try.func45 (by kernel_rfl) rfl #[.agg #[.int .i64 ((rd_T29 l0_1 x6_3).f0), .slice A538_1 ((rd_T29 l0_1 x6_3).f1).length c538_1], .slice A1 l1.length c1] rfl ?_; (with_reducible refine (spec_EvalLin.calls k3 ((rd_T29 l0_1 x6_3).f0) _ _ ((rd_T29 l0_1 x6_3).f1) _ _ l1 t539 t540 _ ?side1 ?side2 ?side3 ?side4 A19.out).mono ?_); (case side1 => exact mc ((Kd.C_below HR538_1.out HB.out))); (case side2 => exact HC538_1.out); (case side3 => exact mc ((Kd.C_below HR1.out HB.out))); (case side4 => exact HC1.out); rintro e w22 ⟨rfl, hb⟩; refine ⟨_, rfl, ?_⟩; replace BK534 := bb BK534 hb; replace HB := bs HB hb; (try clear hb)))
          go_ret
          exact ⟨by first | rfl | (simp [errW_none, errW_some] <;> rfl) | (simp [*, errW_none, errW_some] <;> rfl), ms HB⟩
         rw [if_neg c20] at H
         have c20b0 : decide (t539 < 0) = false := decide_eq_false c20
         clear c20
         have H' := Aside0.mk H
         clear H
         obtain ⟨_, _, _, _⟩ := cFour BK534
         have p538 : 0 ≤ (x6_3 : Int) := of_decide_eq_true (by first | (with_reducible assumption) | assumption)
         have q538 : x6_3 < (l0_1.length : Int) := of_decide_eq_true (by first | (with_reducible assumption) | assumption)
         obtain ⟨ad538, A538_1, c538_1, e538, hx538_0, hx538_1, hl538_1, hi538_1⟩ := at_T29 HR0_1.out x6_3 p538 q538
         cases e538
         replace hx538_0 := (HB.out.cell (World.block_lt_of_cell? w _ hx538_0)).trans hx538_0
         replace hx538_1 := (HB.out.cell (World.block_lt_of_cell? w _ hx538_1)).trans hx538_1
         have HR538_1 := Aside0.mk hi538_1
         have HC538_1 := Aside0.mk hl538_1
         clear hi538_1 hl538_1
         replace p538 := eq_true p538
         replace q538 := eq_true q538
         go_wp2_with (((with_reducible refine gate_callee (f := 45) rfl ?_); refine gl (some 45) rfl rfl Try.func45 (by kernel_rfl) rfl #[.agg #[.int .i64 ((rd_T29 l0_1 x6_3).f0), .slice A538_1 ((rd_T29 l0_1 x6_3).f1).length c538_1], .slice A1 l1.length c1] rfl ?_; (with_reducible refine (spec_EvalLin.calls k3 ((rd_T29 l0_1 x6_3).f0) _ _ ((rd_T29 l0_1 x6_3).f1) _ _ l1 t539 t540 _ ?side1 ?side2 ?side3 ?side4 A19.out).mono ?_); (case side1 => exact mc ((Kd.C_below HR538_1.out HB.out))); (case side2 => exact HC538_1.out); (case side3 => exact mc ((Kd.C_below HR1.out HB.out))); (case side4 => exact HC1.out); rintro e w24 ⟨rfl, hb⟩; refine ⟨_, rfl, ?_⟩; replace BK534 := bb BK534 hb; replace HB := bs HB hb; (try clear hb)))
         go_roundg k3
         case measure => have := HK1.out; have := HJ7.out; have := HK3.out; omega
         case rel => exact ⟨(wrap64 (x6_3 + 1)), (by first | rfl | (simp; done) | (simp [*]; done)), H', ⟨by have := HK1.out; have := HJ7.out; have := HK3.out; omega⟩, ⟨mb BK534⟩, ⟨ms HB⟩⟩
        rw [if_neg c18] at H
        exact absurd H (by simp)
       rw [if_neg c17] at H
       have c17b0 : decide (x6_3 < (l0_1.length : Int)) = false := decide_eq_false c17
       clear c17
       obtain rfl := Option.some.inj H
       obtain ⟨_, _, _, _⟩ := cFour BK534
       go_wp2
       go_ret
       exact ⟨by first | rfl | (simp [errW_none, errW_some] <;> rfl) | (simp [*, errW_none, errW_some] <;> rfl), ms HB⟩

end Go.Proofs.Ytlencemmlgkflaa.QFnEntailed
