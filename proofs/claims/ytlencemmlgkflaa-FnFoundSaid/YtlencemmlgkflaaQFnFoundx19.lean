-- Made by a program of this claim's own (wip/print): not the kit's print as it stands.
import Derived.Test.YtlencemmlgkflaaUFnFoundTri
import Derived.Test.YtlencemmlgkflaaQFnFoundx0
import Derived.Test.YtlencemmlgkflaaQFnFoundx1
import Derived.Test.YtlencemmlgkflaaQFnFoundx9
import Derived.Test.YtlencemmlgkflaaQFnFoundx15
import Derived.Test.YtlencemmlgkflaaQFnFoundx17
import Derived.Test.YtlencemmlgkflaaQFnFoundx18
namespace Go.Proofs.Ytlencemmlgkflaa.QFnFound
open Go.RowKit Go.Proofs.YtlencemmlgkflaaV.PrintWords Go.Proofs.YtlencemmlgkflaaV.PrintLast Go.Proofs.YtlencemmlgkflaaV.PrintMore
attribute [local go_sem] max2_int min2_int max_two min_two max_three min_three max_four min_four   -- for this text's walks alone
set_option linter.unusedVariables false
set_option linter.unusedSimpArgs false

/-! ### laws_FnFound: function 3 -/
def laws_FnFound.j0 : Nat → Bool → Bool → Int → List (S29) → Option (Bool)
 | 0, _, _, _, _ => none
 | k + 1, x6, x53, x531000, x531001 => if x53 = true then (some false) else (if x6 = true then ((impl_IsEmptySystem.f k x531000 x531001).bind fun t547 => ((spec_IsEmptySystem.f k x531000 x531001).bind fun t548 => (some (t547 == t548)))) else (some true))
def laws_FnFound.f (k : Nat) (l0 : List Int) : Option (Bool) := (laws_big.f l0).bind fun t521 => (if t521 = true then (some true) else ((spec_DrawFindFarkas.f k l0).bind fun bt522 => ((impl_FindFarkas.f k bt522.1 bt522.2.1 bt522.2.2.1 bt522.2.2.2).bind fun bt532 => ((spec_FindFarkas.f k bt522.1 bt522.2.1 bt522.2.2.1 bt522.2.2.2).bind fun bt538 => (if (bt532.2.2 != bt538.2.2) = true then (laws_FnFound.j0 k bt532.2.2 true bt522.1 bt522.2.1) else ((spec_EqualFarkas.f k bt532.1 bt532.2.1 bt538.1 bt538.2.1).bind fun t544 => (if t544 = true then ((impl_Entails.f k bt522.1 bt522.2.1 bt522.2.2.1 bt522.2.2.2).bind fun t545 => (if (t545 != bt532.2.2) = true then (laws_FnFound.j0 k bt532.2.2 true bt522.1 bt522.2.1) else (if bt532.2.2 = true then ((spec_CheckFarkas.f k bt522.1 bt522.2.1 bt522.2.2.1 bt522.2.2.2 bt532.1 bt532.2.1).bind fun t546 => (laws_FnFound.j0 k bt532.2.2 (!t546) bt522.1 bt522.2.1)) else (laws_FnFound.j0 k bt532.2.2 false bt522.1 bt522.2.1)))) else (laws_FnFound.j0 k bt532.2.2 true bt522.1 bt522.2.1))))))))
theorem laws_FnFound.mono_l : ∀ k, (∀ y0 y1 y2 y3, LeO (laws_FnFound.j0 k y0 y1 y2 y3) (laws_FnFound.j0 (k + 1) y0 y1 y2 y3))
 | 0 => fun _ _ _ _ r h => by simp [laws_FnFound.j0] at h
 | k + 1 => by
  have ih0 := laws_FnFound.mono_l k
  ·intro y0 y1 y2 y3
   unfold laws_FnFound.j0
   repeat' with_reducible first
   | exact ih0 _ _ _ _
   | exact impl_Entails.mono _ _ _ _ _
   | exact impl_FindFarkas.mono _ _ _ _ _
   | exact impl_IsEmptySystem.mono _ _ _
   | exact spec_CheckFarkas.mono _ _ _ _ _ _ _
   | exact spec_DrawFindFarkas.mono _ _
   | exact spec_EqualFarkas.mono _ _ _ _ _
   | exact spec_FindFarkas.mono _ _ _ _ _
   | exact spec_IsEmptySystem.mono _ _ _
   | exact LeO.refl _
   | exact LeO.none _
   | refine LeO.ite ?_ ?_
   | refine LeO.bind ?_ (fun _ => ?_)
theorem laws_FnFound.mono : ∀ a0 k, LeO (laws_FnFound.f k a0) (laws_FnFound.f (k + 1) a0) := by
 intro a0 k
 have ih0 := laws_FnFound.mono_l k
 unfold laws_FnFound.f
 repeat' with_reducible first
 | exact ih0 _ _ _ _
 | exact impl_Entails.mono _ _ _ _ _
 | exact impl_FindFarkas.mono _ _ _ _ _
 | exact impl_IsEmptySystem.mono _ _ _
 | exact spec_CheckFarkas.mono _ _ _ _ _ _ _
 | exact spec_DrawFindFarkas.mono _ _
 | exact spec_EqualFarkas.mono _ _ _ _ _
 | exact spec_FindFarkas.mono _ _ _ _ _
 | exact spec_IsEmptySystem.mono _ _ _
 | exact LeO.refl _
 | exact LeO.none _
 | refine LeO.ite ?_ ?_
 | refine LeO.bind ?_ (fun _ => ?_)
def laws_FnFound.T8 : Bool × List (List Nat × List Nat) := (true, [([], []), ([0], [0]), ([1], [1]), ([2], [2]), ([3, 2, 2], [2, 3]), ([2], [2]), ([5, 4, 2], [2, 5]), ([4, 6, 2], [2, 4, 6]), ([2, 7], [2, 7]), ([8, 6, 0, 1, 2, 3, 4, 5, 6, 7, 8], [8])])
def laws_FnFound.B8 : List Nat := [0, 1, 3, 7, 15, 7, 63, 127, 255, 511]
theorem laws_FnFound.tab8 : rtab .any (opsOf Try.f3 8) = laws_FnFound.T8 := by kernel_rfl
theorem laws_FnFound.bits8 : waitsOk laws_FnFound.T8.2 laws_FnFound.B8 = true := by kernel_rfl
set_option maxHeartbeats 8000000 in
set_option maxRecDepth 100000 in
theorem laws_FnFound.calls (k : Nat) (A0 : Option Addr) (c0 : Nat) (l0 : List Int) (r : Bool) (w : World) (hr0 : Kd.C (Kd.int .u8) w A0 l0.length l0) (hc0 : l0.length ≤ c0) (hT_ : r = true) (h : laws_FnFound.f k l0 = some r) :
  Calls Try.prog 3 #[.slice A0 l0.length c0] w fun e w' => e = .returned (.bool r) ∧ Below w.heap.size w w' := by
 have hu26 := Try.underlying26
 have hu29 := Try.underlying29
 have hu33 := Try.underlying33
 have HR0 := Aside0.mk hr0
 have HC0 := Aside0.mk hc0
 clear hr0 hc0
 have HB := Aside0.mk (Below.refl w.heap.size w)
 have H : ((laws_big.f l0).bind fun t521 => (if t521 = true then (some true) else ((spec_DrawFindFarkas.f k l0).bind fun bt522 => ((impl_FindFarkas.f k bt522.1 bt522.2.1 bt522.2.2.1 bt522.2.2.2).bind fun bt532 => ((spec_FindFarkas.f k bt522.1 bt522.2.1 bt522.2.2.1 bt522.2.2.2).bind fun bt538 => (if (bt532.2.2 != bt538.2.2) = true then (laws_FnFound.j0 k bt532.2.2 true bt522.1 bt522.2.1) else ((spec_EqualFarkas.f k bt532.1 bt532.2.1 bt538.1 bt538.2.1).bind fun t544 => (if t544 = true then ((impl_Entails.f k bt522.1 bt522.2.1 bt522.2.2.1 bt522.2.2.2).bind fun t545 => (if (t545 != bt532.2.2) = true then (laws_FnFound.j0 k bt532.2.2 true bt522.1 bt522.2.1) else (if bt532.2.2 = true then ((spec_CheckFarkas.f k bt522.1 bt522.2.1 bt522.2.2.1 bt522.2.2.2 bt532.1 bt532.2.1).bind fun t546 => (laws_FnFound.j0 k bt532.2.2 (!t546) bt522.1 bt522.2.1)) else (laws_FnFound.j0 k bt532.2.2 false bt522.1 bt522.2.1)))) else (laws_FnFound.j0 k bt532.2.2 true bt522.1 bt522.2.1))))))))) = some r := h
 clear h
 obtain ⟨t521, A20, H⟩ := Option.bind_eq_some_iff.mp H
 try dsimp only at H
 have A2 := Aside0.mk A20; clear A20
 by_cases c3 : t521 = true
 ·subst c3
  rw [if_pos rfl] at H
  obtain rfl := Option.some.inj H
  go_enter Try.func3, Try.ntmps3
  go_wp2_with (((with_reducible refine gate_callee (f := 13) rfl ?_); refine gl (some 10) rfl rfl Try.func13 (by kernel_rfl) rfl #[.slice A0 l0.length c0] rfl ?_; (with_reducible refine (laws_big.calls _ _ l0 true _ ?side1 ?side2 A2.out).mono ?_); (case side1 => repeat (first | exact HR0.out | (with_reducible refine Kd.C_alloc ?_ _) | (with_reducible refine Kd.C_drewN ?_ _) | (with_reducible refine Kd.C_drew ?_))); (case side2 => exact HC0.out); rintro e w' ⟨rfl, ⟨nd, rfl⟩⟩; refine ⟨_, rfl, ?_⟩))
  go_ret
  exact ⟨by first | rfl | (simp [errW_none, errW_some] <;> rfl) | (simp [*, errW_none, errW_some] <;> rfl), ms HB⟩
 replace c3 := Bool.eq_false_iff.mpr c3
 subst c3
 rw [if_neg (show ¬ (false = true) by decide)] at H
 obtain ⟨⟨t522, t523, t526, t527⟩, A40, H⟩ := Option.bind_eq_some_iff.mp H
 try dsimp only at H
 have A4 := Aside0.mk A40; clear A40
 obtain ⟨⟨t532, t533, t536⟩, A50, H⟩ := Option.bind_eq_some_iff.mp H
 try dsimp only at H
 have A5 := Aside0.mk A50; clear A50
 obtain ⟨⟨t538, t539, t542⟩, A60, H⟩ := Option.bind_eq_some_iff.mp H
 try dsimp only at H
 have A6 := Aside0.mk A60; clear A60
 have HC7 := Aside0.mk H; clear H
 go_enter Try.func3, Try.ntmps3
 go_upto_region 6 with (first | ((with_reducible refine gate_callee (f := 13) rfl ?_); refine gl (some 10) rfl rfl Try.func13 (by kernel_rfl) rfl #[.slice A0 l0.length c0] rfl ?_; (with_reducible refine (laws_big.calls _ _ l0 false _ ?side1 ?side2 A2.out).mono ?_); (case side1 => repeat (first | exact HR0.out | (with_reducible refine Kd.C_alloc ?_ _) | (with_reducible refine Kd.C_drewN ?_ _) | (with_reducible refine Kd.C_drew ?_))); (case side2 => exact HC0.out); rintro e w' ⟨rfl, ⟨nd, rfl⟩⟩; refine ⟨_, rfl, ?_⟩) | ((with_reducible refine gate_callee (f := 14) rfl ?_); refine gl (some 13) rfl rfl Try.func14 (by kernel_rfl) rfl #[.slice A0 l0.length c0] rfl ?_; (with_reducible refine (spec_DrawFindFarkas.calls k _ _ l0 t522 t523 t526 t527 _ ?side1 ?side2 A4.out).mono ?_); (case side1 => repeat (first | exact HR0.out | (with_reducible refine Kd.C_alloc ?_ _) | (with_reducible refine Kd.C_drewN ?_ _) | (with_reducible refine Kd.C_drew ?_))); (case side2 => exact HC0.out); rintro e w8 ⟨v524, v528, rfl, ho0, ho1, hb⟩; refine ⟨_, rfl, ?_⟩; have HO525 := Aside0.mk (Kd.S_lower ho0 (below_size (ms HB))); have HO529 := Aside0.mk (Kd.R_lower ho1 (below_size (ms HB))); replace HB := bs HB hb; (try clear hb); (try clear ho0); (try clear ho1)) | ((with_reducible refine gate_dst (N := 3) rfl ?_); refine box_event ?hg (N := 3) ?hd (cs := #[.int .i64 0, .slice none 0 0]) (t := 26) ?hr ?_; (case hd => rfl); (case hg => rfl); (case hr => first | (go_simp; done) | (go_simp; rfl)); intro gb530 hg w9 hbox hb; replace HO525 := bS HO525 hb; replace HO529 := rb HO529 hb; have BK530 := Aside0.mk (hbox); have GW530 := gw hg HB; have GE530 := gw hg HB; replace HB := bs HB hb; clear hb hbox hg) | ((with_reducible refine gate_dst (N := 4) rfl ?_); refine box_event ?hg (N := 4) ?hd (cs := #[.int .i64 0, .slice none 0 0]) (t := 29) ?hr ?_; (case hd => rfl); (case hg => rfl); (case hr => first | (go_simp; done) | (go_simp; rfl)); intro gb531 hg w10 hbox hb; replace HO525 := Aside0.mk (Kd.S_below (Kd.S_elderB (mS HO525) gb531 (Nat.le_of_eq hg.symm)) hb); replace HO529 := rb HO529 hb; have BK531 := Aside0.mk (hbox); have GW531 := gw hg HB; have GE531 := gw hg HB; replace HB := bs HB hb; have NB530_531 := nl hg BK530; have NB531_530 := ng hg BK530; replace BK530 := bb BK530 hb; clear hb hbox hg; have := NB530_531.out; have := NB531_530.out; obtain ⟨hcz12_0, hcz12_1, hfz12_0, hfz12_1⟩ := cFour BK530; obtain ⟨Ao13, co13, eo13⟩ := Kd.S_slice HO525.out; subst eo13; obtain ⟨hcz14_0, hcz14_1, hfz14_0, hfz14_1⟩ := cFour BK531; obtain ⟨Ao15, co15, eo15⟩ := Kd.R_slice HO529.out; subst eo15) | ((with_reducible refine gate_callee (f := 15) rfl ?_); refine gl (some 19) rfl rfl Try.func15 (by kernel_rfl) rfl #[.agg #[.int .i64 t522, .slice Ao13 t523.length co13], .agg #[.int .i64 t526, .slice Ao15 t527.length co15]] rfl ?_; (with_reducible refine (impl_FindFarkas.calls k t522 _ _ t523 t526 _ _ t527 t532 t533 t536 _ ?side1 ?side2 ?side3 ?side4 A5.out).mono ?_); (case side1 => refine (Kd.S_reads' (e := 29) (base := w.heap.size) (ok := fun k_ => (some k_ ≠ (.slice Ao15 t527.length co15 : Value).ownBlock ∧ k_ ≠ gb531)) (n := t523.length) (c := co13) ?_).2.2; exact (by (with_reducible repeat (first | apply Kd.S_alloc | apply Kd.S_drewN | apply Kd.S_drew)); exact (Kd.S_mono (Kd.S_mono (Kd.S_far (p := ⟨gb531, 1, none⟩) (Kd.S_far (p := ⟨gb531, 0, none⟩) (Kd.S_far (p := ⟨gb530, 1, none⟩) (Kd.S_far (p := ⟨gb530, 0, none⟩) (Kd.S_mono (Kd.S_types HO525.out BK530.out (by decide)) (fun k_ hk => (⟨hk, hk.1.2⟩ : _ ∧ k_ ≠ gb531))) (fun _ hk => hk.1.2) (.int .i64 t522)) (fun _ hk => hk.1.2) (.slice Ao13 t523.length co13)) (fun _ hk => hk.2) (.int .i64 t526)) (fun _ hk => hk.2) (.slice Ao15 t527.length co15)) (fun _ h_ => h_.1)) (fun _ h_ => h_.1)))); (case side2 => exact (Kd.S_reads' HO525.out).2.1); (case side3 => refine (Kd.R_reads' (e := 3) (base := w.heap.size) (ok := fun k_ => True) (n := t527.length) (c := co15) ?_).2.2; exact (by (with_reducible repeat (first | apply Kd.R_alloc | apply Kd.R_drewN | apply Kd.R_drew)); exact (Kd.R_mono (Kd.R_mono (Kd.R_far (p := ⟨gb531, 1, none⟩) (Kd.R_far (p := ⟨gb531, 0, none⟩) (Kd.R_far (p := ⟨gb530, 1, none⟩) (Kd.R_far (p := ⟨gb530, 0, none⟩) (Kd.R_types (Kd.R_types HO529.out BK530.out (by decide)) BK531.out (by decide)) (fun _ hk => hk.1.2) (.int .i64 t522)) (fun _ hk => hk.1.2) (.slice Ao13 t523.length co13)) (fun _ hk => hk.2) (.int .i64 t526)) (fun _ hk => hk.2) (.slice Ao15 t527.length co15)) (fun _ h_ => h_.1)) (fun _ h_ => h_.1)))); (case side4 => exact (Kd.R_reads' HO529.out).2.1); rintro e w16 ⟨v534, rfl, ho0, hb⟩; refine ⟨_, rfl, ?_⟩; have n0_ := Aside0.mk (Kd.S_elder' (by (with_reducible repeat (first | apply Kd.S_alloc | apply Kd.S_drewN | apply Kd.S_drew)); exact (Kd.S_mono (Kd.S_mono (Kd.S_far (p := ⟨gb531, 1, none⟩) (Kd.S_far (p := ⟨gb531, 0, none⟩) (Kd.S_far (p := ⟨gb530, 1, none⟩) (Kd.S_far (p := ⟨gb530, 0, none⟩) (Kd.S_mono (Kd.S_types HO525.out BK530.out (by decide)) (fun k_ hk => (⟨hk, hk.1.2⟩ : _ ∧ k_ ≠ gb531))) (fun _ hk => hk.1.2) (.int .i64 t522)) (fun _ hk => hk.1.2) (.slice Ao13 t523.length co13)) (fun _ hk => hk.2) (.int .i64 t526)) (fun _ hk => hk.2) (.slice Ao15 t527.length co15)) (fun _ h_ => h_.1)) (fun _ h_ => h_.1))) (Kd.R_base ho0) hb); have n1_ := Aside0.mk (Kd.R_elder' (by (with_reducible repeat (first | apply Kd.R_alloc | apply Kd.R_drewN | apply Kd.R_drew)); exact (Kd.R_mono (Kd.R_mono (Kd.R_far (p := ⟨gb531, 1, none⟩) (Kd.R_far (p := ⟨gb531, 0, none⟩) (Kd.R_far (p := ⟨gb530, 1, none⟩) (Kd.R_far (p := ⟨gb530, 0, none⟩) (Kd.R_types (Kd.R_types HO529.out BK530.out (by decide)) BK531.out (by decide)) (fun _ hk => hk.1.2) (.int .i64 t522)) (fun _ hk => hk.1.2) (.slice Ao13 t523.length co13)) (fun _ hk => hk.2) (.int .i64 t526)) (fun _ hk => hk.2) (.slice Ao15 t527.length co15)) (fun _ h_ => h_.1)) (fun _ h_ => h_.1))) (Kd.R_base ho0) hb); have n2_ := Aside0.mk (Kd.R_lower (Kd.R_new' ho0 (Kd.R_lt (by (with_reducible repeat (first | apply Kd.R_alloc | apply Kd.R_drewN | apply Kd.R_drew)); exact (Kd.R_mono (Kd.R_mono (Kd.R_far (p := ⟨gb531, 1, none⟩) (Kd.R_far (p := ⟨gb531, 0, none⟩) (Kd.R_far (p := ⟨gb530, 1, none⟩) (Kd.R_far (p := ⟨gb530, 0, none⟩) (Kd.R_types (Kd.R_types HO529.out BK530.out (by decide)) BK531.out (by decide)) (fun _ hk => hk.1.2) (.int .i64 t522)) (fun _ hk => hk.1.2) (.slice Ao13 t523.length co13)) (fun _ hk => hk.2) (.int .i64 t526)) (fun _ hk => hk.2) (.slice Ao15 t527.length co15)) (fun _ h_ => h_.1)) (fun _ h_ => h_.1))))) (below_size (ms HB))); have n3_ := Aside0.mk (blk_below (g := gb530) (o := .cells #[.int .i64 t522, .slice Ao13 t523.length co13] 26 (0, 0)) (by (with_reducible repeat (first | refine blk_drewN ?_ _ | refine blk_drew ?_ | refine blk_alloc ?_ _)); refine blk_far ?_ NB530_531.out _; (with_reducible repeat (first | refine blk_drewN ?_ _ | refine blk_drew ?_ | refine blk_alloc ?_ _)); refine blk_far ?_ NB530_531.out _; (with_reducible repeat (first | refine blk_drewN ?_ _ | refine blk_drew ?_ | refine blk_alloc ?_ _)); refine blk_put (cs := #[.int .i64 t522, .slice none 0 0]) ?_ 1 _ rfl; (with_reducible repeat (first | refine blk_drewN ?_ _ | refine blk_drew ?_ | refine blk_alloc ?_ _)); refine blk_put (cs := #[.int .i64 0, .slice none 0 0]) ?_ 0 _ rfl; (with_reducible repeat (first | refine blk_drewN ?_ _ | refine blk_drew ?_ | refine blk_alloc ?_ _)); exact BK530.out) hb); have n4_ := Aside0.mk (blk_below (g := gb531) (o := .cells #[.int .i64 t526, .slice Ao15 t527.length co15] 29 (0, 0)) (by (with_reducible repeat (first | refine blk_drewN ?_ _ | refine blk_drew ?_ | refine blk_alloc ?_ _)); refine blk_put (cs := #[.int .i64 t526, .slice none 0 0]) ?_ 1 _ rfl; (with_reducible repeat (first | refine blk_drewN ?_ _ | refine blk_drew ?_ | refine blk_alloc ?_ _)); refine blk_put (cs := #[.int .i64 0, .slice none 0 0]) ?_ 0 _ rfl; (with_reducible repeat (first | refine blk_drewN ?_ _ | refine blk_drew ?_ | refine blk_alloc ?_ _)); refine blk_far ?_ NB531_530.out _; (with_reducible repeat (first | refine blk_drewN ?_ _ | refine blk_drew ?_ | refine blk_alloc ?_ _)); refine blk_far ?_ NB531_530.out _; (with_reducible repeat (first | refine blk_drewN ?_ _ | refine blk_drew ?_ | refine blk_alloc ?_ _)); exact BK531.out) hb); have n5_ := bs HB hb; clear HO525 HO529 BK530 BK531 HB; have HO525 := n0_; have HO529 := n1_; have HO535 := n2_; have BK530 := n3_; have BK531 := n4_; have HB := n5_; clear n0_ n1_ n2_ n3_ n4_ n5_; (try clear hb); (try clear ho0)) | ((with_reducible refine gate_dst (N := 5) rfl ?_); refine box_event ?hg (N := 5) ?hd (cs := #[.int .i64 0, .slice none 0 0]) (t := 33) ?hr ?_; (case hd => rfl); (case hg => rfl); (case hr => first | (go_simp; done) | (go_simp; rfl)); intro gb537 hg w17 hbox hb; replace HO525 := bS HO525 hb; replace HO529 := rb HO529 hb; replace HO535 := rb HO535 hb; have BK537 := Aside0.mk (hbox); have GW537 := gw hg HB; have GE537 := gw hg HB; replace HB := bs HB hb; have NB530_537 := nl hg BK530; have NB537_530 := ng hg BK530; replace BK530 := bb BK530 hb; have NB531_537 := nl hg BK531; have NB537_531 := ng hg BK531; replace BK531 := bb BK531 hb; clear hb hbox hg; have := NB537_530.out; have := NB530_537.out; have := NB537_531.out; have := NB531_537.out; obtain ⟨hcz20_0, hcz20_1, hfz20_0, hfz20_1⟩ := cFour BK537; obtain ⟨Ao21, co21, eo21⟩ := Kd.R_slice HO535.out; subst eo21; obtain ⟨hcz22_0, hcz22_1, hfz22_0, hfz22_1⟩ := cFour BK530; obtain ⟨hcz23_0, hcz23_1, hfz23_0, hfz23_1⟩ := cFour BK531) | ((with_reducible refine gate_callee (f := 16) rfl ?_); refine gl (some 25) rfl rfl Try.func16 (by kernel_rfl) rfl #[.agg #[.int .i64 t522, .slice Ao13 t523.length co13], .agg #[.int .i64 t526, .slice Ao15 t527.length co15]] rfl ?_; (with_reducible refine (spec_FindFarkas.calls k t522 _ _ t523 t526 _ _ t527 t538 t539 t542 _ ?side1 ?side2 ?side3 ?side4 A6.out).mono ?_); (case side1 => refine (Kd.S_reads' (e := 29) (base := w.heap.size) (ok := fun k_ => ((some k_ ≠ (.slice Ao15 t527.length co15 : Value).ownBlock ∧ k_ ≠ gb531) ∧ some k_ ≠ (.slice Ao21 t533.length co21 : Value).ownBlock)) (n := t523.length) (c := co13) ?_).2.2; exact (by (with_reducible repeat (first | apply Kd.S_alloc | apply Kd.S_drewN | apply Kd.S_drew)); exact (Kd.S_mono (Kd.S_far (p := ⟨gb537, 1, none⟩) (Kd.S_far (p := ⟨gb537, 0, none⟩) (Kd.S_types HO525.out BK537.out (by decide)) (fun _ hk => hk.2) (.int .i64 t532)) (fun _ hk => hk.2) (.slice Ao21 t533.length co21)) (fun _ h_ => h_.1)))); (case side2 => exact (Kd.S_reads' HO525.out).2.1); (case side3 => refine (Kd.R_reads' (e := 3) (base := w.heap.size) (ok := fun k_ => (True ∧ some k_ ≠ (.slice Ao21 t533.length co21 : Value).ownBlock)) (n := t527.length) (c := co15) ?_).2.2; exact (by (with_reducible repeat (first | apply Kd.R_alloc | apply Kd.R_drewN | apply Kd.R_drew)); exact (rTwo HO529 BK537))); (case side4 => exact (Kd.R_reads' HO529.out).2.1); rintro e w24 ⟨v540, rfl, ho0, hb⟩; refine ⟨_, rfl, ?_⟩; have n0_ := Aside0.mk (Kd.S_elder' (by (with_reducible repeat (first | apply Kd.S_alloc | apply Kd.S_drewN | apply Kd.S_drew)); exact (Kd.S_mono (Kd.S_far (p := ⟨gb537, 1, none⟩) (Kd.S_far (p := ⟨gb537, 0, none⟩) (Kd.S_types HO525.out BK537.out (by decide)) (fun _ hk => hk.2) (.int .i64 t532)) (fun _ hk => hk.2) (.slice Ao21 t533.length co21)) (fun _ h_ => h_.1))) (Kd.R_base ho0) hb); have n1_ := Aside0.mk (Kd.R_elder' (by (with_reducible repeat (first | apply Kd.R_alloc | apply Kd.R_drewN | apply Kd.R_drew)); exact (rTwo HO529 BK537)) (Kd.R_base ho0) hb); have n2_ := Aside0.mk (Kd.R_elder' (by (with_reducible repeat (first | apply Kd.R_alloc | apply Kd.R_drewN | apply Kd.R_drew)); exact (rTwo HO535 BK537)) (Kd.R_base ho0) hb); have n3_ := Aside0.mk (Kd.R_lower (Kd.R_new' (Kd.R_new' ho0 (Kd.R_lt (by (with_reducible repeat (first | apply Kd.R_alloc | apply Kd.R_drewN | apply Kd.R_drew)); exact (rTwo HO529 BK537)))) (Kd.R_lt (by (with_reducible repeat (first | apply Kd.R_alloc | apply Kd.R_drewN | apply Kd.R_drew)); exact (rTwo HO535 BK537)))) (below_size (ms HB))); have n4_ := bf BK530 hb; have n5_ := bf BK531 hb; have n6_ := bp BK537 hb; have n7_ := bs HB hb; clear HO525 HO529 HO535 BK530 BK531 BK537 HB; have HO525 := n0_; have HO529 := n1_; have HO535 := n2_; have HO541 := n3_; have BK530 := n4_; have BK531 := n5_; have BK537 := n6_; have HB := n7_; clear n0_ n1_ n2_ n3_ n4_ n5_ n6_ n7_; (try clear hb); (try clear ho0)) | ((with_reducible refine gate_dst (N := 7) rfl ?_); refine box_event ?hg (N := 7) ?hd (cs := #[.int .i64 0, .slice none 0 0]) (t := 33) ?hr ?_; (case hd => rfl); (case hg => rfl); (case hr => first | (go_simp; done) | (go_simp; rfl)); intro gb543 hg w25 hbox hb; replace HO525 := bS HO525 hb; replace HO529 := rb HO529 hb; replace HO535 := rb HO535 hb; replace HO541 := rb HO541 hb; have BK543 := Aside0.mk (hbox); have GW543 := gw hg HB; have GE543 := gw hg HB; replace HB := bs HB hb; have NB530_543 := nl hg BK530; have NB543_530 := ng hg BK530; replace BK530 := bb BK530 hb; have NB531_543 := nl hg BK531; have NB543_531 := ng hg BK531; replace BK531 := bb BK531 hb; have NB537_543 := nl hg BK537; have NB543_537 := ng hg BK537; replace BK537 := bb BK537 hb; clear hb hbox hg; have := NB543_530.out; have := NB530_543.out; have := NB543_531.out; have := NB531_543.out; have := NB543_537.out; have := NB537_543.out; obtain ⟨hcz29_0, hcz29_1, hfz29_0, hfz29_1⟩ := cFour BK543; obtain ⟨Ao30, co30, eo30⟩ := Kd.R_slice HO541.out; subst eo30))
 (try simp only [Act.put, List.setIfInBounds_toArray, List.set_cons_zero, List.set_cons_succ])
 go_cut [53] (fun v53 wc => ∃ (kq : Nat) (x53_6 : Bool), v53 = .bool x53_6 ∧ Aside0 (laws_FnFound.j0 kq t536 x53_6 t522 t523 = some r) ∧ Aside0 (kq ≤ k) ∧ Aside0 (Kd.S k29 29 wc w.heap.size (fun k_ => some k_ ≠ ((.slice Ao15 t527.length co15) : Value).ownBlock ∧ some k_ ≠ ((.slice Ao21 t533.length co21) : Value).ownBlock ∧ some k_ ≠ ((.slice Ao30 t539.length co30) : Value).ownBlock ∧ k_ ≠ gb531) (.slice Ao13 t523.length co13) t523) ∧ Aside0 (Kd.R (Kd.int .i64) 3 wc w.heap.size (fun k_ => some k_ ≠ ((.slice Ao21 t533.length co21) : Value).ownBlock ∧ some k_ ≠ ((.slice Ao30 t539.length co30) : Value).ownBlock) (.slice Ao15 t527.length co15) t527) ∧ Aside0 (Kd.R (Kd.int .i64) 3 wc w.heap.size (fun k_ => some k_ ≠ ((.slice Ao15 t527.length co15) : Value).ownBlock ∧ some k_ ≠ ((.slice Ao30 t539.length co30) : Value).ownBlock) (.slice Ao21 t533.length co21) t533) ∧ Aside0 (Kd.R (Kd.int .i64) 3 wc w.heap.size (fun k_ => some k_ ≠ ((.slice Ao15 t527.length co15) : Value).ownBlock ∧ some k_ ≠ ((.slice Ao21 t533.length co21) : Value).ownBlock) (.slice Ao30 t539.length co30) t539) ∧ Aside0 (wc.heap[gb530]? = some (.cells #[.int .i64 t522, (.slice Ao13 t523.length co13)] 26 (0, 0))) ∧ Aside0 (wc.heap[gb531]? = some (.cells #[.int .i64 t526, (.slice Ao15 t527.length co15)] 29 (0, 0))) ∧ Aside0 (wc.heap[gb537]? = some (.cells #[.int .i64 t532, (.slice Ao21 t533.length co21)] 33 (0, 0))) ∧ Aside0 (wc.heap[gb543]? = some (.cells #[.int .i64 t538, (.slice Ao30 t539.length co30)] 33 (0, 0))) ∧ Aside0 (Below w.heap.size w wc))
 case first =>
  have H := HC7.out
  clear HC7
  by_cases c31 : (t536 != t542) = true
  ·rw [if_pos c31] at H
   have c31b0 : (t536 != t542) = true := c31
   (try (have c31b1 : decide (t536 = t542) = false := by simpa using c31))
   (try (have c31b2 : (t536 == t542) = false := by simpa using c31))
   (try (have c31b3 : ¬ (t536 = t542) := by simpa using c31))
   clear c31
   (first | rw [c31b0] | (simp only [i64_w, i32_w]; rw [c31b0]) | skip)
   have H' := Aside0.mk H
   clear H
   go_wp2
   go_meet
   case rel => exact ⟨_, (true), (by first | rfl | (simp; done) | (simp [*]; done)), H', ⟨by first | omega | exact Nat.le_refl _⟩, ⟨by (with_reducible repeat (first | apply Kd.S_alloc | apply Kd.S_drewN | apply Kd.S_drew)); exact Kd.S_mono (Kd.S_far (p := ⟨gb543, 1, none⟩) (Kd.S_far (p := ⟨gb543, 0, none⟩) (Kd.S_types HO525.out BK543.out (by decide)) (fun _ hk => hk.2) (.int .i64 t538)) (fun _ hk => hk.2) (.slice Ao30 t539.length co30)) (fun _ hk => ⟨hk.1.1.1.1, ⟨hk.1.1.2, ⟨hk.1.2, hk.1.1.1.2⟩⟩⟩)⟩, ⟨by (with_reducible repeat (first | apply Kd.R_alloc | apply Kd.R_drewN | apply Kd.R_drew)); exact Kd.R_mono (Kd.R_far (p := ⟨gb543, 1, none⟩) (Kd.R_far (p := ⟨gb543, 0, none⟩) (Kd.R_types HO529.out BK543.out (by decide)) (fun _ hk => hk.2) (.int .i64 t538)) (fun _ hk => hk.2) (.slice Ao30 t539.length co30)) (fun _ hk => ⟨hk.1.1.2, hk.1.2⟩)⟩, ⟨by (with_reducible repeat (first | apply Kd.R_alloc | apply Kd.R_drewN | apply Kd.R_drew)); exact Kd.R_mono (Kd.R_far (p := ⟨gb543, 1, none⟩) (Kd.R_far (p := ⟨gb543, 0, none⟩) (Kd.R_types HO535.out BK543.out (by decide)) (fun _ hk => hk.2) (.int .i64 t538)) (fun _ hk => hk.2) (.slice Ao30 t539.length co30)) (fun _ hk => ⟨hk.1.1.2, hk.1.2⟩)⟩, ⟨by (with_reducible repeat (first | apply Kd.R_alloc | apply Kd.R_drewN | apply Kd.R_drew)); exact Kd.R_mono (Kd.R_far (p := ⟨gb543, 1, none⟩) (Kd.R_far (p := ⟨gb543, 0, none⟩) (Kd.R_types HO541.out BK543.out (by decide)) (fun _ hk => hk.2) (.int .i64 t538)) (fun _ hk => hk.2) (.slice Ao30 t539.length co30)) (fun _ hk => ⟨hk.1.1.2, hk.1.2⟩)⟩, ⟨mf BK530⟩, ⟨mf BK531⟩, ⟨mf BK537⟩, ⟨mq BK543⟩, ⟨ms HB⟩⟩
  rw [if_neg c31] at H
  have c31b0 : (t536 != t542) = false := by simpa using c31
  (try (have c31b1 : decide (t536 = t542) = true := by simpa using c31))
  (try (have c31b2 : (t536 == t542) = true := by simpa using c31))
  clear c31
  (first | rw [c31b0] | (simp only [i64_w, i32_w]; rw [c31b0]) | skip)
  obtain ⟨t544, A320, H⟩ := Option.bind_eq_some_iff.mp H
  try dsimp only at H
  have A32 := Aside0.mk A320; clear A320
  by_cases c33 : t544 = true
  ·subst c33
   rw [if_pos rfl] at H
   obtain ⟨t545, A340, H⟩ := Option.bind_eq_some_iff.mp H
   try dsimp only at H
   have A34 := Aside0.mk A340; clear A340
   by_cases c35 : (t545 != t536) = true
   ·rw [if_pos c35] at H
    have c35b0 : (t545 != t536) = true := c35
    (try (have c35b1 : decide (t545 = t536) = false := by simpa using c35))
    (try (have c35b2 : (t545 == t536) = false := by simpa using c35))
    (try (have c35b3 : ¬ (t545 = t536) := by simpa using c35))
    clear c35
    have H' := Aside0.mk H
    clear H
    have := NB537_530.out
    have := NB530_537.out
    have := NB537_531.out
    have := NB531_537.out
    have := NB537_543.out
    have := NB543_537.out
    obtain ⟨hcz39_0, hcz39_1, hfz39_0, hfz39_1⟩ := cFour BK537
    have := NB543_530.out
    have := NB530_543.out
    have := NB543_531.out
    have := NB531_543.out
    obtain ⟨hcz42_0, hcz42_1, hfz42_0, hfz42_1⟩ := cFour BK543
    go_wp2_with (first | (go_at_call 17; (with_reducible refine (spec_EqualFarkas.calls k t532 _ _ t533 t538 _ _ t539 true _ ?side1 ?side2 ?side3 ?side4 A32.out).mono ?_); (case side1 => refine (Kd.R_reads' (e := 3) (base := w.heap.size) (ok := fun k_ => ((True ∧ some k_ ≠ (.slice Ao15 t527.length co15 : Value).ownBlock) ∧ some k_ ≠ (.slice Ao30 t539.length co30 : Value).ownBlock)) (n := t533.length) (c := co21) ?_).2.2; exact (by (with_reducible repeat (first | apply Kd.R_alloc | apply Kd.R_drewN | apply Kd.R_drew)); exact (rTwo HO535 BK543))); (case side2 => exact (Kd.R_reads' HO535.out).2.1); (case side3 => refine (Kd.R_reads' (e := 3) (base := w.heap.size) (ok := fun k_ => ((True ∧ some k_ ≠ (.slice Ao15 t527.length co15 : Value).ownBlock) ∧ some k_ ≠ (.slice Ao21 t533.length co21 : Value).ownBlock)) (n := t539.length) (c := co30) ?_).2.2; exact (by (with_reducible repeat (first | apply Kd.R_alloc | apply Kd.R_drewN | apply Kd.R_drew)); exact (rTwo HO541 BK543))); (case side4 => exact (Kd.R_reads' HO541.out).2.1); rintro e w43 ⟨rfl, hb⟩; have n0_ := Aside0.mk (Kd.S_below (by (with_reducible repeat (first | apply Kd.S_alloc | apply Kd.S_drewN | apply Kd.S_drew)); exact (Kd.S_mono (Kd.S_far (p := ⟨gb543, 1, none⟩) (Kd.S_far (p := ⟨gb543, 0, none⟩) (Kd.S_types HO525.out BK543.out (by decide)) (fun _ hk => hk.2) (.int .i64 t538)) (fun _ hk => hk.2) (.slice Ao30 t539.length co30)) (fun _ h_ => h_.1))) hb); have n1_ := Aside0.mk (Kd.R_below (by (with_reducible repeat (first | apply Kd.R_alloc | apply Kd.R_drewN | apply Kd.R_drew)); exact (rTwo HO529 BK543)) hb); have n2_ := Aside0.mk (Kd.R_below (by (with_reducible repeat (first | apply Kd.R_alloc | apply Kd.R_drewN | apply Kd.R_drew)); exact (rTwo HO535 BK543)) hb); have n3_ := Aside0.mk (Kd.R_below (by (with_reducible repeat (first | apply Kd.R_alloc | apply Kd.R_drewN | apply Kd.R_drew)); exact (rTwo HO541 BK543)) hb); have n4_ := bf BK530 hb; have n5_ := bf BK531 hb; have n6_ := bf BK537 hb; have n7_ := bp BK543 hb; have n8_ := bs HB hb; clear HO525 HO529 HO535 HO541 BK530 BK531 BK537 BK543 HB; have HO525 := n0_; have HO529 := n1_; have HO535 := n2_; have HO541 := n3_; have BK530 := n4_; have BK531 := n5_; have BK537 := n6_; have BK543 := n7_; have HB := n8_; clear n0_ n1_ n2_ n3_ n4_ n5_ n6_ n7_ n8_; (try clear hb); have := NB530_531.out; have := NB531_530.out; obtain ⟨hcz45_0, hcz45_1, hfz45_0, hfz45_1⟩ := cFour BK530; obtain ⟨hcz46_0, hcz46_1, hfz46_0, hfz46_1⟩ := cFour BK531) | (go_at_call 18; (with_reducible refine (impl_Entails.calls k t522 _ _ t523 t526 _ _ t527 t545 _ ?side1 ?side2 ?side3 ?side4 A34.out).mono ?_); (case side1 => exact mc ((Kd.S_reads' HO525.out).2.2)); (case side2 => exact (Kd.S_reads' HO525.out).2.1); (case side3 => exact mc ((Kd.R_reads' HO529.out).2.2)); (case side4 => exact (Kd.R_reads' HO529.out).2.1); rintro e w47 ⟨rfl, hb⟩; replace HO525 := bS HO525 hb; replace HO529 := rb HO529 hb; replace HO535 := rb HO535 hb; replace HO541 := rb HO541 hb; replace BK530 := bb BK530 hb; replace BK531 := bb BK531 hb; replace BK537 := bb BK537 hb; replace BK543 := bb BK543 hb; replace HB := bs HB hb; (try clear hb)))
    go_meet
    case rel => exact ⟨_, (true), (by first | rfl | (simp; done) | (simp [*]; done)), H', ⟨by first | omega | exact Nat.le_refl _⟩, ⟨by (with_reducible repeat (first | apply Kd.S_alloc | apply Kd.S_drewN | apply Kd.S_drew)); exact Kd.S_mono HO525.out (fun _ hk => ⟨hk.1.1.1, ⟨hk.1.2, ⟨hk.2, hk.1.1.2⟩⟩⟩)⟩, ⟨by (with_reducible repeat (first | apply Kd.R_alloc | apply Kd.R_drewN | apply Kd.R_drew)); exact Kd.R_mono HO529.out (fun _ hk => ⟨hk.1.2, hk.2⟩)⟩, ⟨by (with_reducible repeat (first | apply Kd.R_alloc | apply Kd.R_drewN | apply Kd.R_drew)); exact Kd.R_mono HO535.out (fun _ hk => ⟨hk.1.2, hk.2⟩)⟩, ⟨by (with_reducible repeat (first | apply Kd.R_alloc | apply Kd.R_drewN | apply Kd.R_drew)); exact Kd.R_mono HO541.out (fun _ hk => ⟨hk.1.2, hk.2⟩)⟩, ⟨mb BK530⟩, ⟨mb BK531⟩, ⟨mb BK537⟩, ⟨mb BK543⟩, ⟨ms HB⟩⟩
   rw [if_neg c35] at H
   have c35b0 : (t545 != t536) = false := by simpa using c35
   (try (have c35b1 : decide (t545 = t536) = true := by simpa using c35))
   (try (have c35b2 : (t545 == t536) = true := by simpa using c35))
   clear c35
   by_cases c48 : t536 = true
   ·subst c48
    rw [if_pos rfl] at H
    obtain ⟨t546, A490, H⟩ := Option.bind_eq_some_iff.mp H
    try dsimp only at H
    have A49 := Aside0.mk A490; clear A490
    have H' := Aside0.mk H
    clear H
    have := NB537_530.out
    have := NB530_537.out
    have := NB537_531.out
    have := NB531_537.out
    have := NB537_543.out
    have := NB543_537.out
    obtain ⟨hcz53_0, hcz53_1, hfz53_0, hfz53_1⟩ := cFour BK537
    have := NB543_530.out
    have := NB530_543.out
    have := NB543_531.out
    have := NB531_543.out
    obtain ⟨hcz56_0, hcz56_1, hfz56_0, hfz56_1⟩ := cFour BK543
    go_wp2_with (first | (go_at_call 17; (with_reducible refine (spec_EqualFarkas.calls k t532 _ _ t533 t538 _ _ t539 true _ ?side1 ?side2 ?side3 ?side4 A32.out).mono ?_); (case side1 => refine (Kd.R_reads' (e := 3) (base := w.heap.size) (ok := fun k_ => ((True ∧ some k_ ≠ (.slice Ao15 t527.length co15 : Value).ownBlock) ∧ some k_ ≠ (.slice Ao30 t539.length co30 : Value).ownBlock)) (n := t533.length) (c := co21) ?_).2.2; exact (by (with_reducible repeat (first | apply Kd.R_alloc | apply Kd.R_drewN | apply Kd.R_drew)); exact (rTwo HO535 BK543))); (case side2 => exact (Kd.R_reads' HO535.out).2.1); (case side3 => refine (Kd.R_reads' (e := 3) (base := w.heap.size) (ok := fun k_ => ((True ∧ some k_ ≠ (.slice Ao15 t527.length co15 : Value).ownBlock) ∧ some k_ ≠ (.slice Ao21 t533.length co21 : Value).ownBlock)) (n := t539.length) (c := co30) ?_).2.2; exact (by (with_reducible repeat (first | apply Kd.R_alloc | apply Kd.R_drewN | apply Kd.R_drew)); exact (rTwo HO541 BK543))); (case side4 => exact (Kd.R_reads' HO541.out).2.1); rintro e w57 ⟨rfl, hb⟩; have n0_ := Aside0.mk (Kd.S_below (by (with_reducible repeat (first | apply Kd.S_alloc | apply Kd.S_drewN | apply Kd.S_drew)); exact (Kd.S_mono (Kd.S_far (p := ⟨gb543, 1, none⟩) (Kd.S_far (p := ⟨gb543, 0, none⟩) (Kd.S_types HO525.out BK543.out (by decide)) (fun _ hk => hk.2) (.int .i64 t538)) (fun _ hk => hk.2) (.slice Ao30 t539.length co30)) (fun _ h_ => h_.1))) hb); have n1_ := Aside0.mk (Kd.R_below (by (with_reducible repeat (first | apply Kd.R_alloc | apply Kd.R_drewN | apply Kd.R_drew)); exact (rTwo HO529 BK543)) hb); have n2_ := Aside0.mk (Kd.R_below (by (with_reducible repeat (first | apply Kd.R_alloc | apply Kd.R_drewN | apply Kd.R_drew)); exact (rTwo HO535 BK543)) hb); have n3_ := Aside0.mk (Kd.R_below (by (with_reducible repeat (first | apply Kd.R_alloc | apply Kd.R_drewN | apply Kd.R_drew)); exact (rTwo HO541 BK543)) hb); have n4_ := bf BK530 hb; have n5_ := bf BK531 hb; have n6_ := bf BK537 hb; have n7_ := bp BK543 hb; have n8_ := bs HB hb; clear HO525 HO529 HO535 HO541 BK530 BK531 BK537 BK543 HB; have HO525 := n0_; have HO529 := n1_; have HO535 := n2_; have HO541 := n3_; have BK530 := n4_; have BK531 := n5_; have BK537 := n6_; have BK543 := n7_; have HB := n8_; clear n0_ n1_ n2_ n3_ n4_ n5_ n6_ n7_ n8_; (try clear hb); have := NB530_531.out; have := NB531_530.out; obtain ⟨hcz59_0, hcz59_1, hfz59_0, hfz59_1⟩ := cFour BK530; obtain ⟨hcz60_0, hcz60_1, hfz60_0, hfz60_1⟩ := cFour BK531) | (go_at_call 18; (with_reducible refine (impl_Entails.calls k t522 _ _ t523 t526 _ _ t527 t545 _ ?side1 ?side2 ?side3 ?side4 A34.out).mono ?_); (case side1 => exact mc ((Kd.S_reads' HO525.out).2.2)); (case side2 => exact (Kd.S_reads' HO525.out).2.1); (case side3 => exact mc ((Kd.R_reads' HO529.out).2.2)); (case side4 => exact (Kd.R_reads' HO529.out).2.1); rintro e w61 ⟨rfl, hb⟩; replace HO525 := bS HO525 hb; replace HO529 := rb HO529 hb; replace HO535 := rb HO535 hb; replace HO541 := rb HO541 hb; replace BK530 := bb BK530 hb; replace BK531 := bb BK531 hb; replace BK537 := bb BK537 hb; replace BK543 := bb BK543 hb; replace HB := bs HB hb; (try clear hb); obtain ⟨hcz62_0, hcz62_1, hfz62_0, hfz62_1⟩ := cFour BK530; obtain ⟨hcz63_0, hcz63_1, hfz63_0, hfz63_1⟩ := cFour BK531; obtain ⟨hcz64_0, hcz64_1, hfz64_0, hfz64_1⟩ := cFour BK537) | (go_at_call 19; (with_reducible refine (spec_CheckFarkas.calls k t522 _ _ t523 t526 _ _ t527 t532 _ _ t533 t546 _ ?side1 ?side2 ?side3 ?side4 ?side5 ?side6 A49.out).mono ?_); (case side1 => exact mc ((Kd.S_reads' HO525.out).2.2)); (case side2 => exact (Kd.S_reads' HO525.out).2.1); (case side3 => exact mc ((Kd.R_reads' HO529.out).2.2)); (case side4 => exact (Kd.R_reads' HO529.out).2.1); (case side5 => exact mc ((Kd.R_reads' HO535.out).2.2)); (case side6 => exact (Kd.R_reads' HO535.out).2.1); rintro e w65 ⟨rfl, hb⟩; replace HO525 := bS HO525 hb; replace HO529 := rb HO529 hb; replace HO535 := rb HO535 hb; replace HO541 := rb HO541 hb; replace BK530 := bb BK530 hb; replace BK531 := bb BK531 hb; replace BK537 := bb BK537 hb; replace BK543 := bb BK543 hb; replace HB := bs HB hb; (try clear hb)))
    go_meet
    case rel => exact ⟨_, (!t546), (by first | rfl | (simp; done) | (simp [*]; done)), H', ⟨by first | omega | exact Nat.le_refl _⟩, ⟨by (with_reducible repeat (first | apply Kd.S_alloc | apply Kd.S_drewN | apply Kd.S_drew)); exact Kd.S_mono HO525.out (fun _ hk => ⟨hk.1.1.1, ⟨hk.1.2, ⟨hk.2, hk.1.1.2⟩⟩⟩)⟩, ⟨by (with_reducible repeat (first | apply Kd.R_alloc | apply Kd.R_drewN | apply Kd.R_drew)); exact Kd.R_mono HO529.out (fun _ hk => ⟨hk.1.2, hk.2⟩)⟩, ⟨by (with_reducible repeat (first | apply Kd.R_alloc | apply Kd.R_drewN | apply Kd.R_drew)); exact Kd.R_mono HO535.out (fun _ hk => ⟨hk.1.2, hk.2⟩)⟩, ⟨by (with_reducible repeat (first | apply Kd.R_alloc | apply Kd.R_drewN | apply Kd.R_drew)); exact Kd.R_mono HO541.out (fun _ hk => ⟨hk.1.2, hk.2⟩)⟩, ⟨mb BK530⟩, ⟨mb BK531⟩, ⟨mb BK537⟩, ⟨mb BK543⟩, ⟨ms HB⟩⟩
   replace c48 := Bool.eq_false_iff.mpr c48
   subst c48
   rw [if_neg (show ¬ (false = true) by decide)] at H
   have H' := Aside0.mk H
   clear H
   have := NB537_530.out
   have := NB530_537.out
   have := NB537_531.out
   have := NB531_537.out
   have := NB537_543.out
   have := NB543_537.out
   obtain ⟨hcz69_0, hcz69_1, hfz69_0, hfz69_1⟩ := cFour BK537
   have := NB543_530.out
   have := NB530_543.out
   have := NB543_531.out
   have := NB531_543.out
   obtain ⟨hcz72_0, hcz72_1, hfz72_0, hfz72_1⟩ := cFour BK543
   go_wp2_with (first | (go_at_call 17; (with_reducible refine (spec_EqualFarkas.calls k t532 _ _ t533 t538 _ _ t539 true _ ?side1 ?side2 ?side3 ?side4 A32.out).mono ?_); (case side1 => refine (Kd.R_reads' (e := 3) (base := w.heap.size) (ok := fun k_ => ((True ∧ some k_ ≠ (.slice Ao15 t527.length co15 : Value).ownBlock) ∧ some k_ ≠ (.slice Ao30 t539.length co30 : Value).ownBlock)) (n := t533.length) (c := co21) ?_).2.2; exact (by (with_reducible repeat (first | apply Kd.R_alloc | apply Kd.R_drewN | apply Kd.R_drew)); exact (rTwo HO535 BK543))); (case side2 => exact (Kd.R_reads' HO535.out).2.1); (case side3 => refine (Kd.R_reads' (e := 3) (base := w.heap.size) (ok := fun k_ => ((True ∧ some k_ ≠ (.slice Ao15 t527.length co15 : Value).ownBlock) ∧ some k_ ≠ (.slice Ao21 t533.length co21 : Value).ownBlock)) (n := t539.length) (c := co30) ?_).2.2; exact (by (with_reducible repeat (first | apply Kd.R_alloc | apply Kd.R_drewN | apply Kd.R_drew)); exact (rTwo HO541 BK543))); (case side4 => exact (Kd.R_reads' HO541.out).2.1); rintro e w73 ⟨rfl, hb⟩; have n0_ := Aside0.mk (Kd.S_below (by (with_reducible repeat (first | apply Kd.S_alloc | apply Kd.S_drewN | apply Kd.S_drew)); exact (Kd.S_mono (Kd.S_far (p := ⟨gb543, 1, none⟩) (Kd.S_far (p := ⟨gb543, 0, none⟩) (Kd.S_types HO525.out BK543.out (by decide)) (fun _ hk => hk.2) (.int .i64 t538)) (fun _ hk => hk.2) (.slice Ao30 t539.length co30)) (fun _ h_ => h_.1))) hb); have n1_ := Aside0.mk (Kd.R_below (by (with_reducible repeat (first | apply Kd.R_alloc | apply Kd.R_drewN | apply Kd.R_drew)); exact (rTwo HO529 BK543)) hb); have n2_ := Aside0.mk (Kd.R_below (by (with_reducible repeat (first | apply Kd.R_alloc | apply Kd.R_drewN | apply Kd.R_drew)); exact (rTwo HO535 BK543)) hb); have n3_ := Aside0.mk (Kd.R_below (by (with_reducible repeat (first | apply Kd.R_alloc | apply Kd.R_drewN | apply Kd.R_drew)); exact (rTwo HO541 BK543)) hb); have n4_ := bf BK530 hb; have n5_ := bf BK531 hb; have n6_ := bf BK537 hb; have n7_ := bp BK543 hb; have n8_ := bs HB hb; clear HO525 HO529 HO535 HO541 BK530 BK531 BK537 BK543 HB; have HO525 := n0_; have HO529 := n1_; have HO535 := n2_; have HO541 := n3_; have BK530 := n4_; have BK531 := n5_; have BK537 := n6_; have BK543 := n7_; have HB := n8_; clear n0_ n1_ n2_ n3_ n4_ n5_ n6_ n7_ n8_; (try clear hb); have := NB530_531.out; have := NB531_530.out; obtain ⟨hcz75_0, hcz75_1, hfz75_0, hfz75_1⟩ := cFour BK530; obtain ⟨hcz76_0, hcz76_1, hfz76_0, hfz76_1⟩ := cFour BK531) | (go_at_call 18; (with_reducible refine (impl_Entails.calls k t522 _ _ t523 t526 _ _ t527 t545 _ ?side1 ?side2 ?side3 ?side4 A34.out).mono ?_); (case side1 => exact mc ((Kd.S_reads' HO525.out).2.2)); (case side2 => exact (Kd.S_reads' HO525.out).2.1); (case side3 => exact mc ((Kd.R_reads' HO529.out).2.2)); (case side4 => exact (Kd.R_reads' HO529.out).2.1); rintro e w77 ⟨rfl, hb⟩; replace HO525 := bS HO525 hb; replace HO529 := rb HO529 hb; replace HO535 := rb HO535 hb; replace HO541 := rb HO541 hb; replace BK530 := bb BK530 hb; replace BK531 := bb BK531 hb; replace BK537 := bb BK537 hb; replace BK543 := bb BK543 hb; replace HB := bs HB hb; (try clear hb)))
   go_meet
   case rel => exact ⟨_, (false), (by first | rfl | (simp; done) | (simp [*]; done)), H', ⟨by first | omega | exact Nat.le_refl _⟩, ⟨by (with_reducible repeat (first | apply Kd.S_alloc | apply Kd.S_drewN | apply Kd.S_drew)); exact Kd.S_mono HO525.out (fun _ hk => ⟨hk.1.1.1, ⟨hk.1.2, ⟨hk.2, hk.1.1.2⟩⟩⟩)⟩, ⟨by (with_reducible repeat (first | apply Kd.R_alloc | apply Kd.R_drewN | apply Kd.R_drew)); exact Kd.R_mono HO529.out (fun _ hk => ⟨hk.1.2, hk.2⟩)⟩, ⟨by (with_reducible repeat (first | apply Kd.R_alloc | apply Kd.R_drewN | apply Kd.R_drew)); exact Kd.R_mono HO535.out (fun _ hk => ⟨hk.1.2, hk.2⟩)⟩, ⟨by (with_reducible repeat (first | apply Kd.R_alloc | apply Kd.R_drewN | apply Kd.R_drew)); exact Kd.R_mono HO541.out (fun _ hk => ⟨hk.1.2, hk.2⟩)⟩, ⟨mb BK530⟩, ⟨mb BK531⟩, ⟨mb BK537⟩, ⟨mb BK543⟩, ⟨ms HB⟩⟩
  replace c33 := Bool.eq_false_iff.mpr c33
  subst c33
  rw [if_neg (show ¬ (false = true) by decide)] at H
  have H' := Aside0.mk H
  clear H
  have := NB537_530.out
  have := NB530_537.out
  have := NB537_531.out
  have := NB531_537.out
  have := NB537_543.out
  have := NB543_537.out
  obtain ⟨hcz81_0, hcz81_1, hfz81_0, hfz81_1⟩ := cFour BK537
  have := NB543_530.out
  have := NB530_543.out
  have := NB543_531.out
  have := NB531_543.out
  obtain ⟨hcz84_0, hcz84_1, hfz84_0, hfz84_1⟩ := cFour BK543
  go_wp2_with ((go_at_call 17; (with_reducible refine (spec_EqualFarkas.calls k t532 _ _ t533 t538 _ _ t539 false _ ?side1 ?side2 ?side3 ?side4 A32.out).mono ?_); (case side1 => refine (Kd.R_reads' (e := 3) (base := w.heap.size) (ok := fun k_ => ((True ∧ some k_ ≠ (.slice Ao15 t527.length co15 : Value).ownBlock) ∧ some k_ ≠ (.slice Ao30 t539.length co30 : Value).ownBlock)) (n := t533.length) (c := co21) ?_).2.2; exact (by (with_reducible repeat (first | apply Kd.R_alloc | apply Kd.R_drewN | apply Kd.R_drew)); exact (rTwo HO535 BK543))); (case side2 => exact (Kd.R_reads' HO535.out).2.1); (case side3 => refine (Kd.R_reads' (e := 3) (base := w.heap.size) (ok := fun k_ => ((True ∧ some k_ ≠ (.slice Ao15 t527.length co15 : Value).ownBlock) ∧ some k_ ≠ (.slice Ao21 t533.length co21 : Value).ownBlock)) (n := t539.length) (c := co30) ?_).2.2; exact (by (with_reducible repeat (first | apply Kd.R_alloc | apply Kd.R_drewN | apply Kd.R_drew)); exact (rTwo HO541 BK543))); (case side4 => exact (Kd.R_reads' HO541.out).2.1); rintro e w85 ⟨rfl, hb⟩; have n0_ := Aside0.mk (Kd.S_below (by (with_reducible repeat (first | apply Kd.S_alloc | apply Kd.S_drewN | apply Kd.S_drew)); exact (Kd.S_mono (Kd.S_far (p := ⟨gb543, 1, none⟩) (Kd.S_far (p := ⟨gb543, 0, none⟩) (Kd.S_types HO525.out BK543.out (by decide)) (fun _ hk => hk.2) (.int .i64 t538)) (fun _ hk => hk.2) (.slice Ao30 t539.length co30)) (fun _ h_ => h_.1))) hb); have n1_ := Aside0.mk (Kd.R_below (by (with_reducible repeat (first | apply Kd.R_alloc | apply Kd.R_drewN | apply Kd.R_drew)); exact (rTwo HO529 BK543)) hb); have n2_ := Aside0.mk (Kd.R_below (by (with_reducible repeat (first | apply Kd.R_alloc | apply Kd.R_drewN | apply Kd.R_drew)); exact (rTwo HO535 BK543)) hb); have n3_ := Aside0.mk (Kd.R_below (by (with_reducible repeat (first | apply Kd.R_alloc | apply Kd.R_drewN | apply Kd.R_drew)); exact (rTwo HO541 BK543)) hb); have n4_ := bf BK530 hb; have n5_ := bf BK531 hb; have n6_ := bf BK537 hb; have n7_ := bp BK543 hb; have n8_ := bs HB hb; clear HO525 HO529 HO535 HO541 BK530 BK531 BK537 BK543 HB; have HO525 := n0_; have HO529 := n1_; have HO535 := n2_; have HO541 := n3_; have BK530 := n4_; have BK531 := n5_; have BK537 := n6_; have BK543 := n7_; have HB := n8_; clear n0_ n1_ n2_ n3_ n4_ n5_ n6_ n7_ n8_; (try clear hb)))
  go_meet
  case rel => exact ⟨_, (true), (by first | rfl | (simp; done) | (simp [*]; done)), H', ⟨by first | omega | exact Nat.le_refl _⟩, ⟨by (with_reducible repeat (first | apply Kd.S_alloc | apply Kd.S_drewN | apply Kd.S_drew)); exact Kd.S_mono HO525.out (fun _ hk => ⟨hk.1.1.1, ⟨hk.1.2, ⟨hk.2, hk.1.1.2⟩⟩⟩)⟩, ⟨by (with_reducible repeat (first | apply Kd.R_alloc | apply Kd.R_drewN | apply Kd.R_drew)); exact Kd.R_mono HO529.out (fun _ hk => ⟨hk.1.2, hk.2⟩)⟩, ⟨by (with_reducible repeat (first | apply Kd.R_alloc | apply Kd.R_drewN | apply Kd.R_drew)); exact Kd.R_mono HO535.out (fun _ hk => ⟨hk.1.2, hk.2⟩)⟩, ⟨by (with_reducible repeat (first | apply Kd.R_alloc | apply Kd.R_drewN | apply Kd.R_drew)); exact Kd.R_mono HO541.out (fun _ hk => ⟨hk.1.2, hk.2⟩)⟩, ⟨mb BK530⟩, ⟨mb BK531⟩, ⟨mb BK537⟩, ⟨mb BK543⟩, ⟨ms HB⟩⟩
 case rest =>
  clear HC7
  try clear c1
  try clear c2
  try clear p2
  try clear c3
  try clear c4
  try clear c5
  try clear c6
  try clear c7
  try clear c8
  try clear c11
  try clear c13
  try clear c14
  try clear c15
  try clear c16
  try clear c18
  try clear c19
  try clear c26
  try clear c27
  try clear c28
  try clear c31
  try clear c31b0
  try clear c31b1
  try clear c31b2
  try clear c33
  try clear c35
  try clear c35b0
  try clear c35b1
  try clear c35b2
  try clear c36
  try clear c37
  try clear c38
  try clear c40
  try clear c41
  try clear c44
  try clear c48
  try clear c50
  try clear c51
  try clear c52
  try clear c54
  try clear c55
  try clear c58
  try clear c66
  try clear c67
  try clear c68
  try clear c70
  try clear c71
  try clear c74
  try clear c78
  try clear c79
  try clear c80
  try clear c82
  try clear c83
  try clear hcz12_0
  try clear hcz12_1
  try clear hcz14_0
  try clear hcz14_1
  try clear hcz20_0
  try clear hcz20_1
  try clear hcz22_0
  try clear hcz22_1
  try clear hcz23_0
  try clear hcz23_1
  try clear hcz29_0
  try clear hcz29_1
  try clear hcz39_0
  try clear hcz39_1
  try clear hcz42_0
  try clear hcz42_1
  try clear hcz45_0
  try clear hcz45_1
  try clear hcz46_0
  try clear hcz46_1
  try clear hcz53_0
  try clear hcz53_1
  try clear hcz56_0
  try clear hcz56_1
  try clear hcz59_0
  try clear hcz59_1
  try clear hcz60_0
  try clear hcz60_1
  try clear hcz62_0
  try clear hcz62_1
  try clear hcz63_0
  try clear hcz63_1
  try clear hcz64_0
  try clear hcz64_1
  try clear hcz69_0
  try clear hcz69_1
  try clear hcz72_0
  try clear hcz72_1
  try clear hcz75_0
  try clear hcz75_1
  try clear hcz76_0
  try clear hcz76_1
  try clear hcz81_0
  try clear hcz81_1
  try clear hcz84_0
  try clear hcz84_1
  try clear hfz12_0
  try clear hfz12_1
  try clear hfz14_0
  try clear hfz14_1
  try clear hfz20_0
  try clear hfz20_1
  try clear hfz22_0
  try clear hfz22_1
  try clear hfz23_0
  try clear hfz23_1
  try clear hfz29_0
  try clear hfz29_1
  try clear hfz39_0
  try clear hfz39_1
  try clear hfz42_0
  try clear hfz42_1
  try clear hfz45_0
  try clear hfz45_1
  try clear hfz46_0
  try clear hfz46_1
  try clear hfz53_0
  try clear hfz53_1
  try clear hfz56_0
  try clear hfz56_1
  try clear hfz59_0
  try clear hfz59_1
  try clear hfz60_0
  try clear hfz60_1
  try clear hfz62_0
  try clear hfz62_1
  try clear hfz63_0
  try clear hfz63_1
  try clear hfz64_0
  try clear hfz64_1
  try clear hfz69_0
  try clear hfz69_1
  try clear hfz72_0
  try clear hfz72_1
  try clear hfz75_0
  try clear hfz75_1
  try clear hfz76_0
  try clear hfz76_1
  try clear hfz81_0
  try clear hfz81_1
  try clear hfz84_0
  try clear hfz84_1
  obtain ⟨kq, x53_6, rfl, HA, HJ6, HO_531001, HO_532001, HO_538001, HO_544001, BK530, BK531, BK537, BK543, HB⟩ := hcut
  cases kq with
  | zero => exact absurd HA.out (by simp [laws_FnFound.j0])
  | succ kj6 =>
   have H := HA.out
   clear HA
   simp only [laws_FnFound.j0] at H
   by_cases c86 : x53_6 = true
   ·subst c86
    rw [if_pos rfl] at H
    obtain rfl := Option.some.inj H
    exact absurd hT_ (by decide)
   replace c86 := Bool.eq_false_iff.mpr c86
   subst c86
   rw [if_neg (show ¬ (false = true) by decide)] at H
   by_cases c87 : t536 = true
   ·subst c87
    rw [if_pos rfl] at H
    obtain ⟨t547, A880, H⟩ := Option.bind_eq_some_iff.mp H
    try dsimp only at H
    have A88 := Aside0.mk A880; clear A880
    obtain ⟨t548, A890, H⟩ := Option.bind_eq_some_iff.mp H
    try dsimp only at H
    have A89 := Aside0.mk A890; clear A890
    obtain rfl := Option.some.inj H
    try go_wp2
    replace HO_531001 := Aside0.mk (Kd.S_drew HO_531001.out)
    replace HO_532001 := Aside0.mk (Kd.R_drew HO_532001.out)
    replace HO_538001 := Aside0.mk (Kd.R_drew HO_538001.out)
    replace HO_544001 := Aside0.mk (Kd.R_drew HO_544001.out)
    replace BK530 := Aside0.mk (blk_drew BK530.out)
    replace BK531 := Aside0.mk (blk_drew BK531.out)
    replace BK537 := Aside0.mk (blk_drew BK537.out)
    replace BK543 := Aside0.mk (blk_drew BK543.out)
    replace HB := Aside0.mk (below_drew1 HB.out)
    refine start_ (n := 10) (S := fun w' => w'.cell? ⟨gb530, 0, none⟩ = some (.int .i64 t522) ∧ w'.cell? ⟨gb530, 1, none⟩ = some (.slice Ao13 t523.length co13)) (ds := []) #[false, false, false, false, false, false, false, false, false, false] (by kernel_rfl) rfl rfl ⟨(c2 BK530).1, (c2 BK530).2⟩ (fun hHeld => ?_); refine with_tabW laws_FnFound.tab8 laws_FnFound.bits8 (fun HT_ HW_ => ?_)
    generalize wc.drew = w90 at HO_531001 HO_532001 HO_538001 HO_544001 BK530 BK531 BK537 BK543 HB hHeld ⊢
    refine pu 0 (some 54) (v := ?_) (a' := ?_) #[true, false, false, false, false, false, false, false, false, false] rfl rfl HT_ (fun _ _ _ h => h) (by rfl) ?_ ?_ ?_
    rotate_left
    ·intro w'
     go_simp
     with_reducible rfl
    rotate_left
    ·simp only [Act.put, z1, z2, z3, i64_w, i32_w]
     rfl
    refine pu 1 (some 55) (v := ?_) (a' := ?_) #[true, true, false, false, false, false, false, false, false, false] rfl rfl HT_ (fun _ _ _ h => h) (by rfl) ?_ ?_ ?_
    rotate_left
    ·intro w'
     go_simp
     with_reducible rfl
    rotate_left
    ·simp only [Act.put, z1, z2, z3, i64_w, i32_w]
     rfl
    refine pu 2 (some 56) (v := ?_) (a' := ?_) #[true, true, true, false, false, false, false, false, false, false] rfl rfl HT_ (fun _ _ _ h => h) (by rfl) ?_ ?_ ?_
    rotate_left
    ·intro w'
     go_simp
     with_reducible rfl
    rotate_left
    ·simp only [Act.put, z1, z2, z3, i64_w, i32_w]
     rfl
    refine tk 3 (some 57) (v := ?_) (a' := ?_) #[true, true, true, true, false, false, false, false, false, false] rfl rfl HT_ HW_ (fun _ _ _ h => h) (by rfl) ?_ hHeld ?_ ?_
    rotate_left
    ·rintro w' ⟨s0, s1⟩
     go_simp
     with_reducible rfl
    rotate_left
    ·simp only [Act.put, z1, z2, z3, i64_w, i32_w]
     rfl
    refine tk 5 (some 59) (v := ?_) (a' := ?_) #[true, true, true, true, false, true, false, false, false, false] rfl rfl HT_ HW_ (fun _ _ _ h => h) (by rfl) ?_ hHeld ?_ ?_
    rotate_left
    ·rintro w' ⟨s0, s1⟩
     go_simp
     with_reducible rfl
    rotate_left
    ·simp only [Act.put, z1, z2, z3, i64_w, i32_w]
     rfl
    refine one_ (i := 4) (N := some 58) #[true, true, true, true, true, true, false, false, false, false] rfl rfl (one_of HT_.out (by kernel_rfl)) (by decide) (fun K hK => ?_)
    refine gs Try.func20 (by kernel_rfl) rfl #[.agg #[.int .i64 t522, .slice Ao13 t523.length co13]] (by rfl) rfl rfl ?_
    with_reducible refine (impl_IsEmptySystem.calls kj6 t522 _ _ t523 t547 _ ?side1 ?side2 A88.out).mono ?_
    (case side1 => exact mc ((Kd.S_reads' HO_531001.out).2.2))
    (case side2 => exact (Kd.S_reads' HO_531001.out).2.1)
    rintro e w91 ⟨rfl, hb⟩
    refine ⟨_, rfl, ?_⟩
    replace HO_531001 := bS HO_531001 hb
    replace HO_532001 := rb HO_532001 hb
    replace HO_538001 := rb HO_538001 hb
    replace HO_544001 := rb HO_544001 hb
    replace BK530 := bb BK530 hb
    replace BK531 := bb BK531 hb
    replace BK537 := bb BK537 hb
    replace BK543 := bb BK543 hb
    replace HB := bs HB hb
    (try clear hb)
    (try clear hb2)
    (try clear hk)
    (try clear hi)
    refine hK.out _ _ ⟨(c2 BK530).1, (c2 BK530).2⟩ (fun hHeld => ?_)
    clear hK K
    refine norm_ (a' := ?_) ?_ ?_
    rotate_left
    ·show Act.put _ (some 58) _ = _
     simp only [Act.put, z1, z2, z3, i64_w, i32_w]
     rfl
    refine one_ (i := 6) (N := some 60) #[true, true, true, true, true, true, true, false, false, false] rfl rfl (one_of HT_.out (by kernel_rfl)) (by decide) (fun K hK => ?_)
    refine gs Try.func21 (by kernel_rfl) rfl #[.agg #[.int .i64 t522, .slice Ao13 t523.length co13]] (by rfl) rfl rfl ?_
    with_reducible refine (spec_IsEmptySystem.calls kj6 t522 _ _ t523 t548 _ ?side1 ?side2 A89.out).mono ?_
    (case side1 => exact mc ((Kd.S_reads' HO_531001.out).2.2))
    (case side2 => exact (Kd.S_reads' HO_531001.out).2.1)
    rintro e w92 ⟨rfl, hb⟩
    refine ⟨_, rfl, ?_⟩
    replace HO_531001 := bS HO_531001 hb
    replace HO_532001 := rb HO_532001 hb
    replace HO_538001 := rb HO_538001 hb
    replace HO_544001 := rb HO_544001 hb
    replace BK530 := bb BK530 hb
    replace BK531 := bb BK531 hb
    replace BK537 := bb BK537 hb
    replace BK543 := bb BK543 hb
    replace HB := bs HB hb
    (try clear hb)
    (try clear hb2)
    (try clear hk)
    (try clear hi)
    refine hK.out _ _ ⟨(c2 BK530).1, (c2 BK530).2⟩ (fun hHeld => ?_)
    clear hK K
    refine norm_ (a' := ?_) ?_ ?_
    rotate_left
    ·show Act.put _ (some 60) _ = _
     simp only [Act.put, z1, z2, z3, i64_w, i32_w]
     rfl
    refine pu 7 (some 61) (v := ?_) (a' := ?_) #[true, true, true, true, true, true, true, true, false, false] rfl rfl HT_ (fun _ _ _ h => h) (by rfl) ?_ ?_ ?_
    rotate_left
    ·intro w'
     go_simp
     with_reducible rfl
    rotate_left
    ·simp only [Act.put, z1, z2, z3, i64_w, i32_w]
     rfl
    refine pu 8 (some 62) (v := ?_) (a' := ?_) #[true, true, true, true, true, true, true, true, true, false] rfl rfl HT_ (fun _ _ _ h => h) (by rfl) ?_ ?_ ?_
    rotate_left
    ·intro w'
     go_simp
     with_reducible rfl
    rotate_left
    ·simp only [Act.put, z1, z2, z3, i64_w, i32_w]
     rfl
    refine pu 9 (some 2) (v := ?_) (a' := ?_) #[true, true, true, true, true, true, true, true, true, true] rfl rfl HT_ (fun _ _ _ h => h) (by rfl) ?_ ?_ ?_
    rotate_left
    ·intro w'
     go_simp
     with_reducible rfl
    rotate_left
    ·simp only [Act.put, z1, z2, z3, i64_w, i32_w]
     rfl
    refine done_ (done_of HT_.out (by kernel_rfl)) ?_
    try go_wp2
    go_ret
    exact ⟨by first | rfl | (simp [errW_none, errW_some] <;> rfl) | (simp [*, errW_none, errW_some] <;> rfl), ms HB⟩
   replace c87 := Bool.eq_false_iff.mpr c87
   subst c87
   rw [if_neg (show ¬ (false = true) by decide)] at H
   obtain rfl := Option.some.inj H
   try go_wp2
   replace HO_531001 := Aside0.mk (Kd.S_drew HO_531001.out)
   replace HO_532001 := Aside0.mk (Kd.R_drew HO_532001.out)
   replace HO_538001 := Aside0.mk (Kd.R_drew HO_538001.out)
   replace HO_544001 := Aside0.mk (Kd.R_drew HO_544001.out)
   replace BK530 := Aside0.mk (blk_drew BK530.out)
   replace BK531 := Aside0.mk (blk_drew BK531.out)
   replace BK537 := Aside0.mk (blk_drew BK537.out)
   replace BK543 := Aside0.mk (blk_drew BK543.out)
   replace HB := Aside0.mk (below_drew1 HB.out)
   refine start_ (n := 10) (S := fun w' => True) (ds := []) #[false, false, false, false, false, false, false, false, false, false] (by kernel_rfl) rfl rfl trivial (fun hHeld => ?_); refine with_tabW laws_FnFound.tab8 laws_FnFound.bits8 (fun HT_ HW_ => ?_)
   generalize wc.drew = w93 at HO_531001 HO_532001 HO_538001 HO_544001 BK530 BK531 BK537 BK543 HB hHeld ⊢
   refine pu 0 (some 54) (v := ?_) (a' := ?_) #[true, false, false, false, false, false, false, false, false, false] rfl rfl HT_ (fun _ _ _ h => h) (by rfl) ?_ ?_ ?_
   rotate_left
   ·intro w'
    go_simp
    with_reducible rfl
   rotate_left
   ·simp only [Act.put, z1, z2, z3, i64_w, i32_w]
    rfl
   refine pu 1 (some 55) (v := ?_) (a' := ?_) #[true, true, false, false, false, false, false, false, false, false] rfl rfl HT_ (fun _ _ _ h => h) (by rfl) ?_ ?_ ?_
   rotate_left
   ·intro w'
    go_simp
    with_reducible rfl
   rotate_left
   ·simp only [Act.put, z1, z2, z3, i64_w, i32_w]
    rfl
   refine pu 2 (some 56) (v := ?_) (a' := ?_) #[true, true, true, false, false, false, false, false, false, false] rfl rfl HT_ (fun _ _ _ h => h) (by rfl) ?_ ?_ ?_
   rotate_left
   ·intro w'
    go_simp
    with_reducible rfl
   rotate_left
   ·simp only [Act.put, z1, z2, z3, i64_w, i32_w]
    rfl
   refine pure_ (i := 3) (N := some 57) (v := undef) (a' := ?_) #[true, true, true, true, false, false, false, false, false, false] rfl rfl (any_of HT_.out (by kernel_rfl)) (fun _ _ _ h => h) (Or.inr ⟨by rfl, rfl⟩) ?_ ?_
   rotate_left
   ·simp only [Act.put, z1, z2, z3, i64_w, i32_w]
    rfl
   refine pure_ (i := 4) (N := some 58) (v := undef) (a' := ?_) #[true, true, true, true, true, false, false, false, false, false] rfl rfl (any_of HT_.out (by kernel_rfl)) (fun _ _ _ h => h) (Or.inr ⟨by rfl, rfl⟩) ?_ ?_
   rotate_left
   ·simp only [Act.put, z1, z2, z3, i64_w, i32_w]
    rfl
   refine pure_ (i := 5) (N := some 59) (v := undef) (a' := ?_) #[true, true, true, true, true, true, false, false, false, false] rfl rfl (any_of HT_.out (by kernel_rfl)) (fun _ _ _ h => h) (Or.inr ⟨by rfl, rfl⟩) ?_ ?_
   rotate_left
   ·simp only [Act.put, z1, z2, z3, i64_w, i32_w]
    rfl
   refine pure_ (i := 6) (N := some 60) (v := undef) (a' := ?_) #[true, true, true, true, true, true, true, false, false, false] rfl rfl (any_of HT_.out (by kernel_rfl)) (fun _ _ _ h => h) (Or.inr ⟨by rfl, rfl⟩) ?_ ?_
   rotate_left
   ·simp only [Act.put, z1, z2, z3, i64_w, i32_w]
    rfl
   refine pure_ (i := 7) (N := some 61) (v := undef) (a' := ?_) #[true, true, true, true, true, true, true, true, false, false] rfl rfl (any_of HT_.out (by kernel_rfl)) (fun _ _ _ h => h) (Or.inr ⟨by rfl, rfl⟩) ?_ ?_
   rotate_left
   ·simp only [Act.put, z1, z2, z3, i64_w, i32_w]
    rfl
   refine pu 8 (some 62) (v := ?_) (a' := ?_) #[true, true, true, true, true, true, true, true, true, false] rfl rfl HT_ (fun _ _ _ h => h) (by rfl) ?_ ?_ ?_
   rotate_left
   ·intro w'
    go_simp
    with_reducible rfl
   rotate_left
   ·simp only [Act.put, z1, z2, z3, i64_w, i32_w]
    rfl
   refine pu 9 (some 2) (v := ?_) (a' := ?_) #[true, true, true, true, true, true, true, true, true, true] rfl rfl HT_ (fun _ _ _ h => h) (by rfl) ?_ ?_ ?_
   rotate_left
   ·intro w'
    go_simp
    with_reducible rfl
   rotate_left
   ·simp only [Act.put, z1, z2, z3, i64_w, i32_w]
    rfl
   refine done_ (done_of HT_.out (by kernel_rfl)) ?_
   try go_wp2
   go_ret
   exact ⟨by first | rfl | (simp [errW_none, errW_some] <;> rfl) | (simp [*, errW_none, errW_some] <;> rfl), ms HB⟩

/-- THE ONE PURE STATEMENT of laws_FnFound: yours. -/
def laws_FnFound.Pure : Prop := ∀ (l0 : List Int), l0.length ≤ maxLen → l0.length * 1 ≤ 140737488351232 → (∀ x ∈ l0, (Lit.int .u8 x).wf = true) → ∃ k, laws_FnFound.f k l0 = some true
theorem laws_FnFound.walk (P : laws_FnFound.Pure) (a0 : Option Addr) (len0 cap0 : Nat) (z0 : List Int) (w : World) (w0 : (a0 = none ∧ len0 = 0 ∧ cap0 = 0 ∧ z0 = []) ∨ ∃ x, a0 = some x ∧ len0 ≤ cap0 ∧ cap0 ≤ maxLen ∧ z0.length = cap0 ∧ (∀ i, i < z0.length → w.cell? (x.add i) = some (.int .u8 (z0.getD i 0))) ∧ ∀ n ∈ z0, (Lit.int .u8 n).wf = true) (y0 : len0 * 1 ≤ 140737488351232) :
  Calls Try.prog 3 #[.slice a0 len0 cap0] w fun e w' => e = .returned (.bool true) ∧ Below w.heap.size w w' := by
 obtain ⟨l0, rfl, hr0, hm0, hw0, hc0⟩ := ReadsInt.ofRowC w0
 obtain ⟨k, h⟩ := P l0 hm0 y0 hw0
 refine (laws_FnFound.calls k _ _ l0 true w (Kd.C_of_reads (d := (0 : Int)) (h1 := fun _ => rfl) hr0) hc0 rfl h).mono ?_
 rintro e w' ⟨rfl, hd⟩
 exact ⟨rfl, hd⟩

end Go.Proofs.Ytlencemmlgkflaa.QFnFound
