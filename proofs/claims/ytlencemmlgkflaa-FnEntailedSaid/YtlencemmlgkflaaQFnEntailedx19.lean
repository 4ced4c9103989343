-- Made by a program of this claim's own (wip/print): not the kit's print as it stands.
import Derived.Test.YtlencemmlgkflaaUFnEntailedTri
import Derived.Test.YtlencemmlgkflaaQFnEntailedx0
import Derived.Test.YtlencemmlgkflaaQFnEntailedx1
import Derived.Test.YtlencemmlgkflaaQFnEntailedx7
import Derived.Test.YtlencemmlgkflaaQFnEntailedx12
import Derived.Test.YtlencemmlgkflaaQFnEntailedx17
import Derived.Test.YtlencemmlgkflaaQFnEntailedx18
namespace Go.Proofs.Ytlencemmlgkflaa.QFnEntailed
open Go.RowKit Go.Proofs.YtlencemmlgkflaaV.PrintWords Go.Proofs.YtlencemmlgkflaaV.PrintLast Go.Proofs.YtlencemmlgkflaaV.PrintMore
attribute [local go_sem] max2_int min2_int max_two min_two max_three min_three max_four min_four   -- for this text's walks alone
set_option linter.unusedVariables false
set_option linter.unusedSimpArgs false

/-! ### laws_FnEntailed: function 9 -/
mutual
def laws_FnEntailed.l0 : Nat → List Int → Int → Int → List (S29) → Int → List Int → Option (Bool)
 | 0, _, _, _, _, _, _ => none
 | k + 1, x0, x5, x581000, x581001, x582000, x582001 => if x5 < 12 then (laws_FnEntailed.l1 k x0 x5 (([] : List Int)) 0 x581000 x581001 x582000 x582001) else ((spec_DrawIsEmptySystem.f k x0).bind fun bt584 => ((impl_IsEmptySystem.f k bt584.1 bt584.2).bind fun t589 => ((spec_IsEmptySystem.f k bt584.1 bt584.2).bind fun t590 => (some (t589 == t590)))))
def laws_FnEntailed.l1 : Nat → List Int → Int → List Int → Int → Int → List (S29) → Int → List Int → Option (Bool)
 | 0, _, _, _, _, _, _, _, _ => none
 | k + 1, x0, x5, x6, x7, x581000, x581001, x582000, x582001 => if x7 < x581000 then ((laws_at0.f x0 (wrap64 ((wrap64 (2 * x5)) + x7))).bind fun t594 => (if x6.length < 17592186044416 then (laws_FnEntailed.l1 k x0 x5 (x6 ++ [wrap64 ((Int.tmod t594 15) - 5)]) (wrap64 (x7 + 1)) x581000 x581001 x582000 x582001) else (none))) else ((spec_EvalLin.f k x582000 x582001 x6).bind fun bt598 => ((spec_Satisfies.f k x581000 x581001 x6).bind fun t600 => (if t600 = true then (if bt598.1 < 0 then (some false) else ((impl_IsEmptySystem.f k x581000 x581001).bind fun t601 => (if t601 = true then (some false) else (laws_FnEntailed.l0 k x0 (wrap64 (x5 + 1)) x581000 x581001 x582000 x582001)))) else (laws_FnEntailed.l0 k x0 (wrap64 (x5 + 1)) x581000 x581001 x582000 x582001))))
end
def laws_FnEntailed.f (k : Nat) (l0 : List Int) : Option (Bool) := (laws_big.f l0).bind fun t571 => (if t571 = true then (some true) else ((spec_DrawEntails.f k l0).bind fun bt572 => ((impl_Entails.f k bt572.1 bt572.2.1 bt572.2.2.1 bt572.2.2.2).bind fun t582 => (if t582 = true then (laws_FnEntailed.l0 k l0 0 bt572.1 bt572.2.1 bt572.2.2.1 bt572.2.2.2) else ((spec_Entails.f k bt572.1 bt572.2.1 bt572.2.2.1 bt572.2.2.2).bind fun t583 => (some (!t583)))))))
theorem laws_FnEntailed.mono_l : ∀ k, (∀ y0 y1 y2 y3 y4 y5, LeO (laws_FnEntailed.l0 k y0 y1 y2 y3 y4 y5) (laws_FnEntailed.l0 (k + 1) y0 y1 y2 y3 y4 y5)) ∧ (∀ y0 y1 y2 y3 y4 y5 y6 y7, LeO (laws_FnEntailed.l1 k y0 y1 y2 y3 y4 y5 y6 y7) (laws_FnEntailed.l1 (k + 1) y0 y1 y2 y3 y4 y5 y6 y7))
 | 0 => ⟨fun _ _ _ _ _ _ r h => by simp [laws_FnEntailed.l0] at h, fun _ _ _ _ _ _ _ _ r h => by simp [laws_FnEntailed.l1] at h⟩
 | k + 1 => by
  obtain ⟨ih0, ih1⟩ := laws_FnEntailed.mono_l k
  refine ⟨?_, ?_⟩
  ·intro y0 y1 y2 y3 y4 y5
   unfold laws_FnEntailed.l0
   repeat' with_reducible first
   | exact ih0 _ _ _ _ _ _
   | exact ih1 _ _ _ _ _ _ _ _
   | exact impl_Entails.mono _ _ _ _ _
   | exact impl_IsEmptySystem.mono _ _ _
   | exact spec_DrawEntails.mono _ _
   | exact spec_DrawIsEmptySystem.mono _ _
   | exact spec_Entails.mono _ _ _ _ _
   | exact spec_EvalLin.mono _ _ _ _
   | exact spec_IsEmptySystem.mono _ _ _
   | exact spec_Satisfies.mono _ _ _ _
   | exact LeO.refl _
   | exact LeO.none _
   | refine LeO.ite ?_ ?_
   | refine LeO.bind ?_ (fun _ => ?_)
  intro y0 y1 y2 y3 y4 y5 y6 y7
  unfold laws_FnEntailed.l1
  repeat' with_reducible first
  | exact ih0 _ _ _ _ _ _
  | exact ih1 _ _ _ _ _ _ _ _
  | exact impl_Entails.mono _ _ _ _ _
  | exact impl_IsEmptySystem.mono _ _ _
  | exact spec_DrawEntails.mono _ _
  | exact spec_DrawIsEmptySystem.mono _ _
  | exact spec_Entails.mono _ _ _ _ _
  | exact spec_EvalLin.mono _ _ _ _
  | exact spec_IsEmptySystem.mono _ _ _
  | exact spec_Satisfies.mono _ _ _ _
  | exact LeO.refl _
  | exact LeO.none _
  | refine LeO.ite ?_ ?_
  | refine LeO.bind ?_ (fun _ => ?_)
theorem laws_FnEntailed.mono : ∀ a0 k, LeO (laws_FnEntailed.f k a0) (laws_FnEntailed.f (k + 1) a0) := by
 intro a0 k
 obtain ⟨ih0, ih1⟩ := laws_FnEntailed.mono_l k
 unfold laws_FnEntailed.f
 repeat' with_reducible first
 | exact ih0 _ _ _ _ _ _
 | exact ih1 _ _ _ _ _ _ _ _
 | exact impl_Entails.mono _ _ _ _ _
 | exact impl_IsEmptySystem.mono _ _ _
 | exact spec_DrawEntails.mono _ _
 | exact spec_DrawIsEmptySystem.mono _ _
 | exact spec_Entails.mono _ _ _ _ _
 | exact spec_EvalLin.mono _ _ _ _
 | exact spec_IsEmptySystem.mono _ _ _
 | exact spec_Satisfies.mono _ _ _ _
 | exact LeO.refl _
 | exact LeO.none _
 | refine LeO.ite ?_ ?_
 | refine LeO.bind ?_ (fun _ => ?_)
set_option maxHeartbeats 8000000 in
set_option maxRecDepth 100000 in
theorem laws_FnEntailed.calls (k : Nat) (A0 : Option Addr) (c0 : Nat) (l0 : List Int) (r : Bool) (w : World) (hr0 : Kd.C (Kd.int .u8) w A0 l0.length l0) (hc0 : l0.length ≤ c0) (hT_ : r = true) (h : laws_FnEntailed.f k l0 = some r) :
  Calls Try.prog 9 #[.slice A0 l0.length c0] w fun e w' => e = .returned (.bool r) ∧ Below w.heap.size w w' := by
 have hu26 := Try.underlying26
 have hu29 := Try.underlying29
 have HR0 := Aside0.mk hr0
 have HC0 := Aside0.mk hc0
 clear hr0 hc0
 have HB := Aside0.mk (Below.refl w.heap.size w)
 have H : ((laws_big.f l0).bind fun t571 => (if t571 = true then (some true) else ((spec_DrawEntails.f k l0).bind fun bt572 => ((impl_Entails.f k bt572.1 bt572.2.1 bt572.2.2.1 bt572.2.2.2).bind fun t582 => (if t582 = true then (laws_FnEntailed.l0 k l0 0 bt572.1 bt572.2.1 bt572.2.2.1 bt572.2.2.2) else ((spec_Entails.f k bt572.1 bt572.2.1 bt572.2.2.1 bt572.2.2.2).bind fun t583 => (some (!t583)))))))) = some r := h
 clear h
 obtain ⟨t571, A20, H⟩ := Option.bind_eq_some_iff.mp H
 try dsimp only at H
 have A2 := Aside0.mk A20; clear A20
 by_cases c3 : t571 = true
 ·subst c3
  rw [if_pos rfl] at H
  obtain rfl := Option.some.inj H
  go_enter Try.func9, Try.ntmps9
  go_wp2_with (((with_reducible refine gate_callee (f := 13) rfl ?_); refine gl (some 12) rfl rfl Try.func13 (by kernel_rfl) rfl #[.slice A0 l0.length c0] rfl ?_; (with_reducible refine (laws_big.calls _ _ l0 true _ ?side1 ?side2 A2.out).mono ?_); (case side1 => repeat (first | exact HR0.out | (with_reducible refine Kd.C_alloc ?_ _) | (with_reducible refine Kd.C_drewN ?_ _) | (with_reducible refine Kd.C_drew ?_))); (case side2 => exact HC0.out); rintro e w' ⟨rfl, ⟨nd, rfl⟩⟩; refine ⟨_, rfl, ?_⟩))
  go_ret
  exact ⟨by first | rfl | (simp [errW_none, errW_some] <;> rfl) | (simp [*, errW_none, errW_some] <;> rfl), ms HB⟩
 replace c3 := Bool.eq_false_iff.mpr c3
 subst c3
 rw [if_neg (show ¬ (false = true) by decide)] at H
 obtain ⟨⟨t572, t573, t576, t577⟩, A40, H⟩ := Option.bind_eq_some_iff.mp H
 try dsimp only at H
 have A4 := Aside0.mk A40; clear A40
 obtain ⟨t582, A50, H⟩ := Option.bind_eq_some_iff.mp H
 try dsimp only at H
 have A5 := Aside0.mk A50; clear A50
 by_cases c6 : t582 = true
 ·subst c6
  rw [if_pos rfl] at H
  have H' := Aside0.mk H
  clear H
  go_enter Try.func9, Try.ntmps9
  go_wp2_with (first | ((with_reducible refine gate_callee (f := 13) rfl ?_); refine gl (some 12) rfl rfl Try.func13 (by kernel_rfl) rfl #[.slice A0 l0.length c0] rfl ?_; (with_reducible refine (laws_big.calls _ _ l0 false _ ?side1 ?side2 A2.out).mono ?_); (case side1 => repeat (first | exact HR0.out | (with_reducible refine Kd.C_alloc ?_ _) | (with_reducible refine Kd.C_drewN ?_ _) | (with_reducible refine Kd.C_drew ?_))); (case side2 => exact HC0.out); rintro e w' ⟨rfl, ⟨nd, rfl⟩⟩; refine ⟨_, rfl, ?_⟩) | ((with_reducible refine gate_callee (f := 43) rfl ?_); refine gl (some 15) rfl rfl Try.func43 (by kernel_rfl) rfl #[.slice A0 l0.length c0] rfl ?_; (with_reducible refine (spec_DrawEntails.calls k _ _ l0 t572 t573 t576 t577 _ ?side1 ?side2 A4.out).mono ?_); (case side1 => repeat (first | exact HR0.out | (with_reducible refine Kd.C_alloc ?_ _) | (with_reducible refine Kd.C_drewN ?_ _) | (with_reducible refine Kd.C_drew ?_))); (case side2 => exact HC0.out); rintro e w7 ⟨v574, v578, rfl, ho0, ho1, hb⟩; refine ⟨_, rfl, ?_⟩; have HO575 := Aside0.mk (Kd.S_lower ho0 (below_size (ms HB))); have HO579 := Aside0.mk (Kd.R_lower ho1 (below_size (ms HB))); replace HB := bs HB hb; (try clear hb); (try clear ho0); (try clear ho1)) | ((with_reducible refine gate_dst (N := 3) rfl ?_); refine box_event ?hg (N := 3) ?hd (cs := #[.int .i64 0, .slice none 0 0]) (t := 26) ?hr ?_; (case hd => rfl); (case hg => rfl); (case hr => first | (go_simp; done) | (go_simp; rfl)); intro gb580 hg w8 hbox hb; replace HO575 := bS HO575 hb; replace HO579 := rb HO579 hb; have BK580 := Aside0.mk (hbox); have GW580 := gw hg HB; have GE580 := gw hg HB; replace HB := bs HB hb; clear hb hbox hg) | ((with_reducible refine gate_dst (N := 4) rfl ?_); refine box_event ?hg (N := 4) ?hd (cs := #[.int .i64 0, .slice none 0 0]) (t := 29) ?hr ?_; (case hd => rfl); (case hg => rfl); (case hr => first | (go_simp; done) | (go_simp; rfl)); intro gb581 hg w9 hbox hb; replace HO575 := Aside0.mk (Kd.S_below (Kd.S_elderB (mS HO575) gb581 (Nat.le_of_eq hg.symm)) hb); replace HO579 := rb HO579 hb; have BK581 := Aside0.mk (hbox); have GW581 := gw hg HB; have GE581 := gw hg HB; replace HB := bs HB hb; have NB580_581 := nl hg BK580; have NB581_580 := ng hg BK580; replace BK580 := bb BK580 hb; clear hb hbox hg; have := NB580_581.out; have := NB581_580.out; obtain ⟨hcz11_0, hcz11_1, hfz11_0, hfz11_1⟩ := cFour BK580; obtain ⟨Ao12, co12, eo12⟩ := Kd.S_slice HO575.out; subst eo12; obtain ⟨hcz13_0, hcz13_1, hfz13_0, hfz13_1⟩ := cFour BK581; obtain ⟨Ao14, co14, eo14⟩ := Kd.R_slice HO579.out; subst eo14) | ((with_reducible refine gate_callee (f := 18) rfl ?_); refine gl (some 20) rfl rfl Try.func18 (by kernel_rfl) rfl #[.agg #[.int .i64 t572, .slice Ao12 t573.length co12], .agg #[.int .i64 t576, .slice Ao14 t577.length co14]] rfl ?_; (with_reducible refine (impl_Entails.calls k t572 _ _ t573 t576 _ _ t577 true _ ?side1 ?side2 ?side3 ?side4 A5.out).mono ?_); (case side1 => refine (Kd.S_reads' (e := 29) (base := w.heap.size) (ok := fun k_ => (some k_ ≠ (.slice Ao14 t577.length co14 : Value).ownBlock ∧ k_ ≠ gb581)) (n := t573.length) (c := co12) ?_).2.2; exact (by (with_reducible repeat (first | apply Kd.S_alloc | apply Kd.S_drewN | apply Kd.S_drew)); exact (Kd.S_mono (Kd.S_mono (Kd.S_far (p := ⟨gb581, 1, none⟩) (Kd.S_far (p := ⟨gb581, 0, none⟩) (Kd.S_far (p := ⟨gb580, 1, none⟩) (Kd.S_far (p := ⟨gb580, 0, none⟩) (Kd.S_mono (Kd.S_types HO575.out BK580.out (by decide)) (fun k_ hk => (⟨hk, hk.1.2⟩ : _ ∧ k_ ≠ gb581))) (fun _ hk => hk.1.2) (.int .i64 t572)) (fun _ hk => hk.1.2) (.slice Ao12 t573.length co12)) (fun _ hk => hk.2) (.int .i64 t576)) (fun _ hk => hk.2) (.slice Ao14 t577.length co14)) (fun _ h_ => h_.1)) (fun _ h_ => h_.1)))); (case side2 => exact (Kd.S_reads' HO575.out).2.1); (case side3 => refine (Kd.R_reads' (e := 3) (base := w.heap.size) (ok := fun k_ => True) (n := t577.length) (c := co14) ?_).2.2; exact (by (with_reducible repeat (first | apply Kd.R_alloc | apply Kd.R_drewN | apply Kd.R_drew)); exact (Kd.R_mono (Kd.R_mono (Kd.R_far (p := ⟨gb581, 1, none⟩) (Kd.R_far (p := ⟨gb581, 0, none⟩) (Kd.R_far (p := ⟨gb580, 1, none⟩) (Kd.R_far (p := ⟨gb580, 0, none⟩) (Kd.R_types (Kd.R_types HO579.out BK580.out (by decide)) BK581.out (by decide)) (fun _ hk => hk.1.2) (.int .i64 t572)) (fun _ hk => hk.1.2) (.slice Ao12 t573.length co12)) (fun _ hk => hk.2) (.int .i64 t576)) (fun _ hk => hk.2) (.slice Ao14 t577.length co14)) (fun _ h_ => h_.1)) (fun _ h_ => h_.1)))); (case side4 => exact (Kd.R_reads' HO579.out).2.1); rintro e w15 ⟨rfl, hb⟩; refine ⟨_, rfl, ?_⟩; have n0_ := Aside0.mk (Kd.S_below (by (with_reducible repeat (first | apply Kd.S_alloc | apply Kd.S_drewN | apply Kd.S_drew)); exact (Kd.S_mono (Kd.S_mono (Kd.S_far (p := ⟨gb581, 1, none⟩) (Kd.S_far (p := ⟨gb581, 0, none⟩) (Kd.S_far (p := ⟨gb580, 1, none⟩) (Kd.S_far (p := ⟨gb580, 0, none⟩) (Kd.S_mono (Kd.S_types HO575.out BK580.out (by decide)) (fun k_ hk => (⟨hk, hk.1.2⟩ : _ ∧ k_ ≠ gb581))) (fun _ hk => hk.1.2) (.int .i64 t572)) (fun _ hk => hk.1.2) (.slice Ao12 t573.length co12)) (fun _ hk => hk.2) (.int .i64 t576)) (fun _ hk => hk.2) (.slice Ao14 t577.length co14)) (fun _ h_ => h_.1)) (fun _ h_ => h_.1))) hb); have n1_ := Aside0.mk (Kd.R_below (by (with_reducible repeat (first | apply Kd.R_alloc | apply Kd.R_drewN | apply Kd.R_drew)); exact (Kd.R_mono (Kd.R_mono (Kd.R_far (p := ⟨gb581, 1, none⟩) (Kd.R_far (p := ⟨gb581, 0, none⟩) (Kd.R_far (p := ⟨gb580, 1, none⟩) (Kd.R_far (p := ⟨gb580, 0, none⟩) (Kd.R_types (Kd.R_types HO579.out BK580.out (by decide)) BK581.out (by decide)) (fun _ hk => hk.1.2) (.int .i64 t572)) (fun _ hk => hk.1.2) (.slice Ao12 t573.length co12)) (fun _ hk => hk.2) (.int .i64 t576)) (fun _ hk => hk.2) (.slice Ao14 t577.length co14)) (fun _ h_ => h_.1)) (fun _ h_ => h_.1))) hb); have n2_ := Aside0.mk (blk_below (g := gb580) (o := .cells #[.int .i64 t572, .slice Ao12 t573.length co12] 26 (0, 0)) (by (with_reducible repeat (first | refine blk_drewN ?_ _ | refine blk_drew ?_ | refine blk_alloc ?_ _)); refine blk_far ?_ NB580_581.out _; (with_reducible repeat (first | refine blk_drewN ?_ _ | refine blk_drew ?_ | refine blk_alloc ?_ _)); refine blk_far ?_ NB580_581.out _; (with_reducible repeat (first | refine blk_drewN ?_ _ | refine blk_drew ?_ | refine blk_alloc ?_ _)); refine blk_put (cs := #[.int .i64 t572, .slice none 0 0]) ?_ 1 _ rfl; (with_reducible repeat (first | refine blk_drewN ?_ _ | refine blk_drew ?_ | refine blk_alloc ?_ _)); refine blk_put (cs := #[.int .i64 0, .slice none 0 0]) ?_ 0 _ rfl; (with_reducible repeat (first | refine blk_drewN ?_ _ | refine blk_drew ?_ | refine blk_alloc ?_ _)); exact BK580.out) hb); have n3_ := Aside0.mk (blk_below (g := gb581) (o := .cells #[.int .i64 t576, .slice Ao14 t577.length co14] 29 (0, 0)) (by (with_reducible repeat (first | refine blk_drewN ?_ _ | refine blk_drew ?_ | refine blk_alloc ?_ _)); refine blk_put (cs := #[.int .i64 t576, .slice none 0 0]) ?_ 1 _ rfl; (with_reducible repeat (first | refine blk_drewN ?_ _ | refine blk_drew ?_ | refine blk_alloc ?_ _)); refine blk_put (cs := #[.int .i64 0, .slice none 0 0]) ?_ 0 _ rfl; (with_reducible repeat (first | refine blk_drewN ?_ _ | refine blk_drew ?_ | refine blk_alloc ?_ _)); refine blk_far ?_ NB581_580.out _; (with_reducible repeat (first | refine blk_drewN ?_ _ | refine blk_drew ?_ | refine blk_alloc ?_ _)); refine blk_far ?_ NB581_580.out _; (with_reducible repeat (first | refine blk_drewN ?_ _ | refine blk_drew ?_ | refine blk_alloc ?_ _)); exact BK581.out) hb); have n4_ := bs HB hb; clear HO575 HO579 BK580 BK581 HB; have HO575 := n0_; have HO579 := n1_; have BK580 := n2_; have BK581 := n3_; have HB := n4_; clear n0_ n1_ n2_ n3_ n4_; (try clear hb)))
  go_loopg [5] k (fun kq v5 w' => ∃ (x5_1 : Int), v5 = .int .i64 x5_1 ∧ Aside0 (laws_FnEntailed.l0 kq l0 x5_1 t572 t573 t576 t577 = some r) ∧ Aside0 (kq ≤ k) ∧ Aside0 (Kd.S k29 29 w' w.heap.size (fun k_ => some k_ ≠ ((.slice Ao14 t577.length co14) : Value).ownBlock ∧ k_ ≠ gb581) (.slice Ao12 t573.length co12) t573) ∧ Aside0 (Kd.R (Kd.int .i64) 3 w' w.heap.size (fun _ => True) (.slice Ao14 t577.length co14) t577) ∧ Aside0 (w'.heap[gb580]? = some (.cells #[.int .i64 t572, (.slice Ao12 t573.length co12)] 26 (0, 0))) ∧ Aside0 (w'.heap[gb581]? = some (.cells #[.int .i64 t576, (.slice Ao14 t577.length co14)] 29 (0, 0))) ∧ Aside0 (Below w.heap.size w w'))
  case atStart => exact ⟨(0), (by first | rfl | (simp; done) | (simp [*]; done)), H', ⟨Nat.le_refl _⟩, ⟨by (with_reducible repeat (first | apply Kd.S_alloc | apply Kd.S_drewN | apply Kd.S_drew)); exact HO575.out⟩, ⟨by (with_reducible repeat (first | apply Kd.R_alloc | apply Kd.R_drewN | apply Kd.R_drew)); exact HO579.out⟩, ⟨mb BK580⟩, ⟨mb BK581⟩, ⟨ms HB⟩⟩
  case round =>
   clear H'
   try clear c1
   try clear p2
   try clear c3
   try clear c4
   try clear c6
   try clear c9
   try clear c10
   try clear c13
   try clear hcz11_0
   try clear hcz11_1
   try clear hcz13_0
   try clear hcz13_1
   try clear hfz11_0
   try clear hfz11_1
   try clear hfz13_0
   try clear hfz13_1
   obtain ⟨x5_1, rfl, HA, HK1, HO_581001, HO_582001, BK580, BK581, HB⟩ := hrel
   cases gk with
   | zero => exact absurd HA.out (by simp [laws_FnEntailed.l0])
   | succ k1 =>
    have H := HA.out
    clear HA
    simp only [laws_FnEntailed.l0] at H
    by_cases c16 : x5_1 < 12
    ·rw [if_pos c16] at H
     have c16b0 : decide (x5_1 < 12) = true := decide_eq_true c16
     clear c16
     obtain ⟨y591, hy591⟩ : ∃ y_ : List Int, y_ = (([] : List Int)) := ⟨_, rfl⟩
     replace H : (laws_FnEntailed.l1 k1 l0 x5_1 y591 0 t572 t573 t576 t577) = some r := by first | (rw [hy591]; with_reducible exact H) | (have H2_ := (Option.bind_some _ _).symm.trans H; rw [hy591]; with_reducible exact H2_) | (have H2_ := (Option.bind_some _ _).symm.trans H; with_reducible exact H2_) | with_reducible exact H | (rw [hy591]; exact H) | exact H
     have Ny591 := Aside0.mk hy591; clear hy591
     have H' := Aside0.mk H
     clear H
     go_wp2_with (((with_reducible refine gate_dst (N := 30) rfl ?_); refine Kd.R_lit (Kd.int .i64) _ 3 ?hg (N := 30) ?hd (xs := ([] : List Int)) (inner := []) (ok := fun _ => True) (okp := fun _ => True) ?hr ?hp (fun _ hk => hk) trivial (Below.refl _ _) (Nat.le_refl _) (by simp) ?_; (case hd => rfl); (case hg => rfl); (case hr => first | (go_simp; done) | (go_simp; rfl)); (case hp => exact (Reps.none _ _)); intro v592 w17 ho18 hb hg_ hnew_; clear hg_ hnew_; (first | rw [← Ny591.out] at ho18 | (simp only [Int.reduceToNat] at ho18; rw [← Ny591.out] at ho18)); replace HO_581001 := lS HO_581001 ho18 hb; have HO593 := Aside0.mk (Kd.R_lower (Kd.R_new' ho18 (Kd.R_lt (mr HO_582001))) (below_size (ms HB))); replace HO_582001 := rl HO_582001 ho18 hb; replace BK580 := bb BK580 hb; replace BK581 := bb BK581 hb; replace HB := bs HB hb; clear hb ho18))
     go_loopg [6, 7] k1 (fun kq v6 v7 w' => ∃ (x6_2 : List Int) (x7_2 : Int), v7 = .int .i64 x7_2 ∧ Aside0 (laws_FnEntailed.l1 kq l0 x5_1 x6_2 x7_2 t572 t573 t576 t577 = some r) ∧ Aside0 (kq ≤ k1) ∧ Aside0 (Kd.R (Kd.int .i64) 3 w' w.heap.size (fun k_ => some k_ ≠ ((.slice Ao14 t577.length co14) : Value).ownBlock) v6 x6_2) ∧ Aside0 (Kd.S k29 29 w' w.heap.size (fun k_ => some k_ ≠ (v6 : Value).ownBlock ∧ some k_ ≠ ((.slice Ao14 t577.length co14) : Value).ownBlock ∧ k_ ≠ gb581) (.slice Ao12 t573.length co12) t573) ∧ Aside0 (Kd.R (Kd.int .i64) 3 w' w.heap.size (fun k_ => some k_ ≠ (v6 : Value).ownBlock) (.slice Ao14 t577.length co14) t577) ∧ Aside0 (w'.heap[gb580]? = some (.cells #[.int .i64 t572, (.slice Ao12 t573.length co12)] 26 (0, 0))) ∧ Aside0 (w'.heap[gb581]? = some (.cells #[.int .i64 t576, (.slice Ao14 t577.length co14)] 29 (0, 0))) ∧ Aside0 (Below w.heap.size w w'))
     case atStart => exact ⟨(y591), (0), (by first | rfl | (simp; done) | (simp [*]; done)), H', ⟨Nat.le_refl _⟩, ⟨by (with_reducible repeat (first | apply Kd.R_alloc | apply Kd.R_drewN | apply Kd.R_drew)); exact Kd.R_mono HO593.out (fun _ hk => hk.2)⟩, ⟨by (with_reducible repeat (first | apply Kd.S_alloc | apply Kd.S_drewN | apply Kd.S_drew)); exact Kd.S_mono HO_581001.out (fun _ hk => ⟨hk.2, ⟨hk.1.1, hk.1.2⟩⟩)⟩, ⟨by (with_reducible repeat (first | apply Kd.R_alloc | apply Kd.R_drewN | apply Kd.R_drew)); exact Kd.R_mono HO_582001.out (fun _ hk => hk.2)⟩, ⟨mb BK580⟩, ⟨mb BK581⟩, ⟨ms HB⟩⟩
     case round =>
      clear H'
      try clear c1
      try clear p2
      try clear c3
      try clear c4
      try clear c6
      try clear c9
      try clear c10
      try clear c13
      try clear c16
      try clear c16b0
      try clear c18
      try clear hcz11_0
      try clear hcz11_1
      try clear hcz13_0
      try clear hcz13_1
      try clear hfz11_0
      try clear hfz11_1
      try clear hfz13_0
      try clear hfz13_1
      try clear p2
      obtain ⟨x6_2, x7_2, rfl, HA, HK2, HO_6, HO_581001, HO_582001, BK580, BK581, HB⟩ := hrel
      cases gk with
      | zero => exact absurd HA.out (by simp [laws_FnEntailed.l1])
      | succ k2 =>
       have H := HA.out
       clear HA
       simp only [laws_FnEntailed.l1] at H
       by_cases c19 : x7_2 < t572
       ·rw [if_pos c19] at H
        have c19b0 : decide (x7_2 < t572) = true := decide_eq_true c19
        clear c19
        obtain ⟨t594, A200, H⟩ := Option.bind_eq_some_iff.mp H
        try dsimp only at H
        have A20 := Aside0.mk A200; clear A200
        by_cases c21 : x6_2.length < 17592186044416
        ·rw [if_pos c21] at H
         have LMc21 := Aside0.mk c21; clear c21
         obtain ⟨y595, hy595⟩ : ∃ y_ : List Int, y_ = (x6_2 ++ [wrap64 ((Int.tmod t594 15) - 5)]) := ⟨_, rfl⟩
         replace H : (laws_FnEntailed.l1 k2 l0 x5_1 y595 (wrap64 (x7_2 + 1)) t572 t573 t576 t577) = some r := by first | (rw [hy595]; with_reducible exact H) | (have H2_ := (Option.bind_some _ _).symm.trans H; rw [hy595]; with_reducible exact H2_) | (have H2_ := (Option.bind_some _ _).symm.trans H; with_reducible exact H2_) | with_reducible exact H | (rw [hy595]; exact H) | exact H
         have Ny595 := Aside0.mk hy595; clear hy595
         have H' := Aside0.mk H
         clear H
         have := NB580_581.out
         have := NB581_580.out
         obtain ⟨_, _, _, _⟩ := cFour BK580
         go_wp2_with (first | ((with_reducible refine gate_callee (f := 44) rfl ?_); refine gl (some 43) rfl rfl Try.func44 (by kernel_rfl) rfl #[.slice A0 l0.length c0, .int .i64 (wrap64 ((wrap64 (2 * x5_1)) + x7_2))] rfl ?_; (with_reducible refine (laws_at0.calls _ _ l0 (wrap64 ((wrap64 (2 * x5_1)) + x7_2)) t594 _ ?side1 ?side2 A20.out).mono ?_); (case side1 => exact mc ((Kd.C_below HR0.out HB.out))); (case side2 => exact HC0.out); rintro e w' ⟨rfl, ⟨nd, rfl⟩⟩; refine ⟨_, rfl, ?_⟩) | ((with_reducible refine gate_builtin (b := .append) (xs := #[.tmp 37, .tmp 46]) rfl ?_); at_builtin; refine Kd.R_append (Kd.int .i64) (w0 := w) w.heap.size rfl (.tmp 37) (.tmp 46) 27 3 (.int .i64 0) 8 rfl Try.underlying27 info3 rfl (by decide) (by omega) u6 x6_2 (wrap64 ((Int.tmod t594 15) - 5)) [.int .i64 (wrap64 ((Int.tmod t594 15) - 5))] (fun k_ => some k_ ≠ (.slice Ao14 t577.length co14 : Value).ownBlock) (fun _ => False) rfl rfl ?aP (fun _ hk => hk.elim) ?aF ?aO ?aB ?aS ?aL ?_; (case aP => exact rfl); (case aB => exact (ms HB)); (case aF => exact (fun k_ hk => Kd.fresh' (Kd.R_lt (mr HO_582001)) k_ hk)); (case aO => exact (mr HO_6)); (case aS => exact (below_size (ms HB))); (case aL => have := LMc21.out; omega); intro v596 w24 ho hb hg hat; rw [← Ny595.out] at ho; have n0_ := Aside0.mk (Kd.S_after (ok := (fun k_ => some k_ ≠ (.slice Ao14 t577.length co14 : Value).ownBlock ∧ k_ ≠ gb581)) (by (with_reducible repeat (first | apply Kd.S_alloc | apply Kd.S_drewN | apply Kd.S_drew)); exact Kd.S_mono HO_581001.out (fun _ hk => ⟨⟨hk.2.1, hk.2.2⟩, hk.1⟩)) hg hat); have n1_ := Aside0.mk (Kd.R_after (ok := (fun _ => True)) (by (with_reducible repeat (first | apply Kd.R_alloc | apply Kd.R_drewN | apply Kd.R_drew)); exact Kd.R_mono HO_582001.out (fun _ hk => ⟨trivial, by first | exact hk | exact fun e_ => hk (e_.trans Go.Proofs.YtlencemmlgkflaaV.PrintWords.own_len)⟩)) hg hat); have n2_ := Aside0.mk (blk_grown (g := gb580) (o := .cells #[.int .i64 t572, .slice Ao12 t573.length co12] 26 (0, 0)) (mb BK580) hg (Kd.R_ne HO_6.out BK580.out (by decide))); have n3_ := Aside0.mk (blk_grown (g := gb581) (o := .cells #[.int .i64 t576, .slice Ao14 t577.length co14] 29 (0, 0)) (mb BK581) hg (Kd.R_ne HO_6.out BK581.out (by decide))); have n4_ := Aside0.mk (hb); have n5_ := Aside0.mk (ho); clear HO_581001 HO_582001 BK580 BK581 HB HO_6; have HO_581001 := n0_; have HO_582001 := n1_; have BK580 := n2_; have BK581 := n3_; have HB := n4_; have HO597 := n5_; clear n0_ n1_ n2_ n3_ n4_ n5_; clear ho hb hg hat))
         go_roundg k2
         case measure => have := HK1.out; have := HK2.out; omega
         case rel => exact ⟨(y595), (wrap64 (x7_2 + 1)), (by first | rfl | (simp; done) | (simp [*]; done)), H', ⟨by have := HK1.out; have := HK2.out; omega⟩, ⟨by (with_reducible repeat (first | apply Kd.R_alloc | apply Kd.R_drewN | apply Kd.R_drew)); exact HO597.out⟩, ⟨by (with_reducible repeat (first | apply Kd.S_alloc | apply Kd.S_drewN | apply Kd.S_drew)); exact Kd.S_mono HO_581001.out (fun _ hk => ⟨hk.2, ⟨hk.1.1, hk.1.2⟩⟩)⟩, ⟨by (with_reducible repeat (first | apply Kd.R_alloc | apply Kd.R_drewN | apply Kd.R_drew)); exact Kd.R_mono HO_582001.out (fun _ hk => hk.2)⟩, ⟨mb BK580⟩, ⟨mb BK581⟩, ⟨ms HB⟩⟩
        rw [if_neg c21] at H
        exact absurd H (by simp)
       rw [if_neg c19] at H
       have c19b0 : decide (x7_2 < t572) = false := decide_eq_false c19
       clear c19
       obtain ⟨⟨t598, t599⟩, A250, H⟩ := Option.bind_eq_some_iff.mp H
       try dsimp only at H
       have A25 := Aside0.mk A250; clear A250
       obtain ⟨t600, A260, H⟩ := Option.bind_eq_some_iff.mp H
       try dsimp only at H
       have A26 := Aside0.mk A260; clear A260
       by_cases c27 : t600 = true
       ·subst c27
        rw [if_pos rfl] at H
        by_cases c28 : t598 < 0
        ·rw [if_pos c28] at H
         have c28b0 : decide (t598 < 0) = true := decide_eq_true c28
         clear c28
         obtain rfl := Option.some.inj H
         exact absurd hT_ (by decide)
        rw [if_neg c28] at H
        have c28b0 : decide (t598 < 0) = false := decide_eq_false c28
        clear c28
        obtain ⟨t601, A290, H⟩ := Option.bind_eq_some_iff.mp H
        try dsimp only at H
        have A29 := Aside0.mk A290; clear A290
        by_cases c30 : t601 = true
        ·subst c30
         rw [if_pos rfl] at H
         obtain rfl := Option.some.inj H
         exact absurd hT_ (by decide)
        replace c30 := Bool.eq_false_iff.mpr c30
        subst c30
        rw [if_neg (show ¬ (false = true) by decide)] at H
        have H' := Aside0.mk H
        clear H
        have := NB580_581.out
        have := NB581_580.out
        obtain ⟨_, _, _, _⟩ := cFour BK580
        obtain ⟨_, _, _, _⟩ := cFour BK581
        obtain ⟨Ao34, co34, eo34⟩ := Kd.R_slice HO_6.out
        subst eo34
        go_wp2_with (first | ((with_reducible refine gate_callee (f := 45) rfl ?_); refine gl (some 51) rfl rfl Try.func45 (by kernel_rfl) rfl #[.agg #[.int .i64 t576, .slice Ao14 t577.length co14], .slice Ao34 x6_2.length co34] rfl ?_; (with_reducible refine (spec_EvalLin.calls k2 t576 _ _ t577 _ _ x6_2 t598 t599 _ ?side1 ?side2 ?side3 ?side4 A25.out).mono ?_); (case side1 => exact mc ((Kd.R_reads' HO_582001.out).2.2)); (case side2 => exact (Kd.R_reads' HO_582001.out).2.1); (case side3 => exact mc ((Kd.R_reads' HO_6.out).2.2)); (case side4 => exact (Kd.R_reads' HO_6.out).2.1); rintro e w35 ⟨rfl, hb⟩; refine ⟨_, rfl, ?_⟩; replace HO_6 := rb HO_6 hb; replace HO_581001 := bS HO_581001 hb; replace HO_582001 := rb HO_582001 hb; replace BK580 := bb BK580 hb; replace BK581 := bb BK581 hb; replace HB := bs HB hb; (try clear hb); obtain ⟨_, _, _, _⟩ := cFour BK580) | ((with_reducible refine gate_callee (f := 46) rfl ?_); refine gl (some 56) rfl rfl Try.func46 (by kernel_rfl) rfl #[.agg #[.int .i64 t572, .slice Ao12 t573.length co12], .slice Ao34 x6_2.length co34] rfl ?_; (with_reducible refine (spec_Satisfies.calls k2 t572 _ _ t573 _ _ x6_2 true _ ?side1 ?side2 ?side3 ?side4 A26.out).mono ?_); (case side1 => exact mc ((Kd.S_reads' HO_581001.out).2.2)); (case side2 => exact (Kd.S_reads' HO_581001.out).2.1); (case side3 => exact mc ((Kd.R_reads' HO_6.out).2.2)); (case side4 => exact (Kd.R_reads' HO_6.out).2.1); rintro e w37 ⟨rfl, hb⟩; refine ⟨_, rfl, ?_⟩; replace HO_6 := rb HO_6 hb; replace HO_581001 := bS HO_581001 hb; replace HO_582001 := rb HO_582001 hb; replace BK580 := bb BK580 hb; replace BK581 := bb BK581 hb; replace HB := bs HB hb; (try clear hb); obtain ⟨_, _, _, _⟩ := cFour BK580) | (go_at_call 20; (with_reducible refine (impl_IsEmptySystem.calls k2 t572 _ _ t573 false _ ?side1 ?side2 A29.out).mono ?_); (case side1 => exact mc ((Kd.S_reads' HO_581001.out).2.2)); (case side2 => exact (Kd.S_reads' HO_581001.out).2.1); rintro e w39 ⟨rfl, hb⟩; replace HO_6 := rb HO_6 hb; replace HO_581001 := bS HO_581001 hb; replace HO_582001 := rb HO_582001 hb; replace BK580 := bb BK580 hb; replace BK581 := bb BK581 hb; replace HB := bs HB hb; (try clear hb)))
        go_roundg k2
        case measure => have := HK1.out; have := HK2.out; omega
        case rel => exact ⟨(wrap64 (x5_1 + 1)), (by first | rfl | (simp; done) | (simp [*]; done)), H', ⟨by have := HK1.out; have := HK2.out; omega⟩, ⟨by (with_reducible repeat (first | apply Kd.S_alloc | apply Kd.S_drewN | apply Kd.S_drew)); exact Kd.S_mono HO_581001.out (fun _ hk => ⟨hk.2.1, hk.2.2⟩)⟩, ⟨by (with_reducible repeat (first | apply Kd.R_alloc | apply Kd.R_drewN | apply Kd.R_drew)); exact Kd.R_mono HO_582001.out (fun _ hk => trivial)⟩, ⟨mb BK580⟩, ⟨mb BK581⟩, ⟨ms HB⟩⟩
       replace c27 := Bool.eq_false_iff.mpr c27
       subst c27
       rw [if_neg (show ¬ (false = true) by decide)] at H
       have H' := Aside0.mk H
       clear H
       have := NB580_581.out
       have := NB581_580.out
       obtain ⟨_, _, _, _⟩ := cFour BK580
       obtain ⟨_, _, _, _⟩ := cFour BK581
       obtain ⟨Ao43, co43, eo43⟩ := Kd.R_slice HO_6.out
       subst eo43
       go_wp2_with (first | ((with_reducible refine gate_callee (f := 45) rfl ?_); refine gl (some 51) rfl rfl Try.func45 (by kernel_rfl) rfl #[.agg #[.int .i64 t576, .slice Ao14 t577.length co14], .slice Ao43 x6_2.length co43] rfl ?_; (with_reducible refine (spec_EvalLin.calls k2 t576 _ _ t577 _ _ x6_2 t598 t599 _ ?side1 ?side2 ?side3 ?side4 A25.out).mono ?_); (case side1 => exact mc ((Kd.R_reads' HO_582001.out).2.2)); (case side2 => exact (Kd.R_reads' HO_582001.out).2.1); (case side3 => exact mc ((Kd.R_reads' HO_6.out).2.2)); (case side4 => exact (Kd.R_reads' HO_6.out).2.1); rintro e w44 ⟨rfl, hb⟩; refine ⟨_, rfl, ?_⟩; replace HO_6 := rb HO_6 hb; replace HO_581001 := bS HO_581001 hb; replace HO_582001 := rb HO_582001 hb; replace BK580 := bb BK580 hb; replace BK581 := bb BK581 hb; replace HB := bs HB hb; (try clear hb); obtain ⟨_, _, _, _⟩ := cFour BK580) | ((with_reducible refine gate_callee (f := 46) rfl ?_); refine gl (some 56) rfl rfl Try.func46 (by kernel_rfl) rfl #[.agg #[.int .i64 t572, .slice Ao12 t573.length co12], .slice Ao43 x6_2.length co43] rfl ?_; (with_reducible refine (spec_Satisfies.calls k2 t572 _ _ t573 _ _ x6_2 false _ ?side1 ?side2 ?side3 ?side4 A26.out).mono ?_); (case side1 => exact mc ((Kd.S_reads' HO_581001.out).2.2)); (case side2 => exact (Kd.S_reads' HO_581001.out).2.1); (case side3 => exact mc ((Kd.R_reads' HO_6.out).2.2)); (case side4 => exact (Kd.R_reads' HO_6.out).2.1); rintro e w46 ⟨rfl, hb⟩; refine ⟨_, rfl, ?_⟩; replace HO_6 := rb HO_6 hb; replace HO_581001 := bS HO_581001 hb; replace HO_582001 := rb HO_582001 hb; replace BK580 := bb BK580 hb; replace BK581 := bb BK581 hb; replace HB := bs HB hb; (try clear hb)))
       go_roundg k2
       case measure => have := HK1.out; have := HK2.out; omega
       case rel => exact ⟨(wrap64 (x5_1 + 1)), (by first | rfl | (simp; done) | (simp [*]; done)), H', ⟨by have := HK1.out; have := HK2.out; omega⟩, ⟨by (with_reducible repeat (first | apply Kd.S_alloc | apply Kd.S_drewN | apply Kd.S_drew)); exact Kd.S_mono HO_581001.out (fun _ hk => ⟨hk.2.1, hk.2.2⟩)⟩, ⟨by (with_reducible repeat (first | apply Kd.R_alloc | apply Kd.R_drewN | apply Kd.R_drew)); exact Kd.R_mono HO_582001.out (fun _ hk => trivial)⟩, ⟨mb BK580⟩, ⟨mb BK581⟩, ⟨ms HB⟩⟩
    rw [if_neg c16] at H
    have c16b0 : decide (x5_1 < 12) = false := decide_eq_false c16
    clear c16
    obtain ⟨⟨t584, t585⟩, A470, H⟩ := Option.bind_eq_some_iff.mp H
    try dsimp only at H
    have A47 := Aside0.mk A470; clear A470
    obtain ⟨t589, A480, H⟩ := Option.bind_eq_some_iff.mp H
    try dsimp only at H
    have A48 := Aside0.mk A480; clear A480
    obtain ⟨t590, A490, H⟩ := Option.bind_eq_some_iff.mp H
    try dsimp only at H
    have A49 := Aside0.mk A490; clear A490
    obtain rfl := Option.some.inj H
    try go_wp2_with (first | ((with_reducible refine gate_callee (f := 47) rfl ?_); refine gl (some 66) rfl rfl Try.func47 (by kernel_rfl) rfl #[.slice A0 l0.length c0] rfl ?_; (with_reducible refine (spec_DrawIsEmptySystem.calls k1 _ _ l0 t584 t585 _ ?side1 ?side2 A47.out).mono ?_); (case side1 => exact mc ((Kd.C_below HR0.out HB.out))); (case side2 => exact HC0.out); rintro e w50 ⟨v586, rfl, ho0, hb⟩; refine ⟨_, rfl, ?_⟩; have HO587 := Aside0.mk (Kd.S_lower (Kd.S_newB (Kd.S_new' (Kd.S_new' ho0 (Kd.S_lt (mS HO_581001))) (Kd.R_lt (mr HO_582001))) (g := gb581) (o := .cells #[.int .i64 t576, .slice Ao14 t577.length co14] 29 (0, 0)) (mb BK581)) (below_size (ms HB))); replace HO_581001 := Aside0.mk (Kd.S_elder' (mS HO_581001) (Kd.S_base ho0) hb); replace HO_582001 := rb HO_582001 hb; replace BK580 := bb BK580 hb; replace BK581 := bb BK581 hb; replace HB := bs HB hb; (try clear hb); (try clear ho0)) | ((with_reducible refine gate_dst (N := 10) rfl ?_); refine box_event ?hg (N := 10) ?hd (cs := #[.int .i64 0, .slice none 0 0]) (t := 26) ?hr ?_; (case hd => rfl); (case hg => rfl); (case hr => first | (go_simp; done) | (go_simp; rfl)); intro gb588 hg w51 hbox hb; replace HO_581001 := bS HO_581001 hb; replace HO_582001 := rb HO_582001 hb; replace HO587 := bS HO587 hb; have BK588 := Aside0.mk (hbox); have GW588 := gw hg HB; have GE588 := gw hg HB; replace HB := bs HB hb; have NB580_588 := nl hg BK580; have NB588_580 := ng hg BK580; replace BK580 := bb BK580 hb; have NB581_588 := nl hg BK581; have NB588_581 := ng hg BK581; replace BK581 := bb BK581 hb; clear hb hbox hg; have := NB588_580.out; have := NB580_588.out; have := NB588_581.out; have := NB581_588.out; obtain ⟨_, _, _, _⟩ := cFour BK588; obtain ⟨Ao55, co55, eo55⟩ := Kd.S_slice HO587.out; subst eo55))
    have n0_ : Aside0 (Kd.S k29 29 ((w51.setCell ⟨gb588, 0, none⟩ (.int .i64 t584)).setCell ⟨gb588, 1, none⟩ (.slice Ao55 t585.length co55)) w.heap.size (fun k_ => some k_ ≠ (.slice Ao14 t577.length co14 : Value).ownBlock ∧ some k_ ≠ (.slice Ao55 t585.length co55 : Value).ownBlock ∧ k_ ≠ gb581) (.slice Ao12 t573.length co12) t573) := ⟨by (with_reducible repeat (first | apply Kd.S_alloc | apply Kd.S_drewN | apply Kd.S_drew)); exact Kd.S_mono (Kd.S_far (p := ⟨gb588, 1, none⟩) (Kd.S_far (p := ⟨gb588, 0, none⟩) (Kd.S_types HO_581001.out BK588.out (by decide)) (fun _ hk => hk.2) (.int .i64 t584)) (fun _ hk => hk.2) (.slice Ao55 t585.length co55)) (fun _ hk => ⟨hk.1.1.1, ⟨hk.1.2, hk.1.1.2⟩⟩)⟩
    have n1_ : Aside0 (Kd.R (Kd.int .i64) 3 ((w51.setCell ⟨gb588, 0, none⟩ (.int .i64 t584)).setCell ⟨gb588, 1, none⟩ (.slice Ao55 t585.length co55)) w.heap.size (fun _ => True) (.slice Ao14 t577.length co14) t577) := ⟨by (with_reducible repeat (first | apply Kd.R_alloc | apply Kd.R_drewN | apply Kd.R_drew)); exact Kd.R_mono (Kd.R_far (p := ⟨gb588, 1, none⟩) (Kd.R_far (p := ⟨gb588, 0, none⟩) (Kd.R_types HO_582001.out BK588.out (by decide)) (fun _ hk => hk.2) (.int .i64 t584)) (fun _ hk => hk.2) (.slice Ao55 t585.length co55)) (fun _ hk => trivial)⟩
    have n2_ : Aside0 (Kd.S k29 29 ((w51.setCell ⟨gb588, 0, none⟩ (.int .i64 t584)).setCell ⟨gb588, 1, none⟩ (.slice Ao55 t585.length co55)) w.heap.size (fun k_ => some k_ ≠ (.slice Ao12 t573.length co12 : Value).ownBlock ∧ some k_ ≠ (.slice Ao14 t577.length co14 : Value).ownBlock ∧ k_ ≠ gb581) (.slice Ao55 t585.length co55) t585) := ⟨by (with_reducible repeat (first | apply Kd.S_alloc | apply Kd.S_drewN | apply Kd.S_drew)); exact Kd.S_mono (Kd.S_far (p := ⟨gb588, 1, none⟩) (Kd.S_far (p := ⟨gb588, 0, none⟩) (Kd.S_types HO587.out BK588.out (by decide)) (fun _ hk => hk.2) (.int .i64 t584)) (fun _ hk => hk.2) (.slice Ao55 t585.length co55)) (fun _ hk => ⟨hk.1.1.1.2, ⟨hk.1.1.2, hk.1.2⟩⟩)⟩
    have n3_ : Aside0 (((w51.setCell ⟨gb588, 0, none⟩ (.int .i64 t584)).setCell ⟨gb588, 1, none⟩ (.slice Ao55 t585.length co55)).heap[gb580]? = some (.cells #[.int .i64 t572, .slice Ao12 t573.length co12] 26 (0, 0))) := ⟨mf BK580⟩
    have n4_ : Aside0 (((w51.setCell ⟨gb588, 0, none⟩ (.int .i64 t584)).setCell ⟨gb588, 1, none⟩ (.slice Ao55 t585.length co55)).heap[gb581]? = some (.cells #[.int .i64 t576, .slice Ao14 t577.length co14] 29 (0, 0))) := ⟨mf BK581⟩
    have n5_ : Aside0 (((w51.setCell ⟨gb588, 0, none⟩ (.int .i64 t584)).setCell ⟨gb588, 1, none⟩ (.slice Ao55 t585.length co55)).heap[gb588]? = some (.cells #[.int .i64 t584, .slice Ao55 t585.length co55] 26 (0, 0))) := ⟨mq BK588⟩
    have n6_ : Aside0 (Below w.heap.size w ((w51.setCell ⟨gb588, 0, none⟩ (.int .i64 t584)).setCell ⟨gb588, 1, none⟩ (.slice Ao55 t585.length co55))) := ⟨ms HB⟩
    (try clear HO_581001)
    (try clear HO_582001)
    (try clear HO587)
    (try clear BK580)
    (try clear BK581)
    (try clear BK588)
    (try clear HB)
    generalize ((w51.setCell ⟨gb588, 0, none⟩ (.int .i64 t584)).setCell ⟨gb588, 1, none⟩ (.slice Ao55 t585.length co55)) = w56 at n0_ n1_ n2_ n3_ n4_ n5_ n6_ ⊢
    have HO_581001 := n0_
    have HO_582001 := n1_
    have HO587 := n2_
    have BK580 := n3_
    have BK581 := n4_
    have BK588 := n5_
    have HB := n6_
    clear n0_ n1_ n2_ n3_ n4_ n5_ n6_
    replace HO_581001 := Aside0.mk (Kd.S_drew HO_581001.out)
    replace HO_582001 := Aside0.mk (Kd.R_drew HO_582001.out)
    replace HO587 := Aside0.mk (Kd.S_drew HO587.out)
    replace BK580 := Aside0.mk (blk_drew BK580.out)
    replace BK581 := Aside0.mk (blk_drew BK581.out)
    replace BK588 := Aside0.mk (blk_drew BK588.out)
    replace HB := Aside0.mk (below_drew1 HB.out)
    refine start_ (n := 6) (S := fun w' => w'.cell? ⟨gb588, 0, none⟩ = some (.int .i64 t584) ∧ w'.cell? ⟨gb588, 1, none⟩ = some (.slice Ao55 t585.length co55)) (ds := []) #[false, false, false, false, false, false] (by kernel_rfl) rfl rfl ⟨(c2 BK588).1, (c2 BK588).2⟩ (fun hHeld => ?_)
    generalize w56.drew = w57 at HO_581001 HO_582001 HO587 BK580 BK581 BK588 HB hHeld ⊢
    refine take_ (i := 0) (N := some 67) (v := ?_) (a' := ?_) #[true, false, false, false, false, false] rfl rfl (by kernel_rfl) (fun _ _ _ h => h) (Or.inl ⟨by rfl, ?_⟩) hHeld ?_ ?_
    rotate_left
    ·rintro w' ⟨s0, s1⟩
     go_simp
     with_reducible rfl
    rotate_left
    ·simp only [Act.put, z1, z2, z3, i64_w, i32_w]
     rfl
    refine take_ (i := 2) (N := some 69) (v := ?_) (a' := ?_) #[true, false, true, false, false, false] rfl rfl (by kernel_rfl) (fun _ _ _ h => h) (Or.inl ⟨by rfl, ?_⟩) hHeld ?_ ?_
    rotate_left
    ·rintro w' ⟨s0, s1⟩
     go_simp
     with_reducible rfl
    rotate_left
    ·simp only [Act.put, z1, z2, z3, i64_w, i32_w]
     rfl
    refine one_ (i := 1) (N := some 68) #[true, true, true, false, false, false] rfl rfl (by kernel_rfl) (by decide) (fun K hK => ?_)
    refine gs Try.func20 (by kernel_rfl) rfl #[.agg #[.int .i64 t584, .slice Ao55 t585.length co55]] (by rfl) rfl rfl ?_
    with_reducible refine (impl_IsEmptySystem.calls k1 t584 _ _ t585 t589 _ ?side1 ?side2 A48.out).mono ?_
    (case side1 => exact mc ((Kd.S_reads' HO587.out).2.2))
    (case side2 => exact (Kd.S_reads' HO587.out).2.1)
    rintro e w58 ⟨rfl, hb⟩
    refine ⟨_, rfl, ?_⟩
    replace HO_581001 := bS HO_581001 hb
    replace HO_582001 := rb HO_582001 hb
    replace HO587 := bS HO587 hb
    replace BK580 := bb BK580 hb
    replace BK581 := bb BK581 hb
    replace BK588 := bb BK588 hb
    replace HB := bs HB hb
    (try clear hb)
    (try clear hb2)
    (try clear hk)
    (try clear hi)
    refine hK.out _ _ ⟨(c2 BK588).1, (c2 BK588).2⟩ (fun hHeld => ?_)
    clear hK K
    refine norm_ (a' := ?_) ?_ ?_
    rotate_left
    ·show Act.put _ (some 68) _ = _
     simp only [Act.put, z1, z2, z3, i64_w, i32_w]
     rfl
    refine one_ (i := 3) (N := some 70) #[true, true, true, true, false, false] rfl rfl (by kernel_rfl) (by decide) (fun K hK => ?_)
    refine gs Try.func21 (by kernel_rfl) rfl #[.agg #[.int .i64 t584, .slice Ao55 t585.length co55]] (by rfl) rfl rfl ?_
    with_reducible refine (spec_IsEmptySystem.calls k1 t584 _ _ t585 t590 _ ?side1 ?side2 A49.out).mono ?_
    (case side1 => exact mc ((Kd.S_reads' HO587.out).2.2))
    (case side2 => exact (Kd.S_reads' HO587.out).2.1)
    rintro e w59 ⟨rfl, hb⟩
    refine ⟨_, rfl, ?_⟩
    replace HO_581001 := bS HO_581001 hb
    replace HO_582001 := rb HO_582001 hb
    replace HO587 := bS HO587 hb
    replace BK580 := bb BK580 hb
    replace BK581 := bb BK581 hb
    replace BK588 := bb BK588 hb
    replace HB := bs HB hb
    (try clear hb)
    (try clear hb2)
    (try clear hk)
    (try clear hi)
    refine hK.out _ _ ⟨(c2 BK588).1, (c2 BK588).2⟩ (fun hHeld => ?_)
    clear hK K
    refine norm_ (a' := ?_) ?_ ?_
    rotate_left
    ·show Act.put _ (some 70) _ = _
     simp only [Act.put, z1, z2, z3, i64_w, i32_w]
     rfl
    refine pure_ (i := 4) (N := some 71) (v := ?_) (a' := ?_) #[true, true, true, true, true, false] rfl rfl (by kernel_rfl) (fun _ _ _ h => h) (Or.inl ⟨by rfl, ?_⟩) ?_ ?_
    rotate_left
    ·intro w'
     go_simp
     with_reducible rfl
    rotate_left
    ·simp only [Act.put, z1, z2, z3, i64_w, i32_w]
     rfl
    refine pure_ (i := 5) (N := some 2) (v := ?_) (a' := ?_) #[true, true, true, true, true, true] rfl rfl (by kernel_rfl) (fun _ _ _ h => h) (Or.inl ⟨by rfl, ?_⟩) ?_ ?_
    rotate_left
    ·intro w'
     go_simp
     with_reducible rfl
    rotate_left
    ·simp only [Act.put, z1, z2, z3, i64_w, i32_w]
     rfl
    refine done_ (by kernel_rfl) ?_
    try go_wp2
    go_ret
    exact ⟨by first | rfl | (simp [errW_none, errW_some] <;> rfl) | (simp [*, errW_none, errW_some] <;> rfl), ms HB⟩
 replace c6 := Bool.eq_false_iff.mpr c6
 subst c6
 rw [if_neg (show ¬ (false = true) by decide)] at H
 obtain ⟨t583, A600, H⟩ := Option.bind_eq_some_iff.mp H
 try dsimp only at H
 have A60 := Aside0.mk A600; clear A600
 obtain rfl := Option.some.inj H
 go_enter Try.func9, Try.ntmps9
 go_wp2_with (first | ((with_reducible refine gate_callee (f := 13) rfl ?_); refine gl (some 12) rfl rfl Try.func13 (by kernel_rfl) rfl #[.slice A0 l0.length c0] rfl ?_; (with_reducible refine (laws_big.calls _ _ l0 false _ ?side1 ?side2 A2.out).mono ?_); (case side1 => repeat (first | exact HR0.out | (with_reducible refine Kd.C_alloc ?_ _) | (with_reducible refine Kd.C_drewN ?_ _) | (with_reducible refine Kd.C_drew ?_))); (case side2 => exact HC0.out); rintro e w' ⟨rfl, ⟨nd, rfl⟩⟩; refine ⟨_, rfl, ?_⟩) | ((with_reducible refine gate_callee (f := 43) rfl ?_); refine gl (some 15) rfl rfl Try.func43 (by kernel_rfl) rfl #[.slice A0 l0.length c0] rfl ?_; (with_reducible refine (spec_DrawEntails.calls k _ _ l0 t572 t573 t576 t577 _ ?side1 ?side2 A4.out).mono ?_); (case side1 => repeat (first | exact HR0.out | (with_reducible refine Kd.C_alloc ?_ _) | (with_reducible refine Kd.C_drewN ?_ _) | (with_reducible refine Kd.C_drew ?_))); (case side2 => exact HC0.out); rintro e w61 ⟨v574, v578, rfl, ho0, ho1, hb⟩; refine ⟨_, rfl, ?_⟩; have HO575 := Aside0.mk (Kd.S_lower ho0 (below_size (ms HB))); have HO579 := Aside0.mk (Kd.R_lower ho1 (below_size (ms HB))); replace HB := bs HB hb; (try clear hb); (try clear ho0); (try clear ho1)) | ((with_reducible refine gate_dst (N := 3) rfl ?_); refine box_event ?hg (N := 3) ?hd (cs := #[.int .i64 0, .slice none 0 0]) (t := 26) ?hr ?_; (case hd => rfl); (case hg => rfl); (case hr => first | (go_simp; done) | (go_simp; rfl)); intro gb580 hg w62 hbox hb; replace HO575 := bS HO575 hb; replace HO579 := rb HO579 hb; have BK580 := Aside0.mk (hbox); have GW580 := gw hg HB; have GE580 := gw hg HB; replace HB := bs HB hb; clear hb hbox hg) | ((with_reducible refine gate_dst (N := 4) rfl ?_); refine box_event ?hg (N := 4) ?hd (cs := #[.int .i64 0, .slice none 0 0]) (t := 29) ?hr ?_; (case hd => rfl); (case hg => rfl); (case hr => first | (go_simp; done) | (go_simp; rfl)); intro gb581 hg w63 hbox hb; replace HO575 := Aside0.mk (Kd.S_below (Kd.S_elderB (mS HO575) gb581 (Nat.le_of_eq hg.symm)) hb); replace HO579 := rb HO579 hb; have BK581 := Aside0.mk (hbox); have GW581 := gw hg HB; have GE581 := gw hg HB; replace HB := bs HB hb; have NB580_581 := nl hg BK580; have NB581_580 := ng hg BK580; replace BK580 := bb BK580 hb; clear hb hbox hg; have := NB580_581.out; have := NB581_580.out; obtain ⟨_, _, _, _⟩ := cFour BK580; obtain ⟨Ao66, co66, eo66⟩ := Kd.S_slice HO575.out; subst eo66; obtain ⟨_, _, _, _⟩ := cFour BK581; obtain ⟨Ao68, co68, eo68⟩ := Kd.R_slice HO579.out; subst eo68) | ((with_reducible refine gate_callee (f := 18) rfl ?_); refine gl (some 20) rfl rfl Try.func18 (by kernel_rfl) rfl #[.agg #[.int .i64 t572, .slice Ao66 t573.length co66], .agg #[.int .i64 t576, .slice Ao68 t577.length co68]] rfl ?_; (with_reducible refine (impl_Entails.calls k t572 _ _ t573 t576 _ _ t577 false _ ?side1 ?side2 ?side3 ?side4 A5.out).mono ?_); (case side1 => refine (Kd.S_reads' (e := 29) (base := w.heap.size) (ok := fun k_ => (some k_ ≠ (.slice Ao68 t577.length co68 : Value).ownBlock ∧ k_ ≠ gb581)) (n := t573.length) (c := co66) ?_).2.2; exact (by (with_reducible repeat (first | apply Kd.S_alloc | apply Kd.S_drewN | apply Kd.S_drew)); exact (Kd.S_mono (Kd.S_mono (Kd.S_far (p := ⟨gb581, 1, none⟩) (Kd.S_far (p := ⟨gb581, 0, none⟩) (Kd.S_far (p := ⟨gb580, 1, none⟩) (Kd.S_far (p := ⟨gb580, 0, none⟩) (Kd.S_mono (Kd.S_types HO575.out BK580.out (by decide)) (fun k_ hk => (⟨hk, hk.1.2⟩ : _ ∧ k_ ≠ gb581))) (fun _ hk => hk.1.2) (.int .i64 t572)) (fun _ hk => hk.1.2) (.slice Ao66 t573.length co66)) (fun _ hk => hk.2) (.int .i64 t576)) (fun _ hk => hk.2) (.slice Ao68 t577.length co68)) (fun _ h_ => h_.1)) (fun _ h_ => h_.1)))); (case side2 => exact (Kd.S_reads' HO575.out).2.1); (case side3 => refine (Kd.R_reads' (e := 3) (base := w.heap.size) (ok := fun k_ => True) (n := t577.length) (c := co68) ?_).2.2; exact (by (with_reducible repeat (first | apply Kd.R_alloc | apply Kd.R_drewN | apply Kd.R_drew)); exact (Kd.R_mono (Kd.R_mono (Kd.R_far (p := ⟨gb581, 1, none⟩) (Kd.R_far (p := ⟨gb581, 0, none⟩) (Kd.R_far (p := ⟨gb580, 1, none⟩) (Kd.R_far (p := ⟨gb580, 0, none⟩) (Kd.R_types (Kd.R_types HO579.out BK580.out (by decide)) BK581.out (by decide)) (fun _ hk => hk.1.2) (.int .i64 t572)) (fun _ hk => hk.1.2) (.slice Ao66 t573.length co66)) (fun _ hk => hk.2) (.int .i64 t576)) (fun _ hk => hk.2) (.slice Ao68 t577.length co68)) (fun _ h_ => h_.1)) (fun _ h_ => h_.1)))); (case side4 => exact (Kd.R_reads' HO579.out).2.1); rintro e w69 ⟨rfl, hb⟩; refine ⟨_, rfl, ?_⟩; have n0_ := Aside0.mk (Kd.S_below (by (with_reducible repeat (first | apply Kd.S_alloc | apply Kd.S_drewN | apply Kd.S_drew)); exact (Kd.S_mono (Kd.S_mono (Kd.S_far (p := ⟨gb581, 1, none⟩) (Kd.S_far (p := ⟨gb581, 0, none⟩) (Kd.S_far (p := ⟨gb580, 1, none⟩) (Kd.S_far (p := ⟨gb580, 0, none⟩) (Kd.S_mono (Kd.S_types HO575.out BK580.out (by decide)) (fun k_ hk => (⟨hk, hk.1.2⟩ : _ ∧ k_ ≠ gb581))) (fun _ hk => hk.1.2) (.int .i64 t572)) (fun _ hk => hk.1.2) (.slice Ao66 t573.length co66)) (fun _ hk => hk.2) (.int .i64 t576)) (fun _ hk => hk.2) (.slice Ao68 t577.length co68)) (fun _ h_ => h_.1)) (fun _ h_ => h_.1))) hb); have n1_ := Aside0.mk (Kd.R_below (by (with_reducible repeat (first | apply Kd.R_alloc | apply Kd.R_drewN | apply Kd.R_drew)); exact (Kd.R_mono (Kd.R_mono (Kd.R_far (p := ⟨gb581, 1, none⟩) (Kd.R_far (p := ⟨gb581, 0, none⟩) (Kd.R_far (p := ⟨gb580, 1, none⟩) (Kd.R_far (p := ⟨gb580, 0, none⟩) (Kd.R_types (Kd.R_types HO579.out BK580.out (by decide)) BK581.out (by decide)) (fun _ hk => hk.1.2) (.int .i64 t572)) (fun _ hk => hk.1.2) (.slice Ao66 t573.length co66)) (fun _ hk => hk.2) (.int .i64 t576)) (fun _ hk => hk.2) (.slice Ao68 t577.length co68)) (fun _ h_ => h_.1)) (fun _ h_ => h_.1))) hb); have n2_ := Aside0.mk (blk_below (g := gb580) (o := .cells #[.int .i64 t572, .slice Ao66 t573.length co66] 26 (0, 0)) (by (with_reducible repeat (first | refine blk_drewN ?_ _ | refine blk_drew ?_ | refine blk_alloc ?_ _)); refine blk_far ?_ NB580_581.out _; (with_reducible repeat (first | refine blk_drewN ?_ _ | refine blk_drew ?_ | refine blk_alloc ?_ _)); refine blk_far ?_ NB580_581.out _; (with_reducible repeat (first | refine blk_drewN ?_ _ | refine blk_drew ?_ | refine blk_alloc ?_ _)); refine blk_put (cs := #[.int .i64 t572, .slice none 0 0]) ?_ 1 _ rfl; (with_reducible repeat (first | refine blk_drewN ?_ _ | refine blk_drew ?_ | refine blk_alloc ?_ _)); refine blk_put (cs := #[.int .i64 0, .slice none 0 0]) ?_ 0 _ rfl; (with_reducible repeat (first | refine blk_drewN ?_ _ | refine blk_drew ?_ | refine blk_alloc ?_ _)); exact BK580.out) hb); have n3_ := Aside0.mk (blk_below (g := gb581) (o := .cells #[.int .i64 t576, .slice Ao68 t577.length co68] 29 (0, 0)) (by (with_reducible repeat (first | refine blk_drewN ?_ _ | refine blk_drew ?_ | refine blk_alloc ?_ _)); refine blk_put (cs := #[.int .i64 t576, .slice none 0 0]) ?_ 1 _ rfl; (with_reducible repeat (first | refine blk_drewN ?_ _ | refine blk_drew ?_ | refine blk_alloc ?_ _)); refine blk_put (cs := #[.int .i64 0, .slice none 0 0]) ?_ 0 _ rfl; (with_reducible repeat (first | refine blk_drewN ?_ _ | refine blk_drew ?_ | refine blk_alloc ?_ _)); refine blk_far ?_ NB581_580.out _; (with_reducible repeat (first | refine blk_drewN ?_ _ | refine blk_drew ?_ | refine blk_alloc ?_ _)); refine blk_far ?_ NB581_580.out _; (with_reducible repeat (first | refine blk_drewN ?_ _ | refine blk_drew ?_ | refine blk_alloc ?_ _)); exact BK581.out) hb); have n4_ := bs HB hb; clear HO575 HO579 BK580 BK581 HB; have HO575 := n0_; have HO579 := n1_; have BK580 := n2_; have BK581 := n3_; have HB := n4_; clear n0_ n1_ n2_ n3_ n4_; (try clear hb); obtain ⟨_, _, _, _⟩ := cFour BK580; obtain ⟨_, _, _, _⟩ := cFour BK581) | ((with_reducible refine gate_callee (f := 39) rfl ?_); refine gl (some 24) rfl rfl Try.func39 (by kernel_rfl) rfl #[.agg #[.int .i64 t572, .slice Ao66 t573.length co66], .agg #[.int .i64 t576, .slice Ao68 t577.length co68]] rfl ?_; (with_reducible refine (spec_Entails.calls k t572 _ _ t573 t576 _ _ t577 t583 _ ?side1 ?side2 ?side3 ?side4 A60.out).mono ?_); (case side1 => exact mc ((Kd.S_reads' HO575.out).2.2)); (case side2 => exact (Kd.S_reads' HO575.out).2.1); (case side3 => exact mc ((Kd.R_reads' HO579.out).2.2)); (case side4 => exact (Kd.R_reads' HO579.out).2.1); rintro e w72 ⟨rfl, hb⟩; refine ⟨_, rfl, ?_⟩; replace HO575 := bS HO575 hb; replace HO579 := rb HO579 hb; replace BK580 := bb BK580 hb; replace BK581 := bb BK581 hb; replace HB := bs HB hb; (try clear hb)))
 go_ret
 exact ⟨by first | rfl | (simp [errW_none, errW_some] <;> rfl) | (simp [*, errW_none, errW_some] <;> rfl), ms HB⟩

/-- THE ONE PURE STATEMENT of laws_FnEntailed: yours. -/
def laws_FnEntailed.Pure : Prop := ∀ (l0 : List Int), l0.length ≤ maxLen → l0.length * 1 ≤ 140737488351232 → (∀ x ∈ l0, (Lit.int .u8 x).wf = true) → ∃ k, laws_FnEntailed.f k l0 = some true
theorem laws_FnEntailed.walk (P : laws_FnEntailed.Pure) (a0 : Option Addr) (len0 cap0 : Nat) (z0 : List Int) (w : World) (w0 : (a0 = none ∧ len0 = 0 ∧ cap0 = 0 ∧ z0 = []) ∨ ∃ x, a0 = some x ∧ len0 ≤ cap0 ∧ cap0 ≤ maxLen ∧ z0.length = cap0 ∧ (∀ i, i < z0.length → w.cell? (x.add i) = some (.int .u8 (z0.getD i 0))) ∧ ∀ n ∈ z0, (Lit.int .u8 n).wf = true) (y0 : len0 * 1 ≤ 140737488351232) :
  Calls Try.prog 9 #[.slice a0 len0 cap0] w fun e w' => e = .returned (.bool true) ∧ Below w.heap.size w w' := by
 obtain ⟨l0, rfl, hr0, hm0, hw0, hc0⟩ := ReadsInt.ofRowC w0
 obtain ⟨k, h⟩ := P l0 hm0 y0 hw0
 refine (laws_FnEntailed.calls k _ _ l0 true w (Kd.C_of_reads (d := (0 : Int)) (h1 := fun _ => rfl) hr0) hc0 rfl h).mono ?_
 rintro e w' ⟨rfl, hd⟩
 exact ⟨rfl, hd⟩

end Go.Proofs.Ytlencemmlgkflaa.QFnEntailed
