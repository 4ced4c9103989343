-- Made by a program of this claim's own (wip/print): not the kit's print as it stands.
import Derived.Test.YtlencemmlgkflaaUFnEntailedTri
import Derived.Test.YtlencemmlgkflaaQFnEntailedx0
import Derived.Test.YtlencemmlgkflaaQFnEntailedx9
import Derived.Test.YtlencemmlgkflaaQFnEntailedx10
import Derived.Test.YtlencemmlgkflaaQFnEntailedx12
import Derived.Test.YtlencemmlgkflaaQFnEntailedx15
namespace Go.Proofs.Ytlencemmlgkflaa.QFnEntailed
open Go.RowKit Go.Proofs.YtlencemmlgkflaaV.PrintWords Go.Proofs.YtlencemmlgkflaaV.PrintLast Go.Proofs.YtlencemmlgkflaaV.PrintMore
attribute [local go_sem] max2_int min2_int max_two min_two max_three min_three max_four min_four   -- for this text's walks alone
set_option linter.unusedVariables false
set_option linter.unusedSimpArgs false

/-! ### spec_DrawIsEmptySystem: function 47 -/
def spec_DrawIsEmptySystem.j0 : Nat → Bool → Int → List (S29) → Option (Int × (List (S29)))
 | 0, _, _, _ => none
 | k + 1, x18, x553000, x553001 => if x18 = true then ((spec_l1Max.f x553000 0).bind fun t556 => ((spec_ConstLin.f (-1) t556).bind fun bt557 => (if 0 < (x553001.length : Int) then ((spec_AddScaled.f k bt557.1 bt557.2 (-1) ((rd_T29 x553001 0).f0) ((rd_T29 x553001 0).f1)).bind fun bt562 => (if bt562.2.2 = true then (if x553001.length < 4398046511104 then (some (x553000, (x553001 ++ [(⟨bt562.1, bt562.2.1⟩ : S29)]))) else (none)) else (some (x553000, x553001)))) else (none)))) else (some (x553000, x553001))
def spec_DrawIsEmptySystem.f (k : Nat) (l0 : List Int) : Option (Int × (List (S29))) := (spec_l1New.f k l0).bind fun bt542 => ((spec_l6Bent.f k bt542.1 bt542.2.1 bt542.2.2).bind fun bt546 => (if (bt546.2.1.length : Int) > 0 then ((spec_l1Once.f bt542.1 bt546.2.2.1 bt546.2.2.2 2).bind fun bt553 => (spec_DrawIsEmptySystem.j0 k bt553.1 bt546.1 bt546.2.1)) else (spec_DrawIsEmptySystem.j0 k false bt546.1 bt546.2.1)))
theorem spec_DrawIsEmptySystem.mono_l : ∀ k, (∀ y0 y1 y2, LeO (spec_DrawIsEmptySystem.j0 k y0 y1 y2) (spec_DrawIsEmptySystem.j0 (k + 1) y0 y1 y2))
 | 0 => fun _ _ _ r h => by simp [spec_DrawIsEmptySystem.j0] at h
 | k + 1 => by
  have ih0 := spec_DrawIsEmptySystem.mono_l k
  ·intro y0 y1 y2
   unfold spec_DrawIsEmptySystem.j0
   repeat' with_reducible first
   | exact ih0 _ _ _
   | exact spec_AddScaled.mono _ _ _ _ _ _
   | exact spec_l1New.mono _ _
   | exact spec_l6Bent.mono _ _ _ _
   | exact LeO.refl _
   | exact LeO.none _
   | refine LeO.ite ?_ ?_
   | refine LeO.bind ?_ (fun _ => ?_)
theorem spec_DrawIsEmptySystem.mono : ∀ a0 k, LeO (spec_DrawIsEmptySystem.f k a0) (spec_DrawIsEmptySystem.f (k + 1) a0) := by
 intro a0 k
 have ih0 := spec_DrawIsEmptySystem.mono_l k
 unfold spec_DrawIsEmptySystem.f
 repeat' with_reducible first
 | exact ih0 _ _ _
 | exact spec_AddScaled.mono _ _ _ _ _ _
 | exact spec_l1New.mono _ _
 | exact spec_l6Bent.mono _ _ _ _
 | exact LeO.refl _
 | exact LeO.none _
 | refine LeO.ite ?_ ?_
 | refine LeO.bind ?_ (fun _ => ?_)
set_option maxHeartbeats 8000000 in
set_option maxRecDepth 100000 in
theorem spec_DrawIsEmptySystem.calls (k : Nat) (A0 : Option Addr) (c0 : Nat) (l0 : List Int) (r1 : Int) (r2 : List (S29)) (w : World) (hr0 : Kd.C (Kd.int .u8) w A0 l0.length l0) (hc0 : l0.length ≤ c0) (h : spec_DrawIsEmptySystem.f k l0 = some (r1, r2)) :
  Calls Try.prog 47 #[.slice A0 l0.length c0] w fun e w' => ∃ v1_ : Value, e = .returned (.agg #[.int .i64 r1, v1_]) ∧ Kd.S k29 29 w' w.heap.size (fun _ => True) v1_ r2 ∧ Below w.heap.size w w' := by
 have hu26 := Try.underlying26
 have hu29 := Try.underlying29
 have HR0 := Aside0.mk hr0
 have HC0 := Aside0.mk hc0
 clear hr0 hc0
 have HB := Aside0.mk (Below.refl w.heap.size w)
 have H : ((spec_l1New.f k l0).bind fun bt542 => ((spec_l6Bent.f k bt542.1 bt542.2.1 bt542.2.2).bind fun bt546 => (if (bt546.2.1.length : Int) > 0 then ((spec_l1Once.f bt542.1 bt546.2.2.1 bt546.2.2.2 2).bind fun bt553 => (spec_DrawIsEmptySystem.j0 k bt553.1 bt546.1 bt546.2.1)) else (spec_DrawIsEmptySystem.j0 k false bt546.1 bt546.2.1)))) = some (r1, r2) := h
 clear h
 obtain ⟨⟨t542, t543, t544⟩, A20, H⟩ := Option.bind_eq_some_iff.mp H
 try dsimp only at H
 have A2 := Aside0.mk A20; clear A20
 obtain ⟨⟨t546, t547, t550, t551⟩, A30, H⟩ := Option.bind_eq_some_iff.mp H
 try dsimp only at H
 have A3 := Aside0.mk A30; clear A30
 have HC4 := Aside0.mk H; clear H
 go_enter Try.func47, Try.ntmps47
 go_upto_region 3 with (first | ((with_reducible refine gate_dst (N := 2) rfl ?_); refine box_event ?hg (N := 2) ?hd (cs := #[.int .i64 0, .slice none 0 0]) (t := 26) ?hr ?_; (case hd => rfl); (case hg => rfl); (case hr => first | (go_simp; done) | (go_simp; rfl)); intro gb541 hg w5 hbox hb; have BK541 := Aside0.mk (hbox); have GW541 := gw hg HB; have GE541 := gw hg HB; replace HB := bs HB hb; clear hb hbox hg) | ((with_reducible refine gate_callee (f := 70) rfl ?_); refine gl (some 8) rfl rfl Try.func70 (by kernel_rfl) rfl #[.slice A0 l0.length c0] rfl ?_; (with_reducible refine (spec_l1New.calls k _ _ l0 t542 t543 t544 w _ ?side1 ?side2 ?side3 A2.out).mono ?_); (case side1 => exact ms HB); (case side2 => exact HR0.out); (case side3 => exact HC0.out); rintro e w6 ⟨g545, rfl, hi, hb, hb2⟩; refine ⟨_, rfl, ?_⟩; replace HB := Aside0.mk (hb); have HI545 := Aside0.mk (hi); have NB545_541 := Aside0.mk (IsS112.ne_blk hi (blk_below (mb BK541) hb2) (by decide)); have NB541_545 := Aside0.mk (Ne.symm (IsS112.ne_blk hi (blk_below (mb BK541) hb2) (by decide))); replace BK541 := Aside0.mk (blk_below (mb BK541) hb2); (try clear hb)) | ((with_reducible refine gate_callee (f := 71) rfl ?_); refine gl (some 10) rfl rfl Try.func71 (by kernel_rfl) rfl #[.pointer (some ⟨g545, 0, none⟩)] rfl ?_; (with_reducible refine (spec_l6Bent.calls k g545 t542 t543 t544 t546 t547 t550 t551 w _ ?side1 ?side2 A3.out).mono ?_); (case side1 => exact IsS112.mi HI545); (case side2 => exact IsS112.ms HB); rintro e w7 ⟨v548, rfl, ho0, hi, hb, hk⟩; refine ⟨_, rfl, ?_⟩; replace BK541 := Aside0.mk (KeepBut.blk hk (g' := gb541) (o := .cells #[.int .i64 0, .slice none 0 0] 26 (0, 0)) (mb BK541) NB541_545.out (by simp)); have HO549 := Aside0.mk (Kd.S_lower ho0 (below_size (IsS112.ms HB))); replace HB := Aside0.mk (hb); replace HI545 := Aside0.mk (hi); (try clear hb); (try clear ho0)) | ((with_reducible refine gate_dst (N := 4) rfl ?_); refine box_event ?hg (N := 4) ?hd (cs := #[.int .i64 0, .slice none 0 0]) (t := 26) ?hr ?_; (case hd => rfl); (case hg => rfl); (case hr => first | (go_simp; done) | (go_simp; rfl)); intro gb552 hg w8 hbox hb; have n0_ := bS HO549 hb; have n1_ := bb BK541 hb; have n2_ := Aside0.mk (IsS112.below (IsS112.mi HI545) hb); have n3_ := Aside0.mk (below_step (IsS112.ms HB) hb); have n4_ := Aside0.mk (hbox); have n5_ := Aside0.mk ((by rw [hg]; exact (below_size (IsS112.ms HB)) : w.heap.size ≤ gb552)); have n6_ := Aside0.mk ((by rw [hg]; exact (below_size (IsS112.ms HB)) : w.heap.size ≤ gb552)); have n7_ := nl hg BK541; have n8_ := ng hg BK541; have n9_ := Aside0.mk ((by rw [hg]; exact Nat.ne_of_lt (IsS112.lt (show IsS112 w _ g545 t542 t550 t551 from IsS112.mi HI545)) : g545 ≠ gb552)); have n10_ := Aside0.mk ((by rw [hg]; exact Nat.ne_of_gt (IsS112.lt (show IsS112 w _ g545 t542 t550 t551 from IsS112.mi HI545)) : gb552 ≠ g545)); clear HO549 BK541 HI545 HB; have HO549 := n0_; have BK541 := n1_; have HI545 := n2_; have HB := n3_; have BK552 := n4_; have GW552 := n5_; have GE552 := n6_; have NB541_552 := n7_; have NB552_541 := n8_; have NB545_552 := n9_; have NB552_545 := n10_; clear n0_ n1_ n2_ n3_ n4_ n5_ n6_ n7_ n8_ n9_ n10_; clear hb hbox hg; have := NB552_541.out; have := NB541_552.out; have := NB552_545.out; have := NB545_552.out; obtain ⟨hcz11_0, hcz11_1, hfz11_0, hfz11_1⟩ := cFour BK552; obtain ⟨Ao12, co12, eo12⟩ := Kd.S_slice HO549.out; subst eo12))
 (try simp only [Act.put, List.setIfInBounds_toArray, List.set_cons_zero, List.set_cons_succ])
 go_cut [18] (fun v18 wc => ∃ (kq : Nat) (x18_3 : Bool), v18 = .bool x18_3 ∧ Aside0 (spec_DrawIsEmptySystem.j0 kq x18_3 t546 t547 = some (r1, r2)) ∧ Aside0 (kq ≤ k) ∧ Aside0 (Kd.S k29 29 wc w.heap.size (fun _ => True) (.slice Ao12 t547.length co12) t547) ∧ Aside0 (wc.heap[gb541]? = some (.cells #[.int .i64 0, (.slice none 0 0)] 26 (0, 0))) ∧ Aside0 (wc.heap[gb552]? = some (.cells #[.int .i64 t546, (.slice Ao12 t547.length co12)] 26 (0, 0))) ∧ Aside0 (Below w.heap.size w wc))
 case first =>
  have H := HC4.out
  clear HC4
  by_cases c13 : (t547.length : Int) > 0
  ·rw [if_pos c13] at H
   have c13b0 : decide (0 < (t547.length : Int)) = true := decide_eq_true c13
   have c13b1 : decide (0 < t547.length) = true := decide_eq_true (by omega)
   clear c13
   (first | rw [c13b0] | (simp only [i64_w, i32_w]; rw [c13b0]) | skip)
   obtain ⟨⟨t553, t554, t555⟩, A140, H⟩ := Option.bind_eq_some_iff.mp H
   try dsimp only at H
   have A14 := Aside0.mk A140; clear A140
   have H' := Aside0.mk H
   clear H
   have := NB552_541.out
   have := NB541_552.out
   have := NB552_545.out
   have := NB545_552.out
   obtain ⟨hcz17_0, hcz17_1, hfz17_0, hfz17_1⟩ := cFour BK552
   go_wp2_with ((go_at_call 102; (with_reducible refine (spec_l1Once.calls g545 t542 t550 t551 2 t553 t554 t555 w _ ?side1 ?side2 A14.out).mono ?_); (case side1 => exact IsS112.mi HI545); (case side2 => exact IsS112.ms HB); rintro e w18 ⟨rfl, hi, hb, hk⟩; have n0_ := Aside0.mk (KeepBut.blk hk (g' := gb541) (o := .cells #[.int .i64 0, .slice none 0 0] 26 (0, 0)) (mf BK541) NB541_545.out (by simp)); have n1_ := Aside0.mk (Kd.S_mono (Kd.S_keep (IsS112.apartS (show IsS112 w _ g545 t542 t550 t551 from IsS112.mi HI545) (by (with_reducible repeat (first | apply Kd.S_alloc | apply Kd.S_drewN | apply Kd.S_drew)); exact (Kd.S_mono (Kd.S_far (p := ⟨gb552, 1, none⟩) (Kd.S_far (p := ⟨gb552, 0, none⟩) (Kd.S_types HO549.out BK552.out (by decide)) (fun _ hk => hk.2) (.int .i64 t546)) (fun _ hk => hk.2) (.slice Ao12 t547.length co12)) (fun _ h_ => h_.1))) (by decide)) hk (fun _ h => h.2)) (fun _ h => h.1)); have n2_ := Aside0.mk (KeepBut.blk hk (g' := gb552) (o := .cells #[.int .i64 t546, .slice Ao12 t547.length co12] 26 (0, 0)) (mq BK552) NB552_545.out (by simp)); have n3_ := Aside0.mk (hb); have n4_ := Aside0.mk (hi); clear BK541 HO549 BK552 HB HI545; have BK541 := n0_; have HO549 := n1_; have BK552 := n2_; have HB := n3_; have HI545 := n4_; clear n0_ n1_ n2_ n3_ n4_; (try clear hb)))
   go_meet
   case rel => exact ⟨_, (t553), (by first | rfl | (simp; done) | (simp [*]; done)), H', ⟨by first | omega | exact Nat.le_refl _⟩, ⟨by (with_reducible repeat (first | apply Kd.S_alloc | apply Kd.S_drewN | apply Kd.S_drew)); exact HO549.out⟩, ⟨mb BK541⟩, ⟨mb BK552⟩, ⟨IsS112.ms HB⟩⟩
  rw [if_neg c13] at H
  have c13b0 : decide (0 < (t547.length : Int)) = false := decide_eq_false c13
  have c13b1 : decide (0 < t547.length) = false := decide_eq_false (by omega)
  clear c13
  (first | rw [c13b0] | (simp only [i64_w, i32_w]; rw [c13b0]) | skip)
  have H' := Aside0.mk H
  clear H
  have := NB552_541.out
  have := NB541_552.out
  have := NB552_545.out
  have := NB545_552.out
  obtain ⟨hcz21_0, hcz21_1, hfz21_0, hfz21_1⟩ := cFour BK552
  go_wp2
  go_meet
  case rel => exact ⟨_, (false), (by first | rfl | (simp; done) | (simp [*]; done)), H', ⟨by first | omega | exact Nat.le_refl _⟩, ⟨by (with_reducible repeat (first | apply Kd.S_alloc | apply Kd.S_drewN | apply Kd.S_drew)); exact Kd.S_mono (Kd.S_far (p := ⟨gb552, 1, none⟩) (Kd.S_far (p := ⟨gb552, 0, none⟩) (Kd.S_types HO549.out BK552.out (by decide)) (fun _ hk => hk.2) (.int .i64 t546)) (fun _ hk => hk.2) (.slice Ao12 t547.length co12)) (fun _ hk => trivial)⟩, ⟨mf BK541⟩, ⟨mq BK552⟩, ⟨IsS112.ms HB⟩⟩
 case rest =>
  clear HC4
  try clear c1
  try clear c2
  try clear p2
  try clear c4
  try clear c7
  try clear c9
  try clear c10
  try clear c13
  try clear c13b0
  try clear c13b1
  try clear c15
  try clear c16
  try clear c19
  try clear c20
  try clear hcz11_0
  try clear hcz11_1
  try clear hcz17_0
  try clear hcz17_1
  try clear hcz21_0
  try clear hcz21_1
  try clear hfz11_0
  try clear hfz11_1
  try clear hfz17_0
  try clear hfz17_1
  try clear hfz21_0
  try clear hfz21_1
  obtain ⟨kq, x18_3, rfl, HA, HJ3, HO_553001, BK541, BK552, HB⟩ := hcut
  cases kq with
  | zero => exact absurd HA.out (by simp [spec_DrawIsEmptySystem.j0])
  | succ kj3 =>
   have H := HA.out
   clear HA
   simp only [spec_DrawIsEmptySystem.j0] at H
   by_cases c22 : x18_3 = true
   ·subst c22
    rw [if_pos rfl] at H
    obtain ⟨t556, A230, H⟩ := Option.bind_eq_some_iff.mp H
    try dsimp only at H
    have A23 := Aside0.mk A230; clear A230
    obtain ⟨⟨t557, t558⟩, A240, H⟩ := Option.bind_eq_some_iff.mp H
    try dsimp only at H
    have A24 := Aside0.mk A240; clear A240
    by_cases c25 : 0 < (t547.length : Int)
    ·rw [if_pos c25] at H
     have c25b0 : decide (0 < (t547.length : Int)) = true := decide_eq_true c25
     have c25b1 : decide (0 < t547.length) = true := decide_eq_true (by omega)
     clear c25
     obtain ⟨⟨t562, t563, t566⟩, A260, H⟩ := Option.bind_eq_some_iff.mp H
     try dsimp only at H
     have A26 := Aside0.mk A260; clear A260
     have HH := Aside0.mk H
     clear H
     try go_wp2
     have q561 : (0 : Int) < (t547.length : Int) := of_decide_eq_true c25b0
     have p561 : (0 : Int) ≤ 0 := by omega
     obtain ⟨ad, A1, c1, e, hx0, hx1, hl, hi⟩ := at_T29 (Kd.S_reads' HO_553001.out).2.2 0 p561 q561
     cases e
     have qi561 : (0 < t547.length) = True := eq_true (by omega)
     rw [show ((0 : Int)).toNat = 0 from rfl, show 0 * 2 = 0 from rfl, Addr.add_zero'] at hx0 hx1
     have HRr := Aside0.mk hi
     have HCr := Aside0.mk hl
     clear hi hl
     replace p561 := eq_true p561
     replace q561 := eq_true q561
     go_cut [5, 6] (fun v5 v6 wd => ∃ (g5 : Nat) (A5 : Option Addr) (c5 : Nat), v5 = .pointer (some ⟨g5, 0, none⟩) ∧ v6 = .bool t566 ∧ Aside0 (wd.heap[g5]? = some (.cells #[.int .i64 t562, .slice A5 t563.length c5] 29 (0, 0))) ∧ Aside0 (Kd.R (Kd.int .i64) 3 wd wc.heap.size (fun _ => True) (.slice A5 t563.length c5) t563) ∧ Aside0 (Below wc.heap.size wc wd))
     case first =>
      have HZ := Aside0.mk (Below.refl wc.heap.size wc)
      have SZ0 := Aside0.mk (Nat.le_refl wc.heap.size)
      go_region_held3 (fun w' => w'.cell? ⟨gb552, 0, none⟩ = some (.int .i64 t546) ∧ w'.cell? ⟨gb552, 1, none⟩ = some (.slice (some ad) t547.length co12) ∧ w'.cell? ad = some (.int .i64 (rd_T29 t547 0).f0) ∧ w'.cell? ⟨ad.block, ad.off + 1, none⟩ = some (.slice A1 (rd_T29 t547 0).f1.length c1))
       (exact ⟨(blk_cell (blk_below BK552.out (ms HZ)) 0).trans rfl, (blk_cell (blk_below BK552.out (ms HZ)) 1).trans rfl, ((ms HZ).cell (World.block_lt_of_cell? _ _ hx0)).trans hx0, ((ms HZ).cell (World.block_lt_of_cell? _ _ hx1)).trans hx1⟩)
       (first | (go_at_call 103; refine (spec_l1Max.calls t546 0 t556 _ A23.out).mono ?_; rintro e w1 ⟨rfl, hd⟩; have hb := hd.below; (first | replace X5 := bb X5 hb | have X5 := Aside0.mk (blk_below (heap_alloc_new _ _) hb) | have X5 := Aside0.mk (blk_below (blk_drew (heap_alloc_new _ _)) hb) | skip); replace HZ := bs HZ hb; have SZ1 := Aside0.mk HZ.out.size; clear hd hb) | (go_at_call 82; refine (spec_ConstLin.calls _ _ _ _ _ A24.out).mono ?_; rintro e w2 ⟨v0, rfl, ho, hb⟩; (first | replace X5 := bb X5 hb | have X5 := Aside0.mk (blk_below (heap_alloc_new _ _) hb) | have X5 := Aside0.mk (blk_below (blk_drew (heap_alloc_new _ _)) hb) | skip); replace HZ := bs HZ hb; have SZ2 := Aside0.mk HZ.out.size; obtain ⟨Az, cz, rfl, lz, Cz⟩ := Kd.R_reads ho; have CZ := Aside0.mk Cz; have LZ := Aside0.mk lz; clear ho hb Cz lz) | (go_at_call 81; refine (spec_AddScaled.calls kj3 t557 Az cz t558 (-1) (rd_T29 t547 0).f0 A1 c1 (rd_T29 t547 0).f1 t562 t563 t566 _ (mc CZ.out) LZ.out (Kd.C_below HRr.out (ms HZ)) HCr.out A26.out).mono ?_; rintro e w3 ⟨v1, rfl, ho, hb⟩; obtain ⟨Ay, cy, rfl⟩ := Kd.R_slice ho; have RY := Aside0.mk (Kd.R_lower (Kd.R_mono ho (fun _ _ => trivial)) (below_size (ms HZ))); (first | replace X5 := bb X5 hb | have X5 := Aside0.mk (blk_below (heap_alloc_new _ _) hb) | have X5 := Aside0.mk (blk_below (blk_drew (heap_alloc_new _ _)) hb) | skip); replace HZ := bs HZ hb; (try (have hz0 := (blk_cell X5.out 0).trans (rfl : _ = some (Value.int .i64 0)); have hz1 := (blk_cell X5.out 1).trans (rfl : _ = some (Value.slice none 0 0)); have hf0 := blk_frozen X5.out 0; have hf1 := blk_frozen X5.out 1; (try simp only [World.drew] at hz0 hz1 hf0 hf1))); clear ho hb))
      all_goals go_wp2
      all_goals go_meet
      all_goals first | exact ⟨_, _, _, rfl, rfl, ⟨heap_alloc_new _ _⟩, ⟨Kd.R_alloc RY.out _⟩, ⟨below_alloc HZ.out _⟩⟩ | exact ⟨_, _, _, rfl, rfl, ⟨put2 X5.out⟩, ⟨own2 RY.out X5.out (by decide)⟩, ⟨below_set (below_set HZ.out SZ0.out) SZ0.out⟩⟩ | exact ⟨_, _, _, rfl, rfl, ⟨put2 X5.out⟩, ⟨own2 RY.out X5.out (by decide)⟩, ⟨below_set (below_set HZ.out SZ1.out) SZ1.out⟩⟩ | exact ⟨_, _, _, rfl, rfl, ⟨put2 X5.out⟩, ⟨own2 RY.out X5.out (by decide)⟩, ⟨below_set (below_set HZ.out SZ2.out) SZ2.out⟩⟩
     case rest =>
      obtain ⟨g5, A5, c5, rfl, rfl, X5, RY, HZ⟩ := hcut
      clear hx0 hx1 HRr HCr A23 A24 A26
      have LW : Aside0 (w.heap.size ≤ _) := ⟨HB.out.size⟩
      replace HO_553001 := Aside0.mk (Kd.S_elder' HO_553001.out (Kd.R_base RY.out) HZ.out)
      replace BK541 := Aside0.mk (blk_below BK541.out HZ.out)
      replace BK552 := Aside0.mk (blk_below BK552.out HZ.out)
      replace HB := Aside0.mk (HB.out.trans (HZ.out.mono HB.out.size))
      clear HZ
      have H := HH.out
      clear HH
      have := NB552_541.out
      have := NB541_552.out
      obtain ⟨hq0, hq1⟩ := c2 X5
      obtain ⟨_, _, _, _⟩ := cFour BK552
      obtain ⟨_, _, _, _⟩ := cFour BK541
      by_cases c27 : t566 = true
      · subst c27
        rw [if_pos rfl] at H
        by_cases c28 : t547.length < 4398046511104
        · rw [if_pos c28] at H
          have LMc28 := Aside0.mk c28; clear c28
          obtain ⟨y568, hy568⟩ : ∃ y_ : List (S29), y_ = (t547 ++ [(⟨t562, t563⟩ : S29)]) := ⟨_, rfl⟩
          rw [← hy568] at H
          have Ny568 := Aside0.mk hy568; clear hy568
          simp only [Option.some.injEq, Prod.mk.injEq] at H
          obtain ⟨rfl, rfl⟩ := H
          go_wp2_with (((with_reducible refine gate_builtin (b := .append) (xs := #[.tmp 33, .tmp 35]) rfl ?_); at_builtin; refine Kd.S_append k29 (w0 := w) w.heap.size rfl (.tmp 33) (.tmp 35) 24 29 (.agg #[(.int .i64 0), (.slice none 0 0)]) 32 rfl Try.underlying24 info29 rfl (by decide) (by omega) (.slice (some ad) t547.length co12) t547 (⟨t562, t563⟩ : S29) [.int .i64 t562, .slice A5 t563.length c5] (fun _ => True) (fun k_ => some k_ = (.slice A5 t563.length c5 : Value).ownBlock) rfl rfl ?aP (fun k_ hk_ => ⟨trivial, ((Kd.R_apart' RY.out (Kd.S_typed HO_553001.out) (by decide)).1 k_ hk_.symm).2⟩) ?aF ?aO ?aB ?aS ?aL ?_; (case aP => exact k29_mkM _ _ _ (⟨t562, t563⟩ : S29) (Kd.R_lower (Kd.R_tight rfl RY.out) LW.out)); (case aB => exact (ms HB)); (case aF => exact (fun _ _ => trivial)); (case aO => exact Kd.S_mono HO_553001.out (fun k_ hk => ⟨trivial, fun e_ => hk.2 e_⟩)); (case aS => exact (below_size (ms HB))); (case aL => have := LMc28.out; omega); intro v569 w44 ho hb hg hat; rw [← Ny568.out] at ho; have n0_ := Aside0.mk (blk_grown (g := gb541) (o := .cells #[.int .i64 0, .slice none 0 0] 26 (0, 0)) (mb BK541) hg (Kd.S_ne HO_553001.out BK541.out (by decide))); have n1_ := Aside0.mk (blk_grown (g := gb552) (o := .cells #[.int .i64 t546, .slice (some ad) t547.length co12] 26 (0, 0)) (mb BK552) hg (Kd.S_ne HO_553001.out BK552.out (by decide))); clear BK541 BK552 HB HO_553001 RY; have BK541 := n0_; have BK552 := n1_; have HB := Aside0.mk hb; have HO570 := Aside0.mk ho; clear n0_ n1_ ho hb hg hat; obtain ⟨Ao45, co45, eo45⟩ := Kd.S_slice HO570.out; subst eo45; obtain ⟨_, _, _, _⟩ := cFour BK552; obtain ⟨_, _, _, _⟩ := cFour BK541))
          refine bodyPost_ret (results_cell_row rfl _ _ gb541 26 #[.int .i64 t546, .slice Ao45 y568.length co45] (0, 0) _ rfl (by (with_reducible repeat (first | refine blk_drewN ?_ _ | refine blk_drew ?_ | refine blk_alloc ?_ _)); refine blk_put (cs := #[.int .i64 t546, .slice none 0 0]) ?_ 1 _ rfl; (with_reducible repeat (first | refine blk_drewN ?_ _ | refine blk_drew ?_ | refine blk_alloc ?_ _)); refine blk_put (cs := #[.int .i64 0, .slice none 0 0]) ?_ 0 _ rfl; (with_reducible repeat (first | refine blk_drewN ?_ _ | refine blk_drew ?_ | refine blk_alloc ?_ _)); refine blk_far ?_ NB541_552.out _; (with_reducible repeat (first | refine blk_drewN ?_ _ | refine blk_drew ?_ | refine blk_alloc ?_ _)); exact BK541.out) Try.underlying26 rfl (by kernel_rfl)) rfl ?_
          exact ⟨_, by first | rfl | (simp [errW_none, errW_some] <;> rfl) | (simp [*, errW_none, errW_some] <;> rfl), by (with_reducible repeat (first | apply Kd.S_alloc | apply Kd.S_drewN | apply Kd.S_drew)); exact Kd.S_mono (Kd.S_far (p := ⟨gb541, 1, none⟩) (Kd.S_far (p := ⟨gb541, 0, none⟩) (Kd.S_far (p := ⟨gb552, 1, none⟩) (Kd.S_types (Kd.S_types HO570.out BK552.out (by decide)) BK541.out (by decide)) (fun _ hk => hk.1.2) (.slice Ao45 y568.length co45)) (fun _ hk => hk.2) (.int .i64 t546)) (fun _ hk => hk.2) (.slice Ao45 y568.length co45)) (fun _ hk => trivial), ms HB⟩
        · rw [if_neg c28] at H
          exact absurd H (by simp)
      · replace c27 := Bool.eq_false_iff.mpr c27
        subst c27
        rw [if_neg (show ¬ (false = true) by decide)] at H
        simp only [Option.some.injEq, Prod.mk.injEq] at H
        obtain ⟨rfl, rfl⟩ := H
        go_wp2
        refine bodyPost_ret (results_cell_row rfl _ _ gb541 26 #[.int .i64 t546, .slice (some ad) t547.length co12] (0, 0) _ rfl (mq BK541) Try.underlying26 rfl (by kernel_rfl)) rfl ?_
        exact ⟨_, rfl, Kd.S_mono (Kd.S_far (p := ⟨gb541, 1, none⟩) (Kd.S_far (p := ⟨gb541, 0, none⟩) (Kd.S_types HO_553001.out BK541.out (by decide)) (fun _ hk => hk.2) (.int .i64 t546)) (fun _ hk => hk.2) (.slice (some ad) t547.length co12)) (fun _ hk => trivial), ms HB⟩
    rw [if_neg c25] at H
    exact absurd H (by simp)
   replace c22 := Bool.eq_false_iff.mpr c22
   subst c22
   rw [if_neg (show ¬ (false = true) by decide)] at H
   simp only [Option.some.injEq, Prod.mk.injEq] at H
   obtain ⟨rfl, rfl⟩ := H
   have := NB552_541.out
   have := NB541_552.out
   obtain ⟨_, _, _, _⟩ := cFour BK552
   obtain ⟨_, _, _, _⟩ := cFour BK541
   go_wp2
   refine bodyPost_ret (results_cell_row rfl _ _ gb541 26 #[.int .i64 t546, .slice Ao12 t547.length co12] (0, 0) _ rfl (mq BK541) Try.underlying26 rfl (by kernel_rfl)) rfl ?_
   exact ⟨_, by first | rfl | (simp [errW_none, errW_some] <;> rfl) | (simp [*, errW_none, errW_some] <;> rfl), by (with_reducible repeat (first | apply Kd.S_alloc | apply Kd.S_drewN | apply Kd.S_drew)); exact Kd.S_mono (Kd.S_far (p := ⟨gb541, 1, none⟩) (Kd.S_far (p := ⟨gb541, 0, none⟩) (Kd.S_types HO_553001.out BK541.out (by decide)) (fun _ hk => hk.2) (.int .i64 t546)) (fun _ hk => hk.2) (.slice Ao12 t547.length co12)) (fun _ hk => trivial), ms HB⟩

end Go.Proofs.Ytlencemmlgkflaa.QFnEntailed
