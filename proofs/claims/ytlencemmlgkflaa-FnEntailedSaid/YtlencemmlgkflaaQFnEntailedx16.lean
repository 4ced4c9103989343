-- Made by a program of this claim's own (wip/print): not the kit's print as it stands.
import Derived.Test.YtlencemmlgkflaaUFnEntailedTri
import Derived.Test.YtlencemmlgkflaaQFnEntailedx0
import Derived.Test.YtlencemmlgkflaaQFnEntailedx9
import Derived.Test.YtlencemmlgkflaaQFnEntailedx10
import Derived.Test.YtlencemmlgkflaaQFnEntailedx12
import Derived.Test.YtlencemmlgkflaaQFnEntailedx13
import Derived.Test.YtlencemmlgkflaaQFnEntailedx15
namespace Go.Proofs.Ytlencemmlgkflaa.QFnEntailed
open Go.RowKit Go.Proofs.YtlencemmlgkflaaV.PrintWords Go.Proofs.YtlencemmlgkflaaV.PrintLast Go.Proofs.YtlencemmlgkflaaV.PrintMore
attribute [local go_sem] max2_int min2_int max_two min_two max_three min_three max_four min_four   -- for this text's walks alone
set_option linter.unusedVariables false
set_option linter.unusedSimpArgs false

/-! ### spec_l7Target: function 72 -/
def spec_l7Target.j0 : Nat → Bool → List Int → Int → Int → Int → List (S29) → Int → List Int → Option (Int × List Int × Int × Int)
 | 0, _, _, _, _, _, _, _, _ => none
 | k + 1, x22, x1000, x1001, x1002, x471000, x471001, x483000, x483001 => if x22 = true then ((spec_l1Max.f x471000 0).bind fun t486 => ((spec_l1Min.f t486 9).bind fun t487 => ((spec_l4Draw.f k x1000 x1001 x1002 t487).bind fun bt488 => (some (bt488.1, bt488.2.1, bt488.2.2.1, bt488.2.2.2))))) else ((spec_l1Below.f x1000 x1001 x1002 4).bind fun bt494 => (some (wrap64 ((wrap64 (x483000 + bt494.1)) - 1), x483001, bt494.2.1, bt494.2.2)))
def spec_l7Target.f (k : Nat) (s0_0 : List Int) (s0_1 : Int) (s0_2 : Int) (a1_0 : Int) (l1_1 : List (S29)) : Option (Int × List Int × Int × Int) := (spec_l7Mult.f k s0_0 s0_1 s0_2 (l1_1.length : Int)).bind fun bt472 => ((spec_CombineRows.f k a1_0 l1_1 bt472.1).bind fun bt477 => (if bt477.2.2 = true then ((spec_l1Once.f s0_0 bt472.2.1 bt472.2.2 4).bind fun bt483 => (spec_l7Target.j0 k bt483.1 s0_0 bt483.2.1 bt483.2.2 a1_0 l1_1 bt477.1 bt477.2.1)) else (spec_l7Target.j0 k true s0_0 bt472.2.1 bt472.2.2 a1_0 l1_1 bt477.1 bt477.2.1)))
theorem spec_l7Target.mono_l : ∀ k, (∀ y0 y1 y2 y3 y4 y5 y6 y7, LeO (spec_l7Target.j0 k y0 y1 y2 y3 y4 y5 y6 y7) (spec_l7Target.j0 (k + 1) y0 y1 y2 y3 y4 y5 y6 y7))
 | 0 => fun _ _ _ _ _ _ _ _ r h => by simp [spec_l7Target.j0] at h
 | k + 1 => by
  have ih0 := spec_l7Target.mono_l k
  ·intro y0 y1 y2 y3 y4 y5 y6 y7
   unfold spec_l7Target.j0
   repeat' with_reducible first
   | exact ih0 _ _ _ _ _ _ _ _
   | exact spec_CombineRows.mono _ _ _ _
   | exact spec_l4Draw.mono _ _ _ _ _
   | exact spec_l7Mult.mono _ _ _ _ _
   | exact LeO.refl _
   | exact LeO.none _
   | refine LeO.ite ?_ ?_
   | refine LeO.bind ?_ (fun _ => ?_)
theorem spec_l7Target.mono : ∀ a0 a1 a2 a3 a4 k, LeO (spec_l7Target.f k a0 a1 a2 a3 a4) (spec_l7Target.f (k + 1) a0 a1 a2 a3 a4) := by
 intro a0 a1 a2 a3 a4 k
 have ih0 := spec_l7Target.mono_l k
 unfold spec_l7Target.f
 repeat' with_reducible first
 | exact ih0 _ _ _ _ _ _ _ _
 | exact spec_CombineRows.mono _ _ _ _
 | exact spec_l4Draw.mono _ _ _ _ _
 | exact spec_l7Mult.mono _ _ _ _ _
 | exact LeO.refl _
 | exact LeO.none _
 | refine LeO.ite ?_ ?_
 | refine LeO.bind ?_ (fun _ => ?_)
def spec_l7Target.T1 : Bool × List (List Nat × List Nat) := (true, [([], []), ([], []), ([], []), ([2], [2]), ([3], [3]), ([1, 4], [1, 4]), ([0, 5, 5], [0, 5]), ([6], [6]), ([7], [7]), ([7], [7]), ([], []), ([10, 8, 6, 0, 1, 2, 3, 4, 5, 6, 7, 8, 10], [8, 10]), ([9, 11, 0, 1, 2, 3, 4, 5, 6, 7, 8, 9, 10, 11], [9])])
def spec_l7Target.B1 : List Nat := [0, 0, 0, 4, 12, 30, 63, 127, 255, 255, 0, 1535, 4095]
theorem spec_l7Target.tab1 : rtab .any (opsOf Try.f72 1) = spec_l7Target.T1 := by kernel_rfl
theorem spec_l7Target.bits1 : waitsOk spec_l7Target.T1.2 spec_l7Target.B1 = true := by kernel_rfl
def spec_l7Target.T4 : Bool × List (List Nat × List Nat) := (true, [([], []), ([0], [0]), ([], []), ([2], [2]), ([1, 3], [1, 3]), ([4], [4]), ([0, 1, 2, 3, 4, 5], []), ([6, 5, 3, 0, 1, 2, 3, 4, 5], [5, 6])])
def spec_l7Target.B4 : List Nat := [0, 1, 0, 4, 15, 31, 63, 127]
theorem spec_l7Target.tab4 : rtab .any (opsOf Try.f72 4) = spec_l7Target.T4 := by kernel_rfl
theorem spec_l7Target.bits4 : waitsOk spec_l7Target.T4.2 spec_l7Target.B4 = true := by kernel_rfl
set_option maxHeartbeats 8000000 in
set_option maxRecDepth 100000 in
theorem spec_l7Target.calls (k : Nat) (g : Nat) (s0_0 : List Int) (s0_1 : Int) (s0_2 : Int) (a1_0 : Int) (A1_1 : Option Addr) (c1_1 : Nat) (l1_1 : List (S29)) (r1 : Int) (r2 : List Int) (r3 : Int) (r4 : Int) (w0 w : World) (hI : IsS112 w0 w g s0_0 s0_1 s0_2) (hB : Below w0.heap.size w0 w) (hr1_1 : ∀ W_, KeepBut w W_ g none → Kd.C k29 W_ A1_1 l1_1.length l1_1) (hc1_1 : l1_1.length ≤ c1_1) (h : spec_l7Target.f k s0_0 s0_1 s0_2 a1_0 l1_1 = some (r1, r2, r3, r4)) :
  Calls Try.prog 72 #[.pointer (some ⟨g, 0, none⟩), .agg #[.int .i64 a1_0, .slice A1_1 l1_1.length c1_1]] w fun e w' => ∃ v1_ : Value, e = .returned (.agg #[.int .i64 r1, v1_]) ∧ Kd.R (Kd.int .i64) 3 w' w.heap.size (fun _ => True) v1_ r2 ∧ IsS112 w0 w' g s0_0 r3 r4 ∧ Below w0.heap.size w0 w' ∧ KeepBut w w' g none := by
 have hu26 := Try.underlying26
 have hu29 := Try.underlying29
 have HR1_1 := Aside0.mk hr1_1
 have HC1_1 := Aside0.mk hc1_1
 clear hr1_1 hc1_1
 have HI0 := Aside0.mk hI
 have HK := Aside0.mk (KeepBut.refl w g none)
 have HL := Aside0.mk hB.size
 clear hI
 have HW0 := Aside0.mk hB.size
 have HB := Aside0.mk hB; clear hB
 have H : ((spec_l7Mult.f k s0_0 s0_1 s0_2 (l1_1.length : Int)).bind fun bt472 => ((spec_CombineRows.f k a1_0 l1_1 bt472.1).bind fun bt477 => (if bt477.2.2 = true then ((spec_l1Once.f s0_0 bt472.2.1 bt472.2.2 4).bind fun bt483 => (spec_l7Target.j0 k bt483.1 s0_0 bt483.2.1 bt483.2.2 a1_0 l1_1 bt477.1 bt477.2.1)) else (spec_l7Target.j0 k true s0_0 bt472.2.1 bt472.2.2 a1_0 l1_1 bt477.1 bt477.2.1)))) = some (r1, r2, r3, r4) := h
 clear h
 obtain ⟨⟨t472, t475, t476⟩, A30, H⟩ := Option.bind_eq_some_iff.mp H
 try dsimp only at H
 have A3 := Aside0.mk A30; clear A30
 obtain ⟨⟨t477, t478, t481⟩, A40, H⟩ := Option.bind_eq_some_iff.mp H
 try dsimp only at H
 have A4 := Aside0.mk A40; clear A40
 have HC5 := Aside0.mk H; clear H
 go_enter Try.func72, Try.ntmps72
 try go_wp2_with (first | ((with_reducible refine gate_dst (N := 3) rfl ?_); refine box_event ?hg (N := 3) ?hd (cs := #[.int .i64 a1_0, .slice A1_1 l1_1.length c1_1]) (t := 26) ?hr ?_; (case hd => rfl); (case hg => rfl); (case hr => first | (go_simp; done) | (go_simp; rfl)); intro gb470 hg w6 hbox hb; have n0_ := Aside0.mk (IsS112.below (IsS112.mi HI0) hb); have n1_ := Aside0.mk (KeepBut.trans (mk HK) (KeepBut.of_below hb g none) (.inl rfl)); have n2_ := Aside0.mk (below_step (IsS112.ms HB) hb); have n3_ := Aside0.mk (hbox); have n4_ := Aside0.mk ((by rw [hg]; exact (keep_size (w := w) (g := g) (row := none) (mk HK)) : w.heap.size ≤ gb470)); have n5_ := Aside0.mk ((Nat.le_trans HW0.out (by rw [hg]; exact (keep_size (w := w) (g := g) (row := none) (mk HK)) : w.heap.size ≤ gb470) : w0.heap.size ≤ gb470)); have n6_ := Aside0.mk ((by rw [hg]; exact Nat.ne_of_lt (IsS112.lt (show IsS112 w0 _ g s0_0 s0_1 s0_2 from IsS112.mi HI0)) : g ≠ gb470)); have n7_ := Aside0.mk ((by rw [hg]; exact Nat.ne_of_gt (IsS112.lt (show IsS112 w0 _ g s0_0 s0_1 s0_2 from IsS112.mi HI0)) : gb470 ≠ g)); clear HI0 HK HB; have HI0 := n0_; have HK := n1_; have HB := n2_; have BK470 := n3_; have GW470 := n4_; have GE470 := n5_; have NB0_470 := n6_; have NB470_0 := n7_; clear n0_ n1_ n2_ n3_ n4_ n5_ n6_ n7_; clear hb hbox hg) | ((with_reducible refine gate_dst (N := 4) rfl ?_); refine box_event ?hg (N := 4) ?hd (cs := #[.int .i64 0, .slice none 0 0]) (t := 29) ?hr ?_; (case hd => rfl); (case hg => rfl); (case hr => first | (go_simp; done) | (go_simp; rfl)); intro gb471 hg w7 hbox hb; have n0_ := Aside0.mk (IsS112.below (IsS112.mi HI0) hb); have n1_ := bb BK470 hb; have n2_ := Aside0.mk (KeepBut.trans (mk HK) (KeepBut.of_below hb g none) (.inl rfl)); have n3_ := Aside0.mk (below_step (IsS112.ms HB) hb); have n4_ := Aside0.mk (hbox); have n5_ := Aside0.mk ((by rw [hg]; exact (keep_size (w := w) (g := g) (row := none) (mk HK)) : w.heap.size ≤ gb471)); have n6_ := Aside0.mk ((Nat.le_trans HW0.out (by rw [hg]; exact (keep_size (w := w) (g := g) (row := none) (mk HK)) : w.heap.size ≤ gb471) : w0.heap.size ≤ gb471)); have n7_ := nl hg BK470; have n8_ := ng hg BK470; have n9_ := Aside0.mk ((by rw [hg]; exact Nat.ne_of_lt (IsS112.lt (show IsS112 w0 _ g s0_0 s0_1 s0_2 from IsS112.mi HI0)) : g ≠ gb471)); have n10_ := Aside0.mk ((by rw [hg]; exact Nat.ne_of_gt (IsS112.lt (show IsS112 w0 _ g s0_0 s0_1 s0_2 from IsS112.mi HI0)) : gb471 ≠ g)); clear HI0 BK470 HK HB; have HI0 := n0_; have BK470 := n1_; have HK := n2_; have HB := n3_; have BK471 := n4_; have GW471 := n5_; have GE471 := n6_; have NB470_471 := n7_; have NB471_470 := n8_; have NB0_471 := n9_; have NB471_0 := n10_; clear n0_ n1_ n2_ n3_ n4_ n5_ n6_ n7_ n8_ n9_ n10_; clear hb hbox hg))
 replace BK470 := Aside0.mk (blk_drew BK470.out)
 replace BK471 := Aside0.mk (blk_drew BK471.out)
 replace HI0 := Aside0.mk (IsS112.drew HI0.out)
 replace HK := Aside0.mk (keep_drew HK.out)
 replace HB := Aside0.mk (below_drew1 HB.out)
 refine start_ (n := 13) (S := fun w' => w'.cell? ⟨gb470, 0, none⟩ = some (.int .i64 a1_0) ∧ w'.cell? ⟨gb470, 1, none⟩ = some (.slice A1_1 l1_1.length c1_1)) (ds := []) #[false, false, false, false, false, false, false, false, false, false, false, false, false] (by kernel_rfl) rfl rfl ⟨(c2 BK470).1, (c2 BK470).2⟩ (fun hHeld => ?_); refine with_tabW spec_l7Target.tab1 spec_l7Target.bits1 (fun HT_ HW_ => ?_)
 generalize w7.drew = w8 at BK470 BK471 HI0 HK HB hHeld ⊢
 refine pu 1 (some 9) (v := ?_) (a' := ?_) #[false, true, false, false, false, false, false, false, false, false, false, false, false] rfl rfl HT_ (fun _ _ _ h => h) (by rfl) ?_ ?_ ?_
 rotate_left
 ·intro w'
  go_simp
  with_reducible rfl
 rotate_left
 ·simp only [Act.put, z1, z2, z3, i64_w, i32_w]
  rfl
 refine pu 2 (some 10) (v := ?_) (a' := ?_) #[false, true, true, false, false, false, false, false, false, false, false, false, false] rfl rfl HT_ (fun _ _ _ h => h) (by rfl) ?_ ?_ ?_
 rotate_left
 ·intro w'
  go_simp
  with_reducible rfl
 rotate_left
 ·simp only [Act.put, z1, z2, z3, i64_w, i32_w]
  rfl
 refine tk 0 (some 8) (v := ?_) (a' := ?_) #[true, true, true, false, false, false, false, false, false, false, false, false, false] rfl rfl HT_ HW_ (fun _ _ _ h => h) (by rfl) ?_ hHeld ?_ ?_
 rotate_left
 ·rintro w' ⟨s0, s1⟩
  go_simp
  with_reducible rfl
 rotate_left
 ·simp only [Act.put, z1, z2, z3, i64_w, i32_w]
  rfl
 refine tk 3 (some 11) (v := ?_) (a' := ?_) #[true, true, true, true, false, false, false, false, false, false, false, false, false] rfl rfl HT_ HW_ (fun _ _ _ h => h) (by rfl) ?_ hHeld ?_ ?_
 rotate_left
 ·rintro w' ⟨s0, s1⟩
  go_simp
  with_reducible rfl
 rotate_left
 ·simp only [Act.put, z1, z2, z3, i64_w, i32_w]
  rfl
 refine pu 4 (some 12) (v := ?_) (a' := ?_) #[true, true, true, true, true, false, false, false, false, false, false, false, false] rfl rfl HT_ (fun _ _ _ h => h) (by rfl) ?_ ?_ ?_
 rotate_left
 ·intro w'
  go_simp
  with_reducible rfl
 rotate_left
 ·simp only [Act.put, z1, z2, z3, i64_w, i32_w]
  rfl
 refine join_ (σ := Value × Value × Nat) 2 #[true, true, true, true, true, true, true, true, true, true, true, false, false] (fun s_ => [(13, s_.1), (14, .tuple #[.agg #[.int .i64 t477, s_.2.1], .bool t481]), (5, .pointer (some ⟨s_.2.2, 0, none⟩)), (7, .tuple #[.agg #[.int .i64 t477, s_.2.1], .bool t481]), (15, .agg #[.int .i64 t477, s_.2.1]), (16, .bool t481)]) (fun s_ w' => (w'.cell? ⟨gb470, 0, none⟩ = some (.int .i64 a1_0) ∧ w'.cell? ⟨gb470, 1, none⟩ = some (.slice A1_1 l1_1.length c1_1)) ∧ (Kd.R (Kd.int .i64) 3 w' w.heap.size (fun k_ => some k_ ≠ (s_.2.1 : Value).ownBlock) s_.1 t472) ∧ (Kd.R (Kd.int .i64) 3 w' w.heap.size (fun k_ => some k_ ≠ (s_.1 : Value).ownBlock) s_.2.1 t478) ∧ (w'.heap[gb470]? = some (.cells #[.int .i64 a1_0, .slice A1_1 l1_1.length c1_1] 26 (0, 0))) ∧ (w'.heap[gb471]? = some (.cells #[.int .i64 0, .slice none 0 0] 29 (0, 0))) ∧ (w'.heap[s_.2.2]? = some (.cells #[.int .i64 0, .slice none 0 0] 29 (0, 0))) ∧ (w.heap.size ≤ s_.2.2) ∧ (w0.heap.size ≤ s_.2.2) ∧ (g ≠ s_.2.2) ∧ (s_.2.2 ≠ g) ∧ (gb470 ≠ s_.2.2) ∧ (s_.2.2 ≠ gb470) ∧ (gb471 ≠ s_.2.2) ∧ (s_.2.2 ≠ gb471) ∧ (IsS112 w0 w' g s0_0 t475 t476) ∧ (KeepBut w w' g none) ∧ (Below w0.heap.size w0 w')) ?_ ?_
 rotate_left
 ·intro hCont
  refine two_ (i := 5) (j := 10) (Ni := some 13) (Nj := some 5) #[true, true, true, true, true, true, false, false, false, false, false, false, false] #[true, true, true, true, true, false, false, false, false, false, true, false, false] rfl rfl rfl rfl (two_of HT_.out (by kernel_rfl)) (by decide) (by decide) (fun K hK => ?_) (fun K hK => ?_)
  ·skip
   refine gs Try.func119 (by kernel_rfl) rfl #[.pointer (some ⟨g, 0, none⟩), .int .i64 (l1_1.length : Int)] (by rfl) rfl rfl ?_
   with_reducible refine (spec_l7Mult.calls k g s0_0 s0_1 s0_2 (l1_1.length : Int) t472 t475 t476 w0 _ ?side1 ?side2 A3.out).mono ?_
   (case side1 => exact IsS112.mi HI0)
   (case side2 => exact IsS112.ms HB)
   rintro e w9 ⟨v473, rfl, ho0, hi, hb, hk⟩
   refine ⟨_, rfl, ?_⟩
   replace BK470 := Aside0.mk (KeepBut.blk hk (g' := gb470) (o := .cells #[.int .i64 a1_0, .slice A1_1 l1_1.length c1_1] 26 (0, 0)) (mb BK470) NB470_0.out (by simp))
   replace BK471 := Aside0.mk (KeepBut.blk hk (g' := gb471) (o := .cells #[.int .i64 0, .slice none 0 0] 29 (0, 0)) (mb BK471) NB471_0.out (by simp))
   have HO474 := Aside0.mk (Kd.R_lower ho0 (keep_size (w := w) (g := g) (row := none) (mk HK)))
   replace HK := Aside0.mk (KeepBut.trans (mk HK) hk (.inl rfl))
   replace HB := Aside0.mk (hb)
   replace HI0 := Aside0.mk (hi)
   (try clear hb)
   (try clear hb2)
   (try clear hk)
   (try clear hi)
   (try clear ho0)
   obtain ⟨Ao10, co10, eo10⟩ := Kd.R_slice HO474.out
   (first | subst eo10 | (injection eo10 with f1_ f2_ f3_; have f4_ := f1_.symm; have f5_ := f3_.symm; clear f1_ f2_ f3_; subst f4_; subst f5_))
   refine hK.out _ _ ⟨(c2 BK470).1, (c2 BK470).2⟩ (fun hHeld => ?_)
   clear hK K
   refine norm_ (a' := ?_) ?_ ?_
   rotate_left
   ·show Act.put _ (some 13) _ = _
    simp only [Act.put, z1, z2, z3, i64_w, i32_w]
    rfl
   refine two_ (i := 6) (j := 10) (Ni := some 14) (Nj := some 5) #[true, true, true, true, true, true, true, false, false, false, false, false, false] #[true, true, true, true, true, true, false, false, false, false, true, false, false] rfl rfl rfl rfl (two_of HT_.out (by kernel_rfl)) (by decide) (by decide) (fun K hK => ?_) (fun K hK => ?_)
   ·skip
    refine gs Try.func33 (by kernel_rfl) rfl #[.agg #[.int .i64 a1_0, .slice A1_1 l1_1.length c1_1], .slice Ao10 t472.length co10] (by rfl) rfl rfl ?_
    with_reducible refine (spec_CombineRows.calls k a1_0 _ _ l1_1 _ _ t472 t477 t478 t481 _ ?side1 ?side2 ?side3 ?side4 A4.out).mono ?_
    (case side1 => exact Kd.C_foot_now HR1_1.out (mk HK))
    (case side2 => exact HC1_1.out)
    (case side3 => exact mc ((Kd.R_reads' HO474.out).2.2))
    (case side4 => exact (Kd.R_reads' HO474.out).2.1)
    rintro e w11 ⟨v479, rfl, ho0, hb⟩
    refine ⟨_, rfl, ?_⟩
    have HO480 := Aside0.mk (Kd.R_lower (Kd.R_new' ho0 (Kd.R_lt (mr HO474))) (keep_size (w := w) (g := g) (row := none) (mk HK)))
    replace HO474 := rl HO474 ho0 hb
    replace BK470 := bb BK470 hb
    replace BK471 := bb BK471 hb
    replace HK := Aside0.mk (KeepBut.trans (mk HK) (KeepBut.of_below hb g none) (.inl rfl))
    replace HB := Aside0.mk (below_step (IsS112.ms HB) hb)
    replace HI0 := Aside0.mk (IsS112.below (IsS112.mi HI0) hb)
    (try clear hb)
    (try clear hb2)
    (try clear hk)
    (try clear hi)
    (try clear ho0)
    refine hK.out _ _ ⟨(c2 BK470).1, (c2 BK470).2⟩ (fun hHeld => ?_)
    clear hK K
    refine norm_ (a' := ?_) ?_ ?_
    rotate_left
    ·show Act.put _ (some 14) _ = _
     simp only [Act.put, z1, z2, z3, i64_w, i32_w]
     rfl
    refine pu 7 (some 7) (v := ?_) (a' := ?_) #[true, true, true, true, true, true, true, true, false, false, false, false, false] rfl rfl HT_ (fun _ _ _ h => h) (by rfl) ?_ ?_ ?_
    rotate_left
    ·intro w'
     go_simp
     with_reducible rfl
    rotate_left
    ·simp only [Act.put, z1, z2, z3, i64_w, i32_w]
     rfl
    refine pu 8 (some 15) (v := ?_) (a' := ?_) #[true, true, true, true, true, true, true, true, true, false, false, false, false] rfl rfl HT_ (fun _ _ _ h => h) (by rfl) ?_ ?_ ?_
    rotate_left
    ·intro w'
     go_simp
     with_reducible rfl
    rotate_left
    ·simp only [Act.put, z1, z2, z3, i64_w, i32_w]
     rfl
    refine pu 9 (some 16) (v := ?_) (a' := ?_) #[true, true, true, true, true, true, true, true, true, true, false, false, false] rfl rfl HT_ (fun _ _ _ h => h) (by rfl) ?_ ?_ ?_
    rotate_left
    ·intro w'
     go_simp
     with_reducible rfl
    rotate_left
    ·simp only [Act.put, z1, z2, z3, i64_w, i32_w]
     rfl
    refine one_ (i := 10) (N := some 5) #[true, true, true, true, true, true, true, true, true, true, true, false, false] rfl rfl (one_of HT_.out (by kernel_rfl)) (by decide) (fun K hK => ?_)
    refine box_step ?hg (N := 5) ?hd (cs := #[.int .i64 0, .slice none 0 0]) (t := 29) ?hr ?_; (case hd => rfl); (case hg => rfl); (case hr => first | (go_simp; done) | (go_simp; rfl))
    intro gb482 hg w12 hbox hb
    have n0_ := rb HO474 hb
    have n1_ := rb HO480 hb
    have n2_ := Aside0.mk (IsS112.below (IsS112.mi HI0) hb)
    have n3_ := bb BK470 hb
    have n4_ := bb BK471 hb
    have n5_ := Aside0.mk (KeepBut.trans (mk HK) (KeepBut.of_below hb g none) (.inl rfl))
    have n6_ := Aside0.mk (below_step (IsS112.ms HB) hb)
    have n7_ := Aside0.mk (hbox)
    have n8_ := Aside0.mk ((by rw [hg]; exact (keep_size (w := w) (g := g) (row := none) (mk HK)) : w.heap.size ≤ gb482))
    have n9_ := Aside0.mk ((Nat.le_trans HW0.out (by rw [hg]; exact (keep_size (w := w) (g := g) (row := none) (mk HK)) : w.heap.size ≤ gb482) : w0.heap.size ≤ gb482))
    have n10_ := nl hg BK470
    have n11_ := ng hg BK470
    have n12_ := nl hg BK471
    have n13_ := ng hg BK471
    have n14_ := Aside0.mk ((by rw [hg]; exact Nat.ne_of_lt (IsS112.lt (show IsS112 w0 _ g s0_0 t475 t476 from IsS112.mi HI0)) : g ≠ gb482))
    have n15_ := Aside0.mk ((by rw [hg]; exact Nat.ne_of_gt (IsS112.lt (show IsS112 w0 _ g s0_0 t475 t476 from IsS112.mi HI0)) : gb482 ≠ g))
    clear HO474 HO480 HI0 BK470 BK471 HK HB
    have HO474 := n0_
    have HO480 := n1_
    have HI0 := n2_
    have BK470 := n3_
    have BK471 := n4_
    have HK := n5_
    have HB := n6_
    have BK482 := n7_
    have GW482 := n8_
    have GE482 := n9_
    have NB470_482 := n10_
    have NB482_470 := n11_
    have NB471_482 := n12_
    have NB482_471 := n13_
    have NB0_482 := n14_
    have NB482_0 := n15_
    clear n0_ n1_ n2_ n3_ n4_ n5_ n6_ n7_ n8_ n9_ n10_ n11_ n12_ n13_ n14_ n15_ hb hbox hg
    refine hK.out _ _ ⟨(c2 BK470).1, (c2 BK470).2⟩ (fun hHeld => ?_)
    clear hK K
    refine norm_ (a' := ?_) ?_ ?_
    rotate_left
    ·show Act.put _ (some 5) _ = _
     simp only [Act.put, z1, z2, z3, i64_w, i32_w]
     rfl
    exact norm_ (by simp only [putAll, Act.put, List.setIfInBounds_toArray, List.set_cons_zero, List.set_cons_succ]) (hCont (.slice Ao10 t472.length co10, v479, gb482) _ ⟨hHeld, (by (with_reducible repeat (first | apply Kd.R_alloc | apply Kd.R_drewN | apply Kd.R_drew)); exact Kd.R_mono HO474.out (fun _ hk => hk.2)), (by (with_reducible repeat (first | apply Kd.R_alloc | apply Kd.R_drewN | apply Kd.R_drew)); exact Kd.R_mono HO480.out (fun _ hk => hk.2)), (mb BK470), (mb BK471), (mb BK482), GW482.out, GE482.out, NB0_482.out, NB482_0.out, NB470_482.out, NB482_470.out, NB471_482.out, NB482_471.out, (IsS112.mi HI0), (mk HK), (IsS112.ms HB)⟩)
   skip
   refine box_step ?hg (N := 5) ?hd (cs := #[.int .i64 0, .slice none 0 0]) (t := 29) ?hr ?_; (case hd => rfl); (case hg => rfl); (case hr => first | (go_simp; done) | (go_simp; rfl))
   intro gb482 hg w10 hbox hb
   have n0_ := rb HO474 hb
   have n1_ := Aside0.mk (IsS112.below (IsS112.mi HI0) hb)
   have n2_ := bb BK470 hb
   have n3_ := bb BK471 hb
   have n4_ := Aside0.mk (KeepBut.trans (mk HK) (KeepBut.of_below hb g none) (.inl rfl))
   have n5_ := Aside0.mk (below_step (IsS112.ms HB) hb)
   have n6_ := Aside0.mk (hbox)
   have n7_ := Aside0.mk ((by rw [hg]; exact (keep_size (w := w) (g := g) (row := none) (mk HK)) : w.heap.size ≤ gb482))
   have n8_ := Aside0.mk ((Nat.le_trans HW0.out (by rw [hg]; exact (keep_size (w := w) (g := g) (row := none) (mk HK)) : w.heap.size ≤ gb482) : w0.heap.size ≤ gb482))
   have n9_ := nl hg BK470
   have n10_ := ng hg BK470
   have n11_ := nl hg BK471
   have n12_ := ng hg BK471
   have n13_ := Aside0.mk ((by rw [hg]; exact Nat.ne_of_lt (IsS112.lt (show IsS112 w0 _ g s0_0 t475 t476 from IsS112.mi HI0)) : g ≠ gb482))
   have n14_ := Aside0.mk ((by rw [hg]; exact Nat.ne_of_gt (IsS112.lt (show IsS112 w0 _ g s0_0 t475 t476 from IsS112.mi HI0)) : gb482 ≠ g))
   clear HO474 HI0 BK470 BK471 HK HB
   have HO474 := n0_
   have HI0 := n1_
   have BK470 := n2_
   have BK471 := n3_
   have HK := n4_
   have HB := n5_
   have BK482 := n6_
   have GW482 := n7_
   have GE482 := n8_
   have NB470_482 := n9_
   have NB482_470 := n10_
   have NB471_482 := n11_
   have NB482_471 := n12_
   have NB0_482 := n13_
   have NB482_0 := n14_
   clear n0_ n1_ n2_ n3_ n4_ n5_ n6_ n7_ n8_ n9_ n10_ n11_ n12_ n13_ n14_ hb hbox hg
   obtain ⟨Ao11, co11, eo11⟩ := Kd.R_slice HO474.out
   (first | subst eo11 | (injection eo11 with f1_ f2_ f3_; have f4_ := f1_.symm; have f5_ := f3_.symm; clear f1_ f2_ f3_; subst f4_; subst f5_))
   refine hK.out _ _ ⟨(c2 BK470).1, (c2 BK470).2⟩ (fun hHeld => ?_)
   clear hK K
   refine norm_ (a' := ?_) ?_ ?_
   rotate_left
   ·show Act.put _ (some 5) _ = _
    simp only [Act.put, z1, z2, z3, i64_w, i32_w]
    rfl
   refine one_ (i := 6) (N := some 14) #[true, true, true, true, true, true, true, false, false, false, true, false, false] rfl rfl (one_of HT_.out (by kernel_rfl)) (by decide) (fun K hK => ?_)
   refine gs Try.func33 (by kernel_rfl) rfl #[.agg #[.int .i64 a1_0, .slice A1_1 l1_1.length c1_1], .slice Ao11 t472.length co11] (by rfl) rfl rfl ?_
   with_reducible refine (spec_CombineRows.calls k a1_0 _ _ l1_1 _ _ t472 t477 t478 t481 _ ?side1 ?side2 ?side3 ?side4 A4.out).mono ?_
   (case side1 => exact Kd.C_foot_now HR1_1.out (mk HK))
   (case side2 => exact HC1_1.out)
   (case side3 => exact mc ((Kd.R_reads' HO474.out).2.2))
   (case side4 => exact (Kd.R_reads' HO474.out).2.1)
   rintro e w12 ⟨v479, rfl, ho0, hb⟩
   refine ⟨_, rfl, ?_⟩
   have HO480 := Aside0.mk (Kd.R_lower (Kd.R_new' ho0 (Kd.R_lt (mr HO474))) (keep_size (w := w) (g := g) (row := none) (mk HK)))
   replace HO474 := rl HO474 ho0 hb
   replace BK470 := bb BK470 hb
   replace BK471 := bb BK471 hb
   replace BK482 := bb BK482 hb
   replace HK := Aside0.mk (KeepBut.trans (mk HK) (KeepBut.of_below hb g none) (.inl rfl))
   replace HB := Aside0.mk (below_step (IsS112.ms HB) hb)
   replace HI0 := Aside0.mk (IsS112.below (IsS112.mi HI0) hb)
   (try clear hb)
   (try clear hb2)
   (try clear hk)
   (try clear hi)
   (try clear ho0)
   refine hK.out _ _ ⟨(c2 BK470).1, (c2 BK470).2⟩ (fun hHeld => ?_)
   clear hK K
   refine norm_ (a' := ?_) ?_ ?_
   rotate_left
   ·show Act.put _ (some 14) _ = _
    simp only [Act.put, z1, z2, z3, i64_w, i32_w]
    rfl
   refine pu 7 (some 7) (v := ?_) (a' := ?_) #[true, true, true, true, true, true, true, true, false, false, true, false, false] rfl rfl HT_ (fun _ _ _ h => h) (by rfl) ?_ ?_ ?_
   rotate_left
   ·intro w'
    go_simp
    with_reducible rfl
   rotate_left
   ·simp only [Act.put, z1, z2, z3, i64_w, i32_w]
    rfl
   refine pu 8 (some 15) (v := ?_) (a' := ?_) #[true, true, true, true, true, true, true, true, true, false, true, false, false] rfl rfl HT_ (fun _ _ _ h => h) (by rfl) ?_ ?_ ?_
   rotate_left
   ·intro w'
    go_simp
    with_reducible rfl
   rotate_left
   ·simp only [Act.put, z1, z2, z3, i64_w, i32_w]
    rfl
   refine pu 9 (some 16) (v := ?_) (a' := ?_) #[true, true, true, true, true, true, true, true, true, true, true, false, false] rfl rfl HT_ (fun _ _ _ h => h) (by rfl) ?_ ?_ ?_
   rotate_left
   ·intro w'
    go_simp
    with_reducible rfl
   rotate_left
   ·simp only [Act.put, z1, z2, z3, i64_w, i32_w]
    rfl
   exact norm_ (by simp only [putAll, Act.put, List.setIfInBounds_toArray, List.set_cons_zero, List.set_cons_succ]) (hCont (.slice Ao11 t472.length co11, v479, gb482) _ ⟨hHeld, (by (with_reducible repeat (first | apply Kd.R_alloc | apply Kd.R_drewN | apply Kd.R_drew)); exact Kd.R_mono HO474.out (fun _ hk => hk.2)), (by (with_reducible repeat (first | apply Kd.R_alloc | apply Kd.R_drewN | apply Kd.R_drew)); exact Kd.R_mono HO480.out (fun _ hk => hk.2)), (mb BK470), (mb BK471), (mb BK482), GW482.out, GE482.out, NB0_482.out, NB482_0.out, NB470_482.out, NB482_470.out, NB471_482.out, NB482_471.out, (IsS112.mi HI0), (mk HK), (IsS112.ms HB)⟩)
  skip
  refine box_step ?hg (N := 5) ?hd (cs := #[.int .i64 0, .slice none 0 0]) (t := 29) ?hr ?_; (case hd => rfl); (case hg => rfl); (case hr => first | (go_simp; done) | (go_simp; rfl))
  intro gb482 hg w9 hbox hb
  have n0_ := Aside0.mk (IsS112.below (IsS112.mi HI0) hb)
  have n1_ := bb BK470 hb
  have n2_ := bb BK471 hb
  have n3_ := Aside0.mk (KeepBut.trans (mk HK) (KeepBut.of_below hb g none) (.inl rfl))
  have n4_ := Aside0.mk (below_step (IsS112.ms HB) hb)
  have n5_ := Aside0.mk (hbox)
  have n6_ := Aside0.mk ((by rw [hg]; exact (keep_size (w := w) (g := g) (row := none) (mk HK)) : w.heap.size ≤ gb482))
  have n7_ := Aside0.mk ((Nat.le_trans HW0.out (by rw [hg]; exact (keep_size (w := w) (g := g) (row := none) (mk HK)) : w.heap.size ≤ gb482) : w0.heap.size ≤ gb482))
  have n8_ := nl hg BK470
  have n9_ := ng hg BK470
  have n10_ := nl hg BK471
  have n11_ := ng hg BK471
  have n12_ := Aside0.mk ((by rw [hg]; exact Nat.ne_of_lt (IsS112.lt (show IsS112 w0 _ g s0_0 s0_1 s0_2 from IsS112.mi HI0)) : g ≠ gb482))
  have n13_ := Aside0.mk ((by rw [hg]; exact Nat.ne_of_gt (IsS112.lt (show IsS112 w0 _ g s0_0 s0_1 s0_2 from IsS112.mi HI0)) : gb482 ≠ g))
  clear HI0 BK470 BK471 HK HB
  have HI0 := n0_
  have BK470 := n1_
  have BK471 := n2_
  have HK := n3_
  have HB := n4_
  have BK482 := n5_
  have GW482 := n6_
  have GE482 := n7_
  have NB470_482 := n8_
  have NB482_470 := n9_
  have NB471_482 := n10_
  have NB482_471 := n11_
  have NB0_482 := n12_
  have NB482_0 := n13_
  clear n0_ n1_ n2_ n3_ n4_ n5_ n6_ n7_ n8_ n9_ n10_ n11_ n12_ n13_ hb hbox hg
  refine hK.out _ _ ⟨(c2 BK470).1, (c2 BK470).2⟩ (fun hHeld => ?_)
  clear hK K
  refine norm_ (a' := ?_) ?_ ?_
  rotate_left
  ·show Act.put _ (some 5) _ = _
   simp only [Act.put, z1, z2, z3, i64_w, i32_w]
   rfl
  refine one_ (i := 5) (N := some 13) #[true, true, true, true, true, true, false, false, false, false, true, false, false] rfl rfl (one_of HT_.out (by kernel_rfl)) (by decide) (fun K hK => ?_)
  refine gs Try.func119 (by kernel_rfl) rfl #[.pointer (some ⟨g, 0, none⟩), .int .i64 (l1_1.length : Int)] (by rfl) rfl rfl ?_
  with_reducible refine (spec_l7Mult.calls k g s0_0 s0_1 s0_2 (l1_1.length : Int) t472 t475 t476 w0 _ ?side1 ?side2 A3.out).mono ?_
  (case side1 => exact IsS112.mi HI0)
  (case side2 => exact IsS112.ms HB)
  rintro e w10 ⟨v473, rfl, ho0, hi, hb, hk⟩
  refine ⟨_, rfl, ?_⟩
  replace BK470 := Aside0.mk (KeepBut.blk hk (g' := gb470) (o := .cells #[.int .i64 a1_0, .slice A1_1 l1_1.length c1_1] 26 (0, 0)) (mb BK470) NB470_0.out (by simp))
  replace BK471 := Aside0.mk (KeepBut.blk hk (g' := gb471) (o := .cells #[.int .i64 0, .slice none 0 0] 29 (0, 0)) (mb BK471) NB471_0.out (by simp))
  replace BK482 := Aside0.mk (KeepBut.blk hk (g' := gb482) (o := .cells #[.int .i64 0, .slice none 0 0] 29 (0, 0)) (mb BK482) NB482_0.out (by simp))
  have HO474 := Aside0.mk (Kd.R_lower ho0 (keep_size (w := w) (g := g) (row := none) (mk HK)))
  replace HK := Aside0.mk (KeepBut.trans (mk HK) hk (.inl rfl))
  replace HB := Aside0.mk (hb)
  replace HI0 := Aside0.mk (hi)
  (try clear hb)
  (try clear hb2)
  (try clear hk)
  (try clear hi)
  (try clear ho0)
  obtain ⟨Ao11, co11, eo11⟩ := Kd.R_slice HO474.out
  (first | subst eo11 | (injection eo11 with f1_ f2_ f3_; have f4_ := f1_.symm; have f5_ := f3_.symm; clear f1_ f2_ f3_; subst f4_; subst f5_))
  refine hK.out _ _ ⟨(c2 BK470).1, (c2 BK470).2⟩ (fun hHeld => ?_)
  clear hK K
  refine norm_ (a' := ?_) ?_ ?_
  rotate_left
  ·show Act.put _ (some 13) _ = _
   simp only [Act.put, z1, z2, z3, i64_w, i32_w]
   rfl
  refine one_ (i := 6) (N := some 14) #[true, true, true, true, true, true, true, false, false, false, true, false, false] rfl rfl (one_of HT_.out (by kernel_rfl)) (by decide) (fun K hK => ?_)
  refine gs Try.func33 (by kernel_rfl) rfl #[.agg #[.int .i64 a1_0, .slice A1_1 l1_1.length c1_1], .slice Ao11 t472.length co11] (by rfl) rfl rfl ?_
  with_reducible refine (spec_CombineRows.calls k a1_0 _ _ l1_1 _ _ t472 t477 t478 t481 _ ?side1 ?side2 ?side3 ?side4 A4.out).mono ?_
  (case side1 => exact Kd.C_foot_now HR1_1.out (mk HK))
  (case side2 => exact HC1_1.out)
  (case side3 => exact mc ((Kd.R_reads' HO474.out).2.2))
  (case side4 => exact (Kd.R_reads' HO474.out).2.1)
  rintro e w12 ⟨v479, rfl, ho0, hb⟩
  refine ⟨_, rfl, ?_⟩
  have HO480 := Aside0.mk (Kd.R_lower (Kd.R_new' ho0 (Kd.R_lt (mr HO474))) (keep_size (w := w) (g := g) (row := none) (mk HK)))
  replace HO474 := rl HO474 ho0 hb
  replace BK470 := bb BK470 hb
  replace BK471 := bb BK471 hb
  replace BK482 := bb BK482 hb
  replace HK := Aside0.mk (KeepBut.trans (mk HK) (KeepBut.of_below hb g none) (.inl rfl))
  replace HB := Aside0.mk (below_step (IsS112.ms HB) hb)
  replace HI0 := Aside0.mk (IsS112.below (IsS112.mi HI0) hb)
  (try clear hb)
  (try clear hb2)
  (try clear hk)
  (try clear hi)
  (try clear ho0)
  refine hK.out _ _ ⟨(c2 BK470).1, (c2 BK470).2⟩ (fun hHeld => ?_)
  clear hK K
  refine norm_ (a' := ?_) ?_ ?_
  rotate_left
  ·show Act.put _ (some 14) _ = _
   simp only [Act.put, z1, z2, z3, i64_w, i32_w]
   rfl
  refine pu 7 (some 7) (v := ?_) (a' := ?_) #[true, true, true, true, true, true, true, true, false, false, true, false, false] rfl rfl HT_ (fun _ _ _ h => h) (by rfl) ?_ ?_ ?_
  rotate_left
  ·intro w'
   go_simp
   with_reducible rfl
  rotate_left
  ·simp only [Act.put, z1, z2, z3, i64_w, i32_w]
   rfl
  refine pu 8 (some 15) (v := ?_) (a' := ?_) #[true, true, true, true, true, true, true, true, true, false, true, false, false] rfl rfl HT_ (fun _ _ _ h => h) (by rfl) ?_ ?_ ?_
  rotate_left
  ·intro w'
   go_simp
   with_reducible rfl
  rotate_left
  ·simp only [Act.put, z1, z2, z3, i64_w, i32_w]
   rfl
  refine pu 9 (some 16) (v := ?_) (a' := ?_) #[true, true, true, true, true, true, true, true, true, true, true, false, false] rfl rfl HT_ (fun _ _ _ h => h) (by rfl) ?_ ?_ ?_
  rotate_left
  ·intro w'
   go_simp
   with_reducible rfl
  rotate_left
  ·simp only [Act.put, z1, z2, z3, i64_w, i32_w]
   rfl
  exact norm_ (by simp only [putAll, Act.put, List.setIfInBounds_toArray, List.set_cons_zero, List.set_cons_succ]) (hCont (.slice Ao11 t472.length co11, v479, gb482) _ ⟨hHeld, (by (with_reducible repeat (first | apply Kd.R_alloc | apply Kd.R_drewN | apply Kd.R_drew)); exact Kd.R_mono HO474.out (fun _ hk => hk.2)), (by (with_reducible repeat (first | apply Kd.R_alloc | apply Kd.R_drewN | apply Kd.R_drew)); exact Kd.R_mono HO480.out (fun _ hk => hk.2)), (mb BK470), (mb BK471), (mb BK482), GW482.out, GE482.out, NB0_482.out, NB482_0.out, NB470_482.out, NB482_470.out, NB471_482.out, NB482_471.out, (IsS112.mi HI0), (mk HK), (IsS112.ms HB)⟩)
 rintro ⟨v473, v479, gb482⟩ w13 ⟨hS_, h0_, h1_, h2_, h3_, h4_, h5_, h6_, h7_, h8_, h9_, h10_, h11_, h12_, h13_, h14_, h15_⟩
 have n0_ : Aside0 (Kd.R (Kd.int .i64) 3 w13 w.heap.size (fun k_ => some k_ ≠ (v479 : Value).ownBlock) v473 t472) := ⟨h0_⟩
 have n1_ : Aside0 (Kd.R (Kd.int .i64) 3 w13 w.heap.size (fun k_ => some k_ ≠ (v473 : Value).ownBlock) v479 t478) := ⟨h1_⟩
 have n2_ : Aside0 (w13.heap[gb470]? = some (.cells #[.int .i64 a1_0, .slice A1_1 l1_1.length c1_1] 26 (0, 0))) := ⟨h2_⟩
 have n3_ : Aside0 (w13.heap[gb471]? = some (.cells #[.int .i64 0, .slice none 0 0] 29 (0, 0))) := ⟨h3_⟩
 have n4_ : Aside0 (w13.heap[gb482]? = some (.cells #[.int .i64 0, .slice none 0 0] 29 (0, 0))) := ⟨h4_⟩
 have n5_ : Aside0 (w.heap.size ≤ gb482) := ⟨h5_⟩
 have n6_ : Aside0 (w0.heap.size ≤ gb482) := ⟨h6_⟩
 have n7_ : Aside0 (g ≠ gb482) := ⟨h7_⟩
 have n8_ : Aside0 (gb482 ≠ g) := ⟨h8_⟩
 have n9_ : Aside0 (gb470 ≠ gb482) := ⟨h9_⟩
 have n10_ : Aside0 (gb482 ≠ gb470) := ⟨h10_⟩
 have n11_ : Aside0 (gb471 ≠ gb482) := ⟨h11_⟩
 have n12_ : Aside0 (gb482 ≠ gb471) := ⟨h12_⟩
 have n13_ : Aside0 (IsS112 w0 w13 g s0_0 t475 t476) := ⟨h13_⟩
 have n14_ : Aside0 (KeepBut w w13 g none) := ⟨h14_⟩
 have n15_ : Aside0 (Below w0.heap.size w0 w13) := ⟨h15_⟩
 clear BK470 BK471 HI0 HK HB h0_ h1_ h2_ h3_ h4_ h5_ h6_ h7_ h8_ h9_ h10_ h11_ h12_ h13_ h14_ h15_
 have HO474 := n0_
 have HO480 := n1_
 have BK470 := n2_
 have BK471 := n3_
 have BK482 := n4_
 have GW482 := n5_
 have GE482 := n6_
 have NB0_482 := n7_
 have NB482_0 := n8_
 have NB470_482 := n9_
 have NB482_470 := n10_
 have NB471_482 := n11_
 have NB482_471 := n12_
 have HI0 := n13_
 have HK := n14_
 have HB := n15_
 clear n0_ n1_ n2_ n3_ n4_ n5_ n6_ n7_ n8_ n9_ n10_ n11_ n12_ n13_ n14_ n15_
 have hHeld : w13.cell? ⟨gb470, 0, none⟩ = some (.int .i64 a1_0) ∧ w13.cell? ⟨gb470, 1, none⟩ = some (.slice A1_1 l1_1.length c1_1) := hS_
 obtain ⟨Ao15, co15, eo15⟩ := Kd.R_slice HO480.out
 (first | subst eo15 | (injection eo15 with f1_ f2_ f3_; have f4_ := f1_.symm; have f5_ := f3_.symm; clear f1_ f2_ f3_; subst f4_; subst f5_))
 refine norm_ (a' := ?_) ?_ ?_
 rotate_left
 ·simp only [putAll, Act.put, List.setIfInBounds_toArray, List.set_cons_zero, List.set_cons_succ]
  rfl
 refine one_ (i := 11) (N := none) #[true, true, true, true, true, true, true, true, true, true, true, true, false] rfl rfl (one_of HT_.out (by kernel_rfl)) (by decide) (fun K hK => ?_)
 have hs14 : w13.cell? ⟨gb482, 0, none⟩ = some (.int .i64 0) := (blk_cell BK482.out 0).trans rfl
 have hfs14 := blk_frozen BK482.out 0
 have hns14_0 := NB470_482.out
 have hns14_1 := NB471_482.out
 have hms14_0 := NB482_470.out
 have hms14_1 := NB482_471.out
 have hs16 : w13.cell? ⟨gb482, 1, none⟩ = some (.slice none 0 0) := (blk_cell BK482.out 1).trans rfl
 have hfs16 := blk_frozen BK482.out 1
 have hns16_0 := NB470_482.out
 have hns16_1 := NB471_482.out
 have hms16_0 := NB482_470.out
 have hms16_1 := NB482_471.out
 refine skip_ (w1 := ?_) (by rfl) rfl ?_ ?_
 rotate_left
 ·go_simp
  rfl
 refine hK.out _ _ ⟨((cell_far (p := ⟨gb482, _, none⟩) NB470_482.out _).trans (((cell_far (p := ⟨gb482, _, none⟩) NB470_482.out _).trans (hHeld.1)))), ((cell_far (p := ⟨gb482, _, none⟩) NB470_482.out _).trans (((cell_far (p := ⟨gb482, _, none⟩) NB470_482.out _).trans (hHeld.2))))⟩ (fun hHeld => ?_)
 clear hK K
 refine pu 12 (some 6) (v := ?_) (a' := ?_) #[true, true, true, true, true, true, true, true, true, true, true, true, true] rfl rfl HT_ (fun _ _ _ h => h) (by rfl) ?_ ?_ ?_
 rotate_left
 ·intro w'
  go_simp
  with_reducible rfl
 rotate_left
 ·simp only [Act.put, z1, z2, z3, i64_w, i32_w]
  rfl
 refine done_ (done_of HT_.out (by kernel_rfl)) ?_
 go_upto_region 2 with (fail)
 go_cut [22] (fun v22 wc => ∃ (kq : Nat) (x22_4 : Bool) (x1001_4 : Int) (x1002_4 : Int), v22 = .bool x22_4 ∧ Aside0 (spec_l7Target.j0 kq x22_4 s0_0 x1001_4 x1002_4 a1_0 l1_1 t477 t478 = some (r1, r2, r3, r4)) ∧ Aside0 (kq ≤ k) ∧ Aside0 (Kd.R (Kd.int .i64) 3 wc w.heap.size (fun _ => True) (.slice Ao15 t478.length co15) t478) ∧ Aside0 (wc.heap[gb470]? = some (.cells #[.int .i64 a1_0, (.slice A1_1 l1_1.length c1_1)] 26 (0, 0))) ∧ Aside0 (wc.heap[gb471]? = some (.cells #[.int .i64 0, (.slice none 0 0)] 29 (0, 0))) ∧ Aside0 (wc.heap[gb482]? = some (.cells #[.int .i64 t477, (.slice Ao15 t478.length co15)] 29 (0, 0))) ∧ Aside0 (IsS112 w0 wc g s0_0 x1001_4 x1002_4) ∧ Aside0 (KeepBut w wc g none) ∧ Aside0 (Below w0.heap.size w0 wc))
 case first =>
  have H := HC5.out
  clear HC5
  by_cases c17 : t481 = true
  ·subst c17
   rw [if_pos rfl] at H
   obtain ⟨⟨t483, t484, t485⟩, A180, H⟩ := Option.bind_eq_some_iff.mp H
   try dsimp only at H
   have A18 := Aside0.mk A180; clear A180
   have H' := Aside0.mk H
   clear H
   go_wp2_with ((go_at_call 102; (with_reducible refine (spec_l1Once.calls g s0_0 t475 t476 4 t483 t484 t485 w0 _ ?side1 ?side2 A18.out).mono ?_); (case side1 => exact IsS112.mi HI0); (case side2 => exact IsS112.ms HB); rintro e w19 ⟨rfl, hi, hb, hk⟩; have n0_ := Aside0.mk (KeepBut.blk hk (g' := gb470) (o := .cells #[.int .i64 a1_0, .slice A1_1 l1_1.length c1_1] 26 (0, 0)) (mf BK470) NB470_0.out (by simp)); have n1_ := Aside0.mk (KeepBut.blk hk (g' := gb471) (o := .cells #[.int .i64 0, .slice none 0 0] 29 (0, 0)) (mf BK471) NB471_0.out (by simp)); have n2_ := Aside0.mk (Kd.R_mono (Kd.R_keep (IsS112.apart (show IsS112 w0 _ g s0_0 t475 t476 from IsS112.mi HI0) (by (with_reducible repeat (first | apply Kd.R_alloc | apply Kd.R_drewN | apply Kd.R_drew)); exact (rTwo HO474 BK482)) (by decide)) hk (fun _ h => h.2)) (fun _ h => h.1)); have n3_ := Aside0.mk (Kd.R_mono (Kd.R_keep (IsS112.apart (show IsS112 w0 _ g s0_0 t475 t476 from IsS112.mi HI0) (by (with_reducible repeat (first | apply Kd.R_alloc | apply Kd.R_drewN | apply Kd.R_drew)); exact (rTwo HO480 BK482)) (by decide)) hk (fun _ h => h.2)) (fun _ h => h.1)); have n4_ := Aside0.mk (KeepBut.blk hk (g' := gb482) (o := .cells #[.int .i64 t477, .slice Ao15 t478.length co15] 29 (0, 0)) (mq BK482) NB482_0.out (by simp)); have n5_ := Aside0.mk (KeepBut.trans (mk HK) hk (.inl rfl)); have n6_ := Aside0.mk (hb); have n7_ := Aside0.mk (hi); clear BK470 BK471 HO474 HO480 BK482 HK HB HI0; have BK470 := n0_; have BK471 := n1_; have HO474 := n2_; have HO480 := n3_; have BK482 := n4_; have HK := n5_; have HB := n6_; have HI0 := n7_; clear n0_ n1_ n2_ n3_ n4_ n5_ n6_ n7_; (try clear hb)))
   go_meet
   case rel => exact ⟨_, (t483), (t484), (t485), (by first | rfl | (simp; done) | (simp [*]; done)), H', ⟨by first | omega | exact Nat.le_refl _⟩, ⟨by (with_reducible repeat (first | apply Kd.R_alloc | apply Kd.R_drewN | apply Kd.R_drew)); exact Kd.R_mono HO480.out (fun _ hk => trivial)⟩, ⟨mb BK470⟩, ⟨mb BK471⟩, ⟨mb BK482⟩, ⟨IsS112.mi HI0⟩, ⟨mk HK⟩, ⟨IsS112.ms HB⟩⟩
  replace c17 := Bool.eq_false_iff.mpr c17
  subst c17
  rw [if_neg (show ¬ (false = true) by decide)] at H
  have H' := Aside0.mk H
  clear H
  go_wp2
  go_meet
  case rel => exact ⟨_, (true), (t475), (t476), (by first | rfl | (simp; done) | (simp [*]; done)), H', ⟨by first | omega | exact Nat.le_refl _⟩, ⟨by (with_reducible repeat (first | apply Kd.R_alloc | apply Kd.R_drewN | apply Kd.R_drew)); exact Kd.R_mono (Kd.R_far (p := ⟨gb482, 1, none⟩) (Kd.R_far (p := ⟨gb482, 0, none⟩) (Kd.R_types HO480.out BK482.out (by decide)) (fun _ hk => hk.2) (.int .i64 t477)) (fun _ hk => hk.2) (.slice Ao15 t478.length co15)) (fun _ hk => trivial)⟩, ⟨mf BK470⟩, ⟨mf BK471⟩, ⟨mq BK482⟩, ⟨IsS112.mi HI0⟩, ⟨mk HK⟩, ⟨IsS112.ms HB⟩⟩
 case rest =>
  clear HC5
  try clear c1
  try clear p2
  try clear c3
  try clear c11
  try clear c17
  obtain ⟨kq, x22_4, x1001_4, x1002_4, rfl, HA, HJ4, HO_483001, BK470, BK471, BK482, HI0, HK, HB⟩ := hcut
  cases kq with
  | zero => exact absurd HA.out (by simp [spec_l7Target.j0])
  | succ kj4 =>
   have H := HA.out
   clear HA
   simp only [spec_l7Target.j0] at H
   by_cases c20 : x22_4 = true
   ·subst c20
    rw [if_pos rfl] at H
    obtain ⟨t486, A210, H⟩ := Option.bind_eq_some_iff.mp H
    try dsimp only at H
    have A21 := Aside0.mk A210; clear A210
    obtain ⟨t487, A220, H⟩ := Option.bind_eq_some_iff.mp H
    try dsimp only at H
    have A22 := Aside0.mk A220; clear A220
    obtain ⟨⟨t488, t489, t492, t493⟩, A230, H⟩ := Option.bind_eq_some_iff.mp H
    try dsimp only at H
    have A23 := Aside0.mk A230; clear A230
    simp only [Option.some.injEq, Prod.mk.injEq] at H
    obtain ⟨rfl, rfl, rfl, rfl⟩ := H
    have := NB470_471.out
    have := NB471_470.out
    have := NB470_482.out
    have := NB482_470.out
    have := NB470_0.out
    have := NB0_470.out
    obtain ⟨_, _, _, _⟩ := cFour BK470
    go_wp2_with (first | ((with_reducible refine gate_callee (f := 103) rfl ?_); refine gl (some 26) rfl rfl Try.func103 (by kernel_rfl) rfl #[.int .i64 a1_0, .int .i64 0] rfl ?_; (with_reducible refine (spec_l1Max.calls a1_0 0 t486 _ A21.out).mono ?_); rintro e w' ⟨rfl, ⟨nd, rfl⟩⟩; refine ⟨_, rfl, ?_⟩; (try (rw [drewN_self wc]; generalize hq_ : World.drewN wc _ = wc; have n0_ : Aside0 (Kd.R (Kd.int .i64) 3 wc w.heap.size (fun _ => True) (.slice Ao15 t478.length co15) t478) := ⟨by rw [← hq_]; exact (mr HO_483001)⟩; have n1_ : Aside0 (wc.heap[gb470]? = some (.cells #[.int .i64 a1_0, .slice A1_1 l1_1.length c1_1] 26 (0, 0))) := ⟨by rw [← hq_]; exact (mb BK470)⟩; have n2_ : Aside0 (wc.heap[gb471]? = some (.cells #[.int .i64 0, .slice none 0 0] 29 (0, 0))) := ⟨by rw [← hq_]; exact (mb BK471)⟩; have n3_ : Aside0 (wc.heap[gb482]? = some (.cells #[.int .i64 t477, .slice Ao15 t478.length co15] 29 (0, 0))) := ⟨by rw [← hq_]; exact (mb BK482)⟩; have n4_ : Aside0 (IsS112 w0 wc g s0_0 x1001_4 x1002_4) := ⟨by rw [← hq_]; exact (IsS112.mi HI0)⟩; have n5_ : Aside0 (KeepBut w wc g none) := ⟨by rw [← hq_]; exact (mk HK)⟩; have n6_ : Aside0 (Below w0.heap.size w0 wc) := ⟨by rw [← hq_]; exact (IsS112.ms HB)⟩; clear HO_483001 BK470 BK471 BK482 HI0 HK HB hq_; have HO_483001 := n0_; have BK470 := n1_; have BK471 := n2_; have BK482 := n3_; have HI0 := n4_; have HK := n5_; have HB := n6_; clear n0_ n1_ n2_ n3_ n4_ n5_ n6_)); (try have hcy28_0 : wc.cell? ⟨gb470, 0, none⟩ = some (.int .i64 a1_0) := (blk_cell BK470.out 0).trans rfl); (try have hcy28_1 : wc.cell? ⟨gb470, 1, none⟩ = some (.slice A1_1 l1_1.length c1_1) := (blk_cell BK470.out 1).trans rfl); (try have hfy28_0 := blk_frozen BK470.out 0); (try have hfy28_1 := blk_frozen BK470.out 1)) | ((with_reducible refine gate_callee (f := 121) rfl ?_); refine gl (some 27) rfl rfl Try.func121 (by kernel_rfl) rfl #[.int .i64 t486, .int .i64 9] rfl ?_; (with_reducible refine (spec_l1Min.calls t486 9 t487 _ A22.out).mono ?_); rintro e w' ⟨rfl, ⟨nd, rfl⟩⟩; refine ⟨_, rfl, ?_⟩; (try (rw [drewN_self wc]; generalize hq_ : World.drewN wc _ = wc; have n0_ : Aside0 (Kd.R (Kd.int .i64) 3 wc w.heap.size (fun _ => True) (.slice Ao15 t478.length co15) t478) := ⟨by rw [← hq_]; exact (mr HO_483001)⟩; have n1_ : Aside0 (wc.heap[gb470]? = some (.cells #[.int .i64 a1_0, .slice A1_1 l1_1.length c1_1] 26 (0, 0))) := ⟨by rw [← hq_]; exact (mb BK470)⟩; have n2_ : Aside0 (wc.heap[gb471]? = some (.cells #[.int .i64 0, .slice none 0 0] 29 (0, 0))) := ⟨by rw [← hq_]; exact (mb BK471)⟩; have n3_ : Aside0 (wc.heap[gb482]? = some (.cells #[.int .i64 t477, .slice Ao15 t478.length co15] 29 (0, 0))) := ⟨by rw [← hq_]; exact (mb BK482)⟩; have n4_ : Aside0 (IsS112 w0 wc g s0_0 x1001_4 x1002_4) := ⟨by rw [← hq_]; exact (IsS112.mi HI0)⟩; have n5_ : Aside0 (KeepBut w wc g none) := ⟨by rw [← hq_]; exact (mk HK)⟩; have n6_ : Aside0 (Below w0.heap.size w0 wc) := ⟨by rw [← hq_]; exact (IsS112.ms HB)⟩; clear HO_483001 BK470 BK471 BK482 HI0 HK HB hq_; have HO_483001 := n0_; have BK470 := n1_; have BK471 := n2_; have BK482 := n3_; have HI0 := n4_; have HK := n5_; have HB := n6_; clear n0_ n1_ n2_ n3_ n4_ n5_ n6_)); (try have hcy29_0 : wc.cell? ⟨gb470, 0, none⟩ = some (.int .i64 a1_0) := (blk_cell BK470.out 0).trans rfl); (try have hcy29_1 : wc.cell? ⟨gb470, 1, none⟩ = some (.slice A1_1 l1_1.length c1_1) := (blk_cell BK470.out 1).trans rfl); (try have hfy29_0 := blk_frozen BK470.out 0); (try have hfy29_1 := blk_frozen BK470.out 1)) | ((with_reducible refine gate_callee (f := 120) rfl ?_); refine gl (some 28) rfl rfl Try.func120 (by kernel_rfl) rfl #[.pointer (some ⟨g, 0, none⟩), .int .i64 t487] rfl ?_; (with_reducible refine (spec_l4Draw.calls kj4 g s0_0 x1001_4 x1002_4 t487 t488 t489 t492 t493 w0 _ ?side1 ?side2 A23.out).mono ?_); (case side1 => exact IsS112.mi HI0); (case side2 => exact IsS112.ms HB); rintro e w30 ⟨v490, rfl, ho0, hi, hb, hk⟩; refine ⟨_, rfl, ?_⟩; replace BK470 := Aside0.mk (KeepBut.blk hk (g' := gb470) (o := .cells #[.int .i64 a1_0, .slice A1_1 l1_1.length c1_1] 26 (0, 0)) (mb BK470) NB470_0.out (by simp)); replace BK471 := Aside0.mk (KeepBut.blk hk (g' := gb471) (o := .cells #[.int .i64 0, .slice none 0 0] 29 (0, 0)) (mb BK471) NB471_0.out (by simp)); replace BK482 := Aside0.mk (KeepBut.blk hk (g' := gb482) (o := .cells #[.int .i64 t477, .slice Ao15 t478.length co15] 29 (0, 0)) (mb BK482) NB482_0.out (by simp)); have HO491 := Aside0.mk (Kd.R_lower (Kd.R_new' ho0 (Kd.R_lt (mr HO_483001))) (keep_size (w := w) (g := g) (row := none) (mk HK))); replace HO_483001 := Aside0.mk (Kd.R_mono (Kd.R_told (Kd.R_oldK (IsS112.apart (show IsS112 w0 _ g s0_0 x1001_4 x1002_4 from IsS112.mi HI0) (mr HO_483001) (by decide)) hk) (Kd.R_base ho0)) (fun _ h_ => h_.1)); replace HK := Aside0.mk (KeepBut.trans (mk HK) hk (.inl rfl)); replace HB := Aside0.mk (hb); replace HI0 := Aside0.mk (hi); (try clear hb); (try clear ho0); have := NB471_482.out; have := NB482_471.out; have := NB471_0.out; have := NB0_471.out; obtain ⟨_, _, _, _⟩ := cFour BK471; obtain ⟨Ao34, co34, eo34⟩ := Kd.R_slice HO491.out; subst eo34))
    refine bodyPost_ret (results_cell_row rfl _ _ gb471 29 #[.int .i64 t488, .slice Ao34 t489.length co34] (0, 0) _ rfl (mq BK471) Try.underlying29 rfl (by kernel_rfl)) rfl ?_
    exact ⟨_, by first | rfl | (simp [errW_none, errW_some] <;> rfl) | (simp [*, errW_none, errW_some] <;> rfl), by (with_reducible repeat (first | apply Kd.R_alloc | apply Kd.R_drewN | apply Kd.R_drew)); exact Kd.R_mono (Kd.R_far (p := ⟨gb471, 1, none⟩) (Kd.R_far (p := ⟨gb471, 0, none⟩) (Kd.R_types HO491.out BK471.out (by decide)) (fun _ hk => hk.2) (.int .i64 t488)) (fun _ hk => hk.2) (.slice Ao34 t489.length co34)) (fun _ hk => trivial), IsS112.mi HI0, IsS112.ms HB, mk HK⟩
   replace c20 := Bool.eq_false_iff.mpr c20
   subst c20
   rw [if_neg (show ¬ (false = true) by decide)] at H
   obtain ⟨⟨t494, t495, t496⟩, A350, H⟩ := Option.bind_eq_some_iff.mp H
   try dsimp only at H
   have A35 := Aside0.mk A350; clear A350
   simp only [Option.some.injEq, Prod.mk.injEq] at H
   obtain ⟨rfl, rfl, rfl, rfl⟩ := H
   try go_wp2
   replace HO_483001 := Aside0.mk (Kd.R_drew HO_483001.out)
   replace BK470 := Aside0.mk (blk_drew BK470.out)
   replace BK471 := Aside0.mk (blk_drew BK471.out)
   replace BK482 := Aside0.mk (blk_drew BK482.out)
   replace HI0 := Aside0.mk (IsS112.drew HI0.out)
   replace HK := Aside0.mk (keep_drew HK.out)
   replace HB := Aside0.mk (below_drew1 HB.out)
   refine start_ (n := 8) (S := fun w' => w'.cell? ⟨gb482, 0, none⟩ = some (.int .i64 t477) ∧ w'.cell? ⟨gb482, 1, none⟩ = some (.slice Ao15 t478.length co15)) (ds := [7]) #[false, false, false, false, false, false, false, false] (by kernel_rfl) rfl rfl ⟨(c2 BK482).1, (c2 BK482).2⟩ (fun hHeld => ?_); refine with_tabW spec_l7Target.tab4 spec_l7Target.bits4 (fun HT_ HW_ => ?_)
   generalize wc.drew = w36 at HO_483001 BK470 BK471 BK482 HI0 HK HB hHeld ⊢
   refine pu 0 (some 29) (v := ?_) (a' := ?_) #[true, false, false, false, false, false, false, false] rfl rfl HT_ (fun _ _ _ h => h) (by rfl) ?_ ?_ ?_
   rotate_left
   ·intro w'
    go_simp
    with_reducible rfl
   rotate_left
   ·simp only [Act.put, z1, z2, z3, i64_w, i32_w]
    rfl
   refine pu 2 (some 31) (v := ?_) (a' := ?_) #[true, false, true, false, false, false, false, false] rfl rfl HT_ (fun _ _ _ h => h) (by rfl) ?_ ?_ ?_
   rotate_left
   ·intro w'
    go_simp
    with_reducible rfl
   rotate_left
   ·simp only [Act.put, z1, z2, z3, i64_w, i32_w]
    rfl
   refine tk 1 (some 30) (v := ?_) (a' := ?_) #[true, true, true, false, false, false, false, false] rfl rfl HT_ HW_ (fun _ _ _ h => h) (by rfl) ?_ hHeld ?_ ?_
   rotate_left
   ·rintro w' ⟨s0, s1⟩
    go_simp
    with_reducible rfl
   rotate_left
   ·simp only [Act.put, z1, z2, z3, i64_w, i32_w]
    rfl
   refine one_ (i := 3) (N := some 32) #[true, true, true, true, false, false, false, false] rfl rfl (one_of HT_.out (by kernel_rfl)) (by decide) (fun K hK => ?_)
   refine gs Try.func116 (by kernel_rfl) rfl #[.pointer (some ⟨g, 0, none⟩), .int .i64 4] (by rfl) rfl rfl ?_
   with_reducible refine (spec_l1Below.calls g s0_0 x1001_4 x1002_4 4 t494 t495 t496 w0 _ ?side1 ?side2 A35.out).mono ?_
   (case side1 => exact IsS112.mi HI0)
   (case side2 => exact IsS112.ms HB)
   rintro e w37 ⟨rfl, hi, hb, hk⟩
   refine ⟨_, rfl, ?_⟩
   replace HO_483001 := Aside0.mk (Kd.R_mono (Kd.R_keep (IsS112.apart (show IsS112 w0 _ g s0_0 x1001_4 x1002_4 from IsS112.mi HI0) (mr HO_483001) (by decide)) hk (fun _ h => h.2)) (fun _ h => h.1))
   replace BK470 := Aside0.mk (KeepBut.blk hk (g' := gb470) (o := .cells #[.int .i64 a1_0, .slice A1_1 l1_1.length c1_1] 26 (0, 0)) (mb BK470) NB470_0.out (by simp))
   replace BK471 := Aside0.mk (KeepBut.blk hk (g' := gb471) (o := .cells #[.int .i64 0, .slice none 0 0] 29 (0, 0)) (mb BK471) NB471_0.out (by simp))
   replace BK482 := Aside0.mk (KeepBut.blk hk (g' := gb482) (o := .cells #[.int .i64 t477, .slice Ao15 t478.length co15] 29 (0, 0)) (mb BK482) NB482_0.out (by simp))
   replace HK := Aside0.mk (KeepBut.trans (mk HK) hk (.inl rfl))
   replace HB := Aside0.mk (hb)
   replace HI0 := Aside0.mk (hi)
   (try clear hb)
   (try clear hb2)
   (try clear hk)
   (try clear hi)
   refine hK.out _ _ ⟨(c2 BK482).1, (c2 BK482).2⟩ (fun hHeld => ?_)
   clear hK K
   refine norm_ (a' := ?_) ?_ ?_
   rotate_left
   ·show Act.put _ (some 32) _ = _
    simp only [Act.put, z1, z2, z3, i64_w, i32_w]
    rfl
   refine pu 4 (some 33) (v := ?_) (a' := ?_) #[true, true, true, true, true, false, false, false] rfl rfl HT_ (fun _ _ _ h => h) (by rfl) ?_ ?_ ?_
   rotate_left
   ·intro w'
    go_simp
    with_reducible rfl
   rotate_left
   ·simp only [Act.put, z1, z2, z3, i64_w, i32_w]
    rfl
   refine pu 5 (some 34) (v := ?_) (a' := ?_) #[true, true, true, true, true, true, false, false] rfl rfl HT_ (fun _ _ _ h => h) (by rfl) ?_ ?_ ?_
   rotate_left
   ·intro w'
    go_simp
    with_reducible rfl
   rotate_left
   ·simp only [Act.put, z1, z2, z3, i64_w, i32_w]
    rfl
   refine pu 6 (some 35) (v := ?_) (a' := ?_) #[true, true, true, true, true, true, true, false] rfl rfl HT_ (fun _ _ _ h => h) (by rfl) ?_ ?_ ?_
   rotate_left
   ·intro w'
    go_simp
    with_reducible rfl
   rotate_left
   ·simp only [Act.put, z1, z2, z3, i64_w, i32_w]
    rfl
   refine last_ (i := 7) (N := none) #[true, true, true, true, true, true, true, true] rfl rfl (one_of HT_.out (by kernel_rfl)) (by decide) (fun K hK => ?_)
   have hs38 : w37.cell? ⟨gb482, 0, none⟩ = some (.int .i64 t477) := (blk_cell BK482.out 0).trans rfl
   have hfs38 := blk_frozen BK482.out 0
   have hns38_0 := NB470_482.out
   have hns38_1 := NB471_482.out
   have hms38_0 := NB482_470.out
   have hms38_1 := NB482_471.out
   refine skip_ (w1 := ?_) (by rfl) rfl ?_ ?_
   rotate_left
   ·go_simp
    rfl
   refine hK.out _ _ ?_
   clear hK K
   refine done_ (done_of HT_.out (by kernel_rfl)) ?_
   have := NB482_470.out
   have := NB470_482.out
   have := NB482_471.out
   have := NB471_482.out
   have := NB482_0.out
   have := NB0_482.out
   obtain ⟨_, _, _, _⟩ := cFour BK482
   have := NB471_470.out
   have := NB470_471.out
   have := NB471_0.out
   have := NB0_471.out
   obtain ⟨_, _, _, _⟩ := cFour BK471
   try go_wp2
   refine bodyPost_ret (results_cell_row rfl _ _ gb471 29 #[.int .i64 (wrap64 ((wrap64 (t477 + t494)) - 1)), .slice Ao15 t478.length co15] (0, 0) _ rfl (by (with_reducible repeat (first | refine blk_drewN ?_ _ | refine blk_drew ?_ | refine blk_alloc ?_ _)); refine blk_put (cs := #[.int .i64 (wrap64 ((wrap64 (t477 + t494)) - 1)), .slice none 0 0]) ?_ 1 _ rfl; (with_reducible repeat (first | refine blk_drewN ?_ _ | refine blk_drew ?_ | refine blk_alloc ?_ _)); refine blk_put (cs := #[.int .i64 0, .slice none 0 0]) ?_ 0 _ rfl; (with_reducible repeat (first | refine blk_drewN ?_ _ | refine blk_drew ?_ | refine blk_alloc ?_ _)); refine blk_far ?_ NB471_482.out _; (with_reducible repeat (first | refine blk_drewN ?_ _ | refine blk_drew ?_ | refine blk_alloc ?_ _)); exact BK471.out) Try.underlying29 rfl (by kernel_rfl)) rfl ?_
   exact ⟨_, by first | rfl | (simp [errW_none, errW_some] <;> rfl) | (simp [*, errW_none, errW_some] <;> rfl), by (with_reducible repeat (first | apply Kd.R_alloc | apply Kd.R_drewN | apply Kd.R_drew)); exact Kd.R_mono (Kd.R_far (p := ⟨gb471, 1, none⟩) (Kd.R_far (p := ⟨gb471, 0, none⟩) (Kd.R_far (p := ⟨gb482, 0, none⟩) (Kd.R_types (Kd.R_types HO_483001.out BK482.out (by decide)) BK471.out (by decide)) (fun _ hk => hk.1.2) (.int .i64 (wrap64 ((wrap64 (t477 + t494)) - 1)))) (fun _ hk => hk.2) (.int .i64 (wrap64 ((wrap64 (t477 + t494)) - 1)))) (fun _ hk => hk.2) (.slice Ao15 t478.length co15)) (fun _ hk => trivial), IsS112.mi HI0, IsS112.ms HB, mk HK⟩

end Go.Proofs.Ytlencemmlgkflaa.QFnEntailed
