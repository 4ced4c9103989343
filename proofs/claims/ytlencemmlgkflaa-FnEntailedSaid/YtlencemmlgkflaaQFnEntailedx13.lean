-- Made by a program of this claim's own (wip/print): not the kit's print as it stands.
import Derived.Test.YtlencemmlgkflaaUFnEntailedTri
import Derived.Test.YtlencemmlgkflaaQFnEntailedx0
import Derived.Test.YtlencemmlgkflaaQFnEntailedx12
namespace Go.Proofs.Ytlencemmlgkflaa.QFnEntailed
open Go.RowKit Go.Proofs.YtlencemmlgkflaaV.PrintWords Go.Proofs.YtlencemmlgkflaaV.PrintLast Go.Proofs.YtlencemmlgkflaaV.PrintMore
attribute [local go_sem] max2_int min2_int max_two min_two max_three min_three max_four min_four   -- for this text's walks alone
set_option linter.unusedVariables false
set_option linter.unusedSimpArgs false

/-! ### spec_l4Draw: function 120 -/
def spec_l4Draw.l0 : Nat → Int → Int → List Int → Int → Int → Int → List Int → Option (Int × List Int × Int × Int)
 | 0, _, _, _, _, _, _, _ => none
 | k + 1, x1, x6, x1000, x1001, x1002, x359000, x359001 => if x6 < x1 then ((spec_l4Small.f x1000 x1001 x1002).bind fun bt359 => (if 0 ≤ x6 then (if x6 < (x359001.length : Int) then (spec_l4Draw.l0 k x1 (wrap64 (x6 + 1)) x1000 bt359.2.1 bt359.2.2 x359000 (x359001.set (x6 : Int).toNat bt359.1)) else (none)) else (none))) else (some (x359000, x359001, x1001, x1002))
def spec_l4Draw.f (k : Nat) (s0_0 : List Int) (s0_1 : Int) (s0_2 : Int) (a1 : Int) : Option (Int × List Int × Int × Int) := (spec_l1Below.f s0_0 s0_1 s0_2 9).bind fun bt352 => (if 0 ≤ a1 then (if (a1 : Int).toNat ≤ 35184372088832 then (spec_l4Draw.l0 k a1 0 s0_0 bt352.2.1 bt352.2.2 (wrap64 (bt352.1 - 4)) (List.replicate (a1 : Int).toNat 0)) else (none)) else (none))
theorem spec_l4Draw.mono_l : ∀ k, (∀ y0 y1 y2 y3 y4 y5 y6, LeO (spec_l4Draw.l0 k y0 y1 y2 y3 y4 y5 y6) (spec_l4Draw.l0 (k + 1) y0 y1 y2 y3 y4 y5 y6))
 | 0 => fun _ _ _ _ _ _ _ r h => by simp [spec_l4Draw.l0] at h
 | k + 1 => by
  have ih0 := spec_l4Draw.mono_l k
  ·intro y0 y1 y2 y3 y4 y5 y6
   unfold spec_l4Draw.l0
   repeat' with_reducible first
   | exact ih0 _ _ _ _ _ _ _
   | exact LeO.refl _
   | exact LeO.none _
   | refine LeO.ite ?_ ?_
   | refine LeO.bind ?_ (fun _ => ?_)
theorem spec_l4Draw.mono : ∀ a0 a1 a2 a3 k, LeO (spec_l4Draw.f k a0 a1 a2 a3) (spec_l4Draw.f (k + 1) a0 a1 a2 a3) := by
 intro a0 a1 a2 a3 k
 have ih0 := spec_l4Draw.mono_l k
 unfold spec_l4Draw.f
 repeat' with_reducible first
 | exact ih0 _ _ _ _ _ _ _
 | exact LeO.refl _
 | exact LeO.none _
 | refine LeO.ite ?_ ?_
 | refine LeO.bind ?_ (fun _ => ?_)
def spec_l4Draw.T1 : Bool × List (List Nat × List Nat) := (true, [([], []), ([0], [0]), ([1], [1]), ([], []), ([3, 3], [3]), ([2, 4], [2, 4]), ([], []), ([6, 5, 1, 0, 1, 2, 3, 4, 5, 6], [5, 6])])
def spec_l4Draw.B1 : List Nat := [0, 1, 3, 0, 8, 31, 0, 127]
theorem spec_l4Draw.tab1 : rtab .any (opsOf Try.f120 1) = spec_l4Draw.T1 := by kernel_rfl
theorem spec_l4Draw.bits1 : waitsOk spec_l4Draw.T1.2 spec_l4Draw.B1 = true := by kernel_rfl
set_option maxHeartbeats 8000000 in
set_option maxRecDepth 100000 in
theorem spec_l4Draw.calls (k : Nat) (g : Nat) (s0_0 : List Int) (s0_1 : Int) (s0_2 : Int) (a1 : Int) (r1 : Int) (r2 : List Int) (r3 : Int) (r4 : Int) (w0 w : World) (hI : IsS112 w0 w g s0_0 s0_1 s0_2) (hB : Below w0.heap.size w0 w) (h : spec_l4Draw.f k s0_0 s0_1 s0_2 a1 = some (r1, r2, r3, r4)) :
  Calls Try.prog 120 #[.pointer (some ⟨g, 0, none⟩), .int .i64 a1] w fun e w' => ∃ v1_ : Value, e = .returned (.agg #[.int .i64 r1, v1_]) ∧ Kd.R (Kd.int .i64) 3 w' w.heap.size (fun _ => True) v1_ r2 ∧ IsS112 w0 w' g s0_0 r3 r4 ∧ Below w0.heap.size w0 w' ∧ KeepBut w w' g none := by
 have hu29 := Try.underlying29
 have HI0 := Aside0.mk hI
 have HK := Aside0.mk (KeepBut.refl w g none)
 have HL := Aside0.mk hB.size
 clear hI
 have HW0 := Aside0.mk hB.size
 have HB := Aside0.mk hB; clear hB
 have H : ((spec_l1Below.f s0_0 s0_1 s0_2 9).bind fun bt352 => (if 0 ≤ a1 then (if (a1 : Int).toNat ≤ 35184372088832 then (spec_l4Draw.l0 k a1 0 s0_0 bt352.2.1 bt352.2.2 (wrap64 (bt352.1 - 4)) (List.replicate (a1 : Int).toNat 0)) else (none)) else (none))) = some (r1, r2, r3, r4) := h
 clear h
 obtain ⟨⟨t352, t353, t354⟩, A30, H⟩ := Option.bind_eq_some_iff.mp H
 try dsimp only at H
 have A3 := Aside0.mk A30; clear A30
 by_cases c4 : 0 ≤ a1
 ·rw [if_pos c4] at H
  have c4b0 := eq_true c4
  have c4b1 : decide (0 ≤ a1) = true := decide_eq_true c4
  clear c4
  by_cases c5 : (a1 : Int).toNat ≤ 35184372088832
  ·rw [if_pos c5] at H
   have c5b0 := eq_true c5
   have c5b1 : decide ((a1 : Int).toNat ≤ 35184372088832) = true := decide_eq_true c5
   clear c5
   obtain ⟨y355, hy355⟩ : ∃ y_ : List Int, y_ = (List.replicate (a1 : Int).toNat 0) := ⟨_, rfl⟩
   replace H : (spec_l4Draw.l0 k a1 0 s0_0 t353 t354 (wrap64 (t352 - 4)) y355) = some (r1, r2, r3, r4) := by first | (rw [hy355]; with_reducible exact H) | (have H2_ := (Option.bind_some _ _).symm.trans H; rw [hy355]; with_reducible exact H2_) | (have H2_ := (Option.bind_some _ _).symm.trans H; with_reducible exact H2_) | with_reducible exact H | (rw [hy355]; exact H) | exact H
   have Ny355 := Aside0.mk hy355; clear hy355
   have H' := Aside0.mk H
   clear H
   go_enter Try.func120, Try.ntmps120
   try go_wp2_with (((with_reducible refine gate_dst (N := 4) rfl ?_); refine box_event ?hg (N := 4) ?hd (cs := #[.int .i64 0, .slice none 0 0]) (t := 29) ?hr ?_; (case hd => rfl); (case hg => rfl); (case hr => first | (go_simp; done) | (go_simp; rfl)); intro gb351 hg w6 hbox hb; have n0_ := Aside0.mk (IsS112.below (IsS112.mi HI0) hb); have n1_ := Aside0.mk (KeepBut.trans (mk HK) (KeepBut.of_below hb g none) (.inl rfl)); have n2_ := Aside0.mk (below_step (IsS112.ms HB) hb); have n3_ := Aside0.mk (hbox); have n4_ := Aside0.mk ((by rw [hg]; exact (keep_size (w := w) (g := g) (row := none) (mk HK)) : w.heap.size ≤ gb351)); have n5_ := Aside0.mk ((Nat.le_trans HW0.out (by rw [hg]; exact (keep_size (w := w) (g := g) (row := none) (mk HK)) : w.heap.size ≤ gb351) : w0.heap.size ≤ gb351)); have n6_ := Aside0.mk ((by rw [hg]; exact Nat.ne_of_lt (IsS112.lt (show IsS112 w0 _ g s0_0 s0_1 s0_2 from IsS112.mi HI0)) : g ≠ gb351)); have n7_ := Aside0.mk ((by rw [hg]; exact Nat.ne_of_gt (IsS112.lt (show IsS112 w0 _ g s0_0 s0_1 s0_2 from IsS112.mi HI0)) : gb351 ≠ g)); clear HI0 HK HB; have HI0 := n0_; have HK := n1_; have HB := n2_; have BK351 := n3_; have GW351 := n4_; have GE351 := n5_; have NB0_351 := n6_; have NB351_0 := n7_; clear n0_ n1_ n2_ n3_ n4_ n5_ n6_ n7_; clear hb hbox hg))
   replace BK351 := Aside0.mk (blk_drew BK351.out)
   replace HI0 := Aside0.mk (IsS112.drew HI0.out)
   replace HK := Aside0.mk (keep_drew HK.out)
   replace HB := Aside0.mk (below_drew1 HB.out)
   refine start_ (n := 8) (S := fun w' => True) (ds := []) #[false, false, false, false, false, false, false, false] (by kernel_rfl) rfl rfl trivial (fun hHeld => ?_); refine with_tabW spec_l4Draw.tab1 spec_l4Draw.bits1 (fun HT_ HW_ => ?_)
   generalize w6.drew = w7 at BK351 HI0 HK HB hHeld ⊢
   refine pu 0 (some 7) (v := ?_) (a' := ?_) #[true, false, false, false, false, false, false, false] rfl rfl HT_ (fun _ _ _ h => h) (by rfl) ?_ ?_ ?_
   rotate_left
   ·intro w'
    go_simp
    with_reducible rfl
   rotate_left
   ·simp only [Act.put, z1, z2, z3, i64_w, i32_w]
    rfl
   refine pu 3 (some 10) (v := ?_) (a' := ?_) #[true, false, false, true, false, false, false, false] rfl rfl HT_ (fun _ _ _ h => h) (by rfl) ?_ ?_ ?_
   rotate_left
   ·intro w'
    go_simp
    with_reducible rfl
   rotate_left
   ·simp only [Act.put, z1, z2, z3, i64_w, i32_w]
    rfl
   refine join_ (σ := Value × Nat) 1 #[true, true, true, true, true, true, true, false] (fun s_ => [(8, .int .i64 t352), (11, s_.1), (5, .pointer (some ⟨s_.2, 0, none⟩)), (9, .int .i64 (wrap64 (t352 - 4))), (12, .agg #[.int .i64 (wrap64 (t352 - 4)), s_.1])]) (fun s_ w' => (Kd.R (Kd.int .i64) 3 w' w.heap.size (fun _ => True) s_.1 y355) ∧ (w'.heap[gb351]? = some (.cells #[.int .i64 0, .slice none 0 0] 29 (0, 0))) ∧ (w'.heap[s_.2]? = some (.cells #[.int .i64 0, .slice none 0 0] 29 (0, 0))) ∧ (w.heap.size ≤ s_.2) ∧ (w0.heap.size ≤ s_.2) ∧ (g ≠ s_.2) ∧ (s_.2 ≠ g) ∧ (gb351 ≠ s_.2) ∧ (s_.2 ≠ gb351) ∧ (IsS112 w0 w' g s0_0 t353 t354) ∧ (KeepBut w w' g none) ∧ (Below w0.heap.size w0 w')) ?_ ?_
   rotate_left
   ·intro hJ1_4_6
    refine join_ (σ := Value) 2 #[true, true, true, true, true, true, false, false] (fun s_ => [(8, .int .i64 t352), (11, s_), (9, .int .i64 (wrap64 (t352 - 4))), (12, .agg #[.int .i64 (wrap64 (t352 - 4)), s_])]) (fun s_ w' => (Kd.R (Kd.int .i64) 3 w' w.heap.size (fun _ => True) s_ y355) ∧ (w'.heap[gb351]? = some (.cells #[.int .i64 0, .slice none 0 0] 29 (0, 0))) ∧ (IsS112 w0 w' g s0_0 t353 t354) ∧ (KeepBut w w' g none) ∧ (Below w0.heap.size w0 w')) ?_ ?_
    rotate_left
    ·intro hJ1_4
     refine join_ (σ := Nat) 3 #[true, true, true, true, false, false, true, false] (fun s_ => [(8, .int .i64 t352), (5, .pointer (some ⟨s_, 0, none⟩)), (9, .int .i64 (wrap64 (t352 - 4)))]) (fun s_ w' => (w'.heap[gb351]? = some (.cells #[.int .i64 0, .slice none 0 0] 29 (0, 0))) ∧ (w'.heap[s_]? = some (.cells #[.int .i64 0, .slice none 0 0] 29 (0, 0))) ∧ (w.heap.size ≤ s_) ∧ (w0.heap.size ≤ s_) ∧ (g ≠ s_) ∧ (s_ ≠ g) ∧ (gb351 ≠ s_) ∧ (s_ ≠ gb351) ∧ (IsS112 w0 w' g s0_0 t353 t354) ∧ (KeepBut w w' g none) ∧ (Below w0.heap.size w0 w')) ?_ ?_
     rotate_left
     ·intro hJ1_6
      refine join_ (σ := Value × Nat) 4 #[true, false, false, true, true, false, true, false] (fun s_ => [(11, s_.1), (5, .pointer (some ⟨s_.2, 0, none⟩))]) (fun s_ w' => (Kd.R (Kd.int .i64) 3 w' w.heap.size (fun _ => True) s_.1 y355) ∧ (w'.heap[gb351]? = some (.cells #[.int .i64 0, .slice none 0 0] 29 (0, 0))) ∧ (w'.heap[s_.2]? = some (.cells #[.int .i64 0, .slice none 0 0] 29 (0, 0))) ∧ (w.heap.size ≤ s_.2) ∧ (w0.heap.size ≤ s_.2) ∧ (g ≠ s_.2) ∧ (s_.2 ≠ g) ∧ (gb351 ≠ s_.2) ∧ (s_.2 ≠ gb351) ∧ (IsS112 w0 w' g s0_0 s0_1 s0_2) ∧ (KeepBut w w' g none) ∧ (Below w0.heap.size w0 w')) ?_ ?_
      rotate_left
      ·intro hJ4_6
       refine join_ (σ := Unit) 4 #[true, true, true, true, false, false, false, false] (fun s_ => [(8, .int .i64 t352), (9, .int .i64 (wrap64 (t352 - 4)))]) (fun s_ w' => (w'.heap[gb351]? = some (.cells #[.int .i64 0, .slice none 0 0] 29 (0, 0))) ∧ (IsS112 w0 w' g s0_0 t353 t354) ∧ (KeepBut w w' g none) ∧ (Below w0.heap.size w0 w')) ?_ ?_
       rotate_left
       ·intro hJ1
        refine join_ (σ := Value) 5 #[true, false, false, true, true, false, false, false] (fun s_ => [(11, s_)]) (fun s_ w' => (Kd.R (Kd.int .i64) 3 w' w.heap.size (fun _ => True) s_ y355) ∧ (w'.heap[gb351]? = some (.cells #[.int .i64 0, .slice none 0 0] 29 (0, 0))) ∧ (IsS112 w0 w' g s0_0 s0_1 s0_2) ∧ (KeepBut w w' g none) ∧ (Below w0.heap.size w0 w')) ?_ ?_
        rotate_left
        ·intro hJ4
         refine join_ (σ := Nat) 5 #[true, false, false, true, false, false, true, false] (fun s_ => [(5, .pointer (some ⟨s_, 0, none⟩))]) (fun s_ w' => (w'.heap[gb351]? = some (.cells #[.int .i64 0, .slice none 0 0] 29 (0, 0))) ∧ (w'.heap[s_]? = some (.cells #[.int .i64 0, .slice none 0 0] 29 (0, 0))) ∧ (w.heap.size ≤ s_) ∧ (w0.heap.size ≤ s_) ∧ (g ≠ s_) ∧ (s_ ≠ g) ∧ (gb351 ≠ s_) ∧ (s_ ≠ gb351) ∧ (IsS112 w0 w' g s0_0 s0_1 s0_2) ∧ (KeepBut w w' g none) ∧ (Below w0.heap.size w0 w')) ?_ ?_
         rotate_left
         ·intro hJ6
          refine three_ (i := 1) (j := 4) (k := 6) (Ni := some 8) (Nj := some 11) (Nk := some 5) #[true, true, false, true, false, false, false, false] #[true, false, false, true, true, false, false, false] #[true, false, false, true, false, false, true, false] rfl rfl rfl rfl rfl rfl (three_of HT_.out (by kernel_rfl)) (by decide) (by decide) (by decide) (fun K hK => ?_) (fun K hK => ?_) (fun K hK => ?_)
          ·skip
           refine gs Try.func116 (by kernel_rfl) rfl #[.pointer (some ⟨g, 0, none⟩), .int .i64 9] (by rfl) rfl rfl ?_
           with_reducible refine (spec_l1Below.calls g s0_0 s0_1 s0_2 9 t352 t353 t354 w0 _ ?side1 ?side2 A3.out).mono ?_
           (case side1 => exact IsS112.mi HI0)
           (case side2 => exact IsS112.ms HB)
           rintro e w8 ⟨rfl, hi, hb, hk⟩
           refine ⟨_, rfl, ?_⟩
           replace BK351 := Aside0.mk (KeepBut.blk hk (g' := gb351) (o := .cells #[.int .i64 0, .slice none 0 0] 29 (0, 0)) (mb BK351) NB351_0.out (by simp))
           replace HK := Aside0.mk (KeepBut.trans (mk HK) hk (.inl rfl))
           replace HB := Aside0.mk (hb)
           replace HI0 := Aside0.mk (hi)
           (try clear hb)
           (try clear hb2)
           (try clear hk)
           (try clear hi)
           refine hK.out _ _ trivial (fun hHeld => ?_)
           clear hK K
           refine norm_ (a' := ?_) ?_ ?_
           rotate_left
           ·show Act.put _ (some 8) _ = _
            simp only [Act.put, z1, z2, z3, i64_w, i32_w]
            rfl
           refine pu 2 (some 9) (v := ?_) (a' := ?_) #[true, true, true, true, false, false, false, false] rfl rfl HT_ (fun _ _ _ h => h) (by rfl) ?_ ?_ ?_
           rotate_left
           ·intro w'
            go_simp
            with_reducible rfl
           rotate_left
           ·simp only [Act.put, z1, z2, z3, i64_w, i32_w]
            rfl
           exact norm_ (by first | (simp only [putAll, Act.put, List.setIfInBounds_toArray, List.set_cons_zero, List.set_cons_succ]; done) | (simp only [putAll, Act.put, List.setIfInBounds_toArray, List.set_cons_zero, List.set_cons_succ]; rfl)) (hJ1 () _ ⟨(mb BK351), (IsS112.mi HI0), (mk HK), (IsS112.ms HB)⟩)
          ·skip
           refine Kd.R_make_step (Kd.int .i64) _ 3 (by rfl) (N := 11) rfl 27 _ _ rfl a1 rfl rfl Try.underlying27 (.int .i64 0) 8 info3 rfl (by decide) (by omega) 0 (ok := fun _ => True) (okp := fun _ => True) rfl (fun _ hk => hk) trivial (of_decide_eq_true (by first | (with_reducible assumption) | assumption)) (Nat.le_trans (Nat.mul_le_mul_right _ (of_decide_eq_true (by first | (with_reducible assumption) | assumption) : a1.toNat ≤ 35184372088832)) (by omega)) (Below.refl _ _) (Nat.le_refl _) ?_
           intro v356 w8 ho9 hb hg_ hnew_
           clear hg_ hnew_
           (first | rw [← Ny355.out] at ho9 | (simp only [Int.reduceToNat] at ho9; rw [← Ny355.out] at ho9))
           have HO357 := Aside0.mk (Kd.R_lower ho9 (keep_size (w := w) (g := g) (row := none) (mk HK)))
           replace BK351 := bb BK351 hb
           replace HK := Aside0.mk (KeepBut.trans (mk HK) (KeepBut.of_below hb g none) (.inl rfl))
           replace HB := Aside0.mk (below_step (IsS112.ms HB) hb)
           replace HI0 := Aside0.mk (IsS112.below (IsS112.mi HI0) hb)
           clear hb ho9
           refine hK.out _ _ trivial (fun hHeld => ?_)
           clear hK K
           refine norm_ (a' := ?_) ?_ ?_
           rotate_left
           ·show Act.put _ (some 11) _ = _
            simp only [Act.put, z1, z2, z3, i64_w, i32_w]
            rfl
           exact norm_ (by first | (simp only [putAll, Act.put, List.setIfInBounds_toArray, List.set_cons_zero, List.set_cons_succ]; done) | (simp only [putAll, Act.put, List.setIfInBounds_toArray, List.set_cons_zero, List.set_cons_succ]; rfl)) (hJ4 (v356) _ ⟨(mr HO357), (mb BK351), (IsS112.mi HI0), (mk HK), (IsS112.ms HB)⟩)
          skip
          refine box_step ?hg (N := 5) ?hd (cs := #[.int .i64 0, .slice none 0 0]) (t := 29) ?hr ?_; (case hd => rfl); (case hg => rfl); (case hr => first | (go_simp; done) | (go_simp; rfl))
          intro gb358 hg w8 hbox hb
          have n0_ := Aside0.mk (IsS112.below (IsS112.mi HI0) hb)
          have n1_ := bb BK351 hb
          have n2_ := Aside0.mk (KeepBut.trans (mk HK) (KeepBut.of_below hb g none) (.inl rfl))
          have n3_ := Aside0.mk (below_step (IsS112.ms HB) hb)
          have n4_ := Aside0.mk (hbox)
          have n5_ := Aside0.mk ((by rw [hg]; exact (keep_size (w := w) (g := g) (row := none) (mk HK)) : w.heap.size ≤ gb358))
          have n6_ := Aside0.mk ((Nat.le_trans HW0.out (by rw [hg]; exact (keep_size (w := w) (g := g) (row := none) (mk HK)) : w.heap.size ≤ gb358) : w0.heap.size ≤ gb358))
          have n7_ := nl hg BK351
          have n8_ := ng hg BK351
          have n9_ := Aside0.mk ((by rw [hg]; exact Nat.ne_of_lt (IsS112.lt (show IsS112 w0 _ g s0_0 s0_1 s0_2 from IsS112.mi HI0)) : g ≠ gb358))
          have n10_ := Aside0.mk ((by rw [hg]; exact Nat.ne_of_gt (IsS112.lt (show IsS112 w0 _ g s0_0 s0_1 s0_2 from IsS112.mi HI0)) : gb358 ≠ g))
          clear HI0 BK351 HK HB
          have HI0 := n0_
          have BK351 := n1_
          have HK := n2_
          have HB := n3_
          have BK358 := n4_
          have GW358 := n5_
          have GE358 := n6_
          have NB351_358 := n7_
          have NB358_351 := n8_
          have NB0_358 := n9_
          have NB358_0 := n10_
          clear n0_ n1_ n2_ n3_ n4_ n5_ n6_ n7_ n8_ n9_ n10_ hb hbox hg
          refine hK.out _ _ trivial (fun hHeld => ?_)
          clear hK K
          refine norm_ (a' := ?_) ?_ ?_
          rotate_left
          ·show Act.put _ (some 5) _ = _
           simp only [Act.put, z1, z2, z3, i64_w, i32_w]
           rfl
          exact norm_ (by first | (simp only [putAll, Act.put, List.setIfInBounds_toArray, List.set_cons_zero, List.set_cons_succ]; done) | (simp only [putAll, Act.put, List.setIfInBounds_toArray, List.set_cons_zero, List.set_cons_succ]; rfl)) (hJ6 (gb358) _ ⟨(mb BK351), (mb BK358), GW358.out, GE358.out, NB0_358.out, NB358_0.out, NB351_358.out, NB358_351.out, (IsS112.mi HI0), (mk HK), (IsS112.ms HB)⟩)
         skip
         rintro gb358 w9 ⟨h0_, h1_, h2_, h3_, h4_, h5_, h6_, h7_, h8_, h9_, h10_⟩
         have n0_ : Aside0 (w9.heap[gb351]? = some (.cells #[.int .i64 0, .slice none 0 0] 29 (0, 0))) := ⟨h0_⟩
         have n1_ : Aside0 (w9.heap[gb358]? = some (.cells #[.int .i64 0, .slice none 0 0] 29 (0, 0))) := ⟨h1_⟩
         have n2_ : Aside0 (w.heap.size ≤ gb358) := ⟨h2_⟩
         have n3_ : Aside0 (w0.heap.size ≤ gb358) := ⟨h3_⟩
         have n4_ : Aside0 (g ≠ gb358) := ⟨h4_⟩
         have n5_ : Aside0 (gb358 ≠ g) := ⟨h5_⟩
         have n6_ : Aside0 (gb351 ≠ gb358) := ⟨h6_⟩
         have n7_ : Aside0 (gb358 ≠ gb351) := ⟨h7_⟩
         have n8_ : Aside0 (IsS112 w0 w9 g s0_0 s0_1 s0_2) := ⟨h8_⟩
         have n9_ : Aside0 (KeepBut w w9 g none) := ⟨h9_⟩
         have n10_ : Aside0 (Below w0.heap.size w0 w9) := ⟨h10_⟩
         clear BK351 HI0 HK HB h0_ h1_ h2_ h3_ h4_ h5_ h6_ h7_ h8_ h9_ h10_
         have BK351 := n0_
         have BK358 := n1_
         have GW358 := n2_
         have GE358 := n3_
         have NB0_358 := n4_
         have NB358_0 := n5_
         have NB351_358 := n6_
         have NB358_351 := n7_
         have HI0 := n8_
         have HK := n9_
         have HB := n10_
         clear n0_ n1_ n2_ n3_ n4_ n5_ n6_ n7_ n8_ n9_ n10_
         have hHeld := trivial
         refine norm_ (a' := ?_) ?_ ?_
         rotate_left
         ·simp only [putAll, Act.put, List.setIfInBounds_toArray, List.set_cons_zero, List.set_cons_succ]
          rfl
         refine two_ (i := 1) (j := 4) (Ni := some 8) (Nj := some 11) #[true, true, false, true, false, false, true, false] #[true, false, false, true, true, false, true, false] rfl rfl rfl rfl (two_of HT_.out (by kernel_rfl)) (by decide) (by decide) (fun K hK => ?_) (fun K hK => ?_)
         ·skip
          refine gs Try.func116 (by kernel_rfl) rfl #[.pointer (some ⟨g, 0, none⟩), .int .i64 9] (by rfl) rfl rfl ?_
          with_reducible refine (spec_l1Below.calls g s0_0 s0_1 s0_2 9 t352 t353 t354 w0 _ ?side1 ?side2 A3.out).mono ?_
          (case side1 => exact IsS112.mi HI0)
          (case side2 => exact IsS112.ms HB)
          rintro e w10 ⟨rfl, hi, hb, hk⟩
          refine ⟨_, rfl, ?_⟩
          replace BK351 := Aside0.mk (KeepBut.blk hk (g' := gb351) (o := .cells #[.int .i64 0, .slice none 0 0] 29 (0, 0)) (mb BK351) NB351_0.out (by simp))
          replace BK358 := Aside0.mk (KeepBut.blk hk (g' := gb358) (o := .cells #[.int .i64 0, .slice none 0 0] 29 (0, 0)) (mb BK358) NB358_0.out (by simp))
          replace HK := Aside0.mk (KeepBut.trans (mk HK) hk (.inl rfl))
          replace HB := Aside0.mk (hb)
          replace HI0 := Aside0.mk (hi)
          (try clear hb)
          (try clear hb2)
          (try clear hk)
          (try clear hi)
          refine hK.out _ _ trivial (fun hHeld => ?_)
          clear hK K
          refine norm_ (a' := ?_) ?_ ?_
          rotate_left
          ·show Act.put _ (some 8) _ = _
           simp only [Act.put, z1, z2, z3, i64_w, i32_w]
           rfl
          refine pu 2 (some 9) (v := ?_) (a' := ?_) #[true, true, true, true, false, false, true, false] rfl rfl HT_ (fun _ _ _ h => h) (by rfl) ?_ ?_ ?_
          rotate_left
          ·intro w'
           go_simp
           with_reducible rfl
          rotate_left
          ·simp only [Act.put, z1, z2, z3, i64_w, i32_w]
           rfl
          exact norm_ (by first | (simp only [putAll, Act.put, List.setIfInBounds_toArray, List.set_cons_zero, List.set_cons_succ]; done) | (simp only [putAll, Act.put, List.setIfInBounds_toArray, List.set_cons_zero, List.set_cons_succ]; rfl)) (hJ1_6 (gb358) _ ⟨(mb BK351), (mb BK358), GW358.out, GE358.out, NB0_358.out, NB358_0.out, NB351_358.out, NB358_351.out, (IsS112.mi HI0), (mk HK), (IsS112.ms HB)⟩)
         skip
         refine Kd.R_make_step (Kd.int .i64) _ 3 (by rfl) (N := 11) rfl 27 _ _ rfl a1 rfl rfl Try.underlying27 (.int .i64 0) 8 info3 rfl (by decide) (by omega) 0 (ok := fun _ => True) (okp := fun _ => True) rfl (fun _ hk => hk) trivial (of_decide_eq_true (by first | (with_reducible assumption) | assumption)) (Nat.le_trans (Nat.mul_le_mul_right _ (of_decide_eq_true (by first | (with_reducible assumption) | assumption) : a1.toNat ≤ 35184372088832)) (by omega)) (Below.refl _ _) (Nat.le_refl _) ?_
         intro v356 w10 ho11 hb hg_ hnew_
         clear hg_ hnew_
         (first | rw [← Ny355.out] at ho11 | (simp only [Int.reduceToNat] at ho11; rw [← Ny355.out] at ho11))
         have HO357 := Aside0.mk (Kd.R_lower ho11 (keep_size (w := w) (g := g) (row := none) (mk HK)))
         replace BK351 := bb BK351 hb
         replace BK358 := bb BK358 hb
         replace HK := Aside0.mk (KeepBut.trans (mk HK) (KeepBut.of_below hb g none) (.inl rfl))
         replace HB := Aside0.mk (below_step (IsS112.ms HB) hb)
         replace HI0 := Aside0.mk (IsS112.below (IsS112.mi HI0) hb)
         clear hb ho11
         refine hK.out _ _ trivial (fun hHeld => ?_)
         clear hK K
         refine norm_ (a' := ?_) ?_ ?_
         rotate_left
         ·show Act.put _ (some 11) _ = _
          simp only [Act.put, z1, z2, z3, i64_w, i32_w]
          rfl
         exact norm_ (by first | (simp only [putAll, Act.put, List.setIfInBounds_toArray, List.set_cons_zero, List.set_cons_succ]; done) | (simp only [putAll, Act.put, List.setIfInBounds_toArray, List.set_cons_zero, List.set_cons_succ]; rfl)) (hJ4_6 (v356, gb358) _ ⟨(mr HO357), (mb BK351), (mb BK358), GW358.out, GE358.out, NB0_358.out, NB358_0.out, NB351_358.out, NB358_351.out, (IsS112.mi HI0), (mk HK), (IsS112.ms HB)⟩)
        skip
        rintro v356 w10 ⟨h0_, h1_, h2_, h3_, h4_⟩
        have n0_ : Aside0 (Kd.R (Kd.int .i64) 3 w10 w.heap.size (fun _ => True) v356 y355) := ⟨h0_⟩
        have n1_ : Aside0 (w10.heap[gb351]? = some (.cells #[.int .i64 0, .slice none 0 0] 29 (0, 0))) := ⟨h1_⟩
        have n2_ : Aside0 (IsS112 w0 w10 g s0_0 s0_1 s0_2) := ⟨h2_⟩
        have n3_ : Aside0 (KeepBut w w10 g none) := ⟨h3_⟩
        have n4_ : Aside0 (Below w0.heap.size w0 w10) := ⟨h4_⟩
        clear BK351 HI0 HK HB h0_ h1_ h2_ h3_ h4_
        have HO357 := n0_
        have BK351 := n1_
        have HI0 := n2_
        have HK := n3_
        have HB := n4_
        clear n0_ n1_ n2_ n3_ n4_
        have hHeld := trivial
        refine norm_ (a' := ?_) ?_ ?_
        rotate_left
        ·simp only [putAll, Act.put, List.setIfInBounds_toArray, List.set_cons_zero, List.set_cons_succ]
         rfl
        refine two_ (i := 1) (j := 6) (Ni := some 8) (Nj := some 5) #[true, true, false, true, true, false, false, false] #[true, false, false, true, true, false, true, false] rfl rfl rfl rfl (two_of HT_.out (by kernel_rfl)) (by decide) (by decide) (fun K hK => ?_) (fun K hK => ?_)
        ·skip
         refine gs Try.func116 (by kernel_rfl) rfl #[.pointer (some ⟨g, 0, none⟩), .int .i64 9] (by rfl) rfl rfl ?_
         with_reducible refine (spec_l1Below.calls g s0_0 s0_1 s0_2 9 t352 t353 t354 w0 _ ?side1 ?side2 A3.out).mono ?_
         (case side1 => exact IsS112.mi HI0)
         (case side2 => exact IsS112.ms HB)
         rintro e w11 ⟨rfl, hi, hb, hk⟩
         refine ⟨_, rfl, ?_⟩
         replace BK351 := Aside0.mk (KeepBut.blk hk (g' := gb351) (o := .cells #[.int .i64 0, .slice none 0 0] 29 (0, 0)) (mb BK351) NB351_0.out (by simp))
         replace HO357 := Aside0.mk (Kd.R_mono (Kd.R_keep (IsS112.apart (show IsS112 w0 _ g s0_0 s0_1 s0_2 from IsS112.mi HI0) (mr HO357) (by decide)) hk (fun _ h => h.2)) (fun _ h => h.1))
         replace HK := Aside0.mk (KeepBut.trans (mk HK) hk (.inl rfl))
         replace HB := Aside0.mk (hb)
         replace HI0 := Aside0.mk (hi)
         (try clear hb)
         (try clear hb2)
         (try clear hk)
         (try clear hi)
         obtain ⟨Ao12, co12, eo12⟩ := Kd.R_slice HO357.out
         (first | subst eo12 | (injection eo12 with f1_ f2_ f3_; have f4_ := f1_.symm; have f5_ := f3_.symm; clear f1_ f2_ f3_; subst f4_; subst f5_))
         refine hK.out _ _ trivial (fun hHeld => ?_)
         clear hK K
         refine norm_ (a' := ?_) ?_ ?_
         rotate_left
         ·show Act.put _ (some 8) _ = _
          simp only [Act.put, z1, z2, z3, i64_w, i32_w]
          rfl
         refine pu 2 (some 9) (v := ?_) (a' := ?_) #[true, true, true, true, true, false, false, false] rfl rfl HT_ (fun _ _ _ h => h) (by rfl) ?_ ?_ ?_
         rotate_left
         ·intro w'
          go_simp
          with_reducible rfl
         rotate_left
         ·simp only [Act.put, z1, z2, z3, i64_w, i32_w]
          rfl
         refine pu 5 (some 12) (v := ?_) (a' := ?_) #[true, true, true, true, true, true, false, false] rfl rfl HT_ (fun _ _ _ h => h) (by rfl) ?_ ?_ ?_
         rotate_left
         ·intro w'
          go_simp
          with_reducible rfl
         rotate_left
         ·simp only [Act.put, z1, z2, z3, i64_w, i32_w]
          rfl
         exact norm_ (by first | (simp only [putAll, Act.put, List.setIfInBounds_toArray, List.set_cons_zero, List.set_cons_succ]; done) | (simp only [putAll, Act.put, List.setIfInBounds_toArray, List.set_cons_zero, List.set_cons_succ]; rfl)) (hJ1_4 (.slice Ao12 y355.length co12) _ ⟨(mr HO357), (mb BK351), (IsS112.mi HI0), (mk HK), (IsS112.ms HB)⟩)
        skip
        refine box_step ?hg (N := 5) ?hd (cs := #[.int .i64 0, .slice none 0 0]) (t := 29) ?hr ?_; (case hd => rfl); (case hg => rfl); (case hr => first | (go_simp; done) | (go_simp; rfl))
        intro gb358 hg w11 hbox hb
        have n0_ := rb HO357 hb
        have n1_ := Aside0.mk (IsS112.below (IsS112.mi HI0) hb)
        have n2_ := bb BK351 hb
        have n3_ := Aside0.mk (KeepBut.trans (mk HK) (KeepBut.of_below hb g none) (.inl rfl))
        have n4_ := Aside0.mk (below_step (IsS112.ms HB) hb)
        have n5_ := Aside0.mk (hbox)
        have n6_ := Aside0.mk ((by rw [hg]; exact (keep_size (w := w) (g := g) (row := none) (mk HK)) : w.heap.size ≤ gb358))
        have n7_ := Aside0.mk ((Nat.le_trans HW0.out (by rw [hg]; exact (keep_size (w := w) (g := g) (row := none) (mk HK)) : w.heap.size ≤ gb358) : w0.heap.size ≤ gb358))
        have n8_ := nl hg BK351
        have n9_ := ng hg BK351
        have n10_ := Aside0.mk ((by rw [hg]; exact Nat.ne_of_lt (IsS112.lt (show IsS112 w0 _ g s0_0 s0_1 s0_2 from IsS112.mi HI0)) : g ≠ gb358))
        have n11_ := Aside0.mk ((by rw [hg]; exact Nat.ne_of_gt (IsS112.lt (show IsS112 w0 _ g s0_0 s0_1 s0_2 from IsS112.mi HI0)) : gb358 ≠ g))
        clear HO357 HI0 BK351 HK HB
        have HO357 := n0_
        have HI0 := n1_
        have BK351 := n2_
        have HK := n3_
        have HB := n4_
        have BK358 := n5_
        have GW358 := n6_
        have GE358 := n7_
        have NB351_358 := n8_
        have NB358_351 := n9_
        have NB0_358 := n10_
        have NB358_0 := n11_
        clear n0_ n1_ n2_ n3_ n4_ n5_ n6_ n7_ n8_ n9_ n10_ n11_ hb hbox hg
        refine hK.out _ _ trivial (fun hHeld => ?_)
        clear hK K
        refine norm_ (a' := ?_) ?_ ?_
        rotate_left
        ·show Act.put _ (some 5) _ = _
         simp only [Act.put, z1, z2, z3, i64_w, i32_w]
         rfl
        exact norm_ (by first | (simp only [putAll, Act.put, List.setIfInBounds_toArray, List.set_cons_zero, List.set_cons_succ]; done) | (simp only [putAll, Act.put, List.setIfInBounds_toArray, List.set_cons_zero, List.set_cons_succ]; rfl)) (hJ4_6 (v356, gb358) _ ⟨(mr HO357), (mb BK351), (mb BK358), GW358.out, GE358.out, NB0_358.out, NB358_0.out, NB351_358.out, NB358_351.out, (IsS112.mi HI0), (mk HK), (IsS112.ms HB)⟩)
       skip
       rintro _ w9 ⟨h0_, h1_, h2_, h3_⟩
       have n0_ : Aside0 (w9.heap[gb351]? = some (.cells #[.int .i64 0, .slice none 0 0] 29 (0, 0))) := ⟨h0_⟩
       have n1_ : Aside0 (IsS112 w0 w9 g s0_0 t353 t354) := ⟨h1_⟩
       have n2_ : Aside0 (KeepBut w w9 g none) := ⟨h2_⟩
       have n3_ : Aside0 (Below w0.heap.size w0 w9) := ⟨h3_⟩
       clear BK351 HI0 HK HB h0_ h1_ h2_ h3_
       have BK351 := n0_
       have HI0 := n1_
       have HK := n2_
       have HB := n3_
       clear n0_ n1_ n2_ n3_
       have hHeld := trivial
       refine norm_ (a' := ?_) ?_ ?_
       rotate_left
       ·simp only [putAll, Act.put, List.setIfInBounds_toArray, List.set_cons_zero, List.set_cons_succ]
        rfl
       refine two_ (i := 4) (j := 6) (Ni := some 11) (Nj := some 5) #[true, true, true, true, true, false, false, false] #[true, true, true, true, false, false, true, false] rfl rfl rfl rfl (two_of HT_.out (by kernel_rfl)) (by decide) (by decide) (fun K hK => ?_) (fun K hK => ?_)
       ·skip
        refine Kd.R_make_step (Kd.int .i64) _ 3 (by rfl) (N := 11) rfl 27 _ _ rfl a1 rfl rfl Try.underlying27 (.int .i64 0) 8 info3 rfl (by decide) (by omega) 0 (ok := fun _ => True) (okp := fun _ => True) rfl (fun _ hk => hk) trivial (of_decide_eq_true (by first | (with_reducible assumption) | assumption)) (Nat.le_trans (Nat.mul_le_mul_right _ (of_decide_eq_true (by first | (with_reducible assumption) | assumption) : a1.toNat ≤ 35184372088832)) (by omega)) (Below.refl _ _) (Nat.le_refl _) ?_
        intro v356 w10 ho11 hb hg_ hnew_
        clear hg_ hnew_
        (first | rw [← Ny355.out] at ho11 | (simp only [Int.reduceToNat] at ho11; rw [← Ny355.out] at ho11))
        have HO357 := Aside0.mk (Kd.R_lower ho11 (keep_size (w := w) (g := g) (row := none) (mk HK)))
        replace BK351 := bb BK351 hb
        replace HK := Aside0.mk (KeepBut.trans (mk HK) (KeepBut.of_below hb g none) (.inl rfl))
        replace HB := Aside0.mk (below_step (IsS112.ms HB) hb)
        replace HI0 := Aside0.mk (IsS112.below (IsS112.mi HI0) hb)
        clear hb ho11
        obtain ⟨Ao12, co12, eo12⟩ := Kd.R_slice HO357.out
        (first | subst eo12 | (injection eo12 with f1_ f2_ f3_; have f4_ := f1_.symm; have f5_ := f3_.symm; clear f1_ f2_ f3_; subst f4_; subst f5_))
        refine hK.out _ _ trivial (fun hHeld => ?_)
        clear hK K
        refine norm_ (a' := ?_) ?_ ?_
        rotate_left
        ·show Act.put _ (some 11) _ = _
         simp only [Act.put, z1, z2, z3, i64_w, i32_w]
         rfl
        refine pu 5 (some 12) (v := ?_) (a' := ?_) #[true, true, true, true, true, true, false, false] rfl rfl HT_ (fun _ _ _ h => h) (by rfl) ?_ ?_ ?_
        rotate_left
        ·intro w'
         go_simp
         with_reducible rfl
        rotate_left
        ·simp only [Act.put, z1, z2, z3, i64_w, i32_w]
         rfl
        exact norm_ (by first | (simp only [putAll, Act.put, List.setIfInBounds_toArray, List.set_cons_zero, List.set_cons_succ]; done) | (simp only [putAll, Act.put, List.setIfInBounds_toArray, List.set_cons_zero, List.set_cons_succ]; rfl)) (hJ1_4 (.slice Ao12 y355.length co12) _ ⟨(mr HO357), (mb BK351), (IsS112.mi HI0), (mk HK), (IsS112.ms HB)⟩)
       skip
       refine box_step ?hg (N := 5) ?hd (cs := #[.int .i64 0, .slice none 0 0]) (t := 29) ?hr ?_; (case hd => rfl); (case hg => rfl); (case hr => first | (go_simp; done) | (go_simp; rfl))
       intro gb358 hg w10 hbox hb
       have n0_ := Aside0.mk (IsS112.below (IsS112.mi HI0) hb)
       have n1_ := bb BK351 hb
       have n2_ := Aside0.mk (KeepBut.trans (mk HK) (KeepBut.of_below hb g none) (.inl rfl))
       have n3_ := Aside0.mk (below_step (IsS112.ms HB) hb)
       have n4_ := Aside0.mk (hbox)
       have n5_ := Aside0.mk ((by rw [hg]; exact (keep_size (w := w) (g := g) (row := none) (mk HK)) : w.heap.size ≤ gb358))
       have n6_ := Aside0.mk ((Nat.le_trans HW0.out (by rw [hg]; exact (keep_size (w := w) (g := g) (row := none) (mk HK)) : w.heap.size ≤ gb358) : w0.heap.size ≤ gb358))
       have n7_ := nl hg BK351
       have n8_ := ng hg BK351
       have n9_ := Aside0.mk ((by rw [hg]; exact Nat.ne_of_lt (IsS112.lt (show IsS112 w0 _ g s0_0 t353 t354 from IsS112.mi HI0)) : g ≠ gb358))
       have n10_ := Aside0.mk ((by rw [hg]; exact Nat.ne_of_gt (IsS112.lt (show IsS112 w0 _ g s0_0 t353 t354 from IsS112.mi HI0)) : gb358 ≠ g))
       clear HI0 BK351 HK HB
       have HI0 := n0_
       have BK351 := n1_
       have HK := n2_
       have HB := n3_
       have BK358 := n4_
       have GW358 := n5_
       have GE358 := n6_
       have NB351_358 := n7_
       have NB358_351 := n8_
       have NB0_358 := n9_
       have NB358_0 := n10_
       clear n0_ n1_ n2_ n3_ n4_ n5_ n6_ n7_ n8_ n9_ n10_ hb hbox hg
       refine hK.out _ _ trivial (fun hHeld => ?_)
       clear hK K
       refine norm_ (a' := ?_) ?_ ?_
       rotate_left
       ·show Act.put _ (some 5) _ = _
        simp only [Act.put, z1, z2, z3, i64_w, i32_w]
        rfl
       exact norm_ (by first | (simp only [putAll, Act.put, List.setIfInBounds_toArray, List.set_cons_zero, List.set_cons_succ]; done) | (simp only [putAll, Act.put, List.setIfInBounds_toArray, List.set_cons_zero, List.set_cons_succ]; rfl)) (hJ1_6 (gb358) _ ⟨(mb BK351), (mb BK358), GW358.out, GE358.out, NB0_358.out, NB358_0.out, NB351_358.out, NB358_351.out, (IsS112.mi HI0), (mk HK), (IsS112.ms HB)⟩)
      skip
      rintro ⟨v356, gb358⟩ w11 ⟨h0_, h1_, h2_, h3_, h4_, h5_, h6_, h7_, h8_, h9_, h10_, h11_⟩
      have n0_ : Aside0 (Kd.R (Kd.int .i64) 3 w11 w.heap.size (fun _ => True) v356 y355) := ⟨h0_⟩
      have n1_ : Aside0 (w11.heap[gb351]? = some (.cells #[.int .i64 0, .slice none 0 0] 29 (0, 0))) := ⟨h1_⟩
      have n2_ : Aside0 (w11.heap[gb358]? = some (.cells #[.int .i64 0, .slice none 0 0] 29 (0, 0))) := ⟨h2_⟩
      have n3_ : Aside0 (w.heap.size ≤ gb358) := ⟨h3_⟩
      have n4_ : Aside0 (w0.heap.size ≤ gb358) := ⟨h4_⟩
      have n5_ : Aside0 (g ≠ gb358) := ⟨h5_⟩
      have n6_ : Aside0 (gb358 ≠ g) := ⟨h6_⟩
      have n7_ : Aside0 (gb351 ≠ gb358) := ⟨h7_⟩
      have n8_ : Aside0 (gb358 ≠ gb351) := ⟨h8_⟩
      have n9_ : Aside0 (IsS112 w0 w11 g s0_0 s0_1 s0_2) := ⟨h9_⟩
      have n10_ : Aside0 (KeepBut w w11 g none) := ⟨h10_⟩
      have n11_ : Aside0 (Below w0.heap.size w0 w11) := ⟨h11_⟩
      clear BK351 HI0 HK HB h0_ h1_ h2_ h3_ h4_ h5_ h6_ h7_ h8_ h9_ h10_ h11_
      have HO357 := n0_
      have BK351 := n1_
      have BK358 := n2_
      have GW358 := n3_
      have GE358 := n4_
      have NB0_358 := n5_
      have NB358_0 := n6_
      have NB351_358 := n7_
      have NB358_351 := n8_
      have HI0 := n9_
      have HK := n10_
      have HB := n11_
      clear n0_ n1_ n2_ n3_ n4_ n5_ n6_ n7_ n8_ n9_ n10_ n11_
      have hHeld := trivial
      refine norm_ (a' := ?_) ?_ ?_
      rotate_left
      ·simp only [putAll, Act.put, List.setIfInBounds_toArray, List.set_cons_zero, List.set_cons_succ]
       rfl
      refine one_ (i := 1) (N := some 8) #[true, true, false, true, true, false, true, false] rfl rfl (one_of HT_.out (by kernel_rfl)) (by decide) (fun K hK => ?_)
      refine gs Try.func116 (by kernel_rfl) rfl #[.pointer (some ⟨g, 0, none⟩), .int .i64 9] (by rfl) rfl rfl ?_
      with_reducible refine (spec_l1Below.calls g s0_0 s0_1 s0_2 9 t352 t353 t354 w0 _ ?side1 ?side2 A3.out).mono ?_
      (case side1 => exact IsS112.mi HI0)
      (case side2 => exact IsS112.ms HB)
      rintro e w12 ⟨rfl, hi, hb, hk⟩
      refine ⟨_, rfl, ?_⟩
      replace BK351 := Aside0.mk (KeepBut.blk hk (g' := gb351) (o := .cells #[.int .i64 0, .slice none 0 0] 29 (0, 0)) (mb BK351) NB351_0.out (by simp))
      replace HO357 := Aside0.mk (Kd.R_mono (Kd.R_keep (IsS112.apart (show IsS112 w0 _ g s0_0 s0_1 s0_2 from IsS112.mi HI0) (mr HO357) (by decide)) hk (fun _ h => h.2)) (fun _ h => h.1))
      replace BK358 := Aside0.mk (KeepBut.blk hk (g' := gb358) (o := .cells #[.int .i64 0, .slice none 0 0] 29 (0, 0)) (mb BK358) NB358_0.out (by simp))
      replace HK := Aside0.mk (KeepBut.trans (mk HK) hk (.inl rfl))
      replace HB := Aside0.mk (hb)
      replace HI0 := Aside0.mk (hi)
      (try clear hb)
      (try clear hb2)
      (try clear hk)
      (try clear hi)
      obtain ⟨Ao13, co13, eo13⟩ := Kd.R_slice HO357.out
      (first | subst eo13 | (injection eo13 with f1_ f2_ f3_; have f4_ := f1_.symm; have f5_ := f3_.symm; clear f1_ f2_ f3_; subst f4_; subst f5_))
      refine hK.out _ _ trivial (fun hHeld => ?_)
      clear hK K
      refine norm_ (a' := ?_) ?_ ?_
      rotate_left
      ·show Act.put _ (some 8) _ = _
       simp only [Act.put, z1, z2, z3, i64_w, i32_w]
       rfl
      refine pu 2 (some 9) (v := ?_) (a' := ?_) #[true, true, true, true, true, false, true, false] rfl rfl HT_ (fun _ _ _ h => h) (by rfl) ?_ ?_ ?_
      rotate_left
      ·intro w'
       go_simp
       with_reducible rfl
      rotate_left
      ·simp only [Act.put, z1, z2, z3, i64_w, i32_w]
       rfl
      refine pu 5 (some 12) (v := ?_) (a' := ?_) #[true, true, true, true, true, true, true, false] rfl rfl HT_ (fun _ _ _ h => h) (by rfl) ?_ ?_ ?_
      rotate_left
      ·intro w'
       go_simp
       with_reducible rfl
      rotate_left
      ·simp only [Act.put, z1, z2, z3, i64_w, i32_w]
       rfl
      exact norm_ (by first | (simp only [putAll, Act.put, List.setIfInBounds_toArray, List.set_cons_zero, List.set_cons_succ]; done) | (simp only [putAll, Act.put, List.setIfInBounds_toArray, List.set_cons_zero, List.set_cons_succ]; rfl)) (hJ1_4_6 (.slice Ao13 y355.length co13, gb358) _ ⟨(mr HO357), (mb BK351), (mb BK358), GW358.out, GE358.out, NB0_358.out, NB358_0.out, NB351_358.out, NB358_351.out, (IsS112.mi HI0), (mk HK), (IsS112.ms HB)⟩)
     skip
     rintro gb358 w10 ⟨h0_, h1_, h2_, h3_, h4_, h5_, h6_, h7_, h8_, h9_, h10_⟩
     have n0_ : Aside0 (w10.heap[gb351]? = some (.cells #[.int .i64 0, .slice none 0 0] 29 (0, 0))) := ⟨h0_⟩
     have n1_ : Aside0 (w10.heap[gb358]? = some (.cells #[.int .i64 0, .slice none 0 0] 29 (0, 0))) := ⟨h1_⟩
     have n2_ : Aside0 (w.heap.size ≤ gb358) := ⟨h2_⟩
     have n3_ : Aside0 (w0.heap.size ≤ gb358) := ⟨h3_⟩
     have n4_ : Aside0 (g ≠ gb358) := ⟨h4_⟩
     have n5_ : Aside0 (gb358 ≠ g) := ⟨h5_⟩
     have n6_ : Aside0 (gb351 ≠ gb358) := ⟨h6_⟩
     have n7_ : Aside0 (gb358 ≠ gb351) := ⟨h7_⟩
     have n8_ : Aside0 (IsS112 w0 w10 g s0_0 t353 t354) := ⟨h8_⟩
     have n9_ : Aside0 (KeepBut w w10 g none) := ⟨h9_⟩
     have n10_ : Aside0 (Below w0.heap.size w0 w10) := ⟨h10_⟩
     clear BK351 HI0 HK HB h0_ h1_ h2_ h3_ h4_ h5_ h6_ h7_ h8_ h9_ h10_
     have BK351 := n0_
     have BK358 := n1_
     have GW358 := n2_
     have GE358 := n3_
     have NB0_358 := n4_
     have NB358_0 := n5_
     have NB351_358 := n6_
     have NB358_351 := n7_
     have HI0 := n8_
     have HK := n9_
     have HB := n10_
     clear n0_ n1_ n2_ n3_ n4_ n5_ n6_ n7_ n8_ n9_ n10_
     have hHeld := trivial
     refine norm_ (a' := ?_) ?_ ?_
     rotate_left
     ·simp only [putAll, Act.put, List.setIfInBounds_toArray, List.set_cons_zero, List.set_cons_succ]
      rfl
     refine one_ (i := 4) (N := some 11) #[true, true, true, true, true, false, true, false] rfl rfl (one_of HT_.out (by kernel_rfl)) (by decide) (fun K hK => ?_)
     refine Kd.R_make_step (Kd.int .i64) _ 3 (by rfl) (N := 11) rfl 27 _ _ rfl a1 rfl rfl Try.underlying27 (.int .i64 0) 8 info3 rfl (by decide) (by omega) 0 (ok := fun _ => True) (okp := fun _ => True) rfl (fun _ hk => hk) trivial (of_decide_eq_true (by first | (with_reducible assumption) | assumption)) (Nat.le_trans (Nat.mul_le_mul_right _ (of_decide_eq_true (by first | (with_reducible assumption) | assumption) : a1.toNat ≤ 35184372088832)) (by omega)) (Below.refl _ _) (Nat.le_refl _) ?_
     intro v356 w11 ho12 hb hg_ hnew_
     clear hg_ hnew_
     (first | rw [← Ny355.out] at ho12 | (simp only [Int.reduceToNat] at ho12; rw [← Ny355.out] at ho12))
     have HO357 := Aside0.mk (Kd.R_lower ho12 (keep_size (w := w) (g := g) (row := none) (mk HK)))
     replace BK351 := bb BK351 hb
     replace BK358 := bb BK358 hb
     replace HK := Aside0.mk (KeepBut.trans (mk HK) (KeepBut.of_below hb g none) (.inl rfl))
     replace HB := Aside0.mk (below_step (IsS112.ms HB) hb)
     replace HI0 := Aside0.mk (IsS112.below (IsS112.mi HI0) hb)
     clear hb ho12
     obtain ⟨Ao13, co13, eo13⟩ := Kd.R_slice HO357.out
     (first | subst eo13 | (injection eo13 with f1_ f2_ f3_; have f4_ := f1_.symm; have f5_ := f3_.symm; clear f1_ f2_ f3_; subst f4_; subst f5_))
     refine hK.out _ _ trivial (fun hHeld => ?_)
     clear hK K
     refine norm_ (a' := ?_) ?_ ?_
     rotate_left
     ·show Act.put _ (some 11) _ = _
      simp only [Act.put, z1, z2, z3, i64_w, i32_w]
      rfl
     refine pu 5 (some 12) (v := ?_) (a' := ?_) #[true, true, true, true, true, true, true, false] rfl rfl HT_ (fun _ _ _ h => h) (by rfl) ?_ ?_ ?_
     rotate_left
     ·intro w'
      go_simp
      with_reducible rfl
     rotate_left
     ·simp only [Act.put, z1, z2, z3, i64_w, i32_w]
      rfl
     exact norm_ (by first | (simp only [putAll, Act.put, List.setIfInBounds_toArray, List.set_cons_zero, List.set_cons_succ]; done) | (simp only [putAll, Act.put, List.setIfInBounds_toArray, List.set_cons_zero, List.set_cons_succ]; rfl)) (hJ1_4_6 (.slice Ao13 y355.length co13, gb358) _ ⟨(mr HO357), (mb BK351), (mb BK358), GW358.out, GE358.out, NB0_358.out, NB358_0.out, NB351_358.out, NB358_351.out, (IsS112.mi HI0), (mk HK), (IsS112.ms HB)⟩)
    skip
    rintro v356 w12 ⟨h0_, h1_, h2_, h3_, h4_⟩
    have n0_ : Aside0 (Kd.R (Kd.int .i64) 3 w12 w.heap.size (fun _ => True) v356 y355) := ⟨h0_⟩
    have n1_ : Aside0 (w12.heap[gb351]? = some (.cells #[.int .i64 0, .slice none 0 0] 29 (0, 0))) := ⟨h1_⟩
    have n2_ : Aside0 (IsS112 w0 w12 g s0_0 t353 t354) := ⟨h2_⟩
    have n3_ : Aside0 (KeepBut w w12 g none) := ⟨h3_⟩
    have n4_ : Aside0 (Below w0.heap.size w0 w12) := ⟨h4_⟩
    clear BK351 HI0 HK HB h0_ h1_ h2_ h3_ h4_
    have HO357 := n0_
    have BK351 := n1_
    have HI0 := n2_
    have HK := n3_
    have HB := n4_
    clear n0_ n1_ n2_ n3_ n4_
    have hHeld := trivial
    obtain ⟨Ao13, co13, eo13⟩ := Kd.R_slice HO357.out
    (first | subst eo13 | (injection eo13 with f1_ f2_ f3_; have f4_ := f1_.symm; have f5_ := f3_.symm; clear f1_ f2_ f3_; subst f4_; subst f5_))
    refine norm_ (a' := ?_) ?_ ?_
    rotate_left
    ·simp only [putAll, Act.put, List.setIfInBounds_toArray, List.set_cons_zero, List.set_cons_succ]
     rfl
    refine one_ (i := 6) (N := some 5) #[true, true, true, true, true, true, true, false] rfl rfl (one_of HT_.out (by kernel_rfl)) (by decide) (fun K hK => ?_)
    refine box_step ?hg (N := 5) ?hd (cs := #[.int .i64 0, .slice none 0 0]) (t := 29) ?hr ?_; (case hd => rfl); (case hg => rfl); (case hr => first | (go_simp; done) | (go_simp; rfl))
    intro gb358 hg w14 hbox hb
    have n0_ := rb HO357 hb
    have n1_ := Aside0.mk (IsS112.below (IsS112.mi HI0) hb)
    have n2_ := bb BK351 hb
    have n3_ := Aside0.mk (KeepBut.trans (mk HK) (KeepBut.of_below hb g none) (.inl rfl))
    have n4_ := Aside0.mk (below_step (IsS112.ms HB) hb)
    have n5_ := Aside0.mk (hbox)
    have n6_ := Aside0.mk ((by rw [hg]; exact (keep_size (w := w) (g := g) (row := none) (mk HK)) : w.heap.size ≤ gb358))
    have n7_ := Aside0.mk ((Nat.le_trans HW0.out (by rw [hg]; exact (keep_size (w := w) (g := g) (row := none) (mk HK)) : w.heap.size ≤ gb358) : w0.heap.size ≤ gb358))
    have n8_ := nl hg BK351
    have n9_ := ng hg BK351
    have n10_ := Aside0.mk ((by rw [hg]; exact Nat.ne_of_lt (IsS112.lt (show IsS112 w0 _ g s0_0 t353 t354 from IsS112.mi HI0)) : g ≠ gb358))
    have n11_ := Aside0.mk ((by rw [hg]; exact Nat.ne_of_gt (IsS112.lt (show IsS112 w0 _ g s0_0 t353 t354 from IsS112.mi HI0)) : gb358 ≠ g))
    clear HO357 HI0 BK351 HK HB
    have HO357 := n0_
    have HI0 := n1_
    have BK351 := n2_
    have HK := n3_
    have HB := n4_
    have BK358 := n5_
    have GW358 := n6_
    have GE358 := n7_
    have NB351_358 := n8_
    have NB358_351 := n9_
    have NB0_358 := n10_
    have NB358_0 := n11_
    clear n0_ n1_ n2_ n3_ n4_ n5_ n6_ n7_ n8_ n9_ n10_ n11_ hb hbox hg
    refine hK.out _ _ trivial (fun hHeld => ?_)
    clear hK K
    refine norm_ (a' := ?_) ?_ ?_
    rotate_left
    ·show Act.put _ (some 5) _ = _
     simp only [Act.put, z1, z2, z3, i64_w, i32_w]
     rfl
    exact norm_ (by first | (simp only [putAll, Act.put, List.setIfInBounds_toArray, List.set_cons_zero, List.set_cons_succ]; done) | (simp only [putAll, Act.put, List.setIfInBounds_toArray, List.set_cons_zero, List.set_cons_succ]; rfl)) (hJ1_4_6 (.slice Ao13 y355.length co13, gb358) _ ⟨(mr HO357), (mb BK351), (mb BK358), GW358.out, GE358.out, NB0_358.out, NB358_0.out, NB351_358.out, NB358_351.out, (IsS112.mi HI0), (mk HK), (IsS112.ms HB)⟩)
   rintro ⟨v356, gb358⟩ w13 ⟨h0_, h1_, h2_, h3_, h4_, h5_, h6_, h7_, h8_, h9_, h10_, h11_⟩
   have n0_ : Aside0 (Kd.R (Kd.int .i64) 3 w13 w.heap.size (fun _ => True) v356 y355) := ⟨h0_⟩
   have n1_ : Aside0 (w13.heap[gb351]? = some (.cells #[.int .i64 0, .slice none 0 0] 29 (0, 0))) := ⟨h1_⟩
   have n2_ : Aside0 (w13.heap[gb358]? = some (.cells #[.int .i64 0, .slice none 0 0] 29 (0, 0))) := ⟨h2_⟩
   have n3_ : Aside0 (w.heap.size ≤ gb358) := ⟨h3_⟩
   have n4_ : Aside0 (w0.heap.size ≤ gb358) := ⟨h4_⟩
   have n5_ : Aside0 (g ≠ gb358) := ⟨h5_⟩
   have n6_ : Aside0 (gb358 ≠ g) := ⟨h6_⟩
   have n7_ : Aside0 (gb351 ≠ gb358) := ⟨h7_⟩
   have n8_ : Aside0 (gb358 ≠ gb351) := ⟨h8_⟩
   have n9_ : Aside0 (IsS112 w0 w13 g s0_0 t353 t354) := ⟨h9_⟩
   have n10_ : Aside0 (KeepBut w w13 g none) := ⟨h10_⟩
   have n11_ : Aside0 (Below w0.heap.size w0 w13) := ⟨h11_⟩
   clear BK351 HI0 HK HB h0_ h1_ h2_ h3_ h4_ h5_ h6_ h7_ h8_ h9_ h10_ h11_
   have HO357 := n0_
   have BK351 := n1_
   have BK358 := n2_
   have GW358 := n3_
   have GE358 := n4_
   have NB0_358 := n5_
   have NB358_0 := n6_
   have NB351_358 := n7_
   have NB358_351 := n8_
   have HI0 := n9_
   have HK := n10_
   have HB := n11_
   clear n0_ n1_ n2_ n3_ n4_ n5_ n6_ n7_ n8_ n9_ n10_ n11_
   have hHeld := trivial
   obtain ⟨Ao14, co14, eo14⟩ := Kd.R_slice HO357.out
   (first | subst eo14 | (injection eo14 with f1_ f2_ f3_; have f4_ := f1_.symm; have f5_ := f3_.symm; clear f1_ f2_ f3_; subst f4_; subst f5_))
   refine norm_ (a' := ?_) ?_ ?_
   rotate_left
   ·simp only [putAll, Act.put, List.setIfInBounds_toArray, List.set_cons_zero, List.set_cons_succ]
    rfl
   refine one_ (i := 7) (N := none) #[true, true, true, true, true, true, true, true] rfl rfl (one_of HT_.out (by kernel_rfl)) (by decide) (fun K hK => ?_)
   have hs15 : w13.cell? ⟨gb358, 0, none⟩ = some (.int .i64 0) := (blk_cell BK358.out 0).trans rfl
   have hfs15 := blk_frozen BK358.out 0
   have hns15_0 := NB351_358.out
   have hms15_0 := NB358_351.out
   have hs16 : w13.cell? ⟨gb358, 1, none⟩ = some (.slice none 0 0) := (blk_cell BK358.out 1).trans rfl
   have hfs16 := blk_frozen BK358.out 1
   have hns16_0 := NB351_358.out
   have hms16_0 := NB358_351.out
   refine skip_ (w1 := ?_) (by rfl) rfl ?_ ?_
   rotate_left
   ·go_simp
    rfl
   refine hK.out _ _ trivial (fun hHeld => ?_)
   clear hK K
   refine done_ (done_of HT_.out (by kernel_rfl)) ?_
   try go_wp2
   go_loopg [6] k (fun kq v6 w' => ∃ (x6_1 : Int) (x1001_1 : Int) (x1002_1 : Int) (x359001_1 : List Int) (u359001 : Value), v6 = .int .i64 x6_1 ∧ Aside0 (spec_l4Draw.l0 kq a1 x6_1 s0_0 x1001_1 x1002_1 (wrap64 (t352 - 4)) x359001_1 = some (r1, r2, r3, r4)) ∧ Aside0 (kq ≤ k) ∧ Aside0 (Kd.R (Kd.int .i64) 3 w' w.heap.size (fun _ => True) u359001 x359001_1) ∧ Aside0 (w'.heap[gb351]? = some (.cells #[.int .i64 0, (.slice none 0 0)] 29 (0, 0))) ∧ Aside0 (w'.heap[gb358]? = some (.cells #[.int .i64 (wrap64 (t352 - 4)), u359001] 29 (0, 0))) ∧ Aside0 (IsS112 w0 w' g s0_0 x1001_1 x1002_1) ∧ Aside0 (KeepBut w w' g none) ∧ Aside0 (Below w0.heap.size w0 w'))
   case atStart => exact ⟨(0), (t353), (t354), (y355), (.slice Ao14 y355.length co14), (by first | rfl | (simp; done) | (simp [*]; done)), H', ⟨Nat.le_refl _⟩, ⟨by (with_reducible repeat (first | apply Kd.R_alloc | apply Kd.R_drewN | apply Kd.R_drew)); exact Kd.R_mono (Kd.R_far (p := ⟨gb358, 1, none⟩) (Kd.R_far (p := ⟨gb358, 0, none⟩) (Kd.R_types HO357.out BK358.out (by decide)) (fun _ hk => hk.2) (.int .i64 (wrap64 (t352 - 4)))) (fun _ hk => hk.2) (.slice Ao14 y355.length co14)) (fun _ hk => trivial)⟩, ⟨mf BK351⟩, ⟨mq BK358⟩, ⟨IsS112.mi HI0⟩, ⟨mk HK⟩, ⟨IsS112.ms HB⟩⟩
   case round =>
    clear H'
    try clear c1
    try clear p2
    try clear p6
    try clear c11
    obtain ⟨x6_1, x1001_1, x1002_1, x359001_1, u359001, rfl, HA, HK1, HO_359001, BK351, BK358, HI0, HK, HB⟩ := hrel
    cases gk with
    | zero => exact absurd HA.out (by simp [spec_l4Draw.l0])
    | succ k1 =>
     have H := HA.out
     clear HA
     simp only [spec_l4Draw.l0] at H
     by_cases c17 : x6_1 < a1
     ·rw [if_pos c17] at H
      have c17b0 : decide (x6_1 < a1) = true := decide_eq_true c17
      clear c17
      obtain ⟨⟨t359, t360, t361⟩, A180, H⟩ := Option.bind_eq_some_iff.mp H
      try dsimp only at H
      have A18 := Aside0.mk A180; clear A180
      by_cases c19 : 0 ≤ x6_1
      ·rw [if_pos c19] at H
       have c19b0 : decide (0 ≤ x6_1) = true := decide_eq_true c19
       clear c19
       by_cases c20 : x6_1 < (x359001_1.length : Int)
       ·rw [if_pos c20] at H
        have c20b0 : decide (x6_1 < (x359001_1.length : Int)) = true := decide_eq_true c20
        clear c20
        obtain ⟨y362, hy362⟩ : ∃ y_ : List Int, y_ = (x359001_1.set (x6_1 : Int).toNat t359) := ⟨_, rfl⟩
        replace H : (spec_l4Draw.l0 k1 a1 (wrap64 (x6_1 + 1)) s0_0 t360 t361 (wrap64 (t352 - 4)) y362) = some (r1, r2, r3, r4) := by first | (rw [hy362]; with_reducible exact H) | (have H2_ := (Option.bind_some _ _).symm.trans H; rw [hy362]; with_reducible exact H2_) | (have H2_ := (Option.bind_some _ _).symm.trans H; with_reducible exact H2_) | with_reducible exact H | (rw [hy362]; exact H) | exact H
        have Ny362 := Aside0.mk hy362; clear hy362
        have H' := Aside0.mk H
        clear H
        try go_wp2
        replace HO_359001 := Aside0.mk (Kd.R_drew HO_359001.out)
        replace BK351 := Aside0.mk (blk_drew BK351.out)
        replace BK358 := Aside0.mk (blk_drew BK358.out)
        replace HI0 := Aside0.mk (IsS112.drew HI0.out)
        replace HK := Aside0.mk (keep_drew HK.out)
        replace HB := Aside0.mk (below_drew1 HB.out)
        refine start_ (n := 7) (S := fun w' => w'.cell? ⟨gb358, 0, none⟩ = some (.int .i64 (wrap64 (t352 - 4))) ∧ w'.cell? ⟨gb358, 1, none⟩ = some (u359001)) (ds := [6]) #[false, false, false, false, false, false, false] (by kernel_rfl) rfl rfl ⟨(c2 BK358).1, (c2 BK358).2⟩ (fun hHeld => ?_)
        generalize wr.drew = w22 at HO_359001 BK351 BK358 HI0 HK HB hHeld ⊢
        refine pure_ (i := 0) (N := some 18) (v := ?_) (a' := ?_) #[true, false, false, false, false, false, false] rfl rfl (by kernel_rfl) (fun _ _ _ h => h) (Or.inl ⟨by rfl, ?_⟩) ?_ ?_
        rotate_left
        ·intro w'
         go_simp
         with_reducible rfl
        rotate_left
        ·simp only [Act.put, z1, z2, z3, i64_w, i32_w]
         rfl
        refine pure_ (i := 2) (N := some 20) (v := ?_) (a' := ?_) #[true, false, true, false, false, false, false] rfl rfl (by kernel_rfl) (fun _ _ _ h => h) (Or.inl ⟨by rfl, ?_⟩) ?_ ?_
        rotate_left
        ·intro w'
         go_simp
         with_reducible rfl
        rotate_left
        ·simp only [Act.put, z1, z2, z3, i64_w, i32_w]
         rfl
        refine pure_ (i := 3) (N := some 21) (v := ?_) (a' := ?_) #[true, false, true, true, false, false, false] rfl rfl (by kernel_rfl) (fun _ _ _ h => h) (Or.inl ⟨by rfl, ?_⟩) ?_ ?_
        rotate_left
        ·intro w'
         go_simp
         with_reducible rfl
        rotate_left
        ·simp only [Act.put, z1, z2, z3, i64_w, i32_w]
         rfl
        refine take_ (i := 1) (N := some 19) (v := ?_) (a' := ?_) #[true, true, true, true, false, false, false] rfl rfl (by kernel_rfl) (fun _ _ _ h => h) (Or.inl ⟨by rfl, ?_⟩) hHeld ?_ ?_
        rotate_left
        ·rintro w' ⟨s0, s1⟩
         go_simp
         with_reducible rfl
        rotate_left
        ·simp only [Act.put, z1, z2, z3, i64_w, i32_w]
         rfl
        refine one_ (i := 4) (N := some 22) #[true, true, true, true, true, false, false] rfl rfl (by kernel_rfl) (by decide) (fun K hK => ?_)
        refine gs Try.func146 (by kernel_rfl) rfl #[.pointer (some ⟨g, 0, none⟩)] (by rfl) rfl rfl ?_
        with_reducible refine (spec_l4Small.calls g s0_0 x1001_1 x1002_1 t359 t360 t361 w0 _ ?side1 ?side2 A18.out).mono ?_
        (case side1 => exact IsS112.mi HI0)
        (case side2 => exact IsS112.ms HB)
        rintro e w23 ⟨rfl, hi, hb, hk⟩
        refine ⟨_, rfl, ?_⟩
        replace HO_359001 := Aside0.mk (Kd.R_mono (Kd.R_keep (IsS112.apart (show IsS112 w0 _ g s0_0 x1001_1 x1002_1 from IsS112.mi HI0) (mr HO_359001) (by decide)) hk (fun _ h => h.2)) (fun _ h => h.1))
        replace BK351 := Aside0.mk (KeepBut.blk hk (g' := gb351) (o := .cells #[.int .i64 0, .slice none 0 0] 29 (0, 0)) (mb BK351) NB351_0.out (by simp))
        replace BK358 := Aside0.mk (KeepBut.blk hk (g' := gb358) (o := .cells #[.int .i64 (wrap64 (t352 - 4)), u359001] 29 (0, 0)) (mb BK358) NB358_0.out (by simp))
        replace HK := Aside0.mk (KeepBut.trans (mk HK) hk (.inl rfl))
        replace HB := Aside0.mk (hb)
        replace HI0 := Aside0.mk (hi)
        (try clear hb)
        (try clear hb2)
        (try clear hk)
        (try clear hi)
        have p21 : 0 ≤ (x6_1 : Int) := of_decide_eq_true (by first | (with_reducible assumption) | assumption)
        have q21 : (x6_1 : Int) < ((x359001_1.length : Int) : Int) := of_decide_eq_true (by first | (with_reducible assumption) | assumption)
        obtain ⟨go21, co21, eo21, gb21, gl21, cl21, HG21⟩ := Kd.R_form HO_359001.out (by omega)
        (first | cases eo21 | (injection eo21 with ea_ en_ ec_; (first | subst ea_ | (injection ea_ with ea_; subst ea_)); subst ec_; clear en_))
        have GB21 := Aside0.mk gb21
        have GG21 := Aside0.mk HG21
        clear gb21 gl21 HG21
        obtain ⟨hx21_0, hf21_0⟩ := Kd.R_celln 0 HO_359001.out (x6_1 : Int) p21 q21
        replace p21 := eq_true p21
        replace q21 := eq_true q21
        have HN0_go21 := Aside0.mk (show g ≠ go21 from by have h_ := IsS112.own_ne HI0.out HO_359001.out (by decide); intro e_; exact h_ (by rw [e_]; rfl))
        have HP24 := Kd.R_putn HO_359001.out (x6_1 : Int) t359
        rw [← Ny362.out] at HP24
        have HQ24 := Aside0.mk HP24; clear HP24
        refine hK.out _ _ ⟨(c2 BK358).1, (c2 BK358).2⟩ (fun hHeld => ?_)
        clear hK K
        refine norm_ (a' := ?_) ?_ ?_
        rotate_left
        ·show Act.put _ (some 22) _ = _
         simp only [Act.put, z1, z2, z3, i64_w, i32_w]
         rfl
        refine pure_ (i := 5) (N := some 23) (v := ?_) (a' := ?_) #[true, true, true, true, true, true, false] rfl rfl (by kernel_rfl) (fun _ _ _ h => h) (Or.inl ⟨by rfl, ?_⟩) ?_ ?_
        rotate_left
        ·intro w'
         go_simp
         with_reducible rfl
        rotate_left
        ·simp only [Act.put, z1, z2, z3, i64_w, i32_w]
         rfl
        refine last_ (i := 6) (N := none) #[true, true, true, true, true, true, true] rfl rfl (by kernel_rfl) (by decide) (fun K hK => ?_)
        refine skip_ (w1 := ?_) (by rfl) rfl ?_ ?_
        rotate_left
        ·go_simp
         rfl
        refine hK.out _ _ ?_
        clear hK K
        refine done_ (by kernel_rfl) ?_
        try go_wp2
        go_roundg k1
        case measure => have := HK1.out; omega
        case rel => exact ⟨(wrap64 (x6_1 + 1)), (t360), (t361), (y362), (.slice (some ⟨go21, 0, none⟩) x359001_1.length co21), (by first | rfl | (simp; done) | (simp [*]; done)), H', ⟨by have := HK1.out; omega⟩, ⟨by (with_reducible repeat (first | apply Kd.R_alloc | apply Kd.R_drewN | apply Kd.R_drew)); exact HQ24.out⟩, ⟨by (with_reducible repeat (first | refine blk_drewN ?_ _ | refine blk_drew ?_ | refine blk_alloc ?_ _)); refine blk_far ?_ (by have h_ := Kd.R_ne HO_359001.out BK351.out (by decide); intro e_; exact h_ (by rw [e_]; rfl)) _; (with_reducible repeat (first | refine blk_drewN ?_ _ | refine blk_drew ?_ | refine blk_alloc ?_ _)); exact BK351.out⟩, ⟨by (with_reducible repeat (first | refine blk_drewN ?_ _ | refine blk_drew ?_ | refine blk_alloc ?_ _)); refine blk_far ?_ (by have h_ := Kd.R_ne HO_359001.out BK358.out (by decide); intro e_; exact h_ (by rw [e_]; rfl)) _; (with_reducible repeat (first | refine blk_drewN ?_ _ | refine blk_drew ?_ | refine blk_alloc ?_ _)); exact BK358.out⟩, ⟨IsS112.mi HI0⟩, ⟨mk HK⟩, ⟨by repeat (first | (with_reducible first | exact HB.out | apply below_alloc | apply pw_below_drewN | apply below_drew1 | refine below_set ?_ (Nat.le_trans HL.out GB21.out) | refine below_set ?_ (IsS112.ge HI0.out) | refine below_set ?_ GE351.out | refine below_set ?_ GE358.out) | exact HB.out)⟩⟩
       rw [if_neg c20] at H
       exact absurd H (by simp)
      rw [if_neg c19] at H
      exact absurd H (by simp)
     rw [if_neg c17] at H
     have c17b0 : decide (x6_1 < a1) = false := decide_eq_false c17
     clear c17
     simp only [Option.some.injEq, Prod.mk.injEq] at H
     obtain ⟨rfl, rfl, rfl, rfl⟩ := H
     have := NB358_351.out
     have := NB351_358.out
     have := NB358_0.out
     have := NB0_358.out
     obtain ⟨_, _, _, _⟩ := cFour BK358
     have := NB351_0.out
     have := NB0_351.out
     obtain ⟨_, _, _, _⟩ := cFour BK351
     obtain ⟨Ao30, co30, eo30⟩ := Kd.R_slice HO_359001.out
     subst eo30
     go_wp2
     refine bodyPost_ret (results_cell_row rfl _ _ gb351 29 #[.int .i64 (wrap64 (t352 - 4)), .slice Ao30 x359001_1.length co30] (0, 0) _ rfl (mq BK351) Try.underlying29 rfl (by kernel_rfl)) rfl ?_
     exact ⟨_, by first | rfl | (simp [errW_none, errW_some] <;> rfl) | (simp [*, errW_none, errW_some] <;> rfl), by (with_reducible repeat (first | apply Kd.R_alloc | apply Kd.R_drewN | apply Kd.R_drew)); exact Kd.R_mono (Kd.R_far (p := ⟨gb351, 1, none⟩) (Kd.R_far (p := ⟨gb351, 0, none⟩) (Kd.R_types HO_359001.out BK351.out (by decide)) (fun _ hk => hk.2) (.int .i64 (wrap64 (t352 - 4)))) (fun _ hk => hk.2) (.slice Ao30 x359001_1.length co30)) (fun _ hk => trivial), IsS112.mi HI0, IsS112.ms HB, mk HK⟩
  rw [if_neg c5] at H
  exact absurd H (by simp)
 rw [if_neg c4] at H
 exact absurd H (by simp)

end Go.Proofs.Ytlencemmlgkflaa.QFnEntailed
