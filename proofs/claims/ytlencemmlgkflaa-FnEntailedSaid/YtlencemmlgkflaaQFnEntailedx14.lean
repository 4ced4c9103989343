-- Made by a program of this claim's own (wip/print): not the kit's print as it stands.
import Derived.Test.YtlencemmlgkflaaUFnEntailedTri
import Derived.Test.YtlencemmlgkflaaQFnEntailedx0
import Derived.Test.YtlencemmlgkflaaQFnEntailedx12
import Derived.Test.YtlencemmlgkflaaQFnEntailedx13
namespace Go.Proofs.Ytlencemmlgkflaa.QFnEntailed
open Go.RowKit Go.Proofs.YtlencemmlgkflaaV.PrintWords Go.Proofs.YtlencemmlgkflaaV.PrintLast Go.Proofs.YtlencemmlgkflaaV.PrintMore
attribute [local go_sem] max2_int min2_int max_two min_two max_three min_three max_four min_four   -- for this text's walks alone
set_option linter.unusedVariables false
set_option linter.unusedSimpArgs false

/-! ### spec_l6Draw: function 115 -/
def spec_l6Draw.l0 : Nat → Int → Int → Int → List Int → Int → Int → Int → List (S29) → Option (Int × (List (S29)) × Int × Int)
 | 0, _, _, _, _, _, _, _, _ => none
 | k + 1, x1, x6, x7, x1000, x1001, x1002, x365000, x365001 => if x7 < x6 then ((spec_l4Draw.f k x1000 x1001 x1002 x1).bind fun bt368 => (if x365001.length < 4398046511104 then (spec_l6Draw.l0 k x1 x6 (wrap64 (x7 + 1)) x1000 bt368.2.2.1 bt368.2.2.2 x365000 (x365001 ++ [(⟨bt368.1, bt368.2.1⟩ : S29)])) else (none))) else (some (x365000, x365001, x1001, x1002))
def spec_l6Draw.f (k : Nat) (s0_0 : List Int) (s0_1 : Int) (s0_2 : Int) (a1 : Int) : Option (Int × (List (S29)) × Int × Int) := (spec_l1Below.f s0_0 s0_1 s0_2 5).bind fun bt365 => (spec_l6Draw.l0 k a1 bt365.1 0 s0_0 bt365.2.1 bt365.2.2 a1 ([] : List (S29)))
theorem spec_l6Draw.mono_l : ∀ k, (∀ y0 y1 y2 y3 y4 y5 y6 y7, LeO (spec_l6Draw.l0 k y0 y1 y2 y3 y4 y5 y6 y7) (spec_l6Draw.l0 (k + 1) y0 y1 y2 y3 y4 y5 y6 y7))
 | 0 => fun _ _ _ _ _ _ _ _ r h => by simp [spec_l6Draw.l0] at h
 | k + 1 => by
  have ih0 := spec_l6Draw.mono_l k
  ·intro y0 y1 y2 y3 y4 y5 y6 y7
   unfold spec_l6Draw.l0
   repeat' with_reducible first
   | exact ih0 _ _ _ _ _ _ _ _
   | exact spec_l4Draw.mono _ _ _ _ _
   | exact LeO.refl _
   | exact LeO.none _
   | refine LeO.ite ?_ ?_
   | refine LeO.bind ?_ (fun _ => ?_)
theorem spec_l6Draw.mono : ∀ a0 a1 a2 a3 k, LeO (spec_l6Draw.f k a0 a1 a2 a3) (spec_l6Draw.f (k + 1) a0 a1 a2 a3) := by
 intro a0 a1 a2 a3 k
 have ih0 := spec_l6Draw.mono_l k
 unfold spec_l6Draw.f
 repeat' with_reducible first
 | exact ih0 _ _ _ _ _ _ _ _
 | exact spec_l4Draw.mono _ _ _ _ _
 | exact LeO.refl _
 | exact LeO.none _
 | refine LeO.ite ?_ ?_
 | refine LeO.bind ?_ (fun _ => ?_)
def spec_l6Draw.T6 : Bool × List (List Nat × List Nat) := (true, [([], []), ([0], [0]), ([], []), ([], []), ([2, 3], [2, 3]), ([4], [4]), ([1, 5, 4], [1, 5]), ([0, 1, 2, 3, 4, 5, 6], []), ([7, 6, 6, 0, 1, 2, 3, 4, 5, 6], [6, 7])])
def spec_l6Draw.B6 : List Nat := [0, 1, 0, 0, 12, 28, 63, 127, 255]
theorem spec_l6Draw.tab6 : rtab .any (opsOf Try.f115 6) = spec_l6Draw.T6 := by kernel_rfl
theorem spec_l6Draw.bits6 : waitsOk spec_l6Draw.T6.2 spec_l6Draw.B6 = true := by kernel_rfl
set_option maxHeartbeats 8000000 in
set_option maxRecDepth 100000 in
theorem spec_l6Draw.calls (k : Nat) (g : Nat) (s0_0 : List Int) (s0_1 : Int) (s0_2 : Int) (a1 : Int) (r1 : Int) (r2 : List (S29)) (r3 : Int) (r4 : Int) (w0 w : World) (hI : IsS112 w0 w g s0_0 s0_1 s0_2) (hB : Below w0.heap.size w0 w) (h : spec_l6Draw.f k s0_0 s0_1 s0_2 a1 = some (r1, r2, r3, r4)) :
  Calls Try.prog 115 #[.pointer (some ⟨g, 0, none⟩), .int .i64 a1] w fun e w' => ∃ v1_ : Value, e = .returned (.agg #[.int .i64 r1, v1_]) ∧ Kd.S k29 29 w' w.heap.size (fun _ => True) v1_ r2 ∧ IsS112 w0 w' g s0_0 r3 r4 ∧ Below w0.heap.size w0 w' ∧ KeepBut w w' g none := by
 have hu26 := Try.underlying26
 have HI0 := Aside0.mk hI
 have HK := Aside0.mk (KeepBut.refl w g none)
 have HL := Aside0.mk hB.size
 clear hI
 have HW0 := Aside0.mk hB.size
 have HB := Aside0.mk hB; clear hB
 have H : ((spec_l1Below.f s0_0 s0_1 s0_2 5).bind fun bt365 => (spec_l6Draw.l0 k a1 bt365.1 0 s0_0 bt365.2.1 bt365.2.2 a1 ([] : List (S29)))) = some (r1, r2, r3, r4) := h
 clear h
 obtain ⟨⟨t365, t366, t367⟩, A30, H⟩ := Option.bind_eq_some_iff.mp H
 try dsimp only at H
 have A3 := Aside0.mk A30; clear A30
 have H' := Aside0.mk H
 clear H
 go_enter Try.func115, Try.ntmps115
 go_wp2_with (first | ((with_reducible refine gate_dst (N := 4) rfl ?_); refine box_event ?hg (N := 4) ?hd (cs := #[.int .i64 0, .slice none 0 0]) (t := 26) ?hr ?_; (case hd => rfl); (case hg => rfl); (case hr => first | (go_simp; done) | (go_simp; rfl)); intro gb363 hg w4 hbox hb; have n0_ := Aside0.mk (IsS112.below (IsS112.mi HI0) hb); have n1_ := Aside0.mk (KeepBut.trans (mk HK) (KeepBut.of_below hb g none) (.inl rfl)); have n2_ := Aside0.mk (below_step (IsS112.ms HB) hb); have n3_ := Aside0.mk (hbox); have n4_ := Aside0.mk ((by rw [hg]; exact (keep_size (w := w) (g := g) (row := none) (mk HK)) : w.heap.size ≤ gb363)); have n5_ := Aside0.mk ((Nat.le_trans HW0.out (by rw [hg]; exact (keep_size (w := w) (g := g) (row := none) (mk HK)) : w.heap.size ≤ gb363) : w0.heap.size ≤ gb363)); have n6_ := Aside0.mk ((by rw [hg]; exact Nat.ne_of_lt (IsS112.lt (show IsS112 w0 _ g s0_0 s0_1 s0_2 from IsS112.mi HI0)) : g ≠ gb363)); have n7_ := Aside0.mk ((by rw [hg]; exact Nat.ne_of_gt (IsS112.lt (show IsS112 w0 _ g s0_0 s0_1 s0_2 from IsS112.mi HI0)) : gb363 ≠ g)); clear HI0 HK HB; have HI0 := n0_; have HK := n1_; have HB := n2_; have BK363 := n3_; have GW363 := n4_; have GE363 := n5_; have NB0_363 := n6_; have NB363_0 := n7_; clear n0_ n1_ n2_ n3_ n4_ n5_ n6_ n7_; clear hb hbox hg) | ((with_reducible refine gate_dst (N := 5) rfl ?_); refine box_event ?hg (N := 5) ?hd (cs := #[.int .i64 0, .slice none 0 0]) (t := 26) ?hr ?_; (case hd => rfl); (case hg => rfl); (case hr => first | (go_simp; done) | (go_simp; rfl)); intro gb364 hg w5 hbox hb; have n0_ := Aside0.mk (IsS112.below (IsS112.mi HI0) hb); have n1_ := bb BK363 hb; have n2_ := Aside0.mk (KeepBut.trans (mk HK) (KeepBut.of_below hb g none) (.inl rfl)); have n3_ := Aside0.mk (below_step (IsS112.ms HB) hb); have n4_ := Aside0.mk (hbox); have n5_ := Aside0.mk ((by rw [hg]; exact (keep_size (w := w) (g := g) (row := none) (mk HK)) : w.heap.size ≤ gb364)); have n6_ := Aside0.mk ((Nat.le_trans HW0.out (by rw [hg]; exact (keep_size (w := w) (g := g) (row := none) (mk HK)) : w.heap.size ≤ gb364) : w0.heap.size ≤ gb364)); have n7_ := nl hg BK363; have n8_ := ng hg BK363; have n9_ := Aside0.mk ((by rw [hg]; exact Nat.ne_of_lt (IsS112.lt (show IsS112 w0 _ g s0_0 s0_1 s0_2 from IsS112.mi HI0)) : g ≠ gb364)); have n10_ := Aside0.mk ((by rw [hg]; exact Nat.ne_of_gt (IsS112.lt (show IsS112 w0 _ g s0_0 s0_1 s0_2 from IsS112.mi HI0)) : gb364 ≠ g)); clear HI0 BK363 HK HB; have HI0 := n0_; have BK363 := n1_; have HK := n2_; have HB := n3_; have BK364 := n4_; have GW364 := n5_; have GE364 := n6_; have NB363_364 := n7_; have NB364_363 := n8_; have NB0_364 := n9_; have NB364_0 := n10_; clear n0_ n1_ n2_ n3_ n4_ n5_ n6_ n7_ n8_ n9_ n10_; clear hb hbox hg; have := NB364_363.out; have := NB363_364.out; have := NB364_0.out; have := NB0_364.out; obtain ⟨hcz8_0, hcz8_1, hfz8_0, hfz8_1⟩ := cFour BK364) | ((with_reducible refine gate_callee (f := 116) rfl ?_); refine gl (some 11) rfl rfl Try.func116 (by kernel_rfl) rfl #[.pointer (some ⟨g, 0, none⟩), .int .i64 5] rfl ?_; (with_reducible refine (spec_l1Below.calls g s0_0 s0_1 s0_2 5 t365 t366 t367 w0 _ ?side1 ?side2 A3.out).mono ?_); (case side1 => exact IsS112.mi HI0); (case side2 => exact IsS112.ms HB); rintro e w9 ⟨rfl, hi, hb, hk⟩; refine ⟨_, rfl, ?_⟩; have n0_ := Aside0.mk (KeepBut.blk hk (g' := gb363) (o := .cells #[.int .i64 0, .slice none 0 0] 26 (0, 0)) (mf BK363) NB363_0.out (by simp)); have n1_ := Aside0.mk (KeepBut.blk hk (g' := gb364) (o := .cells #[.int .i64 a1, .slice none 0 0] 26 (0, 0)) (mq BK364) NB364_0.out (by simp)); have n2_ := Aside0.mk (KeepBut.trans (mk HK) hk (.inl rfl)); have n3_ := Aside0.mk (hb); have n4_ := Aside0.mk (hi); clear BK363 BK364 HK HB HI0; have BK363 := n0_; have BK364 := n1_; have HK := n2_; have HB := n3_; have HI0 := n4_; clear n0_ n1_ n2_ n3_ n4_; (try clear hb)))
 go_loopg [7] k (fun kq v7 w' => ∃ (x7_1 : Int) (x1001_1 : Int) (x1002_1 : Int) (x365001_1 : List (S29)) (u365001 : Value), v7 = .int .i64 x7_1 ∧ Aside0 (spec_l6Draw.l0 kq a1 t365 x7_1 s0_0 x1001_1 x1002_1 a1 x365001_1 = some (r1, r2, r3, r4)) ∧ Aside0 (kq ≤ k) ∧ Aside0 (Kd.S k29 29 w' w.heap.size (fun _ => True) u365001 x365001_1) ∧ Aside0 (w'.heap[gb363]? = some (.cells #[.int .i64 0, (.slice none 0 0)] 26 (0, 0))) ∧ Aside0 (w'.heap[gb364]? = some (.cells #[.int .i64 a1, u365001] 26 (0, 0))) ∧ Aside0 (IsS112 w0 w' g s0_0 x1001_1 x1002_1) ∧ Aside0 (KeepBut w w' g none) ∧ Aside0 (Below w0.heap.size w0 w'))
 case atStart => exact ⟨(0), (t366), (t367), (([] : List (S29))), (.slice none 0 0), (by first | rfl | (simp; done) | (simp [*]; done)), H', ⟨Nat.le_refl _⟩, ⟨by first | exact Kd.S_nil _ _ _ _ _ | exact Kd.N_nil _ _ _ _ _ | exact Kd.V_nil _ _ _ _ _ | exact Kd.Q_nil _ _ _ _ _ | exact Kd.R_nil _ _ _ _ _⟩, ⟨mb BK363⟩, ⟨mb BK364⟩, ⟨IsS112.mi HI0⟩, ⟨mk HK⟩, ⟨IsS112.ms HB⟩⟩
 case round =>
  clear H'
  try clear c1
  try clear p2
  try clear c6
  try clear c7
  try clear hcz8_0
  try clear hcz8_1
  try clear hfz8_0
  try clear hfz8_1
  obtain ⟨x7_1, x1001_1, x1002_1, x365001_1, u365001, rfl, HA, HK1, HO_365001, BK363, BK364, HI0, HK, HB⟩ := hrel
  cases gk with
  | zero => exact absurd HA.out (by simp [spec_l6Draw.l0])
  | succ k1 =>
   have H := HA.out
   clear HA
   simp only [spec_l6Draw.l0] at H
   by_cases c10 : x7_1 < t365
   ·rw [if_pos c10] at H
    have c10b0 : decide (x7_1 < t365) = true := decide_eq_true c10
    clear c10
    obtain ⟨⟨t368, t369, t372, t373⟩, A110, H⟩ := Option.bind_eq_some_iff.mp H
    try dsimp only at H
    have A11 := Aside0.mk A110; clear A110
    by_cases c12 : x365001_1.length < 4398046511104
    ·rw [if_pos c12] at H
     have LMc12 := Aside0.mk c12; clear c12
     obtain ⟨y374, hy374⟩ : ∃ y_ : List (S29), y_ = (x365001_1 ++ [(⟨t368, t369⟩ : S29)]) := ⟨_, rfl⟩
     replace H : (spec_l6Draw.l0 k1 a1 t365 (wrap64 (x7_1 + 1)) s0_0 t372 t373 a1 y374) = some (r1, r2, r3, r4) := by first | (rw [hy374]; with_reducible exact H) | (have H2_ := (Option.bind_some _ _).symm.trans H; rw [hy374]; with_reducible exact H2_) | (have H2_ := (Option.bind_some _ _).symm.trans H; with_reducible exact H2_) | with_reducible exact H | (rw [hy374]; exact H) | exact H
     have Ny374 := Aside0.mk hy374; clear hy374
     have H' := Aside0.mk H
     clear H
     try go_wp2
     replace HO_365001 := Aside0.mk (Kd.S_drew HO_365001.out)
     replace BK363 := Aside0.mk (blk_drew BK363.out)
     replace BK364 := Aside0.mk (blk_drew BK364.out)
     replace HI0 := Aside0.mk (IsS112.drew HI0.out)
     replace HK := Aside0.mk (keep_drew HK.out)
     replace HB := Aside0.mk (below_drew1 HB.out)
     refine start_ (n := 9) (S := fun w' => w'.cell? ⟨gb364, 0, none⟩ = some (.int .i64 a1) ∧ w'.cell? ⟨gb364, 1, none⟩ = some (u365001)) (ds := [8]) #[false, false, false, false, false, false, false, false, false] (by kernel_rfl) rfl rfl ⟨(c2 BK364).1, (c2 BK364).2⟩ (fun hHeld => ?_); refine with_tabW spec_l6Draw.tab6 spec_l6Draw.bits6 (fun HT_ HW_ => ?_)
     generalize wr.drew = w13 at HO_365001 BK363 BK364 HI0 HK HB hHeld ⊢
     refine pu 0 (some 17) (v := ?_) (a' := ?_) #[true, false, false, false, false, false, false, false, false] rfl rfl HT_ (fun _ _ _ h => h) (by rfl) ?_ ?_ ?_
     rotate_left
     ·intro w'
      go_simp
      with_reducible rfl
     rotate_left
     ·simp only [Act.put, z1, z2, z3, i64_w, i32_w]
      rfl
     refine pu 2 (some 19) (v := ?_) (a' := ?_) #[true, false, true, false, false, false, false, false, false] rfl rfl HT_ (fun _ _ _ h => h) (by rfl) ?_ ?_ ?_
     rotate_left
     ·intro w'
      go_simp
      with_reducible rfl
     rotate_left
     ·simp only [Act.put, z1, z2, z3, i64_w, i32_w]
      rfl
     refine pu 3 (some 20) (v := ?_) (a' := ?_) #[true, false, true, true, false, false, false, false, false] rfl rfl HT_ (fun _ _ _ h => h) (by rfl) ?_ ?_ ?_
     rotate_left
     ·intro w'
      go_simp
      with_reducible rfl
     rotate_left
     ·simp only [Act.put, z1, z2, z3, i64_w, i32_w]
      rfl
     refine tk 1 (some 18) (v := ?_) (a' := ?_) #[true, true, true, true, false, false, false, false, false] rfl rfl HT_ HW_ (fun _ _ _ h => h) (by rfl) ?_ hHeld ?_ ?_
     rotate_left
     ·rintro w' ⟨s0, s1⟩
      go_simp
      with_reducible rfl
     rotate_left
     ·simp only [Act.put, z1, z2, z3, i64_w, i32_w]
      rfl
     refine one_ (i := 4) (N := some 21) #[true, true, true, true, true, false, false, false, false] rfl rfl (one_of HT_.out (by kernel_rfl)) (by decide) (fun K hK => ?_)
     refine gs Try.func120 (by kernel_rfl) rfl #[.pointer (some ⟨g, 0, none⟩), .int .i64 a1] (by rfl) rfl rfl ?_
     with_reducible refine (spec_l4Draw.calls k1 g s0_0 x1001_1 x1002_1 a1 t368 t369 t372 t373 w0 _ ?side1 ?side2 A11.out).mono ?_
     (case side1 => exact IsS112.mi HI0)
     (case side2 => exact IsS112.ms HB)
     rintro e w14 ⟨v370, rfl, ho0, hi, hb, hk⟩
     refine ⟨_, rfl, ?_⟩
     replace HO_365001 := Aside0.mk (Kd.S_mono (Kd.S_told (Kd.S_oldK (IsS112.apartS (show IsS112 w0 _ g s0_0 x1001_1 x1002_1 from IsS112.mi HI0) (mS HO_365001) (by decide)) hk) (Kd.R_base ho0)) (fun _ h_ => h_.1))
     replace BK363 := Aside0.mk (KeepBut.blk hk (g' := gb363) (o := .cells #[.int .i64 0, .slice none 0 0] 26 (0, 0)) (mb BK363) NB363_0.out (by simp))
     replace BK364 := Aside0.mk (KeepBut.blk hk (g' := gb364) (o := .cells #[.int .i64 a1, u365001] 26 (0, 0)) (mb BK364) NB364_0.out (by simp))
     have HO371 := Aside0.mk (Kd.R_lower ho0 (keep_size (w := w) (g := g) (row := none) (mk HK)))
     replace HK := Aside0.mk (KeepBut.trans (mk HK) hk (.inl rfl))
     replace HB := Aside0.mk (hb)
     replace HI0 := Aside0.mk (hi)
     (try clear hb)
     (try clear hb2)
     (try clear hk)
     (try clear hi)
     (try clear ho0)
     obtain ⟨Ao16, co16, eo16⟩ := Kd.R_slice HO371.out
     (first | subst eo16 | (injection eo16 with f1_ f2_ f3_; have f4_ := f1_.symm; have f5_ := f3_.symm; clear f1_ f2_ f3_; subst f4_; subst f5_))
     refine hK.out _ _ ⟨(c2 BK364).1, (c2 BK364).2⟩ (fun hHeld => ?_)
     clear hK K
     refine norm_ (a' := ?_) ?_ ?_
     rotate_left
     ·show Act.put _ (some 21) _ = _
      simp only [Act.put, z1, z2, z3, i64_w, i32_w]
      rfl
     refine one_ (i := 5) (N := some 22) #[true, true, true, true, true, true, false, false, false] rfl rfl (one_of HT_.out (by kernel_rfl)) (by decide) (fun K hK => ?_)
     refine value_ (w1 := ?_) (v := ?_) (by rfl) rfl ?_ ?_
     rotate_left 2
     ·go_simp
      constructor
      ·rfl
      rfl
     refine hK.out _ _ ⟨(blk_cell (blk_alloc BK364.out _) 0).trans rfl, (blk_cell (blk_alloc BK364.out _) 1).trans rfl⟩ (fun hHeld => ?_)
     clear hK K
     refine norm_ (a' := ?_) ?_ ?_
     rotate_left
     ·show Act.put _ (some 22) _ = _
      simp only [Act.put, z1, z2, z3, i64_w, i32_w]
      rfl
     refine one_ (i := 6) (N := some 23) #[true, true, true, true, true, true, true, false, false] rfl rfl (one_of HT_.out (by kernel_rfl)) (by decide) (fun K hK => ?_)
     refine Kd.S_append_step k29 w.heap.size (by rfl) (.tmp 18) (.tmp 22) 24 29 (.agg #[(.int .i64 0), (.slice none 0 0)]) 32 rfl Try.underlying24 info29 rfl (by decide) (by omega) u365001 x365001_1 (⟨t368, t369⟩ : S29) [.int .i64 t368, .slice Ao16 t369.length co16] (fun _ => True) (fun k_ => some k_ = (.slice Ao16 t369.length co16 : Value).ownBlock) rfl rfl ?aP (fun k_ hk_ => ((Kd.R_mono (ok' := fun k_ => ((fun _ => True)) k_ ∧ some k_ ≠ (u365001 : Value).ownBlock) (Kd.R_apart' (HO371.out) (Kd.S_typed HO_365001.out) (by decide)) (fun k_ hk => ⟨trivial, hk.2⟩))).1 k_ hk_.symm) ?aF ?aO (Below.refl _ _) ?aS ?aL ?_
     (case aP => exact k29_mkM _ _ _ (⟨t368, t369⟩ : S29) (Kd.R_mono (Kd.R_tight rfl (Kd.R_mono (ok' := fun k_ => ((fun _ => True)) k_ ∧ some k_ ≠ (u365001 : Value).ownBlock) (Kd.R_apart' (HO371.out) (Kd.S_typed HO_365001.out) (by decide)) (fun k_ hk => ⟨trivial, hk.2⟩))) (fun _ h_ => h_)))
     (case aF => exact (fun _ _ => trivial))
     (case aO => exact (by (with_reducible repeat (first | apply Kd.S_alloc | apply Kd.S_drewN | apply Kd.S_drew)); exact Kd.S_mono HO_365001.out (fun k_ hk => ⟨trivial, fun e_ => hk.2 e_⟩)))
     (case aS => exact (keep_size (w := w) (g := g) (row := none) (mk HK)))
     (case aL => have := LMc12.out; omega)
     intro v375 w15 ho hb hg hat
     rw [← Ny374.out] at ho
     replace BK363 := Aside0.mk (blk_grown (g := gb363) (o := .cells #[.int .i64 0, .slice none 0 0] 26 (0, 0)) (mb BK363) hg (Kd.S_ne HO_365001.out BK363.out (by decide)))
     replace BK364 := Aside0.mk (blk_grown (g := gb364) (o := .cells #[.int .i64 a1, u365001] 26 (0, 0)) (mb BK364) hg (Kd.S_ne HO_365001.out BK364.out (by decide)))
     replace HB := Aside0.mk (below_weaken (IsS112.ms HB) HL.out hb)
     replace HI0 := Aside0.mk (IsS112.grown (IsS112.mi HI0) hg (IsS112.own_neS HI0.out HO_365001.out (by decide)))
     replace HK := Aside0.mk (KeepBut.trans (mk HK) (KeepBut.of_grown hg g) (Kd.S_base2 HO_365001.out))
     have HO376 := Aside0.mk (ho)
     clear HO_365001 HO371 ho hb hg hat
     obtain ⟨Ao17, co17, eo17⟩ := Kd.S_slice HO376.out
     (first | subst eo17 | (injection eo17 with f1_ f2_ f3_; have f4_ := f1_.symm; have f5_ := f3_.symm; clear f1_ f2_ f3_; subst f4_; subst f5_))
     refine hK.out _ _ ⟨(c2 BK364).1, (c2 BK364).2⟩ (fun hHeld => ?_)
     clear hK K
     refine norm_ (a' := ?_) ?_ ?_
     rotate_left
     ·show Act.put _ (some 23) _ = _
      simp only [Act.put, z1, z2, z3, i64_w, i32_w]
      rfl
     refine pu 7 (some 24) (v := ?_) (a' := ?_) #[true, true, true, true, true, true, true, true, false] rfl rfl HT_ (fun _ _ _ h => h) (by rfl) ?_ ?_ ?_
     rotate_left
     ·intro w'
      go_simp
      with_reducible rfl
     rotate_left
     ·simp only [Act.put, z1, z2, z3, i64_w, i32_w]
      rfl
     refine last_ (i := 8) (N := none) #[true, true, true, true, true, true, true, true, true] rfl rfl (one_of HT_.out (by kernel_rfl)) (by decide) (fun K hK => ?_)
     have hs18 : w15.cell? ⟨gb364, 1, none⟩ = some (u365001) := (blk_cell BK364.out 1).trans rfl
     have hfs18 := blk_frozen BK364.out 1
     have hns18_0 := NB363_364.out
     have hms18_0 := NB364_363.out
     refine skip_ (w1 := ?_) (by rfl) rfl ?_ ?_
     rotate_left
     ·go_simp
      rfl
     refine hK.out _ _ ?_
     clear hK K
     refine done_ (done_of HT_.out (by kernel_rfl)) ?_
     try go_wp2
     go_roundg k1
     case measure => have := HK1.out; omega
     case rel => exact ⟨(wrap64 (x7_1 + 1)), (t372), (t373), (y374), (.slice Ao17 y374.length co17), (by first | rfl | (simp; done) | (simp [*]; done)), H', ⟨by have := HK1.out; omega⟩, ⟨by (with_reducible repeat (first | apply Kd.S_alloc | apply Kd.S_drewN | apply Kd.S_drew)); exact Kd.S_mono (Kd.S_far (p := ⟨gb364, 1, none⟩) (Kd.S_types HO376.out BK364.out (by decide)) (fun _ hk => hk.2) (.slice Ao17 y374.length co17)) (fun _ hk => trivial)⟩, ⟨mf BK363⟩, ⟨by (with_reducible repeat (first | refine blk_drewN ?_ _ | refine blk_drew ?_ | refine blk_alloc ?_ _)); refine blk_put (cs := #[.int .i64 a1, u365001]) ?_ 1 _ rfl; (with_reducible repeat (first | refine blk_drewN ?_ _ | refine blk_drew ?_ | refine blk_alloc ?_ _)); exact BK364.out⟩, ⟨IsS112.mi HI0⟩, ⟨mk HK⟩, ⟨IsS112.ms HB⟩⟩
    rw [if_neg c12] at H
    exact absurd H (by simp)
   rw [if_neg c10] at H
   have c10b0 : decide (x7_1 < t365) = false := decide_eq_false c10
   clear c10
   simp only [Option.some.injEq, Prod.mk.injEq] at H
   obtain ⟨rfl, rfl, rfl, rfl⟩ := H
   have := NB364_363.out
   have := NB363_364.out
   have := NB364_0.out
   have := NB0_364.out
   obtain ⟨_, _, _, _⟩ := cFour BK364
   have := NB363_0.out
   have := NB0_363.out
   obtain ⟨_, _, _, _⟩ := cFour BK363
   obtain ⟨Ao24, co24, eo24⟩ := Kd.S_slice HO_365001.out
   subst eo24
   go_wp2
   refine bodyPost_ret (results_cell_row rfl _ _ gb363 26 #[.int .i64 a1, .slice Ao24 x365001_1.length co24] (0, 0) _ rfl (mq BK363) Try.underlying26 rfl (by kernel_rfl)) rfl ?_
   exact ⟨_, by first | rfl | (simp [errW_none, errW_some] <;> rfl) | (simp [*, errW_none, errW_some] <;> rfl), by (with_reducible repeat (first | apply Kd.S_alloc | apply Kd.S_drewN | apply Kd.S_drew)); exact Kd.S_mono (Kd.S_far (p := ⟨gb363, 1, none⟩) (Kd.S_far (p := ⟨gb363, 0, none⟩) (Kd.S_types HO_365001.out BK363.out (by decide)) (fun _ hk => hk.2) (.int .i64 a1)) (fun _ hk => hk.2) (.slice Ao24 x365001_1.length co24)) (fun _ hk => trivial), IsS112.mi HI0, IsS112.ms HB, mk HK⟩

/-! ### spec_l3Any: function 145 -/
def spec_l3Any.f (s0_0 : List Int) (s0_1 : Int) (s0_2 : Int) : Option (Int × Int × Int) := (spec_l1PickInt.f s0_0 s0_1 s0_2 (([0, 1, (-1), 2, 5, (-6), 12, 1000000, (-1000001), 1000000000, (-1000000000), 1000000001, 40000, 9223372036854775807, (-9223372036854775808)] : List Int))).bind fun bt380 => (some (bt380.1, bt380.2.1, bt380.2.2))
set_option maxHeartbeats 8000000 in
set_option maxRecDepth 100000 in
theorem spec_l3Any.calls (g : Nat) (s0_0 : List Int) (s0_1 : Int) (s0_2 : Int) (r1 : Int) (r2 : Int) (r3 : Int) (w0 w : World) (hI : IsS112 w0 w g s0_0 s0_1 s0_2) (hB : Below w0.heap.size w0 w) (h : spec_l3Any.f s0_0 s0_1 s0_2 = some (r1, r2, r3)) :
  Calls Try.prog 145 #[.pointer (some ⟨g, 0, none⟩)] w fun e w' => e = .returned (.int .i64 r1) ∧ IsS112 w0 w' g s0_0 r2 r3 ∧ Below w0.heap.size w0 w' ∧ KeepBut w w' g none := by
 have HI0 := Aside0.mk hI
 have HK := Aside0.mk (KeepBut.refl w g none)
 have HL := Aside0.mk hB.size
 clear hI
 have HW0 := Aside0.mk hB.size
 have HB := Aside0.mk hB; clear hB
 have H : ((spec_l1PickInt.f s0_0 s0_1 s0_2 (([0, 1, (-1), 2, 5, (-6), 12, 1000000, (-1000001), 1000000000, (-1000000000), 1000000001, 40000, 9223372036854775807, (-9223372036854775808)] : List Int))).bind fun bt380 => (some (bt380.1, bt380.2.1, bt380.2.2))) = some (r1, r2, r3) := h
 clear h
 obtain ⟨y377, hy377⟩ : ∃ y_ : List Int, y_ = (([0, 1, (-1), 2, 5, (-6), 12, 1000000, (-1000001), 1000000000, (-1000000000), 1000000001, 40000, 9223372036854775807, (-9223372036854775808)] : List Int)) := ⟨_, rfl⟩
 replace H : ((spec_l1PickInt.f s0_0 s0_1 s0_2 y377).bind fun bt380 => (some (bt380.1, bt380.2.1, bt380.2.2))) = some (r1, r2, r3) := by first | (rw [hy377]; with_reducible exact H) | (have H2_ := (Option.bind_some _ _).symm.trans H; rw [hy377]; with_reducible exact H2_) | (have H2_ := (Option.bind_some _ _).symm.trans H; with_reducible exact H2_) | with_reducible exact H | (rw [hy377]; exact H) | exact H
 have Ny377 := Aside0.mk hy377; clear hy377
 obtain ⟨⟨t380, t381, t382⟩, A20, H⟩ := Option.bind_eq_some_iff.mp H
 try dsimp only at H
 have A2 := Aside0.mk A20; clear A20
 simp only [Option.some.injEq, Prod.mk.injEq] at H
 obtain ⟨rfl, rfl, rfl⟩ := H
 go_enter Try.func145, Try.ntmps145
 go_wp2_with (first | ((with_reducible refine gate_dst (N := 4) rfl ?_); refine Kd.R_lit (Kd.int .i64) _ 3 ?hg (N := 4) ?hd (xs := ([0, 1, (-1), 2, 5, (-6), 12, 1000000, (-1000001), 1000000000, (-1000000000), 1000000001, 40000, 9223372036854775807, (-9223372036854775808)] : List Int)) (inner := [.int .i64 0, .int .i64 1, .int .i64 (-1), .int .i64 2, .int .i64 5, .int .i64 (-6), .int .i64 12, .int .i64 1000000, .int .i64 (-1000001), .int .i64 1000000000, .int .i64 (-1000000000), .int .i64 1000000001, .int .i64 40000, .int .i64 9223372036854775807, .int .i64 (-9223372036854775808)]) (ok := fun _ => True) (okp := fun _ => True) ?hr ?hp (fun _ hk => hk) trivial (Below.refl _ _) (Nat.le_refl _) (by simp) ?_; (case hd => rfl); (case hg => rfl); (case hr => first | (go_simp; done) | (go_simp; rfl)); (case hp => exact (Reps.one (show Kd.M (Kd.int .i64) _ _ _ 0 [.int .i64 0] from rfl) (Reps.one (show Kd.M (Kd.int .i64) _ _ _ 1 [.int .i64 1] from rfl) (Reps.one (show Kd.M (Kd.int .i64) _ _ _ (-1) [.int .i64 (-1)] from rfl) (Reps.one (show Kd.M (Kd.int .i64) _ _ _ 2 [.int .i64 2] from rfl) (Reps.one (show Kd.M (Kd.int .i64) _ _ _ 5 [.int .i64 5] from rfl) (Reps.one (show Kd.M (Kd.int .i64) _ _ _ (-6) [.int .i64 (-6)] from rfl) (Reps.one (show Kd.M (Kd.int .i64) _ _ _ 12 [.int .i64 12] from rfl) (Reps.one (show Kd.M (Kd.int .i64) _ _ _ 1000000 [.int .i64 1000000] from rfl) (Reps.one (show Kd.M (Kd.int .i64) _ _ _ (-1000001) [.int .i64 (-1000001)] from rfl) (Reps.one (show Kd.M (Kd.int .i64) _ _ _ 1000000000 [.int .i64 1000000000] from rfl) (Reps.one (show Kd.M (Kd.int .i64) _ _ _ (-1000000000) [.int .i64 (-1000000000)] from rfl) (Reps.one (show Kd.M (Kd.int .i64) _ _ _ 1000000001 [.int .i64 1000000001] from rfl) (Reps.one (show Kd.M (Kd.int .i64) _ _ _ 40000 [.int .i64 40000] from rfl) (Reps.one (show Kd.M (Kd.int .i64) _ _ _ 9223372036854775807 [.int .i64 9223372036854775807] from rfl) (Reps.one (show Kd.M (Kd.int .i64) _ _ _ (-9223372036854775808) [.int .i64 (-9223372036854775808)] from rfl) (Reps.none _ _))))))))))))))))); intro v378 w3 ho4 hb hg_ hnew_; clear hg_ hnew_; (first | rw [← Ny377.out] at ho4 | (simp only [Int.reduceToNat] at ho4; rw [← Ny377.out] at ho4)); have HO379 := Aside0.mk (Kd.R_lower ho4 (keep_size (w := w) (g := g) (row := none) (mk HK))); replace HK := Aside0.mk (KeepBut.trans (mk HK) (KeepBut.of_below hb g none) (.inl rfl)); replace HB := Aside0.mk (below_step (IsS112.ms HB) hb); replace HI0 := Aside0.mk (IsS112.below (IsS112.mi HI0) hb); clear hb ho4; obtain ⟨Ao5, co5, eo5⟩ := Kd.R_slice HO379.out; subst eo5) | ((with_reducible refine gate_callee (f := 117) rfl ?_); refine gl (some 5) rfl rfl Try.func117 (by kernel_rfl) rfl #[.pointer (some ⟨g, 0, none⟩), .slice Ao5 y377.length co5] rfl ?_; (with_reducible refine (spec_l1PickInt.calls g s0_0 s0_1 s0_2 _ _ y377 t380 t381 t382 w0 _ ?side1 ?side2 ?side3 ?side4 ?side5 A2.out).mono ?_); (case side1 => exact IsS112.mi HI0); (case side2 => exact IsS112.ms HB); (case side3 => exact mc ((Kd.R_reads' HO379.out).2.2)); (case side4 => exact (Kd.R_reads' HO379.out).2.1); (case side5 => exact far_slice (IsS112.own_ne HI0.out HO379.out (by decide))); rintro e w6 ⟨rfl, hi, hb, hk⟩; refine ⟨_, rfl, ?_⟩; replace HO379 := Aside0.mk (Kd.R_mono (Kd.R_keep (IsS112.apart (show IsS112 w0 _ g s0_0 s0_1 s0_2 from IsS112.mi HI0) (mr HO379) (by decide)) hk (fun _ h => h.2)) (fun _ h => h.1)); replace HK := Aside0.mk (KeepBut.trans (mk HK) hk (.inl rfl)); replace HB := Aside0.mk (hb); replace HI0 := Aside0.mk (hi); (try clear hb)))
 go_ret
 exact ⟨by first | rfl | (simp [errW_none, errW_some] <;> rfl) | (simp [*, errW_none, errW_some] <;> rfl), IsS112.mi HI0, IsS112.ms HB, mk HK⟩

/-! ### spec_l4Bent: function 118 -/
def spec_l4Bent.f (k : Nat) (s0_0 : List Int) (s0_1 : Int) (s0_2 : Int) : Option (Int × List Int × Int × Int) := (spec_l1Below.f s0_0 s0_1 s0_2 4).bind fun bt384 => ((spec_l4Draw.f k s0_0 bt384.2.1 bt384.2.2 bt384.1).bind fun bt387 => ((spec_l1Below.f s0_0 bt387.2.2.1 bt387.2.2.2 10).bind fun bt394 => (if bt394.1 = 0 then ((spec_l3Any.f s0_0 bt394.2.1 bt394.2.2).bind fun bt397 => (some (bt397.1, bt387.2.1, bt397.2.1, bt397.2.2))) else (if bt394.1 = 1 then ((spec_l3Any.f s0_0 bt394.2.1 bt394.2.2).bind fun bt400 => (if bt387.2.1.length < 17592186044416 then (some (bt387.1, (bt387.2.1 ++ [bt400.1]), bt400.2.1, bt400.2.2)) else (none))) else (if bt394.1 = 2 then (if 9 ≤ 35184372088832 then (some (bt387.1, (List.replicate 9 0), bt394.2.1, bt394.2.2)) else (none)) else (some (bt387.1, bt387.2.1, bt394.2.1, bt394.2.2)))))))
theorem spec_l4Bent.mono : ∀ a0 a1 a2 k, LeO (spec_l4Bent.f k a0 a1 a2) (spec_l4Bent.f (k + 1) a0 a1 a2) := by
 intro a0 a1 a2 k
 unfold spec_l4Bent.f
 repeat' with_reducible first
 | exact spec_l4Draw.mono _ _ _ _ _
 | exact LeO.refl _
 | exact LeO.none _
 | refine LeO.ite ?_ ?_
 | refine LeO.bind ?_ (fun _ => ?_)
def spec_l4Bent.T6 : Bool × List (List Nat × List Nat) := (true, [([], []), ([0], [0]), ([], []), ([2], [2]), ([3], [3]), ([1, 4, 3], [1, 4]), ([0, 1, 2, 3, 4, 5], []), ([6, 5, 5, 0, 1, 2, 3, 4, 5], [5, 6])])
def spec_l4Bent.B6 : List Nat := [0, 1, 0, 4, 12, 31, 63, 127]
theorem spec_l4Bent.tab6 : rtab .any (opsOf Try.f118 6) = spec_l4Bent.T6 := by kernel_rfl
theorem spec_l4Bent.bits6 : waitsOk spec_l4Bent.T6.2 spec_l4Bent.B6 = true := by kernel_rfl
set_option maxHeartbeats 8000000 in
set_option maxRecDepth 100000 in
theorem spec_l4Bent.calls (k : Nat) (g : Nat) (s0_0 : List Int) (s0_1 : Int) (s0_2 : Int) (r1 : Int) (r2 : List Int) (r3 : Int) (r4 : Int) (w0 w : World) (hI : IsS112 w0 w g s0_0 s0_1 s0_2) (hB : Below w0.heap.size w0 w) (h : spec_l4Bent.f k s0_0 s0_1 s0_2 = some (r1, r2, r3, r4)) :
  Calls Try.prog 118 #[.pointer (some ⟨g, 0, none⟩)] w fun e w' => ∃ v1_ : Value, e = .returned (.agg #[.int .i64 r1, v1_]) ∧ Kd.R (Kd.int .i64) 3 w' w.heap.size (fun _ => True) v1_ r2 ∧ IsS112 w0 w' g s0_0 r3 r4 ∧ Below w0.heap.size w0 w' ∧ KeepBut w w' g none := by
 have hu29 := Try.underlying29
 have HI0 := Aside0.mk hI
 have HK := Aside0.mk (KeepBut.refl w g none)
 have HL := Aside0.mk hB.size
 clear hI
 have HW0 := Aside0.mk hB.size
 have HB := Aside0.mk hB; clear hB
 have H : ((spec_l1Below.f s0_0 s0_1 s0_2 4).bind fun bt384 => ((spec_l4Draw.f k s0_0 bt384.2.1 bt384.2.2 bt384.1).bind fun bt387 => ((spec_l1Below.f s0_0 bt387.2.2.1 bt387.2.2.2 10).bind fun bt394 => (if bt394.1 = 0 then ((spec_l3Any.f s0_0 bt394.2.1 bt394.2.2).bind fun bt397 => (some (bt397.1, bt387.2.1, bt397.2.1, bt397.2.2))) else (if bt394.1 = 1 then ((spec_l3Any.f s0_0 bt394.2.1 bt394.2.2).bind fun bt400 => (if bt387.2.1.length < 17592186044416 then (some (bt387.1, (bt387.2.1 ++ [bt400.1]), bt400.2.1, bt400.2.2)) else (none))) else (if bt394.1 = 2 then (if 9 ≤ 35184372088832 then (some (bt387.1, (List.replicate 9 0), bt394.2.1, bt394.2.2)) else (none)) else (some (bt387.1, bt387.2.1, bt394.2.1, bt394.2.2)))))))) = some (r1, r2, r3, r4) := h
 clear h
 obtain ⟨⟨t384, t385, t386⟩, A20, H⟩ := Option.bind_eq_some_iff.mp H
 try dsimp only at H
 have A2 := Aside0.mk A20; clear A20
 obtain ⟨⟨t387, t388, t391, t392⟩, A30, H⟩ := Option.bind_eq_some_iff.mp H
 try dsimp only at H
 have A3 := Aside0.mk A30; clear A30
 obtain ⟨⟨t394, t395, t396⟩, A40, H⟩ := Option.bind_eq_some_iff.mp H
 try dsimp only at H
 have A4 := Aside0.mk A40; clear A40
 by_cases c5 : t394 = 0
 ·rw [if_pos c5] at H
  have c5b0 : (t394 == 0) = true := beq_iff_eq.mpr c5
  have c5b1 : (t394 != 0) = false := bne_eq_false_iff_eq.mpr c5
  clear c5
  obtain ⟨⟨t397, t398, t399⟩, A60, H⟩ := Option.bind_eq_some_iff.mp H
  try dsimp only at H
  have A6 := Aside0.mk A60; clear A60
  simp only [Option.some.injEq, Prod.mk.injEq] at H
  obtain ⟨rfl, rfl, rfl, rfl⟩ := H
  go_enter Try.func118, Try.ntmps118
  go_wp2_with (first | ((with_reducible refine gate_dst (N := 2) rfl ?_); refine box_event ?hg (N := 2) ?hd (cs := #[.int .i64 0, .slice none 0 0]) (t := 29) ?hr ?_; (case hd => rfl); (case hg => rfl); (case hr => first | (go_simp; done) | (go_simp; rfl)); intro gb383 hg w7 hbox hb; have n0_ := Aside0.mk (IsS112.below (IsS112.mi HI0) hb); have n1_ := Aside0.mk (KeepBut.trans (mk HK) (KeepBut.of_below hb g none) (.inl rfl)); have n2_ := Aside0.mk (below_step (IsS112.ms HB) hb); have n3_ := Aside0.mk (hbox); have n4_ := Aside0.mk ((by rw [hg]; exact (keep_size (w := w) (g := g) (row := none) (mk HK)) : w.heap.size ≤ gb383)); have n5_ := Aside0.mk ((Nat.le_trans HW0.out (by rw [hg]; exact (keep_size (w := w) (g := g) (row := none) (mk HK)) : w.heap.size ≤ gb383) : w0.heap.size ≤ gb383)); have n6_ := Aside0.mk ((by rw [hg]; exact Nat.ne_of_lt (IsS112.lt (show IsS112 w0 _ g s0_0 s0_1 s0_2 from IsS112.mi HI0)) : g ≠ gb383)); have n7_ := Aside0.mk ((by rw [hg]; exact Nat.ne_of_gt (IsS112.lt (show IsS112 w0 _ g s0_0 s0_1 s0_2 from IsS112.mi HI0)) : gb383 ≠ g)); clear HI0 HK HB; have HI0 := n0_; have HK := n1_; have HB := n2_; have BK383 := n3_; have GW383 := n4_; have GE383 := n5_; have NB0_383 := n6_; have NB383_0 := n7_; clear n0_ n1_ n2_ n3_ n4_ n5_ n6_ n7_; clear hb hbox hg) | ((with_reducible refine gate_callee (f := 116) rfl ?_); refine gl (some 6) rfl rfl Try.func116 (by kernel_rfl) rfl #[.pointer (some ⟨g, 0, none⟩), .int .i64 4] rfl ?_; (with_reducible refine (spec_l1Below.calls g s0_0 s0_1 s0_2 4 t384 t385 t386 w0 _ ?side1 ?side2 A2.out).mono ?_); (case side1 => exact IsS112.mi HI0); (case side2 => exact IsS112.ms HB); rintro e w8 ⟨rfl, hi, hb, hk⟩; refine ⟨_, rfl, ?_⟩; replace BK383 := Aside0.mk (KeepBut.blk hk (g' := gb383) (o := .cells #[.int .i64 0, .slice none 0 0] 29 (0, 0)) (mb BK383) NB383_0.out (by simp)); replace HK := Aside0.mk (KeepBut.trans (mk HK) hk (.inl rfl)); replace HB := Aside0.mk (hb); replace HI0 := Aside0.mk (hi); (try clear hb)) | ((with_reducible refine gate_callee (f := 120) rfl ?_); refine gl (some 7) rfl rfl Try.func120 (by kernel_rfl) rfl #[.pointer (some ⟨g, 0, none⟩), .int .i64 t384] rfl ?_; (with_reducible refine (spec_l4Draw.calls k g s0_0 t385 t386 t384 t387 t388 t391 t392 w0 _ ?side1 ?side2 A3.out).mono ?_); (case side1 => exact IsS112.mi HI0); (case side2 => exact IsS112.ms HB); rintro e w9 ⟨v389, rfl, ho0, hi, hb, hk⟩; refine ⟨_, rfl, ?_⟩; replace BK383 := Aside0.mk (KeepBut.blk hk (g' := gb383) (o := .cells #[.int .i64 0, .slice none 0 0] 29 (0, 0)) (mb BK383) NB383_0.out (by simp)); have HO390 := Aside0.mk (Kd.R_lower ho0 (keep_size (w := w) (g := g) (row := none) (mk HK))); replace HK := Aside0.mk (KeepBut.trans (mk HK) hk (.inl rfl)); replace HB := Aside0.mk (hb); replace HI0 := Aside0.mk (hi); (try clear hb); (try clear ho0)) | ((with_reducible refine gate_dst (N := 3) rfl ?_); refine box_event ?hg (N := 3) ?hd (cs := #[.int .i64 0, .slice none 0 0]) (t := 29) ?hr ?_; (case hd => rfl); (case hg => rfl); (case hr => first | (go_simp; done) | (go_simp; rfl)); intro gb393 hg w10 hbox hb; have n0_ := rb HO390 hb; have n1_ := Aside0.mk (IsS112.below (IsS112.mi HI0) hb); have n2_ := bb BK383 hb; have n3_ := Aside0.mk (KeepBut.trans (mk HK) (KeepBut.of_below hb g none) (.inl rfl)); have n4_ := Aside0.mk (below_step (IsS112.ms HB) hb); have n5_ := Aside0.mk (hbox); have n6_ := Aside0.mk ((by rw [hg]; exact (keep_size (w := w) (g := g) (row := none) (mk HK)) : w.heap.size ≤ gb393)); have n7_ := Aside0.mk ((Nat.le_trans HW0.out (by rw [hg]; exact (keep_size (w := w) (g := g) (row := none) (mk HK)) : w.heap.size ≤ gb393) : w0.heap.size ≤ gb393)); have n8_ := nl hg BK383; have n9_ := ng hg BK383; have n10_ := Aside0.mk ((by rw [hg]; exact Nat.ne_of_lt (IsS112.lt (show IsS112 w0 _ g s0_0 t391 t392 from IsS112.mi HI0)) : g ≠ gb393)); have n11_ := Aside0.mk ((by rw [hg]; exact Nat.ne_of_gt (IsS112.lt (show IsS112 w0 _ g s0_0 t391 t392 from IsS112.mi HI0)) : gb393 ≠ g)); clear HO390 HI0 BK383 HK HB; have HO390 := n0_; have HI0 := n1_; have BK383 := n2_; have HK := n3_; have HB := n4_; have BK393 := n5_; have GW393 := n6_; have GE393 := n7_; have NB383_393 := n8_; have NB393_383 := n9_; have NB0_393 := n10_; have NB393_0 := n11_; clear n0_ n1_ n2_ n3_ n4_ n5_ n6_ n7_ n8_ n9_ n10_ n11_; clear hb hbox hg; have := NB393_383.out; have := NB383_393.out; have := NB393_0.out; have := NB0_393.out; obtain ⟨_, _, _, _⟩ := cFour BK393; obtain ⟨Ao14, co14, eo14⟩ := Kd.R_slice HO390.out; subst eo14) | ((with_reducible refine gate_callee (f := 116) rfl ?_); refine gl (some 9) rfl rfl Try.func116 (by kernel_rfl) rfl #[.pointer (some ⟨g, 0, none⟩), .int .i64 10] rfl ?_; (with_reducible refine (spec_l1Below.calls g s0_0 t391 t392 10 t394 t395 t396 w0 _ ?side1 ?side2 A4.out).mono ?_); (case side1 => exact IsS112.mi HI0); (case side2 => exact IsS112.ms HB); rintro e w15 ⟨rfl, hi, hb, hk⟩; refine ⟨_, rfl, ?_⟩; have n0_ := Aside0.mk (KeepBut.blk hk (g' := gb383) (o := .cells #[.int .i64 0, .slice none 0 0] 29 (0, 0)) (mf BK383) NB383_0.out (by simp)); have n1_ := Aside0.mk (Kd.R_mono (Kd.R_keep (IsS112.apart (show IsS112 w0 _ g s0_0 t391 t392 from IsS112.mi HI0) (by (with_reducible repeat (first | apply Kd.R_alloc | apply Kd.R_drewN | apply Kd.R_drew)); exact (rTwo HO390 BK393)) (by decide)) hk (fun _ h => h.2)) (fun _ h => h.1)); have n2_ := Aside0.mk (KeepBut.blk hk (g' := gb393) (o := .cells #[.int .i64 t387, .slice Ao14 t388.length co14] 29 (0, 0)) (mq BK393) NB393_0.out (by simp)); have n3_ := Aside0.mk (KeepBut.trans (mk HK) hk (.inl rfl)); have n4_ := Aside0.mk (hb); have n5_ := Aside0.mk (hi); clear BK383 HO390 BK393 HK HB HI0; have BK383 := n0_; have HO390 := n1_; have BK393 := n2_; have HK := n3_; have HB := n4_; have HI0 := n5_; clear n0_ n1_ n2_ n3_ n4_ n5_; (try clear hb)) | ((with_reducible refine gate_callee (f := 145) rfl ?_); refine gl (some 13) rfl rfl Try.func145 (by kernel_rfl) rfl #[.pointer (some ⟨g, 0, none⟩)] rfl ?_; (with_reducible refine (spec_l3Any.calls g s0_0 t395 t396 t397 t398 t399 w0 _ ?side1 ?side2 A6.out).mono ?_); (case side1 => exact IsS112.mi HI0); (case side2 => exact IsS112.ms HB); rintro e w16 ⟨rfl, hi, hb, hk⟩; refine ⟨_, rfl, ?_⟩; replace BK383 := Aside0.mk (KeepBut.blk hk (g' := gb383) (o := .cells #[.int .i64 0, .slice none 0 0] 29 (0, 0)) (mb BK383) NB383_0.out (by simp)); replace HO390 := Aside0.mk (Kd.R_mono (Kd.R_keep (IsS112.apart (show IsS112 w0 _ g s0_0 t395 t396 from IsS112.mi HI0) (mr HO390) (by decide)) hk (fun _ h => h.2)) (fun _ h => h.1)); replace BK393 := Aside0.mk (KeepBut.blk hk (g' := gb393) (o := .cells #[.int .i64 t387, .slice Ao14 t388.length co14] 29 (0, 0)) (mb BK393) NB393_0.out (by simp)); replace HK := Aside0.mk (KeepBut.trans (mk HK) hk (.inl rfl)); replace HB := Aside0.mk (hb); replace HI0 := Aside0.mk (hi); (try clear hb); obtain ⟨_, _, _, _⟩ := cFour BK393; have := NB383_0.out; have := NB0_383.out; obtain ⟨_, _, _, _⟩ := cFour BK383))
  refine bodyPost_ret (results_cell_row rfl _ _ gb383 29 #[.int .i64 t397, .slice Ao14 t388.length co14] (0, 0) _ rfl (by (with_reducible repeat (first | refine blk_drewN ?_ _ | refine blk_drew ?_ | refine blk_alloc ?_ _)); refine blk_put (cs := #[.int .i64 t397, .slice none 0 0]) ?_ 1 _ rfl; (with_reducible repeat (first | refine blk_drewN ?_ _ | refine blk_drew ?_ | refine blk_alloc ?_ _)); refine blk_put (cs := #[.int .i64 0, .slice none 0 0]) ?_ 0 _ rfl; (with_reducible repeat (first | refine blk_drewN ?_ _ | refine blk_drew ?_ | refine blk_alloc ?_ _)); refine blk_far ?_ NB383_393.out _; (with_reducible repeat (first | refine blk_drewN ?_ _ | refine blk_drew ?_ | refine blk_alloc ?_ _)); exact BK383.out) Try.underlying29 rfl (by kernel_rfl)) rfl ?_
  exact ⟨_, by first | rfl | (simp [errW_none, errW_some] <;> rfl) | (simp [*, errW_none, errW_some] <;> rfl), by (with_reducible repeat (first | apply Kd.R_alloc | apply Kd.R_drewN | apply Kd.R_drew)); exact Kd.R_mono (Kd.R_far (p := ⟨gb383, 1, none⟩) (Kd.R_far (p := ⟨gb383, 0, none⟩) (Kd.R_far (p := ⟨gb393, 0, none⟩) (Kd.R_types (Kd.R_types HO390.out BK393.out (by decide)) BK383.out (by decide)) (fun _ hk => hk.1.2) (.int .i64 t397)) (fun _ hk => hk.2) (.int .i64 t397)) (fun _ hk => hk.2) (.slice Ao14 t388.length co14)) (fun _ hk => trivial), IsS112.mi HI0, IsS112.ms HB, mk HK⟩
 rw [if_neg c5] at H
 have c5b0 : (t394 == 0) = false := beq_eq_false_iff_ne.mpr c5
 have c5b1 : (t394 != 0) = true := bne_iff_ne.mpr c5
 by_cases c20 : t394 = 1
 ·rw [if_pos c20] at H
  have c20b0 : (t394 == 1) = true := beq_iff_eq.mpr c20
  have c20b1 : (t394 != 1) = false := bne_eq_false_iff_eq.mpr c20
  clear c20
  obtain ⟨⟨t400, t401, t402⟩, A210, H⟩ := Option.bind_eq_some_iff.mp H
  try dsimp only at H
  have A21 := Aside0.mk A210; clear A210
  by_cases c22 : t388.length < 17592186044416
  ·rw [if_pos c22] at H
   have LMc22 := Aside0.mk c22; clear c22
   obtain ⟨y403, hy403⟩ : ∃ y_ : List Int, y_ = (t388 ++ [t400]) := ⟨_, rfl⟩
   replace H : (some (t387, y403, t401, t402)) = some (r1, r2, r3, r4) := by first | (rw [hy403]; with_reducible exact H) | (have H2_ := (Option.bind_some _ _).symm.trans H; rw [hy403]; with_reducible exact H2_) | (have H2_ := (Option.bind_some _ _).symm.trans H; with_reducible exact H2_) | with_reducible exact H | (rw [hy403]; exact H) | exact H
   have Ny403 := Aside0.mk hy403; clear hy403
   simp only [Option.some.injEq, Prod.mk.injEq] at H
   obtain ⟨rfl, rfl, rfl, rfl⟩ := H
   go_enter Try.func118, Try.ntmps118
   try go_wp2_with (first | ((with_reducible refine gate_dst (N := 2) rfl ?_); refine box_event ?hg (N := 2) ?hd (cs := #[.int .i64 0, .slice none 0 0]) (t := 29) ?hr ?_; (case hd => rfl); (case hg => rfl); (case hr => first | (go_simp; done) | (go_simp; rfl)); intro gb383 hg w23 hbox hb; have n0_ := Aside0.mk (IsS112.below (IsS112.mi HI0) hb); have n1_ := Aside0.mk (KeepBut.trans (mk HK) (KeepBut.of_below hb g none) (.inl rfl)); have n2_ := Aside0.mk (below_step (IsS112.ms HB) hb); have n3_ := Aside0.mk (hbox); have n4_ := Aside0.mk ((by rw [hg]; exact (keep_size (w := w) (g := g) (row := none) (mk HK)) : w.heap.size ≤ gb383)); have n5_ := Aside0.mk ((Nat.le_trans HW0.out (by rw [hg]; exact (keep_size (w := w) (g := g) (row := none) (mk HK)) : w.heap.size ≤ gb383) : w0.heap.size ≤ gb383)); have n6_ := Aside0.mk ((by rw [hg]; exact Nat.ne_of_lt (IsS112.lt (show IsS112 w0 _ g s0_0 s0_1 s0_2 from IsS112.mi HI0)) : g ≠ gb383)); have n7_ := Aside0.mk ((by rw [hg]; exact Nat.ne_of_gt (IsS112.lt (show IsS112 w0 _ g s0_0 s0_1 s0_2 from IsS112.mi HI0)) : gb383 ≠ g)); clear HI0 HK HB; have HI0 := n0_; have HK := n1_; have HB := n2_; have BK383 := n3_; have GW383 := n4_; have GE383 := n5_; have NB0_383 := n6_; have NB383_0 := n7_; clear n0_ n1_ n2_ n3_ n4_ n5_ n6_ n7_; clear hb hbox hg) | ((with_reducible refine gate_callee (f := 116) rfl ?_); refine gl (some 6) rfl rfl Try.func116 (by kernel_rfl) rfl #[.pointer (some ⟨g, 0, none⟩), .int .i64 4] rfl ?_; (with_reducible refine (spec_l1Below.calls g s0_0 s0_1 s0_2 4 t384 t385 t386 w0 _ ?side1 ?side2 A2.out).mono ?_); (case side1 => exact IsS112.mi HI0); (case side2 => exact IsS112.ms HB); rintro e w24 ⟨rfl, hi, hb, hk⟩; refine ⟨_, rfl, ?_⟩; replace BK383 := Aside0.mk (KeepBut.blk hk (g' := gb383) (o := .cells #[.int .i64 0, .slice none 0 0] 29 (0, 0)) (mb BK383) NB383_0.out (by simp)); replace HK := Aside0.mk (KeepBut.trans (mk HK) hk (.inl rfl)); replace HB := Aside0.mk (hb); replace HI0 := Aside0.mk (hi); (try clear hb)) | ((with_reducible refine gate_callee (f := 120) rfl ?_); refine gl (some 7) rfl rfl Try.func120 (by kernel_rfl) rfl #[.pointer (some ⟨g, 0, none⟩), .int .i64 t384] rfl ?_; (with_reducible refine (spec_l4Draw.calls k g s0_0 t385 t386 t384 t387 t388 t391 t392 w0 _ ?side1 ?side2 A3.out).mono ?_); (case side1 => exact IsS112.mi HI0); (case side2 => exact IsS112.ms HB); rintro e w25 ⟨v389, rfl, ho0, hi, hb, hk⟩; refine ⟨_, rfl, ?_⟩; replace BK383 := Aside0.mk (KeepBut.blk hk (g' := gb383) (o := .cells #[.int .i64 0, .slice none 0 0] 29 (0, 0)) (mb BK383) NB383_0.out (by simp)); have HO390 := Aside0.mk (Kd.R_lower ho0 (keep_size (w := w) (g := g) (row := none) (mk HK))); replace HK := Aside0.mk (KeepBut.trans (mk HK) hk (.inl rfl)); replace HB := Aside0.mk (hb); replace HI0 := Aside0.mk (hi); (try clear hb); (try clear ho0)) | ((with_reducible refine gate_dst (N := 3) rfl ?_); refine box_event ?hg (N := 3) ?hd (cs := #[.int .i64 0, .slice none 0 0]) (t := 29) ?hr ?_; (case hd => rfl); (case hg => rfl); (case hr => first | (go_simp; done) | (go_simp; rfl)); intro gb393 hg w26 hbox hb; have n0_ := rb HO390 hb; have n1_ := Aside0.mk (IsS112.below (IsS112.mi HI0) hb); have n2_ := bb BK383 hb; have n3_ := Aside0.mk (KeepBut.trans (mk HK) (KeepBut.of_below hb g none) (.inl rfl)); have n4_ := Aside0.mk (below_step (IsS112.ms HB) hb); have n5_ := Aside0.mk (hbox); have n6_ := Aside0.mk ((by rw [hg]; exact (keep_size (w := w) (g := g) (row := none) (mk HK)) : w.heap.size ≤ gb393)); have n7_ := Aside0.mk ((Nat.le_trans HW0.out (by rw [hg]; exact (keep_size (w := w) (g := g) (row := none) (mk HK)) : w.heap.size ≤ gb393) : w0.heap.size ≤ gb393)); have n8_ := nl hg BK383; have n9_ := ng hg BK383; have n10_ := Aside0.mk ((by rw [hg]; exact Nat.ne_of_lt (IsS112.lt (show IsS112 w0 _ g s0_0 t391 t392 from IsS112.mi HI0)) : g ≠ gb393)); have n11_ := Aside0.mk ((by rw [hg]; exact Nat.ne_of_gt (IsS112.lt (show IsS112 w0 _ g s0_0 t391 t392 from IsS112.mi HI0)) : gb393 ≠ g)); clear HO390 HI0 BK383 HK HB; have HO390 := n0_; have HI0 := n1_; have BK383 := n2_; have HK := n3_; have HB := n4_; have BK393 := n5_; have GW393 := n6_; have GE393 := n7_; have NB383_393 := n8_; have NB393_383 := n9_; have NB0_393 := n10_; have NB393_0 := n11_; clear n0_ n1_ n2_ n3_ n4_ n5_ n6_ n7_ n8_ n9_ n10_ n11_; clear hb hbox hg; have := NB393_383.out; have := NB383_393.out; have := NB393_0.out; have := NB0_393.out; obtain ⟨_, _, _, _⟩ := cFour BK393; obtain ⟨Ao30, co30, eo30⟩ := Kd.R_slice HO390.out; subst eo30) | ((with_reducible refine gate_callee (f := 116) rfl ?_); refine gl (some 9) rfl rfl Try.func116 (by kernel_rfl) rfl #[.pointer (some ⟨g, 0, none⟩), .int .i64 10] rfl ?_; (with_reducible refine (spec_l1Below.calls g s0_0 t391 t392 10 t394 t395 t396 w0 _ ?side1 ?side2 A4.out).mono ?_); (case side1 => exact IsS112.mi HI0); (case side2 => exact IsS112.ms HB); rintro e w31 ⟨rfl, hi, hb, hk⟩; refine ⟨_, rfl, ?_⟩; have n0_ := Aside0.mk (KeepBut.blk hk (g' := gb383) (o := .cells #[.int .i64 0, .slice none 0 0] 29 (0, 0)) (mf BK383) NB383_0.out (by simp)); have n1_ := Aside0.mk (Kd.R_mono (Kd.R_keep (IsS112.apart (show IsS112 w0 _ g s0_0 t391 t392 from IsS112.mi HI0) (by (with_reducible repeat (first | apply Kd.R_alloc | apply Kd.R_drewN | apply Kd.R_drew)); exact (rTwo HO390 BK393)) (by decide)) hk (fun _ h => h.2)) (fun _ h => h.1)); have n2_ := Aside0.mk (KeepBut.blk hk (g' := gb393) (o := .cells #[.int .i64 t387, .slice Ao30 t388.length co30] 29 (0, 0)) (mq BK393) NB393_0.out (by simp)); have n3_ := Aside0.mk (KeepBut.trans (mk HK) hk (.inl rfl)); have n4_ := Aside0.mk (hb); have n5_ := Aside0.mk (hi); clear BK383 HO390 BK393 HK HB HI0; have BK383 := n0_; have HO390 := n1_; have BK393 := n2_; have HK := n3_; have HB := n4_; have HI0 := n5_; clear n0_ n1_ n2_ n3_ n4_ n5_; (try clear hb)))
   replace HO390 := Aside0.mk (Kd.R_drew HO390.out)
   replace BK383 := Aside0.mk (blk_drew BK383.out)
   replace BK393 := Aside0.mk (blk_drew BK393.out)
   replace HI0 := Aside0.mk (IsS112.drew HI0.out)
   replace HK := Aside0.mk (keep_drew HK.out)
   replace HB := Aside0.mk (below_drew1 HB.out)
   refine start_ (n := 8) (S := fun w' => w'.cell? ⟨gb393, 0, none⟩ = some (.int .i64 t387) ∧ w'.cell? ⟨gb393, 1, none⟩ = some (.slice Ao30 t388.length co30)) (ds := [7]) #[false, false, false, false, false, false, false, false] (by kernel_rfl) rfl rfl ⟨(c2 BK393).1, (c2 BK393).2⟩ (fun hHeld => ?_); refine with_tabW spec_l4Bent.tab6 spec_l4Bent.bits6 (fun HT_ HW_ => ?_)
   generalize w31.drew = w32 at HO390 BK383 BK393 HI0 HK HB hHeld ⊢
   refine pu 0 (some 17) (v := ?_) (a' := ?_) #[true, false, false, false, false, false, false, false] rfl rfl HT_ (fun _ _ _ h => h) (by rfl) ?_ ?_ ?_
   rotate_left
   ·intro w'
    go_simp
    with_reducible rfl
   rotate_left
   ·simp only [Act.put, z1, z2, z3, i64_w, i32_w]
    rfl
   refine pu 2 (some 19) (v := ?_) (a' := ?_) #[true, false, true, false, false, false, false, false] rfl rfl HT_ (fun _ _ _ h => h) (by rfl) ?_ ?_ ?_
   rotate_left
   ·intro w'
    go_simp
    with_reducible rfl
   rotate_left
   ·simp only [Act.put, z1, z2, z3, i64_w, i32_w]
    rfl
   refine tk 1 (some 18) (v := ?_) (a' := ?_) #[true, true, true, false, false, false, false, false] rfl rfl HT_ HW_ (fun _ _ _ h => h) (by rfl) ?_ hHeld ?_ ?_
   rotate_left
   ·rintro w' ⟨s0, s1⟩
    go_simp
    with_reducible rfl
   rotate_left
   ·simp only [Act.put, z1, z2, z3, i64_w, i32_w]
    rfl
   refine one_ (i := 3) (N := some 20) #[true, true, true, true, false, false, false, false] rfl rfl (one_of HT_.out (by kernel_rfl)) (by decide) (fun K hK => ?_)
   refine gs Try.func145 (by kernel_rfl) rfl #[.pointer (some ⟨g, 0, none⟩)] (by rfl) rfl rfl ?_
   with_reducible refine (spec_l3Any.calls g s0_0 t395 t396 t400 t401 t402 w0 _ ?side1 ?side2 A21.out).mono ?_
   (case side1 => exact IsS112.mi HI0)
   (case side2 => exact IsS112.ms HB)
   rintro e w33 ⟨rfl, hi, hb, hk⟩
   refine ⟨_, rfl, ?_⟩
   replace BK383 := Aside0.mk (KeepBut.blk hk (g' := gb383) (o := .cells #[.int .i64 0, .slice none 0 0] 29 (0, 0)) (mb BK383) NB383_0.out (by simp))
   replace HO390 := Aside0.mk (Kd.R_mono (Kd.R_keep (IsS112.apart (show IsS112 w0 _ g s0_0 t395 t396 from IsS112.mi HI0) (mr HO390) (by decide)) hk (fun _ h => h.2)) (fun _ h => h.1))
   replace BK393 := Aside0.mk (KeepBut.blk hk (g' := gb393) (o := .cells #[.int .i64 t387, .slice Ao30 t388.length co30] 29 (0, 0)) (mb BK393) NB393_0.out (by simp))
   replace HK := Aside0.mk (KeepBut.trans (mk HK) hk (.inl rfl))
   replace HB := Aside0.mk (hb)
   replace HI0 := Aside0.mk (hi)
   (try clear hb)
   (try clear hb2)
   (try clear hk)
   (try clear hi)
   refine hK.out _ _ ⟨(c2 BK393).1, (c2 BK393).2⟩ (fun hHeld => ?_)
   clear hK K
   refine norm_ (a' := ?_) ?_ ?_
   rotate_left
   ·show Act.put _ (some 20) _ = _
    simp only [Act.put, z1, z2, z3, i64_w, i32_w]
    rfl
   refine one_ (i := 4) (N := some 21) #[true, true, true, true, true, false, false, false] rfl rfl (one_of HT_.out (by kernel_rfl)) (by decide) (fun K hK => ?_)
   refine value_ (w1 := ?_) (v := ?_) (by rfl) rfl ?_ ?_
   rotate_left 2
   ·go_simp
    constructor
    ·rfl
    rfl
   refine hK.out _ _ ⟨(blk_cell (blk_alloc BK393.out _) 0).trans rfl, (blk_cell (blk_alloc BK393.out _) 1).trans rfl⟩ (fun hHeld => ?_)
   clear hK K
   refine norm_ (a' := ?_) ?_ ?_
   rotate_left
   ·show Act.put _ (some 21) _ = _
    simp only [Act.put, z1, z2, z3, i64_w, i32_w]
    rfl
   refine one_ (i := 5) (N := some 22) #[true, true, true, true, true, true, false, false] rfl rfl (one_of HT_.out (by kernel_rfl)) (by decide) (fun K hK => ?_)
   refine Kd.R_append_step (Kd.int .i64) w.heap.size (by rfl) (.tmp 18) (.tmp 21) 27 3 (.int .i64 0) 8 rfl Try.underlying27 info3 rfl (by decide) (by omega) (.slice Ao30 t388.length co30) t388 t400 [.int .i64 t400] (fun _ => True) (fun _ => False) rfl rfl ?aP (fun _ hk => hk.elim) ?aF ?aO (Below.refl _ _) ?aS ?aL ?_
   (case aP => exact rfl)
   (case aF => exact (fun _ _ => trivial))
   (case aO => exact (mr HO390))
   (case aS => exact (keep_size (w := w) (g := g) (row := none) (mk HK)))
   (case aL => have := LMc22.out; omega)
   intro v404 w34 ho hb hg hat
   rw [← Ny403.out] at ho
   replace BK383 := Aside0.mk (blk_grown (g := gb383) (o := .cells #[.int .i64 0, .slice none 0 0] 29 (0, 0)) (mb BK383) hg (Kd.R_ne HO390.out BK383.out (by decide)))
   replace BK393 := Aside0.mk (blk_grown (g := gb393) (o := .cells #[.int .i64 t387, .slice Ao30 t388.length co30] 29 (0, 0)) (mb BK393) hg (Kd.R_ne HO390.out BK393.out (by decide)))
   replace HB := Aside0.mk (below_weaken (IsS112.ms HB) HL.out hb)
   replace HI0 := Aside0.mk (IsS112.grown (IsS112.mi HI0) hg (IsS112.own_ne HI0.out HO390.out (by decide)))
   replace HK := Aside0.mk (KeepBut.trans (mk HK) (KeepBut.of_grown hg g) (Kd.R_base2 HO390.out))
   have HO405 := Aside0.mk (ho)
   clear HO390 ho hb hg hat
   obtain ⟨Ao35, co35, eo35⟩ := Kd.R_slice HO405.out
   (first | subst eo35 | (injection eo35 with f1_ f2_ f3_; have f4_ := f1_.symm; have f5_ := f3_.symm; clear f1_ f2_ f3_; subst f4_; subst f5_))
   refine hK.out _ _ ⟨(c2 BK393).1, (c2 BK393).2⟩ (fun hHeld => ?_)
   clear hK K
   refine norm_ (a' := ?_) ?_ ?_
   rotate_left
   ·show Act.put _ (some 22) _ = _
    simp only [Act.put, z1, z2, z3, i64_w, i32_w]
    rfl
   refine pu 6 (some 23) (v := ?_) (a' := ?_) #[true, true, true, true, true, true, true, false] rfl rfl HT_ (fun _ _ _ h => h) (by rfl) ?_ ?_ ?_
   rotate_left
   ·intro w'
    go_simp
    with_reducible rfl
   rotate_left
   ·simp only [Act.put, z1, z2, z3, i64_w, i32_w]
    rfl
   refine last_ (i := 7) (N := none) #[true, true, true, true, true, true, true, true] rfl rfl (one_of HT_.out (by kernel_rfl)) (by decide) (fun K hK => ?_)
   have hs36 : w34.cell? ⟨gb393, 1, none⟩ = some (.slice Ao30 t388.length co30) := (blk_cell BK393.out 1).trans rfl
   have hfs36 := blk_frozen BK393.out 1
   have hns36_0 := NB383_393.out
   have hms36_0 := NB393_383.out
   refine skip_ (w1 := ?_) (by rfl) rfl ?_ ?_
   rotate_left
   ·go_simp
    rfl
   refine hK.out _ _ ?_
   clear hK K
   refine done_ (done_of HT_.out (by kernel_rfl)) ?_
   obtain ⟨_, _, _, _⟩ := cFour BK393
   have := NB383_0.out
   have := NB0_383.out
   obtain ⟨_, _, _, _⟩ := cFour BK383
   try go_wp2
   refine bodyPost_ret (results_cell_row rfl _ _ gb383 29 #[.int .i64 t387, .slice Ao35 y403.length co35] (0, 0) _ rfl (by (with_reducible repeat (first | refine blk_drewN ?_ _ | refine blk_drew ?_ | refine blk_alloc ?_ _)); refine blk_put (cs := #[.int .i64 t387, .slice none 0 0]) ?_ 1 _ rfl; (with_reducible repeat (first | refine blk_drewN ?_ _ | refine blk_drew ?_ | refine blk_alloc ?_ _)); refine blk_put (cs := #[.int .i64 0, .slice none 0 0]) ?_ 0 _ rfl; (with_reducible repeat (first | refine blk_drewN ?_ _ | refine blk_drew ?_ | refine blk_alloc ?_ _)); refine blk_far ?_ NB383_393.out _; (with_reducible repeat (first | refine blk_drewN ?_ _ | refine blk_drew ?_ | refine blk_alloc ?_ _)); exact BK383.out) Try.underlying29 rfl (by kernel_rfl)) rfl ?_
   exact ⟨_, by first | rfl | (simp [errW_none, errW_some] <;> rfl) | (simp [*, errW_none, errW_some] <;> rfl), by (with_reducible repeat (first | apply Kd.R_alloc | apply Kd.R_drewN | apply Kd.R_drew)); exact Kd.R_mono (Kd.R_far (p := ⟨gb383, 1, none⟩) (Kd.R_far (p := ⟨gb383, 0, none⟩) (Kd.R_far (p := ⟨gb393, 1, none⟩) (Kd.R_types (Kd.R_types HO405.out BK393.out (by decide)) BK383.out (by decide)) (fun _ hk => hk.1.2) (.slice Ao35 y403.length co35)) (fun _ hk => hk.2) (.int .i64 t387)) (fun _ hk => hk.2) (.slice Ao35 y403.length co35)) (fun _ hk => trivial), IsS112.mi HI0, IsS112.ms HB, mk HK⟩
  rw [if_neg c22] at H
  exact absurd H (by simp)
 rw [if_neg c20] at H
 have c20b0 : (t394 == 1) = false := beq_eq_false_iff_ne.mpr c20
 have c20b1 : (t394 != 1) = true := bne_iff_ne.mpr c20
 by_cases c40 : t394 = 2
 ·rw [if_pos c40] at H
  have c40b0 : (t394 == 2) = true := beq_iff_eq.mpr c40
  have c40b1 : (t394 != 2) = false := bne_eq_false_iff_eq.mpr c40
  clear c40
  by_cases c41 : 9 ≤ 35184372088832
  ·rw [if_pos c41] at H
   have c41b0 := eq_true c41
   have c41b1 : decide (9 ≤ 35184372088832) = true := decide_eq_true c41
   clear c41
   obtain ⟨y406, hy406⟩ : ∃ y_ : List Int, y_ = (List.replicate 9 0) := ⟨_, rfl⟩
   replace H : (some (t387, y406, t395, t396)) = some (r1, r2, r3, r4) := by first | (rw [hy406]; with_reducible exact H) | (have H2_ := (Option.bind_some _ _).symm.trans H; rw [hy406]; with_reducible exact H2_) | (have H2_ := (Option.bind_some _ _).symm.trans H; with_reducible exact H2_) | with_reducible exact H | (rw [hy406]; exact H) | exact H
   have Ny406 := Aside0.mk hy406; clear hy406
   simp only [Option.some.injEq, Prod.mk.injEq] at H
   obtain ⟨rfl, rfl, rfl, rfl⟩ := H
   go_enter Try.func118, Try.ntmps118
   go_wp2_with (first | ((with_reducible refine gate_dst (N := 2) rfl ?_); refine box_event ?hg (N := 2) ?hd (cs := #[.int .i64 0, .slice none 0 0]) (t := 29) ?hr ?_; (case hd => rfl); (case hg => rfl); (case hr => first | (go_simp; done) | (go_simp; rfl)); intro gb383 hg w42 hbox hb; have n0_ := Aside0.mk (IsS112.below (IsS112.mi HI0) hb); have n1_ := Aside0.mk (KeepBut.trans (mk HK) (KeepBut.of_below hb g none) (.inl rfl)); have n2_ := Aside0.mk (below_step (IsS112.ms HB) hb); have n3_ := Aside0.mk (hbox); have n4_ := Aside0.mk ((by rw [hg]; exact (keep_size (w := w) (g := g) (row := none) (mk HK)) : w.heap.size ≤ gb383)); have n5_ := Aside0.mk ((Nat.le_trans HW0.out (by rw [hg]; exact (keep_size (w := w) (g := g) (row := none) (mk HK)) : w.heap.size ≤ gb383) : w0.heap.size ≤ gb383)); have n6_ := Aside0.mk ((by rw [hg]; exact Nat.ne_of_lt (IsS112.lt (show IsS112 w0 _ g s0_0 s0_1 s0_2 from IsS112.mi HI0)) : g ≠ gb383)); have n7_ := Aside0.mk ((by rw [hg]; exact Nat.ne_of_gt (IsS112.lt (show IsS112 w0 _ g s0_0 s0_1 s0_2 from IsS112.mi HI0)) : gb383 ≠ g)); clear HI0 HK HB; have HI0 := n0_; have HK := n1_; have HB := n2_; have BK383 := n3_; have GW383 := n4_; have GE383 := n5_; have NB0_383 := n6_; have NB383_0 := n7_; clear n0_ n1_ n2_ n3_ n4_ n5_ n6_ n7_; clear hb hbox hg) | ((with_reducible refine gate_callee (f := 116) rfl ?_); refine gl (some 6) rfl rfl Try.func116 (by kernel_rfl) rfl #[.pointer (some ⟨g, 0, none⟩), .int .i64 4] rfl ?_; (with_reducible refine (spec_l1Below.calls g s0_0 s0_1 s0_2 4 t384 t385 t386 w0 _ ?side1 ?side2 A2.out).mono ?_); (case side1 => exact IsS112.mi HI0); (case side2 => exact IsS112.ms HB); rintro e w43 ⟨rfl, hi, hb, hk⟩; refine ⟨_, rfl, ?_⟩; replace BK383 := Aside0.mk (KeepBut.blk hk (g' := gb383) (o := .cells #[.int .i64 0, .slice none 0 0] 29 (0, 0)) (mb BK383) NB383_0.out (by simp)); replace HK := Aside0.mk (KeepBut.trans (mk HK) hk (.inl rfl)); replace HB := Aside0.mk (hb); replace HI0 := Aside0.mk (hi); (try clear hb)) | ((with_reducible refine gate_callee (f := 120) rfl ?_); refine gl (some 7) rfl rfl Try.func120 (by kernel_rfl) rfl #[.pointer (some ⟨g, 0, none⟩), .int .i64 t384] rfl ?_; (with_reducible refine (spec_l4Draw.calls k g s0_0 t385 t386 t384 t387 t388 t391 t392 w0 _ ?side1 ?side2 A3.out).mono ?_); (case side1 => exact IsS112.mi HI0); (case side2 => exact IsS112.ms HB); rintro e w44 ⟨v389, rfl, ho0, hi, hb, hk⟩; refine ⟨_, rfl, ?_⟩; replace BK383 := Aside0.mk (KeepBut.blk hk (g' := gb383) (o := .cells #[.int .i64 0, .slice none 0 0] 29 (0, 0)) (mb BK383) NB383_0.out (by simp)); have HO390 := Aside0.mk (Kd.R_lower ho0 (keep_size (w := w) (g := g) (row := none) (mk HK))); replace HK := Aside0.mk (KeepBut.trans (mk HK) hk (.inl rfl)); replace HB := Aside0.mk (hb); replace HI0 := Aside0.mk (hi); (try clear hb); (try clear ho0)) | ((with_reducible refine gate_dst (N := 3) rfl ?_); refine box_event ?hg (N := 3) ?hd (cs := #[.int .i64 0, .slice none 0 0]) (t := 29) ?hr ?_; (case hd => rfl); (case hg => rfl); (case hr => first | (go_simp; done) | (go_simp; rfl)); intro gb393 hg w45 hbox hb; have n0_ := rb HO390 hb; have n1_ := Aside0.mk (IsS112.below (IsS112.mi HI0) hb); have n2_ := bb BK383 hb; have n3_ := Aside0.mk (KeepBut.trans (mk HK) (KeepBut.of_below hb g none) (.inl rfl)); have n4_ := Aside0.mk (below_step (IsS112.ms HB) hb); have n5_ := Aside0.mk (hbox); have n6_ := Aside0.mk ((by rw [hg]; exact (keep_size (w := w) (g := g) (row := none) (mk HK)) : w.heap.size ≤ gb393)); have n7_ := Aside0.mk ((Nat.le_trans HW0.out (by rw [hg]; exact (keep_size (w := w) (g := g) (row := none) (mk HK)) : w.heap.size ≤ gb393) : w0.heap.size ≤ gb393)); have n8_ := nl hg BK383; have n9_ := ng hg BK383; have n10_ := Aside0.mk ((by rw [hg]; exact Nat.ne_of_lt (IsS112.lt (show IsS112 w0 _ g s0_0 t391 t392 from IsS112.mi HI0)) : g ≠ gb393)); have n11_ := Aside0.mk ((by rw [hg]; exact Nat.ne_of_gt (IsS112.lt (show IsS112 w0 _ g s0_0 t391 t392 from IsS112.mi HI0)) : gb393 ≠ g)); clear HO390 HI0 BK383 HK HB; have HO390 := n0_; have HI0 := n1_; have BK383 := n2_; have HK := n3_; have HB := n4_; have BK393 := n5_; have GW393 := n6_; have GE393 := n7_; have NB383_393 := n8_; have NB393_383 := n9_; have NB0_393 := n10_; have NB393_0 := n11_; clear n0_ n1_ n2_ n3_ n4_ n5_ n6_ n7_ n8_ n9_ n10_ n11_; clear hb hbox hg; have := NB393_383.out; have := NB383_393.out; have := NB393_0.out; have := NB0_393.out; obtain ⟨_, _, _, _⟩ := cFour BK393; obtain ⟨Ao49, co49, eo49⟩ := Kd.R_slice HO390.out; subst eo49) | ((with_reducible refine gate_callee (f := 116) rfl ?_); refine gl (some 9) rfl rfl Try.func116 (by kernel_rfl) rfl #[.pointer (some ⟨g, 0, none⟩), .int .i64 10] rfl ?_; (with_reducible refine (spec_l1Below.calls g s0_0 t391 t392 10 t394 t395 t396 w0 _ ?side1 ?side2 A4.out).mono ?_); (case side1 => exact IsS112.mi HI0); (case side2 => exact IsS112.ms HB); rintro e w50 ⟨rfl, hi, hb, hk⟩; refine ⟨_, rfl, ?_⟩; have n0_ := Aside0.mk (KeepBut.blk hk (g' := gb383) (o := .cells #[.int .i64 0, .slice none 0 0] 29 (0, 0)) (mf BK383) NB383_0.out (by simp)); have n1_ := Aside0.mk (Kd.R_mono (Kd.R_keep (IsS112.apart (show IsS112 w0 _ g s0_0 t391 t392 from IsS112.mi HI0) (by (with_reducible repeat (first | apply Kd.R_alloc | apply Kd.R_drewN | apply Kd.R_drew)); exact (rTwo HO390 BK393)) (by decide)) hk (fun _ h => h.2)) (fun _ h => h.1)); have n2_ := Aside0.mk (KeepBut.blk hk (g' := gb393) (o := .cells #[.int .i64 t387, .slice Ao49 t388.length co49] 29 (0, 0)) (mq BK393) NB393_0.out (by simp)); have n3_ := Aside0.mk (KeepBut.trans (mk HK) hk (.inl rfl)); have n4_ := Aside0.mk (hb); have n5_ := Aside0.mk (hi); clear BK383 HO390 BK393 HK HB HI0; have BK383 := n0_; have HO390 := n1_; have BK393 := n2_; have HK := n3_; have HB := n4_; have HI0 := n5_; clear n0_ n1_ n2_ n3_ n4_ n5_; (try clear hb)) | ((with_reducible refine gate_dst (N := 26) rfl ?_); refine Kd.R_make (Kd.int .i64) _ 3 rfl (N := 26) rfl 27 _ _ rfl 9 rfl rfl Try.underlying27 (.int .i64 0) 8 info3 rfl (by decide) (by omega) 0 (ok := fun _ => True) (okp := fun _ => True) rfl (fun _ hk => hk) trivial (by omega) (by omega) (Below.refl _ _) (Nat.le_refl _) ?_; intro v407 w51 ho52 hb hg_ hnew_; clear hg_ hnew_; (first | rw [← Ny406.out] at ho52 | (simp only [Int.reduceToNat] at ho52; rw [← Ny406.out] at ho52)); have HO408 := Aside0.mk (Kd.R_lower (Kd.R_new' ho52 (Kd.R_lt (mr HO390))) (keep_size (w := w) (g := g) (row := none) (mk HK))); replace HO390 := rl HO390 ho52 hb; replace BK383 := bb BK383 hb; replace BK393 := bb BK393 hb; replace HK := Aside0.mk (KeepBut.trans (mk HK) (KeepBut.of_below hb g none) (.inl rfl)); replace HB := Aside0.mk (below_step (IsS112.ms HB) hb); replace HI0 := Aside0.mk (IsS112.below (IsS112.mi HI0) hb); clear hb ho52; obtain ⟨Ao53, co53, eo53⟩ := Kd.R_slice HO408.out; subst eo53; obtain ⟨_, _, _, _⟩ := cFour BK393; have := NB383_0.out; have := NB0_383.out; obtain ⟨_, _, _, _⟩ := cFour BK383))
   refine bodyPost_ret (results_cell_row rfl _ _ gb383 29 #[.int .i64 t387, .slice Ao53 y406.length co53] (0, 0) _ rfl (by (with_reducible repeat (first | refine blk_drewN ?_ _ | refine blk_drew ?_ | refine blk_alloc ?_ _)); refine blk_put (cs := #[.int .i64 t387, .slice none 0 0]) ?_ 1 _ rfl; (with_reducible repeat (first | refine blk_drewN ?_ _ | refine blk_drew ?_ | refine blk_alloc ?_ _)); refine blk_put (cs := #[.int .i64 0, .slice none 0 0]) ?_ 0 _ rfl; (with_reducible repeat (first | refine blk_drewN ?_ _ | refine blk_drew ?_ | refine blk_alloc ?_ _)); refine blk_far ?_ NB383_393.out _; (with_reducible repeat (first | refine blk_drewN ?_ _ | refine blk_drew ?_ | refine blk_alloc ?_ _)); exact BK383.out) Try.underlying29 rfl (by kernel_rfl)) rfl ?_
   exact ⟨_, by first | rfl | (simp [errW_none, errW_some] <;> rfl) | (simp [*, errW_none, errW_some] <;> rfl), by (with_reducible repeat (first | apply Kd.R_alloc | apply Kd.R_drewN | apply Kd.R_drew)); exact Kd.R_mono (Kd.R_far (p := ⟨gb383, 1, none⟩) (Kd.R_far (p := ⟨gb383, 0, none⟩) (Kd.R_far (p := ⟨gb393, 1, none⟩) (Kd.R_types (Kd.R_types HO408.out BK393.out (by decide)) BK383.out (by decide)) (fun _ hk => hk.1.2) (.slice Ao53 y406.length co53)) (fun _ hk => hk.2) (.int .i64 t387)) (fun _ hk => hk.2) (.slice Ao53 y406.length co53)) (fun _ hk => trivial), IsS112.mi HI0, IsS112.ms HB, mk HK⟩
  rw [if_neg c41] at H
  exact absurd H (by simp)
 rw [if_neg c40] at H
 have c40b0 : (t394 == 2) = false := beq_eq_false_iff_ne.mpr c40
 have c40b1 : (t394 != 2) = true := bne_iff_ne.mpr c40
 simp only [Option.some.injEq, Prod.mk.injEq] at H
 obtain ⟨rfl, rfl, rfl, rfl⟩ := H
 go_enter Try.func118, Try.ntmps118
 go_wp2_with (first | ((with_reducible refine gate_dst (N := 2) rfl ?_); refine box_event ?hg (N := 2) ?hd (cs := #[.int .i64 0, .slice none 0 0]) (t := 29) ?hr ?_; (case hd => rfl); (case hg => rfl); (case hr => first | (go_simp; done) | (go_simp; rfl)); intro gb383 hg w57 hbox hb; have n0_ := Aside0.mk (IsS112.below (IsS112.mi HI0) hb); have n1_ := Aside0.mk (KeepBut.trans (mk HK) (KeepBut.of_below hb g none) (.inl rfl)); have n2_ := Aside0.mk (below_step (IsS112.ms HB) hb); have n3_ := Aside0.mk (hbox); have n4_ := Aside0.mk ((by rw [hg]; exact (keep_size (w := w) (g := g) (row := none) (mk HK)) : w.heap.size ≤ gb383)); have n5_ := Aside0.mk ((Nat.le_trans HW0.out (by rw [hg]; exact (keep_size (w := w) (g := g) (row := none) (mk HK)) : w.heap.size ≤ gb383) : w0.heap.size ≤ gb383)); have n6_ := Aside0.mk ((by rw [hg]; exact Nat.ne_of_lt (IsS112.lt (show IsS112 w0 _ g s0_0 s0_1 s0_2 from IsS112.mi HI0)) : g ≠ gb383)); have n7_ := Aside0.mk ((by rw [hg]; exact Nat.ne_of_gt (IsS112.lt (show IsS112 w0 _ g s0_0 s0_1 s0_2 from IsS112.mi HI0)) : gb383 ≠ g)); clear HI0 HK HB; have HI0 := n0_; have HK := n1_; have HB := n2_; have BK383 := n3_; have GW383 := n4_; have GE383 := n5_; have NB0_383 := n6_; have NB383_0 := n7_; clear n0_ n1_ n2_ n3_ n4_ n5_ n6_ n7_; clear hb hbox hg) | ((with_reducible refine gate_callee (f := 116) rfl ?_); refine gl (some 6) rfl rfl Try.func116 (by kernel_rfl) rfl #[.pointer (some ⟨g, 0, none⟩), .int .i64 4] rfl ?_; (with_reducible refine (spec_l1Below.calls g s0_0 s0_1 s0_2 4 t384 t385 t386 w0 _ ?side1 ?side2 A2.out).mono ?_); (case side1 => exact IsS112.mi HI0); (case side2 => exact IsS112.ms HB); rintro e w58 ⟨rfl, hi, hb, hk⟩; refine ⟨_, rfl, ?_⟩; replace BK383 := Aside0.mk (KeepBut.blk hk (g' := gb383) (o := .cells #[.int .i64 0, .slice none 0 0] 29 (0, 0)) (mb BK383) NB383_0.out (by simp)); replace HK := Aside0.mk (KeepBut.trans (mk HK) hk (.inl rfl)); replace HB := Aside0.mk (hb); replace HI0 := Aside0.mk (hi); (try clear hb)) | ((with_reducible refine gate_callee (f := 120) rfl ?_); refine gl (some 7) rfl rfl Try.func120 (by kernel_rfl) rfl #[.pointer (some ⟨g, 0, none⟩), .int .i64 t384] rfl ?_; (with_reducible refine (spec_l4Draw.calls k g s0_0 t385 t386 t384 t387 t388 t391 t392 w0 _ ?side1 ?side2 A3.out).mono ?_); (case side1 => exact IsS112.mi HI0); (case side2 => exact IsS112.ms HB); rintro e w59 ⟨v389, rfl, ho0, hi, hb, hk⟩; refine ⟨_, rfl, ?_⟩; replace BK383 := Aside0.mk (KeepBut.blk hk (g' := gb383) (o := .cells #[.int .i64 0, .slice none 0 0] 29 (0, 0)) (mb BK383) NB383_0.out (by simp)); have HO390 := Aside0.mk (Kd.R_lower ho0 (keep_size (w := w) (g := g) (row := none) (mk HK))); replace HK := Aside0.mk (KeepBut.trans (mk HK) hk (.inl rfl)); replace HB := Aside0.mk (hb); replace HI0 := Aside0.mk (hi); (try clear hb); (try clear ho0)) | ((with_reducible refine gate_dst (N := 3) rfl ?_); refine box_event ?hg (N := 3) ?hd (cs := #[.int .i64 0, .slice none 0 0]) (t := 29) ?hr ?_; (case hd => rfl); (case hg => rfl); (case hr => first | (go_simp; done) | (go_simp; rfl)); intro gb393 hg w60 hbox hb; have n0_ := rb HO390 hb; have n1_ := Aside0.mk (IsS112.below (IsS112.mi HI0) hb); have n2_ := bb BK383 hb; have n3_ := Aside0.mk (KeepBut.trans (mk HK) (KeepBut.of_below hb g none) (.inl rfl)); have n4_ := Aside0.mk (below_step (IsS112.ms HB) hb); have n5_ := Aside0.mk (hbox); have n6_ := Aside0.mk ((by rw [hg]; exact (keep_size (w := w) (g := g) (row := none) (mk HK)) : w.heap.size ≤ gb393)); have n7_ := Aside0.mk ((Nat.le_trans HW0.out (by rw [hg]; exact (keep_size (w := w) (g := g) (row := none) (mk HK)) : w.heap.size ≤ gb393) : w0.heap.size ≤ gb393)); have n8_ := nl hg BK383; have n9_ := ng hg BK383; have n10_ := Aside0.mk ((by rw [hg]; exact Nat.ne_of_lt (IsS112.lt (show IsS112 w0 _ g s0_0 t391 t392 from IsS112.mi HI0)) : g ≠ gb393)); have n11_ := Aside0.mk ((by rw [hg]; exact Nat.ne_of_gt (IsS112.lt (show IsS112 w0 _ g s0_0 t391 t392 from IsS112.mi HI0)) : gb393 ≠ g)); clear HO390 HI0 BK383 HK HB; have HO390 := n0_; have HI0 := n1_; have BK383 := n2_; have HK := n3_; have HB := n4_; have BK393 := n5_; have GW393 := n6_; have GE393 := n7_; have NB383_393 := n8_; have NB393_383 := n9_; have NB0_393 := n10_; have NB393_0 := n11_; clear n0_ n1_ n2_ n3_ n4_ n5_ n6_ n7_ n8_ n9_ n10_ n11_; clear hb hbox hg; have := NB393_383.out; have := NB383_393.out; have := NB393_0.out; have := NB0_393.out; obtain ⟨_, _, _, _⟩ := cFour BK393; obtain ⟨Ao64, co64, eo64⟩ := Kd.R_slice HO390.out; subst eo64) | ((with_reducible refine gate_callee (f := 116) rfl ?_); refine gl (some 9) rfl rfl Try.func116 (by kernel_rfl) rfl #[.pointer (some ⟨g, 0, none⟩), .int .i64 10] rfl ?_; (with_reducible refine (spec_l1Below.calls g s0_0 t391 t392 10 t394 t395 t396 w0 _ ?side1 ?side2 A4.out).mono ?_); (case side1 => exact IsS112.mi HI0); (case side2 => exact IsS112.ms HB); rintro e w65 ⟨rfl, hi, hb, hk⟩; refine ⟨_, rfl, ?_⟩; have n0_ := Aside0.mk (KeepBut.blk hk (g' := gb383) (o := .cells #[.int .i64 0, .slice none 0 0] 29 (0, 0)) (mf BK383) NB383_0.out (by simp)); have n1_ := Aside0.mk (Kd.R_mono (Kd.R_keep (IsS112.apart (show IsS112 w0 _ g s0_0 t391 t392 from IsS112.mi HI0) (by (with_reducible repeat (first | apply Kd.R_alloc | apply Kd.R_drewN | apply Kd.R_drew)); exact (rTwo HO390 BK393)) (by decide)) hk (fun _ h => h.2)) (fun _ h => h.1)); have n2_ := Aside0.mk (KeepBut.blk hk (g' := gb393) (o := .cells #[.int .i64 t387, .slice Ao64 t388.length co64] 29 (0, 0)) (mq BK393) NB393_0.out (by simp)); have n3_ := Aside0.mk (KeepBut.trans (mk HK) hk (.inl rfl)); have n4_ := Aside0.mk (hb); have n5_ := Aside0.mk (hi); clear BK383 HO390 BK393 HK HB HI0; have BK383 := n0_; have HO390 := n1_; have BK393 := n2_; have HK := n3_; have HB := n4_; have HI0 := n5_; clear n0_ n1_ n2_ n3_ n4_ n5_; (try clear hb); obtain ⟨_, _, _, _⟩ := cFour BK393; have := NB383_0.out; have := NB0_383.out; obtain ⟨_, _, _, _⟩ := cFour BK383))
 refine bodyPost_ret (results_cell_row rfl _ _ gb383 29 #[.int .i64 t387, .slice Ao64 t388.length co64] (0, 0) _ rfl (mq BK383) Try.underlying29 rfl (by kernel_rfl)) rfl ?_
 exact ⟨_, by first | rfl | (simp [errW_none, errW_some] <;> rfl) | (simp [*, errW_none, errW_some] <;> rfl), by (with_reducible repeat (first | apply Kd.R_alloc | apply Kd.R_drewN | apply Kd.R_drew)); exact Kd.R_mono (Kd.R_far (p := ⟨gb383, 1, none⟩) (Kd.R_far (p := ⟨gb383, 0, none⟩) (Kd.R_types HO390.out BK383.out (by decide)) (fun _ hk => hk.2) (.int .i64 t387)) (fun _ hk => hk.2) (.slice Ao64 t388.length co64)) (fun _ hk => trivial), IsS112.mi HI0, IsS112.ms HB, mk HK⟩

end Go.Proofs.Ytlencemmlgkflaa.QFnEntailed
