-- Made by a program of this claim's own (wip/print): not the kit's print as it stands.
import Derived.Test.YtlencemmlgkflaaUFnFoundTri
import Derived.Test.YtlencemmlgkflaaQFnFoundx0
import Derived.Test.YtlencemmlgkflaaQFnFoundx1
import Derived.Test.YtlencemmlgkflaaQFnFoundx2
namespace Go.Proofs.Ytlencemmlgkflaa.QFnFound
open Go.RowKit Go.Proofs.YtlencemmlgkflaaV.PrintWords Go.Proofs.YtlencemmlgkflaaV.PrintLast Go.Proofs.YtlencemmlgkflaaV.PrintMore
attribute [local go_sem] max2_int min2_int max_two min_two max_three min_three max_four min_four   -- for this text's walks alone
set_option linter.unusedVariables false
set_option linter.unusedSimpArgs false

/-! ### spec_l6Draw: function 115 -/
def spec_l6Draw.l0 : Nat → Int → Int → Int → List Int → Int → Int → Int → List (S29) → Option (Int × (List (S29)) × Int × Int)
 | 0, _, _, _, _, _, _, _, _ => none
 | k + 1, x1, x6, x7, x1000, x1001, x1002, x151000, x151001 => if x7 < x6 then ((spec_l4Draw.f k x1000 x1001 x1002 x1).bind fun bt154 => (if x151001.length < 4398046511104 then (spec_l6Draw.l0 k x1 x6 (wrap64 (x7 + 1)) x1000 bt154.2.2.1 bt154.2.2.2 x151000 (x151001 ++ [(⟨bt154.1, bt154.2.1⟩ : S29)])) else (none))) else (some (x151000, x151001, x1001, x1002))
def spec_l6Draw.f (k : Nat) (s0_0 : List Int) (s0_1 : Int) (s0_2 : Int) (a1 : Int) : Option (Int × (List (S29)) × Int × Int) := (spec_l1Below.f s0_0 s0_1 s0_2 5).bind fun bt151 => (spec_l6Draw.l0 k a1 bt151.1 0 s0_0 bt151.2.1 bt151.2.2 a1 ([] : List (S29)))
theorem spec_l6Draw.mono_l : ∀ k, (∀ y0 y1 y2 y3 y4 y5 y6 y7, LeO (spec_l6Draw.l0 k y0 y1 y2 y3 y4 y5 y6 y7) (spec_l6Draw.l0 (k + 1) y0 y1 y2 y3 y4 y5 y6 y7))
 | 0 => fun _ _ _ _ _ _ _ _ r h => by simp [spec_l6Draw.l0] at h
 | k + 1 => by
  have ih0 := spec_l6Draw.mono_l k
  ·intro y0 y1 y2 y3 y4 y5 y6 y7
   unfold spec_l6Draw.l0
   repeat' with_reducible first
   | exact ih0 _ _ _ _ _ _ _ _
   | exact spec_l4Draw.mono _ _ _ _ _
   | exact LeO.refl _
   | exact LeO.none _
   | refine LeO.ite ?_ ?_
   | refine LeO.bind ?_ (fun _ => ?_)
theorem spec_l6Draw.mono : ∀ a0 a1 a2 a3 k, LeO (spec_l6Draw.f k a0 a1 a2 a3) (spec_l6Draw.f (k + 1) a0 a1 a2 a3) := by
 intro a0 a1 a2 a3 k
 have ih0 := spec_l6Draw.mono_l k
 unfold spec_l6Draw.f
 repeat' with_reducible first
 | exact ih0 _ _ _ _ _ _ _ _
 | exact spec_l4Draw.mono _ _ _ _ _
 | exact LeO.refl _
 | exact LeO.none _
 | refine LeO.ite ?_ ?_
 | refine LeO.bind ?_ (fun _ => ?_)
def spec_l6Draw.T6 : Bool × List (List Nat × List Nat) := (true, [([], []), ([0], [0]), ([], []), ([], []), ([2, 3], [2, 3]), ([4], [4]), ([1, 5, 4], [1, 5]), ([0, 1, 2, 3, 4, 5, 6], []), ([7, 6, 6, 0, 1, 2, 3, 4, 5, 6], [6, 7])])
def spec_l6Draw.B6 : List Nat := [0, 1, 0, 0, 12, 28, 63, 127, 255]
theorem spec_l6Draw.tab6 : rtab .any (opsOf Try.f115 6) = spec_l6Draw.T6 := by kernel_rfl
theorem spec_l6Draw.bits6 : waitsOk spec_l6Draw.T6.2 spec_l6Draw.B6 = true := by kernel_rfl
set_option maxHeartbeats 8000000 in
set_option maxRecDepth 100000 in
theorem spec_l6Draw.calls (k : Nat) (g : Nat) (s0_0 : List Int) (s0_1 : Int) (s0_2 : Int) (a1 : Int) (r1 : Int) (r2 : List (S29)) (r3 : Int) (r4 : Int) (w0 w : World) (hI : IsS112 w0 w g s0_0 s0_1 s0_2) (hB : Below w0.heap.size w0 w) (h : spec_l6Draw.f k s0_0 s0_1 s0_2 a1 = some (r1, r2, r3, r4)) :
  Calls Try.prog 115 #[.pointer (some ⟨g, 0, none⟩), .int .i64 a1] w fun e w' => ∃ v1_ : Value, e = .returned (.agg #[.int .i64 r1, v1_]) ∧ Kd.S k29 29 w' w.heap.size (fun _ => True) v1_ r2 ∧ IsS112 w0 w' g s0_0 r3 r4 ∧ Below w0.heap.size w0 w' ∧ KeepBut w w' g none := by
 have hu26 := Try.underlying26
 have HI0 := Aside0.mk hI
 have HK := Aside0.mk (KeepBut.refl w g none)
 have HL := Aside0.mk hB.size
 clear hI
 have HW0 := Aside0.mk hB.size
 have HB := Aside0.mk hB; clear hB
 have H : ((spec_l1Below.f s0_0 s0_1 s0_2 5).bind fun bt151 => (spec_l6Draw.l0 k a1 bt151.1 0 s0_0 bt151.2.1 bt151.2.2 a1 ([] : List (S29)))) = some (r1, r2, r3, r4) := h
 clear h
 obtain ⟨⟨t151, t152, t153⟩, A30, H⟩ := Option.bind_eq_some_iff.mp H
 try dsimp only at H
 have A3 := Aside0.mk A30; clear A30
 have H' := Aside0.mk H
 clear H
 go_enter Try.func115, Try.ntmps115
 go_wp2_with (first | ((with_reducible refine gate_dst (N := 4) rfl ?_); refine box_event ?hg (N := 4) ?hd (cs := #[.int .i64 0, .slice none 0 0]) (t := 26) ?hr ?_; (case hd => rfl); (case hg => rfl); (case hr => first | (go_simp; done) | (go_simp; rfl)); intro gb149 hg w4 hbox hb; have n0_ := Aside0.mk (IsS112.below (IsS112.mi HI0) hb); have n1_ := Aside0.mk (KeepBut.trans (mk HK) (KeepBut.of_below hb g none) (.inl rfl)); have n2_ := Aside0.mk (below_step (IsS112.ms HB) hb); have n3_ := Aside0.mk (hbox); have n4_ := Aside0.mk ((by rw [hg]; exact (keep_size (w := w) (g := g) (row := none) (mk HK)) : w.heap.size ≤ gb149)); have n5_ := Aside0.mk ((Nat.le_trans HW0.out (by rw [hg]; exact (keep_size (w := w) (g := g) (row := none) (mk HK)) : w.heap.size ≤ gb149) : w0.heap.size ≤ gb149)); have n6_ := Aside0.mk ((by rw [hg]; exact Nat.ne_of_lt (IsS112.lt (show IsS112 w0 _ g s0_0 s0_1 s0_2 from IsS112.mi HI0)) : g ≠ gb149)); have n7_ := Aside0.mk ((by rw [hg]; exact Nat.ne_of_gt (IsS112.lt (show IsS112 w0 _ g s0_0 s0_1 s0_2 from IsS112.mi HI0)) : gb149 ≠ g)); clear HI0 HK HB; have HI0 := n0_; have HK := n1_; have HB := n2_; have BK149 := n3_; have GW149 := n4_; have GE149 := n5_; have NB0_149 := n6_; have NB149_0 := n7_; clear n0_ n1_ n2_ n3_ n4_ n5_ n6_ n7_; clear hb hbox hg) | ((with_reducible refine gate_dst (N := 5) rfl ?_); refine box_event ?hg (N := 5) ?hd (cs := #[.int .i64 0, .slice none 0 0]) (t := 26) ?hr ?_; (case hd => rfl); (case hg => rfl); (case hr => first | (go_simp; done) | (go_simp; rfl)); intro gb150 hg w5 hbox hb; have n0_ := Aside0.mk (IsS112.below (IsS112.mi HI0) hb); have n1_ := bb BK149 hb; have n2_ := Aside0.mk (KeepBut.trans (mk HK) (KeepBut.of_below hb g none) (.inl rfl)); have n3_ := Aside0.mk (below_step (IsS112.ms HB) hb); have n4_ := Aside0.mk (hbox); have n5_ := Aside0.mk ((by rw [hg]; exact (keep_size (w := w) (g := g) (row := none) (mk HK)) : w.heap.size ≤ gb150)); have n6_ := Aside0.mk ((Nat.le_trans HW0.out (by rw [hg]; exact (keep_size (w := w) (g := g) (row := none) (mk HK)) : w.heap.size ≤ gb150) : w0.heap.size ≤ gb150)); have n7_ := nl hg BK149; have n8_ := ng hg BK149; have n9_ := Aside0.mk ((by rw [hg]; exact Nat.ne_of_lt (IsS112.lt (show IsS112 w0 _ g s0_0 s0_1 s0_2 from IsS112.mi HI0)) : g ≠ gb150)); have n10_ := Aside0.mk ((by rw [hg]; exact Nat.ne_of_gt (IsS112.lt (show IsS112 w0 _ g s0_0 s0_1 s0_2 from IsS112.mi HI0)) : gb150 ≠ g)); clear HI0 BK149 HK HB; have HI0 := n0_; have BK149 := n1_; have HK := n2_; have HB := n3_; have BK150 := n4_; have GW150 := n5_; have GE150 := n6_; have NB149_150 := n7_; have NB150_149 := n8_; have NB0_150 := n9_; have NB150_0 := n10_; clear n0_ n1_ n2_ n3_ n4_ n5_ n6_ n7_ n8_ n9_ n10_; clear hb hbox hg; have := NB150_149.out; have := NB149_150.out; have := NB150_0.out; have := NB0_150.out; obtain ⟨hcz8_0, hcz8_1, hfz8_0, hfz8_1⟩ := cFour BK150) | ((with_reducible refine gate_callee (f := 116) rfl ?_); refine gl (some 11) rfl rfl Try.func116 (by kernel_rfl) rfl #[.pointer (some ⟨g, 0, none⟩), .int .i64 5] rfl ?_; (with_reducible refine (spec_l1Below.calls g s0_0 s0_1 s0_2 5 t151 t152 t153 w0 _ ?side1 ?side2 A3.out).mono ?_); (case side1 => exact IsS112.mi HI0); (case side2 => exact IsS112.ms HB); rintro e w9 ⟨rfl, hi, hb, hk⟩; refine ⟨_, rfl, ?_⟩; have n0_ := Aside0.mk (KeepBut.blk hk (g' := gb149) (o := .cells #[.int .i64 0, .slice none 0 0] 26 (0, 0)) (mf BK149) NB149_0.out (by simp)); have n1_ := Aside0.mk (KeepBut.blk hk (g' := gb150) (o := .cells #[.int .i64 a1, .slice none 0 0] 26 (0, 0)) (mq BK150) NB150_0.out (by simp)); have n2_ := Aside0.mk (KeepBut.trans (mk HK) hk (.inl rfl)); have n3_ := Aside0.mk (hb); have n4_ := Aside0.mk (hi); clear BK149 BK150 HK HB HI0; have BK149 := n0_; have BK150 := n1_; have HK := n2_; have HB := n3_; have HI0 := n4_; clear n0_ n1_ n2_ n3_ n4_; (try clear hb)))
 go_loopg [7] k (fun kq v7 w' => ∃ (x7_1 : Int) (x1001_1 : Int) (x1002_1 : Int) (x151001_1 : List (S29)) (u151001 : Value), v7 = .int .i64 x7_1 ∧ Aside0 (spec_l6Draw.l0 kq a1 t151 x7_1 s0_0 x1001_1 x1002_1 a1 x151001_1 = some (r1, r2, r3, r4)) ∧ Aside0 (kq ≤ k) ∧ Aside0 (Kd.S k29 29 w' w.heap.size (fun _ => True) u151001 x151001_1) ∧ Aside0 (w'.heap[gb149]? = some (.cells #[.int .i64 0, (.slice none 0 0)] 26 (0, 0))) ∧ Aside0 (w'.heap[gb150]? = some (.cells #[.int .i64 a1, u151001] 26 (0, 0))) ∧ Aside0 (IsS112 w0 w' g s0_0 x1001_1 x1002_1) ∧ Aside0 (KeepBut w w' g none) ∧ Aside0 (Below w0.heap.size w0 w'))
 case atStart => exact ⟨(0), (t152), (t153), (([] : List (S29))), (.slice none 0 0), (by first | rfl | (simp; done) | (simp [*]; done)), H', ⟨Nat.le_refl _⟩, ⟨by first | exact Kd.S_nil _ _ _ _ _ | exact Kd.N_nil _ _ _ _ _ | exact Kd.V_nil _ _ _ _ _ | exact Kd.Q_nil _ _ _ _ _ | exact Kd.R_nil _ _ _ _ _⟩, ⟨mb BK149⟩, ⟨mb BK150⟩, ⟨IsS112.mi HI0⟩, ⟨mk HK⟩, ⟨IsS112.ms HB⟩⟩
 case round =>
  clear H'
  try clear c1
  try clear p2
  try clear c6
  try clear c7
  try clear hcz8_0
  try clear hcz8_1
  try clear hfz8_0
  try clear hfz8_1
  obtain ⟨x7_1, x1001_1, x1002_1, x151001_1, u151001, rfl, HA, HK1, HO_151001, BK149, BK150, HI0, HK, HB⟩ := hrel
  cases gk with
  | zero => exact absurd HA.out (by simp [spec_l6Draw.l0])
  | succ k1 =>
   have H := HA.out
   clear HA
   simp only [spec_l6Draw.l0] at H
   by_cases c10 : x7_1 < t151
   ·rw [if_pos c10] at H
    have c10b0 : decide (x7_1 < t151) = true := decide_eq_true c10
    clear c10
    obtain ⟨⟨t154, t155, t158, t159⟩, A110, H⟩ := Option.bind_eq_some_iff.mp H
    try dsimp only at H
    have A11 := Aside0.mk A110; clear A110
    by_cases c12 : x151001_1.length < 4398046511104
    ·rw [if_pos c12] at H
     have LMc12 := Aside0.mk c12; clear c12
     obtain ⟨y160, hy160⟩ : ∃ y_ : List (S29), y_ = (x151001_1 ++ [(⟨t154, t155⟩ : S29)]) := ⟨_, rfl⟩
     replace H : (spec_l6Draw.l0 k1 a1 t151 (wrap64 (x7_1 + 1)) s0_0 t158 t159 a1 y160) = some (r1, r2, r3, r4) := by first | (rw [hy160]; with_reducible exact H) | (have H2_ := (Option.bind_some _ _).symm.trans H; rw [hy160]; with_reducible exact H2_) | (have H2_ := (Option.bind_some _ _).symm.trans H; with_reducible exact H2_) | with_reducible exact H | (rw [hy160]; exact H) | exact H
     have Ny160 := Aside0.mk hy160; clear hy160
     have H' := Aside0.mk H
     clear H
     try go_wp2
     replace HO_151001 := Aside0.mk (Kd.S_drew HO_151001.out)
     replace BK149 := Aside0.mk (blk_drew BK149.out)
     replace BK150 := Aside0.mk (blk_drew BK150.out)
     replace HI0 := Aside0.mk (IsS112.drew HI0.out)
     replace HK := Aside0.mk (keep_drew HK.out)
     replace HB := Aside0.mk (below_drew1 HB.out)
     refine start_ (n := 9) (S := fun w' => w'.cell? ⟨gb150, 0, none⟩ = some (.int .i64 a1) ∧ w'.cell? ⟨gb150, 1, none⟩ = some (u151001)) (ds := [8]) #[false, false, false, false, false, false, false, false, false] (by kernel_rfl) rfl rfl ⟨(c2 BK150).1, (c2 BK150).2⟩ (fun hHeld => ?_); refine with_tabW spec_l6Draw.tab6 spec_l6Draw.bits6 (fun HT_ HW_ => ?_)
     generalize wr.drew = w13 at HO_151001 BK149 BK150 HI0 HK HB hHeld ⊢
     refine pu 0 (some 17) (v := ?_) (a' := ?_) #[true, false, false, false, false, false, false, false, false] rfl rfl HT_ (fun _ _ _ h => h) (by rfl) ?_ ?_ ?_
     rotate_left
     ·intro w'
      go_simp
      with_reducible rfl
     rotate_left
     ·simp only [Act.put, z1, z2, z3, i64_w, i32_w]
      rfl
     refine pu 2 (some 19) (v := ?_) (a' := ?_) #[true, false, true, false, false, false, false, false, false] rfl rfl HT_ (fun _ _ _ h => h) (by rfl) ?_ ?_ ?_
     rotate_left
     ·intro w'
      go_simp
      with_reducible rfl
     rotate_left
     ·simp only [Act.put, z1, z2, z3, i64_w, i32_w]
      rfl
     refine pu 3 (some 20) (v := ?_) (a' := ?_) #[true, false, true, true, false, false, false, false, false] rfl rfl HT_ (fun _ _ _ h => h) (by rfl) ?_ ?_ ?_
     rotate_left
     ·intro w'
      go_simp
      with_reducible rfl
     rotate_left
     ·simp only [Act.put, z1, z2, z3, i64_w, i32_w]
      rfl
     refine tk 1 (some 18) (v := ?_) (a' := ?_) #[true, true, true, true, false, false, false, false, false] rfl rfl HT_ HW_ (fun _ _ _ h => h) (by rfl) ?_ hHeld ?_ ?_
     rotate_left
     ·rintro w' ⟨s0, s1⟩
      go_simp
      with_reducible rfl
     rotate_left
     ·simp only [Act.put, z1, z2, z3, i64_w, i32_w]
      rfl
     refine one_ (i := 4) (N := some 21) #[true, true, true, true, true, false, false, false, false] rfl rfl (one_of HT_.out (by kernel_rfl)) (by decide) (fun K hK => ?_)
     refine gs Try.func120 (by kernel_rfl) rfl #[.pointer (some ⟨g, 0, none⟩), .int .i64 a1] (by rfl) rfl rfl ?_
     with_reducible refine (spec_l4Draw.calls k1 g s0_0 x1001_1 x1002_1 a1 t154 t155 t158 t159 w0 _ ?side1 ?side2 A11.out).mono ?_
     (case side1 => exact IsS112.mi HI0)
     (case side2 => exact IsS112.ms HB)
     rintro e w14 ⟨v156, rfl, ho0, hi, hb, hk⟩
     refine ⟨_, rfl, ?_⟩
     replace HO_151001 := Aside0.mk (Kd.S_mono (Kd.S_told (Kd.S_oldK (IsS112.apartS (show IsS112 w0 _ g s0_0 x1001_1 x1002_1 from IsS112.mi HI0) (mS HO_151001) (by decide)) hk) (Kd.R_base ho0)) (fun _ h_ => h_.1))
     replace BK149 := Aside0.mk (KeepBut.blk hk (g' := gb149) (o := .cells #[.int .i64 0, .slice none 0 0] 26 (0, 0)) (mb BK149) NB149_0.out (by simp))
     replace BK150 := Aside0.mk (KeepBut.blk hk (g' := gb150) (o := .cells #[.int .i64 a1, u151001] 26 (0, 0)) (mb BK150) NB150_0.out (by simp))
     have HO157 := Aside0.mk (Kd.R_lower ho0 (keep_size (w := w) (g := g) (row := none) (mk HK)))
     replace HK := Aside0.mk (KeepBut.trans (mk HK) hk (.inl rfl))
     replace HB := Aside0.mk (hb)
     replace HI0 := Aside0.mk (hi)
     (try clear hb)
     (try clear hb2)
     (try clear hk)
     (try clear hi)
     (try clear ho0)
     obtain ⟨Ao16, co16, eo16⟩ := Kd.R_slice HO157.out
     (first | subst eo16 | (injection eo16 with f1_ f2_ f3_; have f4_ := f1_.symm; have f5_ := f3_.symm; clear f1_ f2_ f3_; subst f4_; subst f5_))
     refine hK.out _ _ ⟨(c2 BK150).1, (c2 BK150).2⟩ (fun hHeld => ?_)
     clear hK K
     refine norm_ (a' := ?_) ?_ ?_
     rotate_left
     ·show Act.put _ (some 21) _ = _
      simp only [Act.put, z1, z2, z3, i64_w, i32_w]
      rfl
     refine one_ (i := 5) (N := some 22) #[true, true, true, true, true, true, false, false, false] rfl rfl (one_of HT_.out (by kernel_rfl)) (by decide) (fun K hK => ?_)
     refine value_ (w1 := ?_) (v := ?_) (by rfl) rfl ?_ ?_
     rotate_left 2
     ·go_simp
      constructor
      ·rfl
      rfl
     refine hK.out _ _ ⟨(blk_cell (blk_alloc BK150.out _) 0).trans rfl, (blk_cell (blk_alloc BK150.out _) 1).trans rfl⟩ (fun hHeld => ?_)
     clear hK K
     refine norm_ (a' := ?_) ?_ ?_
     rotate_left
     ·show Act.put _ (some 22) _ = _
      simp only [Act.put, z1, z2, z3, i64_w, i32_w]
      rfl
     refine one_ (i := 6) (N := some 23) #[true, true, true, true, true, true, true, false, false] rfl rfl (one_of HT_.out (by kernel_rfl)) (by decide) (fun K hK => ?_)
     refine Kd.S_append_step k29 w.heap.size (by rfl) (.tmp 18) (.tmp 22) 24 29 (.agg #[(.int .i64 0), (.slice none 0 0)]) 32 rfl Try.underlying24 info29 rfl (by decide) (by omega) u151001 x151001_1 (⟨t154, t155⟩ : S29) [.int .i64 t154, .slice Ao16 t155.length co16] (fun _ => True) (fun k_ => some k_ = (.slice Ao16 t155.length co16 : Value).ownBlock) rfl rfl ?aP (fun k_ hk_ => ((Kd.R_mono (ok' := fun k_ => ((fun _ => True)) k_ ∧ some k_ ≠ (u151001 : Value).ownBlock) (Kd.R_apart' (HO157.out) (Kd.S_typed HO_151001.out) (by decide)) (fun k_ hk => ⟨trivial, hk.2⟩))).1 k_ hk_.symm) ?aF ?aO (Below.refl _ _) ?aS ?aL ?_
     (case aP => exact k29_mkM _ _ _ (⟨t154, t155⟩ : S29) (Kd.R_mono (Kd.R_tight rfl (Kd.R_mono (ok' := fun k_ => ((fun _ => True)) k_ ∧ some k_ ≠ (u151001 : Value).ownBlock) (Kd.R_apart' (HO157.out) (Kd.S_typed HO_151001.out) (by decide)) (fun k_ hk => ⟨trivial, hk.2⟩))) (fun _ h_ => h_)))
     (case aF => exact (fun _ _ => trivial))
     (case aO => exact (by (with_reducible repeat (first | apply Kd.S_alloc | apply Kd.S_drewN | apply Kd.S_drew)); exact Kd.S_mono HO_151001.out (fun k_ hk => ⟨trivial, fun e_ => hk.2 e_⟩)))
     (case aS => exact (keep_size (w := w) (g := g) (row := none) (mk HK)))
     (case aL => have := LMc12.out; omega)
     intro v161 w15 ho hb hg hat
     rw [← Ny160.out] at ho
     replace BK149 := Aside0.mk (blk_grown (g := gb149) (o := .cells #[.int .i64 0, .slice none 0 0] 26 (0, 0)) (mb BK149) hg (Kd.S_ne HO_151001.out BK149.out (by decide)))
     replace BK150 := Aside0.mk (blk_grown (g := gb150) (o := .cells #[.int .i64 a1, u151001] 26 (0, 0)) (mb BK150) hg (Kd.S_ne HO_151001.out BK150.out (by decide)))
     replace HB := Aside0.mk (below_weaken (IsS112.ms HB) HL.out hb)
     replace HI0 := Aside0.mk (IsS112.grown (IsS112.mi HI0) hg (IsS112.own_neS HI0.out HO_151001.out (by decide)))
     replace HK := Aside0.mk (KeepBut.trans (mk HK) (KeepBut.of_grown hg g) (Kd.S_base2 HO_151001.out))
     have HO162 := Aside0.mk (ho)
     clear HO_151001 HO157 ho hb hg hat
     obtain ⟨Ao17, co17, eo17⟩ := Kd.S_slice HO162.out
     (first | subst eo17 | (injection eo17 with f1_ f2_ f3_; have f4_ := f1_.symm; have f5_ := f3_.symm; clear f1_ f2_ f3_; subst f4_; subst f5_))
     refine hK.out _ _ ⟨(c2 BK150).1, (c2 BK150).2⟩ (fun hHeld => ?_)
     clear hK K
     refine norm_ (a' := ?_) ?_ ?_
     rotate_left
     ·show Act.put _ (some 23) _ = _
      simp only [Act.put, z1, z2, z3, i64_w, i32_w]
      rfl
     refine pu 7 (some 24) (v := ?_) (a' := ?_) #[true, true, true, true, true, true, true, true, false] rfl rfl HT_ (fun _ _ _ h => h) (by rfl) ?_ ?_ ?_
     rotate_left
     ·intro w'
      go_simp
      with_reducible rfl
     rotate_left
     ·simp only [Act.put, z1, z2, z3, i64_w, i32_w]
      rfl
     refine last_ (i := 8) (N := none) #[true, true, true, true, true, true, true, true, true] rfl rfl (one_of HT_.out (by kernel_rfl)) (by decide) (fun K hK => ?_)
     have hs18 : w15.cell? ⟨gb150, 1, none⟩ = some (u151001) := (blk_cell BK150.out 1).trans rfl
     have hfs18 := blk_frozen BK150.out 1
     have hns18_0 := NB149_150.out
     have hms18_0 := NB150_149.out
     refine skip_ (w1 := ?_) (by rfl) rfl ?_ ?_
     rotate_left
     ·go_simp
      rfl
     refine hK.out _ _ ?_
     clear hK K
     refine done_ (done_of HT_.out (by kernel_rfl)) ?_
     try go_wp2
     go_roundg k1
     case measure => have := HK1.out; omega
     case rel => exact ⟨(wrap64 (x7_1 + 1)), (t158), (t159), (y160), (.slice Ao17 y160.length co17), (by first | rfl | (simp; done) | (simp [*]; done)), H', ⟨by have := HK1.out; omega⟩, ⟨by (with_reducible repeat (first | apply Kd.S_alloc | apply Kd.S_drewN | apply Kd.S_drew)); exact Kd.S_mono (Kd.S_far (p := ⟨gb150, 1, none⟩) (Kd.S_types HO162.out BK150.out (by decide)) (fun _ hk => hk.2) (.slice Ao17 y160.length co17)) (fun _ hk => trivial)⟩, ⟨mf BK149⟩, ⟨by (with_reducible repeat (first | refine blk_drewN ?_ _ | refine blk_drew ?_ | refine blk_alloc ?_ _)); refine blk_put (cs := #[.int .i64 a1, u151001]) ?_ 1 _ rfl; (with_reducible repeat (first | refine blk_drewN ?_ _ | refine blk_drew ?_ | refine blk_alloc ?_ _)); exact BK150.out⟩, ⟨IsS112.mi HI0⟩, ⟨mk HK⟩, ⟨IsS112.ms HB⟩⟩
    rw [if_neg c12] at H
    exact absurd H (by simp)
   rw [if_neg c10] at H
   have c10b0 : decide (x7_1 < t151) = false := decide_eq_false c10
   clear c10
   simp only [Option.some.injEq, Prod.mk.injEq] at H
   obtain ⟨rfl, rfl, rfl, rfl⟩ := H
   have := NB150_149.out
   have := NB149_150.out
   have := NB150_0.out
   have := NB0_150.out
   obtain ⟨_, _, _, _⟩ := cFour BK150
   have := NB149_0.out
   have := NB0_149.out
   obtain ⟨_, _, _, _⟩ := cFour BK149
   obtain ⟨Ao24, co24, eo24⟩ := Kd.S_slice HO_151001.out
   subst eo24
   go_wp2
   refine bodyPost_ret (results_cell_row rfl _ _ gb149 26 #[.int .i64 a1, .slice Ao24 x151001_1.length co24] (0, 0) _ rfl (mq BK149) Try.underlying26 rfl (by kernel_rfl)) rfl ?_
   exact ⟨_, by first | rfl | (simp [errW_none, errW_some] <;> rfl) | (simp [*, errW_none, errW_some] <;> rfl), by (with_reducible repeat (first | apply Kd.S_alloc | apply Kd.S_drewN | apply Kd.S_drew)); exact Kd.S_mono (Kd.S_far (p := ⟨gb149, 1, none⟩) (Kd.S_far (p := ⟨gb149, 0, none⟩) (Kd.S_types HO_151001.out BK149.out (by decide)) (fun _ hk => hk.2) (.int .i64 a1)) (fun _ hk => hk.2) (.slice Ao24 x151001_1.length co24)) (fun _ hk => trivial), IsS112.mi HI0, IsS112.ms HB, mk HK⟩

/-! ### spec_l3Any: function 145 -/
def spec_l3Any.f (s0_0 : List Int) (s0_1 : Int) (s0_2 : Int) : Option (Int × Int × Int) := (spec_l1PickInt.f s0_0 s0_1 s0_2 (([0, 1, (-1), 2, 5, (-6), 12, 1000000, (-1000001), 1000000000, (-1000000000), 1000000001, 40000, 9223372036854775807, (-9223372036854775808)] : List Int))).bind fun bt166 => (some (bt166.1, bt166.2.1, bt166.2.2))
set_option maxHeartbeats 8000000 in
set_option maxRecDepth 100000 in
theorem spec_l3Any.calls (g : Nat) (s0_0 : List Int) (s0_1 : Int) (s0_2 : Int) (r1 : Int) (r2 : Int) (r3 : Int) (w0 w : World) (hI : IsS112 w0 w g s0_0 s0_1 s0_2) (hB : Below w0.heap.size w0 w) (h : spec_l3Any.f s0_0 s0_1 s0_2 = some (r1, r2, r3)) :
  Calls Try.prog 145 #[.pointer (some ⟨g, 0, none⟩)] w fun e w' => e = .returned (.int .i64 r1) ∧ IsS112 w0 w' g s0_0 r2 r3 ∧ Below w0.heap.size w0 w' ∧ KeepBut w w' g none := by
 have HI0 := Aside0.mk hI
 have HK := Aside0.mk (KeepBut.refl w g none)
 have HL := Aside0.mk hB.size
 clear hI
 have HW0 := Aside0.mk hB.size
 have HB := Aside0.mk hB; clear hB
 have H : ((spec_l1PickInt.f s0_0 s0_1 s0_2 (([0, 1, (-1), 2, 5, (-6), 12, 1000000, (-1000001), 1000000000, (-1000000000), 1000000001, 40000, 9223372036854775807, (-9223372036854775808)] : List Int))).bind fun bt166 => (some (bt166.1, bt166.2.1, bt166.2.2))) = some (r1, r2, r3) := h
 clear h
 obtain ⟨y163, hy163⟩ : ∃ y_ : List Int, y_ = (([0, 1, (-1), 2, 5, (-6), 12, 1000000, (-1000001), 1000000000, (-1000000000), 1000000001, 40000, 9223372036854775807, (-9223372036854775808)] : List Int)) := ⟨_, rfl⟩
 replace H : ((spec_l1PickInt.f s0_0 s0_1 s0_2 y163).bind fun bt166 => (some (bt166.1, bt166.2.1, bt166.2.2))) = some (r1, r2, r3) := by first | (rw [hy163]; with_reducible exact H) | (have H2_ := (Option.bind_some _ _).symm.trans H; rw [hy163]; with_reducible exact H2_) | (have H2_ := (Option.bind_some _ _).symm.trans H; with_reducible exact H2_) | with_reducible exact H | (rw [hy163]; exact H) | exact H
 have Ny163 := Aside0.mk hy163; clear hy163
 obtain ⟨⟨t166, t167, t168⟩, A20, H⟩ := Option.bind_eq_some_iff.mp H
 try dsimp only at H
 have A2 := Aside0.mk A20; clear A20
 simp only [Option.some.injEq, Prod.mk.injEq] at H
 obtain ⟨rfl, rfl, rfl⟩ := H
 go_enter Try.func145, Try.ntmps145
 go_wp2_with (first | ((with_reducible refine gate_dst (N := 4) rfl ?_); refine Kd.R_lit (Kd.int .i64) _ 3 ?hg (N := 4) ?hd (xs := ([0, 1, (-1), 2, 5, (-6), 12, 1000000, (-1000001), 1000000000, (-1000000000), 1000000001, 40000, 9223372036854775807, (-9223372036854775808)] : List Int)) (inner := [.int .i64 0, .int .i64 1, .int .i64 (-1), .int .i64 2, .int .i64 5, .int .i64 (-6), .int .i64 12, .int .i64 1000000, .int .i64 (-1000001), .int .i64 1000000000, .int .i64 (-1000000000), .int .i64 1000000001, .int .i64 40000, .int .i64 9223372036854775807, .int .i64 (-9223372036854775808)]) (ok := fun _ => True) (okp := fun _ => True) ?hr ?hp (fun _ hk => hk) trivial (Below.refl _ _) (Nat.le_refl _) (by simp) ?_; (case hd => rfl); (case hg => rfl); (case hr => first | (go_simp; done) | (go_simp; rfl)); (case hp => exact (Reps.one (show Kd.M (Kd.int .i64) _ _ _ 0 [.int .i64 0] from rfl) (Reps.one (show Kd.M (Kd.int .i64) _ _ _ 1 [.int .i64 1] from rfl) (Reps.one (show Kd.M (Kd.int .i64) _ _ _ (-1) [.int .i64 (-1)] from rfl) (Reps.one (show Kd.M (Kd.int .i64) _ _ _ 2 [.int .i64 2] from rfl) (Reps.one (show Kd.M (Kd.int .i64) _ _ _ 5 [.int .i64 5] from rfl) (Reps.one (show Kd.M (Kd.int .i64) _ _ _ (-6) [.int .i64 (-6)] from rfl) (Reps.one (show Kd.M (Kd.int .i64) _ _ _ 12 [.int .i64 12] from rfl) (Reps.one (show Kd.M (Kd.int .i64) _ _ _ 1000000 [.int .i64 1000000] from rfl) (Reps.one (show Kd.M (Kd.int .i64) _ _ _ (-1000001) [.int .i64 (-1000001)] from rfl) (Reps.one (show Kd.M (Kd.int .i64) _ _ _ 1000000000 [.int .i64 1000000000] from rfl) (Reps.one (show Kd.M (Kd.int .i64) _ _ _ (-1000000000) [.int .i64 (-1000000000)] from rfl) (Reps.one (show Kd.M (Kd.int .i64) _ _ _ 1000000001 [.int .i64 1000000001] from rfl) (Reps.one (show Kd.M (Kd.int .i64) _ _ _ 40000 [.int .i64 40000] from rfl) (Reps.one (show Kd.M (Kd.int .i64) _ _ _ 9223372036854775807 [.int .i64 9223372036854775807] from rfl) (Reps.one (show Kd.M (Kd.int .i64) _ _ _ (-9223372036854775808) [.int .i64 (-9223372036854775808)] from rfl) (Reps.none _ _))))))))))))))))); intro v164 w3 ho4 hb hg_ hnew_; clear hg_ hnew_; (first | rw [← Ny163.out] at ho4 | (simp only [Int.reduceToNat] at ho4; rw [← Ny163.out] at ho4)); have HO165 := Aside0.mk (Kd.R_lower ho4 (keep_size (w := w) (g := g) (row := none) (mk HK))); replace HK := Aside0.mk (KeepBut.trans (mk HK) (KeepBut.of_below hb g none) (.inl rfl)); replace HB := Aside0.mk (below_step (IsS112.ms HB) hb); replace HI0 := Aside0.mk (IsS112.below (IsS112.mi HI0) hb); clear hb ho4; obtain ⟨Ao5, co5, eo5⟩ := Kd.R_slice HO165.out; subst eo5) | ((with_reducible refine gate_callee (f := 117) rfl ?_); refine gl (some 5) rfl rfl Try.func117 (by kernel_rfl) rfl #[.pointer (some ⟨g, 0, none⟩), .slice Ao5 y163.length co5] rfl ?_; (with_reducible refine (spec_l1PickInt.calls g s0_0 s0_1 s0_2 _ _ y163 t166 t167 t168 w0 _ ?side1 ?side2 ?side3 ?side4 ?side5 A2.out).mono ?_); (case side1 => exact IsS112.mi HI0); (case side2 => exact IsS112.ms HB); (case side3 => exact mc ((Kd.R_reads' HO165.out).2.2)); (case side4 => exact (Kd.R_reads' HO165.out).2.1); (case side5 => exact far_slice (IsS112.own_ne HI0.out HO165.out (by decide))); rintro e w6 ⟨rfl, hi, hb, hk⟩; refine ⟨_, rfl, ?_⟩; replace HO165 := Aside0.mk (Kd.R_mono (Kd.R_keep (IsS112.apart (show IsS112 w0 _ g s0_0 s0_1 s0_2 from IsS112.mi HI0) (mr HO165) (by decide)) hk (fun _ h => h.2)) (fun _ h => h.1)); replace HK := Aside0.mk (KeepBut.trans (mk HK) hk (.inl rfl)); replace HB := Aside0.mk (hb); replace HI0 := Aside0.mk (hi); (try clear hb)))
 go_ret
 exact ⟨by first | rfl | (simp [errW_none, errW_some] <;> rfl) | (simp [*, errW_none, errW_some] <;> rfl), IsS112.mi HI0, IsS112.ms HB, mk HK⟩

/-! ### spec_l4Bent: function 118 -/
def spec_l4Bent.f (k : Nat) (s0_0 : List Int) (s0_1 : Int) (s0_2 : Int) : Option (Int × List Int × Int × Int) := (spec_l1Below.f s0_0 s0_1 s0_2 4).bind fun bt170 => ((spec_l4Draw.f k s0_0 bt170.2.1 bt170.2.2 bt170.1).bind fun bt173 => ((spec_l1Below.f s0_0 bt173.2.2.1 bt173.2.2.2 10).bind fun bt180 => (if bt180.1 = 0 then ((spec_l3Any.f s0_0 bt180.2.1 bt180.2.2).bind fun bt183 => (some (bt183.1, bt173.2.1, bt183.2.1, bt183.2.2))) else (if bt180.1 = 1 then ((spec_l3Any.f s0_0 bt180.2.1 bt180.2.2).bind fun bt186 => (if bt173.2.1.length < 17592186044416 then (some (bt173.1, (bt173.2.1 ++ [bt186.1]), bt186.2.1, bt186.2.2)) else (none))) else (if bt180.1 = 2 then (if 9 ≤ 35184372088832 then (some (bt173.1, (List.replicate 9 0), bt180.2.1, bt180.2.2)) else (none)) else (some (bt173.1, bt173.2.1, bt180.2.1, bt180.2.2)))))))
theorem spec_l4Bent.mono : ∀ a0 a1 a2 k, LeO (spec_l4Bent.f k a0 a1 a2) (spec_l4Bent.f (k + 1) a0 a1 a2) := by
 intro a0 a1 a2 k
 unfold spec_l4Bent.f
 repeat' with_reducible first
 | exact spec_l4Draw.mono _ _ _ _ _
 | exact LeO.refl _
 | exact LeO.none _
 | refine LeO.ite ?_ ?_
 | refine LeO.bind ?_ (fun _ => ?_)
def spec_l4Bent.T6 : Bool × List (List Nat × List Nat) := (true, [([], []), ([0], [0]), ([], []), ([2], [2]), ([3], [3]), ([1, 4, 3], [1, 4]), ([0, 1, 2, 3, 4, 5], []), ([6, 5, 5, 0, 1, 2, 3, 4, 5], [5, 6])])
def spec_l4Bent.B6 : List Nat := [0, 1, 0, 4, 12, 31, 63, 127]
theorem spec_l4Bent.tab6 : rtab .any (opsOf Try.f118 6) = spec_l4Bent.T6 := by kernel_rfl
theorem spec_l4Bent.bits6 : waitsOk spec_l4Bent.T6.2 spec_l4Bent.B6 = true := by kernel_rfl
set_option maxHeartbeats 8000000 in
set_option maxRecDepth 100000 in
theorem spec_l4Bent.calls (k : Nat) (g : Nat) (s0_0 : List Int) (s0_1 : Int) (s0_2 : Int) (r1 : Int) (r2 : List Int) (r3 : Int) (r4 : Int) (w0 w : World) (hI : IsS112 w0 w g s0_0 s0_1 s0_2) (hB : Below w0.heap.size w0 w) (h : spec_l4Bent.f k s0_0 s0_1 s0_2 = some (r1, r2, r3, r4)) :
  Calls Try.prog 118 #[.pointer (some ⟨g, 0, none⟩)] w fun e w' => ∃ v1_ : Value, e = .returned (.agg #[.int .i64 r1, v1_]) ∧ Kd.R (Kd.int .i64) 3 w' w.heap.size (fun _ => True) v1_ r2 ∧ IsS112 w0 w' g s0_0 r3 r4 ∧ Below w0.heap.size w0 w' ∧ KeepBut w w' g none := by
 have hu29 := Try.underlying29
 have HI0 := Aside0.mk hI
 have HK := Aside0.mk (KeepBut.refl w g none)
 have HL := Aside0.mk hB.size
 clear hI
 have HW0 := Aside0.mk hB.size
 have HB := Aside0.mk hB; clear hB
 have H : ((spec_l1Below.f s0_0 s0_1 s0_2 4).bind fun bt170 => ((spec_l4Draw.f k s0_0 bt170.2.1 bt170.2.2 bt170.1).bind fun bt173 => ((spec_l1Below.f s0_0 bt173.2.2.1 bt173.2.2.2 10).bind fun bt180 => (if bt180.1 = 0 then ((spec_l3Any.f s0_0 bt180.2.1 bt180.2.2).bind fun bt183 => (some (bt183.1, bt173.2.1, bt183.2.1, bt183.2.2))) else (if bt180.1 = 1 then ((spec_l3Any.f s0_0 bt180.2.1 bt180.2.2).bind fun bt186 => (if bt173.2.1.length < 17592186044416 then (some (bt173.1, (bt173.2.1 ++ [bt186.1]), bt186.2.1, bt186.2.2)) else (none))) else (if bt180.1 = 2 then (if 9 ≤ 35184372088832 then (some (bt173.1, (List.replicate 9 0), bt180.2.1, bt180.2.2)) else (none)) else (some (bt173.1, bt173.2.1, bt180.2.1, bt180.2.2)))))))) = some (r1, r2, r3, r4) := h
 clear h
 obtain ⟨⟨t170, t171, t172⟩, A20, H⟩ := Option.bind_eq_some_iff.mp H
 try dsimp only at H
 have A2 := Aside0.mk A20; clear A20
 obtain ⟨⟨t173, t174, t177, t178⟩, A30, H⟩ := Option.bind_eq_some_iff.mp H
 try dsimp only at H
 have A3 := Aside0.mk A30; clear A30
 obtain ⟨⟨t180, t181, t182⟩, A40, H⟩ := Option.bind_eq_some_iff.mp H
 try dsimp only at H
 have A4 := Aside0.mk A40; clear A40
 by_cases c5 : t180 = 0
 ·rw [if_pos c5] at H
  have c5b0 : (t180 == 0) = true := beq_iff_eq.mpr c5
  have c5b1 : (t180 != 0) = false := bne_eq_false_iff_eq.mpr c5
  clear c5
  obtain ⟨⟨t183, t184, t185⟩, A60, H⟩ := Option.bind_eq_some_iff.mp H
  try dsimp only at H
  have A6 := Aside0.mk A60; clear A60
  simp only [Option.some.injEq, Prod.mk.injEq] at H
  obtain ⟨rfl, rfl, rfl, rfl⟩ := H
  go_enter Try.func118, Try.ntmps118
  go_wp2_with (first | ((with_reducible refine gate_dst (N := 2) rfl ?_); refine box_event ?hg (N := 2) ?hd (cs := #[.int .i64 0, .slice none 0 0]) (t := 29) ?hr ?_; (case hd => rfl); (case hg => rfl); (case hr => first | (go_simp; done) | (go_simp; rfl)); intro gb169 hg w7 hbox hb; have n0_ := Aside0.mk (IsS112.below (IsS112.mi HI0) hb); have n1_ := Aside0.mk (KeepBut.trans (mk HK) (KeepBut.of_below hb g none) (.inl rfl)); have n2_ := Aside0.mk (below_step (IsS112.ms HB) hb); have n3_ := Aside0.mk (hbox); have n4_ := Aside0.mk ((by rw [hg]; exact (keep_size (w := w) (g := g) (row := none) (mk HK)) : w.heap.size ≤ gb169)); have n5_ := Aside0.mk ((Nat.le_trans HW0.out (by rw [hg]; exact (keep_size (w := w) (g := g) (row := none) (mk HK)) : w.heap.size ≤ gb169) : w0.heap.size ≤ gb169)); have n6_ := Aside0.mk ((by rw [hg]; exact Nat.ne_of_lt (IsS112.lt (show IsS112 w0 _ g s0_0 s0_1 s0_2 from IsS112.mi HI0)) : g ≠ gb169)); have n7_ := Aside0.mk ((by rw [hg]; exact Nat.ne_of_gt (IsS112.lt (show IsS112 w0 _ g s0_0 s0_1 s0_2 from IsS112.mi HI0)) : gb169 ≠ g)); clear HI0 HK HB; have HI0 := n0_; have HK := n1_; have HB := n2_; have BK169 := n3_; have GW169 := n4_; have GE169 := n5_; have NB0_169 := n6_; have NB169_0 := n7_; clear n0_ n1_ n2_ n3_ n4_ n5_ n6_ n7_; clear hb hbox hg) | ((with_reducible refine gate_callee (f := 116) rfl ?_); refine gl (some 6) rfl rfl Try.func116 (by kernel_rfl) rfl #[.pointer (some ⟨g, 0, none⟩), .int .i64 4] rfl ?_; (with_reducible refine (spec_l1Below.calls g s0_0 s0_1 s0_2 4 t170 t171 t172 w0 _ ?side1 ?side2 A2.out).mono ?_); (case side1 => exact IsS112.mi HI0); (case side2 => exact IsS112.ms HB); rintro e w8 ⟨rfl, hi, hb, hk⟩; refine ⟨_, rfl, ?_⟩; replace BK169 := Aside0.mk (KeepBut.blk hk (g' := gb169) (o := .cells #[.int .i64 0, .slice none 0 0] 29 (0, 0)) (mb BK169) NB169_0.out (by simp)); replace HK := Aside0.mk (KeepBut.trans (mk HK) hk (.inl rfl)); replace HB := Aside0.mk (hb); replace HI0 := Aside0.mk (hi); (try clear hb)) | ((with_reducible refine gate_callee (f := 120) rfl ?_); refine gl (some 7) rfl rfl Try.func120 (by kernel_rfl) rfl #[.pointer (some ⟨g, 0, none⟩), .int .i64 t170] rfl ?_; (with_reducible refine (spec_l4Draw.calls k g s0_0 t171 t172 t170 t173 t174 t177 t178 w0 _ ?side1 ?side2 A3.out).mono ?_); (case side1 => exact IsS112.mi HI0); (case side2 => exact IsS112.ms HB); rintro e w9 ⟨v175, rfl, ho0, hi, hb, hk⟩; refine ⟨_, rfl, ?_⟩; replace BK169 := Aside0.mk (KeepBut.blk hk (g' := gb169) (o := .cells #[.int .i64 0, .slice none 0 0] 29 (0, 0)) (mb BK169) NB169_0.out (by simp)); have HO176 := Aside0.mk (Kd.R_lower ho0 (keep_size (w := w) (g := g) (row := none) (mk HK))); replace HK := Aside0.mk (KeepBut.trans (mk HK) hk (.inl rfl)); replace HB := Aside0.mk (hb); replace HI0 := Aside0.mk (hi); (try clear hb); (try clear ho0)) | ((with_reducible refine gate_dst (N := 3) rfl ?_); refine box_event ?hg (N := 3) ?hd (cs := #[.int .i64 0, .slice none 0 0]) (t := 29) ?hr ?_; (case hd => rfl); (case hg => rfl); (case hr => first | (go_simp; done) | (go_simp; rfl)); intro gb179 hg w10 hbox hb; have n0_ := rb HO176 hb; have n1_ := Aside0.mk (IsS112.below (IsS112.mi HI0) hb); have n2_ := bb BK169 hb; have n3_ := Aside0.mk (KeepBut.trans (mk HK) (KeepBut.of_below hb g none) (.inl rfl)); have n4_ := Aside0.mk (below_step (IsS112.ms HB) hb); have n5_ := Aside0.mk (hbox); have n6_ := Aside0.mk ((by rw [hg]; exact (keep_size (w := w) (g := g) (row := none) (mk HK)) : w.heap.size ≤ gb179)); have n7_ := Aside0.mk ((Nat.le_trans HW0.out (by rw [hg]; exact (keep_size (w := w) (g := g) (row := none) (mk HK)) : w.heap.size ≤ gb179) : w0.heap.size ≤ gb179)); have n8_ := nl hg BK169; have n9_ := ng hg BK169; have n10_ := Aside0.mk ((by rw [hg]; exact Nat.ne_of_lt (IsS112.lt (show IsS112 w0 _ g s0_0 t177 t178 from IsS112.mi HI0)) : g ≠ gb179)); have n11_ := Aside0.mk ((by rw [hg]; exact Nat.ne_of_gt (IsS112.lt (show IsS112 w0 _ g s0_0 t177 t178 from IsS112.mi HI0)) : gb179 ≠ g)); clear HO176 HI0 BK169 HK HB; have HO176 := n0_; have HI0 := n1_; have BK169 := n2_; have HK := n3_; have HB := n4_; have BK179 := n5_; have GW179 := n6_; have GE179 := n7_; have NB169_179 := n8_; have NB179_169 := n9_; have NB0_179 := n10_; have NB179_0 := n11_; clear n0_ n1_ n2_ n3_ n4_ n5_ n6_ n7_ n8_ n9_ n10_ n11_; clear hb hbox hg; have := NB179_169.out; have := NB169_179.out; have := NB179_0.out; have := NB0_179.out; obtain ⟨_, _, _, _⟩ := cFour BK179; obtain ⟨Ao14, co14, eo14⟩ := Kd.R_slice HO176.out; subst eo14) | ((with_reducible refine gate_callee (f := 116) rfl ?_); refine gl (some 9) rfl rfl Try.func116 (by kernel_rfl) rfl #[.pointer (some ⟨g, 0, none⟩), .int .i64 10] rfl ?_; (with_reducible refine (spec_l1Below.calls g s0_0 t177 t178 10 t180 t181 t182 w0 _ ?side1 ?side2 A4.out).mono ?_); (case side1 => exact IsS112.mi HI0); (case side2 => exact IsS112.ms HB); rintro e w15 ⟨rfl, hi, hb, hk⟩; refine ⟨_, rfl, ?_⟩; have n0_ := Aside0.mk (KeepBut.blk hk (g' := gb169) (o := .cells #[.int .i64 0, .slice none 0 0] 29 (0, 0)) (mf BK169) NB169_0.out (by simp)); have n1_ := Aside0.mk (Kd.R_mono (Kd.R_keep (IsS112.apart (show IsS112 w0 _ g s0_0 t177 t178 from IsS112.mi HI0) (by (with_reducible repeat (first | apply Kd.R_alloc | apply Kd.R_drewN | apply Kd.R_drew)); exact (rTwo HO176 BK179)) (by decide)) hk (fun _ h => h.2)) (fun _ h => h.1)); have n2_ := Aside0.mk (KeepBut.blk hk (g' := gb179) (o := .cells #[.int .i64 t173, .slice Ao14 t174.length co14] 29 (0, 0)) (mq BK179) NB179_0.out (by simp)); have n3_ := Aside0.mk (KeepBut.trans (mk HK) hk (.inl rfl)); have n4_ := Aside0.mk (hb); have n5_ := Aside0.mk (hi); clear BK169 HO176 BK179 HK HB HI0; have BK169 := n0_; have HO176 := n1_; have BK179 := n2_; have HK := n3_; have HB := n4_; have HI0 := n5_; clear n0_ n1_ n2_ n3_ n4_ n5_; (try clear hb)) | ((with_reducible refine gate_callee (f := 145) rfl ?_); refine gl (some 13) rfl rfl Try.func145 (by kernel_rfl) rfl #[.pointer (some ⟨g, 0, none⟩)] rfl ?_; (with_reducible refine (spec_l3Any.calls g s0_0 t181 t182 t183 t184 t185 w0 _ ?side1 ?side2 A6.out).mono ?_); (case side1 => exact IsS112.mi HI0); (case side2 => exact IsS112.ms HB); rintro e w16 ⟨rfl, hi, hb, hk⟩; refine ⟨_, rfl, ?_⟩; replace BK169 := Aside0.mk (KeepBut.blk hk (g' := gb169) (o := .cells #[.int .i64 0, .slice none 0 0] 29 (0, 0)) (mb BK169) NB169_0.out (by simp)); replace HO176 := Aside0.mk (Kd.R_mono (Kd.R_keep (IsS112.apart (show IsS112 w0 _ g s0_0 t181 t182 from IsS112.mi HI0) (mr HO176) (by decide)) hk (fun _ h => h.2)) (fun _ h => h.1)); replace BK179 := Aside0.mk (KeepBut.blk hk (g' := gb179) (o := .cells #[.int .i64 t173, .slice Ao14 t174.length co14] 29 (0, 0)) (mb BK179) NB179_0.out (by simp)); replace HK := Aside0.mk (KeepBut.trans (mk HK) hk (.inl rfl)); replace HB := Aside0.mk (hb); replace HI0 := Aside0.mk (hi); (try clear hb); obtain ⟨_, _, _, _⟩ := cFour BK179; have := NB169_0.out; have := NB0_169.out; obtain ⟨_, _, _, _⟩ := cFour BK169))
  refine bodyPost_ret (results_cell_row rfl _ _ gb169 29 #[.int .i64 t183, .slice Ao14 t174.length co14] (0, 0) _ rfl (by (with_reducible repeat (first | refine blk_drewN ?_ _ | refine blk_drew ?_ | refine blk_alloc ?_ _)); refine blk_put (cs := #[.int .i64 t183, .slice none 0 0]) ?_ 1 _ rfl; (with_reducible repeat (first | refine blk_drewN ?_ _ | refine blk_drew ?_ | refine blk_alloc ?_ _)); refine blk_put (cs := #[.int .i64 0, .slice none 0 0]) ?_ 0 _ rfl; (with_reducible repeat (first | refine blk_drewN ?_ _ | refine blk_drew ?_ | refine blk_alloc ?_ _)); refine blk_far ?_ NB169_179.out _; (with_reducible repeat (first | refine blk_drewN ?_ _ | refine blk_drew ?_ | refine blk_alloc ?_ _)); exact BK169.out) Try.underlying29 rfl (by kernel_rfl)) rfl ?_
  exact ⟨_, by first | rfl | (simp [errW_none, errW_some] <;> rfl) | (simp [*, errW_none, errW_some] <;> rfl), by (with_reducible repeat (first | apply Kd.R_alloc | apply Kd.R_drewN | apply Kd.R_drew)); exact Kd.R_mono (Kd.R_far (p := ⟨gb169, 1, none⟩) (Kd.R_far (p := ⟨gb169, 0, none⟩) (Kd.R_far (p := ⟨gb179, 0, none⟩) (Kd.R_types (Kd.R_types HO176.out BK179.out (by decide)) BK169.out (by decide)) (fun _ hk => hk.1.2) (.int .i64 t183)) (fun _ hk => hk.2) (.int .i64 t183)) (fun _ hk => hk.2) (.slice Ao14 t174.length co14)) (fun _ hk => trivial), IsS112.mi HI0, IsS112.ms HB, mk HK⟩
 rw [if_neg c5] at H
 have c5b0 : (t180 == 0) = false := beq_eq_false_iff_ne.mpr c5
 have c5b1 : (t180 != 0) = true := bne_iff_ne.mpr c5
 by_cases c20 : t180 = 1
 ·rw [if_pos c20] at H
  have c20b0 : (t180 == 1) = true := beq_iff_eq.mpr c20
  have c20b1 : (t180 != 1) = false := bne_eq_false_iff_eq.mpr c20
  clear c20
  obtain ⟨⟨t186, t187, t188⟩, A210, H⟩ := Option.bind_eq_some_iff.mp H
  try dsimp only at H
  have A21 := Aside0.mk A210; clear A210
  by_cases c22 : t174.length < 17592186044416
  ·rw [if_pos c22] at H
   have LMc22 := Aside0.mk c22; clear c22
   obtain ⟨y189, hy189⟩ : ∃ y_ : List Int, y_ = (t174 ++ [t186]) := ⟨_, rfl⟩
   replace H : (some (t173, y189, t187, t188)) = some (r1, r2, r3, r4) := by first | (rw [hy189]; with_reducible exact H) | (have H2_ := (Option.bind_some _ _).symm.trans H; rw [hy189]; with_reducible exact H2_) | (have H2_ := (Option.bind_some _ _).symm.trans H; with_reducible exact H2_) | with_reducible exact H | (rw [hy189]; exact H) | exact H
   have Ny189 := Aside0.mk hy189; clear hy189
   simp only [Option.some.injEq, Prod.mk.injEq] at H
   obtain ⟨rfl, rfl, rfl, rfl⟩ := H
   go_enter Try.func118, Try.ntmps118
   try go_wp2_with (first | ((with_reducible refine gate_dst (N := 2) rfl ?_); refine box_event ?hg (N := 2) ?hd (cs := #[.int .i64 0, .slice none 0 0]) (t := 29) ?hr ?_; (case hd => rfl); (case hg => rfl); (case hr => first | (go_simp; done) | (go_simp; rfl)); intro gb169 hg w23 hbox hb; have n0_ := Aside0.mk (IsS112.below (IsS112.mi HI0) hb); have n1_ := Aside0.mk (KeepBut.trans (mk HK) (KeepBut.of_below hb g none) (.inl rfl)); have n2_ := Aside0.mk (below_step (IsS112.ms HB) hb); have n3_ := Aside0.mk (hbox); have n4_ := Aside0.mk ((by rw [hg]; exact (keep_size (w := w) (g := g) (row := none) (mk HK)) : w.heap.size ≤ gb169)); have n5_ := Aside0.mk ((Nat.le_trans HW0.out (by rw [hg]; exact (keep_size (w := w) (g := g) (row := none) (mk HK)) : w.heap.size ≤ gb169) : w0.heap.size ≤ gb169)); have n6_ := Aside0.mk ((by rw [hg]; exact Nat.ne_of_lt (IsS112.lt (show IsS112 w0 _ g s0_0 s0_1 s0_2 from IsS112.mi HI0)) : g ≠ gb169)); have n7_ := Aside0.mk ((by rw [hg]; exact Nat.ne_of_gt (IsS112.lt (show IsS112 w0 _ g s0_0 s0_1 s0_2 from IsS112.mi HI0)) : gb169 ≠ g)); clear HI0 HK HB; have HI0 := n0_; have HK := n1_; have HB := n2_; have BK169 := n3_; have GW169 := n4_; have GE169 := n5_; have NB0_169 := n6_; have NB169_0 := n7_; clear n0_ n1_ n2_ n3_ n4_ n5_ n6_ n7_; clear hb hbox hg) | ((with_reducible refine gate_callee (f := 116) rfl ?_); refine gl (some 6) rfl rfl Try.func116 (by kernel_rfl) rfl #[.pointer (some ⟨g, 0, none⟩), .int .i64 4] rfl ?_; (with_reducible refine (spec_l1Below.calls g s0_0 s0_1 s0_2 4 t170 t171 t172 w0 _ ?side1 ?side2 A2.out).mono ?_); (case side1 => exact IsS112.mi HI0); (case side2 => exact IsS112.ms HB); rintro e w24 ⟨rfl, hi, hb, hk⟩; refine ⟨_, rfl, ?_⟩; replace BK169 := Aside0.mk (KeepBut.blk hk (g' := gb169) (o := .cells #[.int .i64 0, .slice none 0 0] 29 (0, 0)) (mb BK169) NB169_0.out (by simp)); replace HK := Aside0.mk (KeepBut.trans (mk HK) hk (.inl rfl)); replace HB := Aside0.mk (hb); replace HI0 := Aside0.mk (hi); (try clear hb)) | ((with_reducible refine gate_callee (f := 120) rfl ?_); refine gl (some 7) rfl rfl Try.func120 (by kernel_rfl) rfl #[.pointer (some ⟨g, 0, none⟩), .int .i64 t170] rfl ?_; (with_reducible refine (spec_l4Draw.calls k g s0_0 t171 t172 t170 t173 t174 t177 t178 w0 _ ?side1 ?side2 A3.out).mono ?_); (case side1 => exact IsS112.mi HI0); (case side2 => exact IsS112.ms HB); rintro e w25 ⟨v175, rfl, ho0, hi, hb, hk⟩; refine ⟨_, rfl, ?_⟩; replace BK169 := Aside0.mk (KeepBut.blk hk (g' := gb169) (o := .cells #[.int .i64 0, .slice none 0 0] 29 (0, 0)) (mb BK169) NB169_0.out (by simp)); have HO176 := Aside0.mk (Kd.R_lower ho0 (keep_size (w := w) (g := g) (row := none) (mk HK))); replace HK := Aside0.mk (KeepBut.trans (mk HK) hk (.inl rfl)); replace HB := Aside0.mk (hb); replace HI0 := Aside0.mk (hi); (try clear hb); (try clear ho0)) | ((with_reducible refine gate_dst (N := 3) rfl ?_); refine box_event ?hg (N := 3) ?hd (cs := #[.int .i64 0, .slice none 0 0]) (t := 29) ?hr ?_; (case hd => rfl); (case hg => rfl); (case hr => first | (go_simp; done) | (go_simp; rfl)); intro gb179 hg w26 hbox hb; have n0_ := rb HO176 hb; have n1_ := Aside0.mk (IsS112.below (IsS112.mi HI0) hb); have n2_ := bb BK169 hb; have n3_ := Aside0.mk (KeepBut.trans (mk HK) (KeepBut.of_below hb g none) (.inl rfl)); have n4_ := Aside0.mk (below_step (IsS112.ms HB) hb); have n5_ := Aside0.mk (hbox); have n6_ := Aside0.mk ((by rw [hg]; exact (keep_size (w := w) (g := g) (row := none) (mk HK)) : w.heap.size ≤ gb179)); have n7_ := Aside0.mk ((Nat.le_trans HW0.out (by rw [hg]; exact (keep_size (w := w) (g := g) (row := none) (mk HK)) : w.heap.size ≤ gb179) : w0.heap.size ≤ gb179)); have n8_ := nl hg BK169; have n9_ := ng hg BK169; have n10_ := Aside0.mk ((by rw [hg]; exact Nat.ne_of_lt (IsS112.lt (show IsS112 w0 _ g s0_0 t177 t178 from IsS112.mi HI0)) : g ≠ gb179)); have n11_ := Aside0.mk ((by rw [hg]; exact Nat.ne_of_gt (IsS112.lt (show IsS112 w0 _ g s0_0 t177 t178 from IsS112.mi HI0)) : gb179 ≠ g)); clear HO176 HI0 BK169 HK HB; have HO176 := n0_; have HI0 := n1_; have BK169 := n2_; have HK := n3_; have HB := n4_; have BK179 := n5_; have GW179 := n6_; have GE179 := n7_; have NB169_179 := n8_; have NB179_169 := n9_; have NB0_179 := n10_; have NB179_0 := n11_; clear n0_ n1_ n2_ n3_ n4_ n5_ n6_ n7_ n8_ n9_ n10_ n11_; clear hb hbox hg; have := NB179_169.out; have := NB169_179.out; have := NB179_0.out; have := NB0_179.out; obtain ⟨_, _, _, _⟩ := cFour BK179; obtain ⟨Ao30, co30, eo30⟩ := Kd.R_slice HO176.out; subst eo30) | ((with_reducible refine gate_callee (f := 116) rfl ?_); refine gl (some 9) rfl rfl Try.func116 (by kernel_rfl) rfl #[.pointer (some ⟨g, 0, none⟩), .int .i64 10] rfl ?_; (with_reducible refine (spec_l1Below.calls g s0_0 t177 t178 10 t180 t181 t182 w0 _ ?side1 ?side2 A4.out).mono ?_); (case side1 => exact IsS112.mi HI0); (case side2 => exact IsS112.ms HB); rintro e w31 ⟨rfl, hi, hb, hk⟩; refine ⟨_, rfl, ?_⟩; have n0_ := Aside0.mk (KeepBut.blk hk (g' := gb169) (o := .cells #[.int .i64 0, .slice none 0 0] 29 (0, 0)) (mf BK169) NB169_0.out (by simp)); have n1_ := Aside0.mk (Kd.R_mono (Kd.R_keep (IsS112.apart (show IsS112 w0 _ g s0_0 t177 t178 from IsS112.mi HI0) (by (with_reducible repeat (first | apply Kd.R_alloc | apply Kd.R_drewN | apply Kd.R_drew)); exact (rTwo HO176 BK179)) (by decide)) hk (fun _ h => h.2)) (fun _ h => h.1)); have n2_ := Aside0.mk (KeepBut.blk hk (g' := gb179) (o := .cells #[.int .i64 t173, .slice Ao30 t174.length co30] 29 (0, 0)) (mq BK179) NB179_0.out (by simp)); have n3_ := Aside0.mk (KeepBut.trans (mk HK) hk (.inl rfl)); have n4_ := Aside0.mk (hb); have n5_ := Aside0.mk (hi); clear BK169 HO176 BK179 HK HB HI0; have BK169 := n0_; have HO176 := n1_; have BK179 := n2_; have HK := n3_; have HB := n4_; have HI0 := n5_; clear n0_ n1_ n2_ n3_ n4_ n5_; (try clear hb)))
   replace HO176 := Aside0.mk (Kd.R_drew HO176.out)
   replace BK169 := Aside0.mk (blk_drew BK169.out)
   replace BK179 := Aside0.mk (blk_drew BK179.out)
   replace HI0 := Aside0.mk (IsS112.drew HI0.out)
   replace HK := Aside0.mk (keep_drew HK.out)
   replace HB := Aside0.mk (below_drew1 HB.out)
   refine start_ (n := 8) (S := fun w' => w'.cell? ⟨gb179, 0, none⟩ = some (.int .i64 t173) ∧ w'.cell? ⟨gb179, 1, none⟩ = some (.slice Ao30 t174.length co30)) (ds := [7]) #[false, false, false, false, false, false, false, false] (by kernel_rfl) rfl rfl ⟨(c2 BK179).1, (c2 BK179).2⟩ (fun hHeld => ?_); refine with_tabW spec_l4Bent.tab6 spec_l4Bent.bits6 (fun HT_ HW_ => ?_)
   generalize w31.drew = w32 at HO176 BK169 BK179 HI0 HK HB hHeld ⊢
   refine pu 0 (some 17) (v := ?_) (a' := ?_) #[true, false, false, false, false, false, false, false] rfl rfl HT_ (fun _ _ _ h => h) (by rfl) ?_ ?_ ?_
   rotate_left
   ·intro w'
    go_simp
    with_reducible rfl
   rotate_left
   ·simp only [Act.put, z1, z2, z3, i64_w, i32_w]
    rfl
   refine pu 2 (some 19) (v := ?_) (a' := ?_) #[true, false, true, false, false, false, false, false] rfl rfl HT_ (fun _ _ _ h => h) (by rfl) ?_ ?_ ?_
   rotate_left
   ·intro w'
    go_simp
    with_reducible rfl
   rotate_left
   ·simp only [Act.put, z1, z2, z3, i64_w, i32_w]
    rfl
   refine tk 1 (some 18) (v := ?_) (a' := ?_) #[true, true, true, false, false, false, false, false] rfl rfl HT_ HW_ (fun _ _ _ h => h) (by rfl) ?_ hHeld ?_ ?_
   rotate_left
   ·rintro w' ⟨s0, s1⟩
    go_simp
    with_reducible rfl
   rotate_left
   ·simp only [Act.put, z1, z2, z3, i64_w, i32_w]
    rfl
   refine one_ (i := 3) (N := some 20) #[true, true, true, true, false, false, false, false] rfl rfl (one_of HT_.out (by kernel_rfl)) (by decide) (fun K hK => ?_)
   refine gs Try.func145 (by kernel_rfl) rfl #[.pointer (some ⟨g, 0, none⟩)] (by rfl) rfl rfl ?_
   with_reducible refine (spec_l3Any.calls g s0_0 t181 t182 t186 t187 t188 w0 _ ?side1 ?side2 A21.out).mono ?_
   (case side1 => exact IsS112.mi HI0)
   (case side2 => exact IsS112.ms HB)
   rintro e w33 ⟨rfl, hi, hb, hk⟩
   refine ⟨_, rfl, ?_⟩
   replace BK169 := Aside0.mk (KeepBut.blk hk (g' := gb169) (o := .cells #[.int .i64 0, .slice none 0 0] 29 (0, 0)) (mb BK169) NB169_0.out (by simp))
   replace HO176 := Aside0.mk (Kd.R_mono (Kd.R_keep (IsS112.apart (show IsS112 w0 _ g s0_0 t181 t182 from IsS112.mi HI0) (mr HO176) (by decide)) hk (fun _ h => h.2)) (fun _ h => h.1))
   replace BK179 := Aside0.mk (KeepBut.blk hk (g' := gb179) (o := .cells #[.int .i64 t173, .slice Ao30 t174.length co30] 29 (0, 0)) (mb BK179) NB179_0.out (by simp))
   replace HK := Aside0.mk (KeepBut.trans (mk HK) hk (.inl rfl))
   replace HB := Aside0.mk (hb)
   replace HI0 := Aside0.mk (hi)
   (try clear hb)
   (try clear hb2)
   (try clear hk)
   (try clear hi)
   refine hK.out _ _ ⟨(c2 BK179).1, (c2 BK179).2⟩ (fun hHeld => ?_)
   clear hK K
   refine norm_ (a' := ?_) ?_ ?_
   rotate_left
   ·show Act.put _ (some 20) _ = _
    simp only [Act.put, z1, z2, z3, i64_w, i32_w]
    rfl
   refine one_ (i := 4) (N := some 21) #[true, true, true, true, true, false, false, false] rfl rfl (one_of HT_.out (by kernel_rfl)) (by decide) (fun K hK => ?_)
   refine value_ (w1 := ?_) (v := ?_) (by rfl) rfl ?_ ?_
   rotate_left 2
   ·go_simp
    constructor
    ·rfl
    rfl
   refine hK.out _ _ ⟨(blk_cell (blk_alloc BK179.out _) 0).trans rfl, (blk_cell (blk_alloc BK179.out _) 1).trans rfl⟩ (fun hHeld => ?_)
   clear hK K
   refine norm_ (a' := ?_) ?_ ?_
   rotate_left
   ·show Act.put _ (some 21) _ = _
    simp only [Act.put, z1, z2, z3, i64_w, i32_w]
    rfl
   refine one_ (i := 5) (N := some 22) #[true, true, true, true, true, true, false, false] rfl rfl (one_of HT_.out (by kernel_rfl)) (by decide) (fun K hK => ?_)
   refine Kd.R_append_step (Kd.int .i64) w.heap.size (by rfl) (.tmp 18) (.tmp 21) 27 3 (.int .i64 0) 8 rfl Try.underlying27 info3 rfl (by decide) (by omega) (.slice Ao30 t174.length co30) t174 t186 [.int .i64 t186] (fun _ => True) (fun _ => False) rfl rfl ?aP (fun _ hk => hk.elim) ?aF ?aO (Below.refl _ _) ?aS ?aL ?_
   (case aP => exact rfl)
   (case aF => exact (fun _ _ => trivial))
   (case aO => exact (mr HO176))
   (case aS => exact (keep_size (w := w) (g := g) (row := none) (mk HK)))
   (case aL => have := LMc22.out; omega)
   intro v190 w34 ho hb hg hat
   rw [← Ny189.out] at ho
   replace BK169 := Aside0.mk (blk_grown (g := gb169) (o := .cells #[.int .i64 0, .slice none 0 0] 29 (0, 0)) (mb BK169) hg (Kd.R_ne HO176.out BK169.out (by decide)))
   replace BK179 := Aside0.mk (blk_grown (g := gb179) (o := .cells #[.int .i64 t173, .slice Ao30 t174.length co30] 29 (0, 0)) (mb BK179) hg (Kd.R_ne HO176.out BK179.out (by decide)))
   replace HB := Aside0.mk (below_weaken (IsS112.ms HB) HL.out hb)
   replace HI0 := Aside0.mk (IsS112.grown (IsS112.mi HI0) hg (IsS112.own_ne HI0.out HO176.out (by decide)))
   replace HK := Aside0.mk (KeepBut.trans (mk HK) (KeepBut.of_grown hg g) (Kd.R_base2 HO176.out))
   have HO191 := Aside0.mk (ho)
   clear HO176 ho hb hg hat
   obtain ⟨Ao35, co35, eo35⟩ := Kd.R_slice HO191.out
   (first | subst eo35 | (injection eo35 with f1_ f2_ f3_; have f4_ := f1_.symm; have f5_ := f3_.symm; clear f1_ f2_ f3_; subst f4_; subst f5_))
   refine hK.out _ _ ⟨(c2 BK179).1, (c2 BK179).2⟩ (fun hHeld => ?_)
   clear hK K
   refine norm_ (a' := ?_) ?_ ?_
   rotate_left
   ·show Act.put _ (some 22) _ = _
    simp only [Act.put, z1, z2, z3, i64_w, i32_w]
    rfl
   refine pu 6 (some 23) (v := ?_) (a' := ?_) #[true, true, true, true, true, true, true, false] rfl rfl HT_ (fun _ _ _ h => h) (by rfl) ?_ ?_ ?_
   rotate_left
   ·intro w'
    go_simp
    with_reducible rfl
   rotate_left
   ·simp only [Act.put, z1, z2, z3, i64_w, i32_w]
    rfl
   refine last_ (i := 7) (N := none) #[true, true, true, true, true, true, true, true] rfl rfl (one_of HT_.out (by kernel_rfl)) (by decide) (fun K hK => ?_)
   have hs36 : w34.cell? ⟨gb179, 1, none⟩ = some (.slice Ao30 t174.length co30) := (blk_cell BK179.out 1).trans rfl
   have hfs36 := blk_frozen BK179.out 1
   have hns36_0 := NB169_179.out
   have hms36_0 := NB179_169.out
   refine skip_ (w1 := ?_) (by rfl) rfl ?_ ?_
   rotate_left
   ·go_simp
    rfl
   refine hK.out _ _ ?_
   clear hK K
   refine done_ (done_of HT_.out (by kernel_rfl)) ?_
   obtain ⟨_, _, _, _⟩ := cFour BK179
   have := NB169_0.out
   have := NB0_169.out
   obtain ⟨_, _, _, _⟩ := cFour BK169
   try go_wp2
   refine bodyPost_ret (results_cell_row rfl _ _ gb169 29 #[.int .i64 t173, .slice Ao35 y189.length co35] (0, 0) _ rfl (by (with_reducible repeat (first | refine blk_drewN ?_ _ | refine blk_drew ?_ | refine blk_alloc ?_ _)); refine blk_put (cs := #[.int .i64 t173, .slice none 0 0]) ?_ 1 _ rfl; (with_reducible repeat (first | refine blk_drewN ?_ _ | refine blk_drew ?_ | refine blk_alloc ?_ _)); refine blk_put (cs := #[.int .i64 0, .slice none 0 0]) ?_ 0 _ rfl; (with_reducible repeat (first | refine blk_drewN ?_ _ | refine blk_drew ?_ | refine blk_alloc ?_ _)); refine blk_far ?_ NB169_179.out _; (with_reducible repeat (first | refine blk_drewN ?_ _ | refine blk_drew ?_ | refine blk_alloc ?_ _)); exact BK169.out) Try.underlying29 rfl (by kernel_rfl)) rfl ?_
   exact ⟨_, by first | rfl | (simp [errW_none, errW_some] <;> rfl) | (simp [*, errW_none, errW_some] <;> rfl), by (with_reducible repeat (first | apply Kd.R_alloc | apply Kd.R_drewN | apply Kd.R_drew)); exact Kd.R_mono (Kd.R_far (p := ⟨gb169, 1, none⟩) (Kd.R_far (p := ⟨gb169, 0, none⟩) (Kd.R_far (p := ⟨gb179, 1, none⟩) (Kd.R_types (Kd.R_types HO191.out BK179.out (by decide)) BK169.out (by decide)) (fun _ hk => hk.1.2) (.slice Ao35 y189.length co35)) (fun _ hk => hk.2) (.int .i64 t173)) (fun _ hk => hk.2) (.slice Ao35 y189.length co35)) (fun _ hk => trivial), IsS112.mi HI0, IsS112.ms HB, mk HK⟩
  rw [if_neg c22] at H
  exact absurd H (by simp)
 rw [if_neg c20] at H
 have c20b0 : (t180 == 1) = false := beq_eq_false_iff_ne.mpr c20
 have c20b1 : (t180 != 1) = true := bne_iff_ne.mpr c20
 by_cases c40 : t180 = 2
 ·rw [if_pos c40] at H
  have c40b0 : (t180 == 2) = true := beq_iff_eq.mpr c40
  have c40b1 : (t180 != 2) = false := bne_eq_false_iff_eq.mpr c40
  clear c40
  by_cases c41 : 9 ≤ 35184372088832
  ·rw [if_pos c41] at H
   have c41b0 := eq_true c41
   have c41b1 : decide (9 ≤ 35184372088832) = true := decide_eq_true c41
   clear c41
   obtain ⟨y192, hy192⟩ : ∃ y_ : List Int, y_ = (List.replicate 9 0) := ⟨_, rfl⟩
   replace H : (some (t173, y192, t181, t182)) = some (r1, r2, r3, r4) := by first | (rw [hy192]; with_reducible exact H) | (have H2_ := (Option.bind_some _ _).symm.trans H; rw [hy192]; with_reducible exact H2_) | (have H2_ := (Option.bind_some _ _).symm.trans H; with_reducible exact H2_) | with_reducible exact H | (rw [hy192]; exact H) | exact H
   have Ny192 := Aside0.mk hy192; clear hy192
   simp only [Option.some.injEq, Prod.mk.injEq] at H
   obtain ⟨rfl, rfl, rfl, rfl⟩ := H
   go_enter Try.func118, Try.ntmps118
   go_wp2_with (first | ((with_reducible refine gate_dst (N := 2) rfl ?_); refine box_event ?hg (N := 2) ?hd (cs := #[.int .i64 0, .slice none 0 0]) (t := 29) ?hr ?_; (case hd => rfl); (case hg => rfl); (case hr => first | (go_simp; done) | (go_simp; rfl)); intro gb169 hg w42 hbox hb; have n0_ := Aside0.mk (IsS112.below (IsS112.mi HI0) hb); have n1_ := Aside0.mk (KeepBut.trans (mk HK) (KeepBut.of_below hb g none) (.inl rfl)); have n2_ := Aside0.mk (below_step (IsS112.ms HB) hb); have n3_ := Aside0.mk (hbox); have n4_ := Aside0.mk ((by rw [hg]; exact (keep_size (w := w) (g := g) (row := none) (mk HK)) : w.heap.size ≤ gb169)); have n5_ := Aside0.mk ((Nat.le_trans HW0.out (by rw [hg]; exact (keep_size (w := w) (g := g) (row := none) (mk HK)) : w.heap.size ≤ gb169) : w0.heap.size ≤ gb169)); have n6_ := Aside0.mk ((by rw [hg]; exact Nat.ne_of_lt (IsS112.lt (show IsS112 w0 _ g s0_0 s0_1 s0_2 from IsS112.mi HI0)) : g ≠ gb169)); have n7_ := Aside0.mk ((by rw [hg]; exact Nat.ne_of_gt (IsS112.lt (show IsS112 w0 _ g s0_0 s0_1 s0_2 from IsS112.mi HI0)) : gb169 ≠ g)); clear HI0 HK HB; have HI0 := n0_; have HK := n1_; have HB := n2_; have BK169 := n3_; have GW169 := n4_; have GE169 := n5_; have NB0_169 := n6_; have NB169_0 := n7_; clear n0_ n1_ n2_ n3_ n4_ n5_ n6_ n7_; clear hb hbox hg) | ((with_reducible refine gate_callee (f := 116) rfl ?_); refine gl (some 6) rfl rfl Try.func116 (by kernel_rfl) rfl #[.pointer (some ⟨g, 0, none⟩), .int .i64 4] rfl ?_; (with_reducible refine (spec_l1Below.calls g s0_0 s0_1 s0_2 4 t170 t171 t172 w0 _ ?side1 ?side2 A2.out).mono ?_); (case side1 => exact IsS112.mi HI0); (case side2 => exact IsS112.ms HB); rintro e w43 ⟨rfl, hi, hb, hk⟩; refine ⟨_, rfl, ?_⟩; replace BK169 := Aside0.mk (KeepBut.blk hk (g' := gb169) (o := .cells #[.int .i64 0, .slice none 0 0] 29 (0, 0)) (mb BK169) NB169_0.out (by simp)); replace HK := Aside0.mk (KeepBut.trans (mk HK) hk (.inl rfl)); replace HB := Aside0.mk (hb); replace HI0 := Aside0.mk (hi); (try clear hb)) | ((with_reducible refine gate_callee (f := 120) rfl ?_); refine gl (some 7) rfl rfl Try.func120 (by kernel_rfl) rfl #[.pointer (some ⟨g, 0, none⟩), .int .i64 t170] rfl ?_; (with_reducible refine (spec_l4Draw.calls k g s0_0 t171 t172 t170 t173 t174 t177 t178 w0 _ ?side1 ?side2 A3.out).mono ?_); (case side1 => exact IsS112.mi HI0); (case side2 => exact IsS112.ms HB); rintro e w44 ⟨v175, rfl, ho0, hi, hb, hk⟩; refine ⟨_, rfl, ?_⟩; replace BK169 := Aside0.mk (KeepBut.blk hk (g' := gb169) (o := .cells #[.int .i64 0, .slice none 0 0] 29 (0, 0)) (mb BK169) NB169_0.out (by simp)); have HO176 := Aside0.mk (Kd.R_lower ho0 (keep_size (w := w) (g := g) (row := none) (mk HK))); replace HK := Aside0.mk (KeepBut.trans (mk HK) hk (.inl rfl)); replace HB := Aside0.mk (hb); replace HI0 := Aside0.mk (hi); (try clear hb); (try clear ho0)) | ((with_reducible refine gate_dst (N := 3) rfl ?_); refine box_event ?hg (N := 3) ?hd (cs := #[.int .i64 0, .slice none 0 0]) (t := 29) ?hr ?_; (case hd => rfl); (case hg => rfl); (case hr => first | (go_simp; done) | (go_simp; rfl)); intro gb179 hg w45 hbox hb; have n0_ := rb HO176 hb; have n1_ := Aside0.mk (IsS112.below (IsS112.mi HI0) hb); have n2_ := bb BK169 hb; have n3_ := Aside0.mk (KeepBut.trans (mk HK) (KeepBut.of_below hb g none) (.inl rfl)); have n4_ := Aside0.mk (below_step (IsS112.ms HB) hb); have n5_ := Aside0.mk (hbox); have n6_ := Aside0.mk ((by rw [hg]; exact (keep_size (w := w) (g := g) (row := none) (mk HK)) : w.heap.size ≤ gb179)); have n7_ := Aside0.mk ((Nat.le_trans HW0.out (by rw [hg]; exact (keep_size (w := w) (g := g) (row := none) (mk HK)) : w.heap.size ≤ gb179) : w0.heap.size ≤ gb179)); have n8_ := nl hg BK169; have n9_ := ng hg BK169; have n10_ := Aside0.mk ((by rw [hg]; exact Nat.ne_of_lt (IsS112.lt (show IsS112 w0 _ g s0_0 t177 t178 from IsS112.mi HI0)) : g ≠ gb179)); have n11_ := Aside0.mk ((by rw [hg]; exact Nat.ne_of_gt (IsS112.lt (show IsS112 w0 _ g s0_0 t177 t178 from IsS112.mi HI0)) : gb179 ≠ g)); clear HO176 HI0 BK169 HK HB; have HO176 := n0_; have HI0 := n1_; have BK169 := n2_; have HK := n3_; have HB := n4_; have BK179 := n5_; have GW179 := n6_; have GE179 := n7_; have NB169_179 := n8_; have NB179_169 := n9_; have NB0_179 := n10_; have NB179_0 := n11_; clear n0_ n1_ n2_ n3_ n4_ n5_ n6_ n7_ n8_ n9_ n10_ n11_; clear hb hbox hg; have := NB179_169.out; have := NB169_179.out; have := NB179_0.out; have := NB0_179.out; obtain ⟨_, _, _, _⟩ := cFour BK179; obtain ⟨Ao49, co49, eo49⟩ := Kd.R_slice HO176.out; subst eo49) | ((with_reducible refine gate_callee (f := 116) rfl ?_); refine gl (some 9) rfl rfl Try.func116 (by kernel_rfl) rfl #[.pointer (some ⟨g, 0, none⟩), .int .i64 10] rfl ?_; (with_reducible refine (spec_l1Below.calls g s0_0 t177 t178 10 t180 t181 t182 w0 _ ?side1 ?side2 A4.out).mono ?_); (case side1 => exact IsS112.mi HI0); (case side2 => exact IsS112.ms HB); rintro e w50 ⟨rfl, hi, hb, hk⟩; refine ⟨_, rfl, ?_⟩; have n0_ := Aside0.mk (KeepBut.blk hk (g' := gb169) (o := .cells #[.int .i64 0, .slice none 0 0] 29 (0, 0)) (mf BK169) NB169_0.out (by simp)); have n1_ := Aside0.mk (Kd.R_mono (Kd.R_keep (IsS112.apart (show IsS112 w0 _ g s0_0 t177 t178 from IsS112.mi HI0) (by (with_reducible repeat (first | apply Kd.R_alloc | apply Kd.R_drewN | apply Kd.R_drew)); exact (rTwo HO176 BK179)) (by decide)) hk (fun _ h => h.2)) (fun _ h => h.1)); have n2_ := Aside0.mk (KeepBut.blk hk (g' := gb179) (o := .cells #[.int .i64 t173, .slice Ao49 t174.length co49] 29 (0, 0)) (mq BK179) NB179_0.out (by simp)); have n3_ := Aside0.mk (KeepBut.trans (mk HK) hk (.inl rfl)); have n4_ := Aside0.mk (hb); have n5_ := Aside0.mk (hi); clear BK169 HO176 BK179 HK HB HI0; have BK169 := n0_; have HO176 := n1_; have BK179 := n2_; have HK := n3_; have HB := n4_; have HI0 := n5_; clear n0_ n1_ n2_ n3_ n4_ n5_; (try clear hb)) | ((with_reducible refine gate_dst (N := 26) rfl ?_); refine Kd.R_make (Kd.int .i64) _ 3 rfl (N := 26) rfl 27 _ _ rfl 9 rfl rfl Try.underlying27 (.int .i64 0) 8 info3 rfl (by decide) (by omega) 0 (ok := fun _ => True) (okp := fun _ => True) rfl (fun _ hk => hk) trivial (by omega) (by omega) (Below.refl _ _) (Nat.le_refl _) ?_; intro v193 w51 ho52 hb hg_ hnew_; clear hg_ hnew_; (first | rw [← Ny192.out] at ho52 | (simp only [Int.reduceToNat] at ho52; rw [← Ny192.out] at ho52)); have HO194 := Aside0.mk (Kd.R_lower (Kd.R_new' ho52 (Kd.R_lt (mr HO176))) (keep_size (w := w) (g := g) (row := none) (mk HK))); replace HO176 := rl HO176 ho52 hb; replace BK169 := bb BK169 hb; replace BK179 := bb BK179 hb; replace HK := Aside0.mk (KeepBut.trans (mk HK) (KeepBut.of_below hb g none) (.inl rfl)); replace HB := Aside0.mk (below_step (IsS112.ms HB) hb); replace HI0 := Aside0.mk (IsS112.below (IsS112.mi HI0) hb); clear hb ho52; obtain ⟨Ao53, co53, eo53⟩ := Kd.R_slice HO194.out; subst eo53; obtain ⟨_, _, _, _⟩ := cFour BK179; have := NB169_0.out; have := NB0_169.out; obtain ⟨_, _, _, _⟩ := cFour BK169))
   refine bodyPost_ret (results_cell_row rfl _ _ gb169 29 #[.int .i64 t173, .slice Ao53 y192.length co53] (0, 0) _ rfl (by (with_reducible repeat (first | refine blk_drewN ?_ _ | refine blk_drew ?_ | refine blk_alloc ?_ _)); refine blk_put (cs := #[.int .i64 t173, .slice none 0 0]) ?_ 1 _ rfl; (with_reducible repeat (first | refine blk_drewN ?_ _ | refine blk_drew ?_ | refine blk_alloc ?_ _)); refine blk_put (cs := #[.int .i64 0, .slice none 0 0]) ?_ 0 _ rfl; (with_reducible repeat (first | refine blk_drewN ?_ _ | refine blk_drew ?_ | refine blk_alloc ?_ _)); refine blk_far ?_ NB169_179.out _; (with_reducible repeat (first | refine blk_drewN ?_ _ | refine blk_drew ?_ | refine blk_alloc ?_ _)); exact BK169.out) Try.underlying29 rfl (by kernel_rfl)) rfl ?_
   exact ⟨_, by first | rfl | (simp [errW_none, errW_some] <;> rfl) | (simp [*, errW_none, errW_some] <;> rfl), by (with_reducible repeat (first | apply Kd.R_alloc | apply Kd.R_drewN | apply Kd.R_drew)); exact Kd.R_mono (Kd.R_far (p := ⟨gb169, 1, none⟩) (Kd.R_far (p := ⟨gb169, 0, none⟩) (Kd.R_far (p := ⟨gb179, 1, none⟩) (Kd.R_types (Kd.R_types HO194.out BK179.out (by decide)) BK169.out (by decide)) (fun _ hk => hk.1.2) (.slice Ao53 y192.length co53)) (fun _ hk => hk.2) (.int .i64 t173)) (fun _ hk => hk.2) (.slice Ao53 y192.length co53)) (fun _ hk => trivial), IsS112.mi HI0, IsS112.ms HB, mk HK⟩
  rw [if_neg c41] at H
  exact absurd H (by simp)
 rw [if_neg c40] at H
 have c40b0 : (t180 == 2) = false := beq_eq_false_iff_ne.mpr c40
 have c40b1 : (t180 != 2) = true := bne_iff_ne.mpr c40
 simp only [Option.some.injEq, Prod.mk.injEq] at H
 obtain ⟨rfl, rfl, rfl, rfl⟩ := H
 go_enter Try.func118, Try.ntmps118
 go_wp2_with (first | ((with_reducible refine gate_dst (N := 2) rfl ?_); refine box_event ?hg (N := 2) ?hd (cs := #[.int .i64 0, .slice none 0 0]) (t := 29) ?hr ?_; (case hd => rfl); (case hg => rfl); (case hr => first | (go_simp; done) | (go_simp; rfl)); intro gb169 hg w57 hbox hb; have n0_ := Aside0.mk (IsS112.below (IsS112.mi HI0) hb); have n1_ := Aside0.mk (KeepBut.trans (mk HK) (KeepBut.of_below hb g none) (.inl rfl)); have n2_ := Aside0.mk (below_step (IsS112.ms HB) hb); have n3_ := Aside0.mk (hbox); have n4_ := Aside0.mk ((by rw [hg]; exact (keep_size (w := w) (g := g) (row := none) (mk HK)) : w.heap.size ≤ gb169)); have n5_ := Aside0.mk ((Nat.le_trans HW0.out (by rw [hg]; exact (keep_size (w := w) (g := g) (row := none) (mk HK)) : w.heap.size ≤ gb169) : w0.heap.size ≤ gb169)); have n6_ := Aside0.mk ((by rw [hg]; exact Nat.ne_of_lt (IsS112.lt (show IsS112 w0 _ g s0_0 s0_1 s0_2 from IsS112.mi HI0)) : g ≠ gb169)); have n7_ := Aside0.mk ((by rw [hg]; exact Nat.ne_of_gt (IsS112.lt (show IsS112 w0 _ g s0_0 s0_1 s0_2 from IsS112.mi HI0)) : gb169 ≠ g)); clear HI0 HK HB; have HI0 := n0_; have HK := n1_; have HB := n2_; have BK169 := n3_; have GW169 := n4_; have GE169 := n5_; have NB0_169 := n6_; have NB169_0 := n7_; clear n0_ n1_ n2_ n3_ n4_ n5_ n6_ n7_; clear hb hbox hg) | ((with_reducible refine gate_callee (f := 116) rfl ?_); refine gl (some 6) rfl rfl Try.func116 (by kernel_rfl) rfl #[.pointer (some ⟨g, 0, none⟩), .int .i64 4] rfl ?_; (with_reducible refine (spec_l1Below.calls g s0_0 s0_1 s0_2 4 t170 t171 t172 w0 _ ?side1 ?side2 A2.out).mono ?_); (case side1 => exact IsS112.mi HI0); (case side2 => exact IsS112.ms HB); rintro e w58 ⟨rfl, hi, hb, hk⟩; refine ⟨_, rfl, ?_⟩; replace BK169 := Aside0.mk (KeepBut.blk hk (g' := gb169) (o := .cells #[.int .i64 0, .slice none 0 0] 29 (0, 0)) (mb BK169) NB169_0.out (by simp)); replace HK := Aside0.mk (KeepBut.trans (mk HK) hk (.inl rfl)); replace HB := Aside0.mk (hb); replace HI0 := Aside0.mk (hi); (try clear hb)) | ((with_reducible refine gate_callee (f := 120) rfl ?_); refine gl (some 7) rfl rfl Try.func120 (by kernel_rfl) rfl #[.pointer (some ⟨g, 0, none⟩), .int .i64 t170] rfl ?_; (with_reducible refine (spec_l4Draw.calls k g s0_0 t171 t172 t170 t173 t174 t177 t178 w0 _ ?side1 ?side2 A3.out).mono ?_); (case side1 => exact IsS112.mi HI0); (case side2 => exact IsS112.ms HB); rintro e w59 ⟨v175, rfl, ho0, hi, hb, hk⟩; refine ⟨_, rfl, ?_⟩; replace BK169 := Aside0.mk (KeepBut.blk hk (g' := gb169) (o := .cells #[.int .i64 0, .slice none 0 0] 29 (0, 0)) (mb BK169) NB169_0.out (by simp)); have HO176 := Aside0.mk (Kd.R_lower ho0 (keep_size (w := w) (g := g) (row := none) (mk HK))); replace HK := Aside0.mk (KeepBut.trans (mk HK) hk (.inl rfl)); replace HB := Aside0.mk (hb); replace HI0 := Aside0.mk (hi); (try clear hb); (try clear ho0)) | ((with_reducible refine gate_dst (N := 3) rfl ?_); refine box_event ?hg (N := 3) ?hd (cs := #[.int .i64 0, .slice none 0 0]) (t := 29) ?hr ?_; (case hd => rfl); (case hg => rfl); (case hr => first | (go_simp; done) | (go_simp; rfl)); intro gb179 hg w60 hbox hb; have n0_ := rb HO176 hb; have n1_ := Aside0.mk (IsS112.below (IsS112.mi HI0) hb); have n2_ := bb BK169 hb; have n3_ := Aside0.mk (KeepBut.trans (mk HK) (KeepBut.of_below hb g none) (.inl rfl)); have n4_ := Aside0.mk (below_step (IsS112.ms HB) hb); have n5_ := Aside0.mk (hbox); have n6_ := Aside0.mk ((by rw [hg]; exact (keep_size (w := w) (g := g) (row := none) (mk HK)) : w.heap.size ≤ gb179)); have n7_ := Aside0.mk ((Nat.le_trans HW0.out (by rw [hg]; exact (keep_size (w := w) (g := g) (row := none) (mk HK)) : w.heap.size ≤ gb179) : w0.heap.size ≤ gb179)); have n8_ := nl hg BK169; have n9_ := ng hg BK169; have n10_ := Aside0.mk ((by rw [hg]; exact Nat.ne_of_lt (IsS112.lt (show IsS112 w0 _ g s0_0 t177 t178 from IsS112.mi HI0)) : g ≠ gb179)); have n11_ := Aside0.mk ((by rw [hg]; exact Nat.ne_of_gt (IsS112.lt (show IsS112 w0 _ g s0_0 t177 t178 from IsS112.mi HI0)) : gb179 ≠ g)); clear HO176 HI0 BK169 HK HB; have HO176 := n0_; have HI0 := n1_; have BK169 := n2_; have HK := n3_; have HB := n4_; have BK179 := n5_; have GW179 := n6_; have GE179 := n7_; have NB169_179 := n8_; have NB179_169 := n9_; have NB0_179 := n10_; have NB179_0 := n11_; clear n0_ n1_ n2_ n3_ n4_ n5_ n6_ n7_ n8_ n9_ n10_ n11_; clear hb hbox hg; have := NB179_169.out; have := NB169_179.out; have := NB179_0.out; have := NB0_179.out; obtain ⟨_, _, _, _⟩ := cFour BK179; obtain ⟨Ao64, co64, eo64⟩ := Kd.R_slice HO176.out; subst eo64) | ((with_reducible refine gate_callee (f := 116) rfl ?_); refine gl (some 9) rfl rfl Try.func116 (by kernel_rfl) rfl #[.pointer (some ⟨g, 0, none⟩), .int .i64 10] rfl ?_; (with_reducible refine (spec_l1Below.calls g s0_0 t177 t178 10 t180 t181 t182 w0 _ ?side1 ?side2 A4.out).mono ?_); (case side1 => exact IsS112.mi HI0); (case side2 => exact IsS112.ms HB); rintro e w65 ⟨rfl, hi, hb, hk⟩; refine ⟨_, rfl, ?_⟩; have n0_ := Aside0.mk (KeepBut.blk hk (g' := gb169) (o := .cells #[.int .i64 0, .slice none 0 0] 29 (0, 0)) (mf BK169) NB169_0.out (by simp)); have n1_ := Aside0.mk (Kd.R_mono (Kd.R_keep (IsS112.apart (show IsS112 w0 _ g s0_0 t177 t178 from IsS112.mi HI0) (by (with_reducible repeat (first | apply Kd.R_alloc | apply Kd.R_drewN | apply Kd.R_drew)); exact (rTwo HO176 BK179)) (by decide)) hk (fun _ h => h.2)) (fun _ h => h.1)); have n2_ := Aside0.mk (KeepBut.blk hk (g' := gb179) (o := .cells #[.int .i64 t173, .slice Ao64 t174.length co64] 29 (0, 0)) (mq BK179) NB179_0.out (by simp)); have n3_ := Aside0.mk (KeepBut.trans (mk HK) hk (.inl rfl)); have n4_ := Aside0.mk (hb); have n5_ := Aside0.mk (hi); clear BK169 HO176 BK179 HK HB HI0; have BK169 := n0_; have HO176 := n1_; have BK179 := n2_; have HK := n3_; have HB := n4_; have HI0 := n5_; clear n0_ n1_ n2_ n3_ n4_ n5_; (try clear hb); obtain ⟨_, _, _, _⟩ := cFour BK179; have := NB169_0.out; have := NB0_169.out; obtain ⟨_, _, _, _⟩ := cFour BK169))
 refine bodyPost_ret (results_cell_row rfl _ _ gb169 29 #[.int .i64 t173, .slice Ao64 t174.length co64] (0, 0) _ rfl (mq BK169) Try.underlying29 rfl (by kernel_rfl)) rfl ?_
 exact ⟨_, by first | rfl | (simp [errW_none, errW_some] <;> rfl) | (simp [*, errW_none, errW_some] <;> rfl), by (with_reducible repeat (first | apply Kd.R_alloc | apply Kd.R_drewN | apply Kd.R_drew)); exact Kd.R_mono (Kd.R_far (p := ⟨gb169, 1, none⟩) (Kd.R_far (p := ⟨gb169, 0, none⟩) (Kd.R_types HO176.out BK169.out (by decide)) (fun _ hk => hk.2) (.int .i64 t173)) (fun _ hk => hk.2) (.slice Ao64 t174.length co64)) (fun _ hk => trivial), IsS112.mi HI0, IsS112.ms HB, mk HK⟩

end Go.Proofs.Ytlencemmlgkflaa.QFnFound
