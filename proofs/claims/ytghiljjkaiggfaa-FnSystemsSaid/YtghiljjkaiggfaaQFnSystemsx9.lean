-- Made by a program of this claim's own (wip/print): not the kit's print as it stands.
import Derived.Test.YtghiljjkaiggfaaUFnSystemsTwo
import Derived.Test.YtghiljjkaiggfaaQFnSystemsx0
import Derived.Test.YtghiljjkaiggfaaQFnSystemsx5
import Derived.Test.YtghiljjkaiggfaaQFnSystemsx6
import Derived.Test.YtghiljjkaiggfaaQFnSystemsx8
namespace Go.Proofs.Ytghiljjkaiggfaa.QFnSystems
open Go.RowKit Go.Proofs.YtghiljjkaiggfaaV.PrintWords Go.Proofs.YtghiljjkaiggfaaV.PrintLast Go.Proofs.YtghiljjkaiggfaaV.PrintMore
attribute [local go_sem] max2_int min2_int max_two min_two max_three min_three max_four min_four   -- for this text's walks alone
set_option linter.unusedVariables false
set_option linter.unusedSimpArgs false

/-! ### spec_l6Bent: function 78 -/
def spec_l6Bent.l0 : Nat → Int → List Int → Int → Int → Int → List (S36) → Option (Int × (List (S36)) × Int × Int)
 | 0, _, _, _, _, _, _ => none
 | k + 1, x4, x1000, x1001, x1002, x323000, x323001 => if x4 < 20 then ((spec_ConstLin.f 1 x323000).bind fun bt341 => (if x323001.length < 4398046511104 then (spec_l6Bent.l0 k (wrap64 (x4 + 1)) x1000 x1001 x1002 x323000 (x323001 ++ [(⟨bt341.1, bt341.2⟩ : S36)])) else (none))) else (some (x323000, x323001, x1001, x1002))
def spec_l6Bent.f (k : Nat) (s0_0 : List Int) (s0_1 : Int) (s0_2 : Int) : Option (Int × (List (S36)) × Int × Int) := (spec_l1Below.f s0_0 s0_1 s0_2 4).bind fun bt313 => ((spec_l6Draw.f k s0_0 bt313.2.1 bt313.2.2 bt313.1).bind fun bt316 => ((spec_l1Below.f s0_0 bt316.2.2.1 bt316.2.2.2 16).bind fun bt323 => (if bt323.1 = 0 then ((spec_l1PickInt.f s0_0 bt323.2.1 bt323.2.2 (([(-1), 9, wrap64 (bt316.1 + 1)] : List Int))).bind fun bt329 => (some (bt329.1, bt316.2.1, bt329.2.1, bt329.2.2))) else (if bt323.1 = 1 then ((spec_l4Bent.f k s0_0 bt323.2.1 bt323.2.2).bind fun bt332 => (if bt316.2.1.length < 4398046511104 then (some (bt316.1, (bt316.2.1 ++ [(⟨bt332.1, bt332.2.1⟩ : S36)]), bt332.2.2.1, bt332.2.2.2)) else (none))) else (if bt323.1 = 2 then (spec_l6Bent.l0 k 0 s0_0 bt323.2.1 bt323.2.2 bt316.1 bt316.2.1) else (some (bt316.1, bt316.2.1, bt323.2.1, bt323.2.2)))))))
theorem spec_l6Bent.mono_l : ∀ k, (∀ y0 y1 y2 y3 y4 y5, LeO (spec_l6Bent.l0 k y0 y1 y2 y3 y4 y5) (spec_l6Bent.l0 (k + 1) y0 y1 y2 y3 y4 y5))
 | 0 => fun _ _ _ _ _ _ r h => by simp [spec_l6Bent.l0] at h
 | k + 1 => by
  have ih0 := spec_l6Bent.mono_l k
  ·intro y0 y1 y2 y3 y4 y5
   unfold spec_l6Bent.l0
   repeat' first
   | (with_reducible exact ih0 _ _ _ _ _ _)
   | (with_reducible exact spec_l4Bent.mono _ _ _ _)
   | (with_reducible exact spec_l6Draw.mono _ _ _ _ _)
   | (with_reducible exact LeO.refl _)
   | (with_reducible exact LeO.none _)
   | (with_reducible refine LeO.ite ?_ ?_)
   | (with_reducible refine LeO.bind ?_ (fun _ => ?_))
   | exact ih0 _ _ _ _ _ _
   | exact spec_l4Bent.mono _ _ _ _
   | exact spec_l6Draw.mono _ _ _ _ _
   | exact LeO.none _
   | refine LeO.ite ?_ ?_
   | refine LeO.bind ?_ (fun _ => ?_)
theorem spec_l6Bent.mono : ∀ a0 a1 a2 k, LeO (spec_l6Bent.f k a0 a1 a2) (spec_l6Bent.f (k + 1) a0 a1 a2) := by
 intro a0 a1 a2 k
 have ih0 := spec_l6Bent.mono_l k
 unfold spec_l6Bent.f
 repeat' first
   | (with_reducible exact ih0 _ _ _ _ _ _)
   | (with_reducible exact spec_l4Bent.mono _ _ _ _)
   | (with_reducible exact spec_l6Draw.mono _ _ _ _ _)
   | (with_reducible exact LeO.refl _)
   | (with_reducible exact LeO.none _)
   | (with_reducible refine LeO.ite ?_ ?_)
   | (with_reducible refine LeO.bind ?_ (fun _ => ?_))
   | exact ih0 _ _ _ _ _ _
   | exact spec_l4Bent.mono _ _ _ _
   | exact spec_l6Draw.mono _ _ _ _ _
   | exact LeO.none _
   | refine LeO.ite ?_ ?_
   | refine LeO.bind ?_ (fun _ => ?_)
def spec_l6Bent.T6 : Bool × List (List Nat × List Nat) := (true, [([], []), ([0], [0]), ([], []), ([2], [2]), ([3], [3]), ([1, 4, 3], [1, 4]), ([0, 1, 2, 3, 4, 5], []), ([6, 5, 5, 0, 1, 2, 3, 4, 5], [5, 6])])
def spec_l6Bent.B6 : List Nat := [0, 1, 0, 4, 12, 31, 63, 127]
theorem spec_l6Bent.tab6 : rtab .any (opsOf Try.f78 6) = spec_l6Bent.T6 := by kernel_rfl
theorem spec_l6Bent.bits6 : waitsOk spec_l6Bent.T6.2 spec_l6Bent.B6 = true := by kernel_rfl
def spec_l6Bent.T11 : Bool × List (List Nat × List Nat) := (true, [([], []), ([0], [0]), ([], []), ([2], [2]), ([3], [3]), ([4], [4]), ([1, 5, 4], [1, 5]), ([0, 1, 2, 3, 4, 5, 6], []), ([7, 6, 6, 0, 1, 2, 3, 4, 5, 6], [6, 7])])
def spec_l6Bent.B11 : List Nat := [0, 1, 0, 4, 12, 28, 63, 127, 255]
theorem spec_l6Bent.tab11 : rtab .any (opsOf Try.f78 11) = spec_l6Bent.T11 := by kernel_rfl
theorem spec_l6Bent.bits11 : waitsOk spec_l6Bent.T11.2 spec_l6Bent.B11 = true := by kernel_rfl
set_option maxHeartbeats 8000000 in
set_option maxRecDepth 100000 in
theorem spec_l6Bent.calls (k : Nat) (g : Nat) (s0_0 : List Int) (s0_1 : Int) (s0_2 : Int) (r1 : Int) (r2 : List (S36)) (r3 : Int) (r4 : Int) (w0 w : World) (hI : IsS105 w0 w g s0_0 s0_1 s0_2) (hB : Below w0.heap.size w0 w) (h : spec_l6Bent.f k s0_0 s0_1 s0_2 = some (r1, r2, r3, r4)) :
  Calls Try.prog 78 #[.pointer (some ⟨g, 0, none⟩)] w fun e w' => ∃ v1_ : Value, e = .returned (.agg #[.int .i64 r1, v1_]) ∧ Kd.S k36 36 w' w.heap.size (fun _ => True) v1_ r2 ∧ IsS105 w0 w' g s0_0 r3 r4 ∧ Below w0.heap.size w0 w' ∧ KeepBut w w' g none := by
 have hu32 := Try.underlying32
 have HI0 := Aside0.mk hI
 have HK := Aside0.mk (KeepBut.refl w g none)
 have HL := Aside0.mk hB.size
 clear hI
 have HW0 := Aside0.mk hB.size
 have HB := Aside0.mk hB
 clear hB
 have H : ((spec_l1Below.f s0_0 s0_1 s0_2 4).bind fun bt313 => ((spec_l6Draw.f k s0_0 bt313.2.1 bt313.2.2 bt313.1).bind fun bt316 => ((spec_l1Below.f s0_0 bt316.2.2.1 bt316.2.2.2 16).bind fun bt323 => (if bt323.1 = 0 then ((spec_l1PickInt.f s0_0 bt323.2.1 bt323.2.2 (([(-1), 9, wrap64 (bt316.1 + 1)] : List Int))).bind fun bt329 => (some (bt329.1, bt316.2.1, bt329.2.1, bt329.2.2))) else (if bt323.1 = 1 then ((spec_l4Bent.f k s0_0 bt323.2.1 bt323.2.2).bind fun bt332 => (if bt316.2.1.length < 4398046511104 then (some (bt316.1, (bt316.2.1 ++ [(⟨bt332.1, bt332.2.1⟩ : S36)]), bt332.2.2.1, bt332.2.2.2)) else (none))) else (if bt323.1 = 2 then (spec_l6Bent.l0 k 0 s0_0 bt323.2.1 bt323.2.2 bt316.1 bt316.2.1) else (some (bt316.1, bt316.2.1, bt323.2.1, bt323.2.2)))))))) = some (r1, r2, r3, r4) := h
 clear h
 replace H := Option.bind_eq_some_iff.mp H
 obtain ⟨⟨t313, t314, t315⟩, A20, H⟩ := H
 replace H : ((spec_l6Draw.f k s0_0 t314 t315 t313).bind fun bt316 => ((spec_l1Below.f s0_0 bt316.2.2.1 bt316.2.2.2 16).bind fun bt323 => (if bt323.1 = 0 then ((spec_l1PickInt.f s0_0 bt323.2.1 bt323.2.2 (([(-1), 9, wrap64 (bt316.1 + 1)] : List Int))).bind fun bt329 => (some (bt329.1, bt316.2.1, bt329.2.1, bt329.2.2))) else (if bt323.1 = 1 then ((spec_l4Bent.f k s0_0 bt323.2.1 bt323.2.2).bind fun bt332 => (if bt316.2.1.length < 4398046511104 then (some (bt316.1, (bt316.2.1 ++ [(⟨bt332.1, bt332.2.1⟩ : S36)]), bt332.2.2.1, bt332.2.2.2)) else (none))) else (if bt323.1 = 2 then (spec_l6Bent.l0 k 0 s0_0 bt323.2.1 bt323.2.2 bt316.1 bt316.2.1) else (some (bt316.1, bt316.2.1, bt323.2.1, bt323.2.2))))))) = some (r1, r2, r3, r4) := H
 have A2 := Aside0.mk A20
 clear A20
 replace H := Option.bind_eq_some_iff.mp H
 obtain ⟨⟨t316, t317, t320, t321⟩, A30, H⟩ := H
 replace H : ((spec_l1Below.f s0_0 t320 t321 16).bind fun bt323 => (if bt323.1 = 0 then ((spec_l1PickInt.f s0_0 bt323.2.1 bt323.2.2 (([(-1), 9, wrap64 (t316 + 1)] : List Int))).bind fun bt329 => (some (bt329.1, t317, bt329.2.1, bt329.2.2))) else (if bt323.1 = 1 then ((spec_l4Bent.f k s0_0 bt323.2.1 bt323.2.2).bind fun bt332 => (if t317.length < 4398046511104 then (some (t316, (t317 ++ [(⟨bt332.1, bt332.2.1⟩ : S36)]), bt332.2.2.1, bt332.2.2.2)) else (none))) else (if bt323.1 = 2 then (spec_l6Bent.l0 k 0 s0_0 bt323.2.1 bt323.2.2 t316 t317) else (some (t316, t317, bt323.2.1, bt323.2.2)))))) = some (r1, r2, r3, r4) := H
 have A3 := Aside0.mk A30
 clear A30
 replace H := Option.bind_eq_some_iff.mp H
 obtain ⟨⟨t323, t324, t325⟩, A40, H⟩ := H
 replace H : (if t323 = 0 then ((spec_l1PickInt.f s0_0 t324 t325 (([(-1), 9, wrap64 (t316 + 1)] : List Int))).bind fun bt329 => (some (bt329.1, t317, bt329.2.1, bt329.2.2))) else (if t323 = 1 then ((spec_l4Bent.f k s0_0 t324 t325).bind fun bt332 => (if t317.length < 4398046511104 then (some (t316, (t317 ++ [(⟨bt332.1, bt332.2.1⟩ : S36)]), bt332.2.2.1, bt332.2.2.2)) else (none))) else (if t323 = 2 then (spec_l6Bent.l0 k 0 s0_0 t324 t325 t316 t317) else (some (t316, t317, t324, t325))))) = some (r1, r2, r3, r4) := H
 have A4 := Aside0.mk A40
 clear A40
 by_cases c5 : t323 = 0
 ·rw [if_pos c5] at H
  have c5b0 : (t323 == 0) = true := beq_iff_eq.mpr c5
  have c5b1 : (t323 != 0) = false := bne_eq_false_iff_eq.mpr c5
  clear c5
  obtain ⟨y326, hy326⟩ : ∃ y_ : List Int, y_ = (([(-1), 9, wrap64 (t316 + 1)] : List Int)) := ⟨_, rfl⟩
  replace H : ((spec_l1PickInt.f s0_0 t324 t325 y326).bind fun bt329 => (some (bt329.1, t317, bt329.2.1, bt329.2.2))) = some (r1, r2, r3, r4) := by first | (rw [hy326]; with_reducible exact H) | (have H2_ := (Option.bind_some _ _).symm.trans H; rw [hy326]; with_reducible exact H2_) | (have H2_ := (Option.bind_some _ _).symm.trans H; with_reducible exact H2_) | with_reducible exact H | (rw [hy326]; exact H) | exact H
  have Ny326 := Aside0.mk hy326
  clear hy326
  replace H := Option.bind_eq_some_iff.mp H
  obtain ⟨⟨t329, t330, t331⟩, A60, H⟩ := H
  replace H : (some (t329, t317, t330, t331)) = some (r1, r2, r3, r4) := H
  have A6 := Aside0.mk A60
  clear A60
  simp only [Option.some.injEq, Prod.mk.injEq] at H
  obtain ⟨rfl, rfl, rfl, rfl⟩ := H
  go_enter Try.func78, Try.ntmps78
  go_wp2_with (first | ((with_reducible refine gate_dst (N := 2) rfl ?_); refine box_event ?hg (N := 2) ?hd (cs := #[.int .i64 0, .slice none 0 0]) (t := 32) ?hr ?_; (case hd => rfl); (case hg => rfl); (case hr => first | (go_simp; done) | (go_simp; rfl)); intro gb312 hg w7 hbox hb; have n0_ := Aside0.mk (IsS105.below (by repeat (first | (with_reducible first | exact HI0.out | apply IsS105.alloc | apply IsS105.drewN | apply IsS105.drew | apply IsS105.set_1 | apply IsS105.set_2) | exact HI0.out)) hb); have n1_ := Aside0.mk (KeepBut.trans (by repeat (first | (with_reducible first | exact HK.out | apply KeepBut.set_ | apply keep_drewN | apply keep_drew | apply keep_alloc) | exact HK.out)) (KeepBut.of_below hb g none) (.inl rfl)); have n2_ := Aside0.mk (below_step (by repeat (first | (with_reducible first | exact HB.out | apply below_alloc | apply pw_below_drewN | apply below_drew1 | refine below_set ?_ (IsS105.ge HI0.out)) | exact HB.out)) hb); have n3_ := Aside0.mk (hbox); have n4_ := Aside0.mk ((by rw [hg]; exact (keep_size (w := w) (g := g) (row := none) (by repeat (first | (with_reducible first | exact HK.out | apply KeepBut.set_ | apply keep_drewN | apply keep_drew | apply keep_alloc) | exact HK.out))) : w.heap.size ≤ gb312)); have n5_ := Aside0.mk ((Nat.le_trans HW0.out (by rw [hg]; exact (keep_size (w := w) (g := g) (row := none) (by repeat (first | (with_reducible first | exact HK.out | apply KeepBut.set_ | apply keep_drewN | apply keep_drew | apply keep_alloc) | exact HK.out))) : w.heap.size ≤ gb312) : w0.heap.size ≤ gb312)); have n6_ := Aside0.mk ((by rw [hg]; exact Nat.ne_of_lt (IsS105.lt (show IsS105 w0 _ g s0_0 s0_1 s0_2 from by repeat (first | (with_reducible first | exact HI0.out | apply IsS105.alloc | apply IsS105.drewN | apply IsS105.drew | apply IsS105.set_1 | apply IsS105.set_2) | exact HI0.out))) : g ≠ gb312)); have n7_ := Aside0.mk ((by rw [hg]; exact Nat.ne_of_gt (IsS105.lt (show IsS105 w0 _ g s0_0 s0_1 s0_2 from by repeat (first | (with_reducible first | exact HI0.out | apply IsS105.alloc | apply IsS105.drewN | apply IsS105.drew | apply IsS105.set_1 | apply IsS105.set_2) | exact HI0.out))) : gb312 ≠ g)); clear HI0 HK HB; have HI0 := n0_; have HK := n1_; have HB := n2_; have BK312 := n3_; have GW312 := n4_; have GE312 := n5_; have NB0_312 := n6_; have NB312_0 := n7_; clear n0_ n1_ n2_ n3_ n4_ n5_ n6_ n7_; clear hb hbox hg) | ((with_reducible refine gate_callee (f := 94) rfl ?_); refine goesL_ (some 7) rfl rfl Try.func94 (by kernel_rfl) rfl #[.pointer (some ⟨g, 0, none⟩), .int .i64 4] rfl (by (try simp only [List.map_toArray, List.map_cons, List.map_nil]); first | done | rfl | (simp only [List.length_drop, List.length_take]; rfl)) ?_; (with_reducible refine (spec_l1Below.calls g s0_0 s0_1 s0_2 4 t313 t314 t315 w0 _ ?side1 ?side2 A2.out).mono ?_); (case side1 => repeat (first | (with_reducible first | exact HI0.out | apply IsS105.alloc | apply IsS105.drewN | apply IsS105.drew | apply IsS105.set_1 | apply IsS105.set_2 | refine IsS105.far ?_ NB0_312.out _) | exact HI0.out)); (case side2 => repeat (first | (with_reducible first | exact HB.out | apply below_alloc | apply pw_below_drewN | apply below_drew1 | refine below_set ?_ (IsS105.ge HI0.out) | refine below_set ?_ GE312.out) | exact HB.out)); rintro e w8 ⟨rfl, hi, hb, hk⟩; refine ⟨_, rfl, ?_⟩; replace BK312 := Aside0.mk (KeepBut.blk hk (g' := gb312) (o := .cells #[.int .i64 0, .slice none 0 0] 32 (0, 0)) (mb BK312) NB312_0.out (by simp)); replace HK := Aside0.mk (KeepBut.trans (by repeat (first | (with_reducible first | exact HK.out | apply KeepBut.set_ | apply keep_drewN | apply keep_drew | apply keep_alloc | refine keep_far ?_ GW312.out _) | exact HK.out)) hk (.inl rfl)); replace HB := Aside0.mk (hb); replace HI0 := Aside0.mk (hi); (try clear hb)) | ((with_reducible refine gate_callee (f := 109) rfl ?_); refine goesL_ (some 8) rfl rfl Try.func109 (by kernel_rfl) rfl #[.pointer (some ⟨g, 0, none⟩), .int .i64 t313] rfl (by (try simp only [List.map_toArray, List.map_cons, List.map_nil]); first | done | rfl | (simp only [List.length_drop, List.length_take]; rfl)) ?_; (with_reducible refine (spec_l6Draw.calls k g s0_0 t314 t315 t313 t316 t317 t320 t321 w0 _ ?side1 ?side2 A3.out).mono ?_); (case side1 => repeat (first | (with_reducible first | exact HI0.out | apply IsS105.alloc | apply IsS105.drewN | apply IsS105.drew | apply IsS105.set_1 | apply IsS105.set_2 | refine IsS105.far ?_ NB0_312.out _) | exact HI0.out)); (case side2 => repeat (first | (with_reducible first | exact HB.out | apply below_alloc | apply pw_below_drewN | apply below_drew1 | refine below_set ?_ (IsS105.ge HI0.out) | refine below_set ?_ GE312.out) | exact HB.out)); rintro e w9 ⟨v318, rfl, ho0, hi, hb, hk⟩; refine ⟨_, rfl, ?_⟩; replace BK312 := Aside0.mk (KeepBut.blk hk (g' := gb312) (o := .cells #[.int .i64 0, .slice none 0 0] 32 (0, 0)) (mb BK312) NB312_0.out (by simp)); have HO319 := Aside0.mk (Kd.S_lower ho0 (keep_size (w := w) (g := g) (row := none) (by repeat (first | (with_reducible first | exact HK.out | apply KeepBut.set_ | apply keep_drewN | apply keep_drew | apply keep_alloc | refine keep_far ?_ GW312.out _) | exact HK.out)))); replace HK := Aside0.mk (KeepBut.trans (by repeat (first | (with_reducible first | exact HK.out | apply KeepBut.set_ | apply keep_drewN | apply keep_drew | apply keep_alloc | refine keep_far ?_ GW312.out _) | exact HK.out)) hk (.inl rfl)); replace HB := Aside0.mk (hb); replace HI0 := Aside0.mk (hi); (try clear hb); (try clear ho0)) | ((with_reducible refine gate_dst (N := 3) rfl ?_); refine box_event ?hg (N := 3) ?hd (cs := #[.int .i64 0, .slice none 0 0]) (t := 32) ?hr ?_; (case hd => rfl); (case hg => rfl); (case hr => first | (go_simp; done) | (go_simp; rfl)); intro gb322 hg w10 hbox hb; have n0_ := Aside0.mk (Kd.S_below (by (with_reducible repeat (first | apply Kd.S_alloc | apply Kd.S_drewN | apply Kd.S_drew)); exact HO319.out) hb); have n1_ := Aside0.mk (IsS105.below (by repeat (first | (with_reducible first | exact HI0.out | apply IsS105.alloc | apply IsS105.drewN | apply IsS105.drew | apply IsS105.set_1 | apply IsS105.set_2 | refine IsS105.far ?_ NB0_312.out _) | exact HI0.out)) hb); have n2_ := bb BK312 hb; have n3_ := Aside0.mk (KeepBut.trans (by repeat (first | (with_reducible first | exact HK.out | apply KeepBut.set_ | apply keep_drewN | apply keep_drew | apply keep_alloc | refine keep_far ?_ GW312.out _) | exact HK.out)) (KeepBut.of_below hb g none) (.inl rfl)); have n4_ := Aside0.mk (below_step (by repeat (first | (with_reducible first | exact HB.out | apply below_alloc | apply pw_below_drewN | apply below_drew1 | refine below_set ?_ (IsS105.ge HI0.out) | refine below_set ?_ GE312.out) | exact HB.out)) hb); have n5_ := Aside0.mk (hbox); have n6_ := Aside0.mk ((by rw [hg]; exact (keep_size (w := w) (g := g) (row := none) (by repeat (first | (with_reducible first | exact HK.out | apply KeepBut.set_ | apply keep_drewN | apply keep_drew | apply keep_alloc | refine keep_far ?_ GW312.out _) | exact HK.out))) : w.heap.size ≤ gb322)); have n7_ := Aside0.mk ((Nat.le_trans HW0.out (by rw [hg]; exact (keep_size (w := w) (g := g) (row := none) (by repeat (first | (with_reducible first | exact HK.out | apply KeepBut.set_ | apply keep_drewN | apply keep_drew | apply keep_alloc | refine keep_far ?_ GW312.out _) | exact HK.out))) : w.heap.size ≤ gb322) : w0.heap.size ≤ gb322)); have n8_ := nl hg BK312; have n9_ := ng hg BK312; have n10_ := Aside0.mk ((by rw [hg]; exact Nat.ne_of_lt (IsS105.lt (show IsS105 w0 _ g s0_0 t320 t321 from by repeat (first | (with_reducible first | exact HI0.out | apply IsS105.alloc | apply IsS105.drewN | apply IsS105.drew | apply IsS105.set_1 | apply IsS105.set_2 | refine IsS105.far ?_ NB0_312.out _) | exact HI0.out))) : g ≠ gb322)); have n11_ := Aside0.mk ((by rw [hg]; exact Nat.ne_of_gt (IsS105.lt (show IsS105 w0 _ g s0_0 t320 t321 from by repeat (first | (with_reducible first | exact HI0.out | apply IsS105.alloc | apply IsS105.drewN | apply IsS105.drew | apply IsS105.set_1 | apply IsS105.set_2 | refine IsS105.far ?_ NB0_312.out _) | exact HI0.out))) : gb322 ≠ g)); clear HO319 HI0 BK312 HK HB; have HO319 := n0_; have HI0 := n1_; have BK312 := n2_; have HK := n3_; have HB := n4_; have BK322 := n5_; have GW322 := n6_; have GE322 := n7_; have NB312_322 := n8_; have NB322_312 := n9_; have NB0_322 := n10_; have NB322_0 := n11_; clear n0_ n1_ n2_ n3_ n4_ n5_ n6_ n7_ n8_ n9_ n10_ n11_; clear hb hbox hg; have hnb11 := NB322_312.out; have hnc11 := NB312_322.out; have hnb12 := NB322_0.out; have hnc12 := NB0_322.out; obtain ⟨hcz13_0, hcz13_1⟩ := c2 BK322; have hfz13_0 := blk_frozen BK322.out 0; have hfz13_1 := blk_frozen BK322.out 1; obtain ⟨Ao14, co14, eo14⟩ := Kd.S_slice HO319.out; subst eo14) | ((with_reducible refine gate_callee (f := 94) rfl ?_); refine goesL_ (some 10) rfl rfl Try.func94 (by kernel_rfl) rfl #[.pointer (some ⟨g, 0, none⟩), .int .i64 16] rfl (by (try simp only [List.map_toArray, List.map_cons, List.map_nil]); first | done | rfl | (simp only [List.length_drop, List.length_take]; rfl)) ?_; (with_reducible refine (spec_l1Below.calls g s0_0 t320 t321 16 t323 t324 t325 w0 _ ?side1 ?side2 A4.out).mono ?_); (case side1 => repeat (first | (with_reducible first | exact HI0.out | apply IsS105.alloc | apply IsS105.drewN | apply IsS105.drew | apply IsS105.set_1 | apply IsS105.set_2 | refine IsS105.far ?_ NB0_312.out _ | refine IsS105.far ?_ NB0_322.out _) | exact HI0.out)); (case side2 => repeat (first | (with_reducible first | exact HB.out | apply below_alloc | apply pw_below_drewN | apply below_drew1 | refine below_set ?_ (IsS105.ge HI0.out) | refine below_set ?_ GE312.out | refine below_set ?_ GE322.out) | exact HB.out)); rintro e w15 ⟨rfl, hi, hb, hk⟩; refine ⟨_, rfl, ?_⟩; have n0_ := Aside0.mk (KeepBut.blk hk (g' := gb312) (o := .cells #[.int .i64 0, .slice none 0 0] 32 (0, 0)) (mf BK312) NB312_0.out (by simp)); have n1_ := Aside0.mk (Kd.S_mono (Kd.S_keep (IsS105.apartS (show IsS105 w0 _ g s0_0 t320 t321 from by repeat (first | (with_reducible first | exact HI0.out | apply IsS105.alloc | apply IsS105.drewN | apply IsS105.drew | apply IsS105.set_1 | apply IsS105.set_2 | refine IsS105.far ?_ NB0_312.out _ | refine IsS105.far ?_ NB0_322.out _) | exact HI0.out)) (by (with_reducible repeat (first | apply Kd.S_alloc | apply Kd.S_drewN | apply Kd.S_drew)); exact (Kd.S_mono (Kd.S_far (p := ⟨gb322, 1, none⟩) (Kd.S_far (p := ⟨gb322, 0, none⟩) (Kd.S_types HO319.out BK322.out (by decide)) (fun _ hk => hk.2) (.int .i64 t316)) (fun _ hk => hk.2) (.slice Ao14 t317.length co14)) (fun _ h_ => h_.1))) (by decide)) hk (fun _ h => h.2)) (fun _ h => h.1)); have n2_ := Aside0.mk (KeepBut.blk hk (g' := gb322) (o := .cells #[.int .i64 t316, .slice Ao14 t317.length co14] 32 (0, 0)) (by (with_reducible repeat (first | refine blk_drewN ?_ _ | refine blk_drew ?_ | refine blk_alloc ?_ _)); refine blk_put (cs := #[.int .i64 t316, .slice none 0 0]) ?_ 1 _ rfl; (with_reducible repeat (first | refine blk_drewN ?_ _ | refine blk_drew ?_ | refine blk_alloc ?_ _)); refine blk_put (cs := #[.int .i64 0, .slice none 0 0]) ?_ 0 _ rfl; (with_reducible repeat (first | refine blk_drewN ?_ _ | refine blk_drew ?_ | refine blk_alloc ?_ _)); exact BK322.out) NB322_0.out (by simp)); have n3_ := Aside0.mk (KeepBut.trans (by repeat (first | (with_reducible first | exact HK.out | apply KeepBut.set_ | apply keep_drewN | apply keep_drew | apply keep_alloc | refine keep_far ?_ GW312.out _ | refine keep_far ?_ GW322.out _) | exact HK.out)) hk (.inl rfl)); have n4_ := Aside0.mk (hb); have n5_ := Aside0.mk (hi); clear BK312 HO319 BK322 HK HB HI0; have BK312 := n0_; have HO319 := n1_; have BK322 := n2_; have HK := n3_; have HB := n4_; have HI0 := n5_; clear n0_ n1_ n2_ n3_ n4_ n5_; (try clear hb); obtain ⟨hcz16_0, hcz16_1⟩ := c2 BK322; have hfz16_0 := blk_frozen BK322.out 0; have hfz16_1 := blk_frozen BK322.out 1) | ((with_reducible refine gate_dst (N := 17) rfl ?_); refine Kd.R_lit (Kd.int .i64) _ 3 ?hg (N := 17) ?hd (xs := ([(-1), 9, wrap64 (t316 + 1)] : List Int)) (inner := [.int .i64 (-1), .int .i64 9, .int .i64 (wrap64 (t316 + 1))]) (ok := fun _ => True) (okp := fun _ => True) ?hr ?hp (fun _ hk => hk) trivial (Below.refl _ _) (Nat.le_refl _) (by simp) ?_; (case hd => rfl); (case hg => rfl); (case hr => first | (go_simp; done) | (go_simp; rfl)); (case hp => exact (Reps.one (show Kd.M (Kd.int .i64) _ _ _ (-1) [.int .i64 (-1)] from rfl) (Reps.one (show Kd.M (Kd.int .i64) _ _ _ 9 [.int .i64 9] from rfl) (Reps.one (show Kd.M (Kd.int .i64) _ _ _ (wrap64 (t316 + 1)) [.int .i64 (wrap64 (t316 + 1))] from rfl) (Reps.none _ _))))); intro v327 w17 ho18 hb hg_ hnew_; clear hg_ hnew_; (first | rw [← Ny326.out] at ho18 | (simp only [Int.reduceToNat] at ho18; rw [← Ny326.out] at ho18)); have n0_ := Aside0.mk (Kd.S_elder' (by (with_reducible repeat (first | apply Kd.S_alloc | apply Kd.S_drewN | apply Kd.S_drew)); exact HO319.out) (Kd.R_base ho18) hb); have n1_ := Aside0.mk (Kd.R_lower ho18 (keep_size (w := w) (g := g) (row := none) (by repeat (first | (with_reducible first | exact HK.out | apply KeepBut.set_ | apply keep_drewN | apply keep_drew | apply keep_alloc | refine keep_far ?_ GW312.out _ | refine keep_far ?_ GW322.out _) | exact HK.out)))); have n2_ := Aside0.mk (IsS105.below (by repeat (first | (with_reducible first | exact HI0.out | apply IsS105.alloc | apply IsS105.drewN | apply IsS105.drew | apply IsS105.set_1 | apply IsS105.set_2 | refine IsS105.far ?_ NB0_312.out _ | refine IsS105.far ?_ NB0_322.out _) | exact HI0.out)) hb); have n3_ := bb BK312 hb; have n4_ := bb BK322 hb; have n5_ := Aside0.mk (KeepBut.trans (by repeat (first | (with_reducible first | exact HK.out | apply KeepBut.set_ | apply keep_drewN | apply keep_drew | apply keep_alloc | refine keep_far ?_ GW312.out _ | refine keep_far ?_ GW322.out _) | exact HK.out)) (KeepBut.of_below hb g none) (.inl rfl)); have n6_ := Aside0.mk (below_step (by repeat (first | (with_reducible first | exact HB.out | apply below_alloc | apply pw_below_drewN | apply below_drew1 | refine below_set ?_ (IsS105.ge HI0.out) | refine below_set ?_ GE312.out | refine below_set ?_ GE322.out) | exact HB.out)) hb); clear HO319 HI0 BK312 BK322 HK HB; have HO319 := n0_; have HO328 := n1_; have HI0 := n2_; have BK312 := n3_; have BK322 := n4_; have HK := n5_; have HB := n6_; clear n0_ n1_ n2_ n3_ n4_ n5_ n6_; clear hb ho18; obtain ⟨Ao19, co19, eo19⟩ := Kd.R_slice HO328.out; subst eo19) | ((with_reducible refine gate_callee (f := 110) rfl ?_); refine goesL_ (some 18) rfl rfl Try.func110 (by kernel_rfl) rfl #[.pointer (some ⟨g, 0, none⟩), .slice Ao19 y326.length co19] rfl (by (try simp only [List.map_toArray, List.map_cons, List.map_nil]); first | done | rfl | (simp only [List.length_drop, List.length_take]; rfl)) ?_; (with_reducible refine (spec_l1PickInt.calls g s0_0 t324 t325 _ _ y326 t329 t330 t331 w0 _ ?side1 ?side2 ?side3 ?side4 ?side5 A6.out).mono ?_); (case side1 => repeat (first | (with_reducible first | exact HI0.out | apply IsS105.alloc | apply IsS105.drewN | apply IsS105.drew | apply IsS105.set_1 | apply IsS105.set_2 | refine IsS105.far ?_ NB0_312.out _ | refine IsS105.far ?_ NB0_322.out _) | exact HI0.out)); (case side2 => repeat (first | (with_reducible first | exact HB.out | apply below_alloc | apply pw_below_drewN | apply below_drew1 | refine below_set ?_ (IsS105.ge HI0.out) | refine below_set ?_ GE312.out | refine below_set ?_ GE322.out) | exact HB.out)); (case side3 => exact mc ((Kd.R_reads' HO328.out).2.2)); (case side4 => exact (Kd.R_reads' HO328.out).2.1); (case side5 => exact far_slice (IsS105.own_ne HI0.out HO328.out (by decide))); rintro e w20 ⟨rfl, hi, hb, hk⟩; refine ⟨_, rfl, ?_⟩; have n0_ := Aside0.mk (KeepBut.blk hk (g' := gb312) (o := .cells #[.int .i64 0, .slice none 0 0] 32 (0, 0)) (mb BK312) NB312_0.out (by simp)); have n1_ := Aside0.mk (Kd.S_mono (Kd.S_keep (IsS105.apartS (show IsS105 w0 _ g s0_0 t324 t325 from by repeat (first | (with_reducible first | exact HI0.out | apply IsS105.alloc | apply IsS105.drewN | apply IsS105.drew | apply IsS105.set_1 | apply IsS105.set_2 | refine IsS105.far ?_ NB0_312.out _ | refine IsS105.far ?_ NB0_322.out _) | exact HI0.out)) (by (with_reducible repeat (first | apply Kd.S_alloc | apply Kd.S_drewN | apply Kd.S_drew)); exact HO319.out) (by decide)) hk (fun _ h => h.2)) (fun _ h => h.1)); have n2_ := Aside0.mk (KeepBut.blk hk (g' := gb322) (o := .cells #[.int .i64 t316, .slice Ao14 t317.length co14] 32 (0, 0)) (mb BK322) NB322_0.out (by simp)); have n3_ := Aside0.mk (Kd.R_mono (Kd.R_keep (IsS105.apart (show IsS105 w0 _ g s0_0 t324 t325 from by repeat (first | (with_reducible first | exact HI0.out | apply IsS105.alloc | apply IsS105.drewN | apply IsS105.drew | apply IsS105.set_1 | apply IsS105.set_2 | refine IsS105.far ?_ NB0_312.out _ | refine IsS105.far ?_ NB0_322.out _) | exact HI0.out)) (mr HO328) (by decide)) hk (fun _ h => h.2)) (fun _ h => h.1)); have n4_ := Aside0.mk (KeepBut.trans (by repeat (first | (with_reducible first | exact HK.out | apply KeepBut.set_ | apply keep_drewN | apply keep_drew | apply keep_alloc | refine keep_far ?_ GW312.out _ | refine keep_far ?_ GW322.out _) | exact HK.out)) hk (.inl rfl)); have n5_ := Aside0.mk (hb); have n6_ := Aside0.mk (hi); clear BK312 HO319 BK322 HO328 HK HB HI0; have BK312 := n0_; have HO319 := n1_; have BK322 := n2_; have HO328 := n3_; have HK := n4_; have HB := n5_; have HI0 := n6_; clear n0_ n1_ n2_ n3_ n4_ n5_ n6_; (try clear hb); obtain ⟨hcz21_0, hcz21_1⟩ := c2 BK322; have hfz21_0 := blk_frozen BK322.out 0; have hfz21_1 := blk_frozen BK322.out 1; have hnb22 := NB312_0.out; have hnc22 := NB0_312.out; obtain ⟨hcz23_0, hcz23_1⟩ := c2 BK312; have hfz23_0 := blk_frozen BK312.out 0; have hfz23_1 := blk_frozen BK312.out 1))
  refine bodyPost_ret (results_cell_row rfl _ _ gb312 32 #[.int .i64 t329, .slice Ao14 t317.length co14] (0, 0) _ rfl (by (with_reducible repeat (first | refine blk_drewN ?_ _ | refine blk_drew ?_ | refine blk_alloc ?_ _)); refine blk_put (cs := #[.int .i64 t329, .slice none 0 0]) ?_ 1 _ rfl; (with_reducible repeat (first | refine blk_drewN ?_ _ | refine blk_drew ?_ | refine blk_alloc ?_ _)); refine blk_put (cs := #[.int .i64 0, .slice none 0 0]) ?_ 0 _ rfl; (with_reducible repeat (first | refine blk_drewN ?_ _ | refine blk_drew ?_ | refine blk_alloc ?_ _)); refine blk_far ?_ NB312_322.out _; (with_reducible repeat (first | refine blk_drewN ?_ _ | refine blk_drew ?_ | refine blk_alloc ?_ _)); exact BK312.out) Try.underlying32 rfl (by kernel_rfl)) rfl ?_
  exact ⟨_, by first | rfl | (simp [errW_none, errW_some] <;> rfl) | (simp [*, errW_none, errW_some] <;> rfl), by (with_reducible repeat (first | apply Kd.S_alloc | apply Kd.S_drewN | apply Kd.S_drew)); exact Kd.S_mono (Kd.S_far (p := ⟨gb312, 1, none⟩) (Kd.S_far (p := ⟨gb312, 0, none⟩) (Kd.S_far (p := ⟨gb322, 0, none⟩) (Kd.S_types (Kd.S_types HO319.out BK322.out (by decide)) BK312.out (by decide)) (fun _ hk => hk.1.2) (.int .i64 t329)) (fun _ hk => hk.2) (.int .i64 t329)) (fun _ hk => hk.2) (.slice Ao14 t317.length co14)) (fun _ hk => trivial), by repeat (first | (with_reducible first | exact HI0.out | apply IsS105.alloc | apply IsS105.drewN | apply IsS105.drew | apply IsS105.set_1 | apply IsS105.set_2 | refine IsS105.far ?_ NB0_312.out _ | refine IsS105.far ?_ NB0_322.out _) | exact HI0.out), by repeat (first | (with_reducible first | exact HB.out | apply below_alloc | apply pw_below_drewN | apply below_drew1 | refine below_set ?_ (IsS105.ge HI0.out) | refine below_set ?_ GE312.out | refine below_set ?_ GE322.out) | exact HB.out), by repeat (first | (with_reducible first | exact HK.out | apply KeepBut.set_ | apply keep_drewN | apply keep_drew | apply keep_alloc | refine keep_far ?_ GW312.out _ | refine keep_far ?_ GW322.out _) | exact HK.out)⟩
 ·rw [if_neg c5] at H
  have c5b0 : (t323 == 0) = false := beq_eq_false_iff_ne.mpr c5
  have c5b1 : (t323 != 0) = true := bne_iff_ne.mpr c5
  by_cases c24 : t323 = 1
  ·rw [if_pos c24] at H
   have c24b0 : (t323 == 1) = true := beq_iff_eq.mpr c24
   have c24b1 : (t323 != 1) = false := bne_eq_false_iff_eq.mpr c24
   clear c24
   replace H := Option.bind_eq_some_iff.mp H
   obtain ⟨⟨t332, t333, t336, t337⟩, A250, H⟩ := H
   replace H : (if t317.length < 4398046511104 then (some (t316, (t317 ++ [(⟨t332, t333⟩ : S36)]), t336, t337)) else (none)) = some (r1, r2, r3, r4) := H
   have A25 := Aside0.mk A250
   clear A250
   by_cases c26 : t317.length < 4398046511104
   ·rw [if_pos c26] at H
    have LMc26 := Aside0.mk c26
    clear c26
    obtain ⟨y338, hy338⟩ : ∃ y_ : List (S36), y_ = (t317 ++ [(⟨t332, t333⟩ : S36)]) := ⟨_, rfl⟩
    replace H : (some (t316, y338, t336, t337)) = some (r1, r2, r3, r4) := by first | (rw [hy338]; with_reducible exact H) | (have H2_ := (Option.bind_some _ _).symm.trans H; rw [hy338]; with_reducible exact H2_) | (have H2_ := (Option.bind_some _ _).symm.trans H; with_reducible exact H2_) | with_reducible exact H | (rw [hy338]; exact H) | exact H
    have Ny338 := Aside0.mk hy338
    clear hy338
    simp only [Option.some.injEq, Prod.mk.injEq] at H
    obtain ⟨rfl, rfl, rfl, rfl⟩ := H
    go_enter Try.func78, Try.ntmps78
    try go_wp2_with (first | ((with_reducible refine gate_dst (N := 2) rfl ?_); refine box_event ?hg (N := 2) ?hd (cs := #[.int .i64 0, .slice none 0 0]) (t := 32) ?hr ?_; (case hd => rfl); (case hg => rfl); (case hr => first | (go_simp; done) | (go_simp; rfl)); intro gb312 hg w27 hbox hb; have n0_ := Aside0.mk (IsS105.below (by repeat (first | (with_reducible first | exact HI0.out | apply IsS105.alloc | apply IsS105.drewN | apply IsS105.drew | apply IsS105.set_1 | apply IsS105.set_2) | exact HI0.out)) hb); have n1_ := Aside0.mk (KeepBut.trans (by repeat (first | (with_reducible first | exact HK.out | apply KeepBut.set_ | apply keep_drewN | apply keep_drew | apply keep_alloc) | exact HK.out)) (KeepBut.of_below hb g none) (.inl rfl)); have n2_ := Aside0.mk (below_step (by repeat (first | (with_reducible first | exact HB.out | apply below_alloc | apply pw_below_drewN | apply below_drew1 | refine below_set ?_ (IsS105.ge HI0.out)) | exact HB.out)) hb); have n3_ := Aside0.mk (hbox); have n4_ := Aside0.mk ((by rw [hg]; exact (keep_size (w := w) (g := g) (row := none) (by repeat (first | (with_reducible first | exact HK.out | apply KeepBut.set_ | apply keep_drewN | apply keep_drew | apply keep_alloc) | exact HK.out))) : w.heap.size ≤ gb312)); have n5_ := Aside0.mk ((Nat.le_trans HW0.out (by rw [hg]; exact (keep_size (w := w) (g := g) (row := none) (by repeat (first | (with_reducible first | exact HK.out | apply KeepBut.set_ | apply keep_drewN | apply keep_drew | apply keep_alloc) | exact HK.out))) : w.heap.size ≤ gb312) : w0.heap.size ≤ gb312)); have n6_ := Aside0.mk ((by rw [hg]; exact Nat.ne_of_lt (IsS105.lt (show IsS105 w0 _ g s0_0 s0_1 s0_2 from by repeat (first | (with_reducible first | exact HI0.out | apply IsS105.alloc | apply IsS105.drewN | apply IsS105.drew | apply IsS105.set_1 | apply IsS105.set_2) | exact HI0.out))) : g ≠ gb312)); have n7_ := Aside0.mk ((by rw [hg]; exact Nat.ne_of_gt (IsS105.lt (show IsS105 w0 _ g s0_0 s0_1 s0_2 from by repeat (first | (with_reducible first | exact HI0.out | apply IsS105.alloc | apply IsS105.drewN | apply IsS105.drew | apply IsS105.set_1 | apply IsS105.set_2) | exact HI0.out))) : gb312 ≠ g)); clear HI0 HK HB; have HI0 := n0_; have HK := n1_; have HB := n2_; have BK312 := n3_; have GW312 := n4_; have GE312 := n5_; have NB0_312 := n6_; have NB312_0 := n7_; clear n0_ n1_ n2_ n3_ n4_ n5_ n6_ n7_; clear hb hbox hg) | ((with_reducible refine gate_callee (f := 94) rfl ?_); refine goesL_ (some 7) rfl rfl Try.func94 (by kernel_rfl) rfl #[.pointer (some ⟨g, 0, none⟩), .int .i64 4] rfl (by (try simp only [List.map_toArray, List.map_cons, List.map_nil]); first | done | rfl | (simp only [List.length_drop, List.length_take]; rfl)) ?_; (with_reducible refine (spec_l1Below.calls g s0_0 s0_1 s0_2 4 t313 t314 t315 w0 _ ?side1 ?side2 A2.out).mono ?_); (case side1 => repeat (first | (with_reducible first | exact HI0.out | apply IsS105.alloc | apply IsS105.drewN | apply IsS105.drew | apply IsS105.set_1 | apply IsS105.set_2 | refine IsS105.far ?_ NB0_312.out _) | exact HI0.out)); (case side2 => repeat (first | (with_reducible first | exact HB.out | apply below_alloc | apply pw_below_drewN | apply below_drew1 | refine below_set ?_ (IsS105.ge HI0.out) | refine below_set ?_ GE312.out) | exact HB.out)); rintro e w28 ⟨rfl, hi, hb, hk⟩; refine ⟨_, rfl, ?_⟩; replace BK312 := Aside0.mk (KeepBut.blk hk (g' := gb312) (o := .cells #[.int .i64 0, .slice none 0 0] 32 (0, 0)) (mb BK312) NB312_0.out (by simp)); replace HK := Aside0.mk (KeepBut.trans (by repeat (first | (with_reducible first | exact HK.out | apply KeepBut.set_ | apply keep_drewN | apply keep_drew | apply keep_alloc | refine keep_far ?_ GW312.out _) | exact HK.out)) hk (.inl rfl)); replace HB := Aside0.mk (hb); replace HI0 := Aside0.mk (hi); (try clear hb)) | ((with_reducible refine gate_callee (f := 109) rfl ?_); refine goesL_ (some 8) rfl rfl Try.func109 (by kernel_rfl) rfl #[.pointer (some ⟨g, 0, none⟩), .int .i64 t313] rfl (by (try simp only [List.map_toArray, List.map_cons, List.map_nil]); first | done | rfl | (simp only [List.length_drop, List.length_take]; rfl)) ?_; (with_reducible refine (spec_l6Draw.calls k g s0_0 t314 t315 t313 t316 t317 t320 t321 w0 _ ?side1 ?side2 A3.out).mono ?_); (case side1 => repeat (first | (with_reducible first | exact HI0.out | apply IsS105.alloc | apply IsS105.drewN | apply IsS105.drew | apply IsS105.set_1 | apply IsS105.set_2 | refine IsS105.far ?_ NB0_312.out _) | exact HI0.out)); (case side2 => repeat (first | (with_reducible first | exact HB.out | apply below_alloc | apply pw_below_drewN | apply below_drew1 | refine below_set ?_ (IsS105.ge HI0.out) | refine below_set ?_ GE312.out) | exact HB.out)); rintro e w29 ⟨v318, rfl, ho0, hi, hb, hk⟩; refine ⟨_, rfl, ?_⟩; replace BK312 := Aside0.mk (KeepBut.blk hk (g' := gb312) (o := .cells #[.int .i64 0, .slice none 0 0] 32 (0, 0)) (mb BK312) NB312_0.out (by simp)); have HO319 := Aside0.mk (Kd.S_lower ho0 (keep_size (w := w) (g := g) (row := none) (by repeat (first | (with_reducible first | exact HK.out | apply KeepBut.set_ | apply keep_drewN | apply keep_drew | apply keep_alloc | refine keep_far ?_ GW312.out _) | exact HK.out)))); replace HK := Aside0.mk (KeepBut.trans (by repeat (first | (with_reducible first | exact HK.out | apply KeepBut.set_ | apply keep_drewN | apply keep_drew | apply keep_alloc | refine keep_far ?_ GW312.out _) | exact HK.out)) hk (.inl rfl)); replace HB := Aside0.mk (hb); replace HI0 := Aside0.mk (hi); (try clear hb); (try clear ho0)) | ((with_reducible refine gate_dst (N := 3) rfl ?_); refine box_event ?hg (N := 3) ?hd (cs := #[.int .i64 0, .slice none 0 0]) (t := 32) ?hr ?_; (case hd => rfl); (case hg => rfl); (case hr => first | (go_simp; done) | (go_simp; rfl)); intro gb322 hg w30 hbox hb; have n0_ := Aside0.mk (Kd.S_below (by (with_reducible repeat (first | apply Kd.S_alloc | apply Kd.S_drewN | apply Kd.S_drew)); exact HO319.out) hb); have n1_ := Aside0.mk (IsS105.below (by repeat (first | (with_reducible first | exact HI0.out | apply IsS105.alloc | apply IsS105.drewN | apply IsS105.drew | apply IsS105.set_1 | apply IsS105.set_2 | refine IsS105.far ?_ NB0_312.out _) | exact HI0.out)) hb); have n2_ := bb BK312 hb; have n3_ := Aside0.mk (KeepBut.trans (by repeat (first | (with_reducible first | exact HK.out | apply KeepBut.set_ | apply keep_drewN | apply keep_drew | apply keep_alloc | refine keep_far ?_ GW312.out _) | exact HK.out)) (KeepBut.of_below hb g none) (.inl rfl)); have n4_ := Aside0.mk (below_step (by repeat (first | (with_reducible first | exact HB.out | apply below_alloc | apply pw_below_drewN | apply below_drew1 | refine below_set ?_ (IsS105.ge HI0.out) | refine below_set ?_ GE312.out) | exact HB.out)) hb); have n5_ := Aside0.mk (hbox); have n6_ := Aside0.mk ((by rw [hg]; exact (keep_size (w := w) (g := g) (row := none) (by repeat (first | (with_reducible first | exact HK.out | apply KeepBut.set_ | apply keep_drewN | apply keep_drew | apply keep_alloc | refine keep_far ?_ GW312.out _) | exact HK.out))) : w.heap.size ≤ gb322)); have n7_ := Aside0.mk ((Nat.le_trans HW0.out (by rw [hg]; exact (keep_size (w := w) (g := g) (row := none) (by repeat (first | (with_reducible first | exact HK.out | apply KeepBut.set_ | apply keep_drewN | apply keep_drew | apply keep_alloc | refine keep_far ?_ GW312.out _) | exact HK.out))) : w.heap.size ≤ gb322) : w0.heap.size ≤ gb322)); have n8_ := nl hg BK312; have n9_ := ng hg BK312; have n10_ := Aside0.mk ((by rw [hg]; exact Nat.ne_of_lt (IsS105.lt (show IsS105 w0 _ g s0_0 t320 t321 from by repeat (first | (with_reducible first | exact HI0.out | apply IsS105.alloc | apply IsS105.drewN | apply IsS105.drew | apply IsS105.set_1 | apply IsS105.set_2 | refine IsS105.far ?_ NB0_312.out _) | exact HI0.out))) : g ≠ gb322)); have n11_ := Aside0.mk ((by rw [hg]; exact Nat.ne_of_gt (IsS105.lt (show IsS105 w0 _ g s0_0 t320 t321 from by repeat (first | (with_reducible first | exact HI0.out | apply IsS105.alloc | apply IsS105.drewN | apply IsS105.drew | apply IsS105.set_1 | apply IsS105.set_2 | refine IsS105.far ?_ NB0_312.out _) | exact HI0.out))) : gb322 ≠ g)); clear HO319 HI0 BK312 HK HB; have HO319 := n0_; have HI0 := n1_; have BK312 := n2_; have HK := n3_; have HB := n4_; have BK322 := n5_; have GW322 := n6_; have GE322 := n7_; have NB312_322 := n8_; have NB322_312 := n9_; have NB0_322 := n10_; have NB322_0 := n11_; clear n0_ n1_ n2_ n3_ n4_ n5_ n6_ n7_ n8_ n9_ n10_ n11_; clear hb hbox hg; have hnb31 := NB322_312.out; have hnc31 := NB312_322.out; have hnb32 := NB322_0.out; have hnc32 := NB0_322.out; obtain ⟨hcz33_0, hcz33_1⟩ := c2 BK322; have hfz33_0 := blk_frozen BK322.out 0; have hfz33_1 := blk_frozen BK322.out 1; obtain ⟨Ao34, co34, eo34⟩ := Kd.S_slice HO319.out; subst eo34) | ((with_reducible refine gate_callee (f := 94) rfl ?_); refine goesL_ (some 10) rfl rfl Try.func94 (by kernel_rfl) rfl #[.pointer (some ⟨g, 0, none⟩), .int .i64 16] rfl (by (try simp only [List.map_toArray, List.map_cons, List.map_nil]); first | done | rfl | (simp only [List.length_drop, List.length_take]; rfl)) ?_; (with_reducible refine (spec_l1Below.calls g s0_0 t320 t321 16 t323 t324 t325 w0 _ ?side1 ?side2 A4.out).mono ?_); (case side1 => repeat (first | (with_reducible first | exact HI0.out | apply IsS105.alloc | apply IsS105.drewN | apply IsS105.drew | apply IsS105.set_1 | apply IsS105.set_2 | refine IsS105.far ?_ NB0_312.out _ | refine IsS105.far ?_ NB0_322.out _) | exact HI0.out)); (case side2 => repeat (first | (with_reducible first | exact HB.out | apply below_alloc | apply pw_below_drewN | apply below_drew1 | refine below_set ?_ (IsS105.ge HI0.out) | refine below_set ?_ GE312.out | refine below_set ?_ GE322.out) | exact HB.out)); rintro e w35 ⟨rfl, hi, hb, hk⟩; refine ⟨_, rfl, ?_⟩; have n0_ := Aside0.mk (KeepBut.blk hk (g' := gb312) (o := .cells #[.int .i64 0, .slice none 0 0] 32 (0, 0)) (mf BK312) NB312_0.out (by simp)); have n1_ := Aside0.mk (Kd.S_mono (Kd.S_keep (IsS105.apartS (show IsS105 w0 _ g s0_0 t320 t321 from by repeat (first | (with_reducible first | exact HI0.out | apply IsS105.alloc | apply IsS105.drewN | apply IsS105.drew | apply IsS105.set_1 | apply IsS105.set_2 | refine IsS105.far ?_ NB0_312.out _ | refine IsS105.far ?_ NB0_322.out _) | exact HI0.out)) (by (with_reducible repeat (first | apply Kd.S_alloc | apply Kd.S_drewN | apply Kd.S_drew)); exact (Kd.S_mono (Kd.S_far (p := ⟨gb322, 1, none⟩) (Kd.S_far (p := ⟨gb322, 0, none⟩) (Kd.S_types HO319.out BK322.out (by decide)) (fun _ hk => hk.2) (.int .i64 t316)) (fun _ hk => hk.2) (.slice Ao34 t317.length co34)) (fun _ h_ => h_.1))) (by decide)) hk (fun _ h => h.2)) (fun _ h => h.1)); have n2_ := Aside0.mk (KeepBut.blk hk (g' := gb322) (o := .cells #[.int .i64 t316, .slice Ao34 t317.length co34] 32 (0, 0)) (by (with_reducible repeat (first | refine blk_drewN ?_ _ | refine blk_drew ?_ | refine blk_alloc ?_ _)); refine blk_put (cs := #[.int .i64 t316, .slice none 0 0]) ?_ 1 _ rfl; (with_reducible repeat (first | refine blk_drewN ?_ _ | refine blk_drew ?_ | refine blk_alloc ?_ _)); refine blk_put (cs := #[.int .i64 0, .slice none 0 0]) ?_ 0 _ rfl; (with_reducible repeat (first | refine blk_drewN ?_ _ | refine blk_drew ?_ | refine blk_alloc ?_ _)); exact BK322.out) NB322_0.out (by simp)); have n3_ := Aside0.mk (KeepBut.trans (by repeat (first | (with_reducible first | exact HK.out | apply KeepBut.set_ | apply keep_drewN | apply keep_drew | apply keep_alloc | refine keep_far ?_ GW312.out _ | refine keep_far ?_ GW322.out _) | exact HK.out)) hk (.inl rfl)); have n4_ := Aside0.mk (hb); have n5_ := Aside0.mk (hi); clear BK312 HO319 BK322 HK HB HI0; have BK312 := n0_; have HO319 := n1_; have BK322 := n2_; have HK := n3_; have HB := n4_; have HI0 := n5_; clear n0_ n1_ n2_ n3_ n4_ n5_; (try clear hb)))
    replace HO319 := Aside0.mk (Kd.S_drew HO319.out)
    replace BK312 := Aside0.mk (blk_drew BK312.out)
    replace BK322 := Aside0.mk (blk_drew BK322.out)
    replace HI0 := Aside0.mk (IsS105.drew HI0.out)
    replace HK := Aside0.mk (keep_drew HK.out)
    replace HB := Aside0.mk (below_drew1 HB.out)
    refine start_ (n := 8) (S := fun w' => w'.cell? ⟨gb322, 0, none⟩ = some (.int .i64 t316) ∧ w'.cell? ⟨gb322, 1, none⟩ = some (.slice Ao34 t317.length co34)) (ds := [7]) #[false, false, false, false, false, false, false, false] (by kernel_rfl) rfl rfl ⟨(c2 BK322).1, (c2 BK322).2⟩ (fun hHeld => ?_); refine with_tabW spec_l6Bent.tab6 spec_l6Bent.bits6 (fun HT_ HW_ => ?_)
    generalize w35.drew = w36 at HO319 BK312 BK322 HI0 HK HB hHeld ⊢
    refine pure_ (i := 0) (N := some 22) (v := ?_) (a' := ?_) #[true, false, false, false, false, false, false, false] rfl rfl (any_of HT_.out (by kernel_rfl)) (fun _ _ _ h => h) (Or.inl ⟨by rfl, ?_⟩) ?_ ?_
    rotate_left
    ·intro w'
     go_simp
     with_reducible rfl
    rotate_left
    ·simp only [Act.put, List.setIfInBounds_toArray, List.set_cons_zero, List.set_cons_succ, i64_w, i32_w]
     rfl
    refine pure_ (i := 2) (N := some 24) (v := ?_) (a' := ?_) #[true, false, true, false, false, false, false, false] rfl rfl (any_of HT_.out (by kernel_rfl)) (fun _ _ _ h => h) (Or.inl ⟨by rfl, ?_⟩) ?_ ?_
    rotate_left
    ·intro w'
     go_simp
     with_reducible rfl
    rotate_left
    ·simp only [Act.put, List.setIfInBounds_toArray, List.set_cons_zero, List.set_cons_succ, i64_w, i32_w]
     rfl
    refine take_ (i := 1) (N := some 23) (v := ?_) (a' := ?_) #[true, true, true, false, false, false, false, false] rfl rfl (take_ofW HT_.out HW_.out (by kernel_rfl)) (fun _ _ _ h => h) (Or.inl ⟨by rfl, ?_⟩) hHeld ?_ ?_
    rotate_left
    ·rintro w' ⟨s0, s1⟩
     go_simp
     with_reducible rfl
    rotate_left
    ·simp only [Act.put, List.setIfInBounds_toArray, List.set_cons_zero, List.set_cons_succ, i64_w, i32_w]
     rfl
    refine one_ (i := 3) (N := some 25) #[true, true, true, true, false, false, false, false] rfl rfl (one_of HT_.out (by kernel_rfl)) (by decide) (fun K hK => ?_)
    refine goes_ Try.func80 (by kernel_rfl) rfl #[.pointer (some ⟨g, 0, none⟩)] (by rfl) rfl rfl (by (try simp only [List.map_toArray, List.map_cons, List.map_nil]); first | done | rfl | (simp only [List.length_drop, List.length_take]; rfl)) ?_
    with_reducible refine (spec_l4Bent.calls k g s0_0 t324 t325 t332 t333 t336 t337 w0 _ ?side1 ?side2 A25.out).mono ?_
    (case side1 => repeat (first | (with_reducible first | exact HI0.out | apply IsS105.alloc | apply IsS105.drewN | apply IsS105.drew | apply IsS105.set_1 | apply IsS105.set_2 | refine IsS105.far ?_ NB0_312.out _ | refine IsS105.far ?_ NB0_322.out _) | exact HI0.out))
    (case side2 => repeat (first | (with_reducible first | exact HB.out | apply below_alloc | apply pw_below_drewN | apply below_drew1 | refine below_set ?_ (IsS105.ge HI0.out) | refine below_set ?_ GE312.out | refine below_set ?_ GE322.out) | exact HB.out))
    rintro e w37 ⟨v334, rfl, ho0, hi, hb, hk⟩
    refine ⟨_, rfl, ?_⟩
    have n0_ := Aside0.mk (KeepBut.blk hk (g' := gb312) (o := .cells #[.int .i64 0, .slice none 0 0] 32 (0, 0)) (mb BK312) NB312_0.out (by simp))
    have n1_ := Aside0.mk (Kd.S_mono (Kd.S_told (Kd.S_oldK (IsS105.apartS (show IsS105 w0 _ g s0_0 t324 t325 from by repeat (first | (with_reducible first | exact HI0.out | apply IsS105.alloc | apply IsS105.drewN | apply IsS105.drew | apply IsS105.set_1 | apply IsS105.set_2 | refine IsS105.far ?_ NB0_312.out _ | refine IsS105.far ?_ NB0_322.out _) | exact HI0.out)) (by (with_reducible repeat (first | apply Kd.S_alloc | apply Kd.S_drewN | apply Kd.S_drew)); exact HO319.out) (by decide)) hk) (Kd.R_base ho0)) (fun _ h_ => h_.1))
    have n2_ := Aside0.mk (KeepBut.blk hk (g' := gb322) (o := .cells #[.int .i64 t316, .slice Ao34 t317.length co34] 32 (0, 0)) (mb BK322) NB322_0.out (by simp))
    have n3_ := Aside0.mk (Kd.R_lower ho0 (keep_size (w := w) (g := g) (row := none) (by repeat (first | (with_reducible first | exact HK.out | apply KeepBut.set_ | apply keep_drewN | apply keep_drew | apply keep_alloc | refine keep_far ?_ GW312.out _ | refine keep_far ?_ GW322.out _) | exact HK.out))))
    have n4_ := Aside0.mk (KeepBut.trans (by repeat (first | (with_reducible first | exact HK.out | apply KeepBut.set_ | apply keep_drewN | apply keep_drew | apply keep_alloc | refine keep_far ?_ GW312.out _ | refine keep_far ?_ GW322.out _) | exact HK.out)) hk (.inl rfl))
    have n5_ := Aside0.mk (hb)
    have n6_ := Aside0.mk (hi)
    clear BK312
    clear HO319
    clear BK322
    clear HK
    clear HB
    clear HI0
    have BK312 := n0_
    have HO319 := n1_
    have BK322 := n2_
    have HO335 := n3_
    have HK := n4_
    have HB := n5_
    have HI0 := n6_
    clear n0_ n1_ n2_ n3_ n4_ n5_ n6_
    (try clear hb)
    (try clear hb2)
    (try clear hk)
    (try clear hi)
    (try clear ho0)
    obtain ⟨Ao39, co39, eo39⟩ := Kd.R_slice HO335.out
    (first | subst eo39 | (injection eo39 with f1_ f2_ f3_; have f4_ := f1_.symm; have f5_ := f3_.symm; clear f1_ f2_ f3_; subst f4_; subst f5_))
    refine hK.out _ _ ⟨(c2 BK322).1, (c2 BK322).2⟩ (fun hHeld => ?_)
    clear hK K
    refine norm_ (a' := ?_) ?_ ?_
    rotate_left
    ·show Act.put _ (some 25) _ = _
     simp only [Act.put, List.setIfInBounds_toArray, List.set_cons_zero, List.set_cons_succ, i64_w, i32_w]
     rfl
    refine one_ (i := 4) (N := some 26) #[true, true, true, true, true, false, false, false] rfl rfl (one_of HT_.out (by kernel_rfl)) (by decide) (fun K hK => ?_)
    refine value_ (w1 := ?_) (v := ?_) (by rfl) rfl ?_ ?_
    rotate_left 2
    ·go_simp
     constructor
     ·rfl
     ·rfl
    refine hK.out _ _ ⟨(blk_cell (blk_alloc BK322.out _) 0).trans rfl, (blk_cell (blk_alloc BK322.out _) 1).trans rfl⟩ (fun hHeld => ?_)
    clear hK K
    refine norm_ (a' := ?_) ?_ ?_
    rotate_left
    ·show Act.put _ (some 26) _ = _
     simp only [Act.put, List.setIfInBounds_toArray, List.set_cons_zero, List.set_cons_succ, i64_w, i32_w]
     rfl
    refine one_ (i := 5) (N := some 27) #[true, true, true, true, true, true, false, false] rfl rfl (one_of HT_.out (by kernel_rfl)) (by decide) (fun K hK => ?_)
    refine Kd.S_append_step k36 w.heap.size (by rfl) (.tmp 23) (.tmp 26) 30 36 (.agg #[(.int .i64 0), (.slice none 0 0)]) 32 rfl Try.underlying30 info36 rfl (by decide) (by omega) (.slice Ao34 t317.length co34) t317 (⟨t332, t333⟩ : S36) [.int .i64 t332, .slice Ao39 t333.length co39] (fun _ => True) (fun k_ => some k_ = (.slice Ao39 t333.length co39 : Value).ownBlock) rfl rfl ?aP (fun k_ hk_ => ((Kd.R_mono (ok' := fun k_ => ((fun _ => True)) k_ ∧ some k_ ≠ (.slice Ao34 t317.length co34 : Value).ownBlock) (Kd.R_apart' (HO335.out) (Kd.S_typed HO319.out) (by decide)) (fun k_ hk => ⟨trivial, hk.2⟩))).1 k_ hk_.symm) ?aF ?aO (Below.refl _ _) ?aS ?aL ?_
    (case aP => exact k36_mkM _ _ _ (⟨t332, t333⟩ : S36) (Kd.R_mono (Kd.R_tight rfl (Kd.R_mono (ok' := fun k_ => ((fun _ => True)) k_ ∧ some k_ ≠ (.slice Ao34 t317.length co34 : Value).ownBlock) (Kd.R_apart' (HO335.out) (Kd.S_typed HO319.out) (by decide)) (fun k_ hk => ⟨trivial, hk.2⟩))) (fun _ h_ => h_)))
    (case aF => exact (fun _ _ => trivial))
    (case aO => exact (by (with_reducible repeat (first | apply Kd.S_alloc | apply Kd.S_drewN | apply Kd.S_drew)); exact Kd.S_mono HO319.out (fun k_ hk => ⟨trivial, fun e_ => hk.2 e_⟩)))
    (case aS => exact (keep_size (w := w) (g := g) (row := none) (by repeat (first | (with_reducible first | exact HK.out | apply KeepBut.set_ | apply keep_drewN | apply keep_drew | apply keep_alloc | refine keep_far ?_ GW312.out _ | refine keep_far ?_ GW322.out _) | exact HK.out))))
    (case aL => have := LMc26.out; omega)
    intro v339 w38 ho hb hg hat
    rw [← Ny338.out] at ho
    replace BK312 := Aside0.mk (blk_grown (g := gb312) (o := .cells #[.int .i64 0, .slice none 0 0] 32 (0, 0)) (mb BK312) hg (Kd.S_ne HO319.out BK312.out (by decide)))
    replace BK322 := Aside0.mk (blk_grown (g := gb322) (o := .cells #[.int .i64 t316, .slice Ao34 t317.length co34] 32 (0, 0)) (mb BK322) hg (Kd.S_ne HO319.out BK322.out (by decide)))
    replace HB := Aside0.mk (below_weaken (by repeat (first | (with_reducible first | exact HB.out | apply below_alloc | apply pw_below_drewN | apply below_drew1 | refine below_set ?_ (IsS105.ge HI0.out) | refine below_set ?_ GE312.out | refine below_set ?_ GE322.out) | exact HB.out)) HL.out hb)
    replace HI0 := Aside0.mk (IsS105.grown (by repeat (first | (with_reducible first | exact HI0.out | apply IsS105.alloc | apply IsS105.drewN | apply IsS105.drew | apply IsS105.set_1 | apply IsS105.set_2 | refine IsS105.far ?_ NB0_312.out _ | refine IsS105.far ?_ NB0_322.out _) | exact HI0.out)) hg (IsS105.own_neS HI0.out HO319.out (by decide)))
    replace HK := Aside0.mk (KeepBut.trans (by repeat (first | (with_reducible first | exact HK.out | apply KeepBut.set_ | apply keep_drewN | apply keep_drew | apply keep_alloc | refine keep_far ?_ GW312.out _ | refine keep_far ?_ GW322.out _) | exact HK.out)) (KeepBut.of_grown hg g) (Kd.S_base2 HO319.out))
    have HO340 := Aside0.mk (ho)
    clear HO319
    clear HO335
    clear ho hb hg hat
    obtain ⟨Ao40, co40, eo40⟩ := Kd.S_slice HO340.out
    (first | subst eo40 | (injection eo40 with f1_ f2_ f3_; have f4_ := f1_.symm; have f5_ := f3_.symm; clear f1_ f2_ f3_; subst f4_; subst f5_))
    refine hK.out _ _ ⟨(c2 BK322).1, (c2 BK322).2⟩ (fun hHeld => ?_)
    clear hK K
    refine norm_ (a' := ?_) ?_ ?_
    rotate_left
    ·show Act.put _ (some 27) _ = _
     simp only [Act.put, List.setIfInBounds_toArray, List.set_cons_zero, List.set_cons_succ, i64_w, i32_w]
     rfl
    refine pure_ (i := 6) (N := some 28) (v := ?_) (a' := ?_) #[true, true, true, true, true, true, true, false] rfl rfl (any_of HT_.out (by kernel_rfl)) (fun _ _ _ h => h) (Or.inl ⟨by rfl, ?_⟩) ?_ ?_
    rotate_left
    ·intro w'
     go_simp
     with_reducible rfl
    rotate_left
    ·simp only [Act.put, List.setIfInBounds_toArray, List.set_cons_zero, List.set_cons_succ, i64_w, i32_w]
     rfl
    refine last_ (i := 7) (N := none) #[true, true, true, true, true, true, true, true] rfl rfl (one_of HT_.out (by kernel_rfl)) (by decide) (fun K hK => ?_)
    have hs41 : w38.cell? ⟨gb322, 1, none⟩ = some (.slice Ao34 t317.length co34) := (blk_cell BK322.out 1).trans rfl
    have hfs41 := blk_frozen BK322.out 1
    have hns41_0 := NB312_322.out
    have hms41_0 := NB322_312.out
    refine skip_ (w1 := ?_) (by rfl) rfl ?_ ?_
    rotate_left
    ·go_simp
     rfl
    refine hK.out _ _ ?_
    clear hK K
    refine done_ (done_of HT_.out (by kernel_rfl)) ?_
    obtain ⟨hcz42_0, hcz42_1⟩ := c2 BK322
    have hfz42_0 := blk_frozen BK322.out 0
    have hfz42_1 := blk_frozen BK322.out 1
    have hnb43 := NB312_0.out
    have hnc43 := NB0_312.out
    obtain ⟨hcz44_0, hcz44_1⟩ := c2 BK312
    have hfz44_0 := blk_frozen BK312.out 0
    have hfz44_1 := blk_frozen BK312.out 1
    try go_wp2
    refine bodyPost_ret (results_cell_row rfl _ _ gb312 32 #[.int .i64 t316, .slice Ao40 y338.length co40] (0, 0) _ rfl (by (with_reducible repeat (first | refine blk_drewN ?_ _ | refine blk_drew ?_ | refine blk_alloc ?_ _)); refine blk_put (cs := #[.int .i64 t316, .slice none 0 0]) ?_ 1 _ rfl; (with_reducible repeat (first | refine blk_drewN ?_ _ | refine blk_drew ?_ | refine blk_alloc ?_ _)); refine blk_put (cs := #[.int .i64 0, .slice none 0 0]) ?_ 0 _ rfl; (with_reducible repeat (first | refine blk_drewN ?_ _ | refine blk_drew ?_ | refine blk_alloc ?_ _)); refine blk_far ?_ NB312_322.out _; (with_reducible repeat (first | refine blk_drewN ?_ _ | refine blk_drew ?_ | refine blk_alloc ?_ _)); exact BK312.out) Try.underlying32 rfl (by kernel_rfl)) rfl ?_
    exact ⟨_, by first | rfl | (simp [errW_none, errW_some] <;> rfl) | (simp [*, errW_none, errW_some] <;> rfl), by (with_reducible repeat (first | apply Kd.S_alloc | apply Kd.S_drewN | apply Kd.S_drew)); exact Kd.S_mono (Kd.S_far (p := ⟨gb312, 1, none⟩) (Kd.S_far (p := ⟨gb312, 0, none⟩) (Kd.S_far (p := ⟨gb322, 1, none⟩) (Kd.S_types (Kd.S_types HO340.out BK322.out (by decide)) BK312.out (by decide)) (fun _ hk => hk.1.2) (.slice Ao40 y338.length co40)) (fun _ hk => hk.2) (.int .i64 t316)) (fun _ hk => hk.2) (.slice Ao40 y338.length co40)) (fun _ hk => trivial), by repeat (first | (with_reducible first | exact HI0.out | apply IsS105.alloc | apply IsS105.drewN | apply IsS105.drew | apply IsS105.set_1 | apply IsS105.set_2 | refine IsS105.far ?_ NB0_312.out _ | refine IsS105.far ?_ NB0_322.out _) | exact HI0.out), by repeat (first | (with_reducible first | exact HB.out | apply below_alloc | apply pw_below_drewN | apply below_drew1 | refine below_set ?_ (IsS105.ge HI0.out) | refine below_set ?_ GE312.out | refine below_set ?_ GE322.out) | exact HB.out), by repeat (first | (with_reducible first | exact HK.out | apply KeepBut.set_ | apply keep_drewN | apply keep_drew | apply keep_alloc | refine keep_far ?_ GW312.out _ | refine keep_far ?_ GW322.out _) | exact HK.out)⟩
   ·rw [if_neg c26] at H
    exact absurd H (by simp)
  ·rw [if_neg c24] at H
   have c24b0 : (t323 == 1) = false := beq_eq_false_iff_ne.mpr c24
   have c24b1 : (t323 != 1) = true := bne_iff_ne.mpr c24
   by_cases c45 : t323 = 2
   ·rw [if_pos c45] at H
    have c45b0 : (t323 == 2) = true := beq_iff_eq.mpr c45
    have c45b1 : (t323 != 2) = false := bne_eq_false_iff_eq.mpr c45
    clear c45
    have H' := Aside0.mk H
    clear H
    go_enter Try.func78, Try.ntmps78
    go_wp2_with (first | ((with_reducible refine gate_dst (N := 2) rfl ?_); refine box_event ?hg (N := 2) ?hd (cs := #[.int .i64 0, .slice none 0 0]) (t := 32) ?hr ?_; (case hd => rfl); (case hg => rfl); (case hr => first | (go_simp; done) | (go_simp; rfl)); intro gb312 hg w46 hbox hb; have n0_ := Aside0.mk (IsS105.below (by repeat (first | (with_reducible first | exact HI0.out | apply IsS105.alloc | apply IsS105.drewN | apply IsS105.drew | apply IsS105.set_1 | apply IsS105.set_2) | exact HI0.out)) hb); have n1_ := Aside0.mk (KeepBut.trans (by repeat (first | (with_reducible first | exact HK.out | apply KeepBut.set_ | apply keep_drewN | apply keep_drew | apply keep_alloc) | exact HK.out)) (KeepBut.of_below hb g none) (.inl rfl)); have n2_ := Aside0.mk (below_step (by repeat (first | (with_reducible first | exact HB.out | apply below_alloc | apply pw_below_drewN | apply below_drew1 | refine below_set ?_ (IsS105.ge HI0.out)) | exact HB.out)) hb); have n3_ := Aside0.mk (hbox); have n4_ := Aside0.mk ((by rw [hg]; exact (keep_size (w := w) (g := g) (row := none) (by repeat (first | (with_reducible first | exact HK.out | apply KeepBut.set_ | apply keep_drewN | apply keep_drew | apply keep_alloc) | exact HK.out))) : w.heap.size ≤ gb312)); have n5_ := Aside0.mk ((Nat.le_trans HW0.out (by rw [hg]; exact (keep_size (w := w) (g := g) (row := none) (by repeat (first | (with_reducible first | exact HK.out | apply KeepBut.set_ | apply keep_drewN | apply keep_drew | apply keep_alloc) | exact HK.out))) : w.heap.size ≤ gb312) : w0.heap.size ≤ gb312)); have n6_ := Aside0.mk ((by rw [hg]; exact Nat.ne_of_lt (IsS105.lt (show IsS105 w0 _ g s0_0 s0_1 s0_2 from by repeat (first | (with_reducible first | exact HI0.out | apply IsS105.alloc | apply IsS105.drewN | apply IsS105.drew | apply IsS105.set_1 | apply IsS105.set_2) | exact HI0.out))) : g ≠ gb312)); have n7_ := Aside0.mk ((by rw [hg]; exact Nat.ne_of_gt (IsS105.lt (show IsS105 w0 _ g s0_0 s0_1 s0_2 from by repeat (first | (with_reducible first | exact HI0.out | apply IsS105.alloc | apply IsS105.drewN | apply IsS105.drew | apply IsS105.set_1 | apply IsS105.set_2) | exact HI0.out))) : gb312 ≠ g)); clear HI0 HK HB; have HI0 := n0_; have HK := n1_; have HB := n2_; have BK312 := n3_; have GW312 := n4_; have GE312 := n5_; have NB0_312 := n6_; have NB312_0 := n7_; clear n0_ n1_ n2_ n3_ n4_ n5_ n6_ n7_; clear hb hbox hg) | ((with_reducible refine gate_callee (f := 94) rfl ?_); refine goesL_ (some 7) rfl rfl Try.func94 (by kernel_rfl) rfl #[.pointer (some ⟨g, 0, none⟩), .int .i64 4] rfl (by (try simp only [List.map_toArray, List.map_cons, List.map_nil]); first | done | rfl | (simp only [List.length_drop, List.length_take]; rfl)) ?_; (with_reducible refine (spec_l1Below.calls g s0_0 s0_1 s0_2 4 t313 t314 t315 w0 _ ?side1 ?side2 A2.out).mono ?_); (case side1 => repeat (first | (with_reducible first | exact HI0.out | apply IsS105.alloc | apply IsS105.drewN | apply IsS105.drew | apply IsS105.set_1 | apply IsS105.set_2 | refine IsS105.far ?_ NB0_312.out _) | exact HI0.out)); (case side2 => repeat (first | (with_reducible first | exact HB.out | apply below_alloc | apply pw_below_drewN | apply below_drew1 | refine below_set ?_ (IsS105.ge HI0.out) | refine below_set ?_ GE312.out) | exact HB.out)); rintro e w47 ⟨rfl, hi, hb, hk⟩; refine ⟨_, rfl, ?_⟩; replace BK312 := Aside0.mk (KeepBut.blk hk (g' := gb312) (o := .cells #[.int .i64 0, .slice none 0 0] 32 (0, 0)) (mb BK312) NB312_0.out (by simp)); replace HK := Aside0.mk (KeepBut.trans (by repeat (first | (with_reducible first | exact HK.out | apply KeepBut.set_ | apply keep_drewN | apply keep_drew | apply keep_alloc | refine keep_far ?_ GW312.out _) | exact HK.out)) hk (.inl rfl)); replace HB := Aside0.mk (hb); replace HI0 := Aside0.mk (hi); (try clear hb)) | ((with_reducible refine gate_callee (f := 109) rfl ?_); refine goesL_ (some 8) rfl rfl Try.func109 (by kernel_rfl) rfl #[.pointer (some ⟨g, 0, none⟩), .int .i64 t313] rfl (by (try simp only [List.map_toArray, List.map_cons, List.map_nil]); first | done | rfl | (simp only [List.length_drop, List.length_take]; rfl)) ?_; (with_reducible refine (spec_l6Draw.calls k g s0_0 t314 t315 t313 t316 t317 t320 t321 w0 _ ?side1 ?side2 A3.out).mono ?_); (case side1 => repeat (first | (with_reducible first | exact HI0.out | apply IsS105.alloc | apply IsS105.drewN | apply IsS105.drew | apply IsS105.set_1 | apply IsS105.set_2 | refine IsS105.far ?_ NB0_312.out _) | exact HI0.out)); (case side2 => repeat (first | (with_reducible first | exact HB.out | apply below_alloc | apply pw_below_drewN | apply below_drew1 | refine below_set ?_ (IsS105.ge HI0.out) | refine below_set ?_ GE312.out) | exact HB.out)); rintro e w48 ⟨v318, rfl, ho0, hi, hb, hk⟩; refine ⟨_, rfl, ?_⟩; replace BK312 := Aside0.mk (KeepBut.blk hk (g' := gb312) (o := .cells #[.int .i64 0, .slice none 0 0] 32 (0, 0)) (mb BK312) NB312_0.out (by simp)); have HO319 := Aside0.mk (Kd.S_lower ho0 (keep_size (w := w) (g := g) (row := none) (by repeat (first | (with_reducible first | exact HK.out | apply KeepBut.set_ | apply keep_drewN | apply keep_drew | apply keep_alloc | refine keep_far ?_ GW312.out _) | exact HK.out)))); replace HK := Aside0.mk (KeepBut.trans (by repeat (first | (with_reducible first | exact HK.out | apply KeepBut.set_ | apply keep_drewN | apply keep_drew | apply keep_alloc | refine keep_far ?_ GW312.out _) | exact HK.out)) hk (.inl rfl)); replace HB := Aside0.mk (hb); replace HI0 := Aside0.mk (hi); (try clear hb); (try clear ho0)) | ((with_reducible refine gate_dst (N := 3) rfl ?_); refine box_event ?hg (N := 3) ?hd (cs := #[.int .i64 0, .slice none 0 0]) (t := 32) ?hr ?_; (case hd => rfl); (case hg => rfl); (case hr => first | (go_simp; done) | (go_simp; rfl)); intro gb322 hg w49 hbox hb; have n0_ := Aside0.mk (Kd.S_below (by (with_reducible repeat (first | apply Kd.S_alloc | apply Kd.S_drewN | apply Kd.S_drew)); exact HO319.out) hb); have n1_ := Aside0.mk (IsS105.below (by repeat (first | (with_reducible first | exact HI0.out | apply IsS105.alloc | apply IsS105.drewN | apply IsS105.drew | apply IsS105.set_1 | apply IsS105.set_2 | refine IsS105.far ?_ NB0_312.out _) | exact HI0.out)) hb); have n2_ := bb BK312 hb; have n3_ := Aside0.mk (KeepBut.trans (by repeat (first | (with_reducible first | exact HK.out | apply KeepBut.set_ | apply keep_drewN | apply keep_drew | apply keep_alloc | refine keep_far ?_ GW312.out _) | exact HK.out)) (KeepBut.of_below hb g none) (.inl rfl)); have n4_ := Aside0.mk (below_step (by repeat (first | (with_reducible first | exact HB.out | apply below_alloc | apply pw_below_drewN | apply below_drew1 | refine below_set ?_ (IsS105.ge HI0.out) | refine below_set ?_ GE312.out) | exact HB.out)) hb); have n5_ := Aside0.mk (hbox); have n6_ := Aside0.mk ((by rw [hg]; exact (keep_size (w := w) (g := g) (row := none) (by repeat (first | (with_reducible first | exact HK.out | apply KeepBut.set_ | apply keep_drewN | apply keep_drew | apply keep_alloc | refine keep_far ?_ GW312.out _) | exact HK.out))) : w.heap.size ≤ gb322)); have n7_ := Aside0.mk ((Nat.le_trans HW0.out (by rw [hg]; exact (keep_size (w := w) (g := g) (row := none) (by repeat (first | (with_reducible first | exact HK.out | apply KeepBut.set_ | apply keep_drewN | apply keep_drew | apply keep_alloc | refine keep_far ?_ GW312.out _) | exact HK.out))) : w.heap.size ≤ gb322) : w0.heap.size ≤ gb322)); have n8_ := nl hg BK312; have n9_ := ng hg BK312; have n10_ := Aside0.mk ((by rw [hg]; exact Nat.ne_of_lt (IsS105.lt (show IsS105 w0 _ g s0_0 t320 t321 from by repeat (first | (with_reducible first | exact HI0.out | apply IsS105.alloc | apply IsS105.drewN | apply IsS105.drew | apply IsS105.set_1 | apply IsS105.set_2 | refine IsS105.far ?_ NB0_312.out _) | exact HI0.out))) : g ≠ gb322)); have n11_ := Aside0.mk ((by rw [hg]; exact Nat.ne_of_gt (IsS105.lt (show IsS105 w0 _ g s0_0 t320 t321 from by repeat (first | (with_reducible first | exact HI0.out | apply IsS105.alloc | apply IsS105.drewN | apply IsS105.drew | apply IsS105.set_1 | apply IsS105.set_2 | refine IsS105.far ?_ NB0_312.out _) | exact HI0.out))) : gb322 ≠ g)); clear HO319 HI0 BK312 HK HB; have HO319 := n0_; have HI0 := n1_; have BK312 := n2_; have HK := n3_; have HB := n4_; have BK322 := n5_; have GW322 := n6_; have GE322 := n7_; have NB312_322 := n8_; have NB322_312 := n9_; have NB0_322 := n10_; have NB322_0 := n11_; clear n0_ n1_ n2_ n3_ n4_ n5_ n6_ n7_ n8_ n9_ n10_ n11_; clear hb hbox hg; have hnb50 := NB322_312.out; have hnc50 := NB312_322.out; have hnb51 := NB322_0.out; have hnc51 := NB0_322.out; obtain ⟨hcz52_0, hcz52_1⟩ := c2 BK322; have hfz52_0 := blk_frozen BK322.out 0; have hfz52_1 := blk_frozen BK322.out 1; obtain ⟨Ao53, co53, eo53⟩ := Kd.S_slice HO319.out; subst eo53) | ((with_reducible refine gate_callee (f := 94) rfl ?_); refine goesL_ (some 10) rfl rfl Try.func94 (by kernel_rfl) rfl #[.pointer (some ⟨g, 0, none⟩), .int .i64 16] rfl (by (try simp only [List.map_toArray, List.map_cons, List.map_nil]); first | done | rfl | (simp only [List.length_drop, List.length_take]; rfl)) ?_; (with_reducible refine (spec_l1Below.calls g s0_0 t320 t321 16 t323 t324 t325 w0 _ ?side1 ?side2 A4.out).mono ?_); (case side1 => repeat (first | (with_reducible first | exact HI0.out | apply IsS105.alloc | apply IsS105.drewN | apply IsS105.drew | apply IsS105.set_1 | apply IsS105.set_2 | refine IsS105.far ?_ NB0_312.out _ | refine IsS105.far ?_ NB0_322.out _) | exact HI0.out)); (case side2 => repeat (first | (with_reducible first | exact HB.out | apply below_alloc | apply pw_below_drewN | apply below_drew1 | refine below_set ?_ (IsS105.ge HI0.out) | refine below_set ?_ GE312.out | refine below_set ?_ GE322.out) | exact HB.out)); rintro e w54 ⟨rfl, hi, hb, hk⟩; refine ⟨_, rfl, ?_⟩; have n0_ := Aside0.mk (KeepBut.blk hk (g' := gb312) (o := .cells #[.int .i64 0, .slice none 0 0] 32 (0, 0)) (mf BK312) NB312_0.out (by simp)); have n1_ := Aside0.mk (Kd.S_mono (Kd.S_keep (IsS105.apartS (show IsS105 w0 _ g s0_0 t320 t321 from by repeat (first | (with_reducible first | exact HI0.out | apply IsS105.alloc | apply IsS105.drewN | apply IsS105.drew | apply IsS105.set_1 | apply IsS105.set_2 | refine IsS105.far ?_ NB0_312.out _ | refine IsS105.far ?_ NB0_322.out _) | exact HI0.out)) (by (with_reducible repeat (first | apply Kd.S_alloc | apply Kd.S_drewN | apply Kd.S_drew)); exact (Kd.S_mono (Kd.S_far (p := ⟨gb322, 1, none⟩) (Kd.S_far (p := ⟨gb322, 0, none⟩) (Kd.S_types HO319.out BK322.out (by decide)) (fun _ hk => hk.2) (.int .i64 t316)) (fun _ hk => hk.2) (.slice Ao53 t317.length co53)) (fun _ h_ => h_.1))) (by decide)) hk (fun _ h => h.2)) (fun _ h => h.1)); have n2_ := Aside0.mk (KeepBut.blk hk (g' := gb322) (o := .cells #[.int .i64 t316, .slice Ao53 t317.length co53] 32 (0, 0)) (by (with_reducible repeat (first | refine blk_drewN ?_ _ | refine blk_drew ?_ | refine blk_alloc ?_ _)); refine blk_put (cs := #[.int .i64 t316, .slice none 0 0]) ?_ 1 _ rfl; (with_reducible repeat (first | refine blk_drewN ?_ _ | refine blk_drew ?_ | refine blk_alloc ?_ _)); refine blk_put (cs := #[.int .i64 0, .slice none 0 0]) ?_ 0 _ rfl; (with_reducible repeat (first | refine blk_drewN ?_ _ | refine blk_drew ?_ | refine blk_alloc ?_ _)); exact BK322.out) NB322_0.out (by simp)); have n3_ := Aside0.mk (KeepBut.trans (by repeat (first | (with_reducible first | exact HK.out | apply KeepBut.set_ | apply keep_drewN | apply keep_drew | apply keep_alloc | refine keep_far ?_ GW312.out _ | refine keep_far ?_ GW322.out _) | exact HK.out)) hk (.inl rfl)); have n4_ := Aside0.mk (hb); have n5_ := Aside0.mk (hi); clear BK312 HO319 BK322 HK HB HI0; have BK312 := n0_; have HO319 := n1_; have BK322 := n2_; have HK := n3_; have HB := n4_; have HI0 := n5_; clear n0_ n1_ n2_ n3_ n4_ n5_; (try clear hb)))
    go_loopg [4] k (fun kq v4 w' => ∃ (x4_1 : Int) (x323001_1 : List (S36)) (u323001 : Value), v4 = .int .i64 x4_1 ∧ Aside0 (spec_l6Bent.l0 kq x4_1 s0_0 t324 t325 t316 x323001_1 = some (r1, r2, r3, r4)) ∧ Aside0 (kq ≤ k) ∧ Aside0 (Kd.S k36 36 w' w.heap.size (fun _ => True) u323001 x323001_1) ∧ Aside0 (w'.heap[gb312]? = some (.cells #[.int .i64 0, (.slice none 0 0)] 32 (0, 0))) ∧ Aside0 (w'.heap[gb322]? = some (.cells #[.int .i64 t316, u323001] 32 (0, 0))) ∧ Aside0 (IsS105 w0 w' g s0_0 t324 t325) ∧ Aside0 (KeepBut w w' g none) ∧ Aside0 (Below w0.heap.size w0 w'))
    case atStart => exact ⟨(0), (t317), (.slice Ao53 t317.length co53), (by first | rfl | (simp; done) | (simp [*]; done)), H', ⟨Nat.le_refl _⟩, ⟨by (with_reducible repeat (first | apply Kd.S_alloc | apply Kd.S_drewN | apply Kd.S_drew)); exact HO319.out⟩, ⟨by (with_reducible repeat (first | refine blk_drewN ?_ _ | refine blk_drew ?_ | refine blk_alloc ?_ _)); exact BK312.out⟩, ⟨by (with_reducible repeat (first | refine blk_drewN ?_ _ | refine blk_drew ?_ | refine blk_alloc ?_ _)); exact BK322.out⟩, ⟨by repeat (first | (with_reducible first | exact HI0.out | apply IsS105.alloc | apply IsS105.drewN | apply IsS105.drew | apply IsS105.set_1 | apply IsS105.set_2 | refine IsS105.far ?_ NB0_312.out _ | refine IsS105.far ?_ NB0_322.out _) | exact HI0.out)⟩, ⟨by repeat (first | (with_reducible first | exact HK.out | apply KeepBut.set_ | apply keep_drewN | apply keep_drew | apply keep_alloc | refine keep_far ?_ GW312.out _ | refine keep_far ?_ GW322.out _) | exact HK.out)⟩, ⟨by repeat (first | (with_reducible first | exact HB.out | apply below_alloc | apply pw_below_drewN | apply below_drew1 | refine below_set ?_ (IsS105.ge HI0.out) | refine below_set ?_ GE312.out | refine below_set ?_ GE322.out) | exact HB.out)⟩⟩
    case round =>
     clear H'
     try clear c1
     try clear c2
     try clear p2
     try clear c3
     try clear c4
     try clear c5
     try clear c5b0
     try clear c5b1
     try clear p6
     try clear c7
     try clear c8
     try clear c9
     try clear c10
     try clear c11
     try clear c12
     try clear c22
     try clear c24
     try clear c24b0
     try clear c24b1
     try clear c26
     try clear c31
     try clear c32
     try clear c43
     try clear c45
     try clear c45b0
     try clear c45b1
     try clear c50
     try clear c51
     try clear hcz13_0
     try clear hcz13_1
     try clear hcz16_0
     try clear hcz16_1
     try clear hcz21_0
     try clear hcz21_1
     try clear hcz23_0
     try clear hcz23_1
     try clear hcz33_0
     try clear hcz33_1
     try clear hcz42_0
     try clear hcz42_1
     try clear hcz44_0
     try clear hcz44_1
     try clear hcz52_0
     try clear hcz52_1
     try clear hfz13_0
     try clear hfz13_1
     try clear hfz16_0
     try clear hfz16_1
     try clear hfz21_0
     try clear hfz21_1
     try clear hfz23_0
     try clear hfz23_1
     try clear hfz33_0
     try clear hfz33_1
     try clear hfz42_0
     try clear hfz42_1
     try clear hfz44_0
     try clear hfz44_1
     try clear hfz52_0
     try clear hfz52_1
     obtain ⟨x4_1, x323001_1, u323001, rfl, HA, HK1, HO_323001, BK312, BK322, HI0, HK, HB⟩ := hrel
     cases gk with
     | zero => exact absurd HA.out (by simp [spec_l6Bent.l0])
     | succ k1 =>
      have H := HA.out
      clear HA
      simp only [spec_l6Bent.l0] at H
      by_cases c55 : x4_1 < 20
      ·rw [if_pos c55] at H
       have c55b0 : decide (x4_1 < 20) = true := decide_eq_true c55
       clear c55
       replace H := Option.bind_eq_some_iff.mp H
       obtain ⟨⟨t341, t342⟩, A560, H⟩ := H
       replace H : (if x323001_1.length < 4398046511104 then (spec_l6Bent.l0 k1 (wrap64 (x4_1 + 1)) s0_0 t324 t325 t316 (x323001_1 ++ [(⟨t341, t342⟩ : S36)])) else (none)) = some (r1, r2, r3, r4) := H
       have A56 := Aside0.mk A560
       clear A560
       by_cases c57 : x323001_1.length < 4398046511104
       ·rw [if_pos c57] at H
        have LMc57 := Aside0.mk c57
        clear c57
        obtain ⟨y345, hy345⟩ : ∃ y_ : List (S36), y_ = (x323001_1 ++ [(⟨t341, t342⟩ : S36)]) := ⟨_, rfl⟩
        replace H : (spec_l6Bent.l0 k1 (wrap64 (x4_1 + 1)) s0_0 t324 t325 t316 y345) = some (r1, r2, r3, r4) := by first | (rw [hy345]; with_reducible exact H) | (have H2_ := (Option.bind_some _ _).symm.trans H; rw [hy345]; with_reducible exact H2_) | (have H2_ := (Option.bind_some _ _).symm.trans H; with_reducible exact H2_) | with_reducible exact H | (rw [hy345]; exact H) | exact H
        have Ny345 := Aside0.mk hy345
        clear hy345
        have H' := Aside0.mk H
        clear H
        try go_wp2
        replace HO_323001 := Aside0.mk (Kd.S_drew HO_323001.out)
        replace BK312 := Aside0.mk (blk_drew BK312.out)
        replace BK322 := Aside0.mk (blk_drew BK322.out)
        replace HI0 := Aside0.mk (IsS105.drew HI0.out)
        replace HK := Aside0.mk (keep_drew HK.out)
        replace HB := Aside0.mk (below_drew1 HB.out)
        refine start_ (n := 9) (S := fun w' => w'.cell? ⟨gb322, 0, none⟩ = some (.int .i64 t316) ∧ w'.cell? ⟨gb322, 1, none⟩ = some (u323001)) (ds := [8]) #[false, false, false, false, false, false, false, false, false] (by kernel_rfl) rfl rfl ⟨(c2 BK322).1, (c2 BK322).2⟩ (fun hHeld => ?_); refine with_tabW spec_l6Bent.tab11 spec_l6Bent.bits11 (fun HT_ HW_ => ?_)
        generalize wr.drew = w58 at HO_323001 BK312 BK322 HI0 HK HB hHeld ⊢
        refine pure_ (i := 0) (N := some 35) (v := ?_) (a' := ?_) #[true, false, false, false, false, false, false, false, false] rfl rfl (any_of HT_.out (by kernel_rfl)) (fun _ _ _ h => h) (Or.inl ⟨by rfl, ?_⟩) ?_ ?_
        rotate_left
        ·intro w'
         go_simp
         with_reducible rfl
        rotate_left
        ·simp only [Act.put, List.setIfInBounds_toArray, List.set_cons_zero, List.set_cons_succ, i64_w, i32_w]
         rfl
        refine pure_ (i := 2) (N := some 37) (v := ?_) (a' := ?_) #[true, false, true, false, false, false, false, false, false] rfl rfl (any_of HT_.out (by kernel_rfl)) (fun _ _ _ h => h) (Or.inl ⟨by rfl, ?_⟩) ?_ ?_
        rotate_left
        ·intro w'
         go_simp
         with_reducible rfl
        rotate_left
        ·simp only [Act.put, List.setIfInBounds_toArray, List.set_cons_zero, List.set_cons_succ, i64_w, i32_w]
         rfl
        refine take_ (i := 1) (N := some 36) (v := ?_) (a' := ?_) #[true, true, true, false, false, false, false, false, false] rfl rfl (take_ofW HT_.out HW_.out (by kernel_rfl)) (fun _ _ _ h => h) (Or.inl ⟨by rfl, ?_⟩) hHeld ?_ ?_
        rotate_left
        ·rintro w' ⟨s0, s1⟩
         go_simp
         with_reducible rfl
        rotate_left
        ·simp only [Act.put, List.setIfInBounds_toArray, List.set_cons_zero, List.set_cons_succ, i64_w, i32_w]
         rfl
        refine take_ (i := 3) (N := some 38) (v := ?_) (a' := ?_) #[true, true, true, true, false, false, false, false, false] rfl rfl (take_ofW HT_.out HW_.out (by kernel_rfl)) (fun _ _ _ h => h) (Or.inl ⟨by rfl, ?_⟩) hHeld ?_ ?_
        rotate_left
        ·rintro w' ⟨s0, s1⟩
         go_simp
         with_reducible rfl
        rotate_left
        ·simp only [Act.put, List.setIfInBounds_toArray, List.set_cons_zero, List.set_cons_succ, i64_w, i32_w]
         rfl
        refine one_ (i := 4) (N := some 39) #[true, true, true, true, true, false, false, false, false] rfl rfl (one_of HT_.out (by kernel_rfl)) (by decide) (fun K hK => ?_)
        refine goes_ Try.func69 (by kernel_rfl) rfl #[.int .i64 1, .int .i64 t316] (by rfl) rfl rfl (by (try simp only [List.map_toArray, List.map_cons, List.map_nil]); first | done | rfl | (simp only [List.length_drop, List.length_take]; rfl)) ?_
        with_reducible refine (spec_ConstLin.calls 1 t316 t341 t342 _ A56.out).mono ?_
        rintro e w59 ⟨v343, rfl, ho0, hb⟩
        refine ⟨_, rfl, ?_⟩
        have n0_ := Aside0.mk (Kd.S_elder' (by (with_reducible repeat (first | apply Kd.S_alloc | apply Kd.S_drewN | apply Kd.S_drew)); exact HO_323001.out) (Kd.R_base ho0) hb)
        have n1_ := Aside0.mk (Kd.R_lower ho0 (keep_size (w := w) (g := g) (row := none) (by repeat (first | (with_reducible first | exact HK.out | apply KeepBut.set_ | apply keep_drewN | apply keep_drew | apply keep_alloc | refine keep_far ?_ GW312.out _ | refine keep_far ?_ GW322.out _) | exact HK.out))))
        have n2_ := bb BK312 hb
        have n3_ := bb BK322 hb
        have n4_ := Aside0.mk (IsS105.below (by repeat (first | (with_reducible first | exact HI0.out | apply IsS105.alloc | apply IsS105.drewN | apply IsS105.drew | apply IsS105.set_1 | apply IsS105.set_2 | refine IsS105.far ?_ NB0_312.out _ | refine IsS105.far ?_ NB0_322.out _) | exact HI0.out)) hb)
        have n5_ := Aside0.mk (KeepBut.trans (by repeat (first | (with_reducible first | exact HK.out | apply KeepBut.set_ | apply keep_drewN | apply keep_drew | apply keep_alloc | refine keep_far ?_ GW312.out _ | refine keep_far ?_ GW322.out _) | exact HK.out)) (KeepBut.of_below hb g none) (.inl rfl))
        have n6_ := Aside0.mk (below_step (by repeat (first | (with_reducible first | exact HB.out | apply below_alloc | apply pw_below_drewN | apply below_drew1 | refine below_set ?_ (IsS105.ge HI0.out) | refine below_set ?_ GE312.out | refine below_set ?_ GE322.out) | exact HB.out)) hb)
        clear HO_323001
        clear BK312
        clear BK322
        clear HI0
        clear HK
        clear HB
        have HO_323001 := n0_
        have HO344 := n1_
        have BK312 := n2_
        have BK322 := n3_
        have HI0 := n4_
        have HK := n5_
        have HB := n6_
        clear n0_ n1_ n2_ n3_ n4_ n5_ n6_
        (try clear hb)
        (try clear hb2)
        (try clear hk)
        (try clear hi)
        (try clear ho0)
        obtain ⟨Ao61, co61, eo61⟩ := Kd.R_slice HO344.out
        (first | subst eo61 | (injection eo61 with f1_ f2_ f3_; have f4_ := f1_.symm; have f5_ := f3_.symm; clear f1_ f2_ f3_; subst f4_; subst f5_))
        refine hK.out _ _ ⟨(c2 BK322).1, (c2 BK322).2⟩ (fun hHeld => ?_)
        clear hK K
        refine norm_ (a' := ?_) ?_ ?_
        rotate_left
        ·show Act.put _ (some 39) _ = _
         simp only [Act.put, List.setIfInBounds_toArray, List.set_cons_zero, List.set_cons_succ, i64_w, i32_w]
         rfl
        refine one_ (i := 5) (N := some 40) #[true, true, true, true, true, true, false, false, false] rfl rfl (one_of HT_.out (by kernel_rfl)) (by decide) (fun K hK => ?_)
        refine value_ (w1 := ?_) (v := ?_) (by rfl) rfl ?_ ?_
        rotate_left 2
        ·go_simp
         constructor
         ·rfl
         ·rfl
        refine hK.out _ _ ⟨(blk_cell (blk_alloc BK322.out _) 0).trans rfl, (blk_cell (blk_alloc BK322.out _) 1).trans rfl⟩ (fun hHeld => ?_)
        clear hK K
        refine norm_ (a' := ?_) ?_ ?_
        rotate_left
        ·show Act.put _ (some 40) _ = _
         simp only [Act.put, List.setIfInBounds_toArray, List.set_cons_zero, List.set_cons_succ, i64_w, i32_w]
         rfl
        refine one_ (i := 6) (N := some 41) #[true, true, true, true, true, true, true, false, false] rfl rfl (one_of HT_.out (by kernel_rfl)) (by decide) (fun K hK => ?_)
        refine Kd.S_append_step k36 w.heap.size (by rfl) (.tmp 36) (.tmp 40) 30 36 (.agg #[(.int .i64 0), (.slice none 0 0)]) 32 rfl Try.underlying30 info36 rfl (by decide) (by omega) u323001 x323001_1 (⟨t341, t342⟩ : S36) [.int .i64 t341, .slice Ao61 t342.length co61] (fun _ => True) (fun k_ => some k_ = (.slice Ao61 t342.length co61 : Value).ownBlock) rfl rfl ?aP (fun k_ hk_ => ((Kd.R_mono (ok' := fun k_ => ((fun _ => True)) k_ ∧ some k_ ≠ (u323001 : Value).ownBlock) (Kd.R_apart' (HO344.out) (Kd.S_typed HO_323001.out) (by decide)) (fun k_ hk => ⟨trivial, hk.2⟩))).1 k_ hk_.symm) ?aF ?aO (Below.refl _ _) ?aS ?aL ?_
        (case aP => exact k36_mkM _ _ _ (⟨t341, t342⟩ : S36) (Kd.R_mono (Kd.R_tight rfl (Kd.R_mono (ok' := fun k_ => ((fun _ => True)) k_ ∧ some k_ ≠ (u323001 : Value).ownBlock) (Kd.R_apart' (HO344.out) (Kd.S_typed HO_323001.out) (by decide)) (fun k_ hk => ⟨trivial, hk.2⟩))) (fun _ h_ => h_)))
        (case aF => exact (fun _ _ => trivial))
        (case aO => exact (by (with_reducible repeat (first | apply Kd.S_alloc | apply Kd.S_drewN | apply Kd.S_drew)); exact Kd.S_mono HO_323001.out (fun k_ hk => ⟨trivial, fun e_ => hk.2 e_⟩)))
        (case aS => exact (keep_size (w := w) (g := g) (row := none) (by repeat (first | (with_reducible first | exact HK.out | apply KeepBut.set_ | apply keep_drewN | apply keep_drew | apply keep_alloc | refine keep_far ?_ GW312.out _ | refine keep_far ?_ GW322.out _) | exact HK.out))))
        (case aL => have := LMc57.out; omega)
        intro v346 w60 ho hb hg hat
        rw [← Ny345.out] at ho
        replace BK312 := Aside0.mk (blk_grown (g := gb312) (o := .cells #[.int .i64 0, .slice none 0 0] 32 (0, 0)) (mb BK312) hg (Kd.S_ne HO_323001.out BK312.out (by decide)))
        replace BK322 := Aside0.mk (blk_grown (g := gb322) (o := .cells #[.int .i64 t316, u323001] 32 (0, 0)) (mb BK322) hg (Kd.S_ne HO_323001.out BK322.out (by decide)))
        replace HB := Aside0.mk (below_weaken (by repeat (first | (with_reducible first | exact HB.out | apply below_alloc | apply pw_below_drewN | apply below_drew1 | refine below_set ?_ (IsS105.ge HI0.out) | refine below_set ?_ GE312.out | refine below_set ?_ GE322.out) | exact HB.out)) HL.out hb)
        replace HI0 := Aside0.mk (IsS105.grown (by repeat (first | (with_reducible first | exact HI0.out | apply IsS105.alloc | apply IsS105.drewN | apply IsS105.drew | apply IsS105.set_1 | apply IsS105.set_2 | refine IsS105.far ?_ NB0_312.out _ | refine IsS105.far ?_ NB0_322.out _) | exact HI0.out)) hg (IsS105.own_neS HI0.out HO_323001.out (by decide)))
        replace HK := Aside0.mk (KeepBut.trans (by repeat (first | (with_reducible first | exact HK.out | apply KeepBut.set_ | apply keep_drewN | apply keep_drew | apply keep_alloc | refine keep_far ?_ GW312.out _ | refine keep_far ?_ GW322.out _) | exact HK.out)) (KeepBut.of_grown hg g) (Kd.S_base2 HO_323001.out))
        have HO347 := Aside0.mk (ho)
        clear HO_323001
        clear HO344
        clear ho hb hg hat
        obtain ⟨Ao62, co62, eo62⟩ := Kd.S_slice HO347.out
        (first | subst eo62 | (injection eo62 with f1_ f2_ f3_; have f4_ := f1_.symm; have f5_ := f3_.symm; clear f1_ f2_ f3_; subst f4_; subst f5_))
        refine hK.out _ _ ⟨(c2 BK322).1, (c2 BK322).2⟩ (fun hHeld => ?_)
        clear hK K
        refine norm_ (a' := ?_) ?_ ?_
        rotate_left
        ·show Act.put _ (some 41) _ = _
         simp only [Act.put, List.setIfInBounds_toArray, List.set_cons_zero, List.set_cons_succ, i64_w, i32_w]
         rfl
        refine pure_ (i := 7) (N := some 42) (v := ?_) (a' := ?_) #[true, true, true, true, true, true, true, true, false] rfl rfl (any_of HT_.out (by kernel_rfl)) (fun _ _ _ h => h) (Or.inl ⟨by rfl, ?_⟩) ?_ ?_
        rotate_left
        ·intro w'
         go_simp
         with_reducible rfl
        rotate_left
        ·simp only [Act.put, List.setIfInBounds_toArray, List.set_cons_zero, List.set_cons_succ, i64_w, i32_w]
         rfl
        refine last_ (i := 8) (N := none) #[true, true, true, true, true, true, true, true, true] rfl rfl (one_of HT_.out (by kernel_rfl)) (by decide) (fun K hK => ?_)
        have hs63 : w60.cell? ⟨gb322, 1, none⟩ = some (u323001) := (blk_cell BK322.out 1).trans rfl
        have hfs63 := blk_frozen BK322.out 1
        have hns63_0 := NB312_322.out
        have hms63_0 := NB322_312.out
        refine skip_ (w1 := ?_) (by rfl) rfl ?_ ?_
        rotate_left
        ·go_simp
         rfl
        refine hK.out _ _ ?_
        clear hK K
        refine done_ (done_of HT_.out (by kernel_rfl)) ?_
        try go_wp2
        go_roundg k1
        case measure => have := HK1.out; omega
        case rel => exact ⟨(wrap64 (x4_1 + 1)), (y345), (.slice Ao62 y345.length co62), (by first | rfl | (simp; done) | (simp [*]; done)), H', ⟨by have := HK1.out; omega⟩, ⟨by (with_reducible repeat (first | apply Kd.S_alloc | apply Kd.S_drewN | apply Kd.S_drew)); exact Kd.S_mono (Kd.S_far (p := ⟨gb322, 1, none⟩) (Kd.S_types HO347.out BK322.out (by decide)) (fun _ hk => hk.2) (.slice Ao62 y345.length co62)) (fun _ hk => trivial)⟩, ⟨by (with_reducible repeat (first | refine blk_drewN ?_ _ | refine blk_drew ?_ | refine blk_alloc ?_ _)); refine blk_far ?_ NB312_322.out _; (with_reducible repeat (first | refine blk_drewN ?_ _ | refine blk_drew ?_ | refine blk_alloc ?_ _)); exact BK312.out⟩, ⟨by (with_reducible repeat (first | refine blk_drewN ?_ _ | refine blk_drew ?_ | refine blk_alloc ?_ _)); refine blk_put (cs := #[.int .i64 t316, u323001]) ?_ 1 _ rfl; (with_reducible repeat (first | refine blk_drewN ?_ _ | refine blk_drew ?_ | refine blk_alloc ?_ _)); exact BK322.out⟩, ⟨by repeat (first | (with_reducible first | exact HI0.out | apply IsS105.alloc | apply IsS105.drewN | apply IsS105.drew | apply IsS105.set_1 | apply IsS105.set_2 | refine IsS105.far ?_ NB0_312.out _ | refine IsS105.far ?_ NB0_322.out _) | exact HI0.out)⟩, ⟨by repeat (first | (with_reducible first | exact HK.out | apply KeepBut.set_ | apply keep_drewN | apply keep_drew | apply keep_alloc | refine keep_far ?_ GW312.out _ | refine keep_far ?_ GW322.out _) | exact HK.out)⟩, ⟨by repeat (first | (with_reducible first | exact HB.out | apply below_alloc | apply pw_below_drewN | apply below_drew1 | refine below_set ?_ (IsS105.ge HI0.out) | refine below_set ?_ GE312.out | refine below_set ?_ GE322.out) | exact HB.out)⟩⟩
       ·rw [if_neg c57] at H
        exact absurd H (by simp)
      ·rw [if_neg c55] at H
       have c55b0 : decide (x4_1 < 20) = false := decide_eq_false c55
       clear c55
       simp only [Option.some.injEq, Prod.mk.injEq] at H
       obtain ⟨rfl, rfl, rfl, rfl⟩ := H
       have hnb64 := NB322_312.out
       have hnc64 := NB312_322.out
       have hnb65 := NB322_0.out
       have hnc65 := NB0_322.out
       obtain ⟨hcz66_0, hcz66_1⟩ := c2 BK322
       have hfz66_0 := blk_frozen BK322.out 0
       have hfz66_1 := blk_frozen BK322.out 1
       have hnb67 := NB312_0.out
       have hnc67 := NB0_312.out
       obtain ⟨hcz68_0, hcz68_1⟩ := c2 BK312
       have hfz68_0 := blk_frozen BK312.out 0
       have hfz68_1 := blk_frozen BK312.out 1
       obtain ⟨Ao69, co69, eo69⟩ := Kd.S_slice HO_323001.out
       subst eo69
       go_wp2
       refine bodyPost_ret (results_cell_row rfl _ _ gb312 32 #[.int .i64 t316, .slice Ao69 x323001_1.length co69] (0, 0) _ rfl (by (with_reducible repeat (first | refine blk_drewN ?_ _ | refine blk_drew ?_ | refine blk_alloc ?_ _)); refine blk_put (cs := #[.int .i64 t316, .slice none 0 0]) ?_ 1 _ rfl; (with_reducible repeat (first | refine blk_drewN ?_ _ | refine blk_drew ?_ | refine blk_alloc ?_ _)); refine blk_put (cs := #[.int .i64 0, .slice none 0 0]) ?_ 0 _ rfl; (with_reducible repeat (first | refine blk_drewN ?_ _ | refine blk_drew ?_ | refine blk_alloc ?_ _)); exact BK312.out) Try.underlying32 rfl (by kernel_rfl)) rfl ?_
       exact ⟨_, by first | rfl | (simp [errW_none, errW_some] <;> rfl) | (simp [*, errW_none, errW_some] <;> rfl), by (with_reducible repeat (first | apply Kd.S_alloc | apply Kd.S_drewN | apply Kd.S_drew)); exact Kd.S_mono (Kd.S_far (p := ⟨gb312, 1, none⟩) (Kd.S_far (p := ⟨gb312, 0, none⟩) (Kd.S_types HO_323001.out BK312.out (by decide)) (fun _ hk => hk.2) (.int .i64 t316)) (fun _ hk => hk.2) (.slice Ao69 x323001_1.length co69)) (fun _ hk => trivial), by repeat (first | (with_reducible first | exact HI0.out | apply IsS105.alloc | apply IsS105.drewN | apply IsS105.drew | apply IsS105.set_1 | apply IsS105.set_2 | refine IsS105.far ?_ NB0_312.out _ | refine IsS105.far ?_ NB0_322.out _) | exact HI0.out), by repeat (first | (with_reducible first | exact HB.out | apply below_alloc | apply pw_below_drewN | apply below_drew1 | refine below_set ?_ (IsS105.ge HI0.out) | refine below_set ?_ GE312.out | refine below_set ?_ GE322.out) | exact HB.out), by repeat (first | (with_reducible first | exact HK.out | apply KeepBut.set_ | apply keep_drewN | apply keep_drew | apply keep_alloc | refine keep_far ?_ GW312.out _ | refine keep_far ?_ GW322.out _) | exact HK.out)⟩
   ·rw [if_neg c45] at H
    have c45b0 : (t323 == 2) = false := beq_eq_false_iff_ne.mpr c45
    have c45b1 : (t323 != 2) = true := bne_iff_ne.mpr c45
    simp only [Option.some.injEq, Prod.mk.injEq] at H
    obtain ⟨rfl, rfl, rfl, rfl⟩ := H
    go_enter Try.func78, Try.ntmps78
    go_wp2_with (first | ((with_reducible refine gate_dst (N := 2) rfl ?_); refine box_event ?hg (N := 2) ?hd (cs := #[.int .i64 0, .slice none 0 0]) (t := 32) ?hr ?_; (case hd => rfl); (case hg => rfl); (case hr => first | (go_simp; done) | (go_simp; rfl)); intro gb312 hg w70 hbox hb; have n0_ := Aside0.mk (IsS105.below (by repeat (first | (with_reducible first | exact HI0.out | apply IsS105.alloc | apply IsS105.drewN | apply IsS105.drew | apply IsS105.set_1 | apply IsS105.set_2) | exact HI0.out)) hb); have n1_ := Aside0.mk (KeepBut.trans (by repeat (first | (with_reducible first | exact HK.out | apply KeepBut.set_ | apply keep_drewN | apply keep_drew | apply keep_alloc) | exact HK.out)) (KeepBut.of_below hb g none) (.inl rfl)); have n2_ := Aside0.mk (below_step (by repeat (first | (with_reducible first | exact HB.out | apply below_alloc | apply pw_below_drewN | apply below_drew1 | refine below_set ?_ (IsS105.ge HI0.out)) | exact HB.out)) hb); have n3_ := Aside0.mk (hbox); have n4_ := Aside0.mk ((by rw [hg]; exact (keep_size (w := w) (g := g) (row := none) (by repeat (first | (with_reducible first | exact HK.out | apply KeepBut.set_ | apply keep_drewN | apply keep_drew | apply keep_alloc) | exact HK.out))) : w.heap.size ≤ gb312)); have n5_ := Aside0.mk ((Nat.le_trans HW0.out (by rw [hg]; exact (keep_size (w := w) (g := g) (row := none) (by repeat (first | (with_reducible first | exact HK.out | apply KeepBut.set_ | apply keep_drewN | apply keep_drew | apply keep_alloc) | exact HK.out))) : w.heap.size ≤ gb312) : w0.heap.size ≤ gb312)); have n6_ := Aside0.mk ((by rw [hg]; exact Nat.ne_of_lt (IsS105.lt (show IsS105 w0 _ g s0_0 s0_1 s0_2 from by repeat (first | (with_reducible first | exact HI0.out | apply IsS105.alloc | apply IsS105.drewN | apply IsS105.drew | apply IsS105.set_1 | apply IsS105.set_2) | exact HI0.out))) : g ≠ gb312)); have n7_ := Aside0.mk ((by rw [hg]; exact Nat.ne_of_gt (IsS105.lt (show IsS105 w0 _ g s0_0 s0_1 s0_2 from by repeat (first | (with_reducible first | exact HI0.out | apply IsS105.alloc | apply IsS105.drewN | apply IsS105.drew | apply IsS105.set_1 | apply IsS105.set_2) | exact HI0.out))) : gb312 ≠ g)); clear HI0 HK HB; have HI0 := n0_; have HK := n1_; have HB := n2_; have BK312 := n3_; have GW312 := n4_; have GE312 := n5_; have NB0_312 := n6_; have NB312_0 := n7_; clear n0_ n1_ n2_ n3_ n4_ n5_ n6_ n7_; clear hb hbox hg) | ((with_reducible refine gate_callee (f := 94) rfl ?_); refine goesL_ (some 7) rfl rfl Try.func94 (by kernel_rfl) rfl #[.pointer (some ⟨g, 0, none⟩), .int .i64 4] rfl (by (try simp only [List.map_toArray, List.map_cons, List.map_nil]); first | done | rfl | (simp only [List.length_drop, List.length_take]; rfl)) ?_; (with_reducible refine (spec_l1Below.calls g s0_0 s0_1 s0_2 4 t313 t314 t315 w0 _ ?side1 ?side2 A2.out).mono ?_); (case side1 => repeat (first | (with_reducible first | exact HI0.out | apply IsS105.alloc | apply IsS105.drewN | apply IsS105.drew | apply IsS105.set_1 | apply IsS105.set_2 | refine IsS105.far ?_ NB0_312.out _) | exact HI0.out)); (case side2 => repeat (first | (with_reducible first | exact HB.out | apply below_alloc | apply pw_below_drewN | apply below_drew1 | refine below_set ?_ (IsS105.ge HI0.out) | refine below_set ?_ GE312.out) | exact HB.out)); rintro e w71 ⟨rfl, hi, hb, hk⟩; refine ⟨_, rfl, ?_⟩; replace BK312 := Aside0.mk (KeepBut.blk hk (g' := gb312) (o := .cells #[.int .i64 0, .slice none 0 0] 32 (0, 0)) (mb BK312) NB312_0.out (by simp)); replace HK := Aside0.mk (KeepBut.trans (by repeat (first | (with_reducible first | exact HK.out | apply KeepBut.set_ | apply keep_drewN | apply keep_drew | apply keep_alloc | refine keep_far ?_ GW312.out _) | exact HK.out)) hk (.inl rfl)); replace HB := Aside0.mk (hb); replace HI0 := Aside0.mk (hi); (try clear hb)) | ((with_reducible refine gate_callee (f := 109) rfl ?_); refine goesL_ (some 8) rfl rfl Try.func109 (by kernel_rfl) rfl #[.pointer (some ⟨g, 0, none⟩), .int .i64 t313] rfl (by (try simp only [List.map_toArray, List.map_cons, List.map_nil]); first | done | rfl | (simp only [List.length_drop, List.length_take]; rfl)) ?_; (with_reducible refine (spec_l6Draw.calls k g s0_0 t314 t315 t313 t316 t317 t320 t321 w0 _ ?side1 ?side2 A3.out).mono ?_); (case side1 => repeat (first | (with_reducible first | exact HI0.out | apply IsS105.alloc | apply IsS105.drewN | apply IsS105.drew | apply IsS105.set_1 | apply IsS105.set_2 | refine IsS105.far ?_ NB0_312.out _) | exact HI0.out)); (case side2 => repeat (first | (with_reducible first | exact HB.out | apply below_alloc | apply pw_below_drewN | apply below_drew1 | refine below_set ?_ (IsS105.ge HI0.out) | refine below_set ?_ GE312.out) | exact HB.out)); rintro e w72 ⟨v318, rfl, ho0, hi, hb, hk⟩; refine ⟨_, rfl, ?_⟩; replace BK312 := Aside0.mk (KeepBut.blk hk (g' := gb312) (o := .cells #[.int .i64 0, .slice none 0 0] 32 (0, 0)) (mb BK312) NB312_0.out (by simp)); have HO319 := Aside0.mk (Kd.S_lower ho0 (keep_size (w := w) (g := g) (row := none) (by repeat (first | (with_reducible first | exact HK.out | apply KeepBut.set_ | apply keep_drewN | apply keep_drew | apply keep_alloc | refine keep_far ?_ GW312.out _) | exact HK.out)))); replace HK := Aside0.mk (KeepBut.trans (by repeat (first | (with_reducible first | exact HK.out | apply KeepBut.set_ | apply keep_drewN | apply keep_drew | apply keep_alloc | refine keep_far ?_ GW312.out _) | exact HK.out)) hk (.inl rfl)); replace HB := Aside0.mk (hb); replace HI0 := Aside0.mk (hi); (try clear hb); (try clear ho0)) | ((with_reducible refine gate_dst (N := 3) rfl ?_); refine box_event ?hg (N := 3) ?hd (cs := #[.int .i64 0, .slice none 0 0]) (t := 32) ?hr ?_; (case hd => rfl); (case hg => rfl); (case hr => first | (go_simp; done) | (go_simp; rfl)); intro gb322 hg w73 hbox hb; have n0_ := Aside0.mk (Kd.S_below (by (with_reducible repeat (first | apply Kd.S_alloc | apply Kd.S_drewN | apply Kd.S_drew)); exact HO319.out) hb); have n1_ := Aside0.mk (IsS105.below (by repeat (first | (with_reducible first | exact HI0.out | apply IsS105.alloc | apply IsS105.drewN | apply IsS105.drew | apply IsS105.set_1 | apply IsS105.set_2 | refine IsS105.far ?_ NB0_312.out _) | exact HI0.out)) hb); have n2_ := bb BK312 hb; have n3_ := Aside0.mk (KeepBut.trans (by repeat (first | (with_reducible first | exact HK.out | apply KeepBut.set_ | apply keep_drewN | apply keep_drew | apply keep_alloc | refine keep_far ?_ GW312.out _) | exact HK.out)) (KeepBut.of_below hb g none) (.inl rfl)); have n4_ := Aside0.mk (below_step (by repeat (first | (with_reducible first | exact HB.out | apply below_alloc | apply pw_below_drewN | apply below_drew1 | refine below_set ?_ (IsS105.ge HI0.out) | refine below_set ?_ GE312.out) | exact HB.out)) hb); have n5_ := Aside0.mk (hbox); have n6_ := Aside0.mk ((by rw [hg]; exact (keep_size (w := w) (g := g) (row := none) (by repeat (first | (with_reducible first | exact HK.out | apply KeepBut.set_ | apply keep_drewN | apply keep_drew | apply keep_alloc | refine keep_far ?_ GW312.out _) | exact HK.out))) : w.heap.size ≤ gb322)); have n7_ := Aside0.mk ((Nat.le_trans HW0.out (by rw [hg]; exact (keep_size (w := w) (g := g) (row := none) (by repeat (first | (with_reducible first | exact HK.out | apply KeepBut.set_ | apply keep_drewN | apply keep_drew | apply keep_alloc | refine keep_far ?_ GW312.out _) | exact HK.out))) : w.heap.size ≤ gb322) : w0.heap.size ≤ gb322)); have n8_ := nl hg BK312; have n9_ := ng hg BK312; have n10_ := Aside0.mk ((by rw [hg]; exact Nat.ne_of_lt (IsS105.lt (show IsS105 w0 _ g s0_0 t320 t321 from by repeat (first | (with_reducible first | exact HI0.out | apply IsS105.alloc | apply IsS105.drewN | apply IsS105.drew | apply IsS105.set_1 | apply IsS105.set_2 | refine IsS105.far ?_ NB0_312.out _) | exact HI0.out))) : g ≠ gb322)); have n11_ := Aside0.mk ((by rw [hg]; exact Nat.ne_of_gt (IsS105.lt (show IsS105 w0 _ g s0_0 t320 t321 from by repeat (first | (with_reducible first | exact HI0.out | apply IsS105.alloc | apply IsS105.drewN | apply IsS105.drew | apply IsS105.set_1 | apply IsS105.set_2 | refine IsS105.far ?_ NB0_312.out _) | exact HI0.out))) : gb322 ≠ g)); clear HO319 HI0 BK312 HK HB; have HO319 := n0_; have HI0 := n1_; have BK312 := n2_; have HK := n3_; have HB := n4_; have BK322 := n5_; have GW322 := n6_; have GE322 := n7_; have NB312_322 := n8_; have NB322_312 := n9_; have NB0_322 := n10_; have NB322_0 := n11_; clear n0_ n1_ n2_ n3_ n4_ n5_ n6_ n7_ n8_ n9_ n10_ n11_; clear hb hbox hg; have hnb74 := NB322_312.out; have hnc74 := NB312_322.out; have hnb75 := NB322_0.out; have hnc75 := NB0_322.out; obtain ⟨hcz76_0, hcz76_1⟩ := c2 BK322; have hfz76_0 := blk_frozen BK322.out 0; have hfz76_1 := blk_frozen BK322.out 1; obtain ⟨Ao77, co77, eo77⟩ := Kd.S_slice HO319.out; subst eo77) | ((with_reducible refine gate_callee (f := 94) rfl ?_); refine goesL_ (some 10) rfl rfl Try.func94 (by kernel_rfl) rfl #[.pointer (some ⟨g, 0, none⟩), .int .i64 16] rfl (by (try simp only [List.map_toArray, List.map_cons, List.map_nil]); first | done | rfl | (simp only [List.length_drop, List.length_take]; rfl)) ?_; (with_reducible refine (spec_l1Below.calls g s0_0 t320 t321 16 t323 t324 t325 w0 _ ?side1 ?side2 A4.out).mono ?_); (case side1 => repeat (first | (with_reducible first | exact HI0.out | apply IsS105.alloc | apply IsS105.drewN | apply IsS105.drew | apply IsS105.set_1 | apply IsS105.set_2 | refine IsS105.far ?_ NB0_312.out _ | refine IsS105.far ?_ NB0_322.out _) | exact HI0.out)); (case side2 => repeat (first | (with_reducible first | exact HB.out | apply below_alloc | apply pw_below_drewN | apply below_drew1 | refine below_set ?_ (IsS105.ge HI0.out) | refine below_set ?_ GE312.out | refine below_set ?_ GE322.out) | exact HB.out)); rintro e w78 ⟨rfl, hi, hb, hk⟩; refine ⟨_, rfl, ?_⟩; have n0_ := Aside0.mk (KeepBut.blk hk (g' := gb312) (o := .cells #[.int .i64 0, .slice none 0 0] 32 (0, 0)) (mf BK312) NB312_0.out (by simp)); have n1_ := Aside0.mk (Kd.S_mono (Kd.S_keep (IsS105.apartS (show IsS105 w0 _ g s0_0 t320 t321 from by repeat (first | (with_reducible first | exact HI0.out | apply IsS105.alloc | apply IsS105.drewN | apply IsS105.drew | apply IsS105.set_1 | apply IsS105.set_2 | refine IsS105.far ?_ NB0_312.out _ | refine IsS105.far ?_ NB0_322.out _) | exact HI0.out)) (by (with_reducible repeat (first | apply Kd.S_alloc | apply Kd.S_drewN | apply Kd.S_drew)); exact (Kd.S_mono (Kd.S_far (p := ⟨gb322, 1, none⟩) (Kd.S_far (p := ⟨gb322, 0, none⟩) (Kd.S_types HO319.out BK322.out (by decide)) (fun _ hk => hk.2) (.int .i64 t316)) (fun _ hk => hk.2) (.slice Ao77 t317.length co77)) (fun _ h_ => h_.1))) (by decide)) hk (fun _ h => h.2)) (fun _ h => h.1)); have n2_ := Aside0.mk (KeepBut.blk hk (g' := gb322) (o := .cells #[.int .i64 t316, .slice Ao77 t317.length co77] 32 (0, 0)) (by (with_reducible repeat (first | refine blk_drewN ?_ _ | refine blk_drew ?_ | refine blk_alloc ?_ _)); refine blk_put (cs := #[.int .i64 t316, .slice none 0 0]) ?_ 1 _ rfl; (with_reducible repeat (first | refine blk_drewN ?_ _ | refine blk_drew ?_ | refine blk_alloc ?_ _)); refine blk_put (cs := #[.int .i64 0, .slice none 0 0]) ?_ 0 _ rfl; (with_reducible repeat (first | refine blk_drewN ?_ _ | refine blk_drew ?_ | refine blk_alloc ?_ _)); exact BK322.out) NB322_0.out (by simp)); have n3_ := Aside0.mk (KeepBut.trans (by repeat (first | (with_reducible first | exact HK.out | apply KeepBut.set_ | apply keep_drewN | apply keep_drew | apply keep_alloc | refine keep_far ?_ GW312.out _ | refine keep_far ?_ GW322.out _) | exact HK.out)) hk (.inl rfl)); have n4_ := Aside0.mk (hb); have n5_ := Aside0.mk (hi); clear BK312 HO319 BK322 HK HB HI0; have BK312 := n0_; have HO319 := n1_; have BK322 := n2_; have HK := n3_; have HB := n4_; have HI0 := n5_; clear n0_ n1_ n2_ n3_ n4_ n5_; (try clear hb); obtain ⟨hcz79_0, hcz79_1⟩ := c2 BK322; have hfz79_0 := blk_frozen BK322.out 0; have hfz79_1 := blk_frozen BK322.out 1; have hnb80 := NB312_0.out; have hnc80 := NB0_312.out; obtain ⟨hcz81_0, hcz81_1⟩ := c2 BK312; have hfz81_0 := blk_frozen BK312.out 0; have hfz81_1 := blk_frozen BK312.out 1))
    refine bodyPost_ret (results_cell_row rfl _ _ gb312 32 #[.int .i64 t316, .slice Ao77 t317.length co77] (0, 0) _ rfl (by (with_reducible repeat (first | refine blk_drewN ?_ _ | refine blk_drew ?_ | refine blk_alloc ?_ _)); refine blk_put (cs := #[.int .i64 t316, .slice none 0 0]) ?_ 1 _ rfl; (with_reducible repeat (first | refine blk_drewN ?_ _ | refine blk_drew ?_ | refine blk_alloc ?_ _)); refine blk_put (cs := #[.int .i64 0, .slice none 0 0]) ?_ 0 _ rfl; (with_reducible repeat (first | refine blk_drewN ?_ _ | refine blk_drew ?_ | refine blk_alloc ?_ _)); exact BK312.out) Try.underlying32 rfl (by kernel_rfl)) rfl ?_
    exact ⟨_, by first | rfl | (simp [errW_none, errW_some] <;> rfl) | (simp [*, errW_none, errW_some] <;> rfl), by (with_reducible repeat (first | apply Kd.S_alloc | apply Kd.S_drewN | apply Kd.S_drew)); exact Kd.S_mono (Kd.S_far (p := ⟨gb312, 1, none⟩) (Kd.S_far (p := ⟨gb312, 0, none⟩) (Kd.S_types HO319.out BK312.out (by decide)) (fun _ hk => hk.2) (.int .i64 t316)) (fun _ hk => hk.2) (.slice Ao77 t317.length co77)) (fun _ hk => trivial), by repeat (first | (with_reducible first | exact HI0.out | apply IsS105.alloc | apply IsS105.drewN | apply IsS105.drew | apply IsS105.set_1 | apply IsS105.set_2 | refine IsS105.far ?_ NB0_312.out _ | refine IsS105.far ?_ NB0_322.out _) | exact HI0.out), by repeat (first | (with_reducible first | exact HB.out | apply below_alloc | apply pw_below_drewN | apply below_drew1 | refine below_set ?_ (IsS105.ge HI0.out) | refine below_set ?_ GE312.out | refine below_set ?_ GE322.out) | exact HB.out), by repeat (first | (with_reducible first | exact HK.out | apply KeepBut.set_ | apply keep_drewN | apply keep_drew | apply keep_alloc | refine keep_far ?_ GW312.out _ | refine keep_far ?_ GW322.out _) | exact HK.out)⟩

/-! ### spec_l1Once: function 79 -/
def spec_l1Once.f (s0_0 : List Int) (s0_1 : Int) (s0_2 : Int) (a1 : Int) : Option (Bool × Int × Int) := (spec_l1Below.f s0_0 s0_1 s0_2 a1).bind fun bt348 => (some ((bt348.1 == 0), bt348.2.1, bt348.2.2))
set_option maxHeartbeats 8000000 in
set_option maxRecDepth 100000 in
theorem spec_l1Once.calls (g : Nat) (s0_0 : List Int) (s0_1 : Int) (s0_2 : Int) (a1 : Int) (r1 : Bool) (r2 : Int) (r3 : Int) (w0 w : World) (hI : IsS105 w0 w g s0_0 s0_1 s0_2) (hB : Below w0.heap.size w0 w) (h : spec_l1Once.f s0_0 s0_1 s0_2 a1 = some (r1, r2, r3)) :
  Calls Try.prog 79 #[.pointer (some ⟨g, 0, none⟩), .int .i64 a1] w fun e w' => e = .returned (.bool r1) ∧ IsS105 w0 w' g s0_0 r2 r3 ∧ Below w0.heap.size w0 w' ∧ KeepBut w w' g none := by
 have HI0 := Aside0.mk hI
 have HK := Aside0.mk (KeepBut.refl w g none)
 have HL := Aside0.mk hB.size
 clear hI
 have HW0 := Aside0.mk hB.size
 have HB := Aside0.mk hB
 clear hB
 have H : ((spec_l1Below.f s0_0 s0_1 s0_2 a1).bind fun bt348 => (some ((bt348.1 == 0), bt348.2.1, bt348.2.2))) = some (r1, r2, r3) := h
 clear h
 replace H := Option.bind_eq_some_iff.mp H
 obtain ⟨⟨t348, t349, t350⟩, A30, H⟩ := H
 replace H : (some ((t348 == 0), t349, t350)) = some (r1, r2, r3) := H
 have A3 := Aside0.mk A30
 clear A30
 simp only [Option.some.injEq, Prod.mk.injEq] at H
 obtain ⟨rfl, rfl, rfl⟩ := H
 go_enter Try.func79, Try.ntmps79
 go_wp2_with (first | ((with_reducible refine gate_callee (f := 94) rfl ?_); refine goesL_ (some 7) rfl rfl Try.func94 (by kernel_rfl) rfl #[.pointer (some ⟨g, 0, none⟩), .int .i64 a1] rfl (by (try simp only [List.map_toArray, List.map_cons, List.map_nil]); first | done | rfl | (simp only [List.length_drop, List.length_take]; rfl)) ?_; (with_reducible refine (spec_l1Below.calls g s0_0 s0_1 s0_2 a1 t348 t349 t350 w0 _ ?side1 ?side2 A3.out).mono ?_); (case side1 => repeat (first | (with_reducible first | exact HI0.out | apply IsS105.alloc | apply IsS105.drewN | apply IsS105.drew | apply IsS105.set_1 | apply IsS105.set_2) | exact HI0.out)); (case side2 => repeat (first | (with_reducible first | exact HB.out | apply below_alloc | apply pw_below_drewN | apply below_drew1 | refine below_set ?_ (IsS105.ge HI0.out)) | exact HB.out)); rintro e w4 ⟨rfl, hi, hb, hk⟩; refine ⟨_, rfl, ?_⟩; replace HK := Aside0.mk (KeepBut.trans (by repeat (first | (with_reducible first | exact HK.out | apply KeepBut.set_ | apply keep_drewN | apply keep_drew | apply keep_alloc) | exact HK.out)) hk (.inl rfl)); replace HB := Aside0.mk (hb); replace HI0 := Aside0.mk (hi); (try clear hb)))
 go_ret
 exact ⟨by first | rfl | (simp [errW_none, errW_some] <;> rfl) | (simp [*, errW_none, errW_some] <;> rfl), by repeat (first | (with_reducible first | exact HI0.out | apply IsS105.alloc | apply IsS105.drewN | apply IsS105.drew | apply IsS105.set_1 | apply IsS105.set_2) | exact HI0.out), by repeat (first | (with_reducible first | exact HB.out | apply below_alloc | apply pw_below_drewN | apply below_drew1 | refine below_set ?_ (IsS105.ge HI0.out)) | exact HB.out), by repeat (first | (with_reducible first | exact HK.out | apply KeepBut.set_ | apply keep_drewN | apply keep_drew | apply keep_alloc) | exact HK.out)⟩

/-! ### spec_l1Min: function 82 -/
def spec_l1Min.f (a0 : Int) (a1 : Int) : Option (Int) := if a0 < a1 then (some a0) else (some a1)
set_option maxHeartbeats 8000000 in
set_option maxRecDepth 100000 in
theorem spec_l1Min.calls (a0 : Int) (a1 : Int) (r : Int) (w : World) (h : spec_l1Min.f a0 a1 = some r) :
  Calls Try.prog 82 #[.int .i64 a0, .int .i64 a1] w fun e w' => e = .returned (.int .i64 r) ∧ Drawn0 w w' := by
 have H : (if a0 < a1 then (some a0) else (some a1)) = some r := h
 clear h
 by_cases c3 : a0 < a1
 ·rw [if_pos c3] at H
  have c3b0 : decide (a0 < a1) = true := decide_eq_true c3
  clear c3
  obtain rfl := Option.some.inj H
  go_enter Try.func82, Try.ntmps82
  go_wp2
  go_ret
  exact ⟨by first | rfl | (simp; done) | (simp [*]; done), by repeat (first | exact Drawn0.refl _ | apply Drawn0.step)⟩
 ·rw [if_neg c3] at H
  have c3b0 : decide (a0 < a1) = false := decide_eq_false c3
  clear c3
  obtain rfl := Option.some.inj H
  go_enter Try.func82, Try.ntmps82
  go_wp2
  go_ret
  exact ⟨by first | rfl | (simp; done) | (simp [*]; done), by repeat (first | exact Drawn0.refl _ | apply Drawn0.step)⟩

/-! ### spec_l1Max: function 83 -/
def spec_l1Max.f (a0 : Int) (a1 : Int) : Option (Int) := if a0 > a1 then (some a0) else (some a1)
set_option maxHeartbeats 8000000 in
set_option maxRecDepth 100000 in
theorem spec_l1Max.calls (a0 : Int) (a1 : Int) (r : Int) (w : World) (h : spec_l1Max.f a0 a1 = some r) :
  Calls Try.prog 83 #[.int .i64 a0, .int .i64 a1] w fun e w' => e = .returned (.int .i64 r) ∧ Drawn0 w w' := by
 have H : (if a0 > a1 then (some a0) else (some a1)) = some r := h
 clear h
 by_cases c3 : a0 > a1
 ·rw [if_pos c3] at H
  have c3b0 : decide (a1 < a0) = true := decide_eq_true c3
  clear c3
  obtain rfl := Option.some.inj H
  go_enter Try.func83, Try.ntmps83
  go_wp2
  go_ret
  exact ⟨by first | rfl | (simp; done) | (simp [*]; done), by repeat (first | exact Drawn0.refl _ | apply Drawn0.step)⟩
 ·rw [if_neg c3] at H
  have c3b0 : decide (a1 < a0) = false := decide_eq_false c3
  clear c3
  obtain rfl := Option.some.inj H
  go_enter Try.func83, Try.ntmps83
  go_wp2
  go_ret
  exact ⟨by first | rfl | (simp; done) | (simp [*]; done), by repeat (first | exact Drawn0.refl _ | apply Drawn0.step)⟩

end Go.Proofs.Ytghiljjkaiggfaa.QFnSystems
