-- Made by a program of this claim's own (wip/print): not the kit's print as it stands.
import Derived.Test.YtmdjhmggogfbdaaGreatDoorUFnLinTextTri
import Derived.Test.YtmdjhmggogfbdaaGreatDoorQFnLinTextx0
import Derived.Test.YtmdjhmggogfbdaaGreatDoorQFnLinTextx1
import Derived.Test.YtmdjhmggogfbdaaGreatDoorQFnLinTextx3
import Derived.Test.YtmdjhmggogfbdaaGreatDoorQFnLinTextx4
import Derived.Test.YtmdjhmggogfbdaaGreatDoorQFnLinTextx5
namespace Go.Proofs.YtmdjhmggogfbdaaGreatDoor.QFnLinText
open Go.RowKit Go.Proofs.YtmdjhmggogfbdaaGreatDoorV.PrintWords Go.Proofs.YtmdjhmggogfbdaaGreatDoorV.PrintLast Go.Proofs.YtmdjhmggogfbdaaGreatDoorV.PrintMore
attribute [local go_sem] max2_int min2_int max_two min_two max_three min_three max_four min_four   -- for this text's walks alone
set_option linter.unusedVariables false
set_option linter.unusedSimpArgs false

/-! ### spec_ParseLin: function 7 -/
mutual
def spec_ParseLin.l0 : Nat → ByteArray → List ByteArray → List ByteArray → Int → Int → List Int → Option (Int × List Int × Bool)
 | 0, _, _, _, _, _, _ => none
 | k + 1, x0, x1, x7, x8, x162000, x162001 => if x8 < (x7.length : Int) then (if 0 ≤ x8 then (if x8 = 0 then (if ((rdOf ByteArray.empty x7 x8).size : Int) > 0 then (if 0 < ((rdOf ByteArray.empty x7 x8).size : Int) then (spec_ParseLin.j1 k x0 x1 x7 x8 (rdOf ByteArray.empty x7 x8) 1 ((bt (rdOf ByteArray.empty x7 x8) 0) == 45) x162000 x162001) else (none)) else (spec_ParseLin.j1 k x0 x1 x7 x8 (rdOf ByteArray.empty x7 x8) 1 false x162000 x162001)) else (spec_ParseLin.j1 k x0 x1 x7 x8 (rdOf ByteArray.empty x7 x8) 1 false x162000 x162001)) else (none)) else (if x0.toList = ([] : List UInt8) then (some (0, ([] : List Int), false)) else ((spec_FormatLin.f k x162000 x162001 x1).bind fun t165 => (if t165.toList = x0.toList then (some (x162000, x162001, true)) else (some (0, ([] : List Int), false)))))
def spec_ParseLin.j1 : Nat → ByteArray → List ByteArray → List ByteArray → Int → ByteArray → Int → Bool → Int → List Int → Option (Int × List Int × Bool)
 | 0, _, _, _, _, _, _, _, _, _ => none
 | k + 1, x0, x1, x7, x8, x9, x10, x42, x162000, x162001 => if x42 = true then (if 1 ≤ (x9.size : Int) then (spec_ParseLin.j2 k x0 x1 x7 x8 (x9.extract 1 x9.size) (-1) x162000 x162001) else (none)) else (spec_ParseLin.j2 k x0 x1 x7 x8 x9 x10 x162000 x162001)
def spec_ParseLin.j2 : Nat → ByteArray → List ByteArray → List ByteArray → Int → ByteArray → Int → Int → List Int → Option (Int × List Int × Bool)
 | 0, _, _, _, _, _, _, _, _ => none
 | k + 1, x0, x1, x7, x8, x9, x10, x162000, x162001 => if x8 > 0 then (if 0 ≤ (wrap64 (x8 - 1)) then (if (wrap64 (x8 - 1)) < (x7.length : Int) then (spec_ParseLin.j3 k x0 x1 x7 x8 x9 x10 ((rdOf ByteArray.empty x7 (wrap64 (x8 - 1))).toList == ([45] : List UInt8)) x162000 x162001) else (none)) else (none)) else (spec_ParseLin.j3 k x0 x1 x7 x8 x9 x10 false x162000 x162001)
def spec_ParseLin.j3 : Nat → ByteArray → List ByteArray → List ByteArray → Int → ByteArray → Int → Bool → Int → List Int → Option (Int × List Int × Bool)
 | 0, _, _, _, _, _, _, _, _, _ => none
 | k + 1, x0, x1, x7, x8, x9, x10, x54, x162000, x162001 => if x54 = true then (spec_ParseLin.j4 k x0 x1 x7 x8 x9 (-1) x162000 x162001) else (spec_ParseLin.j4 k x0 x1 x7 x8 x9 x10 x162000 x162001)
def spec_ParseLin.j4 : Nat → ByteArray → List ByteArray → List ByteArray → Int → ByteArray → Int → Int → List Int → Option (Int × List Int × Bool)
 | 0, _, _, _, _, _, _, _, _ => none
 | k + 1, x0, x1, x7, x8, x9, x10, x162000, x162001 => (spec_l5Word.f k x9).bind fun bt168 => ((spec_IndexOf.f k x1 bt168.2).bind fun t170 => (if bt168.2.toList = ([] : List UInt8) then (spec_ParseLin.l0 k x0 x1 x7 (wrap64 (x8 + 2)) (wrap64 (x10 * bt168.1)) x162001) else ((spec_l1In.f t170 0 (wrap64 ((x162001.length : Int) - 1))).bind fun t171 => (if t171 = true then (if 0 ≤ t170 then (if t170 < (x162001.length : Int) then (spec_ParseLin.l0 k x0 x1 x7 (wrap64 (x8 + 2)) x162000 (x162001.set (t170 : Int).toNat (wrap64 (x10 * bt168.1)))) else (none)) else (none)) else (spec_ParseLin.l0 k x0 x1 x7 (wrap64 (x8 + 2)) x162000 x162001)))))
end
def spec_ParseLin.f (k : Nat) (a0 : ByteArray) (l1 : List ByteArray) : Option (Int × List Int × Bool) := (spec_l1Min.f (l1.length : Int) 8).bind fun t157 => (if 0 ≤ t157 then (if (t157 : Int).toNat ≤ 35184372088832 then ((spec_SplitByte.f k a0 32).bind fun t162 => (spec_ParseLin.l0 k a0 l1 t162 0 0 (List.replicate (t157 : Int).toNat 0))) else (none)) else (none))
theorem spec_ParseLin.mono_l : ∀ k, (∀ y0 y1 y2 y3 y4 y5, LeO (spec_ParseLin.l0 k y0 y1 y2 y3 y4 y5) (spec_ParseLin.l0 (k + 1) y0 y1 y2 y3 y4 y5)) ∧ (∀ y0 y1 y2 y3 y4 y5 y6 y7 y8, LeO (spec_ParseLin.j1 k y0 y1 y2 y3 y4 y5 y6 y7 y8) (spec_ParseLin.j1 (k + 1) y0 y1 y2 y3 y4 y5 y6 y7 y8)) ∧ (∀ y0 y1 y2 y3 y4 y5 y6 y7, LeO (spec_ParseLin.j2 k y0 y1 y2 y3 y4 y5 y6 y7) (spec_ParseLin.j2 (k + 1) y0 y1 y2 y3 y4 y5 y6 y7)) ∧ (∀ y0 y1 y2 y3 y4 y5 y6 y7 y8, LeO (spec_ParseLin.j3 k y0 y1 y2 y3 y4 y5 y6 y7 y8) (spec_ParseLin.j3 (k + 1) y0 y1 y2 y3 y4 y5 y6 y7 y8)) ∧ (∀ y0 y1 y2 y3 y4 y5 y6 y7, LeO (spec_ParseLin.j4 k y0 y1 y2 y3 y4 y5 y6 y7) (spec_ParseLin.j4 (k + 1) y0 y1 y2 y3 y4 y5 y6 y7))
 | 0 => ⟨fun _ _ _ _ _ _ r h => by simp [spec_ParseLin.l0] at h, fun _ _ _ _ _ _ _ _ _ r h => by simp [spec_ParseLin.j1] at h, fun _ _ _ _ _ _ _ _ r h => by simp [spec_ParseLin.j2] at h, fun _ _ _ _ _ _ _ _ _ r h => by simp [spec_ParseLin.j3] at h, fun _ _ _ _ _ _ _ _ r h => by simp [spec_ParseLin.j4] at h⟩
 | k + 1 => by
  obtain ⟨ih0, ih1, ih2, ih3, ih4⟩ := spec_ParseLin.mono_l k
  refine ⟨?_, ?_, ?_, ?_, ?_⟩
  ·intro y0 y1 y2 y3 y4 y5
   unfold spec_ParseLin.l0
   repeat' first
   | (with_reducible exact ih0 _ _ _ _ _ _)
   | (with_reducible exact ih1 _ _ _ _ _ _ _ _ _)
   | (with_reducible exact ih2 _ _ _ _ _ _ _ _)
   | (with_reducible exact ih3 _ _ _ _ _ _ _ _ _)
   | (with_reducible exact ih4 _ _ _ _ _ _ _ _)
   | (with_reducible exact spec_FormatLin.mono _ _ _ _)
   | (with_reducible exact spec_IndexOf.mono _ _ _)
   | (with_reducible exact spec_SplitByte.mono _ _ _)
   | (with_reducible exact spec_l5Word.mono _ _)
   | (with_reducible exact LeO.refl _)
   | (with_reducible exact LeO.none _)
   | (with_reducible refine LeO.ite ?_ ?_)
   | (with_reducible refine LeO.bind ?_ (fun _ => ?_))
   | exact ih0 _ _ _ _ _ _
   | exact ih1 _ _ _ _ _ _ _ _ _
   | exact ih2 _ _ _ _ _ _ _ _
   | exact ih3 _ _ _ _ _ _ _ _ _
   | exact ih4 _ _ _ _ _ _ _ _
   | exact spec_FormatLin.mono _ _ _ _
   | exact spec_IndexOf.mono _ _ _
   | exact spec_SplitByte.mono _ _ _
   | exact spec_l5Word.mono _ _
   | exact LeO.none _
   | refine LeO.ite ?_ ?_
   | refine LeO.bind ?_ (fun _ => ?_)
  ·intro y0 y1 y2 y3 y4 y5 y6 y7 y8
   unfold spec_ParseLin.j1
   repeat' first
   | (with_reducible exact ih0 _ _ _ _ _ _)
   | (with_reducible exact ih1 _ _ _ _ _ _ _ _ _)
   | (with_reducible exact ih2 _ _ _ _ _ _ _ _)
   | (with_reducible exact ih3 _ _ _ _ _ _ _ _ _)
   | (with_reducible exact ih4 _ _ _ _ _ _ _ _)
   | (with_reducible exact spec_FormatLin.mono _ _ _ _)
   | (with_reducible exact spec_IndexOf.mono _ _ _)
   | (with_reducible exact spec_SplitByte.mono _ _ _)
   | (with_reducible exact spec_l5Word.mono _ _)
   | (with_reducible exact LeO.refl _)
   | (with_reducible exact LeO.none _)
   | (with_reducible refine LeO.ite ?_ ?_)
   | (with_reducible refine LeO.bind ?_ (fun _ => ?_))
   | exact ih0 _ _ _ _ _ _
   | exact ih1 _ _ _ _ _ _ _ _ _
   | exact ih2 _ _ _ _ _ _ _ _
   | exact ih3 _ _ _ _ _ _ _ _ _
   | exact ih4 _ _ _ _ _ _ _ _
   | exact spec_FormatLin.mono _ _ _ _
   | exact spec_IndexOf.mono _ _ _
   | exact spec_SplitByte.mono _ _ _
   | exact spec_l5Word.mono _ _
   | exact LeO.none _
   | refine LeO.ite ?_ ?_
   | refine LeO.bind ?_ (fun _ => ?_)
  ·intro y0 y1 y2 y3 y4 y5 y6 y7
   unfold spec_ParseLin.j2
   repeat' first
   | (with_reducible exact ih0 _ _ _ _ _ _)
   | (with_reducible exact ih1 _ _ _ _ _ _ _ _ _)
   | (with_reducible exact ih2 _ _ _ _ _ _ _ _)
   | (with_reducible exact ih3 _ _ _ _ _ _ _ _ _)
   | (with_reducible exact ih4 _ _ _ _ _ _ _ _)
   | (with_reducible exact spec_FormatLin.mono _ _ _ _)
   | (with_reducible exact spec_IndexOf.mono _ _ _)
   | (with_reducible exact spec_SplitByte.mono _ _ _)
   | (with_reducible exact spec_l5Word.mono _ _)
   | (with_reducible exact LeO.refl _)
   | (with_reducible exact LeO.none _)
   | (with_reducible refine LeO.ite ?_ ?_)
   | (with_reducible refine LeO.bind ?_ (fun _ => ?_))
   | exact ih0 _ _ _ _ _ _
   | exact ih1 _ _ _ _ _ _ _ _ _
   | exact ih2 _ _ _ _ _ _ _ _
   | exact ih3 _ _ _ _ _ _ _ _ _
   | exact ih4 _ _ _ _ _ _ _ _
   | exact spec_FormatLin.mono _ _ _ _
   | exact spec_IndexOf.mono _ _ _
   | exact spec_SplitByte.mono _ _ _
   | exact spec_l5Word.mono _ _
   | exact LeO.none _
   | refine LeO.ite ?_ ?_
   | refine LeO.bind ?_ (fun _ => ?_)
  ·intro y0 y1 y2 y3 y4 y5 y6 y7 y8
   unfold spec_ParseLin.j3
   repeat' first
   | (with_reducible exact ih0 _ _ _ _ _ _)
   | (with_reducible exact ih1 _ _ _ _ _ _ _ _ _)
   | (with_reducible exact ih2 _ _ _ _ _ _ _ _)
   | (with_reducible exact ih3 _ _ _ _ _ _ _ _ _)
   | (with_reducible exact ih4 _ _ _ _ _ _ _ _)
   | (with_reducible exact spec_FormatLin.mono _ _ _ _)
   | (with_reducible exact spec_IndexOf.mono _ _ _)
   | (with_reducible exact spec_SplitByte.mono _ _ _)
   | (with_reducible exact spec_l5Word.mono _ _)
   | (with_reducible exact LeO.refl _)
   | (with_reducible exact LeO.none _)
   | (with_reducible refine LeO.ite ?_ ?_)
   | (with_reducible refine LeO.bind ?_ (fun _ => ?_))
   | exact ih0 _ _ _ _ _ _
   | exact ih1 _ _ _ _ _ _ _ _ _
   | exact ih2 _ _ _ _ _ _ _ _
   | exact ih3 _ _ _ _ _ _ _ _ _
   | exact ih4 _ _ _ _ _ _ _ _
   | exact spec_FormatLin.mono _ _ _ _
   | exact spec_IndexOf.mono _ _ _
   | exact spec_SplitByte.mono _ _ _
   | exact spec_l5Word.mono _ _
   | exact LeO.none _
   | refine LeO.ite ?_ ?_
   | refine LeO.bind ?_ (fun _ => ?_)
  ·intro y0 y1 y2 y3 y4 y5 y6 y7
   unfold spec_ParseLin.j4
   repeat' first
   | (with_reducible exact ih0 _ _ _ _ _ _)
   | (with_reducible exact ih1 _ _ _ _ _ _ _ _ _)
   | (with_reducible exact ih2 _ _ _ _ _ _ _ _)
   | (with_reducible exact ih3 _ _ _ _ _ _ _ _ _)
   | (with_reducible exact ih4 _ _ _ _ _ _ _ _)
   | (with_reducible exact spec_FormatLin.mono _ _ _ _)
   | (with_reducible exact spec_IndexOf.mono _ _ _)
   | (with_reducible exact spec_SplitByte.mono _ _ _)
   | (with_reducible exact spec_l5Word.mono _ _)
   | (with_reducible exact LeO.refl _)
   | (with_reducible exact LeO.none _)
   | (with_reducible refine LeO.ite ?_ ?_)
   | (with_reducible refine LeO.bind ?_ (fun _ => ?_))
   | exact ih0 _ _ _ _ _ _
   | exact ih1 _ _ _ _ _ _ _ _ _
   | exact ih2 _ _ _ _ _ _ _ _
   | exact ih3 _ _ _ _ _ _ _ _ _
   | exact ih4 _ _ _ _ _ _ _ _
   | exact spec_FormatLin.mono _ _ _ _
   | exact spec_IndexOf.mono _ _ _
   | exact spec_SplitByte.mono _ _ _
   | exact spec_l5Word.mono _ _
   | exact LeO.none _
   | refine LeO.ite ?_ ?_
   | refine LeO.bind ?_ (fun _ => ?_)
theorem spec_ParseLin.mono : ∀ a0 a1 k, LeO (spec_ParseLin.f k a0 a1) (spec_ParseLin.f (k + 1) a0 a1) := by
 intro a0 a1 k
 obtain ⟨ih0, ih1, ih2, ih3, ih4⟩ := spec_ParseLin.mono_l k
 unfold spec_ParseLin.f
 repeat' first
   | (with_reducible exact ih0 _ _ _ _ _ _)
   | (with_reducible exact ih1 _ _ _ _ _ _ _ _ _)
   | (with_reducible exact ih2 _ _ _ _ _ _ _ _)
   | (with_reducible exact ih3 _ _ _ _ _ _ _ _ _)
   | (with_reducible exact ih4 _ _ _ _ _ _ _ _)
   | (with_reducible exact spec_FormatLin.mono _ _ _ _)
   | (with_reducible exact spec_IndexOf.mono _ _ _)
   | (with_reducible exact spec_SplitByte.mono _ _ _)
   | (with_reducible exact spec_l5Word.mono _ _)
   | (with_reducible exact LeO.refl _)
   | (with_reducible exact LeO.none _)
   | (with_reducible refine LeO.ite ?_ ?_)
   | (with_reducible refine LeO.bind ?_ (fun _ => ?_))
   | exact ih0 _ _ _ _ _ _
   | exact ih1 _ _ _ _ _ _ _ _ _
   | exact ih2 _ _ _ _ _ _ _ _
   | exact ih3 _ _ _ _ _ _ _ _ _
   | exact ih4 _ _ _ _ _ _ _ _
   | exact spec_FormatLin.mono _ _ _ _
   | exact spec_IndexOf.mono _ _ _
   | exact spec_SplitByte.mono _ _ _
   | exact spec_l5Word.mono _ _
   | exact LeO.none _
   | refine LeO.ite ?_ ?_
   | refine LeO.bind ?_ (fun _ => ?_)
set_option maxHeartbeats 8000000 in
set_option maxRecDepth 100000 in
theorem spec_ParseLin.calls (k : Nat) (a0 : ByteArray) (A1 : Option Addr) (c1 : Nat) (l1 : List ByteArray) (r1 : Int) (r2 : List Int) (r3 : Bool) (w : World) (hr1 : Kd.C Kd.string w A1 l1.length l1) (hc1 : l1.length ≤ c1) (h : spec_ParseLin.f k a0 l1 = some (r1, r2, r3)) :
  Calls Tryz.prog 7 #[.string a0, .slice A1 l1.length c1] w fun e w' => ∃ v1_ : Value, e = .returned (.tuple #[.agg #[.int .i64 r1, v1_], .bool r3]) ∧ Kd.R (Kd.int .i64) 3 w' w.heap.size (fun _ => True) v1_ r2 ∧ Below w.heap.size w w' := by
 have hu26 := Tryz.underlying26
 have HR1 := Aside0.mk hr1
 have HC1 := Aside0.mk hc1
 clear hr1 hc1
 have HB := Aside0.mk (Below.refl w.heap.size w)
 have H : ((spec_l1Min.f (l1.length : Int) 8).bind fun t157 => (if 0 ≤ t157 then (if (t157 : Int).toNat ≤ 35184372088832 then ((spec_SplitByte.f k a0 32).bind fun t162 => (spec_ParseLin.l0 k a0 l1 t162 0 0 (List.replicate (t157 : Int).toNat 0))) else (none)) else (none))) = some (r1, r2, r3) := h
 clear h
 replace H := Option.bind_eq_some_iff.mp H
 obtain ⟨t157, A30, H⟩ := H
 replace H : (if 0 ≤ t157 then (if (t157 : Int).toNat ≤ 35184372088832 then ((spec_SplitByte.f k a0 32).bind fun t162 => (spec_ParseLin.l0 k a0 l1 t162 0 0 (List.replicate (t157 : Int).toNat 0))) else (none)) else (none)) = some (r1, r2, r3) := H
 have A3 := Aside0.mk A30
 clear A30
 by_cases c4 : 0 ≤ t157
 ·rw [if_pos c4] at H
  have c4b0 := eq_true c4
  have c4b1 : decide (0 ≤ t157) = true := decide_eq_true c4
  clear c4
  by_cases c5 : (t157 : Int).toNat ≤ 35184372088832
  ·rw [if_pos c5] at H
   have c5b0 := eq_true c5
   have c5b1 : decide ((t157 : Int).toNat ≤ 35184372088832) = true := decide_eq_true c5
   clear c5
   obtain ⟨y158, hy158⟩ : ∃ y_ : List Int, y_ = (List.replicate (t157 : Int).toNat 0) := ⟨_, rfl⟩
   replace H : ((spec_SplitByte.f k a0 32).bind fun t162 => (spec_ParseLin.l0 k a0 l1 t162 0 0 y158)) = some (r1, r2, r3) := by first | (rw [hy158]; with_reducible exact H) | (have H2_ := (Option.bind_some _ _).symm.trans H; rw [hy158]; with_reducible exact H2_) | (have H2_ := (Option.bind_some _ _).symm.trans H; with_reducible exact H2_) | with_reducible exact H | (rw [hy158]; exact H) | exact H
   have Ny158 := Aside0.mk hy158
   clear hy158
   replace H := Option.bind_eq_some_iff.mp H
   obtain ⟨t162, A60, H⟩ := H
   replace H : (spec_ParseLin.l0 k a0 l1 t162 0 0 y158) = some (r1, r2, r3) := H
   have A6 := Aside0.mk A60
   clear A60
   have H' := Aside0.mk H
   clear H
   go_enter Tryz.func7, Tryz.ntmps7
   go_wp2_with (first | ((with_reducible refine gate_dst (N := 4) rfl ?_); refine box_event ?hg (N := 4) ?hd (cs := #[.int .i64 0, .slice none 0 0]) (t := 26) ?hr ?_; (case hd => rfl); (case hg => rfl); (case hr => first | (go_simp; done) | (go_simp; rfl)); intro gb156 hg w7 hbox hb; have BK156 := Aside0.mk (hbox); have GW156 := gw hg HB; have GE156 := gw hg HB; replace HB := bs HB hb; clear hb hbox hg) | ((with_reducible refine gate_callee (f := 25) rfl ?_); refine gl (some 16) rfl rfl Tryz.func25 (by kernel_rfl) rfl #[.int .i64 (l1.length : Int), .int .i64 8] rfl ?_; (with_reducible refine (spec_l1Min.calls (l1.length : Int) 8 t157 _ A3.out).mono ?_); rintro e w' ⟨rfl, ⟨nd, rfl⟩⟩; refine ⟨_, rfl, ?_⟩; (try (rw [drewN_self w7]; generalize hq_ : World.drewN w7 _ = w7; have n0_ : Aside0 (w7.heap[gb156]? = some (.cells #[.int .i64 0, .slice none 0 0] 26 (0, 0))) := ⟨by rw [← hq_]; exact (mb BK156)⟩; have n1_ : Aside0 (Below w.heap.size w w7) := ⟨by rw [← hq_]; exact (ms HB)⟩; clear BK156 HB hq_; have BK156 := n0_; have HB := n1_; clear n0_ n1_))) | ((with_reducible refine gate_dst (N := 17) rfl ?_); refine Kd.R_make (Kd.int .i64) _ 3 rfl (N := 17) rfl 24 _ _ rfl t157 rfl rfl Tryz.underlying24 (.int .i64 0) 8 info3 rfl (by decide) (by omega) 0 (ok := fun _ => True) (okp := fun _ => True) rfl (fun _ hk => hk) trivial (of_decide_eq_true (by first | (with_reducible assumption) | assumption)) (Nat.le_trans (Nat.mul_le_mul_right _ (of_decide_eq_true (by first | (with_reducible assumption) | assumption) : t157.toNat ≤ 35184372088832)) (by omega)) (Below.refl _ _) (Nat.le_refl _) ?_; intro v159 w8 ho9 hb hg_ hnew_; clear hg_ hnew_; (first | rw [← Ny158.out] at ho9 | (simp only [Int.reduceToNat] at ho9; rw [← Ny158.out] at ho9)); have HO160 := Aside0.mk (Kd.R_lower ho9 (below_size (ms HB))); replace BK156 := bb BK156 hb; replace HB := bs HB hb; clear hb ho9; obtain ⟨Ao10, co10, eo10⟩ := Kd.R_slice HO160.out; subst eo10) | ((with_reducible refine gate_dst (N := 6) rfl ?_); refine box_event ?hg (N := 6) ?hd (cs := #[.int .i64 0, .slice none 0 0]) (t := 26) ?hr ?_; (case hd => rfl); (case hg => rfl); (case hr => first | (go_simp; done) | (go_simp; rfl)); intro gb161 hg w11 hbox hb; replace HO160 := rb HO160 hb; have BK161 := Aside0.mk (hbox); have GW161 := gw hg HB; have GE161 := gw hg HB; replace HB := bs HB hb; have NB156_161 := nl hg BK156; have NB161_156 := ng hg BK156; replace BK156 := bb BK156 hb; clear hb hbox hg; have hnb12 := NB161_156.out; have hnc12 := NB156_161.out; obtain ⟨hcz13_0, hcz13_1⟩ := c2 BK161; have hfz13_0 := blk_frozen BK161.out 0; have hfz13_1 := blk_frozen BK161.out 1) | ((with_reducible refine gate_callee (f := 26) rfl ?_); refine gl (some 20) rfl rfl Tryz.func26 (by kernel_rfl) rfl #[.string a0, .int .u8 32] rfl ?_; (with_reducible refine (spec_SplitByte.calls k a0 32 t162 _ A6.out).mono ?_); rintro e w14 ⟨v163, rfl, ho0, hb⟩; refine ⟨_, rfl, ?_⟩; have n0_ := Aside0.mk (Kd.R_below (by (with_reducible repeat (first | apply Kd.R_alloc | apply Kd.R_drewN | apply Kd.R_drew)); exact (Kd.R_mono (Kd.R_far (p := ⟨gb161, 1, none⟩) (Kd.R_far (p := ⟨gb161, 0, none⟩) (Kd.R_types HO160.out BK161.out (by decide)) (fun _ hk => hk.2) (.int .i64 0)) (fun _ hk => hk.2) (.slice Ao10 y158.length co10)) (fun _ h_ => h_.1))) hb); have n1_ := Aside0.mk (Kd.R_lower ho0 (below_size (ms HB))); have n2_ := bf BK156 hb; have n3_ := Aside0.mk (blk_below (g := gb161) (o := .cells #[.int .i64 0, .slice Ao10 y158.length co10] 26 (0, 0)) (by (with_reducible repeat (first | refine blk_drewN ?_ _ | refine blk_drew ?_ | refine blk_alloc ?_ _)); refine blk_put (cs := #[.int .i64 0, .slice none 0 0]) ?_ 1 _ rfl; (with_reducible repeat (first | refine blk_drewN ?_ _ | refine blk_drew ?_ | refine blk_alloc ?_ _)); refine blk_put (cs := #[.int .i64 0, .slice none 0 0]) ?_ 0 _ rfl; (with_reducible repeat (first | refine blk_drewN ?_ _ | refine blk_drew ?_ | refine blk_alloc ?_ _)); exact BK161.out) hb); have n4_ := bs HB hb; clear HO160 BK156 BK161 HB; have HO160 := n0_; have HO164 := n1_; have BK156 := n2_; have BK161 := n3_; have HB := n4_; clear n0_ n1_ n2_ n3_ n4_; (try clear hb); (try clear ho0)))
   go_loopg [8] k (fun kq v8 w' => ∃ (x8_1 : Int) (x162000_1 : Int) (x162001_1 : List Int) (u162001 : Value), v8 = .int .i64 x8_1 ∧ Aside0 (spec_ParseLin.l0 kq a0 l1 t162 x8_1 x162000_1 x162001_1 = some (r1, r2, r3)) ∧ Aside0 (kq ≤ k) ∧ Aside0 (Kd.R Kd.string 9 w' w.heap.size (fun _ => True) v163 t162) ∧ Aside0 (Kd.R (Kd.int .i64) 3 w' w.heap.size (fun _ => True) u162001 x162001_1) ∧ Aside0 (w'.heap[gb156]? = some (.cells #[.int .i64 0, (.slice none 0 0)] 26 (0, 0))) ∧ Aside0 (w'.heap[gb161]? = some (.cells #[.int .i64 x162000_1, u162001] 26 (0, 0))) ∧ Aside0 (Below w.heap.size w w'))
   case atStart => exact ⟨(0), (0), (y158), (.slice Ao10 y158.length co10), (by first | rfl | (simp; done) | (simp [*]; done)), H', ⟨Nat.le_refl _⟩, ⟨by (with_reducible repeat (first | apply Kd.R_alloc | apply Kd.R_drewN | apply Kd.R_drew)); exact HO164.out⟩, ⟨by (with_reducible repeat (first | apply Kd.R_alloc | apply Kd.R_drewN | apply Kd.R_drew)); exact HO160.out⟩, ⟨mb BK156⟩, ⟨mb BK161⟩, ⟨ms HB⟩⟩
   case round =>
    clear H'
    try clear c1
    try clear c2
    try clear p2
    try clear c4
    try clear c4b0
    try clear c4b1
    try clear c5
    try clear c5b0
    try clear c5b1
    try clear c7
    try clear c12
    try clear hcz13_0
    try clear hcz13_1
    try clear hfz13_0
    try clear hfz13_1
    obtain ⟨x8_1, x162000_1, x162001_1, u162001, rfl, HA, HK1, HO_7, HO_162001, BK156, BK161, HB⟩ := hrel
    cases gk with
    | zero => exact absurd HA.out (by simp [spec_ParseLin.l0])
    | succ k1 =>
     have H := HA.out
     clear HA
     simp only [spec_ParseLin.l0] at H
     by_cases c15 : x8_1 < (t162.length : Int)
     ·rw [if_pos c15] at H
      have c15b0 : decide (x8_1 < (t162.length : Int)) = true := decide_eq_true c15
      clear c15
      by_cases c16 : 0 ≤ x8_1
      ·rw [if_pos c16] at H
       have c16b0 : decide (0 ≤ x8_1) = true := decide_eq_true c16
       clear c16
       have HC17 := Aside0.mk H
       clear H
       obtain ⟨Ao18, co18, eo18⟩ := Kd.R_slice HO_7.out
       subst eo18
       have p166 : 0 ≤ (x8_1 : Int) := of_decide_eq_true (by first | (with_reducible assumption) | assumption)
       have q166 : x8_1 < (t162.length : Int) := of_decide_eq_true (by first | (with_reducible assumption) | assumption)
       obtain ⟨ad166, e166, hx166_0⟩ := Kd.at_string (Kd.R_reads' HO_7.out).2.2 x8_1 p166 q166
       cases e166
       replace p166 := eq_true p166
       replace q166 := eq_true q166
       go_upto_region 8 with (fail)
       go_cut [42] (fun v42 wc => ∃ (kq : Nat) (x42_16 : Bool), v42 = .bool x42_16 ∧ Aside0 (spec_ParseLin.j1 kq a0 l1 t162 x8_1 (rdOf ByteArray.empty t162 x8_1) 1 x42_16 x162000_1 x162001_1 = some (r1, r2, r3)) ∧ Aside0 (kq ≤ k1) ∧ Aside0 (Kd.R Kd.string 9 wc w.heap.size (fun _ => True) (.slice (some ad166) t162.length co18) t162) ∧ Aside0 (Kd.R (Kd.int .i64) 3 wc w.heap.size (fun _ => True) u162001 x162001_1) ∧ Aside0 (wc.heap[gb156]? = some (.cells #[.int .i64 0, (.slice none 0 0)] 26 (0, 0))) ∧ Aside0 (wc.heap[gb161]? = some (.cells #[.int .i64 x162000_1, u162001] 26 (0, 0))) ∧ Aside0 (Below w.heap.size w wc))
       case first =>
        have H := HC17.out
        clear HC17
        by_cases c19 : x8_1 = 0
        ·rw [if_pos c19] at H
         have c19b0 : (x8_1 == 0) = true := beq_iff_eq.mpr c19
         have c19b1 : (x8_1 != 0) = false := bne_eq_false_iff_eq.mpr c19
         clear c19
         (first | rw [c19b0] | (simp only [i64_w, i32_w]; rw [c19b0]) | skip)
         by_cases c20 : ((rdOf ByteArray.empty t162 x8_1).size : Int) > 0
         ·rw [if_pos c20] at H
          have c20b0 : decide (0 < ((rdOf ByteArray.empty t162 x8_1).size : Int)) = true := decide_eq_true c20
          have c20b1 : decide (0 < (rdOf ByteArray.empty t162 x8_1).size) = true := decide_eq_true (by omega)
          clear c20
          by_cases c21 : 0 < ((rdOf ByteArray.empty t162 x8_1).size : Int)
          ·rw [if_pos c21] at H
           have c21b0 : decide (0 < ((rdOf ByteArray.empty t162 x8_1).size : Int)) = true := decide_eq_true c21
           have c21b1 : decide (0 < (rdOf ByteArray.empty t162 x8_1).size) = true := decide_eq_true (by omega)
           clear c21
           have H' := Aside0.mk H
           clear H
           have p22 : 0 ≤ (0 : Int) := (by omega)
           have q22 : 0 < (rdOf ByteArray.empty t162 x8_1).size := (by have : (0 : Int) < ((rdOf ByteArray.empty t162 x8_1).size : Int) := of_decide_eq_true (by first | (with_reducible assumption) | assumption); omega)
           have hx22 : ∀ h : 0 < (rdOf ByteArray.empty t162 x8_1).size, (((rdOf ByteArray.empty t162 x8_1)[0]'h).toNat : Int) = bt (rdOf ByteArray.empty t162 x8_1) 0 := bt_at (rdOf ByteArray.empty t162 x8_1) 0
           clear p22
           have qi22 : (0 < ((rdOf ByteArray.empty t162 x8_1).size : Int)) = True := eq_true (of_decide_eq_true (by first | (with_reducible assumption) | assumption))
           replace q22 := eq_true q22
           go_wp2
           go_meet
           case rel => exact ⟨_, (((bt (rdOf ByteArray.empty t162 x8_1) 0) == 45)), (by first | rfl | (simp; done) | (simp [*]; done)), H', ⟨by have := HK1.out; first | omega | exact Nat.le_refl _⟩, ⟨by (with_reducible repeat (first | apply Kd.R_alloc | apply Kd.R_drewN | apply Kd.R_drew)); exact HO_7.out⟩, ⟨by (with_reducible repeat (first | apply Kd.R_alloc | apply Kd.R_drewN | apply Kd.R_drew)); exact HO_162001.out⟩, ⟨mb BK156⟩, ⟨mb BK161⟩, ⟨ms HB⟩⟩
          ·rw [if_neg c21] at H
           exact absurd H (by simp)
         ·rw [if_neg c20] at H
          have c20b0 : decide (0 < ((rdOf ByteArray.empty t162 x8_1).size : Int)) = false := decide_eq_false c20
          have c20b1 : decide (0 < (rdOf ByteArray.empty t162 x8_1).size) = false := decide_eq_false (by omega)
          clear c20
          have H' := Aside0.mk H
          clear H
          go_wp2
          go_meet
          case rel => exact ⟨_, (false), (by first | rfl | (simp; done) | (simp [*]; done)), H', ⟨by have := HK1.out; first | omega | exact Nat.le_refl _⟩, ⟨by (with_reducible repeat (first | apply Kd.R_alloc | apply Kd.R_drewN | apply Kd.R_drew)); exact HO_7.out⟩, ⟨by (with_reducible repeat (first | apply Kd.R_alloc | apply Kd.R_drewN | apply Kd.R_drew)); exact HO_162001.out⟩, ⟨mb BK156⟩, ⟨mb BK161⟩, ⟨ms HB⟩⟩
        ·rw [if_neg c19] at H
         have c19b0 : (x8_1 == 0) = false := beq_eq_false_iff_ne.mpr c19
         have c19b1 : (x8_1 != 0) = true := bne_iff_ne.mpr c19
         (first | rw [c19b0] | (simp only [i64_w, i32_w]; rw [c19b0]) | skip)
         have H' := Aside0.mk H
         clear H
         go_wp2
         go_meet
         case rel => exact ⟨_, (false), (by first | rfl | (simp; done) | (simp [*]; done)), H', ⟨by have := HK1.out; first | omega | exact Nat.le_refl _⟩, ⟨by (with_reducible repeat (first | apply Kd.R_alloc | apply Kd.R_drewN | apply Kd.R_drew)); exact HO_7.out⟩, ⟨by (with_reducible repeat (first | apply Kd.R_alloc | apply Kd.R_drewN | apply Kd.R_drew)); exact HO_162001.out⟩, ⟨mb BK156⟩, ⟨mb BK161⟩, ⟨ms HB⟩⟩
       case rest =>
        clear HC17
        try clear c1
        try clear p1
        try clear q1
        try clear hx1
        try clear c2
        try clear p2
        try clear q2
        try clear hx2
        try clear qi2
        try clear c4
        try clear c4b0
        try clear c4b1
        try clear c5
        try clear c5b0
        try clear c5b1
        try clear c7
        try clear c12
        try clear c15
        try clear c15b0
        try clear c16
        try clear c16b0
        try clear p16
        try clear q16
        try clear hx16
        try clear c19
        try clear c19b0
        try clear c19b1
        try clear c20
        try clear c20b0
        try clear c20b1
        try clear c21
        try clear c21b0
        try clear c21b1
        try clear p22
        try clear q22
        try clear hx22
        try clear qi22
        try clear hcz13_0
        try clear hcz13_1
        try clear hfz13_0
        try clear hfz13_1
        try clear hx166_0
        try clear p166
        try clear p2
        try clear p22
        try clear q166
        try clear q22
        obtain ⟨kq, x42_16, rfl, HA, HJ16, HO_7, HO_162001, BK156, BK161, HB⟩ := hcut
        cases kq with
        | zero => exact absurd HA.out (by simp [spec_ParseLin.j1])
        | succ kj16 =>
         have H := HA.out
         clear HA
         simp only [spec_ParseLin.j1] at H
         have HC23 := Aside0.mk H
         clear H
         go_upto_if 42 with (fail)
         go_cut [9, 10] (fun v9 v10 wc => ∃ (kq : Nat) (x9_22 : ByteArray) (x10_22 : Int), v9 = .string x9_22 ∧ v10 = .int .i64 x10_22 ∧ Aside0 (spec_ParseLin.j2 kq a0 l1 t162 x8_1 x9_22 x10_22 x162000_1 x162001_1 = some (r1, r2, r3)) ∧ Aside0 (kq ≤ kj16) ∧ Aside0 (Kd.R Kd.string 9 wc w.heap.size (fun _ => True) (.slice (some ad166) t162.length co18) t162) ∧ Aside0 (Kd.R (Kd.int .i64) 3 wc w.heap.size (fun _ => True) u162001 x162001_1) ∧ Aside0 (wc.heap[gb156]? = some (.cells #[.int .i64 0, (.slice none 0 0)] 26 (0, 0))) ∧ Aside0 (wc.heap[gb161]? = some (.cells #[.int .i64 x162000_1, u162001] 26 (0, 0))) ∧ Aside0 (Below w.heap.size w wc))
         case first =>
          have H := HC23.out
          clear HC23
          by_cases c24 : x42_16 = true
          ·subst c24
           have H1 : (if 1 ≤ ((rdOf ByteArray.empty t162 x8_1).size : Int) then (spec_ParseLin.j2 kj16 a0 l1 t162 x8_1 ((rdOf ByteArray.empty t162 x8_1).extract 1 (rdOf ByteArray.empty t162 x8_1).size) (-1) x162000_1 x162001_1) else (none)) = some (r1, r2, r3) := by rw [if_pos rfl] at H; exact H
           clear H
           have H := H1
           clear H1
           by_cases c25 : 1 ≤ ((rdOf ByteArray.empty t162 x8_1).size : Int)
           ·rw [if_pos c25] at H
            have c25b0 := eq_true c25
            have c25b1 : decide (1 ≤ ((rdOf ByteArray.empty t162 x8_1).size : Int)) = true := decide_eq_true c25
            clear c25
            have H' := Aside0.mk H
            clear H
            go_wp2
            go_meet
            case rel => exact ⟨_, ((rdOf ByteArray.empty t162 x8_1).extract 1 (rdOf ByteArray.empty t162 x8_1).size), ((-1)), (by first | rfl | (simp; done) | (simp [*]; done)), (by first | rfl | (simp; done) | (simp [*]; done)), H', ⟨by have := HK1.out; have := HJ16.out; first | omega | exact Nat.le_refl _⟩, ⟨by (with_reducible repeat (first | apply Kd.R_alloc | apply Kd.R_drewN | apply Kd.R_drew)); exact HO_7.out⟩, ⟨by (with_reducible repeat (first | apply Kd.R_alloc | apply Kd.R_drewN | apply Kd.R_drew)); exact HO_162001.out⟩, ⟨mb BK156⟩, ⟨mb BK161⟩, ⟨ms HB⟩⟩
           ·rw [if_neg c25] at H
            exact absurd H (by simp)
          ·replace c24 := Bool.eq_false_iff.mpr c24
           subst c24
           have H1 : (spec_ParseLin.j2 kj16 a0 l1 t162 x8_1 (rdOf ByteArray.empty t162 x8_1) 1 x162000_1 x162001_1) = some (r1, r2, r3) := by rw [if_neg (show ¬ (false = true) by decide)] at H; exact H
           clear H
           have H := H1
           clear H1
           have H' := Aside0.mk H
           clear H
           go_wp2
           go_meet
           case rel => exact ⟨_, ((rdOf ByteArray.empty t162 x8_1)), (1), (by first | rfl | (simp; done) | (simp [*]; done)), (by first | rfl | (simp; done) | (simp [*]; done)), H', ⟨by have := HK1.out; have := HJ16.out; first | omega | exact Nat.le_refl _⟩, ⟨by (with_reducible repeat (first | apply Kd.R_alloc | apply Kd.R_drewN | apply Kd.R_drew)); exact HO_7.out⟩, ⟨by (with_reducible repeat (first | apply Kd.R_alloc | apply Kd.R_drewN | apply Kd.R_drew)); exact HO_162001.out⟩, ⟨mb BK156⟩, ⟨mb BK161⟩, ⟨ms HB⟩⟩
         case rest =>
          clear HC23
          try clear c1
          try clear p1
          try clear q1
          try clear hx1
          try clear c2
          try clear p2
          try clear q2
          try clear hx2
          try clear qi2
          try clear c4
          try clear c4b0
          try clear c4b1
          try clear c5
          try clear c5b0
          try clear c5b1
          try clear c7
          try clear c12
          try clear c15
          try clear c15b0
          try clear c16
          try clear c16b0
          try clear p16
          try clear q16
          try clear hx16
          try clear c19
          try clear c19b0
          try clear c19b1
          try clear c20
          try clear c20b0
          try clear c20b1
          try clear c21
          try clear c21b0
          try clear c21b1
          try clear p22
          try clear q22
          try clear hx22
          try clear qi22
          try clear c24
          try clear c25
          try clear c25b0
          try clear c25b1
          try clear hcz13_0
          try clear hcz13_1
          try clear hfz13_0
          try clear hfz13_1
          try clear hx166_0
          try clear p1
          try clear p16
          try clear p166
          try clear p2
          try clear p22
          try clear q1
          try clear q16
          try clear q166
          try clear q2
          try clear q22
          obtain ⟨kq, x9_22, x10_22, rfl, rfl, HA, HJ22, HO_7, HO_162001, BK156, BK161, HB⟩ := hcut
          cases kq with
          | zero => exact absurd HA.out (by simp [spec_ParseLin.j2])
          | succ kj22 =>
           have H := HA.out
           clear HA
           simp only [spec_ParseLin.j2] at H
           have HC26 := Aside0.mk H
           clear H
           go_upto_region 11 with (fail)
           go_cut [54] (fun v54 wc => ∃ (kq : Nat) (x54_25 : Bool), v54 = .bool x54_25 ∧ Aside0 (spec_ParseLin.j3 kq a0 l1 t162 x8_1 x9_22 x10_22 x54_25 x162000_1 x162001_1 = some (r1, r2, r3)) ∧ Aside0 (kq ≤ kj22) ∧ Aside0 (Kd.R Kd.string 9 wc w.heap.size (fun _ => True) (.slice (some ad166) t162.length co18) t162) ∧ Aside0 (Kd.R (Kd.int .i64) 3 wc w.heap.size (fun _ => True) u162001 x162001_1) ∧ Aside0 (wc.heap[gb156]? = some (.cells #[.int .i64 0, (.slice none 0 0)] 26 (0, 0))) ∧ Aside0 (wc.heap[gb161]? = some (.cells #[.int .i64 x162000_1, u162001] 26 (0, 0))) ∧ Aside0 (Below w.heap.size w wc))
           case first =>
            have H := HC26.out
            clear HC26
            by_cases c27 : x8_1 > 0
            ·rw [if_pos c27] at H
             have c27b0 : decide (0 < x8_1) = true := decide_eq_true c27
             clear c27
             (first | rw [c27b0] | (simp only [i64_w, i32_w]; rw [c27b0]) | skip)
             obtain ⟨ji28, hji28⟩ : ∃ j_ : Int, (wrap64 (x8_1 - 1)) = j_ := ⟨_, rfl⟩
             replace H : (if 0 ≤ (ji28) then (if (ji28) < (t162.length : Int) then (spec_ParseLin.j3 kj22 a0 l1 t162 x8_1 x9_22 x10_22 ((rdOf ByteArray.empty t162 (ji28)).toList == ([45] : List UInt8)) x162000_1 x162001_1) else (none)) else (none)) = some (r1, r2, r3) := by first | (rw [hji28] at H; exact H) | (simp only [hji28] at H ⊢; exact H)
             have hji28w : (IntKind.i64.wrap (x8_1 - 1)) = ji28 := (i64_w _).trans hji28
             by_cases c29 : 0 ≤ (ji28)
             ·rw [if_pos c29] at H
              have c29b0 : decide (0 ≤ (ji28)) = true := decide_eq_true c29
              clear c29
              by_cases c30 : (ji28) < (t162.length : Int)
              ·rw [if_pos c30] at H
               have c30b0 : decide ((ji28) < (t162.length : Int)) = true := decide_eq_true c30
               clear c30
               have H' := Aside0.mk H
               clear H
               have p167 : 0 ≤ ((ji28) : Int) := of_decide_eq_true (by first | (with_reducible assumption) | assumption)
               have q167 : (ji28) < (t162.length : Int) := of_decide_eq_true (by first | (with_reducible assumption) | assumption)
               obtain ⟨ad167, e167, hx167_0⟩ := Kd.at_string (Kd.R_reads' HO_7.out).2.2 (ji28) p167 q167
               obtain rfl : ad166 = ad167 := (by injection e167)
               replace p167 := eq_true p167
               replace q167 := eq_true q167
               go_wp2
               go_meet
               case rel => exact ⟨_, (((rdOf ByteArray.empty t162 (ji28)).toList == ([45] : List UInt8))), (by first | rfl | (simp; done) | (simp only [← hji28] <;> (first | rfl | simp)) | (simp [*]; done)), H', ⟨by have := HK1.out; have := HJ16.out; have := HJ22.out; first | omega | exact Nat.le_refl _⟩, ⟨by (with_reducible repeat (first | apply Kd.R_alloc | apply Kd.R_drewN | apply Kd.R_drew)); exact HO_7.out⟩, ⟨by (with_reducible repeat (first | apply Kd.R_alloc | apply Kd.R_drewN | apply Kd.R_drew)); exact HO_162001.out⟩, ⟨mb BK156⟩, ⟨mb BK161⟩, ⟨ms HB⟩⟩
              ·rw [if_neg c30] at H
               exact absurd H (by simp)
             ·rw [if_neg c29] at H
              exact absurd H (by simp)
            ·rw [if_neg c27] at H
             have c27b0 : decide (0 < x8_1) = false := decide_eq_false c27
             clear c27
             (first | rw [c27b0] | (simp only [i64_w, i32_w]; rw [c27b0]) | skip)
             have H' := Aside0.mk H
             clear H
             go_wp2
             go_meet
             case rel => exact ⟨_, (false), (by first | rfl | (simp; done) | (simp [*]; done)), H', ⟨by have := HK1.out; have := HJ16.out; have := HJ22.out; first | omega | exact Nat.le_refl _⟩, ⟨by (with_reducible repeat (first | apply Kd.R_alloc | apply Kd.R_drewN | apply Kd.R_drew)); exact HO_7.out⟩, ⟨by (with_reducible repeat (first | apply Kd.R_alloc | apply Kd.R_drewN | apply Kd.R_drew)); exact HO_162001.out⟩, ⟨mb BK156⟩, ⟨mb BK161⟩, ⟨ms HB⟩⟩
           case rest =>
            clear HC26
            try clear c1
            try clear p1
            try clear q1
            try clear hx1
            try clear c2
            try clear p2
            try clear q2
            try clear hx2
            try clear qi2
            try clear c3
            try clear c4
            try clear c4b0
            try clear c4b1
            try clear c5
            try clear c5b0
            try clear c5b1
            try clear p6
            try clear c7
            try clear c12
            try clear c15
            try clear c15b0
            try clear c16
            try clear c16b0
            try clear p16
            try clear q16
            try clear hx16
            try clear c19
            try clear c19b0
            try clear c19b1
            try clear c20
            try clear c20b0
            try clear c20b1
            try clear c21
            try clear c21b0
            try clear c21b1
            try clear p22
            try clear q22
            try clear hx22
            try clear qi22
            try clear c24
            try clear c25
            try clear c25b0
            try clear c25b1
            try clear c26
            try clear c27
            try clear c27b0
            try clear c29
            try clear c29b0
            try clear c30
            try clear c30b0
            try clear hcz13_0
            try clear hcz13_1
            try clear hfz13_0
            try clear hfz13_1
            try clear hx166_0
            try clear hx167_0
            try clear p1
            try clear p16
            try clear p166
            try clear p167
            try clear p2
            try clear p22
            try clear q1
            try clear q16
            try clear q166
            try clear q167
            try clear q2
            try clear q22
            obtain ⟨kq, x54_25, rfl, HA, HJ25, HO_7, HO_162001, BK156, BK161, HB⟩ := hcut
            cases kq with
            | zero => exact absurd HA.out (by simp [spec_ParseLin.j3])
            | succ kj25 =>
             have H := HA.out
             clear HA
             simp only [spec_ParseLin.j3] at H
             have HC31 := Aside0.mk H
             clear H
             go_upto_if 54 with (fail)
             go_cut [10] (fun v10 wc => ∃ (kq : Nat) (x10_30 : Int), v10 = .int .i64 x10_30 ∧ Aside0 (spec_ParseLin.j4 kq a0 l1 t162 x8_1 x9_22 x10_30 x162000_1 x162001_1 = some (r1, r2, r3)) ∧ Aside0 (kq ≤ kj25) ∧ Aside0 (Kd.R Kd.string 9 wc w.heap.size (fun _ => True) (.slice (some ad166) t162.length co18) t162) ∧ Aside0 (Kd.R (Kd.int .i64) 3 wc w.heap.size (fun _ => True) u162001 x162001_1) ∧ Aside0 (wc.heap[gb156]? = some (.cells #[.int .i64 0, (.slice none 0 0)] 26 (0, 0))) ∧ Aside0 (wc.heap[gb161]? = some (.cells #[.int .i64 x162000_1, u162001] 26 (0, 0))) ∧ Aside0 (Below w.heap.size w wc))
             case first =>
              have H := HC31.out
              clear HC31
              by_cases c32 : x54_25 = true
              ·subst c32
               have H1 : (spec_ParseLin.j4 kj25 a0 l1 t162 x8_1 x9_22 (-1) x162000_1 x162001_1) = some (r1, r2, r3) := by rw [if_pos rfl] at H; exact H
               clear H
               have H := H1
               clear H1
               have H' := Aside0.mk H
               clear H
               go_wp2
               go_meet
               case rel => exact ⟨_, ((-1)), (by first | rfl | (simp; done) | (simp [*]; done)), H', ⟨by have := HK1.out; have := HJ16.out; have := HJ22.out; have := HJ25.out; first | omega | exact Nat.le_refl _⟩, ⟨by (with_reducible repeat (first | apply Kd.R_alloc | apply Kd.R_drewN | apply Kd.R_drew)); exact HO_7.out⟩, ⟨by (with_reducible repeat (first | apply Kd.R_alloc | apply Kd.R_drewN | apply Kd.R_drew)); exact HO_162001.out⟩, ⟨mb BK156⟩, ⟨mb BK161⟩, ⟨ms HB⟩⟩
              ·replace c32 := Bool.eq_false_iff.mpr c32
               subst c32
               have H1 : (spec_ParseLin.j4 kj25 a0 l1 t162 x8_1 x9_22 x10_22 x162000_1 x162001_1) = some (r1, r2, r3) := by rw [if_neg (show ¬ (false = true) by decide)] at H; exact H
               clear H
               have H := H1
               clear H1
               have H' := Aside0.mk H
               clear H
               go_wp2
               go_meet
               case rel => exact ⟨_, (x10_22), (by first | rfl | (simp; done) | (simp [*]; done)), H', ⟨by have := HK1.out; have := HJ16.out; have := HJ22.out; have := HJ25.out; first | omega | exact Nat.le_refl _⟩, ⟨by (with_reducible repeat (first | apply Kd.R_alloc | apply Kd.R_drewN | apply Kd.R_drew)); exact HO_7.out⟩, ⟨by (with_reducible repeat (first | apply Kd.R_alloc | apply Kd.R_drewN | apply Kd.R_drew)); exact HO_162001.out⟩, ⟨mb BK156⟩, ⟨mb BK161⟩, ⟨ms HB⟩⟩
             case rest =>
              clear HC31
              try clear c1
              try clear p1
              try clear q1
              try clear hx1
              try clear c2
              try clear p2
              try clear q2
              try clear hx2
              try clear qi2
              try clear c3
              try clear c4
              try clear c4b0
              try clear c4b1
              try clear c5
              try clear c5b0
              try clear c5b1
              try clear p6
              try clear c7
              try clear c12
              try clear c15
              try clear c15b0
              try clear c16
              try clear c16b0
              try clear p16
              try clear q16
              try clear hx16
              try clear c19
              try clear c19b0
              try clear c19b1
              try clear c20
              try clear c20b0
              try clear c20b1
              try clear c21
              try clear c21b0
              try clear c21b1
              try clear p22
              try clear q22
              try clear hx22
              try clear qi22
              try clear c24
              try clear c25
              try clear c25b0
              try clear c25b1
              try clear c26
              try clear c27
              try clear c27b0
              try clear c29
              try clear c29b0
              try clear c30
              try clear c30b0
              try clear c32
              try clear hcz13_0
              try clear hcz13_1
              try clear hfz13_0
              try clear hfz13_1
              try clear hx166_0
              try clear hx167_0
              try clear p1
              try clear p16
              try clear p166
              try clear p167
              try clear p2
              try clear p22
              try clear p6
              try clear q1
              try clear q16
              try clear q166
              try clear q167
              try clear q2
              try clear q22
              obtain ⟨kq, x10_30, rfl, HA, HJ30, HO_7, HO_162001, BK156, BK161, HB⟩ := hcut
              cases kq with
              | zero => exact absurd HA.out (by simp [spec_ParseLin.j4])
              | succ kj30 =>
               have H := HA.out
               clear HA
               simp only [spec_ParseLin.j4] at H
               replace H := Option.bind_eq_some_iff.mp H
               obtain ⟨⟨t168, t169⟩, A330, H⟩ := H
               replace H : ((spec_IndexOf.f kj30 l1 t169).bind fun t170 => (if t169.toList = ([] : List UInt8) then (spec_ParseLin.l0 kj30 a0 l1 t162 (wrap64 (x8_1 + 2)) (wrap64 (x10_30 * t168)) x162001_1) else ((spec_l1In.f t170 0 (wrap64 ((x162001_1.length : Int) - 1))).bind fun t171 => (if t171 = true then (if 0 ≤ t170 then (if t170 < (x162001_1.length : Int) then (spec_ParseLin.l0 kj30 a0 l1 t162 (wrap64 (x8_1 + 2)) x162000_1 (x162001_1.set (t170 : Int).toNat (wrap64 (x10_30 * t168)))) else (none)) else (none)) else (spec_ParseLin.l0 kj30 a0 l1 t162 (wrap64 (x8_1 + 2)) x162000_1 x162001_1))))) = some (r1, r2, r3) := H
               have A33 := Aside0.mk A330
               clear A330
               replace H := Option.bind_eq_some_iff.mp H
               obtain ⟨t170, A340, H⟩ := H
               replace H : (if t169.toList = ([] : List UInt8) then (spec_ParseLin.l0 kj30 a0 l1 t162 (wrap64 (x8_1 + 2)) (wrap64 (x10_30 * t168)) x162001_1) else ((spec_l1In.f t170 0 (wrap64 ((x162001_1.length : Int) - 1))).bind fun t171 => (if t171 = true then (if 0 ≤ t170 then (if t170 < (x162001_1.length : Int) then (spec_ParseLin.l0 kj30 a0 l1 t162 (wrap64 (x8_1 + 2)) x162000_1 (x162001_1.set (t170 : Int).toNat (wrap64 (x10_30 * t168)))) else (none)) else (none)) else (spec_ParseLin.l0 kj30 a0 l1 t162 (wrap64 (x8_1 + 2)) x162000_1 x162001_1)))) = some (r1, r2, r3) := H
               have A34 := Aside0.mk A340
               clear A340
               by_cases c35 : t169.toList = ([] : List UInt8)
               ·rw [if_pos c35] at H
                have c35b0 : (t169.toList == ([] : List UInt8)) = true := beq_iff_eq.mpr c35
                have c35b1 : (t169.toList != ([] : List UInt8)) = false := bne_eq_false_iff_eq.mpr c35
                clear c35
                have H' := Aside0.mk H
                clear H
                go_wp2_with (first | ((with_reducible refine gate_callee (f := 27) rfl ?_); refine gl (some 57) rfl rfl Tryz.func27 (by kernel_rfl) rfl #[.string x9_22] rfl ?_; (with_reducible refine (spec_l5Word.calls kj30 x9_22 t168 t169 _ A33.out).mono ?_); rintro e w36 ⟨rfl, hb⟩; refine ⟨_, rfl, ?_⟩; replace HO_7 := rb HO_7 hb; replace HO_162001 := rb HO_162001 hb; replace BK156 := bb BK156 hb; replace BK161 := bb BK161 hb; replace HB := bs HB hb; (try clear hb)) | ((with_reducible refine gate_callee (f := 28) rfl ?_); refine gl (some 62) rfl rfl Tryz.func28 (by kernel_rfl) rfl #[.slice A1 l1.length c1, .string t169] rfl ?_; (with_reducible refine (spec_IndexOf.calls kj30 _ _ l1 t169 t170 _ ?side1 ?side2 A34.out).mono ?_); (case side1 => exact mc ((Kd.C_below HR1.out HB.out))); (case side2 => exact HC1.out); rintro e w' ⟨rfl, ⟨nd, rfl⟩⟩; refine ⟨_, rfl, ?_⟩; (try (rw [drewN_self w36]; generalize hq_ : World.drewN w36 _ = w36; have n0_ : Aside0 (Kd.R (Kd.int .i64) 3 w36 w.heap.size (fun _ => True) u162001 x162001_1) := ⟨by rw [← hq_]; exact (mr HO_162001)⟩; have n1_ : Aside0 (Kd.R Kd.string 9 w36 w.heap.size (fun _ => True) (.slice (some ad166) t162.length co18) t162) := ⟨by rw [← hq_]; exact (mr HO_7)⟩; have n2_ : Aside0 (w36.heap[gb156]? = some (.cells #[.int .i64 0, .slice none 0 0] 26 (0, 0))) := ⟨by rw [← hq_]; exact (mb BK156)⟩; have n3_ : Aside0 (w36.heap[gb161]? = some (.cells #[.int .i64 x162000_1, u162001] 26 (0, 0))) := ⟨by rw [← hq_]; exact (mb BK161)⟩; have n4_ : Aside0 (Below w.heap.size w w36) := ⟨by rw [← hq_]; exact (ms HB)⟩; clear HO_162001 HO_7 BK156 BK161 HB hq_; have HO_162001 := n0_; have HO_7 := n1_; have BK156 := n2_; have BK161 := n3_; have HB := n4_; clear n0_ n1_ n2_ n3_ n4_)); have hnb37 := NB161_156.out; have hnc37 := NB156_161.out; obtain ⟨hcz38_0, hcz38_1⟩ := c2 BK161; have hfz38_0 := blk_frozen BK161.out 0; have hfz38_1 := blk_frozen BK161.out 1))
                go_roundg kj30
                case measure => have := HK1.out; have := HJ16.out; have := HJ22.out; have := HJ25.out; have := HJ30.out; omega
                case rel => exact ⟨(wrap64 (x8_1 + 2)), (wrap64 (x10_30 * t168)), (x162001_1), (u162001), (by first | rfl | (simp; done) | (simp [*]; done)), H', ⟨by have := HK1.out; have := HJ16.out; have := HJ22.out; have := HJ25.out; have := HJ30.out; omega⟩, ⟨by (with_reducible repeat (first | apply Kd.R_alloc | apply Kd.R_drewN | apply Kd.R_drew)); exact Kd.R_mono (Kd.R_far (p := ⟨gb161, 0, none⟩) (Kd.R_types HO_7.out BK161.out (by decide)) (fun _ hk => hk.2) (.int .i64 (wrap64 (x10_30 * t168)))) (fun _ hk => trivial)⟩, ⟨by (with_reducible repeat (first | apply Kd.R_alloc | apply Kd.R_drewN | apply Kd.R_drew)); exact Kd.R_mono (Kd.R_far (p := ⟨gb161, 0, none⟩) (Kd.R_types HO_162001.out BK161.out (by decide)) (fun _ hk => hk.2) (.int .i64 (wrap64 (x10_30 * t168)))) (fun _ hk => trivial)⟩, ⟨by (with_reducible repeat (first | refine blk_drewN ?_ _ | refine blk_drew ?_ | refine blk_alloc ?_ _)); refine blk_far ?_ NB156_161.out _; (with_reducible repeat (first | refine blk_drewN ?_ _ | refine blk_drew ?_ | refine blk_alloc ?_ _)); exact BK156.out⟩, ⟨by (with_reducible repeat (first | refine blk_drewN ?_ _ | refine blk_drew ?_ | refine blk_alloc ?_ _)); refine blk_put (cs := #[.int .i64 x162000_1, u162001]) ?_ 0 _ rfl; (with_reducible repeat (first | refine blk_drewN ?_ _ | refine blk_drew ?_ | refine blk_alloc ?_ _)); exact BK161.out⟩, ⟨ms HB⟩⟩
               ·rw [if_neg c35] at H
                have c35b0 : (t169.toList == ([] : List UInt8)) = false := beq_eq_false_iff_ne.mpr c35
                have c35b1 : (t169.toList != ([] : List UInt8)) = true := bne_iff_ne.mpr c35
                replace H := Option.bind_eq_some_iff.mp H
                obtain ⟨t171, A390, H⟩ := H
                replace H : (if t171 = true then (if 0 ≤ t170 then (if t170 < (x162001_1.length : Int) then (spec_ParseLin.l0 kj30 a0 l1 t162 (wrap64 (x8_1 + 2)) x162000_1 (x162001_1.set (t170 : Int).toNat (wrap64 (x10_30 * t168)))) else (none)) else (none)) else (spec_ParseLin.l0 kj30 a0 l1 t162 (wrap64 (x8_1 + 2)) x162000_1 x162001_1)) = some (r1, r2, r3) := H
                have A39 := Aside0.mk A390
                clear A390
                by_cases c40 : t171 = true
                ·subst c40
                 have H1 : (if 0 ≤ t170 then (if t170 < (x162001_1.length : Int) then (spec_ParseLin.l0 kj30 a0 l1 t162 (wrap64 (x8_1 + 2)) x162000_1 (x162001_1.set (t170 : Int).toNat (wrap64 (x10_30 * t168)))) else (none)) else (none)) = some (r1, r2, r3) := by rw [if_pos rfl] at H; exact H
                 clear H
                 have H := H1
                 clear H1
                 by_cases c41 : 0 ≤ t170
                 ·rw [if_pos c41] at H
                  have c41b0 : decide (0 ≤ t170) = true := decide_eq_true c41
                  clear c41
                  by_cases c42 : t170 < (x162001_1.length : Int)
                  ·rw [if_pos c42] at H
                   have c42b0 : decide (t170 < (x162001_1.length : Int)) = true := decide_eq_true c42
                   clear c42
                   obtain ⟨y172, hy172⟩ : ∃ y_ : List Int, y_ = (x162001_1.set (t170 : Int).toNat (wrap64 (x10_30 * t168))) := ⟨_, rfl⟩
                   replace H : (spec_ParseLin.l0 kj30 a0 l1 t162 (wrap64 (x8_1 + 2)) x162000_1 y172) = some (r1, r2, r3) := by first | (rw [hy172]; with_reducible exact H) | (have H2_ := (Option.bind_some _ _).symm.trans H; rw [hy172]; with_reducible exact H2_) | (have H2_ := (Option.bind_some _ _).symm.trans H; with_reducible exact H2_) | with_reducible exact H | (rw [hy172]; exact H) | exact H
                   have Ny172 := Aside0.mk hy172
                   clear hy172
                   have H' := Aside0.mk H
                   clear H
                   go_wp2_with (first | ((with_reducible refine gate_callee (f := 27) rfl ?_); refine gl (some 57) rfl rfl Tryz.func27 (by kernel_rfl) rfl #[.string x9_22] rfl ?_; (with_reducible refine (spec_l5Word.calls kj30 x9_22 t168 t169 _ A33.out).mono ?_); rintro e w44 ⟨rfl, hb⟩; refine ⟨_, rfl, ?_⟩; replace HO_7 := rb HO_7 hb; replace HO_162001 := rb HO_162001 hb; replace BK156 := bb BK156 hb; replace BK161 := bb BK161 hb; replace HB := bs HB hb; (try clear hb)) | ((with_reducible refine gate_callee (f := 28) rfl ?_); refine gl (some 62) rfl rfl Tryz.func28 (by kernel_rfl) rfl #[.slice A1 l1.length c1, .string t169] rfl ?_; (with_reducible refine (spec_IndexOf.calls kj30 _ _ l1 t169 t170 _ ?side1 ?side2 A34.out).mono ?_); (case side1 => exact mc ((Kd.C_below HR1.out HB.out))); (case side2 => exact HC1.out); rintro e w' ⟨rfl, ⟨nd, rfl⟩⟩; refine ⟨_, rfl, ?_⟩; (try (rw [drewN_self w44]; generalize hq_ : World.drewN w44 _ = w44; have n0_ : Aside0 (Kd.R (Kd.int .i64) 3 w44 w.heap.size (fun _ => True) u162001 x162001_1) := ⟨by rw [← hq_]; exact (mr HO_162001)⟩; have n1_ : Aside0 (Kd.R Kd.string 9 w44 w.heap.size (fun _ => True) (.slice (some ad166) t162.length co18) t162) := ⟨by rw [← hq_]; exact (mr HO_7)⟩; have n2_ : Aside0 (w44.heap[gb156]? = some (.cells #[.int .i64 0, .slice none 0 0] 26 (0, 0))) := ⟨by rw [← hq_]; exact (mb BK156)⟩; have n3_ : Aside0 (w44.heap[gb161]? = some (.cells #[.int .i64 x162000_1, u162001] 26 (0, 0))) := ⟨by rw [← hq_]; exact (mb BK161)⟩; have n4_ : Aside0 (Below w.heap.size w w44) := ⟨by rw [← hq_]; exact (ms HB)⟩; clear HO_162001 HO_7 BK156 BK161 HB hq_; have HO_162001 := n0_; have HO_7 := n1_; have BK156 := n2_; have BK161 := n3_; have HB := n4_; clear n0_ n1_ n2_ n3_ n4_)); have hnb45 := NB161_156.out; have hnc45 := NB156_161.out; obtain ⟨hcz46_0, hcz46_1⟩ := c2 BK161; have hfz46_0 := blk_frozen BK161.out 0; have hfz46_1 := blk_frozen BK161.out 1; obtain ⟨Ao47, co47, eo47⟩ := Kd.R_slice HO_162001.out; subst eo47) | ((with_reducible refine gate_callee (f := 29) rfl ?_); refine gl (some 76) rfl rfl Tryz.func29 (by kernel_rfl) rfl #[.int .i64 t170, .int .i64 0, .int .i64 (wrap64 ((x162001_1.length : Int) - 1))] rfl ?_; (with_reducible refine (spec_l1In.calls t170 0 (wrap64 ((x162001_1.length : Int) - 1)) true _ A39.out).mono ?_); rintro e w' ⟨rfl, ⟨nd, rfl⟩⟩; refine ⟨_, rfl, ?_⟩; (try (rw [drewN_self w44]; generalize hq_ : World.drewN w44 _ = w44; have n0_ : Aside0 (Kd.R (Kd.int .i64) 3 w44 w.heap.size (fun _ => True) (.slice Ao47 x162001_1.length co47) x162001_1) := ⟨by rw [← hq_]; exact (mr HO_162001)⟩; have n1_ : Aside0 (Kd.R Kd.string 9 w44 w.heap.size (fun _ => True) (.slice (some ad166) t162.length co18) t162) := ⟨by rw [← hq_]; exact (mr HO_7)⟩; have n2_ : Aside0 (w44.heap[gb156]? = some (.cells #[.int .i64 0, .slice none 0 0] 26 (0, 0))) := ⟨by rw [← hq_]; exact (mb BK156)⟩; have n3_ : Aside0 (w44.heap[gb161]? = some (.cells #[.int .i64 x162000_1, .slice Ao47 x162001_1.length co47] 26 (0, 0))) := ⟨by rw [← hq_]; exact (mb BK161)⟩; have n4_ : Aside0 (Below w.heap.size w w44) := ⟨by rw [← hq_]; exact (ms HB)⟩; clear HO_162001 HO_7 BK156 BK161 HB hq_; have HO_162001 := n0_; have HO_7 := n1_; have BK156 := n2_; have BK161 := n3_; have HB := n4_; clear n0_ n1_ n2_ n3_ n4_)); (try have hcy48_0 : w44.cell? ⟨gb161, 0, none⟩ = some (.int .i64 x162000_1) := (blk_cell BK161.out 0).trans rfl); (try have hcy48_1 : w44.cell? ⟨gb161, 1, none⟩ = some (.slice Ao47 x162001_1.length co47) := (blk_cell BK161.out 1).trans rfl); (try have hfy48_0 := blk_frozen BK161.out 0); (try have hfy48_1 := blk_frozen BK161.out 1); have p43 : 0 ≤ (t170 : Int) := of_decide_eq_true (by first | (with_reducible assumption) | assumption); have q43 : (t170 : Int) < ((x162001_1.length : Int) : Int) := of_decide_eq_true (by first | (with_reducible assumption) | assumption); obtain ⟨go43, co43, eo43, gb43, gl43, cl43, HG43⟩ := Kd.R_form HO_162001.out (by omega); (first | cases eo43 | (injection eo43 with ea_ en_ ec_; (first | subst ea_ | (injection ea_ with ea_; subst ea_)); subst ec_; clear en_)); have GB43 := Aside0.mk gb43; have GG43 := Aside0.mk HG43; clear gb43 gl43 HG43; obtain ⟨hx43_0, hf43_0⟩ := Kd.R_celln 0 HO_162001.out (t170 : Int) p43 q43; replace p43 := eq_true p43; replace q43 := eq_true q43; obtain ⟨hy49_, hz49_⟩ := Kd.R_celln 0 HO_162001.out (t170 : Int) (of_decide_eq_true (by first | (with_reducible assumption) | assumption)) (of_decide_eq_true (by first | (with_reducible assumption) | assumption)); have HP49 := Kd.R_putg HO_162001.out (t170 : Int) (wrap64 (x10_30 * t168))) | ((with_reducible refine gate_store (t := 3) (p := 83) rfl ?_); refine store_event (t := 3) (p := 83) (v := ?vo_w50) (w1 := (w44.setCell ⟨go43, (t170 : Int).toNat, none⟩ (.int .i64 (wrap64 (x10_30 * t168))))) ?hg ?ho ?hn ?hr ?_; (case ho => rfl); (case hg => rfl); (case hn => rfl); (case hr => first | (go_simp; done) | (go_simp; rfl)); intro w50 hw; have hg : w44.grownBy w50 (some go43) := (by rw [hw]; exact HP49.2); have hp_ : Kd.R (Kd.int .i64) 3 w50 w.heap.size (fun _ => True) (.slice (some ⟨go43, 0, none⟩) x162001_1.length co47) y172 := (by rw [hw, Ny172.out]; exact HP49.1); clear HP49; have n0_ := Aside0.mk (Kd.R_over' (v := (.slice (some ⟨go43, 0, none⟩) x162001_1.length co47)) (mr HO_7) (Kd.R_typed HO_162001.out) (by decide) hg); have n1_ := Aside0.mk (hp_); have n2_ := Aside0.mk (blk_grown (g := gb156) (o := .cells #[.int .i64 0, .slice none 0 0] 26 (0, 0)) (mb BK156) hg (Kd.R_ne HO_162001.out BK156.out (by decide))); have n3_ := Aside0.mk (blk_grown (g := gb161) (o := .cells #[.int .i64 x162000_1, .slice (some ⟨go43, 0, none⟩) x162001_1.length co47] 26 (0, 0)) (mb BK161) hg (Kd.R_ne HO_162001.out BK161.out (by decide))); have n4_ := Aside0.mk ((by rw [hw]; exact below_set (HB.out) GB43.out : Below w.heap.size w w50)); clear HO_7 HO_162001 BK156 BK161 HB; have HO_7 := n0_; have HO_162001 := n1_; have BK156 := n2_; have BK161 := n3_; have HB := n4_; clear n0_ n1_ n2_ n3_ n4_; clear hg hw hp_))
                   go_roundg kj30
                   case measure => have := HK1.out; have := HJ16.out; have := HJ22.out; have := HJ25.out; have := HJ30.out; omega
                   case rel => exact ⟨(wrap64 (x8_1 + 2)), (x162000_1), (y172), (.slice (some ⟨go43, 0, none⟩) x162001_1.length co47), (by first | rfl | (simp; done) | (simp [*]; done)), H', ⟨by have := HK1.out; have := HJ16.out; have := HJ22.out; have := HJ25.out; have := HJ30.out; omega⟩, ⟨by (with_reducible repeat (first | apply Kd.R_alloc | apply Kd.R_drewN | apply Kd.R_drew)); exact HO_7.out⟩, ⟨by (with_reducible repeat (first | apply Kd.R_alloc | apply Kd.R_drewN | apply Kd.R_drew)); exact HO_162001.out⟩, ⟨mb BK156⟩, ⟨mb BK161⟩, ⟨ms HB⟩⟩
                  ·rw [if_neg c42] at H
                   exact absurd H (by simp)
                 ·rw [if_neg c41] at H
                  exact absurd H (by simp)
                ·replace c40 := Bool.eq_false_iff.mpr c40
                 subst c40
                 have H1 : (spec_ParseLin.l0 kj30 a0 l1 t162 (wrap64 (x8_1 + 2)) x162000_1 x162001_1) = some (r1, r2, r3) := by rw [if_neg (show ¬ (false = true) by decide)] at H; exact H
                 clear H
                 have H := H1
                 clear H1
                 have H' := Aside0.mk H
                 clear H
                 go_wp2_with (first | ((with_reducible refine gate_callee (f := 27) rfl ?_); refine gl (some 57) rfl rfl Tryz.func27 (by kernel_rfl) rfl #[.string x9_22] rfl ?_; (with_reducible refine (spec_l5Word.calls kj30 x9_22 t168 t169 _ A33.out).mono ?_); rintro e w51 ⟨rfl, hb⟩; refine ⟨_, rfl, ?_⟩; replace HO_7 := rb HO_7 hb; replace HO_162001 := rb HO_162001 hb; replace BK156 := bb BK156 hb; replace BK161 := bb BK161 hb; replace HB := bs HB hb; (try clear hb)) | ((with_reducible refine gate_callee (f := 28) rfl ?_); refine gl (some 62) rfl rfl Tryz.func28 (by kernel_rfl) rfl #[.slice A1 l1.length c1, .string t169] rfl ?_; (with_reducible refine (spec_IndexOf.calls kj30 _ _ l1 t169 t170 _ ?side1 ?side2 A34.out).mono ?_); (case side1 => exact mc ((Kd.C_below HR1.out HB.out))); (case side2 => exact HC1.out); rintro e w' ⟨rfl, ⟨nd, rfl⟩⟩; refine ⟨_, rfl, ?_⟩; have hnb52 := NB161_156.out; have hnc52 := NB156_161.out; obtain ⟨hcz53_0, hcz53_1⟩ := c2 BK161; have hfz53_0 := blk_frozen BK161.out 0; have hfz53_1 := blk_frozen BK161.out 1; obtain ⟨Ao54, co54, eo54⟩ := Kd.R_slice HO_162001.out; subst eo54) | ((with_reducible refine gate_callee (f := 29) rfl ?_); refine gl (some 76) rfl rfl Tryz.func29 (by kernel_rfl) rfl #[.int .i64 t170, .int .i64 0, .int .i64 (wrap64 ((x162001_1.length : Int) - 1))] rfl ?_; (with_reducible refine (spec_l1In.calls t170 0 (wrap64 ((x162001_1.length : Int) - 1)) false _ A39.out).mono ?_); rintro e w' ⟨rfl, ⟨nd, rfl⟩⟩; refine ⟨_, rfl, ?_⟩))
                 go_roundg kj30
                 case measure => have := HK1.out; have := HJ16.out; have := HJ22.out; have := HJ25.out; have := HJ30.out; omega
                 case rel => exact ⟨(wrap64 (x8_1 + 2)), (x162000_1), (x162001_1), (.slice Ao54 x162001_1.length co54), (by first | rfl | (simp; done) | (simp [*]; done)), H', ⟨by have := HK1.out; have := HJ16.out; have := HJ22.out; have := HJ25.out; have := HJ30.out; omega⟩, ⟨by (with_reducible repeat (first | apply Kd.R_alloc | apply Kd.R_drewN | apply Kd.R_drew)); exact HO_7.out⟩, ⟨by (with_reducible repeat (first | apply Kd.R_alloc | apply Kd.R_drewN | apply Kd.R_drew)); exact HO_162001.out⟩, ⟨mb BK156⟩, ⟨mb BK161⟩, ⟨ms HB⟩⟩
      ·rw [if_neg c16] at H
       exact absurd H (by simp)
     ·rw [if_neg c15] at H
      have c15b0 : decide (x8_1 < (t162.length : Int)) = false := decide_eq_false c15
      clear c15
      by_cases c55 : a0.toList = ([] : List UInt8)
      ·rw [if_pos c55] at H
       have c55b0 : (a0.toList == ([] : List UInt8)) = true := beq_iff_eq.mpr c55
       have c55b1 : (a0.toList != ([] : List UInt8)) = false := bne_eq_false_iff_eq.mpr c55
       clear c55
       simp only [Option.some.injEq, Prod.mk.injEq] at H
       obtain ⟨rfl, rfl, rfl⟩ := H
       obtain ⟨Ao56, co56, eo56⟩ := Kd.R_slice HO_7.out
       subst eo56
       have hnb57 := NB156_161.out
       have hnc57 := NB161_156.out
       obtain ⟨hcz58_0, hcz58_1⟩ := c2 BK156
       have hfz58_0 := blk_frozen BK156.out 0
       have hfz58_1 := blk_frozen BK156.out 1
       go_wp2
       refine bodyPost_ret (results_ct rfl _ _ gb156 26 #[.int .i64 0, .slice none 0 0] (0, 0) _ rfl (by (with_reducible repeat (first | refine blk_drewN ?_ _ | refine blk_drew ?_ | refine blk_alloc ?_ _)); refine blk_put (cs := #[.int .i64 0, .slice none 0 0]) ?_ 1 _ rfl; (with_reducible repeat (first | refine blk_drewN ?_ _ | refine blk_drew ?_ | refine blk_alloc ?_ _)); refine blk_put (cs := #[.int .i64 0, .slice none 0 0]) ?_ 0 _ rfl; (with_reducible repeat (first | refine blk_drewN ?_ _ | refine blk_drew ?_ | refine blk_alloc ?_ _)); exact BK156.out) Tryz.underlying26 rfl (by kernel_rfl)) rfl ?_
       exact ⟨_, by first | rfl | (simp [errW_none, errW_some] <;> rfl) | (simp [*, errW_none, errW_some] <;> rfl), by first | exact Kd.R_nil _ _ _ _ _ | exact Kd.N_nil _ _ _ _ _ | exact Kd.V_nil _ _ _ _ _ | exact Kd.Q_nil _ _ _ _ _ | exact Kd.S_nil _ _ _ _ _, ms HB⟩
      ·rw [if_neg c55] at H
       have c55b0 : (a0.toList == ([] : List UInt8)) = false := beq_eq_false_iff_ne.mpr c55
       have c55b1 : (a0.toList != ([] : List UInt8)) = true := bne_iff_ne.mpr c55
       replace H := Option.bind_eq_some_iff.mp H
       obtain ⟨t165, A590, H⟩ := H
       replace H : (if t165.toList = a0.toList then (some (x162000_1, x162001_1, true)) else (some (0, ([] : List Int), false))) = some (r1, r2, r3) := H
       have A59 := Aside0.mk A590
       clear A590
       by_cases c60 : t165.toList = a0.toList
       ·rw [if_pos c60] at H
        have c60b0 : (t165.toList == a0.toList) = true := beq_iff_eq.mpr c60
        have c60b1 : (t165.toList != a0.toList) = false := bne_eq_false_iff_eq.mpr c60
        clear c60
        simp only [Option.some.injEq, Prod.mk.injEq] at H
        obtain ⟨rfl, rfl, rfl⟩ := H
        obtain ⟨Ao61, co61, eo61⟩ := Kd.R_slice HO_7.out
        subst eo61
        have hnb62 := NB161_156.out
        have hnc62 := NB156_161.out
        obtain ⟨hcz63_0, hcz63_1⟩ := c2 BK161
        have hfz63_0 := blk_frozen BK161.out 0
        have hfz63_1 := blk_frozen BK161.out 1
        obtain ⟨Ao64, co64, eo64⟩ := Kd.R_slice HO_162001.out
        subst eo64
        go_wp2_with (first | (go_at_call 20; (with_reducible refine (spec_FormatLin.calls k1 x162000_1 _ _ x162001_1 _ _ l1 t165 _ ?side1 ?side2 ?side3 ?side4 A59.out).mono ?_); (case side1 => exact mc ((Kd.R_reads' HO_162001.out).2.2)); (case side2 => exact (Kd.R_reads' HO_162001.out).2.1); (case side3 => exact mc ((Kd.C_below HR1.out HB.out))); (case side4 => exact HC1.out); rintro e w65 ⟨rfl, hb⟩; replace HO_7 := rb HO_7 hb; replace HO_162001 := rb HO_162001 hb; replace BK156 := bb BK156 hb; replace BK161 := bb BK161 hb; replace HB := bs HB hb; (try clear hb); obtain ⟨hcz66_0, hcz66_1⟩ := c2 BK161; have hfz66_0 := blk_frozen BK161.out 0; have hfz66_1 := blk_frozen BK161.out 1; obtain ⟨hcz67_0, hcz67_1⟩ := c2 BK156; have hfz67_0 := blk_frozen BK156.out 0; have hfz67_1 := blk_frozen BK156.out 1))
        refine bodyPost_ret (results_ct rfl _ _ gb156 26 #[.int .i64 x162000_1, .slice Ao64 x162001_1.length co64] (0, 0) _ rfl (by (with_reducible repeat (first | refine blk_drewN ?_ _ | refine blk_drew ?_ | refine blk_alloc ?_ _)); refine blk_put (cs := #[.int .i64 x162000_1, .slice none 0 0]) ?_ 1 _ rfl; (with_reducible repeat (first | refine blk_drewN ?_ _ | refine blk_drew ?_ | refine blk_alloc ?_ _)); refine blk_put (cs := #[.int .i64 0, .slice none 0 0]) ?_ 0 _ rfl; (with_reducible repeat (first | refine blk_drewN ?_ _ | refine blk_drew ?_ | refine blk_alloc ?_ _)); exact BK156.out) Tryz.underlying26 rfl (by kernel_rfl)) rfl ?_
        exact ⟨_, by first | rfl | (simp [errW_none, errW_some] <;> rfl) | (simp [*, errW_none, errW_some] <;> rfl), by (with_reducible repeat (first | apply Kd.R_alloc | apply Kd.R_drewN | apply Kd.R_drew)); exact Kd.R_mono (Kd.R_far (p := ⟨gb156, 1, none⟩) (Kd.R_far (p := ⟨gb156, 0, none⟩) (Kd.R_types HO_162001.out BK156.out (by decide)) (fun _ hk => hk.2) (.int .i64 x162000_1)) (fun _ hk => hk.2) (.slice Ao64 x162001_1.length co64)) (fun _ hk => trivial), ms HB⟩
       ·rw [if_neg c60] at H
        have c60b0 : (t165.toList == a0.toList) = false := beq_eq_false_iff_ne.mpr c60
        have c60b1 : (t165.toList != a0.toList) = true := bne_iff_ne.mpr c60
        simp only [Option.some.injEq, Prod.mk.injEq] at H
        obtain ⟨rfl, rfl, rfl⟩ := H
        obtain ⟨Ao68, co68, eo68⟩ := Kd.R_slice HO_7.out
        subst eo68
        have hnb69 := NB161_156.out
        have hnc69 := NB156_161.out
        obtain ⟨hcz70_0, hcz70_1⟩ := c2 BK161
        have hfz70_0 := blk_frozen BK161.out 0
        have hfz70_1 := blk_frozen BK161.out 1
        obtain ⟨Ao71, co71, eo71⟩ := Kd.R_slice HO_162001.out
        subst eo71
        go_wp2_with (first | (go_at_call 20; (with_reducible refine (spec_FormatLin.calls k1 x162000_1 _ _ x162001_1 _ _ l1 t165 _ ?side1 ?side2 ?side3 ?side4 A59.out).mono ?_); (case side1 => exact mc ((Kd.R_reads' HO_162001.out).2.2)); (case side2 => exact (Kd.R_reads' HO_162001.out).2.1); (case side3 => exact mc ((Kd.C_below HR1.out HB.out))); (case side4 => exact HC1.out); rintro e w72 ⟨rfl, hb⟩; replace HO_7 := rb HO_7 hb; replace HO_162001 := rb HO_162001 hb; replace BK156 := bb BK156 hb; replace BK161 := bb BK161 hb; replace HB := bs HB hb; (try clear hb); obtain ⟨hcz73_0, hcz73_1⟩ := c2 BK156; have hfz73_0 := blk_frozen BK156.out 0; have hfz73_1 := blk_frozen BK156.out 1))
        refine bodyPost_ret (results_ct rfl _ _ gb156 26 #[.int .i64 0, .slice none 0 0] (0, 0) _ rfl (by (with_reducible repeat (first | refine blk_drewN ?_ _ | refine blk_drew ?_ | refine blk_alloc ?_ _)); refine blk_put (cs := #[.int .i64 0, .slice none 0 0]) ?_ 1 _ rfl; (with_reducible repeat (first | refine blk_drewN ?_ _ | refine blk_drew ?_ | refine blk_alloc ?_ _)); refine blk_put (cs := #[.int .i64 0, .slice none 0 0]) ?_ 0 _ rfl; (with_reducible repeat (first | refine blk_drewN ?_ _ | refine blk_drew ?_ | refine blk_alloc ?_ _)); exact BK156.out) Tryz.underlying26 rfl (by kernel_rfl)) rfl ?_
        exact ⟨_, by first | rfl | (simp [errW_none, errW_some] <;> rfl) | (simp [*, errW_none, errW_some] <;> rfl), by first | exact Kd.R_nil _ _ _ _ _ | exact Kd.N_nil _ _ _ _ _ | exact Kd.V_nil _ _ _ _ _ | exact Kd.Q_nil _ _ _ _ _ | exact Kd.S_nil _ _ _ _ _, ms HB⟩
  ·rw [if_neg c5] at H
   exact absurd H (by simp)
 ·rw [if_neg c4] at H
  exact absurd H (by simp)

/-! ### impl_within: function 60 -/
def impl_within.f (a0 : Int) (a1 : Int) (a2 : Int) : Option (Bool) := if a0 ≥ a1 then (some (decide (a0 ≤ a2))) else (some false)
set_option maxHeartbeats 8000000 in
set_option maxRecDepth 100000 in
theorem impl_within.calls (a0 : Int) (a1 : Int) (a2 : Int) (r : Bool) (w : World) (h : impl_within.f a0 a1 a2 = some r) :
  Calls Tryz.prog 60 #[.int .i64 a0, .int .i64 a1, .int .i64 a2] w fun e w' => e = .returned (.bool r) ∧ Drawn0 w w' := by
 have H : (if a0 ≥ a1 then (some (decide (a0 ≤ a2))) else (some false)) = some r := h
 clear h
 by_cases c4 : a0 ≥ a1
 ·rw [if_pos c4] at H
  have c4b0 : decide (a1 ≤ a0) = true := decide_eq_true c4
  clear c4
  obtain rfl := Option.some.inj H
  go_enter Tryz.func60, Tryz.ntmps60
  go_wp2
  go_ret
  exact ⟨by first | rfl | (simp; done) | (simp [*]; done), by repeat (first | exact Drawn0.refl _ | apply Drawn0.step)⟩
 ·rw [if_neg c4] at H
  have c4b0 : decide (a1 ≤ a0) = false := decide_eq_false c4
  clear c4
  obtain rfl := Option.some.inj H
  go_enter Tryz.func60, Tryz.ntmps60
  go_wp2
  go_ret
  exact ⟨by first | rfl | (simp; done) | (simp [*]; done), by repeat (first | exact Drawn0.refl _ | apply Drawn0.step)⟩

end Go.Proofs.YtmdjhmggogfbdaaGreatDoor.QFnLinText
