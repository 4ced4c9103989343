-- Made by a program of this claim's own (wip/print): not the kit's print as it stands.
import Derived.Test.YtlencemmlgkflaaUFnEntailedTri
import Derived.Test.YtlencemmlgkflaaQFnEntailedx0
import Derived.Test.YtlencemmlgkflaaQFnEntailedx7
import Derived.Test.YtlencemmlgkflaaQFnEntailedx8
import Derived.Test.YtlencemmlgkflaaQFnEntailedx9
import Derived.Test.YtlencemmlgkflaaQFnEntailedx10
namespace Go.Proofs.Ytlencemmlgkflaa.QFnEntailed
open Go.RowKit Go.Proofs.YtlencemmlgkflaaV.PrintWords Go.Proofs.YtlencemmlgkflaaV.PrintLast Go.Proofs.YtlencemmlgkflaaV.PrintMore
attribute [local go_sem] max2_int min2_int max_two min_two max_three min_three max_four min_four   -- for this text's walks alone
set_option linter.unusedVariables false
set_option linter.unusedSimpArgs false

def spec_l8Join.f (k : Nat) (a0_0 : Int) (l0_1 : List Int) (l0_2 : List Int) (a1_0 : Int) (l1_1 : List Int) (l1_2 : List Int) (a2 : Int) : Option (Int × List Int × List Int × Bool) := if 0 ≤ a2 then (if a2 < (l0_1.length : Int) then (if a2 < (l1_1.length : Int) then ((spec_Gcd.f k (rd l0_1 a2) (wrap64 (-(rd l1_1 a2)))).bind fun t344 => ((spec_l1Max.f t344 1).bind fun t345 => (if 0 ≤ (l0_1.length : Int) then (if ((l0_1.length : Int) : Int).toNat ≤ 35184372088832 then (if t345 = 0 then (none) else ((spec_AddScaled.f k 0 (List.replicate ((l0_1.length : Int) : Int).toNat 0) (wrap64 (Int.tdiv (wrap64 (-(rd l1_1 a2))) t345)) a0_0 l0_1).bind fun bt349 => ((spec_AddScaled.f k bt349.1 bt349.2.1 (wrap64 (Int.tdiv (rd l0_1 a2) t345)) a1_0 l1_1).bind fun bt355 => ((spec_l8Scaled.f k l0_2 (wrap64 (Int.tdiv (wrap64 (-(rd l1_1 a2))) t345)) l1_2 (wrap64 (Int.tdiv (rd l0_1 a2) t345))).bind fun bt361 => (if bt349.2.2 = true then (if bt355.2.2 = true then (some (bt355.1, bt355.2.1, bt361.1, bt361.2)) else (some (bt355.1, bt355.2.1, bt361.1, false))) else (some (bt355.1, bt355.2.1, bt361.1, false))))))) else (none)) else (none)))) else (none)) else (none)) else (none)
theorem spec_l8Join.mono : ∀ a0 a1 a2 a3 a4 a5 a6 k, LeO (spec_l8Join.f k a0 a1 a2 a3 a4 a5 a6) (spec_l8Join.f (k + 1) a0 a1 a2 a3 a4 a5 a6) := by
 intro a0 a1 a2 a3 a4 a5 a6 k
 unfold spec_l8Join.f
 repeat' with_reducible first
 | exact spec_AddScaled.mono _ _ _ _ _ _
 | exact spec_Gcd.mono _ _ _
 | exact spec_l8Scaled.mono _ _ _ _ _
 | exact LeO.refl _
 | exact LeO.none _
 | refine LeO.ite ?_ ?_
 | refine LeO.bind ?_ (fun _ => ?_)
set_option maxHeartbeats 8000000 in
set_option maxRecDepth 100000 in
theorem spec_l8Join.calls (k : Nat) (a0_0 : Int) (A0_1 : Option Addr) (c0_1 : Nat) (l0_1 : List Int) (A0_2 : Option Addr) (c0_2 : Nat) (l0_2 : List Int) (a1_0 : Int) (A1_1 : Option Addr) (c1_1 : Nat) (l1_1 : List Int) (A1_2 : Option Addr) (c1_2 : Nat) (l1_2 : List Int) (a2 : Int) (r1 : Int) (r2 : List Int) (r3 : List Int) (r4 : Bool) (w : World) (hr0_1 : Kd.C (Kd.int .i64) w A0_1 l0_1.length l0_1) (hc0_1 : l0_1.length ≤ c0_1) (hr0_2 : Kd.C (Kd.int .i64) w A0_2 l0_2.length l0_2) (hc0_2 : l0_2.length ≤ c0_2) (hr1_1 : Kd.C (Kd.int .i64) w A1_1 l1_1.length l1_1) (hc1_1 : l1_1.length ≤ c1_1) (hr1_2 : Kd.C (Kd.int .i64) w A1_2 l1_2.length l1_2) (hc1_2 : l1_2.length ≤ c1_2) (h : spec_l8Join.f k a0_0 l0_1 l0_2 a1_0 l1_1 l1_2 a2 = some (r1, r2, r3, r4)) :
  Calls Try.prog 131 #[.agg #[.int .i64 a0_0, .slice A0_1 l0_1.length c0_1, .slice A0_2 l0_2.length c0_2], .agg #[.int .i64 a1_0, .slice A1_1 l1_1.length c1_1, .slice A1_2 l1_2.length c1_2], .int .i64 a2] w fun e w' => ∃ v1_ v2_ : Value, e = .returned (.tuple #[.agg #[.int .i64 r1, v1_, v2_], .bool r4]) ∧ Kd.R (Kd.int .i64) 3 w' w.heap.size (fun k_ => some k_ ≠ (v2_ : Value).ownBlock) v1_ r2 ∧ Kd.R (Kd.int .i64) 3 w' w.heap.size (fun k_ => some k_ ≠ (v1_ : Value).ownBlock) v2_ r3 ∧ Below w.heap.size w w' := by
 have hu93 := Try.underlying93
 have hu29 := Try.underlying29
 unfold spec_l8Join.f at h
 by_cases c4 : 0 ≤ a2
 rotate_left
 ·rw [if_neg c4] at h; cases h
 rw [if_pos c4] at h
 by_cases c5 : a2 < (l0_1.length : Int)
 rotate_left
 ·rw [if_neg c5] at h; cases h
 rw [if_pos c5] at h
 by_cases c6 : a2 < (l1_1.length : Int)
 rotate_left
 ·rw [if_neg c6] at h; cases h
 rw [if_pos c6] at h
 obtain ⟨g0, A0, h⟩ := Option.bind_eq_some_iff.mp h
 obtain ⟨g, A1, h⟩ := Option.bind_eq_some_iff.mp h
 rw [if_pos (Int.natCast_nonneg _)] at h
 by_cases c10 : ((l0_1.length : Int) : Int).toNat ≤ 35184372088832
 rotate_left
 ·rw [if_neg c10] at h; cases h
 rw [if_pos c10] at h
 by_cases c8 : g = 0
 ·rw [if_pos c8] at h; cases h
 rw [if_neg c8] at h
 obtain ⟨⟨t0, t0', t0b⟩, A2, h⟩ := Option.bind_eq_some_iff.mp h
 obtain ⟨⟨t1, t1', t1b⟩, A3, h⟩ := Option.bind_eq_some_iff.mp h
 obtain ⟨⟨m, mok⟩, A4, h⟩ := Option.bind_eq_some_iff.mp h
 obtain ⟨rfl, rfl, rfl, rfl⟩ : r1 = t1 ∧ r2 = t1' ∧ r3 = m ∧ r4 = (t0b && (t1b && mok)) := by
  cases t0b <;> cases t1b <;> simp at h <;> obtain ⟨rfl, rfl, rfl, rfl⟩ := h <;> exact ⟨rfl, rfl, rfl, rfl⟩
 clear h
 obtain ⟨y0, ny⟩ : ∃ y : List Int, y = List.replicate l0_1.length 0 := ⟨_, rfl⟩
 have NY := Aside0.mk ny
 have H0 : Aside0 (spec_Gcd.f k (rd l0_1 a2) (wrap64 (-(rd l1_1 a2))) = some g0) := ⟨A0⟩
 have H1 : Aside0 (spec_l1Max.f g0 1 = some g) := ⟨A1⟩
 have H2 : Aside0 (spec_AddScaled.f k 0 y0 (wrap64 (Int.tdiv (wrap64 (-(rd l1_1 a2))) g)) a0_0 l0_1 = some (t0, t0', t0b)) := ⟨by rw [ny]; exact A2⟩
 have H3 : Aside0 (spec_AddScaled.f k t0 t0' (wrap64 (Int.tdiv (rd l0_1 a2) g)) a1_0 l1_1 = some (r1, r2, t1b)) := ⟨A3⟩
 have H4 : Aside0 (spec_l8Scaled.f k l0_2 (wrap64 (Int.tdiv (wrap64 (-(rd l1_1 a2))) g)) l1_2 (wrap64 (Int.tdiv (rd l0_1 a2) g)) = some (r3, mok)) := ⟨A4⟩
 have C10 : Aside0 (l0_1.length ≤ 35184372088832) := ⟨by simpa using c10⟩
 have hyl : y0.length = l0_1.length := by rw [ny, List.length_replicate]
 have hmk : ∀ w : World, (Instr.makeSlice 27 (.int .i64 (l0_1.length : Int)) (.int .i64 (l0_1.length : Int))).run Try.prog w = .ok (.slice (some ⟨w.heap.size, 0, none⟩) y0.length y0.length) (w.alloc (.cells (made0 l0_1.length) 3)) := fun w => by rw [hyl]; exact run_made Try.underlying27 info3 _ C10.out w
 clear hyl
 clear A0 A1 A2 A3 A4 ny c10
 obtain ⟨ad1, e1, hx1⟩ := Kd.at_int hr0_1 a2 c4 c5
 cases e1
 obtain ⟨ad2, e2, hx2⟩ := Kd.at_int hr1_1 a2 c4 c6
 cases e2
 have HR0_1 := Aside0.mk hr0_1
 have HC0_1 := Aside0.mk hc0_1
 have HR0_2 := Aside0.mk hr0_2
 have HC0_2 := Aside0.mk hc0_2
 have HR1_1 := Aside0.mk hr1_1
 have HC1_1 := Aside0.mk hc1_1
 have HR1_2 := Aside0.mk hr1_2
 have HC1_2 := Aside0.mk hc1_2
 clear hr0_1 hc0_1 hr0_2 hc0_2 hr1_1 hc1_1 hr1_2 hc1_2
 have HB := Aside0.mk (Below.refl w.heap.size w)
 go_enter Try.func131, Try.ntmps131
 go_upto_region 1 with (first | ((with_reducible refine gate_dst (N := 3) rfl ?_); refine box_event ?hg (N := 3) ?hd (cs := #[.int .i64 a0_0, .slice (some ad1) l0_1.length c0_1, .slice A0_2 l0_2.length c0_2]) (t := 93) ?hr ?_; (case hd => rfl); (case hg => rfl); (case hr => first | (go_simp; done) | (go_simp; rfl)); intro q3 hg_ wa hx_ hb_; have Gq3 := gw hg_ HB; replace HB := bs HB hb_; have X3 := Aside0.mk hx_; clear hg_ hx_ hb_) | ((with_reducible refine gate_dst (N := 4) rfl ?_); refine box_event ?hg (N := 4) ?hd (cs := #[.int .i64 a1_0, .slice (some ad2) l1_1.length c1_1, .slice A1_2 l1_2.length c1_2]) (t := 93) ?hr ?_; (case hd => rfl); (case hg => rfl); (case hr => first | (go_simp; done) | (go_simp; rfl)); intro q4 hg_ wb hx_ hb_; have Gq4 := gw hg_ HB; replace X3 := bb X3 hb_; replace HB := bs HB hb_; have X4 := Aside0.mk hx_; clear hg_ hx_ hb_) | ((with_reducible refine gate_dst (N := 6) rfl ?_); refine box_event ?hg (N := 6) ?hd (cs := #[.int .i64 0, .slice none 0 0, .slice none 0 0]) (t := 93) ?hr ?_; (case hd => rfl); (case hg => rfl); (case hr => first | (go_simp; done) | (go_simp; rfl)); intro q6 hg_ wo hx_ hb_; have Gq6 := gw hg_ HB; replace X3 := bb X3 hb_; replace X4 := bb X4 hb_; replace HB := bs HB hb_; have X6 := Aside0.mk hx_; clear hg_ hx_ hb_))
 replace hx1 := (HB.out.cell (World.block_lt_of_cell? _ _ hx1)).trans hx1
 replace hx2 := (HB.out.cell (World.block_lt_of_cell? _ _ hx2)).trans hx2
 obtain ⟨h30, h31, h32⟩ := cl3 X3
 obtain ⟨h40, h41, h42⟩ := cl3 X4
 replace c4 := eq_true c4
 replace c5 := eq_true c5
 replace c6 := eq_true c6
 go_upto_region 4 with (first | (go_at_call 153; refine (spec_Gcd.calls _ _ _ _ _ H0.out).mono ?_; rintro e w1 ⟨rfl, hd⟩; have hb := hd.below; replace HB := bs HB hb; replace X3 := bb X3 hb; replace X4 := bb X4 hb; replace X6 := bb X6 hb; clear hd hb) | (go_at_call 103; refine (spec_l1Max.calls _ _ _ _ H1.out).mono ?_; rintro e w3 ⟨rfl, hd⟩; have hb := hd.below; replace HB := bs HB hb; replace X3 := bb X3 hb; replace X4 := bb X4 hb; replace X6 := bb X6 hb; clear hd hb))
 have E1 : IntKind.i64.wrap (Int.tdiv (wrap64 (-(rd l1_1 a2))) g) = (wrap64 (Int.tdiv (wrap64 (-(rd l1_1 a2))) g)) := i64_w _
 have E2 : IntKind.i64.wrap (Int.tdiv (rd l0_1 a2) g) = (wrap64 (Int.tdiv (rd l0_1 a2) g)) := i64_w _
 have HB0 := HB
 clear HB h30 h31 h32 h40 h41 h42 hx1 hx2 H0 H1 c4 c5 c6
 replace HR0_1 := Aside0.mk (Kd.C_below HR0_1.out HB0.out)
 replace HR0_2 := Aside0.mk (Kd.C_below HR0_2.out HB0.out)
 replace HR1_1 := Aside0.mk (Kd.C_below HR1_1.out HB0.out)
 replace HR1_2 := Aside0.mk (Kd.C_below HR1_2.out HB0.out)
 go_cut [11, 12] (fun v11 v12 wc => ∃ (g11 : Nat) (A1 : Option Addr) (c1 : Nat), v11 = .pointer (some ⟨g11, 0, none⟩) ∧ v12 = .bool t0b ∧ Aside0 (wc.heap[g11]? = some (.cells #[.int .i64 t0, .slice A1 t0'.length c1] 29 (0, 0))) ∧ Aside0 (Kd.R (Kd.int .i64) 3 wc w3.heap.size (fun _ => True) (.slice A1 t0'.length c1) t0') ∧ Aside0 (Below w3.heap.size w3 wc))
 case first =>
  have HB := Aside0.mk (Below.refl w3.heap.size w3)
  have SZ0 := Aside0.mk (Nat.le_refl w3.heap.size)
  have SZ1 := Aside0.mk (Nat.le_succ w3.heap.size)
  have La : Aside0 (∀ g, w3.heap.size ≤ g → q3 ≠ g) := ⟨fun g h => by have := blk_lt X3.out; omega⟩
  go_region_held3 (fun w' => w'.cell? ⟨q3, 0, none⟩ = some (.int .i64 a0_0) ∧ w'.cell? ⟨q3, 1, none⟩ = some (.slice (some ad1) l0_1.length c0_1))
   (first | exact ⟨(blk_cell (mb X3) 0).trans rfl, (blk_cell (mb X3) 1).trans rfl⟩ | exact ⟨(blk_cell (far2 (mb X3) (La.out _ (by first | exact Nat.le_refl _ | exact Nat.le_succ _))) 0).trans rfl, (blk_cell (far2 (mb X3) (La.out _ (by first | exact Nat.le_refl _ | exact Nat.le_succ _))) 1).trans rfl⟩)
   ((go_at_call 81; refine (spec_AddScaled.calls k 0 _ _ y0 (wrap64 (Int.tdiv (wrap64 (-(rd l1_1 a2))) g)) a0_0 (some ad1) c0_1 l0_1 t0 t0' t0b _ (by first | exact made_C0 NY C10 | exact made_C1 NY C10 | exact made_C2 NY C10) (Nat.le_refl _) (Kd.C_below HR0_1.out (ms HB)) HC0_1.out H2.out).mono ?_; rintro e w2 ⟨v1, rfl, ho, hb⟩; obtain ⟨Ay, cy, rfl⟩ := Kd.R_slice ho; have RY := Aside0.mk (Kd.R_lower (Kd.R_mono ho (fun _ _ => trivial)) (below_size (ms HB))); replace X3 := bb X3 hb; (first | have X11 := Aside0.mk (blk_below (new2 w3 (.cells (made0 l0_1.length) 3) (.cells #[.int .i64 0, .slice none 0 0] 29 (0, 0))) hb) | have X11 := Aside0.mk (blk_below (new1 w3 (.cells #[.int .i64 0, .slice none 0 0] 29 (0, 0)) (.cells (made0 l0_1.length) 3)) hb) | skip); replace HB := bs HB hb; (try (have hz0 := (blk_cell X11.out 0).trans (rfl : _ = some (Value.int .i64 0)); have hz1 := (blk_cell X11.out 1).trans (rfl : _ = some (Value.slice none 0 0)); have hf0 := blk_frozen X11.out 0; have hf1 := blk_frozen X11.out 1; (try simp only [World.drew] at hz0 hz1 hf0 hf1))); clear ho hb))
  all_goals go_wp2
  all_goals go_meet
  case rel => exact ⟨_, _, _, rfl, rfl, ⟨heap_alloc_new _ _⟩, ⟨Kd.R_alloc RY.out _⟩, ⟨below_alloc HB.out _⟩⟩
  case rel => exact ⟨_, _, _, rfl, rfl, ⟨put2 X11.out⟩, ⟨own2 RY.out X11.out (by decide)⟩, ⟨below_set (below_set HB.out SZ1.out) SZ1.out⟩⟩
  case rel => exact ⟨_, _, _, rfl, rfl, ⟨put2 X11.out⟩, ⟨own2 RY.out X11.out (by decide)⟩, ⟨below_set (below_set HB.out SZ0.out) SZ0.out⟩⟩
 case rest =>
  obtain ⟨g11, Ay, cy, rfl, rfl, X11, RY, HB⟩ := hcut
  have HB1 := Aside0.mk (HB0.out.trans (HB.out.mono HB0.out.size))
  have L4 : Aside0 (q4 < w3.heap.size) := ⟨blk_lt X4.out⟩
  replace X4 := Aside0.mk (blk_below X4.out HB.out)
  replace X3 := Aside0.mk (blk_below X3.out HB.out)
  replace X6 := Aside0.mk (blk_below X6.out HB.out)
  replace HR0_2 := Aside0.mk (Kd.C_below HR0_2.out HB.out)
  replace HR1_1 := Aside0.mk (Kd.C_below HR1_1.out HB.out)
  replace HR1_2 := Aside0.mk (Kd.C_below HR1_2.out HB.out)
  have B0 : Aside0 (w.heap.size ≤ wc.heap.size) := ⟨HB1.out.size⟩
  clear HB0 HB H2 hmk NY
  go_upto_region 5 with (fail)
  go_cut [13, 14] (fun v13 v14 wd => ∃ (g13 : Nat) (A1 : Option Addr) (c1 : Nat), v13 = .pointer (some ⟨g13, 0, none⟩) ∧ v14 = .bool t1b ∧ Aside0 (wd.heap[g13]? = some (.cells #[.int .i64 r1, .slice A1 r2.length c1] 29 (0, 0))) ∧ Aside0 (Kd.R (Kd.int .i64) 3 wd wc.heap.size (fun _ => True) (.slice A1 r2.length c1) r2) ∧ Aside0 (Below wc.heap.size wc wd))
  case first =>
   have HZ := Aside0.mk (Below.refl wc.heap.size wc)
   have SZ0 := Aside0.mk (Nat.le_refl wc.heap.size)
   have La : Aside0 (∀ g, wc.heap.size ≤ g → g11 ≠ g) := ⟨fun g h => by have := blk_lt X11.out; omega⟩
   have Lb : Aside0 (∀ g, wc.heap.size ≤ g → q4 ≠ g) := ⟨fun g h => by have := blk_lt X4.out; omega⟩
   go_region_held3 (fun w' => w'.cell? ⟨g11, 0, none⟩ = some (.int .i64 t0) ∧ w'.cell? ⟨g11, 1, none⟩ = some (.slice Ay t0'.length cy) ∧ w'.cell? ⟨q4, 0, none⟩ = some (.int .i64 a1_0) ∧ w'.cell? ⟨q4, 1, none⟩ = some (.slice (some ad2) l1_1.length c1_1))
    (first | exact ⟨(blk_cell (mb X11) 0).trans rfl, (blk_cell (mb X11) 1).trans rfl, (blk_cell (mb X4) 0).trans rfl, (blk_cell (mb X4) 1).trans rfl⟩ | exact ⟨(blk_cell (far2 (mb X11) (La.out _ (Nat.le_refl _))) 0).trans rfl, (blk_cell (far2 (mb X11) (La.out _ (Nat.le_refl _))) 1).trans rfl, (blk_cell (far2 (mb X4) (Lb.out _ (Nat.le_refl _))) 0).trans rfl, (blk_cell (far2 (mb X4) (Lb.out _ (Nat.le_refl _))) 1).trans rfl⟩)
    ((go_at_call 81; refine (spec_AddScaled.calls k t0 Ay cy t0' (wrap64 (Int.tdiv (rd l0_1 a2) g)) a1_0 (some ad2) c1_1 l1_1 r1 r2 t1b _ (mc (Kd.R_reads' RY.out).2.2) (Kd.R_reads' RY.out).2.1 (Kd.C_below HR1_1.out (ms HZ)) HC1_1.out H3.out).mono ?_; rintro e w2 ⟨v1, rfl, ho, hb⟩; obtain ⟨Aw, cw, rfl⟩ := Kd.R_slice ho; have RW := Aside0.mk (Kd.R_lower (Kd.R_mono ho (fun _ _ => trivial)) (below_size (ms HZ))); replace X4 := bb X4 hb; replace X11 := bb X11 hb; replace HZ := bs HZ hb; have SZ := Aside0.mk HZ.out.size; (first | have X13 := Aside0.mk (blk_below (heap_alloc_new _ _) hb) | have X13 := Aside0.mk (blk_below (blk_drew (heap_alloc_new _ _)) hb) | skip); (try (have hz0 := (blk_cell X13.out 0).trans (rfl : _ = some (Value.int .i64 0)); have hz1 := (blk_cell X13.out 1).trans (rfl : _ = some (Value.slice none 0 0)); have hf0 := blk_frozen X13.out 0; have hf1 := blk_frozen X13.out 1; (try simp only [World.drew] at hz0 hz1 hf0 hf1))); clear ho hb))
   all_goals go_wp2
   all_goals go_meet
   case rel => exact ⟨_, _, _, rfl, rfl, ⟨heap_alloc_new _ _⟩, ⟨Kd.R_alloc RW.out _⟩, ⟨below_alloc HZ.out _⟩⟩
   case rel => exact ⟨_, _, _, rfl, rfl, ⟨put2 X13.out⟩, ⟨own2 RW.out X13.out (by decide)⟩, ⟨below_set (below_set HZ.out SZ0.out) SZ0.out⟩⟩
  case rest =>
   obtain ⟨g13, Aw, cw, rfl, rfl, X13, RW, HB⟩ := hcut
   replace X3 := Aside0.mk (blk_below X3.out HB.out)
   replace X4 := Aside0.mk (blk_below X4.out HB.out)
   replace X6 := Aside0.mk (blk_below X6.out HB.out)
   replace HR0_2 := Aside0.mk (Kd.C_below HR0_2.out HB.out)
   replace HR1_2 := Aside0.mk (Kd.C_below HR1_2.out HB.out)
   replace HB1 := Aside0.mk (HB1.out.trans (HB.out.mono HB1.out.size))
   have RW := Aside0.mk (Kd.R_lower RW.out B0.out)
   clear HB H3 RY X11 HR1_1 B0
   go_upto_region 6 with (fail)
   go_cut [15, 16] (fun v15 v16 we => ∃ (A1 : Option Addr) (c1 : Nat), v15 = .slice A1 r3.length c1 ∧ v16 = .bool mok ∧ Aside0 (Kd.R (Kd.int .i64) 3 we wc.heap.size (fun k => some k ≠ (.slice Aw r2.length cw : Value).ownBlock) (.slice A1 r3.length c1) r3) ∧ Aside0 (Kd.R (Kd.int .i64) 3 we w.heap.size (fun k => some k ≠ (.slice A1 r3.length c1 : Value).ownBlock) (.slice Aw r2.length cw) r2) ∧ Aside0 (Below wc.heap.size wc we))
   case first =>
    have HB := Aside0.mk (Below.refl wc.heap.size wc)
    go_region_held3 (fun w' => w'.cell? ⟨q3, 2, none⟩ = some (.slice A0_2 l0_2.length c0_2) ∧ w'.cell? ⟨q4, 2, none⟩ = some (.slice A1_2 l1_2.length c1_2))
     (exact ⟨(blk_cell (mb X3) 2).trans rfl, (blk_cell (mb X4) 2).trans rfl⟩)
     ((go_at_call 154; refine (spec_l8Scaled.calls k A0_2 c0_2 l0_2 (wrap64 (Int.tdiv (wrap64 (-(rd l1_1 a2))) g)) A1_2 c1_2 l1_2 (wrap64 (Int.tdiv (rd l0_1 a2) g)) r3 mok _ (Kd.C_below HR0_2.out (ms HB)) HC0_2.out (Kd.C_below HR1_2.out (ms HB)) HC1_2.out H4.out).mono ?_; rintro e w5 ⟨v5, rfl, ho, hb⟩; obtain ⟨Am, cm, rfl⟩ := Kd.R_slice ho; have RM := Aside0.mk (Kd.R_new' ho (Kd.R_lt (mr RW))); have RW' := rl RW ho hb; replace X3 := bb X3 hb; replace X4 := bb X4 hb; replace HB := bs HB hb; clear ho hb))
    all_goals go_wp2
    all_goals go_meet
    case rel => exact ⟨_, _, rfl, rfl, ⟨Kd.R_mono RM.out (fun _ h => h.2)⟩, ⟨Kd.R_mono RW'.out (fun _ h => h.2)⟩, HB⟩
   case rest =>
    obtain ⟨Am, cm, rfl, rfl, RM, RW, HB⟩ := hcut
    have B1 : Aside0 (w.heap.size ≤ _) := ⟨HB1.out.size⟩
    replace X13 := Aside0.mk (blk_below X13.out HB.out)
    replace X6 := Aside0.mk (blk_below X6.out HB.out)
    replace HB1 := Aside0.mk (HB1.out.trans (HB.out.mono HB1.out.size))
    clear HB X3 X4 HR0_2 HR1_2
    obtain ⟨hz0, hz1⟩ := c2 X13
    obtain ⟨ho0, ho1, ho2⟩ := cl3 X6
    obtain ⟨hf0, hf1, hf2, _⟩ := fz4 X6
    cases t0b <;> cases t1b
    all_goals
     go_wp2_with (((with_reducible refine gate_store (t := 93) (p := 6) rfl ?_); refine store_event (t := 93) (p := 6) (v := ?vo_1) (w1 := set3 wc q6 (.int .i64 r1) (.slice Aw r2.length cw) (.slice Am r3.length cm)) ?hg ?ho ?hn ?hr ?_; (case ho => rfl); (case hg => rfl); (case hn => rfl); (case hr => first | (go_simp; done) | (go_simp; rfl)); intro w9 hw; have X6' : Aside0 (w9.heap[q6]? = some (.cells #[.int .i64 r1, .slice Aw r2.length cw, .slice Am r3.length cm] 93 (0, 0))) := ⟨by rw [hw]; exact put3 X6.out⟩; have RW' : Aside0 (Kd.R (Kd.int .i64) 3 w9 w.heap.size (fun k => some k ≠ (.slice Am r3.length cm : Value).ownBlock) (.slice Aw r2.length cw) r2) := ⟨by rw [hw]; exact own3 RW.out X6.out (by decide)⟩; have RM' : Aside0 (Kd.R (Kd.int .i64) 3 w9 w.heap.size (fun k => some k ≠ (.slice Aw r2.length cw : Value).ownBlock) (.slice Am r3.length cm) r3) := ⟨by rw [hw]; exact own3 (Kd.R_lower RM.out B1.out) X6.out (by decide)⟩; have HB' : Aside0 (Below w.heap.size w w9) := ⟨by rw [hw]; exact below3 HB1.out Gq6.out⟩; clear hw))
     refine bodyPost_ret (results_ct rfl _ _ q6 93 #[.int .i64 r1, .slice Aw r2.length cw, .slice Am r3.length cm] (0, 0) _ rfl X6'.out Try.underlying93 rfl (by kernel_rfl)) rfl ?_
     exact ⟨_, _, rfl, RW'.out, RM'.out, HB'.out⟩

theorem info93h : (Try.prog.info? 93).map (fun i => (i.zero, i.size, i.bytes)) = some (some (.agg #[.int .i64 0, .slice none 0 0, .slice none 0 0]), 3, 56) := by kernel_rfl
theorem k93_mkFe (W : World) (ok : Nat → Prop) (x : S93) {A1 : Option Addr} {c1 : Nat} (l1 : x.f0.f1.length ≤ c1) (g1 : Kd.F (Kd.int .i64) W ok A1 x.f0.f1.length x.f0.f1) {A2 : Option Addr} {c2 : Nat} (l2 : x.f1.length ≤ c2) (g2 : Kd.F (Kd.int .i64) W ok A2 x.f1.length x.f1) : Kd.FK k93 W ok x [.int .i64 x.f0.f0, .slice A1 x.f0.f1.length c1, .slice A2 x.f1.length c2] := fun W2 hW => k93_mk W2 x l1 (g1 W2 hW) l2 (g2 W2 hW)
theorem at_E {w : World} {ok : Nat → Prop} {A : Option Addr} {n : Nat} {xs : List S93} (h : Kd.F k93 w ok A n xs) (i : Int) (h0 : 0 ≤ i) (h1 : i < n) : ∃ ad A1 c1 A2 c2, A = some ad ∧ w.cell? (ad.add (i.toNat * 3)) = some (.int .i64 (rd_T93 xs i).f0.f0) ∧ w.cell? ⟨(ad.add (i.toNat * 3)).block, (ad.add (i.toNat * 3)).off + 1, none⟩ = some (.slice A1 (rd_T93 xs i).f0.f1.length c1) ∧ w.cell? ⟨(ad.add (i.toNat * 3)).block, (ad.add (i.toNat * 3)).off + 2, none⟩ = some (.slice A2 (rd_T93 xs i).f1.length c2) ∧ (rd_T93 xs i).f0.f1.length ≤ c1 ∧ (Kd.int .i64).C w A1 (rd_T93 xs i).f0.f1.length (rd_T93 xs i).f0.f1 ∧ (rd_T93 xs i).f1.length ≤ c2 ∧ (Kd.int .i64).C w A2 (rd_T93 xs i).f1.length (rd_T93 xs i).f1 ∧ Kd.FK k93 w ok (rd_T93 xs i) [.int .i64 (rd_T93 xs i).f0.f0, .slice A1 (rd_T93 xs i).f0.f1.length c1, .slice A2 (rd_T93 xs i).f1.length c2] := by
 obtain ⟨ad, c, e, _, hK, hc0, _⟩ := Kd.F_get h z93 i h0 h1
 have hc : ∀ j u, c[j]? = some u → w.cell? (ad.add (i.toNat * 3 + j)) = some u := hc0
 obtain ⟨A1, c1, A2, c2, rfl, l1, g1, l2, g2⟩ := k93_open (Kd.FK_now hK)
 exact ⟨ad, A1, c1, A2, c2, e, hc 0 _ rfl, by rw [← add_field _ _ 1 (by omega)]; exact hc 1 _ rfl, by rw [← add_field _ _ 2 (by omega)]; exact hc 2 _ rfl, l1, g1, l2, g2, hK⟩
def spec_l8Eliminate.l0 : Nat → List S93 → Int → Int → List S93 → Option (List S93)
 | 0, _, _, _, _ => none
 | n + 1, l, v, i, out => if i < (l.length : Int) then (if 0 ≤ i then (if 0 ≤ v then (if v < ((rd_T93 l i).f0.f1.length : Int) then (if rd (rd_T93 l i).f0.f1 v = 0 then (if out.length < 2513169434916 then (spec_l8Eliminate.l0 n l v (wrap64 (i + 1)) (out ++ [rd_T93 l i])) else none) else (spec_l8Eliminate.l0 n l v (wrap64 (i + 1)) out)) else none) else none) else none) else (some out)
def spec_l8Eliminate.l2 : Nat → List S93 → Int → Int → Int → List S93 → Option (List S93)
 | 0, _, _, _, _, _ => none
 | n + 1, l, v, i, j, out => if j < (l.length : Int) then (if rd (rd_T93 l i).f0.f1 v > 0 then (if 0 ≤ j then (if v < ((rd_T93 l j).f0.f1.length : Int) then (if rd (rd_T93 l j).f0.f1 v ≥ 0 then (spec_l8Eliminate.l2 n l v i (wrap64 (j + 1)) out) else ((spec_l8Join.f n (rd_T93 l i).f0.f0 (rd_T93 l i).f0.f1 (rd_T93 l i).f1 (rd_T93 l j).f0.f0 (rd_T93 l j).f0.f1 (rd_T93 l j).f1 v).bind fun t => (if t.2.2.2 = true then (if out.length < 2513169434916 then (spec_l8Eliminate.l2 n l v i (wrap64 (j + 1)) (out ++ [⟨⟨t.1, t.2.1⟩, t.2.2.1⟩])) else none) else (spec_l8Eliminate.l2 n l v i (wrap64 (j + 1)) out)))) else none) else none) else (some out)) else (some out)
def spec_l8Eliminate.l1 : Nat → List S93 → Int → Int → List S93 → Option (List S93)
 | 0, _, _, _, _ => none
 | n + 1, l, v, i, out => if i < (l.length : Int) then (if 0 ≤ i then (if 0 ≤ v then (if v < ((rd_T93 l i).f0.f1.length : Int) then ((spec_l8Eliminate.l2 n l v i 0 out).bind fun o => (spec_l8Eliminate.l1 n l v (wrap64 (i + 1)) o)) else none) else none) else none) else (some out)
def spec_l8Eliminate.f (n : Nat) (l : List S93) (v : Int) : Option (List S93) := (spec_l8Eliminate.l0 n l v 0 []).bind fun o => spec_l8Eliminate.l1 n l v 0 o
set_option maxHeartbeats 8000000 in
set_option maxRecDepth 100000 in
theorem spec_l8Eliminate.calls (n : Nat) (A0 : Option Addr) (c0 : Nat) (l : List S93) (v : Int) (r : List S93) (w : World) (hF : Kd.F k93 w (fun k => k < w.heap.size) A0 l.length l) (hc : l.length ≤ c0) (h : spec_l8Eliminate.f n l v = some r) :
  Calls Try.prog 83 #[.slice A0 l.length c0, .int .i64 v] w fun e w' => ∃ v0 : Value, e = .returned v0 ∧ Kd.N k93 93 w' w.heap.size (fun _ => True) v0 r ∧ Below w.heap.size w w' := by
 have hu93 := Try.underlying93
 have hu29 := Try.underlying29
 unfold spec_l8Eliminate.f at h
 obtain ⟨o1, A1, A2⟩ := Option.bind_eq_some_iff.mp h
 have H1 : Aside0 (spec_l8Eliminate.l0 n l v 0 [] = some o1) := ⟨A1⟩
 have H2 : Aside0 (spec_l8Eliminate.l1 n l v 0 o1 = some r) := ⟨A2⟩
 have HF := Aside0.mk hF
 have HC := Aside0.mk hc
 clear h A1 A2 hF hc
 go_enter Try.func83, Try.ntmps83
 go_wp2_with ((with_reducible refine gate_dst (N := 11) rfl ?_); refine Kd.N_lit k93 w.heap.size 93 ?hg (N' := 11) ?hd (xs := ([] : List S93)) (inner := []) (ok := fun _ => True) (okp := fun _ => True) ?hr ?hp (fun _ hk => hk) trivial (Below.refl _ _) (Nat.le_refl _) (by simp) ?_; (case hd => rfl); (case hg => rfl); (case hr => first | (go_simp; done) | (go_simp; rfl)); (case hp => exact (Reps.none _ _)); intro v5 w3 ho hb hg_ hnew_; have HN0 := Aside0.mk ho; have HB0 := Aside0.mk hb; clear hg_ hnew_ ho hb)
 go_loopg [6, 5] n (fun kq v6 v5 w' => ∃ (i : Int) (out : List S93), v6 = .int .i64 i ∧ Aside0 (spec_l8Eliminate.l0 kq l v i out = some o1) ∧ Aside0 (kq ≤ n) ∧ Aside0 (Kd.N k93 93 w' w.heap.size (fun _ => True) v5 out) ∧ Aside0 (Below w.heap.size w w'))
 case atStart => exact ⟨0, [], rfl, H1, ⟨Nat.le_refl _⟩, ⟨HN0.out⟩, ⟨HB0.out⟩⟩
 case round =>
  obtain ⟨i, out, rfl, HA, HK, HN, HB⟩ := hrel
  cases gk with
  | zero => exact absurd HA.out (by simp [spec_l8Eliminate.l0])
  | succ k1 =>
   have H := HA.out
   clear HA
   simp only [spec_l8Eliminate.l0] at H
   by_cases c3 : i < (l.length : Int)
   ·rw [if_pos c3] at H
    by_cases c4 : 0 ≤ i
    ·rw [if_pos c4] at H
     by_cases c5 : 0 ≤ v
     ·rw [if_pos c5] at H
      by_cases c6 : v < ((rd_T93 l i).f0.f1.length : Int)
      ·rw [if_pos c6] at H
       obtain ⟨ad, A1, c1, A2, c2, rfl, hc0, hc1, hc2, hl1, hC, hl2, hC2, hK⟩ := at_E (Kd.F_below HF.out HB.out) i c4 c3
       obtain ⟨ad1, e1, hx1⟩ := Kd.at_int hC v c5 c6
       cases e1
       have HE := Aside0.mk hK
       clear hl1 hC hl2 hC2 hK
       have c3b : decide (i < (l.length : Int)) = true := decide_eq_true c3
       replace c3 := eq_true c3
       replace c4 := eq_true c4
       replace c5 := eq_true c5
       replace c6 := eq_true c6
       by_cases c7 : rd (rd_T93 l i).f0.f1 v = 0
       ·rw [if_pos c7] at H
        by_cases c8 : out.length < 2513169434916
        ·rw [if_pos c8] at H
         have H' := Aside0.mk H
         have C6 := Aside0.mk c8
         clear H c8
         go_wp2_with (at_builtin; refine Kd.N_append k93 (w0 := w) w.heap.size rfl (.tmp 28) (.tmp 33) 91 93 (.agg #[.int .i64 0, .slice none 0 0, .slice none 0 0]) 56 rfl Try.underlying91 info93h rfl (by decide) (by omega) u5 out (rd_T93 l i) [.int .i64 (rd_T93 l i).f0.f0, .slice (some ad1) (rd_T93 l i).f0.f1.length c1, .slice A2 (rd_T93 l i).f1.length c2] (fun _ => True) (fun k => k < w.heap.size) rfl rfl ?aP ?aK (fun _ _ => trivial) ?aO ?aB ?aS ?aL ?_; (case aP => exact HE.out); (case aK => exact fun k hk => ⟨trivial, fun e => by have := Kd.N_base HN.out k e.symm; omega⟩); (case aO => exact HN.out); (case aB => exact HB.out); (case aS => exact HB.out.size); (case aL => have := C6.out; omega); intro vo' w10 ho hb hg hat; have HN' := Aside0.mk ho; have HB' := Aside0.mk hb; clear ho hb hg hat)
         go_roundg k1
         case measure => have := HK.out; omega
         case rel => exact ⟨wrap64 (i + 1), out ++ [rd_T93 l i], (by first | rfl | (simp; done) | (simp [*]; done)), H', ⟨by have := HK.out; omega⟩, HN', HB'⟩
        rw [if_neg c8] at H; cases H
       rw [if_neg c7] at H
       have H' := Aside0.mk H
       clear H
       have c7b := decide_eq_false c7
       go_wp2
       go_roundg k1
       case measure => have := HK.out; omega
       case rel => exact ⟨wrap64 (i + 1), out, (by first | rfl | (simp; done) | (simp [*]; done)), H', ⟨by have := HK.out; omega⟩, HN, HB⟩
      rw [if_neg c6] at H; cases H
     rw [if_neg c5] at H; cases H
    rw [if_neg c4] at H; cases H
   rw [if_neg c3] at H
   simp only [Option.some.injEq] at H
   subst H
   have c3b : decide (i < (l.length : Int)) = false := decide_eq_false c3
   clear c3
   go_wp2
   clear H1
   go_loopg [7, 5] n (fun kq v7 v5 w' => ∃ (i : Int) (out : List S93), v7 = .int .i64 i ∧ Aside0 (spec_l8Eliminate.l1 kq l v i out = some r) ∧ Aside0 (kq ≤ n) ∧ Aside0 (Kd.N k93 93 w' w.heap.size (fun _ => True) v5 out) ∧ Aside0 (Below w.heap.size w w'))
   case atStart => exact ⟨0, _, rfl, H2, ⟨Nat.le_refl _⟩, HN, HB⟩
   case round =>
    clear H2 HN HB HN0 HB0
    obtain ⟨i, out, rfl, HA, HK, HN, HB⟩ := hrel
    cases gk with
    | zero => exact absurd HA.out (by simp [spec_l8Eliminate.l1])
    | succ k1 =>
     have H := HA.out
     clear HA
     simp only [spec_l8Eliminate.l1] at H
     by_cases c3 : i < (l.length : Int)
     ·rw [if_pos c3] at H
      by_cases c4 : 0 ≤ i
      ·rw [if_pos c4] at H
       by_cases c5 : 0 ≤ v
       ·rw [if_pos c5] at H
        by_cases c6 : v < ((rd_T93 l i).f0.f1.length : Int)
        ·rw [if_pos c6] at H
         obtain ⟨o2, A3, H⟩ := Option.bind_eq_some_iff.mp H
         have H3 := Aside0.mk A3
         have H' := Aside0.mk H
         clear H A3
         obtain ⟨ad, A1, c1, A2, c2, rfl, hc0, hc1, hc2, hl1, hC, hl2, hC2, hK⟩ := at_E HF.out i c4 c3
         obtain ⟨ad1, e1, hx1⟩ := Kd.at_int hC v c5 c6
         cases e1
         have P0 := Aside0.mk hc0
         have P1 := Aside0.mk hc1
         have P2 := Aside0.mk hc2
         have PX := Aside0.mk hx1
         have HC1 := Aside0.mk hC
         have HL1 := Aside0.mk hl1
         have HC2 := Aside0.mk hC2
         have HL2 := Aside0.mk hl2
         have I0 := Aside0.mk c4
         have I1 := Aside0.mk c3
         have V0 := Aside0.mk c5
         have V1 := Aside0.mk c6
         have c3b : decide (i < (l.length : Int)) = true := decide_eq_true c3
         clear hc0 hc1 hc2 hx1 hC hl1 hC2 hl2 hK c3 c4 c5 c6
         go_wp2
         go_loopg [8, 5] k1 (fun kq v8 v5 w' => ∃ (j : Int) (out : List S93), v8 = .int .i64 j ∧ Aside0 (spec_l8Eliminate.l2 kq l v i j out = some o2) ∧ Aside0 (kq ≤ k1) ∧ Aside0 (Kd.N k93 93 w' w.heap.size (fun _ => True) v5 out) ∧ Aside0 (Below w.heap.size w w'))
         case atStart => exact ⟨0, _, rfl, H3, ⟨Nat.le_refl _⟩, HN, HB⟩
         case round =>
          clear H3 HN HB
          obtain ⟨j, out, rfl, HA, HK2, HN, HB⟩ := hrel
          have hi0 := (HB.out.cell (World.block_lt_of_cell? _ _ P0.out)).trans P0.out
          have hi1 := (HB.out.cell (World.block_lt_of_cell? _ _ P1.out)).trans P1.out
          have hi2 := (HB.out.cell (World.block_lt_of_cell? _ _ P2.out)).trans P2.out
          have hix := (HB.out.cell (World.block_lt_of_cell? _ _ PX.out)).trans PX.out
          cases gk with
          | zero => exact absurd HA.out (by simp [spec_l8Eliminate.l2])
          | succ k2 =>
           have H := HA.out
           clear HA
           simp only [spec_l8Eliminate.l2] at H
           have i0 := eq_true I0.out
           have i1 := eq_true I1.out
           have v0 := eq_true V0.out
           have v1 := eq_true V1.out
           by_cases c3 : j < (l.length : Int)
           ·rw [if_pos c3] at H
            have c3b : decide (j < (l.length : Int)) = true := decide_eq_true c3
            by_cases c7 : rd (rd_T93 l i).f0.f1 v > 0
            ·rw [if_pos c7] at H
             have c7b := decide_eq_true c7
             by_cases c4 : 0 ≤ j
             ·rw [if_pos c4] at H
              by_cases c6 : v < ((rd_T93 l j).f0.f1.length : Int)
              ·rw [if_pos c6] at H
               obtain ⟨ad_, B1, d1, B2, d2, he_, hj0, hj1, hj2, hl1, hC, hl2, hC2, hK⟩ := at_E HF.out j c4 c3
               cases he_
               obtain ⟨ad2, e1, hjx⟩ := Kd.at_int hC v V0.out c6
               cases e1
               replace hj0 := (HB.out.cell (World.block_lt_of_cell? _ _ hj0)).trans hj0
               replace hj1 := (HB.out.cell (World.block_lt_of_cell? _ _ hj1)).trans hj1
               replace hj2 := (HB.out.cell (World.block_lt_of_cell? _ _ hj2)).trans hj2
               replace hjx := (HB.out.cell (World.block_lt_of_cell? _ _ hjx)).trans hjx
               have HD1 := Aside0.mk hC
               have HM1 := Aside0.mk hl1
               have HD2 := Aside0.mk hC2
               have HM2 := Aside0.mk hl2
               clear hC hl1 hC2 hl2 hK
               replace c3 := eq_true c3
               replace c4 := eq_true c4
               replace c6 := eq_true c6
               by_cases c8 : rd (rd_T93 l j).f0.f1 v ≥ 0
               ·rw [if_pos c8] at H
                have H6 := Aside0.mk H
                clear H
                have c8b := decide_eq_true c8
                go_wp2
                go_roundg k2
                case measure => have := HK2.out; omega
                case rel => exact ⟨wrap64 (j + 1), out, (by first | rfl | (simp; done) | (simp [*]; done)), H6, ⟨by have := HK2.out; omega⟩, HN, HB⟩
               rw [if_neg c8] at H
               have c8b := decide_eq_false c8
               obtain ⟨⟨t1, t2, t3, t4⟩, A5, H⟩ := Option.bind_eq_some_iff.mp H
               have H5 := Aside0.mk A5
               have H6 := Aside0.mk H
               clear H A5
               go_wp2
               clear c7 c7b c8 c8b hix hjx
               go_cut [9, 10] (fun v9 v10 wc => ∃ (g9 : Nat) (v1 v2 : Value), v9 = .pointer (some ⟨g9, 0, none⟩) ∧ v10 = .bool t4 ∧ Aside0 (wc.heap[g9]? = some (.cells #[.int .i64 t1, v1, v2] 93 (0, 0))) ∧ Aside0 (Kd.R (Kd.int .i64) 3 wc wr.heap.size (fun _ => True) v1 t2) ∧ Aside0 (Kd.R (Kd.int .i64) 3 wc wr.heap.size (fun _ => True) v2 t3) ∧ Aside0 (Below wr.heap.size wr wc))
               case first =>
                have HZ := Aside0.mk (Below.refl wr.heap.size wr)
                have SZ0 := Aside0.mk (Nat.le_refl wr.heap.size)
                go_region_held3 (fun w' => w'.cell? (ad.add (i.toNat * 3)) = some (.int .i64 (rd_T93 l i).f0.f0) ∧ w'.cell? ⟨(ad.add (i.toNat * 3)).block, (ad.add (i.toNat * 3)).off + 1, none⟩ = some (.slice (some ad1) (rd_T93 l i).f0.f1.length c1) ∧ w'.cell? ⟨(ad.add (i.toNat * 3)).block, (ad.add (i.toNat * 3)).off + 2, none⟩ = some (.slice A2 (rd_T93 l i).f1.length c2) ∧ w'.cell? (ad.add (j.toNat * 3)) = some (.int .i64 (rd_T93 l j).f0.f0) ∧ w'.cell? ⟨(ad.add (j.toNat * 3)).block, (ad.add (j.toNat * 3)).off + 1, none⟩ = some (.slice (some ad2) (rd_T93 l j).f0.f1.length d1) ∧ w'.cell? ⟨(ad.add (j.toNat * 3)).block, (ad.add (j.toNat * 3)).off + 2, none⟩ = some (.slice B2 (rd_T93 l j).f1.length d2))
                 (exact ⟨((ms HZ).cell (World.block_lt_of_cell? _ _ hi0)).trans hi0, ((ms HZ).cell (World.block_lt_of_cell? _ _ hi1)).trans hi1, ((ms HZ).cell (World.block_lt_of_cell? _ _ hi2)).trans hi2, ((ms HZ).cell (World.block_lt_of_cell? _ _ hj0)).trans hj0, ((ms HZ).cell (World.block_lt_of_cell? _ _ hj1)).trans hj1, ((ms HZ).cell (World.block_lt_of_cell? _ _ hj2)).trans hj2⟩)
                 ((go_at_call 131; refine (spec_l8Join.calls k2 (rd_T93 l i).f0.f0 (some ad1) c1 (rd_T93 l i).f0.f1 A2 c2 (rd_T93 l i).f1 (rd_T93 l j).f0.f0 (some ad2) d1 (rd_T93 l j).f0.f1 B2 d2 (rd_T93 l j).f1 v t1 t2 t3 t4 _ (Kd.C_below HC1.out (HB.out.trans ((ms HZ).mono HB.out.size))) HL1.out (Kd.C_below HC2.out (HB.out.trans ((ms HZ).mono HB.out.size))) HL2.out (Kd.C_below HD1.out (HB.out.trans ((ms HZ).mono HB.out.size))) HM1.out (Kd.C_below HD2.out (HB.out.trans ((ms HZ).mono HB.out.size))) HM2.out H5.out).mono ?_; rintro e w8 ⟨v1, v2, rfl, h1, h2, hb⟩; obtain ⟨D1, e1, rfl⟩ := Kd.R_slice h1; obtain ⟨D2, e2, rfl⟩ := Kd.R_slice h2; have R1 : Aside0 (Kd.R (Kd.int .i64) 3 w8 wr.heap.size (fun _ => True) (.slice D1 t2.length e1) t2) := ⟨Kd.R_lower (Kd.R_mono h1 (fun _ _ => trivial)) (below_size (ms HZ))⟩; have R2 : Aside0 (Kd.R (Kd.int .i64) 3 w8 wr.heap.size (fun _ => True) (.slice D2 t3.length e2) t3) := ⟨Kd.R_lower (Kd.R_mono h2 (fun _ _ => trivial)) (below_size (ms HZ))⟩; replace HZ := bs HZ hb; have SZ := Aside0.mk HZ.out.size; (first | have X15 := Aside0.mk (blk_below (heap_alloc_new _ _) hb) | have X15 := Aside0.mk (blk_below (blk_drew (heap_alloc_new _ _)) hb) | skip); (try (have hz0 := (blk_cell X15.out 0).trans (rfl : _ = some (Value.int .i64 0)); have hz1 := (blk_cell X15.out 1).trans (rfl : _ = some (Value.slice none 0 0)); have hz2 := (blk_cell X15.out 2).trans (rfl : _ = some (Value.slice none 0 0)); have hf0 := blk_frozen X15.out 0; have hf1 := blk_frozen X15.out 1; have hf2 := blk_frozen X15.out 2; (try simp only [World.drew] at hz0 hz1 hz2 hf0 hf1 hf2))); clear h1 h2 hb))
                all_goals go_wp2
                all_goals go_meet
                case rel => exact ⟨_, _, _, rfl, rfl, ⟨heap_alloc_new _ _⟩, ⟨Kd.R_alloc R1.out _⟩, ⟨Kd.R_alloc R2.out _⟩, ⟨below_alloc HZ.out _⟩⟩
                case rel => exact ⟨_, _, _, rfl, rfl, ⟨put3 X15.out⟩, ⟨own3 R1.out X15.out (by decide)⟩, ⟨own3 R2.out X15.out (by decide)⟩, ⟨below3 HZ.out (Nat.le_refl _)⟩⟩
               case rest =>
                obtain ⟨g9, v1, v2, rfl, rfl, X15, R1, R2, HZ⟩ := hcut
                clear hi0 hi1 hi2 hj0 hj1 hj2
                obtain ⟨D1, e1, rfl⟩ := Kd.R_slice R1.out
                obtain ⟨D2, e2, rfl⟩ := Kd.R_slice R2.out
                obtain ⟨hp0, hp1, hp2⟩ := cl3 X15
                by_cases c9 : t4 = true
                ·subst c9
                 have H := H6.out
                 rw [if_pos rfl] at H
                 by_cases c10 : out.length < 2513169434916
                 ·rw [if_pos c10] at H
                  have H7 := Aside0.mk H
                  have C10 := Aside0.mk c10
                  clear H c10
                  go_wp2_with (at_builtin; refine Kd.N_append k93 (w0 := w) w.heap.size rfl (.tmp 83) (.tmp 85) 91 93 (.agg #[.int .i64 0, .slice none 0 0, .slice none 0 0]) 56 rfl Try.underlying91 info93h rfl (by decide) (by omega) u5 out ⟨⟨t1, t2⟩, t3⟩ [.int .i64 t1, .slice D1 t2.length e1, .slice D2 t3.length e2] (fun _ => True) (fun k => wr.heap.size ≤ k) rfl rfl ?bP ?bK (fun _ _ => trivial) ?bO ?bB ?bS ?bL ?_; (case bP => exact k93_mkFe _ _ ⟨⟨t1, t2⟩, t3⟩ (Kd.R_reads' R1.out).2.1 (Kd.R_F (Kd.R_mono (Kd.R_bound R1.out) (fun k hk => hk.2.1))) (Kd.R_reads' R2.out).2.1 (Kd.R_F (Kd.R_mono (Kd.R_bound R2.out) (fun k hk => hk.2.1)))); (case bK => exact fun k hk => ⟨trivial, fun e => by have := Kd.N_lt HN.out k e.symm; omega⟩); (case bO => exact Kd.N_below HN.out HZ.out); (case bB => exact HB.out.trans (HZ.out.mono HB.out.size)); (case bS => exact Nat.le_trans HB.out.size HZ.out.size); (case bL => have := C10.out; omega); intro vo' w10 ho hb hg hat; have HN' := Aside0.mk ho; have HB' := Aside0.mk hb; clear ho hb hg hat)
                  go_roundg k2
                  case measure => have := HK2.out; omega
                  case rel => exact ⟨wrap64 (j + 1), out ++ [⟨⟨t1, t2⟩, t3⟩], (by first | rfl | (simp; done) | (simp [*]; done)), H7, ⟨by have := HK2.out; omega⟩, HN', HB'⟩
                 rw [if_neg c10] at H; cases H
                have c9' : t4 = false := by cases t4 with | true => exact absurd rfl c9 | false => rfl
                subst c9'
                have H := H6.out
                rw [if_neg (by decide)] at H
                have H7 := Aside0.mk H
                clear H
                go_wp2
                go_roundg k2
                case measure => have := HK2.out; omega
                case rel => exact ⟨wrap64 (j + 1), out, (by first | rfl | (simp; done) | (simp [*]; done)), H7, ⟨by have := HK2.out; omega⟩, ⟨Kd.N_below HN.out HZ.out⟩, ⟨HB.out.trans (HZ.out.mono HB.out.size)⟩⟩
              rw [if_neg c6] at H; cases H
             rw [if_neg c4] at H; cases H
            rw [if_neg c7] at H
            simp only [Option.some.injEq] at H
            subst H
            have c7b := decide_eq_false c7
            have c3t := eq_true c3
            go_wp2
            go_roundg k1
            case measure => have := HK.out; omega
            case rel => exact ⟨wrap64 (i + 1), out, (by first | rfl | (simp; done) | (simp [*]; done)), H', ⟨by have := HK.out; omega⟩, HN, HB⟩
           rw [if_neg c3] at H
           simp only [Option.some.injEq] at H
           subst H
           have c3b : decide (j < (l.length : Int)) = false := decide_eq_false c3
           clear c3
           go_wp2
           go_roundg k1
           case measure => have := HK.out; omega
           case rel => exact ⟨wrap64 (i + 1), out, (by first | rfl | (simp; done) | (simp [*]; done)), H', ⟨by have := HK.out; omega⟩, HN, HB⟩
        rw [if_neg c6] at H; cases H
       rw [if_neg c5] at H; cases H
      rw [if_neg c4] at H; cases H
     rw [if_neg c3] at H
     simp only [Option.some.injEq] at H
     subst H
     have c3b : decide (i < (l.length : Int)) = false := decide_eq_false c3
     clear c3
     go_wp2
     go_ret
     exact ⟨_, rfl, HN.out, HB.out⟩
theorem spec_l8Eliminate.l0_mono : ∀ k a b c d, LeO (spec_l8Eliminate.l0 k a b c d) (spec_l8Eliminate.l0 (k + 1) a b c d) := by
 intro k
 induction k with
 | zero => intros; exact LeO.none _
 | succ k ih =>
  intro a b c d
  rw [spec_l8Eliminate.l0, spec_l8Eliminate.l0]
  repeat' first | exact LeO.refl _ | exact ih _ _ _ _ | apply LeO.ite | refine LeO.bind ?_ (fun _ => ?_)
theorem spec_l8Eliminate.l2_mono : ∀ k a b c d e, LeO (spec_l8Eliminate.l2 k a b c d e) (spec_l8Eliminate.l2 (k + 1) a b c d e) := by
 intro k
 induction k with
 | zero => intros; exact LeO.none _
 | succ k ih =>
  intro a b c d e
  rw [spec_l8Eliminate.l2, spec_l8Eliminate.l2]
  repeat' first | exact LeO.refl _ | exact ih _ _ _ _ _ | exact spec_l8Join.mono _ _ _ _ _ _ _ _ | apply LeO.ite | refine LeO.bind ?_ (fun _ => ?_)
theorem spec_l8Eliminate.l1_mono : ∀ k a b c d, LeO (spec_l8Eliminate.l1 k a b c d) (spec_l8Eliminate.l1 (k + 1) a b c d) := by
 intro k
 induction k with
 | zero => intros; exact LeO.none _
 | succ k ih =>
  intro a b c d
  rw [spec_l8Eliminate.l1, spec_l8Eliminate.l1]
  repeat' first | exact LeO.refl _ | exact ih _ _ _ _ | exact spec_l8Eliminate.l2_mono _ _ _ _ _ _ | apply LeO.ite | refine LeO.bind ?_ (fun _ => ?_)
theorem spec_l8Eliminate.mono : ∀ a b k, LeO (spec_l8Eliminate.f k a b) (spec_l8Eliminate.f (k + 1) a b) := by
 intro a b k
 exact LeO.bind (spec_l8Eliminate.l0_mono _ _ _ _ _) (fun _ => spec_l8Eliminate.l1_mono _ _ _ _ _)

theorem k29_openFs {W : World} {ok : Nat → Prop} {x : S29} {cs : List Value} (h : Kd.FK k29 W ok x cs) : ∃ A1 c1, cs = [.int .i64 x.f0, .slice A1 x.f1.length c1] ∧ x.f1.length ≤ c1 ∧ Kd.F (Kd.int .i64) W ok A1 x.f1.length x.f1 := by
 obtain ⟨A1, c1, rfl, l1, _⟩ := k29_open (Kd.FK_now h)
 exact ⟨A1, c1, rfl, l1, (fun W' hW => by obtain ⟨A1_, c1_, he, l1_, g1_⟩ := k29_open (h W' hW); injection (Option.some.inj (show some (Value.slice A1 x.f1.length c1) = some (Value.slice A1_ x.f1.length c1_) from congrArg (fun l => l[1]?) he)) with ha_ _ _; rw [ha_]; exact g1_)⟩
theorem k93_mkFs (W : World) (ok : Nat → Prop) (x : S93) {A1 : Option Addr} {c1 : Nat} (l1 : x.f0.f1.length ≤ c1) (g1 : Kd.F (Kd.int .i64) W ok A1 x.f0.f1.length x.f0.f1) {A2 : Option Addr} {c2 : Nat} (l2 : x.f1.length ≤ c2) (g2 : Kd.F (Kd.int .i64) W ok A2 x.f1.length x.f1) : Kd.FK k93 W ok x [.int .i64 x.f0.f0, .slice A1 x.f0.f1.length c1, .slice A2 x.f1.length c2] := fun W2 hW => k93_mk W2 x l1 (g1 W2 hW) l2 (g2 W2 hW)
theorem at_S_s {w : World} {ok : Nat → Prop} {A : Option Addr} {n : Nat} {xs : List S29} (h : Kd.F k29 w ok A n xs) (i : Int) (h0 : 0 ≤ i) (h1 : i < n) : ∃ ad A1 c1, A = some ad ∧ w.cell? (ad.add (i.toNat * 2)) = some (.int .i64 (rd_T29 xs i).f0) ∧ w.cell? ⟨(ad.add (i.toNat * 2)).block, (ad.add (i.toNat * 2)).off + 1, none⟩ = some (.slice A1 (rd_T29 xs i).f1.length c1) ∧ (rd_T29 xs i).f1.length ≤ c1 ∧ Kd.F (Kd.int .i64) w ok A1 (rd_T29 xs i).f1.length (rd_T29 xs i).f1 := by
 obtain ⟨ad, c, e, _, hK, hc0, _⟩ := Kd.F_get h z29 i h0 h1
 have hc : ∀ j u, c[j]? = some u → w.cell? (ad.add (i.toNat * 2 + j)) = some u := hc0
 obtain ⟨A1, c1, rfl, l1, g1⟩ := k29_openFs hK
 exact ⟨ad, A1, c1, e, hc 0 _ rfl, by rw [← add_field _ _ 1 (by omega)]; exact hc 1 _ rfl, l1, g1⟩
theorem heap_k29_s : Kd.Heap k29 := Kd.heap_iso _ (Kd.heap_pair (Kd.heap_int _) (Kd.heap_slice _ (Kd.heap_int _)))
theorem k93_mkF' {b : Nat} {W : World} {ok : Nat → Prop} (x : S93) {A1 : Option Addr} {c1 : Nat} {A2 : Option Addr} {n2 c2 : Nat} (l1 : x.f0.f1.length ≤ c1) (g1 : Kd.F (Kd.int .i64) W ok A1 x.f0.f1.length x.f0.f1) (g2 : (Kd.int .i64).R 3 W b ok (.slice A2 n2 c2) x.f1) : Kd.FK k93 W ok x [.int .i64 x.f0.f0, .slice A1 x.f0.f1.length c1, .slice A2 n2 c2] := by
 obtain ⟨rfl, h2, _⟩ := Kd.R_reads' g2
 exact k93_mkFs W ok x l1 g1 h2 (Kd.R_F g2)
def spec_FindFarkas.l0 : Nat → List S29 → Int → List S93 → Option (List S93)
 | 0, _, _, _ => none
 | n + 1, l, i, out => if i < (l.length : Int) then (if 0 ≤ i then (if l.length ≤ 17592186044415 then (if out.length < 2513169434916 then (spec_FindFarkas.l0 n l (wrap64 (i + 1)) (out ++ [⟨rd_T29 l i, (List.replicate (l.length + 1) 0).set i.toNat 1⟩])) else none) else none) else none) else (some out)
def spec_FindFarkas.l1 : Nat → Int → Int → List S93 → Option (Option (List S93))
 | 0, _, _, _ => none
 | n + 1, m, v, l => if v < m then ((spec_l8Eliminate.f n l v).bind fun o => (if (o.length : Int) > 60 then (some none) else (spec_FindFarkas.l1 n m (wrap64 (v + 1)) o))) else (some (some l))
def spec_FindFarkas.l2 : Nat → Int → List S29 → Int → List Int → List S93 → Int → Option (Int × List Int × Bool)
 | 0, _, _, _, _, _, _ => none
 | n + 1, a0_0, l0_1, a1_0, l1_1, l, i => if i < (l.length : Int) then (if 0 ≤ i then (if (rd_T93 l i).f0.f0 < 0 then (if l0_1.length < (rd_T93 l i).f1.length then ((spec_CheckFarkas.f n a0_0 l0_1 a1_0 l1_1 (rd (rd_T93 l i).f1 (l0_1.length : Int)) ((rd_T93 l i).f1.take l0_1.length)).bind fun b => (if b = true then (some (rd (rd_T93 l i).f1 (l0_1.length : Int), (rd_T93 l i).f1.take l0_1.length, true)) else (some (0, ([] : List Int), false)))) else none) else (spec_FindFarkas.l2 n a0_0 l0_1 a1_0 l1_1 l (wrap64 (i + 1)))) else none) else (some (0, ([] : List Int), false))
def spec_FindFarkas.j2 (n : Nat) (a0_0 : Int) (l0_1 : List S29) (a1_0 : Int) (l1_1 : List Int) (o : Option (List S93)) : Option (Int × List Int × Bool) :=
 match o with
 | none => some (0, ([] : List Int), false)
 | some l => spec_FindFarkas.l2 n a0_0 l0_1 a1_0 l1_1 l 0
def spec_FindFarkas.f (n : Nat) (a0_0 : Int) (l0_1 : List S29) (a1_0 : Int) (l1_1 : List Int) : Option (Int × List Int × Bool) :=
 (spec_IsValidSystem.f n a0_0 l0_1).bind fun b1 => (if b1 = true then ((spec_IsValidLin.f n a1_0 l1_1 a0_0).bind fun b2 => (if b2 = true then ((spec_FindFarkas.l0 n l0_1 0 []).bind fun rows => ((spec_ConstLin.f (-1) a0_0).bind fun t0 => (spec_AddScaled.f n t0.1 t0.2 (-1) a1_0 l1_1).bind fun t1 => (if t1.2.2 = true then (if rows.length < 2513169434916 ∧ l0_1.length ≤ 17592186044415 then ((spec_FindFarkas.l1 n a0_0 0 (rows ++ [⟨⟨t1.1, t1.2.1⟩, (List.replicate (l0_1.length + 1) 0).set l0_1.length 1⟩])).bind fun o => spec_FindFarkas.j2 n a0_0 l0_1 a1_0 l1_1 o) else none) else (some (0, ([] : List Int), false))))) else (some (0, ([] : List Int), false)))) else (some (0, ([] : List Int), false)))
set_option maxHeartbeats 8000000 in
set_option maxRecDepth 100000 in
theorem spec_FindFarkas.calls (n : Nat) (a0_0 : Int) (A0_1 : Option Addr) (c0_1 : Nat) (l0_1 : List S29) (a1_0 : Int) (A1_1 : Option Addr) (c1_1 : Nat) (l1_1 : List Int) (r1 : Int) (r2 : List Int) (r3 : Bool) (w : World) (hr0_1 : Kd.C k29 w A0_1 l0_1.length l0_1) (hc0_1 : l0_1.length ≤ c0_1) (hr1_1 : Kd.C (Kd.int .i64) w A1_1 l1_1.length l1_1) (hc1_1 : l1_1.length ≤ c1_1) (h : spec_FindFarkas.f n a0_0 l0_1 a1_0 l1_1 = some (r1, r2, r3)) :
  Calls Try.prog 16 #[.agg #[.int .i64 a0_0, .slice A0_1 l0_1.length c0_1], .agg #[.int .i64 a1_0, .slice A1_1 l1_1.length c1_1]] w fun e w' => ∃ v0_ : Value, e = .returned (.tuple #[.agg #[.int .i64 r1, v0_], .bool r3]) ∧ Kd.R (Kd.int .i64) 3 w' w.heap.size (fun _ => True) v0_ r2 ∧ Below w.heap.size w w' := by
 have hu93 := Try.underlying93
 have hu29 := Try.underlying29
 have hu26 := Try.underlying26
 have hu33 := Try.underlying33
 unfold spec_FindFarkas.f at h
 obtain ⟨b1, A1, H⟩ := Option.bind_eq_some_iff.mp h
 have D1 := Aside0.mk A1
 have HR0 := Aside0.mk hr0_1
 have HC0 := Aside0.mk hc0_1
 have HR1 := Aside0.mk hr1_1
 have HC1 := Aside0.mk hc1_1
 have HH := Aside0.mk H
 clear hr0_1 hc0_1 hr1_1 hc1_1 h A1 H
 have HB := Aside0.mk (Below.refl w.heap.size w)
 go_enter Try.func16, Try.ntmps16
 go_upto_region 1 with (first | ((with_reducible refine gate_dst (N := 2) rfl ?_); refine box_event ?hg (N := 2) ?hd (cs := #[.int .i64 a0_0, .slice A0_1 l0_1.length c0_1]) (t := 26) ?hr ?_; (case hd => rfl); (case hg => rfl); (case hr => first | (go_simp; done) | (go_simp; rfl)); intro q2 hg_ wa hx_ hb_; have Gq2 := gw hg_ HB; replace HB := bs HB hb_; have X2 := Aside0.mk hx_; clear hg_ hx_ hb_) | ((with_reducible refine gate_dst (N := 3) rfl ?_); refine box_event ?hg (N := 3) ?hd (cs := #[.int .i64 a1_0, .slice A1_1 l1_1.length c1_1]) (t := 29) ?hr ?_; (case hd => rfl); (case hg => rfl); (case hr => first | (go_simp; done) | (go_simp; rfl)); intro q3 hg_ wb hx_ hb_; have Gq3 := gw hg_ HB; replace X2 := bb X2 hb_; replace HB := bs HB hb_; have X3 := Aside0.mk hx_; clear hg_ hx_ hb_) | ((with_reducible refine gate_dst (N := 4) rfl ?_); refine box_event ?hg (N := 4) ?hd (cs := #[.int .i64 0, .slice none 0 0]) (t := 33) ?hr ?_; (case hd => rfl); (case hg => rfl); (case hr => first | (go_simp; done) | (go_simp; rfl)); intro q4 hg_ wo hx_ hb_; have Gq4 := gw hg_ HB; replace X2 := bb X2 hb_; replace X3 := bb X3 hb_; replace HB := bs HB hb_; have X4 := Aside0.mk hx_; clear hg_ hx_ hb_))
 have HB0 := HB
 clear HB
 replace HR0 := Aside0.mk (Kd.C_below HR0.out HB0.out)
 replace HR1 := Aside0.mk (Kd.C_below HR1.out HB0.out)
 have H := HH.out
 clear HH
 obtain ⟨h20, h21⟩ := c2 X2
 obtain ⟨h30, h31⟩ := c2 X3
 by_cases hb1 : b1 = true
 ·subst hb1
  rw [if_pos rfl] at H
  obtain ⟨b2, A2, H⟩ := Option.bind_eq_some_iff.mp H
  have D2 := Aside0.mk A2
  have HH := Aside0.mk H
  clear A2 H
  have HB := Aside0.mk (Below.refl wo.heap.size wo)
  by_cases hb2 : b2 = true
  ·subst hb2
   go_upto_region 3 with (first | (go_at_call 79; refine (spec_IsValidSystem.calls n a0_0 A0_1 c0_1 l0_1 _ _ HR0.out HC0.out D1.out).mono ?_; rintro e wp ⟨rfl, hb⟩; replace HB := bs HB hb; replace h20 := (hb.cell (World.block_lt_of_cell? _ _ h20)).trans h20; replace h30 := (hb.cell (World.block_lt_of_cell? _ _ h30)).trans h30; replace h31 := (hb.cell (World.block_lt_of_cell? _ _ h31)).trans h31; clear hb) | (go_at_call 80; refine (spec_IsValidLin.calls n a1_0 A1_1 c1_1 l1_1 a0_0 _ _ (Kd.C_below HR1.out HB.out) HC1.out D2.out).mono ?_; rintro e wq ⟨rfl, hb⟩; replace HB := bs HB hb; clear hb))
   replace X2 := Aside0.mk (blk_below X2.out HB.out)
   replace X3 := Aside0.mk (blk_below X3.out HB.out)
   replace X4 := Aside0.mk (blk_below X4.out HB.out)
   replace HR0 := Aside0.mk (Kd.C_below HR0.out HB.out)
   replace HR1 := Aside0.mk (Kd.C_below HR1.out HB.out)
   replace HB0 := Aside0.mk (HB0.out.trans (HB.out.mono HB0.out.size))
   clear HB D1 D2 h20 h21 h30 h31
   have H := HH.out
   first | rw [if_pos rfl] at H | rw [if_pos trivial] at H
   obtain ⟨rows, B_, H⟩ := Option.bind_eq_some_iff.mp H
   obtain ⟨⟨t0, t0'⟩, B0_, H⟩ := Option.bind_eq_some_iff.mp H
   obtain ⟨⟨t1, t1', t1b⟩, B1_, H⟩ := Option.bind_eq_some_iff.mp H
   have HL0 := Aside0.mk B_
   have H0 : Aside0 (spec_ConstLin.f (-1) a0_0 = some (t0, t0')) := ⟨B0_⟩
   have H1 : Aside0 (spec_AddScaled.f n t0 t0' (-1) a1_0 l1_1 = some (t1, t1', t1b)) := ⟨B1_⟩
   have H2 := Aside0.mk H
   clear HH H B_ B0_ B1_
   have HF0 := Aside0.mk (Kd.C_F heap_k29_s HR0.out)
   obtain ⟨h20, h21⟩ := c2 X2
   (go_upto_region 5 with ((with_reducible refine gate_dst (N := 30) rfl ?_); refine Kd.N_lit k93 wq.heap.size 93 ?hg (N' := 30) ?hd (xs := ([] : List S93)) (inner := []) (ok := fun _ => True) (okp := fun _ => True) ?hr ?hp (fun _ hk => hk) trivial (Below.refl _ _) (Nat.le_refl _) (by simp) ?_; (case hd => rfl); (case hg => rfl); (case hr => first | (go_simp; done) | (go_simp; rfl)); (case hp => exact (Reps.none _ _)); intro v30 w30 ho hb hg_ hnew_; have HN0 := Aside0.mk ho; have HBN := Aside0.mk hb; clear hg_ hnew_ ho hb))
   go_wp2
   go_loopg [8, 7] n (fun kq v8 v7 w' => ∃ (i : Int) (out : List S93), v8 = .int .i64 i ∧ Aside0 (spec_FindFarkas.l0 kq l0_1 i out = some rows) ∧ Aside0 (kq ≤ n) ∧ Aside0 (Kd.N k93 93 w' wq.heap.size (fun _ => True) v7 out) ∧ Aside0 (Below wq.heap.size wq w'))
   case atStart => exact ⟨0, [], rfl, HL0, ⟨Nat.le_refl _⟩, HN0, HBN⟩
   case round =>
    clear HL0 h20 h21 HN0 HBN
    obtain ⟨i, out, rfl, HA, HK, HN, HB⟩ := hrel
    cases gk with
    | zero => exact absurd HA.out (by simp [spec_FindFarkas.l0])
    | succ k1 =>
     have H := HA.out
     clear HA
     simp only [spec_FindFarkas.l0] at H
     by_cases c3 : i < (l0_1.length : Int)
     ·rw [if_pos c3] at H
      by_cases c4 : 0 ≤ i
      ·rw [if_pos c4] at H
       by_cases c9 : l0_1.length ≤ 17592186044415
       ·rw [if_pos c9] at H
        by_cases c10 : out.length < 2513169434916
        ·rw [if_pos c10] at H
         have H' := Aside0.mk H
         have C9 := Aside0.mk c9
         have C10 := Aside0.mk c10
         have I0 := Aside0.mk c4
         have I1 := Aside0.mk c3
         have E1 := Aside0.mk (wrap_len l0_1.length c9)
         clear H c9 c10
         obtain ⟨ad, A1, c1, rfl, hc0, hc1, hl1, hF1⟩ := at_S_s HF0.out i c4 c3
         have HL1 := Aside0.mk hl1
         have HF1 := Aside0.mk hF1
         clear hl1 hF1
         replace hc0 := (HB.out.cell (World.block_lt_of_cell? _ _ hc0)).trans hc0
         replace hc1 := (HB.out.cell (World.block_lt_of_cell? _ _ hc1)).trans hc1
         have HW := Aside0.mk (Below.refl wr.heap.size wr)
         have c3b : decide (i < (l0_1.length : Int)) = true := decide_eq_true c3
         replace c3 := eq_true c3
         replace c4 := eq_true c4
         go_wp2_with (first | ((with_reducible refine gate_dst (N := 38) rfl ?_); refine Kd.R_make (Kd.int .i64) _ 3 rfl (N := 38) rfl 27 _ _ rfl (wrap64 ((l0_1.length : Int) + 1)) rfl rfl Try.underlying27 (.int .i64 0) 8 info3 rfl (by decide) (by omega) 0 (ok := fun k => wr.heap.size ≤ k) (okp := fun k => wr.heap.size ≤ k) rfl (fun _ hk => hk) ?mf ?m0 ?ml (Below.refl _ _) (Nat.le_refl _) ?_; (case mf => exact Nat.le_refl _); (case m0 => rw [E1.out]; exact Int.natCast_nonneg _); (case ml => rw [E1.out, Int.toNat_natCast]; have := C9.out; omega); intro v11 w13 ho hb hg hnew; rw [E1.out, Int.toNat_natCast] at ho; obtain ⟨ys, hys⟩ : ∃ ys, ys = List.replicate (l0_1.length + 1) (0 : Int) := ⟨_, rfl⟩; rw [← hys] at ho; have hyl : ys.length = l0_1.length + 1 := (by rw [hys, List.length_replicate]); obtain ⟨g11, c11, rfl, gb, gl, cl_, HG⟩ := Kd.R_form ho (by omega); have G11 : Aside0 (wr.heap.size ≤ g11) := ⟨gb⟩; replace HW := bs HW hb; have NY := Aside0.mk hys; have HL := Aside0.mk hyl; have RO := Aside0.mk ho; have q11 := eq_true (show i < (ys.length : Int) by have := I1.out; omega); obtain ⟨hy_, hyf_⟩ := Kd.R_celln 0 RO.out i I0.out (show i < (ys.length : Int) by have := I1.out; omega); have HP := Kd.R_putg RO.out i 1; clear ho hb hg hnew hys hyl gb gl HG) | ((with_reducible refine gate_store (t := 3) (p := 41) rfl ?_); refine store_event (t := 3) (p := 41) (v := ?vo_s11) (w1 := (w13.setCell ⟨g11, i.toNat, none⟩ (.int .i64 1))) ?hg ?ho ?hn ?hr ?_; (case ho => rfl); (case hg => rfl); (case hn => rfl); (case hr => first | (go_simp; done) | (go_simp; rfl)); intro w14 hw; have RO' : Aside0 (Kd.R (Kd.int .i64) 3 w14 wr.heap.size (fun k => wr.heap.size ≤ k) (.slice (some ⟨g11, 0, none⟩) ys.length c11) (ys.set i.toNat 1)) := ⟨by rw [hw]; exact HP.1⟩; have HW' : Aside0 (Below wr.heap.size wr w14) := ⟨by rw [hw]; exact below_set HW.out G11.out⟩; clear hw HP RO HW hy_ hyf_; have HW := HW'; clear HW'; have HBW := Aside0.mk (HB.out.trans (HW.out.mono HB.out.size)); obtain ⟨_, h21⟩ := c2 (Aside0.mk (blk_below X2.out HBW.out)); replace hc0 := (HW.out.cell (World.block_lt_of_cell? _ _ hc0)).trans hc0; replace hc1 := (HW.out.cell (World.block_lt_of_cell? _ _ hc1)).trans hc1) | (at_builtin; refine Kd.N_append k93 (w0 := wq) wq.heap.size rfl (.tmp 42) (.tmp 50) 91 93 (.agg #[.int .i64 0, .slice none 0 0, .slice none 0 0]) 56 rfl Try.underlying91 info93h rfl (by decide) (by omega) u7 out ⟨rd_T29 l0_1 i, ys.set i.toNat 1⟩ [.int .i64 (rd_T29 l0_1 i).f0, .slice A1 (rd_T29 l0_1 i).f1.length c1, .slice (some ⟨g11, 0, none⟩) ys.length c11] (fun _ => True) (fun k => some k ≠ u7.ownBlock) rfl rfl ?aP (fun k hk => ⟨trivial, hk⟩) (fun _ _ => trivial) ?aO ?aB ?aS ?aL ?_; (case aP => exact k93_mkF' ⟨rd_T29 l0_1 i, ys.set i.toNat 1⟩ HL1.out (Kd.F_mono (Kd.F_below HF1.out HBW.out) (fun k hk e => by have := Kd.N_base HN.out k e.symm; omega)) (Kd.R_mono RO'.out (fun k hk e => by have := Kd.N_lt HN.out k e.symm; omega))); (case aO => exact Kd.N_below HN.out HW.out); (case aB => exact HBW.out); (case aS => exact HBW.out.size); (case aL => have := C10.out; omega); intro vo' w15 ho hb hg hat; have HN' := Aside0.mk ho; have HB' := Aside0.mk hb; clear ho hb hg hat))
         go_roundg k1
         case measure => have := HK.out; omega
         case rel => exact ⟨wrap64 (i + 1), out ++ [⟨rd_T29 l0_1 i, (List.replicate (l0_1.length + 1) 0).set i.toNat 1⟩], (by first | rfl | (simp; done) | (simp [*]; done)), H', ⟨by have := HK.out; omega⟩, ⟨by rw [← NY.out]; exact HN'.out⟩, HB'⟩
        rw [if_neg c10] at H; cases H
       rw [if_neg c9] at H; cases H
      rw [if_neg c4] at H; cases H
     rw [if_neg c3] at H
     simp only [Option.some.injEq] at H
     subst H
     have c3b : decide (i < (l0_1.length : Int)) = false := decide_eq_false c3
     clear c3
     go_upto_region 11 with (fail)
     have X2w := Aside0.mk (blk_below X2.out HB.out)
     have X3w := Aside0.mk (blk_below X3.out HB.out)
     have HR1w := Aside0.mk (Kd.C_below HR1.out HB.out)
     have HBq := HB
     clear HB
     go_cut [10, 11] (fun v10 v11 wc => ∃ (g6 : Nat) (A1 : Option Addr) (c1 : Nat), v10 = .pointer (some ⟨g6, 0, none⟩) ∧ v11 = .bool t1b ∧ Aside0 (wc.heap[g6]? = some (.cells #[.int .i64 t1, .slice A1 t1'.length c1] 29 (0, 0))) ∧ Aside0 (Kd.R (Kd.int .i64) 3 wc wr.heap.size (fun _ => True) (.slice A1 t1'.length c1) t1') ∧ Aside0 (Below wr.heap.size wr wc))
     case first =>
      clear HBq
      have HB := Aside0.mk (Below.refl wr.heap.size wr)
      have La : Aside0 (∀ g, wr.heap.size ≤ g → q2 ≠ g) := ⟨fun g h => by have := blk_lt X2w.out; omega⟩
      have Lb : Aside0 (∀ g, wr.heap.size ≤ g → q3 ≠ g) := ⟨fun g h => by have := blk_lt X3w.out; omega⟩
      go_region_held3 (fun w' => w'.cell? ⟨q2, 0, none⟩ = some (.int .i64 a0_0) ∧ w'.cell? ⟨q3, 0, none⟩ = some (.int .i64 a1_0) ∧ w'.cell? ⟨q3, 1, none⟩ = some (.slice A1_1 l1_1.length c1_1))
       (first | exact ⟨(blk_cell (mb X2w) 0).trans rfl, (blk_cell (mb X3w) 0).trans rfl, (blk_cell (mb X3w) 1).trans rfl⟩ | exact ⟨(blk_cell (far2 (mb X2w) (La.out _ (by first | exact HB.out.size | exact SZ.out | exact Nat.le_refl _))) 0).trans rfl, (blk_cell (far2 (mb X3w) (Lb.out _ (by first | exact HB.out.size | exact SZ.out | exact Nat.le_refl _))) 0).trans rfl, (blk_cell (far2 (mb X3w) (Lb.out _ (by first | exact HB.out.size | exact SZ.out | exact Nat.le_refl _))) 1).trans rfl⟩)
       (first | (go_at_call 82; refine (spec_ConstLin.calls _ _ _ _ _ H0.out).mono ?_; rintro e w1 ⟨v0, rfl, ho, hb⟩; replace X2w := bb X2w hb; replace X3w := bb X3w hb; replace HB := bs HB hb; have SZ := Aside0.mk HB.out.size; (first | have X10 := Aside0.mk (blk_below (heap_alloc_new _ _) hb) | have X10 := Aside0.mk (blk_below (blk_drew (heap_alloc_new _ _)) hb) | skip); obtain ⟨Az, cz, rfl, lz, Cz⟩ := Kd.R_reads ho; have CZ := Aside0.mk Cz; have LZ := Aside0.mk lz; clear ho hb Cz lz) | (go_at_call 81; refine (spec_AddScaled.calls n t0 Az cz t0' (-1) a1_0 A1_1 c1_1 l1_1 t1 t1' t1b _ (mc CZ.out) LZ.out (Kd.C_below HR1w.out (ms HB)) HC1.out H1.out).mono ?_; rintro e w2 ⟨v1, rfl, ho, hb⟩; obtain ⟨Ay, cy, rfl⟩ := Kd.R_slice ho; have RY := Aside0.mk (Kd.R_lower (Kd.R_mono ho (fun _ _ => trivial)) (below_size (ms HB))); replace X2w := bb X2w hb; replace X3w := bb X3w hb; (first | replace X10 := bb X10 hb | have X10 := Aside0.mk (blk_below (heap_alloc_new _ _) hb) | skip); replace HB := bs HB hb;  (try (have hz0 := (blk_cell X10.out 0).trans (rfl : _ = some (Value.int .i64 0)); have hz1 := (blk_cell X10.out 1).trans (rfl : _ = some (Value.slice none 0 0)); have hf0 := blk_frozen X10.out 0; have hf1 := blk_frozen X10.out 1; (try simp only [World.drew] at hz0 hz1 hf0 hf1))); clear ho hb))
      all_goals go_wp2
      all_goals go_meet
      case rel => exact ⟨_, _, _, rfl, rfl, ⟨heap_alloc_new _ _⟩, ⟨Kd.R_alloc RY.out _⟩, ⟨below_alloc HB.out _⟩⟩
      case rel => exact ⟨_, _, _, rfl, rfl, ⟨put2 X10.out⟩, ⟨own2 RY.out X10.out (by decide)⟩, ⟨below_set (below_set HB.out SZ.out) SZ.out⟩⟩
      case rel => exact ⟨_, _, _, rfl, rfl, ⟨put2 X10.out⟩, ⟨own2 RY.out X10.out (by decide)⟩, ⟨below_set (below_set HB.out (Nat.le_refl _)) (Nat.le_refl _)⟩⟩
     case rest =>
      obtain ⟨g10, Ay, cy, rfl, rfl, X10, RY, HB⟩ := hcut
      clear H0 H1 X2w X3w HR1w
      replace HN := Aside0.mk (Kd.N_below HN.out HB.out)
      replace HBq := Aside0.mk (HBq.out.trans (HB.out.mono HBq.out.size))
      clear HB
      have H := H2.out
      clear H2
      by_cases hb3 : t1b = true
      ·subst hb3
       first | rw [if_pos rfl] at H | rw [if_pos trivial] at H
       by_cases c9 : out.length < 2513169434916 ∧ l0_1.length ≤ 17592186044415
       ·rw [if_pos c9] at H
        obtain ⟨o1, B1_, H⟩ := Option.bind_eq_some_iff.mp H
        have H0 := Aside0.mk B1_
        have H2 := Aside0.mk H
        have C9 := Aside0.mk c9
        have E1 := Aside0.mk (wrap_len l0_1.length c9.2)
        clear B1_ H c9
        obtain ⟨ha0, ha1⟩ := c2 X10
        go_upto_region 17 with (first | ((with_reducible refine gate_dst (N := 65) rfl ?_); refine Kd.R_make (Kd.int .i64) _ 3 rfl (N := 65) rfl 27 _ _ rfl (wrap64 ((l0_1.length : Int) + 1)) rfl rfl Try.underlying27 (.int .i64 0) 8 info3 rfl (by decide) (by omega) 0 (ok := fun k => wc.heap.size ≤ k) (okp := fun k => wc.heap.size ≤ k) rfl (fun _ hk => hk) ?mf2 ?m02 ?ml2 (Below.refl _ _) (Nat.le_refl _) ?_; (case mf2 => exact Nat.le_refl _); (case m02 => rw [E1.out]; exact Int.natCast_nonneg _); (case ml2 => rw [E1.out, Int.toNat_natCast]; have := C9.out.2; omega); intro v12 w13 ho hb hg hnew; rw [E1.out, Int.toNat_natCast] at ho; obtain ⟨ys, hys⟩ : ∃ ys, ys = List.replicate (l0_1.length + 1) (0 : Int) := ⟨_, rfl⟩; rw [← hys] at ho; have hyl : ys.length = l0_1.length + 1 := (by rw [hys, List.length_replicate]); obtain ⟨g12, c12, rfl, gb, gl, cl_, HG⟩ := Kd.R_form ho (by omega); have G12 : Aside0 (wc.heap.size ≤ g12) := ⟨gb⟩; have NE : Aside0 (g10 ≠ g12) := ⟨by have := blk_lt X10.out; omega⟩; have HV := Aside0.mk hb; have X10' := Aside0.mk (blk_below X10.out hb); have RYv := Aside0.mk (Kd.R_below RY.out hb); have NY := Aside0.mk hys; have HL := Aside0.mk hyl; have RO := Aside0.mk ho; have q11 := eq_true (show (l0_1.length : Int) < (ys.length : Int) by omega); have q12 := eq_true (show l0_1.length < ys.length by omega); obtain ⟨hy_, hyf_⟩ := Kd.R_celln 0 RO.out (l0_1.length : Int) (Int.natCast_nonneg _) (show (l0_1.length : Int) < (ys.length : Int) by omega); have HP := Kd.R_putg RO.out (l0_1.length : Int) 1; simp only [Int.toNat_natCast] at hy_ hyf_ HP; clear ho hb hg hnew hys hyl gb gl HG) | ((with_reducible refine gate_store (t := 3) (p := 68) rfl ?_); refine store_event (t := 3) (p := 68) (v := ?vo_s12) (w1 := (w13.setCell ⟨g12, l0_1.length, none⟩ (.int .i64 1))) ?hg ?ho ?hn ?hr ?_; (case ho => rfl); (case hg => rfl); (case hn => rfl); (case hr => first | (go_simp; done) | (go_simp; rfl)); intro w14 hw; have RO' : Aside0 (Kd.R (Kd.int .i64) 3 w14 wc.heap.size (fun k => wc.heap.size ≤ k) (.slice (some ⟨g12, 0, none⟩) ys.length c12) (ys.set l0_1.length 1)) := ⟨by rw [hw]; exact HP.1⟩; have HV' : Aside0 (Below wc.heap.size wc w14) := ⟨by rw [hw]; exact below_set HV.out G12.out⟩; have X10w : Aside0 (w14.heap[g10]? = some (.cells #[.int .i64 t1, .slice Ay t1'.length cy] 29 (0, 0))) := ⟨by rw [hw]; exact blk_far X10'.out NE.out _⟩; clear hw HP RO HV hy_ hyf_ X10' RYv; have HV := HV'; clear HV'; obtain ⟨ha0, ha1⟩ := c2 X10w) | (at_builtin; refine Kd.N_append k93 (w0 := wq) wq.heap.size rfl (.tmp 69) (.tmp 73) 91 93 (.agg #[.int .i64 0, .slice none 0 0, .slice none 0 0]) 56 rfl Try.underlying91 info93h rfl (by decide) (by omega) u7 out ⟨⟨t1, t1'⟩, ys.set l0_1.length 1⟩ [.int .i64 t1, .slice Ay t1'.length cy, .slice (some ⟨g12, 0, none⟩) ys.length c12] (fun _ => True) (fun k => some k ≠ u7.ownBlock) rfl rfl ?bP (fun k hk => ⟨trivial, hk⟩) (fun _ _ => trivial) ?bO ?bB ?bS ?bL ?_; (case bP => exact k93_mkF' ⟨⟨t1, t1'⟩, ys.set l0_1.length 1⟩ (Kd.R_reads' RY.out).2.1 (Kd.R_F (Kd.R_mono (Kd.R_apart' (Kd.R_below RY.out HV.out) (Kd.N_typed (Kd.N_below HN.out HV.out)) (by decide)) (fun k hk => hk.2))) (Kd.R_mono RO'.out (fun k hk e => by have := Kd.N_lt HN.out k e.symm; omega))); (case bO => exact Kd.N_below HN.out HV.out); (case bB => exact HBq.out.trans (HV.out.mono HBq.out.size)); (case bS => exact Nat.le_trans HBq.out.size HV.out.size); (case bL => have := C9.out.1; omega); intro vo' w15 ho hb hg hat; have HN' := Aside0.mk ho; have HB' := Aside0.mk hb; clear ho hb hg hat))
        clear HN HBq RY X10 HV RO' X10w ha0 ha1
        have HN := HN'
        have HB := HB'
        clear HN' HB'
        go_wp2
        go_loopg [13, 7] n (fun kq v13 v7 w' => ∃ (v : Int) (list : List S93), v13 = .int .i64 v ∧ Aside0 (spec_FindFarkas.l1 kq a0_0 v list = some o1) ∧ Aside0 (kq ≤ n) ∧ Aside0 (Kd.N k93 93 w' wq.heap.size (fun _ => True) v7 list) ∧ Aside0 (Below wq.heap.size wq w'))
        case atStart => exact ⟨0, _, rfl, ⟨by rw [NY.out]; exact H0.out⟩, ⟨Nat.le_refl _⟩, HN, HB⟩
        case round =>
         clear H0 HN HB
         obtain ⟨v, list, rfl, HA, HK, HN, HB⟩ := hrel
         obtain ⟨Al, cl, el⟩ := Kd.N_slice HN.out
         subst el
         cases gk with
         | zero => exact absurd HA.out (by simp [spec_FindFarkas.l1])
         | succ k1 =>
          have H := HA.out
          clear HA
          simp only [spec_FindFarkas.l1] at H
          obtain ⟨h20, h21⟩ := c2 (Aside0.mk (blk_below X2.out HB.out))
          by_cases c3 : v < a0_0
          ·rw [if_pos c3] at H
           obtain ⟨o, B3_, H⟩ := Option.bind_eq_some_iff.mp H
           have H3 := Aside0.mk B3_
           clear B3_
           have c3b := decide_eq_true c3
           by_cases c4 : (o.length : Int) > 60
           ·rw [if_pos c4] at H
            simp only [Option.some.injEq] at H
            subst H
            have H := H2.out
            simp only [spec_FindFarkas.j2] at H
            simp only [Option.some.injEq, Prod.mk.injEq] at H
            obtain ⟨rfl, rfl, rfl⟩ := H
            have c4b := decide_eq_true c4
            go_upto_region 22 with (go_at_call 83; refine (spec_l8Eliminate.calls k1 Al cl list v o _ (Kd.F_mono (Kd.F_bound (Kd.N_F HN.out)) (fun k hk => hk.2)) (Kd.N_reads' HN.out).2.1 H3.out).mono ?_; rintro e w16 ⟨v16, rfl, ho, hb⟩; obtain ⟨Ao, co, rfl⟩ := Kd.N_slice ho; have HN' := Aside0.mk (Kd.N_lower ho HB.out.size); have HB' := Aside0.mk (HB.out.trans (hb.mono HB.out.size)); clear ho hb)
            obtain ⟨hz0, hz1⟩ := c2 (Aside0.mk (blk_below X4.out HB'.out))
            have hzf0 := blk_frozen (blk_below X4.out HB'.out) 0
            have hzf1 := blk_frozen (blk_below X4.out HB'.out) 1
            go_wp2_with ((with_reducible refine gate_store (t := 33) (p := 4) rfl ?_); refine store_event (t := 33) (p := 4) (v := ?vo_z71) (w1 := (w16.setCell ⟨q4, 0, none⟩ (.int .i64 0)).setCell ⟨q4, 1, none⟩ (.slice none 0 0)) ?hg ?ho ?hn ?hr ?_; (case ho => rfl); (case hg => rfl); (case hn => rfl); (case hr => first | (go_simp; done) | (go_simp; rfl)); intro w9 hw; have X4' : Aside0 (w9.heap[q4]? = some (.cells #[.int .i64 0, .slice none 0 0] 33 (0, 0))) := ⟨by rw [hw]; exact put2 (blk_below X4.out HB'.out)⟩; have HB' : Aside0 (Below w.heap.size w w9) := ⟨by rw [hw]; exact below_set (below_set (HB0.out.trans (HB'.out.mono HB0.out.size)) Gq4.out) Gq4.out⟩; clear hw)
            refine bodyPost_ret (results_ct rfl _ _ q4 33 #[.int .i64 0, .slice none 0 0] (0, 0) _ rfl X4'.out Try.underlying33 rfl (by kernel_rfl)) rfl ?_
            exact ⟨_, rfl, Kd.R_nil _ _ _ _ _, HB'.out⟩
           rw [if_neg c4] at H
           have H' := Aside0.mk H
           clear H
           have c4b := decide_eq_false c4
           go_wp2_with (go_at_call 83; refine (spec_l8Eliminate.calls k1 Al cl list v o _ (Kd.F_mono (Kd.F_bound (Kd.N_F HN.out)) (fun k hk => hk.2)) (Kd.N_reads' HN.out).2.1 H3.out).mono ?_; rintro e w16 ⟨v16, rfl, ho, hb⟩; obtain ⟨Ao, co, rfl⟩ := Kd.N_slice ho; have HN' := Aside0.mk (Kd.N_lower ho HB.out.size); have HB' := Aside0.mk (HB.out.trans (hb.mono HB.out.size)); clear ho hb)
           go_roundg k1
           case measure => have := HK.out; omega
           case rel => exact ⟨wrap64 (v + 1), o, (by first | rfl | (simp; done) | (simp [*]; done)), H', ⟨by have := HK.out; omega⟩, HN', HB'⟩
          rw [if_neg c3] at H
          simp only [Option.some.injEq] at H
          subst H
          have H2 : Aside0 (spec_FindFarkas.l2 n a0_0 l0_1 a1_0 l1_1 list 0 = some (r1, r2, r3)) := ⟨H2.out⟩
          have c3b := decide_eq_false c3
          clear c3
          go_wp2
          go_loopg [14] n (fun kq v14 w' => ∃ (i : Int), v14 = .int .i64 i ∧ Aside0 (spec_FindFarkas.l2 kq a0_0 l0_1 a1_0 l1_1 list i = some (r1, r2, r3)) ∧ Aside0 (kq ≤ n) ∧ Aside0 (Kd.N k93 93 w' wq.heap.size (fun _ => True) (.slice Al list.length cl) list) ∧ Aside0 (Below wq.heap.size wq w'))
          case atStart => exact ⟨0, rfl, H2, ⟨Nat.le_refl _⟩, HN, HB⟩
          case round =>
           clear H2 HN HB
           obtain ⟨i, rfl, HA, HK, HN, HB⟩ := hrel
           cases gk with
           | zero => exact absurd HA.out (by simp [spec_FindFarkas.l2])
           | succ k1 =>
            have H := HA.out
            clear HA
            simp only [spec_FindFarkas.l2] at H
            by_cases c3 : i < (list.length : Int)
            ·rw [if_pos c3] at H
             by_cases c4 : 0 ≤ i
             ·rw [if_pos c4] at H
              obtain ⟨ad, A1, c1, A2, m2, rfl, hc0, hc1, hc2, hl1, hC, hl2, hC2, hK⟩ := at_E (Kd.F_mono (Kd.F_bound (Kd.N_F HN.out)) (fun k hk => hk.2)) i c4 c3
              have c3b : decide (i < (list.length : Int)) = true := decide_eq_true c3
              replace c3 := eq_true c3
              replace c4 := eq_true c4
              by_cases c7 : (rd_T93 list i).f0.f0 < 0
              ·rw [if_pos c7] at H
               by_cases c6 : l0_1.length < (rd_T93 list i).f1.length
               ·rw [if_pos c6] at H
                obtain ⟨bq, B5_, H⟩ := Option.bind_eq_some_iff.mp H
                have H5 := Aside0.mk B5_
                have H6 := Aside0.mk H
                clear B5_ H
                obtain ⟨ad2, e2, hx2⟩ := Kd.at_int hC2 (l0_1.length : Int) (Int.natCast_nonneg _) (by omega)
                cases e2
                simp only [Int.toNat_natCast] at hx2
                have HC2 := Aside0.mk hC2
                have HL2 := Aside0.mk hl2
                have C6 := Aside0.mk c6
                have q0 := eq_true (show (l0_1.length : Int) < ((rd_T93 list i).f1.length : Int) by omega)
                have q1 := eq_true (show l0_1.length < (rd_T93 list i).f1.length by omega)
                have q2_ := eq_true (show l0_1.length ≤ m2 by omega)
                have q3_ := eq_true (show (l0_1.length : Int) ≤ (m2 : Int) by omega)
                have c7b := decide_eq_true c7
                clear hl1 hC hl2 hC2 hK hc1
                go_upto_region 27 with (fail)
                clear c6
                go_cut [15] (fun v15 wd => ∃ (g15 : Nat) (v1 : Value), v15 = .pointer (some ⟨g15, 0, none⟩) ∧ Aside0 (wd.heap[g15]? = some (.cells #[.int .i64 (rd (rd_T93 list i).f1 (l0_1.length : Int)), v1] 33 (0, 0))) ∧ Aside0 (Kd.R (Kd.int .i64) 3 wd wr.heap.size (fun _ => True) v1 ((rd_T93 list i).f1.take l0_1.length)) ∧ Aside0 (Below wr.heap.size wr wd))
                case first =>
                 have HZ := Aside0.mk (Below.refl wr.heap.size wr)
                 have SZ0 := Aside0.mk (Nat.le_refl wr.heap.size)
                 have SZ1 := Aside0.mk (Nat.le_succ wr.heap.size)
                 go_region_held3 (fun w' => w'.cell? ⟨(ad.add (i.toNat * 3)).block, (ad.add (i.toNat * 3)).off + 2, none⟩ = some (.slice (some ad2) (rd_T93 list i).f1.length m2) ∧ w'.cell? (ad2.add l0_1.length) = some (.int .i64 (rd (rd_T93 list i).f1 (l0_1.length : Int))))
                  (exact ⟨((ms HZ).cell (World.block_lt_of_cell? _ _ hc2)).trans hc2, ((ms HZ).cell (World.block_lt_of_cell? _ _ hx2)).trans hx2⟩)
                  ((refine Kd.R_append_rows_step (Kd.int .i64) (Rr := (Kd.int .i64).K wr) (w0 := wr) wr.heap.size (by rfl) (.tmp 109) (.tmp 116) 27 3 (.int .i64 0) 8 rfl Try.underlying27 info3 rfl (by decide) (by omega) _ ([] : List Int) ((rd_T93 list i).f1.take l0_1.length) (some ad2) l0_1.length _ (fun _ => True) (fun k => False) rfl rfl ?hho ?hhr (fun _ _ h => h) (fun _ hk => hk.elim) (fun _ _ => trivial) (ms HZ) (below_size (ms HZ)) ?hhl ?_; (case hho => first | exact Kd.R_drew (R_empty0 (Nat.le_refl _)) | exact Kd.R_drew (Kd.R_alloc (R_empty0 (Nat.le_refl _)) _) | exact R_empty1 (Nat.le_refl _)); (case hhr => have h3 := Kd.C_take HC2.out (Nat.le_of_lt C6.out); rw [List.length_take, Nat.min_eq_left (Nat.le_of_lt C6.out)] at h3; exact readsI (Kd.C_below h3 (ms HZ))); (case hhl => have := C9.out.2; simp; omega); intro v17 w17 ho hb hg hat; obtain ⟨A17, c17, rfl⟩ := Kd.R_slice ho; have R17 : Aside0 (Kd.R (Kd.int .i64) 3 w17 wr.heap.size (fun _ => True) (.slice A17 (min l0_1.length (rd_T93 list i).f1.length) c17) ((rd_T93 list i).f1.take l0_1.length)) := ⟨by have h := ho; simp only [List.nil_append, List.length_take] at h; exact h⟩; have HZ := Aside0.mk hb; (first | (have X15 : Aside0 (w17.heap[wr.heap.size + 1]? = some (.cells #[.int .i64 0, .slice none 0 0] 33 (0, 0))) := ⟨blk_grown (new2 wr (.cells #[] 3) (.cells #[.int .i64 0, .slice none 0 0] 33)) hg (ne_row (b := wr.heap.size) rfl (by omega))⟩; have hz0 := (blk_cell X15.out 0).trans (rfl : _ = some (Value.int .i64 0)); have hz1 := (blk_cell X15.out 1).trans (rfl : _ = some (Value.slice none 0 0)); have hf0 := blk_frozen X15.out 0; have hf1 := blk_frozen X15.out 1) | (have X15 : Aside0 (w17.heap[wr.heap.size]? = some (.cells #[.int .i64 0, .slice none 0 0] 33 (0, 0))) := ⟨blk_grown (new1 wr (.cells #[.int .i64 0, .slice none 0 0] 33) (.cells #[] 3)) hg (ne_row (b := wr.heap.size + 1) rfl (by omega))⟩; have hz0 := (blk_cell X15.out 0).trans (rfl : _ = some (Value.int .i64 0)); have hz1 := (blk_cell X15.out 1).trans (rfl : _ = some (Value.slice none 0 0)); have hf0 := blk_frozen X15.out 0; have hf1 := blk_frozen X15.out 1) | skip); clear ho hb hg hat))
                 all_goals go_wp2
                 all_goals go_meet
                 case rel => exact ⟨_, _, rfl, ⟨heap_alloc_new _ _⟩, ⟨Kd.R_alloc R17.out _⟩, ⟨below_alloc HZ.out _⟩⟩
                 case rel => exact ⟨_, _, rfl, ⟨put2 X15.out⟩, ⟨own2 R17.out X15.out (by decide)⟩, ⟨below_set (below_set HZ.out SZ1.out) SZ1.out⟩⟩
                 case rel => exact ⟨_, _, rfl, ⟨put2 X15.out⟩, ⟨own2 R17.out X15.out (by decide)⟩, ⟨below_set (below_set HZ.out SZ0.out) SZ0.out⟩⟩
                case rest =>
                 obtain ⟨g15, v1, rfl, X15, R15, HZ⟩ := hcut
                 generalize List.take l0_1.length (rd_T93 list i).f1 = zs at R15 H5 H6
                 obtain ⟨A15, c15, rfl⟩ := Kd.R_slice R15.out
                 clear HC2 HL2 C6 hx2 hc0 hc2 q0 q1 q2_ q3_
                 have HBW := Aside0.mk (HB.out.trans (HZ.out.mono HB.out.size))
                 have LWR : Aside0 (w.heap.size ≤ wr.heap.size) := ⟨Nat.le_trans HB0.out.size HB.out.size⟩
                 clear HN HZ HB
                 obtain ⟨hp0, hp1⟩ := c2 X15
                 obtain ⟨h20, h21⟩ := c2 (Aside0.mk (blk_below X2.out HBW.out))
                 obtain ⟨h30, h31⟩ := c2 (Aside0.mk (blk_below X3.out HBW.out))
                 have H := H6.out
                 clear H6
                 by_cases cb : bq = true
                 ·subst cb
                  rw [if_pos rfl] at H
                  simp only [Option.some.injEq, Prod.mk.injEq] at H
                  obtain ⟨rfl, rfl, rfl⟩ := H
                  go_upto_region 30 with ((go_at_call 19; refine (spec_CheckFarkas.calls k1 a0_0 _ c0_1 l0_1 a1_0 A1_1 c1_1 l1_1 (rd (rd_T93 list i).f1 (l0_1.length : Int)) A15 c15 zs _ _ (Kd.C_below HR0.out HBW.out) HC0.out (Kd.C_below HR1.out HBW.out) HC1.out (Kd.R_reads' R15.out).2.2 (Kd.R_reads' R15.out).2.1 H5.out).mono ?_; rintro e w25 ⟨rfl, hb⟩; replace HBW := bs HBW hb; replace R15 := Aside0.mk (Kd.R_below R15.out hb); replace X15 := Aside0.mk (blk_below X15.out hb); obtain ⟨hp0, hp1⟩ := c2 X15; clear hb))
                  obtain ⟨hz0, hz1⟩ := c2 (Aside0.mk (blk_below X4.out HBW.out))
                  have hzf0 := blk_frozen (blk_below X4.out HBW.out) 0
                  have hzf1 := blk_frozen (blk_below X4.out HBW.out) 1
                  go_wp2_with ((with_reducible refine gate_store (t := 33) (p := 4) rfl ?_); refine store_event (t := 33) (p := 4) (v := ?vo_ret) (w1 := (w25.setCell ⟨q4, 0, none⟩ (.int .i64 (rd (rd_T93 list i).f1 (l0_1.length : Int)))).setCell ⟨q4, 1, none⟩ (.slice A15 zs.length c15)) ?hg ?ho ?hn ?hr ?_; (case ho => rfl); (case hg => rfl); (case hn => rfl); (case hr => first | (go_simp; done) | (go_simp; rfl)); intro w9 hw; have X4' : Aside0 (w9.heap[q4]? = some (.cells #[.int .i64 (rd (rd_T93 list i).f1 (l0_1.length : Int)), .slice A15 zs.length c15] 33 (0, 0))) := ⟨by rw [hw]; exact put2 (blk_below X4.out HBW.out)⟩; have RR : Aside0 (Kd.R (Kd.int .i64) 3 w9 w.heap.size (fun _ => True) (.slice A15 zs.length c15) zs) := ⟨by rw [hw]; exact own2 (Kd.R_lower R15.out LWR.out) (blk_below X4.out HBW.out) (by decide)⟩; have HB' : Aside0 (Below w.heap.size w w9) := ⟨by rw [hw]; exact below_set (below_set (HB0.out.trans (HBW.out.mono HB0.out.size)) Gq4.out) Gq4.out⟩; clear hw)
                  refine bodyPost_ret (results_ct rfl _ _ q4 33 #[.int .i64 (rd (rd_T93 list i).f1 (l0_1.length : Int)), .slice A15 zs.length c15] (0, 0) _ rfl X4'.out Try.underlying33 rfl (by kernel_rfl)) rfl ?_
                  exact ⟨_, rfl, RR.out, HB'.out⟩
                 have cb' : bq = false := by cases bq with | true => exact absurd rfl cb | false => rfl
                 subst cb'
                 simp only [Bool.false_eq_true, if_false] at H
                 simp only [Option.some.injEq, Prod.mk.injEq] at H
                 obtain ⟨rfl, rfl, rfl⟩ := H
                 go_upto_region 29 with ((go_at_call 19; refine (spec_CheckFarkas.calls k1 a0_0 _ c0_1 l0_1 a1_0 A1_1 c1_1 l1_1 (rd (rd_T93 list i).f1 (l0_1.length : Int)) A15 c15 zs _ _ (Kd.C_below HR0.out HBW.out) HC0.out (Kd.C_below HR1.out HBW.out) HC1.out (Kd.R_reads' R15.out).2.2 (Kd.R_reads' R15.out).2.1 H5.out).mono ?_; rintro e w25 ⟨rfl, hb⟩; replace HBW := bs HBW hb; replace R15 := Aside0.mk (Kd.R_below R15.out hb); replace X15 := Aside0.mk (blk_below X15.out hb); obtain ⟨hp0, hp1⟩ := c2 X15; clear hb))
                 obtain ⟨hz0, hz1⟩ := c2 (Aside0.mk (blk_below X4.out HBW.out))
                 have hzf0 := blk_frozen (blk_below X4.out HBW.out) 0
                 have hzf1 := blk_frozen (blk_below X4.out HBW.out) 1
                 go_wp2_with ((with_reducible refine gate_store (t := 33) (p := 4) rfl ?_); refine store_event (t := 33) (p := 4) (v := ?vo_z181) (w1 := (w25.setCell ⟨q4, 0, none⟩ (.int .i64 0)).setCell ⟨q4, 1, none⟩ (.slice none 0 0)) ?hg ?ho ?hn ?hr ?_; (case ho => rfl); (case hg => rfl); (case hn => rfl); (case hr => first | (go_simp; done) | (go_simp; rfl)); intro w9 hw; have X4' : Aside0 (w9.heap[q4]? = some (.cells #[.int .i64 0, .slice none 0 0] 33 (0, 0))) := ⟨by rw [hw]; exact put2 (blk_below X4.out HBW.out)⟩; have HB' : Aside0 (Below w.heap.size w w9) := ⟨by rw [hw]; exact below_set (below_set (HB0.out.trans (HBW.out.mono HB0.out.size)) Gq4.out) Gq4.out⟩; clear hw)
                 refine bodyPost_ret (results_ct rfl _ _ q4 33 #[.int .i64 0, .slice none 0 0] (0, 0) _ rfl X4'.out Try.underlying33 rfl (by kernel_rfl)) rfl ?_
                 exact ⟨_, rfl, Kd.R_nil _ _ _ _ _, HB'.out⟩
               rw [if_neg c6] at H; cases H
              rw [if_neg c7] at H
              have H' := Aside0.mk H
              clear H
              have c7b := decide_eq_false c7
              go_wp2
              go_roundg k1
              case measure => have := HK.out; omega
              case rel => exact ⟨wrap64 (i + 1), (by first | rfl | (simp; done) | (simp [*]; done)), H', ⟨by have := HK.out; omega⟩, HN, HB⟩
             rw [if_neg c4] at H; cases H
            rw [if_neg c3] at H
            simp only [Option.some.injEq, Prod.mk.injEq] at H
            obtain ⟨rfl, rfl, rfl⟩ := H
            have c3b : decide (i < (list.length : Int)) = false := decide_eq_false c3
            clear c3
            obtain ⟨hz0, hz1⟩ := c2 (Aside0.mk (blk_below X4.out HB.out))
            have hzf0 := blk_frozen (blk_below X4.out HB.out) 0
            have hzf1 := blk_frozen (blk_below X4.out HB.out) 1
            go_wp2_with ((with_reducible refine gate_store (t := 33) (p := 4) rfl ?_); refine store_event (t := 33) (p := 4) (v := ?vo_z91) (w1 := (wr.setCell ⟨q4, 0, none⟩ (.int .i64 0)).setCell ⟨q4, 1, none⟩ (.slice none 0 0)) ?hg ?ho ?hn ?hr ?_; (case ho => rfl); (case hg => rfl); (case hn => rfl); (case hr => first | (go_simp; done) | (go_simp; rfl)); intro w9 hw; have X4' : Aside0 (w9.heap[q4]? = some (.cells #[.int .i64 0, .slice none 0 0] 33 (0, 0))) := ⟨by rw [hw]; exact put2 (blk_below X4.out HB.out)⟩; have HB' : Aside0 (Below w.heap.size w w9) := ⟨by rw [hw]; exact below_set (below_set (HB0.out.trans (HB.out.mono HB0.out.size)) Gq4.out) Gq4.out⟩; clear hw)
            refine bodyPost_ret (results_ct rfl _ _ q4 33 #[.int .i64 0, .slice none 0 0] (0, 0) _ rfl X4'.out Try.underlying33 rfl (by kernel_rfl)) rfl ?_
            exact ⟨_, rfl, Kd.R_nil _ _ _ _ _, HB'.out⟩
       rw [if_neg c9] at H; cases H
      have hb3' : t1b = false := by cases t1b with | true => exact absurd rfl hb3 | false => rfl
      subst hb3'
      simp only [Bool.false_eq_true, if_false] at H
      simp only [Option.some.injEq, Prod.mk.injEq] at H
      obtain ⟨rfl, rfl, rfl⟩ := H
      obtain ⟨hz0, hz1⟩ := c2 (Aside0.mk (blk_below X4.out HBq.out))
      have hzf0 := blk_frozen (blk_below X4.out HBq.out) 0
      have hzf1 := blk_frozen (blk_below X4.out HBq.out) 1
      go_wp2_with ((with_reducible refine gate_store (t := 33) (p := 4) rfl ?_); refine store_event (t := 33) (p := 4) (v := ?vo_z51) (w1 := (wc.setCell ⟨q4, 0, none⟩ (.int .i64 0)).setCell ⟨q4, 1, none⟩ (.slice none 0 0)) ?hg ?ho ?hn ?hr ?_; (case ho => rfl); (case hg => rfl); (case hn => rfl); (case hr => first | (go_simp; done) | (go_simp; rfl)); intro w9 hw; have X4' : Aside0 (w9.heap[q4]? = some (.cells #[.int .i64 0, .slice none 0 0] 33 (0, 0))) := ⟨by rw [hw]; exact put2 (blk_below X4.out HBq.out)⟩; have HB' : Aside0 (Below w.heap.size w w9) := ⟨by rw [hw]; exact below_set (below_set (HB0.out.trans (HBq.out.mono HB0.out.size)) Gq4.out) Gq4.out⟩; clear hw)
      refine bodyPost_ret (results_ct rfl _ _ q4 33 #[.int .i64 0, .slice none 0 0] (0, 0) _ rfl X4'.out Try.underlying33 rfl (by kernel_rfl)) rfl ?_
      exact ⟨_, rfl, Kd.R_nil _ _ _ _ _, HB'.out⟩
  have hb2' : b2 = false := by cases b2 with | true => exact absurd rfl hb2 | false => rfl
  subst hb2'
  have H := HH.out
  rw [if_neg (by decide)] at H
  simp only [Option.some.injEq, Prod.mk.injEq] at H
  obtain ⟨rfl, rfl, rfl⟩ := H
  clear HH
  go_upto_region 2 with (first | (go_at_call 79; refine (spec_IsValidSystem.calls n a0_0 A0_1 c0_1 l0_1 _ _ HR0.out HC0.out D1.out).mono ?_; rintro e wp ⟨rfl, hb⟩; replace HB := bs HB hb; replace h20 := (hb.cell (World.block_lt_of_cell? _ _ h20)).trans h20; replace h30 := (hb.cell (World.block_lt_of_cell? _ _ h30)).trans h30; replace h31 := (hb.cell (World.block_lt_of_cell? _ _ h31)).trans h31; clear hb) | (go_at_call 80; refine (spec_IsValidLin.calls n a1_0 A1_1 c1_1 l1_1 a0_0 _ _ (Kd.C_below HR1.out HB.out) HC1.out D2.out).mono ?_; rintro e wq ⟨rfl, hb⟩; replace HB := bs HB hb; clear hb))
  obtain ⟨hz0, hz1⟩ := c2 (Aside0.mk (blk_below X4.out HB.out))
  have hzf0 := blk_frozen (blk_below X4.out HB.out) 0
  have hzf1 := blk_frozen (blk_below X4.out HB.out) 1
  go_wp2_with ((with_reducible refine gate_store (t := 33) (p := 4) rfl ?_); refine store_event (t := 33) (p := 4) (v := ?vo_z1) (w1 := (wq.setCell ⟨q4, 0, none⟩ (.int .i64 0)).setCell ⟨q4, 1, none⟩ (.slice none 0 0)) ?hg ?ho ?hn ?hr ?_; (case ho => rfl); (case hg => rfl); (case hn => rfl); (case hr => first | (go_simp; done) | (go_simp; rfl)); intro w9 hw; have X4' : Aside0 (w9.heap[q4]? = some (.cells #[.int .i64 0, .slice none 0 0] 33 (0, 0))) := ⟨by rw [hw]; exact put2 (blk_below X4.out HB.out)⟩; have HB' : Aside0 (Below w.heap.size w w9) := ⟨by rw [hw]; exact below_set (below_set (HB0.out.trans (HB.out.mono HB0.out.size)) Gq4.out) Gq4.out⟩; clear hw)
  refine bodyPost_ret (results_ct rfl _ _ q4 33 #[.int .i64 0, .slice none 0 0] (0, 0) _ rfl X4'.out Try.underlying33 rfl (by kernel_rfl)) rfl ?_
  exact ⟨_, rfl, Kd.R_nil _ _ _ _ _, HB'.out⟩
 have hb1' : b1 = false := by cases b1 with | true => exact absurd rfl hb1 | false => rfl
 subst hb1'
 rw [if_neg (by decide)] at H
 simp only [Option.some.injEq, Prod.mk.injEq] at H
 obtain ⟨rfl, rfl, rfl⟩ := H
 have HB := Aside0.mk (Below.refl wo.heap.size wo)
 go_upto_region 2 with (go_at_call 79; refine (spec_IsValidSystem.calls n a0_0 A0_1 c0_1 l0_1 _ _ HR0.out HC0.out D1.out).mono ?_; rintro e wp ⟨rfl, hb⟩; replace HB := bs HB hb; replace h20 := (hb.cell (World.block_lt_of_cell? _ _ h20)).trans h20; replace h30 := (hb.cell (World.block_lt_of_cell? _ _ h30)).trans h30; replace h31 := (hb.cell (World.block_lt_of_cell? _ _ h31)).trans h31; clear hb)
 obtain ⟨hz0, hz1⟩ := c2 (Aside0.mk (blk_below X4.out HB.out))
 have hzf0 := blk_frozen (blk_below X4.out HB.out) 0
 have hzf1 := blk_frozen (blk_below X4.out HB.out) 1
 go_wp2_with ((with_reducible refine gate_store (t := 33) (p := 4) rfl ?_); refine store_event (t := 33) (p := 4) (v := ?vo_z2) (w1 := (wp.setCell ⟨q4, 0, none⟩ (.int .i64 0)).setCell ⟨q4, 1, none⟩ (.slice none 0 0)) ?hg ?ho ?hn ?hr ?_; (case ho => rfl); (case hg => rfl); (case hn => rfl); (case hr => first | (go_simp; done) | (go_simp; rfl)); intro w9 hw; have X4' : Aside0 (w9.heap[q4]? = some (.cells #[.int .i64 0, .slice none 0 0] 33 (0, 0))) := ⟨by rw [hw]; exact put2 (blk_below X4.out HB.out)⟩; have HB' : Aside0 (Below w.heap.size w w9) := ⟨by rw [hw]; exact below_set (below_set (HB0.out.trans (HB.out.mono HB0.out.size)) Gq4.out) Gq4.out⟩; clear hw)
 refine bodyPost_ret (results_ct rfl _ _ q4 33 #[.int .i64 0, .slice none 0 0] (0, 0) _ rfl X4'.out Try.underlying33 rfl (by kernel_rfl)) rfl ?_
 exact ⟨_, rfl, Kd.R_nil _ _ _ _ _, HB'.out⟩
theorem spec_FindFarkas.l0_mono : ∀ k a b c, LeO (spec_FindFarkas.l0 k a b c) (spec_FindFarkas.l0 (k + 1) a b c) := by
 intro k
 induction k with
 | zero => intros; exact LeO.none _
 | succ k ih =>
  intro a b c
  rw [spec_FindFarkas.l0, spec_FindFarkas.l0]
  repeat' first | exact LeO.refl _ | exact ih _ _ _ | apply LeO.ite | refine LeO.bind ?_ (fun _ => ?_)
theorem spec_FindFarkas.l1_mono : ∀ k a b c, LeO (spec_FindFarkas.l1 k a b c) (spec_FindFarkas.l1 (k + 1) a b c) := by
 intro k
 induction k with
 | zero => intros; exact LeO.none _
 | succ k ih =>
  intro a b c
  rw [spec_FindFarkas.l1, spec_FindFarkas.l1]
  repeat' first | exact LeO.refl _ | exact ih _ _ _ | exact spec_l8Eliminate.mono _ _ _ | apply LeO.ite | refine LeO.bind ?_ (fun _ => ?_)
theorem spec_FindFarkas.l2_mono : ∀ k a b c d e f, LeO (spec_FindFarkas.l2 k a b c d e f) (spec_FindFarkas.l2 (k + 1) a b c d e f) := by
 intro k
 induction k with
 | zero => intros; exact LeO.none _
 | succ k ih =>
  intro a b c d e f
  rw [spec_FindFarkas.l2, spec_FindFarkas.l2]
  repeat' first | exact LeO.refl _ | exact ih _ _ _ _ _ _ | exact spec_CheckFarkas.mono _ _ _ _ _ _ _ | apply LeO.ite | refine LeO.bind ?_ (fun _ => ?_)
theorem spec_FindFarkas.mono : ∀ a b c d k, LeO (spec_FindFarkas.f k a b c d) (spec_FindFarkas.f (k + 1) a b c d) := by
 intro a b c d k
 unfold spec_FindFarkas.f
 repeat' first | exact LeO.refl _ | exact spec_IsValidSystem.mono _ _ _ | exact spec_IsValidLin.mono _ _ _ _ | exact spec_AddScaled.mono _ _ _ _ _ _ | exact spec_FindFarkas.l0_mono _ _ _ _ | exact spec_FindFarkas.l1_mono _ _ _ _ | apply LeO.ite | refine LeO.bind ?_ (fun o => ?_)
 cases o with
 | none => exact LeO.refl _
 | some l => exact spec_FindFarkas.l2_mono _ _ _ _ _ _ _

end Go.Proofs.Ytlencemmlgkflaa.QFnEntailed
