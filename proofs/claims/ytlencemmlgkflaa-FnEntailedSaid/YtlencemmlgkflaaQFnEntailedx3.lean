-- Made by a program of this claim's own (wip/print): not the kit's print as it stands.
import Derived.Test.YtlencemmlgkflaaUFnEntailedTri
import Derived.Test.YtlencemmlgkflaaQFnEntailedx0
import Derived.Test.YtlencemmlgkflaaQFnEntailedx1
import Derived.Test.YtlencemmlgkflaaQFnEntailedx2
namespace Go.Proofs.Ytlencemmlgkflaa.QFnEntailed
open Go.RowKit Go.Proofs.YtlencemmlgkflaaV.PrintWords Go.Proofs.YtlencemmlgkflaaV.PrintLast Go.Proofs.YtlencemmlgkflaaV.PrintMore
attribute [local go_sem] max2_int min2_int max_two min_two max_three min_three max_four min_four   -- for this text's walks alone
set_option linter.unusedVariables false
set_option linter.unusedSimpArgs false

def impl_combined_1.f (j k x y : Int) : Option (Int × Bool) := (impl_MulLimited.f j x).bind fun p => (impl_scaled.f p.1 k y).bind fun s => some (s.1, p.2 && s.2)
set_option maxHeartbeats 8000000 in
set_option maxRecDepth 100000 in
theorem impl_combined_1.calls (gj gk : Nat) (j k x y r1 : Int) (r2 : Bool) (w : World) (hj : w.cell? ⟨gj, 0, none⟩ = some (.int .i64 j)) (hk : w.cell? ⟨gk, 0, none⟩ = some (.int .i64 k)) (h : impl_combined_1.f j k x y = some (r1, r2)) :
  Calls Try.prog 149 #[.int .i64 x, .int .i64 y, .pointer (some ⟨gj, 0, none⟩), .pointer (some ⟨gk, 0, none⟩)] w fun e w' => e = .returned (.tuple #[.int .i64 r1, .bool r2]) ∧ Drawn0 w w' := by
 unfold impl_combined_1.f at h
 obtain ⟨⟨p1, p2⟩, A1, h⟩ := Option.bind_eq_some_iff.mp h
 obtain ⟨⟨s1, s2⟩, A2, h⟩ := Option.bind_eq_some_iff.mp h
 simp only [Option.some.injEq, Prod.mk.injEq] at h
 obtain ⟨rfl, rfl⟩ := h
 have A1_ := Aside0.mk A1
 have A2_ : Aside0 (impl_scaled.f p1 k y = some (s1, s2)) := ⟨A2⟩
 clear A1 A2
 cases p2 <;> cases s2
 all_goals
  go_enter Try.func149, Try.ntmps149
  go_wp2_with (first | (go_at_call 147; refine (impl_MulLimited.calls _ _ _ _ _ A1_.out).mono ?_; rintro e w1 ⟨rfl, ⟨n1, rfl⟩⟩) | (go_at_call 124; refine (impl_scaled.calls _ _ _ _ _ _ A2_.out).mono ?_; rintro e w1 ⟨rfl, ⟨n1, rfl⟩⟩))
  go_ret2
  exact ⟨by first | rfl | (simp; done), by repeat (first | exact Drawn0.refl _ | apply Drawn0.step)⟩

def impl_combined.l0 : Nat → Int → Int → List Int → List Int → Int → List Int → Bool → Option (List Int × Bool)
 | 0, _, _, _, _, _, _, _ => none
 | n + 1, j, k, am, bm, i, ms, ok => if i < (am.length : Int) then (if 0 ≤ i then (if i < (bm.length : Int) then ((impl_combined_1.f j k (rd am i) (rd bm i)).bind fun t => (if ms.length < 17592186044416 then (impl_combined.l0 n j k am bm (wrap64 (i + 1)) (ms ++ [t.1]) (ok && t.2)) else none)) else none) else none) else (some (ms, ok))
def impl_combined.f (n : Nat) (a0_0 : Int) (l0_1 l0_2 : List Int) (a0_3 a1 a2_0 : Int) (l2_1 l2_2 : List Int) (a2_3 a3 : Int) : Option (Int × List Int × List Int × Int × Bool) :=
 (impl_ConstLin.f 0 (l0_1.length : Int)).bind fun t0 => (impl_AddScaled.f n t0.1 t0.2 a1 a0_0 l0_1).bind fun t1 => (impl_AddScaled.f n t1.1 t1.2.1 a3 a2_0 l2_1).bind fun t2 =>
  (if t1.2.2 = true ∧ t2.2.2 = true then ((impl_combined_1.f a1 a3 a0_3 a2_3).bind fun t3 => ((impl_combined.l0 n a1 a3 l0_2 l2_2 0 [] t3.2).bind fun t4 => (some (t2.1, t2.2.1, t4.1, t3.1, t4.2)))) else (some (0, ([] : List Int), ([] : List Int), 0, false)))
set_option maxHeartbeats 8000000 in
set_option maxRecDepth 100000 in
theorem impl_combined.calls (n : Nat) (a0_0 : Int) (A0_1 : Option Addr) (c0_1 : Nat) (l0_1 : List Int) (A0_2 : Option Addr) (c0_2 : Nat) (l0_2 : List Int) (a0_3 a1 a2_0 : Int) (A2_1 : Option Addr) (c2_1 : Nat) (l2_1 : List Int) (A2_2 : Option Addr) (c2_2 : Nat) (l2_2 : List Int) (a2_3 a3 r1 : Int) (r2 r3 : List Int) (r4 : Int) (r5 : Bool) (w : World)
  (hr0_1 : Kd.C (Kd.int .i64) w A0_1 l0_1.length l0_1) (hc0_1 : l0_1.length ≤ c0_1) (hr0_2 : Kd.C (Kd.int .i64) w A0_2 l0_2.length l0_2) (hc0_2 : l0_2.length ≤ c0_2)
  (hr2_1 : Kd.C (Kd.int .i64) w A2_1 l2_1.length l2_1) (hc2_1 : l2_1.length ≤ c2_1) (hr2_2 : Kd.C (Kd.int .i64) w A2_2 l2_2.length l2_2) (hc2_2 : l2_2.length ≤ c2_2)
  (h : impl_combined.f n a0_0 l0_1 l0_2 a0_3 a1 a2_0 l2_1 l2_2 a2_3 a3 = some (r1, r2, r3, r4, r5)) :
  Calls Try.prog 126 #[.agg #[.int .i64 a0_0, .slice A0_1 l0_1.length c0_1, .slice A0_2 l0_2.length c0_2, .int .i64 a0_3], .int .i64 a1, .agg #[.int .i64 a2_0, .slice A2_1 l2_1.length c2_1, .slice A2_2 l2_2.length c2_2, .int .i64 a2_3], .int .i64 a3] w
   fun e w' => ∃ v1 v2 : Value, e = .returned (.tuple #[.agg #[.int .i64 r1, v1, v2, .int .i64 r4], .bool r5]) ∧ Kd.R (Kd.int .i64) 3 w' w.heap.size (fun _ => True) v1 r2 ∧ Kd.R (Kd.int .i64) 3 w' w.heap.size (fun _ => True) v2 r3 ∧ Below w.heap.size w w' := by
 have hu89 := Try.underlying89
 have hu29 := Try.underlying29
 have hmf : ∀ (fn : Fn) (first cap : Array Value) (w : World), (Instr.makeFunc fn first cap).run Try.prog w = .ok (.func fn first cap) w := fun _ _ _ _ => rfl
 unfold impl_combined.f at h
 obtain ⟨⟨t0, t0'⟩, A0, h⟩ := Option.bind_eq_some_iff.mp h
 obtain ⟨⟨t1, t1', t1b⟩, A1, h⟩ := Option.bind_eq_some_iff.mp h
 obtain ⟨⟨t2, t2', t2b⟩, A2, h⟩ := Option.bind_eq_some_iff.mp h
 have H0 : Aside0 (impl_ConstLin.f 0 (l0_1.length : Int) = some (t0, t0')) := ⟨A0⟩
 have H1 : Aside0 (impl_AddScaled.f n t0 t0' a1 a0_0 l0_1 = some (t1, t1', t1b)) := ⟨A1⟩
 have H2 : Aside0 (impl_AddScaled.f n t1 t1' a3 a2_0 l2_1 = some (t2, t2', t2b)) := ⟨A2⟩
 have H : Aside0 ((if t1b = true ∧ t2b = true then ((impl_combined_1.f a1 a3 a0_3 a2_3).bind fun t3 => ((impl_combined.l0 n a1 a3 l0_2 l2_2 0 [] t3.2).bind fun t4 => (some (t2, t2', t4.1, t3.1, t4.2)))) else (some (0, ([] : List Int), ([] : List Int), 0, false))) = some (r1, r2, r3, r4, r5)) := ⟨h⟩
 clear h A0 A1 A2
 have HR0_1 := Aside0.mk hr0_1
 have HC0_1 := Aside0.mk hc0_1
 have HR0_2 := Aside0.mk hr0_2
 have HC0_2 := Aside0.mk hc0_2
 have HR2_1 := Aside0.mk hr2_1
 have HC2_1 := Aside0.mk hc2_1
 have HR2_2 := Aside0.mk hr2_2
 have HC2_2 := Aside0.mk hc2_2
 clear hr0_1 hc0_1 hr0_2 hc0_2 hr2_1 hc2_1 hr2_2 hc2_2
 have HB := Aside0.mk (Below.refl w.heap.size w)
 go_enter Try.func126, Try.ntmps126
 go_wp2_with (first | ((with_reducible refine gate_dst (N := 4) rfl ?_); refine box_event ?hg (N := 4) ?hd (cs := #[.int .i64 a0_0, .slice A0_1 l0_1.length c0_1, .slice A0_2 l0_2.length c0_2, .int .i64 a0_3]) (t := 89) ?hr ?_; (case hd => rfl); (case hg => rfl); (case hr => first | (go_simp; done) | (go_simp; rfl)); intro qa hg_ wa hx_ hb_; have Gqa := gw hg_ HB; replace HB := bs HB hb_; have Xa := Aside0.mk hx_; clear hg_ hx_ hb_) | ((with_reducible refine gate_dst (N := 5) rfl ?_); refine box_event ?hg (N := 5) ?hd (cs := #[.int .i64 a1]) (t := 3) ?hr ?_; (case hd => rfl); (case hg => rfl); (case hr => first | (go_simp; done) | (go_simp; rfl)); intro qj hg_ wj hx_ hb_; have Gqj := gw hg_ HB; replace Xa := bb Xa hb_; replace HB := bs HB hb_; have Xj := Aside0.mk hx_; clear hg_ hx_ hb_) | ((with_reducible refine gate_dst (N := 6) rfl ?_); refine box_event ?hg (N := 6) ?hd (cs := #[.int .i64 a2_0, .slice A2_1 l2_1.length c2_1, .slice A2_2 l2_2.length c2_2, .int .i64 a2_3]) (t := 89) ?hr ?_; (case hd => rfl); (case hg => rfl); (case hr => first | (go_simp; done) | (go_simp; rfl)); intro qb hg_ wb hx_ hb_; have Gqb := gw hg_ HB; replace Xa := bb Xa hb_; replace Xj := bb Xj hb_; replace HB := bs HB hb_; have Xb := Aside0.mk hx_; clear hg_ hx_ hb_) | ((with_reducible refine gate_dst (N := 7) rfl ?_); refine box_event ?hg (N := 7) ?hd (cs := #[.int .i64 a3]) (t := 3) ?hr ?_; (case hd => rfl); (case hg => rfl); (case hr => first | (go_simp; done) | (go_simp; rfl)); intro qk hg_ wk hx_ hb_; have Gqk := gw hg_ HB; replace Xa := bb Xa hb_; replace Xj := bb Xj hb_; replace Xb := bb Xb hb_; replace HB := bs HB hb_; have Xk := Aside0.mk hx_; clear hg_ hx_ hb_) | ((with_reducible refine gate_dst (N := 8) rfl ?_); refine box_event ?hg (N := 8) ?hd (cs := #[.int .i64 0, .slice none 0 0, .slice none 0 0, .int .i64 0]) (t := 89) ?hr ?_; (case hd => rfl); (case hg => rfl); (case hr => first | (go_simp; done) | (go_simp; rfl)); intro qo hg_ wo hx_ hb_; have Gqo := gw hg_ HB; replace Xa := bb Xa hb_; replace Xj := bb Xj hb_; replace Xb := bb Xb hb_; replace Xk := bb Xk hb_; replace HB := bs HB hb_; have Xo := Aside0.mk hx_; clear hg_ hx_ hb_))
 have HB0 := HB
 clear HB
 replace HR0_1 := Aside0.mk (Kd.C_below HR0_1.out HB0.out)
 replace HR0_2 := Aside0.mk (Kd.C_below HR0_2.out HB0.out)
 replace HR2_1 := Aside0.mk (Kd.C_below HR2_1.out HB0.out)
 replace HR2_2 := Aside0.mk (Kd.C_below HR2_2.out HB0.out)
 go_cut [10, 11] (fun v10 v11 wc => ∃ (g10 : Nat) (A1 : Option Addr) (c1 : Nat), v10 = .pointer (some ⟨g10, 0, none⟩) ∧ v11 = .bool t1b ∧ Aside0 (wc.heap[g10]? = some (.cells #[.int .i64 t1, .slice A1 t1'.length c1] 29 (0, 0))) ∧ Aside0 (Kd.R (Kd.int .i64) 3 wc w.heap.size (fun _ => True) (.slice A1 t1'.length c1) t1') ∧ Aside0 (wo.heap.size ≤ g10) ∧ Aside0 (Below wo.heap.size wo wc))
 case first =>
  have HB := Aside0.mk (Below.refl wo.heap.size wo)
  have La : Aside0 (∀ g, wo.heap.size ≤ g → qa ≠ g) := ⟨fun g h => by have := blk_lt Xa.out; omega⟩
  have Lj : Aside0 (∀ g, wo.heap.size ≤ g → qj ≠ g) := ⟨fun g h => by have := blk_lt Xj.out; omega⟩
  go_region_held3 (fun w' => w'.cell? ⟨qa, 0, none⟩ = some (.int .i64 a0_0) ∧ w'.cell? ⟨qa, 1, none⟩ = some (.slice A0_1 l0_1.length c0_1) ∧ w'.cell? ⟨qj, 0, none⟩ = some (.int .i64 a1))
   (first | exact ⟨(blk_cell (mb Xa) 0).trans rfl, (blk_cell (mb Xa) 1).trans rfl, (blk_cell (mb Xj) 0).trans rfl⟩ | exact ⟨(blk_cell (far2 (mb Xa) (La.out _ (by first | exact HB.out.size | exact SZ.out | exact Nat.le_refl _))) 0).trans rfl, (blk_cell (far2 (mb Xa) (La.out _ (by first | exact HB.out.size | exact SZ.out | exact Nat.le_refl _))) 1).trans rfl, (blk_cell (far2 (mb Xj) (Lj.out _ (by first | exact HB.out.size | exact SZ.out | exact Nat.le_refl _))) 0).trans rfl⟩)
   (first | (go_at_call 76; refine (impl_ConstLin.calls _ _ _ _ _ H0.out).mono ?_; rintro e w1 ⟨v0, rfl, ho, hb⟩; replace Xa := bb Xa hb; replace Xj := bb Xj hb; replace HB := bs HB hb; have SZ := Aside0.mk HB.out.size; (first | have X10 := Aside0.mk (blk_below (heap_alloc_new _ _) hb) | have X10 := Aside0.mk (blk_below (blk_drew (heap_alloc_new _ _)) hb) | skip); obtain ⟨Az, cz, rfl, lz, Cz⟩ := Kd.R_reads ho; have CZ := Aside0.mk Cz; have LZ := Aside0.mk lz; clear ho hb Cz lz) | (go_at_call 75; refine (impl_AddScaled.calls n t0 Az cz t0' a1 a0_0 A0_1 c0_1 l0_1 t1 t1' t1b _ (mc CZ.out) LZ.out (Kd.C_below HR0_1.out (ms HB)) HC0_1.out H1.out).mono ?_; rintro e w2 ⟨v1, rfl, ho, hb⟩; obtain ⟨Ay, cy, rfl⟩ := Kd.R_slice ho; have RY := Aside0.mk (Kd.R_lower (Kd.R_mono ho (fun _ _ => trivial)) (Nat.le_trans HB0.out.size (ms HB).size)); replace Xa := bb Xa hb; replace Xj := bb Xj hb; (first | replace X10 := bb X10 hb | have X10 := Aside0.mk (blk_below (heap_alloc_new _ _) hb) | skip); replace HB := bs HB hb;  (try (have hz0 := (blk_cell X10.out 0).trans (rfl : _ = some (Value.int .i64 0)); have hz1 := (blk_cell X10.out 1).trans (rfl : _ = some (Value.slice none 0 0)); have hf0 := blk_frozen X10.out 0; have hf1 := blk_frozen X10.out 1; (try simp only [World.drew] at hz0 hz1 hf0 hf1))); clear ho hb))
  all_goals go_wp2
  all_goals go_meet
  case rel => exact ⟨_, _, _, rfl, rfl, ⟨heap_alloc_new _ _⟩, ⟨Kd.R_alloc RY.out _⟩, ⟨HB.out.size⟩, ⟨below_alloc HB.out _⟩⟩
  case rel => exact ⟨_, _, _, rfl, rfl, ⟨put2 X10.out⟩, ⟨own2 RY.out X10.out (by decide)⟩, SZ, ⟨below_set (below_set HB.out SZ.out) SZ.out⟩⟩
  case rel => exact ⟨_, _, _, rfl, rfl, ⟨put2 X10.out⟩, ⟨own2 RY.out X10.out (by decide)⟩, ⟨Nat.le_refl _⟩, ⟨below_set (below_set HB.out (Nat.le_refl _)) (Nat.le_refl _)⟩⟩
 case rest =>
  obtain ⟨g10, Ay, cy, rfl, rfl, X10, RY, SZ, HB⟩ := hcut
  by_cases hbb : t1b = true ∧ t2b = true
  ·obtain ⟨h1, h2⟩ := hbb
   subst h1 h2
   have h := H.out
   rw [if_pos ⟨rfl, rfl⟩] at h
   obtain ⟨⟨t3, t3b⟩, A3, h⟩ := Option.bind_eq_some_iff.mp h
   obtain ⟨⟨t4, t4b⟩, A4, h⟩ := Option.bind_eq_some_iff.mp h
   simp only [Option.some.injEq, Prod.mk.injEq] at h
   obtain ⟨rfl, rfl, rfl, rfl, rfl⟩ := h
   have H3 : Aside0 (impl_combined_1.f a1 a3 a0_3 a2_3 = some (t3, t3b)) := ⟨A3⟩
   have H4 : Aside0 (impl_combined.l0 n a1 a3 l0_2 l2_2 0 [] t3b = some (t4, t4b)) := ⟨A4⟩
   clear A3 A4 H
   obtain ⟨hq0, hq1⟩ := c2 X10
   have hqk := cl1 (Aside0.mk (blk_below Xk.out HB.out))
   obtain ⟨hqb0, hqb1, _, _⟩ := cl4 (Aside0.mk (blk_below Xb.out HB.out))
   go_wp2_with (first | (go_at_call 75; refine (impl_AddScaled.calls n t1 Ay cy t1' a3 a2_0 A2_1 c2_1 l2_1 t2 t2' true _ (mc ((Kd.R_reads' RY.out).2.2)) ((Kd.R_reads' RY.out).2.1) (Kd.C_below HR2_1.out (ms HB)) HC2_1.out H2.out).mono ?_; rintro e w3 ⟨v2, rfl, ho, hb⟩; obtain ⟨A2, cA, rfl⟩ := Kd.R_slice ho; have R2 := Aside0.mk (Kd.R_lower (Kd.R_mono ho (fun _ _ => trivial)) (Nat.le_trans HB0.out.size (ms HB).size)); replace X10 := bb X10 hb; replace HB := bs HB hb; obtain ⟨hz0, hz1⟩ := c2 X10; have hf0 := blk_frozen X10.out 0; have hf1 := blk_frozen X10.out 1; clear ho hb) | ((with_reducible refine gate_store (t := 29) (p := 10) rfl ?_); refine store_event (t := 29) (p := 10) (v := ?vo_1) (w1 := ((w3.setCell ⟨g10, 0, none⟩ (.int .i64 t2)).setCell ⟨g10, 1, none⟩ (.slice A2 t2'.length cA))) ?hg ?ho ?hn ?hr ?_; (case ho => rfl); (case hg => rfl); (case hn => rfl); (case hr => first | (go_simp; done) | (go_simp; rfl)); intro w4 hw; have X10' : Aside0 (w4.heap[g10]? = some (.cells #[.int .i64 t2, .slice A2 t2'.length cA] 29 (0, 0))) := ⟨by rw [hw]; exact put2 X10.out⟩; have R2' : Aside0 (Kd.R (Kd.int .i64) 3 w4 w.heap.size (fun _ => True) (.slice A2 t2'.length cA) t2') := ⟨by rw [hw]; exact own2 R2.out X10.out (by decide)⟩; have HB' : Aside0 (Below wo.heap.size wo w4) := ⟨by rw [hw]; exact below_set (below_set HB.out SZ.out) SZ.out⟩; clear hw R2 HB X10 hz0 hz1 hf0 hf1; have HB := HB'; clear HB'; obtain ⟨hz0, hz1⟩ := c2 X10') | ((with_reducible refine gate_dst (N := 14) rfl ?_); refine box_event ?hg (N := 14) ?hd (cs := #[.int .i64 0, .slice none 0 0, .slice none 0 0, .int .i64 0]) (t := 89) ?hr ?_; (case hd => rfl); (case hg => rfl); (case hr => first | (go_simp; done) | (go_simp; rfl)); intro g14 hg_ w5 hx_ hb_; have G14 := gw hg_ HB; replace R2 := rb R2' hb_; replace HB := bs HB hb_; have X14 := Aside0.mk hx_; obtain ⟨ha0, ha1, ha2, ha3⟩ := cl4 X14; obtain ⟨hb0, hb1, hb2, hb3⟩ := fz4 X14; clear R2' hg_ hx_ hb_) | ((with_reducible refine gate_store (t := 89) (p := 14) rfl ?_); refine store_event (t := 89) (p := 14) (v := ?vo_2) (w1 := set4 w5 g14 (.int .i64 t2) (.slice A2 t2'.length cA) (.slice none 0 0) (.int .i64 0)) ?hg ?ho ?hn ?hr ?_; (case ho => rfl); (case hg => rfl); (case hn => rfl); (case hr => first | (go_simp; done) | (go_simp; rfl)); intro w6 hw; have X14' : Aside0 (w6.heap[g14]? = some (.cells #[.int .i64 t2, .slice A2 t2'.length cA, .slice none 0 0, .int .i64 0] 89 (0, 0))) := ⟨by rw [hw]; exact put4 X14.out⟩; have R2' : Aside0 (Kd.R (Kd.int .i64) 3 w6 w.heap.size (fun _ => True) (.slice A2 t2'.length cA) t2') := ⟨by rw [hw]; exact own4 R2.out X14.out (by decide)⟩; have HB' : Aside0 (Below wo.heap.size wo w6) := ⟨by rw [hw]; exact below4 HB.out G14.out⟩; clear hw R2 HB X14 ha0 ha1 ha2 ha3 hb0 hb1 hb2 hb3; have HB := HB'; clear HB'; obtain ⟨_, _, _, hqa3⟩ := cl4 (Aside0.mk (blk_below Xa.out HB.out)); obtain ⟨_, _, _, hqb3⟩ := cl4 (Aside0.mk (blk_below Xb.out HB.out)); have hcj := cl1 (Aside0.mk (blk_below Xj.out HB.out)); have hck := cl1 (Aside0.mk (blk_below Xk.out HB.out))) | (go_at_call 149; refine (impl_combined_1.calls qj qk a1 a3 a0_3 a2_3 t3 t3b _ hcj hck H3.out).mono ?_; rintro e w7 ⟨rfl, hd⟩; have hb := hd.below; have X14 := bb X14' hb; have R2 := rb R2' hb; replace HB := bs HB hb; obtain ⟨ha0, ha1, ha2, ha3⟩ := cl4 X14; obtain ⟨hb0, hb1, hb2, hb3⟩ := fz4 X14; clear X14' R2' hd hb hqa3 hqb3 hcj hck) | ((with_reducible refine gate_store (t := 3) (p := 60) rfl ?_); refine store_event (t := 3) (p := 60) (v := ?vo_3) (w1 := w7.setCell ⟨g14, 3, none⟩ (.int .i64 t3)) ?hg ?ho ?hn ?hr ?_; (case ho => rfl); (case hg => rfl); (case hn => rfl); (case hr => first | (go_simp; done) | (go_simp; rfl)); intro w8 hw; have X14' : Aside0 (w8.heap[g14]? = some (.cells #[.int .i64 t2, .slice A2 t2'.length cA, .slice none 0 0, .int .i64 t3] 89 (0, 0))) := ⟨by rw [hw]; exact blk_put X14.out 3 _ rfl⟩; have R2' : Aside0 (Kd.R (Kd.int .i64) 3 w8 w.heap.size (fun _ => True) (.slice A2 t2'.length cA) t2') := ⟨by rw [hw]; exact Kd.R_set R2.out X14.out (by decide) 3 _⟩; have HB' : Aside0 (Below wo.heap.size wo w8) := ⟨by rw [hw]; exact below_set HB.out G14.out⟩; clear hw R2 HB X14 ha0 ha1 ha2 ha3 hb0 hb1 hb2 hb3; have HB := HB'; clear HB'; obtain ⟨_, _, hqa2, _⟩ := cl4 (Aside0.mk (blk_below Xa.out HB.out))))
   go_loopg [64, 16] n (fun kq v64 v16 w' => ∃ (i : Int) (zs : List Int) (okb : Bool) (vm : Value), v64 = .int .i64 i ∧ v16 = .bool okb ∧ Aside0 (impl_combined.l0 kq a1 a3 l0_2 l2_2 i zs okb = some (t4, t4b)) ∧ Aside0 (kq ≤ n) ∧ Aside0 (w'.heap[g14]? = some (.cells #[.int .i64 t2, .slice A2 t2'.length cA, vm, .int .i64 t3] 89 (0, 0))) ∧ Aside0 (Kd.R (Kd.int .i64) 3 w' wo.heap.size (fun _ => True) vm zs) ∧ Aside0 (Kd.R (Kd.int .i64) 3 w' w.heap.size (fun k_ => True ∧ some k_ ≠ vm.ownBlock) (.slice A2 t2'.length cA) t2') ∧ Aside0 (Below wo.heap.size wo w'))
   case atStart => exact ⟨0, [], t3b, .slice none 0 0, rfl, rfl, H4, ⟨Nat.le_refl _⟩, X14', ⟨Kd.R_nil _ _ _ _ _⟩, ⟨Kd.R_apart_nil R2'.out⟩, HB⟩
   case round =>
    clear H4 hqa2 R2' X14' HB
    obtain ⟨i, zs, okb, vm, rfl, rfl, HA, HK, X14, RM, R2, HB⟩ := hrel
    cases gk with
    | zero => exact absurd HA.out (by simp [impl_combined.l0])
    | succ k1 =>
     have H := HA.out
     clear HA
     simp only [impl_combined.l0] at H
     by_cases c3 : i < (l0_2.length : Int)
     ·rw [if_pos c3] at H
      by_cases c4 : 0 ≤ i
      ·rw [if_pos c4] at H
       by_cases c5 : i < (l2_2.length : Int)
       ·rw [if_pos c5] at H
        obtain ⟨⟨t5, t5b⟩, A5, H⟩ := Option.bind_eq_some_iff.mp H
        by_cases c6 : zs.length < 17592186044416
        ·rw [if_pos c6] at H
         have H5 : Aside0 (impl_combined_1.f a1 a3 (rd l0_2 i) (rd l2_2 i) = some (t5, t5b)) := ⟨A5⟩
         have H' := Aside0.mk H
         have C6 := Aside0.mk c6
         clear H A5 c6
         have c3b : decide (i < (l0_2.length : Int)) = true := decide_eq_true c3
         obtain ⟨ad1, e1, hx1⟩ := Kd.at_int (Kd.C_below HR0_2.out HB.out) i c4 c3
         cases e1
         obtain ⟨ad2, e2, hx2⟩ := Kd.at_int (Kd.C_below HR2_2.out HB.out) i c4 c5
         cases e2
         have HW := Aside0.mk (Below.refl wr.heap.size wr)
         replace c3 := eq_true c3
         replace c4 := eq_true c4
         replace c5 := eq_true c5
         cases okb
         all_goals
          go_wp2
          go_region_held3 (fun w' => w'.cell? ⟨qa, 2, none⟩ = some (.slice (some ad1) l0_2.length c0_2) ∧ w'.cell? ⟨qb, 2, none⟩ = some (.slice (some ad2) l2_2.length c2_2) ∧ w'.cell? (ad1.add i.toNat) = some (.int .i64 (rd l0_2 i)) ∧ w'.cell? (ad2.add i.toNat) = some (.int .i64 (rd l2_2 i)))
           (exact ⟨(blk_cell (blk_below Xa.out (ms HB)) 2).trans rfl, (blk_cell (blk_below Xb.out (ms HB)) 2).trans rfl, ((ms HW).cell (World.block_lt_of_cell? _ _ hx1)).trans hx1, ((ms HW).cell (World.block_lt_of_cell? _ _ hx2)).trans hx2⟩)
           ((go_at_call 149; refine (impl_combined_1.calls qj qk a1 a3 (rd l0_2 i) (rd l2_2 i) t5 t5b _ (cl1 (Aside0.mk (blk_below Xj.out (ms HB)))) (cl1 (Aside0.mk (blk_below Xk.out (ms HB)))) H5.out).mono ?_; rintro e w9 ⟨rfl, hd⟩; have hb := hd.below; replace HW := bs HW hb; replace X14 := bb X14 hb; replace RM := rb RM hb; replace R2 := rb R2 hb; replace HB := bs HB hb; clear hd hb))
          obtain ⟨hp0, hp1, hp2, hp3⟩ := cl4 X14
          go_wp2_with (first | (at_builtin; refine Kd.R_append (Kd.int .i64) (w0 := wo) wo.heap.size rfl (.tmp 83) (.tmp 85) 27 3 (.int .i64 0) 8 rfl Try.underlying27 info3 rfl (by decide) (by omega) vm zs t5 [.int .i64 t5] (fun _ => True) (fun _ => False) rfl rfl ?aP (fun _ hk => hk.elim) ?aF ?aO ?aB ?aS ?aL ?_; (case aP => exact rfl); (case aB => exact (ms HB)); (case aF => exact (fun _ _ => trivial)); (case aO => exact (mr RM)); (case aS => exact (below_size (ms HB))); (case aL => have := C6.out; omega); intro vm' w10 ho hb hg hat; obtain ⟨Am, cm, rfl⟩ := Kd.R_slice ho; have X14' := Aside0.mk (blk_grown X14.out hg (Kd.R_ne RM.out X14.out (by decide))); have R2' := Aside0.mk (Kd.R_after R2.out hg hat); have RM' := Aside0.mk ho; have HB' := Aside0.mk hb; clear X14 R2 RM HB HW ho hb hg hat hp0 hp1 hp2 hp3; obtain ⟨hp0, hp1, hp2, hp3⟩ := cl4 X14'; obtain ⟨hf0, hf1, hf2, hf3⟩ := fz4 X14') | ((with_reducible refine gate_store (t := 27) (p := 87) rfl ?_); refine store_event (t := 27) (p := 87) (v := ?vo_4) (w1 := w10.setCell ⟨g14, 2, none⟩ (.slice Am (zs ++ [t5]).length cm)) ?hg ?ho ?hn ?hr ?_; (case ho => rfl); (case hg => rfl); (case hn => rfl); (case hr => first | (go_simp; done) | (go_simp; rfl)); intro w11 hw; have X14 : Aside0 (w11.heap[g14]? = some (.cells #[.int .i64 t2, .slice A2 t2'.length cA, .slice Am (zs ++ [t5]).length cm, .int .i64 t3] 89 (0, 0))) := ⟨by rw [hw]; exact blk_put X14'.out 2 _ rfl⟩; have R2 : Aside0 (Kd.R (Kd.int .i64) 3 w11 w.heap.size (fun k_ => True ∧ some k_ ≠ (.slice Am (zs ++ [t5]).length cm : Value).ownBlock) (.slice A2 t2'.length cA) t2') := ⟨by rw [hw]; exact Kd.R_set R2'.out X14'.out (by decide) 2 _⟩; have RM : Aside0 (Kd.R (Kd.int .i64) 3 w11 wo.heap.size (fun _ => True) (.slice Am (zs ++ [t5]).length cm) (zs ++ [t5])) := ⟨by rw [hw]; exact Kd.R_set RM'.out X14'.out (by decide) 2 _⟩; have HB : Aside0 (Below wo.heap.size wo w11) := ⟨by rw [hw]; exact below_set HB'.out G14.out⟩; clear hw X14' R2' RM' HB' hp0 hp1 hp2 hp3 hf0 hf1 hf2 hf3))
          go_roundg k1
          case measure => have := HK.out; omega
          case rel => exact ⟨(wrap64 (i + 1)), zs ++ [t5], _, _, (by first | rfl | (simp; done) | (simp [*]; done)), rfl, H', ⟨by have := HK.out; omega⟩, X14, RM, R2, HB⟩
        rw [if_neg c6] at H; cases H
       rw [if_neg c5] at H; cases H
      rw [if_neg c4] at H; cases H
     rw [if_neg c3] at H
     simp only [Option.some.injEq, Prod.mk.injEq] at H
     obtain ⟨rfl, rfl⟩ := H
     have c3b : decide (i < (l0_2.length : Int)) = false := decide_eq_false c3
     clear c3
     obtain ⟨Am, cm, rfl⟩ := Kd.R_slice RM.out
     obtain ⟨hp0, hp1, hp2, hp3⟩ := cl4 X14
     have Xw := Aside0.mk (blk_below Xo.out HB.out)
     obtain ⟨ho0, ho1, ho2, ho3⟩ := cl4 Xw
     obtain ⟨hf0, hf1, hf2, hf3⟩ := fz4 Xw
     clear Xw
     go_wp2_with (((with_reducible refine gate_store (t := 89) (p := 8) rfl ?_); refine store_event (t := 89) (p := 8) (v := ?vo_5) (w1 := set4 wr qo (.int .i64 t2) (.slice A2 t2'.length cA) (.slice Am zs.length cm) (.int .i64 t3)) ?hg ?ho ?hn ?hr ?_; (case ho => rfl); (case hg => rfl); (case hn => rfl); (case hr => first | (go_simp; done) | (go_simp; rfl)); intro w11 hw; have Xo' : Aside0 (w11.heap[qo]? = some (.cells #[.int .i64 t2, .slice A2 t2'.length cA, .slice Am zs.length cm, .int .i64 t3] 89 (0, 0))) := ⟨by rw [hw]; exact put4 (blk_below Xo.out HB.out)⟩; have R2' : Aside0 (Kd.R (Kd.int .i64) 3 w11 w.heap.size (fun _ => True) (.slice A2 t2'.length cA) t2') := ⟨by rw [hw]; exact own4 (Kd.R_drop R2.out) (blk_below Xo.out HB.out) (by decide)⟩; have RM' : Aside0 (Kd.R (Kd.int .i64) 3 w11 w.heap.size (fun _ => True) (.slice Am zs.length cm) zs) := ⟨by rw [hw]; exact own4 (Kd.R_lower RM.out HB0.out.size) (blk_below Xo.out HB.out) (by decide)⟩; have HB' : Aside0 (Below w.heap.size w w11) := ⟨by rw [hw]; exact below4 (HB0.out.trans (HB.out.mono HB0.out.size)) Gqo.out⟩; clear hw R2 RM HB X14 hp0 hp1 hp2 hp3 ho0 ho1 ho2 ho3 hf0 hf1 hf2 hf3; obtain ⟨hp0, hp1, hp2, hp3⟩ := cl4 Xo'))
     refine bodyPost_ret (results_ct rfl _ _ qo 89 #[.int .i64 t2, .slice A2 t2'.length cA, .slice Am zs.length cm, .int .i64 t3] (0, 0) _ rfl Xo'.out Try.underlying89 rfl (by kernel_rfl)) rfl ?_
     exact ⟨_, _, rfl, R2'.out, RM'.out, HB'.out⟩
  have h := H.out
  rw [if_neg hbb] at h
  simp only [Option.some.injEq, Prod.mk.injEq] at h
  obtain ⟨rfl, rfl, rfl, rfl, rfl⟩ := h
  clear H
  cases t1b <;> cases t2b
  case true.true => exact absurd ⟨rfl, rfl⟩ hbb
  all_goals clear hbb
  case false.false =>
   obtain ⟨hq0, hq1⟩ := c2 X10
   have hqk := cl1 (Aside0.mk (blk_below Xk.out HB.out))
   obtain ⟨hqb0, hqb1, _, _⟩ := cl4 (Aside0.mk (blk_below Xb.out HB.out))
   go_wp2_with (first | (go_at_call 75; refine (impl_AddScaled.calls n t1 Ay cy t1' a3 a2_0 A2_1 c2_1 l2_1 t2 t2' false _ (mc ((Kd.R_reads' RY.out).2.2)) ((Kd.R_reads' RY.out).2.1) (Kd.C_below HR2_1.out (ms HB)) HC2_1.out H2.out).mono ?_; rintro e w3 ⟨v2, rfl, ho, hb⟩; obtain ⟨A2, cA, rfl⟩ := Kd.R_slice ho; have R2 := Aside0.mk (Kd.R_lower (Kd.R_mono ho (fun _ _ => trivial)) (Nat.le_trans HB0.out.size (ms HB).size)); replace X10 := bb X10 hb; replace HB := bs HB hb; obtain ⟨hz0, hz1⟩ := c2 X10; have hf0 := blk_frozen X10.out 0; have hf1 := blk_frozen X10.out 1; clear ho hb) | ((with_reducible refine gate_store (t := 29) (p := 10) rfl ?_); refine store_event (t := 29) (p := 10) (v := ?vo_6) (w1 := ((w3.setCell ⟨g10, 0, none⟩ (.int .i64 t2)).setCell ⟨g10, 1, none⟩ (.slice A2 t2'.length cA))) ?hg ?ho ?hn ?hr ?_; (case ho => rfl); (case hg => rfl); (case hn => rfl); (case hr => first | (go_simp; done) | (go_simp; rfl)); intro w4 hw; have X10' : Aside0 (w4.heap[g10]? = some (.cells #[.int .i64 t2, .slice A2 t2'.length cA] 29 (0, 0))) := ⟨by rw [hw]; exact put2 X10.out⟩; have R2' : Aside0 (Kd.R (Kd.int .i64) 3 w4 w.heap.size (fun _ => True) (.slice A2 t2'.length cA) t2') := ⟨by rw [hw]; exact own2 R2.out X10.out (by decide)⟩; have HB' : Aside0 (Below wo.heap.size wo w4) := ⟨by rw [hw]; exact below_set (below_set HB.out SZ.out) SZ.out⟩; clear hw R2 HB X10 hz0 hz1 hf0 hf1; have HB := HB'; clear HB'; obtain ⟨hz0, hz1⟩ := c2 X10'; have Xw := Aside0.mk (blk_below Xo.out HB.out); obtain ⟨ho0, ho1, ho2, ho3⟩ := cl4 Xw; obtain ⟨hf0, hf1, hf2, hf3⟩ := fz4 Xw; clear Xw) | ((with_reducible refine gate_store (t := 89) (p := 8) rfl ?_); refine store_event (t := 89) (p := 8) (v := ?vo_7) (w1 := set4 w4 qo (.int .i64 0) (.slice none 0 0) (.slice none 0 0) (.int .i64 0)) ?hg ?ho ?hn ?hr ?_; (case ho => rfl); (case hg => rfl); (case hn => rfl); (case hr => first | (go_simp; done) | (go_simp; rfl)); intro w11 hw; have Xo' : Aside0 (w11.heap[qo]? = some (.cells #[.int .i64 0, .slice none 0 0, .slice none 0 0, .int .i64 0] 89 (0, 0))) := ⟨by rw [hw]; exact put4 (blk_below Xo.out HB.out)⟩; have HB' : Aside0 (Below w.heap.size w w11) := ⟨by rw [hw]; exact below4 (HB0.out.trans (HB.out.mono HB0.out.size)) Gqo.out⟩; clear hw))
   refine bodyPost_ret (results_ct rfl _ _ qo 89 #[.int .i64 0, .slice none 0 0, .slice none 0 0, .int .i64 0] (0, 0) _ rfl Xo'.out Try.underlying89 rfl (by kernel_rfl)) rfl ?_
   exact ⟨_, _, rfl, Kd.R_nil _ _ _ _ _, Kd.R_nil _ _ _ _ _, HB'.out⟩
  case false.true =>
   obtain ⟨hq0, hq1⟩ := c2 X10
   have hqk := cl1 (Aside0.mk (blk_below Xk.out HB.out))
   obtain ⟨hqb0, hqb1, _, _⟩ := cl4 (Aside0.mk (blk_below Xb.out HB.out))
   go_wp2_with (first | (go_at_call 75; refine (impl_AddScaled.calls n t1 Ay cy t1' a3 a2_0 A2_1 c2_1 l2_1 t2 t2' true _ (mc ((Kd.R_reads' RY.out).2.2)) ((Kd.R_reads' RY.out).2.1) (Kd.C_below HR2_1.out (ms HB)) HC2_1.out H2.out).mono ?_; rintro e w3 ⟨v2, rfl, ho, hb⟩; obtain ⟨A2, cA, rfl⟩ := Kd.R_slice ho; have R2 := Aside0.mk (Kd.R_lower (Kd.R_mono ho (fun _ _ => trivial)) (Nat.le_trans HB0.out.size (ms HB).size)); replace X10 := bb X10 hb; replace HB := bs HB hb; obtain ⟨hz0, hz1⟩ := c2 X10; have hf0 := blk_frozen X10.out 0; have hf1 := blk_frozen X10.out 1; clear ho hb) | ((with_reducible refine gate_store (t := 29) (p := 10) rfl ?_); refine store_event (t := 29) (p := 10) (v := ?vo_8) (w1 := ((w3.setCell ⟨g10, 0, none⟩ (.int .i64 t2)).setCell ⟨g10, 1, none⟩ (.slice A2 t2'.length cA))) ?hg ?ho ?hn ?hr ?_; (case ho => rfl); (case hg => rfl); (case hn => rfl); (case hr => first | (go_simp; done) | (go_simp; rfl)); intro w4 hw; have X10' : Aside0 (w4.heap[g10]? = some (.cells #[.int .i64 t2, .slice A2 t2'.length cA] 29 (0, 0))) := ⟨by rw [hw]; exact put2 X10.out⟩; have R2' : Aside0 (Kd.R (Kd.int .i64) 3 w4 w.heap.size (fun _ => True) (.slice A2 t2'.length cA) t2') := ⟨by rw [hw]; exact own2 R2.out X10.out (by decide)⟩; have HB' : Aside0 (Below wo.heap.size wo w4) := ⟨by rw [hw]; exact below_set (below_set HB.out SZ.out) SZ.out⟩; clear hw R2 HB X10 hz0 hz1 hf0 hf1; have HB := HB'; clear HB'; obtain ⟨hz0, hz1⟩ := c2 X10'; have Xw := Aside0.mk (blk_below Xo.out HB.out); obtain ⟨ho0, ho1, ho2, ho3⟩ := cl4 Xw; obtain ⟨hf0, hf1, hf2, hf3⟩ := fz4 Xw; clear Xw) | ((with_reducible refine gate_store (t := 89) (p := 8) rfl ?_); refine store_event (t := 89) (p := 8) (v := ?vo_9) (w1 := set4 w4 qo (.int .i64 0) (.slice none 0 0) (.slice none 0 0) (.int .i64 0)) ?hg ?ho ?hn ?hr ?_; (case ho => rfl); (case hg => rfl); (case hn => rfl); (case hr => first | (go_simp; done) | (go_simp; rfl)); intro w11 hw; have Xo' : Aside0 (w11.heap[qo]? = some (.cells #[.int .i64 0, .slice none 0 0, .slice none 0 0, .int .i64 0] 89 (0, 0))) := ⟨by rw [hw]; exact put4 (blk_below Xo.out HB.out)⟩; have HB' : Aside0 (Below w.heap.size w w11) := ⟨by rw [hw]; exact below4 (HB0.out.trans (HB.out.mono HB0.out.size)) Gqo.out⟩; clear hw))
   refine bodyPost_ret (results_ct rfl _ _ qo 89 #[.int .i64 0, .slice none 0 0, .slice none 0 0, .int .i64 0] (0, 0) _ rfl Xo'.out Try.underlying89 rfl (by kernel_rfl)) rfl ?_
   exact ⟨_, _, rfl, Kd.R_nil _ _ _ _ _, Kd.R_nil _ _ _ _ _, HB'.out⟩
  case true.false =>
   obtain ⟨hq0, hq1⟩ := c2 X10
   have hqk := cl1 (Aside0.mk (blk_below Xk.out HB.out))
   obtain ⟨hqb0, hqb1, _, _⟩ := cl4 (Aside0.mk (blk_below Xb.out HB.out))
   go_wp2_with (first | (go_at_call 75; refine (impl_AddScaled.calls n t1 Ay cy t1' a3 a2_0 A2_1 c2_1 l2_1 t2 t2' false _ (mc ((Kd.R_reads' RY.out).2.2)) ((Kd.R_reads' RY.out).2.1) (Kd.C_below HR2_1.out (ms HB)) HC2_1.out H2.out).mono ?_; rintro e w3 ⟨v2, rfl, ho, hb⟩; obtain ⟨A2, cA, rfl⟩ := Kd.R_slice ho; have R2 := Aside0.mk (Kd.R_lower (Kd.R_mono ho (fun _ _ => trivial)) (Nat.le_trans HB0.out.size (ms HB).size)); replace X10 := bb X10 hb; replace HB := bs HB hb; obtain ⟨hz0, hz1⟩ := c2 X10; have hf0 := blk_frozen X10.out 0; have hf1 := blk_frozen X10.out 1; clear ho hb) | ((with_reducible refine gate_store (t := 29) (p := 10) rfl ?_); refine store_event (t := 29) (p := 10) (v := ?vo_10) (w1 := ((w3.setCell ⟨g10, 0, none⟩ (.int .i64 t2)).setCell ⟨g10, 1, none⟩ (.slice A2 t2'.length cA))) ?hg ?ho ?hn ?hr ?_; (case ho => rfl); (case hg => rfl); (case hn => rfl); (case hr => first | (go_simp; done) | (go_simp; rfl)); intro w4 hw; have X10' : Aside0 (w4.heap[g10]? = some (.cells #[.int .i64 t2, .slice A2 t2'.length cA] 29 (0, 0))) := ⟨by rw [hw]; exact put2 X10.out⟩; have R2' : Aside0 (Kd.R (Kd.int .i64) 3 w4 w.heap.size (fun _ => True) (.slice A2 t2'.length cA) t2') := ⟨by rw [hw]; exact own2 R2.out X10.out (by decide)⟩; have HB' : Aside0 (Below wo.heap.size wo w4) := ⟨by rw [hw]; exact below_set (below_set HB.out SZ.out) SZ.out⟩; clear hw R2 HB X10 hz0 hz1 hf0 hf1; have HB := HB'; clear HB'; obtain ⟨hz0, hz1⟩ := c2 X10'; have Xw := Aside0.mk (blk_below Xo.out HB.out); obtain ⟨ho0, ho1, ho2, ho3⟩ := cl4 Xw; obtain ⟨hf0, hf1, hf2, hf3⟩ := fz4 Xw; clear Xw) | ((with_reducible refine gate_store (t := 89) (p := 8) rfl ?_); refine store_event (t := 89) (p := 8) (v := ?vo_11) (w1 := set4 w4 qo (.int .i64 0) (.slice none 0 0) (.slice none 0 0) (.int .i64 0)) ?hg ?ho ?hn ?hr ?_; (case ho => rfl); (case hg => rfl); (case hn => rfl); (case hr => first | (go_simp; done) | (go_simp; rfl)); intro w11 hw; have Xo' : Aside0 (w11.heap[qo]? = some (.cells #[.int .i64 0, .slice none 0 0, .slice none 0 0, .int .i64 0] 89 (0, 0))) := ⟨by rw [hw]; exact put4 (blk_below Xo.out HB.out)⟩; have HB' : Aside0 (Below w.heap.size w w11) := ⟨by rw [hw]; exact below4 (HB0.out.trans (HB.out.mono HB0.out.size)) Gqo.out⟩; clear hw))
   refine bodyPost_ret (results_ct rfl _ _ qo 89 #[.int .i64 0, .slice none 0 0, .slice none 0 0, .int .i64 0] (0, 0) _ rfl Xo'.out Try.underlying89 rfl (by kernel_rfl)) rfl ?_
   exact ⟨_, _, rfl, Kd.R_nil _ _ _ _ _, Kd.R_nil _ _ _ _ _, HB'.out⟩
theorem impl_combined.l0_mono : ∀ k a b c d e f g, LeO (impl_combined.l0 k a b c d e f g) (impl_combined.l0 (k + 1) a b c d e f g) := by
 intro k
 induction k with
 | zero => intros; exact LeO.none _
 | succ k ih =>
  intro a b c d e f g
  rw [impl_combined.l0, impl_combined.l0]
  repeat' first | exact LeO.refl _ | exact ih _ _ _ _ _ _ _ | apply LeO.ite | refine LeO.bind ?_ (fun _ => ?_)
theorem impl_combined.mono : ∀ a b c d e f g h i j k, LeO (impl_combined.f k a b c d e f g h i j) (impl_combined.f (k + 1) a b c d e f g h i j) := by
 intro a b c d e f g h i j k
 unfold impl_combined.f
 repeat' first | exact LeO.refl _ | exact impl_AddScaled.mono _ _ _ _ _ _ | exact impl_combined.l0_mono _ _ _ _ _ _ _ _ | apply LeO.ite | refine LeO.bind ?_ (fun _ => ?_)

/-- A row of numbers that lies in a block of its own, behind b; only read. -/
def ownK (b : Nat) : Kd (List Int) where
 sz := 1
 E := []
 K := fun w xs cs => ∃ v, cs = [v] ∧ (Kd.int .i64).R 3 w b (fun _ => True) v xs
 M := fun _ _ _ _ _ => False
 K_len := by
  rintro w x cs ⟨v, rfl, _⟩
  rfl
 K_one := by
  rintro w x cs ⟨v, rfl, h⟩ u hu
  rw [List.mem_singleton.1 hu]
  obtain ⟨A, c, rfl⟩ := Kd.R_slice h
  rfl
 K_below := by
  rintro w w1 x cs hb ⟨v, rfl, h⟩
  exact ⟨v, rfl, Kd.R_below h hb⟩
 K_of_M := fun h => h.elim
 M_mono := fun _ h => h.elim
 M_bound := fun h => h.elim
 M_move := fun _ h => h.elim
 M_lower := fun _ h => h.elim
def kD (b : Nat) : Kd S89 := Kd.iso (Kd.pair k29 (Kd.pair (ownK b) (Kd.int .i64))) (fun x : S89 => (x.f0, x.f1, x.f2))
theorem kD_open {b : Nat} {w : World} {x : S89} {cs : List Value} (h : (kD b).K w x cs) : ∃ A1 c1 A2 c2, cs = [.int .i64 x.f0.f0, .slice A1 x.f0.f1.length c1, .slice A2 x.f1.length c2, .int .i64 x.f2] ∧ x.f0.f1.length ≤ c1 ∧ (Kd.int .i64).C w A1 x.f0.f1.length x.f0.f1 ∧ (Kd.int .i64).R 3 w b (fun _ => True) (.slice A2 x.f1.length c2) x.f1 := by
 obtain ⟨_, _, rfl, s0, ⟨_, _, rfl, ⟨v, rfl, g2⟩, rfl⟩⟩ := h
 obtain ⟨A1, c1, rfl, l1, g1⟩ := k29_open s0
 obtain ⟨A2, c2, rfl⟩ := Kd.R_slice g2
 exact ⟨A1, c1, A2, c2, rfl, l1, g1, g2⟩
theorem at_D {b : Nat} {w : World} {ok : Nat → Prop} {A : Option Addr} {n : Nat} {xs : List S89} (h : Kd.F (kD b) w ok A n xs) (i : Int) (h0 : 0 ≤ i) (h1 : i < n) : ∃ ad A1 c1 A2 c2, A = some ad ∧ w.cell? (ad.add (i.toNat * 4)) = some (.int .i64 (rd_T89 xs i).f0.f0) ∧ w.cell? ⟨(ad.add (i.toNat * 4)).block, (ad.add (i.toNat * 4)).off + 1, none⟩ = some (.slice A1 (rd_T89 xs i).f0.f1.length c1) ∧ w.cell? ⟨(ad.add (i.toNat * 4)).block, (ad.add (i.toNat * 4)).off + 2, none⟩ = some (.slice A2 (rd_T89 xs i).f1.length c2) ∧ w.cell? ⟨(ad.add (i.toNat * 4)).block, (ad.add (i.toNat * 4)).off + 3, none⟩ = some (.int .i64 (rd_T89 xs i).f2) ∧ (rd_T89 xs i).f0.f1.length ≤ c1 ∧ (Kd.int .i64).C w A1 (rd_T89 xs i).f0.f1.length (rd_T89 xs i).f0.f1 ∧ (Kd.int .i64).R 3 w b (fun _ => True) (.slice A2 (rd_T89 xs i).f1.length c2) (rd_T89 xs i).f1 ∧ Kd.FK (kD b) w ok (rd_T89 xs i) [.int .i64 (rd_T89 xs i).f0.f0, .slice A1 (rd_T89 xs i).f0.f1.length c1, .slice A2 (rd_T89 xs i).f1.length c2, .int .i64 (rd_T89 xs i).f2] := by
 obtain ⟨ad, c, e, _, hK, hc0, _⟩ := Kd.F_get h z89 i h0 h1
 have hc : ∀ j u, c[j]? = some u → w.cell? (ad.add (i.toNat * 4 + j)) = some u := hc0
 obtain ⟨A1, c1, A2, c2, rfl, l1, g1, g2⟩ := kD_open (Kd.FK_now hK)
 exact ⟨ad, A1, c1, A2, c2, e, hc 0 _ rfl, by rw [← add_field _ _ 1 (by omega)]; exact hc 1 _ rfl, by rw [← add_field _ _ 2 (by omega)]; exact hc 2 _ rfl, by rw [← add_field _ _ 3 (by omega)]; exact hc 3 _ rfl, l1, g1, g2, hK⟩
theorem kD_mkF {b : Nat} {W : World} {ok : Nat → Prop} (x : S89) {v1 v2 : Value} (g1 : (Kd.int .i64).R 3 W b ok v1 x.f0.f1) (g2 : (Kd.int .i64).R 3 W b ok v2 x.f1) : Kd.FK (kD b) W ok x [.int .i64 x.f0.f0, v1, v2, .int .i64 x.f2] := fun W' hW => by
 have s1 := Kd.R_step g1 hW
 have s2 := Kd.R_step g2 hW
 obtain ⟨A1, c1, rfl⟩ := Kd.R_slice s1
 exact ⟨[.int .i64 x.f0.f0, .slice A1 x.f0.f1.length c1], [v2, .int .i64 x.f2], rfl, k29_mk W' x.f0 (Kd.R_reads' s1).2.1 (Kd.R_reads' s1).2.2, ⟨[v2], [.int .i64 x.f2], rfl, ⟨v2, rfl, Kd.R_mono s2 (fun _ _ => trivial)⟩, rfl⟩⟩
theorem info89 : (Try.prog.info? 89).map (fun i => (i.zero, i.size, i.bytes)) = some (some (.agg #[.int .i64 0, .slice none 0 0, .slice none 0 0, .int .i64 0]), 4, 64) := by kernel_rfl
def impl_without.l0 : Nat → List S89 → Int → Int → List S89 → Option (List S89)
 | 0, _, _, _, _ => none
 | n + 1, l, v, i, out => if i < (l.length : Int) then (if 0 ≤ i then (if 0 ≤ v then (if v < ((rd_T89 l i).f0.f1.length : Int) then (if rd (rd_T89 l i).f0.f1 v = 0 then (if out.length < 2199023255552 then (impl_without.l0 n l v (wrap64 (i + 1)) (out ++ [rd_T89 l i])) else none) else (impl_without.l0 n l v (wrap64 (i + 1)) out)) else none) else none) else none) else (some out)
def impl_without.l2 : Nat → List S89 → Int → S89 → Int → Int → List S89 → Option (List S89)
 | 0, _, _, _, _, _, _ => none
 | n + 1, l, v, a, p, j, out => if j < (l.length : Int) then (if 0 ≤ j then (if v < ((rd_T89 l j).f0.f1.length : Int) then (if wrap64 (-(rd (rd_T89 l j).f0.f1 v)) ≤ 0 then (impl_without.l2 n l v a p (wrap64 (j + 1)) out) else ((impl_Gcd.f n p (wrap64 (-(rd (rd_T89 l j).f0.f1 v)))).bind fun g => (if g = 0 then none else ((impl_combined.f n a.f0.f0 a.f0.f1 a.f1 a.f2 (wrap64 (Int.tdiv (wrap64 (-(rd (rd_T89 l j).f0.f1 v))) g)) (rd_T89 l j).f0.f0 (rd_T89 l j).f0.f1 (rd_T89 l j).f1 (rd_T89 l j).f2 (wrap64 (Int.tdiv p g))).bind fun t => (if t.2.2.2.2 = true then (if out.length < 2199023255552 then (impl_without.l2 n l v a p (wrap64 (j + 1)) (out ++ [⟨⟨t.1, t.2.1⟩, t.2.2.1, t.2.2.2.1⟩])) else none) else (impl_without.l2 n l v a p (wrap64 (j + 1)) out)))))) else none) else none) else (some out)
def impl_without.l1 : Nat → List S89 → Int → Int → List S89 → Option (List S89)
 | 0, _, _, _, _ => none
 | n + 1, l, v, i, out => if i < (l.length : Int) then (if 0 ≤ i then (if 0 ≤ v then (if v < ((rd_T89 l i).f0.f1.length : Int) then (if rd (rd_T89 l i).f0.f1 v ≤ 0 then (impl_without.l1 n l v (wrap64 (i + 1)) out) else ((impl_without.l2 n l v (rd_T89 l i) (rd (rd_T89 l i).f0.f1 v) 0 out).bind fun o => (impl_without.l1 n l v (wrap64 (i + 1)) o))) else none) else none) else none) else (some out)
def impl_without.f (n : Nat) (l : List S89) (v : Int) : Option (List S89) := (impl_without.l0 n l v 0 []).bind fun o => impl_without.l1 n l v 0 o
set_option maxHeartbeats 8000000 in
set_option maxRecDepth 100000 in
theorem impl_without.calls (n b : Nat) (A0 : Option Addr) (c0 : Nat) (l : List S89) (v : Int) (r : List S89) (w : World) (hb : b ≤ w.heap.size) (hF : Kd.F (kD b) w (fun k => k < w.heap.size) A0 l.length l) (hc : l.length ≤ c0) (h : impl_without.f n l v = some r) :
  Calls Try.prog 77 #[.slice A0 l.length c0, .int .i64 v] w fun e w' => ∃ v0 : Value, e = .returned v0 ∧ Kd.N (kD b) 89 w' w.heap.size (fun _ => True) v0 r ∧ Below w.heap.size w w' := by
 have hu89 := Try.underlying89
 have hu29 := Try.underlying29
 unfold impl_without.f at h
 obtain ⟨o1, A1, A2⟩ := Option.bind_eq_some_iff.mp h
 have H1 : Aside0 (impl_without.l0 n l v 0 [] = some o1) := ⟨A1⟩
 have H2 : Aside0 (impl_without.l1 n l v 0 o1 = some r) := ⟨A2⟩
 have HF := Aside0.mk hF
 have HC := Aside0.mk hc
 have HBB := Aside0.mk hb
 clear h A1 A2 hF hc hb
 go_enter Try.func77, Try.ntmps77
 go_wp2
 go_loopg [19, 5] n (fun kq v19 v5 w' => ∃ (i : Int) (out : List S89), v19 = .int .i64 i ∧ Aside0 (impl_without.l0 kq l v i out = some o1) ∧ Aside0 (kq ≤ n) ∧ Aside0 (Kd.N (kD b) 89 w' w.heap.size (fun _ => True) v5 out) ∧ Aside0 (Below w.heap.size w w'))
 case atStart => exact ⟨0, [], rfl, H1, ⟨Nat.le_refl _⟩, ⟨Kd.N_nil _ _ _ _ _⟩, ⟨Below.refl _ _⟩⟩
 case round =>
  obtain ⟨i, out, rfl, HA, HK, HN, HB⟩ := hrel
  cases gk with
  | zero => exact absurd HA.out (by simp [impl_without.l0])
  | succ k1 =>
   have H := HA.out
   clear HA
   simp only [impl_without.l0] at H
   by_cases c3 : i < (l.length : Int)
   ·rw [if_pos c3] at H
    by_cases c4 : 0 ≤ i
    ·rw [if_pos c4] at H
     by_cases c5 : 0 ≤ v
     ·rw [if_pos c5] at H
      by_cases c6 : v < ((rd_T89 l i).f0.f1.length : Int)
      ·rw [if_pos c6] at H
       obtain ⟨ad, A1, c1, A2, c2, rfl, hc0, hc1, hc2, hc3, hl1, hC, hR, hK⟩ := at_D (Kd.F_below HF.out HB.out) i c4 c3
       obtain ⟨ad1, e1, hx1⟩ := Kd.at_int hC v c5 c6
       cases e1
       have HE := Aside0.mk hK
       have HW := Aside0.mk (Below.refl wr.heap.size wr)
       clear hl1 hC hR hK
       have c3b : decide (i < (l.length : Int)) = true := decide_eq_true c3
       replace c3 := eq_true c3
       replace c4 := eq_true c4
       replace c5 := eq_true c5
       replace c6 := eq_true c6
       by_cases c7 : rd (rd_T89 l i).f0.f1 v = 0
       ·rw [if_pos c7] at H
        by_cases c8 : out.length < 2199023255552
        ·rw [if_pos c8] at H
         have H' := Aside0.mk H
         have C6 := Aside0.mk c8
         clear H c8
         go_wp2_with (first | ((with_reducible refine gate_dst (N := 7) rfl ?_); refine box_event ?hg (N := 7) ?hd (cs := #[.int .i64 0, .slice none 0 0, .slice none 0 0, .int .i64 0]) (t := 89) ?hr ?_; (case hd => rfl); (case hg => rfl); (case hr => first | (go_simp; done) | (go_simp; rfl)); intro g7 hg_ w7 hx_ hb_; have Gg7 := gw hg_ HW; replace HW := bs HW hb_; have Xg7 := Aside0.mk hx_; obtain ⟨ha0, ha1, ha2, ha3⟩ := cl4 Xg7; obtain ⟨hb0, hb1, hb2, hb3⟩ := fz4 Xg7; clear hg_ hx_ hb_) | ((with_reducible refine gate_store (t := 89) (p := 7) rfl ?_); refine store_event (t := 89) (p := 7) (v := ?vo_1) (w1 := set4 w7 g7 (.int .i64 (rd_T89 l i).f0.f0) (.slice (some ad1) (rd_T89 l i).f0.f1.length c1) (.slice A2 (rd_T89 l i).f1.length c2) (.int .i64 (rd_T89 l i).f2)) ?hg ?ho ?hn ?hr ?_; (case ho => rfl); (case hg => rfl); (case hn => rfl); (case hr => first | (go_simp; done) | (go_simp; rfl)); intro w8 hw; have Xg7' : Aside0 (w8.heap[g7]? = some (.cells #[.int .i64 (rd_T89 l i).f0.f0, .slice (some ad1) (rd_T89 l i).f0.f1.length c1, .slice A2 (rd_T89 l i).f1.length c2, .int .i64 (rd_T89 l i).f2] 89 (0, 0))) := ⟨by rw [hw]; exact put4 Xg7.out⟩; have HW' : Aside0 (Below wr.heap.size wr w8) := ⟨by rw [hw]; exact below4 HW.out Gg7.out⟩; clear hw Xg7 HW ha0 ha1 ha2 ha3 hb0 hb1 hb2 hb3; have HW := HW'; clear HW'; obtain ⟨ha0, ha1, ha2, ha3⟩ := cl4 Xg7'; replace hx1 := (HW.out.cell (World.block_lt_of_cell? _ _ hx1)).trans hx1) | (at_builtin; refine Kd.N_append (kD b) (w0 := w) w.heap.size rfl (.tmp 30) (.tmp 32) 87 89 (.agg #[.int .i64 0, .slice none 0 0, .slice none 0 0, .int .i64 0]) 64 rfl Try.underlying87 info89 rfl (by show 0 < 4; decide) (by omega) u5 out (rd_T89 l i) [.int .i64 (rd_T89 l i).f0.f0, .slice (some ad1) (rd_T89 l i).f0.f1.length c1, .slice A2 (rd_T89 l i).f1.length c2, .int .i64 (rd_T89 l i).f2] (fun _ => True) (fun k => k < w.heap.size) rfl rfl ?aP ?aK (fun _ _ => trivial) ?aO ?aB ?aS ?aL ?_; (case aP => exact Kd.FK_below HE.out (ms HW)); (case aK => exact fun k hk => ⟨trivial, fun e => by have := Kd.N_base HN.out k e.symm; omega⟩); (case aO => exact Kd.N_below HN.out (ms HW)); (case aB => exact HB.out.trans ((ms HW).mono HB.out.size)); (case aS => exact Nat.le_trans HB.out.size (ms HW).size); (case aL => have := C6.out; omega); intro vo' w10 ho hb hg hat; have HN' := Aside0.mk ho; have HB' := Aside0.mk hb; clear ho hb hg hat))
         go_roundg k1
         case measure => have := HK.out; omega
         case rel => exact ⟨wrap64 (i + 1), out ++ [rd_T89 l i], (by first | rfl | (simp; done) | (simp [*]; done)), H', ⟨by have := HK.out; omega⟩, HN', HB'⟩
        rw [if_neg c8] at H; cases H
       rw [if_neg c7] at H
       have H' := Aside0.mk H
       clear H
       go_wp2_with (first | ((with_reducible refine gate_dst (N := 7) rfl ?_); refine box_event ?hg (N := 7) ?hd (cs := #[.int .i64 0, .slice none 0 0, .slice none 0 0, .int .i64 0]) (t := 89) ?hr ?_; (case hd => rfl); (case hg => rfl); (case hr => first | (go_simp; done) | (go_simp; rfl)); intro g7 hg_ w7 hx_ hb_; have Gg7 := gw hg_ HW; replace HW := bs HW hb_; have Xg7 := Aside0.mk hx_; obtain ⟨ha0, ha1, ha2, ha3⟩ := cl4 Xg7; obtain ⟨hb0, hb1, hb2, hb3⟩ := fz4 Xg7; clear hg_ hx_ hb_) | ((with_reducible refine gate_store (t := 89) (p := 7) rfl ?_); refine store_event (t := 89) (p := 7) (v := ?vo_2) (w1 := set4 w7 g7 (.int .i64 (rd_T89 l i).f0.f0) (.slice (some ad1) (rd_T89 l i).f0.f1.length c1) (.slice A2 (rd_T89 l i).f1.length c2) (.int .i64 (rd_T89 l i).f2)) ?hg ?ho ?hn ?hr ?_; (case ho => rfl); (case hg => rfl); (case hn => rfl); (case hr => first | (go_simp; done) | (go_simp; rfl)); intro w8 hw; have Xg7' : Aside0 (w8.heap[g7]? = some (.cells #[.int .i64 (rd_T89 l i).f0.f0, .slice (some ad1) (rd_T89 l i).f0.f1.length c1, .slice A2 (rd_T89 l i).f1.length c2, .int .i64 (rd_T89 l i).f2] 89 (0, 0))) := ⟨by rw [hw]; exact put4 Xg7.out⟩; have HW' : Aside0 (Below wr.heap.size wr w8) := ⟨by rw [hw]; exact below4 HW.out Gg7.out⟩; clear hw Xg7 HW ha0 ha1 ha2 ha3 hb0 hb1 hb2 hb3; have HW := HW'; clear HW'; obtain ⟨ha0, ha1, ha2, ha3⟩ := cl4 Xg7'; replace hx1 := (HW.out.cell (World.block_lt_of_cell? _ _ hx1)).trans hx1))
       go_roundg k1
       case measure => have := HK.out; omega
       case rel => exact ⟨wrap64 (i + 1), out, (by first | rfl | (simp; done) | (simp [*]; done)), H', ⟨by have := HK.out; omega⟩, ⟨Kd.N_below HN.out (ms HW)⟩, ⟨HB.out.trans (HW.out.mono HB.out.size)⟩⟩
      rw [if_neg c6] at H; cases H
     rw [if_neg c5] at H; cases H
    rw [if_neg c4] at H; cases H
   rw [if_neg c3] at H
   simp only [Option.some.injEq] at H
   subst H
   have c3b : decide (i < (l.length : Int)) = false := decide_eq_false c3
   clear c3
   go_wp2
   clear H1
   go_loopg [37, 5] n (fun kq v37 v5 w' => ∃ (i : Int) (out : List S89), v37 = .int .i64 i ∧ Aside0 (impl_without.l1 kq l v i out = some r) ∧ Aside0 (kq ≤ n) ∧ Aside0 (Kd.N (kD b) 89 w' w.heap.size (fun _ => True) v5 out) ∧ Aside0 (Below w.heap.size w w'))
   case atStart => exact ⟨0, _, rfl, H2, ⟨Nat.le_refl _⟩, HN, HB⟩
   case round =>
    clear H2 HN HB
    obtain ⟨i, out, rfl, HA, HK, HN, HB⟩ := hrel
    cases gk with
    | zero => exact absurd HA.out (by simp [impl_without.l1])
    | succ k1 =>
     have H := HA.out
     clear HA
     simp only [impl_without.l1] at H
     by_cases c3 : i < (l.length : Int)
     ·rw [if_pos c3] at H
      by_cases c4 : 0 ≤ i
      ·rw [if_pos c4] at H
       by_cases c5 : 0 ≤ v
       ·rw [if_pos c5] at H
        by_cases c6 : v < ((rd_T89 l i).f0.f1.length : Int)
        ·rw [if_pos c6] at H
         obtain ⟨ad, A1, c1, A2, c2, rfl, hc0, hc1, hc2, hc3, hl1, hC, hR, hK⟩ := at_D HF.out i c4 c3
         replace hc0 := (HB.out.cell (World.block_lt_of_cell? _ _ hc0)).trans hc0
         replace hc1 := (HB.out.cell (World.block_lt_of_cell? _ _ hc1)).trans hc1
         replace hc2 := (HB.out.cell (World.block_lt_of_cell? _ _ hc2)).trans hc2
         replace hc3 := (HB.out.cell (World.block_lt_of_cell? _ _ hc3)).trans hc3
         obtain ⟨ad1, e1, hx1⟩ := Kd.at_int hC v c5 c6
         cases e1
         replace hx1 := (HB.out.cell (World.block_lt_of_cell? _ _ hx1)).trans hx1
         have HW := Aside0.mk (Below.refl wr.heap.size wr)
         have HCa := Aside0.mk hC
         have HRa := Aside0.mk hR
         have HLa := Aside0.mk hl1
         clear hl1 hC hR hK
         have c3b : decide (i < (l.length : Int)) = true := decide_eq_true c3
         have V0 := Aside0.mk c5
         replace c3 := eq_true c3
         replace c4 := eq_true c4
         replace c5 := eq_true c5
         replace c6 := eq_true c6
         by_cases c7 : rd (rd_T89 l i).f0.f1 v ≤ 0
         ·rw [if_pos c7] at H
          have H' := Aside0.mk H
          clear H
          have c7b := decide_eq_true c7
          go_wp2_with (first | ((with_reducible refine gate_dst (N := 9) rfl ?_); refine box_event ?hg (N := 9) ?hd (cs := #[.int .i64 0, .slice none 0 0, .slice none 0 0, .int .i64 0]) (t := 89) ?hr ?_; (case hd => rfl); (case hg => rfl); (case hr => first | (go_simp; done) | (go_simp; rfl)); intro g9 hg_ w3 hx_ hb_; have Gg9 := gw hg_ HW; replace HW := bs HW hb_; have Xg9 := Aside0.mk hx_; obtain ⟨ha0, ha1, ha2, ha3⟩ := cl4 Xg9; obtain ⟨hb0, hb1, hb2, hb3⟩ := fz4 Xg9; clear hg_ hx_ hb_) | ((with_reducible refine gate_store (t := 89) (p := 9) rfl ?_); refine store_event (t := 89) (p := 9) (v := ?vo_3) (w1 := set4 w3 g9 (.int .i64 (rd_T89 l i).f0.f0) (.slice (some ad1) (rd_T89 l i).f0.f1.length c1) (.slice A2 (rd_T89 l i).f1.length c2) (.int .i64 (rd_T89 l i).f2)) ?hg ?ho ?hn ?hr ?_; (case ho => rfl); (case hg => rfl); (case hn => rfl); (case hr => first | (go_simp; done) | (go_simp; rfl)); intro w4 hw; have Xg9' : Aside0 (w4.heap[g9]? = some (.cells #[.int .i64 (rd_T89 l i).f0.f0, .slice (some ad1) (rd_T89 l i).f0.f1.length c1, .slice A2 (rd_T89 l i).f1.length c2, .int .i64 (rd_T89 l i).f2] 89 (0, 0))) := ⟨by rw [hw]; exact put4 Xg9.out⟩; have HW' : Aside0 (Below wr.heap.size wr w4) := ⟨by rw [hw]; exact below4 HW.out Gg9.out⟩; clear hw Xg9 HW ha0 ha1 ha2 ha3 hb0 hb1 hb2 hb3; have HW := HW'; clear HW'; obtain ⟨ha0, ha1, ha2, ha3⟩ := cl4 Xg9'; replace hx1 := (HW.out.cell (World.block_lt_of_cell? _ _ hx1)).trans hx1))
          go_roundg k1
          case measure => have := HK.out; omega
          case rel => exact ⟨wrap64 (i + 1), out, (by first | rfl | (simp; done) | (simp [*]; done)), H', ⟨by have := HK.out; omega⟩, ⟨Kd.N_below HN.out (ms HW)⟩, ⟨HB.out.trans (HW.out.mono HB.out.size)⟩⟩
         rw [if_neg c7] at H
         obtain ⟨o2, A3, H⟩ := Option.bind_eq_some_iff.mp H
         have H3 := Aside0.mk A3
         have H' := Aside0.mk H
         clear H A3
         have c7b := decide_eq_false c7
         go_wp2_with (first | ((with_reducible refine gate_dst (N := 9) rfl ?_); refine box_event ?hg (N := 9) ?hd (cs := #[.int .i64 0, .slice none 0 0, .slice none 0 0, .int .i64 0]) (t := 89) ?hr ?_; (case hd => rfl); (case hg => rfl); (case hr => first | (go_simp; done) | (go_simp; rfl)); intro g9 hg_ w3 hx_ hb_; have Gg9 := gw hg_ HW; replace HW := bs HW hb_; have Xg9 := Aside0.mk hx_; obtain ⟨ha0, ha1, ha2, ha3⟩ := cl4 Xg9; obtain ⟨hb0, hb1, hb2, hb3⟩ := fz4 Xg9; clear hg_ hx_ hb_) | ((with_reducible refine gate_store (t := 89) (p := 9) rfl ?_); refine store_event (t := 89) (p := 9) (v := ?vo_4) (w1 := set4 w3 g9 (.int .i64 (rd_T89 l i).f0.f0) (.slice (some ad1) (rd_T89 l i).f0.f1.length c1) (.slice A2 (rd_T89 l i).f1.length c2) (.int .i64 (rd_T89 l i).f2)) ?hg ?ho ?hn ?hr ?_; (case ho => rfl); (case hg => rfl); (case hn => rfl); (case hr => first | (go_simp; done) | (go_simp; rfl)); intro w4 hw; have Xg9' : Aside0 (w4.heap[g9]? = some (.cells #[.int .i64 (rd_T89 l i).f0.f0, .slice (some ad1) (rd_T89 l i).f0.f1.length c1, .slice A2 (rd_T89 l i).f1.length c2, .int .i64 (rd_T89 l i).f2] 89 (0, 0))) := ⟨by rw [hw]; exact put4 Xg9.out⟩; have HW' : Aside0 (Below wr.heap.size wr w4) := ⟨by rw [hw]; exact below4 HW.out Gg9.out⟩; clear hw Xg9 HW ha0 ha1 ha2 ha3 hb0 hb1 hb2 hb3; have HW := HW'; clear HW'; obtain ⟨ha0, ha1, ha2, ha3⟩ := cl4 Xg9'; replace hx1 := (HW.out.cell (World.block_lt_of_cell? _ _ hx1)).trans hx1))
         have GN : Aside0 (some g9 ≠ u5.ownBlock) := ⟨fun e => by have := Kd.N_lt HN.out _ e.symm; have := Gg9.out; omega⟩
         replace HN := Aside0.mk (Kd.N_below HN.out HW.out)
         replace HB := Aside0.mk (HB.out.trans (HW.out.mono HB.out.size))
         clear HW ha0 ha1 ha2 ha3 hc0 hc1 hc2 hc3 hx1 c3 c4 c5 c6 c7 c3b c7b Gg9
         go_loopg [51, 5] k1 (fun kq v51 v5 w' => ∃ (j : Int) (out : List S89), v51 = .int .i64 j ∧ Aside0 (impl_without.l2 kq l v (rd_T89 l i) (rd (rd_T89 l i).f0.f1 v) j out = some o2) ∧ Aside0 (kq ≤ k1) ∧ Aside0 (Kd.N (kD b) 89 w' w.heap.size (fun _ => True) v5 out) ∧ Aside0 (Below w.heap.size w w') ∧ Aside0 (w'.heap[g9]? = some (.cells #[.int .i64 (rd_T89 l i).f0.f0, .slice (some ad1) (rd_T89 l i).f0.f1.length c1, .slice A2 (rd_T89 l i).f1.length c2, .int .i64 (rd_T89 l i).f2] 89 (0, 0))) ∧ Aside0 (some g9 ≠ v5.ownBlock))
         case atStart => exact ⟨0, _, rfl, H3, ⟨Nat.le_refl _⟩, HN, HB, Xg9', GN⟩
         case round =>
          clear H3 HN HB Xg9' GN
          obtain ⟨j, out, rfl, HA, HK2, HN, HB, X9, GN⟩ := hrel
          cases gk with
          | zero => exact absurd HA.out (by simp [impl_without.l2])
          | succ k2 =>
           have H := HA.out
           clear HA
           simp only [impl_without.l2] at H
           by_cases c3 : j < (l.length : Int)
           ·rw [if_pos c3] at H
            by_cases c4 : 0 ≤ j
            ·rw [if_pos c4] at H
             by_cases c6 : v < ((rd_T89 l j).f0.f1.length : Int)
             ·rw [if_pos c6] at H
              obtain ⟨ad_, B1, d1, B2, d2, he_, hc0, hc1, hc2, hc3, hl1, hC, hR, hK⟩ := at_D (Kd.F_below HF.out HB.out) j c4 c3
              cases he_
              obtain ⟨ad2, e1, hx1⟩ := Kd.at_int hC v V0.out c6
              cases e1
              have HW := Aside0.mk (Below.refl wr.heap.size wr)
              have HCb := Aside0.mk hC
              have HRb := Aside0.mk hR
              have HLb := Aside0.mk hl1
              clear hl1 hC hR hK
              have c3b : decide (j < (l.length : Int)) = true := decide_eq_true c3
              have c5 := eq_true V0.out
              replace c3 := eq_true c3
              replace c4 := eq_true c4
              replace c6 := eq_true c6
              by_cases c7 : wrap64 (-(rd (rd_T89 l j).f0.f1 v)) ≤ 0
              ·rw [if_pos c7] at H
               have H' := Aside0.mk H
               clear H
               have c7b := decide_eq_true c7
               go_wp2_with (first | ((with_reducible refine gate_dst (N := 12) rfl ?_); refine box_event ?hg (N := 12) ?hd (cs := #[.int .i64 0, .slice none 0 0, .slice none 0 0, .int .i64 0]) (t := 89) ?hr ?_; (case hd => rfl); (case hg => rfl); (case hr => first | (go_simp; done) | (go_simp; rfl)); intro g12 hg_ w5 hx_ hb_; have Gg12 := gw hg_ HW; replace HW := bs HW hb_; have Xg12 := Aside0.mk hx_; obtain ⟨ha0, ha1, ha2, ha3⟩ := cl4 Xg12; obtain ⟨hb0, hb1, hb2, hb3⟩ := fz4 Xg12; clear hg_ hx_ hb_) | ((with_reducible refine gate_store (t := 89) (p := 12) rfl ?_); refine store_event (t := 89) (p := 12) (v := ?vo_5) (w1 := set4 w5 g12 (.int .i64 (rd_T89 l j).f0.f0) (.slice (some ad2) (rd_T89 l j).f0.f1.length d1) (.slice B2 (rd_T89 l j).f1.length d2) (.int .i64 (rd_T89 l j).f2)) ?hg ?ho ?hn ?hr ?_; (case ho => rfl); (case hg => rfl); (case hn => rfl); (case hr => first | (go_simp; done) | (go_simp; rfl)); intro w6 hw; have Xg12' : Aside0 (w6.heap[g12]? = some (.cells #[.int .i64 (rd_T89 l j).f0.f0, .slice (some ad2) (rd_T89 l j).f0.f1.length d1, .slice B2 (rd_T89 l j).f1.length d2, .int .i64 (rd_T89 l j).f2] 89 (0, 0))) := ⟨by rw [hw]; exact put4 Xg12.out⟩; have HW' : Aside0 (Below wr.heap.size wr w6) := ⟨by rw [hw]; exact below4 HW.out Gg12.out⟩; clear hw Xg12 HW ha0 ha1 ha2 ha3 hb0 hb1 hb2 hb3; have HW := HW'; clear HW'; obtain ⟨ha0, ha1, ha2, ha3⟩ := cl4 Xg12'; replace hx1 := (HW.out.cell (World.block_lt_of_cell? _ _ hx1)).trans hx1))
               go_roundg k2
               case measure => have := HK2.out; omega
               case rel => exact ⟨wrap64 (j + 1), out, (by first | rfl | (simp; done) | (simp [*]; done)), H', ⟨by have := HK2.out; omega⟩, ⟨Kd.N_below HN.out (ms HW)⟩, ⟨HB.out.trans (HW.out.mono HB.out.size)⟩, ⟨blk_below X9.out HW.out⟩, GN⟩
              rw [if_neg c7] at H
              obtain ⟨g, A4, H⟩ := Option.bind_eq_some_iff.mp H
              by_cases c8 : g = 0
              ·rw [if_pos c8] at H; cases H
              rw [if_neg c8] at H
              obtain ⟨⟨t1, t2, t3, t4, t5⟩, A5, H⟩ := Option.bind_eq_some_iff.mp H
              have H4 := Aside0.mk A4
              have H5 := Aside0.mk A5
              have H6 := Aside0.mk H
              clear H A4 A5
              have c7b := decide_eq_false c7
              go_wp2_with (first | ((with_reducible refine gate_dst (N := 12) rfl ?_); refine box_event ?hg (N := 12) ?hd (cs := #[.int .i64 0, .slice none 0 0, .slice none 0 0, .int .i64 0]) (t := 89) ?hr ?_; (case hd => rfl); (case hg => rfl); (case hr => first | (go_simp; done) | (go_simp; rfl)); intro g12 hg_ w5 hx_ hb_; have Gg12 := gw hg_ HW; replace HW := bs HW hb_; have Xg12 := Aside0.mk hx_; obtain ⟨ha0, ha1, ha2, ha3⟩ := cl4 Xg12; obtain ⟨hb0, hb1, hb2, hb3⟩ := fz4 Xg12; clear hg_ hx_ hb_) | ((with_reducible refine gate_store (t := 89) (p := 12) rfl ?_); refine store_event (t := 89) (p := 12) (v := ?vo_6) (w1 := set4 w5 g12 (.int .i64 (rd_T89 l j).f0.f0) (.slice (some ad2) (rd_T89 l j).f0.f1.length d1) (.slice B2 (rd_T89 l j).f1.length d2) (.int .i64 (rd_T89 l j).f2)) ?hg ?ho ?hn ?hr ?_; (case ho => rfl); (case hg => rfl); (case hn => rfl); (case hr => first | (go_simp; done) | (go_simp; rfl)); intro w6 hw; have Xg12' : Aside0 (w6.heap[g12]? = some (.cells #[.int .i64 (rd_T89 l j).f0.f0, .slice (some ad2) (rd_T89 l j).f0.f1.length d1, .slice B2 (rd_T89 l j).f1.length d2, .int .i64 (rd_T89 l j).f2] 89 (0, 0))) := ⟨by rw [hw]; exact put4 Xg12.out⟩; have HW' : Aside0 (Below wr.heap.size wr w6) := ⟨by rw [hw]; exact below4 HW.out Gg12.out⟩; clear hw Xg12 HW ha0 ha1 ha2 ha3 hb0 hb1 hb2 hb3; have HW := HW'; clear HW'; obtain ⟨ha0, ha1, ha2, ha3⟩ := cl4 Xg12'; replace hx1 := (HW.out.cell (World.block_lt_of_cell? _ _ hx1)).trans hx1; obtain ⟨hy0, hy1, hy2, hy3⟩ := cl4 (Aside0.mk (blk_below X9.out HW.out))) | (go_at_call 125; refine (impl_Gcd.calls _ _ _ _ _ H4.out).mono ?_; rintro e w7 ⟨rfl, hb⟩; replace HW := bs HW hb; replace Xg12' := bb Xg12' hb; clear hb))
              replace HB := Aside0.mk (HB.out.trans (HW.out.mono HB.out.size))
              replace X9 := Aside0.mk (blk_below X9.out HW.out)
              have X12 := Xg12'
              replace HN := Aside0.mk (Kd.N_below HN.out HW.out)
              have HCaK := HCa
              have HRaK := HRa
              replace HCa := Aside0.mk (Kd.C_below HCa.out HB.out)
              replace HRa := Aside0.mk (Kd.R_below HRa.out HB.out)
              replace HCb := Aside0.mk (Kd.C_below HCb.out HW.out)
              replace HRb := Aside0.mk (Kd.R_below HRb.out HW.out)
              have HCa2 := Aside0.mk (Kd.R_reads' HRa.out).2.2
              have HLa2 := Aside0.mk (Kd.R_reads' HRa.out).2.1
              have HCb2 := Aside0.mk (Kd.R_reads' HRb.out).2.2
              have HLb2 := Aside0.mk (Kd.R_reads' HRb.out).2.1
              have La : Aside0 (∀ g, w7.heap.size ≤ g → g9 ≠ g) := ⟨fun g h => by have := blk_lt X9.out; omega⟩
              have Lb : Aside0 (∀ g, w7.heap.size ≤ g → g12 ≠ g) := ⟨fun g h => by have := blk_lt X12.out; omega⟩
              have E1 : IntKind.i64.wrap (Int.tdiv (wrap64 (-(rd (rd_T89 l j).f0.f1 v))) g) = wrap64 (Int.tdiv (wrap64 (-(rd (rd_T89 l j).f0.f1 v))) g) := i64_w _
              have E2 : IntKind.i64.wrap (Int.tdiv (rd (rd_T89 l i).f0.f1 v) g) = wrap64 (Int.tdiv (rd (rd_T89 l i).f0.f1 v) g) := i64_w _
              have B7 : Aside0 (b ≤ w7.heap.size) := ⟨Nat.le_trans HBB.out HB.out.size⟩
              clear HW hx1 hy0 hy1 hy2 hy3 hc0 hc1 hc2 hc3 ha0 ha1 ha2 ha3 c3 c3b c4 c5 c6 c7 c7b Gg12 Xg12'
              go_cut [15, 16] (fun v15 v16 wc => ∃ (g15 : Nat) (v1 v2 : Value), v15 = .pointer (some ⟨g15, 0, none⟩) ∧ v16 = .bool t5 ∧ Aside0 (wc.heap[g15]? = some (.cells #[.int .i64 t1, v1, v2, .int .i64 t4] 89 (0, 0))) ∧ Aside0 (Kd.R (Kd.int .i64) 3 wc w7.heap.size (fun _ => True) v1 t2) ∧ Aside0 (Kd.R (Kd.int .i64) 3 wc w7.heap.size (fun _ => True) v2 t3) ∧ Aside0 (Below w7.heap.size w7 wc))
              case first =>
               have HZ := Aside0.mk (Below.refl w7.heap.size w7)
               go_region_held3 (fun w' => w'.cell? ⟨g9, 0, none⟩ = some (.int .i64 (rd_T89 l i).f0.f0) ∧ w'.cell? ⟨g9, 1, none⟩ = some (.slice (some ad1) (rd_T89 l i).f0.f1.length c1) ∧ w'.cell? ⟨g9, 2, none⟩ = some (.slice A2 (rd_T89 l i).f1.length c2) ∧ w'.cell? ⟨g9, 3, none⟩ = some (.int .i64 (rd_T89 l i).f2) ∧ w'.cell? ⟨g12, 0, none⟩ = some (.int .i64 (rd_T89 l j).f0.f0) ∧ w'.cell? ⟨g12, 1, none⟩ = some (.slice (some ad2) (rd_T89 l j).f0.f1.length d1) ∧ w'.cell? ⟨g12, 2, none⟩ = some (.slice B2 (rd_T89 l j).f1.length d2) ∧ w'.cell? ⟨g12, 3, none⟩ = some (.int .i64 (rd_T89 l j).f2))
                (first | exact ⟨(blk_cell (mb X9) 0).trans rfl, (blk_cell (mb X9) 1).trans rfl, (blk_cell (mb X9) 2).trans rfl, (blk_cell (mb X9) 3).trans rfl, (blk_cell (mb X12) 0).trans rfl, (blk_cell (mb X12) 1).trans rfl, (blk_cell (mb X12) 2).trans rfl, (blk_cell (mb X12) 3).trans rfl⟩ | exact ⟨(blk_cell (far4 (mb X9) (La.out _ (by first | exact HZ.out.size | exact SZ.out | exact Nat.le_refl _))) 0).trans rfl, (blk_cell (far4 (mb X9) (La.out _ (by first | exact HZ.out.size | exact SZ.out | exact Nat.le_refl _))) 1).trans rfl, (blk_cell (far4 (mb X9) (La.out _ (by first | exact HZ.out.size | exact SZ.out | exact Nat.le_refl _))) 2).trans rfl, (blk_cell (far4 (mb X9) (La.out _ (by first | exact HZ.out.size | exact SZ.out | exact Nat.le_refl _))) 3).trans rfl, (blk_cell (far4 (mb X12) (Lb.out _ (by first | exact HZ.out.size | exact SZ.out | exact Nat.le_refl _))) 0).trans rfl, (blk_cell (far4 (mb X12) (Lb.out _ (by first | exact HZ.out.size | exact SZ.out | exact Nat.le_refl _))) 1).trans rfl, (blk_cell (far4 (mb X12) (Lb.out _ (by first | exact HZ.out.size | exact SZ.out | exact Nat.le_refl _))) 2).trans rfl, (blk_cell (far4 (mb X12) (Lb.out _ (by first | exact HZ.out.size | exact SZ.out | exact Nat.le_refl _))) 3).trans rfl⟩)
                ((go_at_call 126; refine (impl_combined.calls k2 (rd_T89 l i).f0.f0 (some ad1) c1 (rd_T89 l i).f0.f1 A2 c2 (rd_T89 l i).f1 (rd_T89 l i).f2 (wrap64 (Int.tdiv (wrap64 (-(rd (rd_T89 l j).f0.f1 v))) g)) (rd_T89 l j).f0.f0 (some ad2) d1 (rd_T89 l j).f0.f1 B2 d2 (rd_T89 l j).f1 (rd_T89 l j).f2 (wrap64 (Int.tdiv (rd (rd_T89 l i).f0.f1 v) g)) t1 t2 t3 t4 t5 _ (mc HCa.out) HLa.out (mc HCa2.out) HLa2.out (mc HCb.out) HLb.out (mc HCb2.out) HLb2.out H5.out).mono ?_; rintro e w8 ⟨v1, v2, rfl, h1, h2, hb⟩; obtain ⟨D1, e1, rfl⟩ := Kd.R_slice h1; obtain ⟨D2, e2, rfl⟩ := Kd.R_slice h2; have R1 := Aside0.mk (Kd.R_lower h1 (below_size (ms HZ))); have R2 := Aside0.mk (Kd.R_lower h2 (below_size (ms HZ))); replace X9 := bb X9 hb; replace X12 := bb X12 hb; replace HZ := bs HZ hb; have SZ := Aside0.mk HZ.out.size; (first | have X15 := Aside0.mk (blk_below (heap_alloc_new _ _) hb) | have X15 := Aside0.mk (blk_below (blk_drew (heap_alloc_new _ _)) hb) | skip); (try (have hz0 := (blk_cell X15.out 0).trans (rfl : _ = some (Value.int .i64 0)); have hz1 := (blk_cell X15.out 1).trans (rfl : _ = some (Value.slice none 0 0)); have hz2 := (blk_cell X15.out 2).trans (rfl : _ = some (Value.slice none 0 0)); have hz3 := (blk_cell X15.out 3).trans (rfl : _ = some (Value.int .i64 0)); have hf0 := blk_frozen X15.out 0; have hf1 := blk_frozen X15.out 1; have hf2 := blk_frozen X15.out 2; have hf3 := blk_frozen X15.out 3; (try simp only [World.drew] at hz0 hz1 hz2 hz3 hf0 hf1 hf2 hf3))); clear h1 h2 hb))
               all_goals go_wp2
               all_goals go_meet
               case rel => exact ⟨_, _, _, rfl, rfl, ⟨heap_alloc_new _ _⟩, ⟨Kd.R_alloc R1.out _⟩, ⟨Kd.R_alloc R2.out _⟩, ⟨below_alloc HZ.out _⟩⟩
               case rel => exact ⟨_, _, _, rfl, rfl, ⟨put4 X15.out⟩, ⟨own4 R1.out X15.out (by decide)⟩, ⟨own4 R2.out X15.out (by decide)⟩, ⟨below4 HZ.out (Nat.le_refl _)⟩⟩
              case rest =>
               obtain ⟨g15, v1, v2, rfl, rfl, X15, R1, R2, HZ⟩ := hcut
               clear La Lb HCa HRa HCa2 HLa2 HCb HRb HCb2 HLb2 HCaK HRaK E1 E2
               obtain ⟨D1, e1, rfl⟩ := Kd.R_slice R1.out
               obtain ⟨D2, e2, rfl⟩ := Kd.R_slice R2.out
               obtain ⟨hp0, hp1, hp2, hp3⟩ := cl4 X15
               by_cases c9 : t5 = true
               ·subst c9
                have H := H6.out
                rw [if_pos rfl] at H
                by_cases c10 : out.length < 2199023255552
                ·rw [if_pos c10] at H
                 have H7 := Aside0.mk H
                 have C10 := Aside0.mk c10
                 clear H c10
                 go_wp2_with (at_builtin; refine Kd.N_append (kD b) (w0 := w) w.heap.size rfl (.tmp 80) (.tmp 82) 87 89 (.agg #[.int .i64 0, .slice none 0 0, .slice none 0 0, .int .i64 0]) 64 rfl Try.underlying87 info89 rfl (by show 0 < 4; decide) (by omega) u5 out ⟨⟨t1, t2⟩, t3, t4⟩ [.int .i64 t1, .slice D1 t2.length e1, .slice D2 t3.length e2, .int .i64 t4] (fun _ => True) (fun k => w7.heap.size ≤ k) rfl rfl ?bP ?bK (fun _ _ => trivial) ?bO ?bB ?bS ?bL ?_; (case bP => exact kD_mkF ⟨⟨t1, t2⟩, t3, t4⟩ (Kd.R_lower (Kd.R_mono (Kd.R_bound R1.out) (fun k hk => hk.2.1)) B7.out) (Kd.R_lower (Kd.R_mono (Kd.R_bound R2.out) (fun k hk => hk.2.1)) B7.out)); (case bK => exact fun k hk => ⟨trivial, fun e => by have := Kd.N_lt HN.out k e.symm; omega⟩); (case bO => exact Kd.N_below HN.out HZ.out); (case bB => exact HB.out.trans (HZ.out.mono HB.out.size)); (case bS => exact Nat.le_trans HB.out.size HZ.out.size); (case bL => have := C10.out; omega); intro vo' w10 ho hb hg hat; have HN' := Aside0.mk ho; have HB' := Aside0.mk hb; have X9' := Aside0.mk (blk_grown (blk_below X9.out HZ.out) hg GN.out); have GN' : Aside0 (some g9 ≠ vo'.ownBlock) := ⟨apartK GN.out (blk_lt (blk_below X9.out HZ.out)) hat⟩; clear ho hb hg hat)
                 go_roundg k2
                 case measure => have := HK2.out; omega
                 case rel => exact ⟨wrap64 (j + 1), out ++ [⟨⟨t1, t2⟩, t3, t4⟩], (by first | rfl | (simp; done) | (simp [*]; done)), H7, ⟨by have := HK2.out; omega⟩, HN', HB', X9', GN'⟩
                rw [if_neg c10] at H; cases H
               have c9' : t5 = false := by cases t5 with | true => exact absurd rfl c9 | false => rfl
               subst c9'
               have H := H6.out
               rw [if_neg (by decide)] at H
               have H7 := Aside0.mk H
               clear H
               go_wp2
               go_roundg k2
               case measure => have := HK2.out; omega
               case rel => exact ⟨wrap64 (j + 1), out, (by first | rfl | (simp; done) | (simp [*]; done)), H7, ⟨by have := HK2.out; omega⟩, ⟨Kd.N_below HN.out HZ.out⟩, ⟨HB.out.trans (HZ.out.mono HB.out.size)⟩, ⟨blk_below X9.out HZ.out⟩, GN⟩

             rw [if_neg c6] at H; cases H
            rw [if_neg c4] at H; cases H
           rw [if_neg c3] at H
           simp only [Option.some.injEq] at H
           subst H
           have c3b : decide (j < (l.length : Int)) = false := decide_eq_false c3
           clear c3
           go_wp2
           go_roundg k1
           case measure => have := HK.out; omega
           case rel => exact ⟨wrap64 (i + 1), out, (by first | rfl | (simp; done) | (simp [*]; done)), H', ⟨by have := HK.out; omega⟩, HN, HB⟩
        rw [if_neg c6] at H; cases H
       rw [if_neg c5] at H; cases H
      rw [if_neg c4] at H; cases H
     rw [if_neg c3] at H
     simp only [Option.some.injEq] at H
     subst H
     have c3b : decide (i < (l.length : Int)) = false := decide_eq_false c3
     clear c3
     go_wp2
     go_ret
     exact ⟨_, rfl, HN.out, HB.out⟩
theorem impl_without.l0_mono : ∀ k a b c d, LeO (impl_without.l0 k a b c d) (impl_without.l0 (k + 1) a b c d) := by
 intro k
 induction k with
 | zero => intros; exact LeO.none _
 | succ k ih =>
  intro a b c d
  rw [impl_without.l0, impl_without.l0]
  repeat' first | exact LeO.refl _ | exact ih _ _ _ _ | apply LeO.ite | refine LeO.bind ?_ (fun _ => ?_)
theorem impl_without.l2_mono : ∀ k a b c d e f, LeO (impl_without.l2 k a b c d e f) (impl_without.l2 (k + 1) a b c d e f) := by
 intro k
 induction k with
 | zero => intros; exact LeO.none _
 | succ k ih =>
  intro a b c d e f
  rw [impl_without.l2, impl_without.l2]
  repeat' first | exact LeO.refl _ | exact ih _ _ _ _ _ _ | exact impl_Gcd.mono _ _ _ | exact impl_combined.mono _ _ _ _ _ _ _ _ _ _ _ | apply LeO.ite | refine LeO.bind ?_ (fun _ => ?_)
theorem impl_without.l1_mono : ∀ k a b c d, LeO (impl_without.l1 k a b c d) (impl_without.l1 (k + 1) a b c d) := by
 intro k
 induction k with
 | zero => intros; exact LeO.none _
 | succ k ih =>
  intro a b c d
  rw [impl_without.l1, impl_without.l1]
  repeat' first | exact LeO.refl _ | exact ih _ _ _ _ | exact impl_without.l2_mono _ _ _ _ _ _ _ | apply LeO.ite | refine LeO.bind ?_ (fun _ => ?_)
theorem impl_without.mono : ∀ a b k, LeO (impl_without.f k a b) (impl_without.f (k + 1) a b) := by
 intro a b k
 exact LeO.bind (impl_without.l0_mono _ _ _ _ _) (fun _ => impl_without.l1_mono _ _ _ _ _)

/-! ### impl_CombineRows_1: function 98 -/
def impl_CombineRows_1.f (a0 : Int) : Option (Bool) := (impl_within.f a0 0 1000000000).bind fun t151 => (some (!t151))
set_option maxHeartbeats 8000000 in
set_option maxRecDepth 100000 in
theorem impl_CombineRows_1.calls (a0 : Int) (r : Bool) (w : World) (h : impl_CombineRows_1.f a0 = some r) :
  Calls Try.prog 98 #[.int .i64 a0] w fun e w' => e = .returned (.bool r) ∧ Drawn0 w w' := by
 have H : ((impl_within.f a0 0 1000000000).bind fun t151 => (some (!t151))) = some r := h
 clear h
 replace H := Option.bind_eq_some_iff.mp H
 obtain ⟨t151, A20, H⟩ := H
 replace H : (some (!t151)) = some r := H
 have A2 := Aside0.mk A20
 clear A20
 obtain rfl := Option.some.inj H
 go_enter Try.func98, Try.ntmps98
 go_wp2_with (first | ((with_reducible refine gate_callee (f := 99) rfl ?_); refine gl (some 4) rfl rfl Try.func99 (by kernel_rfl) rfl #[.int .i64 a0, .int .i64 0, .int .i64 1000000000] rfl ?_; (with_reducible refine (impl_within.calls a0 0 1000000000 t151 _ A2.out).mono ?_); rintro e w' ⟨rfl, ⟨nd, rfl⟩⟩; refine ⟨_, rfl, ?_⟩))
 go_ret
 exact ⟨by first | rfl | (simp; done) | (simp [*]; done), by repeat (first | exact Drawn0.refl _ | apply Drawn0.step)⟩

/-! ### slices_IndexFunc_int_int__CombineRows_1: function 134 -/
def slices_IndexFunc_int_int__CombineRows_1.l0 : Nat → List Int → Int → Int → Option (Int)
 | 0, _, _, _ => none
 | k + 1, x0, x7, x8 => if x8 < x7 then (if 0 ≤ x8 then (if x8 < (x0.length : Int) then ((impl_CombineRows_1.f (rd x0 x8)).bind fun t153 => (if t153 = true then (some x8) else (slices_IndexFunc_int_int__CombineRows_1.l0 k x0 x7 (wrap64 (x8 + 1))))) else (none)) else (none)) else (some (-1))
def slices_IndexFunc_int_int__CombineRows_1.f (k : Nat) (l0 : List Int) (a1 : Unit) : Option (Int) := slices_IndexFunc_int_int__CombineRows_1.l0 k l0 (l0.length : Int) 0
theorem slices_IndexFunc_int_int__CombineRows_1.mono_l : ∀ k, (∀ y0 y1 y2, LeO (slices_IndexFunc_int_int__CombineRows_1.l0 k y0 y1 y2) (slices_IndexFunc_int_int__CombineRows_1.l0 (k + 1) y0 y1 y2))
 | 0 => fun _ _ _ r h => by simp [slices_IndexFunc_int_int__CombineRows_1.l0] at h
 | k + 1 => by
  have ih0 := slices_IndexFunc_int_int__CombineRows_1.mono_l k
  ·intro y0 y1 y2
   unfold slices_IndexFunc_int_int__CombineRows_1.l0
   repeat' with_reducible first
   | exact ih0 _ _ _
   | exact LeO.refl _
   | exact LeO.none _
   | refine LeO.ite ?_ ?_
   | refine LeO.bind ?_ (fun _ => ?_)
theorem slices_IndexFunc_int_int__CombineRows_1.mono : ∀ a0 a1 k, LeO (slices_IndexFunc_int_int__CombineRows_1.f k a0 a1) (slices_IndexFunc_int_int__CombineRows_1.f (k + 1) a0 a1) := by
 intro a0 a1 k
 have ih0 := slices_IndexFunc_int_int__CombineRows_1.mono_l k
 unfold slices_IndexFunc_int_int__CombineRows_1.f
 repeat' with_reducible first
 | exact ih0 _ _ _
 | exact LeO.refl _
 | exact LeO.none _
 | refine LeO.ite ?_ ?_
 | refine LeO.bind ?_ (fun _ => ?_)
set_option maxHeartbeats 8000000 in
set_option maxRecDepth 100000 in
theorem slices_IndexFunc_int_int__CombineRows_1.calls (k : Nat) (A0 : Option Addr) (c0 : Nat) (l0 : List Int) (a1 : Unit) (r : Int) (w : World) (hr0 : Kd.C (Kd.int .i64) w A0 l0.length l0) (hc0 : l0.length ≤ c0) (h : slices_IndexFunc_int_int__CombineRows_1.f k l0 a1 = some r) :
  Calls Try.prog 134 #[.slice A0 l0.length c0, .func (.func 98) #[] #[]] w fun e w' => e = .returned (.int .i64 r) ∧ Drawn0 w w' := by
 have HR0 := Aside0.mk hr0
 have HC0 := Aside0.mk hc0
 clear hr0 hc0
 have H : (slices_IndexFunc_int_int__CombineRows_1.l0 k l0 (l0.length : Int) 0) = some r := h
 clear h
 have H' := Aside0.mk H
 clear H
 go_enter Try.func134, Try.ntmps134
 go_wp2
 go_loopg [8] k (fun kq v8 w' => ∃ (x8_1 : Int), v8 = .int .i64 x8_1 ∧ Aside0 (slices_IndexFunc_int_int__CombineRows_1.l0 kq l0 (l0.length : Int) x8_1 = some r) ∧ Aside0 (kq ≤ k) ∧ Drawn0 w w')
 case atStart => exact ⟨(0), (by first | rfl | (simp; done) | (simp [*]; done)), H', ⟨Nat.le_refl _⟩, by repeat (first | exact Drawn0.refl _ | apply Drawn0.step)⟩
 case round =>
  clear H'
  try clear p2
  obtain ⟨x8_1, rfl, HA, HK1, ⟨m1, rfl⟩⟩ := hrel
  cases gk with
  | zero => exact absurd HA.out (by simp [slices_IndexFunc_int_int__CombineRows_1.l0])
  | succ k1 =>
   have H := HA.out
   clear HA
   simp only [slices_IndexFunc_int_int__CombineRows_1.l0] at H
   by_cases c3 : x8_1 < (l0.length : Int)
   ·rw [if_pos c3] at H
    have c3b0 : decide (x8_1 < (l0.length : Int)) = true := decide_eq_true c3
    clear c3
    by_cases c4 : 0 ≤ x8_1
    ·rw [if_pos c4] at H
     have c4b0 : decide (0 ≤ x8_1) = true := decide_eq_true c4
     clear c4
     by_cases c5 : x8_1 < (l0.length : Int)
     ·rw [if_pos c5] at H
      have c5b0 : decide (x8_1 < (l0.length : Int)) = true := decide_eq_true c5
      clear c5
      replace H := Option.bind_eq_some_iff.mp H
      obtain ⟨t153, A60, H⟩ := H
      replace H : (if t153 = true then (some x8_1) else (slices_IndexFunc_int_int__CombineRows_1.l0 k1 l0 (l0.length : Int) (wrap64 (x8_1 + 1)))) = some r := H
      have A6 := Aside0.mk A60
      clear A60
      by_cases c7 : t153 = true
      ·subst c7
       have H1 : (some x8_1) = some r := by rw [if_pos rfl] at H; exact H
       clear H
       have H := H1
       clear H1
       obtain rfl := Option.some.inj H
       have p152 : 0 ≤ (x8_1 : Int) := of_decide_eq_true (by first | (with_reducible assumption) | assumption)
       have q152 : x8_1 < (l0.length : Int) := of_decide_eq_true (by first | (with_reducible assumption) | assumption)
       obtain ⟨ad152, e152, hx152_0⟩ := Kd.at_int HR0.out x8_1 p152 q152
       cases e152
       replace p152 := eq_true p152
       replace q152 := eq_true q152
       go_wp2_with (first | (go_at_call 98; (with_reducible refine (impl_CombineRows_1.calls (rd l0 x8_1) true _ A6.out).mono ?_); rintro e w' ⟨rfl, ⟨nd, rfl⟩⟩))
       go_ret
       exact ⟨by first | rfl | (simp; done) | (simp [*]; done), by repeat (first | exact Drawn0.refl _ | apply Drawn0.step)⟩
      replace c7 := Bool.eq_false_iff.mpr c7
      subst c7
      have H1 : (slices_IndexFunc_int_int__CombineRows_1.l0 k1 l0 (l0.length : Int) (wrap64 (x8_1 + 1))) = some r := by rw [if_neg (show ¬ (false = true) by decide)] at H; exact H
      clear H
      have H := H1
      clear H1
      have H' := Aside0.mk H
      clear H
      have p152 : 0 ≤ (x8_1 : Int) := of_decide_eq_true (by first | (with_reducible assumption) | assumption)
      have q152 : x8_1 < (l0.length : Int) := of_decide_eq_true (by first | (with_reducible assumption) | assumption)
      obtain ⟨ad152, e152, hx152_0⟩ := Kd.at_int HR0.out x8_1 p152 q152
      cases e152
      replace p152 := eq_true p152
      replace q152 := eq_true q152
      go_wp2_with (first | (go_at_call 98; (with_reducible refine (impl_CombineRows_1.calls (rd l0 x8_1) false _ A6.out).mono ?_); rintro e w' ⟨rfl, ⟨nd, rfl⟩⟩))
      go_roundg k1
      case measure => have := HK1.out; omega
      case rel => exact ⟨(wrap64 (x8_1 + 1)), (by first | rfl | (simp; done) | (simp [*]; done)), H', ⟨by have := HK1.out; omega⟩, by repeat (first | exact Drawn0.refl _ | apply Drawn0.step)⟩
     rw [if_neg c5] at H
     exact absurd H (by simp)
    rw [if_neg c4] at H
    exact absurd H (by simp)
   rw [if_neg c3] at H
   have c3b0 : decide (x8_1 < (l0.length : Int)) = false := decide_eq_false c3
   clear c3
   obtain rfl := Option.some.inj H
   go_wp2
   go_ret
   exact ⟨by first | rfl | (simp; done) | (simp [*]; done), by repeat (first | exact Drawn0.refl _ | apply Drawn0.step)⟩

/-! ### slices_ContainsFunc_int_int__CombineRows_1: function 97 -/
def slices_ContainsFunc_int_int__CombineRows_1.f (k : Nat) (l0 : List Int) (a1 : Unit) : Option (Bool) := (slices_IndexFunc_int_int__CombineRows_1.f k l0 a1).bind fun t154 => (some (decide (t154 ≥ 0)))
theorem slices_ContainsFunc_int_int__CombineRows_1.mono : ∀ a0 a1 k, LeO (slices_ContainsFunc_int_int__CombineRows_1.f k a0 a1) (slices_ContainsFunc_int_int__CombineRows_1.f (k + 1) a0 a1) := by
 intro a0 a1 k
 unfold slices_ContainsFunc_int_int__CombineRows_1.f
 repeat' with_reducible first
 | exact slices_IndexFunc_int_int__CombineRows_1.mono _ _ _
 | exact LeO.refl _
 | exact LeO.none _
 | refine LeO.ite ?_ ?_
 | refine LeO.bind ?_ (fun _ => ?_)
set_option maxHeartbeats 8000000 in
set_option maxRecDepth 100000 in
theorem slices_ContainsFunc_int_int__CombineRows_1.calls (k : Nat) (A0 : Option Addr) (c0 : Nat) (l0 : List Int) (a1 : Unit) (r : Bool) (w : World) (hr0 : Kd.C (Kd.int .i64) w A0 l0.length l0) (hc0 : l0.length ≤ c0) (h : slices_ContainsFunc_int_int__CombineRows_1.f k l0 a1 = some r) :
  Calls Try.prog 97 #[.slice A0 l0.length c0, .func (.func 98) #[] #[]] w fun e w' => e = .returned (.bool r) ∧ Drawn0 w w' := by
 have HR0 := Aside0.mk hr0
 have HC0 := Aside0.mk hc0
 clear hr0 hc0
 have H : ((slices_IndexFunc_int_int__CombineRows_1.f k l0 a1).bind fun t154 => (some (decide (t154 ≥ 0)))) = some r := h
 clear h
 replace H := Option.bind_eq_some_iff.mp H
 obtain ⟨t154, A30, H⟩ := H
 replace H : (some (decide (t154 ≥ 0))) = some r := H
 have A3 := Aside0.mk A30
 clear A30
 obtain rfl := Option.some.inj H
 go_enter Try.func97, Try.ntmps97
 go_wp2_with (first | (go_at_call 134; (with_reducible refine (slices_IndexFunc_int_int__CombineRows_1.calls k _ _ l0 a1 t154 _ ?side1 ?side2 A3.out).mono ?_); (case side1 => repeat (first | exact HR0.out | (with_reducible refine Kd.C_alloc ?_ _) | (with_reducible refine Kd.C_drewN ?_ _) | (with_reducible refine Kd.C_drew ?_))); (case side2 => exact HC0.out); rintro e w' ⟨rfl, ⟨nd, rfl⟩⟩))
 go_ret
 exact ⟨by first | rfl | (simp; done) | (simp [*]; done), by repeat (first | exact Drawn0.refl _ | apply Drawn0.step)⟩

end Go.Proofs.Ytlencemmlgkflaa.QFnEntailed
