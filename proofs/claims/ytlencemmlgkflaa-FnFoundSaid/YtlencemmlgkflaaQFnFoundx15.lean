-- Made by a program of this claim's own (wip/print): not the kit's print as it stands.
import Derived.Test.YtlencemmlgkflaaUFnFoundTri
import Derived.Test.YtlencemmlgkflaaQFnFoundx0
import Derived.Test.YtlencemmlgkflaaQFnFoundx1
import Derived.Test.YtlencemmlgkflaaQFnFoundx4
import Derived.Test.YtlencemmlgkflaaQFnFoundx6
import Derived.Test.YtlencemmlgkflaaQFnFoundx9
import Derived.Test.YtlencemmlgkflaaQFnFoundx10
import Derived.Test.YtlencemmlgkflaaQFnFoundx11
import Derived.Test.YtlencemmlgkflaaQFnFoundx14
namespace Go.Proofs.Ytlencemmlgkflaa.QFnFound
open Go.RowKit Go.Proofs.YtlencemmlgkflaaV.PrintWords Go.Proofs.YtlencemmlgkflaaV.PrintLast Go.Proofs.YtlencemmlgkflaaV.PrintMore
attribute [local go_sem] max2_int min2_int max_two min_two max_three min_three max_four min_four   -- for this text's walks alone
set_option linter.unusedVariables false
set_option linter.unusedSimpArgs false

theorem k29_openFi {W : World} {ok : Nat → Prop} {x : S29} {cs : List Value} (h : Kd.FK k29 W ok x cs) : ∃ A1 c1, cs = [.int .i64 x.f0, .slice A1 x.f1.length c1] ∧ x.f1.length ≤ c1 ∧ Kd.F (Kd.int .i64) W ok A1 x.f1.length x.f1 := by
 obtain ⟨A1, c1, rfl, l1, _⟩ := k29_open (Kd.FK_now h)
 exact ⟨A1, c1, rfl, l1, (fun W' hW => by obtain ⟨A1_, c1_, he, l1_, g1_⟩ := k29_open (h W' hW); injection (Option.some.inj (show some (Value.slice A1 x.f1.length c1) = some (Value.slice A1_ x.f1.length c1_) from congrArg (fun l => l[1]?) he)) with ha_ _ _; rw [ha_]; exact g1_)⟩
theorem heap_k29 : Kd.Heap k29 := Kd.heap_iso _ (Kd.heap_pair (Kd.heap_int _) (Kd.heap_slice _ (Kd.heap_int _)))
theorem kD_mkF2 {b : Nat} {W : World} {ok : Nat → Prop} (x : S89) {A1 : Option Addr} {c1 : Nat} {v2 : Value} (l1 : x.f0.f1.length ≤ c1) (g1 : Kd.F (Kd.int .i64) W ok A1 x.f0.f1.length x.f0.f1) (g2 : (Kd.int .i64).R 3 W b ok v2 x.f1) : Kd.FK (kD b) W ok x [.int .i64 x.f0.f0, .slice A1 x.f0.f1.length c1, v2, .int .i64 x.f2] := fun W' hW =>
 ⟨[.int .i64 x.f0.f0, .slice A1 x.f0.f1.length c1], [v2, .int .i64 x.f2], rfl, k29_mk W' x.f0 l1 (g1 W' hW), ⟨[v2], [.int .i64 x.f2], rfl, ⟨v2, rfl, Kd.R_mono (Kd.R_step g2 hW) (fun _ _ => trivial)⟩, rfl⟩⟩
theorem at_S {w : World} {ok : Nat → Prop} {A : Option Addr} {n : Nat} {xs : List S29} (h : Kd.F k29 w ok A n xs) (i : Int) (h0 : 0 ≤ i) (h1 : i < n) : ∃ ad A1 c1, A = some ad ∧ w.cell? (ad.add (i.toNat * 2)) = some (.int .i64 (rd_T29 xs i).f0) ∧ w.cell? ⟨(ad.add (i.toNat * 2)).block, (ad.add (i.toNat * 2)).off + 1, none⟩ = some (.slice A1 (rd_T29 xs i).f1.length c1) ∧ (rd_T29 xs i).f1.length ≤ c1 ∧ Kd.F (Kd.int .i64) w ok A1 (rd_T29 xs i).f1.length (rd_T29 xs i).f1 := by
 obtain ⟨ad, c, e, _, hK, hc0, _⟩ := Kd.F_get h z29 i h0 h1
 have hc : ∀ j u, c[j]? = some u → w.cell? (ad.add (i.toNat * 2 + j)) = some u := hc0
 obtain ⟨A1, c1, rfl, l1, g1⟩ := k29_openFi hK
 exact ⟨ad, A1, c1, e, hc 0 _ rfl, by rw [← add_field _ _ 1 (by omega)]; exact hc 1 _ rfl, l1, g1⟩
def impl_FindFarkas.l0 : Nat → List S29 → Int → List S89 → Option (List S89)
 | 0, _, _, _ => none
 | n + 1, l, i, out => if i < (l.length : Int) then (if 0 ≤ i then (if l.length ≤ 35184372088832 then (if out.length < 2199023255552 then (impl_FindFarkas.l0 n l (wrap64 (i + 1)) (out ++ [⟨rd_T29 l i, (List.replicate l.length 0).set i.toNat 1, 0⟩])) else none) else none) else none) else (some out)
def impl_FindFarkas.l1 : Nat → Int → Int → List S89 → Option (Option (List S89))
 | 0, _, _, _ => none
 | n + 1, m, v, l => if v < m then ((impl_without.f n l v).bind fun o => (if (o.length : Int) > 60 then (some none) else (impl_FindFarkas.l1 n m (wrap64 (v + 1)) o))) else (some (some l))
def impl_FindFarkas.l2 : Nat → Int → List S29 → Int → List Int → List S89 → Int → Option (Int × List Int × Bool)
 | 0, _, _, _, _, _, _ => none
 | n + 1, a0_0, l0_1, a1_0, l1_1, l, i => if i < (l.length : Int) then (if 0 ≤ i then (if (rd_T89 l i).f0.f0 < 0 then ((impl_CheckFarkas.f n a0_0 l0_1 a1_0 l1_1 (rd_T89 l i).f2 (rd_T89 l i).f1).bind fun b => (if b = true then (some ((rd_T89 l i).f2, (rd_T89 l i).f1, true)) else (some (0, ([] : List Int), false)))) else (impl_FindFarkas.l2 n a0_0 l0_1 a1_0 l1_1 l (wrap64 (i + 1)))) else none) else (some (0, ([] : List Int), false))
def impl_FindFarkas.j2 (n : Nat) (a0_0 : Int) (l0_1 : List S29) (a1_0 : Int) (l1_1 : List Int) (o : Option (List S89)) : Option (Int × List Int × Bool) :=
 match o with
 | none => some (0, ([] : List Int), false)
 | some l => impl_FindFarkas.l2 n a0_0 l0_1 a1_0 l1_1 l 0
def impl_FindFarkas.j1 (n : Nat) (a0_0 : Int) (l0_1 : List S29) (a1_0 : Int) (l1_1 : List Int) (t1 : Int) (t2 : List Int) : Option (Int × List Int × Bool) :=
 (impl_FindFarkas.l0 n l0_1 0 []).bind fun rows => (if rows.length < 2199023255552 ∧ l0_1.length ≤ 35184372088832 then ((impl_FindFarkas.l1 n a0_0 0 (rows ++ [⟨⟨t1, t2⟩, List.replicate l0_1.length 0, 1⟩])).bind fun o => impl_FindFarkas.j2 n a0_0 l0_1 a1_0 l1_1 o) else none)
def impl_FindFarkas.f (n : Nat) (a0_0 : Int) (l0_1 : List S29) (a1_0 : Int) (l1_1 : List Int) : Option (Int × List Int × Bool) :=
 (impl_IsValidSystem.f n a0_0 l0_1).bind fun b1 => (if b1 = true then ((impl_IsValidLin.f n a1_0 l1_1 a0_0).bind fun b2 => (if b2 = true then ((impl_ConstLin.f (-1) a0_0).bind fun t0 => (impl_AddScaled.f n t0.1 t0.2 (-1) a1_0 l1_1).bind fun t1 => (if t1.2.2 = true then (impl_FindFarkas.j1 n a0_0 l0_1 a1_0 l1_1 t1.1 t1.2.1) else (some (0, ([] : List Int), false)))) else (some (0, ([] : List Int), false)))) else (some (0, ([] : List Int), false)))
set_option maxHeartbeats 8000000 in
set_option maxRecDepth 100000 in
theorem impl_FindFarkas.calls (n : Nat) (a0_0 : Int) (A0_1 : Option Addr) (c0_1 : Nat) (l0_1 : List S29) (a1_0 : Int) (A1_1 : Option Addr) (c1_1 : Nat) (l1_1 : List Int) (r1 : Int) (r2 : List Int) (r3 : Bool) (w : World) (hr0_1 : Kd.C k29 w A0_1 l0_1.length l0_1) (hc0_1 : l0_1.length ≤ c0_1) (hr1_1 : Kd.C (Kd.int .i64) w A1_1 l1_1.length l1_1) (hc1_1 : l1_1.length ≤ c1_1) (h : impl_FindFarkas.f n a0_0 l0_1 a1_0 l1_1 = some (r1, r2, r3)) :
  Calls Try.prog 15 #[.agg #[.int .i64 a0_0, .slice A0_1 l0_1.length c0_1], .agg #[.int .i64 a1_0, .slice A1_1 l1_1.length c1_1]] w fun e w' => ∃ v0_ : Value, e = .returned (.tuple #[.agg #[.int .i64 r1, v0_], .bool r3]) ∧ Kd.R (Kd.int .i64) 3 w' w.heap.size (fun _ => True) v0_ r2 ∧ Below w.heap.size w w' := by
 have hu89 := Try.underlying89
 have hu29 := Try.underlying29
 have hu26 := Try.underlying26
 have hu33 := Try.underlying33
 unfold impl_FindFarkas.f at h
 obtain ⟨b1, A1, H⟩ := Option.bind_eq_some_iff.mp h
 have D1 := Aside0.mk A1
 have HR0 := Aside0.mk hr0_1
 have HC0 := Aside0.mk hc0_1
 have HR1 := Aside0.mk hr1_1
 have HC1 := Aside0.mk hc1_1
 have HH := Aside0.mk H
 clear hr0_1 hc0_1 hr1_1 hc1_1 h A1 H
 have HB := Aside0.mk (Below.refl w.heap.size w)
 go_enter Try.func15, Try.ntmps15
 go_upto_region 1 with (first | ((with_reducible refine gate_dst (N := 2) rfl ?_); refine box_event ?hg (N := 2) ?hd (cs := #[.int .i64 a0_0, .slice A0_1 l0_1.length c0_1]) (t := 26) ?hr ?_; (case hd => rfl); (case hg => rfl); (case hr => first | (go_simp; done) | (go_simp; rfl)); intro q2 hg_ wa hx_ hb_; have Gq2 := gw hg_ HB; replace HB := bs HB hb_; have X2 := Aside0.mk hx_; clear hg_ hx_ hb_) | ((with_reducible refine gate_dst (N := 3) rfl ?_); refine box_event ?hg (N := 3) ?hd (cs := #[.int .i64 a1_0, .slice A1_1 l1_1.length c1_1]) (t := 29) ?hr ?_; (case hd => rfl); (case hg => rfl); (case hr => first | (go_simp; done) | (go_simp; rfl)); intro q3 hg_ wb hx_ hb_; have Gq3 := gw hg_ HB; replace X2 := bb X2 hb_; replace HB := bs HB hb_; have X3 := Aside0.mk hx_; clear hg_ hx_ hb_) | ((with_reducible refine gate_dst (N := 4) rfl ?_); refine box_event ?hg (N := 4) ?hd (cs := #[.int .i64 0, .slice none 0 0]) (t := 33) ?hr ?_; (case hd => rfl); (case hg => rfl); (case hr => first | (go_simp; done) | (go_simp; rfl)); intro q4 hg_ wo hx_ hb_; have Gq4 := gw hg_ HB; replace X2 := bb X2 hb_; replace X3 := bb X3 hb_; replace HB := bs HB hb_; have X4 := Aside0.mk hx_; clear hg_ hx_ hb_))
 have HB0 := HB
 clear HB
 replace HR0 := Aside0.mk (Kd.C_below HR0.out HB0.out)
 replace HR1 := Aside0.mk (Kd.C_below HR1.out HB0.out)
 have H := HH.out
 clear HH
 obtain ⟨h20, h21⟩ := c2 X2
 obtain ⟨h30, h31⟩ := c2 X3
 by_cases hb1 : b1 = true
 ·subst hb1
  rw [if_pos rfl] at H
  obtain ⟨b2, A2, H⟩ := Option.bind_eq_some_iff.mp H
  have D2 := Aside0.mk A2
  have HH := Aside0.mk H
  clear A2 H
  have HB := Aside0.mk (Below.refl wo.heap.size wo)
  by_cases hb2 : b2 = true
  ·subst hb2
   go_wp2_with (first | (go_at_call 73; refine (impl_IsValidSystem.calls n a0_0 A0_1 c0_1 l0_1 _ _ HR0.out HC0.out D1.out).mono ?_; rintro e wp ⟨rfl, hb⟩; replace HB := bs HB hb; replace h20 := (hb.cell (World.block_lt_of_cell? _ _ h20)).trans h20; replace h30 := (hb.cell (World.block_lt_of_cell? _ _ h30)).trans h30; replace h31 := (hb.cell (World.block_lt_of_cell? _ _ h31)).trans h31; clear hb) | (go_at_call 74; refine (impl_IsValidLin.calls n a1_0 A1_1 c1_1 l1_1 a0_0 _ _ (Kd.C_below HR1.out HB.out) HC1.out D2.out).mono ?_; rintro e wq ⟨rfl, hb⟩; replace HB := bs HB hb; clear hb))
   replace X2 := Aside0.mk (blk_below X2.out HB.out)
   replace X3 := Aside0.mk (blk_below X3.out HB.out)
   replace X4 := Aside0.mk (blk_below X4.out HB.out)
   replace HR0 := Aside0.mk (Kd.C_below HR0.out HB.out)
   replace HR1 := Aside0.mk (Kd.C_below HR1.out HB.out)
   replace HB0 := Aside0.mk (HB0.out.trans (HB.out.mono HB0.out.size))
   clear HB D1 D2 h20 h21 h30 h31
   have H := HH.out
   first | rw [if_pos rfl] at H | rw [if_pos trivial] at H
   obtain ⟨⟨t0, t0'⟩, B0_, H⟩ := Option.bind_eq_some_iff.mp H
   obtain ⟨⟨t1, t1', t1b⟩, B1_, H⟩ := Option.bind_eq_some_iff.mp H
   have H0 : Aside0 (impl_ConstLin.f (-1) a0_0 = some (t0, t0')) := ⟨B0_⟩
   have H1 : Aside0 (impl_AddScaled.f n t0 t0' (-1) a1_0 l1_1 = some (t1, t1', t1b)) := ⟨B1_⟩
   have H2 := Aside0.mk H
   clear HH H B0_ B1_
   go_cut [6, 7] (fun v6 v7 wc => ∃ (g6 : Nat) (A1 : Option Addr) (c1 : Nat), v6 = .pointer (some ⟨g6, 0, none⟩) ∧ v7 = .bool t1b ∧ Aside0 (wc.heap[g6]? = some (.cells #[.int .i64 t1, .slice A1 t1'.length c1] 29 (0, 0))) ∧ Aside0 (Kd.R (Kd.int .i64) 3 wc wq.heap.size (fun _ => True) (.slice A1 t1'.length c1) t1') ∧ Aside0 (Below wq.heap.size wq wc))
   case first =>
    have HB := Aside0.mk (Below.refl wq.heap.size wq)
    have La : Aside0 (∀ g, wq.heap.size ≤ g → q2 ≠ g) := ⟨fun g h => by have := blk_lt X2.out; omega⟩
    have Lb : Aside0 (∀ g, wq.heap.size ≤ g → q3 ≠ g) := ⟨fun g h => by have := blk_lt X3.out; omega⟩
    go_region_held3 (fun w' => w'.cell? ⟨q2, 0, none⟩ = some (.int .i64 a0_0) ∧ w'.cell? ⟨q3, 0, none⟩ = some (.int .i64 a1_0) ∧ w'.cell? ⟨q3, 1, none⟩ = some (.slice A1_1 l1_1.length c1_1))
     (first | exact ⟨(blk_cell (mb X2) 0).trans rfl, (blk_cell (mb X3) 0).trans rfl, (blk_cell (mb X3) 1).trans rfl⟩ | exact ⟨(blk_cell (far2 (mb X2) (La.out _ (by first | exact HB.out.size | exact SZ.out | exact Nat.le_refl _))) 0).trans rfl, (blk_cell (far2 (mb X3) (Lb.out _ (by first | exact HB.out.size | exact SZ.out | exact Nat.le_refl _))) 0).trans rfl, (blk_cell (far2 (mb X3) (Lb.out _ (by first | exact HB.out.size | exact SZ.out | exact Nat.le_refl _))) 1).trans rfl⟩)
     (first | (go_at_call 76; refine (impl_ConstLin.calls _ _ _ _ _ H0.out).mono ?_; rintro e w1 ⟨v0, rfl, ho, hb⟩; replace X2 := bb X2 hb; replace X3 := bb X3 hb; replace HB := bs HB hb; have SZ := Aside0.mk HB.out.size; (first | have X10 := Aside0.mk (blk_below (heap_alloc_new _ _) hb) | have X10 := Aside0.mk (blk_below (blk_drew (heap_alloc_new _ _)) hb) | skip); obtain ⟨Az, cz, rfl, lz, Cz⟩ := Kd.R_reads ho; have CZ := Aside0.mk Cz; have LZ := Aside0.mk lz; clear ho hb Cz lz) | (go_at_call 75; refine (impl_AddScaled.calls n t0 Az cz t0' (-1) a1_0 A1_1 c1_1 l1_1 t1 t1' t1b _ (mc CZ.out) LZ.out (Kd.C_below HR1.out (ms HB)) HC1.out H1.out).mono ?_; rintro e w2 ⟨v1, rfl, ho, hb⟩; obtain ⟨Ay, cy, rfl⟩ := Kd.R_slice ho; have RY := Aside0.mk (Kd.R_lower (Kd.R_mono ho (fun _ _ => trivial)) (below_size (ms HB))); replace X2 := bb X2 hb; replace X3 := bb X3 hb; (first | replace X10 := bb X10 hb | have X10 := Aside0.mk (blk_below (heap_alloc_new _ _) hb) | skip); replace HB := bs HB hb;  (try (have hz0 := (blk_cell X10.out 0).trans (rfl : _ = some (Value.int .i64 0)); have hz1 := (blk_cell X10.out 1).trans (rfl : _ = some (Value.slice none 0 0)); have hf0 := blk_frozen X10.out 0; have hf1 := blk_frozen X10.out 1; (try simp only [World.drew] at hz0 hz1 hf0 hf1))); clear ho hb))
    all_goals go_wp2
    all_goals go_meet
    case rel => exact ⟨_, _, _, rfl, rfl, ⟨heap_alloc_new _ _⟩, ⟨Kd.R_alloc RY.out _⟩, ⟨below_alloc HB.out _⟩⟩
    case rel => exact ⟨_, _, _, rfl, rfl, ⟨put2 X10.out⟩, ⟨own2 RY.out X10.out (by decide)⟩, ⟨below_set (below_set HB.out SZ.out) SZ.out⟩⟩
    case rel => exact ⟨_, _, _, rfl, rfl, ⟨put2 X10.out⟩, ⟨own2 RY.out X10.out (by decide)⟩, ⟨below_set (below_set HB.out (Nat.le_refl _)) (Nat.le_refl _)⟩⟩
   case rest =>
    obtain ⟨g6, Ay, cy, rfl, rfl, X6, RY, HB⟩ := hcut
    clear H0 H1
    have H := H2.out
    clear H2
    by_cases hb3 : t1b = true
    ·subst hb3
     first | rw [if_pos rfl] at H | rw [if_pos trivial] at H
     replace X2 := Aside0.mk (blk_below X2.out HB.out)
     replace X3 := Aside0.mk (blk_below X3.out HB.out)
     replace X4 := Aside0.mk (blk_below X4.out HB.out)
     replace HR0 := Aside0.mk (Kd.C_below HR0.out HB.out)
     replace HR1 := Aside0.mk (Kd.C_below HR1.out HB.out)
     have WQ : Aside0 (w.heap.size ≤ wq.heap.size) := ⟨HB0.out.size⟩
     replace HB0 := Aside0.mk (HB0.out.trans (HB.out.mono HB0.out.size))
     clear HB
     have HF0 := Aside0.mk (Kd.C_F heap_k29 HR0.out)
     unfold impl_FindFarkas.j1 at H
     obtain ⟨rows, B1_, H⟩ := Option.bind_eq_some_iff.mp H
     have H0 := Aside0.mk B1_
     have H2 := Aside0.mk H
     clear B1_ H
     obtain ⟨h20, h21⟩ := c2 X2
     go_wp2
     go_loopg [41, 8] n (fun kq v41 v8 w' => ∃ (i : Int) (out : List S89), v41 = .int .i64 i ∧ Aside0 (impl_FindFarkas.l0 kq l0_1 i out = some rows) ∧ Aside0 (kq ≤ n) ∧ Aside0 (Kd.N (kD w.heap.size) 89 w' wc.heap.size (fun _ => True) v8 out) ∧ Aside0 (Below wc.heap.size wc w'))
     case atStart => exact ⟨0, [], rfl, H0, ⟨Nat.le_refl _⟩, ⟨Kd.N_nil _ _ _ _ _⟩, ⟨Below.refl _ _⟩⟩
     case round =>
      clear H0 h20 h21
      obtain ⟨i, out, rfl, HA, HK, HN, HB⟩ := hrel
      cases gk with
      | zero => exact absurd HA.out (by simp [impl_FindFarkas.l0])
      | succ k1 =>
       have H := HA.out
       clear HA
       simp only [impl_FindFarkas.l0] at H
       by_cases c3 : i < (l0_1.length : Int)
       ·rw [if_pos c3] at H
        by_cases c4 : 0 ≤ i
        ·rw [if_pos c4] at H
         by_cases c9 : l0_1.length ≤ 35184372088832
         ·rw [if_pos c9] at H
          by_cases c10 : out.length < 2199023255552
          ·rw [if_pos c10] at H
           have H' := Aside0.mk H
           have C9 := Aside0.mk c9
           have C10 := Aside0.mk c10
           have I0 := Aside0.mk c4
           have I1 := Aside0.mk c3
           clear H c9 c10
           obtain ⟨ad, A1, c1, rfl, hc0, hc1, hl1, hF1⟩ := at_S HF0.out i c4 c3
           have HL1 := Aside0.mk hl1
           have HF1 := Aside0.mk hF1
           clear hl1 hF1
           replace hc0 := (HB.out.cell (World.block_lt_of_cell? _ _ hc0)).trans hc0
           replace hc1 := (HB.out.cell (World.block_lt_of_cell? _ _ hc1)).trans hc1
           have HW := Aside0.mk (Below.refl wr.heap.size wr)
           have c3b : decide (i < (l0_1.length : Int)) = true := decide_eq_true c3
           replace c3 := eq_true c3
           replace c4 := eq_true c4
           go_wp2_with (first | ((with_reducible refine gate_dst (N := 10) rfl ?_); refine box_event ?hg (N := 10) ?hd (cs := #[.int .i64 0, .slice none 0 0]) (t := 29) ?hr ?_; (case hd => rfl); (case hg => rfl); (case hr => first | (go_simp; done) | (go_simp; rfl)); intro g10 hg_ w11 hx_ hb_; have G10 := gw hg_ HW; replace HW := bs HW hb_; have X10 := Aside0.mk hx_; obtain ⟨ha0, ha1⟩ := c2 X10; have hb0 := blk_frozen X10.out 0; have hb1 := blk_frozen X10.out 1; clear hg_ hx_ hb_) | ((with_reducible refine gate_store (t := 29) (p := 10) rfl ?_); refine store_event (t := 29) (p := 10) (v := ?vo_s10) (w1 := (w11.setCell ⟨g10, 0, none⟩ (.int .i64 (rd_T29 l0_1 i).f0)).setCell ⟨g10, 1, none⟩ (.slice A1 (rd_T29 l0_1 i).f1.length c1)) ?hg ?ho ?hn ?hr ?_; (case ho => rfl); (case hg => rfl); (case hn => rfl); (case hr => first | (go_simp; done) | (go_simp; rfl)); intro w12 hw; have X10' : Aside0 (w12.heap[g10]? = some (.cells #[.int .i64 (rd_T29 l0_1 i).f0, .slice A1 (rd_T29 l0_1 i).f1.length c1] 29 (0, 0))) := ⟨by rw [hw]; exact put2 X10.out⟩; have HW' : Aside0 (Below wr.heap.size wr w12) := ⟨by rw [hw]; exact below_set (below_set HW.out G10.out) G10.out⟩; have W12 := Aside0.mk HW'.out.size; clear hw X10 HW ha0 ha1 hb0 hb1; have HW := HW'; clear HW'; obtain ⟨_, h21⟩ := c2 (Aside0.mk (blk_below X2.out (HB.out.trans (HW.out.mono HB.out.size))))) | ((with_reducible refine gate_dst (N := 49) rfl ?_); refine Kd.R_make (Kd.int .i64) _ 3 rfl (N := 49) rfl 27 _ _ rfl (l0_1.length : Int) rfl rfl Try.underlying27 (.int .i64 0) 8 info3 rfl (by decide) (by omega) 0 (ok := fun k => wr.heap.size ≤ k) (okp := fun k => wr.heap.size ≤ k) rfl (fun _ hk => hk) ?mf ?m0 ?ml (Below.refl _ _) (Nat.le_refl _) ?_; (case mf => exact HW.out.size); (case m0 => exact Int.natCast_nonneg _); (case ml => have := C9.out; simp only [Int.toNat_natCast]; omega); intro v11 w13 ho hb hg hnew; simp only [Int.toNat_natCast] at ho; obtain ⟨ys, hys⟩ : ∃ ys, ys = List.replicate l0_1.length (0 : Int) := ⟨_, rfl⟩; rw [← hys] at ho; have hyl : ys.length = l0_1.length := (by rw [hys, List.length_replicate]); obtain ⟨g11, c11, rfl, gb, gl, cl_, HG⟩ := Kd.R_form ho (by have := I0.out; have := I1.out; omega); have G11 : Aside0 (wr.heap.size ≤ g11) := ⟨Nat.le_trans HW.out.size gb⟩; have NE : Aside0 (g10 ≠ g11) := ⟨by have := blk_lt X10'.out; omega⟩; replace X10' := bb X10' hb; replace HW := bs HW hb; have NY := Aside0.mk hys; have HL := Aside0.mk hyl; have RO := Aside0.mk ho; have q11 := eq_true (show i < (ys.length : Int) by have := I1.out; omega); obtain ⟨hy_, hyf_⟩ := Kd.R_celln 0 RO.out i I0.out (show i < (ys.length : Int) by have := I1.out; omega); have HP := Kd.R_putg RO.out i 1; clear ho hb hg hnew hys hyl gb gl HG) | ((with_reducible refine gate_store (t := 3) (p := 52) rfl ?_); refine store_event (t := 3) (p := 52) (v := ?vo_s11) (w1 := (w13.setCell ⟨g11, i.toNat, none⟩ (.int .i64 1))) ?hg ?ho ?hn ?hr ?_; (case ho => rfl); (case hg => rfl); (case hn => rfl); (case hr => first | (go_simp; done) | (go_simp; rfl)); intro w14 hw; have RO' : Aside0 (Kd.R (Kd.int .i64) 3 w14 w12.heap.size (fun k => wr.heap.size ≤ k) (.slice (some ⟨g11, 0, none⟩) ys.length c11) (ys.set i.toNat 1)) := ⟨by rw [hw]; exact HP.1⟩; have X10 : Aside0 (w14.heap[g10]? = some (.cells #[.int .i64 (rd_T29 l0_1 i).f0, .slice A1 (rd_T29 l0_1 i).f1.length c1] 29 (0, 0))) := ⟨by rw [hw]; exact blk_far X10'.out NE.out _⟩; have HW' : Aside0 (Below wr.heap.size wr w14) := ⟨by rw [hw]; exact below_set HW.out G11.out⟩; clear hw HP RO X10' HW hy_ hyf_; have HW := HW'; clear HW'; obtain ⟨ha0, ha1⟩ := c2 X10) | (at_builtin; refine Kd.N_append (kD w.heap.size) (w0 := wc) wc.heap.size rfl (.tmp 53) (.tmp 57) 87 89 (.agg #[.int .i64 0, .slice none 0 0, .slice none 0 0, .int .i64 0]) 64 rfl Try.underlying87 info89 rfl (by show 0 < 4; decide) (by omega) u8 out ⟨rd_T29 l0_1 i, ys.set i.toNat 1, 0⟩ [.int .i64 (rd_T29 l0_1 i).f0, .slice A1 (rd_T29 l0_1 i).f1.length c1, .slice (some ⟨g11, 0, none⟩) ys.length c11, .int .i64 0] (fun _ => True) (fun k => some k ≠ u8.ownBlock) rfl rfl ?aP (fun k hk => ⟨trivial, hk⟩) (fun _ _ => trivial) ?aO ?aB ?aS ?aL ?_; (case aP => exact kD_mkF2 ⟨rd_T29 l0_1 i, ys.set i.toNat 1, 0⟩ HL1.out (Kd.F_mono (Kd.F_below HF1.out (HB.out.trans (HW.out.mono HB.out.size))) (fun k hk e => by have := Kd.N_base HN.out k e.symm; omega)) (Kd.R_lower (Kd.R_mono RO'.out (fun k hk e => by have := Kd.N_lt HN.out k e.symm; omega)) (Nat.le_trans HB0.out.size (Nat.le_trans HB.out.size W12.out)))); (case aO => exact Kd.N_below HN.out HW.out); (case aB => exact HB.out.trans (HW.out.mono HB.out.size)); (case aS => exact Nat.le_trans HB.out.size HW.out.size); (case aL => have := C10.out; omega); intro vo' w15 ho hb hg hat; have HN' := Aside0.mk ho; have HB' := Aside0.mk hb; clear ho hb hg hat))
           go_roundg k1
           case measure => have := HK.out; omega
           case rel => exact ⟨wrap64 (i + 1), out ++ [⟨rd_T29 l0_1 i, (List.replicate l0_1.length 0).set i.toNat 1, 0⟩], (by first | rfl | (simp; done) | (simp [*]; done)), H', ⟨by have := HK.out; omega⟩, ⟨by rw [← NY.out]; exact HN'.out⟩, HB'⟩
          rw [if_neg c10] at H; cases H
         rw [if_neg c9] at H; cases H
        rw [if_neg c4] at H; cases H
       rw [if_neg c3] at H
       simp only [Option.some.injEq] at H
       subst H
       have c3b : decide (i < (l0_1.length : Int)) = false := decide_eq_false c3
       clear c3
       go_wp2
       have H := H2.out
       clear H2
       by_cases c9 : out.length < 2199023255552 ∧ l0_1.length ≤ 35184372088832
       ·rw [if_pos c9] at H
        obtain ⟨o1, B1_, H⟩ := Option.bind_eq_some_iff.mp H
        have H0 := Aside0.mk B1_
        have H2 := Aside0.mk H
        have C9 := Aside0.mk c9
        clear B1_ H c9
        have HW := Aside0.mk (Below.refl wr.heap.size wr)
        have L6 : Aside0 (g6 < wc.heap.size) := ⟨blk_lt X6.out⟩
        have X6w := Aside0.mk (blk_below X6.out HB.out)
        have X2w := Aside0.mk (blk_below X2.out HB.out)
        have RYw : Aside0 (Kd.R (Kd.int .i64) 3 wr wq.heap.size (fun k => k < wc.heap.size) (.slice Ay t1'.length cy) t1') := ⟨Kd.R_below (Kd.R_mono (Kd.R_bound RY.out) (fun k hk => hk.2.2.1)) HB.out⟩
        refine start_ (n := 10) (S := fun w' => w'.cell? ⟨g6, 0, none⟩ = some (.int .i64 t1) ∧ w'.cell? ⟨g6, 1, none⟩ = some (.slice Ay t1'.length cy) ∧ w'.cell? ⟨q2, 1, none⟩ = some (.slice A0_1 l0_1.length c0_1)) (ds := []) #[false, false, false, false, false, false, false, false, false, false] (by kernel_rfl) rfl rfl ⟨(blk_cell (mb X6w) 0).trans rfl, (blk_cell (mb X6w) 1).trans rfl, (blk_cell (mb X2w) 1).trans rfl⟩ (fun hHeld => ?_)
        refine pure_ (i := 0) (N := some 60) (v := ?_) (a' := ?_) #[true, false, false, false, false, false, false, false, false, false] rfl rfl (by kernel_rfl) (fun _ _ _ h => h) (Or.inl ⟨by rfl, ?_⟩) ?_ ?_
        rotate_left
        ·intro w'
         go_simp
         with_reducible rfl
        rotate_left
        ·simp only [Act.put, z1, z2, z3, i64_w, i32_w]
         rfl
        refine take_ (i := 1) (N := some 61) (v := ?_) (a' := ?_) #[true, true, false, false, false, false, false, false, false, false] rfl rfl (by kernel_rfl) (fun _ _ _ h => h) (Or.inl ⟨by rfl, ?_⟩) hHeld ?_ ?_
        rotate_left
        ·rintro w' ⟨s0, s1, s2⟩
         go_simp
         with_reducible rfl
        rotate_left
        ·simp only [Act.put, z1, z2, z3, i64_w, i32_w]
         rfl
        refine pure_ (i := 2) (N := some 62) (v := ?_) (a' := ?_) #[true, true, true, false, false, false, false, false, false, false] rfl rfl (by kernel_rfl) (fun _ _ _ h => h) (Or.inl ⟨by rfl, ?_⟩) ?_ ?_
        rotate_left
        ·intro w'
         go_simp
         with_reducible rfl
        rotate_left
        ·simp only [Act.put, z1, z2, z3, i64_w, i32_w]
         rfl
        refine take_ (i := 3) (N := some 63) (v := ?_) (a' := ?_) #[true, true, true, true, false, false, false, false, false, false] rfl rfl (by kernel_rfl) (fun _ _ _ h => h) (Or.inl ⟨by rfl, ?_⟩) hHeld ?_ ?_
        rotate_left
        ·rintro w' ⟨s0, s1, s2⟩
         go_simp
         with_reducible rfl
        rotate_left
        ·simp only [Act.put, z1, z2, z3, i64_w, i32_w]
         rfl
        refine pure_ (i := 4) (N := some 64) (v := ?_) (a' := ?_) #[true, true, true, true, true, false, false, false, false, false] rfl rfl (by kernel_rfl) (fun _ _ _ h => h) (Or.inl ⟨by rfl, ?_⟩) ?_ ?_
        rotate_left
        ·intro w'
         go_simp
         with_reducible rfl
        rotate_left
        ·simp only [Act.put, z1, z2, z3, i64_w, i32_w]
         rfl
        refine one_ (i := 5) (N := some 65) #[true, true, true, true, true, true, false, false, false, false] rfl rfl (by kernel_rfl) (by decide) (fun K hK => ?_)
        refine Kd.R_make_step (Kd.int .i64) _ 3 (by rfl) (N := 65) rfl 27 _ _ rfl (l0_1.length : Int) rfl rfl Try.underlying27 (.int .i64 0) 8 info3 rfl (by decide) (by omega) 0 (ok := fun k => wr.heap.size ≤ k) (okp := fun k => wr.heap.size ≤ k) rfl (fun _ hk => hk) (show wr.heap.size ≤ _ from below_size (ms HW)) (Int.natCast_nonneg _) (by have := C9.out.2; simp only [Int.toNat_natCast]; omega) (Below.refl _ _) (Nat.le_refl _) ?_
        intro v11 w13 ho hb hg hnew
        simp only [Int.toNat_natCast] at ho
        replace X6w := bb X6w hb
        replace X2w := bb X2w hb
        replace RYw := rb RYw hb
        have RO : Aside0 (Kd.R (Kd.int .i64) 3 w13 wc.heap.size (fun k => wr.heap.size ≤ k) v11 (List.replicate l0_1.length 0)) := ⟨Kd.R_lower ho (Nat.le_trans HB.out.size (below_size (ms HW)))⟩
        obtain ⟨Am, cm, em⟩ := Kd.R_slice ho
        rw [List.length_replicate] at em
        subst em
        replace HW := bs HW hb
        clear ho hb hg hnew
        refine hK.out _ _ ⟨(c2 X6w).1, (c2 X6w).2, (blk_cell X2w.out 1).trans rfl⟩ (fun hHeld => ?_)
        clear hK K
        refine norm_ (a' := ?_) ?_ ?_
        rotate_left
        ·show Act.put _ (some 65) _ = _
         simp only [Act.put, z1, z2, z3, i64_w, i32_w]
         rfl
        refine pure_ (i := 6) (N := some 66) (v := ?_) (a' := ?_) #[true, true, true, true, true, true, true, false, false, false] rfl rfl (by kernel_rfl) (fun _ _ _ h => h) (Or.inl ⟨by rfl, ?_⟩) ?_ ?_
        rotate_left
        ·intro w'
         go_simp
         with_reducible rfl
        rotate_left
        ·simp only [Act.put, z1, z2, z3, i64_w, i32_w]
         rfl
        refine one_ (i := 7) (N := some 67) #[true, true, true, true, true, true, true, true, false, false] rfl rfl (by kernel_rfl) (by decide) (fun K hK => ?_)
        refine event_step (by rfl) (v := .slice (some ⟨w13.heap.size, 0, none⟩) 1 1) (w1 := w13.alloc (.cells #[.int .i64 t1, .slice Ay t1'.length cy, .slice Am l0_1.length cm, .int .i64 1] 89)) (by first | (go_simp; done) | (go_simp; rfl)) ?_
        refine hK.out _ _ ⟨(blk_cell (mb X6w) 0).trans rfl, (blk_cell (mb X6w) 1).trans rfl, (blk_cell (mb X2w) 1).trans rfl⟩ (fun hHeld => ?_)
        clear hK K
        refine norm_ (a' := ?_) ?_ ?_
        rotate_left
        ·show Act.put _ (some 67) _ = _
         simp only [Act.put, z1, z2, z3, i64_w, i32_w]
         rfl
        refine one_ (i := 8) (N := some 68) #[true, true, true, true, true, true, true, true, true, false] rfl rfl (by kernel_rfl) (by decide) (fun K hK => ?_)
        refine Kd.N_append_step (kD w.heap.size) (w0 := wc) wc.heap.size (by rfl) (.tmp 60) (.tmp 67) 87 89 (.agg #[.int .i64 0, .slice none 0 0, .slice none 0 0, .int .i64 0]) 64 rfl Try.underlying87 info89 rfl (by show 0 < 4; decide) (by omega) u8 out ⟨⟨t1, t1'⟩, List.replicate l0_1.length 0, 1⟩ [.int .i64 t1, .slice Ay t1'.length cy, .slice Am l0_1.length cm, .int .i64 1] (fun _ => True) (fun k => some k ≠ u8.ownBlock) rfl rfl ?xP (fun k hk => ⟨trivial, hk⟩) (fun _ _ => trivial) (Kd.N_below HN.out HW.out) (HB.out.trans (HW.out.mono HB.out.size)) (Nat.le_trans HB.out.size HW.out.size) (by have := C9.out.1; omega) ?_
        case xP => exact kD_mkF2 ⟨⟨t1, t1'⟩, List.replicate l0_1.length 0, 1⟩ (Kd.R_reads' RYw.out).2.1 (Kd.R_F (Kd.R_mono RYw.out (fun k hk e => by have := Kd.N_base HN.out k e.symm; omega))) (Kd.R_lower (Kd.R_mono RO.out (fun k hk e => by have := Kd.N_lt HN.out k e.symm; omega)) HB0.out.size)
        intro vo' w15 ho hb hg hat
        have HN' := Aside0.mk ho
        have HB' := Aside0.mk hb
        replace X6w := Aside0.mk (blk_grown X6w.out hg (fun e => by have := Kd.N_base HN.out g6 e.symm; have := L6.out; omega))
        replace X2w := Aside0.mk (blk_grown X2w.out hg (fun e => by have := Kd.N_base HN.out q2 e.symm; have := blk_lt X2.out; omega))
        clear ho hb hg hat
        refine hK.out _ _ ⟨(c2 X6w).1, (c2 X6w).2, (blk_cell X2w.out 1).trans rfl⟩ (fun hHeld => ?_)
        clear hK K
        refine norm_ (a' := ?_) ?_ ?_
        rotate_left
        ·show Act.put _ (some 68) _ = _
         simp only [Act.put, z1, z2, z3, i64_w, i32_w]
         rfl
        refine pure_ (i := 9) (N := some 8) (v := ?_) (a' := ?_) #[true, true, true, true, true, true, true, true, true, true] rfl rfl (by kernel_rfl) (fun _ _ _ h => h) (Or.inl ⟨by rfl, ?_⟩) ?_ ?_
        rotate_left
        ·intro w'
         go_simp
         with_reducible rfl
        rotate_left
        ·simp only [Act.put, z1, z2, z3, i64_w, i32_w]
         rfl
        refine done_ (by kernel_rfl) ?_
        clear HN HB X6w X2w RYw RO HW RY X6
        have HN := HN'
        have HB := HB'
        clear HN' HB'
        go_upto_region 15 with (fail)
        go_wp2
        go_loopg [12, 8] n (fun kq v12 v8 w' => ∃ (v : Int) (list : List S89), v12 = .int .i64 v ∧ Aside0 (impl_FindFarkas.l1 kq a0_0 v list = some o1) ∧ Aside0 (kq ≤ n) ∧ Aside0 (Kd.N (kD w.heap.size) 89 w' wc.heap.size (fun _ => True) v8 list) ∧ Aside0 (Below wc.heap.size wc w'))
        case atStart => exact ⟨0, _, rfl, H0, ⟨Nat.le_refl _⟩, HN, HB⟩
        case round =>
         clear H0 HN HB
         obtain ⟨v, list, rfl, HA, HK, HN, HB⟩ := hrel
         obtain ⟨Al, cl, el⟩ := Kd.N_slice HN.out
         subst el
         cases gk with
         | zero => exact absurd HA.out (by simp [impl_FindFarkas.l1])
         | succ k1 =>
          have H := HA.out
          clear HA
          simp only [impl_FindFarkas.l1] at H
          obtain ⟨h20, h21⟩ := c2 (Aside0.mk (blk_below X2.out HB.out))
          by_cases c3 : v < a0_0
          ·rw [if_pos c3] at H
           obtain ⟨o, B3_, H⟩ := Option.bind_eq_some_iff.mp H
           have H3 := Aside0.mk B3_
           clear B3_
           have c3b := decide_eq_true c3
           by_cases c4 : (o.length : Int) > 60
           ·rw [if_pos c4] at H
            simp only [Option.some.injEq] at H
            subst H
            have H := H2.out
            simp only [impl_FindFarkas.j2] at H
            simp only [Option.some.injEq, Prod.mk.injEq] at H
            obtain ⟨rfl, rfl, rfl⟩ := H
            have c4b := decide_eq_true c4
            go_upto_region 20 with (go_at_call 77; refine (impl_without.calls k1 w.heap.size Al cl list v o _ (Nat.le_trans HB0.out.size HB.out.size) (Kd.F_mono (Kd.F_bound (Kd.N_F HN.out)) (fun k hk => hk.2)) (Kd.N_reads' HN.out).2.1 H3.out).mono ?_; rintro e w16 ⟨v16, rfl, ho, hb⟩; obtain ⟨Ao, co, rfl⟩ := Kd.N_slice ho; have HN' := Aside0.mk (Kd.N_lower ho HB.out.size); have HB' := Aside0.mk (HB.out.trans (hb.mono HB.out.size)); clear ho hb)
            obtain ⟨hz0, hz1⟩ := c2 (Aside0.mk (blk_below X4.out HB'.out))
            have hzf0 := blk_frozen (blk_below X4.out HB'.out) 0
            have hzf1 := blk_frozen (blk_below X4.out HB'.out) 1
            go_wp2_with ((with_reducible refine gate_store (t := 33) (p := 4) rfl ?_); refine store_event (t := 33) (p := 4) (v := ?vo_z73) (w1 := (w16.setCell ⟨q4, 0, none⟩ (.int .i64 0)).setCell ⟨q4, 1, none⟩ (.slice none 0 0)) ?hg ?ho ?hn ?hr ?_; (case ho => rfl); (case hg => rfl); (case hn => rfl); (case hr => first | (go_simp; done) | (go_simp; rfl)); intro w9 hw; have X4' : Aside0 (w9.heap[q4]? = some (.cells #[.int .i64 0, .slice none 0 0] 33 (0, 0))) := ⟨by rw [hw]; exact put2 (blk_below X4.out HB'.out)⟩; have HB' : Aside0 (Below w.heap.size w w9) := ⟨by rw [hw]; exact below_set (below_set (HB0.out.trans (HB'.out.mono HB0.out.size)) Gq4.out) Gq4.out⟩; clear hw)
            refine bodyPost_ret (results_ct rfl _ _ q4 33 #[.int .i64 0, .slice none 0 0] (0, 0) _ rfl X4'.out Try.underlying33 rfl (by kernel_rfl)) rfl ?_
            exact ⟨_, rfl, Kd.R_nil _ _ _ _ _, HB'.out⟩
           rw [if_neg c4] at H
           have H' := Aside0.mk H
           clear H
           have c4b := decide_eq_false c4
           go_wp2_with (go_at_call 77; refine (impl_without.calls k1 w.heap.size Al cl list v o _ (Nat.le_trans HB0.out.size HB.out.size) (Kd.F_mono (Kd.F_bound (Kd.N_F HN.out)) (fun k hk => hk.2)) (Kd.N_reads' HN.out).2.1 H3.out).mono ?_; rintro e w16 ⟨v16, rfl, ho, hb⟩; obtain ⟨Ao, co, rfl⟩ := Kd.N_slice ho; have HN' := Aside0.mk (Kd.N_lower ho HB.out.size); have HB' := Aside0.mk (HB.out.trans (hb.mono HB.out.size)); clear ho hb)
           go_roundg k1
           case measure => have := HK.out; omega
           case rel => exact ⟨wrap64 (v + 1), o, (by first | rfl | (simp; done) | (simp [*]; done)), H', ⟨by have := HK.out; omega⟩, HN', HB'⟩
          rw [if_neg c3] at H
          simp only [Option.some.injEq] at H
          subst H
          have H2 : Aside0 (impl_FindFarkas.l2 n a0_0 l0_1 a1_0 l1_1 list 0 = some (r1, r2, r3)) := ⟨H2.out⟩
          have c3b := decide_eq_false c3
          clear c3
          go_wp2
          go_loopg [84] n (fun kq v84 w' => ∃ (i : Int), v84 = .int .i64 i ∧ Aside0 (impl_FindFarkas.l2 kq a0_0 l0_1 a1_0 l1_1 list i = some (r1, r2, r3)) ∧ Aside0 (kq ≤ n) ∧ Aside0 (Kd.N (kD w.heap.size) 89 w' wc.heap.size (fun _ => True) (.slice Al list.length cl) list) ∧ Aside0 (Below wc.heap.size wc w'))
          case atStart => exact ⟨0, rfl, H2, ⟨Nat.le_refl _⟩, HN, HB⟩
          case round =>
           clear H2 HN HB
           obtain ⟨i, rfl, HA, HK, HN, HB⟩ := hrel
           cases gk with
           | zero => exact absurd HA.out (by simp [impl_FindFarkas.l2])
           | succ k1 =>
            have H := HA.out
            clear HA
            simp only [impl_FindFarkas.l2] at H
            by_cases c3 : i < (list.length : Int)
            ·rw [if_pos c3] at H
             by_cases c4 : 0 ≤ i
             ·rw [if_pos c4] at H
              obtain ⟨ad, A1, c1, A2, m2, rfl, hc0, hc1, hc2, hc3, hl1, hC, hR, hK⟩ := at_D (Kd.F_mono (Kd.F_bound (Kd.N_F HN.out)) (fun k hk => hk.2)) i c4 c3
              have HRM := Aside0.mk hR
              have HW := Aside0.mk (Below.refl wr.heap.size wr)
              clear hl1 hC hR hK
              have c3b : decide (i < (list.length : Int)) = true := decide_eq_true c3
              replace c3 := eq_true c3
              replace c4 := eq_true c4
              by_cases c7 : (rd_T89 list i).f0.f0 < 0
              ·rw [if_pos c7] at H
               obtain ⟨bq, B5_, H⟩ := Option.bind_eq_some_iff.mp H
               have H5 := Aside0.mk B5_
               clear B5_
               have c7b := decide_eq_true c7
               by_cases cb : bq = true
               ·subst cb
                rw [if_pos rfl] at H
                simp only [Option.some.injEq, Prod.mk.injEq] at H
                obtain ⟨rfl, rfl, rfl⟩ := H
                go_upto_region 28 with (first | ((with_reducible refine gate_dst (N := 14) rfl ?_); refine box_event ?hg (N := 14) ?hd (cs := #[.int .i64 0, .slice none 0 0, .slice none 0 0, .int .i64 0]) (t := 89) ?hr ?_; (case hd => rfl); (case hg => rfl); (case hr => first | (go_simp; done) | (go_simp; rfl)); intro g14 hg_ w21 hx_ hb_; have G14 := gw hg_ HW; replace HW := bs HW hb_; have X14 := Aside0.mk hx_; obtain ⟨ha0, ha1, ha2, ha3⟩ := cl4 X14; obtain ⟨hb0, hb1, hb2, hb3⟩ := fz4 X14; clear hg_ hx_ hb_) | ((with_reducible refine gate_store (t := 89) (p := 14) rfl ?_); refine store_event (t := 89) (p := 14) (v := ?vo_q1) (w1 := set4 w21 g14 (.int .i64 (rd_T89 list i).f0.f0) (.slice A1 (rd_T89 list i).f0.f1.length c1) (.slice A2 (rd_T89 list i).f1.length m2) (.int .i64 (rd_T89 list i).f2)) ?hg ?ho ?hn ?hr ?_; (case ho => rfl); (case hg => rfl); (case hn => rfl); (case hr => first | (go_simp; done) | (go_simp; rfl)); intro w22 hw; have X14' : Aside0 (w22.heap[g14]? = some (.cells #[.int .i64 (rd_T89 list i).f0.f0, .slice A1 (rd_T89 list i).f0.f1.length c1, .slice A2 (rd_T89 list i).f1.length m2, .int .i64 (rd_T89 list i).f2] 89 (0, 0))) := ⟨by rw [hw]; exact put4 X14.out⟩; have HW' : Aside0 (Below wr.heap.size wr w22) := ⟨by rw [hw]; exact below4 HW.out G14.out⟩; clear hw X14 HW ha0 ha1 ha2 ha3 hb0 hb1 hb2 hb3; have HW := HW'; clear HW'; obtain ⟨ha0, ha1, ha2, ha3⟩ := cl4 X14') | ((with_reducible refine gate_dst (N := 15) rfl ?_); refine box_event ?hg (N := 15) ?hd (cs := #[.int .i64 0, .slice none 0 0]) (t := 33) ?hr ?_; (case hd => rfl); (case hg => rfl); (case hr => first | (go_simp; done) | (go_simp; rfl)); intro g15 hg_ w23 hx_ hb_; have G15 := gw hg_ HW; replace HW := bs HW hb_; have X15 := Aside0.mk hx_; obtain ⟨hp0, hp1⟩ := c2 X15; have hpf0 := blk_frozen X15.out 0; have hpf1 := blk_frozen X15.out 1; clear hg_ hx_ hb_) | ((with_reducible refine gate_store (t := 33) (p := 15) rfl ?_); refine store_event (t := 33) (p := 15) (v := ?vo_s15) (w1 := (w23.setCell ⟨g15, 0, none⟩ (.int .i64 (rd_T89 list i).f2)).setCell ⟨g15, 1, none⟩ (.slice A2 (rd_T89 list i).f1.length m2)) ?hg ?ho ?hn ?hr ?_; (case ho => rfl); (case hg => rfl); (case hn => rfl); (case hr => first | (go_simp; done) | (go_simp; rfl)); intro w24 hw; have X15' : Aside0 (w24.heap[g15]? = some (.cells #[.int .i64 (rd_T89 list i).f2, .slice A2 (rd_T89 list i).f1.length m2] 33 (0, 0))) := ⟨by rw [hw]; exact put2 X15.out⟩; have HW' : Aside0 (Below wr.heap.size wr w24) := ⟨by rw [hw]; exact below_set (below_set HW.out G15.out) G15.out⟩; clear hw X15 HW hp0 hp1 hpf0 hpf1; have HW := HW'; clear HW'; obtain ⟨hp0, hp1⟩ := c2 X15'; have HBW := Aside0.mk (HB.out.trans (HW.out.mono HB.out.size)); obtain ⟨h20, h21⟩ := c2 (Aside0.mk (blk_below X2.out HBW.out)); obtain ⟨h30, h31⟩ := c2 (Aside0.mk (blk_below X3.out HBW.out))) | (go_at_call 78; refine (impl_CheckFarkas.calls k1 a0_0 _ c0_1 l0_1 a1_0 A1_1 c1_1 l1_1 (rd_T89 list i).f2 A2 m2 (rd_T89 list i).f1 _ _ (Kd.C_below HR0.out HBW.out) HC0.out (Kd.C_below HR1.out HBW.out) HC1.out (Kd.C_below (Kd.R_reads' HRM.out).2.2 HW.out) (Kd.R_reads' HRM.out).2.1 H5.out).mono ?_; rintro e w25 ⟨rfl, hb⟩; replace HBW := bs HBW hb; replace HW := bs HW hb; obtain ⟨hp0, hp1⟩ := c2 (Aside0.mk (blk_below X15'.out hb)); clear hb))
                obtain ⟨hz0, hz1⟩ := c2 (Aside0.mk (blk_below X4.out HBW.out))
                have hzf0 := blk_frozen (blk_below X4.out HBW.out) 0
                have hzf1 := blk_frozen (blk_below X4.out HBW.out) 1
                go_wp2_with ((with_reducible refine gate_store (t := 33) (p := 4) rfl ?_); refine store_event (t := 33) (p := 4) (v := ?vo_ret) (w1 := (w25.setCell ⟨q4, 0, none⟩ (.int .i64 (rd_T89 list i).f2)).setCell ⟨q4, 1, none⟩ (.slice A2 (rd_T89 list i).f1.length m2)) ?hg ?ho ?hn ?hr ?_; (case ho => rfl); (case hg => rfl); (case hn => rfl); (case hr => first | (go_simp; done) | (go_simp; rfl)); intro w9 hw; have X4' : Aside0 (w9.heap[q4]? = some (.cells #[.int .i64 (rd_T89 list i).f2, .slice A2 (rd_T89 list i).f1.length m2] 33 (0, 0))) := ⟨by rw [hw]; exact put2 (blk_below X4.out HBW.out)⟩; have RR : Aside0 (Kd.R (Kd.int .i64) 3 w9 w.heap.size (fun _ => True) (.slice A2 (rd_T89 list i).f1.length m2) (rd_T89 list i).f1) := ⟨by rw [hw]; exact own2 (Kd.R_below HRM.out HW.out) (blk_below X4.out HBW.out) (by decide)⟩; have HB' : Aside0 (Below w.heap.size w w9) := ⟨by rw [hw]; exact below_set (below_set (HB0.out.trans (HBW.out.mono HB0.out.size)) Gq4.out) Gq4.out⟩; clear hw)
                refine bodyPost_ret (results_ct rfl _ _ q4 33 #[.int .i64 (rd_T89 list i).f2, .slice A2 (rd_T89 list i).f1.length m2] (0, 0) _ rfl X4'.out Try.underlying33 rfl (by kernel_rfl)) rfl ?_
                exact ⟨_, rfl, RR.out, HB'.out⟩
               have cb' : bq = false := by cases bq with | true => exact absurd rfl cb | false => rfl
               subst cb'
               simp only [Bool.false_eq_true, if_false] at H
               simp only [Option.some.injEq, Prod.mk.injEq] at H
               obtain ⟨rfl, rfl, rfl⟩ := H
               go_upto_region 27 with (first | ((with_reducible refine gate_dst (N := 14) rfl ?_); refine box_event ?hg (N := 14) ?hd (cs := #[.int .i64 0, .slice none 0 0, .slice none 0 0, .int .i64 0]) (t := 89) ?hr ?_; (case hd => rfl); (case hg => rfl); (case hr => first | (go_simp; done) | (go_simp; rfl)); intro g14 hg_ w21 hx_ hb_; have G14 := gw hg_ HW; replace HW := bs HW hb_; have X14 := Aside0.mk hx_; obtain ⟨ha0, ha1, ha2, ha3⟩ := cl4 X14; obtain ⟨hb0, hb1, hb2, hb3⟩ := fz4 X14; clear hg_ hx_ hb_) | ((with_reducible refine gate_store (t := 89) (p := 14) rfl ?_); refine store_event (t := 89) (p := 14) (v := ?vo_q3) (w1 := set4 w21 g14 (.int .i64 (rd_T89 list i).f0.f0) (.slice A1 (rd_T89 list i).f0.f1.length c1) (.slice A2 (rd_T89 list i).f1.length m2) (.int .i64 (rd_T89 list i).f2)) ?hg ?ho ?hn ?hr ?_; (case ho => rfl); (case hg => rfl); (case hn => rfl); (case hr => first | (go_simp; done) | (go_simp; rfl)); intro w22 hw; have X14' : Aside0 (w22.heap[g14]? = some (.cells #[.int .i64 (rd_T89 list i).f0.f0, .slice A1 (rd_T89 list i).f0.f1.length c1, .slice A2 (rd_T89 list i).f1.length m2, .int .i64 (rd_T89 list i).f2] 89 (0, 0))) := ⟨by rw [hw]; exact put4 X14.out⟩; have HW' : Aside0 (Below wr.heap.size wr w22) := ⟨by rw [hw]; exact below4 HW.out G14.out⟩; clear hw X14 HW ha0 ha1 ha2 ha3 hb0 hb1 hb2 hb3; have HW := HW'; clear HW'; obtain ⟨ha0, ha1, ha2, ha3⟩ := cl4 X14') | ((with_reducible refine gate_dst (N := 15) rfl ?_); refine box_event ?hg (N := 15) ?hd (cs := #[.int .i64 0, .slice none 0 0]) (t := 33) ?hr ?_; (case hd => rfl); (case hg => rfl); (case hr => first | (go_simp; done) | (go_simp; rfl)); intro g15 hg_ w23 hx_ hb_; have G15 := gw hg_ HW; replace HW := bs HW hb_; have X15 := Aside0.mk hx_; obtain ⟨hp0, hp1⟩ := c2 X15; have hpf0 := blk_frozen X15.out 0; have hpf1 := blk_frozen X15.out 1; clear hg_ hx_ hb_) | ((with_reducible refine gate_store (t := 33) (p := 15) rfl ?_); refine store_event (t := 33) (p := 15) (v := ?vo_s15b) (w1 := (w23.setCell ⟨g15, 0, none⟩ (.int .i64 (rd_T89 list i).f2)).setCell ⟨g15, 1, none⟩ (.slice A2 (rd_T89 list i).f1.length m2)) ?hg ?ho ?hn ?hr ?_; (case ho => rfl); (case hg => rfl); (case hn => rfl); (case hr => first | (go_simp; done) | (go_simp; rfl)); intro w24 hw; have X15' : Aside0 (w24.heap[g15]? = some (.cells #[.int .i64 (rd_T89 list i).f2, .slice A2 (rd_T89 list i).f1.length m2] 33 (0, 0))) := ⟨by rw [hw]; exact put2 X15.out⟩; have HW' : Aside0 (Below wr.heap.size wr w24) := ⟨by rw [hw]; exact below_set (below_set HW.out G15.out) G15.out⟩; clear hw X15 HW hp0 hp1 hpf0 hpf1; have HW := HW'; clear HW'; obtain ⟨hp0, hp1⟩ := c2 X15'; have HBW := Aside0.mk (HB.out.trans (HW.out.mono HB.out.size)); obtain ⟨h20, h21⟩ := c2 (Aside0.mk (blk_below X2.out HBW.out)); obtain ⟨h30, h31⟩ := c2 (Aside0.mk (blk_below X3.out HBW.out))) | (go_at_call 78; refine (impl_CheckFarkas.calls k1 a0_0 _ c0_1 l0_1 a1_0 A1_1 c1_1 l1_1 (rd_T89 list i).f2 A2 m2 (rd_T89 list i).f1 _ _ (Kd.C_below HR0.out HBW.out) HC0.out (Kd.C_below HR1.out HBW.out) HC1.out (Kd.C_below (Kd.R_reads' HRM.out).2.2 HW.out) (Kd.R_reads' HRM.out).2.1 H5.out).mono ?_; rintro e w25 ⟨rfl, hb⟩; replace HBW := bs HBW hb; replace HW := bs HW hb; obtain ⟨hp0, hp1⟩ := c2 (Aside0.mk (blk_below X15'.out hb)); clear hb))
               obtain ⟨hz0, hz1⟩ := c2 (Aside0.mk (blk_below X4.out HBW.out))
               have hzf0 := blk_frozen (blk_below X4.out HBW.out) 0
               have hzf1 := blk_frozen (blk_below X4.out HBW.out) 1
               go_wp2_with ((with_reducible refine gate_store (t := 33) (p := 4) rfl ?_); refine store_event (t := 33) (p := 4) (v := ?vo_z71) (w1 := (w25.setCell ⟨q4, 0, none⟩ (.int .i64 0)).setCell ⟨q4, 1, none⟩ (.slice none 0 0)) ?hg ?ho ?hn ?hr ?_; (case ho => rfl); (case hg => rfl); (case hn => rfl); (case hr => first | (go_simp; done) | (go_simp; rfl)); intro w9 hw; have X4' : Aside0 (w9.heap[q4]? = some (.cells #[.int .i64 0, .slice none 0 0] 33 (0, 0))) := ⟨by rw [hw]; exact put2 (blk_below X4.out HBW.out)⟩; have HB' : Aside0 (Below w.heap.size w w9) := ⟨by rw [hw]; exact below_set (below_set (HB0.out.trans (HBW.out.mono HB0.out.size)) Gq4.out) Gq4.out⟩; clear hw)
               refine bodyPost_ret (results_ct rfl _ _ q4 33 #[.int .i64 0, .slice none 0 0] (0, 0) _ rfl X4'.out Try.underlying33 rfl (by kernel_rfl)) rfl ?_
               exact ⟨_, rfl, Kd.R_nil _ _ _ _ _, HB'.out⟩
              rw [if_neg c7] at H
              have H' := Aside0.mk H
              clear H
              have c7b := decide_eq_false c7
              go_wp2_with (first | ((with_reducible refine gate_dst (N := 14) rfl ?_); refine box_event ?hg (N := 14) ?hd (cs := #[.int .i64 0, .slice none 0 0, .slice none 0 0, .int .i64 0]) (t := 89) ?hr ?_; (case hd => rfl); (case hg => rfl); (case hr => first | (go_simp; done) | (go_simp; rfl)); intro g14 hg_ w21 hx_ hb_; have G14 := gw hg_ HW; replace HW := bs HW hb_; have X14 := Aside0.mk hx_; obtain ⟨ha0, ha1, ha2, ha3⟩ := cl4 X14; obtain ⟨hb0, hb1, hb2, hb3⟩ := fz4 X14; clear hg_ hx_ hb_) | ((with_reducible refine gate_store (t := 89) (p := 14) rfl ?_); refine store_event (t := 89) (p := 14) (v := ?vo_q2) (w1 := set4 w21 g14 (.int .i64 (rd_T89 list i).f0.f0) (.slice A1 (rd_T89 list i).f0.f1.length c1) (.slice A2 (rd_T89 list i).f1.length m2) (.int .i64 (rd_T89 list i).f2)) ?hg ?ho ?hn ?hr ?_; (case ho => rfl); (case hg => rfl); (case hn => rfl); (case hr => first | (go_simp; done) | (go_simp; rfl)); intro w22 hw; have X14' : Aside0 (w22.heap[g14]? = some (.cells #[.int .i64 (rd_T89 list i).f0.f0, .slice A1 (rd_T89 list i).f0.f1.length c1, .slice A2 (rd_T89 list i).f1.length m2, .int .i64 (rd_T89 list i).f2] 89 (0, 0))) := ⟨by rw [hw]; exact put4 X14.out⟩; have HW' : Aside0 (Below wr.heap.size wr w22) := ⟨by rw [hw]; exact below4 HW.out G14.out⟩; clear hw X14 HW ha0 ha1 ha2 ha3 hb0 hb1 hb2 hb3; have HW := HW'; clear HW'; obtain ⟨ha0, ha1, ha2, ha3⟩ := cl4 X14'))
              go_roundg k1
              case measure => have := HK.out; omega
              case rel => exact ⟨wrap64 (i + 1), (by first | rfl | (simp; done) | (simp [*]; done)), H', ⟨by have := HK.out; omega⟩, ⟨Kd.N_below HN.out HW.out⟩, ⟨HB.out.trans (HW.out.mono HB.out.size)⟩⟩
             rw [if_neg c4] at H; cases H
            rw [if_neg c3] at H
            simp only [Option.some.injEq, Prod.mk.injEq] at H
            obtain ⟨rfl, rfl, rfl⟩ := H
            have c3b : decide (i < (list.length : Int)) = false := decide_eq_false c3
            clear c3
            obtain ⟨hz0, hz1⟩ := c2 (Aside0.mk (blk_below X4.out HB.out))
            have hzf0 := blk_frozen (blk_below X4.out HB.out) 0
            have hzf1 := blk_frozen (blk_below X4.out HB.out) 1
            go_wp2_with ((with_reducible refine gate_store (t := 33) (p := 4) rfl ?_); refine store_event (t := 33) (p := 4) (v := ?vo_z72) (w1 := (wr.setCell ⟨q4, 0, none⟩ (.int .i64 0)).setCell ⟨q4, 1, none⟩ (.slice none 0 0)) ?hg ?ho ?hn ?hr ?_; (case ho => rfl); (case hg => rfl); (case hn => rfl); (case hr => first | (go_simp; done) | (go_simp; rfl)); intro w9 hw; have X4' : Aside0 (w9.heap[q4]? = some (.cells #[.int .i64 0, .slice none 0 0] 33 (0, 0))) := ⟨by rw [hw]; exact put2 (blk_below X4.out HB.out)⟩; have HB' : Aside0 (Below w.heap.size w w9) := ⟨by rw [hw]; exact below_set (below_set (HB0.out.trans (HB.out.mono HB0.out.size)) Gq4.out) Gq4.out⟩; clear hw)
            refine bodyPost_ret (results_ct rfl _ _ q4 33 #[.int .i64 0, .slice none 0 0] (0, 0) _ rfl X4'.out Try.underlying33 rfl (by kernel_rfl)) rfl ?_
            exact ⟨_, rfl, Kd.R_nil _ _ _ _ _, HB'.out⟩
       rw [if_neg c9] at H; cases H
    have hb3' : t1b = false := by cases t1b with | true => exact absurd rfl hb3 | false => rfl
    subst hb3'
    simp only [Bool.false_eq_true, if_false] at H
    simp only [Option.some.injEq, Prod.mk.injEq] at H
    obtain ⟨rfl, rfl, rfl⟩ := H
    obtain ⟨hz0, hz1⟩ := c2 (Aside0.mk (blk_below X4.out HB.out))
    have hzf0 := blk_frozen (blk_below X4.out HB.out) 0
    have hzf1 := blk_frozen (blk_below X4.out HB.out) 1
    go_wp2_with ((with_reducible refine gate_store (t := 33) (p := 4) rfl ?_); refine store_event (t := 33) (p := 4) (v := ?vo_z51) (w1 := (wc.setCell ⟨q4, 0, none⟩ (.int .i64 0)).setCell ⟨q4, 1, none⟩ (.slice none 0 0)) ?hg ?ho ?hn ?hr ?_; (case ho => rfl); (case hg => rfl); (case hn => rfl); (case hr => first | (go_simp; done) | (go_simp; rfl)); intro w9 hw; have X4' : Aside0 (w9.heap[q4]? = some (.cells #[.int .i64 0, .slice none 0 0] 33 (0, 0))) := ⟨by rw [hw]; exact put2 (blk_below X4.out HB.out)⟩; have HB' : Aside0 (Below w.heap.size w w9) := ⟨by rw [hw]; exact below_set (below_set (HB0.out.trans (HB.out.mono HB0.out.size)) Gq4.out) Gq4.out⟩; clear hw)
    refine bodyPost_ret (results_ct rfl _ _ q4 33 #[.int .i64 0, .slice none 0 0] (0, 0) _ rfl X4'.out Try.underlying33 rfl (by kernel_rfl)) rfl ?_
    exact ⟨_, rfl, Kd.R_nil _ _ _ _ _, HB'.out⟩
  have hb2' : b2 = false := by cases b2 with | true => exact absurd rfl hb2 | false => rfl
  subst hb2'
  have H := HH.out
  rw [if_neg (by decide)] at H
  simp only [Option.some.injEq, Prod.mk.injEq] at H
  obtain ⟨rfl, rfl, rfl⟩ := H
  clear HH
  go_upto_region 2 with (first | (go_at_call 73; refine (impl_IsValidSystem.calls n a0_0 A0_1 c0_1 l0_1 _ _ HR0.out HC0.out D1.out).mono ?_; rintro e wp ⟨rfl, hb⟩; replace HB := bs HB hb; replace h20 := (hb.cell (World.block_lt_of_cell? _ _ h20)).trans h20; replace h30 := (hb.cell (World.block_lt_of_cell? _ _ h30)).trans h30; replace h31 := (hb.cell (World.block_lt_of_cell? _ _ h31)).trans h31; clear hb) | (go_at_call 74; refine (impl_IsValidLin.calls n a1_0 A1_1 c1_1 l1_1 a0_0 _ _ (Kd.C_below HR1.out HB.out) HC1.out D2.out).mono ?_; rintro e wq ⟨rfl, hb⟩; replace HB := bs HB hb; clear hb))
  obtain ⟨hz0, hz1⟩ := c2 (Aside0.mk (blk_below X4.out HB.out))
  have hzf0 := blk_frozen (blk_below X4.out HB.out) 0
  have hzf1 := blk_frozen (blk_below X4.out HB.out) 1
  go_wp2_with ((with_reducible refine gate_store (t := 33) (p := 4) rfl ?_); refine store_event (t := 33) (p := 4) (v := ?vo_z1) (w1 := (wq.setCell ⟨q4, 0, none⟩ (.int .i64 0)).setCell ⟨q4, 1, none⟩ (.slice none 0 0)) ?hg ?ho ?hn ?hr ?_; (case ho => rfl); (case hg => rfl); (case hn => rfl); (case hr => first | (go_simp; done) | (go_simp; rfl)); intro w9 hw; have X4' : Aside0 (w9.heap[q4]? = some (.cells #[.int .i64 0, .slice none 0 0] 33 (0, 0))) := ⟨by rw [hw]; exact put2 (blk_below X4.out HB.out)⟩; have HB' : Aside0 (Below w.heap.size w w9) := ⟨by rw [hw]; exact below_set (below_set (HB0.out.trans (HB.out.mono HB0.out.size)) Gq4.out) Gq4.out⟩; clear hw)
  refine bodyPost_ret (results_ct rfl _ _ q4 33 #[.int .i64 0, .slice none 0 0] (0, 0) _ rfl X4'.out Try.underlying33 rfl (by kernel_rfl)) rfl ?_
  exact ⟨_, rfl, Kd.R_nil _ _ _ _ _, HB'.out⟩
 have hb1' : b1 = false := by cases b1 with | true => exact absurd rfl hb1 | false => rfl
 subst hb1'
 rw [if_neg (by decide)] at H
 simp only [Option.some.injEq, Prod.mk.injEq] at H
 obtain ⟨rfl, rfl, rfl⟩ := H
 have HB := Aside0.mk (Below.refl wo.heap.size wo)
 go_upto_region 2 with (go_at_call 73; refine (impl_IsValidSystem.calls n a0_0 A0_1 c0_1 l0_1 _ _ HR0.out HC0.out D1.out).mono ?_; rintro e wp ⟨rfl, hb⟩; replace HB := bs HB hb; replace h20 := (hb.cell (World.block_lt_of_cell? _ _ h20)).trans h20; replace h30 := (hb.cell (World.block_lt_of_cell? _ _ h30)).trans h30; replace h31 := (hb.cell (World.block_lt_of_cell? _ _ h31)).trans h31; clear hb)
 obtain ⟨hz0, hz1⟩ := c2 (Aside0.mk (blk_below X4.out HB.out))
 have hzf0 := blk_frozen (blk_below X4.out HB.out) 0
 have hzf1 := blk_frozen (blk_below X4.out HB.out) 1
 go_wp2_with ((with_reducible refine gate_store (t := 33) (p := 4) rfl ?_); refine store_event (t := 33) (p := 4) (v := ?vo_z2) (w1 := (wp.setCell ⟨q4, 0, none⟩ (.int .i64 0)).setCell ⟨q4, 1, none⟩ (.slice none 0 0)) ?hg ?ho ?hn ?hr ?_; (case ho => rfl); (case hg => rfl); (case hn => rfl); (case hr => first | (go_simp; done) | (go_simp; rfl)); intro w9 hw; have X4' : Aside0 (w9.heap[q4]? = some (.cells #[.int .i64 0, .slice none 0 0] 33 (0, 0))) := ⟨by rw [hw]; exact put2 (blk_below X4.out HB.out)⟩; have HB' : Aside0 (Below w.heap.size w w9) := ⟨by rw [hw]; exact below_set (below_set (HB0.out.trans (HB.out.mono HB0.out.size)) Gq4.out) Gq4.out⟩; clear hw)
 refine bodyPost_ret (results_ct rfl _ _ q4 33 #[.int .i64 0, .slice none 0 0] (0, 0) _ rfl X4'.out Try.underlying33 rfl (by kernel_rfl)) rfl ?_
 exact ⟨_, rfl, Kd.R_nil _ _ _ _ _, HB'.out⟩
theorem impl_FindFarkas.l0_mono : ∀ k a b c, LeO (impl_FindFarkas.l0 k a b c) (impl_FindFarkas.l0 (k + 1) a b c) := by
 intro k
 induction k with
 | zero => intros; exact LeO.none _
 | succ k ih =>
  intro a b c
  rw [impl_FindFarkas.l0, impl_FindFarkas.l0]
  repeat' first | exact LeO.refl _ | exact ih _ _ _ | apply LeO.ite | refine LeO.bind ?_ (fun _ => ?_)
theorem impl_FindFarkas.l1_mono : ∀ k a b c, LeO (impl_FindFarkas.l1 k a b c) (impl_FindFarkas.l1 (k + 1) a b c) := by
 intro k
 induction k with
 | zero => intros; exact LeO.none _
 | succ k ih =>
  intro a b c
  rw [impl_FindFarkas.l1, impl_FindFarkas.l1]
  repeat' first | exact LeO.refl _ | exact ih _ _ _ | exact impl_without.mono _ _ _ | apply LeO.ite | refine LeO.bind ?_ (fun _ => ?_)
theorem impl_FindFarkas.l2_mono : ∀ k a b c d e f, LeO (impl_FindFarkas.l2 k a b c d e f) (impl_FindFarkas.l2 (k + 1) a b c d e f) := by
 intro k
 induction k with
 | zero => intros; exact LeO.none _
 | succ k ih =>
  intro a b c d e f
  rw [impl_FindFarkas.l2, impl_FindFarkas.l2]
  repeat' first | exact LeO.refl _ | exact ih _ _ _ _ _ _ | exact impl_CheckFarkas.mono _ _ _ _ _ _ _ | apply LeO.ite | refine LeO.bind ?_ (fun _ => ?_)
theorem impl_FindFarkas.mono : ∀ a b c d k, LeO (impl_FindFarkas.f k a b c d) (impl_FindFarkas.f (k + 1) a b c d) := by
 intro a b c d k
 unfold impl_FindFarkas.f impl_FindFarkas.j1
 repeat' first | exact LeO.refl _ | exact impl_IsValidSystem.mono _ _ _ | exact impl_IsValidLin.mono _ _ _ _ | exact impl_AddScaled.mono _ _ _ _ _ _ | exact impl_FindFarkas.l0_mono _ _ _ _ | exact impl_FindFarkas.l1_mono _ _ _ _ | apply LeO.ite | refine LeO.bind ?_ (fun o => ?_)
 cases o with
 | none => exact LeO.refl _
 | some l => exact impl_FindFarkas.l2_mono _ _ _ _ _ _ _

/-! ### spec_IsConstant: function 86 -/
def spec_IsConstant.l0 : Nat → Int → Int → List Int → Option (Bool)
 | 0, _, _, _ => none
 | k + 1, x3, x460000, x460001 => if x3 < (x460001.length : Int) then (if 0 ≤ x3 then (if (rd x460001 x3) = 0 then (spec_IsConstant.l0 k (wrap64 (x3 + 1)) x460000 x460001) else (some false)) else (none)) else (some true)
def spec_IsConstant.f (k : Nat) (a0_0 : Int) (l0_1 : List Int) : Option (Bool) := spec_IsConstant.l0 k 0 a0_0 l0_1
theorem spec_IsConstant.mono_l : ∀ k, (∀ y0 y1 y2, LeO (spec_IsConstant.l0 k y0 y1 y2) (spec_IsConstant.l0 (k + 1) y0 y1 y2))
 | 0 => fun _ _ _ r h => by simp [spec_IsConstant.l0] at h
 | k + 1 => by
  have ih0 := spec_IsConstant.mono_l k
  ·intro y0 y1 y2
   unfold spec_IsConstant.l0
   repeat' with_reducible first
   | exact ih0 _ _ _
   | exact LeO.refl _
   | exact LeO.none _
   | refine LeO.ite ?_ ?_
   | refine LeO.bind ?_ (fun _ => ?_)
theorem spec_IsConstant.mono : ∀ a0 a1 k, LeO (spec_IsConstant.f k a0 a1) (spec_IsConstant.f (k + 1) a0 a1) := by
 intro a0 a1 k
 have ih0 := spec_IsConstant.mono_l k
 unfold spec_IsConstant.f
 repeat' with_reducible first
 | exact ih0 _ _ _
 | exact LeO.refl _
 | exact LeO.none _
 | refine LeO.ite ?_ ?_
 | refine LeO.bind ?_ (fun _ => ?_)
set_option maxHeartbeats 8000000 in
set_option maxRecDepth 100000 in
theorem spec_IsConstant.calls (k : Nat) (a0_0 : Int) (A0_1 : Option Addr) (c0_1 : Nat) (l0_1 : List Int) (r : Bool) (w : World) (hr0_1 : Kd.C (Kd.int .i64) w A0_1 l0_1.length l0_1) (hc0_1 : l0_1.length ≤ c0_1) (h : spec_IsConstant.f k a0_0 l0_1 = some r) :
  Calls Try.prog 86 #[.agg #[.int .i64 a0_0, .slice A0_1 l0_1.length c0_1]] w fun e w' => e = .returned (.bool r) ∧ Below w.heap.size w w' := by
 have hu29 := Try.underlying29
 have HR0_1 := Aside0.mk hr0_1
 have HC0_1 := Aside0.mk hc0_1
 clear hr0_1 hc0_1
 have HB := Aside0.mk (Below.refl w.heap.size w)
 have H : (spec_IsConstant.l0 k 0 a0_0 l0_1) = some r := h
 clear h
 have H' := Aside0.mk H
 clear H
 go_enter Try.func86, Try.ntmps86
 go_wp2_with (first | ((with_reducible refine gate_dst (N := 1) rfl ?_); refine box_event ?hg (N := 1) ?hd (cs := #[.int .i64 a0_0, .slice A0_1 l0_1.length c0_1]) (t := 29) ?hr ?_; (case hd => rfl); (case hg => rfl); (case hr => first | (go_simp; done) | (go_simp; rfl)); intro gb459 hg w2 hbox hb; have BK459 := Aside0.mk (hbox); have GW459 := gw hg HB; have GE459 := gw hg HB; replace HB := bs HB hb; clear hb hbox hg))
 go_loopg [3] k (fun kq v3 w' => ∃ (x3_1 : Int), v3 = .int .i64 x3_1 ∧ Aside0 (spec_IsConstant.l0 kq x3_1 a0_0 l0_1 = some r) ∧ Aside0 (kq ≤ k) ∧ Aside0 (w'.heap[gb459]? = some (.cells #[.int .i64 a0_0, (.slice A0_1 l0_1.length c0_1)] 29 (0, 0))) ∧ Aside0 (Below w.heap.size w w'))
 case atStart => exact ⟨(0), (by first | rfl | (simp; done) | (simp [*]; done)), H', ⟨Nat.le_refl _⟩, ⟨mb BK459⟩, ⟨ms HB⟩⟩
 case round =>
  clear H'
  try clear p2
  obtain ⟨x3_1, rfl, HA, HK1, BK459, HB⟩ := hrel
  cases gk with
  | zero => exact absurd HA.out (by simp [spec_IsConstant.l0])
  | succ k1 =>
   have H := HA.out
   clear HA
   simp only [spec_IsConstant.l0] at H
   by_cases c3 : x3_1 < (l0_1.length : Int)
   ·rw [if_pos c3] at H
    have c3b0 : decide (x3_1 < (l0_1.length : Int)) = true := decide_eq_true c3
    clear c3
    by_cases c4 : 0 ≤ x3_1
    ·rw [if_pos c4] at H
     have c4b0 : decide (0 ≤ x3_1) = true := decide_eq_true c4
     clear c4
     by_cases c5 : (rd l0_1 x3_1) = 0
     ·rw [if_pos c5] at H
      have c5b0 : ((rd l0_1 x3_1) == 0) = true := beq_iff_eq.mpr c5
      have c5b1 : ((rd l0_1 x3_1) != 0) = false := bne_eq_false_iff_eq.mpr c5
      clear c5
      have H' := Aside0.mk H
      clear H
      obtain ⟨_, _, _, _⟩ := cFour BK459
      have p460 : 0 ≤ (x3_1 : Int) := of_decide_eq_true (by first | (with_reducible assumption) | assumption)
      have q460 : x3_1 < (l0_1.length : Int) := of_decide_eq_true (by first | (with_reducible assumption) | assumption)
      obtain ⟨ad460, e460, hx460_0⟩ := Kd.at_int HR0_1.out x3_1 p460 q460
      cases e460
      replace hx460_0 := (HB.out.cell (World.block_lt_of_cell? w _ hx460_0)).trans hx460_0
      replace p460 := eq_true p460
      replace q460 := eq_true q460
      go_wp2
      go_roundg k1
      case measure => have := HK1.out; omega
      case rel => exact ⟨(wrap64 (x3_1 + 1)), (by first | rfl | (simp; done) | (simp [*]; done)), H', ⟨by have := HK1.out; omega⟩, ⟨mb BK459⟩, ⟨ms HB⟩⟩
     rw [if_neg c5] at H
     have c5b0 : ((rd l0_1 x3_1) == 0) = false := beq_eq_false_iff_ne.mpr c5
     have c5b1 : ((rd l0_1 x3_1) != 0) = true := bne_iff_ne.mpr c5
     obtain rfl := Option.some.inj H
     obtain ⟨_, _, _, _⟩ := cFour BK459
     have p460 : 0 ≤ (x3_1 : Int) := of_decide_eq_true (by first | (with_reducible assumption) | assumption)
     have q460 : x3_1 < (l0_1.length : Int) := of_decide_eq_true (by first | (with_reducible assumption) | assumption)
     obtain ⟨ad460, e460, hx460_0⟩ := Kd.at_int HR0_1.out x3_1 p460 q460
     cases e460
     replace hx460_0 := (HB.out.cell (World.block_lt_of_cell? w _ hx460_0)).trans hx460_0
     replace p460 := eq_true p460
     replace q460 := eq_true q460
     go_wp2
     go_ret
     exact ⟨by first | rfl | (simp [errW_none, errW_some] <;> rfl) | (simp [*, errW_none, errW_some] <;> rfl), ms HB⟩
    rw [if_neg c4] at H
    exact absurd H (by simp)
   rw [if_neg c3] at H
   have c3b0 : decide (x3_1 < (l0_1.length : Int)) = false := decide_eq_false c3
   clear c3
   obtain rfl := Option.some.inj H
   obtain ⟨_, _, _, _⟩ := cFour BK459
   go_wp2
   go_ret
   exact ⟨by first | rfl | (simp [errW_none, errW_some] <;> rfl) | (simp [*, errW_none, errW_some] <;> rfl), ms HB⟩

def spec_CheckFarkas.j0 : Nat → Bool → Int → List (S29) → Int → List Int → Int → List Int → Int → List Int → Option (Bool)
 | 0, _, _, _, _, _, _, _, _, _ => none
 | k + 1, x34, x336000, x336001, x337000, x337001, x338000, x338001, x344000, x344001 => if x34 = true then (some false) else ((spec_ConstLin.f 1 x336000).bind fun bt346 => ((spec_AddScaled.f k x337000 x337001 1 bt346.1 bt346.2).bind fun bt350 => ((spec_AddScaled.f k x344000 x344001 (wrap64 (-x338000)) bt350.1 bt350.2.1).bind fun bt356 => (if bt350.2.2 = true then (if bt356.2.2 = true then ((spec_IsConstant.f k bt356.1 bt356.2.1).bind fun t362 => (if t362 = true then (some (decide (bt356.1 < 0))) else (some false))) else (some false)) else (some false)))))
def spec_CheckFarkas.f (k : Nat) (a0_0 : Int) (l0_1 : List (S29)) (a1_0 : Int) (l1_1 : List Int) (a2_0 : Int) (l2_1 : List Int) : Option (Bool) := (spec_CombineRows.f k a0_0 l0_1 l2_1).bind fun bt338 => (if bt338.2.2 = true then ((spec_IsValidLin.f k a1_0 l1_1 a0_0).bind fun t344 => (if t344 = true then ((spec_l1In.f a2_0 0 1000000000).bind fun t345 => (spec_CheckFarkas.j0 k (!t345) a0_0 l0_1 a1_0 l1_1 a2_0 l2_1 bt338.1 bt338.2.1)) else (spec_CheckFarkas.j0 k true a0_0 l0_1 a1_0 l1_1 a2_0 l2_1 bt338.1 bt338.2.1))) else (spec_CheckFarkas.j0 k true a0_0 l0_1 a1_0 l1_1 a2_0 l2_1 bt338.1 bt338.2.1))
theorem spec_CheckFarkas.mono_l : ∀ k, (∀ y0 y1 y2 y3 y4 y5 y6 y7 y8, LeO (spec_CheckFarkas.j0 k y0 y1 y2 y3 y4 y5 y6 y7 y8) (spec_CheckFarkas.j0 (k + 1) y0 y1 y2 y3 y4 y5 y6 y7 y8))
 | 0 => fun _ _ _ _ _ _ _ _ _ r h => by simp [spec_CheckFarkas.j0] at h
 | k + 1 => by
  have ih0 := spec_CheckFarkas.mono_l k
  ·intro y0 y1 y2 y3 y4 y5 y6 y7 y8
   unfold spec_CheckFarkas.j0
   repeat' with_reducible first
   | exact ih0 _ _ _ _ _ _ _ _ _
   | exact spec_AddScaled.mono _ _ _ _ _ _
   | exact spec_CombineRows.mono _ _ _ _
   | exact spec_IsConstant.mono _ _ _
   | exact spec_IsValidLin.mono _ _ _ _
   | exact LeO.refl _
   | exact LeO.none _
   | refine LeO.ite ?_ ?_
   | refine LeO.bind ?_ (fun _ => ?_)
theorem spec_CheckFarkas.mono : ∀ a0 a1 a2 a3 a4 a5 k, LeO (spec_CheckFarkas.f k a0 a1 a2 a3 a4 a5) (spec_CheckFarkas.f (k + 1) a0 a1 a2 a3 a4 a5) := by
 intro a0 a1 a2 a3 a4 a5 k
 have ih0 := spec_CheckFarkas.mono_l k
 unfold spec_CheckFarkas.f
 repeat' with_reducible first
 | exact ih0 _ _ _ _ _ _ _ _ _
 | exact spec_AddScaled.mono _ _ _ _ _ _
 | exact spec_CombineRows.mono _ _ _ _
 | exact spec_IsConstant.mono _ _ _
 | exact spec_IsValidLin.mono _ _ _ _
 | exact LeO.refl _
 | exact LeO.none _
 | refine LeO.ite ?_ ?_
 | refine LeO.bind ?_ (fun _ => ?_)
theorem spec_CheckFarkas.j0_true {k : Nat} {a b c d e f g h r} (H : spec_CheckFarkas.j0 k true a b c d e f g h = some r) : r = false := by
 cases k with
 | zero => simp [spec_CheckFarkas.j0] at H
 | succ k => simpa [spec_CheckFarkas.j0] using H.symm
set_option maxHeartbeats 8000000 in
set_option maxRecDepth 100000 in
theorem spec_CheckFarkas.calls (k : Nat) (a0_0 : Int) (A0_1 : Option Addr) (c0_1 : Nat) (l0_1 : List (S29)) (a1_0 : Int) (A1_1 : Option Addr) (c1_1 : Nat) (l1_1 : List Int) (a2_0 : Int) (A2_1 : Option Addr) (c2_1 : Nat) (l2_1 : List Int) (r : Bool) (w : World) (hr0_1 : Kd.C k29 w A0_1 l0_1.length l0_1) (hc0_1 : l0_1.length ≤ c0_1) (hr1_1 : Kd.C (Kd.int .i64) w A1_1 l1_1.length l1_1) (hc1_1 : l1_1.length ≤ c1_1) (hr2_1 : Kd.C (Kd.int .i64) w A2_1 l2_1.length l2_1) (hc2_1 : l2_1.length ≤ c2_1) (h : spec_CheckFarkas.f k a0_0 l0_1 a1_0 l1_1 a2_0 l2_1 = some r) :
  Calls Try.prog 19 #[.agg #[.int .i64 a0_0, .slice A0_1 l0_1.length c0_1], .agg #[.int .i64 a1_0, .slice A1_1 l1_1.length c1_1], .agg #[.int .i64 a2_0, .slice A2_1 l2_1.length c2_1]] w fun e w' => e = .returned (.bool r) ∧ Below w.heap.size w w' := by
 have hu29 := Try.underlying29
 have hu26 := Try.underlying26
 have hu33 := Try.underlying33
 unfold spec_CheckFarkas.f at h
 obtain ⟨⟨s1, s1', sok⟩, A0, h⟩ := Option.bind_eq_some_iff.mp h
 have H0 := Aside0.mk A0
 dsimp only at h
 have H := Aside0.mk h
 have HR0_1 := Aside0.mk hr0_1
 have HC0_1 := Aside0.mk hc0_1
 have HR1_1 := Aside0.mk hr1_1
 have HC1_1 := Aside0.mk hc1_1
 have HR2_1 := Aside0.mk hr2_1
 have HC2_1 := Aside0.mk hc2_1
 clear hr0_1 hc0_1 hr1_1 hc1_1 hr2_1 hc2_1 h A0
 have HB := Aside0.mk (Below.refl w.heap.size w)
 go_enter Try.func19, Try.ntmps19
 go_upto_region 1 with (first | ((with_reducible refine gate_dst (N := 3) rfl ?_); refine box_event ?hg (N := 3) ?hd (cs := #[.int .i64 a0_0, .slice A0_1 l0_1.length c0_1]) (t := 26) ?hr ?_; (case hd => rfl); (case hg => rfl); (case hr => first | (go_simp; done) | (go_simp; rfl)); intro q3 hg_ wa hx_ hb_; have Gq3 := gw hg_ HB; replace HB := bs HB hb_; have X3 := Aside0.mk hx_; clear hg_ hx_ hb_) | ((with_reducible refine gate_dst (N := 4) rfl ?_); refine box_event ?hg (N := 4) ?hd (cs := #[.int .i64 a1_0, .slice A1_1 l1_1.length c1_1]) (t := 29) ?hr ?_; (case hd => rfl); (case hg => rfl); (case hr => first | (go_simp; done) | (go_simp; rfl)); intro q4 hg_ wb hx_ hb_; have Gq4 := gw hg_ HB; replace X3 := bb X3 hb_; replace HB := bs HB hb_; have X4 := Aside0.mk hx_; clear hg_ hx_ hb_) | ((with_reducible refine gate_dst (N := 5) rfl ?_); refine box_event ?hg (N := 5) ?hd (cs := #[.int .i64 a2_0, .slice A2_1 l2_1.length c2_1]) (t := 33) ?hr ?_; (case hd => rfl); (case hg => rfl); (case hr => first | (go_simp; done) | (go_simp; rfl)); intro q5 hg_ wo hx_ hb_; have Gq5 := gw hg_ HB; replace X3 := bb X3 hb_; replace X4 := bb X4 hb_; replace HB := bs HB hb_; have X5 := Aside0.mk hx_; clear hg_ hx_ hb_))
 have HB0 := HB
 clear HB
 replace HR0_1 := Aside0.mk (Kd.C_below HR0_1.out HB0.out)
 replace HR1_1 := Aside0.mk (Kd.C_below HR1_1.out HB0.out)
 replace HR2_1 := Aside0.mk (Kd.C_below HR2_1.out HB0.out)
 obtain ⟨h30, h31⟩ := c2 X3
 obtain ⟨h40, h41⟩ := c2 X4
 obtain ⟨h50, h51⟩ := c2 X5
 have HB := Aside0.mk (Below.refl wo.heap.size wo)
 go_upto_region 2 with (first | (go_at_call 33; refine (spec_CombineRows.calls k a0_0 A0_1 c0_1 l0_1 A2_1 c2_1 l2_1 s1 s1' sok _ (Kd.C_below HR0_1.out HB.out) HC0_1.out (Kd.C_below HR2_1.out HB.out) HC2_1.out H0.out).mono ?_; rintro e wp ⟨v1, rfl, ho, hb⟩; obtain ⟨As, cs, rfl⟩ := Kd.R_slice ho; have RS := Aside0.mk (Kd.R_lower ho HB.out.size); replace HB := bs HB hb; clear ho hb) | ((with_reducible refine gate_dst (N := 7) rfl ?_); refine box_event ?hg (N := 7) ?hd (cs := #[.int .i64 0, .slice none 0 0]) (t := 29) ?hr ?_; (case hd => rfl); (case hg => rfl); (case hr => first | (go_simp; done) | (go_simp; rfl)); intro q7 hg_ w7 hx_ hb_; have Gq7 := gw hg_ HB; replace HB := bs HB hb_; have X7 := Aside0.mk hx_; replace RS := rb RS hb_; obtain ⟨hz0, hz1⟩ := c2 X7; have hf0 := blk_frozen X7.out 0; have hf1 := blk_frozen X7.out 1; clear hg_ hx_ hb_) | ((with_reducible refine gate_store (t := 29) (p := 7) rfl ?_); refine store_event (t := 29) (p := 7) (v := ?vo_s7) (w1 := (w7.setCell ⟨q7, 0, none⟩ (.int .i64 s1)).setCell ⟨q7, 1, none⟩ (.slice As s1'.length cs)) ?hg ?ho ?hn ?hr ?_; (case ho => rfl); (case hg => rfl); (case hn => rfl); (case hr => first | (go_simp; done) | (go_simp; rfl)); intro w8 hw; have X7' : Aside0 (w8.heap[q7]? = some (.cells #[.int .i64 s1, .slice As s1'.length cs] 29 (0, 0))) := ⟨by rw [hw]; exact put2 X7.out⟩; have RS' : Aside0 (Kd.R (Kd.int .i64) 3 w8 wo.heap.size (fun _ => True) (.slice As s1'.length cs) s1') := ⟨by rw [hw]; exact own2 RS.out X7.out (by decide)⟩; have HB' : Aside0 (Below wo.heap.size wo w8) := ⟨by rw [hw]; exact below_set (below_set HB.out Gq7.out) Gq7.out⟩; clear hw RS HB X7 hz0 hz1 hf0 hf1; have HB := HB'; clear HB'; obtain ⟨h30, h31⟩ := c2 (Aside0.mk (blk_below X3.out HB.out)); obtain ⟨h40, h41⟩ := c2 (Aside0.mk (blk_below X4.out HB.out)); obtain ⟨h50, h51⟩ := c2 (Aside0.mk (blk_below X5.out HB.out))))
 have h := H.out
 clear H
 cases sok with
 | false =>
  obtain rfl := spec_CheckFarkas.j0_true h
  go_wp2
  go_ret
  exact ⟨by first | rfl | (simp; done) | (simp [*]; done), HB0.out.trans (HB.out.mono HB0.out.size)⟩
 | true =>
  rw [if_pos rfl] at h
  obtain ⟨v, A1, h⟩ := Option.bind_eq_some_iff.mp h
  have H1 := Aside0.mk A1
  clear A1
  cases v with
  | false =>
   obtain rfl := spec_CheckFarkas.j0_true h
   go_wp2_with ((go_at_call 80; refine (spec_IsValidLin.calls k a1_0 A1_1 c1_1 l1_1 a0_0 _ _ (Kd.C_below HR1_1.out HB.out) HC1_1.out H1.out).mono ?_; rintro e w9 ⟨rfl, hb⟩; replace HB := bs HB hb; replace X7' := bb X7' hb; replace RS' := rb RS' hb; obtain ⟨h30, h31⟩ := c2 (Aside0.mk (blk_below X3.out HB.out)); obtain ⟨h40, h41⟩ := c2 (Aside0.mk (blk_below X4.out HB.out)); obtain ⟨h50, h51⟩ := c2 (Aside0.mk (blk_below X5.out HB.out)); clear hb))
   go_ret
   exact ⟨by first | rfl | (simp; done) | (simp [*]; done), HB0.out.trans (HB.out.mono HB0.out.size)⟩
  | true =>
   rw [if_pos rfl] at h
   obtain ⟨t, A2, h⟩ := Option.bind_eq_some_iff.mp h
   have H2 := Aside0.mk A2
   clear A2
   cases t with
   | false =>
    obtain rfl := spec_CheckFarkas.j0_true h
    go_wp2_with (first | (go_at_call 80; refine (spec_IsValidLin.calls k a1_0 A1_1 c1_1 l1_1 a0_0 _ _ (Kd.C_below HR1_1.out HB.out) HC1_1.out H1.out).mono ?_; rintro e w9 ⟨rfl, hb⟩; replace HB := bs HB hb; replace X7' := bb X7' hb; replace RS' := rb RS' hb; obtain ⟨h30, h31⟩ := c2 (Aside0.mk (blk_below X3.out HB.out)); obtain ⟨h40, h41⟩ := c2 (Aside0.mk (blk_below X4.out HB.out)); obtain ⟨h50, h51⟩ := c2 (Aside0.mk (blk_below X5.out HB.out)); clear hb) | (go_at_call 85; refine (spec_l1In.calls _ _ _ _ _ H2.out).mono ?_; rintro e w10 ⟨rfl, hd⟩; have hb := hd.below; replace HB := bs HB hb; replace X7' := bb X7' hb; replace RS' := rb RS' hb; clear hd hb))
    go_ret
    exact ⟨by first | rfl | (simp; done) | (simp [*]; done), HB0.out.trans (HB.out.mono HB0.out.size)⟩
   | true =>
    cases k with
    | zero => simp [spec_CheckFarkas.j0] at h
    | succ k =>
     rw [spec_CheckFarkas.j0, if_neg (by decide)] at h
     obtain ⟨⟨t0, t0'⟩, A3, h⟩ := Option.bind_eq_some_iff.mp h
     obtain ⟨⟨t1, t1', t1b⟩, A4, h⟩ := Option.bind_eq_some_iff.mp h
     obtain ⟨⟨t2, t2', t2b⟩, A5, h⟩ := Option.bind_eq_some_iff.mp h
     have H3 : Aside0 (spec_ConstLin.f 1 a0_0 = some (t0, t0')) := ⟨A3⟩
     have H4 : Aside0 (spec_AddScaled.f k a1_0 l1_1 1 t0 t0' = some (t1, t1', t1b)) := ⟨A4⟩
     have H5 : Aside0 (spec_AddScaled.f k s1 s1' (wrap64 (-a2_0)) t1 t1' = some (t2, t2', t2b)) := ⟨A5⟩
     have H := Aside0.mk h
     clear A3 A4 A5 h
     go_upto_region 4 with (first | (go_at_call 80; refine (spec_IsValidLin.calls (k + 1) a1_0 A1_1 c1_1 l1_1 a0_0 _ _ (Kd.C_below HR1_1.out HB.out) HC1_1.out H1.out).mono ?_; rintro e w9 ⟨rfl, hb⟩; replace HB := bs HB hb; replace X7' := bb X7' hb; replace RS' := rb RS' hb; obtain ⟨h30, h31⟩ := c2 (Aside0.mk (blk_below X3.out HB.out)); obtain ⟨h40, h41⟩ := c2 (Aside0.mk (blk_below X4.out HB.out)); obtain ⟨h50, h51⟩ := c2 (Aside0.mk (blk_below X5.out HB.out)); clear hb) | (go_at_call 85; refine (spec_l1In.calls _ _ _ _ _ H2.out).mono ?_; rintro e w10 ⟨rfl, hd⟩; have hb := hd.below; replace HB := bs HB hb; replace X7' := bb X7' hb; replace RS' := rb RS' hb; clear hd hb))
     replace X3 := Aside0.mk (blk_below X3.out HB.out)
     replace X4 := Aside0.mk (blk_below X4.out HB.out)
     replace X5 := Aside0.mk (blk_below X5.out HB.out)
     have HR1w := Aside0.mk (Kd.C_below HR1_1.out HB.out)
     replace HB0 := Aside0.mk (HB0.out.trans (HB.out.mono HB0.out.size))
     clear HB h30 h31 h40 h41 h50 h51
     go_cut [9, 10] (fun v9 v10 wc => ∃ (g9 : Nat) (A1 : Option Addr) (c1 : Nat), v9 = .pointer (some ⟨g9, 0, none⟩) ∧ v10 = .bool t1b ∧ Aside0 (wc.heap[g9]? = some (.cells #[.int .i64 t1, .slice A1 t1'.length c1] 29 (0, 0))) ∧ Aside0 (Kd.R (Kd.int .i64) 3 wc w10.heap.size (fun _ => True) (.slice A1 t1'.length c1) t1') ∧ Aside0 (Below w10.heap.size w10 wc))
     case first =>
      have HZ := Aside0.mk (Below.refl w10.heap.size w10)
      have La : Aside0 (∀ g, w10.heap.size ≤ g → q4 ≠ g) := ⟨fun g h => by have := blk_lt X4.out; omega⟩
      have Lb : Aside0 (∀ g, w10.heap.size ≤ g → q3 ≠ g) := ⟨fun g h => by have := blk_lt X3.out; omega⟩
      go_region_held3 (fun w' => w'.cell? ⟨q4, 0, none⟩ = some (.int .i64 a1_0) ∧ w'.cell? ⟨q4, 1, none⟩ = some (.slice A1_1 l1_1.length c1_1) ∧ w'.cell? ⟨q3, 0, none⟩ = some (.int .i64 a0_0))
       (first | exact ⟨(blk_cell (mb X4) 0).trans rfl, (blk_cell (mb X4) 1).trans rfl, (blk_cell (mb X3) 0).trans rfl⟩ | exact ⟨(blk_cell (far2 (mb X4) (La.out _ (by first | exact HZ.out.size | exact SZ.out | exact Nat.le_refl _))) 0).trans rfl, (blk_cell (far2 (mb X4) (La.out _ (by first | exact HZ.out.size | exact SZ.out | exact Nat.le_refl _))) 1).trans rfl, (blk_cell (far2 (mb X3) (Lb.out _ (by first | exact HZ.out.size | exact SZ.out | exact Nat.le_refl _))) 0).trans rfl⟩)
       (first | (go_at_call 82; refine (spec_ConstLin.calls _ _ _ _ _ H3.out).mono ?_; rintro e w1 ⟨v0, rfl, ho, hb⟩; replace X4 := bb X4 hb; replace X3 := bb X3 hb; replace HZ := bs HZ hb; have SZ := Aside0.mk HZ.out.size; (first | have X9 := Aside0.mk (blk_below (heap_alloc_new _ _) hb) | have X9 := Aside0.mk (blk_below (blk_drew (heap_alloc_new _ _)) hb) | skip); obtain ⟨Az, cz, rfl, lz, Cz⟩ := Kd.R_reads ho; have CZ := Aside0.mk Cz; have LZ := Aside0.mk lz; clear ho hb Cz lz) | (go_at_call 81; refine (spec_AddScaled.calls k a1_0 A1_1 c1_1 l1_1 1 t0 Az cz t0' t1 t1' t1b _ (Kd.C_below HR1w.out (ms HZ)) HC1_1.out (mc CZ.out) LZ.out H4.out).mono ?_; rintro e w2 ⟨v1, rfl, ho, hb⟩; obtain ⟨Ay, cy, rfl⟩ := Kd.R_slice ho; have RY := Aside0.mk (Kd.R_lower (Kd.R_mono ho (fun _ _ => trivial)) (below_size (ms HZ))); replace X4 := bb X4 hb; replace X3 := bb X3 hb; (first | replace X9 := bb X9 hb | have X9 := Aside0.mk (blk_below (heap_alloc_new _ _) hb) | skip); replace HZ := bs HZ hb; (try (have hz0 := (blk_cell X9.out 0).trans (rfl : _ = some (Value.int .i64 0)); have hz1 := (blk_cell X9.out 1).trans (rfl : _ = some (Value.slice none 0 0)); have hf0 := blk_frozen X9.out 0; have hf1 := blk_frozen X9.out 1; (try simp only [World.drew] at hz0 hz1 hf0 hf1))); clear ho hb))
      all_goals go_wp2
      all_goals go_meet
      case rel => exact ⟨_, _, _, rfl, rfl, ⟨heap_alloc_new _ _⟩, ⟨Kd.R_alloc RY.out _⟩, ⟨below_alloc HZ.out _⟩⟩
      case rel => exact ⟨_, _, _, rfl, rfl, ⟨put2 X9.out⟩, ⟨own2 RY.out X9.out (by decide)⟩, ⟨below_set (below_set HZ.out SZ.out) SZ.out⟩⟩
      case rel => exact ⟨_, _, _, rfl, rfl, ⟨put2 X9.out⟩, ⟨own2 RY.out X9.out (by decide)⟩, ⟨below_set (below_set HZ.out (Nat.le_refl _)) (Nat.le_refl _)⟩⟩
     case rest =>
      obtain ⟨g9, Ay, cy, rfl, rfl, X9, RY, HB⟩ := hcut
      have X7 := Aside0.mk (blk_below X7'.out HB.out)
      have RS := Aside0.mk (Kd.R_below RS'.out HB.out)
      obtain ⟨h50, h51⟩ := c2 (Aside0.mk (blk_below X5.out HB.out))
      obtain ⟨ha0, ha1⟩ := c2 X7
      obtain ⟨hb0, hb1⟩ := c2 X9
      clear X7' RS' X3 X4 HR1w HR0_1 HR1_1 HR2_1
      go_upto_region 6 with (first | (go_at_call 81; refine (spec_AddScaled.calls k s1 As cs s1' (wrap64 (-a2_0)) t1 Ay cy t1' t2 t2' t2b _ (Kd.R_reads' RS.out).2.2 (Kd.R_reads' RS.out).2.1 (Kd.R_reads' RY.out).2.2 (Kd.R_reads' RY.out).2.1 H5.out).mono ?_; rintro e w11 ⟨v2, rfl, ho, hb⟩; obtain ⟨A2, cA, rfl⟩ := Kd.R_slice ho; have R2 := Aside0.mk ho; replace HB := bs HB hb; clear ho hb) | ((with_reducible refine gate_dst (N := 11) rfl ?_); refine box_event ?hg (N := 11) ?hd (cs := #[.int .i64 0, .slice none 0 0]) (t := 29) ?hr ?_; (case hd => rfl); (case hg => rfl); (case hr => first | (go_simp; done) | (go_simp; rfl)); intro q11 hg_ w12 hx_ hb_; have Gq11 := gw hg_ HB; replace HB := bs HB hb_; have X11 := Aside0.mk hx_; replace R2 := rb R2 hb_; obtain ⟨hz0, hz1⟩ := c2 X11; have hf0 := blk_frozen X11.out 0; have hf1 := blk_frozen X11.out 1; clear hg_ hx_ hb_) | ((with_reducible refine gate_store (t := 29) (p := 11) rfl ?_); refine store_event (t := 29) (p := 11) (v := ?vo_s11) (w1 := (w12.setCell ⟨q11, 0, none⟩ (.int .i64 t2)).setCell ⟨q11, 1, none⟩ (.slice A2 t2'.length cA)) ?hg ?ho ?hn ?hr ?_; (case ho => rfl); (case hg => rfl); (case hn => rfl); (case hr => first | (go_simp; done) | (go_simp; rfl)); intro w13 hw; have X11' : Aside0 (w13.heap[q11]? = some (.cells #[.int .i64 t2, .slice A2 t2'.length cA] 29 (0, 0))) := ⟨by rw [hw]; exact put2 X11.out⟩; have R2' : Aside0 (Kd.R (Kd.int .i64) 3 w13 wc.heap.size (fun _ => True) (.slice A2 t2'.length cA) t2') := ⟨by rw [hw]; exact own2 R2.out X11.out (by decide)⟩; have HB' : Aside0 (Below w10.heap.size w10 w13) := ⟨by rw [hw]; exact below_set (below_set HB.out Gq11.out) Gq11.out⟩; clear hw R2 HB X11 hz0 hz1 hf0 hf1; have HB := HB'; clear HB'; obtain ⟨hc0, hc1⟩ := c2 X11'))
      clear ha0 ha1 hb0 hb1 h50 h51
      have h := H.out
      clear H
      cases t1b with
      | false =>
       obtain rfl : r = false := by simpa using h.symm
       go_wp2
       go_ret
       exact ⟨by first | rfl | (simp; done) | (simp [*]; done), HB0.out.trans (HB.out.mono HB0.out.size)⟩
      | true =>
       rw [if_pos rfl] at h
       cases t2b with
       | false =>
        obtain rfl : r = false := by simpa using h.symm
        go_wp2
        go_ret
        exact ⟨by first | rfl | (simp; done) | (simp [*]; done), HB0.out.trans (HB.out.mono HB0.out.size)⟩
       | true =>
        rw [if_pos rfl] at h
        obtain ⟨ic, A6, h⟩ := Option.bind_eq_some_iff.mp h
        have H6 := Aside0.mk A6
        clear A6
        cases ic with
        | false =>
         obtain rfl : r = false := by simpa using h.symm
         go_wp2_with ((go_at_call 86; refine (spec_IsConstant.calls k t2 A2 cA t2' _ _ (Kd.R_reads' R2'.out).2.2 (Kd.R_reads' R2'.out).2.1 H6.out).mono ?_; rintro e w14 ⟨rfl, hb⟩; replace HB := bs HB hb; obtain ⟨hc0, hc1⟩ := c2 (Aside0.mk (blk_below X11'.out hb)); clear hb))
         go_ret
         exact ⟨by first | rfl | (simp; done) | (simp [*]; done), HB0.out.trans (HB.out.mono HB0.out.size)⟩
        | true =>
         obtain rfl : r = decide (t2 < 0) := by simpa using h.symm
         go_wp2_with ((go_at_call 86; refine (spec_IsConstant.calls k t2 A2 cA t2' _ _ (Kd.R_reads' R2'.out).2.2 (Kd.R_reads' R2'.out).2.1 H6.out).mono ?_; rintro e w14 ⟨rfl, hb⟩; replace HB := bs HB hb; obtain ⟨hc0, hc1⟩ := c2 (Aside0.mk (blk_below X11'.out hb)); clear hb))
         go_ret
         exact ⟨by first | rfl | (simp; done) | (simp [*]; done), HB0.out.trans (HB.out.mono HB0.out.size)⟩

/-! ### spec_l3Size: function 168 -/
def spec_l3Size.f (a0 : Int) : Option (Int) := if a0 < 0 then (some (wrap64 (-a0))) else (some a0)
set_option maxHeartbeats 8000000 in
set_option maxRecDepth 100000 in
theorem spec_l3Size.calls (a0 : Int) (r : Int) (w : World) (h : spec_l3Size.f a0 = some r) :
  Calls Try.prog 168 #[.int .i64 a0] w fun e w' => e = .returned (.int .i64 r) ∧ Drawn0 w w' := by
 have H : (if a0 < 0 then (some (wrap64 (-a0))) else (some a0)) = some r := h
 clear h
 by_cases c2 : a0 < 0
 ·rw [if_pos c2] at H
  have c2b0 : decide (a0 < 0) = true := decide_eq_true c2
  clear c2
  obtain rfl := Option.some.inj H
  go_enter Try.func168, Try.ntmps168
  go_wp2
  go_ret
  exact ⟨by first | rfl | (simp; done) | (simp [*]; done), by repeat (first | exact Drawn0.refl _ | apply Drawn0.step)⟩
 rw [if_neg c2] at H
 have c2b0 : decide (a0 < 0) = false := decide_eq_false c2
 clear c2
 obtain rfl := Option.some.inj H
 go_enter Try.func168, Try.ntmps168
 go_wp2
 go_ret
 exact ⟨by first | rfl | (simp; done) | (simp [*]; done), by repeat (first | exact Drawn0.refl _ | apply Drawn0.step)⟩

end Go.Proofs.Ytlencemmlgkflaa.QFnFound
