-- Made by a program of this claim's own (wip/print): not the kit's print as it stands.
import Derived.Test.YtlencemmlgkflaaUFnEntailedTri
import Derived.Test.YtlencemmlgkflaaQFnEntailedx0
import Derived.Test.YtlencemmlgkflaaQFnEntailedx1
import Derived.Test.YtlencemmlgkflaaQFnEntailedx2
import Derived.Test.YtlencemmlgkflaaQFnEntailedx3
import Derived.Test.YtlencemmlgkflaaQFnEntailedx6
namespace Go.Proofs.Ytlencemmlgkflaa.QFnEntailed
open Go.RowKit Go.Proofs.YtlencemmlgkflaaV.PrintWords Go.Proofs.YtlencemmlgkflaaV.PrintLast Go.Proofs.YtlencemmlgkflaaV.PrintMore
attribute [local go_sem] max2_int min2_int max_two min_two max_three min_three max_four min_four   -- for this text's walks alone
set_option linter.unusedVariables false
set_option linter.unusedSimpArgs false

theorem k29_openFi {W : World} {ok : Nat → Prop} {x : S29} {cs : List Value} (h : Kd.FK k29 W ok x cs) : ∃ A1 c1, cs = [.int .i64 x.f0, .slice A1 x.f1.length c1] ∧ x.f1.length ≤ c1 ∧ Kd.F (Kd.int .i64) W ok A1 x.f1.length x.f1 := by
 obtain ⟨A1, c1, rfl, l1, _⟩ := k29_open (Kd.FK_now h)
 exact ⟨A1, c1, rfl, l1, (fun W' hW => by obtain ⟨A1_, c1_, he, l1_, g1_⟩ := k29_open (h W' hW); injection (Option.some.inj (show some (Value.slice A1 x.f1.length c1) = some (Value.slice A1_ x.f1.length c1_) from congrArg (fun l => l[1]?) he)) with ha_ _ _; rw [ha_]; exact g1_)⟩
theorem heap_k29 : Kd.Heap k29 := Kd.heap_iso _ (Kd.heap_pair (Kd.heap_int _) (Kd.heap_slice _ (Kd.heap_int _)))
theorem kD_mkF2 {b : Nat} {W : World} {ok : Nat → Prop} (x : S89) {A1 : Option Addr} {c1 : Nat} {v2 : Value} (l1 : x.f0.f1.length ≤ c1) (g1 : Kd.F (Kd.int .i64) W ok A1 x.f0.f1.length x.f0.f1) (g2 : (Kd.int .i64).R 3 W b ok v2 x.f1) : Kd.FK (kD b) W ok x [.int .i64 x.f0.f0, .slice A1 x.f0.f1.length c1, v2, .int .i64 x.f2] := fun W' hW =>
 ⟨[.int .i64 x.f0.f0, .slice A1 x.f0.f1.length c1], [v2, .int .i64 x.f2], rfl, k29_mk W' x.f0 l1 (g1 W' hW), ⟨[v2], [.int .i64 x.f2], rfl, ⟨v2, rfl, Kd.R_mono (Kd.R_step g2 hW) (fun _ _ => trivial)⟩, rfl⟩⟩
theorem at_S {w : World} {ok : Nat → Prop} {A : Option Addr} {n : Nat} {xs : List S29} (h : Kd.F k29 w ok A n xs) (i : Int) (h0 : 0 ≤ i) (h1 : i < n) : ∃ ad A1 c1, A = some ad ∧ w.cell? (ad.add (i.toNat * 2)) = some (.int .i64 (rd_T29 xs i).f0) ∧ w.cell? ⟨(ad.add (i.toNat * 2)).block, (ad.add (i.toNat * 2)).off + 1, none⟩ = some (.slice A1 (rd_T29 xs i).f1.length c1) ∧ (rd_T29 xs i).f1.length ≤ c1 ∧ Kd.F (Kd.int .i64) w ok A1 (rd_T29 xs i).f1.length (rd_T29 xs i).f1 := by
 obtain ⟨ad, c, e, _, hK, hc0, _⟩ := Kd.F_get h z29 i h0 h1
 have hc : ∀ j u, c[j]? = some u → w.cell? (ad.add (i.toNat * 2 + j)) = some u := hc0
 obtain ⟨A1, c1, rfl, l1, g1⟩ := k29_openFi hK
 exact ⟨ad, A1, c1, e, hc 0 _ rfl, by rw [← add_field _ _ 1 (by omega)]; exact hc 1 _ rfl, l1, g1⟩
def impl_FindFarkas.l0 : Nat → List S29 → Int → List S89 → Option (List S89)
 | 0, _, _, _ => none
 | n + 1, l, i, out => if i < (l.length : Int) then (if 0 ≤ i then (if l.length ≤ 35184372088832 then (if out.length < 2199023255552 then (impl_FindFarkas.l0 n l (wrap64 (i + 1)) (out ++ [⟨rd_T29 l i, (List.replicate l.length 0).set i.toNat 1, 0⟩])) else none) else none) else none) else (some out)
def impl_FindFarkas.l1 : Nat → Int → Int → List S89 → Option (Option (List S89))
 | 0, _, _, _ => none
 | n + 1, m, v, l => if v < m then ((impl_without.f n l v).bind fun o => (if (o.length : Int) > 60 then (some none) else (impl_FindFarkas.l1 n m (wrap64 (v + 1)) o))) else (some (some l))
def impl_FindFarkas.l2 : Nat → Int → List S29 → Int → List Int → List S89 → Int → Option (Int × List Int × Bool)
 | 0, _, _, _, _, _, _ => none
 | n + 1, a0_0, l0_1, a1_0, l1_1, l, i => if i < (l.length : Int) then (if 0 ≤ i then (if (rd_T89 l i).f0.f0 < 0 then ((impl_CheckFarkas.f n a0_0 l0_1 a1_0 l1_1 (rd_T89 l i).f2 (rd_T89 l i).f1).bind fun b => (if b = true then (some ((rd_T89 l i).f2, (rd_T89 l i).f1, true)) else (some (0, ([] : List Int), false)))) else (impl_FindFarkas.l2 n a0_0 l0_1 a1_0 l1_1 l (wrap64 (i + 1)))) else none) else (some (0, ([] : List Int), false))
def impl_FindFarkas.j2 (n : Nat) (a0_0 : Int) (l0_1 : List S29) (a1_0 : Int) (l1_1 : List Int) (o : Option (List S89)) : Option (Int × List Int × Bool) :=
 match o with
 | none => some (0, ([] : List Int), false)
 | some l => impl_FindFarkas.l2 n a0_0 l0_1 a1_0 l1_1 l 0
def impl_FindFarkas.j1 (n : Nat) (a0_0 : Int) (l0_1 : List S29) (a1_0 : Int) (l1_1 : List Int) (t1 : Int) (t2 : List Int) : Option (Int × List Int × Bool) :=
 (impl_FindFarkas.l0 n l0_1 0 []).bind fun rows => (if rows.length < 2199023255552 ∧ l0_1.length ≤ 35184372088832 then ((impl_FindFarkas.l1 n a0_0 0 (rows ++ [⟨⟨t1, t2⟩, List.replicate l0_1.length 0, 1⟩])).bind fun o => impl_FindFarkas.j2 n a0_0 l0_1 a1_0 l1_1 o) else none)
def impl_FindFarkas.f (n : Nat) (a0_0 : Int) (l0_1 : List S29) (a1_0 : Int) (l1_1 : List Int) : Option (Int × List Int × Bool) :=
 (impl_IsValidSystem.f n a0_0 l0_1).bind fun b1 => (if b1 = true then ((impl_IsValidLin.f n a1_0 l1_1 a0_0).bind fun b2 => (if b2 = true then ((impl_ConstLin.f (-1) a0_0).bind fun t0 => (impl_AddScaled.f n t0.1 t0.2 (-1) a1_0 l1_1).bind fun t1 => (if t1.2.2 = true then (impl_FindFarkas.j1 n a0_0 l0_1 a1_0 l1_1 t1.1 t1.2.1) else (some (0, ([] : List Int), false)))) else (some (0, ([] : List Int), false)))) else (some (0, ([] : List Int), false)))
set_option maxHeartbeats 8000000 in
set_option maxRecDepth 100000 in
theorem impl_FindFarkas.calls (n : Nat) (a0_0 : Int) (A0_1 : Option Addr) (c0_1 : Nat) (l0_1 : List S29) (a1_0 : Int) (A1_1 : Option Addr) (c1_1 : Nat) (l1_1 : List Int) (r1 : Int) (r2 : List Int) (r3 : Bool) (w : World) (hr0_1 : Kd.C k29 w A0_1 l0_1.length l0_1) (hc0_1 : l0_1.length ≤ c0_1) (hr1_1 : Kd.C (Kd.int .i64) w A1_1 l1_1.length l1_1) (hc1_1 : l1_1.length ≤ c1_1) (h : impl_FindFarkas.f n a0_0 l0_1 a1_0 l1_1 = some (r1, r2, r3)) :
  Calls Try.prog 15 #[.agg #[.int .i64 a0_0, .slice A0_1 l0_1.length c0_1], .agg #[.int .i64 a1_0, .slice A1_1 l1_1.length c1_1]] w fun e w' => ∃ v0_ : Value, e = .returned (.tuple #[.agg #[.int .i64 r1, v0_], .bool r3]) ∧ Kd.R (Kd.int .i64) 3 w' w.heap.size (fun _ => True) v0_ r2 ∧ Below w.heap.size w w' := by
 have hu89 := Try.underlying89
 have hu29 := Try.underlying29
 have hu26 := Try.underlying26
 have hu33 := Try.underlying33
 unfold impl_FindFarkas.f at h
 obtain ⟨b1, A1, H⟩ := Option.bind_eq_some_iff.mp h
 have D1 := Aside0.mk A1
 have HR0 := Aside0.mk hr0_1
 have HC0 := Aside0.mk hc0_1
 have HR1 := Aside0.mk hr1_1
 have HC1 := Aside0.mk hc1_1
 have HH := Aside0.mk H
 clear hr0_1 hc0_1 hr1_1 hc1_1 h A1 H
 have HB := Aside0.mk (Below.refl w.heap.size w)
 go_enter Try.func15, Try.ntmps15
 go_upto_region 1 with (first | ((with_reducible refine gate_dst (N := 2) rfl ?_); refine box_event ?hg (N := 2) ?hd (cs := #[.int .i64 a0_0, .slice A0_1 l0_1.length c0_1]) (t := 26) ?hr ?_; (case hd => rfl); (case hg => rfl); (case hr => first | (go_simp; done) | (go_simp; rfl)); intro q2 hg_ wa hx_ hb_; have Gq2 := gw hg_ HB; replace HB := bs HB hb_; have X2 := Aside0.mk hx_; clear hg_ hx_ hb_) | ((with_reducible refine gate_dst (N := 3) rfl ?_); refine box_event ?hg (N := 3) ?hd (cs := #[.int .i64 a1_0, .slice A1_1 l1_1.length c1_1]) (t := 29) ?hr ?_; (case hd => rfl); (case hg => rfl); (case hr => first | (go_simp; done) | (go_simp; rfl)); intro q3 hg_ wb hx_ hb_; have Gq3 := gw hg_ HB; replace X2 := bb X2 hb_; replace HB := bs HB hb_; have X3 := Aside0.mk hx_; clear hg_ hx_ hb_) | ((with_reducible refine gate_dst (N := 4) rfl ?_); refine box_event ?hg (N := 4) ?hd (cs := #[.int .i64 0, .slice none 0 0]) (t := 33) ?hr ?_; (case hd => rfl); (case hg => rfl); (case hr => first | (go_simp; done) | (go_simp; rfl)); intro q4 hg_ wo hx_ hb_; have Gq4 := gw hg_ HB; replace X2 := bb X2 hb_; replace X3 := bb X3 hb_; replace HB := bs HB hb_; have X4 := Aside0.mk hx_; clear hg_ hx_ hb_))
 have HB0 := HB
 clear HB
 replace HR0 := Aside0.mk (Kd.C_below HR0.out HB0.out)
 replace HR1 := Aside0.mk (Kd.C_below HR1.out HB0.out)
 have H := HH.out
 clear HH
 obtain ⟨h20, h21⟩ := c2 X2
 obtain ⟨h30, h31⟩ := c2 X3
 by_cases hb1 : b1 = true
 ·subst hb1
  rw [if_pos rfl] at H
  obtain ⟨b2, A2, H⟩ := Option.bind_eq_some_iff.mp H
  have D2 := Aside0.mk A2
  have HH := Aside0.mk H
  clear A2 H
  have HB := Aside0.mk (Below.refl wo.heap.size wo)
  by_cases hb2 : b2 = true
  ·subst hb2
   go_wp2_with (first | (go_at_call 73; refine (impl_IsValidSystem.calls n a0_0 A0_1 c0_1 l0_1 _ _ HR0.out HC0.out D1.out).mono ?_; rintro e wp ⟨rfl, hb⟩; replace HB := bs HB hb; replace h20 := (hb.cell (World.block_lt_of_cell? _ _ h20)).trans h20; replace h30 := (hb.cell (World.block_lt_of_cell? _ _ h30)).trans h30; replace h31 := (hb.cell (World.block_lt_of_cell? _ _ h31)).trans h31; clear hb) | (go_at_call 74; refine (impl_IsValidLin.calls n a1_0 A1_1 c1_1 l1_1 a0_0 _ _ (Kd.C_below HR1.out HB.out) HC1.out D2.out).mono ?_; rintro e wq ⟨rfl, hb⟩; replace HB := bs HB hb; clear hb))
   replace X2 := Aside0.mk (blk_below X2.out HB.out)
   replace X3 := Aside0.mk (blk_below X3.out HB.out)
   replace X4 := Aside0.mk (blk_below X4.out HB.out)
   replace HR0 := Aside0.mk (Kd.C_below HR0.out HB.out)
   replace HR1 := Aside0.mk (Kd.C_below HR1.out HB.out)
   replace HB0 := Aside0.mk (HB0.out.trans (HB.out.mono HB0.out.size))
   clear HB D1 D2 h20 h21 h30 h31
   have H := HH.out
   first | rw [if_pos rfl] at H | rw [if_pos trivial] at H
   obtain ⟨⟨t0, t0'⟩, B0_, H⟩ := Option.bind_eq_some_iff.mp H
   obtain ⟨⟨t1, t1', t1b⟩, B1_, H⟩ := Option.bind_eq_some_iff.mp H
   have H0 : Aside0 (impl_ConstLin.f (-1) a0_0 = some (t0, t0')) := ⟨B0_⟩
   have H1 : Aside0 (impl_AddScaled.f n t0 t0' (-1) a1_0 l1_1 = some (t1, t1', t1b)) := ⟨B1_⟩
   have H2 := Aside0.mk H
   clear HH H B0_ B1_
   go_cut [6, 7] (fun v6 v7 wc => ∃ (g6 : Nat) (A1 : Option Addr) (c1 : Nat), v6 = .pointer (some ⟨g6, 0, none⟩) ∧ v7 = .bool t1b ∧ Aside0 (wc.heap[g6]? = some (.cells #[.int .i64 t1, .slice A1 t1'.length c1] 29 (0, 0))) ∧ Aside0 (Kd.R (Kd.int .i64) 3 wc wq.heap.size (fun _ => True) (.slice A1 t1'.length c1) t1') ∧ Aside0 (Below wq.heap.size wq wc))
   case first =>
    have HB := Aside0.mk (Below.refl wq.heap.size wq)
    have La : Aside0 (∀ g, wq.heap.size ≤ g → q2 ≠ g) := ⟨fun g h => by have := blk_lt X2.out; omega⟩
    have Lb : Aside0 (∀ g, wq.heap.size ≤ g → q3 ≠ g) := ⟨fun g h => by have := blk_lt X3.out; omega⟩
    go_region_held3 (fun w' => w'.cell? ⟨q2, 0, none⟩ = some (.int .i64 a0_0) ∧ w'.cell? ⟨q3, 0, none⟩ = some (.int .i64 a1_0) ∧ w'.cell? ⟨q3, 1, none⟩ = some (.slice A1_1 l1_1.length c1_1))
     (first | exact ⟨(blk_cell (mb X2) 0).trans rfl, (blk_cell (mb X3) 0).trans rfl, (blk_cell (mb X3) 1).trans rfl⟩ | exact ⟨(blk_cell (far2 (mb X2) (La.out _ (by first | exact HB.out.size | exact SZ.out | exact Nat.le_refl _))) 0).trans rfl, (blk_cell (far2 (mb X3) (Lb.out _ (by first | exact HB.out.size | exact SZ.out | exact Nat.le_refl _))) 0).trans rfl, (blk_cell (far2 (mb X3) (Lb.out _ (by first | exact HB.out.size | exact SZ.out | exact Nat.le_refl _))) 1).trans rfl⟩)
     (first | (go_at_call 76; refine (impl_ConstLin.calls _ _ _ _ _ H0.out).mono ?_; rintro e w1 ⟨v0, rfl, ho, hb⟩; replace X2 := bb X2 hb; replace X3 := bb X3 hb; replace HB := bs HB hb; have SZ := Aside0.mk HB.out.size; (first | have X10 := Aside0.mk (blk_below (heap_alloc_new _ _) hb) | have X10 := Aside0.mk (blk_below (blk_drew (heap_alloc_new _ _)) hb) | skip); obtain ⟨Az, cz, rfl, lz, Cz⟩ := Kd.R_reads ho; have CZ := Aside0.mk Cz; have LZ := Aside0.mk lz; clear ho hb Cz lz) | (go_at_call 75; refine (impl_AddScaled.calls n t0 Az cz t0' (-1) a1_0 A1_1 c1_1 l1_1 t1 t1' t1b _ (mc CZ.out) LZ.out (Kd.C_below HR1.out (ms HB)) HC1.out H1.out).mono ?_; rintro e w2 ⟨v1, rfl, ho, hb⟩; obtain ⟨Ay, cy, rfl⟩ := Kd.R_slice ho; have RY := Aside0.mk (Kd.R_lower (Kd.R_mono ho (fun _ _ => trivial)) (below_size (ms HB))); replace X2 := bb X2 hb; replace X3 := bb X3 hb; (first | replace X10 := bb X10 hb | have X10 := Aside0.mk (blk_below (heap_alloc_new _ _) hb) | skip); replace HB := bs HB hb;  (try (have hz0 := (blk_cell X10.out 0).trans (rfl : _ = some (Value.int .i64 0)); have hz1 := (blk_cell X10.out 1).trans (rfl : _ = some (Value.slice none 0 0)); have hf0 := blk_frozen X10.out 0; have hf1 := blk_frozen X10.out 1; (try simp only [World.drew] at hz0 hz1 hf0 hf1))); clear ho hb))
    all_goals go_wp2
    all_goals go_meet
    case rel => exact ⟨_, _, _, rfl, rfl, ⟨heap_alloc_new _ _⟩, ⟨Kd.R_alloc RY.out _⟩, ⟨below_alloc HB.out _⟩⟩
    case rel => exact ⟨_, _, _, rfl, rfl, ⟨put2 X10.out⟩, ⟨own2 RY.out X10.out (by decide)⟩, ⟨below_set (below_set HB.out SZ.out) SZ.out⟩⟩
    case rel => exact ⟨_, _, _, rfl, rfl, ⟨put2 X10.out⟩, ⟨own2 RY.out X10.out (by decide)⟩, ⟨below_set (below_set HB.out (Nat.le_refl _)) (Nat.le_refl _)⟩⟩
   case rest =>
    obtain ⟨g6, Ay, cy, rfl, rfl, X6, RY, HB⟩ := hcut
    clear H0 H1
    have H := H2.out
    clear H2
    by_cases hb3 : t1b = true
    ·subst hb3
     first | rw [if_pos rfl] at H | rw [if_pos trivial] at H
     replace X2 := Aside0.mk (blk_below X2.out HB.out)
     replace X3 := Aside0.mk (blk_below X3.out HB.out)
     replace X4 := Aside0.mk (blk_below X4.out HB.out)
     replace HR0 := Aside0.mk (Kd.C_below HR0.out HB.out)
     replace HR1 := Aside0.mk (Kd.C_below HR1.out HB.out)
     have WQ : Aside0 (w.heap.size ≤ wq.heap.size) := ⟨HB0.out.size⟩
     replace HB0 := Aside0.mk (HB0.out.trans (HB.out.mono HB0.out.size))
     clear HB
     have HF0 := Aside0.mk (Kd.C_F heap_k29 HR0.out)
     unfold impl_FindFarkas.j1 at H
     obtain ⟨rows, B1_, H⟩ := Option.bind_eq_some_iff.mp H
     have H0 := Aside0.mk B1_
     have H2 := Aside0.mk H
     clear B1_ H
     obtain ⟨h20, h21⟩ := c2 X2
     go_wp2
     go_loopg [41, 8] n (fun kq v41 v8 w' => ∃ (i : Int) (out : List S89), v41 = .int .i64 i ∧ Aside0 (impl_FindFarkas.l0 kq l0_1 i out = some rows) ∧ Aside0 (kq ≤ n) ∧ Aside0 (Kd.N (kD w.heap.size) 89 w' wc.heap.size (fun _ => True) v8 out) ∧ Aside0 (Below wc.heap.size wc w'))
     case atStart => exact ⟨0, [], rfl, H0, ⟨Nat.le_refl _⟩, ⟨Kd.N_nil _ _ _ _ _⟩, ⟨Below.refl _ _⟩⟩
     case round =>
      clear H0 h20 h21
      obtain ⟨i, out, rfl, HA, HK, HN, HB⟩ := hrel
      cases gk with
      | zero => exact absurd HA.out (by simp [impl_FindFarkas.l0])
      | succ k1 =>
       have H := HA.out
       clear HA
       simp only [impl_FindFarkas.l0] at H
       by_cases c3 : i < (l0_1.length : Int)
       ·rw [if_pos c3] at H
        by_cases c4 : 0 ≤ i
        ·rw [if_pos c4] at H
         by_cases c9 : l0_1.length ≤ 35184372088832
         ·rw [if_pos c9] at H
          by_cases c10 : out.length < 2199023255552
          ·rw [if_pos c10] at H
           have H' := Aside0.mk H
           have C9 := Aside0.mk c9
           have C10 := Aside0.mk c10
           have I0 := Aside0.mk c4
           have I1 := Aside0.mk c3
           clear H c9 c10
           obtain ⟨ad, A1, c1, rfl, hc0, hc1, hl1, hF1⟩ := at_S HF0.out i c4 c3
           have HL1 := Aside0.mk hl1
           have HF1 := Aside0.mk hF1
           clear hl1 hF1
           replace hc0 := (HB.out.cell (World.block_lt_of_cell? _ _ hc0)).trans hc0
           replace hc1 := (HB.out.cell (World.block_lt_of_cell? _ _ hc1)).trans hc1
           have HW := Aside0.mk (Below.refl wr.heap.size wr)
           have c3b : decide (i < (l0_1.length : Int)) = true := decide_eq_true c3
           replace c3 := eq_true c3
           replace c4 := eq_true c4
           go_wp2_with (first | ((with_reducible refine gate_dst (N := 10) rfl ?_); refine box_event ?hg (N := 10) ?hd (cs := #[.int .i64 0, .slice none 0 0]) (t := 29) ?hr ?_; (case hd => rfl); (case hg => rfl); (case hr => first | (go_simp; done) | (go_simp; rfl)); intro g10 hg_ w11 hx_ hb_; have G10 := gw hg_ HW; replace HW := bs HW hb_; have X10 := Aside0.mk hx_; obtain ⟨ha0, ha1⟩ := c2 X10; have hb0 := blk_frozen X10.out 0; have hb1 := blk_frozen X10.out 1; clear hg_ hx_ hb_) | ((with_reducible refine gate_store (t := 29) (p := 10) rfl ?_); refine store_event (t := 29) (p := 10) (v := ?vo_s10) (w1 := (w11.setCell ⟨g10, 0, none⟩ (.int .i64 (rd_T29 l0_1 i).f0)).setCell ⟨g10, 1, none⟩ (.slice A1 (rd_T29 l0_1 i).f1.length c1)) ?hg ?ho ?hn ?hr ?_; (case ho => rfl); (case hg => rfl); (case hn => rfl); (case hr => first | (go_simp; done) | (go_simp; rfl)); intro w12 hw; have X10' : Aside0 (w12.heap[g10]? = some (.cells #[.int .i64 (rd_T29 l0_1 i).f0, .slice A1 (rd_T29 l0_1 i).f1.length c1] 29 (0, 0))) := ⟨by rw [hw]; exact put2 X10.out⟩; have HW' : Aside0 (Below wr.heap.size wr w12) := ⟨by rw [hw]; exact below_set (below_set HW.out G10.out) G10.out⟩; have W12 := Aside0.mk HW'.out.size; clear hw X10 HW ha0 ha1 hb0 hb1; have HW := HW'; clear HW'; obtain ⟨_, h21⟩ := c2 (Aside0.mk (blk_below X2.out (HB.out.trans (HW.out.mono HB.out.size))))) | ((with_reducible refine gate_dst (N := 49) rfl ?_); refine Kd.R_make (Kd.int .i64) _ 3 rfl (N := 49) rfl 27 _ _ rfl (l0_1.length : Int) rfl rfl Try.underlying27 (.int .i64 0) 8 info3 rfl (by decide) (by omega) 0 (ok := fun k => wr.heap.size ≤ k) (okp := fun k => wr.heap.size ≤ k) rfl (fun _ hk => hk) ?mf ?m0 ?ml (Below.refl _ _) (Nat.le_refl _) ?_; (case mf => exact HW.out.size); (case m0 => exact Int.natCast_nonneg _); (case ml => have := C9.out; simp only [Int.toNat_natCast]; omega); intro v11 w13 ho hb hg hnew; simp only [Int.toNat_natCast] at ho; obtain ⟨ys, hys⟩ : ∃ ys, ys = List.replicate l0_1.length (0 : Int) := ⟨_, rfl⟩; rw [← hys] at ho; have hyl : ys.length = l0_1.length := (by rw [hys, List.length_replicate]); obtain ⟨g11, c11, rfl, gb, gl, cl_, HG⟩ := Kd.R_form ho (by have := I0.out; have := I1.out; omega); have G11 : Aside0 (wr.heap.size ≤ g11) := ⟨Nat.le_trans HW.out.size gb⟩; have NE : Aside0 (g10 ≠ g11) := ⟨by have := blk_lt X10'.out; omega⟩; replace X10' := bb X10' hb; replace HW := bs HW hb; have NY := Aside0.mk hys; have HL := Aside0.mk hyl; have RO := Aside0.mk ho; have q11 := eq_true (show i < (ys.length : Int) by have := I1.out; omega); obtain ⟨hy_, hyf_⟩ := Kd.R_celln 0 RO.out i I0.out (show i < (ys.length : Int) by have := I1.out; omega); have HP := Kd.R_putg RO.out i 1; clear ho hb hg hnew hys hyl gb gl HG) | ((with_reducible refine gate_store (t := 3) (p := 52) rfl ?_); refine store_event (t := 3) (p := 52) (v := ?vo_s11) (w1 := (w13.setCell ⟨g11, i.toNat, none⟩ (.int .i64 1))) ?hg ?ho ?hn ?hr ?_; (case ho => rfl); (case hg => rfl); (case hn => rfl); (case hr => first | (go_simp; done) | (go_simp; rfl)); intro w14 hw; have RO' : Aside0 (Kd.R (Kd.int .i64) 3 w14 w12.heap.size (fun k => wr.heap.size ≤ k) (.slice (some ⟨g11, 0, none⟩) ys.length c11) (ys.set i.toNat 1)) := ⟨by rw [hw]; exact HP.1⟩; have X10 : Aside0 (w14.heap[g10]? = some (.cells #[.int .i64 (rd_T29 l0_1 i).f0, .slice A1 (rd_T29 l0_1 i).f1.length c1] 29 (0, 0))) := ⟨by rw [hw]; exact blk_far X10'.out NE.out _⟩; have HW' : Aside0 (Below wr.heap.size wr w14) := ⟨by rw [hw]; exact below_set HW.out G11.out⟩; clear hw HP RO X10' HW hy_ hyf_; have HW := HW'; clear HW'; obtain ⟨ha0, ha1⟩ := c2 X10) | (at_builtin; refine Kd.N_append (kD w.heap.size) (w0 := wc) wc.heap.size rfl (.tmp 53) (.tmp 57) 87 89 (.agg #[.int .i64 0, .slice none 0 0, .slice none 0 0, .int .i64 0]) 64 rfl Try.underlying87 info89 rfl (by show 0 < 4; decide) (by omega) u8 out ⟨rd_T29 l0_1 i, ys.set i.toNat 1, 0⟩ [.int .i64 (rd_T29 l0_1 i).f0, .slice A1 (rd_T29 l0_1 i).f1.length c1, .slice (some ⟨g11, 0, none⟩) ys.length c11, .int .i64 0] (fun _ => True) (fun k => some k ≠ u8.ownBlock) rfl rfl ?aP (fun k hk => ⟨trivial, hk⟩) (fun _ _ => trivial) ?aO ?aB ?aS ?aL ?_; (case aP => exact kD_mkF2 ⟨rd_T29 l0_1 i, ys.set i.toNat 1, 0⟩ HL1.out (Kd.F_mono (Kd.F_below HF1.out (HB.out.trans (HW.out.mono HB.out.size))) (fun k hk e => by have := Kd.N_base HN.out k e.symm; omega)) (Kd.R_lower (Kd.R_mono RO'.out (fun k hk e => by have := Kd.N_lt HN.out k e.symm; omega)) (Nat.le_trans HB0.out.size (Nat.le_trans HB.out.size W12.out)))); (case aO => exact Kd.N_below HN.out HW.out); (case aB => exact HB.out.trans (HW.out.mono HB.out.size)); (case aS => exact Nat.le_trans HB.out.size HW.out.size); (case aL => have := C10.out; omega); intro vo' w15 ho hb hg hat; have HN' := Aside0.mk ho; have HB' := Aside0.mk hb; clear ho hb hg hat))
           go_roundg k1
           case measure => have := HK.out; omega
           case rel => exact ⟨wrap64 (i + 1), out ++ [⟨rd_T29 l0_1 i, (List.replicate l0_1.length 0).set i.toNat 1, 0⟩], (by first | rfl | (simp; done) | (simp [*]; done)), H', ⟨by have := HK.out; omega⟩, ⟨by rw [← NY.out]; exact HN'.out⟩, HB'⟩
          rw [if_neg c10] at H; cases H
         rw [if_neg c9] at H; cases H
        rw [if_neg c4] at H; cases H
       rw [if_neg c3] at H
       simp only [Option.some.injEq] at H
       subst H
       have c3b : decide (i < (l0_1.length : Int)) = false := decide_eq_false c3
       clear c3
       go_wp2
       have H := H2.out
       clear H2
       by_cases c9 : out.length < 2199023255552 ∧ l0_1.length ≤ 35184372088832
       ·rw [if_pos c9] at H
        obtain ⟨o1, B1_, H⟩ := Option.bind_eq_some_iff.mp H
        have H0 := Aside0.mk B1_
        have H2 := Aside0.mk H
        have C9 := Aside0.mk c9
        clear B1_ H c9
        have HW := Aside0.mk (Below.refl wr.heap.size wr)
        have L6 : Aside0 (g6 < wc.heap.size) := ⟨blk_lt X6.out⟩
        have X6w := Aside0.mk (blk_below X6.out HB.out)
        have X2w := Aside0.mk (blk_below X2.out HB.out)
        have RYw : Aside0 (Kd.R (Kd.int .i64) 3 wr wq.heap.size (fun k => k < wc.heap.size) (.slice Ay t1'.length cy) t1') := ⟨Kd.R_below (Kd.R_mono (Kd.R_bound RY.out) (fun k hk => hk.2.2.1)) HB.out⟩
        refine start_ (n := 10) (S := fun w' => w'.cell? ⟨g6, 0, none⟩ = some (.int .i64 t1) ∧ w'.cell? ⟨g6, 1, none⟩ = some (.slice Ay t1'.length cy) ∧ w'.cell? ⟨q2, 1, none⟩ = some (.slice A0_1 l0_1.length c0_1)) (ds := []) #[false, false, false, false, false, false, false, false, false, false] (by kernel_rfl) rfl rfl ⟨(blk_cell (mb X6w) 0).trans rfl, (blk_cell (mb X6w) 1).trans rfl, (blk_cell (mb X2w) 1).trans rfl⟩ (fun hHeld => ?_)
        refine pure_ (i := 0) (N := some 60) (v := ?_) (a' := ?_) #[true, false, false, false, false, false, false, false, false, false] rfl rfl (by kernel_rfl) (fun _ _ _ h => h) (Or.inl ⟨by rfl, ?_⟩) ?_ ?_
        rotate_left
        ·intro w'
         go_simp
         with_reducible rfl
        rotate_left
        ·simp only [Act.put, z1, z2, z3, i64_w, i32_w]
         rfl
        refine take_ (i := 1) (N := some 61) (v := ?_) (a' := ?_) #[true, true, false, false, false, false, false, false, false, false] rfl rfl (by kernel_rfl) (fun _ _ _ h => h) (Or.inl ⟨by rfl, ?_⟩) hHeld ?_ ?_
        rotate_left
        ·rintro w' ⟨s0, s1, s2⟩
         go_simp
         with_reducible rfl
        rotate_left
        ·simp only [Act.put, z1, z2, z3, i64_w, i32_w]
         rfl
        refine pure_ (i := 2) (N := some 62) (v := ?_) (a' := ?_) #[true, true, true, false, false, false, false, false, false, false] rfl rfl (by kernel_rfl) (fun _ _ _ h => h) (Or.inl ⟨by rfl, ?_⟩) ?_ ?_
        rotate_left
        ·intro w'
         go_simp
         with_reducible rfl
        rotate_left
        ·simp only [Act.put, z1, z2, z3, i64_w, i32_w]
         rfl
        refine take_ (i := 3) (N := some 63) (v := ?_) (a' := ?_) #[true, true, true, true, false, false, false, false, false, false] rfl rfl (by kernel_rfl) (fun _ _ _ h => h) (Or.inl ⟨by rfl, ?_⟩) hHeld ?_ ?_
        rotate_left
        ·rintro w' ⟨s0, s1, s2⟩
         go_simp
         with_reducible rfl
        rotate_left
        ·simp only [Act.put, z1, z2, z3, i64_w, i32_w]
         rfl
        refine pure_ (i := 4) (N := some 64) (v := ?_) (a' := ?_) #[true, true, true, true, true, false, false, false, false, false] rfl rfl (by kernel_rfl) (fun _ _ _ h => h) (Or.inl ⟨by rfl, ?_⟩) ?_ ?_
        rotate_left
        ·intro w'
         go_simp
         with_reducible rfl
        rotate_left
        ·simp only [Act.put, z1, z2, z3, i64_w, i32_w]
         rfl
        refine one_ (i := 5) (N := some 65) #[true, true, true, true, true, true, false, false, false, false] rfl rfl (by kernel_rfl) (by decide) (fun K hK => ?_)
        refine Kd.R_make_step (Kd.int .i64) _ 3 (by rfl) (N := 65) rfl 27 _ _ rfl (l0_1.length : Int) rfl rfl Try.underlying27 (.int .i64 0) 8 info3 rfl (by decide) (by omega) 0 (ok := fun k => wr.heap.size ≤ k) (okp := fun k => wr.heap.size ≤ k) rfl (fun _ hk => hk) (show wr.heap.size ≤ _ from below_size (ms HW)) (Int.natCast_nonneg _) (by have := C9.out.2; simp only [Int.toNat_natCast]; omega) (Below.refl _ _) (Nat.le_refl _) ?_
        intro v11 w13 ho hb hg hnew
        simp only [Int.toNat_natCast] at ho
        replace X6w := bb X6w hb
        replace X2w := bb X2w hb
        replace RYw := rb RYw hb
        have RO : Aside0 (Kd.R (Kd.int .i64) 3 w13 wc.heap.size (fun k => wr.heap.size ≤ k) v11 (List.replicate l0_1.length 0)) := ⟨Kd.R_lower ho (Nat.le_trans HB.out.size (below_size (ms HW)))⟩
        obtain ⟨Am, cm, em⟩ := Kd.R_slice ho
        rw [List.length_replicate] at em
        subst em
        replace HW := bs HW hb
        clear ho hb hg hnew
        refine hK.out _ _ ⟨(c2 X6w).1, (c2 X6w).2, (blk_cell X2w.out 1).trans rfl⟩ (fun hHeld => ?_)
        clear hK K
        refine norm_ (a' := ?_) ?_ ?_
        rotate_left
        ·show Act.put _ (some 65) _ = _
         simp only [Act.put, z1, z2, z3, i64_w, i32_w]
         rfl
        refine pure_ (i := 6) (N := some 66) (v := ?_) (a' := ?_) #[true, true, true, true, true, true, true, false, false, false] rfl rfl (by kernel_rfl) (fun _ _ _ h => h) (Or.inl ⟨by rfl, ?_⟩) ?_ ?_
        rotate_left
        ·intro w'
         go_simp
         with_reducible rfl
        rotate_left
        ·simp only [Act.put, z1, z2, z3, i64_w, i32_w]
         rfl
        refine one_ (i := 7) (N := some 67) #[true, true, true, true, true, true, true, true, false, false] rfl rfl (by kernel_rfl) (by decide) (fun K hK => ?_)
        refine event_step (by rfl) (v := .slice (some ⟨w13.heap.size, 0, none⟩) 1 1) (w1 := w13.alloc (.cells #[.int .i64 t1, .slice Ay t1'.length cy, .slice Am l0_1.length cm, .int .i64 1] 89)) (by first | (go_simp; done) | (go_simp; rfl)) ?_
        refine hK.out _ _ ⟨(blk_cell (mb X6w) 0).trans rfl, (blk_cell (mb X6w) 1).trans rfl, (blk_cell (mb X2w) 1).trans rfl⟩ (fun hHeld => ?_)
        clear hK K
        refine norm_ (a' := ?_) ?_ ?_
        rotate_left
        ·show Act.put _ (some 67) _ = _
         simp only [Act.put, z1, z2, z3, i64_w, i32_w]
         rfl
        refine one_ (i := 8) (N := some 68) #[true, true, true, true, true, true, true, true, true, false] rfl rfl (by kernel_rfl) (by decide) (fun K hK => ?_)
        refine Kd.N_append_step (kD w.heap.size) (w0 := wc) wc.heap.size (by rfl) (.tmp 60) (.tmp 67) 87 89 (.agg #[.int .i64 0, .slice none 0 0, .slice none 0 0, .int .i64 0]) 64 rfl Try.underlying87 info89 rfl (by show 0 < 4; decide) (by omega) u8 out ⟨⟨t1, t1'⟩, List.replicate l0_1.length 0, 1⟩ [.int .i64 t1, .slice Ay t1'.length cy, .slice Am l0_1.length cm, .int .i64 1] (fun _ => True) (fun k => some k ≠ u8.ownBlock) rfl rfl ?xP (fun k hk => ⟨trivial, hk⟩) (fun _ _ => trivial) (Kd.N_below HN.out HW.out) (HB.out.trans (HW.out.mono HB.out.size)) (Nat.le_trans HB.out.size HW.out.size) (by have := C9.out.1; omega) ?_
        case xP => exact kD_mkF2 ⟨⟨t1, t1'⟩, List.replicate l0_1.length 0, 1⟩ (Kd.R_reads' RYw.out).2.1 (Kd.R_F (Kd.R_mono RYw.out (fun k hk e => by have := Kd.N_base HN.out k e.symm; omega))) (Kd.R_lower (Kd.R_mono RO.out (fun k hk e => by have := Kd.N_lt HN.out k e.symm; omega)) HB0.out.size)
        intro vo' w15 ho hb hg hat
        have HN' := Aside0.mk ho
        have HB' := Aside0.mk hb
        replace X6w := Aside0.mk (blk_grown X6w.out hg (fun e => by have := Kd.N_base HN.out g6 e.symm; have := L6.out; omega))
        replace X2w := Aside0.mk (blk_grown X2w.out hg (fun e => by have := Kd.N_base HN.out q2 e.symm; have := blk_lt X2.out; omega))
        clear ho hb hg hat
        refine hK.out _ _ ⟨(c2 X6w).1, (c2 X6w).2, (blk_cell X2w.out 1).trans rfl⟩ (fun hHeld => ?_)
        clear hK K
        refine norm_ (a' := ?_) ?_ ?_
        rotate_left
        ·show Act.put _ (some 68) _ = _
         simp only [Act.put, z1, z2, z3, i64_w, i32_w]
         rfl
        refine pure_ (i := 9) (N := some 8) (v := ?_) (a' := ?_) #[true, true, true, true, true, true, true, true, true, true] rfl rfl (by kernel_rfl) (fun _ _ _ h => h) (Or.inl ⟨by rfl, ?_⟩) ?_ ?_
        rotate_left
        ·intro w'
         go_simp
         with_reducible rfl
        rotate_left
        ·simp only [Act.put, z1, z2, z3, i64_w, i32_w]
         rfl
        refine done_ (by kernel_rfl) ?_
        clear HN HB X6w X2w RYw RO HW RY X6
        have HN := HN'
        have HB := HB'
        clear HN' HB'
        go_upto_region 15 with (fail)
        go_wp2
        go_loopg [12, 8] n (fun kq v12 v8 w' => ∃ (v : Int) (list : List S89), v12 = .int .i64 v ∧ Aside0 (impl_FindFarkas.l1 kq a0_0 v list = some o1) ∧ Aside0 (kq ≤ n) ∧ Aside0 (Kd.N (kD w.heap.size) 89 w' wc.heap.size (fun _ => True) v8 list) ∧ Aside0 (Below wc.heap.size wc w'))
        case atStart => exact ⟨0, _, rfl, H0, ⟨Nat.le_refl _⟩, HN, HB⟩
        case round =>
         clear H0 HN HB
         obtain ⟨v, list, rfl, HA, HK, HN, HB⟩ := hrel
         obtain ⟨Al, cl, el⟩ := Kd.N_slice HN.out
         subst el
         cases gk with
         | zero => exact absurd HA.out (by simp [impl_FindFarkas.l1])
         | succ k1 =>
          have H := HA.out
          clear HA
          simp only [impl_FindFarkas.l1] at H
          obtain ⟨h20, h21⟩ := c2 (Aside0.mk (blk_below X2.out HB.out))
          by_cases c3 : v < a0_0
          ·rw [if_pos c3] at H
           obtain ⟨o, B3_, H⟩ := Option.bind_eq_some_iff.mp H
           have H3 := Aside0.mk B3_
           clear B3_
           have c3b := decide_eq_true c3
           by_cases c4 : (o.length : Int) > 60
           ·rw [if_pos c4] at H
            simp only [Option.some.injEq] at H
            subst H
            have H := H2.out
            simp only [impl_FindFarkas.j2] at H
            simp only [Option.some.injEq, Prod.mk.injEq] at H
            obtain ⟨rfl, rfl, rfl⟩ := H
            have c4b := decide_eq_true c4
            go_upto_region 20 with (go_at_call 77; refine (impl_without.calls k1 w.heap.size Al cl list v o _ (Nat.le_trans HB0.out.size HB.out.size) (Kd.F_mono (Kd.F_bound (Kd.N_F HN.out)) (fun k hk => hk.2)) (Kd.N_reads' HN.out).2.1 H3.out).mono ?_; rintro e w16 ⟨v16, rfl, ho, hb⟩; obtain ⟨Ao, co, rfl⟩ := Kd.N_slice ho; have HN' := Aside0.mk (Kd.N_lower ho HB.out.size); have HB' := Aside0.mk (HB.out.trans (hb.mono HB.out.size)); clear ho hb)
            obtain ⟨hz0, hz1⟩ := c2 (Aside0.mk (blk_below X4.out HB'.out))
            have hzf0 := blk_frozen (blk_below X4.out HB'.out) 0
            have hzf1 := blk_frozen (blk_below X4.out HB'.out) 1
            go_wp2_with ((with_reducible refine gate_store (t := 33) (p := 4) rfl ?_); refine store_event (t := 33) (p := 4) (v := ?vo_z73) (w1 := (w16.setCell ⟨q4, 0, none⟩ (.int .i64 0)).setCell ⟨q4, 1, none⟩ (.slice none 0 0)) ?hg ?ho ?hn ?hr ?_; (case ho => rfl); (case hg => rfl); (case hn => rfl); (case hr => first | (go_simp; done) | (go_simp; rfl)); intro w9 hw; have X4' : Aside0 (w9.heap[q4]? = some (.cells #[.int .i64 0, .slice none 0 0] 33 (0, 0))) := ⟨by rw [hw]; exact put2 (blk_below X4.out HB'.out)⟩; have HB' : Aside0 (Below w.heap.size w w9) := ⟨by rw [hw]; exact below_set (below_set (HB0.out.trans (HB'.out.mono HB0.out.size)) Gq4.out) Gq4.out⟩; clear hw)
            refine bodyPost_ret (results_ct rfl _ _ q4 33 #[.int .i64 0, .slice none 0 0] (0, 0) _ rfl X4'.out Try.underlying33 rfl (by kernel_rfl)) rfl ?_
            exact ⟨_, rfl, Kd.R_nil _ _ _ _ _, HB'.out⟩
           rw [if_neg c4] at H
           have H' := Aside0.mk H
           clear H
           have c4b := decide_eq_false c4
           go_wp2_with (go_at_call 77; refine (impl_without.calls k1 w.heap.size Al cl list v o _ (Nat.le_trans HB0.out.size HB.out.size) (Kd.F_mono (Kd.F_bound (Kd.N_F HN.out)) (fun k hk => hk.2)) (Kd.N_reads' HN.out).2.1 H3.out).mono ?_; rintro e w16 ⟨v16, rfl, ho, hb⟩; obtain ⟨Ao, co, rfl⟩ := Kd.N_slice ho; have HN' := Aside0.mk (Kd.N_lower ho HB.out.size); have HB' := Aside0.mk (HB.out.trans (hb.mono HB.out.size)); clear ho hb)
           go_roundg k1
           case measure => have := HK.out; omega
           case rel => exact ⟨wrap64 (v + 1), o, (by first | rfl | (simp; done) | (simp [*]; done)), H', ⟨by have := HK.out; omega⟩, HN', HB'⟩
          rw [if_neg c3] at H
          simp only [Option.some.injEq] at H
          subst H
          have H2 : Aside0 (impl_FindFarkas.l2 n a0_0 l0_1 a1_0 l1_1 list 0 = some (r1, r2, r3)) := ⟨H2.out⟩
          have c3b := decide_eq_false c3
          clear c3
          go_wp2
          go_loopg [84] n (fun kq v84 w' => ∃ (i : Int), v84 = .int .i64 i ∧ Aside0 (impl_FindFarkas.l2 kq a0_0 l0_1 a1_0 l1_1 list i = some (r1, r2, r3)) ∧ Aside0 (kq ≤ n) ∧ Aside0 (Kd.N (kD w.heap.size) 89 w' wc.heap.size (fun _ => True) (.slice Al list.length cl) list) ∧ Aside0 (Below wc.heap.size wc w'))
          case atStart => exact ⟨0, rfl, H2, ⟨Nat.le_refl _⟩, HN, HB⟩
          case round =>
           clear H2 HN HB
           obtain ⟨i, rfl, HA, HK, HN, HB⟩ := hrel
           cases gk with
           | zero => exact absurd HA.out (by simp [impl_FindFarkas.l2])
           | succ k1 =>
            have H := HA.out
            clear HA
            simp only [impl_FindFarkas.l2] at H
            by_cases c3 : i < (list.length : Int)
            ·rw [if_pos c3] at H
             by_cases c4 : 0 ≤ i
             ·rw [if_pos c4] at H
              obtain ⟨ad, A1, c1, A2, m2, rfl, hc0, hc1, hc2, hc3, hl1, hC, hR, hK⟩ := at_D (Kd.F_mono (Kd.F_bound (Kd.N_F HN.out)) (fun k hk => hk.2)) i c4 c3
              have HRM := Aside0.mk hR
              have HW := Aside0.mk (Below.refl wr.heap.size wr)
              clear hl1 hC hR hK
              have c3b : decide (i < (list.length : Int)) = true := decide_eq_true c3
              replace c3 := eq_true c3
              replace c4 := eq_true c4
              by_cases c7 : (rd_T89 list i).f0.f0 < 0
              ·rw [if_pos c7] at H
               obtain ⟨bq, B5_, H⟩ := Option.bind_eq_some_iff.mp H
               have H5 := Aside0.mk B5_
               clear B5_
               have c7b := decide_eq_true c7
               by_cases cb : bq = true
               ·subst cb
                rw [if_pos rfl] at H
                simp only [Option.some.injEq, Prod.mk.injEq] at H
                obtain ⟨rfl, rfl, rfl⟩ := H
                go_upto_region 28 with (first | ((with_reducible refine gate_dst (N := 14) rfl ?_); refine box_event ?hg (N := 14) ?hd (cs := #[.int .i64 0, .slice none 0 0, .slice none 0 0, .int .i64 0]) (t := 89) ?hr ?_; (case hd => rfl); (case hg => rfl); (case hr => first | (go_simp; done) | (go_simp; rfl)); intro g14 hg_ w21 hx_ hb_; have G14 := gw hg_ HW; replace HW := bs HW hb_; have X14 := Aside0.mk hx_; obtain ⟨ha0, ha1, ha2, ha3⟩ := cl4 X14; obtain ⟨hb0, hb1, hb2, hb3⟩ := fz4 X14; clear hg_ hx_ hb_) | ((with_reducible refine gate_store (t := 89) (p := 14) rfl ?_); refine store_event (t := 89) (p := 14) (v := ?vo_q1) (w1 := set4 w21 g14 (.int .i64 (rd_T89 list i).f0.f0) (.slice A1 (rd_T89 list i).f0.f1.length c1) (.slice A2 (rd_T89 list i).f1.length m2) (.int .i64 (rd_T89 list i).f2)) ?hg ?ho ?hn ?hr ?_; (case ho => rfl); (case hg => rfl); (case hn => rfl); (case hr => first | (go_simp; done) | (go_simp; rfl)); intro w22 hw; have X14' : Aside0 (w22.heap[g14]? = some (.cells #[.int .i64 (rd_T89 list i).f0.f0, .slice A1 (rd_T89 list i).f0.f1.length c1, .slice A2 (rd_T89 list i).f1.length m2, .int .i64 (rd_T89 list i).f2] 89 (0, 0))) := ⟨by rw [hw]; exact put4 X14.out⟩; have HW' : Aside0 (Below wr.heap.size wr w22) := ⟨by rw [hw]; exact below4 HW.out G14.out⟩; clear hw X14 HW ha0 ha1 ha2 ha3 hb0 hb1 hb2 hb3; have HW := HW'; clear HW'; obtain ⟨ha0, ha1, ha2, ha3⟩ := cl4 X14') | ((with_reducible refine gate_dst (N := 15) rfl ?_); refine box_event ?hg (N := 15) ?hd (cs := #[.int .i64 0, .slice none 0 0]) (t := 33) ?hr ?_; (case hd => rfl); (case hg => rfl); (case hr => first | (go_simp; done) | (go_simp; rfl)); intro g15 hg_ w23 hx_ hb_; have G15 := gw hg_ HW; replace HW := bs HW hb_; have X15 := Aside0.mk hx_; obtain ⟨hp0, hp1⟩ := c2 X15; have hpf0 := blk_frozen X15.out 0; have hpf1 := blk_frozen X15.out 1; clear hg_ hx_ hb_) | ((with_reducible refine gate_store (t := 33) (p := 15) rfl ?_); refine store_event (t := 33) (p := 15) (v := ?vo_s15) (w1 := (w23.setCell ⟨g15, 0, none⟩ (.int .i64 (rd_T89 list i).f2)).setCell ⟨g15, 1, none⟩ (.slice A2 (rd_T89 list i).f1.length m2)) ?hg ?ho ?hn ?hr ?_; (case ho => rfl); (case hg => rfl); (case hn => rfl); (case hr => first | (go_simp; done) | (go_simp; rfl)); intro w24 hw; have X15' : Aside0 (w24.heap[g15]? = some (.cells #[.int .i64 (rd_T89 list i).f2, .slice A2 (rd_T89 list i).f1.length m2] 33 (0, 0))) := ⟨by rw [hw]; exact put2 X15.out⟩; have HW' : Aside0 (Below wr.heap.size wr w24) := ⟨by rw [hw]; exact below_set (below_set HW.out G15.out) G15.out⟩; clear hw X15 HW hp0 hp1 hpf0 hpf1; have HW := HW'; clear HW'; obtain ⟨hp0, hp1⟩ := c2 X15'; have HBW := Aside0.mk (HB.out.trans (HW.out.mono HB.out.size)); obtain ⟨h20, h21⟩ := c2 (Aside0.mk (blk_below X2.out HBW.out)); obtain ⟨h30, h31⟩ := c2 (Aside0.mk (blk_below X3.out HBW.out))) | (go_at_call 78; refine (impl_CheckFarkas.calls k1 a0_0 _ c0_1 l0_1 a1_0 A1_1 c1_1 l1_1 (rd_T89 list i).f2 A2 m2 (rd_T89 list i).f1 _ _ (Kd.C_below HR0.out HBW.out) HC0.out (Kd.C_below HR1.out HBW.out) HC1.out (Kd.C_below (Kd.R_reads' HRM.out).2.2 HW.out) (Kd.R_reads' HRM.out).2.1 H5.out).mono ?_; rintro e w25 ⟨rfl, hb⟩; replace HBW := bs HBW hb; replace HW := bs HW hb; obtain ⟨hp0, hp1⟩ := c2 (Aside0.mk (blk_below X15'.out hb)); clear hb))
                obtain ⟨hz0, hz1⟩ := c2 (Aside0.mk (blk_below X4.out HBW.out))
                have hzf0 := blk_frozen (blk_below X4.out HBW.out) 0
                have hzf1 := blk_frozen (blk_below X4.out HBW.out) 1
                go_wp2_with ((with_reducible refine gate_store (t := 33) (p := 4) rfl ?_); refine store_event (t := 33) (p := 4) (v := ?vo_ret) (w1 := (w25.setCell ⟨q4, 0, none⟩ (.int .i64 (rd_T89 list i).f2)).setCell ⟨q4, 1, none⟩ (.slice A2 (rd_T89 list i).f1.length m2)) ?hg ?ho ?hn ?hr ?_; (case ho => rfl); (case hg => rfl); (case hn => rfl); (case hr => first | (go_simp; done) | (go_simp; rfl)); intro w9 hw; have X4' : Aside0 (w9.heap[q4]? = some (.cells #[.int .i64 (rd_T89 list i).f2, .slice A2 (rd_T89 list i).f1.length m2] 33 (0, 0))) := ⟨by rw [hw]; exact put2 (blk_below X4.out HBW.out)⟩; have RR : Aside0 (Kd.R (Kd.int .i64) 3 w9 w.heap.size (fun _ => True) (.slice A2 (rd_T89 list i).f1.length m2) (rd_T89 list i).f1) := ⟨by rw [hw]; exact own2 (Kd.R_below HRM.out HW.out) (blk_below X4.out HBW.out) (by decide)⟩; have HB' : Aside0 (Below w.heap.size w w9) := ⟨by rw [hw]; exact below_set (below_set (HB0.out.trans (HBW.out.mono HB0.out.size)) Gq4.out) Gq4.out⟩; clear hw)
                refine bodyPost_ret (results_ct rfl _ _ q4 33 #[.int .i64 (rd_T89 list i).f2, .slice A2 (rd_T89 list i).f1.length m2] (0, 0) _ rfl X4'.out Try.underlying33 rfl (by kernel_rfl)) rfl ?_
                exact ⟨_, rfl, RR.out, HB'.out⟩
               have cb' : bq = false := by cases bq with | true => exact absurd rfl cb | false => rfl
               subst cb'
               simp only [Bool.false_eq_true, if_false] at H
               simp only [Option.some.injEq, Prod.mk.injEq] at H
               obtain ⟨rfl, rfl, rfl⟩ := H
               go_upto_region 27 with (first | ((with_reducible refine gate_dst (N := 14) rfl ?_); refine box_event ?hg (N := 14) ?hd (cs := #[.int .i64 0, .slice none 0 0, .slice none 0 0, .int .i64 0]) (t := 89) ?hr ?_; (case hd => rfl); (case hg => rfl); (case hr => first | (go_simp; done) | (go_simp; rfl)); intro g14 hg_ w21 hx_ hb_; have G14 := gw hg_ HW; replace HW := bs HW hb_; have X14 := Aside0.mk hx_; obtain ⟨ha0, ha1, ha2, ha3⟩ := cl4 X14; obtain ⟨hb0, hb1, hb2, hb3⟩ := fz4 X14; clear hg_ hx_ hb_) | ((with_reducible refine gate_store (t := 89) (p := 14) rfl ?_); refine store_event (t := 89) (p := 14) (v := ?vo_q3) (w1 := set4 w21 g14 (.int .i64 (rd_T89 list i).f0.f0) (.slice A1 (rd_T89 list i).f0.f1.length c1) (.slice A2 (rd_T89 list i).f1.length m2) (.int .i64 (rd_T89 list i).f2)) ?hg ?ho ?hn ?hr ?_; (case ho => rfl); (case hg => rfl); (case hn => rfl); (case hr => first | (go_simp; done) | (go_simp; rfl)); intro w22 hw; have X14' : Aside0 (w22.heap[g14]? = some (.cells #[.int .i64 (rd_T89 list i).f0.f0, .slice A1 (rd_T89 list i).f0.f1.length c1, .slice A2 (rd_T89 list i).f1.length m2, .int .i64 (rd_T89 list i).f2] 89 (0, 0))) := ⟨by rw [hw]; exact put4 X14.out⟩; have HW' : Aside0 (Below wr.heap.size wr w22) := ⟨by rw [hw]; exact below4 HW.out G14.out⟩; clear hw X14 HW ha0 ha1 ha2 ha3 hb0 hb1 hb2 hb3; have HW := HW'; clear HW'; obtain ⟨ha0, ha1, ha2, ha3⟩ := cl4 X14') | ((with_reducible refine gate_dst (N := 15) rfl ?_); refine box_event ?hg (N := 15) ?hd (cs := #[.int .i64 0, .slice none 0 0]) (t := 33) ?hr ?_; (case hd => rfl); (case hg => rfl); (case hr => first | (go_simp; done) | (go_simp; rfl)); intro g15 hg_ w23 hx_ hb_; have G15 := gw hg_ HW; replace HW := bs HW hb_; have X15 := Aside0.mk hx_; obtain ⟨hp0, hp1⟩ := c2 X15; have hpf0 := blk_frozen X15.out 0; have hpf1 := blk_frozen X15.out 1; clear hg_ hx_ hb_) | ((with_reducible refine gate_store (t := 33) (p := 15) rfl ?_); refine store_event (t := 33) (p := 15) (v := ?vo_s15b) (w1 := (w23.setCell ⟨g15, 0, none⟩ (.int .i64 (rd_T89 list i).f2)).setCell ⟨g15, 1, none⟩ (.slice A2 (rd_T89 list i).f1.length m2)) ?hg ?ho ?hn ?hr ?_; (case ho => rfl); (case hg => rfl); (case hn => rfl); (case hr => first | (go_simp; done) | (go_simp; rfl)); intro w24 hw; have X15' : Aside0 (w24.heap[g15]? = some (.cells #[.int .i64 (rd_T89 list i).f2, .slice A2 (rd_T89 list i).f1.length m2] 33 (0, 0))) := ⟨by rw [hw]; exact put2 X15.out⟩; have HW' : Aside0 (Below wr.heap.size wr w24) := ⟨by rw [hw]; exact below_set (below_set HW.out G15.out) G15.out⟩; clear hw X15 HW hp0 hp1 hpf0 hpf1; have HW := HW'; clear HW'; obtain ⟨hp0, hp1⟩ := c2 X15'; have HBW := Aside0.mk (HB.out.trans (HW.out.mono HB.out.size)); obtain ⟨h20, h21⟩ := c2 (Aside0.mk (blk_below X2.out HBW.out)); obtain ⟨h30, h31⟩ := c2 (Aside0.mk (blk_below X3.out HBW.out))) | (go_at_call 78; refine (impl_CheckFarkas.calls k1 a0_0 _ c0_1 l0_1 a1_0 A1_1 c1_1 l1_1 (rd_T89 list i).f2 A2 m2 (rd_T89 list i).f1 _ _ (Kd.C_below HR0.out HBW.out) HC0.out (Kd.C_below HR1.out HBW.out) HC1.out (Kd.C_below (Kd.R_reads' HRM.out).2.2 HW.out) (Kd.R_reads' HRM.out).2.1 H5.out).mono ?_; rintro e w25 ⟨rfl, hb⟩; replace HBW := bs HBW hb; replace HW := bs HW hb; obtain ⟨hp0, hp1⟩ := c2 (Aside0.mk (blk_below X15'.out hb)); clear hb))
               obtain ⟨hz0, hz1⟩ := c2 (Aside0.mk (blk_below X4.out HBW.out))
               have hzf0 := blk_frozen (blk_below X4.out HBW.out) 0
               have hzf1 := blk_frozen (blk_below X4.out HBW.out) 1
               go_wp2_with ((with_reducible refine gate_store (t := 33) (p := 4) rfl ?_); refine store_event (t := 33) (p := 4) (v := ?vo_z71) (w1 := (w25.setCell ⟨q4, 0, none⟩ (.int .i64 0)).setCell ⟨q4, 1, none⟩ (.slice none 0 0)) ?hg ?ho ?hn ?hr ?_; (case ho => rfl); (case hg => rfl); (case hn => rfl); (case hr => first | (go_simp; done) | (go_simp; rfl)); intro w9 hw; have X4' : Aside0 (w9.heap[q4]? = some (.cells #[.int .i64 0, .slice none 0 0] 33 (0, 0))) := ⟨by rw [hw]; exact put2 (blk_below X4.out HBW.out)⟩; have HB' : Aside0 (Below w.heap.size w w9) := ⟨by rw [hw]; exact below_set (below_set (HB0.out.trans (HBW.out.mono HB0.out.size)) Gq4.out) Gq4.out⟩; clear hw)
               refine bodyPost_ret (results_ct rfl _ _ q4 33 #[.int .i64 0, .slice none 0 0] (0, 0) _ rfl X4'.out Try.underlying33 rfl (by kernel_rfl)) rfl ?_
               exact ⟨_, rfl, Kd.R_nil _ _ _ _ _, HB'.out⟩
              rw [if_neg c7] at H
              have H' := Aside0.mk H
              clear H
              have c7b := decide_eq_false c7
              go_wp2_with (first | ((with_reducible refine gate_dst (N := 14) rfl ?_); refine box_event ?hg (N := 14) ?hd (cs := #[.int .i64 0, .slice none 0 0, .slice none 0 0, .int .i64 0]) (t := 89) ?hr ?_; (case hd => rfl); (case hg => rfl); (case hr => first | (go_simp; done) | (go_simp; rfl)); intro g14 hg_ w21 hx_ hb_; have G14 := gw hg_ HW; replace HW := bs HW hb_; have X14 := Aside0.mk hx_; obtain ⟨ha0, ha1, ha2, ha3⟩ := cl4 X14; obtain ⟨hb0, hb1, hb2, hb3⟩ := fz4 X14; clear hg_ hx_ hb_) | ((with_reducible refine gate_store (t := 89) (p := 14) rfl ?_); refine store_event (t := 89) (p := 14) (v := ?vo_q2) (w1 := set4 w21 g14 (.int .i64 (rd_T89 list i).f0.f0) (.slice A1 (rd_T89 list i).f0.f1.length c1) (.slice A2 (rd_T89 list i).f1.length m2) (.int .i64 (rd_T89 list i).f2)) ?hg ?ho ?hn ?hr ?_; (case ho => rfl); (case hg => rfl); (case hn => rfl); (case hr => first | (go_simp; done) | (go_simp; rfl)); intro w22 hw; have X14' : Aside0 (w22.heap[g14]? = some (.cells #[.int .i64 (rd_T89 list i).f0.f0, .slice A1 (rd_T89 list i).f0.f1.length c1, .slice A2 (rd_T89 list i).f1.length m2, .int .i64 (rd_T89 list i).f2] 89 (0, 0))) := ⟨by rw [hw]; exact put4 X14.out⟩; have HW' : Aside0 (Below wr.heap.size wr w22) := ⟨by rw [hw]; exact below4 HW.out G14.out⟩; clear hw X14 HW ha0 ha1 ha2 ha3 hb0 hb1 hb2 hb3; have HW := HW'; clear HW'; obtain ⟨ha0, ha1, ha2, ha3⟩ := cl4 X14'))
              go_roundg k1
              case measure => have := HK.out; omega
              case rel => exact ⟨wrap64 (i + 1), (by first | rfl | (simp; done) | (simp [*]; done)), H', ⟨by have := HK.out; omega⟩, ⟨Kd.N_below HN.out HW.out⟩, ⟨HB.out.trans (HW.out.mono HB.out.size)⟩⟩
             rw [if_neg c4] at H; cases H
            rw [if_neg c3] at H
            simp only [Option.some.injEq, Prod.mk.injEq] at H
            obtain ⟨rfl, rfl, rfl⟩ := H
            have c3b : decide (i < (list.length : Int)) = false := decide_eq_false c3
            clear c3
            obtain ⟨hz0, hz1⟩ := c2 (Aside0.mk (blk_below X4.out HB.out))
            have hzf0 := blk_frozen (blk_below X4.out HB.out) 0
            have hzf1 := blk_frozen (blk_below X4.out HB.out) 1
            go_wp2_with ((with_reducible refine gate_store (t := 33) (p := 4) rfl ?_); refine store_event (t := 33) (p := 4) (v := ?vo_z72) (w1 := (wr.setCell ⟨q4, 0, none⟩ (.int .i64 0)).setCell ⟨q4, 1, none⟩ (.slice none 0 0)) ?hg ?ho ?hn ?hr ?_; (case ho => rfl); (case hg => rfl); (case hn => rfl); (case hr => first | (go_simp; done) | (go_simp; rfl)); intro w9 hw; have X4' : Aside0 (w9.heap[q4]? = some (.cells #[.int .i64 0, .slice none 0 0] 33 (0, 0))) := ⟨by rw [hw]; exact put2 (blk_below X4.out HB.out)⟩; have HB' : Aside0 (Below w.heap.size w w9) := ⟨by rw [hw]; exact below_set (below_set (HB0.out.trans (HB.out.mono HB0.out.size)) Gq4.out) Gq4.out⟩; clear hw)
            refine bodyPost_ret (results_ct rfl _ _ q4 33 #[.int .i64 0, .slice none 0 0] (0, 0) _ rfl X4'.out Try.underlying33 rfl (by kernel_rfl)) rfl ?_
            exact ⟨_, rfl, Kd.R_nil _ _ _ _ _, HB'.out⟩
       rw [if_neg c9] at H; cases H
    have hb3' : t1b = false := by cases t1b with | true => exact absurd rfl hb3 | false => rfl
    subst hb3'
    simp only [Bool.false_eq_true, if_false] at H
    simp only [Option.some.injEq, Prod.mk.injEq] at H
    obtain ⟨rfl, rfl, rfl⟩ := H
    obtain ⟨hz0, hz1⟩ := c2 (Aside0.mk (blk_below X4.out HB.out))
    have hzf0 := blk_frozen (blk_below X4.out HB.out) 0
    have hzf1 := blk_frozen (blk_below X4.out HB.out) 1
    go_wp2_with ((with_reducible refine gate_store (t := 33) (p := 4) rfl ?_); refine store_event (t := 33) (p := 4) (v := ?vo_z51) (w1 := (wc.setCell ⟨q4, 0, none⟩ (.int .i64 0)).setCell ⟨q4, 1, none⟩ (.slice none 0 0)) ?hg ?ho ?hn ?hr ?_; (case ho => rfl); (case hg => rfl); (case hn => rfl); (case hr => first | (go_simp; done) | (go_simp; rfl)); intro w9 hw; have X4' : Aside0 (w9.heap[q4]? = some (.cells #[.int .i64 0, .slice none 0 0] 33 (0, 0))) := ⟨by rw [hw]; exact put2 (blk_below X4.out HB.out)⟩; have HB' : Aside0 (Below w.heap.size w w9) := ⟨by rw [hw]; exact below_set (below_set (HB0.out.trans (HB.out.mono HB0.out.size)) Gq4.out) Gq4.out⟩; clear hw)
    refine bodyPost_ret (results_ct rfl _ _ q4 33 #[.int .i64 0, .slice none 0 0] (0, 0) _ rfl X4'.out Try.underlying33 rfl (by kernel_rfl)) rfl ?_
    exact ⟨_, rfl, Kd.R_nil _ _ _ _ _, HB'.out⟩
  have hb2' : b2 = false := by cases b2 with | true => exact absurd rfl hb2 | false => rfl
  subst hb2'
  have H := HH.out
  rw [if_neg (by decide)] at H
  simp only [Option.some.injEq, Prod.mk.injEq] at H
  obtain ⟨rfl, rfl, rfl⟩ := H
  clear HH
  go_upto_region 2 with (first | (go_at_call 73; refine (impl_IsValidSystem.calls n a0_0 A0_1 c0_1 l0_1 _ _ HR0.out HC0.out D1.out).mono ?_; rintro e wp ⟨rfl, hb⟩; replace HB := bs HB hb; replace h20 := (hb.cell (World.block_lt_of_cell? _ _ h20)).trans h20; replace h30 := (hb.cell (World.block_lt_of_cell? _ _ h30)).trans h30; replace h31 := (hb.cell (World.block_lt_of_cell? _ _ h31)).trans h31; clear hb) | (go_at_call 74; refine (impl_IsValidLin.calls n a1_0 A1_1 c1_1 l1_1 a0_0 _ _ (Kd.C_below HR1.out HB.out) HC1.out D2.out).mono ?_; rintro e wq ⟨rfl, hb⟩; replace HB := bs HB hb; clear hb))
  obtain ⟨hz0, hz1⟩ := c2 (Aside0.mk (blk_below X4.out HB.out))
  have hzf0 := blk_frozen (blk_below X4.out HB.out) 0
  have hzf1 := blk_frozen (blk_below X4.out HB.out) 1
  go_wp2_with ((with_reducible refine gate_store (t := 33) (p := 4) rfl ?_); refine store_event (t := 33) (p := 4) (v := ?vo_z1) (w1 := (wq.setCell ⟨q4, 0, none⟩ (.int .i64 0)).setCell ⟨q4, 1, none⟩ (.slice none 0 0)) ?hg ?ho ?hn ?hr ?_; (case ho => rfl); (case hg => rfl); (case hn => rfl); (case hr => first | (go_simp; done) | (go_simp; rfl)); intro w9 hw; have X4' : Aside0 (w9.heap[q4]? = some (.cells #[.int .i64 0, .slice none 0 0] 33 (0, 0))) := ⟨by rw [hw]; exact put2 (blk_below X4.out HB.out)⟩; have HB' : Aside0 (Below w.heap.size w w9) := ⟨by rw [hw]; exact below_set (below_set (HB0.out.trans (HB.out.mono HB0.out.size)) Gq4.out) Gq4.out⟩; clear hw)
  refine bodyPost_ret (results_ct rfl _ _ q4 33 #[.int .i64 0, .slice none 0 0] (0, 0) _ rfl X4'.out Try.underlying33 rfl (by kernel_rfl)) rfl ?_
  exact ⟨_, rfl, Kd.R_nil _ _ _ _ _, HB'.out⟩
 have hb1' : b1 = false := by cases b1 with | true => exact absurd rfl hb1 | false => rfl
 subst hb1'
 rw [if_neg (by decide)] at H
 simp only [Option.some.injEq, Prod.mk.injEq] at H
 obtain ⟨rfl, rfl, rfl⟩ := H
 have HB := Aside0.mk (Below.refl wo.heap.size wo)
 go_upto_region 2 with (go_at_call 73; refine (impl_IsValidSystem.calls n a0_0 A0_1 c0_1 l0_1 _ _ HR0.out HC0.out D1.out).mono ?_; rintro e wp ⟨rfl, hb⟩; replace HB := bs HB hb; replace h20 := (hb.cell (World.block_lt_of_cell? _ _ h20)).trans h20; replace h30 := (hb.cell (World.block_lt_of_cell? _ _ h30)).trans h30; replace h31 := (hb.cell (World.block_lt_of_cell? _ _ h31)).trans h31; clear hb)
 obtain ⟨hz0, hz1⟩ := c2 (Aside0.mk (blk_below X4.out HB.out))
 have hzf0 := blk_frozen (blk_below X4.out HB.out) 0
 have hzf1 := blk_frozen (blk_below X4.out HB.out) 1
 go_wp2_with ((with_reducible refine gate_store (t := 33) (p := 4) rfl ?_); refine store_event (t := 33) (p := 4) (v := ?vo_z2) (w1 := (wp.setCell ⟨q4, 0, none⟩ (.int .i64 0)).setCell ⟨q4, 1, none⟩ (.slice none 0 0)) ?hg ?ho ?hn ?hr ?_; (case ho => rfl); (case hg => rfl); (case hn => rfl); (case hr => first | (go_simp; done) | (go_simp; rfl)); intro w9 hw; have X4' : Aside0 (w9.heap[q4]? = some (.cells #[.int .i64 0, .slice none 0 0] 33 (0, 0))) := ⟨by rw [hw]; exact put2 (blk_below X4.out HB.out)⟩; have HB' : Aside0 (Below w.heap.size w w9) := ⟨by rw [hw]; exact below_set (below_set (HB0.out.trans (HB.out.mono HB0.out.size)) Gq4.out) Gq4.out⟩; clear hw)
 refine bodyPost_ret (results_ct rfl _ _ q4 33 #[.int .i64 0, .slice none 0 0] (0, 0) _ rfl X4'.out Try.underlying33 rfl (by kernel_rfl)) rfl ?_
 exact ⟨_, rfl, Kd.R_nil _ _ _ _ _, HB'.out⟩
theorem impl_FindFarkas.l0_mono : ∀ k a b c, LeO (impl_FindFarkas.l0 k a b c) (impl_FindFarkas.l0 (k + 1) a b c) := by
 intro k
 induction k with
 | zero => intros; exact LeO.none _
 | succ k ih =>
  intro a b c
  rw [impl_FindFarkas.l0, impl_FindFarkas.l0]
  repeat' first | exact LeO.refl _ | exact ih _ _ _ | apply LeO.ite | refine LeO.bind ?_ (fun _ => ?_)
theorem impl_FindFarkas.l1_mono : ∀ k a b c, LeO (impl_FindFarkas.l1 k a b c) (impl_FindFarkas.l1 (k + 1) a b c) := by
 intro k
 induction k with
 | zero => intros; exact LeO.none _
 | succ k ih =>
  intro a b c
  rw [impl_FindFarkas.l1, impl_FindFarkas.l1]
  repeat' first | exact LeO.refl _ | exact ih _ _ _ | exact impl_without.mono _ _ _ | apply LeO.ite | refine LeO.bind ?_ (fun _ => ?_)
theorem impl_FindFarkas.l2_mono : ∀ k a b c d e f, LeO (impl_FindFarkas.l2 k a b c d e f) (impl_FindFarkas.l2 (k + 1) a b c d e f) := by
 intro k
 induction k with
 | zero => intros; exact LeO.none _
 | succ k ih =>
  intro a b c d e f
  rw [impl_FindFarkas.l2, impl_FindFarkas.l2]
  repeat' first | exact LeO.refl _ | exact ih _ _ _ _ _ _ | exact impl_CheckFarkas.mono _ _ _ _ _ _ _ | apply LeO.ite | refine LeO.bind ?_ (fun _ => ?_)
theorem impl_FindFarkas.mono : ∀ a b c d k, LeO (impl_FindFarkas.f k a b c d) (impl_FindFarkas.f (k + 1) a b c d) := by
 intro a b c d k
 unfold impl_FindFarkas.f impl_FindFarkas.j1
 repeat' first | exact LeO.refl _ | exact impl_IsValidSystem.mono _ _ _ | exact impl_IsValidLin.mono _ _ _ _ | exact impl_AddScaled.mono _ _ _ _ _ _ | exact impl_FindFarkas.l0_mono _ _ _ _ | exact impl_FindFarkas.l1_mono _ _ _ _ | apply LeO.ite | refine LeO.bind ?_ (fun o => ?_)
 cases o with
 | none => exact LeO.refl _
 | some l => exact impl_FindFarkas.l2_mono _ _ _ _ _ _ _

/-! ### impl_Entails: function 18 -/
def impl_Entails.f (k : Nat) (a0_0 : Int) (l0_1 : List (S29)) (a1_0 : Int) (l1_1 : List Int) : Option (Bool) := (impl_FindFarkas.f k a0_0 l0_1 a1_0 l1_1).bind fun bt224 => (some bt224.2.2)
theorem impl_Entails.mono : ∀ a0 a1 a2 a3 k, LeO (impl_Entails.f k a0 a1 a2 a3) (impl_Entails.f (k + 1) a0 a1 a2 a3) := by
 intro a0 a1 a2 a3 k
 unfold impl_Entails.f
 repeat' with_reducible first
 | exact impl_FindFarkas.mono _ _ _ _ _
 | exact LeO.refl _
 | exact LeO.none _
 | refine LeO.ite ?_ ?_
 | refine LeO.bind ?_ (fun _ => ?_)
set_option maxHeartbeats 8000000 in
set_option maxRecDepth 100000 in
theorem impl_Entails.calls (k : Nat) (a0_0 : Int) (A0_1 : Option Addr) (c0_1 : Nat) (l0_1 : List (S29)) (a1_0 : Int) (A1_1 : Option Addr) (c1_1 : Nat) (l1_1 : List Int) (r : Bool) (w : World) (hr0_1 : Kd.C k29 w A0_1 l0_1.length l0_1) (hc0_1 : l0_1.length ≤ c0_1) (hr1_1 : Kd.C (Kd.int .i64) w A1_1 l1_1.length l1_1) (hc1_1 : l1_1.length ≤ c1_1) (h : impl_Entails.f k a0_0 l0_1 a1_0 l1_1 = some r) :
  Calls Try.prog 18 #[.agg #[.int .i64 a0_0, .slice A0_1 l0_1.length c0_1], .agg #[.int .i64 a1_0, .slice A1_1 l1_1.length c1_1]] w fun e w' => e = .returned (.bool r) ∧ Below w.heap.size w w' := by
 have hu26 := Try.underlying26
 have hu29 := Try.underlying29
 have hu33 := Try.underlying33
 have HR0_1 := Aside0.mk hr0_1
 have HC0_1 := Aside0.mk hc0_1
 clear hr0_1 hc0_1
 have HR1_1 := Aside0.mk hr1_1
 have HC1_1 := Aside0.mk hc1_1
 clear hr1_1 hc1_1
 have HB := Aside0.mk (Below.refl w.heap.size w)
 have H : ((impl_FindFarkas.f k a0_0 l0_1 a1_0 l1_1).bind fun bt224 => (some bt224.2.2)) = some r := h
 clear h
 replace H := Option.bind_eq_some_iff.mp H
 obtain ⟨⟨t224, t225, t228⟩, A30, H⟩ := H
 replace H : (some t228) = some r := H
 have A3 := Aside0.mk A30
 clear A30
 obtain rfl := Option.some.inj H
 go_enter Try.func18, Try.ntmps18
 go_wp2_with (first | ((with_reducible refine gate_dst (N := 2) rfl ?_); refine box_event ?hg (N := 2) ?hd (cs := #[.int .i64 a0_0, .slice A0_1 l0_1.length c0_1]) (t := 26) ?hr ?_; (case hd => rfl); (case hg => rfl); (case hr => first | (go_simp; done) | (go_simp; rfl)); intro gb222 hg w4 hbox hb; have BK222 := Aside0.mk (hbox); have GW222 := gw hg HB; have GE222 := gw hg HB; replace HB := bs HB hb; clear hb hbox hg) | ((with_reducible refine gate_dst (N := 3) rfl ?_); refine box_event ?hg (N := 3) ?hd (cs := #[.int .i64 a1_0, .slice A1_1 l1_1.length c1_1]) (t := 29) ?hr ?_; (case hd => rfl); (case hg => rfl); (case hr => first | (go_simp; done) | (go_simp; rfl)); intro gb223 hg w5 hbox hb; have BK223 := Aside0.mk (hbox); have GW223 := gw hg HB; have GE223 := gw hg HB; replace HB := bs HB hb; have NB222_223 := nl hg BK222; have NB223_222 := ng hg BK222; replace BK222 := bb BK222 hb; clear hb hbox hg; have := NB222_223.out; have := NB223_222.out; obtain ⟨_, _, _, _⟩ := cFour BK222; obtain ⟨_, _, _, _⟩ := cFour BK223) | ((with_reducible refine gate_callee (f := 15) rfl ?_); refine gl (some 10) rfl rfl Try.func15 (by kernel_rfl) rfl #[.agg #[.int .i64 a0_0, .slice A0_1 l0_1.length c0_1], .agg #[.int .i64 a1_0, .slice A1_1 l1_1.length c1_1]] rfl ?_; (with_reducible refine (impl_FindFarkas.calls k a0_0 _ _ l0_1 a1_0 _ _ l1_1 t224 t225 t228 _ ?side1 ?side2 ?side3 ?side4 A3.out).mono ?_); (case side1 => exact mc ((Kd.C_below HR0_1.out HB.out))); (case side2 => exact HC0_1.out); (case side3 => exact mc ((Kd.C_below HR1_1.out HB.out))); (case side4 => exact HC1_1.out); rintro e w9 ⟨v226, rfl, ho0, hb⟩; refine ⟨_, rfl, ?_⟩; have HO227 := Aside0.mk (Kd.R_lower ho0 (below_size (ms HB))); replace BK222 := bb BK222 hb; replace BK223 := bb BK223 hb; replace HB := bs HB hb; (try clear hb); (try clear ho0)) | ((with_reducible refine gate_dst (N := 5) rfl ?_); refine box_event ?hg (N := 5) ?hd (cs := #[.int .i64 0, .slice none 0 0]) (t := 33) ?hr ?_; (case hd => rfl); (case hg => rfl); (case hr => first | (go_simp; done) | (go_simp; rfl)); intro gb229 hg w10 hbox hb; replace HO227 := rb HO227 hb; have BK229 := Aside0.mk (hbox); have GW229 := gw hg HB; have GE229 := gw hg HB; replace HB := bs HB hb; have NB222_229 := nl hg BK222; have NB229_222 := ng hg BK222; replace BK222 := bb BK222 hb; have NB223_229 := nl hg BK223; have NB229_223 := ng hg BK223; replace BK223 := bb BK223 hb; clear hb hbox hg; have := NB229_222.out; have := NB222_229.out; have := NB229_223.out; have := NB223_229.out; obtain ⟨_, _, _, _⟩ := cFour BK229; obtain ⟨Ao14, co14, eo14⟩ := Kd.R_slice HO227.out; subst eo14))
 go_ret
 exact ⟨by first | rfl | (simp [errW_none, errW_some] <;> rfl) | (simp [*, errW_none, errW_some] <;> rfl), ms HB⟩

/-! ### impl_IsEmptySystem: function 20 -/
def impl_IsEmptySystem.f (k : Nat) (a0_0 : Int) (l0_1 : List (S29)) : Option (Bool) := (impl_ConstLin.f (-1) a0_0).bind fun bt231 => ((impl_Entails.f k a0_0 l0_1 bt231.1 bt231.2).bind fun t235 => (some t235))
theorem impl_IsEmptySystem.mono : ∀ a0 a1 k, LeO (impl_IsEmptySystem.f k a0 a1) (impl_IsEmptySystem.f (k + 1) a0 a1) := by
 intro a0 a1 k
 unfold impl_IsEmptySystem.f
 repeat' with_reducible first
 | exact impl_Entails.mono _ _ _ _ _
 | exact LeO.refl _
 | exact LeO.none _
 | refine LeO.ite ?_ ?_
 | refine LeO.bind ?_ (fun _ => ?_)
set_option maxHeartbeats 8000000 in
set_option maxRecDepth 100000 in
theorem impl_IsEmptySystem.calls (k : Nat) (a0_0 : Int) (A0_1 : Option Addr) (c0_1 : Nat) (l0_1 : List (S29)) (r : Bool) (w : World) (hr0_1 : Kd.C k29 w A0_1 l0_1.length l0_1) (hc0_1 : l0_1.length ≤ c0_1) (h : impl_IsEmptySystem.f k a0_0 l0_1 = some r) :
  Calls Try.prog 20 #[.agg #[.int .i64 a0_0, .slice A0_1 l0_1.length c0_1]] w fun e w' => e = .returned (.bool r) ∧ Below w.heap.size w w' := by
 have hu26 := Try.underlying26
 have HR0_1 := Aside0.mk hr0_1
 have HC0_1 := Aside0.mk hc0_1
 clear hr0_1 hc0_1
 have HB := Aside0.mk (Below.refl w.heap.size w)
 have H : ((impl_ConstLin.f (-1) a0_0).bind fun bt231 => ((impl_Entails.f k a0_0 l0_1 bt231.1 bt231.2).bind fun t235 => (some t235))) = some r := h
 clear h
 replace H := Option.bind_eq_some_iff.mp H
 obtain ⟨⟨t231, t232⟩, A20, H⟩ := H
 replace H : ((impl_Entails.f k a0_0 l0_1 t231 t232).bind fun t235 => (some t235)) = some r := H
 have A2 := Aside0.mk A20
 clear A20
 replace H := Option.bind_eq_some_iff.mp H
 obtain ⟨t235, A30, H⟩ := H
 replace H : (some t235) = some r := H
 have A3 := Aside0.mk A30
 clear A30
 obtain rfl := Option.some.inj H
 go_enter Try.func20, Try.ntmps20
 try go_wp2_with (first | ((with_reducible refine gate_dst (N := 1) rfl ?_); refine box_event ?hg (N := 1) ?hd (cs := #[.int .i64 a0_0, .slice A0_1 l0_1.length c0_1]) (t := 26) ?hr ?_; (case hd => rfl); (case hg => rfl); (case hr => first | (go_simp; done) | (go_simp; rfl)); intro gb230 hg w4 hbox hb; have BK230 := Aside0.mk (hbox); have GW230 := gw hg HB; have GE230 := gw hg HB; replace HB := bs HB hb; clear hb hbox hg))
 replace BK230 := Aside0.mk (blk_drew BK230.out)
 replace HB := Aside0.mk (below_drew1 HB.out)
 refine start_ (n := 6) (S := fun w' => w'.cell? ⟨gb230, 0, none⟩ = some (.int .i64 a0_0) ∧ w'.cell? ⟨gb230, 1, none⟩ = some (.slice A0_1 l0_1.length c0_1)) (ds := []) #[false, false, false, false, false, false] (by kernel_rfl) rfl rfl ⟨(c2 BK230).1, (c2 BK230).2⟩ (fun hHeld => ?_)
 generalize w4.drew = w5 at BK230 HB hHeld ⊢
 refine pure_ (i := 1) (N := some 4) (v := ?_) (a' := ?_) #[false, true, false, false, false, false] rfl rfl (by kernel_rfl) (fun _ _ _ h => h) (Or.inl ⟨by rfl, ?_⟩) ?_ ?_
 rotate_left
 ·intro w'
  go_simp
  with_reducible rfl
 rotate_left
 ·simp only [Act.put, z1, z2, z3, i64_w, i32_w]
  rfl
 refine take_ (i := 0) (N := some 3) (v := ?_) (a' := ?_) #[true, true, false, false, false, false] rfl rfl (by kernel_rfl) (fun _ _ _ h => h) (Or.inl ⟨by rfl, ?_⟩) hHeld ?_ ?_
 rotate_left
 ·rintro w' ⟨s0, s1⟩
  go_simp
  with_reducible rfl
 rotate_left
 ·simp only [Act.put, z1, z2, z3, i64_w, i32_w]
  rfl
 refine take_ (i := 2) (N := some 5) (v := ?_) (a' := ?_) #[true, true, true, false, false, false] rfl rfl (by kernel_rfl) (fun _ _ _ h => h) (Or.inl ⟨by rfl, ?_⟩) hHeld ?_ ?_
 rotate_left
 ·rintro w' ⟨s0, s1⟩
  go_simp
  with_reducible rfl
 rotate_left
 ·simp only [Act.put, z1, z2, z3, i64_w, i32_w]
  rfl
 refine one_ (i := 3) (N := some 6) #[true, true, true, true, false, false] rfl rfl (by kernel_rfl) (by decide) (fun K hK => ?_)
 refine gs Try.func76 (by kernel_rfl) rfl #[.int .i64 (-1), .int .i64 a0_0] (by rfl) rfl rfl ?_
 with_reducible refine (impl_ConstLin.calls (-1) a0_0 t231 t232 _ A2.out).mono ?_
 rintro e w6 ⟨v233, rfl, ho0, hb⟩
 refine ⟨_, rfl, ?_⟩
 have HO234 := Aside0.mk (Kd.R_lower ho0 (below_size (ms HB)))
 replace BK230 := bb BK230 hb
 replace HB := bs HB hb
 (try clear hb)
 (try clear hb2)
 (try clear hk)
 (try clear hi)
 (try clear ho0)
 obtain ⟨Ao7, co7, eo7⟩ := Kd.R_slice HO234.out
 (first | subst eo7 | (injection eo7 with f1_ f2_ f3_; have f4_ := f1_.symm; have f5_ := f3_.symm; clear f1_ f2_ f3_; subst f4_; subst f5_))
 refine hK.out _ _ ⟨(c2 BK230).1, (c2 BK230).2⟩ (fun hHeld => ?_)
 clear hK K
 refine norm_ (a' := ?_) ?_ ?_
 rotate_left
 ·show Act.put _ (some 6) _ = _
  simp only [Act.put, z1, z2, z3, i64_w, i32_w]
  rfl
 refine one_ (i := 4) (N := some 7) #[true, true, true, true, true, false] rfl rfl (by kernel_rfl) (by decide) (fun K hK => ?_)
 refine gs Try.func18 (by kernel_rfl) rfl #[.agg #[.int .i64 a0_0, .slice A0_1 l0_1.length c0_1], .agg #[.int .i64 t231, .slice Ao7 t232.length co7]] (by rfl) rfl rfl ?_
 with_reducible refine (impl_Entails.calls k a0_0 _ _ l0_1 t231 _ _ t232 t235 _ ?side1 ?side2 ?side3 ?side4 A3.out).mono ?_
 (case side1 => exact mc ((Kd.C_below HR0_1.out HB.out)))
 (case side2 => exact HC0_1.out)
 (case side3 => exact mc ((Kd.R_reads' HO234.out).2.2))
 (case side4 => exact (Kd.R_reads' HO234.out).2.1)
 rintro e w8 ⟨rfl, hb⟩
 refine ⟨_, rfl, ?_⟩
 replace HO234 := rb HO234 hb
 replace BK230 := bb BK230 hb
 replace HB := bs HB hb
 (try clear hb)
 (try clear hb2)
 (try clear hk)
 (try clear hi)
 refine hK.out _ _ ⟨(c2 BK230).1, (c2 BK230).2⟩ (fun hHeld => ?_)
 clear hK K
 refine norm_ (a' := ?_) ?_ ?_
 rotate_left
 ·show Act.put _ (some 7) _ = _
  simp only [Act.put, z1, z2, z3, i64_w, i32_w]
  rfl
 refine pure_ (i := 5) (N := some 2) (v := ?_) (a' := ?_) #[true, true, true, true, true, true] rfl rfl (by kernel_rfl) (fun _ _ _ h => h) (Or.inl ⟨by rfl, ?_⟩) ?_ ?_
 rotate_left
 ·intro w'
  go_simp
  with_reducible rfl
 rotate_left
 ·simp only [Act.put, z1, z2, z3, i64_w, i32_w]
  rfl
 refine done_ (by kernel_rfl) ?_
 try go_wp2
 go_ret
 exact ⟨by first | rfl | (simp [errW_none, errW_some] <;> rfl) | (simp [*, errW_none, errW_some] <;> rfl), ms HB⟩

/-! ### spec_l1In: function 85 -/
def spec_l1In.f (a0 : Int) (a1 : Int) (a2 : Int) : Option (Bool) := if a0 ≥ a1 then (some (decide (a0 ≤ a2))) else (some false)
set_option maxHeartbeats 8000000 in
set_option maxRecDepth 100000 in
theorem spec_l1In.calls (a0 : Int) (a1 : Int) (a2 : Int) (r : Bool) (w : World) (h : spec_l1In.f a0 a1 a2 = some r) :
  Calls Try.prog 85 #[.int .i64 a0, .int .i64 a1, .int .i64 a2] w fun e w' => e = .returned (.bool r) ∧ Drawn0 w w' := by
 have H : (if a0 ≥ a1 then (some (decide (a0 ≤ a2))) else (some false)) = some r := h
 clear h
 by_cases c4 : a0 ≥ a1
 ·rw [if_pos c4] at H
  have c4b0 : decide (a1 ≤ a0) = true := decide_eq_true c4
  clear c4
  obtain rfl := Option.some.inj H
  go_enter Try.func85, Try.ntmps85
  go_wp2
  go_ret
  exact ⟨by first | rfl | (simp; done) | (simp [*]; done), by repeat (first | exact Drawn0.refl _ | apply Drawn0.step)⟩
 rw [if_neg c4] at H
 have c4b0 : decide (a1 ≤ a0) = false := decide_eq_false c4
 clear c4
 obtain rfl := Option.some.inj H
 go_enter Try.func85, Try.ntmps85
 go_wp2
 go_ret
 exact ⟨by first | rfl | (simp; done) | (simp [*]; done), by repeat (first | exact Drawn0.refl _ | apply Drawn0.step)⟩

/-! ### spec_l3In: function 129 -/
def spec_l3In.f (a0 : Int) : Option (Bool) := (spec_l1In.f a0 (-1000000000) 1000000000).bind fun t236 => (some t236)
set_option maxHeartbeats 8000000 in
set_option maxRecDepth 100000 in
theorem spec_l3In.calls (a0 : Int) (r : Bool) (w : World) (h : spec_l3In.f a0 = some r) :
  Calls Try.prog 129 #[.int .i64 a0] w fun e w' => e = .returned (.bool r) ∧ Drawn0 w w' := by
 have H : ((spec_l1In.f a0 (-1000000000) 1000000000).bind fun t236 => (some t236)) = some r := h
 clear h
 replace H := Option.bind_eq_some_iff.mp H
 obtain ⟨t236, A20, H⟩ := H
 replace H : (some t236) = some r := H
 have A2 := Aside0.mk A20
 clear A20
 obtain rfl := Option.some.inj H
 go_enter Try.func129, Try.ntmps129
 go_wp2_with (first | ((with_reducible refine gate_callee (f := 85) rfl ?_); refine gl (some 4) rfl rfl Try.func85 (by kernel_rfl) rfl #[.int .i64 a0, .int .i64 (-1000000000), .int .i64 1000000000] rfl ?_; (with_reducible refine (spec_l1In.calls a0 (-1000000000) 1000000000 t236 _ A2.out).mono ?_); rintro e w' ⟨rfl, ⟨nd, rfl⟩⟩; refine ⟨_, rfl, ?_⟩))
 go_ret
 exact ⟨by first | rfl | (simp; done) | (simp [*]; done), by repeat (first | exact Drawn0.refl _ | apply Drawn0.step)⟩

/-! ### spec_IsValidLin: function 80 -/
def spec_IsValidLin.l0 : Nat → Int → Int → Int → List Int → Option (Bool)
 | 0, _, _, _, _ => none
 | k + 1, x1, x5, x238000, x238001 => if x5 < (x238001.length : Int) then (if 0 ≤ x5 then ((spec_l3In.f (rd x238001 x5)).bind fun t239 => (if t239 = true then (spec_IsValidLin.l0 k x1 (wrap64 (x5 + 1)) x238000 x238001) else (some false))) else (none)) else ((spec_l1In.f x1 0 8).bind fun t240 => (if t240 = true then (if (x238001.length : Int) = x1 then ((spec_l3In.f x238000).bind fun t241 => (some t241)) else (some false)) else (some false)))
def spec_IsValidLin.f (k : Nat) (a0_0 : Int) (l0_1 : List Int) (a1 : Int) : Option (Bool) := spec_IsValidLin.l0 k a1 0 a0_0 l0_1
theorem spec_IsValidLin.mono_l : ∀ k, (∀ y0 y1 y2 y3, LeO (spec_IsValidLin.l0 k y0 y1 y2 y3) (spec_IsValidLin.l0 (k + 1) y0 y1 y2 y3))
 | 0 => fun _ _ _ _ r h => by simp [spec_IsValidLin.l0] at h
 | k + 1 => by
  have ih0 := spec_IsValidLin.mono_l k
  ·intro y0 y1 y2 y3
   unfold spec_IsValidLin.l0
   repeat' with_reducible first
   | exact ih0 _ _ _ _
   | exact LeO.refl _
   | exact LeO.none _
   | refine LeO.ite ?_ ?_
   | refine LeO.bind ?_ (fun _ => ?_)
theorem spec_IsValidLin.mono : ∀ a0 a1 a2 k, LeO (spec_IsValidLin.f k a0 a1 a2) (spec_IsValidLin.f (k + 1) a0 a1 a2) := by
 intro a0 a1 a2 k
 have ih0 := spec_IsValidLin.mono_l k
 unfold spec_IsValidLin.f
 repeat' with_reducible first
 | exact ih0 _ _ _ _
 | exact LeO.refl _
 | exact LeO.none _
 | refine LeO.ite ?_ ?_
 | refine LeO.bind ?_ (fun _ => ?_)
set_option maxHeartbeats 8000000 in
set_option maxRecDepth 100000 in
theorem spec_IsValidLin.calls (k : Nat) (a0_0 : Int) (A0_1 : Option Addr) (c0_1 : Nat) (l0_1 : List Int) (a1 : Int) (r : Bool) (w : World) (hr0_1 : Kd.C (Kd.int .i64) w A0_1 l0_1.length l0_1) (hc0_1 : l0_1.length ≤ c0_1) (h : spec_IsValidLin.f k a0_0 l0_1 a1 = some r) :
  Calls Try.prog 80 #[.agg #[.int .i64 a0_0, .slice A0_1 l0_1.length c0_1], .int .i64 a1] w fun e w' => e = .returned (.bool r) ∧ Below w.heap.size w w' := by
 have hu29 := Try.underlying29
 have HR0_1 := Aside0.mk hr0_1
 have HC0_1 := Aside0.mk hc0_1
 clear hr0_1 hc0_1
 have HB := Aside0.mk (Below.refl w.heap.size w)
 have H : (spec_IsValidLin.l0 k a1 0 a0_0 l0_1) = some r := h
 clear h
 have H' := Aside0.mk H
 clear H
 go_enter Try.func80, Try.ntmps80
 go_wp2_with (first | ((with_reducible refine gate_dst (N := 2) rfl ?_); refine box_event ?hg (N := 2) ?hd (cs := #[.int .i64 a0_0, .slice A0_1 l0_1.length c0_1]) (t := 29) ?hr ?_; (case hd => rfl); (case hg => rfl); (case hr => first | (go_simp; done) | (go_simp; rfl)); intro gb237 hg w3 hbox hb; have BK237 := Aside0.mk (hbox); have GW237 := gw hg HB; have GE237 := gw hg HB; replace HB := bs HB hb; clear hb hbox hg))
 go_loopg [5] k (fun kq v5 w' => ∃ (x5_1 : Int), v5 = .int .i64 x5_1 ∧ Aside0 (spec_IsValidLin.l0 kq a1 x5_1 a0_0 l0_1 = some r) ∧ Aside0 (kq ≤ k) ∧ Aside0 (w'.heap[gb237]? = some (.cells #[.int .i64 a0_0, (.slice A0_1 l0_1.length c0_1)] 29 (0, 0))) ∧ Aside0 (Below w.heap.size w w'))
 case atStart => exact ⟨(0), (by first | rfl | (simp; done) | (simp [*]; done)), H', ⟨Nat.le_refl _⟩, ⟨mb BK237⟩, ⟨ms HB⟩⟩
 case round =>
  clear H'
  try clear p2
  obtain ⟨x5_1, rfl, HA, HK1, BK237, HB⟩ := hrel
  cases gk with
  | zero => exact absurd HA.out (by simp [spec_IsValidLin.l0])
  | succ k1 =>
   have H := HA.out
   clear HA
   simp only [spec_IsValidLin.l0] at H
   by_cases c4 : x5_1 < (l0_1.length : Int)
   ·rw [if_pos c4] at H
    have c4b0 : decide (x5_1 < (l0_1.length : Int)) = true := decide_eq_true c4
    clear c4
    by_cases c5 : 0 ≤ x5_1
    ·rw [if_pos c5] at H
     have c5b0 : decide (0 ≤ x5_1) = true := decide_eq_true c5
     clear c5
     replace H := Option.bind_eq_some_iff.mp H
     obtain ⟨t239, A60, H⟩ := H
     replace H : (if t239 = true then (spec_IsValidLin.l0 k1 a1 (wrap64 (x5_1 + 1)) a0_0 l0_1) else (some false)) = some r := H
     have A6 := Aside0.mk A60
     clear A60
     by_cases c7 : t239 = true
     ·subst c7
      have H1 : (spec_IsValidLin.l0 k1 a1 (wrap64 (x5_1 + 1)) a0_0 l0_1) = some r := by rw [if_pos rfl] at H; exact H
      clear H
      have H := H1
      clear H1
      have H' := Aside0.mk H
      clear H
      obtain ⟨_, _, _, _⟩ := cFour BK237
      have p238 : 0 ≤ (x5_1 : Int) := of_decide_eq_true (by first | (with_reducible assumption) | assumption)
      have q238 : x5_1 < (l0_1.length : Int) := of_decide_eq_true (by first | (with_reducible assumption) | assumption)
      obtain ⟨ad238, e238, hx238_0⟩ := Kd.at_int HR0_1.out x5_1 p238 q238
      cases e238
      replace hx238_0 := (HB.out.cell (World.block_lt_of_cell? w _ hx238_0)).trans hx238_0
      replace p238 := eq_true p238
      replace q238 := eq_true q238
      go_wp2_with (first | ((with_reducible refine gate_callee (f := 129) rfl ?_); refine gl (some 18) rfl rfl Try.func129 (by kernel_rfl) rfl #[.int .i64 (rd l0_1 x5_1)] rfl ?_; (with_reducible refine (spec_l3In.calls (rd l0_1 x5_1) true _ A6.out).mono ?_); rintro e w' ⟨rfl, ⟨nd, rfl⟩⟩; refine ⟨_, rfl, ?_⟩))
      go_roundg k1
      case measure => have := HK1.out; omega
      case rel => exact ⟨(wrap64 (x5_1 + 1)), (by first | rfl | (simp; done) | (simp [*]; done)), H', ⟨by have := HK1.out; omega⟩, ⟨mb BK237⟩, ⟨ms HB⟩⟩
     replace c7 := Bool.eq_false_iff.mpr c7
     subst c7
     have H1 : (some false) = some r := by rw [if_neg (show ¬ (false = true) by decide)] at H; exact H
     clear H
     have H := H1
     clear H1
     obtain rfl := Option.some.inj H
     obtain ⟨_, _, _, _⟩ := cFour BK237
     have p238 : 0 ≤ (x5_1 : Int) := of_decide_eq_true (by first | (with_reducible assumption) | assumption)
     have q238 : x5_1 < (l0_1.length : Int) := of_decide_eq_true (by first | (with_reducible assumption) | assumption)
     obtain ⟨ad238, e238, hx238_0⟩ := Kd.at_int HR0_1.out x5_1 p238 q238
     cases e238
     replace hx238_0 := (HB.out.cell (World.block_lt_of_cell? w _ hx238_0)).trans hx238_0
     replace p238 := eq_true p238
     replace q238 := eq_true q238
     go_wp2_with (first | ((with_reducible refine gate_callee (f := 129) rfl ?_); refine gl (some 18) rfl rfl Try.func129 (by kernel_rfl) rfl #[.int .i64 (rd l0_1 x5_1)] rfl ?_; (with_reducible refine (spec_l3In.calls (rd l0_1 x5_1) false _ A6.out).mono ?_); rintro e w' ⟨rfl, ⟨nd, rfl⟩⟩; refine ⟨_, rfl, ?_⟩))
     go_ret
     exact ⟨by first | rfl | (simp [errW_none, errW_some] <;> rfl) | (simp [*, errW_none, errW_some] <;> rfl), ms HB⟩
    rw [if_neg c5] at H
    exact absurd H (by simp)
   rw [if_neg c4] at H
   have c4b0 : decide (x5_1 < (l0_1.length : Int)) = false := decide_eq_false c4
   clear c4
   replace H := Option.bind_eq_some_iff.mp H
   obtain ⟨t240, A100, H⟩ := H
   replace H : (if t240 = true then (if (l0_1.length : Int) = a1 then ((spec_l3In.f a0_0).bind fun t241 => (some t241)) else (some false)) else (some false)) = some r := H
   have A10 := Aside0.mk A100
   clear A100
   by_cases c11 : t240 = true
   ·subst c11
    have H1 : (if (l0_1.length : Int) = a1 then ((spec_l3In.f a0_0).bind fun t241 => (some t241)) else (some false)) = some r := by rw [if_pos rfl] at H; exact H
    clear H
    have H := H1
    clear H1
    by_cases c12 : (l0_1.length : Int) = a1
    ·rw [if_pos c12] at H
     have c12b0 : ((l0_1.length : Int) == a1) = true := beq_iff_eq.mpr c12
     have c12b1 : ((l0_1.length : Int) != a1) = false := bne_eq_false_iff_eq.mpr c12
     clear c12
     replace H := Option.bind_eq_some_iff.mp H
     obtain ⟨t241, A130, H⟩ := H
     replace H : (some t241) = some r := H
     have A13 := Aside0.mk A130
     clear A130
     obtain rfl := Option.some.inj H
     obtain ⟨_, _, _, _⟩ := cFour BK237
     go_wp2_with (first | ((with_reducible refine gate_callee (f := 85) rfl ?_); refine gl (some 21) rfl rfl Try.func85 (by kernel_rfl) rfl #[.int .i64 a1, .int .i64 0, .int .i64 8] rfl ?_; (with_reducible refine (spec_l1In.calls a1 0 8 true _ A10.out).mono ?_); rintro e w' ⟨rfl, ⟨nd, rfl⟩⟩; refine ⟨_, rfl, ?_⟩) | (go_at_call 129; (with_reducible refine (spec_l3In.calls a0_0 t241 _ A13.out).mono ?_); rintro e w' ⟨rfl, ⟨nd, rfl⟩⟩))
     go_ret
     exact ⟨by first | rfl | (simp [errW_none, errW_some] <;> rfl) | (simp [*, errW_none, errW_some] <;> rfl), ms HB⟩
    rw [if_neg c12] at H
    have c12b0 : ((l0_1.length : Int) == a1) = false := beq_eq_false_iff_ne.mpr c12
    have c12b1 : ((l0_1.length : Int) != a1) = true := bne_iff_ne.mpr c12
    obtain rfl := Option.some.inj H
    obtain ⟨_, _, _, _⟩ := cFour BK237
    go_wp2_with (first | ((with_reducible refine gate_callee (f := 85) rfl ?_); refine gl (some 21) rfl rfl Try.func85 (by kernel_rfl) rfl #[.int .i64 a1, .int .i64 0, .int .i64 8] rfl ?_; (with_reducible refine (spec_l1In.calls a1 0 8 true _ A10.out).mono ?_); rintro e w' ⟨rfl, ⟨nd, rfl⟩⟩; refine ⟨_, rfl, ?_⟩))
    go_ret
    exact ⟨by first | rfl | (simp [errW_none, errW_some] <;> rfl) | (simp [*, errW_none, errW_some] <;> rfl), ms HB⟩
   replace c11 := Bool.eq_false_iff.mpr c11
   subst c11
   have H1 : (some false) = some r := by rw [if_neg (show ¬ (false = true) by decide)] at H; exact H
   clear H
   have H := H1
   clear H1
   obtain rfl := Option.some.inj H
   obtain ⟨_, _, _, _⟩ := cFour BK237
   go_wp2_with (first | ((with_reducible refine gate_callee (f := 85) rfl ?_); refine gl (some 21) rfl rfl Try.func85 (by kernel_rfl) rfl #[.int .i64 a1, .int .i64 0, .int .i64 8] rfl ?_; (with_reducible refine (spec_l1In.calls a1 0 8 false _ A10.out).mono ?_); rintro e w' ⟨rfl, ⟨nd, rfl⟩⟩; refine ⟨_, rfl, ?_⟩))
   go_ret
   exact ⟨by first | rfl | (simp [errW_none, errW_some] <;> rfl) | (simp [*, errW_none, errW_some] <;> rfl), ms HB⟩

end Go.Proofs.Ytlencemmlgkflaa.QFnEntailed
