/- The law FnExactFormatSum holds: whatever comes in that can be read as data, the call returns true and leaves its arguments as they were. -/
import Derived.Test.YtmdjhmggogfbdaaDoorRows
import Derived.Test.YtmdjhmggogfbdaaDoorQFnExactFormatSumx11
import Derived.Test.YtmdjhmggogfbdaaDoorPureFnExactFormatSum
import Derived.Test.YtmdjhmggogfbdaaDoorUFnExactFormatSumOpn
import Derived.Test.YtmdjhmggogfbdaaDoorCards
import Derived.Test.YtmdjhmggogfbdaaDoorTie
import Derived.WalkKit
import Derived.LaidMore
import Derived.Stop.Joined
import Derived.Stop.Texts
import Derived.Stop.ErrReads
import Derived.Stop.LaidErr
import Derived.Lib.LaidTab
import Derived.MakeChecks
import Derived.SevenTiedAt
import Derived.Lay
import Derived.LaidOnce
import Derived.ProofKit
import Derived.OpenShut
import Derived.ShutString
import Derived.ChangeOld
import Derived.Below
import Derived.SizedLaws
import Derived.Carry
namespace Go.Proofs.YtmdjhmggogfbdaaDoor.fnExactFormatSum
open Go.ChangeShapes Go.WideShapes Go.ChangeAt Go.RowKit Go.Proofs.YtmdjhmggogfbdaaDoor Go.Proofs.YtmdjhmggogfbdaaDoor.QFnExactFormatSum Go.Proofs.YtmdjhmggogfbdaaDoorV.PrintWords
open Go.ChangeMaps (open_string shut_string)
set_option linter.unusedVariables false
theorem own : ownKnob Tryd.prog.godebug = none := by kernel_rfl
theorem laidOut : laidOutB Tryd.prog = true := by kernel_rfl
theorem door_met (os : Os) (args : Array Value) : laidMetH Tryd.prog Rows.fnExactFormatSumRow.laid ((World.laidAll Tryd.prog os Rows.fnExactFormatSumRow.laid).forCall (fun _ _ => 0) ⟨#[], args, []⟩).memory := by
  rw [MakeChecks.laidMetH_plain _ _ _ (by kernel_rfl)]; exact laidMet_laidAll _ (by kernel_rfl) (by kernel_rfl)
/-- The plain wrap beside a condition on the world; the world's shape is kept. -/
theorem door_change {H : Type} {enc : TypeId × Value → H} {a : Assume} {C : Checked} {os : Os} {f : FuncId} {fn : Func} {s : ChangeSpec} {X : World → Array Value → Prop}
    (hX : ∀ (w w' : World) (args : Array Value), w.heap = w'.heap → X w args → X w' args)
    (own : ownKnob C.prog.godebug = none) (started : os.Started) (noInit : C.prog.inits.idxOf? f = none) (hfn : C.prog.funcs[f]? = some fn)
    (witness : ∃ (w : World) (tape : Tape) (i : Input), w.os = os ∧ (w.forCall tape i).Shaped C.prog ∧ i.vars = [] ∧ Input.okWide C.prog (w.forCall tape i) .any w.heap.size f i ∧
      ((s.pre enc C.prog fn [] false (w.forCall tape i).memory i.args ∧ X (w.forCall tape i).memory i.args) ∧ sizedMet enc C.prog fn (OpenSpec.ofChange s) false (w.forCall tape i).memory i.args) ∧ a.holds C.prog (lone (Frame.enter C.prog f i.args .normal) [] (w.forCall tape i)))
    (contract : ∀ (W : World) (base : Nat) (args : Array Value) (ds gs : List (DataW H)) (before : List MemPlace),
      (∀ (j : Nat) t v, fn.params[j]? = some t → args[j]? = some v → Value.okWide C.prog W .any base t v) →
      DataW.Whole enc C.prog fn.params.toList s.vars false W args.toList ds gs before → X W args → W.ShapedOpen C.prog →
      Calls C.prog f args W fun e W' => ∃ v, e = .returned v ∧ s.post enc C.prog fn false true false false W args v W') :
    ReturnsInHanded a C os f .any (fun w args => (s.pre enc C.prog fn [] false w args ∧ X w args) ∧ sizedMet enc C.prog fn (OpenSpec.ofChange s) false w args) (s.post enc C.prog fn false true false false) := by
  refine returnsInHanded_of_calls own started noInit witness ?_
  intro w tape i _ hsh _ hok hpre _
  obtain ⟨_, _, _, fn', hfn', _, _, _, _, hval⟩ := hok
  have e : fn' = fn := Option.some.inj (hfn'.symm.trans hfn)
  subst e
  obtain ⟨⟨⟨ds, gs, before, hw, _⟩, hx⟩, _⟩ := hpre
  have hw' := DataW.Whole.of_heap (w' := w.forCall tape i) (by rfl) hw
  refine (contract (w.forCall tape i) w.heap.size i.args ds gs before hval hw' (hX _ _ _ (by rfl) hx) hsh).mono fun e W' ⟨v, he, hp⟩ => ?_
  subst he
  exact ChangeSpec.post_blind hp
theorem tb_laid {W : World} (h : laidMetH Tryd.prog Rows.fnExactFormatSumRow.laid W) (hsh : W.ShapedOpen Tryd.prog) : TbL W := by
  rw [MakeChecks.laidMetH_plain _ _ _ (by kernel_rfl)] at h
  refine ⟨?_, ?_, ?_⟩
  · intro x hx
    rcases List.mem_singleton.1 hx with rfl
    have h' : laidMet Tryd.prog (("internal/strconv.uint64pow10", Lib.tabData .u64 Lib.pow10Tab) :: []) W := h.tail.tail
    exact Lib.tabIs_of_head (g := 2) (by kernel_rfl) (by kernel_rfl) Tryd.underlying141 Tryd.underlying120 (by kernel_rfl) (by kernel_rfl) h'
  · intro x hx; cases hx
  · intro x hx; cases hx
set_option maxRecDepth 100000 in
theorem lifted (os : Os) (started : os.Started) (H : Type) (enc : TypeId × Value → H) :
    ReturnsInHanded {} Tryd.checked os 8 .any (fun w args => (Rows.fnExactFormatSumSpec.pre enc Tryd.prog Tryd.f8 [] false w args ∧ laidMetH Tryd.prog Rows.fnExactFormatSumRow.laid w) ∧ sizedMet enc Tryd.prog Tryd.f8 (OpenSpec.ofChange Rows.fnExactFormatSumSpec) false w args)
      (Rows.fnExactFormatSumSpec.post enc Tryd.prog Tryd.f8 false true false false) := by
  refine door_change (C := Tryd.checked) (X := fun w _ => laidMetH Tryd.prog Rows.fnExactFormatSumRow.laid w) (fun _ _ _ hh h => h.of_heap hh) own started (by kernel_rfl) Tryd.func8
    (ChangeSpec.witness_shaped (enc := enc) (C := Tryd.checked) (os := os) (X := fun w _ => laidMetH Tryd.prog Rows.fnExactFormatSumRow.laid w) false (World.laidAll Tryd.prog os Rows.fnExactFormatSumRow.laid) #[(.agg #[(.int .i64 0), (.slice none 0 0)])] 8 (World.laidAll_os _ _ _) (World.shaped_of_ZipB (by kernel_rfl) (by kernel_rfl)) (by kernel_rfl) (by kernel_rfl) (by kernel_rfl) (door_met os _)) ?_
  intro W base args ds gs before hval0 hW hL hsh
  have hTb_ := tb_laid hL hsh
  have hval : ∀ (j : Nat) t v, Tryd.f8.params[j]? = some t → args[j]? = some v → Value.okWide Tryd.prog W .any base t v := hval0
  have hW' := hW
  obtain ⟨p, q, hA0, hV, rfl, hfz, hnd⟩ := hW
  have hA : DataW.TrodAll enc Tryd.prog W 0 (fun _ => true) true Tryd.f8.params.toList args.toList ds p := hA0
  rw [Tryd.params8] at hA hval
  obtain ⟨v0, vs0, d0, ds0, p0, q0, hargs, rfl, rfl, h0, r0⟩ := trodAll_cons hA
  obtain ⟨rfl, rfl, rfl⟩ := trodAll_nil r0
  obtain rfl : args = #[v0] := by cases args; simp_all
  obtain ⟨rfl, rfl⟩ := trodVars_none hV
  have k0 := h0
  have lt0 : ∀ x ∈ p0, x.block < W.heap.size := by obtain ⟨m, hm⟩ := k0; exact DataW.trod_lt m _ _ _ hm
  obtain ⟨y0, cs0, rfl, hK0, g0⟩ := Opn.Opn.arg_struct (d := k46) Tryd.underlying46 (Opn.Opn.iso (Opn.Opn.struct2 Tryd.underlying46 (Opn.Opn.int Tryd.underlying3) (Opn.Opn.slice Tryd.underlying44 (by kernel_rfl) (Opn.Opn.iso (Opn.Opn.struct2 Tryd.underlying103 (Opn.Opn.int Tryd.underlying3) (Opn.Opn.string Tryd.underlying9) rfl (by kernel_rfl) rfl (by kernel_rfl) (by kernel_rfl)) (fun x : S103 => (x.f0, x.f1)) (fun y => ⟨y.1, y.2⟩) (fun _ => rfl))) rfl (by kernel_rfl) rfl (by kernel_rfl) (by kernel_rfl)) (fun x : S46 => (x.f0, x.f1)) (fun y => ⟨y.1, y.2⟩) (fun _ => rfl)) (hval 0 46 v0 rfl rfl) h0
  obtain ⟨A0_1, c0_1, e0, hc0_1, hr0_1⟩ := k46_open hK0
  obtain rfl : cs0 = (#[.int .i64 y0.f0, .slice A0_1 y0.f1.length c0_1] : Array Value) := Array.toList_inj.mp e0
  obtain ⟨g0_0, g0_1⟩ := g0
  clear hA0 hval0
  obtain ⟨k, h⟩ := Pure.FnExactFormatSum y0.f0 y0.f1 g0_0 g0_1
  refine (laws_FnExactFormatSum.calls k y0.f0 _ _ y0.f1 true W hr0_1 hc0_1 rfl h).mono fun e W' ⟨he, bel⟩ => ?_
  subst he
  exact ⟨_, rfl, _, _, _, [], _, [], hW', trodAll_mk1 (shut_bool Tryd.underlying4 _), (trodAll_cons_mk (Below.trod laidOut (by kernel_rfl) (of_decide_eq_true (by kernel_rfl)) k0 bel lt0) trodAll_mk0), rfl, bel.frame _, fun h => by cases h⟩
theorem over : Rows.fnExactFormatSumRow.holds Tryd.pinned (OpenSpec.ofChange Rows.fnExactFormatSumSpec) :=
  OpenClaim.holds_of_wide 8 Tryd.f8 rfl rfl rfl rfl rfl rfl rfl ⟨rfl, rfl, rfl, rfl, rfl⟩ rfl rfl rfl rfl rfl (by kernel_rfl) Tryd.func8 (by kernel_rfl)
    (of_decide_eq_true (by kernel_rfl)) (by unfold Func.isWrapper; first | (rw [if_pos (by decide +kernel)]; kernel_rfl) | (rw [if_neg (by decide +kernel)]; exact ⟨rfl, rfl⟩))
    (fun os started H enc _ => lifted os started H enc)
theorem proved : Rows.FnExactFormatSumCardSaid :=
  Claim7.holds_tied_plain_at .later [] [.data, .data, .data] true (true, "93d53ac21e54cfc497d23e617a94ed5a307742b6da325ed5a70e61a61b6a7353") true
    over (fun _ h => by cases h) (by kernel_rfl) (fun _ h => by cases h) fnExactFormatSum_row_tie rfl ⟨rfl, rfl⟩ (by kernel_rfl) rfl
    (fun f fn hf hfn => by
      obtain rfl : f = 8 := Option.some.inj ((show Tryd.prog.funcNamed Rows.fnExactFormatSumRow.func = some 8 by kernel_rfl).symm.trans hf) |>.symm
      obtain rfl : fn = Tryd.f8 := (Option.some.inj (Tryd.func8.symm.trans hfn)).symm
      exact ⟨by kernel_rfl, fun j t ht => by
        rw [Tryd.params8] at ht
        rcases j with _ | j
        · obtain rfl : t = 46 := by simpa using ht.symm
          exact (show Tryd.prog.wantsStandIn 46 = false by kernel_rfl)
        simp at ht⟩)
    (by kernel_rfl)
#print axioms proved
end Go.Proofs.YtmdjhmggogfbdaaDoor.fnExactFormatSum
namespace Go.Proofs.YtmdjhmggogfbdaaDoor
/-- The row, under a short name, for the claim. -/
theorem fnExactFormatSum_holds : Rows.FnExactFormatSumCardSaid := fnExactFormatSum.proved
end Go.Proofs.YtmdjhmggogfbdaaDoor
