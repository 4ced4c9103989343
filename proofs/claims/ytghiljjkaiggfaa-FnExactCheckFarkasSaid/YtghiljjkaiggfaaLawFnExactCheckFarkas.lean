/- The law FnExactCheckFarkas holds: whatever comes in that can be read as data, the call returns true and leaves its arguments as they were. -/
import Derived.Test.YtghiljjkaiggfaaRows
import Derived.Test.YtghiljjkaiggfaaQFnExactCheckFarkasx13
import Derived.Test.YtghiljjkaiggfaaPureFnExactCheckFarkas
import Derived.Test.YtghiljjkaiggfaaUFnExactCheckFarkasOpn
import Derived.WalkKit
import Derived.ProofKit
import Derived.OpenShut
import Derived.ShutString
import Derived.ChangeOld
import Derived.Below
import Derived.SizedLaws
import Derived.Carry
namespace Go.Proofs.Ytghiljjkaiggfaa.fnExactCheckFarkas
open Go.ChangeShapes Go.WideShapes Go.ChangeAt Go.RowKit Go.Proofs.Ytghiljjkaiggfaa Go.Proofs.Ytghiljjkaiggfaa.QFnExactCheckFarkas Go.Proofs.YtghiljjkaiggfaaV.PrintWords
open Go.ChangeMaps (open_string shut_string)
set_option linter.unusedVariables false
theorem own : ownKnob Try.prog.godebug = none := by kernel_rfl
theorem laidOut : laidOutB Try.prog = true := by kernel_rfl
set_option maxRecDepth 100000 in
theorem lifted (os : Os) (started : os.Started) (H : Type) (enc : TypeId × Value → H) :
    ReturnsInHanded {} Try.checked os 8 .any (Rows.fnExactCheckFarkasSpec.pre6 enc Try.prog Try.f8 Rows.fnExactCheckFarkasRow.domain false) (Rows.fnExactCheckFarkasSpec.post enc Try.prog Try.f8 false true false false) := by
  refine returnsInHanded_of_change_sized (C := Try.checked) own started (by kernel_rfl) Try.func8
    (ChangeSpec.witness6 (enc := enc) (C := Try.checked) false ⟨#[], #[(.agg #[(.int .i64 0), (.slice none 0 0)]), (.agg #[(.int .i64 0), (.slice none 0 0)]), (.agg #[(.int .i64 0), (.slice none 0 0)])], []⟩ 8 (by kernel_rfl) (by kernel_rfl) (by kernel_rfl) (by kernel_rfl)) ?_
  intro W base args ds gs before hval0 hW hcnd hsz0 _
  have hval : ∀ (j : Nat) t v, Try.f8.params[j]? = some t → args[j]? = some v → Value.okWide Try.prog W .any base t v := hval0
  have hW' := hW
  obtain ⟨p, q, hA0, hV, rfl, hfz, hnd⟩ := hW
  have hA : DataW.TrodAll enc Try.prog W 0 (fun _ => true) true Try.f8.params.toList args.toList ds p := hA0
  rw [Try.params8] at hA hval
  obtain ⟨v0, vs0, d0, ds0, p0, q0, hargs, rfl, rfl, h0, r0⟩ := trodAll_cons hA
  obtain ⟨v1, vs1, d1, ds1, p1, q1, rfl, rfl, rfl, h1, r1⟩ := trodAll_cons r0
  obtain ⟨v2, vs2, d2, ds2, p2, q2, rfl, rfl, rfl, h2, r2⟩ := trodAll_cons r1
  obtain ⟨rfl, rfl, rfl⟩ := trodAll_nil r2
  obtain rfl : args = #[v0, v1, v2] := by cases args; simp_all
  obtain ⟨rfl, rfl⟩ := trodVars_none hV
  have k0 := h0
  have lt0 : ∀ x ∈ p0, x.block < W.heap.size := by obtain ⟨m, hm⟩ := k0; exact DataW.trod_lt m _ _ _ hm
  obtain ⟨y0, cs0, rfl, hK0, g0⟩ := Opn.Opn.arg_struct (d := k24) Try.underlying24 (Opn.Opn.iso (Opn.Opn.struct2 Try.underlying24 (Opn.Opn.int Try.underlying3) (Opn.Opn.slice Try.underlying22 (by kernel_rfl) (Opn.Opn.iso (Opn.Opn.struct2 Try.underlying27 (Opn.Opn.int Try.underlying3) (Opn.Opn.slice Try.underlying25 (by kernel_rfl) (Opn.Opn.int Try.underlying3)) rfl (by kernel_rfl) rfl (by kernel_rfl) (by kernel_rfl)) (fun x : S27 => (x.f0, x.f1)) (fun y => ⟨y.1, y.2⟩) (fun _ => rfl))) rfl (by kernel_rfl) rfl (by kernel_rfl) (by kernel_rfl)) (fun x : S24 => (x.f0, x.f1)) (fun y => ⟨y.1, y.2⟩) (fun _ => rfl)) (hval 0 24 v0 rfl rfl) h0
  obtain ⟨A0_1, c0_1, e0, hc0_1, hr0_1⟩ := k24_open hK0
  obtain rfl : cs0 = (#[.int .i64 y0.f0, .slice A0_1 y0.f1.length c0_1] : Array Value) := Array.toList_inj.mp e0
  obtain ⟨g0_0, g0_1⟩ := g0
  have k1 := h1
  have lt1 : ∀ x ∈ p1, x.block < W.heap.size := by obtain ⟨m, hm⟩ := k1; exact DataW.trod_lt m _ _ _ hm
  obtain ⟨y1, cs1, rfl, hK1, g1⟩ := Opn.Opn.arg_struct (d := k27) Try.underlying27 (Opn.Opn.iso (Opn.Opn.struct2 Try.underlying27 (Opn.Opn.int Try.underlying3) (Opn.Opn.slice Try.underlying25 (by kernel_rfl) (Opn.Opn.int Try.underlying3)) rfl (by kernel_rfl) rfl (by kernel_rfl) (by kernel_rfl)) (fun x : S27 => (x.f0, x.f1)) (fun y => ⟨y.1, y.2⟩) (fun _ => rfl)) (hval 1 27 v1 rfl rfl) h1
  obtain ⟨A1_1, c1_1, e1, hc1_1, hr1_1⟩ := k27_open hK1
  obtain rfl : cs1 = (#[.int .i64 y1.f0, .slice A1_1 y1.f1.length c1_1] : Array Value) := Array.toList_inj.mp e1
  obtain ⟨g1_0, g1_1⟩ := g1
  have k2 := h2
  have lt2 : ∀ x ∈ p2, x.block < W.heap.size := by obtain ⟨m, hm⟩ := k2; exact DataW.trod_lt m _ _ _ hm
  obtain ⟨y2, cs2, rfl, hK2, g2⟩ := Opn.Opn.arg_struct (d := k62) Try.underlying62 (Opn.Opn.iso (Opn.Opn.struct2 Try.underlying62 (Opn.Opn.int Try.underlying3) (Opn.Opn.slice Try.underlying25 (by kernel_rfl) (Opn.Opn.int Try.underlying3)) rfl (by kernel_rfl) rfl (by kernel_rfl) (by kernel_rfl)) (fun x : S62 => (x.f0, x.f1)) (fun y => ⟨y.1, y.2⟩) (fun _ => rfl)) (hval 2 62 v2 rfl rfl) h2
  obtain ⟨A2_1, c2_1, e2, hc2_1, hr2_1⟩ := k62_open hK2
  obtain rfl : cs2 = (#[.int .i64 y2.f0, .slice A2_1 y2.f1.length c2_1] : Array Value) := Array.toList_inj.mp e2
  obtain ⟨g2_0, g2_1⟩ := g2
  clear hA0 hval0 hsz0
  obtain ⟨k, h⟩ := Pure.FnExactCheckFarkas y0.f0 y0.f1 y1.f0 y1.f1 y2.f0 y2.f1 g0_0 g0_1 g1_0 g1_1 g2_0 g2_1
  refine (laws_FnExactCheckFarkas.calls k y0.f0 _ _ y0.f1 y1.f0 _ _ y1.f1 y2.f0 _ _ y2.f1 true W hr0_1 hc0_1 hr1_1 hc1_1 hr2_1 hc2_1 h).mono fun e W' ⟨he, bel⟩ => ?_
  subst he
  exact ⟨_, rfl, _, _, _, [], _, [], hW', trodAll_mk1 (shut_bool Try.underlying4 _), (trodAll_cons_mk (Below.trod laidOut (by kernel_rfl) (of_decide_eq_true (by kernel_rfl)) k0 bel lt0) (trodAll_cons_mk (Below.trod laidOut (by kernel_rfl) (of_decide_eq_true (by kernel_rfl)) k1 bel lt1) (trodAll_cons_mk (Below.trod laidOut (by kernel_rfl) (of_decide_eq_true (by kernel_rfl)) k2 bel lt2) trodAll_mk0))), rfl, bel.frame _, fun h => by cases h⟩
theorem over : Rows.fnExactCheckFarkasRow.holds Try.pinned (OpenSpec.ofChange Rows.fnExactCheckFarkasSpec) :=
  OpenClaim.holds_of_wide 8 Try.f8 rfl rfl rfl rfl rfl rfl rfl ⟨rfl, rfl, rfl, rfl, rfl⟩ rfl rfl rfl rfl rfl (by kernel_rfl) Try.func8 (by kernel_rfl)
    (of_decide_eq_true (by kernel_rfl)) (by unfold Func.isWrapper; first | (rw [if_pos (by decide +kernel)]; kernel_rfl) | (rw [if_neg (by decide +kernel)]; exact ⟨rfl, rfl⟩))
    (fun os started H enc _ => lifted os started H enc)
theorem proved : Rows.FnExactCheckFarkasSaid := over
#print axioms proved
end Go.Proofs.Ytghiljjkaiggfaa.fnExactCheckFarkas
namespace Go.Proofs.Ytghiljjkaiggfaa
/-- The row, under a short name, for the claim. -/
theorem fnExactCheckFarkas_holds : Rows.FnExactCheckFarkasSaid := fnExactCheckFarkas.proved
end Go.Proofs.Ytghiljjkaiggfaa
