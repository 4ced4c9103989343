-- Made by a program of this claim's own (wip/print): not the kit's print as it stands.
import Derived.Test.YtghiljjkaiggfaaUFnExactCheckFarkasMore
namespace Go.Proofs.YtghiljjkaiggfaaV.PrintWords
open Go.RowKit
theorem one_R {α : Type} {d : Kd α} {e : Nat} {w : World} {base : Nat} {ok : Nat → Prop} {v : Value} {xs : List α} (h : Aside0 (d.R e w base ok v xs)) : v.oneCell' = true := by obtain ⟨_, _, rfl⟩ := Kd.R_slice h.out; rfl
theorem one_S {α : Type} {d : Kd α} {e : Nat} {w : World} {base : Nat} {ok : Nat → Prop} {v : Value} {xs : List α} (h : Aside0 (d.S e w base ok v xs)) : v.oneCell' = true := by obtain ⟨_, _, rfl⟩ := Kd.S_slice h.out; rfl
theorem one_N {α : Type} {d : Kd α} {e : Nat} {w : World} {base : Nat} {ok : Nat → Prop} {v : Value} {xs : List α} (h : Aside0 (d.N e w base ok v xs)) : v.oneCell' = true := by obtain ⟨_, _, rfl⟩ := Kd.N_slice h.out; rfl
theorem one_V {α : Type} {d : Kd α} {e : Nat} {w : World} {base : Nat} {ok : Nat → Prop} {v : Value} {xs : List α} (h : Aside0 (d.V e w base ok v xs)) : v.oneCell' = true := by obtain ⟨_, _, rfl⟩ := Kd.V_slice h.out; rfl
theorem run_one (P : Program) {v : Value} (h : v.oneCell' = true) : ∀ (a : Addr) (w : World), (store a v).run P w = stored P w a v .plain := fun a w => run_store P w a v .plain h
end Go.Proofs.YtghiljjkaiggfaaV.PrintWords

