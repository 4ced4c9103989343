-- Made by a program of this claim's own (wip/print): not the kit's print as it stands.
import Derived.Test.YtghiljjkaiggfaaUFnExactCheckFarkasTwo
namespace Go.Proofs.YtghiljjkaiggfaaV.PrintWords
open Go.RowKit
theorem mS {α : Type} {d : Kd α} {t : Nat} {w W : World} {base : Nat} {ok : Nat → Prop} {v : Value} {xs : List α} (h : Aside0 (Kd.S d t w base ok v xs)) (e : Kd.S d t w base ok v xs → Kd.S d t W base ok v xs := by intro h_; (with_reducible repeat (first | apply Kd.S_alloc | apply Kd.S_drewN | apply Kd.S_drew)); exact h_) : Kd.S d t W base ok v xs := e h.out
theorem bS {α : Type} {d : Kd α} {t : Nat} {w W w1 : World} {base : Nat} {ok : Nat → Prop} {v : Value} {xs : List α} (h : Aside0 (Kd.S d t w base ok v xs)) (hb : Below W.heap.size W w1) (e : Kd.S d t w base ok v xs → Kd.S d t W base ok v xs := by intro h_; (with_reducible repeat (first | apply Kd.S_alloc | apply Kd.S_drewN | apply Kd.S_drew)); exact h_) : Aside0 (Kd.S d t w1 base ok v xs) := ⟨Kd.S_below (e h.out) hb⟩
theorem lS {β : Type} {d' : Kd β} {t' : Nat} {w2 : World} {ok' : Nat → Prop} {u : Value} {ys : List β} {α : Type} {d : Kd α} {t : Nat} {w W w1 : World} {base : Nat} {ok : Nat → Prop} {v : Value} {xs : List α} (h : Aside0 (Kd.S d t w base ok v xs)) (ho : d'.R t' w2 W.heap.size ok' u ys) (hb : Below W.heap.size W w1) (e : Kd.S d t w base ok v xs → Kd.S d t W base ok v xs := by intro h_; (with_reducible repeat (first | apply Kd.S_alloc | apply Kd.S_drewN | apply Kd.S_drew)); exact h_) : Aside0 (Kd.S d t w1 base (fun k => ok k ∧ some k ≠ u.ownBlock) v xs) := ⟨Kd.S_elder' (e h.out) (Kd.R_base ho) hb⟩
end Go.Proofs.YtghiljjkaiggfaaV.PrintWords

