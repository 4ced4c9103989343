-- Made by a program of this claim's own (wip/print): not the kit's print as it stands.
import Derived.Test.YtlencemmlgkflaaUFnEntailedTwo
import Derived.Test.YtlencemmlgkflaaUFnEntailedTab
namespace Go.Proofs.YtlencemmlgkflaaV.PrintWords
open Go.RowKit Go.Proofs.YtlencemmlgkflaaV.PrintLast
theorem mS {α : Type} {d : Kd α} {t : Nat} {w W : World} {base : Nat} {ok : Nat → Prop} {v : Value} {xs : List α} (h : Aside0 (Kd.S d t w base ok v xs)) (e : Kd.S d t w base ok v xs → Kd.S d t W base ok v xs := by intro h_; (with_reducible repeat (first | apply Kd.S_alloc | apply Kd.S_drewN | apply Kd.S_drew)); exact h_) : Kd.S d t W base ok v xs := e h.out
theorem bS {α : Type} {d : Kd α} {t : Nat} {w W w1 : World} {base : Nat} {ok : Nat → Prop} {v : Value} {xs : List α} (h : Aside0 (Kd.S d t w base ok v xs)) (hb : Below W.heap.size W w1) (e : Kd.S d t w base ok v xs → Kd.S d t W base ok v xs := by intro h_; (with_reducible repeat (first | apply Kd.S_alloc | apply Kd.S_drewN | apply Kd.S_drew)); exact h_) : Aside0 (Kd.S d t w1 base ok v xs) := ⟨Kd.S_below (e h.out) hb⟩
theorem lS {β : Type} {d' : Kd β} {t' : Nat} {w2 : World} {ok' : Nat → Prop} {u : Value} {ys : List β} {α : Type} {d : Kd α} {t : Nat} {w W w1 : World} {base : Nat} {ok : Nat → Prop} {v : Value} {xs : List α} (h : Aside0 (Kd.S d t w base ok v xs)) (ho : d'.R t' w2 W.heap.size ok' u ys) (hb : Below W.heap.size W w1) (e : Kd.S d t w base ok v xs → Kd.S d t W base ok v xs := by intro h_; (with_reducible repeat (first | apply Kd.S_alloc | apply Kd.S_drewN | apply Kd.S_drew)); exact h_) : Aside0 (Kd.S d t w1 base (fun k => ok k ∧ some k ≠ u.ownBlock) v xs) := ⟨Kd.S_elder' (e h.out) (Kd.R_base ho) hb⟩
theorem gl {P : Program} {ops : Array Oper} {Q : Exit → Act → World → Prop} {rest : List Oper} {oi : Oper} {a : Act} {w : World} (N : Option Tmp) (hd : oi.dst = N) (hg : oi.guard = none) {f : FuncId} {fn : Func} {as : Array Operand} {ts : Array TypeId} (hf : P.funcs[f]? = some fn) (hname : (fn.name == "runtime.NumGoroutine") = false) (hb : fn.body.isSome = true) (args : Array Value) (hop : oi.op = .call { callee := .value (.func f), args := as, argTypes := ts })
    (h : Calls P f args w fun e w' => ∃ v, e = .returned v ∧ wpList P ops Q rest (a.put N v) w') (hargs : as.map a.eval = args := by (try simp only [List.map_toArray, List.map_cons, List.map_nil]); first | done | rfl | (simp only [List.length_drop, List.length_take]; rfl)) : wpList P ops Q (oi :: rest) a w := goesL_ N hd hg hf hname hb args hop hargs h
theorem gs {P : Program} {ops : Array Oper} {Q : Exit → Act → World → Prop} {oi : Oper} {N : Option Tmp} {a : Act} {w : World} {K : Act → World → Prop} {f : FuncId} {fn : Func} {as : Array Operand} {ts : Array TypeId} (hf : P.funcs[f]? = some fn) (hname : (fn.name == "runtime.NumGoroutine") = false) (hb : fn.body.isSome = true) (args : Array Value) (hw : Region.wanted oi (yielded ops a.tmps) = true) (hN : oi.dst = N) (hop : oi.op = .call { callee := .value (.func f), args := as, argTypes := ts })
    (h : Calls P f args w fun e w' => ∃ v, e = .returned v ∧ K (a.put N v) w') (hargs : as.map a.eval = args := by (try simp only [List.map_toArray, List.map_cons, List.map_nil]); first | done | rfl | (simp only [List.length_drop, List.length_take]; rfl)) : if Region.wanted oi (yielded ops a.tmps) = true then Oper.wp P oi a w K Q else K (a.put N undef) w := goes_ hf hname hb args hw hN hop hargs h
theorem mk {w W W' : World} {g : Nat} {row : Option Nat} (h : Aside0 (KeepBut w W g row)) (e : KeepBut w W g row → KeepBut w W' g row := by intro h_; repeat (first | (with_reducible first | exact h_ | apply KeepBut.set_ | apply keep_drewN | apply keep_drew | apply keep_alloc | refine keep_far ?_ (Aside0.out (by assumption)) _) | exact h_)) : KeepBut w W' g row := e h.out
theorem cFour {w : World} {g : Nat} {a b : Value} {t : TypeId} (h : Aside0 (w.heap[g]? = some (.cells #[a, b] t (0, 0)))) : w.cell? ⟨g, 0, none⟩ = some a ∧ w.cell? ⟨g, 1, none⟩ = some b ∧ w.frozen? ⟨g, 0, none⟩ = false ∧ w.frozen? ⟨g, 1, none⟩ = false := ⟨(blk_cell h.out 0).trans rfl, (blk_cell h.out 1).trans rfl, blk_frozen h.out 0, blk_frozen h.out 1⟩
theorem z1 {α : Type} (xs : List α) (i : Nat) (x : α) : xs.toArray.setIfInBounds i x = (xs.set i x).toArray := List.setIfInBounds_toArray ..
theorem z2 {α : Type} (a b : α) (xs : List α) : (a :: xs).set 0 b = b :: xs := rfl
theorem z3 {α : Type} (a b : α) (xs : List α) (i : Nat) : (a :: xs).set (i + 1) b = a :: xs.set i b := rfl
theorem put0 {w : World} {g : Nat} {t : TypeId} {x y a : Value} (h : w.heap[g]? = some (.cells #[x, y] t (0, 0))) : (w.setCell ⟨g, 0, none⟩ a).heap[g]? = some (.cells #[a, y] t (0, 0)) := blk_put h 0 a rfl
theorem put1 {w : World} {g : Nat} {t : TypeId} {x y b : Value} (h : w.heap[g]? = some (.cells #[x, y] t (0, 0))) : (w.setCell ⟨g, 1, none⟩ b).heap[g]? = some (.cells #[x, b] t (0, 0)) := blk_put h 1 b rfl
theorem bp {w W w1 : World} {g : Nat} {t : TypeId} {x y a b : Value} (h : Aside0 (w.heap[g]? = some (.cells #[x, y] t (0, 0)))) (hb : Below W.heap.size W w1) (e : w.heap[g]? = some (.cells #[x, y] t (0, 0)) → W.heap[g]? = some (.cells #[a, b] t (0, 0)) := by intro h_; (with_reducible repeat (first | refine blk_drewN ?_ _ | refine blk_drew ?_ | refine blk_alloc ?_ _)); apply put1; (with_reducible repeat (first | refine blk_drewN ?_ _ | refine blk_drew ?_ | refine blk_alloc ?_ _)); apply put0; (with_reducible repeat (first | refine blk_drewN ?_ _ | refine blk_drew ?_ | refine blk_alloc ?_ _)); exact h_) : Aside0 (w1.heap[g]? = some (.cells #[a, b] t (0, 0))) := ⟨blk_below (e h.out) hb⟩
theorem rTwo {α : Type} {d : Kd α} {e : Nat} {w : World} {base : Nat} {ok : Nat → Prop} {v : Value} {xs : List α} {g t : Nat} {cells : Array Value} {a b : Value} (h : Aside0 (d.R e w base ok v xs)) (hb : Aside0 (w.heap[g]? = some (.cells cells t (0, 0)))) (ht : ∀ q, q ∈ e :: d.E → q ≠ t := by decide) : d.R e ((w.setCell ⟨g, 0, none⟩ a).setCell ⟨g, 1, none⟩ b) base ok v xs := Kd.R_mono (Kd.R_far (p := ⟨g, 1, none⟩) (Kd.R_far (p := ⟨g, 0, none⟩) (Kd.R_types h.out hb.out ht) (fun _ hk => hk.2) a) (fun _ hk => hk.2) b) (fun _ h_ => h_.1)
theorem pu {P : Program} {ops : Array Oper} {Q : Exit → Act → World → Prop} {md : Region.Mode} {S : World → Prop} {ds : List Nat} {T : Bool × List (List Nat × List Nat)} (i : Nat) (N : Option Tmp) {oi : Oper} {v : Value} {fuel : Nat} {l : Array Bool} {a : Act} {w : World} (l' : Array Bool) (hi : ops[i]? = some oi) (hN : oi.dst = N) (hT : Aside0 (rtab md ops = T)) (hQ : ∀ c a w, Q (.panic c) (a.put oi.dst v) w → Q (.panic c) a w) (hw : Region.wanted oi (yielded ops a.tmps) = true) (hr : ∀ w, (execOp a.eval oi).run P w = .ok (.value v) w) {a' : Act} (ha : a.put N v = a')
    (h : wpAnyLast P md ops Q S ds fuel l' a' w) (hk : anyT T l.toList l'.toList i = true := by kernel_rfl) : wpAnyLast P md ops Q S ds (fuel + 1) l a w := pure_ l' hi hN (any_of hT.out hk) hQ (Or.inl ⟨hw, hr⟩) ha h
theorem mq {w W : World} {g : Nat} {t : TypeId} {x y a b : Value} (h : Aside0 (w.heap[g]? = some (.cells #[x, y] t (0, 0)))) (e : w.heap[g]? = some (.cells #[x, y] t (0, 0)) → W.heap[g]? = some (.cells #[a, b] t (0, 0)) := by intro h_; (with_reducible repeat (first | refine blk_drewN ?_ _ | refine blk_drew ?_ | refine blk_alloc ?_ _)); apply put1; (with_reducible repeat (first | refine blk_drewN ?_ _ | refine blk_drew ?_ | refine blk_alloc ?_ _)); apply put0; (with_reducible repeat (first | refine blk_drewN ?_ _ | refine blk_drew ?_ | refine blk_alloc ?_ _)); exact h_) : W.heap[g]? = some (.cells #[a, b] t (0, 0)) := e h.out
theorem tk {P : Program} {ops : Array Oper} {Q : Exit → Act → World → Prop} {md : Region.Mode} {S : World → Prop} {ds : List Nat} {T : Bool × List (List Nat × List Nat)} {B : List Nat} (i : Nat) (N : Option Tmp) {oi : Oper} {v : Value} {fuel : Nat} {l : Array Bool} {a : Act} {w : World} (l' : Array Bool) (hi : ops[i]? = some oi) (hN : oi.dst = N) (hT : Aside0 (rtab md ops = T)) (hB : Aside0 (waitsOk T.2 B = true)) (hQ : ∀ c a w, Q (.panic c) (a.put oi.dst v) w → Q (.panic c) a w) (hw : Region.wanted oi (yielded ops a.tmps) = true) (hr : ∀ w, S w → (execOp a.eval oi).run P w = .ok (.value v) w) (hS : S w) {a' : Act} (ha : a.put N v = a')
    (h : wpAnyLast P md ops Q S ds fuel l' a' w) (hk : takeW T B ds l.toList l'.toList i = true := by kernel_rfl) : wpAnyLast P md ops Q S ds (fuel + 1) l a w := take_ l' hi hN (take_ofW hT.out hB.out hk) hQ (Or.inl ⟨hw, hr⟩) hS ha h
theorem far2 {w : World} {g p : Nat} {t : TypeId} {cs : Array Value} {u v : Value} (h : w.heap[g]? = some (.cells cs t (0, 0))) (hne : g ≠ p) : ((w.setCell ⟨p, 0, none⟩ u).setCell ⟨p, 1, none⟩ v).heap[g]? = some (.cells cs t (0, 0)) := blk_far (blk_far h hne _) hne _
theorem cl1 {w : World} {g : Nat} {a : Value} {t : TypeId} (h : Aside0 (w.heap[g]? = some (.cells #[a] t (0, 0)))) : w.cell? ⟨g, 0, none⟩ = some a := (blk_cell h.out 0).trans rfl
theorem cl4 {w : World} {g : Nat} {a b c d : Value} {t : TypeId} (h : Aside0 (w.heap[g]? = some (.cells #[a, b, c, d] t (0, 0)))) : w.cell? ⟨g, 0, none⟩ = some a ∧ w.cell? ⟨g, 1, none⟩ = some b ∧ w.cell? ⟨g, 2, none⟩ = some c ∧ w.cell? ⟨g, 3, none⟩ = some d := ⟨(blk_cell h.out 0).trans rfl, (blk_cell h.out 1).trans rfl, (blk_cell h.out 2).trans rfl, (blk_cell h.out 3).trans rfl⟩
theorem fz4 {w : World} {g : Nat} {o : Array Value} {t : TypeId} (h : Aside0 (w.heap[g]? = some (.cells o t (0, 0)))) : w.frozen? ⟨g, 0, none⟩ = false ∧ w.frozen? ⟨g, 1, none⟩ = false ∧ w.frozen? ⟨g, 2, none⟩ = false ∧ w.frozen? ⟨g, 3, none⟩ = false := ⟨blk_frozen h.out 0, blk_frozen h.out 1, blk_frozen h.out 2, blk_frozen h.out 3⟩
def set4 (w : World) (p : Nat) (a b c d : Value) : World := (((w.setCell ⟨p, 0, none⟩ a).setCell ⟨p, 1, none⟩ b).setCell ⟨p, 2, none⟩ c).setCell ⟨p, 3, none⟩ d
theorem put4 {w : World} {p : Nat} {t : TypeId} {a b c d a' b' c' d' : Value} (hx : w.heap[p]? = some (.cells #[a, b, c, d] t (0, 0))) : (set4 w p a' b' c' d').heap[p]? = some (.cells #[a', b', c', d'] t (0, 0)) := blk_put (cs := #[a', b', c', d]) (blk_put (cs := #[a', b', c, d]) (cs' := #[a', b', c', d]) (blk_put (cs := #[a', b, c, d]) (cs' := #[a', b', c, d]) (blk_put (cs' := #[a', b, c, d]) hx 0 a' rfl) 1 b' rfl) 2 c' rfl) 3 d' rfl
theorem far4 {w : World} {g p : Nat} {t : TypeId} {cs : Array Value} {a b c d : Value} (h : w.heap[g]? = some (.cells cs t (0, 0))) (hne : g ≠ p) : (set4 w p a b c d).heap[g]? = some (.cells cs t (0, 0)) := blk_far (blk_far (blk_far (blk_far h hne _) hne _) hne _) hne _
theorem below4 {w W : World} {p : Nat} {a b c d : Value} (h : Below w.heap.size w W) (hp : w.heap.size ≤ p) : Below w.heap.size w (set4 W p a b c d) := below_set (below_set (below_set (below_set h hp) hp) hp) hp
theorem own4 {α : Type} {d : Kd α} {e base p : Nat} {ok : Nat → Prop} {w : World} {z : Value} {xs : List α} {t : TypeId} {x0 x1 x2 x3 y0 y1 y2 y3 : Value} (h : d.R e w base ok z xs) (hx : w.heap[p]? = some (.cells #[x0, x1, x2, x3] t (0, 0))) (ht : ∀ q, q ∈ e :: d.E → q ≠ t) : d.R e (set4 w p y0 y1 y2 y3) base ok z xs :=
  Kd.R_set (Kd.R_set (Kd.R_set (Kd.R_set h hx ht 0 y0) (blk_put (cs' := #[y0, x1, x2, x3]) hx 0 y0 rfl) ht 1 y1) (blk_put (cs := #[y0, x1, x2, x3]) (cs' := #[y0, y1, x2, x3]) (blk_put (cs' := #[y0, x1, x2, x3]) hx 0 y0 rfl) 1 y1 rfl) ht 2 y2) (blk_put (cs := #[y0, y1, x2, x3]) (cs' := #[y0, y1, y2, x3]) (blk_put (cs := #[y0, x1, x2, x3]) (cs' := #[y0, y1, x2, x3]) (blk_put (cs' := #[y0, x1, x2, x3]) hx 0 y0 rfl) 1 y1 rfl) 2 y2 rfl) ht 3 y3
theorem own2 {α : Type} {d : Kd α} {e base p : Nat} {ok : Nat → Prop} {w : World} {z : Value} {xs : List α} {t : TypeId} {a b u v : Value} (h : d.R e w base ok z xs) (hx : w.heap[p]? = some (.cells #[a, b] t (0, 0))) (ht : ∀ q, q ∈ e :: d.E → q ≠ t) : d.R e ((w.setCell ⟨p, 0, none⟩ u).setCell ⟨p, 1, none⟩ v) base ok z xs := Kd.R_set (Kd.R_set h hx ht 0 u) (blk_put (cs' := #[u, b]) hx 0 u rfl) ht 1 v
theorem put2 {w : World} {p : Nat} {t : TypeId} {a b u v : Value} (hx : w.heap[p]? = some (.cells #[a, b] t (0, 0))) : ((w.setCell ⟨p, 0, none⟩ u).setCell ⟨p, 1, none⟩ v).heap[p]? = some (.cells #[u, v] t (0, 0)) := blk_put (cs := #[u, b]) (blk_put (cs' := #[u, b]) hx 0 u rfl) 1 v rfl
theorem cl3 {w : World} {g : Nat} {a b c : Value} {t : TypeId} (h : Aside0 (w.heap[g]? = some (.cells #[a, b, c] t (0, 0)))) : w.cell? ⟨g, 0, none⟩ = some a ∧ w.cell? ⟨g, 1, none⟩ = some b ∧ w.cell? ⟨g, 2, none⟩ = some c := ⟨(blk_cell h.out 0).trans rfl, (blk_cell h.out 1).trans rfl, (blk_cell h.out 2).trans rfl⟩
def set3 (w : World) (p : Nat) (a b c : Value) : World := ((w.setCell ⟨p, 0, none⟩ a).setCell ⟨p, 1, none⟩ b).setCell ⟨p, 2, none⟩ c
theorem put3 {w : World} {p : Nat} {t : TypeId} {a b c a' b' c' : Value} (hx : w.heap[p]? = some (.cells #[a, b, c] t (0, 0))) : (set3 w p a' b' c').heap[p]? = some (.cells #[a', b', c'] t (0, 0)) := blk_put (cs := #[a', b', c]) (blk_put (cs := #[a', b, c]) (cs' := #[a', b', c]) (blk_put (cs' := #[a', b, c]) hx 0 a' rfl) 1 b' rfl) 2 c' rfl
theorem below3 {w W : World} {p : Nat} {a b c : Value} (h : Below w.heap.size w W) (hp : w.heap.size ≤ p) : Below w.heap.size w (set3 W p a b c) := below_set (below_set (below_set h hp) hp) hp
theorem own3 {α : Type} {d : Kd α} {e base p : Nat} {ok : Nat → Prop} {w : World} {z : Value} {xs : List α} {t : TypeId} {x0 x1 x2 y0 y1 y2 : Value} (h : d.R e w base ok z xs) (hx : w.heap[p]? = some (.cells #[x0, x1, x2] t (0, 0))) (ht : ∀ q, q ∈ e :: d.E → q ≠ t) : d.R e (set3 w p y0 y1 y2) base ok z xs :=
  Kd.R_set (Kd.R_set (Kd.R_set h hx ht 0 y0) (blk_put (cs' := #[y0, x1, x2]) hx 0 y0 rfl) ht 1 y1) (blk_put (cs := #[y0, x1, x2]) (cs' := #[y0, y1, x2]) (blk_put (cs' := #[y0, x1, x2]) hx 0 y0 rfl) 1 y1 rfl) ht 2 y2
theorem apartK {g n : Nat} {v v1 : Value} (h : some g ≠ v.ownBlock) (hl : g < n) (hat : v1.ownBlock = v.ownBlock ∨ ∃ b, v1.ownBlock = some b ∧ n ≤ b) : some g ≠ v1.ownBlock := by
  rcases hat with e | ⟨b, e, hle⟩
  · rw [e]; exact h
  · rw [e]; intro e'; injection e' with e'; omega
theorem readsI {W0 W : World} {A : Option Addr} {n : Nat} {xs : List Int} (h : (Kd.int .i64).C W A n xs) : ReadsRow ((Kd.int .i64).K W0) (Kd.int .i64).sz W A n xs := h
theorem R_empty0 {W : World} {base : Nat} (h : base ≤ W.heap.size) : (Kd.int .i64).R 3 (W.alloc (.cells #[] 3)) base (fun _ => True) (.slice (some ⟨W.heap.size, 0, none⟩) 0 0) [] := ⟨fun _ _ => trivial, [], (by have h2 := World.ownsRow_lit (base := base) (e := 3) (size := 1) W #[] 0 h (by decide) (by simp); exact (by simpa using h2 : (W.alloc (.cells #[] 3)).ownsRow base 3 1 (.slice (some ⟨W.heap.size, 0, none⟩) 0 0) 0 [])), Reps.none _ _⟩
theorem new2 (w : World) (o o' : Obj) : ((w.alloc o).alloc o').drew.heap[w.heap.size + 1]? = some o' := by
  have h := heap_alloc_new (w.alloc o) o'
  rw [World.size_alloc] at h
  exact h
theorem new1 (w : World) (o o' : Obj) : ((w.alloc o).alloc o').drew.heap[w.heap.size]? = some o := blk_drew (blk_alloc (heap_alloc_new w o) o')
theorem R_empty1 {W : World} {o : Obj} {base : Nat} (h : base ≤ W.heap.size) : (Kd.int .i64).R 3 ((W.alloc o).alloc (.cells #[] 3)).drew base (fun _ => True) (.slice (some ⟨W.heap.size + 1, 0, none⟩) 0 0) [] := by
  have h2 := Kd.R_drew (R_empty0 (W := W.alloc o) (base := base) (by rw [World.size_alloc]; omega))
  rw [World.size_alloc] at h2
  exact h2
theorem ne_row {a b : Nat} {v : Value} (h : v.ownBlock = some b) (hne : a ≠ b) : some a ≠ v.ownBlock := by
  rw [h]; intro e; injection e with e; exact hne e
theorem wrap_len (n : Nat) (h : n ≤ 17592186044415) : wrap64 ((n : Int) + 1) = ((n + 1 : Nat) : Int) := by
  unfold wrap64
  omega
def made0 (n : Nat) : Array Value := madeCells (Value.int .i64 0).cells (n * 1)
theorem run_made {P : Program} {t e : TypeId} (ht : P.underlying t = some (.slice e)) (hinfo : (P.info? e).map (fun i => (i.zero, i.size, i.bytes)) = some (some (.int .i64 0), 1, 8)) (n : Nat) (h : n ≤ 35184372088832) (W : World) : (Instr.makeSlice t (.int .i64 (n : Int)) (.int .i64 (n : Int))).run P W = .ok (.slice (some ⟨W.heap.size, 0, none⟩) n n) (W.alloc (.cells (made0 n) e)) := by
  obtain ⟨i0, hi, hzz⟩ := Option.map_eq_some_iff.1 hinfo
  simp only [Prod.mk.injEq] at hzz
  obtain ⟨hz0, hz1, hz2⟩ := hzz
  have hr := run_make (P := P) W t e i0 (.int .i64 0) ht hi hz0 .i64 .i64 (n : Int) (n : Int) (by omega) (by omega) (by rw [hz2]; omega) (by omega)
  simp only [Int.toNat_natCast] at hr
  rw [hz1] at hr
  exact hr
theorem R_made {W : World} {n base : Nat} (h : base ≤ W.heap.size) (hn : n ≤ 35184372088832) : (Kd.int .i64).R 3 (W.alloc (.cells (made0 n) 3)) base (fun _ => True) (.slice (some ⟨W.heap.size, 0, none⟩) n n) (List.replicate n 0) := by
  refine ⟨fun _ _ => trivial, (made0 n).toList, ?_, ?_⟩
  · have h2 := World.ownsRow_lit (base := base) (e := 3) (size := 1) W (made0 n) n h (by simp only [maxLen]; omega) (by simp [made0, size_madeCells])
    rw [List.length_replicate]
    exact (by simpa using h2 : (W.alloc (.cells (made0 n) 3)).ownsRow base 3 1 (.slice (some ⟨W.heap.size, 0, none⟩) n n) n (made0 n).toList)
  · exact (Kd.reps_made (R := (Kd.int .i64).M (W.alloc (.cells (made0 n) 3)) base _) (z := .int .i64 0) (z0 := 0) rfl (by decide) rfl n)
theorem R_made1 {W : World} {o : Obj} {n base : Nat} (h : base ≤ W.heap.size) (hn : n ≤ 35184372088832) : (Kd.int .i64).R 3 ((W.alloc o).alloc (.cells (made0 n) 3)) base (fun _ => True) (.slice (some ⟨W.heap.size + 1, 0, none⟩) n n) (List.replicate n 0) := by
  have h2 := R_made (W := W.alloc o) (n := n) (base := base) (by rw [World.size_alloc]; omega) hn
  rw [World.size_alloc] at h2
  exact h2
theorem made_C0 {W : World} {n : Nat} {y : List Int} (hy : Aside0 (y = List.replicate n 0)) (hn : Aside0 (n ≤ 35184372088832)) : (Kd.int .i64).C (W.alloc (.cells (made0 n) 3)).drew (some ⟨W.heap.size, 0, none⟩) y.length y := by
  have h := (Kd.R_reads' (Kd.R_drew (R_made (Nat.le_refl W.heap.size) hn.out))).2.2
  rw [hy.out, List.length_replicate]; exact (by simpa using h)
theorem made_C1 {W : World} {n : Nat} {o : Obj} {y : List Int} (hy : Aside0 (y = List.replicate n 0)) (hn : Aside0 (n ≤ 35184372088832)) : (Kd.int .i64).C ((W.alloc (.cells (made0 n) 3)).alloc o).drew (some ⟨W.heap.size, 0, none⟩) y.length y := by
  have h := (Kd.R_reads' (Kd.R_drew (Kd.R_alloc (R_made (Nat.le_refl W.heap.size) hn.out) o))).2.2
  rw [hy.out, List.length_replicate]; exact (by simpa using h)
theorem made_C2 {W : World} {n : Nat} {o : Obj} {y : List Int} (hy : Aside0 (y = List.replicate n 0)) (hn : Aside0 (n ≤ 35184372088832)) : (Kd.int .i64).C ((W.alloc o).alloc (.cells (made0 n) 3)).drew (some ⟨W.heap.size + 1, 0, none⟩) y.length y := by
  have h := (Kd.R_reads' (Kd.R_drew (R_made1 (o := o) (Nat.le_refl W.heap.size) hn.out))).2.2
  rw [hy.out, List.length_replicate]; exact (by simpa using h)
end Go.Proofs.YtlencemmlgkflaaV.PrintWords

