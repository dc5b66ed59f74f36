/- Short words for what the print says at length: each takes a fact set aside and lays the steps that lead from it to the goal. No condition. -/
import Derived.Test.YtgnjhondoidfdaaMo
import Derived.Test.YtgnjhondoidfdaaWMore
import Derived.Test.YtgnjhondoidfdaaWKept
import Derived.Test.YtgnjhondoidfdaaWTab
import Derived.Tactics2
import Derived.KernelRfl
namespace Go.Proofs.Ytgnjhondoidfdaa
open Go.RowKit Go.Proofs.YtgnjhondoidfdaaW.PrintWords Go.Proofs.YtgnjhondoidfdaaW.PrintMore
section
variable {W W' W2 w : World} {g t : Nat} {o : Obj} {a b c d e f k : Value} {l : List Value}
theorem bc0 (h : Aside0 (W.heap[g]? = some (.cells (a :: l).toArray t (0, 0)))) : W.cell? ⟨g, 0, none⟩ = some a := (blk_cell h.out 0).trans rfl
theorem bc1 (h : Aside0 (W.heap[g]? = some (.cells (a :: b :: l).toArray t (0, 0)))) : W.cell? ⟨g, 1, none⟩ = some b := (blk_cell h.out 1).trans rfl
theorem bc2 (h : Aside0 (W.heap[g]? = some (.cells (a :: b :: c :: l).toArray t (0, 0)))) : W.cell? ⟨g, 2, none⟩ = some c := (blk_cell h.out 2).trans rfl
theorem bc3 (h : Aside0 (W.heap[g]? = some (.cells (a :: b :: c :: d :: l).toArray t (0, 0)))) : W.cell? ⟨g, 3, none⟩ = some d := (blk_cell h.out 3).trans rfl
theorem bc4 (h : Aside0 (W.heap[g]? = some (.cells (a :: b :: c :: d :: e :: l).toArray t (0, 0)))) : W.cell? ⟨g, 4, none⟩ = some e := (blk_cell h.out 4).trans rfl
theorem bc5 (h : Aside0 (W.heap[g]? = some (.cells (a :: b :: c :: d :: e :: f :: l).toArray t (0, 0)))) : W.cell? ⟨g, 5, none⟩ = some f := (blk_cell h.out 5).trans rfl
theorem bc6 (h : Aside0 (W.heap[g]? = some (.cells (a :: b :: c :: d :: e :: f :: k :: l).toArray t (0, 0)))) : W.cell? ⟨g, 6, none⟩ = some k := (blk_cell h.out 6).trans rfl
theorem bb (h : Aside0 (W.heap[g]? = some o)) (hb : Below W'.heap.size W' W2) (f : W.heap[g]? = some o → W'.heap[g]? = some o := by intro h_; (with_reducible repeat (first | refine blk_drewN ?_ _ | refine blk_drew ?_ | refine blk_alloc ?_ _)); exact h_) : Aside0 (W2.heap[g]? = some o) := ⟨blk_below (f h.out) hb⟩
theorem bl (h : Aside0 (W.heap[g]? = some o)) (f : W.heap[g]? = some o → W'.heap[g]? = some o := by intro h_; (with_reducible repeat (first | refine blk_drewN ?_ _ | refine blk_drew ?_ | refine blk_alloc ?_ _)); exact h_) : g < W'.heap.size := blk_lt (f h.out)
theorem gs0 (hg : g = W'.heap.size) (h : Aside0 (Below w.heap.size w W)) (f : Below w.heap.size w W → Below w.heap.size w W' := by intro h_; repeat (first | (with_reducible first | exact h_ | apply below_alloc | apply pw_below_drewN | apply below_drew1) | exact h_)) : Aside0 (w.heap.size ≤ g) := ⟨by rw [hg]; exact below_size (f h.out)⟩
theorem gs1 {r : Prop} (hg : g = W'.heap.size) (h : Aside0 (Below w.heap.size w W)) (x : Aside0 r) (f : Below w.heap.size w W → r → Below w.heap.size w W' := by intro h_ g_; repeat (first | (with_reducible first | exact h_ | apply below_alloc | apply pw_below_drewN | apply below_drew1 | refine below_set ?_ g_) | exact h_)) : Aside0 (w.heap.size ≤ g) := ⟨by rw [hg]; exact below_size (f h.out x.out)⟩
theorem gs2 {r s : Prop} (hg : g = W'.heap.size) (h : Aside0 (Below w.heap.size w W)) (x : Aside0 r) (y : Aside0 s) (f : Below w.heap.size w W → r → s → Below w.heap.size w W' := by intro h_ g_ k_; repeat (first | (with_reducible first | exact h_ | apply below_alloc | apply pw_below_drewN | apply below_drew1 | refine below_set ?_ g_ | refine below_set ?_ k_) | exact h_)) : Aside0 (w.heap.size ≤ g) := ⟨by rw [hg]; exact below_size (f h.out x.out y.out)⟩
theorem hc {ad : Addr} {v : Value} (h : Aside0 (Below w.heap.size w W)) (hx : w.cell? ad = some v) : W.cell? ad = some v := (h.out.cell (World.block_lt_of_cell? w _ hx)).trans hx
end
section
variable {q r s t u v p A B : Prop}
theorem cb (h : Aside0 A) (g : Aside0 B) (f : A → B → p := by intro h_ g_; repeat (first | exact (Kd.C_below h_ g_) | (with_reducible refine Kd.C_alloc ?_ _) | (with_reducible refine Kd.C_drewN ?_ _) | (with_reducible refine Kd.C_drew ?_))) : p := f h.out g.out
theorem cr (h : Aside0 A) (f : A → p := by intro h_; repeat (first | exact (Kd.R_reads' h_).2.2 | (with_reducible refine Kd.C_alloc ?_ _) | (with_reducible refine Kd.C_drewN ?_ _) | (with_reducible refine Kd.C_drew ?_))) : p := f h.out
theorem ml (f : p := by (try simp only [List.map_toArray, List.map_cons, List.map_nil]); first | done | rfl | (simp only [List.length_drop, List.length_take]; rfl)) : p := f
theorem er (f : p := by first | rfl | (simp [errW_none, errW_some] <;> rfl) | (simp [*, errW_none, errW_some] <;> rfl)) : p := f
theorem od [Decidable p] (f : decide p = true := by first | (with_reducible assumption) | assumption) : p := of_decide_eq_true f
theorem rs (f : p := by first | rfl | (simp; done) | (simp [*]; done)) : p := f
theorem be3 (h : Aside0 q) (a : Aside0 r) (b : Aside0 s) (c : Aside0 t) (f : q → r → s → t → p := by intro h_ a_ b_ c_; repeat (first | (with_reducible first | exact h_ | apply below_alloc | apply pw_below_drewN | apply below_drew1 | refine below_set ?_ a_ | refine below_set ?_ b_ | refine below_set ?_ c_) | exact h_)) : p := f h.out a.out b.out c.out
theorem be4 (h : Aside0 q) (a : Aside0 r) (b : Aside0 s) (c : Aside0 t) (d : Aside0 u) (f : q → r → s → t → u → p := by intro h_ a_ b_ c_ d_; repeat (first | (with_reducible first | exact h_ | apply below_alloc | apply pw_below_drewN | apply below_drew1 | refine below_set ?_ a_ | refine below_set ?_ b_ | refine below_set ?_ c_ | refine below_set ?_ d_) | exact h_)) : p := f h.out a.out b.out c.out d.out
theorem be5 (h : Aside0 q) (a : Aside0 r) (b : Aside0 s) (c : Aside0 t) (d : Aside0 u) (e : Aside0 v) (f : q → r → s → t → u → v → p := by intro h_ a_ b_ c_ d_ e_; repeat (first | (with_reducible first | exact h_ | apply below_alloc | apply pw_below_drewN | apply below_drew1 | refine below_set ?_ a_ | refine below_set ?_ b_ | refine below_set ?_ c_ | refine below_set ?_ d_ | refine below_set ?_ e_) | exact h_)) : p := f h.out a.out b.out c.out d.out e.out
theorem bf1 (h : Aside0 q) (a : Aside0 r) (f : q → r → p := by intro h_ a_; repeat (first | (with_reducible exact h_) | (with_reducible refine blk_drewN ?_ _) | (with_reducible refine blk_drew ?_) | (with_reducible refine blk_alloc ?_ _) | (refine blk_far ?_ a_ _) | exact h_)) : p := f h.out a.out
theorem bf2 (h : Aside0 q) (a : Aside0 r) (b : Aside0 s) (f : q → r → s → p := by intro h_ a_ b_; repeat (first | (with_reducible exact h_) | (with_reducible refine blk_drewN ?_ _) | (with_reducible refine blk_drew ?_) | (with_reducible refine blk_alloc ?_ _) | (refine blk_far ?_ a_ _) | (refine blk_far ?_ b_ _) | exact h_)) : p := f h.out a.out b.out
theorem bf3 (h : Aside0 q) (a : Aside0 r) (b : Aside0 s) (c : Aside0 t) (f : q → r → s → t → p := by intro h_ a_ b_ c_; repeat (first | (with_reducible exact h_) | (with_reducible refine blk_drewN ?_ _) | (with_reducible refine blk_drew ?_) | (with_reducible refine blk_alloc ?_ _) | (refine blk_far ?_ a_ _) | (refine blk_far ?_ b_ _) | (refine blk_far ?_ c_ _) | exact h_)) : p := f h.out a.out b.out c.out
end
abbrev nb (k : Nat) (A : Option Addr) (n c : Nat) : Prop := some k ≠ (Value.slice A n c).ownBlock
theorem am {p : Prop} (h : p) : Aside0 p := ⟨h⟩
section
open Go.Proofs.YtgnjhondoidfdaaW.PrintLast
variable {P : Program} {ops : Array Oper} {Q : Exit → Act → World → Prop} {md : Region.Mode} {S : World → Prop} {ds : List Nat} {T : Bool × List (List Nat × List Nat)} {B : List Nat} {oi : Oper} {fuel : Nat} {l : Array Bool} {a a' : Act} {w : World} {v : Value}
theorem py (HT : Aside0 (rtab md ops = T)) (i N : Nat) (l' : Array Bool) (h : wpAnyLast P md ops Q S ds fuel l' a' w) (hi : ops[i]? = some oi := by exact rfl) (hN : oi.dst = some N := by exact rfl) (hc : anyT T l.toList l'.toList i = true := by kernel_rfl) (hQ : (∀ c a w, Q (.panic c) (a.put oi.dst v) w → Q (.panic c) a w) := by exact fun _ _ _ h => h) (hy : Yields P ops oi v a := by refine Or.inl ⟨by rfl, ?_⟩; intro w'; go_simp; with_reducible rfl) (ha : a.put (some N) v = a' := by simp only [aP]; rfl) : wpAnyLast P md ops Q S ds (fuel + 1) l a w :=
  pure_ l' hi hN (any_of HT.out hc) hQ hy ha h
theorem pu (HT : Aside0 (rtab md ops = T)) (i N : Nat) (l' : Array Bool) (h : wpAnyLast P md ops Q S ds fuel l' a' w) (hi : ops[i]? = some oi := by exact rfl) (hN : oi.dst = some N := by exact rfl) (hc : anyT T l.toList l'.toList i = true := by kernel_rfl) (hQ : (∀ c a w, Q (.panic c) (a.put oi.dst undef) w → Q (.panic c) a w) := by exact fun _ _ _ h => h) (hy : Yields P ops oi undef a := by exact Or.inr ⟨by rfl, rfl⟩) (ha : a.put (some N) undef = a' := by simp only [aP]; rfl) : wpAnyLast P md ops Q S ds (fuel + 1) l a w :=
  pure_ l' hi hN (any_of HT.out hc) hQ hy ha h
theorem tk (HT : Aside0 (rtab md ops = T)) (HW : Aside0 (waitsOk T.2 B = true)) (hS : S w) (i N : Nat) (l' : Array Bool) (h : wpAnyLast P md ops Q S ds fuel l' a' w) (hi : ops[i]? = some oi := by exact rfl) (hN : oi.dst = some N := by exact rfl) (hc : takeW T B ds l.toList l'.toList i = true := by kernel_rfl) (hQ : (∀ c a w, Q (.panic c) (a.put oi.dst v) w → Q (.panic c) a w) := by exact fun _ _ _ h => h) (hy : YieldsIf P ops S oi v a := by refine Or.inl ⟨by rfl, ?_⟩; intro w' s_; (try dsimp only at s_); go_simp; with_reducible rfl) (ha : a.put (some N) v = a' := by simp only [aP]; rfl) : wpAnyLast P md ops Q S ds (fuel + 1) l a w :=
  take_ l' hi hN (take_ofW HT.out HW.out hc) hQ hy hS ha h
theorem gl {rest : List Oper} (N : Nat) {f : FuncId} {fn : Func} {as : Array Operand} {ts : Array TypeId} (hf : P.funcs[f]? = some fn) (args : Array Value)
    (h : Calls P f args w fun e w' => ∃ v, e = .returned v ∧ wpList P ops Q rest (a.put (some N) v) w') (hd : oi.dst = some N := by exact rfl) (hg : oi.guard = none := by exact rfl) (hname : (fn.name == "runtime.NumGoroutine") = false := by kernel_rfl) (hb : fn.body.isSome = true := by exact rfl)
    (hop : oi.op = .call { callee := .value (.func f), args := as, argTypes := ts } := by exact rfl) (hargs : as.map a.eval = args := by (try simp only [List.map_toArray, List.map_cons, List.map_nil]); first | done | rfl | (simp only [List.length_drop, List.length_take]; rfl)) : wpList P ops Q (oi :: rest) a w :=
  goesL_ (some N) hd hg hf hname hb args hop hargs h
theorem bx {rest : List Oper} {W : World} (N : Tmp) (cs : Array Value) (t : TypeId)
    (h : ∀ g, g = W.heap.size → ∀ w1, w1.heap[g]? = some (.cells cs t (0, 0)) → Below W.heap.size W w1 → wpList P ops Q rest (a.put oi.dst (.pointer (some ⟨g, 0, none⟩))) w1) (hgd : oi.guard = none := by exact rfl) (hd : oi.dst = some N := by exact rfl)
    (hrun : (execOp a.eval oi).run P W = .ok (.value (.pointer (some ⟨W.heap.size, 0, none⟩))) (W.alloc (.cells cs t (0, 0))) := by first | (go_simp; done) | (go_simp; rfl)) : wpList P ops Q (oi :: rest) a W :=
  box_event hgd hd hrun h
end
section
variable {W : World} {g t : Nat} {a b c d e f k : Value} {l : List Value}
theorem bz1 (h : Aside0 (W.heap[g]? = some (.cells (a :: l).toArray t (0, 0)))) : W.cell? ⟨g, 0, none⟩ = some a ∧ ∀ i, W.frozen? ⟨g, i, none⟩ = false := ⟨bc0 h, blk_frozen h.out⟩
theorem bz2 (h : Aside0 (W.heap[g]? = some (.cells (a :: b :: l).toArray t (0, 0)))) : W.cell? ⟨g, 0, none⟩ = some a ∧ W.cell? ⟨g, 1, none⟩ = some b ∧ ∀ i, W.frozen? ⟨g, i, none⟩ = false := ⟨bc0 h, bc1 h, blk_frozen h.out⟩
theorem bz3 (h : Aside0 (W.heap[g]? = some (.cells (a :: b :: c :: l).toArray t (0, 0)))) : W.cell? ⟨g, 0, none⟩ = some a ∧ W.cell? ⟨g, 1, none⟩ = some b ∧ W.cell? ⟨g, 2, none⟩ = some c ∧ ∀ i, W.frozen? ⟨g, i, none⟩ = false := ⟨bc0 h, bc1 h, bc2 h, blk_frozen h.out⟩
theorem bz4 (h : Aside0 (W.heap[g]? = some (.cells (a :: b :: c :: d :: l).toArray t (0, 0)))) : W.cell? ⟨g, 0, none⟩ = some a ∧ W.cell? ⟨g, 1, none⟩ = some b ∧ W.cell? ⟨g, 2, none⟩ = some c ∧ W.cell? ⟨g, 3, none⟩ = some d ∧ ∀ i, W.frozen? ⟨g, i, none⟩ = false := ⟨bc0 h, bc1 h, bc2 h, bc3 h, blk_frozen h.out⟩
theorem bz5 (h : Aside0 (W.heap[g]? = some (.cells (a :: b :: c :: d :: e :: l).toArray t (0, 0)))) : W.cell? ⟨g, 0, none⟩ = some a ∧ W.cell? ⟨g, 1, none⟩ = some b ∧ W.cell? ⟨g, 2, none⟩ = some c ∧ W.cell? ⟨g, 3, none⟩ = some d ∧ W.cell? ⟨g, 4, none⟩ = some e ∧ ∀ i, W.frozen? ⟨g, i, none⟩ = false := ⟨bc0 h, bc1 h, bc2 h, bc3 h, bc4 h, blk_frozen h.out⟩
end
section
variable {α β γ δ ε : Type} {d : Kd α} {d' d0 : Kd β} {d1 : Kd γ} {d2 : Kd δ} {d3 : Kd ε} {e e' e0 e1 e2 e3 t base base' g N : Nat} {ok ok' o0 o1 o2 o3 : Nat → Prop} {W W' w1 w : World} {u v v0 v1 v2 v3 : Value} {xs : List α} {ys y0 : List β} {y1 : List γ} {y2 : List δ} {y3 : List ε} {cells : Array Value}
theorem hs_ {W0 : World} {k i : Nat} (n : k ≠ g) (h : W.heap[k]? = W0.heap[k]?) : (W.setCell ⟨g, i, none⟩ u).heap[k]? = W0.heap[k]? := (Below.heap_setCell W ⟨g, i, none⟩ u k n).trans h
/-- A row, behind stores into a box of another type. -/
theorem rf {p : Prop} (h : Aside0 (d.R e W base ok v xs)) (b : Aside0 (W.heap[g]? = some (.cells cells t (0, 0)))) (f : (∀ W2 : World, (∀ k, k ≠ g → W2.heap[k]? = W.heap[k]?) → d.R e W2 base ok v xs) → p := by intro h_; (with_reducible repeat (first | apply Kd.R_alloc | apply Kd.R_drewN | apply Kd.R_drew)); exact h_ _ (by intro k_ n_; (repeat (refine hs_ n_ ?_)); rfl)) (ht : ∀ q, q ∈ e :: d.E → q ≠ t := by decide) : p :=
  f fun _ hw => Kd.R_mono (Kd.R_step (Kd.R_types h.out b.out ht) (fun k ho _ => hw k ho.2)) (fun _ h => h.1)
/-- .. and what it reads. -/
theorem rfr {A : Option Addr} {n c : Nat} (W2 : World) (h : Aside0 (d.R e W base ok (.slice A n c) xs)) (b : Aside0 (W.heap[g]? = some (.cells cells t (0, 0)))) (f : (∀ W2 : World, (∀ k, k ≠ g → W2.heap[k]? = W.heap[k]?) → d.R e W2 base ok (.slice A n c) xs) → d.R e W2 base ok (.slice A n c) xs := by intro h_; (with_reducible repeat (first | apply Kd.R_alloc | apply Kd.R_drewN | apply Kd.R_drew)); exact h_ _ (by intro k_ n_; (repeat (refine hs_ n_ ?_)); rfl)) (ht : ∀ q, q ∈ e :: d.E → q ≠ t := by decide) : d.C W2 A xs.length xs := (Kd.R_reads' (rf h b f ht)).2.2
theorem cj {p : Prop} (f : p := by intro k_ h_; revert h_; (try simp only [and_imp]); intros; (repeat' apply And.intro) <;> first | assumption | trivial | (intro e_; cases e_)) : p := f
theorem rm (h : Aside0 (d.R e w base ok v xs)) (f : ∀ k, ok k → ok' k := by intro k_ h_; revert h_; (try simp only [and_imp]); intros; (repeat' apply And.intro) <;> first | assumption | trivial | (intro e_; cases e_)) : d.R e w base ok' v xs := Kd.R_mono h.out f
theorem rom {p : Prop} (h : Aside0 (d.R e w base ok v xs)) (f : (∀ ok' : Nat → Prop, (∀ k, ok k → ok' k) → d.R e w base ok' v xs) → p := by intro h_; (with_reducible repeat (first | apply Kd.R_alloc | apply Kd.R_drewN | apply Kd.R_drew)); exact h_ _ (by intro k_ h_; revert h_; (try simp only [and_imp]); intros; (repeat' apply And.intro) <;> first | assumption | trivial | (intro e_; cases e_))) : p := f fun _ g => Kd.R_mono h.out g
theorem td1 (h : d.R e W base ok u xs) (hb : Below W.heap.size W w1) (a : d0.R e0 w1 W.heap.size o0 v0 y0) : Aside0 (d.R e w1 base (fun k => ok k ∧ some k ≠ v0.ownBlock) u xs) := ⟨Kd.R_mono (Kd.R_told (Kd.R_old h hb) (Kd.R_base a)) (fun _ h_ => h_.1)⟩
theorem td2 (h : d.R e W base ok u xs) (hb : Below W.heap.size W w1) (a : d0.R e0 w1 W.heap.size o0 v0 y0) (b : d1.R e1 w1 W.heap.size o1 v1 y1) : Aside0 (d.R e w1 base (fun k => (ok k ∧ some k ≠ v0.ownBlock) ∧ some k ≠ v1.ownBlock) u xs) := ⟨Kd.R_mono (Kd.R_told (Kd.R_told (Kd.R_old h hb) (Kd.R_base a)) (Kd.R_base b)) (fun _ h_ => h_.1)⟩
theorem td3 (h : d.R e W base ok u xs) (hb : Below W.heap.size W w1) (a : d0.R e0 w1 W.heap.size o0 v0 y0) (b : d1.R e1 w1 W.heap.size o1 v1 y1) (c : d2.R e2 w1 W.heap.size o2 v2 y2) : Aside0 (d.R e w1 base (fun k => ((ok k ∧ some k ≠ v0.ownBlock) ∧ some k ≠ v1.ownBlock) ∧ some k ≠ v2.ownBlock) u xs) := ⟨Kd.R_mono (Kd.R_told (Kd.R_told (Kd.R_told (Kd.R_old h hb) (Kd.R_base a)) (Kd.R_base b)) (Kd.R_base c)) (fun _ h_ => h_.1)⟩
theorem td4 (h : d.R e W base ok u xs) (hb : Below W.heap.size W w1) (a : d0.R e0 w1 W.heap.size o0 v0 y0) (b : d1.R e1 w1 W.heap.size o1 v1 y1) (c : d2.R e2 w1 W.heap.size o2 v2 y2) (f : d3.R e3 w1 W.heap.size o3 v3 y3) : Aside0 (d.R e w1 base (fun k => (((ok k ∧ some k ≠ v0.ownBlock) ∧ some k ≠ v1.ownBlock) ∧ some k ≠ v2.ownBlock) ∧ some k ≠ v3.ownBlock) u xs) := ⟨Kd.R_mono (Kd.R_told (Kd.R_told (Kd.R_told (Kd.R_told (Kd.R_old h hb) (Kd.R_base a)) (Kd.R_base b)) (Kd.R_base c)) (Kd.R_base f)) (fun _ h_ => h_.1)⟩
theorem nw (h : d.R e w1 W.heap.size ok v xs) (H : Aside0 (d'.R e' W' base' ok' u ys)) (f : d'.R e' W' base' ok' u ys → d'.R e' W base' ok' u ys := by intro h_; (with_reducible repeat (first | apply Kd.R_alloc | apply Kd.R_drewN | apply Kd.R_drew)); exact h_) : d.R e w1 W.heap.size (fun k => ok k ∧ some k ≠ u.ownBlock) v xs := Kd.R_new' h (Kd.R_lt (f H.out))
theorem rb (H : Aside0 (d.R e W' base ok v xs)) (hb : Below W.heap.size W w1) (f : d.R e W' base ok v xs → d.R e W base ok v xs := by intro h_; (with_reducible repeat (first | apply Kd.R_alloc | apply Kd.R_drewN | apply Kd.R_drew)); exact h_) : Aside0 (d.R e w1 base ok v xs) := ⟨Kd.R_below (f H.out) hb⟩
theorem s0 (H : Aside0 (Below w.heap.size w W')) (hb : Below W.heap.size W w1) (f : Below w.heap.size w W' → Below w.heap.size w W := by intro h_; repeat (first | (with_reducible first | exact h_ | apply below_alloc | apply pw_below_drewN | apply below_drew1) | exact h_)) : Aside0 (Below w.heap.size w w1) := ⟨below_step (f H.out) hb⟩
end
section
variable {W : World} {g t : Nat} {a b c d e : Value}
theorem st3 (h : Aside0 (W.heap[g]? = some (.cells #[a, b, c] t (0, 0)))) (x y z : Value) : (((W.setCell ⟨g, 0, none⟩ x).setCell ⟨g, 1, none⟩ y).setCell ⟨g, 2, none⟩ z).cell? ⟨g, 0, none⟩ = some x ∧ (((W.setCell ⟨g, 0, none⟩ x).setCell ⟨g, 1, none⟩ y).setCell ⟨g, 2, none⟩ z).cell? ⟨g, 1, none⟩ = some y ∧ (((W.setCell ⟨g, 0, none⟩ x).setCell ⟨g, 1, none⟩ y).setCell ⟨g, 2, none⟩ z).cell? ⟨g, 2, none⟩ = some z :=
  have k := blk_set (blk_set (blk_set h.out 0 x) 1 y) 2 z
  ⟨(blk_cell k 0).trans rfl, (blk_cell k 1).trans rfl, (blk_cell k 2).trans rfl⟩
theorem st5 (h : Aside0 (W.heap[g]? = some (.cells #[a, b, c, d, e] t (0, 0)))) (x y z u v : Value) : (((((W.setCell ⟨g, 0, none⟩ x).setCell ⟨g, 1, none⟩ y).setCell ⟨g, 2, none⟩ z).setCell ⟨g, 3, none⟩ u).setCell ⟨g, 4, none⟩ v).cell? ⟨g, 0, none⟩ = some x ∧ (((((W.setCell ⟨g, 0, none⟩ x).setCell ⟨g, 1, none⟩ y).setCell ⟨g, 2, none⟩ z).setCell ⟨g, 3, none⟩ u).setCell ⟨g, 4, none⟩ v).cell? ⟨g, 1, none⟩ = some y ∧ (((((W.setCell ⟨g, 0, none⟩ x).setCell ⟨g, 1, none⟩ y).setCell ⟨g, 2, none⟩ z).setCell ⟨g, 3, none⟩ u).setCell ⟨g, 4, none⟩ v).cell? ⟨g, 2, none⟩ = some z ∧ (((((W.setCell ⟨g, 0, none⟩ x).setCell ⟨g, 1, none⟩ y).setCell ⟨g, 2, none⟩ z).setCell ⟨g, 3, none⟩ u).setCell ⟨g, 4, none⟩ v).cell? ⟨g, 3, none⟩ = some u ∧ (((((W.setCell ⟨g, 0, none⟩ x).setCell ⟨g, 1, none⟩ y).setCell ⟨g, 2, none⟩ z).setCell ⟨g, 3, none⟩ u).setCell ⟨g, 4, none⟩ v).cell? ⟨g, 4, none⟩ = some v :=
  have k := blk_set (blk_set (blk_set (blk_set (blk_set h.out 0 x) 1 y) 2 z) 3 u) 4 v
  ⟨(blk_cell k 0).trans rfl, (blk_cell k 1).trans rfl, (blk_cell k 2).trans rfl, (blk_cell k 3).trans rfl, (blk_cell k 4).trans rfl⟩
end
end Go.Proofs.Ytgnjhondoidfdaa
