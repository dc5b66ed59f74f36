/- Rows of the call's own whose elements have one cell: opened, made again, written over. No condition. -/
import Derived.Test.YtgnjhondoidfdaaMo
import Derived.Test.YtgnjhondoidfdaaWKept
import Derived.Laws.IdiomCopy
import Derived.Deep.Upon
import Derived.Lib.RowBridge
namespace Go.Proofs.Ytgnjhondoidfdaa.Ow
open Go.RowKit Go.Proofs.YtgnjhondoidfdaaW.PrintWords Go.Lib
section
variable {α : Type} {enc : α → Value} {h1 : ∀ x, (enc x).oneCell' = true}
theorem inner_eq {xs : List α} {cs : List Value} (h : Reps (fun x c => c = [enc x]) 1 xs cs) : cs = xs.map enc := by
  have hl : cs.length = xs.length := by rw [h.1, Nat.mul_one]
  refine List.ext_getElem (by rw [List.length_map, hl]) fun j a b => ?_
  have hj : j < xs.length := by omega
  have := h.2 j xs[j] (List.getElem?_eq_getElem hj)
  rw [Nat.mul_one, List.drop_eq_getElem_cons a] at this
  have h3 : cs[j] :: (cs.drop (j + 1)).take 0 = [enc xs[j]] := this
  rw [List.getElem_map]
  exact (List.cons.inj h3).1
theorem reps_of (xs : List α) : Reps (fun x c => c = [enc x]) 1 xs (xs.map enc) := by
  refine ⟨by simp, fun j p hj => ?_⟩
  obtain ⟨hlt, rfl⟩ := List.getElem?_eq_some_iff.1 hj
  rw [Nat.mul_one, List.drop_eq_getElem_cons (by simpa using hlt)]
  simp
theorem opened {w : World} {base e : Nat} {ok : Nat → Prop} {v : Value} {xs : List α} (h : Kd.R (Kd.scalar enc h1) e w base ok v xs) (hn : 0 < xs.length) :
    ∃ g cap cur, v = .slice (some ⟨g, 0, none⟩) xs.length cap ∧ base ≤ g ∧ w.heap[g]? = some (.cells cur e (0, 0)) ∧ xs.length ≤ cap ∧ cap ≤ maxLen ∧ cur.size = cap ∧ cur.toList.take xs.length = xs.map enc ∧ ok g := by
  obtain ⟨h0, inner, ⟨hl, ho⟩, hr⟩ := h
  have hi := inner_eq hr
  rcases ho with ⟨_, h2⟩ | ⟨g, cap, cur, rfl, hg, hh, hc1, hc2, hs, ht⟩
  · omega
  · refine ⟨g, cap, cur, rfl, hg, hh, hc1, hc2, ?_, ?_, h0 g (by simp [Value.ownBlock])⟩
    · rw [hs]; exact Nat.mul_one cap
    · rw [← hi, ← ht]; exact congrArg (fun q => cur.toList.take q) (Nat.mul_one _).symm
theorem made {w : World} {base e : Nat} {ok : Nat → Prop} {xs : List α} {g cap : Nat} {cur : Array Value} (hok : ok g) (hb : base ≤ g) (hh : w.heap[g]? = some (.cells cur e (0, 0))) (hc1 : xs.length ≤ cap) (hc2 : cap ≤ maxLen) (hs : cur.size = cap) (ht : cur.toList.take xs.length = xs.map enc) :
    Kd.R (Kd.scalar enc h1) e w base ok (.slice (some ⟨g, 0, none⟩) xs.length cap) xs := by
  refine ⟨fun k hk => ?_, xs.map enc, ⟨by rw [List.length_map]; exact (Nat.mul_one _).symm, .inr ⟨g, cap, cur, rfl, hb, hh, hc1, hc2, ?_, ?_⟩⟩, reps_of xs⟩
  · have : g = k := by simpa [Value.ownBlock] using hk
    exact this ▸ hok
  · rw [hs]; exact (Nat.mul_one cap).symm
  · rw [← ht]; exact congrArg (fun q => cur.toList.take q) (Nat.mul_one _)
theorem cells {w : World} {g e : Nat} {cur : Array Value} {xs : List α} (hh : w.heap[g]? = some (.cells cur e (0, 0))) (ht : cur.toList.take xs.length = xs.map enc) (j : Nat) (hj : j < xs.length) : w.cell? ⟨g, j, none⟩ = some (enc xs[j]) := by
  rw [blk_cell hh, ← Array.getElem?_toList, ← List.getElem?_take_of_lt hj, ht, List.getElem?_map, List.getElem?_eq_getElem hj]; rfl
end
theorem heap_setCells (g t : Nat) : ∀ (vs : List Value) (o : Nat) (w : World) (cur : Array Value), w.heap[g]? = some (.cells cur t (0, 0)) → o + vs.length ≤ cur.size → ∃ cur', (w.setCells g o vs).heap[g]? = some (.cells cur' t (0, 0)) ∧ cur'.size = cur.size ∧ cur'.toList = cur.toList.take o ++ vs ++ cur.toList.drop (o + vs.length) := by
  intro vs
  induction vs with
  | nil => intro o w cur h _; exact ⟨cur, h, rfl, by simp⟩
  | cons v vs ih =>
    intro o w cur h hl
    simp only [List.length_cons] at hl
    obtain ⟨cur', h1, h2, h3⟩ := ih (o + 1) (w.setCell ⟨g, o, none⟩ v) (cur.setIfInBounds o v) (blk_set h o v) (by rw [Array.size_setIfInBounds]; omega)
    refine ⟨cur', h1, by rw [h2, Array.size_setIfInBounds], ?_⟩
    rw [h3, Array.toList_setIfInBounds, List.take_add_one, List.getElem?_set_self (by rw [Array.length_toList]; omega), List.take_set_of_le (Nat.le_refl o), List.drop_set_of_lt (by omega), List.length_cons, show o + 1 + vs.length = o + (vs.length + 1) by omega]
    simp
theorem below_setCells {B g : Nat} {w0 : World} (hg : B ≤ g) : ∀ (vs : List Value) (o : Nat) (w : World), Below B w0 w → Below B w0 (w.setCells g o vs)
  | [], _, _, h => h
  | _ :: vs, o, _, h => below_setCells hg vs (o + 1) _ (h.setCell hg _)
theorem size_setCells (g : Nat) : ∀ (vs : List Value) (o : Nat) (w : World), (w.setCells g o vs).heap.size = w.heap.size
  | [], _, _ => rfl
  | _ :: vs, o, w => by rw [World.setCells, size_setCells g vs (o + 1)]; simp
theorem kept_setCells {w W : World} {S : Nat → Prop} {g : Nat} (hg : S g) : ∀ (vs : List Value) (o : Nat) (W : World), Kept w W S → Kept w (W.setCells g o vs) S
  | [], _, _, h => h
  | _ :: vs, o, _, h => kept_setCells (W := W) hg vs (o + 1) _ (h.setCell (.inl hg) _)
end Go.Proofs.Ytgnjhondoidfdaa.Ow
