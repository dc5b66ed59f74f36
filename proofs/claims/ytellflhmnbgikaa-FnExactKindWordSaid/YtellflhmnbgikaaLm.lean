/- Plain lemmas on rounds, wrapping, bytes and lists. No condition. -/
import Derived.Test.YtellflhmnbgikaaWMore
import Derived.Test.YtellflhmnbgikaaWWords
import Derived.Lib.Strings
namespace Go.Proofs.Ytellflhmnbgikaa.Lm
open Go.RowKit Go.Proofs.YtellflhmnbgikaaW.PrintWords Go.Proofs.YtellflhmnbgikaaW.PrintMore

/-- From some number of rounds on both tell the same. -/
def EvE {α : Type} (f g : Nat → α) : Prop := ∃ K, ∀ k, K ≤ k → f k = g k
theorem EvE.of {α : Type} {f g : Nat → α} (h : ∀ k, f k = g k) : EvE f g := ⟨0, fun k _ => h k⟩
theorem Ev.ofE {α : Type} {f g : Nat → Option α} {r : α} (h : EvE f g) (hg : Ev g r) : Ev f r := by
  obtain ⟨K, h⟩ := h
  obtain ⟨K', h'⟩ := hg
  exact ⟨max K K', fun k hk => (h k (by omega)).trans (h' k (by omega))⟩
theorem Ev.some_ {α : Type} {f : Nat → Option α} {r : α} (h : ∀ k, f k = some r) : Ev f r := ⟨0, fun k _ => h k⟩
theorem Ev.up {α : Type} {f g : Nat → Option α} {r : α} (h : EvE (fun k => f (k + 1)) g) (hg : Ev g r) : Ev f r := by
  obtain ⟨K, h⟩ := h
  obtain ⟨K', h'⟩ := hg
  refine ⟨max K K' + 1, fun k hk => ?_⟩
  obtain ⟨m, rfl⟩ : ∃ m, k = m + 1 := ⟨k - 1, by omega⟩
  exact (h m (by omega)).trans (h' m (by omega))

/-- A loop over i = 0, 1, .., n - 1: what it tells at i in the state s is r i s. -/
theorem Ev.scan {σ ρ : Type} (l : Nat → σ → Int → Option ρ) (n : Nat) (Inv : Nat → σ → Prop) (r : Nat → σ → ρ)
    (hend : ∀ s, Inv n s → Ev (fun k => l (k + 1) s (n : Int)) (r n s))
    (hstep : ∀ (i : Nat) s, i < n → Inv i s → Ev (fun k => l (k + 1) s (i : Int)) (r i s) ∨ ∃ s', Inv (i + 1) s' ∧ r (i + 1) s' = r i s ∧ EvE (fun k => l (k + 1) s (i : Int)) (fun k => l k s' ((i + 1 : Nat) : Int))) :
    ∀ (i : Nat) s, i ≤ n → Inv i s → Ev (fun k => l k s (i : Int)) (r i s) := by
  have key : ∀ (d i : Nat) s, n - i = d → i ≤ n → Inv i s → Ev (fun k => l k s (i : Int)) (r i s) := by
    intro d
    induction d with
    | zero =>
      intro i s hd hi hI
      obtain rfl : i = n := by omega
      exact Ev.up (EvE.of fun _ => rfl) (hend s hI)
    | succ d ih =>
      intro i s hd hi hI
      rcases hstep i s (by omega) hI with h | ⟨s', hI', hr, hE⟩
      · exact Ev.up (EvE.of fun _ => rfl) h
      · rw [← hr]
        exact Ev.up hE (ih (i + 1) s' (by omega) (by omega) hI')
  exact fun i s hi hI => key (n - i) i s rfl hi hI

theorem w64 {x : Int} (h0 : -9223372036854775808 ≤ x) (h1 : x ≤ 9223372036854775807) : wrap64 x = x := by unfold wrap64; omega
theorem w64s {i n : Nat} (h : i < n) (hn : n ≤ 9223372036854775807) : wrap64 ((i : Int) + 1) = ((i + 1 : Nat) : Int) := by unfold wrap64; omega
theorem rdOf_nat {α : Type} (d : α) (xs : List α) (i : Nat) : rdOf d xs (i : Int) = xs.getD i d := by unfold rdOf; rw [Int.toNat_natCast]
theorem rd_nat (xs : List Int) (i : Nat) : rd xs (i : Int) = xs.getD i 0 := by unfold rd; rw [Int.toNat_natCast]
theorem bt_nat (s : ByteArray) (i : Nat) : bt s (i : Int) = (bytesOf s).getD i 0 := by rw [← rd_bytesOf, rd_nat]
theorem drop_cons {α : Type} (d : α) (xs : List α) (i : Nat) (h : i < xs.length) : xs.drop i = xs.getD i d :: xs.drop (i + 1) := by
  rw [List.drop_eq_getElem_cons h]; simp [List.getD_eq_getElem?_getD, List.getElem?_eq_getElem h]
theorem toList_inj {a b : ByteArray} : a.toList = b.toList ↔ a = b := by
  rw [ByteArray.toList_eq, ByteArray.toList_eq]
  constructor
  · intro h
    exact ByteArray.ext (by cases h1 : a.data; cases h2 : b.data; simp_all)
  · rintro rfl; rfl
theorem copied {α : Type} (s xs : List α) (d : α) (i : Nat) (h : i < xs.length) (hs : s.length = xs.length) : (s.set i (xs.getD i d)).take (i + 1) ++ xs.drop (i + 1) = s.take i ++ xs.drop i := by
  rw [drop_cons d xs i h, List.take_add_one, List.getElem?_set_self (by omega), List.take_set_of_le (Nat.le_refl i)]
  simp
theorem drop_rdOf {α : Type} (d : α) (xs : List α) (i : Nat) (h : i < xs.length) : xs.drop i = rdOf d xs (i : Int) :: xs.drop (i + 1) := by rw [rdOf_nat]; exact drop_cons d xs i h
theorem drop_rd (xs : List Int) (i : Nat) (h : i < xs.length) : xs.drop i = rd xs (i : Int) :: xs.drop (i + 1) := by rw [rd_nat]; exact drop_cons 0 xs i h
theorem drop_bt (s : ByteArray) (i : Nat) (h : i < s.size) : (bytesOf s).drop i = bt s (i : Int) :: (bytesOf s).drop (i + 1) := by rw [← rd_bytesOf]; exact drop_rd _ i (by rw [bytesOf_length]; exact h)
/-- No blank and no break. -/
def plain (l : List Int) : Bool := l.all fun c => c != 32 && c != 10
/-- An item is right. -/
def itemOk (a b : ByteArray) (f : Int) : Bool := decide (1 ≤ (a.size : Int)) && decide ((a.size : Int) ≤ 20) && decide ((b.size : Int) ≤ 40) && plain (bytesOf a) && plain (bytesOf b) && decide (0 ≤ f) && decide (f ≤ 3)
end Go.Proofs.Ytellflhmnbgikaa.Lm
