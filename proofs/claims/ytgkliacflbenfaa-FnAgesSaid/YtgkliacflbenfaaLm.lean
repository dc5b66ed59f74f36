/- Plain lemmas on rounds, wrapping, bytes and lists. No condition. -/
import Derived.Test.YtgkliacflbenfaaWMore
import Derived.Test.YtgkliacflbenfaaWWords
import Derived.Lib.Strings
namespace Go.Proofs.Ytgkliacflbenfaa.Lm
open Go.RowKit Go.Proofs.YtgkliacflbenfaaW.PrintWords Go.Proofs.YtgkliacflbenfaaW.PrintMore

/-- From some number of rounds on both tell the same. -/
def EvE {α : Type} (f g : Nat → α) : Prop := ∃ K, ∀ k, K ≤ k → f k = g k
theorem EvE.of {α : Type} {f g : Nat → α} (h : ∀ k, f k = g k) : EvE f g := ⟨0, fun k _ => h k⟩
theorem Ev.ofE {α : Type} {f g : Nat → Option α} {r : α} (h : EvE f g) (hg : Ev g r) : Ev f r := by
  obtain ⟨K, h⟩ := h
  obtain ⟨K', h'⟩ := hg
  exact ⟨max K K', fun k hk => (h k (by omega)).trans (h' k (by omega))⟩
theorem Ev.some_ {α : Type} {f : Nat → Option α} {r : α} (h : ∀ k, f k = some r) : Ev f r := ⟨0, fun k _ => h k⟩
theorem Ev.up {α : Type} {f g : Nat → Option α} {r : α} (h : EvE (fun k => f (k + 1)) g) (hg : Ev g r) : Ev f r := by
  obtain ⟨K, h⟩ := h
  obtain ⟨K', h'⟩ := hg
  refine ⟨max K K' + 1, fun k hk => ?_⟩
  obtain ⟨m, rfl⟩ : ∃ m, k = m + 1 := ⟨k - 1, by omega⟩
  exact (h m (by omega)).trans (h' m (by omega))

/-- From some number of rounds on. -/
def EvP (P : Nat → Prop) : Prop := ∃ K, ∀ k, K ≤ k → P k
theorem evP {α : Type} {f : Nat → Option α} {r : α} (h : Ev f r) : EvP (fun k => f k = some r) := h
theorem evA {α : Type} {f : Nat → Option α} {r : α} {P : Nat → Prop} (h : Ev f r) (h' : EvP P) : EvP (fun k => f k = some r ∧ P k) := by
  obtain ⟨K, h⟩ := h
  obtain ⟨K', h'⟩ := h'
  exact ⟨max K K', fun k hk => ⟨h k (by omega), h' k (by omega)⟩⟩
theorem EvP.ev {α : Type} {f : Nat → Option α} {r : α} {P : Nat → Prop} (h : EvP P) (g : ∀ k, P k → f k = some r) : Ev f r := by
  obtain ⟨K, h⟩ := h
  exact ⟨K, fun k hk => g k (h k hk)⟩
theorem EvP.eve {α : Type} {f g : Nat → α} {P : Nat → Prop} (h : EvP P) (e : ∀ k, P k → f k = g k) : EvE f g := by
  obtain ⟨K, h⟩ := h
  exact ⟨K, fun k hk => e k (h k hk)⟩
theorem EvP.ex {P : Nat → Prop} (h : EvP P) : ∃ k, P k := by
  obtain ⟨K, h⟩ := h
  exact ⟨K, h K (Nat.le_refl _)⟩

/-- A loop over i = 0, 1, .., n - 1: what it tells at i in the state s is r i s. -/
theorem Ev.scan {σ ρ : Type} (l : Nat → σ → Int → Option ρ) (n : Nat) (Inv : Nat → σ → Prop) (r : Nat → σ → ρ)
    (hend : ∀ s, Inv n s → Ev (fun k => l (k + 1) s (n : Int)) (r n s))
    (hstep : ∀ (i : Nat) s, i < n → Inv i s → Ev (fun k => l (k + 1) s (i : Int)) (r i s) ∨ ∃ s', Inv (i + 1) s' ∧ r (i + 1) s' = r i s ∧ EvE (fun k => l (k + 1) s (i : Int)) (fun k => l k s' ((i + 1 : Nat) : Int))) :
    ∀ (i : Nat) s, i ≤ n → Inv i s → Ev (fun k => l k s (i : Int)) (r i s) := by
  have key : ∀ (d i : Nat) s, n - i = d → i ≤ n → Inv i s → Ev (fun k => l k s (i : Int)) (r i s) := by
    intro d
    induction d with
    | zero =>
      intro i s hd hi hI
      obtain rfl : i = n := by omega
      exact Ev.up (EvE.of fun _ => rfl) (hend s hI)
    | succ d ih =>
      intro i s hd hi hI
      rcases hstep i s (by omega) hI with h | ⟨s', hI', hr, hE⟩
      · exact Ev.up (EvE.of fun _ => rfl) h
      · rw [← hr]
        exact Ev.up hE (ih (i + 1) s' (by omega) (by omega) hI')
  exact fun i s hi hI => key (n - i) i s rfl hi hI

theorem w64 {x : Int} (h0 : -9223372036854775808 ≤ x) (h1 : x ≤ 9223372036854775807) : wrap64 x = x := by unfold wrap64; omega
theorem w64s {i n : Nat} (h : i < n) (hn : n ≤ 9223372036854775807) : wrap64 ((i : Int) + 1) = ((i + 1 : Nat) : Int) := by unfold wrap64; omega
theorem rd_nat (xs : List Int) (i : Nat) : rd xs (i : Int) = xs.getD i 0 := by unfold rd; rw [Int.toNat_natCast]
theorem drop_cons {α : Type} (d : α) (xs : List α) (i : Nat) (h : i < xs.length) : xs.drop i = xs.getD i d :: xs.drop (i + 1) := by
  rw [List.drop_eq_getElem_cons h]; simp [List.getD_eq_getElem?_getD, List.getElem?_eq_getElem h]
theorem drop_rd (xs : List Int) (i : Nat) (h : i < xs.length) : xs.drop i = rd xs (i : Int) :: xs.drop (i + 1) := by rw [rd_nat]; exact drop_cons 0 xs i h
/-- The same where only something is asked of what comes out. -/
theorem Ev.scanX {σ ρ : Type} (l : Nat → σ → Int → Option ρ) (n : Nat) (Inv : Nat → σ → Prop) (Post : ρ → Prop)
    (hend : ∀ s, Inv n s → ∃ r, Post r ∧ Ev (fun k => l (k + 1) s (n : Int)) r)
    (hstep : ∀ (i : Nat) s, i < n → Inv i s → (∃ r, Post r ∧ Ev (fun k => l (k + 1) s (i : Int)) r) ∨ ∃ s', Inv (i + 1) s' ∧ EvE (fun k => l (k + 1) s (i : Int)) (fun k => l k s' ((i + 1 : Nat) : Int))) :
    ∀ (i : Nat) s, i ≤ n → Inv i s → ∃ r, Post r ∧ Ev (fun k => l k s (i : Int)) r := by
  have key : ∀ (d i : Nat) s, n - i = d → i ≤ n → Inv i s → ∃ r, Post r ∧ Ev (fun k => l k s (i : Int)) r := by
    intro d
    induction d with
    | zero =>
      intro i s hd hi hI
      obtain rfl : i = n := by omega
      obtain ⟨r, hp, hr⟩ := hend s hI
      exact ⟨r, hp, Ev.up (EvE.of fun _ => rfl) hr⟩
    | succ d ih =>
      intro i s hd hi hI
      rcases hstep i s (by omega) hI with ⟨r, hp, h⟩ | ⟨s', hI', hE⟩
      · exact ⟨r, hp, Ev.up (EvE.of fun _ => rfl) h⟩
      · obtain ⟨r, hp, hr⟩ := ih (i + 1) s' (by omega) (by omega) hI'
        exact ⟨r, hp, Ev.up hE hr⟩
  exact fun i s hi hI => key (n - i) i s rfl hi hI

/-- The same where a round may take more than one. -/
theorem Ev.scan' {σ ρ : Type} (l : Nat → σ → Int → Option ρ) (n : Nat) (Inv : Nat → σ → Prop) (r : Nat → σ → ρ)
    (hend : ∀ s, Inv n s → Ev (fun k => l k s (n : Int)) (r n s))
    (hstep : ∀ (i : Nat) s, i < n → Inv i s → Ev (fun k => l k s (i : Int)) (r i s) ∨ ∃ s', Inv (i + 1) s' ∧ r (i + 1) s' = r i s ∧ ∀ q, Ev (fun k => l k s' ((i + 1 : Nat) : Int)) q → Ev (fun k => l k s (i : Int)) q) :
    ∀ (i : Nat) s, i ≤ n → Inv i s → Ev (fun k => l k s (i : Int)) (r i s) := by
  have key : ∀ (d i : Nat) s, n - i = d → i ≤ n → Inv i s → Ev (fun k => l k s (i : Int)) (r i s) := by
    intro d
    induction d with
    | zero =>
      intro i s hd hi hI
      obtain rfl : i = n := by omega
      exact hend s hI
    | succ d ih =>
      intro i s hd hi hI
      rcases hstep i s (by omega) hI with h | ⟨s', hI', hr, hE⟩
      · exact h
      · rw [← hr]
        exact hE _ (ih (i + 1) s' (by omega) (by omega) hI')
  exact fun i s hi hI => key (n - i) i s rfl hi hI

/-- No blank and no break. -/
def plain (l : List Int) : Bool := l.all fun c => c != 32 && c != 10
/-- All of what is below a number. -/
def allN (n : Nat) (p : Nat → Bool) : Bool := (List.range n).all p
theorem allN_drop (n i : Nat) (p : Nat → Bool) (h : i < n) : ((List.range n).drop i).all p = (p i && ((List.range n).drop (i + 1)).all p) := by
  rw [List.drop_eq_getElem_cons (i := i) (by simpa using h), List.all_cons, List.getElem_range]
/-- A loop over 0, 1, .., n - 1 that asks each, and goes away at the first that isn't so. -/
theorem Ev.asks (l : Nat → Int → Option Bool) (n : Nat) (p : Nat → Bool) (b : Bool)
    (hend : Ev (fun k => l (k + 1) (n : Int)) b)
    (hno : ∀ i : Nat, i < n → p i = false → Ev (fun k => l (k + 1) (i : Int)) false)
    (hyes : ∀ i : Nat, i < n → p i = true → EvE (fun k => l (k + 1) (i : Int)) (fun k => l k ((i + 1 : Nat) : Int))) : Ev (fun k => l k 0) (allN n p && b) := by
  have key := Ev.scan (σ := Unit) (fun k _ i => l k i) n (fun _ _ => True) (fun i _ => ((List.range n).drop i).all p && b)
    (fun _ _ => by rw [List.drop_eq_nil_of_le (by simp)]; simpa using hend)
    (fun i _ hi _ => by
      rw [allN_drop n i p hi]
      cases c : p i with
      | false => exact .inl (by simpa using hno i hi c)
      | true => exact .inr ⟨(), trivial, by simp, hyes i hi c⟩) 0 () (Nat.zero_le _) trivial
  simpa [allN] using key
end Go.Proofs.Ytgkliacflbenfaa.Lm
