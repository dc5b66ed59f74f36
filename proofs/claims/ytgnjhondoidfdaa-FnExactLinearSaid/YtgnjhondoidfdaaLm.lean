/- Plain lemmas on rounds, wrapping, bytes and lists. No condition. -/
import Derived.Test.YtgnjhondoidfdaaWMore
import Derived.Test.YtgnjhondoidfdaaWWords
import Derived.Lib.Strings
namespace Go.Proofs.Ytgnjhondoidfdaa.Lm
open Go.RowKit Go.Proofs.YtgnjhondoidfdaaW.PrintWords Go.Proofs.YtgnjhondoidfdaaW.PrintMore

/-- From some number of rounds on both tell the same. -/
def EvE {α : Type} (f g : Nat → α) : Prop := ∃ K, ∀ k, K ≤ k → f k = g k
theorem EvE.of {α : Type} {f g : Nat → α} (h : ∀ k, f k = g k) : EvE f g := ⟨0, fun k _ => h k⟩
theorem Ev.ofE {α : Type} {f g : Nat → Option α} {r : α} (h : EvE f g) (hg : Ev g r) : Ev f r := by
  obtain ⟨K, h⟩ := h
  obtain ⟨K', h'⟩ := hg
  exact ⟨max K K', fun k hk => (h k (by omega)).trans (h' k (by omega))⟩
theorem Ev.some_ {α : Type} {f : Nat → Option α} {r : α} (h : ∀ k, f k = some r) : Ev f r := ⟨0, fun k _ => h k⟩
theorem Ev.up {α : Type} {f g : Nat → Option α} {r : α} (h : EvE (fun k => f (k + 1)) g) (hg : Ev g r) : Ev f r := by
  obtain ⟨K, h⟩ := h
  obtain ⟨K', h'⟩ := hg
  refine ⟨max K K' + 1, fun k hk => ?_⟩
  obtain ⟨m, rfl⟩ : ∃ m, k = m + 1 := ⟨k - 1, by omega⟩
  exact (h m (by omega)).trans (h' m (by omega))

/-- From some number of rounds on. -/
def EvP (P : Nat → Prop) : Prop := ∃ K, ∀ k, K ≤ k → P k
theorem evP {α : Type} {f : Nat → Option α} {r : α} (h : Ev f r) : EvP (fun k => f k = some r) := h
theorem evA {α : Type} {f : Nat → Option α} {r : α} {P : Nat → Prop} (h : Ev f r) (h' : EvP P) : EvP (fun k => f k = some r ∧ P k) := by
  obtain ⟨K, h⟩ := h
  obtain ⟨K', h'⟩ := h'
  exact ⟨max K K', fun k hk => ⟨h k (by omega), h' k (by omega)⟩⟩
theorem EvP.ev {α : Type} {f : Nat → Option α} {r : α} {P : Nat → Prop} (h : EvP P) (g : ∀ k, P k → f k = some r) : Ev f r := by
  obtain ⟨K, h⟩ := h
  exact ⟨K, fun k hk => g k (h k hk)⟩
theorem EvP.eve {α : Type} {f g : Nat → α} {P : Nat → Prop} (h : EvP P) (e : ∀ k, P k → f k = g k) : EvE f g := by
  obtain ⟨K, h⟩ := h
  exact ⟨K, fun k hk => e k (h k hk)⟩
theorem EvP.ex {P : Nat → Prop} (h : EvP P) : ∃ k, P k := by
  obtain ⟨K, h⟩ := h
  exact ⟨K, h K (Nat.le_refl _)⟩

/-- A loop over i = 0, 1, .., n - 1: what it tells at i in the state s is r i s. -/
theorem Ev.scan {σ ρ : Type} (l : Nat → σ → Int → Option ρ) (n : Nat) (Inv : Nat → σ → Prop) (r : Nat → σ → ρ)
    (hend : ∀ s, Inv n s → Ev (fun k => l (k + 1) s (n : Int)) (r n s))
    (hstep : ∀ (i : Nat) s, i < n → Inv i s → Ev (fun k => l (k + 1) s (i : Int)) (r i s) ∨ ∃ s', Inv (i + 1) s' ∧ r (i + 1) s' = r i s ∧ EvE (fun k => l (k + 1) s (i : Int)) (fun k => l k s' ((i + 1 : Nat) : Int))) :
    ∀ (i : Nat) s, i ≤ n → Inv i s → Ev (fun k => l k s (i : Int)) (r i s) := by
  have key : ∀ (d i : Nat) s, n - i = d → i ≤ n → Inv i s → Ev (fun k => l k s (i : Int)) (r i s) := by
    intro d
    induction d with
    | zero =>
      intro i s hd hi hI
      obtain rfl : i = n := by omega
      exact Ev.up (EvE.of fun _ => rfl) (hend s hI)
    | succ d ih =>
      intro i s hd hi hI
      rcases hstep i s (by omega) hI with h | ⟨s', hI', hr, hE⟩
      · exact Ev.up (EvE.of fun _ => rfl) h
      · rw [← hr]
        exact Ev.up hE (ih (i + 1) s' (by omega) (by omega) hI')
  exact fun i s hi hI => key (n - i) i s rfl hi hI

theorem w64 {x : Int} (h0 : -9223372036854775808 ≤ x) (h1 : x ≤ 9223372036854775807) : wrap64 x = x := by unfold wrap64; omega
theorem w64s {i n : Nat} (h : i < n) (hn : n ≤ 9223372036854775807) : wrap64 ((i : Int) + 1) = ((i + 1 : Nat) : Int) := by unfold wrap64; omega
theorem rdOf_nat {α : Type} (d : α) (xs : List α) (i : Nat) : rdOf d xs (i : Int) = xs.getD i d := by unfold rdOf; rw [Int.toNat_natCast]
theorem rd_nat (xs : List Int) (i : Nat) : rd xs (i : Int) = xs.getD i 0 := by unfold rd; rw [Int.toNat_natCast]
theorem bt_nat (s : ByteArray) (i : Nat) : bt s (i : Int) = (bytesOf s).getD i 0 := by rw [← rd_bytesOf, rd_nat]
theorem drop_cons {α : Type} (d : α) (xs : List α) (i : Nat) (h : i < xs.length) : xs.drop i = xs.getD i d :: xs.drop (i + 1) := by
  rw [List.drop_eq_getElem_cons h]; simp [List.getD_eq_getElem?_getD, List.getElem?_eq_getElem h]
theorem toList_inj {a b : ByteArray} : a.toList = b.toList ↔ a = b := by
  rw [ByteArray.toList_eq, ByteArray.toList_eq]
  constructor
  · intro h
    exact ByteArray.ext (by cases h1 : a.data; cases h2 : b.data; simp_all)
  · rintro rfl; rfl
theorem copied {α : Type} (s xs : List α) (d : α) (i : Nat) (h : i < xs.length) (hs : s.length = xs.length) : (s.set i (xs.getD i d)).take (i + 1) ++ xs.drop (i + 1) = s.take i ++ xs.drop i := by
  rw [drop_cons d xs i h, List.take_add_one, List.getElem?_set_self (by omega), List.take_set_of_le (Nat.le_refl i)]
  simp
theorem drop_rdOf {α : Type} (d : α) (xs : List α) (i : Nat) (h : i < xs.length) : xs.drop i = rdOf d xs (i : Int) :: xs.drop (i + 1) := by rw [rdOf_nat]; exact drop_cons d xs i h
theorem drop_rd (xs : List Int) (i : Nat) (h : i < xs.length) : xs.drop i = rd xs (i : Int) :: xs.drop (i + 1) := by rw [rd_nat]; exact drop_cons 0 xs i h
theorem drop_bt (s : ByteArray) (i : Nat) (h : i < s.size) : (bytesOf s).drop i = bt s (i : Int) :: (bytesOf s).drop (i + 1) := by rw [← rd_bytesOf]; exact drop_rd _ i (by rw [bytesOf_length]; exact h)
/-- The same where only something is asked of what comes out. -/
theorem Ev.scanX {σ ρ : Type} (l : Nat → σ → Int → Option ρ) (n : Nat) (Inv : Nat → σ → Prop) (Post : ρ → Prop)
    (hend : ∀ s, Inv n s → ∃ r, Post r ∧ Ev (fun k => l (k + 1) s (n : Int)) r)
    (hstep : ∀ (i : Nat) s, i < n → Inv i s → (∃ r, Post r ∧ Ev (fun k => l (k + 1) s (i : Int)) r) ∨ ∃ s', Inv (i + 1) s' ∧ EvE (fun k => l (k + 1) s (i : Int)) (fun k => l k s' ((i + 1 : Nat) : Int))) :
    ∀ (i : Nat) s, i ≤ n → Inv i s → ∃ r, Post r ∧ Ev (fun k => l k s (i : Int)) r := by
  have key : ∀ (d i : Nat) s, n - i = d → i ≤ n → Inv i s → ∃ r, Post r ∧ Ev (fun k => l k s (i : Int)) r := by
    intro d
    induction d with
    | zero =>
      intro i s hd hi hI
      obtain rfl : i = n := by omega
      obtain ⟨r, hp, hr⟩ := hend s hI
      exact ⟨r, hp, Ev.up (EvE.of fun _ => rfl) hr⟩
    | succ d ih =>
      intro i s hd hi hI
      rcases hstep i s (by omega) hI with ⟨r, hp, h⟩ | ⟨s', hI', hE⟩
      · exact ⟨r, hp, Ev.up (EvE.of fun _ => rfl) h⟩
      · obtain ⟨r, hp, hr⟩ := ih (i + 1) s' (by omega) (by omega) hI'
        exact ⟨r, hp, Ev.up hE hr⟩
  exact fun i s hi hI => key (n - i) i s rfl hi hI

/-- The same where a round may take more than one. -/
theorem Ev.scan' {σ ρ : Type} (l : Nat → σ → Int → Option ρ) (n : Nat) (Inv : Nat → σ → Prop) (r : Nat → σ → ρ)
    (hend : ∀ s, Inv n s → Ev (fun k => l k s (n : Int)) (r n s))
    (hstep : ∀ (i : Nat) s, i < n → Inv i s → Ev (fun k => l k s (i : Int)) (r i s) ∨ ∃ s', Inv (i + 1) s' ∧ r (i + 1) s' = r i s ∧ ∀ q, Ev (fun k => l k s' ((i + 1 : Nat) : Int)) q → Ev (fun k => l k s (i : Int)) q) :
    ∀ (i : Nat) s, i ≤ n → Inv i s → Ev (fun k => l k s (i : Int)) (r i s) := by
  have key : ∀ (d i : Nat) s, n - i = d → i ≤ n → Inv i s → Ev (fun k => l k s (i : Int)) (r i s) := by
    intro d
    induction d with
    | zero =>
      intro i s hd hi hI
      obtain rfl : i = n := by omega
      exact hend s hI
    | succ d ih =>
      intro i s hd hi hI
      rcases hstep i s (by omega) hI with h | ⟨s', hI', hr, hE⟩
      · exact h
      · rw [← hr]
        exact hE _ (ih (i + 1) s' (by omega) (by omega) hI')
  exact fun i s hi hI => key (n - i) i s rfl hi hI

/-- A loop that copies. -/
theorem copy_loop {α : Type} (d : α) (l : Nat → List α → Int → Option (List α)) (xs : List α)
    (hend : ∀ s, s.length = xs.length → Ev (fun k => l (k + 1) s (xs.length : Int)) s)
    (hstep : ∀ (i : Nat) s, i < xs.length → s.length = xs.length → EvE (fun k => l (k + 1) s (i : Int)) (fun k => l k (s.set i (rdOf d xs (i : Int))) ((i + 1 : Nat) : Int))) :
    ∀ s, s.length = xs.length → Ev (fun k => l k s 0) xs := by
  intro s hs
  have := Ev.scan l xs.length (fun _ s => s.length = xs.length) (fun i s => s.take i ++ xs.drop i) (fun s h => by
      rw [List.drop_eq_nil_of_le (Nat.le_refl _), List.append_nil, List.take_of_length_le (by omega)]; exact hend s h)
    (fun i s hi h => .inr ⟨s.set i (rdOf d xs (i : Int)), by simpa using h, by rw [rdOf_nat]; exact copied s xs d i hi h, hstep i s hi h⟩) 0 s (Nat.zero_le _) hs
  simpa using this

/-- A loop that asks each. -/
theorem all_loop (l : Nat → Int → Option Bool) (n : Nat) (hend : Ev (fun k => l (k + 1) (n : Int)) true) (hstep : ∀ i : Nat, i < n → EvE (fun k => l (k + 1) (i : Int)) (fun k => l k ((i + 1 : Nat) : Int))) : Ev (fun k => l k 0) true :=
  Ev.scan (σ := Unit) (fun k _ i => l k i) n (fun _ _ => True) (fun _ _ => true) (fun _ _ => hend) (fun i _ hi _ => .inr ⟨(), trivial, rfl, hstep i hi⟩) 0 () (Nat.zero_le _) trivial

/-- How many bytes texts have. -/
def tot (l : List ByteArray) : Nat := (l.map (·.size)).sum
theorem tot_cons (s : ByteArray) (l : List ByteArray) : tot (s :: l) = s.size + tot l := by simp [tot]
theorem tot_mem {l : List ByteArray} {s : ByteArray} (h : s ∈ l) : s.size ≤ tot l := by
  induction l with
  | nil => cases h
  | cons x l ih => rw [tot_cons]; rcases List.mem_cons.1 h with rfl | h; · omega
                   · have := ih h; omega
theorem getD_mem {α : Type} (d : α) (l : List α) (i : Nat) (h : i < l.length) : l.getD i d ∈ l := by
  rw [List.getD_eq_getElem?_getD, List.getElem?_eq_getElem h]; exact List.getElem_mem h
theorem rdOf_mem {α : Type} (d : α) (l : List α) (i : Nat) (h : i < l.length) : rdOf d l (i : Int) ∈ l := by rw [rdOf_nat]; exact getD_mem d l i h

/-- Words with a blank ahead of each; words with a blank between. -/
def gluing : List ByteArray → ByteArray
  | [] => ⟨#[]⟩
  | x :: r => ((⟨#[32]⟩ : ByteArray) ++ x) ++ gluing r
def glue : List ByteArray → ByteArray
  | [] => ⟨#[]⟩
  | x :: r => x ++ gluing r
theorem ba_nil (a : ByteArray) : a ++ (⟨#[]⟩ : ByteArray) = a := ByteArray.append_empty
theorem nil_ba (a : ByteArray) : (⟨#[]⟩ : ByteArray) ++ a = a := ByteArray.empty_append

/-- Where a key is asked for next. -/
def nextAsk (l : List ByteArray) (key : ByteArray) (x : Int) : Nat := min (max 0 x).toNat l.length + (l.drop (min (max 0 x).toNat l.length)).findIdx (fun y => decide (y = key))
/-- No blank and no break. -/
def plain (l : List Int) : Bool := l.all fun c => c != 32 && c != 10
/-- An item is right. -/
def itemOk (a b : ByteArray) (f : Int) : Bool := decide (1 ≤ (a.size : Int)) && decide ((a.size : Int) ≤ 20) && decide ((b.size : Int) ≤ 40) && plain (bytesOf a) && plain (bytesOf b) && decide (0 ≤ f) && decide (f ≤ 3)
/-- An op is right. -/
def opOk (a : Int) (b c : ByteArray) : Bool := decide (1 ≤ a) && decide (a ≤ 3) && itemOk b c 0 && (decide (a = 2) || c.toList == ([] : List UInt8))
/-- A text is among texts. -/
def hasT (l : List ByteArray) (x : ByteArray) : Bool := l.any fun y => decide (y = x)
theorem hasT_cons (y : ByteArray) (l : List ByteArray) (x : ByteArray) : hasT (y :: l) x = (decide (y = x) || hasT l x) := rfl
theorem hasT_mem {l : List ByteArray} {x : ByteArray} : hasT l x = true ↔ x ∈ l := by
  unfold hasT; rw [List.any_eq_true]
  constructor
  · rintro ⟨y, hy, h⟩; rw [← of_decide_eq_true h]; exact hy
  · intro h; exact ⟨x, h, decide_eq_true rfl⟩
/-- The texts as they come first, behind some. -/
def dist (a : List ByteArray) : List ByteArray → List ByteArray
  | [] => a
  | x :: r => if hasT a x then dist a r else dist (a ++ [x]) r
theorem dist_length (a l : List ByteArray) : (dist a l).length ≤ a.length + l.length := by
  induction l generalizing a with
  | nil => simp [dist]
  | cons x r ih =>
    unfold dist; split
    · have := ih a; simp; omega
    · have := ih (a ++ [x]); simp at this ⊢; omega
theorem dist_sub (a l : List ByteArray) : ∀ x ∈ dist a l, x ∈ a ∨ x ∈ l := by
  induction l generalizing a with
  | nil => intro x hx; exact .inl hx
  | cons y r ih =>
    intro x hx
    unfold dist at hx; split at hx
    · rcases ih a x hx with h | h
      · exact .inl h
      · exact .inr (List.mem_cons_of_mem _ h)
    · rcases ih _ x hx with h | h
      · rcases List.mem_append.1 h with h | h
        · exact .inl h
        · rw [List.mem_singleton.1 h]; exact .inr List.mem_cons_self
      · exact .inr (List.mem_cons_of_mem _ h)
theorem dist_snoc (a l : List ByteArray) (y : ByteArray) : dist a (l ++ [y]) = if hasT (dist a l) y then dist a l else dist a l ++ [y] := by
  induction l generalizing a with
  | nil => rfl
  | cons x r ih =>
    simp only [List.cons_append]
    rw [dist, dist]
    split
    · exact ih a
    · exact ih _
theorem dist_mem (a l : List ByteArray) (x : ByteArray) : x ∈ dist a l ↔ x ∈ a ∨ x ∈ l := by
  induction l generalizing a with
  | nil => simp [dist]
  | cons y r ih =>
    rw [dist]
    split
    · rename_i h
      rw [ih a, List.mem_cons]
      constructor
      · rintro (h1 | h1)
        · exact .inl h1
        · exact .inr (.inr h1)
      · rintro (h1 | rfl | h1)
        · exact .inl h1
        · exact .inl (hasT_mem.1 h)
        · exact .inr h1
    · rw [ih, List.mem_append, List.mem_singleton, List.mem_cons]
      constructor
      · rintro ((h1 | h1) | h1)
        · exact .inl h1
        · exact .inr (.inl h1)
        · exact .inr (.inr h1)
      · rintro (h1 | h1 | h1)
        · exact .inl (.inl h1)
        · exact .inl (.inr h1)
        · exact .inr h1
theorem dist_nodup (a l : List ByteArray) (h : a.Nodup) : (dist a l).Nodup := by
  induction l generalizing a with
  | nil => exact h
  | cons y r ih =>
    rw [dist]
    split
    · exact ih a h
    · rename_i hn
      refine ih _ (List.nodup_append.2 ⟨h, by simp, ?_⟩)
      intro x hx z hz hxz
      rw [List.mem_singleton.1 hz] at hxz
      exact hn (hasT_mem.2 (hxz ▸ hx))
theorem nodup_le {α : Type} : ∀ (a b : List α), a.Nodup → (∀ x ∈ a, x ∈ b) → a.length ≤ b.length
  | [], b, _, _ => Nat.zero_le _
  | x :: a, b, hn, hs => by
    obtain ⟨s, t, rfl⟩ := List.append_of_mem (hs x List.mem_cons_self)
    have hn' := List.nodup_cons.1 hn
    have := nodup_le a (s ++ t) hn'.2 (fun y hy => by
      have h1 := hs y (List.mem_cons_of_mem _ hy)
      rw [List.mem_append, List.mem_cons] at h1
      rw [List.mem_append]
      rcases h1 with h1 | rfl | h1
      · exact .inl h1
      · exact absurd hy hn'.1
      · exact .inr h1)
    simp only [List.length_append, List.length_cons] at this ⊢
    omega
theorem dist_reverse (l : List ByteArray) : (dist [] l.reverse).length = (dist [] l).length := by
  apply Nat.le_antisymm
  · exact nodup_le _ _ (dist_nodup _ _ List.nodup_nil) (fun x hx => (dist_mem _ _ _).2 (by have := (dist_mem _ _ _).1 hx; simpa using this))
  · exact nodup_le _ _ (dist_nodup _ _ List.nodup_nil) (fun x hx => (dist_mem _ _ _).2 (by have := (dist_mem _ _ _).1 hx; simpa using this))
/-- How deep a key lies in what was asked for, looked at backwards. -/
def dGo (key : ByteArray) (acc : List ByteArray) : List ByteArray → Int
  | [] => -1
  | y :: r => if y = key then ((dist [] acc).length : Int) else dGo key (acc ++ [y]) r
def depths (l : List ByteArray) : List Int := (List.range l.length).map fun i : Nat => dGo (rdOf ByteArray.empty l (i : Int)) [] (l.take i).reverse
/-- A number's digits. -/
def nt (n : Nat) : ByteArray := if n < 10 then strOfNums [((48 + n : Nat) : Int)] else nt (n / 10) ++ strOfNums [((48 + n % 10 : Nat) : Int)]
termination_by n
decreasing_by omega
theorem nt_size (d n : Nat) (hd : 0 < d) (h : n < 10 ^ d) : (nt n).size ≤ d := by
  induction d generalizing n with
  | zero => omega
  | succ d ih =>
    rw [nt]; split
    · show 1 ≤ d + 1; omega
    · rename_i c
      have : 0 < d := by
        rcases Nat.eq_zero_or_pos d with rfl | h1
        · simp at h; omega
        · exact h1
      have := ih (n / 10) this (by rw [Nat.pow_succ] at h; omega)
      rw [ByteArray.size_append]
      show _ + 1 ≤ d + 1; omega
def numText (x : Int) : ByteArray := if 0 ≤ x ∧ x ≤ 4294967295 then nt x.toNat else (⟨#[]⟩ : ByteArray)
theorem numText_size (x : Int) : (numText x).size ≤ 10 := by
  unfold numText; split
  · exact nt_size 10 _ (by omega) (by omega)
  · show 0 ≤ 10; omega
theorem neg1 (n : Nat) : ((1 : Int) + (n : Int) < 0) = False := eq_false (by omega)
/-- Askings are right. -/
def asksOk (l : List ByteArray) : Bool := (l.all fun s => itemOk s (⟨#[]⟩ : ByteArray) 0) && decide ((l.length : Int) ≤ 300)
/-- An op's text. -/
def opText (a : Int) (b c : ByteArray) : ByteArray := if opOk a b c then (if a = 1 then (⟨#[103, 101, 116, 32]⟩ : ByteArray) ++ b else if a = 2 then (((⟨#[112, 117, 116, 32]⟩ : ByteArray) ++ b) ++ (⟨#[32]⟩ : ByteArray)) ++ c else (⟨#[100, 114, 111, 112, 32]⟩ : ByteArray) ++ b) else (⟨#[]⟩ : ByteArray)
theorem itemOk_sizes {a b : ByteArray} {f : Int} (h : itemOk a b f = true) : 1 ≤ a.size ∧ a.size ≤ 20 ∧ b.size ≤ 40 ∧ 0 ≤ f ∧ f ≤ 3 := by
  unfold itemOk at h
  simp only [Bool.and_eq_true, decide_eq_true_eq] at h
  obtain ⟨⟨⟨⟨⟨⟨h1, h2⟩, h3⟩, h4⟩, h5⟩, h6⟩, h7⟩ := h
  omega
theorem opOk_sizes {a : Int} {b c : ByteArray} (h : opOk a b c = true) : 1 ≤ a ∧ a ≤ 3 ∧ 1 ≤ b.size ∧ b.size ≤ 20 ∧ c.size ≤ 40 ∧ (a = 2 ∨ c.toList = []) := by
  unfold opOk at h
  simp only [Bool.and_eq_true, decide_eq_true_eq, Bool.or_eq_true, beq_iff_eq] at h
  obtain ⟨⟨⟨h1, h2⟩, h3⟩, h4⟩ := h
  have := itemOk_sizes h3
  exact ⟨h1, h2, by omega, by omega, by omega, h4⟩
theorem gluing_append (a b : List ByteArray) : gluing (a ++ b) = gluing a ++ gluing b := by
  induction a with
  | nil => simp only [List.nil_append, gluing, nil_ba]
  | cons x r ih => simp only [List.cons_append, gluing, ih, ByteArray.append_assoc]
theorem glue_snoc (a : List ByteArray) (x : ByteArray) (h : a ≠ []) : glue (a ++ [x]) = (glue a ++ (⟨#[32]⟩ : ByteArray)) ++ x := by
  cases a with
  | nil => exact absurd rfl h
  | cons y r => simp only [List.cons_append, glue, gluing_append, gluing, ba_nil, ByteArray.append_assoc]
theorem ba_sizes (a b : ByteArray) : (a ++ b).size = a.size + b.size := ByteArray.size_append
theorem bt_32 (s : ByteArray) (i : Nat) (hi : i < s.size) (h : bt s (i : Int) = 32) : s.extract i (i + 1) = (⟨#[32]⟩ : ByteArray) := by
  rw [ByteArray.extract_add_one (by omega)]
  have := bt_at s (i : Int) (by simpa using hi)
  rw [h] at this
  simp only [Int.toNat_natCast] at this
  have h2 : s[i]'hi = 32 := by
    apply UInt8.toNat_inj.1
    have : ((s[i]'hi).toNat : Int) = 32 := this
    show _ = 32
    omega
  simp only [h2]; rfl
/-- What is cut at each blank of a text. -/
def CutOf (s : ByteArray) (w : List ByteArray) : Prop := glue w = s ∧ w ≠ [] ∧ w.length ≤ s.size + 1 ∧ ∀ x ∈ w, x.size ≤ s.size
/-- Whom to let go. -/
def bgo (l : List ByteArray) (x : Int) : List ByteArray → Nat → Int → Int → Int
  | [], _, b, _ => b
  | y :: r, i, b, f => if (nextAsk l y x : Int) > f then bgo l x r (i + 1) (i : Int) (nextAsk l y x) else bgo l x r (i + 1) b f
theorem mapped {α β : Type} (f : α → β) (s : List β) (xs : List α) (d : α) (i : Nat) (h : i < xs.length) (hs : s.length = xs.length) : (s.set i (f (xs.getD i d))).take (i + 1) ++ (xs.drop (i + 1)).map f = s.take i ++ (xs.drop i).map f := by
  rw [drop_cons d xs i h, List.take_add_one, List.getElem?_set_self (by omega), List.take_set_of_le (Nat.le_refl i)]
  simp
/-- A loop that copies, each turned. -/
theorem map_loop {α β : Type} (f : α → β) (d : α) (l : Nat → List β → Int → Option (List β)) (xs : List α)
    (hend : ∀ s, s.length = xs.length → Ev (fun k => l (k + 1) s (xs.length : Int)) s)
    (hstep : ∀ (i : Nat) s, i < xs.length → s.length = xs.length → EvE (fun k => l (k + 1) s (i : Int)) (fun k => l k (s.set i (f (xs.getD i d))) ((i + 1 : Nat) : Int))) :
    ∀ s, s.length = xs.length → Ev (fun k => l k s 0) (xs.map f) := by
  intro s hs
  have := Ev.scan l xs.length (fun _ s => s.length = xs.length) (fun i s => s.take i ++ (xs.drop i).map f) (fun s h => by
      rw [List.drop_eq_nil_of_le (Nat.le_refl _), List.map_nil, List.append_nil, List.take_of_length_le (by omega)]; exact hend s h)
    (fun i s hi h => .inr ⟨s.set i (f (xs.getD i d)), by simpa using h, mapped f s xs d i hi h, hstep i s hi h⟩) 0 s (Nat.zero_le _) hs
  simpa using this
/-- All of what is below a number. -/
def allN (n : Nat) (p : Nat → Bool) : Bool := (List.range n).all p
theorem allN_drop (n i : Nat) (p : Nat → Bool) (h : i < n) : ((List.range n).drop i).all p = (p i && ((List.range n).drop (i + 1)).all p) := by
  rw [List.drop_eq_getElem_cons (i := i) (by simpa using h), List.all_cons, List.getElem_range]
theorem all_and {α : Type} (l : List α) (p q : α → Bool) : (l.all fun x => p x && q x) = (l.all p && l.all q) := by
  induction l with
  | nil => rfl
  | cons x r ih => simp only [List.all_cons, ih]; cases p x <;> cases q x <;> simp
/-- A loop over 0, 1, .., n - 1 that asks each, and goes away at the first that isn't so. -/
theorem Ev.asks (l : Nat → Int → Option Bool) (n : Nat) (p : Nat → Bool) (b : Bool)
    (hend : Ev (fun k => l (k + 1) (n : Int)) b)
    (hno : ∀ i : Nat, i < n → p i = false → Ev (fun k => l (k + 1) (i : Int)) false)
    (hyes : ∀ i : Nat, i < n → p i = true → EvE (fun k => l (k + 1) (i : Int)) (fun k => l k ((i + 1 : Nat) : Int))) : Ev (fun k => l k 0) (allN n p && b) := by
  have key := Ev.scan (σ := Unit) (fun k _ i => l k i) n (fun _ _ => True) (fun i _ => ((List.range n).drop i).all p && b)
    (fun _ _ => by rw [List.drop_eq_nil_of_le (by simp)]; simpa using hend)
    (fun i _ hi _ => by
      rw [allN_drop n i p hi]
      cases c : p i with
      | false => exact .inl (by simpa using hno i hi c)
      | true => exact .inr ⟨(), trivial, by simp, hyes i hi c⟩) 0 () (Nat.zero_le _) trivial
  simpa [allN] using key
end Go.Proofs.Ytgnjhondoidfdaa.Lm
