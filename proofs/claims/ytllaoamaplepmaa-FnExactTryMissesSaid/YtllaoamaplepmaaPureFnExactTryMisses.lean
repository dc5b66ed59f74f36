/- The program's TryMisses and the reference's tell the same, for all askings and caps. No condition. -/
import Derived.Test.YtllaoamaplepmaaDFnExactTryMisses
import Derived.Test.YtllaoamaplepmaaLm
namespace Go.Proofs.Ytllaoamaplepmaa.Pure
open Go.RowKit Go.Proofs.Ytllaoamaplepmaa.QFnExactTryMisses Go.Proofs.YtllaoamaplepmaaW.PrintWords Go.Proofs.YtllaoamaplepmaaW.PrintLast Go.Proofs.YtllaoamaplepmaaW.PrintMore Go.Proofs.Ytllaoamaplepmaa.Lm
set_option linter.unusedSimpArgs false
set_option linter.unusedVariables false
theorem laws_szStringS_ev (l : List ByteArray) (n : Int) (hn0 : 0 ≤ n) (hn : n ≤ 1048576) (h : l.length ≤ maxLen) (hs : ∀ s ∈ l, s.size ≤ maxLen) :
    ∃ t, Ev (fun k => laws_szStringS.f k l n) t ∧ t ≤ n ∧ (¬ t < 0 → t = n - (l.length : Int) - (tot l : Int)) := by
  unfold maxLen at h hs
  by_cases c : n - (l.length : Int) < 0
  · refine ⟨-1, Ev.some_ fun k => ?_, by omega, by omega⟩
    simp only [laws_szStringS.f]; rw [w64 (by omega) (by omega), if_pos c]
  · have key := Ev.scan (fun k m i => laws_szStringS.l0 k l m i) l.length (fun _ m => 0 ≤ m ∧ m ≤ n) (fun i m => if m < (tot (l.drop i) : Int) then -1 else m - (tot (l.drop i) : Int))
      (fun m hm => Ev.some_ fun k => by
        simp only [laws_szStringS.l0]; rw [if_neg (by omega), List.drop_eq_nil_of_le (Nat.le_refl _)]
        simp [tot]
        try omega)
      (fun i m hi hm => by
        have hd := drop_rdOf ByteArray.empty l i hi
        have hsz := hs _ (rdOf_mem ByteArray.empty l i hi)
        have hw : wrap64 (m - ((rdOf ByteArray.empty l (i : Int)).size : Int)) = m - ((rdOf ByteArray.empty l (i : Int)).size : Int) := w64 (by omega) (by omega)
        have hl : ∀ k, laws_szStringS.l0 (k + 1) l m (i : Int) = if m - ((rdOf ByteArray.empty l (i : Int)).size : Int) < 0 then some (-1) else laws_szStringS.l0 k l (m - ((rdOf ByteArray.empty l (i : Int)).size : Int)) ((i + 1 : Nat) : Int) := fun k => by
          simp only [laws_szStringS.l0]; rw [if_pos (by omega), if_pos (by omega), w64s hi h, hw]
        rw [hd, tot_cons]
        by_cases c2 : m - ((rdOf ByteArray.empty l (i : Int)).size : Int) < 0
        · exact .inl (Ev.some_ fun k => by simp only [hl]; rw [if_pos c2, if_pos (by omega)])
        · refine .inr ⟨m - ((rdOf ByteArray.empty l (i : Int)).size : Int), by omega, ?_, EvE.of fun k => by simp only [hl]; rw [if_neg c2]⟩
          split <;> split <;> omega) 0 (n - (l.length : Int)) (Nat.zero_le _) (by omega)
    refine ⟨_, Ev.congr (fun k => ?_) key, ?_, ?_⟩
    · simp only [laws_szStringS.f]; rw [w64 (by omega) (by omega), if_neg c]; rfl
    · simp only [List.drop_zero]; split <;> omega
    · simp only [List.drop_zero]; split <;> omega
theorem laws_toStringS_ev (l : List ByteArray) (h : l.length ≤ 1048576) : Ev (fun k => laws_toStringS.f k l) l := by
  have hl := copy_loop ByteArray.empty (fun k s i => laws_toStringS.l0 k l s i) l (fun s hs => Ev.some_ fun k => by simp only [laws_toStringS.l0]; rw [if_neg (by omega)]) (fun i s hi hs => EvE.of fun k => by
    simp only [laws_toStringS.l0]; rw [if_pos (by omega), if_pos (by omega), if_pos (by omega), w64s hi (by omega), Int.toNat_natCast] <;> rfl) (List.replicate l.length (⟨#[]⟩:ByteArray)) (by simp)
  refine Ev.congr (fun k => ?_) hl
  simp only [laws_toStringS.f, Int.toNat_natCast]
  rw [if_pos (by omega), if_pos (by omega)]
theorem laws_eqStringS_ev (l : List ByteArray) (h : l.length ≤ 9223372036854775807) : Ev (fun k => laws_eqStringS.f k l l) true := by
  refine Ev.congr (fun k => ?_) (all_loop (fun k i => laws_eqStringS.l0 k l l i) l.length (Ev.some_ fun k => by simp only [laws_eqStringS.l0]; rw [if_neg (by omega)]) (fun i hi => EvE.of fun k => by
    simp only [laws_eqStringS.l0]; rw [if_pos (by omega), if_pos (by omega), if_pos (by omega), if_pos trivial, w64s hi h]))
  simp only [laws_eqStringS.f]; rw [if_pos trivial]
theorem spec_l10Clean_ev (s : ByteArray) (hs : s.size ≤ 9223372036854775807) : Ev (fun k => spec_l10Clean.f k s) (plain (bytesOf s)) := by
  have := Ev.scan (l := fun k (_ : Unit) i => spec_l10Clean.l0 k s i) s.size (fun _ _ => True) (fun i _ => plain ((bytesOf s).drop i)) ?_ ?_ 0 () (Nat.zero_le _) trivial
  · simpa [spec_l10Clean.f] using this
  · intro _ _
    exact Ev.some_ fun k => by simp only [spec_l10Clean.l0]; rw [if_neg (by omega)]; simp [plain, ← bytesOf_length]
  · intro i _ hi _
    have hd := drop_bt s i hi
    have hl : ∀ k, spec_l10Clean.l0 (k + 1) s (i : Int) = if bt s (i : Int) = 32 then some false else if bt s (i : Int) = 10 then some false else spec_l10Clean.l0 k s ((i + 1 : Nat) : Int) := fun k => by
      simp only [spec_l10Clean.l0]; rw [if_pos (by omega), if_pos (by omega), w64s hi hs]
    by_cases h1 : bt s (i : Int) = 32
    · exact .inl (Ev.some_ fun k => by simp only [hl]; rw [if_pos h1, hd, h1]; rfl)
    · by_cases h2 : bt s (i : Int) = 10
      · exact .inl (Ev.some_ fun k => by simp only [hl]; rw [if_neg h1, if_pos h2, hd, h2]; rfl)
      · exact .inr ⟨(), trivial, by rw [hd]; simp [plain, h1, h2], EvE.of fun k => by simp only [hl]; rw [if_neg h1, if_neg h2]⟩
theorem impl_isPlain_ev (s : ByteArray) (hs : s.size ≤ 9223372036854775807) : Ev (fun k => impl_isPlain.f k s) (plain (bytesOf s)) := by
  have := Ev.scan (l := fun k (_ : Unit) i => impl_isPlain.l0 k s i) s.size (fun _ _ => True) (fun i _ => plain ((bytesOf s).drop i)) ?_ ?_ 0 () (Nat.zero_le _) trivial
  · simpa [impl_isPlain.f] using this
  · intro _ _
    exact Ev.some_ fun k => by simp only [impl_isPlain.l0]; rw [if_neg (by omega)]; simp [plain, ← bytesOf_length]
  · intro i _ hi _
    have hd := drop_bt s i hi
    have hl : ∀ k, impl_isPlain.l0 (k + 1) s (i : Int) = if bt s (i : Int) = 32 then some false else if bt s (i : Int) = 10 then some false else impl_isPlain.l0 k s ((i + 1 : Nat) : Int) := fun k => by
      simp only [impl_isPlain.l0]; rw [if_pos (by omega), if_pos (by omega), w64s hi hs]
    by_cases h1 : bt s (i : Int) = 32
    · exact .inl (Ev.some_ fun k => by simp only [hl]; rw [if_pos h1, hd, h1]; rfl)
    · by_cases h2 : bt s (i : Int) = 10
      · exact .inl (Ev.some_ fun k => by simp only [hl]; rw [if_neg h1, if_pos h2, hd, h2]; rfl)
      · exact .inr ⟨(), trivial, by rw [hd]; simp [plain, h1, h2], EvE.of fun k => by simp only [hl]; rw [if_neg h1, if_neg h2]⟩
theorem spec_ItemOk_ev (a b : ByteArray) (f : Int) (ha : a.size ≤ 9223372036854775807) (hb : b.size ≤ 9223372036854775807) : Ev (fun k => spec_ItemOk.f k a b f) (itemOk a b f) := by
  obtain ⟨K1, h1⟩ := spec_l10Clean_ev a ha
  obtain ⟨K2, h2⟩ := spec_l10Clean_ev b hb
  refine ⟨max K1 K2, fun k hk => ?_⟩
  have e1 := h1 k (by omega)
  have e2 := h2 k (by omega)
  by_cases c1 : 1 ≤ (a.size : Int) <;> by_cases c2 : (a.size : Int) ≤ 20 <;> by_cases c3 : (b.size : Int) ≤ 40 <;> by_cases c4 : 0 ≤ f <;> by_cases c5 : f ≤ 3 <;> cases p1 : plain (bytesOf a) <;> cases p2 : plain (bytesOf b) <;>
    simp only [spec_ItemOk.f, spec_l01In.f, e1, e2, Option.bind_some, itemOk, ge_iff_le, c1, c2, c3, c4, c5, p1, p2, if_true, if_false, decide_true, decide_false, Bool.and_true, Bool.true_and, Bool.false_and, Bool.and_false, Bool.false_eq_true]
theorem impl_ItemOk_ev (a b : ByteArray) (f : Int) (ha : a.size ≤ 9223372036854775807) (hb : b.size ≤ 9223372036854775807) : Ev (fun k => impl_ItemOk.f k a b f) (itemOk a b f) := by
  obtain ⟨K1, h1⟩ := impl_isPlain_ev a ha
  obtain ⟨K2, h2⟩ := impl_isPlain_ev b hb
  refine ⟨max K1 K2, fun k hk => ?_⟩
  have e1 := h1 k (by omega)
  have e2 := h2 k (by omega)
  by_cases c1 : 1 ≤ (a.size : Int) <;> by_cases c2 : (a.size : Int) ≤ 20 <;> by_cases c3 : (b.size : Int) ≤ 40 <;> by_cases c4 : 0 ≤ f <;> by_cases c5 : f ≤ 3 <;> cases p1 : plain (bytesOf a) <;> cases p2 : plain (bytesOf b) <;>
    simp only [impl_ItemOk.f, impl_within.f, e1, e2, Option.bind_some, itemOk, ge_iff_le, c1, c2, c3, c4, c5, p1, p2, if_true, if_false, decide_true, decide_false, Bool.and_true, Bool.true_and, Bool.false_and, Bool.and_false, Bool.false_eq_true]
theorem spec_AsksOk_ev (l : List ByteArray) (hl : l.length ≤ 1048577) (hs : ∀ s ∈ l, s.size ≤ 9223372036854775807) : Ev (fun k => spec_AsksOk.f k l) (asksOk l) := by
  have key := Ev.scan (fun k (_ : Unit) i => spec_AsksOk.l0 k l l (l.length : Int) i) l.length (fun _ _ => True) (fun i _ => ((l.drop i).all fun s => itemOk s (⟨#[]⟩ : ByteArray) 0) && decide ((l.length : Int) ≤ 300))
    (fun _ _ => Ev.some_ fun k => by simp only [spec_AsksOk.l0]; rw [if_neg (by omega), List.drop_eq_nil_of_le (Nat.le_refl _)]; simp)
    (fun i _ hi _ => by
      have hd := drop_rdOf ByteArray.empty l i hi
      have hi1 := spec_ItemOk_ev (rdOf ByteArray.empty l (i : Int)) (⟨#[]⟩ : ByteArray) 0 (hs _ (rdOf_mem _ _ _ hi)) (by show 0 ≤ _; omega)
      rw [hd, List.all_cons]
      cases c : itemOk (rdOf ByteArray.empty l (i : Int)) (⟨#[]⟩ : ByteArray) 0 with
      | true => rw [c] at hi1; exact .inr ⟨(), trivial, by simp, (evP hi1).eve fun k e => by simp only [spec_AsksOk.l0, e, Option.bind_some, if_true]; rw [if_pos (by omega), if_pos (by omega), if_pos (by omega), w64s hi (by omega)]⟩
      | false => rw [c] at hi1; exact .inl ((evP hi1).ev fun k e => by simp only [spec_AsksOk.l0, e, Option.bind_some, Bool.false_eq_true, if_false]; rw [if_pos (by omega), if_pos (by omega), if_pos (by omega)]; simp)) 0 () (Nat.zero_le _) trivial
  simpa [spec_AsksOk.f, asksOk] using key
theorem impl_AsksOk_ev (l : List ByteArray) (hl : l.length ≤ 1048577) (hs : ∀ s ∈ l, s.size ≤ 9223372036854775807) : Ev (fun k => impl_AsksOk.f k l) (asksOk l) := by
  have key := Ev.scan (fun k (_ : Unit) i => impl_AsksOk.l0 k l l (l.length : Int) i) l.length (fun _ _ => True) (fun i _ => ((l.drop i).all fun s => itemOk s (⟨#[]⟩ : ByteArray) 0) && decide ((l.length : Int) ≤ 300))
    (fun _ _ => Ev.some_ fun k => by simp only [impl_AsksOk.l0]; rw [if_neg (by omega), List.drop_eq_nil_of_le (Nat.le_refl _)]; simp)
    (fun i _ hi _ => by
      have hd := drop_rdOf ByteArray.empty l i hi
      have hi1 := impl_ItemOk_ev (rdOf ByteArray.empty l (i : Int)) (⟨#[]⟩ : ByteArray) 0 (hs _ (rdOf_mem _ _ _ hi)) (by show 0 ≤ _; omega)
      rw [hd, List.all_cons]
      cases c : itemOk (rdOf ByteArray.empty l (i : Int)) (⟨#[]⟩ : ByteArray) 0 with
      | true => rw [c] at hi1; exact .inr ⟨(), trivial, by simp, (evP hi1).eve fun k e => by simp only [impl_AsksOk.l0, e, Option.bind_some, if_true]; rw [if_pos (by omega), if_pos (by omega), if_pos (by omega), w64s hi (by omega)]⟩
      | false => rw [c] at hi1; exact .inl ((evP hi1).ev fun k e => by simp only [impl_AsksOk.l0, e, Option.bind_some, Bool.false_eq_true, if_false]; rw [if_pos (by omega), if_pos (by omega), if_pos (by omega)]; simp)) 0 () (Nat.zero_le _) trivial
  simpa [impl_AsksOk.f, asksOk] using key
theorem spec_l12Has_ev (l : List ByteArray) (x : ByteArray) (hl : l.length ≤ 1048576) : Ev (fun k => spec_l12Has.f k l x) (hasT l x) := by
  have key := Ev.scan (fun k (_ : Unit) i => spec_l12Has.l0 k x l (l.length : Int) i) l.length (fun _ _ => True) (fun i _ => hasT (l.drop i) x)
    (fun _ _ => Ev.some_ fun k => by simp only [spec_l12Has.l0]; rw [if_neg (by omega), List.drop_eq_nil_of_le (Nat.le_refl _)]; rfl)
    (fun i _ hi _ => by
      have hd := drop_rdOf ByteArray.empty l i hi
      have hs : ∀ k, spec_l12Has.l0 (k + 1) x l (l.length : Int) (i : Int) = if rdOf ByteArray.empty l (i : Int) = x then some true else spec_l12Has.l0 k x l (l.length : Int) ((i + 1 : Nat) : Int) := fun k => by
        simp only [spec_l12Has.l0, toList_inj]; rw [if_pos (by omega), if_pos (by omega), if_pos (by omega), w64s hi (by omega)]
      rw [hd, hasT_cons]
      by_cases c : rdOf ByteArray.empty l (i : Int) = x
      · exact .inl (Ev.some_ fun k => by simp only [hs]; rw [if_pos c, decide_eq_true c]; rfl)
      · exact .inr ⟨(), trivial, by rw [decide_eq_false c]; rfl, EvE.of fun k => by simp only [hs]; rw [if_neg c]⟩) 0 () (Nat.zero_le _) trivial
  simpa [spec_l12Has.f] using key
/-- The least of numbers. -/
def mins (b : Int) (l : List Int) : Int := l.foldl min b
theorem mins_cons (b x : Int) (l : List Int) : mins b (x :: l) = mins (min b x) l := rfl
theorem mins_le (l : List Int) : ∀ b, mins b l ≤ b := by
  induction l with
  | nil => intro b; exact Int.le_refl _
  | cons x l ih => intro b; rw [mins_cons]; have := ih (min b x); omega
theorem mins_mem (l : List Int) : ∀ b, ∀ x ∈ l, mins b l ≤ x := by
  induction l with
  | nil => intro b x hx; cases hx
  | cons y l ih =>
    intro b x hx
    rw [mins_cons]
    rcases List.mem_cons.1 hx with rfl | hx
    · have := mins_le l (min b x); omega
    · exact ih _ x hx
theorem mins_ge (l : List Int) (a : Int) : ∀ b, a ≤ b → (∀ x ∈ l, a ≤ x) → a ≤ mins b l := by
  induction l with
  | nil => intro b h _; exact h
  | cons y l ih => intro b h h2; rw [mins_cons]; exact ih _ (by have := h2 y List.mem_cons_self; omega) (fun x hx => h2 x (List.mem_cons_of_mem _ hx))
theorem mins_from (l : List Int) (a b : Int) (h : l ≠ []) (ha : ∀ x ∈ l, x ≤ a) (hb : ∀ x ∈ l, x ≤ b) : mins a l = mins b l := by
  cases l with
  | nil => exact absurd rfl h
  | cons x l => rw [mins_cons, mins_cons]; have := ha x List.mem_cons_self; have := hb x List.mem_cons_self; rw [show min a x = x by omega, show min b x = x by omega]
/-- A list without a place, and a key behind. -/
def goneAt (has : List ByteArray) (i : Nat) (x : ByteArray) : List ByteArray := has.take i ++ has.drop (i + 1) ++ [x]
/-- The least number of askings that aren't found. -/
def tryV (cap : Int) : List ByteArray → List ByteArray → Int
  | [], _ => 0
  | x :: r, has => if hasT has x then tryV cap r has else if (has.length : Int) < cap then 1 + tryV cap r (has ++ [x]) else mins ((r.length : Int) + 1) ((List.range has.length).map fun i => 1 + tryV cap r (goneAt has i x))
theorem tryV_bd (cap : Int) : ∀ (r has : List ByteArray), 0 ≤ tryV cap r has ∧ tryV cap r has ≤ (r.length : Int)
  | [], has => by simp [tryV]
  | x :: r, has => by
    rw [tryV]
    split
    · have := tryV_bd cap r has; simp only [List.length_cons]; omega
    · split
      · have := tryV_bd cap r (has ++ [x]); simp only [List.length_cons]; omega
      · constructor
        · refine mins_ge _ 0 _ (by omega) fun y hy => ?_
          obtain ⟨i, _, rfl⟩ := List.mem_map.1 hy
          have := tryV_bd cap r (goneAt has i x); omega
        · have := mins_le ((List.range has.length).map fun i => 1 + tryV cap r (goneAt has i x)) ((r.length : Int) + 1)
          simp only [List.length_cons]; omega
theorem goneAt_length (has : List ByteArray) (i : Nat) (x : ByteArray) (h : i < has.length) : (goneAt has i x).length = has.length := by
  unfold goneAt; simp; omega
theorem tryV_full (cap : Int) (x : ByteArray) (r has : List ByteArray) (b : Int) (h1 : hasT has x = false) (h2 : ¬ (has.length : Int) < cap) (h3 : has ≠ []) (hb : (r.length : Int) + 1 ≤ b) :
    tryV cap (x :: r) has = mins b ((List.range has.length).map fun i => 1 + tryV cap r (goneAt has i x)) := by
  rw [tryV, h1, if_neg (by simp), if_neg h2]
  have hx : ∀ y ∈ (List.range has.length).map fun i => 1 + tryV cap r (goneAt has i x), y ≤ (r.length : Int) + 1 := fun y hy => by
    obtain ⟨i, _, rfl⟩ := List.mem_map.1 hy
    have := tryV_bd cap r (goneAt has i x); omega
  refine mins_from _ _ _ (by simp; exact h3) hx fun y hy => ?_
  have := hx y hy; omega
theorem spec_but (has : List ByteArray) (j : Nat) (hj : j < has.length) (hh : has.length ≤ 2000) : spec_l13But.f has (j : Int) = some (has.take j ++ has.drop (j + 1)) := by
  have hj2 : wrap64 ((j : Int) + 1) = ((j + 1 : Nat) : Int) := w64s hj (by omega)
  simp only [spec_l13But.f, Option.bind_some, hj2, Int.toNat_natCast]
  rw [if_pos (by omega), if_pos (by omega)]
  rw [if_pos (by simp only [List.length_nil, List.length_take]; omega)]
  rw [if_pos (by omega), if_pos (by omega)]
  rw [if_pos (by simp only [List.nil_append, List.length_take, List.length_drop]; omega)]
  rfl
theorem goneAt_room (has : List ByteArray) (j : Nat) (x : ByteArray) (hj : j < has.length) (hh : has.length ≤ 2000) : (has.take j ++ has.drop (j + 1)).length + [x].length < 8796093022208 := by
  simp only [List.length_append, List.length_take, List.length_drop, List.length_cons, List.length_nil]; omega
theorem spec_try (l : List ByteArray) (hl : l.length ≤ 1000) (cap : Int) (hc : 1 ≤ cap) : ∀ (d i : Nat) (has : List ByteArray), l.length - i = d → i ≤ l.length → has.length + d ≤ 2000 →
    Ev (fun k => spec_l13Try.f k l (i : Int) has cap) (tryV cap (l.drop i) has) := by
  intro d
  induction d with
  | zero =>
    intro i has hd hi hh
    rw [List.drop_eq_nil_of_le (by omega)]
    refine Ev.up (g := fun _ => some _) (EvE.of fun k => ?_) (Ev.now _)
    simp only [spec_l13Try.f]; rw [if_pos (by omega)]; rfl
  | succ d ih =>
    intro i has hd hi hh
    have hlt : i < l.length := by omega
    have hdr := drop_rdOf ByteArray.empty l i hlt
    have hl9 : l.length ≤ 9223372036854775807 := by omega
    have hhas := spec_l12Has_ev has (rdOf ByteArray.empty l (i : Int)) (by omega)
    rw [hdr]
    cases c : hasT has (rdOf ByteArray.empty l (i : Int)) with
    | true =>
      rw [c] at hhas
      rw [tryV, c, if_pos rfl]
      refine Ev.up (g := fun _ => some _) ((evA hhas (evP (ih (i + 1) has (by omega) (by omega) (by omega)))).eve fun k ⟨e1, e2⟩ => ?_) (Ev.now _)
      simp only [spec_l13Try.f, e1, Option.bind_some, w64s hlt hl9, e2, if_true]
      rw [if_neg (by omega), if_pos (by omega), if_pos (by omega)]
    | false =>
      rw [c] at hhas
      by_cases c2 : (has.length : Int) < cap
      · rw [tryV, c, if_neg (by simp), if_pos c2]
        have hb := tryV_bd cap (l.drop (i + 1)) (has ++ [rdOf ByteArray.empty l (i : Int)])
        rw [List.length_drop] at hb
        refine Ev.up (g := fun _ => some _) ((evA hhas (evP (ih (i + 1) (has ++ [rdOf ByteArray.empty l (i : Int)]) (by omega) (by omega) (by simp; omega)))).eve fun k ⟨e1, e2⟩ => ?_) (Ev.now _)
        simp only [spec_l13Try.f, e1, Option.bind_some, w64s hlt hl9, Bool.false_eq_true, if_false, List.nil_append, List.length_nil]
        rw [if_neg (by omega), if_pos (by omega), if_pos (by omega), if_pos c2, if_pos (by omega), if_pos (by simp only [List.length_cons, List.length_nil]; omega), e2, Option.bind_some, w64 (by omega) (by omega)]
      · have hne : has ≠ [] := fun h => by rw [h] at c2; simp at c2; omega
        rw [tryV_full cap _ _ has (l.length : Int) c c2 hne (by rw [List.length_drop]; omega)]
        have key := Ev.scan' (fun k b j => spec_l13Try.l0 k l (i : Int) has cap b (has.length : Int) j) has.length (fun _ _ => True)
          (fun j b => mins b (((List.range has.length).drop j).map fun j => 1 + tryV cap (l.drop (i + 1)) (goneAt has j (rdOf ByteArray.empty l (i : Int)))))
          (fun b _ => Ev.up (g := fun _ => some _) (EvE.of fun k => by simp only [spec_l13Try.l0]; rw [if_neg (by omega)]) (by rw [show (List.range has.length).drop has.length = [] from List.drop_eq_nil_of_le (by simp)]; exact Ev.now _))
          (fun j b hj _ => .inr ⟨min b (1 + tryV cap (l.drop (i + 1)) (goneAt has j (rdOf ByteArray.empty l (i : Int)))), trivial, by
              rw [List.drop_eq_getElem_cons (i := j) (by simpa using hj), List.map_cons, List.getElem_range, mins_cons], fun q hq => by
              have hb := tryV_bd cap (l.drop (i + 1)) (goneAt has j (rdOf ByteArray.empty l (i : Int)))
              rw [List.length_drop] at hb
              have hlen := goneAt_room has j (rdOf ByteArray.empty l (i : Int)) hj (by omega)
              have hh9 : has.length ≤ 9223372036854775807 := by omega
              have hgl := goneAt_length has j (rdOf ByteArray.empty l (i : Int)) hj
              refine Ev.up ((evP (ih (i + 1) (goneAt has j (rdOf ByteArray.empty l (i : Int))) (by omega) (by omega) (by omega))).eve fun k e => ?_) hq
              have hbut := spec_but has j hj (by omega)
              simp only [spec_l13Try.l0, hbut, Option.bind_some, w64s hlt hl9, w64s hj hh9]
              rw [if_pos (by omega), if_pos (by omega), if_pos (by omega), if_pos hlen]
              simp only [show has.take j ++ has.drop (j + 1) ++ [rdOf ByteArray.empty l (i : Int)] = goneAt has j (rdOf ByteArray.empty l (i : Int)) from rfl, e, Option.bind_some]
              rw [w64 (by omega) (by omega)]
              by_cases c3 : 1 + tryV cap (l.drop (i + 1)) (goneAt has j (rdOf ByteArray.empty l (i : Int))) < b
              · rw [if_pos c3, Int.min_eq_right (Int.le_of_lt c3)]
              · rw [if_neg c3, Int.min_eq_left (Int.not_lt.1 c3)]⟩) 0 (l.length : Int) (Nat.zero_le _) trivial
        simp only [List.drop_zero] at key
        refine Ev.up ((evP hhas).eve fun k e1 => ?_) key
        simp only [spec_l13Try.f, e1, Option.bind_some, Bool.false_eq_true, if_false]
        rw [if_neg (by omega), if_pos (by omega), if_pos (by omega), if_neg c2]; rfl
theorem slices_Contains_ev (l : List ByteArray) (x : ByteArray) (hl : l.length ≤ 1048576) : Ev (fun k => slices_Contains_string_string.f k l x) (hasT l x) := by
  have key : ∃ r, Ev (fun k => slices_Index_string_string.f k l x) r ∧ decide (r ≥ 0) = hasT l x := by
    have key := Ev.scan (fun k (_ : Unit) i => slices_Index_string_string.l0 k l x (l.length : Int) i) l.length (fun _ _ => True) (fun i _ => if hasT (l.drop i) x then (((l.drop i).findIdx (fun y => decide (y = x)) + i : Nat) : Int) else -1)
      (fun _ _ => Ev.some_ fun k => by simp only [slices_Index_string_string.l0]; rw [if_neg (by omega), List.drop_eq_nil_of_le (Nat.le_refl _)]; rfl)
      (fun i _ hi _ => by
        have hd := drop_rdOf ByteArray.empty l i hi
        have hs : ∀ k, slices_Index_string_string.l0 (k + 1) l x (l.length : Int) (i : Int) = if rdOf ByteArray.empty l (i : Int) = x then some (i : Int) else slices_Index_string_string.l0 k l x (l.length : Int) ((i + 1 : Nat) : Int) := fun k => by
          simp only [slices_Index_string_string.l0, toList_inj]; rw [if_pos (by omega), if_pos (by omega), if_pos (by omega), w64s hi (by omega)]
          simp only [eq_comm]
        rw [hd, hasT_cons, List.findIdx_cons]
        by_cases c : rdOf ByteArray.empty l (i : Int) = x
        · exact .inl (Ev.some_ fun k => by simp only [hs]; rw [if_pos c, decide_eq_true c]; simp)
        · exact .inr ⟨(), trivial, by
            rw [decide_eq_false c]; simp only [Bool.false_or, cond_false]
            split <;> omega, EvE.of fun k => by simp only [hs]; rw [if_neg c]⟩) 0 () (Nat.zero_le _) trivial
    refine ⟨_, (by simpa [slices_Index_string_string.f] using key), ?_⟩
    cases hasT l x with
    | true => simp only [if_true]; exact decide_eq_true (by omega)
    | false => rfl
  obtain ⟨r, hr, e⟩ := key
  rw [← e]
  exact (evP hr).ev fun k e1 => by simp only [slices_Contains_string_string.f, e1, Option.bind_some]
theorem mn_min (a b : Int) : mn a b = min a b := by unfold mn; omega
theorem impl_try (cap : Int) (hc : 1 ≤ cap) : ∀ (d : Nat) (l has : List ByteArray), l.length ≤ d → l.length ≤ 1000 → has.length + d ≤ 2000 → Ev (fun k => impl_tried.f k l cap has) (tryV cap l has) := by
  intro d
  induction d using Nat.strongRecOn with
  | ind d ihd =>
  intro l has hld hl hh
  have key : ∀ (m i : Nat), l.length - i = m → i ≤ l.length → Ev (fun k => impl_tried.l0 k l cap has l (l.length : Int) (i : Int)) (tryV cap (l.drop i) has) := by
    intro m
    induction m with
    | zero =>
      intro i hm hi
      rw [List.drop_eq_nil_of_le (by omega)]
      refine Ev.up (g := fun _ => some _) (EvE.of fun k => ?_) (Ev.now _)
      simp only [impl_tried.l0]; rw [if_neg (by omega)]; rfl
    | succ m ihm =>
      intro i hm hi
      have hlt : i < l.length := by omega
      have hdr := drop_rdOf ByteArray.empty l i hlt
      have hl9 : l.length ≤ 9223372036854775807 := by omega
      have hhas := slices_Contains_ev has (rdOf ByteArray.empty l (i : Int)) (by omega)
      have hdl : (l.drop (i + 1)).length < d := by rw [List.length_drop]; omega
      have ih := fun (has : List ByteArray) (hh : has.length + (d - 1) ≤ 2000) => ihd (d - 1) (by omega) (l.drop (i + 1)) has (by omega) (by rw [List.length_drop]; omega) hh
      rw [hdr]
      cases c : hasT has (rdOf ByteArray.empty l (i : Int)) with
      | true =>
        rw [c] at hhas
        rw [tryV, c, if_pos rfl]
        refine Ev.up ((evP hhas).eve fun k e1 => ?_) (ihm (i + 1) (by omega) (by omega))
        simp only [impl_tried.l0, e1, Option.bind_some, w64s hlt hl9, if_true]
        rw [if_pos (by omega), if_pos (by omega), if_pos (by omega)]
      | false =>
        rw [c] at hhas
        by_cases c2 : (has.length : Int) < cap
        · rw [tryV, c, if_neg (by simp), if_pos c2]
          have hb := tryV_bd cap (l.drop (i + 1)) (has ++ [rdOf ByteArray.empty l (i : Int)])
          rw [List.length_drop] at hb
          refine Ev.up (g := fun _ => some _) ((evA hhas (evP (ih (has ++ [rdOf ByteArray.empty l (i : Int)]) (by simp; omega)))).eve fun k ⟨e1, e2⟩ => ?_) (Ev.now _)
          simp only [impl_tried.l0, e1, Option.bind_some, w64s hlt hl9, Bool.false_eq_true, if_false, List.nil_append, List.length_nil, Int.toNat_natCast]
          rw [if_pos (by omega), if_pos (by omega), if_pos (by omega), if_pos (by omega), if_pos (by omega), if_pos c2, if_pos (by omega), if_pos (by omega), e2, Option.bind_some, w64 (by omega) (by omega)]
        · have hne : has ≠ [] := fun h => by rw [h] at c2; simp at c2; omega
          rw [tryV_full cap _ _ has (l.length : Int) c c2 hne (by rw [List.length_drop]; omega)]
          have key := Ev.scan' (fun k b j => impl_tried.l1 k cap has (rdOf ByteArray.empty l (i : Int)) (l.drop (i + 1)) b (has.length : Int) j) has.length (fun _ _ => True)
            (fun j b => mins b (((List.range has.length).drop j).map fun j => 1 + tryV cap (l.drop (i + 1)) (goneAt has j (rdOf ByteArray.empty l (i : Int)))))
            (fun b _ => Ev.up (g := fun _ => some _) (EvE.of fun k => by simp only [impl_tried.l1]; rw [if_neg (by omega)]) (by rw [show (List.range has.length).drop has.length = [] from List.drop_eq_nil_of_le (by simp)]; exact Ev.now _))
            (fun j b hj _ => .inr ⟨min b (1 + tryV cap (l.drop (i + 1)) (goneAt has j (rdOf ByteArray.empty l (i : Int)))), trivial, by
                rw [List.drop_eq_getElem_cons (i := j) (by simpa using hj), List.map_cons, List.getElem_range, mins_cons], fun q hq => by
                have hb := tryV_bd cap (l.drop (i + 1)) (goneAt has j (rdOf ByteArray.empty l (i : Int)))
                rw [List.length_drop] at hb
                have hh9 : has.length ≤ 9223372036854775807 := by omega
                have hgl := goneAt_length has j (rdOf ByteArray.empty l (i : Int)) hj
                refine Ev.up ((evP (ih (goneAt has j (rdOf ByteArray.empty l (i : Int))) (by omega))).eve fun k e => ?_) hq
                simp only [impl_tried.l1, Option.bind_some, w64s hj hh9, List.nil_append, List.length_nil, Int.toNat_natCast]
                rw [if_pos (by omega), if_pos (by omega), if_pos (by omega), if_pos (by rw [List.length_take]; omega), if_pos (by omega), if_pos (by omega), if_pos (by rw [List.length_take, List.length_drop]; omega), if_pos (by rw [List.length_append, List.length_take, List.length_drop]; omega)]
                simp only [show has.take j ++ has.drop (j + 1) ++ [rdOf ByteArray.empty l (i : Int)] = goneAt has j (rdOf ByteArray.empty l (i : Int)) from rfl, e, Option.bind_some]
                rw [w64 (by omega) (by omega), mn_min]⟩) 0 (l.length : Int) (Nat.zero_le _) trivial
          simp only [List.drop_zero] at key
          refine Ev.up ((evP hhas).eve fun k e1 => ?_) key
          simp only [impl_tried.l0, e1, Option.bind_some, Bool.false_eq_true, if_false, w64s hlt hl9, Int.toNat_natCast]
          rw [if_pos (by omega), if_pos (by omega), if_pos (by omega), if_pos (by omega), if_pos (by omega), if_neg c2]; rfl
  exact Ev.up (EvE.of fun k => by simp only [impl_tried.f]; rfl) (key l.length 0 (by omega) (by omega))
def tryM (l : List ByteArray) (cap : Int) : Int × Bool := if asksOk l = true ∧ (1 ≤ cap ∧ cap ≤ 60) ∧ l.length ≤ 12 then (tryV cap l [], true) else (0, false)
theorem spec_TryMisses_ev (l : List ByteArray) (hl : l.length ≤ 1048576) (hs : ∀ s ∈ l, s.size ≤ maxLen) (m : Int) : Ev (fun k => spec_TryMisses.f k l m) (tryM l m) := by
  have ha := spec_AsksOk_ev l (by omega) hs
  unfold tryM
  by_cases c1 : asksOk l = true ∧ (1 ≤ m ∧ m ≤ 60)
  · obtain ⟨c1, c2⟩ := c1
    rw [c1] at ha
    by_cases c3 : l.length ≤ 12
    · rw [if_pos ⟨c1, c2, c3⟩]
      have ht := spec_try l (by omega) m c2.1 l.length 0 [] (by omega) (by omega) (by simp; omega)
      rw [List.drop_zero] at ht
      refine (evA ha (evP ht)).ev fun k ⟨e1, e2⟩ => ?_
      simp only [spec_TryMisses.f, spec_l13Ok.f, spec_l01In.f, e1, Option.bind_some, if_true]
      rw [if_pos (by omega), Option.bind_some, Option.bind_some, if_pos (decide_eq_true (by omega)), if_neg (by omega)]
      simp only [show ((0 : Nat) : Int) = 0 from rfl] at e2
      rw [e2, Option.bind_some]
    · rw [if_neg (fun h => c3 h.2.2)]
      refine (evP ha).ev fun k e1 => ?_
      simp only [spec_TryMisses.f, spec_l13Ok.f, spec_l01In.f, e1, Option.bind_some, if_true]
      rw [if_pos (by omega), Option.bind_some, Option.bind_some, if_pos (decide_eq_true (by omega)), if_pos (by omega)]
  · rw [if_neg (fun h => c1 ⟨h.1, h.2.1⟩)]
    refine (evP ha).ev fun k e1 => ?_
    simp only [spec_TryMisses.f, spec_l13Ok.f, spec_l01In.f, e1, Option.bind_some]
    cases c : asksOk l with
    | false => simp only [Bool.false_eq_true, if_false, Option.bind_some]
    | true =>
      rw [if_pos rfl]
      by_cases c4 : m ≥ 1
      · rw [if_pos c4, Option.bind_some, Option.bind_some, if_neg (by have : ¬ (1 ≤ m ∧ m ≤ 60) := fun h => c1 ⟨c, h⟩; simp; omega)]
      · rw [if_neg c4, Option.bind_some, Option.bind_some, if_neg (by simp)]
theorem impl_TryMisses_ev (l : List ByteArray) (hl : l.length ≤ 1048576) (hs : ∀ s ∈ l, s.size ≤ maxLen) (m : Int) : Ev (fun k => impl_TryMisses.f k l m) (tryM l m) := by
  have ha := impl_AsksOk_ev l (by omega) hs
  unfold tryM
  by_cases c1 : asksOk l = true ∧ (1 ≤ m ∧ m ≤ 60)
  · obtain ⟨c1, c2⟩ := c1
    rw [c1] at ha
    by_cases c3 : l.length ≤ 12
    · rw [if_pos ⟨c1, c2, c3⟩]
      have ht := impl_try m c2.1 l.length l [] (by omega) (by omega) (by simp; omega)
      refine (evA ha (evP ht)).ev fun k ⟨e1, e2⟩ => ?_
      simp only [impl_TryMisses.f, impl_within.f, e1, Option.bind_some, if_true]
      rw [if_pos (by omega), Option.bind_some, if_pos (decide_eq_true (by omega)), if_neg (by omega), e2, Option.bind_some]
    · rw [if_neg (fun h => c3 h.2.2)]
      refine (evP ha).ev fun k e1 => ?_
      simp only [impl_TryMisses.f, impl_within.f, e1, Option.bind_some, if_true]
      rw [if_pos (by omega), Option.bind_some, if_pos (decide_eq_true (by omega)), if_pos (by omega)]
  · rw [if_neg (fun h => c1 ⟨h.1, h.2.1⟩)]
    refine (evP ha).ev fun k e1 => ?_
    simp only [impl_TryMisses.f, impl_within.f, e1, Option.bind_some]
    cases c : asksOk l with
    | false => simp only [Bool.false_eq_true, if_false]
    | true =>
      rw [if_pos rfl]
      by_cases c4 : m ≥ 1
      · rw [if_pos c4, Option.bind_some, if_neg (by have : ¬ (1 ≤ m ∧ m ≤ 60) := fun h => c1 ⟨c, h⟩; simp; omega)]
      · rw [if_neg c4, Option.bind_some, if_neg (by simp)]
theorem FnExactTryMisses : DFnExactTryMisses.Pure := by
  intro l m ⟨hl, hs⟩ hm
  obtain ⟨t, ht, ht0, ht1⟩ := laws_szStringS_ev l 1048576 (by omega) (by omega) hl hs
  by_cases c1 : t < 0
  · obtain ⟨k, e⟩ := (evP ht).ex
    exact ⟨k, by simp only [laws_FnExactTryMisses.f, e, Option.bind_some]; rw [if_pos c1]⟩
  · have hn := ht1 c1
    have step : Ev (fun k => laws_FnExactTryMisses.j0 k l l false) true := by
      refine Ev.up (g := fun _ => some true) ((evA (laws_toStringS_ev l (by omega)) (evP (laws_eqStringS_ev l (by omega)))).eve fun k ⟨e1, e2⟩ => ?_) (Ev.now _)
      simp only [laws_FnExactTryMisses.j0, e1, e2, Option.bind_some, Bool.false_eq_true, if_false, if_true]
    obtain ⟨k, e0, e1, e2, e3, e4⟩ := (evA ht (evA (laws_toStringS_ev l (by omega)) (evA (spec_TryMisses_ev l (by omega) hs m) (evA (impl_TryMisses_ev l (by omega) hs m) (evP step))))).ex
    exact ⟨k, by simp only [laws_FnExactTryMisses.f, e0, e1, e2, e3, Option.bind_some, if_true, bne_self_eq_false, e4]; rw [if_neg c1]⟩
end Go.Proofs.Ytllaoamaplepmaa.Pure
