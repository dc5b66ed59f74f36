/- The program's RowPut and the reference's tell the same, for all rows, keys and values. No condition. -/
import Derived.Test.YtmmphfonbeddeaaDFnExactRowPut
import Derived.Test.YtmmphfonbeddeaaLm
namespace Go.Proofs.Ytmmphfonbeddeaa.Pure
open Go.RowKit Go.Proofs.Ytmmphfonbeddeaa.QFnExactRowPut Go.Proofs.YtmmphfonbeddeaaW.PrintWords Go.Proofs.YtmmphfonbeddeaaW.PrintLast Go.Proofs.YtmmphfonbeddeaaW.PrintMore Go.Proofs.Ytmmphfonbeddeaa.Lm
set_option linter.unusedSimpArgs false
set_option linter.unusedVariables false
theorem spec_l10Clean_ev (s : ByteArray) (hs : s.size ≤ 9223372036854775807) : Ev (fun k => spec_l10Clean.f k s) (plain (bytesOf s)) := by
  have := Ev.scan (l := fun k (_ : Unit) i => spec_l10Clean.l0 k s i) s.size (fun _ _ => True) (fun i _ => plain ((bytesOf s).drop i)) ?_ ?_ 0 () (Nat.zero_le _) trivial
  · simpa [spec_l10Clean.f] using this
  · intro _ _
    exact Ev.some_ fun k => by simp only [spec_l10Clean.l0]; rw [if_neg (by omega)]; simp [plain, ← bytesOf_length]
  · intro i _ hi _
    have hd := drop_bt s i hi
    have hl : ∀ k, spec_l10Clean.l0 (k + 1) s (i : Int) = if bt s (i : Int) = 32 then some false else if bt s (i : Int) = 10 then some false else spec_l10Clean.l0 k s ((i + 1 : Nat) : Int) := fun k => by
      simp only [spec_l10Clean.l0]; rw [if_pos (by omega), if_pos (by omega), w64s hi hs]
    by_cases h1 : bt s (i : Int) = 32
    · exact .inl (Ev.some_ fun k => by simp only [hl]; rw [if_pos h1, hd, h1]; rfl)
    · by_cases h2 : bt s (i : Int) = 10
      · exact .inl (Ev.some_ fun k => by simp only [hl]; rw [if_neg h1, if_pos h2, hd, h2]; rfl)
      · exact .inr ⟨(), trivial, by rw [hd]; simp [plain, h1, h2], EvE.of fun k => by simp only [hl]; rw [if_neg h1, if_neg h2]⟩
theorem impl_isPlain_ev (s : ByteArray) (hs : s.size ≤ 9223372036854775807) : Ev (fun k => impl_isPlain.f k s) (plain (bytesOf s)) := by
  have := Ev.scan (l := fun k (_ : Unit) i => impl_isPlain.l0 k s i) s.size (fun _ _ => True) (fun i _ => plain ((bytesOf s).drop i)) ?_ ?_ 0 () (Nat.zero_le _) trivial
  · simpa [impl_isPlain.f] using this
  · intro _ _
    exact Ev.some_ fun k => by simp only [impl_isPlain.l0]; rw [if_neg (by omega)]; simp [plain, ← bytesOf_length]
  · intro i _ hi _
    have hd := drop_bt s i hi
    have hl : ∀ k, impl_isPlain.l0 (k + 1) s (i : Int) = if bt s (i : Int) = 32 then some false else if bt s (i : Int) = 10 then some false else impl_isPlain.l0 k s ((i + 1 : Nat) : Int) := fun k => by
      simp only [impl_isPlain.l0]; rw [if_pos (by omega), if_pos (by omega), w64s hi hs]
    by_cases h1 : bt s (i : Int) = 32
    · exact .inl (Ev.some_ fun k => by simp only [hl]; rw [if_pos h1, hd, h1]; rfl)
    · by_cases h2 : bt s (i : Int) = 10
      · exact .inl (Ev.some_ fun k => by simp only [hl]; rw [if_neg h1, if_pos h2, hd, h2]; rfl)
      · exact .inr ⟨(), trivial, by rw [hd]; simp [plain, h1, h2], EvE.of fun k => by simp only [hl]; rw [if_neg h1, if_neg h2]⟩
theorem spec_ItemOk_ev (a b : ByteArray) (f : Int) (ha : a.size ≤ 9223372036854775807) (hb : b.size ≤ 9223372036854775807) : Ev (fun k => spec_ItemOk.f k a b f) (itemOk a b f) := by
  obtain ⟨K1, h1⟩ := spec_l10Clean_ev a ha
  obtain ⟨K2, h2⟩ := spec_l10Clean_ev b hb
  refine ⟨max K1 K2, fun k hk => ?_⟩
  have e1 := h1 k (by omega)
  have e2 := h2 k (by omega)
  by_cases c1 : 1 ≤ (a.size : Int) <;> by_cases c2 : (a.size : Int) ≤ 20 <;> by_cases c3 : (b.size : Int) ≤ 40 <;> by_cases c4 : 0 ≤ f <;> by_cases c5 : f ≤ 3 <;> cases p1 : plain (bytesOf a) <;> cases p2 : plain (bytesOf b) <;>
    simp only [spec_ItemOk.f, spec_l01In.f, e1, e2, Option.bind_some, itemOk, ge_iff_le, c1, c2, c3, c4, c5, p1, p2, if_true, if_false, decide_true, decide_false, Bool.and_true, Bool.true_and, Bool.false_and, Bool.and_false, Bool.false_eq_true]
theorem impl_ItemOk_ev (a b : ByteArray) (f : Int) (ha : a.size ≤ 9223372036854775807) (hb : b.size ≤ 9223372036854775807) : Ev (fun k => impl_ItemOk.f k a b f) (itemOk a b f) := by
  obtain ⟨K1, h1⟩ := impl_isPlain_ev a ha
  obtain ⟨K2, h2⟩ := impl_isPlain_ev b hb
  refine ⟨max K1 K2, fun k hk => ?_⟩
  have e1 := h1 k (by omega)
  have e2 := h2 k (by omega)
  by_cases c1 : 1 ≤ (a.size : Int) <;> by_cases c2 : (a.size : Int) ≤ 20 <;> by_cases c3 : (b.size : Int) ≤ 40 <;> by_cases c4 : 0 ≤ f <;> by_cases c5 : f ≤ 3 <;> cases p1 : plain (bytesOf a) <;> cases p2 : plain (bytesOf b) <;>
    simp only [impl_ItemOk.f, impl_within.f, e1, e2, Option.bind_some, itemOk, ge_iff_le, c1, c2, c3, c4, c5, p1, p2, if_true, if_false, decide_true, decide_false, Bool.and_true, Bool.true_and, Bool.false_and, Bool.and_false, Bool.false_eq_true]
theorem drop_I (l : List S42) (i : Nat) (h : i < l.length) : l.drop i = rd_T42 l (i : Int) :: l.drop (i + 1) := by
  unfold rd_T42; rw [Int.toNat_natCast]; exact drop_cons _ l i h
/-- Where a key's item is. -/
def atI (l : List S42) (key : ByteArray) : Int := if l.any (fun x => decide (x.f0 = key)) then ((l.findIdx (fun x => decide (x.f0 = key)) : Nat) : Int) else -1
def okI (l : List S42) (i : Nat) : Bool := itemOk (rd_T42 l (i : Int)).f0 (rd_T42 l (i : Int)).f1 (rd_T42 l (i : Int)).f2 && decide (atI l (rd_T42 l (i : Int)).f0 = (i : Int))
/-- Items are right, and no two have one key. -/
def areI (l : List S42) : Bool := allN l.length (okI l)
/-- The texts of items are no longer than texts are. -/
def SmallI (l : List S42) : Prop := l.length ≤ 1048576 ∧ ∀ x ∈ l, x.f0.size ≤ 9223372036854775807 ∧ x.f1.size ≤ 9223372036854775807
theorem SmallI.at {l : List S42} (h : SmallI l) (i : Nat) (hi : i < l.length) : (rd_T42 l (i : Int)).f0.size ≤ 9223372036854775807 ∧ (rd_T42 l (i : Int)).f1.size ≤ 9223372036854775807 :=
  h.2 _ (by unfold rd_T42; rw [Int.toNat_natCast]; exact getD_mem _ l i hi)
theorem spec_l10At_ev (l : List S42) (x : ByteArray) (hl : l.length ≤ 1048576) : Ev (fun k => spec_l10At.f k l x) (atI l x) := by
  have key := Ev.scan (fun k (_ : Unit) i => spec_l10At.l0 k x l (l.length : Int) i) l.length (fun _ _ => True) (fun i _ => if (l.drop i).any (fun y => decide (y.f0 = x)) then (((l.drop i).findIdx (fun y => decide (y.f0 = x)) + i : Nat) : Int) else -1)
    (fun _ _ => Ev.some_ fun k => by simp only [spec_l10At.l0]; rw [if_neg (by omega), List.drop_eq_nil_of_le (Nat.le_refl _)]; rfl)
    (fun i _ hi _ => by
      have hd := drop_I l i hi
      have hs : ∀ k, spec_l10At.l0 (k + 1) x l (l.length : Int) (i : Int) = if (rd_T42 l (i : Int)).f0 = x then some (i : Int) else spec_l10At.l0 k x l (l.length : Int) ((i + 1 : Nat) : Int) := fun k => by
        simp only [spec_l10At.l0, toList_inj]; rw [if_pos (by omega), if_pos (by omega), if_pos (by omega), w64s hi (by omega)]
      rw [hd, List.any_cons, List.findIdx_cons]
      by_cases c : (rd_T42 l (i : Int)).f0 = x
      · exact .inl (Ev.some_ fun k => by simp only [hs]; rw [if_pos c, decide_eq_true c]; simp)
      · exact .inr ⟨(), trivial, by
          rw [decide_eq_false c]; simp only [Bool.false_or, cond_false]
          split <;> omega, EvE.of fun k => by simp only [hs]; rw [if_neg c]⟩) 0 () (Nat.zero_le _) trivial
  simpa [spec_l10At.f, atI] using key
theorem impl_itemAt_ev (l : List S42) (x : ByteArray) (hl : l.length ≤ 1048576) : Ev (fun k => impl_itemAt.f k l x) (atI l x) := by
  have key := Ev.scan (fun k (_ : Unit) i => impl_itemAt.l0 k x l (l.length : Int) i) l.length (fun _ _ => True) (fun i _ => if (l.drop i).any (fun y => decide (y.f0 = x)) then (((l.drop i).findIdx (fun y => decide (y.f0 = x)) + i : Nat) : Int) else -1)
    (fun _ _ => Ev.some_ fun k => by simp only [impl_itemAt.l0]; rw [if_neg (by omega), List.drop_eq_nil_of_le (Nat.le_refl _)]; rfl)
    (fun i _ hi _ => by
      have hd := drop_I l i hi
      have hs : ∀ k, impl_itemAt.l0 (k + 1) x l (l.length : Int) (i : Int) = if (rd_T42 l (i : Int)).f0 = x then some (i : Int) else impl_itemAt.l0 k x l (l.length : Int) ((i + 1 : Nat) : Int) := fun k => by
        simp only [impl_itemAt.l0, toList_inj]; rw [if_pos (by omega), if_pos (by omega), if_pos (by omega), w64s hi (by omega)]
      rw [hd, List.any_cons, List.findIdx_cons]
      by_cases c : (rd_T42 l (i : Int)).f0 = x
      · exact .inl (Ev.some_ fun k => by simp only [hs]; rw [if_pos c, decide_eq_true c]; simp)
      · exact .inr ⟨(), trivial, by
          rw [decide_eq_false c]; simp only [Bool.false_or, cond_false]
          split <;> omega, EvE.of fun k => by simp only [hs]; rw [if_neg c]⟩) 0 () (Nat.zero_le _) trivial
  simpa [impl_itemAt.f, atI] using key
theorem impl_areItems_ev (l : List S42) (hl : SmallI l) : Ev (fun k => impl_areItems.f k l) (areI l) := by
  have key := Ev.asks (fun k i => impl_areItems.l0 k l l (l.length : Int) i) l.length (okI l) true
    (Ev.some_ fun k => by simp only [impl_areItems.l0]; rw [if_neg (by omega)])
    (fun i hi hp => by
      have hb := hl.at i hi
      have h1 := impl_ItemOk_ev (rd_T42 l (i : Int)).f0 (rd_T42 l (i : Int)).f1 (rd_T42 l (i : Int)).f2 hb.1 hb.2
      refine (evA h1 (evP (impl_itemAt_ev l (rd_T42 l (i : Int)).f0 hl.1))).ev fun k ⟨e1, e2⟩ => ?_
      simp only [impl_areItems.l0, e1, e2, Option.bind_some]
      rw [if_pos (by have := hl.1; omega), if_pos (by omega), if_pos (by have := hl.1; omega)]
      unfold okI at hp
      cases c : itemOk (rd_T42 l (i : Int)).f0 (rd_T42 l (i : Int)).f1 (rd_T42 l (i : Int)).f2 with
      | false => rw [if_neg (by simp)]
      | true => rw [c, Bool.true_and] at hp; rw [if_pos rfl, if_neg (of_decide_eq_false hp)])
    (fun i hi hp => by
      have hb := hl.at i hi
      have hw := hl.1
      have h1 := impl_ItemOk_ev (rd_T42 l (i : Int)).f0 (rd_T42 l (i : Int)).f1 (rd_T42 l (i : Int)).f2 hb.1 hb.2
      unfold okI at hp
      simp only [Bool.and_eq_true, decide_eq_true_eq] at hp
      rw [hp.1] at h1
      refine (evA h1 (evP (impl_itemAt_ev l (rd_T42 l (i : Int)).f0 hl.1))).eve fun k ⟨e1, e2⟩ => ?_
      simp only [impl_areItems.l0, e1, e2, Option.bind_some, if_true]
      rw [if_pos (by omega), if_pos (by omega), if_pos (by omega), if_pos hp.2, w64s hi (by omega)])
  rw [Bool.and_true] at key
  simpa [impl_areItems.f, areI] using key
def mostF (a : Int) : Int := if a = 3 then 1 else 0
def freqI (m : Int) (l : List S42) (i : Nat) : Bool := decide (0 ≤ (rd_T42 l (i : Int)).f2) && decide ((rd_T42 l (i : Int)).f2 ≤ m)
/-- A row is right. -/
def rowOk (a b : Int) (l : List S42) : Bool := decide (1 ≤ a ∧ a ≤ 3) && decide (1 ≤ b ∧ b ≤ 60) && decide ((l.length : Int) ≤ b) && (allN l.length (freqI (mostF a) l) && areI l)
theorem impl_RowOk_l0 (m a b : Int) (l : List S42) (hl : SmallI l) : Ev (fun k => impl_RowOk.l0 k m l (l.length : Int) 0 a b l) (allN l.length (freqI m l) && (decide (1 ≤ a ∧ a ≤ 3) && decide (1 ≤ b ∧ b ≤ 60) && decide ((l.length : Int) ≤ b) && areI l)) := by
  have hw := hl.1
  refine Ev.asks (fun k i => impl_RowOk.l0 k m l (l.length : Int) i a b l) l.length (freqI m l) _ ?_ ?_ ?_
  · refine (evP (impl_areItems_ev l hl)).ev fun k e => ?_
    simp only [impl_RowOk.l0, e, impl_within.f, Option.bind_some]
    rw [if_neg (by omega)]
    by_cases c1 : 1 ≤ a
    · rw [if_pos (by omega), Option.bind_some]
      by_cases c2 : a ≤ 3
      · rw [if_pos (decide_eq_true c2)]
        by_cases c3 : 1 ≤ b
        · rw [if_pos (by omega), Option.bind_some]
          by_cases c4 : b ≤ 60
          · rw [if_pos (decide_eq_true c4)]
            by_cases c5 : (l.length : Int) ≤ b
            · rw [if_pos c5]; simp [c1, c2, c3, c4, c5]
            · rw [if_neg c5]; simp [c5]
          · rw [if_neg (by simp [c4])]; simp [c4]
        · rw [if_neg (by omega), Option.bind_some, if_neg (by simp)]; simp [c3]
      · rw [if_neg (by simp [c2])]; simp [c2]
    · rw [if_neg (by omega), Option.bind_some, if_neg (by simp)]; simp [c1]
  · intro i hi hp
    refine Ev.some_ fun k => ?_
    simp only [impl_RowOk.l0, impl_within.f]
    rw [if_pos (by omega), if_pos (by omega), if_pos (by omega)]
    unfold freqI at hp
    by_cases c : (rd_T42 l (i : Int)).f2 ≥ 0
    · rw [if_pos c, Option.bind_some, if_neg]; rw [decide_eq_true c, Bool.true_and] at hp; rw [hp]; simp
    · rw [if_neg c, Option.bind_some, if_neg (by simp)]
  · intro i hi hp
    refine EvE.of fun k => ?_
    unfold freqI at hp
    simp only [Bool.and_eq_true, decide_eq_true_eq] at hp
    simp only [impl_RowOk.l0, impl_within.f]
    rw [if_pos (by omega), if_pos (by omega), if_pos (by omega), if_pos (show (rd_T42 l (i : Int)).f2 ≥ 0 from hp.1), Option.bind_some, if_pos (decide_eq_true hp.2), w64s hi (by omega)]
theorem impl_RowOk_ev (a b : Int) (l : List S42) (hl : SmallI l) : Ev (fun k => impl_RowOk.f k a b l) (rowOk a b l) := by
  have e : rowOk a b l = (allN l.length (freqI (mostF a) l) && (decide (1 ≤ a ∧ a ≤ 3) && decide (1 ≤ b ∧ b ≤ 60) && decide ((l.length : Int) ≤ b) && areI l)) := by
    unfold rowOk
    generalize allN l.length (freqI (mostF a) l) = x
    generalize (decide (1 ≤ a ∧ a ≤ 3) && decide (1 ≤ b ∧ b ≤ 60) && decide ((l.length : Int) ≤ b)) = y
    generalize areI l = z
    cases x <;> cases y <;> cases z <;> rfl
  rw [e]
  by_cases c : a = 3
  · refine Ev.congr (fun k => ?_) (Ev.up (f := fun k => impl_RowOk.j0 k (mostF a) a b l) (EvE.of fun k => by simp only [impl_RowOk.j0]) (impl_RowOk_l0 (mostF a) a b l hl))
    simp only [impl_RowOk.f]; rw [if_pos c]; unfold mostF; rw [if_pos c]
  · refine Ev.congr (fun k => ?_) (Ev.up (f := fun k => impl_RowOk.j0 k (mostF a) a b l) (EvE.of fun k => by simp only [impl_RowOk.j0]) (impl_RowOk_l0 (mostF a) a b l hl))
    simp only [impl_RowOk.f]; rw [if_neg c]; unfold mostF; rw [if_neg c]
theorem spec_RowOk_l0 (a b : Int) (l : List S42) (hl : SmallI l) : Ev (fun k => spec_RowOk.l0 k l (l.length : Int) 0 a b l) (allN l.length (fun i => freqI (mostF a) l i && okI l i) && true) := by
  have hw := hl.1
  refine Ev.asks (fun k i => spec_RowOk.l0 k l (l.length : Int) i a b l) l.length _ _ ?_ ?_ ?_
  · exact Ev.some_ fun k => by simp only [spec_RowOk.l0]; rw [if_neg (by omega)]
  · intro i hi hp
    have hb := hl.at i hi
    have h1 := spec_ItemOk_ev (rd_T42 l (i : Int)).f0 (rd_T42 l (i : Int)).f1 (rd_T42 l (i : Int)).f2 hb.1 hb.2
    refine (evA h1 (evP (spec_l10At_ev l (rd_T42 l (i : Int)).f0 hl.1))).ev fun k ⟨e1, e2⟩ => ?_
    simp only [spec_RowOk.l0, e1, e2, Option.bind_some]
    rw [if_pos (by omega), if_pos (by omega), if_pos (by omega)]
    unfold okI freqI mostF at hp
    cases c : itemOk (rd_T42 l (i : Int)).f0 (rd_T42 l (i : Int)).f1 (rd_T42 l (i : Int)).f2 with
    | false => rw [if_neg (by simp)]
    | true =>
      rw [if_pos rfl]
      have hs := itemOk_sizes c
      rw [c, Bool.true_and] at hp
      by_cases c2 : atI l (rd_T42 l (i : Int)).f0 = (i : Int)
      · rw [if_pos c2]
        rw [decide_eq_true c2, Bool.and_true, decide_eq_true hs.2.2.2.1, Bool.true_and] at hp
        have hp := of_decide_eq_false hp
        by_cases c3 : (rd_T42 l (i : Int)).f2 > 1
        · rw [if_pos c3]
        · rw [if_neg c3]
          by_cases c4 : a = 3
          · rw [if_pos c4] at hp; omega
          · rw [if_neg c4] at hp; rw [if_pos (by omega), if_neg c4]
      · rw [if_neg c2]
  · intro i hi hp
    have hb := hl.at i hi
    have h1 := spec_ItemOk_ev (rd_T42 l (i : Int)).f0 (rd_T42 l (i : Int)).f1 (rd_T42 l (i : Int)).f2 hb.1 hb.2
    unfold okI freqI mostF at hp
    simp only [Bool.and_eq_true, decide_eq_true_eq] at hp
    rw [hp.2.1] at h1
    refine (evA h1 (evP (spec_l10At_ev l (rd_T42 l (i : Int)).f0 hl.1))).eve fun k ⟨e1, e2⟩ => ?_
    simp only [spec_RowOk.l0, e1, e2, Option.bind_some, if_true]
    rw [if_pos (by omega), if_pos (by omega), if_pos (by omega), if_pos hp.2.2, w64s hi (by omega)]
    have h12 := hp.1.2
    by_cases c4 : a = 3
    · rw [if_pos c4] at h12
      rw [if_neg (by omega)]
      by_cases c5 : (rd_T42 l (i : Int)).f2 = 1
      · rw [if_pos c5, if_pos c4]
      · rw [if_neg c5]
    · rw [if_neg c4] at h12
      rw [if_neg (by omega), if_neg (by omega)]
theorem spec_RowOk_ev (a b : Int) (l : List S42) (hl : SmallI l) : Ev (fun k => spec_RowOk.f k a b l) (rowOk a b l) := by
  have hj : ∀ x : Bool, Ev (fun k => spec_RowOk.j0 k x a b l) (!x && (allN l.length (freqI (mostF a) l) && areI l)) := fun x => by
    cases x with
    | true => exact Ev.up (g := fun _ => some false) (EvE.of fun k => by simp only [spec_RowOk.j0, if_true]) (Ev.now _)
    | false =>
      have h := spec_RowOk_l0 a b l hl
      rw [Bool.and_true] at h
      unfold areI
      unfold allN at h ⊢
      rw [← all_and]
      exact Ev.up (g := fun k => spec_RowOk.l0 k l (l.length : Int) 0 a b l) (EvE.of fun k => by simp only [spec_RowOk.j0, Bool.false_eq_true, if_false]) (by simpa using h)
  have hd : decide ((l.length : Int) ≤ b) = !decide ((l.length : Int) > b) := by
    by_cases c : (l.length : Int) ≤ b
    · rw [decide_eq_true c, decide_eq_false (by omega)]; rfl
    · rw [decide_eq_false c, decide_eq_true (by omega)]; rfl
  have h0 : Ev (fun k => spec_RowOk.j0 k true a b l) false := by simpa using hj true
  by_cases c1 : 1 ≤ a
  · by_cases c2 : a ≤ 3
    · by_cases c3 : 1 ≤ b
      · by_cases c4 : b ≤ 60
        · unfold rowOk
          rw [decide_eq_true ⟨c1, c2⟩, decide_eq_true ⟨c3, c4⟩, hd, Bool.true_and, Bool.true_and]
          refine Ev.ofE (EvE.of fun k => ?_) (hj (decide ((l.length : Int) > b)))
          simp only [spec_RowOk.f, spec_l01In.f]
          rw [if_neg (by omega), if_neg (by omega), if_pos (by omega), Option.bind_some, if_pos (decide_eq_true c4)]
        · rw [show rowOk a b l = false by unfold rowOk; simp [c4]]
          refine Ev.ofE (EvE.of fun k => ?_) h0
          simp only [spec_RowOk.f, spec_l01In.f]
          rw [if_neg (by omega), if_neg (by omega), if_pos (by omega), Option.bind_some, if_neg (by simp [c4])]
      · rw [show rowOk a b l = false by unfold rowOk; simp [c3]]
        refine Ev.ofE (EvE.of fun k => ?_) h0
        simp only [spec_RowOk.f, spec_l01In.f]
        rw [if_neg (by omega), if_neg (by omega), if_neg (by omega), Option.bind_some, if_neg (by simp)]
    · rw [show rowOk a b l = false by unfold rowOk; simp [c2]]
      refine Ev.ofE (EvE.of fun k => ?_) h0
      simp only [spec_RowOk.f]
      rw [if_neg (by omega), if_pos (by omega)]
  · rw [show rowOk a b l = false by unfold rowOk; simp [c1]]
    refine Ev.ofE (EvE.of fun k => ?_) h0
    simp only [spec_RowOk.f]
    rw [if_pos (by omega)]
/-- A law's item as the program's. -/
def cvI (x : S52) : S42 := ⟨x.f0, x.f1, x.f2⟩
theorem rd_cv (l : List S52) (i : Nat) : rd_T52 l (i : Int) = l.getD i z52 := by unfold rd_T52; rw [Int.toNat_natCast]
theorem laws_toItemS_ev (l : List S52) (h : l.length ≤ 1048576) : Ev (fun k => laws_toItemS.f k l) (l.map cvI) := by
  have hl := map_loop cvI z52 (fun k s i => laws_toItemS.l0 k l s i) l (fun s hs => Ev.some_ fun k => by simp only [laws_toItemS.l0]; rw [if_neg (by omega)]) (fun i s hi hs => EvE.of fun k => by
    simp only [laws_toItemS.l0, laws_toItem.f, Option.bind_some, rd_cv]; rw [if_pos (by omega), if_pos (by omega), if_pos (by omega), w64s hi (by omega), Int.toNat_natCast]; rfl) (List.replicate l.length z42) (by simp)
  refine Ev.congr (fun k => ?_) hl
  simp only [laws_toItemS.f, Int.toNat_natCast]
  rw [if_pos (by omega), if_pos (by omega)]
theorem small_cv (l : List S52) (h : l.length ≤ 1048576) (hs : ∀ x ∈ l, DFnExactRowPut.g52 x) : SmallI (l.map cvI) := by
  refine ⟨by simpa using h, fun x hx => ?_⟩
  obtain ⟨y, hy, rfl⟩ := List.mem_map.1 hx
  have := hs y hy
  exact ⟨this.1, this.2.1⟩
theorem laws_szItemS_ev (l : List S52) (n : Int) (hn0 : 0 ≤ n) (hn : n ≤ 1048576) (h : l.length ≤ maxLen) (hs : ∀ x ∈ l, DFnExactRowPut.g52 x) :
    ∃ t, Ev (fun k => laws_szItemS.f k l n) t ∧ t ≤ n ∧ (¬ t < 0 → t + (l.length : Int) ≤ n) := by
  unfold maxLen at h
  by_cases c : n - (l.length : Int) < 0
  · refine ⟨-1, Ev.some_ fun k => ?_, by omega, by omega⟩
    simp only [laws_szItemS.f]; rw [w64 (by omega) (by omega), if_pos c]
  · obtain ⟨r, hp, hr⟩ := Ev.scanX (fun k m i => laws_szItemS.l0 k l m i) l.length (fun _ m => 0 ≤ m ∧ m ≤ n - (l.length : Int)) (fun r => r ≤ n - (l.length : Int))
      (fun m hm => ⟨m, by omega, Ev.some_ fun k => by simp only [laws_szItemS.l0]; rw [if_neg (by omega)]⟩)
      (fun i m hi hm => by
        have hg := hs _ (by show rd_T52 l (i : Int) ∈ l; rw [rd_cv]; exact getD_mem _ l i hi)
        have h1 : (rd_T52 l (i : Int)).f0.size ≤ 9223372036854775807 := hg.1
        have h2 : (rd_T52 l (i : Int)).f1.size ≤ 9223372036854775807 := hg.2.1
        have hi9 : l.length ≤ 9223372036854775807 := by omega
        by_cases c1 : m - ((rd_T52 l (i : Int)).f0.size : Int) < 0
        · refine .inl ⟨-1, by omega, Ev.some_ fun k => ?_⟩
          simp only [laws_szItemS.l0, laws_szItem.f]
          rw [if_pos (by omega), if_pos (by omega), w64 (x := m - _) (by omega) (by omega), if_pos c1, Option.bind_some, if_pos (by omega)]
        · by_cases c2 : m - ((rd_T52 l (i : Int)).f0.size : Int) - ((rd_T52 l (i : Int)).f1.size : Int) < 0
          · refine .inl ⟨-1, by omega, Ev.some_ fun k => ?_⟩
            simp only [laws_szItemS.l0, laws_szItem.f]
            rw [if_pos (by omega), if_pos (by omega), w64 (x := m - _) (by omega) (by omega), if_neg c1, w64 (by omega) (by omega), if_pos c2, Option.bind_some, if_pos (by omega)]
          · refine .inr ⟨m - ((rd_T52 l (i : Int)).f0.size : Int) - ((rd_T52 l (i : Int)).f1.size : Int), by omega, EvE.of fun k => ?_⟩
            simp only [laws_szItemS.l0, laws_szItem.f]
            rw [if_pos (by omega), if_pos (by omega), w64 (x := m - _) (by omega) (by omega), if_neg c1, w64 (by omega) (by omega), if_neg c2, Option.bind_some, if_neg c2, w64s hi hi9]) 0 (n - (l.length : Int)) (Nat.zero_le _) (by omega)
    refine ⟨r, ?_, by omega, fun _ => by omega⟩
    refine Ev.congr (fun k => ?_) hr
    simp only [laws_szItemS.f]; rw [w64 (by omega) (by omega), if_neg c] <;> rfl
theorem laws_eqItemS_ev (l : List S42) (h : l.length ≤ 9223372036854775807) : Ev (fun k => laws_eqItemS.f k l l) true := by
  refine Ev.congr (fun k => ?_) (all_loop (fun k i => laws_eqItemS.l0 k l l i) l.length (Ev.some_ fun k => by simp only [laws_eqItemS.l0]; rw [if_neg (by omega)]) (fun i hi => EvE.of fun k => by
    simp only [laws_eqItemS.l0, laws_eqItem.f, if_true, Option.bind_some]; rw [if_pos (by omega), if_pos (by omega), if_pos (by omega), w64s hi h]))
  simp only [laws_eqItemS.f]; rw [if_pos trivial]
theorem laws_eqRow_ev (a b : Int) (l : List S42) (h : l.length ≤ 9223372036854775807) : Ev (fun k => laws_eqRow.f k a b l a b l) true :=
  (evP (laws_eqItemS_ev l h)).ev fun k e => by simp only [laws_eqRow.f, e, if_true, Option.bind_some]
theorem strOfNums_one (x : Int) : (strOfNums [x]).size = 1 := rfl
theorem laws_markText_l0 : ∀ (d n : Nat) (s : ByteArray), n < 10 ^ d → n ≤ 9223372036854775807 → d ≤ 30 → s.size + d ≤ 1000 → ∃ r, Ev (fun k => laws_markText.l0 k (n : Int) s) r := by
  intro d
  induction d with
  | zero =>
    intro n s hn big hd hs
    refine ⟨(⟨#[109]⟩ : ByteArray) ++ s, Ev.up (g := fun _ => some _) (EvE.of fun k => ?_) (Ev.now _)⟩
    simp only [laws_markText.l0]
    rw [if_neg (by simp at hn; omega), if_pos (by omega)]
  | succ d ih =>
    intro n s hn big hd hs
    by_cases c : n = 0
    · refine ⟨(⟨#[109]⟩ : ByteArray) ++ s, Ev.up (g := fun _ => some _) (EvE.of fun k => ?_) (Ev.now _)⟩
      simp only [laws_markText.l0]
      rw [if_neg (by omega), if_pos (by omega)]
    · obtain ⟨r, hr⟩ := ih (n / 10) (strOfNums [((48 + n % 10 : Nat) : Int)] ++ s) (by rw [Nat.pow_succ] at hn; omega) (by omega) (by omega) (by rw [ByteArray.size_append, strOfNums_one]; omega)
      refine ⟨r, Ev.up (EvE.of fun k => ?_) hr⟩
      have e1 : wrap64 (Int.tdiv (n : Int) 10) = ((n / 10 : Nat) : Int) := by rw [Int.tdiv_eq_ediv_of_nonneg (by omega), w64 (by omega) (by omega)]; omega
      have e2 : wrap64 (48 + (Int.tmod (n : Int) 10)) % 256 = ((48 + n % 10 : Nat) : Int) := by rw [Int.tmod_eq_emod_of_nonneg (by omega), w64 (by omega) (by omega)]; omega
      simp only [laws_markText.l0, e1, e2]
      rw [if_pos (by omega), Option.bind_some, if_pos (by rw [strOfNums_one]; omega)]
theorem laws_markText_ev (n : Int) (hn : n ≤ 4294967295) : ∃ r, Ev (fun k => laws_markText.f k n) r := by
  by_cases c : n ≤ 0
  · exact ⟨_, Ev.some_ fun k => by simp only [laws_markText.f]; rw [if_pos c]⟩
  · obtain ⟨r, h⟩ := laws_markText_l0 10 n.toNat (⟨#[]⟩ : ByteArray) (by omega) (by omega) (by omega) (by show 0 + 10 ≤ 1000; omega)
    rw [Int.toNat_of_nonneg (by omega)] at h
    exact ⟨r, Ev.ofE (EvE.of fun k => by simp only [laws_markText.f]; rw [if_neg c]) h⟩
theorem rdI_set (s : List S42) (i : Nat) (x : S42) (h : i < s.length) : rd_T42 (s.set i x) (i : Int) = x := by
  unfold rd_T42; rw [Int.toNat_natCast, List.getD_eq_getElem?_getD, List.getElem?_set_self h]; rfl
def itemsM (mt : Int → ByteArray) (n : Int) (len : Nat) : List S42 := (List.range len).map fun i : Nat => (⟨mt (n + 3 * (i : Int)), mt (n + 3 * (i : Int) + 1), n + 3 * (i : Int) + 2⟩ : S42)
theorem rd_itemsM (mt : Int → ByteArray) (n : Int) (len i : Nat) (h : i < len) : rd_T42 (itemsM mt n len) (i : Int) = (⟨mt (n + 3 * (i : Int)), mt (n + 3 * (i : Int) + 1), n + 3 * (i : Int) + 2⟩ : S42) := by
  unfold rd_T42 itemsM; rw [Int.toNat_natCast]; simp [h]
theorem laws_markItemS_ev (l : List S42) (n : Int) (h0 : 0 ≤ n) (h : n + 3 * (l.length : Int) ≤ 4294967295) : ∃ M : List S42, M.length = l.length ∧ Ev (fun k => laws_markItemS.f k l n) (n + 3 * (l.length : Int), M) ∧ Ev (fun k => laws_heldItemS.f k M n) (n + 3 * (l.length : Int)) := by
  have hl9 : l.length ≤ 9223372036854775807 := by omega
  have hmt : ∃ mt : Int → ByteArray, ∀ i, i ≤ 4294967295 → Ev (fun k => laws_markText.f k i) (mt i) :=
    ⟨fun i => if h : i ≤ 4294967295 then Classical.choose (laws_markText_ev i h) else ByteArray.empty, fun i hi => by simp only [dif_pos hi]; exact Classical.choose_spec (laws_markText_ev i hi)⟩
  obtain ⟨mt, hmt⟩ := hmt
  refine ⟨itemsM mt n l.length, by simp [itemsM], ?_, ?_⟩
  · have key := Ev.scan (fun k (s : Int × List S42) i => laws_markItemS.l0 k s.2 s.1 i) l.length (fun i s => s.1 = n + 3 * (i : Int) ∧ s.2.length = l.length) (fun i s => (n + 3 * (l.length : Int), s.2.take i ++ (itemsM mt n l.length).drop i))
      (fun s hs => Ev.some_ fun k => by
        simp only [laws_markItemS.l0]; rw [if_neg (by omega), List.drop_eq_nil_of_le (by simp [itemsM]), List.append_nil, List.take_of_length_le (by omega), hs.1])
      (fun i s hi hs => .inr ⟨(s.1 + 1 + 1 + 1, s.2.set i ⟨mt s.1, mt (s.1 + 1), s.1 + 1 + 1⟩), ⟨by simp only; omega, by simpa using hs.2⟩, by
          unfold itemsM
          rw [← List.map_drop, ← List.map_drop, List.drop_eq_getElem_cons (i := i) (by simpa using hi), List.map_cons, List.getElem_range]
          simp only [Prod.mk.injEq, true_and]
          rw [List.take_add_one, List.getElem?_set_self (by omega), List.take_set_of_le (Nat.le_refl i), hs.1, show n + 3 * (i : Int) + 1 + 1 = n + 3 * (i : Int) + 2 by omega]
          simp, (evA (hmt s.1 (by omega)) (evP (hmt (s.1 + 1) (by omega)))).eve fun k ⟨m1, m2⟩ => by
          have h2 : i < s.2.length := by omega
          have b1 : -9223372036854775808 ≤ s.1 + 1 := by omega
          have b2 : s.1 + 1 ≤ 9223372036854775807 := by omega
          have b3 : -9223372036854775808 ≤ s.1 + 1 + 1 := by omega
          have b4 : s.1 + 1 + 1 ≤ 9223372036854775807 := by omega
          have b5 : -9223372036854775808 ≤ s.1 + 1 + 1 + 1 := by omega
          have b6 : s.1 + 1 + 1 + 1 ≤ 9223372036854775807 := by omega
          have g1 : (i : Int) < (s.2.length : Int) := by omega
          have g2 : (0 : Int) ≤ (i : Int) := by omega
          simp only [laws_markItemS.l0, m1, m2, Option.bind_some, Int.toNat_natCast, w64 b1 b2, w64 b3 b4, w64 b5 b6, w64s hi hl9, if_pos g1, if_pos g2, rdI_set _ _ _ h2, List.set_set]⟩) 0 (n, l) (Nat.zero_le _) ⟨by simp, rfl⟩
    simpa [laws_markItemS.f] using key
  · have hlen : (itemsM mt n l.length).length = l.length := by simp [itemsM]
    have key := Ev.scan (fun k (s : Int) i => laws_heldItemS.l0 k (itemsM mt n l.length) s i) l.length (fun i s => s = n + 3 * (i : Int)) (fun i s => n + 3 * (l.length : Int))
      (fun s hs => Ev.some_ fun k => by simp only [laws_heldItemS.l0, hlen]; rw [if_neg (by omega), hs])
      (fun i s hi hs => .inr ⟨s + 1 + 1 + 1, by omega, rfl, (evA (hmt s (by omega)) (evP (hmt (s + 1) (by omega)))).eve fun k ⟨m1, m2⟩ => by
          subst hs
          have b1 : -9223372036854775808 ≤ n + 3 * (i : Int) + 1 := by omega
          have b2 : n + 3 * (i : Int) + 1 ≤ 9223372036854775807 := by omega
          have b3 : -9223372036854775808 ≤ n + 3 * (i : Int) + 1 + 1 := by omega
          have b4 : n + 3 * (i : Int) + 1 + 1 ≤ 9223372036854775807 := by omega
          have b5 : -9223372036854775808 ≤ n + 3 * (i : Int) + 1 + 1 + 1 := by omega
          have b6 : n + 3 * (i : Int) + 1 + 1 + 1 ≤ 9223372036854775807 := by omega
          have g1 : (i : Int) < (l.length : Int) := by omega
          have g2 : (0 : Int) ≤ (i : Int) := by omega
          have g3 : n + 3 * (i : Int) + 2 = n + 3 * (i : Int) + 1 + 1 := by omega
          simp only [laws_heldItemS.l0, hlen, rd_itemsM mt n l.length i hi, m1, m2, Option.bind_some, w64 b1 b2, w64 b3 b4, w64 b5 b6, w64s hi hl9, if_pos g1, if_pos g2, if_true]
          rw [if_pos g3]⟩) 0 n (Nat.zero_le _) (by simp)
    simpa [laws_heldItemS.f] using key
theorem laws_markRow_ev (a b : Int) (l : List S42) (n : Int) (h0 : 0 ≤ n) (h : n + 3 * (l.length : Int) ≤ 4294967295) : ∃ M : List S42, M.length = l.length ∧ Ev (fun k => laws_markRow.f k a b l n) (n + 3 * (l.length : Int), M) ∧ (∀ a b, Ev (fun k => laws_heldRow.f k a b M n) (n + 3 * (l.length : Int))) := by
  obtain ⟨M, h1, h2, h3⟩ := laws_markItemS_ev l n h0 h
  refine ⟨M, h1, (evP h2).ev fun k e => by simp only [laws_markRow.f, e, Option.bind_some], fun a b => (evP h3).ev fun k e => ?_⟩
  simp only [laws_heldRow.f, e, Option.bind_some]; rw [if_neg (by omega)]
theorem laws_eqStringS_ev (l : List ByteArray) (h : l.length ≤ 9223372036854775807) : Ev (fun k => laws_eqStringS.f k l l) true := by
  refine Ev.congr (fun k => ?_) (all_loop (fun k i => laws_eqStringS.l0 k l l i) l.length (Ev.some_ fun k => by simp only [laws_eqStringS.l0]; rw [if_neg (by omega)]) (fun i hi => EvE.of fun k => by
    simp only [laws_eqStringS.l0]; rw [if_pos (by omega), if_pos (by omega), if_pos (by omega), if_pos trivial, w64s hi h]))
  simp only [laws_eqStringS.f]; rw [if_pos trivial]
theorem laws_markStringS_ev (l : List ByteArray) (n : Int) (h0 : 0 ≤ n) (h : n + (l.length : Int) ≤ 4294967295) : ∃ M : List ByteArray, M.length = l.length ∧ Ev (fun k => laws_markStringS.f k l n) (n + (l.length : Int), M) ∧ Ev (fun k => laws_heldStringS.f k M n) (n + (l.length : Int)) := by
  have hmt : ∃ mt : Int → ByteArray, ∀ i, i ≤ 4294967295 → Ev (fun k => laws_markText.f k i) (mt i) :=
    ⟨fun i => if h : i ≤ 4294967295 then Classical.choose (laws_markText_ev i h) else ByteArray.empty, fun i hi => by simp only [dif_pos hi]; exact Classical.choose_spec (laws_markText_ev i hi)⟩
  obtain ⟨mt, hmt⟩ := hmt
  refine ⟨(List.range l.length).map fun i : Nat => mt (n + (i : Int)), by simp, ?_, ?_⟩
  · have key := Ev.scan (fun k (s : Int × List ByteArray) i => laws_markStringS.l0 k s.2 s.1 i) l.length (fun i s => s.1 = n + (i : Int) ∧ s.2.length = l.length) (fun i s => (n + (l.length : Int), s.2.take i ++ ((List.range l.length).drop i).map fun i : Nat => mt (n + (i : Int))))
      (fun s hs => Ev.some_ fun k => by
        simp only [laws_markStringS.l0]; rw [if_neg (by omega), List.drop_eq_nil_of_le (by simp), List.map_nil, List.append_nil, List.take_of_length_le (by omega), hs.1])
      (fun i s hi hs => .inr ⟨(s.1 + 1, s.2.set i (mt s.1)), ⟨by simp only; omega, by simpa using hs.2⟩, by
          rw [List.drop_eq_getElem_cons (i := i) (by simpa using hi), List.map_cons, List.getElem_range, hs.1]
          simp only [Prod.mk.injEq, true_and]
          rw [List.take_add_one, List.getElem?_set_self (by omega), List.take_set_of_le (Nat.le_refl i)]
          simp, (evP (hmt s.1 (by omega))).eve fun k e => by
          simp only [laws_markStringS.l0, e, Option.bind_some]
          rw [if_pos (by omega), if_pos (by omega), w64s hi (by omega), w64 (by omega) (by omega), Int.toNat_natCast]⟩) 0 (n, l) (Nat.zero_le _) ⟨by simp, rfl⟩
    simpa [laws_markStringS.f] using key
  · have key := Ev.scan (fun k (s : Int) i => laws_heldStringS.l0 k ((List.range l.length).map fun i : Nat => mt (n + (i : Int))) s i) l.length (fun i s => s = n + (i : Int)) (fun i s => n + (l.length : Int))
      (fun s hs => Ev.some_ fun k => by simp only [laws_heldStringS.l0, List.length_map, List.length_range]; rw [if_neg (by omega), hs])
      (fun i s hi hs => .inr ⟨s + 1, by omega, rfl, (evP (hmt s (by omega))).eve fun k e => by
          simp only [laws_heldStringS.l0, e, Option.bind_some, List.length_map, List.length_range]
          rw [if_pos (by omega), if_pos (by omega), if_pos (by rw [rdOf_nat]; simp [hi, hs]), w64s hi (by omega), w64 (by omega) (by omega)]⟩) 0 n (Nat.zero_le _) (by simp)
    simpa [laws_heldStringS.f] using key
def rdI (l : List S42) (i : Nat) : S42 := rd_T42 l (i : Int)
theorem rdI_get (l : List S42) (i : Nat) (h : i < l.length) : rdI l i = l[i] := by
  unfold rdI rd_T42; rw [Int.toNat_natCast]; simp [h]
theorem spec_Without_ev (l : List S42) (x : ByteArray) (hl : l.length ≤ 1048576) : Ev (fun k => spec_l10Without.f k l x) (l.filter fun y => !decide (y.f0 = x)) := by
  have key := Ev.scan (fun k (s : List S42) i => spec_l10Without.l0 k x s l (l.length : Int) i) l.length (fun i s => s.length ≤ i) (fun i s => s ++ (l.drop i).filter fun y => !decide (y.f0 = x))
    (fun s _ => Ev.some_ fun k => by
      simp only [spec_l10Without.l0]; rw [if_neg (by omega), List.drop_eq_nil_of_le (Nat.le_refl _)]; simp)
    (fun i s hi hs => by
      have hd : l.drop i = rdI l i :: l.drop (i + 1) := by rw [rdI_get l i hi]; exact List.drop_eq_getElem_cons hi
      have h0 : ∀ k, spec_l10Without.l0 (k + 1) x s l (l.length : Int) (i : Int) = if (rdI l i).f0 = x then spec_l10Without.l0 k x s l (l.length : Int) ((i + 1 : Nat) : Int) else spec_l10Without.l0 k x (s ++ [rdI l i]) l (l.length : Int) ((i + 1 : Nat) : Int) := fun k => by
        simp only [spec_l10Without.l0]; rw [if_pos (by omega), if_pos (by omega), if_pos (by omega), w64s hi (by omega), if_pos (show s.length < 3518437208883 by omega)]
        by_cases c : (rdI l i).f0 = x
        · rw [if_pos c, if_pos (show (rd_T42 l (i : Int)).f0.toList = x.toList from toList_inj.2 c)]
        · rw [if_neg c, if_neg (show ¬ (rd_T42 l (i : Int)).f0.toList = x.toList from fun h => c (toList_inj.1 h))]; rfl
      by_cases c : (rdI l i).f0 = x
      · refine .inr ⟨s, by omega, ?_, EvE.of fun k => by simp only [h0]; rw [if_pos c]⟩
        rw [hd, List.filter_cons_of_neg (by simpa using c)]
      · refine .inr ⟨s ++ [rdI l i], by simp; omega, ?_, EvE.of fun k => by simp only [h0]; rw [if_neg c]⟩
        rw [hd, List.filter_cons_of_pos (by simpa using c)]; simp) 0 [] (Nat.zero_le _) (Nat.le_refl _)
  simpa [spec_l10Without.f] using key
theorem filter_erase (l : List S42) (i : Nat) (hi : i < l.length) (hd : ∀ j (hj : j < l.length), l[j].f0 = l[i].f0 → j = i) : (l.filter fun y => !decide (y.f0 = l[i].f0)) = l.eraseIdx i := by
  have h1 : (l.take i).filter (fun y => !decide (y.f0 = l[i].f0)) = l.take i := List.filter_eq_self.2 fun y hy => by
    obtain ⟨j, hj, rfl⟩ := List.getElem_of_mem hy
    rw [List.length_take] at hj
    rw [List.getElem_take]
    have := hd j (by omega)
    simp only [Bool.not_eq_true', decide_eq_false_iff_not]
    intro h; have := this h; omega
  have h2 : (l.drop (i + 1)).filter (fun y => !decide (y.f0 = l[i].f0)) = l.drop (i + 1) := List.filter_eq_self.2 fun y hy => by
    obtain ⟨j, hj, rfl⟩ := List.getElem_of_mem hy
    rw [List.length_drop] at hj
    rw [List.getElem_drop]
    have := hd (i + 1 + j) (by omega)
    simp only [Bool.not_eq_true', decide_eq_false_iff_not]
    intro h; have := this h; omega
  calc (l.filter fun y => !decide (y.f0 = l[i].f0)) = ((l.take i ++ l[i] :: l.drop (i + 1)).filter fun y => !decide (y.f0 = l[i].f0)) := by rw [← List.drop_eq_getElem_cons hi, List.take_append_drop]
    _ = l.eraseIdx i := by rw [List.filter_append, h1, List.filter_cons_of_neg (by simp), h2, List.eraseIdx_eq_take_drop_succ]
theorem ok_at (a b : Int) (l : List S42) (h : rowOk a b l = true) (i : Nat) (hi : i < l.length) : atI l (rdI l i).f0 = (i : Int) := by
  unfold rowOk areI at h
  unfold allN at h
  simp only [Bool.and_eq_true, decide_eq_true_eq] at h
  have := List.all_eq_true.1 h.2.2 i (List.mem_range.2 hi)
  unfold okI at this
  simp only [Bool.and_eq_true, decide_eq_true_eq] at this
  exact this.2
def touched (a : Int) (l : List S42) (i : Nat) : List S42 := if a = 2 then l.eraseIdx i ++ [rdI l i] else if a = 3 then l.set i ⟨(rdI l i).f0, (rdI l i).f1, 1⟩ else l
theorem touched_len (a : Int) (l : List S42) (i : Nat) : (touched a l i).length ≤ l.length + 1 := by
  unfold touched
  split
  · rw [List.length_append, List.length_singleton]; have := List.length_eraseIdx_le l i; omega
  · split
    · rw [List.length_set]; omega
    · omega
theorem spec_Touch_ev (a b : Int) (l : List S42) (hl : l.length ≤ 1048576) (i : Nat) (hi : i < l.length) (hd : ∀ j (hj : j < l.length), l[j].f0 = l[i].f0 → j = i) : Ev (fun k => spec_l11Touch.f k a b l (i : Int)) (a, b, touched a l i) := by
  have hw := spec_Without_ev l (rdI l i).f0 hl
  rw [rdI_get l i hi, filter_erase l i hi hd, ← rdI_get l i hi] at hw
  have hlen := List.length_eraseIdx_le l i
  refine (evP hw).ev fun k e => ?_
  simp only [spec_l11Touch.f]
  rw [if_pos (by omega), if_pos (by omega)]
  unfold touched
  by_cases c : a = 2
  · rw [if_pos c, if_pos c]
    show (Option.bind (spec_l10Without.f k l (rdI l i).f0) _) = _
    rw [e, Option.bind_some, Option.bind_some, if_pos (by rw [List.length_singleton]; omega)]
    rfl
  · rw [if_neg c, if_neg c]
    by_cases c3 : a = 3
    · rw [if_pos c3, if_pos c3, Int.toNat_natCast]; rfl
    · rw [if_neg c3, if_neg c3]
theorem impl_asked_ev (a b : Int) (l : List S42) (hl : l.length ≤ 1048576) (i : Nat) (hi : i < l.length) : impl_Row_asked.f a b l (i : Int) = some (touched a l i) := by
  have hlen := List.length_eraseIdx_le l i
  simp only [impl_Row_asked.f, impl_Item.f]
  rw [if_pos (show (0 : Int) ≤ i by omega), if_pos (show (i : Int) < (l.length : Int) by omega), w64 (x := (i : Int) + 1) (by omega) (by omega), if_pos (show (0 : Int) ≤ i ∧ (i : Int) < (l.length : Int) ∧ (i : Int) + 1 = i + 1 from ⟨by omega, by omega, rfl⟩), Int.toNat_natCast]
  unfold touched
  by_cases c : a = 2
  · rw [if_pos c, if_pos c, Option.bind_some, Option.bind_some, if_pos (by rw [List.length_singleton]; omega)]
    rfl
  · rw [if_neg c, if_neg c]
    by_cases c3 : a = 3
    · rw [if_pos c3, if_pos c3, if_pos (show (0 : Int) ≤ i by omega), if_pos (show (i : Int) < (l.length : Int) by omega)]; rfl
    · rw [if_neg c3, if_neg c3]
theorem at_lt (l : List S42) (x : ByteArray) (h : ¬ atI l x < 0) : ∃ i : Nat, atI l x = (i : Int) ∧ i < l.length := by
  unfold atI at h ⊢
  by_cases c : (l.any fun y => decide (y.f0 = x)) = true
  · rw [if_pos c]
    obtain ⟨y, hy, hx⟩ := List.any_eq_true.1 c
    exact ⟨_, rfl, List.findIdx_lt_length_of_exists ⟨y, hy, hx⟩⟩
  · rw [if_neg c] at h; omega
theorem copy_ev (a b : Int) (l : List S42) (hl : l.length ≤ 1048576) : impl_copyRow.f a b l = some (a, b, l) ∧ spec_l11Copy.f a b l = some (a, b, l) := by
  constructor
  · simp only [impl_copyRow.f, impl_copyItems.f, Option.bind_some, List.length_nil, List.nil_append]; rw [if_pos (by omega), Option.bind_some]
  · simp only [spec_l11Copy.f, Option.bind_some, List.length_nil, List.nil_append]; rw [if_pos (by omega)]
abbrev IT := S42
theorem ok_key (a b : Int) (l : List IT) (h : rowOk a b l = true) (i : Nat) (hi : i < l.length) : ∀ j (hj : j < l.length), l[j].f0 = l[i].f0 → j = i := fun j hj e => by
  have e1 := ok_at a b l h j hj
  have e2 := ok_at a b l h i hi
  rw [rdI_get l j hj, e, ← rdI_get l i hi, e2] at e1
  omega
def setV (l : List IT) (i : Nat) (v : ByteArray) : List IT := l.set i ⟨(rdI l i).f0, v, (rdI l i).f2⟩
theorem setV_len (l : List IT) (i : Nat) (v : ByteArray) : (setV l i v).length = l.length := by unfold setV; rw [List.length_set]
theorem setV_key (l : List IT) (i : Nat) (v : ByteArray) (hi : i < l.length) (j : Nat) (hj : j < (setV l i v).length) : (setV l i v)[j].f0 = (l[j]'(by rw [setV_len] at hj; exact hj)).f0 := by
  by_cases c : i = j
  · subst c; simp [setV, rdI_get l i hi]
  · simp [setV, List.getElem_set, c]
def clr (y : IT) : IT := ⟨y.f0, y.f1, 0⟩
/-- Who was asked for goes round, and is no longer asked for. -/
def rot : Nat → List IT → List IT
  | 0, l => l
  | n + 1, l => if (rdI l 0).f2 = 1 then rot n (l.drop 1 ++ [clr (rdI l 0)]) else l
def ones (l : List IT) : Nat := l.countP fun y => decide (y.f2 = 1)
theorem turn_len (l : List IT) (h : 0 < l.length) : (l.drop 1 ++ [clr (rdI l 0)]).length = l.length := by
  rw [List.length_append, List.length_drop, List.length_singleton]; omega
theorem turn_ones (l : List IT) (h : 0 < l.length) (c : (rdI l 0).f2 = 1) : ones (l.drop 1 ++ [clr (rdI l 0)]) + 1 = ones l := by
  cases l with
  | nil => simp at h
  | cons y t =>
    have e : rdI (y :: t) 0 = y := by rw [rdI_get _ 0 h]; rfl
    rw [e] at c ⊢
    unfold ones clr
    simp [c]
theorem no_ones (l : List IT) (h : 0 < l.length) (c : ones l = 0) : ¬ (rdI l 0).f2 = 1 := fun hc => by
  have := turn_ones l h hc; omega
theorem rot_len : ∀ (n : Nat) (l : List IT), 0 < l.length → (rot n l).length = l.length
  | 0, l, _ => rfl
  | n + 1, l, h => by
    unfold rot
    split
    · rw [rot_len n _ (by rw [turn_len l h]; exact h), turn_len l h]
    · rfl
abbrev PutT := Int × Int × List IT × List ByteArray × Bool
def fin (a b : Int) (g : List ByteArray) (x v : ByteArray) (l : List IT) : PutT := (a, b, l.drop 1 ++ [⟨x, v, 0⟩], g ++ [(rdI l 0).f0], true)
theorem spec_loop (a b : Int) (g : List ByteArray) (x v : ByteArray) (hg : g.length ≤ 1048576) : ∀ (n : Nat) (l : List IT), 0 < l.length → l.length ≤ 1048576 → ones l ≤ n → Ev (fun k => spec_RowPut.l0 k x v g a b l) (fin a b g x v (rot n l))
  | n, l, h, hl, ho => by
    by_cases c : (rdI l 0).f2 = 1
    · cases n with
      | zero => exact absurd c (no_ones l h (by omega))
      | succ n =>
        have ih := spec_loop a b g x v hg n (l.drop 1 ++ [clr (rdI l 0)]) (by rw [turn_len l h]; exact h) (by rw [turn_len l h]; exact hl) (by have := turn_ones l h c; omega)
        have er : rot (n + 1) l = rot n (l.drop 1 ++ [clr (rdI l 0)]) := by rw [rot.eq_2, if_pos c]
        rw [er]
        refine Ev.up (EvE.of fun k => ?_) ih
        have c' : (rd_T42 l 0).f2 = 1 := c
        simp only [spec_RowPut.l0, Option.bind_some, List.nil_append, List.length_nil, List.length_singleton, List.length_drop]
        rw [if_pos (by omega), if_pos c', if_pos (by omega), if_pos (by omega), if_pos (by omega)]
        rfl
    · have er : rot n l = l := by cases n with
        | zero => rfl
        | succ n => rw [rot.eq_2, if_neg c]
      rw [er]
      refine Ev.up (g := fun _ => some (fin a b g x v l)) (EvE.of fun k => ?_) (Ev.now _)
      have c' : ¬ (rd_T42 l 0).f2 = 1 := c
      simp only [spec_RowPut.l0, Option.bind_some, List.nil_append, List.length_nil, List.length_singleton, List.length_drop]
      rw [if_pos (by omega), if_neg c', if_pos (by omega), if_pos (by omega), if_pos (by omega), if_pos (by omega)]
      rfl
theorem impl_loop (a b : Int) (g : List ByteArray) (x v : ByteArray) (hg : g.length ≤ 1048576) : ∀ (n : Nat) (l : List IT), 0 < l.length → l.length ≤ 1048575 → ones l ≤ n → Ev (fun k => impl_RowPut.l0 k x v g a b l) (fin a b g x v (rot n l))
  | n, l, h, hl, ho => by
    have e1 : (1 : Int).toNat = 1 := rfl
    by_cases c : (rdI l 0).f2 = 1
    · cases n with
      | zero => exact absurd c (no_ones l h (by omega))
      | succ n =>
        have ih := impl_loop a b g x v hg n (l.drop 1 ++ [clr (rdI l 0)]) (by rw [turn_len l h]; exact h) (by rw [turn_len l h]; exact hl) (by have := turn_ones l h c; omega)
        have er : rot (n + 1) l = rot n (l.drop 1 ++ [clr (rdI l 0)]) := by rw [rot.eq_2, if_pos c]
        rw [er]
        refine Ev.up (EvE.of fun k => ?_) ih
        have c' : (rd_T42 l 0).f2 = 1 := c
        simp only [impl_RowPut.l0, Option.bind_some, e1, List.length_drop]
        rw [if_pos (by omega), if_pos c', if_pos (by omega), if_pos (by omega)]
        rfl
    · have er : rot n l = l := by cases n with
        | zero => rfl
        | succ n => rw [rot.eq_2, if_neg c]
      rw [er]
      refine Ev.up (g := fun _ => some (fin a b g x v l)) (EvE.of fun k => ?_) (Ev.now _)
      have c' : ¬ (rd_T42 l 0).f2 = 1 := c
      have hc := (copy_ev a b (l.drop 1 ++ [⟨x, v, 0⟩]) (by rw [List.length_append, List.length_drop, List.length_singleton]; omega)).1
      simp only [impl_RowPut.l0, Option.bind_some, e1, List.length_drop, hc]
      rw [if_pos (by omega), if_neg c', if_pos (by omega), if_pos (by omega), if_pos (by omega)]
      rfl
def putV (a b : Int) (l : List IT) (x v : ByteArray) : PutT := if rowOk a b l = true ∧ itemOk x v 0 = true then (if atI l x < 0 then (if (l.length : Int) = b then fin a b [] x v (rot (ones l) l) else (a, b, l ++ [⟨x, v, 0⟩], [], true)) else (a, b, touched a (setV l (atI l x).toNat v) (atI l x).toNat, [], true)) else (0, 0, [], [], false)
theorem row_b {a b : Int} {l : List IT} (h : rowOk a b l = true) : 1 ≤ b ∧ b ≤ 60 ∧ (l.length : Int) ≤ b := by
  unfold rowOk at h
  simp only [Bool.and_eq_true, decide_eq_true_eq] at h
  exact ⟨h.1.1.2.1, h.1.1.2.2, h.1.2⟩
theorem spec_RowPut_ev (a b : Int) (l : List IT) (hs : SmallI l) (x v : ByteArray) (hx : x.size ≤ 9223372036854775807) (hv : v.size ≤ 9223372036854775807) : Ev (fun k => spec_RowPut.f k a b l x v) (putV a b l x v) := by
  have hl := hs.1
  have hO := spec_RowOk_ev a b l hs
  have hI := spec_ItemOk_ev x v 0 hx hv
  have hA := spec_l10At_ev l x hl
  have no : Ev (fun k => spec_RowPut.j0 k x v true a b l) (0, 0, [], [], false) := Ev.up (g := fun _ => some (0, 0, [], [], false)) (EvE.of fun k => by simp only [spec_RowPut.j0, if_true]) (Ev.now _)
  unfold putV
  by_cases c : rowOk a b l = true
  case neg =>
    rw [if_neg (fun q => c q.1)]
    refine (evA hO (evP no)).ev fun k ⟨e1, e2⟩ => ?_
    simp only [spec_RowPut.f, e1, Option.bind_some]; rw [if_neg c, e2]
  have hb := row_b c
  by_cases ci : itemOk x v 0 = true
  case neg =>
    rw [if_neg (fun q => ci q.2)]
    refine (evA hO (evA hI (evP no))).ev fun k ⟨e1, e2, e3⟩ => ?_
    have ci' : itemOk x v 0 = false := by simpa using ci
    simp only [spec_RowPut.f, e1, e2, Option.bind_some]; rw [if_pos c, ci', Bool.not_false, e3]
  rw [if_pos ⟨c, ci⟩]
  have go : ∀ r : PutT, Ev (fun k => spec_RowPut.j0 k x v false a b l) r → Ev (fun k => spec_RowPut.f k a b l x v) r := fun r hr => by
    refine (evA hO (evA hI (evP hr))).ev fun k ⟨e1, e2, e3⟩ => ?_
    simp only [spec_RowPut.f, e1, e2, Option.bind_some]; rw [if_pos c, ci, Bool.not_true, e3]
  refine go _ ?_
  by_cases d : atI l x < 0
  · rw [if_pos d]
    by_cases f : (l.length : Int) = b
    · rw [if_pos f]
      refine Ev.up ((evP hA).eve fun k e1 => ?_) (spec_loop a b [] x v (by simp) (ones l) l (by omega) (by omega) (Nat.le_refl _))
      simp only [spec_RowPut.j0, Bool.false_eq_true, if_false, e1, (copy_ev a b l hl).2, Option.bind_some]
      rw [if_neg (by omega), if_pos f]
    · rw [if_neg f]
      refine Ev.up (g := fun _ => some (a, b, l ++ [⟨x, v, 0⟩], [], true)) ((evP hA).eve fun k e1 => ?_) (Ev.now _)
      simp only [spec_RowPut.j0, Bool.false_eq_true, if_false, e1, (copy_ev a b l hl).2, Option.bind_some, List.length_singleton]
      rw [if_neg (by omega), if_neg f, if_pos (by omega)]
  · obtain ⟨i, e0, hi⟩ := at_lt l x d
    rw [if_neg d, e0, Int.toNat_natCast]
    rw [e0] at hA d
    have hk := ok_key a b l c i hi
    have hT := spec_Touch_ev a b (setV l i v) (by rw [setV_len]; exact hl) i (by rw [setV_len]; exact hi) (fun j hj e => by
      rw [setV_key l i v hi j hj, setV_key l i v hi i (by rw [setV_len]; exact hi)] at e
      exact hk j (by rw [setV_len] at hj; exact hj) e)
    refine Ev.up (g := fun _ => some (a, b, touched a (setV l i v) i, [], true)) ((evA hA (evP hT)).eve fun k ⟨e1, e2⟩ => ?_) (Ev.now _)
    have e2' : spec_l11Touch.f k a b (l.set i ⟨(rd_T42 l (i : Int)).f0, v, (rd_T42 l (i : Int)).f2⟩) (i : Int) = some (a, b, touched a (setV l i v) i) := e2
    simp only [spec_RowPut.j0, Bool.false_eq_true, if_false, e1, (copy_ev a b l hl).2, Option.bind_some, Int.toNat_natCast, e2']
    rw [if_pos (by omega), if_pos (by omega), if_pos (by omega)]
theorem impl_RowPut_ev (a b : Int) (l : List IT) (hs : SmallI l) (x v : ByteArray) (hx : x.size ≤ 9223372036854775807) (hv : v.size ≤ 9223372036854775807) : Ev (fun k => impl_RowPut.f k a b l x v) (putV a b l x v) := by
  have hl := hs.1
  have hO := impl_RowOk_ev a b l hs
  have hI := impl_ItemOk_ev x v 0 hx hv
  have hA := impl_itemAt_ev l x hl
  have no : Ev (fun k => impl_RowPut.j0 k x v true a b l) (0, 0, [], [], false) := Ev.up (g := fun _ => some (0, 0, [], [], false)) (EvE.of fun k => by simp only [impl_RowPut.j0, if_true]) (Ev.now _)
  unfold putV
  by_cases c : rowOk a b l = true
  case neg =>
    rw [if_neg (fun q => c q.1)]
    refine (evA hO (evP no)).ev fun k ⟨e1, e2⟩ => ?_
    simp only [impl_RowPut.f, e1, Option.bind_some]; rw [if_neg c, e2]
  have hb := row_b c
  by_cases ci : itemOk x v 0 = true
  case neg =>
    rw [if_neg (fun q => ci q.2)]
    refine (evA hO (evA hI (evP no))).ev fun k ⟨e1, e2, e3⟩ => ?_
    have ci' : itemOk x v 0 = false := by simpa using ci
    simp only [impl_RowPut.f, e1, e2, Option.bind_some]; rw [if_pos c, ci', Bool.not_false, e3]
  rw [if_pos ⟨c, ci⟩]
  have go : ∀ r : PutT, Ev (fun k => impl_RowPut.j0 k x v false a b l) r → Ev (fun k => impl_RowPut.f k a b l x v) r := fun r hr => by
    refine (evA hO (evA hI (evP hr))).ev fun k ⟨e1, e2, e3⟩ => ?_
    simp only [impl_RowPut.f, e1, e2, Option.bind_some]; rw [if_pos c, ci, Bool.not_true, e3]
  refine go _ ?_
  by_cases d : atI l x < 0
  · rw [if_pos d]
    by_cases f : (l.length : Int) = b
    · rw [if_pos f]
      refine Ev.up ((evP hA).eve fun k e1 => ?_) (impl_loop a b [] x v (by simp) (ones l) l (by omega) (by omega) (Nat.le_refl _))
      simp only [impl_RowPut.j0, Bool.false_eq_true, if_false, e1, (copy_ev a b l hl).1, Option.bind_some]
      rw [if_neg (by omega), if_pos f]
    · rw [if_neg f]
      have hc := (copy_ev a b (l ++ [⟨x, v, 0⟩]) (by rw [List.length_append, List.length_singleton]; omega)).1
      refine Ev.up (g := fun _ => some (a, b, l ++ [⟨x, v, 0⟩], [], true)) ((evP hA).eve fun k e1 => ?_) (Ev.now _)
      simp only [impl_RowPut.j0, Bool.false_eq_true, if_false, e1, (copy_ev a b l hl).1, Option.bind_some, hc]
      rw [if_neg (by omega), if_neg f, if_pos (by omega)]
  · obtain ⟨i, e0, hi⟩ := at_lt l x d
    rw [if_neg d, e0, Int.toNat_natCast]
    rw [e0] at hA d
    have hT := impl_asked_ev a b (setV l i v) (by rw [setV_len]; exact hl) i (by rw [setV_len]; exact hi)
    have hT' : impl_Row_asked.f a b (l.set i ⟨(rd_T42 l (i : Int)).f0, v, (rd_T42 l (i : Int)).f2⟩) (i : Int) = some (touched a (setV l i v) i) := hT
    refine Ev.up (g := fun _ => some (a, b, touched a (setV l i v) i, [], true)) ((evP hA).eve fun k e1 => ?_) (Ev.now _)
    simp only [impl_RowPut.j0, Bool.false_eq_true, if_false, e1, (copy_ev a b l hl).1, Option.bind_some, Int.toNat_natCast, hT']
    rw [if_pos (by omega), if_pos (by omega), if_pos (by omega)]
theorem putV_len (a b : Int) (l : List IT) (x v : ByteArray) (hl : l.length ≤ 1048576) : (putV a b l x v).2.2.1.length ≤ 1048577 ∧ (putV a b l x v).2.2.2.1.length ≤ 1 := by
  unfold putV
  by_cases c : rowOk a b l = true ∧ itemOk x v 0 = true
  case neg => rw [if_neg c]; simp
  rw [if_pos c]
  have hb := row_b c.1
  by_cases d : atI l x < 0
  · rw [if_pos d]
    by_cases f : (l.length : Int) = b
    · rw [if_pos f]
      have := rot_len (ones l) l (by omega)
      unfold fin
      simp only [List.length_append, List.length_drop, List.length_singleton, List.length_nil]; omega
    · rw [if_neg f]; simp only [List.length_append, List.length_singleton, List.length_nil]; omega
  · rw [if_neg d]
    have := touched_len a (setV l (atI l x).toNat v) (atI l x).toNat
    rw [setV_len] at this
    simp only [List.length_nil]; omega
theorem FnExactRowPut : DFnExactRowPut.Pure := by
  intro a b l x v ha hb ⟨hl, hs⟩ hx hv
  by_cases c0 : (x.size : Int) > 1048576
  · exact ⟨0, by simp only [laws_FnExactRowPut.f]; rw [if_pos c0]⟩
  by_cases c00 : (v.size : Int) > 1048576
  · exact ⟨0, by simp only [laws_FnExactRowPut.f]; rw [if_neg c0, if_pos c00]⟩
  obtain ⟨t, ht, ht0, ht1⟩ := laws_szItemS_ev l 1048576 (by omega) (by omega) hl hs
  by_cases c1 : t < 0
  · obtain ⟨k, e⟩ := (evP ht).ex
    exact ⟨k, by simp only [laws_FnExactRowPut.f, laws_szRow.f, e, Option.bind_some]; rw [if_neg c0, if_neg c00, if_pos c1, Option.bind_some, if_pos (by omega)]⟩
  have hn := ht1 c1
  have hsm := small_cv l (by omega) hs
  have s1 := spec_RowPut_ev a b _ hsm x v (by omega) (by omega)
  have s2 := impl_RowPut_ev a b _ hsm x v (by omega) (by omega)
  have hml : (l.map cvI).length = l.length := List.length_map _
  obtain ⟨hw, hR⟩ := putV_len a b (l.map cvI) x v (by omega)
  generalize putV a b (l.map cvI) x v = W at s1 s2 hw hR
  obtain ⟨A, B, L, R, o⟩ := W
  simp only at hw hR
  have tr : Ev (fun k => laws_toRow.f k a b l) (a, b, l.map cvI) := (evP (laws_toItemS_ev l (by omega))).ev fun k e => by simp only [laws_toRow.f, e, Option.bind_some]
  have q0 := laws_eqRow_ev a b (l.map cvI) (by omega)
  have q := laws_eqRow_ev A B L (by omega)
  have qR := laws_eqStringS_ev R (by omega)
  obtain ⟨_, _, m0, _⟩ := laws_markRow_ev a b (l.map cvI) 1 (by omega) (by omega)
  obtain ⟨M, hM, m, d⟩ := laws_markRow_ev A B L 1 (by omega) (by omega)
  have tpos0 : ¬ (1 + 3 * ((l.map cvI).length : Int) < 0) := by omega
  generalize 1 + 3 * ((l.map cvI).length : Int) = t0 at m0 tpos0
  have tpos : 0 ≤ 1 + 3 * (L.length : Int) ∧ 1 + 3 * (L.length : Int) ≤ 4000000000 := by omega
  generalize 1 + 3 * (L.length : Int) = t1 at m d tpos
  obtain ⟨D, _, mR, dR⟩ := laws_markStringS_ev R t1 tpos.1 (by omega)
  have tp1 : ¬ t1 < 0 := by omega
  have tp2 : ¬ t1 + (R.length : Int) < 0 := by omega
  generalize t1 + (R.length : Int) = t2 at mR dR tp2
  have st2 : Ev (fun k => laws_FnExactRowPut.j2 k D t2 false A B M) true := by
    refine Ev.up (g := fun _ => some true) ((evA (d A B) (evP dR)).eve fun k ⟨e1, e2⟩ => ?_) (Ev.now _)
    simp only [laws_FnExactRowPut.j2, Bool.false_eq_true, if_false, e1, e2, Option.bind_some, if_true]
    rw [if_neg tp1, if_neg tp2]
  have st1 : Ev (fun k => laws_FnExactRowPut.j1 k x v R o R false a b l A B L A B L) true := by
    refine Ev.up (g := fun k => laws_FnExactRowPut.j2 k D t2 false A B M) ((evA m (evA mR (evA (d A B) (evA dR (evA tr (evA s2 (evA q (evP qR)))))))).eve fun k ⟨e1, e2, e3, e4, e5, e6, e7, e8⟩ => ?_) st2
    simp only [laws_FnExactRowPut.j1, Bool.false_eq_true, if_false, e1, e2, e3, e4, e5, e6, e7, e8, Option.bind_some, if_true, bne_self_eq_false, eq_self]
    rw [if_neg tp1, if_neg tp2]
  have st0 : Ev (fun k => laws_FnExactRowPut.j0 k x v R o R o false a b l A B L a b (l.map cvI) A B L) true := by
    refine Ev.up (g := fun k => laws_FnExactRowPut.j1 k x v R o R false a b l A B L A B L) ((evA tr (evA q0 (evA m0 (evA q (evP qR))))).eve fun k ⟨e1, e2, e3, e4, e5⟩ => ?_) st1
    simp only [laws_FnExactRowPut.j0, Bool.false_eq_true, if_false, e1, e2, e3, e4, e5, Option.bind_some, if_true, bne_self_eq_false, eq_self]
    rw [if_neg tpos0]
  obtain ⟨k, e0, e1, e2, e3, e4, e5, e6⟩ := (evA ht (evA tr (evA s1 (evA s2 (evA q (evA qR (evP st0))))))).ex
  exact ⟨k, by simp only [laws_FnExactRowPut.f, laws_szRow.f, e0, e1, e2, e3, e4, e5, e6, Option.bind_some, if_neg c0, if_neg c00, if_neg c1, if_true, bne_self_eq_false, eq_self]⟩
end Go.Proofs.Ytmmphfonbeddeaa.Pure
