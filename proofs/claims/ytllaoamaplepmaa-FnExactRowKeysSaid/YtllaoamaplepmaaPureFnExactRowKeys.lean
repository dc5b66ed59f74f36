/- The program's RowKeys and the reference's tell the same, for all rows. No condition. -/
import Derived.Test.YtllaoamaplepmaaDFnExactRowKeys
import Derived.Test.YtllaoamaplepmaaLm
namespace Go.Proofs.Ytllaoamaplepmaa.Pure
open Go.RowKit Go.Proofs.Ytllaoamaplepmaa.QFnExactRowKeys Go.Proofs.YtllaoamaplepmaaW.PrintWords Go.Proofs.YtllaoamaplepmaaW.PrintLast Go.Proofs.YtllaoamaplepmaaW.PrintMore Go.Proofs.Ytllaoamaplepmaa.Lm
set_option linter.unusedSimpArgs false
set_option linter.unusedVariables false
theorem spec_l10Clean_ev (s : ByteArray) (hs : s.size ≤ 9223372036854775807) : Ev (fun k => spec_l10Clean.f k s) (plain (bytesOf s)) := by
  have := Ev.scan (l := fun k (_ : Unit) i => spec_l10Clean.l0 k s i) s.size (fun _ _ => True) (fun i _ => plain ((bytesOf s).drop i)) ?_ ?_ 0 () (Nat.zero_le _) trivial
  · simpa [spec_l10Clean.f] using this
  · intro _ _
    exact Ev.some_ fun k => by simp only [spec_l10Clean.l0]; rw [if_neg (by omega)]; simp [plain, ← bytesOf_length]
  · intro i _ hi _
    have hd := drop_bt s i hi
    have hl : ∀ k, spec_l10Clean.l0 (k + 1) s (i : Int) = if bt s (i : Int) = 32 then some false else if bt s (i : Int) = 10 then some false else spec_l10Clean.l0 k s ((i + 1 : Nat) : Int) := fun k => by
      simp only [spec_l10Clean.l0]; rw [if_pos (by omega), if_pos (by omega), w64s hi hs]
    by_cases h1 : bt s (i : Int) = 32
    · exact .inl (Ev.some_ fun k => by simp only [hl]; rw [if_pos h1, hd, h1]; rfl)
    · by_cases h2 : bt s (i : Int) = 10
      · exact .inl (Ev.some_ fun k => by simp only [hl]; rw [if_neg h1, if_pos h2, hd, h2]; rfl)
      · exact .inr ⟨(), trivial, by rw [hd]; simp [plain, h1, h2], EvE.of fun k => by simp only [hl]; rw [if_neg h1, if_neg h2]⟩
theorem impl_isPlain_ev (s : ByteArray) (hs : s.size ≤ 9223372036854775807) : Ev (fun k => impl_isPlain.f k s) (plain (bytesOf s)) := by
  have := Ev.scan (l := fun k (_ : Unit) i => impl_isPlain.l0 k s i) s.size (fun _ _ => True) (fun i _ => plain ((bytesOf s).drop i)) ?_ ?_ 0 () (Nat.zero_le _) trivial
  · simpa [impl_isPlain.f] using this
  · intro _ _
    exact Ev.some_ fun k => by simp only [impl_isPlain.l0]; rw [if_neg (by omega)]; simp [plain, ← bytesOf_length]
  · intro i _ hi _
    have hd := drop_bt s i hi
    have hl : ∀ k, impl_isPlain.l0 (k + 1) s (i : Int) = if bt s (i : Int) = 32 then some false else if bt s (i : Int) = 10 then some false else impl_isPlain.l0 k s ((i + 1 : Nat) : Int) := fun k => by
      simp only [impl_isPlain.l0]; rw [if_pos (by omega), if_pos (by omega), w64s hi hs]
    by_cases h1 : bt s (i : Int) = 32
    · exact .inl (Ev.some_ fun k => by simp only [hl]; rw [if_pos h1, hd, h1]; rfl)
    · by_cases h2 : bt s (i : Int) = 10
      · exact .inl (Ev.some_ fun k => by simp only [hl]; rw [if_neg h1, if_pos h2, hd, h2]; rfl)
      · exact .inr ⟨(), trivial, by rw [hd]; simp [plain, h1, h2], EvE.of fun k => by simp only [hl]; rw [if_neg h1, if_neg h2]⟩
theorem spec_ItemOk_ev (a b : ByteArray) (f : Int) (ha : a.size ≤ 9223372036854775807) (hb : b.size ≤ 9223372036854775807) : Ev (fun k => spec_ItemOk.f k a b f) (itemOk a b f) := by
  obtain ⟨K1, h1⟩ := spec_l10Clean_ev a ha
  obtain ⟨K2, h2⟩ := spec_l10Clean_ev b hb
  refine ⟨max K1 K2, fun k hk => ?_⟩
  have e1 := h1 k (by omega)
  have e2 := h2 k (by omega)
  by_cases c1 : 1 ≤ (a.size : Int) <;> by_cases c2 : (a.size : Int) ≤ 20 <;> by_cases c3 : (b.size : Int) ≤ 40 <;> by_cases c4 : 0 ≤ f <;> by_cases c5 : f ≤ 3 <;> cases p1 : plain (bytesOf a) <;> cases p2 : plain (bytesOf b) <;>
    simp only [spec_ItemOk.f, spec_l01In.f, e1, e2, Option.bind_some, itemOk, ge_iff_le, c1, c2, c3, c4, c5, p1, p2, if_true, if_false, decide_true, decide_false, Bool.and_true, Bool.true_and, Bool.false_and, Bool.and_false, Bool.false_eq_true]
theorem impl_ItemOk_ev (a b : ByteArray) (f : Int) (ha : a.size ≤ 9223372036854775807) (hb : b.size ≤ 9223372036854775807) : Ev (fun k => impl_ItemOk.f k a b f) (itemOk a b f) := by
  obtain ⟨K1, h1⟩ := impl_isPlain_ev a ha
  obtain ⟨K2, h2⟩ := impl_isPlain_ev b hb
  refine ⟨max K1 K2, fun k hk => ?_⟩
  have e1 := h1 k (by omega)
  have e2 := h2 k (by omega)
  by_cases c1 : 1 ≤ (a.size : Int) <;> by_cases c2 : (a.size : Int) ≤ 20 <;> by_cases c3 : (b.size : Int) ≤ 40 <;> by_cases c4 : 0 ≤ f <;> by_cases c5 : f ≤ 3 <;> cases p1 : plain (bytesOf a) <;> cases p2 : plain (bytesOf b) <;>
    simp only [impl_ItemOk.f, impl_within.f, e1, e2, Option.bind_some, itemOk, ge_iff_le, c1, c2, c3, c4, c5, p1, p2, if_true, if_false, decide_true, decide_false, Bool.and_true, Bool.true_and, Bool.false_and, Bool.and_false, Bool.false_eq_true]
theorem drop_I (l : List S84) (i : Nat) (h : i < l.length) : l.drop i = rd_T84 l (i : Int) :: l.drop (i + 1) := by
  unfold rd_T84; rw [Int.toNat_natCast]; exact drop_cons _ l i h
/-- Where a key's item is. -/
def atI (l : List S84) (key : ByteArray) : Int := if l.any (fun x => decide (x.f0 = key)) then ((l.findIdx (fun x => decide (x.f0 = key)) : Nat) : Int) else -1
def okI (l : List S84) (i : Nat) : Bool := itemOk (rd_T84 l (i : Int)).f0 (rd_T84 l (i : Int)).f1 (rd_T84 l (i : Int)).f2 && decide (atI l (rd_T84 l (i : Int)).f0 = (i : Int))
/-- Items are right, and no two have one key. -/
def areI (l : List S84) : Bool := allN l.length (okI l)
/-- The texts of items are no longer than texts are. -/
def SmallI (l : List S84) : Prop := l.length ≤ 1048576 ∧ ∀ x ∈ l, x.f0.size ≤ 9223372036854775807 ∧ x.f1.size ≤ 9223372036854775807
theorem SmallI.at {l : List S84} (h : SmallI l) (i : Nat) (hi : i < l.length) : (rd_T84 l (i : Int)).f0.size ≤ 9223372036854775807 ∧ (rd_T84 l (i : Int)).f1.size ≤ 9223372036854775807 :=
  h.2 _ (by unfold rd_T84; rw [Int.toNat_natCast]; exact getD_mem _ l i hi)
theorem spec_l10At_ev (l : List S84) (x : ByteArray) (hl : l.length ≤ 1048576) : Ev (fun k => spec_l10At.f k l x) (atI l x) := by
  have key := Ev.scan (fun k (_ : Unit) i => spec_l10At.l0 k x l (l.length : Int) i) l.length (fun _ _ => True) (fun i _ => if (l.drop i).any (fun y => decide (y.f0 = x)) then (((l.drop i).findIdx (fun y => decide (y.f0 = x)) + i : Nat) : Int) else -1)
    (fun _ _ => Ev.some_ fun k => by simp only [spec_l10At.l0]; rw [if_neg (by omega), List.drop_eq_nil_of_le (Nat.le_refl _)]; rfl)
    (fun i _ hi _ => by
      have hd := drop_I l i hi
      have hs : ∀ k, spec_l10At.l0 (k + 1) x l (l.length : Int) (i : Int) = if (rd_T84 l (i : Int)).f0 = x then some (i : Int) else spec_l10At.l0 k x l (l.length : Int) ((i + 1 : Nat) : Int) := fun k => by
        simp only [spec_l10At.l0, toList_inj]; rw [if_pos (by omega), if_pos (by omega), if_pos (by omega), w64s hi (by omega)]
      rw [hd, List.any_cons, List.findIdx_cons]
      by_cases c : (rd_T84 l (i : Int)).f0 = x
      · exact .inl (Ev.some_ fun k => by simp only [hs]; rw [if_pos c, decide_eq_true c]; simp)
      · exact .inr ⟨(), trivial, by
          rw [decide_eq_false c]; simp only [Bool.false_or, cond_false]
          split <;> omega, EvE.of fun k => by simp only [hs]; rw [if_neg c]⟩) 0 () (Nat.zero_le _) trivial
  simpa [spec_l10At.f, atI] using key
theorem impl_itemAt_ev (l : List S84) (x : ByteArray) (hl : l.length ≤ 1048576) : Ev (fun k => impl_itemAt.f k l x) (atI l x) := by
  have key := Ev.scan (fun k (_ : Unit) i => impl_itemAt.l0 k x l (l.length : Int) i) l.length (fun _ _ => True) (fun i _ => if (l.drop i).any (fun y => decide (y.f0 = x)) then (((l.drop i).findIdx (fun y => decide (y.f0 = x)) + i : Nat) : Int) else -1)
    (fun _ _ => Ev.some_ fun k => by simp only [impl_itemAt.l0]; rw [if_neg (by omega), List.drop_eq_nil_of_le (Nat.le_refl _)]; rfl)
    (fun i _ hi _ => by
      have hd := drop_I l i hi
      have hs : ∀ k, impl_itemAt.l0 (k + 1) x l (l.length : Int) (i : Int) = if (rd_T84 l (i : Int)).f0 = x then some (i : Int) else impl_itemAt.l0 k x l (l.length : Int) ((i + 1 : Nat) : Int) := fun k => by
        simp only [impl_itemAt.l0, toList_inj]; rw [if_pos (by omega), if_pos (by omega), if_pos (by omega), w64s hi (by omega)]
      rw [hd, List.any_cons, List.findIdx_cons]
      by_cases c : (rd_T84 l (i : Int)).f0 = x
      · exact .inl (Ev.some_ fun k => by simp only [hs]; rw [if_pos c, decide_eq_true c]; simp)
      · exact .inr ⟨(), trivial, by
          rw [decide_eq_false c]; simp only [Bool.false_or, cond_false]
          split <;> omega, EvE.of fun k => by simp only [hs]; rw [if_neg c]⟩) 0 () (Nat.zero_le _) trivial
  simpa [impl_itemAt.f, atI] using key
theorem impl_areItems_ev (l : List S84) (hl : SmallI l) : Ev (fun k => impl_areItems.f k l) (areI l) := by
  have key := Ev.asks (fun k i => impl_areItems.l0 k l l (l.length : Int) i) l.length (okI l) true
    (Ev.some_ fun k => by simp only [impl_areItems.l0]; rw [if_neg (by omega)])
    (fun i hi hp => by
      have hb := hl.at i hi
      have h1 := impl_ItemOk_ev (rd_T84 l (i : Int)).f0 (rd_T84 l (i : Int)).f1 (rd_T84 l (i : Int)).f2 hb.1 hb.2
      refine (evA h1 (evP (impl_itemAt_ev l (rd_T84 l (i : Int)).f0 hl.1))).ev fun k ⟨e1, e2⟩ => ?_
      simp only [impl_areItems.l0, e1, e2, Option.bind_some]
      rw [if_pos (by have := hl.1; omega), if_pos (by omega), if_pos (by have := hl.1; omega)]
      unfold okI at hp
      cases c : itemOk (rd_T84 l (i : Int)).f0 (rd_T84 l (i : Int)).f1 (rd_T84 l (i : Int)).f2 with
      | false => rw [if_neg (by simp)]
      | true => rw [c, Bool.true_and] at hp; rw [if_pos rfl, if_neg (of_decide_eq_false hp)])
    (fun i hi hp => by
      have hb := hl.at i hi
      have hw := hl.1
      have h1 := impl_ItemOk_ev (rd_T84 l (i : Int)).f0 (rd_T84 l (i : Int)).f1 (rd_T84 l (i : Int)).f2 hb.1 hb.2
      unfold okI at hp
      simp only [Bool.and_eq_true, decide_eq_true_eq] at hp
      rw [hp.1] at h1
      refine (evA h1 (evP (impl_itemAt_ev l (rd_T84 l (i : Int)).f0 hl.1))).eve fun k ⟨e1, e2⟩ => ?_
      simp only [impl_areItems.l0, e1, e2, Option.bind_some, if_true]
      rw [if_pos (by omega), if_pos (by omega), if_pos (by omega), if_pos hp.2, w64s hi (by omega)])
  rw [Bool.and_true] at key
  simpa [impl_areItems.f, areI] using key
def mostF (a : Int) : Int := if a = 3 then 1 else 0
def freqI (m : Int) (l : List S84) (i : Nat) : Bool := decide (0 ≤ (rd_T84 l (i : Int)).f2) && decide ((rd_T84 l (i : Int)).f2 ≤ m)
/-- A row is right. -/
def rowOk (a b : Int) (l : List S84) : Bool := decide (1 ≤ a ∧ a ≤ 3) && decide (1 ≤ b ∧ b ≤ 60) && decide ((l.length : Int) ≤ b) && (allN l.length (freqI (mostF a) l) && areI l)
theorem impl_RowOk_l0 (m a b : Int) (l : List S84) (hl : SmallI l) : Ev (fun k => impl_RowOk.l0 k m l (l.length : Int) 0 a b l) (allN l.length (freqI m l) && (decide (1 ≤ a ∧ a ≤ 3) && decide (1 ≤ b ∧ b ≤ 60) && decide ((l.length : Int) ≤ b) && areI l)) := by
  have hw := hl.1
  refine Ev.asks (fun k i => impl_RowOk.l0 k m l (l.length : Int) i a b l) l.length (freqI m l) _ ?_ ?_ ?_
  · refine (evP (impl_areItems_ev l hl)).ev fun k e => ?_
    simp only [impl_RowOk.l0, e, impl_within.f, Option.bind_some]
    rw [if_neg (by omega)]
    by_cases c1 : 1 ≤ a
    · rw [if_pos (by omega), Option.bind_some]
      by_cases c2 : a ≤ 3
      · rw [if_pos (decide_eq_true c2)]
        by_cases c3 : 1 ≤ b
        · rw [if_pos (by omega), Option.bind_some]
          by_cases c4 : b ≤ 60
          · rw [if_pos (decide_eq_true c4)]
            by_cases c5 : (l.length : Int) ≤ b
            · rw [if_pos c5]; simp [c1, c2, c3, c4, c5]
            · rw [if_neg c5]; simp [c5]
          · rw [if_neg (by simp [c4])]; simp [c4]
        · rw [if_neg (by omega), Option.bind_some, if_neg (by simp)]; simp [c3]
      · rw [if_neg (by simp [c2])]; simp [c2]
    · rw [if_neg (by omega), Option.bind_some, if_neg (by simp)]; simp [c1]
  · intro i hi hp
    refine Ev.some_ fun k => ?_
    simp only [impl_RowOk.l0, impl_within.f]
    rw [if_pos (by omega), if_pos (by omega), if_pos (by omega)]
    unfold freqI at hp
    by_cases c : (rd_T84 l (i : Int)).f2 ≥ 0
    · rw [if_pos c, Option.bind_some, if_neg]; rw [decide_eq_true c, Bool.true_and] at hp; rw [hp]; simp
    · rw [if_neg c, Option.bind_some, if_neg (by simp)]
  · intro i hi hp
    refine EvE.of fun k => ?_
    unfold freqI at hp
    simp only [Bool.and_eq_true, decide_eq_true_eq] at hp
    simp only [impl_RowOk.l0, impl_within.f]
    rw [if_pos (by omega), if_pos (by omega), if_pos (by omega), if_pos (show (rd_T84 l (i : Int)).f2 ≥ 0 from hp.1), Option.bind_some, if_pos (decide_eq_true hp.2), w64s hi (by omega)]
theorem impl_RowOk_ev (a b : Int) (l : List S84) (hl : SmallI l) : Ev (fun k => impl_RowOk.f k a b l) (rowOk a b l) := by
  have e : rowOk a b l = (allN l.length (freqI (mostF a) l) && (decide (1 ≤ a ∧ a ≤ 3) && decide (1 ≤ b ∧ b ≤ 60) && decide ((l.length : Int) ≤ b) && areI l)) := by
    unfold rowOk
    generalize allN l.length (freqI (mostF a) l) = x
    generalize (decide (1 ≤ a ∧ a ≤ 3) && decide (1 ≤ b ∧ b ≤ 60) && decide ((l.length : Int) ≤ b)) = y
    generalize areI l = z
    cases x <;> cases y <;> cases z <;> rfl
  rw [e]
  by_cases c : a = 3
  · refine Ev.congr (fun k => ?_) (Ev.up (f := fun k => impl_RowOk.j0 k (mostF a) a b l) (EvE.of fun k => by simp only [impl_RowOk.j0]) (impl_RowOk_l0 (mostF a) a b l hl))
    simp only [impl_RowOk.f]; rw [if_pos c]; unfold mostF; rw [if_pos c]
  · refine Ev.congr (fun k => ?_) (Ev.up (f := fun k => impl_RowOk.j0 k (mostF a) a b l) (EvE.of fun k => by simp only [impl_RowOk.j0]) (impl_RowOk_l0 (mostF a) a b l hl))
    simp only [impl_RowOk.f]; rw [if_neg c]; unfold mostF; rw [if_neg c]
theorem spec_RowOk_l0 (a b : Int) (l : List S84) (hl : SmallI l) : Ev (fun k => spec_RowOk.l0 k l (l.length : Int) 0 a b l) (allN l.length (fun i => freqI (mostF a) l i && okI l i) && true) := by
  have hw := hl.1
  refine Ev.asks (fun k i => spec_RowOk.l0 k l (l.length : Int) i a b l) l.length _ _ ?_ ?_ ?_
  · exact Ev.some_ fun k => by simp only [spec_RowOk.l0]; rw [if_neg (by omega)]
  · intro i hi hp
    have hb := hl.at i hi
    have h1 := spec_ItemOk_ev (rd_T84 l (i : Int)).f0 (rd_T84 l (i : Int)).f1 (rd_T84 l (i : Int)).f2 hb.1 hb.2
    refine (evA h1 (evP (spec_l10At_ev l (rd_T84 l (i : Int)).f0 hl.1))).ev fun k ⟨e1, e2⟩ => ?_
    simp only [spec_RowOk.l0, e1, e2, Option.bind_some]
    rw [if_pos (by omega), if_pos (by omega), if_pos (by omega)]
    unfold okI freqI mostF at hp
    cases c : itemOk (rd_T84 l (i : Int)).f0 (rd_T84 l (i : Int)).f1 (rd_T84 l (i : Int)).f2 with
    | false => rw [if_neg (by simp)]
    | true =>
      rw [if_pos rfl]
      have hs := itemOk_sizes c
      rw [c, Bool.true_and] at hp
      by_cases c2 : atI l (rd_T84 l (i : Int)).f0 = (i : Int)
      · rw [if_pos c2]
        rw [decide_eq_true c2, Bool.and_true, decide_eq_true hs.2.2.2.1, Bool.true_and] at hp
        have hp := of_decide_eq_false hp
        by_cases c3 : (rd_T84 l (i : Int)).f2 > 1
        · rw [if_pos c3]
        · rw [if_neg c3]
          by_cases c4 : a = 3
          · rw [if_pos c4] at hp; omega
          · rw [if_neg c4] at hp; rw [if_pos (by omega), if_neg c4]
      · rw [if_neg c2]
  · intro i hi hp
    have hb := hl.at i hi
    have h1 := spec_ItemOk_ev (rd_T84 l (i : Int)).f0 (rd_T84 l (i : Int)).f1 (rd_T84 l (i : Int)).f2 hb.1 hb.2
    unfold okI freqI mostF at hp
    simp only [Bool.and_eq_true, decide_eq_true_eq] at hp
    rw [hp.2.1] at h1
    refine (evA h1 (evP (spec_l10At_ev l (rd_T84 l (i : Int)).f0 hl.1))).eve fun k ⟨e1, e2⟩ => ?_
    simp only [spec_RowOk.l0, e1, e2, Option.bind_some, if_true]
    rw [if_pos (by omega), if_pos (by omega), if_pos (by omega), if_pos hp.2.2, w64s hi (by omega)]
    have h12 := hp.1.2
    by_cases c4 : a = 3
    · rw [if_pos c4] at h12
      rw [if_neg (by omega)]
      by_cases c5 : (rd_T84 l (i : Int)).f2 = 1
      · rw [if_pos c5, if_pos c4]
      · rw [if_neg c5]
    · rw [if_neg c4] at h12
      rw [if_neg (by omega), if_neg (by omega)]
theorem spec_RowOk_ev (a b : Int) (l : List S84) (hl : SmallI l) : Ev (fun k => spec_RowOk.f k a b l) (rowOk a b l) := by
  have hj : ∀ x : Bool, Ev (fun k => spec_RowOk.j0 k x a b l) (!x && (allN l.length (freqI (mostF a) l) && areI l)) := fun x => by
    cases x with
    | true => exact Ev.up (g := fun _ => some false) (EvE.of fun k => by simp only [spec_RowOk.j0, if_true]) (Ev.now _)
    | false =>
      have h := spec_RowOk_l0 a b l hl
      rw [Bool.and_true] at h
      unfold areI
      unfold allN at h ⊢
      rw [← all_and]
      exact Ev.up (g := fun k => spec_RowOk.l0 k l (l.length : Int) 0 a b l) (EvE.of fun k => by simp only [spec_RowOk.j0, Bool.false_eq_true, if_false]) (by simpa using h)
  have hd : decide ((l.length : Int) ≤ b) = !decide ((l.length : Int) > b) := by
    by_cases c : (l.length : Int) ≤ b
    · rw [decide_eq_true c, decide_eq_false (by omega)]; rfl
    · rw [decide_eq_false c, decide_eq_true (by omega)]; rfl
  have h0 : Ev (fun k => spec_RowOk.j0 k true a b l) false := by simpa using hj true
  by_cases c1 : 1 ≤ a
  · by_cases c2 : a ≤ 3
    · by_cases c3 : 1 ≤ b
      · by_cases c4 : b ≤ 60
        · unfold rowOk
          rw [decide_eq_true ⟨c1, c2⟩, decide_eq_true ⟨c3, c4⟩, hd, Bool.true_and, Bool.true_and]
          refine Ev.ofE (EvE.of fun k => ?_) (hj (decide ((l.length : Int) > b)))
          simp only [spec_RowOk.f, spec_l01In.f]
          rw [if_neg (by omega), if_neg (by omega), if_pos (by omega), Option.bind_some, if_pos (decide_eq_true c4)]
        · rw [show rowOk a b l = false by unfold rowOk; simp [c4]]
          refine Ev.ofE (EvE.of fun k => ?_) h0
          simp only [spec_RowOk.f, spec_l01In.f]
          rw [if_neg (by omega), if_neg (by omega), if_pos (by omega), Option.bind_some, if_neg (by simp [c4])]
      · rw [show rowOk a b l = false by unfold rowOk; simp [c3]]
        refine Ev.ofE (EvE.of fun k => ?_) h0
        simp only [spec_RowOk.f, spec_l01In.f]
        rw [if_neg (by omega), if_neg (by omega), if_neg (by omega), Option.bind_some, if_neg (by simp)]
    · rw [show rowOk a b l = false by unfold rowOk; simp [c2]]
      refine Ev.ofE (EvE.of fun k => ?_) h0
      simp only [spec_RowOk.f]
      rw [if_neg (by omega), if_pos (by omega)]
  · rw [show rowOk a b l = false by unfold rowOk; simp [c1]]
    refine Ev.ofE (EvE.of fun k => ?_) h0
    simp only [spec_RowOk.f]
    rw [if_pos (by omega)]
/-- A law's item as the program's. -/
def cvI (x : S100) : S84 := ⟨x.f0, x.f1, x.f2⟩
theorem rd_cv (l : List S100) (i : Nat) : rd_T100 l (i : Int) = l.getD i z100 := by unfold rd_T100; rw [Int.toNat_natCast]
theorem laws_toItemS_ev (l : List S100) (h : l.length ≤ 1048576) : Ev (fun k => laws_toItemS.f k l) (l.map cvI) := by
  have hl := map_loop cvI z100 (fun k s i => laws_toItemS.l0 k l s i) l (fun s hs => Ev.some_ fun k => by simp only [laws_toItemS.l0]; rw [if_neg (by omega)]) (fun i s hi hs => EvE.of fun k => by
    simp only [laws_toItemS.l0, laws_toItem.f, Option.bind_some, rd_cv]; rw [if_pos (by omega), if_pos (by omega), if_pos (by omega), w64s hi (by omega), Int.toNat_natCast]; rfl) (List.replicate l.length z84) (by simp)
  refine Ev.congr (fun k => ?_) hl
  simp only [laws_toItemS.f, Int.toNat_natCast]
  rw [if_pos (by omega), if_pos (by omega)]
theorem small_cv (l : List S100) (h : l.length ≤ 1048576) (hs : ∀ x ∈ l, DFnExactRowKeys.g100 x) : SmallI (l.map cvI) := by
  refine ⟨by simpa using h, fun x hx => ?_⟩
  obtain ⟨y, hy, rfl⟩ := List.mem_map.1 hx
  have := hs y hy
  exact ⟨this.1, this.2.1⟩
theorem laws_szItemS_ev (l : List S100) (n : Int) (hn0 : 0 ≤ n) (hn : n ≤ 1048576) (h : l.length ≤ maxLen) (hs : ∀ x ∈ l, DFnExactRowKeys.g100 x) :
    ∃ t, Ev (fun k => laws_szItemS.f k l n) t ∧ t ≤ n ∧ (¬ t < 0 → t + (l.length : Int) ≤ n) := by
  unfold maxLen at h
  by_cases c : n - (l.length : Int) < 0
  · refine ⟨-1, Ev.some_ fun k => ?_, by omega, by omega⟩
    simp only [laws_szItemS.f]; rw [w64 (by omega) (by omega), if_pos c]
  · obtain ⟨r, hp, hr⟩ := Ev.scanX (fun k m i => laws_szItemS.l0 k l m i) l.length (fun _ m => 0 ≤ m ∧ m ≤ n - (l.length : Int)) (fun r => r ≤ n - (l.length : Int))
      (fun m hm => ⟨m, by omega, Ev.some_ fun k => by simp only [laws_szItemS.l0]; rw [if_neg (by omega)]⟩)
      (fun i m hi hm => by
        have hg := hs _ (by show rd_T100 l (i : Int) ∈ l; rw [rd_cv]; exact getD_mem _ l i hi)
        have h1 : (rd_T100 l (i : Int)).f0.size ≤ 9223372036854775807 := hg.1
        have h2 : (rd_T100 l (i : Int)).f1.size ≤ 9223372036854775807 := hg.2.1
        have hi9 : l.length ≤ 9223372036854775807 := by omega
        by_cases c1 : m - ((rd_T100 l (i : Int)).f0.size : Int) < 0
        · refine .inl ⟨-1, by omega, Ev.some_ fun k => ?_⟩
          simp only [laws_szItemS.l0, laws_szItem.f]
          rw [if_pos (by omega), if_pos (by omega), w64 (x := m - _) (by omega) (by omega), if_pos c1, Option.bind_some, if_pos (by omega)]
        · by_cases c2 : m - ((rd_T100 l (i : Int)).f0.size : Int) - ((rd_T100 l (i : Int)).f1.size : Int) < 0
          · refine .inl ⟨-1, by omega, Ev.some_ fun k => ?_⟩
            simp only [laws_szItemS.l0, laws_szItem.f]
            rw [if_pos (by omega), if_pos (by omega), w64 (x := m - _) (by omega) (by omega), if_neg c1, w64 (by omega) (by omega), if_pos c2, Option.bind_some, if_pos (by omega)]
          · refine .inr ⟨m - ((rd_T100 l (i : Int)).f0.size : Int) - ((rd_T100 l (i : Int)).f1.size : Int), by omega, EvE.of fun k => ?_⟩
            simp only [laws_szItemS.l0, laws_szItem.f]
            rw [if_pos (by omega), if_pos (by omega), w64 (x := m - _) (by omega) (by omega), if_neg c1, w64 (by omega) (by omega), if_neg c2, Option.bind_some, if_neg c2, w64s hi hi9]) 0 (n - (l.length : Int)) (Nat.zero_le _) (by omega)
    refine ⟨r, ?_, by omega, fun _ => by omega⟩
    refine Ev.congr (fun k => ?_) hr
    simp only [laws_szItemS.f]; rw [w64 (by omega) (by omega), if_neg c] <;> rfl
theorem laws_eqItemS_ev (l : List S84) (h : l.length ≤ 9223372036854775807) : Ev (fun k => laws_eqItemS.f k l l) true := by
  refine Ev.congr (fun k => ?_) (all_loop (fun k i => laws_eqItemS.l0 k l l i) l.length (Ev.some_ fun k => by simp only [laws_eqItemS.l0]; rw [if_neg (by omega)]) (fun i hi => EvE.of fun k => by
    simp only [laws_eqItemS.l0, laws_eqItem.f, if_true, Option.bind_some]; rw [if_pos (by omega), if_pos (by omega), if_pos (by omega), w64s hi h]))
  simp only [laws_eqItemS.f]; rw [if_pos trivial]
theorem laws_eqRow_ev (a b : Int) (l : List S84) (h : l.length ≤ 9223372036854775807) : Ev (fun k => laws_eqRow.f k a b l a b l) true :=
  (evP (laws_eqItemS_ev l h)).ev fun k e => by simp only [laws_eqRow.f, e, if_true, Option.bind_some]
theorem strOfNums_one (x : Int) : (strOfNums [x]).size = 1 := rfl
theorem laws_markText_l0 : ∀ (d n : Nat) (s : ByteArray), n < 10 ^ d → n ≤ 9223372036854775807 → d ≤ 30 → s.size + d ≤ 1000 → ∃ r, Ev (fun k => laws_markText.l0 k (n : Int) s) r := by
  intro d
  induction d with
  | zero =>
    intro n s hn big hd hs
    refine ⟨(⟨#[109]⟩ : ByteArray) ++ s, Ev.up (g := fun _ => some _) (EvE.of fun k => ?_) (Ev.now _)⟩
    simp only [laws_markText.l0]
    rw [if_neg (by simp at hn; omega), if_pos (by omega)]
  | succ d ih =>
    intro n s hn big hd hs
    by_cases c : n = 0
    · refine ⟨(⟨#[109]⟩ : ByteArray) ++ s, Ev.up (g := fun _ => some _) (EvE.of fun k => ?_) (Ev.now _)⟩
      simp only [laws_markText.l0]
      rw [if_neg (by omega), if_pos (by omega)]
    · obtain ⟨r, hr⟩ := ih (n / 10) (strOfNums [((48 + n % 10 : Nat) : Int)] ++ s) (by rw [Nat.pow_succ] at hn; omega) (by omega) (by omega) (by rw [ByteArray.size_append, strOfNums_one]; omega)
      refine ⟨r, Ev.up (EvE.of fun k => ?_) hr⟩
      have e1 : wrap64 (Int.tdiv (n : Int) 10) = ((n / 10 : Nat) : Int) := by rw [Int.tdiv_eq_ediv_of_nonneg (by omega), w64 (by omega) (by omega)]; omega
      have e2 : wrap64 (48 + (Int.tmod (n : Int) 10)) % 256 = ((48 + n % 10 : Nat) : Int) := by rw [Int.tmod_eq_emod_of_nonneg (by omega), w64 (by omega) (by omega)]; omega
      simp only [laws_markText.l0, e1, e2]
      rw [if_pos (by omega), Option.bind_some, if_pos (by rw [strOfNums_one]; omega)]
theorem laws_markText_ev (n : Int) (hn : n ≤ 4294967295) : ∃ r, Ev (fun k => laws_markText.f k n) r := by
  by_cases c : n ≤ 0
  · exact ⟨_, Ev.some_ fun k => by simp only [laws_markText.f]; rw [if_pos c]⟩
  · obtain ⟨r, h⟩ := laws_markText_l0 10 n.toNat (⟨#[]⟩ : ByteArray) (by omega) (by omega) (by omega) (by show 0 + 10 ≤ 1000; omega)
    rw [Int.toNat_of_nonneg (by omega)] at h
    exact ⟨r, Ev.ofE (EvE.of fun k => by simp only [laws_markText.f]; rw [if_neg c]) h⟩
theorem rdI_set (s : List S84) (i : Nat) (x : S84) (h : i < s.length) : rd_T84 (s.set i x) (i : Int) = x := by
  unfold rd_T84; rw [Int.toNat_natCast, List.getD_eq_getElem?_getD, List.getElem?_set_self h]; rfl
def itemsM (mt : Int → ByteArray) (n : Int) (len : Nat) : List S84 := (List.range len).map fun i : Nat => (⟨mt (n + 3 * (i : Int)), mt (n + 3 * (i : Int) + 1), n + 3 * (i : Int) + 2⟩ : S84)
theorem rd_itemsM (mt : Int → ByteArray) (n : Int) (len i : Nat) (h : i < len) : rd_T84 (itemsM mt n len) (i : Int) = (⟨mt (n + 3 * (i : Int)), mt (n + 3 * (i : Int) + 1), n + 3 * (i : Int) + 2⟩ : S84) := by
  unfold rd_T84 itemsM; rw [Int.toNat_natCast]; simp [h]
theorem laws_markItemS1_ev (l : List S84) (n : Int) (h0 : 0 ≤ n) (h : n + 3 * (l.length : Int) ≤ 4294967295) : ∃ M : List S84, M.length = l.length ∧ Ev (fun k => laws_markItemS.f k l n) (n + 3 * (l.length : Int), M) := by
  have hl9 : l.length ≤ 9223372036854775807 := by omega
  have hmt : ∃ mt : Int → ByteArray, ∀ i, i ≤ 4294967295 → Ev (fun k => laws_markText.f k i) (mt i) :=
    ⟨fun i => if h : i ≤ 4294967295 then Classical.choose (laws_markText_ev i h) else ByteArray.empty, fun i hi => by simp only [dif_pos hi]; exact Classical.choose_spec (laws_markText_ev i hi)⟩
  obtain ⟨mt, hmt⟩ := hmt
  refine ⟨itemsM mt n l.length, by simp [itemsM], ?_⟩
  · have key := Ev.scan (fun k (s : Int × List S84) i => laws_markItemS.l0 k s.2 s.1 i) l.length (fun i s => s.1 = n + 3 * (i : Int) ∧ s.2.length = l.length) (fun i s => (n + 3 * (l.length : Int), s.2.take i ++ (itemsM mt n l.length).drop i))
      (fun s hs => Ev.some_ fun k => by
        simp only [laws_markItemS.l0]; rw [if_neg (by omega), List.drop_eq_nil_of_le (by simp [itemsM]), List.append_nil, List.take_of_length_le (by omega), hs.1])
      (fun i s hi hs => .inr ⟨(s.1 + 1 + 1 + 1, s.2.set i ⟨mt s.1, mt (s.1 + 1), s.1 + 1 + 1⟩), ⟨by simp only; omega, by simpa using hs.2⟩, by
          unfold itemsM
          rw [← List.map_drop, ← List.map_drop, List.drop_eq_getElem_cons (i := i) (by simpa using hi), List.map_cons, List.getElem_range]
          simp only [Prod.mk.injEq, true_and]
          rw [List.take_add_one, List.getElem?_set_self (by omega), List.take_set_of_le (Nat.le_refl i), hs.1, show n + 3 * (i : Int) + 1 + 1 = n + 3 * (i : Int) + 2 by omega]
          simp, (evA (hmt s.1 (by omega)) (evP (hmt (s.1 + 1) (by omega)))).eve fun k ⟨m1, m2⟩ => by
          have h2 : i < s.2.length := by omega
          have b1 : -9223372036854775808 ≤ s.1 + 1 := by omega
          have b2 : s.1 + 1 ≤ 9223372036854775807 := by omega
          have b3 : -9223372036854775808 ≤ s.1 + 1 + 1 := by omega
          have b4 : s.1 + 1 + 1 ≤ 9223372036854775807 := by omega
          have b5 : -9223372036854775808 ≤ s.1 + 1 + 1 + 1 := by omega
          have b6 : s.1 + 1 + 1 + 1 ≤ 9223372036854775807 := by omega
          have g1 : (i : Int) < (s.2.length : Int) := by omega
          have g2 : (0 : Int) ≤ (i : Int) := by omega
          simp only [laws_markItemS.l0, m1, m2, Option.bind_some, Int.toNat_natCast, w64 b1 b2, w64 b3 b4, w64 b5 b6, w64s hi hl9, if_pos g1, if_pos g2, rdI_set _ _ _ h2, List.set_set]⟩) 0 (n, l) (Nat.zero_le _) ⟨by simp, rfl⟩
    simpa [laws_markItemS.f] using key
theorem laws_markRow1_ev (a b : Int) (l : List S84) (n : Int) (h0 : 0 ≤ n) (h : n + 3 * (l.length : Int) ≤ 4294967295) : ∃ M : List S84, Ev (fun k => laws_markRow.f k a b l n) (n + 3 * (l.length : Int), M) := by
  obtain ⟨M, h1, h2⟩ := laws_markItemS1_ev l n h0 h
  exact ⟨M, (evP h2).ev fun k e => by simp only [laws_markRow.f, e, Option.bind_some]⟩
theorem laws_eqStringS_ev (l : List ByteArray) (h : l.length ≤ 9223372036854775807) : Ev (fun k => laws_eqStringS.f k l l) true := by
  refine Ev.congr (fun k => ?_) (all_loop (fun k i => laws_eqStringS.l0 k l l i) l.length (Ev.some_ fun k => by simp only [laws_eqStringS.l0]; rw [if_neg (by omega)]) (fun i hi => EvE.of fun k => by
    simp only [laws_eqStringS.l0]; rw [if_pos (by omega), if_pos (by omega), if_pos (by omega), if_pos trivial, w64s hi h]))
  simp only [laws_eqStringS.f]; rw [if_pos trivial]
theorem laws_markStringS_ev (l : List ByteArray) (n : Int) (h0 : 0 ≤ n) (h : n + (l.length : Int) ≤ 4294967295) : ∃ M : List ByteArray, M.length = l.length ∧ Ev (fun k => laws_markStringS.f k l n) (n + (l.length : Int), M) ∧ Ev (fun k => laws_heldStringS.f k M n) (n + (l.length : Int)) := by
  have hmt : ∃ mt : Int → ByteArray, ∀ i, i ≤ 4294967295 → Ev (fun k => laws_markText.f k i) (mt i) :=
    ⟨fun i => if h : i ≤ 4294967295 then Classical.choose (laws_markText_ev i h) else ByteArray.empty, fun i hi => by simp only [dif_pos hi]; exact Classical.choose_spec (laws_markText_ev i hi)⟩
  obtain ⟨mt, hmt⟩ := hmt
  refine ⟨(List.range l.length).map fun i : Nat => mt (n + (i : Int)), by simp, ?_, ?_⟩
  · have key := Ev.scan (fun k (s : Int × List ByteArray) i => laws_markStringS.l0 k s.2 s.1 i) l.length (fun i s => s.1 = n + (i : Int) ∧ s.2.length = l.length) (fun i s => (n + (l.length : Int), s.2.take i ++ ((List.range l.length).drop i).map fun i : Nat => mt (n + (i : Int))))
      (fun s hs => Ev.some_ fun k => by
        simp only [laws_markStringS.l0]; rw [if_neg (by omega), List.drop_eq_nil_of_le (by simp), List.map_nil, List.append_nil, List.take_of_length_le (by omega), hs.1])
      (fun i s hi hs => .inr ⟨(s.1 + 1, s.2.set i (mt s.1)), ⟨by simp only; omega, by simpa using hs.2⟩, by
          rw [List.drop_eq_getElem_cons (i := i) (by simpa using hi), List.map_cons, List.getElem_range, hs.1]
          simp only [Prod.mk.injEq, true_and]
          rw [List.take_add_one, List.getElem?_set_self (by omega), List.take_set_of_le (Nat.le_refl i)]
          simp, (evP (hmt s.1 (by omega))).eve fun k e => by
          simp only [laws_markStringS.l0, e, Option.bind_some]
          rw [if_pos (by omega), if_pos (by omega), w64s hi (by omega), w64 (by omega) (by omega), Int.toNat_natCast]⟩) 0 (n, l) (Nat.zero_le _) ⟨by simp, rfl⟩
    simpa [laws_markStringS.f] using key
  · have key := Ev.scan (fun k (s : Int) i => laws_heldStringS.l0 k ((List.range l.length).map fun i : Nat => mt (n + (i : Int))) s i) l.length (fun i s => s = n + (i : Int)) (fun i s => n + (l.length : Int))
      (fun s hs => Ev.some_ fun k => by simp only [laws_heldStringS.l0, List.length_map, List.length_range]; rw [if_neg (by omega), hs])
      (fun i s hi hs => .inr ⟨s + 1, by omega, rfl, (evP (hmt s (by omega))).eve fun k e => by
          simp only [laws_heldStringS.l0, e, Option.bind_some, List.length_map, List.length_range]
          rw [if_pos (by omega), if_pos (by omega), if_pos (by rw [rdOf_nat]; simp [hi, hs]), w64s hi (by omega), w64 (by omega) (by omega)]⟩) 0 n (Nat.zero_le _) (by simp)
    simpa [laws_heldStringS.f] using key
theorem spec_RowKeys_ev (a b : Int) (l : List S84) (hl : SmallI l) : Ev (fun k => spec_RowKeys.f k a b l) (if rowOk a b l = true then l.map (·.f0) else []) := by
  have hw := hl.1
  have key := Ev.scan (fun k s i => spec_RowKeys.l0 k s l (l.length : Int) i) l.length (fun i s => s.length = i) (fun i s => s ++ (l.drop i).map (·.f0))
    (fun s hs => Ev.some_ fun k => by simp only [spec_RowKeys.l0]; rw [if_neg (by omega), List.drop_eq_nil_of_le (Nat.le_refl _), List.map_nil, List.append_nil])
    (fun i s hi hs => .inr ⟨s ++ [(rd_T84 l (i : Int)).f0], by simp [hs], by rw [drop_I l i hi, List.map_cons]; simp, EvE.of fun k => by
      simp only [spec_RowKeys.l0]; rw [if_pos (by omega), if_pos (by omega), if_pos (by omega), if_pos (by omega), w64s hi (by omega)]⟩) 0 [] (Nat.zero_le _) rfl
  simp only [List.nil_append, List.drop_zero] at key
  refine (evA (spec_RowOk_ev a b l hl) (evP key)).ev fun k ⟨e1, e2⟩ => ?_
  simp only [spec_RowKeys.f, e1, Option.bind_some]
  split
  · exact e2
  · rfl
theorem impl_RowKeys_ev (a b : Int) (l : List S84) (hl : SmallI l) : Ev (fun k => impl_RowKeys.f k a b l) (if rowOk a b l = true then l.map (·.f0) else []) := by
  have hw := hl.1
  have key := Ev.scan (fun k s i => impl_RowKeys.l0 k s l (l.length : Int) i) l.length (fun i s => s.length = i) (fun i s => s ++ (l.drop i).map (·.f0))
    (fun s hs => Ev.some_ fun k => by simp only [impl_RowKeys.l0]; rw [if_neg (by omega), List.drop_eq_nil_of_le (Nat.le_refl _), List.map_nil, List.append_nil])
    (fun i s hi hs => .inr ⟨s ++ [(rd_T84 l (i : Int)).f0], by simp [hs], by rw [drop_I l i hi, List.map_cons]; simp, EvE.of fun k => by
      simp only [impl_RowKeys.l0]; rw [if_pos (by omega), if_pos (by omega), if_pos (by omega), if_pos (by omega), w64s hi (by omega)]⟩) 0 [] (Nat.zero_le _) rfl
  simp only [List.nil_append, List.drop_zero] at key
  refine (evA (impl_RowOk_ev a b l hl) (evP key)).ev fun k ⟨e1, e2⟩ => ?_
  simp only [impl_RowKeys.f, e1, Option.bind_some]
  split
  · exact e2
  · rfl
theorem FnExactRowKeys : DFnExactRowKeys.Pure := by
  intro a b l ha hb ⟨hl, hs⟩
  obtain ⟨t, ht, ht0, ht1⟩ := laws_szItemS_ev l 1048576 (by omega) (by omega) hl hs
  by_cases c1 : t < 0
  · obtain ⟨k, e⟩ := (evP ht).ex
    exact ⟨k, by simp only [laws_FnExactRowKeys.f, laws_szRow.f, e, Option.bind_some, if_pos c1]; rfl⟩
  · have hn := ht1 c1
    have hsm := small_cv l (by omega) hs
    have s1 := spec_RowKeys_ev a b _ hsm
    have s2 := impl_RowKeys_ev a b _ hsm
    have hw : (if rowOk a b (l.map cvI) = true then (l.map cvI).map (·.f0) else []).length ≤ 1048576 := by split <;> simp <;> omega
    generalize (if rowOk a b (l.map cvI) = true then (l.map cvI).map (·.f0) else []) = w at s1 s2 hw
    obtain ⟨M1, hM1⟩ := laws_markRow1_ev a b (l.map cvI) 1 (by omega) (by simp; omega)
    obtain ⟨M2, m2, hM2, hH2⟩ := laws_markStringS_ev w 1 (by omega) (by omega)
    have tpos : ¬ (1 + 3 * ((l.map cvI).length : Int) < 0) := by omega
    have q1 := laws_eqRow_ev a b (l.map cvI) (by simp; omega)
    have tr : Ev (fun k => laws_toRow.f k a b l) (a, b, l.map cvI) := (evP (laws_toItemS_ev l (by omega))).ev fun k e => by simp only [laws_toRow.f, e, Option.bind_some]
    have step : Ev (fun k => laws_FnExactRowKeys.j0 k w w false a b l) true := by
      refine Ev.up (g := fun _ => some true) ((evA hM2 (evA hH2 (evA tr (evA s2 (evP (laws_eqStringS_ev w (by omega))))))).eve fun k ⟨e1, e2, e3, e4, e5⟩ => ?_) (Ev.now _)
      simp only [laws_FnExactRowKeys.j0, e1, e2, e3, e4, e5, Option.bind_some, Bool.false_eq_true, if_false, if_true, neg1]
    obtain ⟨k, e0, e1, e2, e3, e4, e5, e6, e7⟩ := (evA ht (evA tr (evA q1 (evA (laws_eqStringS_ev w (by omega)) (evA s1 (evA s2 (evA hM1 (evP step)))))))).ex
    exact ⟨k, by simp only [laws_FnExactRowKeys.f, laws_szRow.f, e0, e1, e2, e3, e4, e5, e6, e7, Option.bind_some, if_true, Bool.not_true, if_neg c1, if_neg tpos]⟩
end Go.Proofs.Ytllaoamaplepmaa.Pure
