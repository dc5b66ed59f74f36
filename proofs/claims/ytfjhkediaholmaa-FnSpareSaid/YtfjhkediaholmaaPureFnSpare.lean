/- Whom Small and Main let go: for all codes. No condition. -/
import Derived.Test.YtfjhkediaholmaaDFnSpare
import Derived.Test.YtfjhkediaholmaaLm
namespace Go.Proofs.Ytfjhkediaholmaa.Pure
open Go.RowKit Go.Proofs.Ytfjhkediaholmaa.QFnSpare Go.Proofs.YtfjhkediaholmaaW.PrintWords Go.Proofs.YtfjhkediaholmaaW.PrintLast Go.Proofs.YtfjhkediaholmaaW.PrintMore Go.Proofs.Ytfjhkediaholmaa.Lm
set_option linter.unusedSimpArgs false
set_option linter.unusedVariables false
theorem spec_l10Clean_ev (s : ByteArray) (hs : s.size ≤ 9223372036854775807) : Ev (fun k => spec_l10Clean.f k s) (plain (bytesOf s)) := by
  have := Ev.scan (l := fun k (_ : Unit) i => spec_l10Clean.l0 k s i) s.size (fun _ _ => True) (fun i _ => plain ((bytesOf s).drop i)) ?_ ?_ 0 () (Nat.zero_le _) trivial
  · simpa [spec_l10Clean.f] using this
  · intro _ _
    exact Ev.some_ fun k => by simp only [spec_l10Clean.l0]; rw [if_neg (by omega)]; simp [plain, ← bytesOf_length]
  · intro i _ hi _
    have hd := drop_bt s i hi
    have hl : ∀ k, spec_l10Clean.l0 (k + 1) s (i : Int) = if bt s (i : Int) = 32 then some false else if bt s (i : Int) = 10 then some false else spec_l10Clean.l0 k s ((i + 1 : Nat) : Int) := fun k => by
      simp only [spec_l10Clean.l0]; rw [if_pos (by omega), if_pos (by omega), w64s hi hs]
    by_cases h1 : bt s (i : Int) = 32
    · exact .inl (Ev.some_ fun k => by simp only [hl]; rw [if_pos h1, hd, h1]; rfl)
    · by_cases h2 : bt s (i : Int) = 10
      · exact .inl (Ev.some_ fun k => by simp only [hl]; rw [if_neg h1, if_pos h2, hd, h2]; rfl)
      · exact .inr ⟨(), trivial, by rw [hd]; simp [plain, h1, h2], EvE.of fun k => by simp only [hl]; rw [if_neg h1, if_neg h2]⟩
theorem impl_isPlain_ev (s : ByteArray) (hs : s.size ≤ 9223372036854775807) : Ev (fun k => impl_isPlain.f k s) (plain (bytesOf s)) := by
  have := Ev.scan (l := fun k (_ : Unit) i => impl_isPlain.l0 k s i) s.size (fun _ _ => True) (fun i _ => plain ((bytesOf s).drop i)) ?_ ?_ 0 () (Nat.zero_le _) trivial
  · simpa [impl_isPlain.f] using this
  · intro _ _
    exact Ev.some_ fun k => by simp only [impl_isPlain.l0]; rw [if_neg (by omega)]; simp [plain, ← bytesOf_length]
  · intro i _ hi _
    have hd := drop_bt s i hi
    have hl : ∀ k, impl_isPlain.l0 (k + 1) s (i : Int) = if bt s (i : Int) = 32 then some false else if bt s (i : Int) = 10 then some false else impl_isPlain.l0 k s ((i + 1 : Nat) : Int) := fun k => by
      simp only [impl_isPlain.l0]; rw [if_pos (by omega), if_pos (by omega), w64s hi hs]
    by_cases h1 : bt s (i : Int) = 32
    · exact .inl (Ev.some_ fun k => by simp only [hl]; rw [if_pos h1, hd, h1]; rfl)
    · by_cases h2 : bt s (i : Int) = 10
      · exact .inl (Ev.some_ fun k => by simp only [hl]; rw [if_neg h1, if_pos h2, hd, h2]; rfl)
      · exact .inr ⟨(), trivial, by rw [hd]; simp [plain, h1, h2], EvE.of fun k => by simp only [hl]; rw [if_neg h1, if_neg h2]⟩
theorem spec_ItemOk_ev (a b : ByteArray) (f : Int) (ha : a.size ≤ 9223372036854775807) (hb : b.size ≤ 9223372036854775807) : Ev (fun k => spec_ItemOk.f k a b f) (itemOk a b f) := by
  obtain ⟨K1, h1⟩ := spec_l10Clean_ev a ha
  obtain ⟨K2, h2⟩ := spec_l10Clean_ev b hb
  refine ⟨max K1 K2, fun k hk => ?_⟩
  have e1 := h1 k (by omega)
  have e2 := h2 k (by omega)
  by_cases c1 : 1 ≤ (a.size : Int) <;> by_cases c2 : (a.size : Int) ≤ 20 <;> by_cases c3 : (b.size : Int) ≤ 40 <;> by_cases c4 : 0 ≤ f <;> by_cases c5 : f ≤ 3 <;> cases p1 : plain (bytesOf a) <;> cases p2 : plain (bytesOf b) <;>
    simp only [spec_ItemOk.f, spec_l01In.f, e1, e2, Option.bind_some, itemOk, ge_iff_le, c1, c2, c3, c4, c5, p1, p2, if_true, if_false, decide_true, decide_false, Bool.and_true, Bool.true_and, Bool.false_and, Bool.and_false, Bool.false_eq_true]
theorem impl_ItemOk_ev (a b : ByteArray) (f : Int) (ha : a.size ≤ 9223372036854775807) (hb : b.size ≤ 9223372036854775807) : Ev (fun k => impl_ItemOk.f k a b f) (itemOk a b f) := by
  obtain ⟨K1, h1⟩ := impl_isPlain_ev a ha
  obtain ⟨K2, h2⟩ := impl_isPlain_ev b hb
  refine ⟨max K1 K2, fun k hk => ?_⟩
  have e1 := h1 k (by omega)
  have e2 := h2 k (by omega)
  by_cases c1 : 1 ≤ (a.size : Int) <;> by_cases c2 : (a.size : Int) ≤ 20 <;> by_cases c3 : (b.size : Int) ≤ 40 <;> by_cases c4 : 0 ≤ f <;> by_cases c5 : f ≤ 3 <;> cases p1 : plain (bytesOf a) <;> cases p2 : plain (bytesOf b) <;>
    simp only [impl_ItemOk.f, impl_within.f, e1, e2, Option.bind_some, itemOk, ge_iff_le, c1, c2, c3, c4, c5, p1, p2, if_true, if_false, decide_true, decide_false, Bool.and_true, Bool.true_and, Bool.false_and, Bool.and_false, Bool.false_eq_true]
theorem drop_I (l : List S68) (i : Nat) (h : i < l.length) : l.drop i = rd_T68 l (i : Int) :: l.drop (i + 1) := by
  unfold rd_T68; rw [Int.toNat_natCast]; exact drop_cons _ l i h
/-- Where a key's item is. -/
def atI (l : List S68) (key : ByteArray) : Int := if l.any (fun x => decide (x.f0 = key)) then ((l.findIdx (fun x => decide (x.f0 = key)) : Nat) : Int) else -1
def okI (l : List S68) (i : Nat) : Bool := itemOk (rd_T68 l (i : Int)).f0 (rd_T68 l (i : Int)).f1 (rd_T68 l (i : Int)).f2 && decide (atI l (rd_T68 l (i : Int)).f0 = (i : Int))
/-- Items are right, and no two have one key. -/
def areI (l : List S68) : Bool := allN l.length (okI l)
/-- The texts of items are no longer than texts are. -/
def SmallI (l : List S68) : Prop := l.length ≤ 1048576 ∧ ∀ x ∈ l, x.f0.size ≤ 9223372036854775807 ∧ x.f1.size ≤ 9223372036854775807
theorem SmallI.at {l : List S68} (h : SmallI l) (i : Nat) (hi : i < l.length) : (rd_T68 l (i : Int)).f0.size ≤ 9223372036854775807 ∧ (rd_T68 l (i : Int)).f1.size ≤ 9223372036854775807 :=
  h.2 _ (by unfold rd_T68; rw [Int.toNat_natCast]; exact getD_mem _ l i hi)
theorem spec_l10At_ev (l : List S68) (x : ByteArray) (hl : l.length ≤ 1048576) : Ev (fun k => spec_l10At.f k l x) (atI l x) := by
  have key := Ev.scan (fun k (_ : Unit) i => spec_l10At.l0 k x l (l.length : Int) i) l.length (fun _ _ => True) (fun i _ => if (l.drop i).any (fun y => decide (y.f0 = x)) then (((l.drop i).findIdx (fun y => decide (y.f0 = x)) + i : Nat) : Int) else -1)
    (fun _ _ => Ev.some_ fun k => by simp only [spec_l10At.l0]; rw [if_neg (by omega), List.drop_eq_nil_of_le (Nat.le_refl _)]; rfl)
    (fun i _ hi _ => by
      have hd := drop_I l i hi
      have hs : ∀ k, spec_l10At.l0 (k + 1) x l (l.length : Int) (i : Int) = if (rd_T68 l (i : Int)).f0 = x then some (i : Int) else spec_l10At.l0 k x l (l.length : Int) ((i + 1 : Nat) : Int) := fun k => by
        simp only [spec_l10At.l0, toList_inj]; rw [if_pos (by omega), if_pos (by omega), if_pos (by omega), w64s hi (by omega)]
      rw [hd, List.any_cons, List.findIdx_cons]
      by_cases c : (rd_T68 l (i : Int)).f0 = x
      · exact .inl (Ev.some_ fun k => by simp only [hs]; rw [if_pos c, decide_eq_true c]; simp)
      · exact .inr ⟨(), trivial, by
          rw [decide_eq_false c]; simp only [Bool.false_or, cond_false]
          split <;> omega, EvE.of fun k => by simp only [hs]; rw [if_neg c]⟩) 0 () (Nat.zero_le _) trivial
  simpa [spec_l10At.f, atI] using key
theorem impl_itemAt_ev (l : List S68) (x : ByteArray) (hl : l.length ≤ 1048576) : Ev (fun k => impl_itemAt.f k l x) (atI l x) := by
  have key := Ev.scan (fun k (_ : Unit) i => impl_itemAt.l0 k x l (l.length : Int) i) l.length (fun _ _ => True) (fun i _ => if (l.drop i).any (fun y => decide (y.f0 = x)) then (((l.drop i).findIdx (fun y => decide (y.f0 = x)) + i : Nat) : Int) else -1)
    (fun _ _ => Ev.some_ fun k => by simp only [impl_itemAt.l0]; rw [if_neg (by omega), List.drop_eq_nil_of_le (Nat.le_refl _)]; rfl)
    (fun i _ hi _ => by
      have hd := drop_I l i hi
      have hs : ∀ k, impl_itemAt.l0 (k + 1) x l (l.length : Int) (i : Int) = if (rd_T68 l (i : Int)).f0 = x then some (i : Int) else impl_itemAt.l0 k x l (l.length : Int) ((i + 1 : Nat) : Int) := fun k => by
        simp only [impl_itemAt.l0, toList_inj]; rw [if_pos (by omega), if_pos (by omega), if_pos (by omega), w64s hi (by omega)]
      rw [hd, List.any_cons, List.findIdx_cons]
      by_cases c : (rd_T68 l (i : Int)).f0 = x
      · exact .inl (Ev.some_ fun k => by simp only [hs]; rw [if_pos c, decide_eq_true c]; simp)
      · exact .inr ⟨(), trivial, by
          rw [decide_eq_false c]; simp only [Bool.false_or, cond_false]
          split <;> omega, EvE.of fun k => by simp only [hs]; rw [if_neg c]⟩) 0 () (Nat.zero_le _) trivial
  simpa [impl_itemAt.f, atI] using key
theorem impl_areItems_ev (l : List S68) (hl : SmallI l) : Ev (fun k => impl_areItems.f k l) (areI l) := by
  have key := Ev.asks (fun k i => impl_areItems.l0 k l l (l.length : Int) i) l.length (okI l) true
    (Ev.some_ fun k => by simp only [impl_areItems.l0]; rw [if_neg (by omega)])
    (fun i hi hp => by
      have hb := hl.at i hi
      have h1 := impl_ItemOk_ev (rd_T68 l (i : Int)).f0 (rd_T68 l (i : Int)).f1 (rd_T68 l (i : Int)).f2 hb.1 hb.2
      refine (evA h1 (evP (impl_itemAt_ev l (rd_T68 l (i : Int)).f0 hl.1))).ev fun k ⟨e1, e2⟩ => ?_
      simp only [impl_areItems.l0, e1, e2, Option.bind_some]
      rw [if_pos (by have := hl.1; omega), if_pos (by omega), if_pos (by have := hl.1; omega)]
      unfold okI at hp
      cases c : itemOk (rd_T68 l (i : Int)).f0 (rd_T68 l (i : Int)).f1 (rd_T68 l (i : Int)).f2 with
      | false => rw [if_neg (by simp)]
      | true => rw [c, Bool.true_and] at hp; rw [if_pos rfl, if_neg (of_decide_eq_false hp)])
    (fun i hi hp => by
      have hb := hl.at i hi
      have hw := hl.1
      have h1 := impl_ItemOk_ev (rd_T68 l (i : Int)).f0 (rd_T68 l (i : Int)).f1 (rd_T68 l (i : Int)).f2 hb.1 hb.2
      unfold okI at hp
      simp only [Bool.and_eq_true, decide_eq_true_eq] at hp
      rw [hp.1] at h1
      refine (evA h1 (evP (impl_itemAt_ev l (rd_T68 l (i : Int)).f0 hl.1))).eve fun k ⟨e1, e2⟩ => ?_
      simp only [impl_areItems.l0, e1, e2, Option.bind_some, if_true]
      rw [if_pos (by omega), if_pos (by omega), if_pos (by omega), if_pos hp.2, w64s hi (by omega)])
  rw [Bool.and_true] at key
  simpa [impl_areItems.f, areI] using key
def hasN (l : List Int) (x : Int) : Bool := l.any fun y => decide (y = x)
theorem hasN_cons (y : Int) (l : List Int) (x : Int) : hasN (y :: l) x = (decide (y = x) || hasN l x) := rfl
theorem spec_l03Has_ev (l : List Int) (x : Int) (hl : l.length ≤ 1048576) : Ev (fun k => spec_l03Has.f k l x) (hasN l x) := by
  have key := Ev.scan (fun k (_ : Unit) i => spec_l03Has.l0 k x l (l.length : Int) i) l.length (fun _ _ => True) (fun i _ => hasN (l.drop i) x)
    (fun _ _ => Ev.some_ fun k => by simp only [spec_l03Has.l0]; rw [if_neg (by omega), List.drop_eq_nil_of_le (Nat.le_refl _)]; rfl)
    (fun i _ hi _ => by
      have hd := drop_rd l i hi
      have hs : ∀ k, spec_l03Has.l0 (k + 1) x l (l.length : Int) (i : Int) = if rd l (i : Int) = x then some true else spec_l03Has.l0 k x l (l.length : Int) ((i + 1 : Nat) : Int) := fun k => by
        simp only [spec_l03Has.l0]; rw [if_pos (by omega), if_pos (by omega), if_pos (by omega), w64s hi (by omega)]
      rw [hd, hasN_cons]
      by_cases c : rd l (i : Int) = x
      · exact .inl (Ev.some_ fun k => by simp only [hs]; rw [if_pos c, decide_eq_true c]; rfl)
      · exact .inr ⟨(), trivial, by rw [decide_eq_false c]; rfl, EvE.of fun k => by simp only [hs]; rw [if_neg c]⟩) 0 () (Nat.zero_le _) trivial
  simpa [spec_l03Has.f] using key
theorem slices_ContainsI_ev (l : List Int) (x : Int) (hl : l.length ≤ 1048576) : Ev (fun k => slices_Contains_int_int.f k l x) (hasN l x) := by
  have key : ∃ r, Ev (fun k => slices_Index_int_int.f k l x) r ∧ decide (r ≥ 0) = hasN l x := by
    have key := Ev.scan (fun k (_ : Unit) i => slices_Index_int_int.l0 k l x (l.length : Int) i) l.length (fun _ _ => True) (fun i _ => if hasN (l.drop i) x then (((l.drop i).findIdx (fun y => decide (y = x)) + i : Nat) : Int) else -1)
      (fun _ _ => Ev.some_ fun k => by simp only [slices_Index_int_int.l0]; rw [if_neg (by omega), List.drop_eq_nil_of_le (Nat.le_refl _)]; rfl)
      (fun i _ hi _ => by
        have hd := drop_rd l i hi
        have hs : ∀ k, slices_Index_int_int.l0 (k + 1) l x (l.length : Int) (i : Int) = if rd l (i : Int) = x then some (i : Int) else slices_Index_int_int.l0 k l x (l.length : Int) ((i + 1 : Nat) : Int) := fun k => by
          simp only [slices_Index_int_int.l0]; rw [if_pos (by omega), if_pos (by omega), if_pos (by omega), w64s hi (by omega)]
          simp only [eq_comm]
        rw [hd, hasN_cons, List.findIdx_cons]
        by_cases c : rd l (i : Int) = x
        · exact .inl (Ev.some_ fun k => by simp only [hs]; rw [if_pos c, decide_eq_true c]; simp)
        · exact .inr ⟨(), trivial, by
            rw [decide_eq_false c]; simp only [Bool.false_or, cond_false]
            split <;> omega, EvE.of fun k => by simp only [hs]; rw [if_neg c]⟩) 0 () (Nat.zero_le _) trivial
    refine ⟨_, (by simpa [slices_Index_int_int.f] using key), ?_⟩
    cases hasN l x with
    | true => simp only [if_true]; exact decide_eq_true (by omega)
    | false => rfl
  obtain ⟨r, hr, e⟩ := key
  rw [← e]
  exact (evP hr).ev fun k e1 => by simp only [slices_Contains_int_int.f, e1, Option.bind_some]
def ghostsN (a b : Int) : Int := if a - b < 1 then 1 else a - b
def ghostI (g : List Int) (i : Nat) : Bool := decide (0 ≤ rd g (i : Int) ∧ rd g (i : Int) ≤ 4294967295) && !hasN (g.take i) (rd g (i : Int))
def ghostOk (g : List Int) : Bool := allN g.length (ghostI g)
/-- A cache of three queues is right. -/
def threeOk (a b : Int) (s m : List S68) (g : List Int) : Bool := decide (1 ≤ a ∧ a ≤ 60) && decide (1 ≤ b ∧ b ≤ a) && decide ((s.length : Int) + (m.length : Int) ≤ a) && decide ((g.length : Int) ≤ ghostsN a b) && (areI (s ++ m) && ghostOk g)
theorem spec_Three_l1 (a b : Int) (s m : List S68) (g : List Int) (hg : g.length ≤ 1048576) : Ev (fun k => spec_ThreeOk.l1 k g (g.length : Int) 0 a b s m g) (ghostOk g) := by
  have key := Ev.asks (fun k i => spec_ThreeOk.l1 k g (g.length : Int) i a b s m g) g.length (ghostI g) true
    (Ev.some_ fun k => by simp only [spec_ThreeOk.l1]; rw [if_neg (by omega)])
    (fun i hi hp => by
      have ht : (g.take i).length ≤ 1048576 := by rw [List.length_take]; omega
      refine (evP (spec_l03Has_ev (g.take i) (rd g (i : Int)) ht)).ev fun k e => ?_
      simp only [spec_ThreeOk.l1, spec_l01Num.f, Int.toNat_natCast, e]
      rw [if_pos (by omega), if_pos (by omega), if_pos (by omega)]
      unfold ghostI at hp
      by_cases c1 : rd g (i : Int) ≥ 0
      · rw [if_pos c1, Option.bind_some]
        by_cases c2 : rd g (i : Int) ≤ 4294967295
        · rw [if_pos (decide_eq_true c2), if_pos (by omega), Option.bind_some]
          rw [decide_eq_true ⟨c1, c2⟩, Bool.true_and] at hp
          rw [if_pos (by simpa using hp)]
        · rw [if_neg (by simp [c2])]
      · rw [if_neg c1, Option.bind_some, if_neg (by simp)])
    (fun i hi hp => by
      have ht : (g.take i).length ≤ 1048576 := by rw [List.length_take]; omega
      unfold ghostI at hp
      simp only [Bool.and_eq_true, decide_eq_true_eq, Bool.not_eq_true'] at hp
      have h3 := spec_l03Has_ev (g.take i) (rd g (i : Int)) ht
      rw [hp.2] at h3
      refine (evP h3).eve fun k e => ?_
      simp only [spec_ThreeOk.l1, spec_l01Num.f, Int.toNat_natCast, e]
      rw [if_pos (by omega), if_pos (by omega), if_pos (by omega), if_pos (show rd g (i : Int) ≥ 0 from hp.1.1), Option.bind_some, if_pos (decide_eq_true hp.1.2), if_pos (by omega), Option.bind_some, if_neg (by simp), w64s hi (by omega)])
  rw [Bool.and_true] at key
  exact key
theorem spec_Three_l0 (a b : Int) (s m l : List S68) (g : List Int) (hg : g.length ≤ 1048576) (hl : SmallI l) : Ev (fun k => spec_ThreeOk.l0 k l l (l.length : Int) 0 a b s m g) (areI l && ghostOk g) := by
  have hw := hl.1
  refine Ev.asks (fun k i => spec_ThreeOk.l0 k l l (l.length : Int) i a b s m g) l.length (okI l) _ ?_ ?_ ?_
  · refine (evP (spec_Three_l1 a b s m g hg)).ev fun k e => ?_
    simp only [spec_ThreeOk.l0, e]; rw [if_neg (by omega)]
  · intro i hi hp
    have hb := hl.at i hi
    have h1 := spec_ItemOk_ev (rd_T68 l (i : Int)).f0 (rd_T68 l (i : Int)).f1 (rd_T68 l (i : Int)).f2 hb.1 hb.2
    refine (evA h1 (evP (spec_l10At_ev l (rd_T68 l (i : Int)).f0 hl.1))).ev fun k ⟨e1, e2⟩ => ?_
    simp only [spec_ThreeOk.l0, e1, e2, Option.bind_some]
    rw [if_pos (by omega), if_pos (by omega), if_pos (by omega)]
    unfold okI at hp
    cases c : itemOk (rd_T68 l (i : Int)).f0 (rd_T68 l (i : Int)).f1 (rd_T68 l (i : Int)).f2 with
    | false => rw [if_neg (by simp)]
    | true => rw [c, Bool.true_and] at hp; rw [if_pos rfl, if_neg (of_decide_eq_false hp)]
  · intro i hi hp
    have hb := hl.at i hi
    have h1 := spec_ItemOk_ev (rd_T68 l (i : Int)).f0 (rd_T68 l (i : Int)).f1 (rd_T68 l (i : Int)).f2 hb.1 hb.2
    unfold okI at hp
    simp only [Bool.and_eq_true, decide_eq_true_eq] at hp
    rw [hp.1] at h1
    refine (evA h1 (evP (spec_l10At_ev l (rd_T68 l (i : Int)).f0 hl.1))).eve fun k ⟨e1, e2⟩ => ?_
    simp only [spec_ThreeOk.l0, e1, e2, Option.bind_some, if_true]
    rw [if_pos (by omega), if_pos (by omega), if_pos (by omega), if_pos hp.2, w64s hi (by omega)]
theorem wsub (a b : Int) (ha : a ≤ 60) (hb : 1 ≤ b) (hab : b ≤ a) : wrap64 (a - b) = a - b := w64 (by omega) (by omega)
theorem spec_ThreeOk_ev (a b : Int) (s m : List S68) (g : List Int) (hg : g.length ≤ 1048576) (hl : SmallI (s ++ m)) : Ev (fun k => spec_ThreeOk.f k a b s m g) (threeOk a b s m g) := by
  have hw := hl.1
  rw [List.length_append] at hw
  have h0 : Ev (fun k => spec_ThreeOk.j0 k true a b s m g) false := Ev.up (g := fun _ => some false) (EvE.of fun k => by simp only [spec_ThreeOk.j0, if_true]) (Ev.now _)
  have h1 : Ev (fun k => spec_ThreeOk.j0 k false a b s m g) (areI (s ++ m) && ghostOk g) := by
    refine Ev.up (g := fun k => spec_ThreeOk.l0 k (s ++ m) (s ++ m) ((s ++ m).length : Int) 0 a b s m g) (EvE.of fun k => ?_) (spec_Three_l0 a b s m (s ++ m) g hg hl)
    simp only [spec_ThreeOk.j0, Bool.false_eq_true, if_false, Option.bind_some, List.nil_append, List.length_nil]
    rw [if_pos (by omega), if_pos (by omega)]
  by_cases c1 : 1 ≤ a
  · by_cases c2 : a ≤ 60
    · by_cases c3 : 1 ≤ b
      · by_cases c4 : b ≤ a
        · have e1 : ∀ k, spec_ThreeOk.f k a b s m g = if (s.length : Int) + (m.length : Int) > a then spec_ThreeOk.j0 k true a b s m g else spec_ThreeOk.j0 k (decide ((g.length : Int) > ghostsN a b)) a b s m g := fun k => by
            simp only [spec_ThreeOk.f, spec_l01In.f, spec_l10Ghosts.f]
            rw [if_pos (by omega), Option.bind_some, if_pos (decide_eq_true c2), if_pos (by omega), Option.bind_some, if_pos (decide_eq_true c4), w64 (by omega) (by omega), wsub a b c2 c3 c4]
            unfold ghostsN
            split
            · rfl
            · split <;> rfl
          unfold threeOk
          rw [decide_eq_true ⟨c1, c2⟩, decide_eq_true ⟨c3, c4⟩, Bool.true_and, Bool.true_and]
          by_cases c5 : (s.length : Int) + (m.length : Int) ≤ a
          · by_cases c6 : (g.length : Int) ≤ ghostsN a b
            · rw [decide_eq_true c5, decide_eq_true c6, Bool.true_and, Bool.true_and]
              refine Ev.congr (fun k => ?_) h1
              rw [e1, if_neg (by omega), decide_eq_false (by omega)]
            · rw [decide_eq_false c6, Bool.and_false, Bool.false_and]
              refine Ev.congr (fun k => ?_) h0
              rw [e1, if_neg (by omega), decide_eq_true (by omega)]
          · rw [decide_eq_false c5, Bool.false_and, Bool.false_and]
            refine Ev.congr (fun k => ?_) h0
            rw [e1, if_pos (by omega)]
        · rw [show threeOk a b s m g = false by unfold threeOk; simp [c4]]
          refine Ev.congr (fun k => ?_) h0
          simp only [spec_ThreeOk.f, spec_l01In.f]
          rw [if_pos (by omega), Option.bind_some, if_pos (decide_eq_true c2), if_pos (by omega), Option.bind_some, if_neg (by simp [c4])]
      · rw [show threeOk a b s m g = false by unfold threeOk; simp [c3]]
        refine Ev.congr (fun k => ?_) h0
        simp only [spec_ThreeOk.f, spec_l01In.f]
        rw [if_pos (by omega), Option.bind_some, if_pos (decide_eq_true c2), if_neg (by omega), Option.bind_some, if_neg (by simp)]
    · rw [show threeOk a b s m g = false by unfold threeOk; simp [c2]]
      refine Ev.congr (fun k => ?_) h0
      simp only [spec_ThreeOk.f, spec_l01In.f]
      rw [if_pos (by omega), Option.bind_some, if_neg (by simp [c2])]
  · rw [show threeOk a b s m g = false by unfold threeOk; simp [c1]]
    refine Ev.congr (fun k => ?_) h0
    simp only [spec_ThreeOk.f, spec_l01In.f]
    rw [if_neg (by omega), Option.bind_some, if_neg (by simp)]
theorem impl_copyItems_eq (l : List S68) (h : l.length ≤ 1048576) : impl_copyItems.f l = some l := by
  simp only [impl_copyItems.f, Option.bind_some, List.nil_append, List.length_nil]; rw [if_pos (by omega)]
theorem impl_Three_l0 (a b : Int) (s m : List S68) (g : List Int) (hg : g.length ≤ 1048576) (hl : SmallI (s ++ m)) : Ev (fun k => impl_ThreeOk.l0 k g (g.length : Int) 0 a b s m g) (ghostOk g && (decide ((s.length : Int) + (m.length : Int) ≤ a) && areI (s ++ m))) := by
  have hw := hl.1
  rw [List.length_append] at hw
  refine Ev.asks (fun k i => impl_ThreeOk.l0 k g (g.length : Int) i a b s m g) g.length (ghostI g) _ ?_ ?_ ?_
  · refine (evP (impl_areItems_ev (s ++ m) hl)).ev fun k e => ?_
    simp only [impl_ThreeOk.l0, impl_copyItems_eq s (by omega), Option.bind_some, e, List.length_append]
    rw [if_neg (by omega), if_pos (by omega)]
    by_cases c : (s.length : Int) + (m.length : Int) ≤ a
    · rw [if_pos (by omega), decide_eq_true c, Bool.true_and]
    · rw [if_neg (by omega), decide_eq_false c, Bool.false_and]
  · intro i hi hp
    have ht : (g.take i).length ≤ 1048576 := by rw [List.length_take]; omega
    refine (evP (slices_ContainsI_ev (g.take i) (rd g (i : Int)) ht)).ev fun k e => ?_
    simp only [impl_ThreeOk.l0, impl_isNum.f, impl_within.f, Int.toNat_natCast, e]
    rw [if_pos (by omega), if_pos (by omega), if_pos (by omega)]
    unfold ghostI at hp
    by_cases c1 : rd g (i : Int) ≥ 0
    · rw [if_pos c1, Option.bind_some, Option.bind_some]
      by_cases c2 : rd g (i : Int) ≤ 4294967295
      · rw [if_pos (decide_eq_true c2), if_pos (by omega), Option.bind_some]
        rw [decide_eq_true ⟨c1, c2⟩, Bool.true_and] at hp
        rw [if_pos (by simpa using hp)]
      · rw [if_neg (by simp [c2])]
    · rw [if_neg c1, Option.bind_some, Option.bind_some, if_neg (by simp)]
  · intro i hi hp
    have ht : (g.take i).length ≤ 1048576 := by rw [List.length_take]; omega
    unfold ghostI at hp
    simp only [Bool.and_eq_true, decide_eq_true_eq, Bool.not_eq_true'] at hp
    have h3 := slices_ContainsI_ev (g.take i) (rd g (i : Int)) ht
    rw [hp.2] at h3
    refine (evP h3).eve fun k e => ?_
    simp only [impl_ThreeOk.l0, impl_isNum.f, impl_within.f, Int.toNat_natCast, e]
    rw [if_pos (by omega), if_pos (by omega), if_pos (by omega), if_pos (show rd g (i : Int) ≥ 0 from hp.1.1), Option.bind_some, Option.bind_some, if_pos (decide_eq_true hp.1.2), if_pos (by omega), Option.bind_some, if_neg (by simp), w64s hi (by omega)]
theorem impl_ThreeOk_ev (a b : Int) (s m : List S68) (g : List Int) (hg : g.length ≤ 1048576) (hl : SmallI (s ++ m)) : Ev (fun k => impl_ThreeOk.f k a b s m g) (threeOk a b s m g) := by
  have h0 : Ev (fun k => impl_ThreeOk.j0 k true a b s m g) false := Ev.up (g := fun _ => some false) (EvE.of fun k => by simp only [impl_ThreeOk.j0, if_true]) (Ev.now _)
  have h1 : Ev (fun k => impl_ThreeOk.j0 k false a b s m g) (ghostOk g && (decide ((s.length : Int) + (m.length : Int) ≤ a) && areI (s ++ m))) := by
    refine Ev.up (g := fun k => impl_ThreeOk.l0 k g (g.length : Int) 0 a b s m g) (EvE.of fun k => ?_) (impl_Three_l0 a b s m g hg hl)
    simp only [impl_ThreeOk.j0, Bool.false_eq_true, if_false]
  by_cases c1 : 1 ≤ a
  · by_cases c2 : a ≤ 60
    · by_cases c3 : 1 ≤ b
      · by_cases c4 : b ≤ a
        · have e1 : ∀ k, impl_ThreeOk.f k a b s m g = impl_ThreeOk.j0 k (decide ((g.length : Int) > ghostsN a b)) a b s m g := fun k => by
            simp only [impl_ThreeOk.f, impl_within.f]
            rw [if_pos (by omega), Option.bind_some, if_pos (decide_eq_true c2), if_pos (by omega), Option.bind_some, if_pos (decide_eq_true c4), wsub a b c2 c3 c4, show mx 1 (a - b) = ghostsN a b by unfold mx ghostsN; split <;> split <;> omega]
          unfold threeOk
          rw [decide_eq_true ⟨c1, c2⟩, decide_eq_true ⟨c3, c4⟩, Bool.true_and, Bool.true_and]
          by_cases c6 : (g.length : Int) ≤ ghostsN a b
          · rw [decide_eq_true c6]
            have e2 : (decide ((s.length : Int) + (m.length : Int) ≤ a) && true && (areI (s ++ m) && ghostOk g)) = (ghostOk g && (decide ((s.length : Int) + (m.length : Int) ≤ a) && areI (s ++ m))) := by
              generalize decide ((s.length : Int) + (m.length : Int) ≤ a) = x
              generalize areI (s ++ m) = y
              generalize ghostOk g = z
              cases x <;> cases y <;> cases z <;> rfl
            rw [e2]
            refine Ev.congr (fun k => ?_) h1
            rw [e1, decide_eq_false (by omega)]
          · rw [decide_eq_false c6, Bool.and_false, Bool.false_and]
            refine Ev.congr (fun k => ?_) h0
            rw [e1, decide_eq_true (by omega)]
        · rw [show threeOk a b s m g = false by unfold threeOk; simp [c4]]
          refine Ev.congr (fun k => ?_) h0
          simp only [impl_ThreeOk.f, impl_within.f]
          rw [if_pos (by omega), Option.bind_some, if_pos (decide_eq_true c2), if_pos (by omega), Option.bind_some, if_neg (by simp [c4])]
      · rw [show threeOk a b s m g = false by unfold threeOk; simp [c3]]
        refine Ev.congr (fun k => ?_) h0
        simp only [impl_ThreeOk.f, impl_within.f]
        rw [if_pos (by omega), Option.bind_some, if_pos (decide_eq_true c2), if_neg (by omega), Option.bind_some, if_neg (by simp)]
    · rw [show threeOk a b s m g = false by unfold threeOk; simp [c2]]
      refine Ev.congr (fun k => ?_) h0
      simp only [impl_ThreeOk.f, impl_within.f]
      rw [if_pos (by omega), Option.bind_some, if_neg (by simp [c2])]
  · rw [show threeOk a b s m g = false by unfold threeOk; simp [c1]]
    refine Ev.congr (fun k => ?_) h0
    simp only [impl_ThreeOk.f, impl_within.f]
    rw [if_neg (by omega), Option.bind_some, if_neg (by simp)]
def threeNew (a b : Int) : Int × Int × List S68 × List S68 × List Int × Bool := if threeOk a b [] [] [] = true then (a, b, [], [], [], true) else (0, 0, [], [], [], false)
theorem smallNil : SmallI ([] ++ []) := ⟨by simp, by simp⟩
theorem spec_ThreeNew_ev (a b : Int) : Ev (fun k => spec_ThreeNew.f k a b) (threeNew a b) := (evP (spec_ThreeOk_ev a b [] [] [] (by simp) smallNil)).ev fun k e => by
  simp only [spec_ThreeNew.f, e, Option.bind_some]; unfold threeNew; split <;> rfl
def rdI (l : List S68) (i : Nat) : S68 := rd_T68 l (i : Int)
theorem rdI_get (l : List S68) (i : Nat) (h : i < l.length) : rdI l i = l[i] := by
  unfold rdI rd_T68; rw [Int.toNat_natCast]; simp [h]
theorem at_lt (l : List S68) (x : ByteArray) (h : 0 ≤ atI l x) : ∃ i : Nat, atI l x = (i : Int) ∧ i < l.length ∧ (rdI l i).f0 = x := by
  unfold atI at h ⊢
  by_cases c : (l.any fun y => decide (y.f0 = x)) = true
  · rw [if_pos c]
    obtain ⟨y, hy, hx⟩ := List.any_eq_true.1 c
    have hi := List.findIdx_lt_length_of_exists (p := fun y => decide (y.f0 = x)) ⟨y, hy, hx⟩
    refine ⟨_, rfl, hi, ?_⟩
    rw [rdI_get l _ hi]
    exact of_decide_eq_true (List.findIdx_getElem (p := fun y : S68 => decide (y.f0 = x)) (w := hi))
  · rw [if_neg c] at h; omega
theorem ok_are (l : List S68) (h : areI l = true) (i : Nat) (hi : i < l.length) : atI l (rdI l i).f0 = (i : Int) ∧ 0 ≤ (rdI l i).f2 ∧ (rdI l i).f2 ≤ 3 := by
  unfold areI allN at h
  have := List.all_eq_true.1 h i (List.mem_range.2 hi)
  unfold okI at this
  simp only [Bool.and_eq_true, decide_eq_true_eq] at this
  exact ⟨this.2, (itemOk_sizes this.1).2.2.2⟩
theorem three_are {a b : Int} {s m : List S68} {g : List Int} (h : threeOk a b s m g = true) : areI (s ++ m) = true := by
  unfold threeOk at h
  simp only [Bool.and_eq_true] at h
  exact h.2.1
theorem three_len {a b : Int} {s m : List S68} {g : List Int} (h : threeOk a b s m g = true) : s.length + m.length ≤ 60 ∧ g.length ≤ 60 := by
  unfold threeOk ghostsN at h
  simp only [Bool.and_eq_true, decide_eq_true_eq] at h
  obtain ⟨⟨⟨⟨h1, h2⟩, h3⟩, h4⟩, _⟩ := h
  split at h4 <;> omega
theorem rdI_left (s m : List S68) (i : Nat) (h : i < s.length) : rdI (s ++ m) i = rdI s i := by
  rw [rdI_get _ i (by rw [List.length_append]; omega), rdI_get s i h, List.getElem_append_left h]
theorem rdI_right (s m : List S68) (i : Nat) (h : i < m.length) : rdI (s ++ m) (s.length + i) = rdI m i := by
  rw [rdI_get _ _ (by rw [List.length_append]; omega), rdI_get m i h, List.getElem_append_right (by omega)]
  congr 1; omega
theorem not_both {s m : List S68} (h : areI (s ++ m) = true) (x : ByteArray) (h1 : 0 ≤ atI s x) : ¬ 0 ≤ atI m x := fun h2 => by
  obtain ⟨i, _, hi, e1⟩ := at_lt s x h1
  obtain ⟨j, _, hj, e2⟩ := at_lt m x h2
  have a1 := (ok_are _ h i (by rw [List.length_append]; omega)).1
  have a2 := (ok_are _ h (s.length + j) (by rw [List.length_append]; omega)).1
  rw [rdI_left s m i hi, e1] at a1
  rw [rdI_right s m j hj, e2, a1] at a2
  omega
def fsum (m : List S68) : Nat := (m.map fun x => x.f2.toNat).sum
def okF (m : List S68) : Prop := ∀ x ∈ m, 0 ≤ x.f2 ∧ x.f2 ≤ 3
def less1 (x : S68) : S68 := ⟨x.f0, x.f1, wrap64 (x.f2 - 1)⟩
def evm : Nat → List S68 → List S68 × ByteArray × Bool
  | _, [] => ([], ⟨#[]⟩, false)
  | 0, m => (m, ⟨#[]⟩, false)
  | n + 1, x :: t => if x.f2 = 0 then (t, x.f0, true) else evm n (t ++ [less1 x])
theorem less1_f2 (x : S68) (h : 0 ≤ x.f2 ∧ x.f2 ≤ 3) (h0 : ¬ x.f2 = 0) : (less1 x).f2 = x.f2 - 1 := w64 (by omega) (by omega)
theorem okF_next {x : S68} {t : List S68} (h : okF (x :: t)) (h0 : ¬ x.f2 = 0) : okF (t ++ [less1 x]) ∧ fsum (t ++ [less1 x]) + 1 = fsum (x :: t) := by
  have hx := h x (List.mem_cons_self ..)
  have e := less1_f2 x hx h0
  constructor
  · intro y hy
    rcases List.mem_append.1 hy with hy | hy
    · exact h y (List.mem_cons_of_mem _ hy)
    · rw [List.mem_singleton.1 hy, e]; omega
  · unfold fsum
    rw [List.map_append, List.sum_append, List.map_cons, List.map_cons, List.sum_cons, List.map_nil, List.sum_cons, List.sum_nil, e]
    omega
theorem evm_len : ∀ (n : Nat) (m : List S68), (evm n m).1.length ≤ m.length
  | 0, [] => Nat.le_refl _
  | _ + 1, [] => Nat.le_refl _
  | 0, _ :: _ => Nat.le_refl _
  | n + 1, x :: t => by
    unfold evm
    split
    · simp
    · have := evm_len n (t ++ [less1 x])
      simpa using this
theorem okF_three {a b : Int} {s m : List S68} {g : List Int} (h : threeOk a b s m g = true) : okF s ∧ okF m := by
  have ha := three_are h
  constructor
  · intro x hx
    obtain ⟨i, hi, rfl⟩ := List.getElem_of_mem hx
    have := (ok_are _ ha i (by rw [List.length_append]; omega)).2
    rw [rdI_left s m i hi, rdI_get s i hi] at this
    exact this
  · intro x hx
    obtain ⟨i, hi, rfl⟩ := List.getElem_of_mem hx
    have := (ok_are _ ha (s.length + i) (by rw [List.length_append]; omega)).2
    rw [rdI_right s m i hi, rdI_get m i hi] at this
    exact this
theorem rd_0 (x : S68) (t : List S68) : rd_T68 (x :: t) 0 = x := rfl
theorem spec_main_ev (a b : Int) (s : List S68) (g : List Int) : ∀ (n : Nat) (m : List S68), okF m → fsum m < n → m.length ≤ 1048576 → Ev (fun k => spec_EvictMain.l0 k a b s m g) (a, b, s, (evm n m).1, g, (evm n m).2.1, (evm n m).2.2) := by
  intro n
  induction n with
  | zero => intro m _ h; omega
  | succ n ih =>
    intro m hm hf hl
    cases m with
    | nil => exact Ev.up (g := fun _ => some (a, b, s, [], g, ⟨#[]⟩, false)) (EvE.of fun k => by simp only [spec_EvictMain.l0]; rw [if_neg (by simp)]) (Ev.now _)
    | cons x t =>
      have hl' : t.length + 1 ≤ 1048576 := by simpa using hl
      have h0 : ∀ k, spec_EvictMain.l0 (k + 1) a b s (x :: t) g = if x.f2 = 0 then some (a, b, s, t, g, x.f0, true) else spec_EvictMain.l0 k a b s (t ++ [less1 x]) g := fun k => by
        simp only [spec_EvictMain.l0, Option.bind_some, rd_0, List.drop_succ_cons, List.drop_zero, List.nil_append, List.length_nil]
        rw [if_pos (by simp), if_pos (by simp), if_pos (by simp; omega), if_pos (by omega), if_pos (show t.length < 3518437208883 by omega)]
        rfl
      by_cases c : x.f2 = 0
      · refine Ev.up (g := fun _ => some (a, b, s, t, g, x.f0, true)) (EvE.of fun k => by rw [h0, if_pos c]) ?_
        have e : evm (n + 1) (x :: t) = (t, x.f0, true) := by unfold evm; rw [if_pos c]
        rw [e]; exact Ev.now _
      · obtain ⟨h1, h2⟩ := okF_next hm c
        have e : evm (n + 1) (x :: t) = evm n (t ++ [less1 x]) := by conv => lhs; unfold evm
                                                                     rw [if_neg c]
        rw [e]
        exact Ev.up (EvE.of fun k => by rw [h0, if_neg c]) (ih _ h1 (by omega) (by simp; omega))
theorem impl_main_ev (a b : Int) (s : List S68) (g : List Int) : ∀ (n : Nat) (m : List S68), okF m → fsum m < n → m.length ≤ 1048576 → Ev (fun k => impl_Three_evictMain.l0 k a b s m g) ((evm n m).2.1, (evm n m).2.2, a, b, s, (evm n m).1, g) := by
  intro n
  induction n with
  | zero => intro m _ h; omega
  | succ n ih =>
    intro m hm hf hl
    cases m with
    | nil => exact Ev.up (g := fun _ => some (⟨#[]⟩, false, a, b, s, [], g)) (EvE.of fun k => by simp only [impl_Three_evictMain.l0]; rw [if_neg (by simp)]) (Ev.now _)
    | cons x t =>
      have hl' : t.length + 1 ≤ 1048576 := by simpa using hl
      have h0 : ∀ k, impl_Three_evictMain.l0 (k + 1) a b s (x :: t) g = if x.f2 = 0 then some (x.f0, true, a, b, s, t, g) else impl_Three_evictMain.l0 k a b s (t ++ [less1 x]) g := fun k => by
        have e1 : (1 : Int).toNat = 1 := rfl
        simp only [impl_Three_evictMain.l0, Option.bind_some, rd_0, e1, List.drop_succ_cons, List.drop_zero]
        rw [if_pos (by simp), if_pos (by simp), if_pos (by simp; omega), if_pos (show t.length < 3518437208883 by omega)]
        rfl
      by_cases c : x.f2 = 0
      · refine Ev.up (g := fun _ => some (x.f0, true, a, b, s, t, g)) (EvE.of fun k => by rw [h0, if_pos c]) ?_
        have e : evm (n + 1) (x :: t) = (t, x.f0, true) := by unfold evm; rw [if_pos c]
        rw [e]; exact Ev.now _
      · obtain ⟨h1, h2⟩ := okF_next hm c
        have e : evm (n + 1) (x :: t) = evm n (t ++ [less1 x]) := by conv => lhs; unfold evm
                                                                     rw [if_neg c]
        rw [e]
        exact Ev.up (EvE.of fun k => by rw [h0, if_neg c]) (ih _ h1 (by omega) (by simp; omega))
theorem spec_copy3 (a b : Int) (s m : List S68) (g : List Int) (h1 : s.length ≤ 1048576) (h2 : m.length ≤ 1048576) (h3 : g.length ≤ 1048576) : spec_l10Copy.f a b s m g = some (a, b, s, m, g) := by
  simp only [spec_l10Copy.f, Option.bind_some, List.length_nil, List.nil_append]; rw [if_pos (by omega), if_pos (by omega), if_pos (by omega)]
theorem impl_copyInts3 (g : List Int) (h3 : g.length ≤ 1048576) : impl_copyInts.f g = some g := by
  simp only [impl_copyInts.f, Option.bind_some, List.length_nil, List.nil_append]; rw [if_pos (by omega)]
theorem impl_copy3 (a b : Int) (s m : List S68) (g : List Int) (h1 : s.length ≤ 1048576) (h2 : m.length ≤ 1048576) (h3 : g.length ≤ 1048576) : impl_copyThree.f a b s m g = some (a, b, s, m, g) := by
  simp only [impl_copyThree.f, impl_copyItems_eq s h1, impl_copyItems_eq m h2, impl_copyInts3 g h3, Option.bind_some]
abbrev EvT := Int × Int × List S68 × List S68 × List Int × ByteArray × Bool
def evMainV (a b : Int) (s m : List S68) (g : List Int) : EvT := if threeOk a b s m g = true then (a, b, s, (evm (fsum m + 1) m).1, g, (evm (fsum m + 1) m).2.1, (evm (fsum m + 1) m).2.2) else (0, 0, [], [], [], ⟨#[]⟩, false)
theorem spec_EvictMain_ev (a b : Int) (s m : List S68) (g : List Int) (hg : g.length ≤ 1048576) (hl : SmallI (s ++ m)) : Ev (fun k => spec_EvictMain.f k a b s m g) (evMainV a b s m g) := by
  have hl1 := hl.1
  rw [List.length_append] at hl1
  have hO := spec_ThreeOk_ev a b s m g hg hl
  unfold evMainV
  by_cases c : threeOk a b s m g = true
  · rw [if_pos c]
    refine (evA hO (evP (spec_main_ev a b s g (fsum m + 1) m (okF_three c).2 (Nat.lt_succ_self _) (by omega)))).ev fun k ⟨e1, e2⟩ => ?_
    simp only [spec_EvictMain.f, e1, spec_copy3 a b s m g (by omega) (by omega) hg, Option.bind_some, e2]
    rw [if_pos c]
  · rw [if_neg c]
    refine (evP hO).ev fun k e1 => ?_
    simp only [spec_EvictMain.f, e1, Option.bind_some]
    rw [if_neg c]
def but (v : List Int) (x : Int) : List Int := v.filter fun y => !decide (y = x)
theorem spec_but_ev (v : List Int) (x : Int) (hv : v.length ≤ 1048576) : Ev (fun k => spec_l08But.f k v x) (but v x) := by
  have key := Ev.scan (fun k (s : List Int) i => spec_l08But.l0 k x s v (v.length : Int) i) v.length (fun i s => s.length ≤ i) (fun i s => s ++ but (v.drop i) x)
    (fun s _ => Ev.some_ fun k => by
      simp only [spec_l08But.l0]; rw [if_neg (by omega), List.drop_eq_nil_of_le (Nat.le_refl _)]; simp [but])
    (fun i s hi hs => by
      have hd : v.drop i = rd v (i : Int) :: v.drop (i + 1) := drop_rd v i hi
      have h0 : ∀ k, spec_l08But.l0 (k + 1) x s v (v.length : Int) (i : Int) = if rd v (i : Int) = x then spec_l08But.l0 k x s v (v.length : Int) ((i + 1 : Nat) : Int) else spec_l08But.l0 k x (s ++ [rd v (i : Int)]) v (v.length : Int) ((i + 1 : Nat) : Int) := fun k => by
        simp only [spec_l08But.l0]; have hb : s.length < 17592186044416 := by omega
        rw [if_pos (by omega), if_pos (by omega), if_pos (by omega), w64s hi (by omega), if_pos hb]
      by_cases c : rd v (i : Int) = x
      · refine .inr ⟨s, by omega, ?_, EvE.of fun k => by simp only [h0]; rw [if_pos c]⟩
        rw [hd]; unfold but; rw [List.filter_cons_of_neg (by simpa using c)]
      · refine .inr ⟨s ++ [rd v (i : Int)], by simp; omega, ?_, EvE.of fun k => by simp only [h0]; rw [if_neg c]⟩
        rw [hd]; unfold but; rw [List.filter_cons_of_pos (by simpa using c)]; simp) 0 [] (Nat.zero_le _) (Nat.le_refl _)
  simpa [spec_l08But.f] using key
def hstep (h b : Int) : Int := Int.tmod (wrap64 ((Go.bits .xor .i64 h (wrap64 b)) * 16777619)) 4294967296
def hashV (s : ByteArray) : Int := (bytesOf s).foldl hstep 2166136261
theorem spec_Hash_ev (s : ByteArray) (hs : s.size ≤ 9223372036854775807) : Ev (fun k => spec_Hash.f k s) (hashV s) := by
  have key := Ev.scan (fun k (h : Int) i => spec_Hash.l0 k s h i) s.size (fun _ _ => True) (fun i h => ((bytesOf s).drop i).foldl hstep h)
    (fun h _ => Ev.some_ fun k => by
      simp only [spec_Hash.l0]; rw [if_neg (by omega), List.drop_eq_nil_of_le (by rw [bytesOf_length]; exact Nat.le_refl _)]; rfl)
    (fun i h hi _ => .inr ⟨hstep h (bt s (i : Int)), trivial, by rw [drop_bt s i hi]; rfl, EvE.of fun k => by
      simp only [spec_Hash.l0]; rw [if_pos (by omega), if_pos (by omega), w64s hi hs]; rfl⟩) 0 2166136261 (Nat.zero_le _) trivial
  simpa [spec_Hash.f, hashV] using key
theorem impl_Hash_eq : ∀ k (s : ByteArray) (h i : Int), impl_Hash.l0 k s h i = spec_Hash.l0 k s h i
  | 0, _, _, _ => rfl
  | k + 1, s, h, i => by
    simp only [impl_Hash.l0, spec_Hash.l0]
    rw [impl_Hash_eq k]
theorem impl_Hash_ev (s : ByteArray) (hs : s.size ≤ 9223372036854775807) : Ev (fun k => impl_Hash.f k s) (hashV s) := by
  have h := spec_Hash_ev s hs
  have e : (fun k => impl_Hash.f k s) = fun k => spec_Hash.f k s := by funext k; exact impl_Hash_eq k s _ _
  rw [e]; exact h
def ghN (a b : Int) : Int := if wrap64 (a - b) < 1 then 1 else wrap64 (a - b)
def haunt (a b : Int) (g : List Int) (h : Int) : List Int := if ((but g h ++ [h]).length : Int) > ghN a b then (but g h ++ [h]).drop 1 else but g h ++ [h]
theorem but_len (g : List Int) (h : Int) : (but g h).length ≤ g.length := List.length_filter_le _ _
theorem haunt_len (a b : Int) (g : List Int) (h : Int) : (haunt a b g h).length ≤ g.length + 1 := by
  have := but_len g h
  unfold haunt
  split
  · rw [List.length_drop, List.length_append, List.length_singleton]; omega
  · rw [List.length_append, List.length_singleton]; omega
theorem spec_gh (a b : Int) (s m : List S68) (g : List Int) : spec_l10Ghosts.f a b s m g = some (ghN a b) := by
  unfold spec_l10Ghosts.f ghN; split <;> rfl
theorem impl_gh (a b : Int) (s m : List S68) (g : List Int) : impl_Three_ghosts.f a b s m g = some (ghN a b) := by
  unfold impl_Three_ghosts.f ghN mx
  congr 1
  by_cases c : wrap64 (a - b) < 1
  · rw [if_pos c, if_neg (by omega)]
  · rw [if_neg c]
    by_cases d : 1 < wrap64 (a - b)
    · rw [if_pos d]
    · rw [if_neg d]; omega
theorem impl_but (g : List Int) (h : Int) : slices_DeleteFunc_int_int.f g h = some (but g h) := by
  unfold slices_DeleteFunc_int_int.f
  cases g with
  | nil => rfl
  | cons y l => rw [if_pos (by simp)]; rfl
theorem spec_Haunt_ev (a b : Int) (s m : List S68) (g : List Int) (h : Int) (hg : g.length ≤ 1048576) : Ev (fun k => spec_l10Haunt.f k a b s m g h) (a, b, s, m, haunt a b g h) := by
  have hb := but_len g h
  refine (evP (spec_but_ev g h hg)).ev fun k e => ?_
  simp only [spec_l10Haunt.f, e, Option.bind_some, spec_gh]
  rw [if_pos (show (but g h).length < 17592186044416 by omega)]
  unfold haunt
  by_cases c : ((but g h ++ [h]).length : Int) > ghN a b
  · rw [if_pos c, if_pos c, if_pos (by simp; omega)]; rfl
  · rw [if_neg c, if_neg c]
def smallV (a b : Int) : List S68 → List S68 → List Int → List S68 × List S68 × List Int × ByteArray × Bool
  | [], m, g => ([], m, g, ⟨#[]⟩, false)
  | x :: t, m, g => if x.f2 > 1 then smallV a b t (m ++ [⟨x.f0, x.f1, 0⟩]) g else (t, m, haunt a b g (hashV x.f0), x.f0, true)
theorem smallV_len (a b : Int) : ∀ (s m : List S68) (g : List Int), (smallV a b s m g).1.length ≤ s.length ∧ (smallV a b s m g).2.1.length ≤ s.length + m.length ∧ (smallV a b s m g).2.2.1.length ≤ g.length + 1
  | [], m, g => ⟨Nat.le_refl _, by simp [smallV], by simp [smallV]⟩
  | x :: t, m, g => by
    unfold smallV
    split
    · have := smallV_len a b t (m ++ [⟨x.f0, x.f1, 0⟩]) g
      rw [show (m ++ [(⟨x.f0, x.f1, 0⟩ : S68)]).length = m.length + 1 from by simp] at this
      rw [List.length_cons]
      omega
    · have := haunt_len a b g (hashV x.f0)
      simp only [List.length_cons]; omega
theorem rd_00 (x : S68) (t : List S68) : rd_T68 (x :: t) 0 = x := rfl
theorem impl_small_ev (a b : Int) (g : List Int) (hg : g.length ≤ 1048576) : ∀ s m : List S68, (∀ x ∈ s, x.f0.size ≤ 9223372036854775807) → s.length + m.length ≤ 2097152 → Ev (fun k => impl_Three_evictSmall.l0 k a b s m g) ((smallV a b s m g).2.2.2.1, (smallV a b s m g).2.2.2.2, a, b, (smallV a b s m g).1, (smallV a b s m g).2.1, (smallV a b s m g).2.2.1)
  | [], m, hs, hl => Ev.up (g := fun _ => some (⟨#[]⟩, false, a, b, [], m, g)) (EvE.of fun k => by simp only [impl_Three_evictSmall.l0]; rw [if_neg (by simp)]) (Ev.now _)
  | x :: t, m, hs, hl => by
    have hl' : t.length + 1 + m.length ≤ 2097152 := by simpa using hl
    have e1 : (1 : Int).toNat = 1 := rfl
    have hb := but_len g (hashV x.f0)
    by_cases c : x.f2 > 1
    · have e : smallV a b (x :: t) m g = smallV a b t (m ++ [⟨x.f0, x.f1, 0⟩]) g := (smallV.eq_2 a b m g x t).trans (if_pos c)
      rw [e]
      refine Ev.up (EvE.of fun k => ?_) (impl_small_ev a b g hg t (m ++ [⟨x.f0, x.f1, 0⟩]) (fun y hy => hs y (List.mem_cons_of_mem _ hy)) (by simp; omega))
      simp only [impl_Three_evictSmall.l0, Option.bind_some, rd_00, e1, List.drop_succ_cons, List.drop_zero]
      rw [if_pos (by simp), if_pos (by simp), if_pos (by simp; omega), if_pos c, if_pos (by simp; omega)]
    · have e : smallV a b (x :: t) m g = (t, m, haunt a b g (hashV x.f0), x.f0, true) := (smallV.eq_2 a b m g x t).trans (if_neg c)
      rw [e]
      refine Ev.up (g := fun _ => some (x.f0, true, a, b, t, m, haunt a b g (hashV x.f0))) ((evP (impl_Hash_ev x.f0 (hs x (List.mem_cons_self ..)))).eve fun k e2 => ?_) (Ev.now _)
      simp only [impl_Three_evictSmall.l0, Option.bind_some, rd_00, e1, List.drop_succ_cons, List.drop_zero, e2, impl_but, impl_gh]
      rw [if_pos (by simp), if_pos (by simp), if_pos (by simp; omega), if_neg c, if_pos (by simp; omega)]
      unfold haunt
      by_cases d : ((but g (hashV x.f0) ++ [hashV x.f0]).length : Int) > ghN a b
      · rw [if_pos d, if_pos d, if_pos (by simp; omega)]
      · rw [if_neg d, if_neg d]
theorem spec_small_ev (a b : Int) (g : List Int) (hg : g.length ≤ 1048576) : ∀ s m : List S68, (∀ x ∈ s, x.f0.size ≤ 9223372036854775807) → s.length + m.length ≤ 2097152 → Ev (fun k => spec_EvictSmall.l0 k a b s m g) (a, b, (smallV a b s m g).1, (smallV a b s m g).2.1, (smallV a b s m g).2.2.1, (smallV a b s m g).2.2.2.1, (smallV a b s m g).2.2.2.2)
  | [], m, hs, hl => Ev.up (g := fun _ => some (a, b, [], m, g, ⟨#[]⟩, false)) (EvE.of fun k => by simp only [spec_EvictSmall.l0]; rw [if_neg (by simp)]) (Ev.now _)
  | x :: t, m, hs, hl => by
    have hl' : t.length + 1 + m.length ≤ 2097152 := by simpa using hl
    by_cases c : x.f2 > 1
    · have e : smallV a b (x :: t) m g = smallV a b t (m ++ [⟨x.f0, x.f1, 0⟩]) g := (smallV.eq_2 a b m g x t).trans (if_pos c)
      rw [e]
      refine Ev.up (EvE.of fun k => ?_) (spec_small_ev a b g hg t (m ++ [⟨x.f0, x.f1, 0⟩]) (fun y hy => hs y (List.mem_cons_of_mem _ hy)) (by simp; omega))
      simp only [spec_EvictSmall.l0, Option.bind_some, rd_00, List.drop_succ_cons, List.drop_zero, List.nil_append, List.length_nil]
      rw [if_pos (by simp), if_pos (by simp), if_pos (by simp; omega), if_pos (by omega), if_neg (by omega), if_pos (by omega)]
    · have e : smallV a b (x :: t) m g = (t, m, haunt a b g (hashV x.f0), x.f0, true) := (smallV.eq_2 a b m g x t).trans (if_neg c)
      rw [e]
      refine Ev.up (g := fun _ => some (a, b, t, m, haunt a b g (hashV x.f0), x.f0, true)) ((evA (spec_Hash_ev x.f0 (hs x (List.mem_cons_self ..))) (evP (spec_Haunt_ev a b t m g (hashV x.f0) hg))).eve fun k ⟨e2, e3⟩ => ?_) (Ev.now _)
      simp only [spec_EvictSmall.l0, Option.bind_some, rd_00, List.drop_succ_cons, List.drop_zero, List.nil_append, List.length_nil, e2, e3]
      rw [if_pos (by simp), if_pos (by simp), if_pos (by simp; omega), if_pos (by omega), if_pos (by omega)]
def evSmallV (a b : Int) (s m : List S68) (g : List Int) : EvT := if threeOk a b s m g = true then (a, b, smallV a b s m g) else (0, 0, [], [], [], ⟨#[]⟩, false)
theorem spec_EvictSmall_ev (a b : Int) (s m : List S68) (g : List Int) (hg : g.length ≤ 1048576) (hl : SmallI (s ++ m)) : Ev (fun k => spec_EvictSmall.f k a b s m g) (evSmallV a b s m g) := by
  have hl1 := hl.1
  rw [List.length_append] at hl1
  have hO := spec_ThreeOk_ev a b s m g hg hl
  unfold evSmallV
  by_cases c : threeOk a b s m g = true
  · rw [if_pos c]
    refine (evA hO (evP (spec_small_ev a b g hg s m (fun x hx => (hl.2 x (List.mem_append_left _ hx)).1) (by omega)))).ev fun k ⟨e1, e2⟩ => ?_
    simp only [spec_EvictSmall.f, e1, spec_copy3 a b s m g (by omega) (by omega) hg, Option.bind_some, e2]
    rw [if_pos c]
  · rw [if_neg c]
    refine (evP hO).ev fun k e1 => ?_
    simp only [spec_EvictSmall.f, e1, Option.bind_some]
    rw [if_neg c]
theorem impl_copy3x (a b : Int) (s m : List S68) (g : List Int) (h1 : s.length ≤ 2097152) (h2 : m.length ≤ 2097152) (h3 : g.length ≤ 2097152) : impl_copyThree.f a b s m g = some (a, b, s, m, g) := by
  simp only [impl_copyThree.f, impl_copyItems.f, impl_copyInts.f, Option.bind_some, List.length_nil, List.nil_append]
  rw [if_pos (by omega), Option.bind_some, if_pos (by omega), Option.bind_some, if_pos (by omega), Option.bind_some]
theorem rdI_mem (l : List S68) (x : S68) (h : x ∈ l) : ∃ i : Nat, i < l.length ∧ rdI l i = x := by
  obtain ⟨i, hi, rfl⟩ := List.getElem_of_mem h
  exact ⟨i, hi, rdI_get l i hi⟩
theorem atI_of (l : List S68) (hn : (l.map fun x => x.f0).Nodup) (i : Nat) (hi : i < l.length) : atI l (l[i]).f0 = (i : Int) := by
  have h1 : (l.any fun y => decide (y.f0 = (l[i]).f0)) = true := List.any_eq_true.2 ⟨l[i], List.getElem_mem hi, decide_eq_true rfl⟩
  unfold atI
  rw [if_pos h1]
  have h2 : l.findIdx (fun y => decide (y.f0 = (l[i]).f0)) = i := by
    rw [List.findIdx_eq hi]
    refine ⟨decide_eq_true rfl, fun j hj => decide_eq_false fun e => ?_⟩
    have := List.pairwise_iff_getElem.1 hn j i (by rw [List.length_map]; omega) (by rw [List.length_map]; omega) hj
    rw [List.getElem_map, List.getElem_map] at this
    exact this e
  rw [h2]
theorem areI_iff (l : List S68) : areI l = true ↔ (∀ x ∈ l, itemOk x.f0 x.f1 x.f2 = true) ∧ (l.map fun x => x.f0).Nodup := by
  constructor
  · intro h
    have h2 : ∀ i, i < l.length → itemOk (rdI l i).f0 (rdI l i).f1 (rdI l i).f2 = true ∧ atI l (rdI l i).f0 = (i : Int) := fun i hi => by
      unfold areI allN at h
      have := List.all_eq_true.1 h i (List.mem_range.2 hi)
      unfold okI at this
      simp only [Bool.and_eq_true, decide_eq_true_eq] at this
      exact this
    refine ⟨fun x hx => ?_, List.pairwise_iff_getElem.2 fun i j hi hj hij e => ?_⟩
    · obtain ⟨i, hi, rfl⟩ := rdI_mem l x hx
      exact (h2 i hi).1
    · rw [List.length_map] at hi hj
      rw [List.getElem_map, List.getElem_map] at e
      have e1 := (h2 i hi).2
      have e2 := (h2 j hj).2
      rw [rdI_get l i hi] at e1
      rw [rdI_get l j hj, ← e, e1] at e2
      omega
  · rintro ⟨h1, h2⟩
    unfold areI allN
    refine List.all_eq_true.2 fun i hi => ?_
    have hi := List.mem_range.1 hi
    have e : rd_T68 l (i : Int) = l[i] := rdI_get l i hi
    unfold okI
    rw [e, h1 _ (List.getElem_mem hi), atI_of l h2 i hi, decide_eq_true rfl]; rfl
def zeroF (x : S68) : S68 := ⟨x.f0, x.f1, 0⟩
theorem smallV_false (a b : Int) : ∀ (s m : List S68) (g : List Int), (smallV a b s m g).2.2.2.2 = false → smallV a b s m g = ([], m ++ s.map zeroF, g, ⟨#[]⟩, false)
  | [], m, g, _ => by simp [smallV]
  | x :: t, m, g, h => by
    rw [smallV.eq_2] at h ⊢
    by_cases c : x.f2 > 1
    · rw [if_pos c] at h ⊢
      rw [smallV_false a b t _ g h, List.map_cons]
      simp [zeroF]
    · rw [if_neg c] at h; cases h
theorem itemOk_zero {x : S68} (h : itemOk x.f0 x.f1 x.f2 = true) : itemOk (zeroF x).f0 (zeroF x).f1 (zeroF x).f2 = true := by
  unfold itemOk zeroF at *
  simp only [Bool.and_eq_true, decide_eq_true_eq] at *
  obtain ⟨h, _⟩ := h
  exact ⟨⟨h.1, by omega⟩, by omega⟩
theorem three_moved {a b : Int} {s m : List S68} {g : List Int} (h : threeOk a b s m g = true) : threeOk a b [] (m ++ s.map zeroF) g = true := by
  have ha := (areI_iff _).1 (three_are h)
  unfold threeOk at h ⊢
  simp only [Bool.and_eq_true, decide_eq_true_eq] at h ⊢
  obtain ⟨⟨⟨⟨h1, h2⟩, h3⟩, h4⟩, h5, h6⟩ := h
  refine ⟨⟨⟨⟨h1, h2⟩, ?_⟩, h4⟩, ?_, h6⟩
  · simp only [List.length_nil, List.length_append, List.length_map]; omega
  · refine (areI_iff _).2 ⟨fun x hx => ?_, ?_⟩
    · rw [List.nil_append] at hx
      rcases List.mem_append.1 hx with hx | hx
      · exact ha.1 x (List.mem_append_right _ hx)
      · obtain ⟨y, hy, rfl⟩ := List.mem_map.1 hx
        exact itemOk_zero (ha.1 y (List.mem_append_left _ hy))
    · have e : (s.map zeroF).map (fun x => x.f0) = s.map fun x => x.f0 := by rw [List.map_map]; rfl
      have h2 := ha.2
      rw [List.nil_append, List.map_append, e]
      rw [List.map_append] at h2
      exact (List.perm_append_comm.nodup_iff).1 h2
def coreM (a b : Int) (s m : List S68) (g : List Int) : EvT := (a, b, s, (evm (fsum m + 1) m).1, g, (evm (fsum m + 1) m).2.1, (evm (fsum m + 1) m).2.2)
def coreE (a b : Int) (s m : List S68) (g : List Int) : EvT :=
  if (s.length : Int) ≥ b ∨ m.length = 0 then (if (smallV a b s m g).2.2.2.2 = true then (a, b, smallV a b s m g) else coreM a b [] (m ++ s.map zeroF) g) else coreM a b s m g
def evictV (a b : Int) (s m : List S68) (g : List Int) : EvT := if threeOk a b s m g = true then coreE a b s m g else (0, 0, [], [], [], ⟨#[]⟩, false)
theorem coreM_of {a b : Int} {s m : List S68} {g : List Int} (h : threeOk a b s m g = true) : evMainV a b s m g = coreM a b s m g := by unfold evMainV; rw [if_pos h]; rfl
theorem small_moved {s m : List S68} (h : SmallI (s ++ m)) : SmallI (m ++ s.map zeroF) := by
  refine ⟨by have := h.1; simp only [List.length_append, List.length_map] at this ⊢; omega, fun x hx => ?_⟩
  rcases List.mem_append.1 hx with hx | hx
  · exact h.2 x (List.mem_append_right _ hx)
  · obtain ⟨y, hy, rfl⟩ := List.mem_map.1 hx
    exact h.2 y (List.mem_append_left _ hy)
theorem len0 (m : List S68) : (((m.length : Int) == 0) = true) = (m.length = 0) := by
  rw [beq_iff_eq]; exact propext (by omega)
theorem neither {b : Int} {s m : List S68} (d1 : ¬ (s.length : Int) ≥ b) (d2 : ((m.length : Int) == 0) = false) : ¬ ((s.length : Int) ≥ b ∨ m.length = 0) := fun h => by
  rcases h with h | h
  · exact d1 h
  · rw [(len0 m).mpr h] at d2; cases d2
theorem spec_Evict_ev (a b : Int) (s m : List S68) (g : List Int) (hg : g.length ≤ 1048576) (hl : SmallI (s ++ m)) : Ev (fun k => spec_Evict.f k a b s m g) (evictV a b s m g) := by
  have hO := spec_ThreeOk_ev a b s m g hg hl
  unfold evictV
  by_cases c : threeOk a b s m g = true
  · rw [if_pos c]
    have hS := spec_EvictSmall_ev a b s m g hg hl
    unfold evSmallV at hS
    rw [if_pos c] at hS
    have hM := spec_EvictMain_ev a b s m g hg hl
    rw [coreM_of c] at hM
    have hN := spec_EvictMain_ev a b [] (m ++ s.map zeroF) g hg (small_moved hl)
    rw [coreM_of (three_moved c)] at hN
    have hY : (s.length : Int) ≥ b ∨ m.length = 0 → Ev (fun k => spec_Evict.j0 k true a b s m g) (coreE a b s m g) := fun d => by
      unfold coreE
      rw [if_pos d]
      by_cases e : (smallV a b s m g).2.2.2.2 = true
      · rw [if_pos e]
        refine Ev.up (g := fun _ => some (a, b, smallV a b s m g)) ((evP hS).eve fun k e1 => ?_) (Ev.now _)
        simp only [spec_Evict.j0, e1, Option.bind_some, if_true]
        rw [if_pos e, ← e]
      · rw [if_neg e]
        have e0 := smallV_false a b s m g (by simpa using e)
        rw [e0] at hS
        refine Ev.up (g := fun _ => some (coreM a b [] (m ++ s.map zeroF) g)) ((evA hS (evP hN)).eve fun k ⟨e1, e2⟩ => ?_) (Ev.now _)
        simp only [spec_Evict.j0, e1, e2, Option.bind_some, if_true, Bool.false_eq_true, if_false]
    have hF : ¬ ((s.length : Int) ≥ b ∨ m.length = 0) → Ev (fun k => spec_Evict.j0 k false a b s m g) (coreE a b s m g) := fun d => by
      unfold coreE
      rw [if_neg d]
      refine Ev.up (g := fun _ => some (coreM a b s m g)) ((evP hM).eve fun k e1 => ?_) (Ev.now _)
      simp only [spec_Evict.j0, e1, Option.bind_some, Bool.false_eq_true, if_false]
    by_cases d1 : (s.length : Int) ≥ b
    · refine (evA hO (evP (hY (.inl d1)))).ev fun k ⟨e1, e2⟩ => ?_
      simp only [spec_Evict.f, e1, Option.bind_some]
      rw [if_pos c, if_pos d1, e2]
    · cases d2 : ((m.length : Int) == 0) with
      | true =>
        refine (evA hO (evP (hY (.inr ((len0 m).mp d2))))).ev fun k ⟨e1, e2⟩ => ?_
        simp only [spec_Evict.f, e1, Option.bind_some]
        rw [if_pos c, if_neg d1, d2, e2]
      | false =>
        refine (evA hO (evP (hF (neither d1 d2)))).ev fun k ⟨e1, e2⟩ => ?_
        simp only [spec_Evict.f, e1, Option.bind_some]
        rw [if_pos c, if_neg d1, d2, e2]
  · rw [if_neg c]
    refine (evP hO).ev fun k e1 => ?_
    simp only [spec_Evict.f, e1, Option.bind_some]
    rw [if_neg c]
/-- What the method tells: the key, whether one went, and the cache behind it. -/
def turnE (w : EvT) : ByteArray × Bool × Int × Int × List S68 × List S68 × List Int := (w.2.2.2.2.2.1, w.2.2.2.2.2.2, w.1, w.2.1, w.2.2.1, w.2.2.2.1, w.2.2.2.2.1)
theorem impl_Three_evict_ev (a b : Int) (s m : List S68) (g : List Int) (hg : g.length ≤ 1048576) (hl : SmallI (s ++ m)) (c : threeOk a b s m g = true) : Ev (fun k => impl_Three_evict.f k a b s m g) (turnE (coreE a b s m g)) := by
  have hl1 := hl.1
  rw [List.length_append] at hl1
  have hS := impl_small_ev a b g hg s m (fun x hx => (hl.2 x (List.mem_append_left _ hx)).1) (by omega)
  have hM := impl_main_ev a b s g (fsum m + 1) m (okF_three c).2 (Nat.lt_succ_self _) (by omega)
  have hN := impl_main_ev a b [] g (fsum (m ++ s.map zeroF) + 1) (m ++ s.map zeroF) (okF_three (three_moved c)).2 (Nat.lt_succ_self _) (small_moved hl).1
  have hY : (s.length : Int) ≥ b ∨ m.length = 0 → Ev (fun k => impl_Three_evict.j0 k true a b s m g) (turnE (coreE a b s m g)) := fun d => by
    unfold coreE
    rw [if_pos d]
    by_cases e : (smallV a b s m g).2.2.2.2 = true
    · rw [if_pos e]
      refine Ev.up (g := fun _ => some (turnE (a, b, smallV a b s m g))) ((evP hS).eve fun k e1 => ?_) (Ev.now _)
      simp only [impl_Three_evict.j0, impl_Three_evictSmall.f, e1, Option.bind_some, if_true]
      rw [if_pos e]; unfold turnE; simp only [e]
    · rw [if_neg e]
      have e0 := smallV_false a b s m g (by simpa using e)
      rw [e0] at hS
      refine Ev.up (g := fun _ => some (turnE (coreM a b [] (m ++ s.map zeroF) g))) ((evA hS (evP hN)).eve fun k ⟨e1, e2⟩ => ?_) (Ev.now _)
      simp only [impl_Three_evict.j0, impl_Three_evictSmall.f, impl_Three_evictMain.f, e1, e2, Option.bind_some, if_true, Bool.false_eq_true, if_false]
      rfl
  have hF : ¬ ((s.length : Int) ≥ b ∨ m.length = 0) → Ev (fun k => impl_Three_evict.j0 k false a b s m g) (turnE (coreE a b s m g)) := fun d => by
    unfold coreE
    rw [if_neg d]
    refine Ev.up (g := fun _ => some (turnE (coreM a b s m g))) ((evP hM).eve fun k e1 => ?_) (Ev.now _)
    simp only [impl_Three_evict.j0, impl_Three_evictMain.f, e1, Option.bind_some, Bool.false_eq_true, if_false]
    rfl
  by_cases d1 : (s.length : Int) ≥ b
  · refine (evP (hY (.inl d1))).ev fun k e2 => ?_
    simp only [impl_Three_evict.f]
    rw [if_pos d1, e2]
  · cases d2 : ((m.length : Int) == 0) with
    | true =>
      refine (evP (hY (.inr ((len0 m).mp d2)))).ev fun k e2 => ?_
      simp only [impl_Three_evict.f]
      rw [if_neg d1, d2, e2]
    | false =>
      refine (evP (hF (neither d1 d2))).ev fun k e2 => ?_
      simp only [impl_Three_evict.f]
      rw [if_neg d1, d2, e2]
theorem coreM_len (a b : Int) (s m : List S68) (g : List Int) : (coreM a b s m g).2.2.1.length ≤ s.length ∧ (coreM a b s m g).2.2.2.1.length ≤ m.length ∧ (coreM a b s m g).2.2.2.2.1.length ≤ g.length := ⟨Nat.le_refl _, evm_len _ m, Nat.le_refl _⟩
theorem coreE_len (a b : Int) (s m : List S68) (g : List Int) : (coreE a b s m g).2.2.1.length ≤ s.length ∧ (coreE a b s m g).2.2.2.1.length ≤ s.length + m.length ∧ (coreE a b s m g).2.2.2.2.1.length ≤ g.length + 1 := by
  have h1 := smallV_len a b s m g
  have h2 := coreM_len a b [] (m ++ s.map zeroF) g
  have h3 := coreM_len a b s m g
  rw [List.length_append, List.length_map] at h2
  unfold coreE
  split
  · split
    · exact h1
    · simp only [List.length_nil] at h2; omega
  · omega
def touch (l : List S68) (i : Nat) : List S68 := l.set i ⟨(rdI l i).f0, (rdI l i).f1, mn 3 (wrap64 ((rdI l i).f2 + 1))⟩
abbrev GetT := Int × Int × List S68 × List S68 × List Int × ByteArray × Bool
def getV (a b : Int) (s m : List S68) (g : List Int) (x : ByteArray) : GetT := if threeOk a b s m g = true then (if 0 ≤ atI s x then (a, b, touch s (atI s x).toNat, m, g, (rd_T68 s (atI s x)).f1, true) else if 0 ≤ atI m x then (a, b, s, touch m (atI m x).toNat, g, (rd_T68 m (atI m x)).f1, true) else (a, b, s, m, g, ⟨#[]⟩, false)) else (0, 0, [], [], [], ⟨#[]⟩, false)
theorem smallV_less (a b : Int) : ∀ (s m : List S68) (g : List Int), (smallV a b s m g).2.2.2.2 = true → (smallV a b s m g).1.length + (smallV a b s m g).2.1.length + 1 = s.length + m.length
  | [], m, g, h => by simp [smallV] at h
  | x :: t, m, g, h => by
    rw [smallV.eq_2] at h ⊢
    by_cases c : x.f2 > 1
    · rw [if_pos c] at h ⊢
      have := smallV_less a b t _ g h
      rw [show (m ++ [(⟨x.f0, x.f1, 0⟩ : S68)]).length = m.length + 1 from by simp] at this
      rw [List.length_cons]
      omega
    · rw [if_neg c, List.length_cons]; simp only; omega
theorem evm_less : ∀ (n : Nat) (m : List S68), okF m → m ≠ [] → fsum m < n → (evm n m).1.length + 1 = m.length
  | 0, m, _, _, h => by omega
  | n + 1, [], _, h, _ => absurd rfl h
  | n + 1, x :: t, hm, _, hf => by
    unfold evm
    by_cases c : x.f2 = 0
    · rw [if_pos c]; simp
    · obtain ⟨h1, h2⟩ := okF_next hm c
      rw [if_neg c]
      have := evm_less n _ h1 (by simp) (by omega)
      rw [show (t ++ [less1 x]).length = t.length + 1 from by simp] at this
      rw [List.length_cons]; omega
theorem coreM_less {a b : Int} {s m : List S68} {g : List Int} (h : threeOk a b s m g = true) (hm : m ≠ []) : (coreM a b s m g).2.2.1.length + (coreM a b s m g).2.2.2.1.length + 1 = s.length + m.length := by
  have := evm_less (fsum m + 1) m (okF_three h).2 hm (Nat.lt_succ_self _)
  show s.length + (evm (fsum m + 1) m).1.length + 1 = _
  omega
theorem coreE_less {a b : Int} {s m : List S68} {g : List Int} (h : threeOk a b s m g = true) (hn : 0 < s.length + m.length) : (coreE a b s m g).2.2.1.length + (coreE a b s m g).2.2.2.1.length + 1 = s.length + m.length := by
  unfold coreE
  split
  · split
    · rename_i c; exact smallV_less a b s m g c
    · have := coreM_less (three_moved h) (m := m ++ s.map zeroF) (fun e => by
        have := congrArg List.length e
        rw [List.length_append, List.length_map, List.length_nil] at this; omega)
      rw [List.length_append, List.length_map, List.length_nil] at this
      omega
  · rename_i c
    exact coreM_less h (fun e => c (.inr (by rw [e]; rfl)))
theorem coreE_ab (a b : Int) (s m : List S68) (g : List Int) : (coreE a b s m g).1 = a ∧ (coreE a b s m g).2.1 = b := by
  unfold coreE coreM; split
  · split <;> exact ⟨rfl, rfl⟩
  · exact ⟨rfl, rfl⟩
abbrev PutT := Int × Int × List S68 × List S68 × List Int × List ByteArray × Bool
def placeV (a b : Int) (s m : List S68) (g : List Int) (x v : ByteArray) (gone : List ByteArray) : PutT := if hasN g (hashV x) = true then (a, b, s, m ++ [⟨x, v, 0⟩], but g (hashV x), gone, true) else (a, b, s ++ [⟨x, v, 0⟩], m, g, gone, true)
def setV (l : List S68) (i : Nat) (v : ByteArray) : List S68 := l.set i ⟨(rdI l i).f0, v, (rdI l i).f2⟩
def newV (a b : Int) (s m : List S68) (g : List Int) (x v : ByteArray) : PutT := if (s.length : Int) + (m.length : Int) ≥ a then placeV (coreE a b s m g).1 (coreE a b s m g).2.1 (coreE a b s m g).2.2.1 (coreE a b s m g).2.2.2.1 (coreE a b s m g).2.2.2.2.1 x v [(coreE a b s m g).2.2.2.2.2.1] else placeV a b s m g x v []
def putC (a b : Int) (s m : List S68) (g : List Int) (x v : ByteArray) : PutT := if 0 ≤ atI s x then (a, b, touch (setV s (atI s x).toNat v) (atI s x).toNat, m, g, [], true) else if 0 ≤ atI m x then (a, b, s, touch (setV m (atI m x).toNat v) (atI m x).toNat, g, [], true) else newV a b s m g x v
def putV (a b : Int) (s m : List S68) (g : List Int) (x v : ByteArray) : PutT := if threeOk a b s m g = true ∧ itemOk x v 0 = true then putC a b s m g x v else (0, 0, [], [], [], [], false)
theorem impl_butP (g : List Int) (h : Int) : impl_Put_1.f g h = some (but g h) := by
  unfold impl_Put_1.f
  cases g with
  | nil => rfl
  | cons y l => rw [if_pos (by simp)]; rfl
theorem impl_Put_j1_ev (a b : Int) (s m : List S68) (g : List Int) (x v : ByteArray) (gone : List ByteArray) (hx : x.size ≤ 9223372036854775807) (h1 : s.length ≤ 1048576) (h2 : m.length ≤ 1048576) (h3 : g.length ≤ 1048576) : Ev (fun k => impl_Put.j1 k x v gone a b s m g) (placeV a b s m g x v gone) := by
  have hb := but_len g (hashV x)
  refine Ev.up (g := fun _ => some (placeV a b s m g x v gone)) ((evA (impl_Hash_ev x hx) (evP (slices_ContainsI_ev g (hashV x) h3))).eve fun k ⟨e1, e2⟩ => ?_) (Ev.now _)
  simp only [impl_Put.j1, e1, e2, Option.bind_some]
  unfold placeV
  cases hasN g (hashV x) with
  | true =>
    simp only [if_true]
    rw [impl_butP, Option.bind_some, if_pos (by omega), impl_copy3x a b s _ _ (by omega) (by simp; omega) (by omega)]; rfl
  | false =>
    simp only [Bool.false_eq_true, if_false]
    rw [if_pos (by omega), impl_copy3x a b _ m g (by simp; omega) (by omega) (by omega)]; rfl
theorem small_of {a b : Int} {s m : List S68} {g : List Int} (h : threeOk a b s m g = true) : SmallI (s ++ m) := by
  have hl := three_len h
  refine ⟨by rw [List.length_append]; omega, fun x hx => ?_⟩
  have := itemOk_sizes (((areI_iff _).1 (three_are h)).1 x hx)
  omega
theorem impl_Put_ev (a b : Int) (s m : List S68) (g : List Int) (x v : ByteArray) (hx : x.size ≤ 9223372036854775807) (hv : v.size ≤ 9223372036854775807) (hg : g.length ≤ 1048576) (hl : SmallI (s ++ m)) : Ev (fun k => impl_Put.f k a b s m g x v) (putV a b s m g x v) := by
  have hl1 := hl.1
  rw [List.length_append] at hl1
  have hO := impl_ThreeOk_ev a b s m g hg hl
  have hI := impl_ItemOk_ev x v 0 hx hv
  have hno : Ev (fun k => impl_Put.j0 k x v true a b s m g) ((0, 0, [], [], [], [], false) : PutT) := Ev.up (g := fun _ => some _) (EvE.of fun k => by simp only [impl_Put.j0, if_true]) (Ev.now _)
  unfold putV
  by_cases c : threeOk a b s m g = true
  case neg =>
    rw [if_neg (fun h => c h.1)]
    refine (evA hO (evP hno)).ev fun k ⟨e1, e2⟩ => ?_
    simp only [impl_Put.f, e1, Option.bind_some]
    rw [if_neg c, e2]
  by_cases d : itemOk x v 0 = true
  case neg =>
    rw [if_neg (fun h => d h.2)]
    rw [Bool.not_eq_true] at d
    rw [d] at hI
    refine (evA hO (evA hI (evP hno))).ev fun k ⟨e1, e2, e3⟩ => ?_
    simp only [impl_Put.f, e1, e2, Option.bind_some]
    rw [if_pos c]; simpa using e3
  rw [if_pos ⟨c, d⟩]
  rw [d] at hI
  have h3 := three_len c
  suffices hyes : Ev (fun k => impl_Put.j0 k x v false a b s m g) (putC a b s m g x v) by
    refine (evA hO (evA hI (evP hyes))).ev fun k ⟨e1, e2, e3⟩ => ?_
    simp only [impl_Put.f, e1, e2, Option.bind_some]
    rw [if_pos c]; simpa using e3
  have t1 := impl_itemAt_ev s x (by omega)
  have t2 := impl_itemAt_ev m x (by omega)
  have ha : a ≤ 60 ∧ 1 ≤ a ∧ (s.length : Int) + (m.length : Int) ≤ a := by
    have c' := c
    unfold threeOk at c'
    simp only [Bool.and_eq_true, decide_eq_true_eq] at c'
    omega
  have hw : wrap64 ((s.length : Int) + (m.length : Int)) = (s.length : Int) + (m.length : Int) := w64 (by omega) (by omega)
  unfold putC
  by_cases d1 : 0 ≤ atI s x
  · obtain ⟨i, ei, hi, _⟩ := at_lt s x d1
    rw [if_pos d1]
    rw [ei] at d1 t1 ⊢
    refine Ev.up (g := fun _ => some _) ((evP t1).eve fun k e1 => ?_) (Ev.now _)
    simp only [impl_Put.j0, Bool.false_eq_true, if_false, impl_copy3 a b s m g (by omega) (by omega) hg, Option.bind_some, e1]
    rw [if_pos (show (i : Int) ≥ 0 from d1), if_pos d1, if_pos (by omega), Int.toNat_natCast]
    rfl
  rw [if_neg d1]
  by_cases d2 : 0 ≤ atI m x
  · obtain ⟨j, ej, hj, _⟩ := at_lt m x d2
    rw [if_pos d2]
    rw [ej] at d2 t2 ⊢
    refine Ev.up (g := fun _ => some _) ((evA t1 (evP t2)).eve fun k ⟨e1, e2⟩ => ?_) (Ev.now _)
    simp only [impl_Put.j0, Bool.false_eq_true, if_false, impl_copy3 a b s m g (by omega) (by omega) hg, Option.bind_some, e1, e2]
    rw [if_neg (show ¬ atI s x ≥ 0 from d1), if_pos (show (j : Int) ≥ 0 from d2), if_pos d2, if_pos (by omega), Int.toNat_natCast]
    rfl
  rw [if_neg d2]
  unfold newV
  by_cases e : (s.length : Int) + (m.length : Int) ≥ a
  · rw [if_pos e]
    have hab := coreE_ab a b s m g
    have hn := coreE_len a b s m g
    have hlt := coreE_less c (by omega)
    have hw2 : ¬ wrap64 (((coreE a b s m g).2.2.1.length : Int) + ((coreE a b s m g).2.2.2.1.length : Int)) ≥ (coreE a b s m g).1 := by rw [hab.1, w64 (by omega) (by omega)]; omega
    refine Ev.up ((evA t1 (evA t2 (evP (impl_Three_evict_ev a b s m g hg hl c)))).eve fun k ⟨e1, e2, e3⟩ => ?_) (impl_Put_j1_ev (coreE a b s m g).1 (coreE a b s m g).2.1 (coreE a b s m g).2.2.1 (coreE a b s m g).2.2.2.1 (coreE a b s m g).2.2.2.2.1 x v [(coreE a b s m g).2.2.2.2.2.1] hx (by omega) (by omega) (by omega))
    simp only [impl_Put.j0, Bool.false_eq_true, if_false, impl_copy3 a b s m g (by omega) (by omega) hg, Option.bind_some, e1, e2]
    rw [if_neg (show ¬ atI s x ≥ 0 from d1), if_neg (show ¬ atI m x ≥ 0 from d2), hw, if_pos e, e3, Option.bind_some, if_pos (by simp)]
    exact if_neg hw2
  · rw [if_neg e]
    refine Ev.up ((evA t1 (evP t2)).eve fun k ⟨e1, e2⟩ => ?_) (impl_Put_j1_ev a b s m g x v [] hx (by omega) (by omega) (by omega))
    simp only [impl_Put.j0, Bool.false_eq_true, if_false, impl_copy3 a b s m g (by omega) (by omega) hg, Option.bind_some, e1, e2]
    rw [if_neg (show ¬ atI s x ≥ 0 from d1), if_neg (show ¬ atI m x ≥ 0 from d2), hw, if_neg e]
abbrev IT := S68
theorem xor_range (h b : Int) (h0 : 0 ≤ h ∧ h ≤ 4294967295) (b0 : 0 ≤ b ∧ b ≤ 255) : 0 ≤ Go.bits .xor .i64 h b ∧ Go.bits .xor .i64 h b ≤ 4294967295 := by
  obtain ⟨x, rfl⟩ : ∃ x : Nat, h = (x : Int) := ⟨h.toNat, by omega⟩
  obtain ⟨y, rfl⟩ : ∃ y : Nat, b = (y : Int) := ⟨b.toNat, by omega⟩
  unfold Go.bits
  rw [Go.IntKind.wrap_i64]
  have h1 : (BitVec.ofInt Go.IntKind.i64.bits (x : Int) ^^^ BitVec.ofInt Go.IntKind.i64.bits (y : Int)).toNat < 2 ^ 32 := by
    rw [BitVec.toNat_xor, BitVec.ofInt_natCast, BitVec.ofInt_natCast, BitVec.toNat_ofNat, BitVec.toNat_ofNat]
    show x % 2 ^ 64 ^^^ y % 2 ^ 64 < 2 ^ 32
    exact Nat.xor_lt_two_pow (by omega) (by omega)
  simp only
  omega
theorem bt_range (s : ByteArray) (i : Int) : 0 ≤ bt s i ∧ bt s i ≤ 255 := by
  unfold bt
  split
  · rename_i h
    have := (s[i.toNat]'h).toNat_lt
    omega
  · omega
theorem hstep_range (h b : Int) (h0 : 0 ≤ h ∧ h ≤ 4294967295) (b0 : 0 ≤ b ∧ b ≤ 255) : 0 ≤ hstep h b ∧ hstep h b ≤ 4294967295 := by
  have hb : wrap64 b = b := w64 (by omega) (by omega)
  have hx := xor_range h b h0 b0
  unfold hstep
  rw [hb, w64 (x := Go.bits .xor .i64 h b * 16777619) (by omega) (by omega), Int.tmod_eq_emod_of_nonneg (by omega)]
  omega
theorem hashV_range (s : ByteArray) : 0 ≤ hashV s ∧ hashV s ≤ 4294967295 := by
  have key : ∀ (l : List Int) (h : Int), (∀ b ∈ l, 0 ≤ b ∧ b ≤ 255) → 0 ≤ h ∧ h ≤ 4294967295 → 0 ≤ l.foldl hstep h ∧ l.foldl hstep h ≤ 4294967295 := by
    intro l
    induction l with
    | nil => intro h _ h0; exact h0
    | cons b l ih => intro h hb h0; exact ih _ (fun c hc => hb c (List.mem_cons_of_mem _ hc)) (hstep_range h b h0 (hb b (List.mem_cons_self ..)))
  refine key _ _ (fun b hb => ?_) (by omega)
  obtain ⟨i, hi, rfl⟩ := List.getElem_of_mem hb
  have e : (bytesOf s)[i] = bt s (i : Int) := by rw [bt_nat, List.getD_eq_getElem?_getD, List.getElem?_eq_getElem hi]; rfl
  rw [e]; exact bt_range s _
theorem hasN_iff (l : List Int) (x : Int) : hasN l x = true ↔ x ∈ l := by
  unfold hasN
  rw [List.any_eq_true]
  exact ⟨fun ⟨y, hy, e⟩ => of_decide_eq_true e ▸ hy, fun h => ⟨x, h, decide_eq_true rfl⟩⟩
theorem rd_get (g : List Int) (i : Nat) (h : i < g.length) : rd g (i : Int) = g[i] := by rw [rd_nat, List.getD_eq_getElem?_getD, List.getElem?_eq_getElem h]; rfl
theorem ghost_iff (g : List Int) : ghostOk g = true ↔ (∀ x ∈ g, 0 ≤ x ∧ x ≤ 4294967295) ∧ g.Nodup := by
  have e : ghostOk g = true ↔ ∀ i, (h : i < g.length) → (0 ≤ g[i] ∧ g[i] ≤ 4294967295) ∧ ¬ g[i] ∈ g.take i := by
    unfold ghostOk allN
    rw [List.all_eq_true]
    constructor
    · intro h i hi
      have := h i (List.mem_range.2 hi)
      unfold ghostI at this
      rw [rd_get g i hi] at this
      simp only [Bool.and_eq_true, decide_eq_true_eq, Bool.not_eq_true'] at this
      refine ⟨this.1, fun hm => ?_⟩
      rw [(hasN_iff _ _).2 hm] at this; exact absurd this.2 (by simp)
    · intro h i hi
      have hi := List.mem_range.1 hi
      have := h i hi
      unfold ghostI
      rw [rd_get g i hi, decide_eq_true this.1, Bool.true_and, Bool.not_eq_true']
      cases c : hasN (g.take i) g[i] with
      | false => rfl
      | true => exact absurd ((hasN_iff _ _).1 c) this.2
  rw [e]
  constructor
  · intro h
    refine ⟨fun x hx => ?_, List.pairwise_iff_getElem.2 fun i j hi hj hij e => ?_⟩
    · obtain ⟨i, hi, rfl⟩ := List.getElem_of_mem hx
      exact (h i hi).1
    · exact (h j hj).2 (List.mem_iff_getElem.2 ⟨i, by rw [List.length_take]; omega, by rw [List.getElem_take]; exact e⟩)
  · rintro ⟨h1, h2⟩ i hi
    refine ⟨h1 _ (List.getElem_mem hi), fun hm => ?_⟩
    obtain ⟨j, hj, e⟩ := List.getElem_of_mem hm
    rw [List.length_take] at hj
    rw [List.getElem_take] at e
    exact List.pairwise_iff_getElem.1 h2 j i (by omega) hi (by omega) e
/-- A right cache, in parts. -/
def ThreeP (a b : Int) (s m : List IT) (g : List Int) : Prop := (1 ≤ a ∧ a ≤ 60) ∧ (1 ≤ b ∧ b ≤ a) ∧ (s.length : Int) + (m.length : Int) ≤ a ∧ (g.length : Int) ≤ ghostsN a b ∧ (∀ x ∈ s ++ m, itemOk x.f0 x.f1 x.f2 = true) ∧ ((s ++ m).map fun x => x.f0).Nodup ∧ (∀ x ∈ g, 0 ≤ x ∧ x ≤ 4294967295) ∧ g.Nodup
theorem three_iff (a b : Int) (s m : List IT) (g : List Int) : threeOk a b s m g = true ↔ ThreeP a b s m g := by
  unfold threeOk ThreeP
  simp only [Bool.and_eq_true, decide_eq_true_eq]
  rw [areI_iff, ghost_iff]
  constructor
  · rintro ⟨⟨⟨⟨h1, h2⟩, h3⟩, h4⟩, ⟨h5, h6⟩, h7, h8⟩; exact ⟨h1, h2, h3, h4, h5, h6, h7, h8⟩
  · rintro ⟨h1, h2, h3, h4, h5, h6, h7, h8⟩; exact ⟨⟨⟨⟨h1, h2⟩, h3⟩, h4⟩, ⟨h5, h6⟩, h7, h8⟩
theorem ghN_eq (a b : Int) (h : 1 ≤ a ∧ a ≤ 60) (h2 : 1 ≤ b ∧ b ≤ a) : ghN a b = ghostsN a b := by
  unfold ghN ghostsN; rw [w64 (x := a - b) (by omega) (by omega)]
theorem but_keep {g : List Int} {h : Int} (h1 : ∀ x ∈ g, 0 ≤ x ∧ x ≤ 4294967295) (h2 : g.Nodup) : (∀ x ∈ but g h, 0 ≤ x ∧ x ≤ 4294967295) ∧ (but g h).Nodup ∧ ¬ h ∈ but g h :=
  ⟨fun x hx => h1 x ((List.mem_filter.1 hx).1), List.Pairwise.sublist List.filter_sublist h2, fun hm => by have := (List.mem_filter.1 hm).2; simp at this⟩
theorem haunt_keep {a b : Int} {g : List Int} (ha : 1 ≤ a ∧ a ≤ 60) (hb : 1 ≤ b ∧ b ≤ a) (hl : (g.length : Int) ≤ ghostsN a b) (h1 : ∀ x ∈ g, 0 ≤ x ∧ x ≤ 4294967295) (h2 : g.Nodup) (h : Int) (hh : 0 ≤ h ∧ h ≤ 4294967295) : ((haunt a b g h).length : Int) ≤ ghostsN a b ∧ (∀ x ∈ haunt a b g h, 0 ≤ x ∧ x ≤ 4294967295) ∧ (haunt a b g h).Nodup ∧ h ∈ haunt a b g h := by
  obtain ⟨k1, k2, k3⟩ := but_keep (h := h) h1 h2
  have hbl := but_len g h
  have hp : 1 ≤ ghostsN a b := by unfold ghostsN; split <;> omega
  have r : ∀ x ∈ but g h ++ [h], 0 ≤ x ∧ x ≤ 4294967295 := fun x hx => by
    rcases List.mem_append.1 hx with hx | hx
    · exact k1 x hx
    · rw [List.mem_singleton.1 hx]; exact hh
  have nd : (but g h ++ [h]).Nodup := List.nodup_append.2 ⟨k2, by simp, fun x hx y hy e => k3 (by rw [List.mem_singleton.1 hy] at e; exact e ▸ hx)⟩
  have hlen : (but g h ++ [h]).length = (but g h).length + 1 := by simp
  unfold haunt
  rw [ghN_eq a b ha hb]
  split
  · rename_i c
    refine ⟨by rw [List.length_drop, hlen]; omega, fun x hx => r x (List.mem_of_mem_drop hx), List.Pairwise.sublist (List.drop_sublist _ _) nd, ?_⟩
    have hne : but g h ≠ [] := fun e => by rw [e] at c; simp at c; omega
    obtain ⟨y, l, e⟩ := List.exists_cons_of_ne_nil hne
    rw [e]; simp
  · rename_i c
    exact ⟨by omega, r, nd, by simp⟩
def kv (x : IT) : ByteArray × ByteArray := (x.f0, x.f1)
theorem keys_kv (l : List IT) : (l.map fun x => x.f0) = (l.map kv).map Prod.fst := by rw [List.map_map]; rfl
theorem smallV_perm (a b : Int) : ∀ (s m : List IT) (g : List Int), (smallV a b s m g).2.2.2.2 = true → (∃ v, ((s ++ m).map kv).Perm (((smallV a b s m g).2.2.2.1, v) :: ((smallV a b s m g).1 ++ (smallV a b s m g).2.1).map kv)) ∧ (smallV a b s m g).2.2.1 = haunt a b g (hashV (smallV a b s m g).2.2.2.1)
  | [], m, g, h => by simp [smallV] at h
  | x :: t, m, g, h => by
    rw [smallV.eq_2] at h ⊢
    by_cases c : x.f2 > 1
    · rw [if_pos c] at h ⊢
      obtain ⟨⟨v, hv⟩, e⟩ := smallV_perm a b t _ g h
      refine ⟨⟨v, List.Perm.trans ?_ hv⟩, e⟩
      rw [List.cons_append, List.map_cons, ← List.append_assoc, List.map_append (l₁ := t ++ m)]
      exact (List.perm_append_singleton (kv x) ((t ++ m).map kv)).symm
    · rw [if_neg c]
      exact ⟨⟨x.f1, List.Perm.refl _⟩, rfl⟩
theorem smallV_okF (a b : Int) : ∀ (s m : List IT) (g : List Int), okF (s ++ m) → okF ((smallV a b s m g).1 ++ (smallV a b s m g).2.1)
  | [], m, g, h => by simpa [smallV] using h
  | x :: t, m, g, h => by
    rw [smallV.eq_2]
    by_cases c : x.f2 > 1
    · rw [if_pos c]
      refine smallV_okF a b t _ g fun y hy => ?_
      rw [← List.append_assoc] at hy
      rcases List.mem_append.1 hy with hy | hy
      · exact h y (List.mem_cons_of_mem _ hy)
      · rw [List.mem_singleton.1 hy]; exact ⟨Int.le_refl 0, show (0 : Int) ≤ 3 by omega⟩
    · rw [if_neg c]
      exact fun y hy => h y (List.mem_cons_of_mem _ hy)
theorem evm_perm : ∀ (n : Nat) (m : List IT), okF m → m ≠ [] → fsum m < n → (evm n m).2.2 = true ∧ okF (evm n m).1 ∧ ∃ v, (m.map kv).Perm (((evm n m).2.1, v) :: (evm n m).1.map kv)
  | 0, m, _, _, h => by omega
  | n + 1, [], _, h, _ => absurd rfl h
  | n + 1, x :: t, hm, _, hf => by
    unfold evm
    by_cases c : x.f2 = 0
    · rw [if_pos c]
      exact ⟨rfl, fun y hy => hm y (List.mem_cons_of_mem _ hy), x.f1, List.Perm.refl _⟩
    · obtain ⟨h1, h2⟩ := okF_next hm c
      rw [if_neg c]
      obtain ⟨e, k, v, hv⟩ := evm_perm n _ h1 (by simp) (by omega)
      refine ⟨e, k, v, List.Perm.trans ?_ hv⟩
      rw [List.map_cons, List.map_append]
      exact (List.perm_append_singleton (kv x) (t.map kv)).symm
theorem kv_zero (l : List IT) : (l.map zeroF).map kv = l.map kv := by rw [List.map_map]; rfl
theorem okF_all {a b : Int} {s m : List IT} {g : List Int} (h : threeOk a b s m g = true) : okF (s ++ m) := fun y hy => by
  rcases List.mem_append.1 hy with hy | hy
  · exact (okF_three h).1 y hy
  · exact (okF_three h).2 y hy
theorem coreM_perm {a b : Int} {s m : List IT} {g : List Int} (h : threeOk a b s m g = true) (hm : m ≠ []) : (coreM a b s m g).2.2.2.2.2.2 = true ∧ okF ((coreM a b s m g).2.2.1 ++ (coreM a b s m g).2.2.2.1) ∧ ∃ v, ((s ++ m).map kv).Perm (((coreM a b s m g).2.2.2.2.2.1, v) :: ((coreM a b s m g).2.2.1 ++ (coreM a b s m g).2.2.2.1).map kv) := by
  obtain ⟨e, k, v, hv⟩ := evm_perm (fsum m + 1) m (okF_three h).2 hm (Nat.lt_succ_self _)
  refine ⟨e, fun y hy => ?_, v, ?_⟩
  · rcases List.mem_append.1 hy with hy | hy
    · exact (okF_three h).1 y hy
    · exact k y hy
  · show ((s ++ m).map kv).Perm (((evm (fsum m + 1) m).2.1, v) :: (s ++ (evm (fsum m + 1) m).1).map kv)
    rw [List.map_append, List.map_append]
    exact List.Perm.trans (List.Perm.append_left _ hv) List.perm_middle
theorem coreE_perm {a b : Int} {s m : List IT} {g : List Int} (h : threeOk a b s m g = true) (hn : 0 < s.length + m.length) : (coreE a b s m g).2.2.2.2.2.2 = true ∧ okF ((coreE a b s m g).2.2.1 ++ (coreE a b s m g).2.2.2.1) ∧ (∃ v, ((s ++ m).map kv).Perm (((coreE a b s m g).2.2.2.2.2.1, v) :: ((coreE a b s m g).2.2.1 ++ (coreE a b s m g).2.2.2.1).map kv)) ∧ ((coreE a b s m g).2.2.2.2.1 = g ∨ (coreE a b s m g).2.2.2.2.1 = haunt a b g (hashV (coreE a b s m g).2.2.2.2.2.1)) := by
  unfold coreE
  split
  · split
    · rename_i c
      obtain ⟨hv, e⟩ := smallV_perm a b s m g c
      exact ⟨c, smallV_okF a b s m g (okF_all h), hv, .inr e⟩
    · obtain ⟨e, k, v, hv⟩ := coreM_perm (three_moved h) (m := m ++ s.map zeroF) (fun e => by
        have := congrArg List.length e
        rw [List.length_append, List.length_map, List.length_nil] at this; omega)
      refine ⟨e, k, ⟨v, List.Perm.trans ?_ hv⟩, .inl rfl⟩
      rw [List.nil_append, List.map_append, List.map_append, kv_zero]
      exact List.perm_append_comm
  · rename_i c
    obtain ⟨e, k, hv⟩ := coreM_perm h (fun e => c (.inr (by rw [e]; rfl)))
    exact ⟨e, k, hv, .inl rfl⟩
theorem itemOk_kv {x y : IT} (h : itemOk x.f0 x.f1 x.f2 = true) (e : kv y = kv x) (hf : 0 ≤ y.f2 ∧ y.f2 ≤ 3) : itemOk y.f0 y.f1 y.f2 = true := by
  have e1 : y.f0 = x.f0 := congrArg Prod.fst e
  have e2 : y.f1 = x.f1 := congrArg Prod.snd e
  rw [e1, e2]
  unfold itemOk at *
  simp only [Bool.and_eq_true, decide_eq_true_eq] at *
  exact ⟨⟨h.1.1, hf.1⟩, hf.2⟩
/-- What is gone leaves a right cache. -/
theorem gone_keep {a b : Int} {s m s' m' : List IT} {g g' : List Int} {k v : ByteArray} (h : threeOk a b s m g = true) (hp : ((s ++ m).map kv).Perm ((k, v) :: (s' ++ m').map kv)) (hf : okF (s' ++ m')) (hg : g' = g ∨ g' = haunt a b g (hashV k)) : threeOk a b s' m' g' = true := by
  obtain ⟨h1, h2, h3, h4, h5, h6, h7, h8⟩ := (three_iff a b s m g).1 h
  have hl := hp.length_eq
  rw [List.length_cons, List.length_map, List.length_map, List.length_append, List.length_append] at hl
  have hgs : (g'.length : Int) ≤ ghostsN a b ∧ (∀ x ∈ g', 0 ≤ x ∧ x ≤ 4294967295) ∧ g'.Nodup := by
    rcases hg with rfl | rfl
    · exact ⟨h4, h7, h8⟩
    · have := haunt_keep h1 h2 h4 h7 h8 (hashV k) (hashV_range k)
      exact ⟨this.1, this.2.1, this.2.2.1⟩
  refine (three_iff a b s' m' g').2 ⟨h1, h2, by omega, hgs.1, fun x hx => ?_, ?_, hgs.2.1, hgs.2.2⟩
  · obtain ⟨y, hy, e⟩ := List.mem_map.1 (hp.mem_iff.2 (List.mem_cons_of_mem _ (List.mem_map.2 ⟨x, hx, rfl⟩)))
    exact itemOk_kv (h5 y hy) e.symm (hf x hx)
  · rw [keys_kv] at h6 ⊢
    have := (hp.map Prod.fst).nodup_iff.1 h6
    rw [List.map_cons] at this
    exact (List.nodup_cons.1 this).2
theorem coreE_keep {a b : Int} {s m : List IT} {g : List Int} (h : threeOk a b s m g = true) (hn : 0 < s.length + m.length) : threeOk a b (coreE a b s m g).2.2.1 (coreE a b s m g).2.2.2.1 (coreE a b s m g).2.2.2.2.1 = true := by
  obtain ⟨_, k, ⟨v, hv⟩, hg⟩ := coreE_perm h hn
  exact gone_keep h hv k hg
theorem at_not (l : List IT) (x : ByteArray) (h : ¬ 0 ≤ atI l x) : ¬ x ∈ l.map fun y => y.f0 := fun hm => by
  obtain ⟨y, hy, e⟩ := List.mem_map.1 hm
  have : (l.any fun y => decide (y.f0 = x)) = true := List.any_eq_true.2 ⟨y, hy, decide_eq_true e⟩
  unfold atI at h
  rw [if_pos this] at h
  omega
theorem place_keep {a b : Int} {s m : List IT} {g : List Int} (h : threeOk a b s m g = true) (x v : ByteArray) (hr : (s.length : Int) + (m.length : Int) < a) (hx : ¬ x ∈ (s ++ m).map fun y => y.f0) (hi : itemOk x v 0 = true) (l : List ByteArray) : threeOk a b (placeV a b s m g x v l).2.2.1 (placeV a b s m g x v l).2.2.2.1 (placeV a b s m g x v l).2.2.2.2.1 = true ∧ (((placeV a b s m g x v l).2.2.1 ++ (placeV a b s m g x v l).2.2.2.1).map kv).Perm ((x, v) :: (s ++ m).map kv) ∧ (placeV a b s m g x v l).1 = a ∧ (placeV a b s m g x v l).2.1 = b ∧ (placeV a b s m g x v l).2.2.2.2.2 = (l, true) := by
  obtain ⟨h1, h2, h3, h4, h5, h6, h7, h8⟩ := (three_iff a b s m g).1 h
  have nd : (x :: (s ++ m).map fun y => y.f0).Nodup := List.nodup_cons.2 ⟨hx, h6⟩
  have hg := but_keep (h := hashV x) h7 h8
  have hbl := but_len g (hashV x)
  have key : ∀ (s' m' : List IT) (g' : List Int), (s' ++ m').Perm (⟨x, v, 0⟩ :: (s ++ m)) → (g'.length : Int) ≤ ghostsN a b → (∀ x ∈ g', 0 ≤ x ∧ x ≤ 4294967295) → g'.Nodup → threeOk a b s' m' g' = true := fun s' m' g' hp k1 k2 k3 => by
    have hl := hp.length_eq
    rw [List.length_cons, List.length_append, List.length_append] at hl
    refine (three_iff a b s' m' g').2 ⟨h1, h2, by omega, k1, fun y hy => ?_, ?_, k2, k3⟩
    · rcases List.mem_cons.1 (hp.mem_iff.1 hy) with rfl | hy
      · exact hi
      · exact h5 y hy
    · exact (hp.map (fun y : IT => y.f0)).nodup_iff.2 nd
  unfold placeV
  split
  · have hp : (s ++ (m ++ [(⟨x, v, 0⟩ : IT)])).Perm (⟨x, v, 0⟩ :: (s ++ m)) := by rw [← List.append_assoc]; exact List.perm_append_singleton _ _
    exact ⟨key _ _ _ hp (show ((but g (hashV x)).length : Int) ≤ ghostsN a b by omega) hg.1 hg.2.1, hp.map kv, rfl, rfl, rfl⟩
  · have hp : ((s ++ [(⟨x, v, 0⟩ : IT)]) ++ m).Perm (⟨x, v, 0⟩ :: (s ++ m)) := by rw [List.append_assoc]; exact List.perm_middle
    exact ⟨key _ _ _ hp h4 h7 h8, hp.map kv, rfl, rfl, rfl⟩
theorem mn3 (f : Int) (h0 : 0 ≤ f) (h1 : f ≤ 3) : 0 ≤ mn 3 (wrap64 (f + 1)) ∧ mn 3 (wrap64 (f + 1)) ≤ 3 := by
  rw [w64 (x := f + 1) (by omega) (by omega)]
  unfold mn; split <;> omega
/-- A row in which one item's value and number are told anew. -/
theorem set_keys (l : List IT) (i : Nat) (hi : i < l.length) (v : ByteArray) (f : Int) : ((l.set i ⟨(rdI l i).f0, v, f⟩).map fun x => x.f0) = l.map fun x => x.f0 := by
  rw [List.map_set]
  have : (rdI l i).f0 = (l.map fun x => x.f0)[i]'(by rw [List.length_map]; exact hi) := by rw [List.getElem_map, rdI_get l i hi]
  simp only
  rw [this, List.set_getElem_self]
theorem set_kv (l : List IT) (i : Nat) (hi : i < l.length) (f : Int) : (l.set i ⟨(rdI l i).f0, (rdI l i).f1, f⟩).map kv = l.map kv := by
  rw [List.map_set]
  have : kv ⟨(rdI l i).f0, (rdI l i).f1, f⟩ = (l.map kv)[i]'(by rw [List.length_map]; exact hi) := by rw [List.getElem_map, rdI_get l i hi]; rfl
  rw [this, List.set_getElem_self]
theorem set_keep {a b : Int} {s m s' m' : List IT} {g : List Int} (h : threeOk a b s m g = true) (hk : ((s' ++ m').map fun x => x.f0) = (s ++ m).map fun x => x.f0) (hl : (s'.length : Int) + m'.length = s.length + m.length) (hi : ∀ x ∈ s' ++ m', x ∈ s ++ m ∨ itemOk x.f0 x.f1 x.f2 = true) : threeOk a b s' m' g = true := by
  obtain ⟨h1, h2, h3, h4, h5, h6, h7, h8⟩ := (three_iff a b s m g).1 h
  exact (three_iff a b s' m' g).2 ⟨h1, h2, by omega, h4, fun x hx => (hi x hx).elim (h5 x) id, by rw [hk]; exact h6, h7, h8⟩
theorem itemOk_f {x v : ByteArray} {f f' : Int} (h : itemOk x v f = true) (hf : 0 ≤ f' ∧ f' ≤ 3) : itemOk x v f' = true := by
  unfold itemOk at *
  simp only [Bool.and_eq_true, decide_eq_true_eq] at *
  exact ⟨⟨h.1.1, hf.1⟩, hf.2⟩
theorem touch_set (l : List IT) (i : Nat) (v : ByteArray) (h : i < l.length) : touch (setV l i v) i = l.set i ⟨(rdI l i).f0, v, mn 3 (wrap64 ((rdI l i).f2 + 1))⟩ := by
  have e : rdI (setV l i v) i = ⟨(rdI l i).f0, v, (rdI l i).f2⟩ := by
    rw [rdI_get _ i (by unfold setV; rw [List.length_set]; exact h)]
    unfold setV; rw [List.getElem_set_self]
  unfold touch; rw [e]; unfold setV; rw [List.set_set]
/-- One item of Small, or of Main, is told anew. -/
theorem set_left {a b : Int} {s m : List IT} {g : List Int} (h : threeOk a b s m g = true) (i : Nat) (hi : i < s.length) (v : ByteArray) (f : Int) (ho : itemOk (rdI s i).f0 v f = true) : threeOk a b (s.set i ⟨(rdI s i).f0, v, f⟩) m g = true := by
  refine set_keep h (by rw [List.map_append, set_keys s i hi, List.map_append]) (by rw [List.length_set]) fun x hx => ?_
  rcases List.mem_append.1 hx with hx | hx
  · rcases List.mem_or_eq_of_mem_set hx with hx | rfl
    · exact .inl (List.mem_append_left _ hx)
    · exact .inr ho
  · exact .inl (List.mem_append_right _ hx)
theorem set_right {a b : Int} {s m : List IT} {g : List Int} (h : threeOk a b s m g = true) (i : Nat) (hi : i < m.length) (v : ByteArray) (f : Int) (ho : itemOk (rdI m i).f0 v f = true) : threeOk a b s (m.set i ⟨(rdI m i).f0, v, f⟩) g = true := by
  refine set_keep h (by rw [List.map_append, set_keys m i hi, List.map_append]) (by rw [List.length_set]) fun x hx => ?_
  rcases List.mem_append.1 hx with hx | hx
  · exact .inl (List.mem_append_left _ hx)
  · rcases List.mem_or_eq_of_mem_set hx with hx | rfl
    · exact .inl (List.mem_append_right _ hx)
    · exact .inr ho
theorem ok_at {a b : Int} {s m : List IT} {g : List Int} (h : threeOk a b s m g = true) : (∀ i, i < s.length → itemOk (rdI s i).f0 (rdI s i).f1 (rdI s i).f2 = true ∧ 0 ≤ (rdI s i).f2 ∧ (rdI s i).f2 ≤ 3) ∧ (∀ i, i < m.length → itemOk (rdI m i).f0 (rdI m i).f1 (rdI m i).f2 = true ∧ 0 ≤ (rdI m i).f2 ∧ (rdI m i).f2 ≤ 3) := by
  have h5 := ((three_iff a b s m g).1 h).2.2.2.2.1
  have ho := okF_all h
  refine ⟨fun i hi => ?_, fun i hi => ?_⟩
  · have hm : rdI s i ∈ s ++ m := List.mem_append_left _ (by rw [rdI_get s i hi]; exact List.getElem_mem hi)
    exact ⟨h5 _ hm, ho _ hm⟩
  · have hm : rdI m i ∈ s ++ m := List.mem_append_right _ (by rw [rdI_get m i hi]; exact List.getElem_mem hi)
    exact ⟨h5 _ hm, ho _ hm⟩
theorem get_keep {a b : Int} {s m : List IT} {g : List Int} (h : threeOk a b s m g = true) (x : ByteArray) : threeOk a b (getV a b s m g x).2.2.1 (getV a b s m g x).2.2.2.1 (getV a b s m g x).2.2.2.2.1 = true ∧ ((getV a b s m g x).2.2.1 ++ (getV a b s m g x).2.2.2.1).map kv = (s ++ m).map kv ∧ (getV a b s m g x).1 = a ∧ (getV a b s m g x).2.1 = b := by
  obtain ⟨ho1, ho2⟩ := ok_at h
  unfold getV
  rw [if_pos h]
  by_cases d1 : 0 ≤ atI s x
  · obtain ⟨i, ei, hi, _⟩ := at_lt s x d1
    rw [if_pos d1, ei, Int.toNat_natCast]
    have o := ho1 i hi
    refine ⟨set_left h i hi _ _ (itemOk_f o.1 (mn3 _ o.2.1 o.2.2)), ?_, rfl, rfl⟩
    simp only [touch]
    rw [List.map_append, set_kv s i hi, List.map_append]
  · rw [if_neg d1]
    by_cases d2 : 0 ≤ atI m x
    · obtain ⟨i, ei, hi, _⟩ := at_lt m x d2
      rw [if_pos d2, ei, Int.toNat_natCast]
      have o := ho2 i hi
      refine ⟨set_right h i hi _ _ (itemOk_f o.1 (mn3 _ o.2.1 o.2.2)), ?_, rfl, rfl⟩
      simp only [touch]
      rw [List.map_append, set_kv m i hi, List.map_append]
    · rw [if_neg d2]; exact ⟨h, rfl, rfl, rfl⟩
theorem set_mem {α β : Type} (l : List (α × β)) (i : Nat) (hi : i < l.length) (x : α) (v : β) (hx : (l[i]).1 = x) (K : α) (V : β) (hK : K ≠ x) : (K, V) ∈ l.set i (x, v) ↔ (K, V) ∈ l := by
  constructor
  · intro h
    rcases List.mem_or_eq_of_mem_set h with h | h
    · exact h
    · exact absurd (congrArg Prod.fst h) hK
  · intro h
    obtain ⟨j, hj, e⟩ := List.getElem_of_mem h
    refine List.mem_iff_getElem.2 ⟨j, by rw [List.length_set]; exact hj, ?_⟩
    rw [List.getElem_set_ne (by rintro rfl; exact hK (by rw [← hx, e])), e]
theorem touchV_mem {s : List IT} (i : Nat) (hi : i < s.length) (v : ByteArray) (f : Int) (K V : ByteArray) (hK : K ≠ (rdI s i).f0) : (K, V) ∈ (s.set i ⟨(rdI s i).f0, v, f⟩).map kv ↔ (K, V) ∈ s.map kv := by
  rw [List.map_set]
  exact set_mem _ i (by rw [List.length_map]; exact hi) _ v (by rw [List.getElem_map, rdI_get s i hi]; rfl) K V hK
theorem key_of {l : List IT} {K V : ByteArray} (h : (K, V) ∈ l.map kv) : K ∈ l.map fun x => x.f0 := by rw [keys_kv]; exact List.mem_map.2 ⟨_, h, rfl⟩
/-- What Put leaves: a right cache, the key with its value, all others but who is gone. -/
def Kept1 (a b : Int) (s m : List IT) (x v : ByteArray) (r : PutT) : Prop := threeOk a b r.2.2.1 r.2.2.2.1 r.2.2.2.2.1 = true ∧ r.1 = a ∧ r.2.1 = b ∧ r.2.2.2.2.2.2 = true ∧ r.2.2.2.2.2.1.length ≤ 1 ∧ (x, v) ∈ (r.2.2.1 ++ r.2.2.2.1).map kv ∧ ∀ K V, K ≠ x → ((K, V) ∈ (r.2.2.1 ++ r.2.2.2.1).map kv ↔ (K, V) ∈ (s ++ m).map kv ∧ ¬ K ∈ r.2.2.2.2.2.1)
theorem put_keep {a b : Int} {s m : List IT} {g : List Int} (h : threeOk a b s m g = true) (x v : ByteArray) (hi : itemOk x v 0 = true) : Kept1 a b s m x v (putV a b s m g x v) := by
  obtain ⟨ho1, ho2⟩ := ok_at h
  obtain ⟨h1, h2, h3, h4, h5, h6, h7, h8⟩ := (three_iff a b s m g).1 h
  unfold putV
  rw [if_pos ⟨h, hi⟩]
  unfold putC
  by_cases d1 : 0 ≤ atI s x
  · obtain ⟨i, ei, hl, ex⟩ := at_lt s x d1
    rw [if_pos d1, ei, Int.toNat_natCast, touch_set s i v hl]
    have o := ho1 i hl
    have oi : itemOk (rdI s i).f0 v (mn 3 (wrap64 ((rdI s i).f2 + 1))) = true := by rw [ex]; exact itemOk_f hi (mn3 _ o.2.1 o.2.2)
    refine ⟨set_left h i hl _ _ oi, rfl, rfl, rfl, Nat.zero_le _, ?_, fun K V hK => ?_⟩
    · refine List.mem_map.2 ⟨⟨(rdI s i).f0, v, mn 3 (wrap64 ((rdI s i).f2 + 1))⟩, List.mem_append_left _ ?_, by rw [ex]; rfl⟩
      exact List.mem_iff_getElem.2 ⟨i, by rw [List.length_set]; exact hl, by rw [List.getElem_set_self]⟩
    · simp only [List.map_append, List.mem_append]
      rw [touchV_mem i hl v _ K V (by rw [ex]; exact hK)]
      simp
  rw [if_neg d1]
  by_cases d2 : 0 ≤ atI m x
  · obtain ⟨i, ei, hl, ex⟩ := at_lt m x d2
    rw [if_pos d2, ei, Int.toNat_natCast, touch_set m i v hl]
    have o := ho2 i hl
    have oi : itemOk (rdI m i).f0 v (mn 3 (wrap64 ((rdI m i).f2 + 1))) = true := by rw [ex]; exact itemOk_f hi (mn3 _ o.2.1 o.2.2)
    refine ⟨set_right h i hl _ _ oi, rfl, rfl, rfl, Nat.zero_le _, ?_, fun K V hK => ?_⟩
    · refine List.mem_map.2 ⟨⟨(rdI m i).f0, v, mn 3 (wrap64 ((rdI m i).f2 + 1))⟩, List.mem_append_right _ ?_, by rw [ex]; rfl⟩
      exact List.mem_iff_getElem.2 ⟨i, by rw [List.length_set]; exact hl, by rw [List.getElem_set_self]⟩
    · simp only [List.map_append, List.mem_append]
      rw [touchV_mem i hl v _ K V (by rw [ex]; exact hK)]
      simp
  rw [if_neg d2]
  have hx : ¬ x ∈ (s ++ m).map fun y => y.f0 := fun hm => by
    rw [List.map_append] at hm
    rcases List.mem_append.1 hm with hm | hm
    · exact at_not s x d1 hm
    · exact at_not m x d2 hm
  unfold newV
  by_cases e : (s.length : Int) + (m.length : Int) ≥ a
  · rw [if_pos e]
    have hn : 0 < s.length + m.length := by omega
    have hab := coreE_ab a b s m g
    have hk := coreE_keep h hn
    obtain ⟨_, _, ⟨w, hp⟩, _⟩ := coreE_perm h hn
    have hlt := coreE_less h hn
    have hpk : ((s ++ m).map fun y => y.f0).Perm ((coreE a b s m g).2.2.2.2.2.1 :: (((coreE a b s m g).2.2.1 ++ (coreE a b s m g).2.2.2.1).map fun y => y.f0)) := by rw [keys_kv, keys_kv]; exact hp.map Prod.fst
    rw [hab.1, hab.2]
    obtain ⟨p1, p2, p3, p4, p5⟩ := place_keep hk x v (by omega) (fun hm => hx (hpk.mem_iff.2 (List.mem_cons_of_mem _ hm))) hi [(coreE a b s m g).2.2.2.2.2.1]
    have nd := hpk.nodup_iff.1 h6
    refine ⟨p1, p3, p4, congrArg Prod.snd p5, by rw [congrArg Prod.fst p5]; simp, p2.mem_iff.2 (List.mem_cons_self ..), fun K V hK => ?_⟩
    rw [p2.mem_iff, congrArg Prod.fst p5, hp.mem_iff, List.mem_cons, List.mem_cons, List.mem_singleton]
    constructor
    · rintro (q | q)
      · exact absurd (congrArg Prod.fst q) hK
      · exact ⟨.inr q, fun q2 => (List.nodup_cons.1 nd).1 (by rw [← q2]; exact key_of q)⟩
    · rintro ⟨q | q, q2⟩
      · exact absurd (congrArg Prod.fst q) q2
      · exact .inr q
  · rw [if_neg e]
    obtain ⟨p1, p2, p3, p4, p5⟩ := place_keep h x v (by omega) hx hi []
    refine ⟨p1, p3, p4, congrArg Prod.snd p5, by rw [congrArg Prod.fst p5]; simp, p2.mem_iff.2 (List.mem_cons_self ..), fun K V hK => ?_⟩
    rw [p2.mem_iff, congrArg Prod.fst p5, List.mem_cons]
    constructor
    · rintro (q | q)
      · exact absurd (congrArg Prod.fst q) hK
      · exact ⟨q, by simp⟩
    · exact fun q => .inr q.1
def sans (l : List S68) (x : ByteArray) : List S68 := l.filter fun y => !decide (y.f0 = x)
theorem spec_Without_ev (l : List S68) (x : ByteArray) (hl : l.length ≤ 1048576) : Ev (fun k => spec_l10Without.f k l x) (sans l x) := by
  have key := Ev.scan (fun k (s : List S68) i => spec_l10Without.l0 k x s l (l.length : Int) i) l.length (fun i s => s.length ≤ i) (fun i s => s ++ sans (l.drop i) x)
    (fun s _ => Ev.some_ fun k => by
      simp only [spec_l10Without.l0]; rw [if_neg (by omega), List.drop_eq_nil_of_le (Nat.le_refl _)]; simp [sans])
    (fun i s hi hs => by
      have hd : l.drop i = rdI l i :: l.drop (i + 1) := by rw [rdI_get l i hi]; exact List.drop_eq_getElem_cons hi
      have h0 : ∀ k, spec_l10Without.l0 (k + 1) x s l (l.length : Int) (i : Int) = if (rdI l i).f0 = x then spec_l10Without.l0 k x s l (l.length : Int) ((i + 1 : Nat) : Int) else spec_l10Without.l0 k x (s ++ [rdI l i]) l (l.length : Int) ((i + 1 : Nat) : Int) := fun k => by
        simp only [spec_l10Without.l0]; rw [if_pos (by omega), if_pos (by omega), if_pos (by omega), w64s hi (by omega), if_pos (show s.length < 3518437208883 by omega)]
        by_cases c : (rdI l i).f0 = x
        · rw [if_pos c, if_pos (show (rd_T68 l (i : Int)).f0.toList = x.toList from toList_inj.2 c)]
        · rw [if_neg c, if_neg (show ¬ (rd_T68 l (i : Int)).f0.toList = x.toList from fun h => c (toList_inj.1 h))]; rfl
      by_cases c : (rdI l i).f0 = x
      · refine .inr ⟨s, by omega, ?_, EvE.of fun k => by simp only [h0]; rw [if_pos c]⟩
        rw [hd]; unfold sans; rw [List.filter_cons_of_neg (by simpa using c)]
      · refine .inr ⟨s ++ [rdI l i], by simp; omega, ?_, EvE.of fun k => by simp only [h0]; rw [if_neg c]⟩
        rw [hd]; unfold sans; rw [List.filter_cons_of_pos (by simpa using c)]; simp) 0 [] (Nat.zero_le _) (Nat.le_refl _)
  simpa [spec_l10Without.f] using key
theorem sans_keep {a b : Int} {s m : List IT} {g : List Int} (h : threeOk a b s m g = true) (x : ByteArray) : threeOk a b (sans s x) (sans m x) g = true ∧ ∀ K V, (K, V) ∈ (sans s x ++ sans m x).map kv ↔ (K, V) ∈ (s ++ m).map kv ∧ K ≠ x := by
  obtain ⟨h1, h2, h3, h4, h5, h6, h7, h8⟩ := (three_iff a b s m g).1 h
  have e : sans s x ++ sans m x = (s ++ m).filter fun y => !decide (y.f0 = x) := by unfold sans; rw [List.filter_append]
  have e1 : (sans s x).length ≤ s.length := List.length_filter_le _ _
  have e2 : (sans m x).length ≤ m.length := List.length_filter_le _ _
  refine ⟨(three_iff a b _ _ g).2 ⟨h1, h2, by omega, h4, ?_, ?_, h7, h8⟩, fun K V => ?_⟩
  · rw [e]; exact fun y hy => h5 y (List.mem_filter.1 hy).1
  · rw [e]; exact List.Pairwise.sublist (List.Sublist.map _ List.filter_sublist) h6
  · rw [e]
    constructor
    · intro hm
      obtain ⟨y, hy, q⟩ := List.mem_map.1 hm
      obtain ⟨hy, c⟩ := List.mem_filter.1 hy
      refine ⟨List.mem_map.2 ⟨y, hy, q⟩, fun r => ?_⟩
      have q1 : y.f0 = K := congrArg Prod.fst q
      rw [q1, r] at c; simp at c
    · rintro ⟨hm, c⟩
      obtain ⟨y, hy, q⟩ := List.mem_map.1 hm
      have q1 : y.f0 = K := congrArg Prod.fst q
      exact List.mem_map.2 ⟨y, List.mem_filter.2 ⟨hy, by rw [q1]; simp [c]⟩, q⟩
theorem more_ev (f : Int) (h0 : 0 ≤ f) (h1 : f ≤ 3) : spec_l10More.f f = some (mn 3 (wrap64 (f + 1))) := by
  unfold spec_l10More.f mn
  rw [w64 (x := f + 1) (by omega) (by omega)]
  by_cases c : f ≥ 3
  · rw [if_pos c, if_neg (by omega)]
  · rw [if_neg c]
    by_cases d : f + 1 < 3
    · rw [if_pos d]
    · rw [if_neg d]; congr 1; omega
theorem spec_Touch_ev (a b : Int) (s m : List S68) (g : List Int) (x v : ByteArray) (h : threeOk a b s m g = true) : Ev (fun k => spec_l10Touch.f k a b s m g x true v) (if 0 ≤ atI s x then (a, b, touch (setV s (atI s x).toNat v) (atI s x).toNat, m, g, v, true) else if 0 ≤ atI m x then (a, b, s, touch (setV m (atI m x).toNat v) (atI m x).toNat, g, v, true) else (a, b, s, m, g, ⟨#[]⟩, false)) := by
  have hl := three_len h
  have ha := three_are h
  have h1 := spec_l10At_ev s x (by omega)
  have h2 := spec_l10At_ev m x (by omega)
  refine (evA h1 (evA h2 (⟨3, fun k h => h⟩ : EvP fun k => 3 ≤ k))).ev fun k ⟨e1, e2, hk⟩ => ?_
  obtain ⟨n, rfl⟩ : ∃ n, k = n + 3 := ⟨k - 3, by omega⟩
  simp only [spec_l10Touch.f, e1, e2, Option.bind_some]
  by_cases c : 0 ≤ atI s x
  · have nb := not_both ha x c
    obtain ⟨i, ei, hi, _⟩ := at_lt s x c
    have hf := (ok_are _ ha i (by rw [List.length_append]; omega)).2
    rw [rdI_left s m i hi] at hf
    have hm' := more_ev (rd_T68 s (i : Int)).f2 hf.1 hf.2
    rw [if_pos c]
    rw [ei] at c ⊢
    rw [if_pos (show (i : Int) ≥ 0 from c), if_pos c, if_pos (by omega)]
    simp only [spec_l10Touch.j0, spec_l10Touch.j1, spec_l10Touch.j2]
    rw [if_neg (show ¬ atI m x ≥ 0 from nb), if_neg (show ¬ (i : Int) < 0 by omega)]
    simp only [Bool.false_eq_true, if_false]
    rw [hm', Option.bind_some, if_pos trivial, if_pos (show (i : Int) ≥ 0 from c), if_pos c, if_pos (by omega), Int.toNat_natCast, touch_set s i v hi]
    rfl
  · rw [if_neg c]
    rw [if_neg (show ¬ atI s x ≥ 0 from c)]
    by_cases d : 0 ≤ atI m x
    · obtain ⟨j, ej, hj, _⟩ := at_lt m x d
      have hf := (ok_are _ ha (s.length + j) (by rw [List.length_append]; omega)).2
      rw [rdI_right s m j hj] at hf
      have hm' := more_ev (rd_T68 m (j : Int)).f2 hf.1 hf.2
      rw [if_pos d]
      rw [ej] at d ⊢
      simp only [spec_l10Touch.j0, spec_l10Touch.j1, spec_l10Touch.j2]
      rw [if_pos (show (j : Int) ≥ 0 from d), if_pos d, if_pos (by omega), if_pos (show atI s x < 0 by omega), decide_eq_false (show ¬ (j : Int) < 0 by omega)]
      simp only [Bool.false_eq_true, if_false]
      rw [hm', Option.bind_some, if_pos trivial, if_neg (show ¬ atI s x ≥ 0 from c), if_pos d, if_pos (by omega), Int.toNat_natCast, touch_set m j v hj]
      rfl
    · rw [if_neg d]
      simp only [spec_l10Touch.j0, spec_l10Touch.j1, spec_l10Touch.j2]
      rw [if_neg (show ¬ atI m x ≥ 0 from d), if_pos (show atI s x < 0 by omega), decide_eq_true (show atI m x < 0 by omega)]
      simp only [if_true]
theorem spec_place_ev (a b : Int) (s m : List S68) (g : List Int) (x v : ByteArray) (gone : List ByteArray) (hx : x.size ≤ 9223372036854775807) (h1 : s.length ≤ 1048576) (h2 : m.length ≤ 1048576) (h3 : g.length ≤ 1048576) (hn : ¬ wrap64 ((s.length : Int) + (m.length : Int)) ≥ a) : Ev (fun k => spec_Put.l0 k x v gone a b s m g) (placeV a b s m g x v gone) := by
  refine Ev.up (g := fun _ => some (placeV a b s m g x v gone)) ((evA (spec_Hash_ev x hx) (evA (spec_l03Has_ev g (hashV x) h3) (evP (spec_but_ev g (hashV x) h3)))).eve fun k ⟨e1, e2, e3⟩ => ?_) (Ev.now _)
  simp only [spec_Put.l0, e1, e2, e3, Option.bind_some]
  rw [if_neg hn]
  unfold placeV
  cases hasN g (hashV x) with
  | true => simp only [if_true]; rw [if_pos (by omega)]
  | false => simp only [Bool.false_eq_true, if_false]; rw [if_pos (by omega)]
theorem spec_Put_ev (a b : Int) (s m : List S68) (g : List Int) (x v : ByteArray) (hx : x.size ≤ 9223372036854775807) (hv : v.size ≤ 9223372036854775807) (hg : g.length ≤ 1048576) (hl : SmallI (s ++ m)) : Ev (fun k => spec_Put.f k a b s m g x v) (putV a b s m g x v) := by
  have hl1 := hl.1
  rw [List.length_append] at hl1
  have hO := spec_ThreeOk_ev a b s m g hg hl
  have hI := spec_ItemOk_ev x v 0 hx hv
  have hno : Ev (fun k => spec_Put.j0 k x v true a b s m g) ((0, 0, [], [], [], [], false) : PutT) := Ev.up (g := fun _ => some _) (EvE.of fun k => by simp only [spec_Put.j0, if_true]) (Ev.now _)
  unfold putV
  by_cases c : threeOk a b s m g = true
  case neg =>
    rw [if_neg (fun h => c h.1)]
    refine (evA hO (evP hno)).ev fun k ⟨e1, e2⟩ => ?_
    simp only [spec_Put.f, e1, Option.bind_some]
    rw [if_neg c, e2]
  by_cases d : itemOk x v 0 = true
  case neg =>
    rw [if_neg (fun h => d h.2)]
    rw [Bool.not_eq_true] at d
    rw [d] at hI
    refine (evA hO (evA hI (evP hno))).ev fun k ⟨e1, e2, e3⟩ => ?_
    simp only [spec_Put.f, e1, e2, Option.bind_some]
    rw [if_pos c]; simpa using e3
  rw [if_pos ⟨c, d⟩]
  rw [d] at hI
  have h3 := three_len c
  suffices hyes : Ev (fun k => spec_Put.j0 k x v false a b s m g) (putC a b s m g x v) by
    refine (evA hO (evA hI (evP hyes))).ev fun k ⟨e1, e2, e3⟩ => ?_
    simp only [spec_Put.f, e1, e2, Option.bind_some]
    rw [if_pos c]; simpa using e3
  have ha : a ≤ 60 ∧ 1 ≤ a ∧ (s.length : Int) + (m.length : Int) ≤ a := by
    have c' := c
    unfold threeOk at c'
    simp only [Bool.and_eq_true, decide_eq_true_eq] at c'
    omega
  have hw : wrap64 ((s.length : Int) + (m.length : Int)) = (s.length : Int) + (m.length : Int) := w64 (by omega) (by omega)
  have ht := spec_Touch_ev a b s m g x v c
  unfold putC
  by_cases d1 : 0 ≤ atI s x
  · rw [if_pos d1] at ht ⊢
    refine Ev.up (g := fun _ => some _) ((evP ht).eve fun k e1 => ?_) (Ev.now _)
    simp only [spec_Put.j0, Bool.false_eq_true, if_false, spec_copy3 a b s m g (by omega) (by omega) hg, Option.bind_some, e1, if_true]
  rw [if_neg d1] at ht ⊢
  by_cases d2 : 0 ≤ atI m x
  · rw [if_pos d2] at ht ⊢
    refine Ev.up (g := fun _ => some _) ((evP ht).eve fun k e1 => ?_) (Ev.now _)
    simp only [spec_Put.j0, Bool.false_eq_true, if_false, spec_copy3 a b s m g (by omega) (by omega) hg, Option.bind_some, e1, if_true]
  rw [if_neg d2] at ht ⊢
  refine Ev.up (g := fun k => spec_Put.l0 k x v [] a b s m g) ((evP ht).eve fun k e1 => ?_) ?_
  · simp only [spec_Put.j0, Bool.false_eq_true, if_false, spec_copy3 a b s m g (by omega) (by omega) hg, Option.bind_some, e1]
  unfold newV
  by_cases e : (s.length : Int) + (m.length : Int) ≥ a
  · rw [if_pos e]
    have hab := coreE_ab a b s m g
    have hn := coreE_len a b s m g
    have hlt := coreE_less c (by omega)
    have hw2 : ¬ wrap64 (((coreE a b s m g).2.2.1.length : Int) + ((coreE a b s m g).2.2.2.1.length : Int)) ≥ (coreE a b s m g).1 := by rw [hab.1, w64 (by omega) (by omega)]; omega
    have hE := spec_Evict_ev a b s m g hg hl
    unfold evictV at hE
    rw [if_pos c] at hE
    refine Ev.up ((evP hE).eve fun k e1 => ?_) (spec_place_ev (coreE a b s m g).1 (coreE a b s m g).2.1 (coreE a b s m g).2.2.1 (coreE a b s m g).2.2.2.1 (coreE a b s m g).2.2.2.2.1 x v [(coreE a b s m g).2.2.2.2.2.1] hx (by omega) (by omega) (by omega) hw2)
    rw [spec_Put.l0.eq_2, hw, if_pos e, e1, Option.bind_some, if_pos (by simp)]
    rfl
  · rw [if_neg e]
    exact spec_place_ev a b s m g x v [] hx (by omega) (by omega) hg (by rw [hw]; exact e)
theorem spec_TouchG_ev (a b : Int) (s m : List S68) (g : List Int) (x : ByteArray) (h : threeOk a b s m g = true) : Ev (fun k => spec_l10Touch.f k a b s m g x false (⟨#[]⟩ : ByteArray)) (if 0 ≤ atI s x then (a, b, touch s (atI s x).toNat, m, g, (rd_T68 s (atI s x)).f1, true) else if 0 ≤ atI m x then (a, b, s, touch m (atI m x).toNat, g, (rd_T68 m (atI m x)).f1, true) else (a, b, s, m, g, ⟨#[]⟩, false)) := by
  have hl := three_len h
  have ha := three_are h
  have h1 := spec_l10At_ev s x (by omega)
  have h2 := spec_l10At_ev m x (by omega)
  refine (evA h1 (evA h2 (⟨3, fun k h => h⟩ : EvP fun k => 3 ≤ k))).ev fun k ⟨e1, e2, hk⟩ => ?_
  obtain ⟨n, rfl⟩ : ∃ n, k = n + 3 := ⟨k - 3, by omega⟩
  simp only [spec_l10Touch.f, e1, e2, Option.bind_some]
  by_cases c : 0 ≤ atI s x
  · have nb := not_both ha x c
    obtain ⟨i, ei, hi, _⟩ := at_lt s x c
    have hf := (ok_are _ ha i (by rw [List.length_append]; omega)).2
    rw [rdI_left s m i hi] at hf
    have hm' := more_ev (rd_T68 s (i : Int)).f2 hf.1 hf.2
    rw [if_pos c]
    rw [ei] at c ⊢
    rw [if_pos (show (i : Int) ≥ 0 from c), if_pos c, if_pos (by omega)]
    simp only [spec_l10Touch.j0, spec_l10Touch.j1, spec_l10Touch.j2]
    rw [if_neg (show ¬ atI m x ≥ 0 from nb), if_neg (show ¬ (i : Int) < 0 by omega)]
    simp only [Bool.false_eq_true, if_false]
    rw [hm', Option.bind_some, if_pos (show (i : Int) ≥ 0 from c), if_pos c, if_pos (by omega), Int.toNat_natCast]
    rfl
  · rw [if_neg c]
    rw [if_neg (show ¬ atI s x ≥ 0 from c)]
    by_cases d : 0 ≤ atI m x
    · obtain ⟨j, ej, hj, _⟩ := at_lt m x d
      have hf := (ok_are _ ha (s.length + j) (by rw [List.length_append]; omega)).2
      rw [rdI_right s m j hj] at hf
      have hm' := more_ev (rd_T68 m (j : Int)).f2 hf.1 hf.2
      rw [if_pos d]
      rw [ej] at d ⊢
      simp only [spec_l10Touch.j0, spec_l10Touch.j1, spec_l10Touch.j2]
      rw [if_pos (show (j : Int) ≥ 0 from d), if_pos d, if_pos (by omega), if_pos (show atI s x < 0 by omega), decide_eq_false (show ¬ (j : Int) < 0 by omega)]
      simp only [Bool.false_eq_true, if_false]
      rw [hm', Option.bind_some, if_neg (show ¬ atI s x ≥ 0 from c), if_pos d, if_pos (by omega), Int.toNat_natCast]
      rfl
    · rw [if_neg d]
      simp only [spec_l10Touch.j0, spec_l10Touch.j1, spec_l10Touch.j2]
      rw [if_neg (show ¬ atI m x ≥ 0 from d), if_pos (show atI s x < 0 by omega), decide_eq_true (show atI m x < 0 by omega)]
      simp only [if_true]
theorem spec_Get_ev (a b : Int) (s m : List S68) (g : List Int) (x : ByteArray) (hg : g.length ≤ 1048576) (hl : SmallI (s ++ m)) : Ev (fun k => spec_Get.f k a b s m g x) (getV a b s m g x) := by
  have hl1 := hl.1
  rw [List.length_append] at hl1
  have hO := spec_ThreeOk_ev a b s m g hg hl
  unfold getV
  by_cases c : threeOk a b s m g = true
  · rw [if_pos c]
    refine (evA hO (evP (spec_TouchG_ev a b s m g x c))).ev fun k ⟨e1, e2⟩ => ?_
    simp only [spec_Get.f, e1, spec_copy3 a b s m g (by omega) (by omega) hg, Option.bind_some, e2]
    rw [if_pos c]
  · rw [if_neg c]
    refine (evP hO).ev fun k e1 => ?_
    simp only [spec_Get.f, e1, Option.bind_some]
    rw [if_neg c]
abbrev DropT := Int × Int × List S68 × List S68 × List Int × Bool
def dropV (a b : Int) (s m : List S68) (g : List Int) (x : ByteArray) : DropT := if threeOk a b s m g = true then (a, b, sans s x, sans m x, g, decide ((wrap64 (((sans s x).length : Int) + ((sans m x).length : Int))) < (wrap64 ((s.length : Int) + (m.length : Int))))) else (0, 0, [], [], [], false)
theorem spec_Drop_ev (a b : Int) (s m : List S68) (g : List Int) (x : ByteArray) (hg : g.length ≤ 1048576) (hl : SmallI (s ++ m)) : Ev (fun k => spec_Drop.f k a b s m g x) (dropV a b s m g x) := by
  have hl1 := hl.1
  rw [List.length_append] at hl1
  refine (evA (spec_ThreeOk_ev a b s m g hg hl) (evA (spec_Without_ev s x (by omega)) (evP (spec_Without_ev m x (by omega))))).ev fun k ⟨e1, e2, e3⟩ => ?_
  simp only [spec_Drop.f, e1, spec_copy3 a b s m g (by omega) (by omega) hg, Option.bind_some, e2, e3]
  unfold dropV
  split <;> rfl
theorem and255 (x : Int) : 0 ≤ Go.bits .and .i64 x 255 ∧ Go.bits .and .i64 x 255 ≤ 255 := by
  unfold Go.bits
  rw [Go.IntKind.wrap_i64]
  have h : ((BitVec.ofInt Go.IntKind.i64.bits x &&& BitVec.ofInt Go.IntKind.i64.bits 255).toNat) ≤ 255 := by
    rw [BitVec.toNat_and]; exact Nat.le_trans Nat.and_le_right (by decide)
  simp only
  omega
/-- A place in a code. -/
def At (c : List Int) (i : Int) : Prop := 0 ≤ i ∧ i ≤ (c.length : Int) ∧ c.length ≤ 1048576
theorem byte_some (c : List Int) (i h : Int) (hi : At c i) : ∃ b i' h', spec_l01Byte.f c i h = some (b, i', h') ∧ 0 ≤ b ∧ b ≤ 255 ∧ At c i' := by
  obtain ⟨h0, h1, h2⟩ := hi
  simp only [spec_l01Byte.f]
  by_cases c1 : i < (c.length : Int)
  · rw [if_pos c1, if_pos h0]
    refine ⟨_, _, _, rfl, (and255 _).1, (and255 _).2, ?_⟩
    rw [w64 (by omega) (by omega)]
    exact ⟨by omega, by omega, h2⟩
  · rw [if_neg c1]
    exact ⟨_, _, _, rfl, (and255 _).1, (and255 _).2, h0, h1, h2⟩
theorem below_some (c : List Int) (i h n : Int) (hi : At c i) (h1 : 1 ≤ n) (h2 : n ≤ 256) : ∃ b i' h', spec_l01Below.f c i h n = some (b, i', h') ∧ 0 ≤ b ∧ b < n ∧ At c i' := by
  obtain ⟨b, i', h', e, b0, b1, ha⟩ := byte_some c i h hi
  refine ⟨b.tmod n, i', h', ?_, ?_, ?_, ha⟩
  · simp only [spec_l01Below.f, e, Option.bind_some]
    rw [if_neg (by omega), if_pos h2, if_neg (by omega)]
  · rw [Int.tmod_eq_emod_of_nonneg b0]; exact Int.emod_nonneg _ (by omega)
  · rw [Int.tmod_eq_emod_of_nonneg b0]; exact Int.emod_lt_of_pos _ (by omega)
theorem new_some (c : List Int) (hc : c.length ≤ 1048576) : ∃ h, Ev (fun k => spec_l01New.f k c) (c, 0, h) := by
  obtain ⟨r, ⟨h, rfl⟩, hr⟩ := Ev.scanX (fun k (s : Int) i => spec_l01New.l0 k c s i) c.length (fun _ _ => True) (fun r => ∃ h, r = (c, 0, h))
    (fun s _ => ⟨(c, 0, s), ⟨s, rfl⟩, Ev.some_ fun k => by simp only [spec_l01New.l0]; rw [if_neg (by omega)]⟩)
    (fun i s hi _ => by
      by_cases c1 : (i : Int) < 4000
      · exact .inr ⟨_, trivial, EvE.of fun k => by simp only [spec_l01New.l0]; rw [if_pos (by omega), if_pos c1, if_pos (by omega), w64s hi (by omega)]⟩
      · exact .inl ⟨(c, 0, s), ⟨s, rfl⟩, Ev.some_ fun k => by simp only [spec_l01New.l0]; rw [if_pos (by omega), if_neg c1]⟩) 0 (wrap64 (774119 + (c.length : Int))) (Nat.zero_le _) trivial
  exact ⟨h, by simpa [spec_l01New.f] using hr⟩
theorem of_some (c : List Int) (i h : Int) (l : List ByteArray) (hi : At c i) (h1 : 1 ≤ l.length) (h2 : l.length ≤ 256) : ∃ x i' h', spec_l01Of.f c i h l = some (x, i', h') ∧ x ∈ l ∧ At c i' := by
  obtain ⟨b, i', h', e, b0, b1, ha⟩ := below_some c i h (l.length : Int) hi (by omega) (by omega)
  refine ⟨rdOf ByteArray.empty l b, i', h', ?_, ?_, ha⟩
  · simp only [spec_l01Of.f, e, Option.bind_some]
    rw [if_pos b0, if_pos b1]
  · obtain ⟨n, rfl⟩ : ∃ n : Nat, b = (n : Int) := ⟨b.toNat, by omega⟩
    rw [rdOf_nat, List.getD_eq_getElem?_getD, List.getElem?_eq_getElem (by omega)]
    exact List.getElem_mem _
def keysL : List ByteArray := [⟨#[97]⟩, ⟨#[98]⟩, ⟨#[99]⟩, ⟨#[100]⟩, ⟨#[101]⟩, ⟨#[102]⟩, ⟨#[103]⟩, ⟨#[104]⟩]
def valsL : List ByteArray := [⟨#[49]⟩, ⟨#[50]⟩, ⟨#[51]⟩, ⟨#[]⟩, ⟨#[120]⟩]
theorem kv_all : (keysL.all fun k => valsL.all fun v => itemOk k v 0) = true := by kernel_rfl
theorem kv_ok {k v : ByteArray} (hk : k ∈ keysL) (hv : v ∈ valsL) : itemOk k v 0 = true := List.all_eq_true.1 (List.all_eq_true.1 kv_all k hk) v hv
theorem keys_size {k : ByteArray} (hk : k ∈ keysL) : k.size ≤ 9223372036854775807 := by
  have h : (keysL.all fun k => decide (k.size ≤ 1)) = true := by kernel_rfl
  have := of_decide_eq_true (List.all_eq_true.1 h k hk)
  omega
theorem vals_size {k : ByteArray} (hk : k ∈ valsL) : k.size ≤ 9223372036854775807 := by
  have h : (valsL.all fun k => decide (k.size ≤ 1)) = true := by kernel_rfl
  have := of_decide_eq_true (List.all_eq_true.1 h k hk)
  omega
theorem tkey_some (c : List Int) (i h : Int) (hi : At c i) : ∃ x i' h', spec_l10Key.f c i h = some (x, i', h') ∧ x ∈ keysL ∧ At c i' := by
  obtain ⟨x, i', h', e, hx, ha⟩ := of_some c i h keysL hi (by decide) (by decide)
  refine ⟨x, i', h', ?_, hx, ha⟩
  have e' : spec_l01Of.f c i h [(⟨#[97]⟩ : ByteArray), (⟨#[98]⟩ : ByteArray), (⟨#[99]⟩ : ByteArray), (⟨#[100]⟩ : ByteArray), (⟨#[101]⟩ : ByteArray), (⟨#[102]⟩ : ByteArray), (⟨#[103]⟩ : ByteArray), (⟨#[104]⟩ : ByteArray)] = some (x, i', h') := e
  simp only [spec_l10Key.f, e', Option.bind_some]
theorem val_some (c : List Int) (i h : Int) (hi : At c i) : ∃ x i' h', spec_l10Val.f c i h = some (x, i', h') ∧ x ∈ valsL ∧ At c i' := by
  obtain ⟨x, i', h', e, hx, ha⟩ := of_some c i h valsL hi (by decide) (by decide)
  refine ⟨x, i', h', ?_, hx, ha⟩
  have e' : spec_l01Of.f c i h [(⟨#[49]⟩ : ByteArray), (⟨#[50]⟩ : ByteArray), (⟨#[51]⟩ : ByteArray), (⟨#[]⟩ : ByteArray), (⟨#[120]⟩ : ByteArray)] = some (x, i', h') := e
  simp only [spec_l10Val.f, e', Option.bind_some]
theorem three_g {a b : Int} {s m : List IT} {g : List Int} (h : threeOk a b s m g = true) : g.length ≤ 1048576 := by have := three_len h; omega
theorem some_ev (c : List Int) (i h : Int) (hi : At c i) {a b : Int} {s m : List IT} {g : List Int} (ht : threeOk a b s m g = true) : ∃ s' m' g' i' h', Ev (fun k => spec_l10Some.f k c i h a b s m g) (a, b, s', m', g', i', h') ∧ threeOk a b s' m' g' = true ∧ At c i' := by
  obtain ⟨n, i1, h1, e1, n0, n1, ha1⟩ := below_some c i h 9 hi (by omega) (by omega)
  obtain ⟨x, i2, h2, e2, hx, ha2⟩ := tkey_some c i1 h1 ha1
  have hg := three_g ht
  have hS := small_of ht
  by_cases c1 : n < 4
  · obtain ⟨v, i3, h3, e3, hv, ha3⟩ := val_some c i2 h2 ha2
    obtain ⟨k1, k2, k3, _⟩ := put_keep ht x v (kv_ok hx hv)
    have hP := spec_Put_ev a b s m g x v (keys_size hx) (vals_size hv) hg hS
    refine ⟨_, _, _, i3, h3, (evP hP).ev fun k e4 => ?_, k1, ha3⟩
    simp only [spec_l10Some.f, e1, e2, e3, e4, Option.bind_some]
    rw [if_pos c1, k2, k3]
  by_cases c2 : n < 8
  · obtain ⟨k1, _, k2, k3⟩ := get_keep ht x
    have hP := spec_Get_ev a b s m g x hg hS
    refine ⟨_, _, _, i2, h2, (evP hP).ev fun k e4 => ?_, k1, ha2⟩
    simp only [spec_l10Some.f, e1, e2, e4, Option.bind_some]
    rw [if_neg c1, if_pos c2, k2, k3]
  · obtain ⟨k1, _⟩ := sans_keep ht x
    have hP := spec_Drop_ev a b s m g x hg hS
    unfold dropV at hP
    rw [if_pos ht] at hP
    refine ⟨_, _, _, i2, h2, (evP hP).ev fun k e4 => ?_, k1, ha2⟩
    simp only [spec_l10Some.f, e1, e2, e4, Option.bind_some]
    rw [if_neg c1, if_neg c2]
theorem draw_loop (c : List Int) : ∀ (n : Nat) (i h : Int), n ≤ 256 → At c i → ∀ {a b : Int} {s m : List IT} {g : List Int}, threeOk a b s m g = true → ∃ s' m' g' i' h', Ev (fun k => spec_l10Draw.l0 k (n : Int) c i h a b s m g) (a, b, s', m', g', i', h') ∧ threeOk a b s' m' g' = true
  | 0, i, h, _, hi, a, b, s, m, g, ht => ⟨s, m, g, i, h, Ev.up (g := fun _ => some (a, b, s, m, g, i, h)) (EvE.of fun k => by simp only [spec_l10Draw.l0]; rw [if_neg (by omega)]) (Ev.now _), ht⟩
  | n + 1, i, h, hn, hi, a, b, s, m, g, ht => by
    obtain ⟨s1, m1, g1, i1, h1, hE, ht1, hi1⟩ := some_ev c i h hi ht
    obtain ⟨s2, m2, g2, i2, h2, hL, ht2⟩ := draw_loop c n i1 h1 (by omega) hi1 ht1
    refine ⟨s2, m2, g2, i2, h2, Ev.up ((evP hE).eve fun k e => ?_) hL, ht2⟩
    simp only [spec_l10Draw.l0, e, Option.bind_some]
    rw [if_pos (by omega), w64 (by omega) (by omega)]
    congr 1; omega
theorem makeThree_some (c : List Int) (hc : c.length ≤ 1048576) : ∃ a b s m g, threeOk a b s m g = true ∧ Ev (fun k => spec_MakeThree.f k c) (a, b, s, m, g) := by
  obtain ⟨h, hnew⟩ := new_some c hc
  obtain ⟨x, i1, h1, e1, x0, x1, ha1⟩ := below_some c 0 (wrap64 (h + 41)) 6 ⟨Int.le_refl _, by omega, hc⟩ (by omega) (by omega)
  have hw : wrap64 (1 + x) = 1 + x := w64 (by omega) (by omega)
  obtain ⟨y, i2, h2, e2, y0, y1, ha2⟩ := below_some c i1 h1 (1 + x) ha1 (by omega) (by omega)
  have hw2 : wrap64 (1 + y) = 1 + y := w64 (by omega) (by omega)
  obtain ⟨n, i3, h3, e3, n0, n1, ha3⟩ := below_some c i2 h2 24 ha2 (by omega) (by omega)
  have hO : threeOk (1 + x) (1 + y) [] [] [] = true := (three_iff _ _ _ _ _).2 ⟨by omega, by omega, by simp; omega, by unfold ghostsN; split <;> simp <;> omega, by simp, by simp, by simp, by simp⟩
  have hN := spec_ThreeNew_ev (1 + x) (1 + y)
  have eN : threeNew (1 + x) (1 + y) = (1 + x, 1 + y, [], [], [], true) := by unfold threeNew; rw [if_pos hO]
  rw [eN] at hN
  obtain ⟨s, m, g, i4, h4, hL, ht⟩ := draw_loop c n.toNat i3 h3 (by omega) ha3 hO
  rw [Int.toNat_of_nonneg n0] at hL
  refine ⟨1 + x, 1 + y, s, m, g, ht, (evA hnew (evA hN (evP hL))).ev fun k ⟨q1, q2, q3⟩ => ?_⟩
  simp only [spec_MakeThree.f, spec_l10Draw.f, q1, e1, e2, e3, hw, hw2, q2, q3, Option.bind_some]
theorem impl_EvictSmall_ev (a b : Int) (s m : List IT) (g : List Int) (c : threeOk a b s m g = true) : Ev (fun k => impl_EvictSmall.f k a b s m g) (a, b, smallV a b s m g) := by
  have hl := small_of c
  have hg := three_g c
  have hl1 := hl.1
  rw [List.length_append] at hl1
  have hO := impl_ThreeOk_ev a b s m g hg hl
  rw [c] at hO
  have hn := smallV_len a b s m g
  refine (evA hO (evP (impl_small_ev a b g hg s m (fun x hx => (hl.2 x (List.mem_append_left _ hx)).1) (by omega)))).ev fun k ⟨e1, e2⟩ => ?_
  simp only [impl_EvictSmall.f, impl_evictedS.f, impl_Three_evictSmall.f, e1, impl_copy3 a b s m g (by omega) (by omega) hg, Option.bind_some, e2, impl_copy3x a b (smallV a b s m g).1 (smallV a b s m g).2.1 (smallV a b s m g).2.2.1 (by omega) (by omega) (by omega), if_true]
theorem impl_EvictMain_ev (a b : Int) (s m : List IT) (g : List Int) (c : threeOk a b s m g = true) : Ev (fun k => impl_EvictMain.f k a b s m g) (a, b, s, (evm (fsum m + 1) m).1, g, (evm (fsum m + 1) m).2.1, (evm (fsum m + 1) m).2.2) := by
  have hl := small_of c
  have hg := three_g c
  have hl1 := hl.1
  rw [List.length_append] at hl1
  have hO := impl_ThreeOk_ev a b s m g hg hl
  rw [c] at hO
  have hn := evm_len (fsum m + 1) m
  refine (evA hO (evP (impl_main_ev a b s g (fsum m + 1) m (okF_three c).2 (Nat.lt_succ_self _) (by omega)))).ev fun k ⟨e1, e2⟩ => ?_
  simp only [impl_EvictMain.f, impl_evictedM.f, impl_Three_evictMain.f, e1, impl_copy3 a b s m g (by omega) (by omega) hg, Option.bind_some, e2, impl_copy3 a b s (evm (fsum m + 1) m).1 g (by omega) (by omega) hg, if_true]
/-- Who was asked for no more than once. -/
def low (l : List IT) : Nat := l.countP fun x => decide (x.f2 ≤ 1)
theorem low_cons (x : IT) (l : List IT) : low (x :: l) = low l + (if x.f2 ≤ 1 then 1 else 0) := by
  unfold low; rw [List.countP_cons]; simp
/-- Who goes from Small: the first who was asked for no more than once. -/
theorem small_first (a b : Int) : ∀ (s m : List IT) (g : List Int), ((smallV a b s m g).2.2.2.2 = decide (low s > 0)) ∧ ((smallV a b s m g).2.2.2.2 = true → ∃ p y t, s = p ++ y :: t ∧ (∀ x ∈ p, x.f2 > 1) ∧ y.f2 ≤ 1 ∧ (smallV a b s m g).2.2.2.1 = y.f0)
  | [], m, g => ⟨by simp [smallV, low], fun h => by simp [smallV] at h⟩
  | x :: t, m, g => by
    rw [smallV.eq_2, low_cons]
    by_cases c : x.f2 > 1
    · rw [if_pos c, if_neg (by omega), Nat.add_zero]
      obtain ⟨h1, h2⟩ := small_first a b t (m ++ [⟨x.f0, x.f1, 0⟩]) g
      refine ⟨h1, fun h => ?_⟩
      obtain ⟨p, y, u, e, hp, hy, hk⟩ := h2 h
      exact ⟨x :: p, y, u, by rw [e]; rfl, fun z hz => by rcases List.mem_cons.1 hz with rfl | hz; exact c; exact hp z hz, hy, hk⟩
    · rw [if_neg c, if_pos (by omega)]
      exact ⟨by simp, fun _ => ⟨[], x, t, rfl, by simp, by omega, rfl⟩⟩
/-- Who goes from Main: the first whom nobody asked for, where there is one. -/
theorem main_first : ∀ (n : Nat) (p t : List IT) (y : IT), okF (p ++ y :: t) → fsum (p ++ y :: t) < n → (∀ x ∈ p, ¬ x.f2 = 0) → y.f2 = 0 → (evm n (p ++ y :: t)).2.1 = y.f0
  | 0, p, t, y, _, h, _, _ => by omega
  | n + 1, [], t, y, _, _, _, hy => by
    rw [List.nil_append]; unfold evm; rw [if_pos hy]
  | n + 1, x :: p, t, y, ho, hf, hp, hy => by
    have hx := hp x (List.mem_cons_self ..)
    obtain ⟨h1, h2⟩ := okF_next (x := x) (t := p ++ y :: t) ho hx
    rw [List.cons_append]; unfold evm; rw [if_neg hx]
    have e : (p ++ y :: t) ++ [less1 x] = p ++ y :: (t ++ [less1 x]) := by simp
    rw [e] at h1 h2 ⊢
    exact main_first n p _ y h1 (by rw [List.cons_append] at hf; omega) (fun z hz => hp z (List.mem_cons_of_mem _ hz)) hy
theorem l2_ev (m : List IT) (q : ByteArray) (hm : m.length ≤ 1048576) (hq : ∀ p y t, m = p ++ y :: t → (∀ x ∈ p, ¬ x.f2 = 0) → y.f2 = 0 → y.f0 = q) : Ev (fun k => laws_FnSpare.l2 k q m (m.length : Int) 0) true := by
  have key := Ev.scan (fun k (_ : Unit) i => laws_FnSpare.l2 k q m (m.length : Int) i) m.length (fun i _ => ∀ x ∈ m.take i, ¬ x.f2 = 0) (fun _ _ => true)
    (fun _ _ => Ev.some_ fun k => by simp only [laws_FnSpare.l2]; rw [if_neg (by omega)])
    (fun i _ hi hp => by
      have e : rd_T68 m (i : Int) = m[i] := rdI_get m i hi
      by_cases c : (m[i]).f2 = 0
      · refine .inl (Ev.some_ fun k => ?_)
        simp only [laws_FnSpare.l2, e]
        rw [if_pos (by omega), if_pos (by omega), if_pos (by omega), if_pos c, hq (m.take i) m[i] (m.drop (i + 1)) (by rw [List.getElem_cons_drop, List.take_append_drop]) hp c]
        simp
      · refine .inr ⟨(), fun x hx => ?_, rfl, EvE.of fun k => ?_⟩
        · rw [List.take_add_one, List.getElem?_eq_getElem hi] at hx
          rcases List.mem_append.1 hx with hx | hx
          · exact hp x hx
          · simp only [Option.toList_some, List.mem_singleton] at hx; rw [hx]; exact c
        · simp only [laws_FnSpare.l2, e]
          rw [if_pos (by omega), if_pos (by omega), if_pos (by omega), if_neg c, w64s hi (by omega)]) 0 () (Nat.zero_le _) (by simp)
  simpa using key
theorem j4_ev (a b : Int) (s m : List IT) (g : List Int) (c : threeOk a b s m g = true) : Ev (fun k => laws_FnSpare.j4 k a b s m g) true := by
  have hE := impl_EvictMain_ev a b s m g c
  have hl := three_len c
  have ho := (okF_three c).2
  have h2 := l2_ev m (evm (fsum m + 1) m).2.1 (by omega) (fun p y t e hp hy => by
    rw [e] at ho ⊢
    exact (main_first _ p t y ho (Nat.lt_succ_self _) hp hy).symm)
  have h5 : Ev (fun k => laws_FnSpare.j5 k (evm (fsum m + 1) m).2.1 false a b s m g) true := Ev.up (EvE.of fun k => by simp only [laws_FnSpare.j5, Bool.false_eq_true, if_false]) h2
  refine Ev.up ((evP hE).eve fun k e => ?_) h5
  simp only [laws_FnSpare.j4, e, Option.bind_some]
  by_cases hm : m = []
  · subst hm
    have e1 : evm (fsum ([] : List IT) + 1) [] = ([], ⟨#[]⟩, false) := rfl
    rw [e1]; simp
  · obtain ⟨q, _, _⟩ := evm_perm (fsum m + 1) m ho hm (Nat.lt_succ_self _)
    have hls := evm_less (fsum m + 1) m ho hm (Nat.lt_succ_self _)
    have hp : (m.length : Int) > 0 := by omega
    rw [q, decide_eq_true hp, if_neg (by simp), if_pos rfl, w64 (by omega) (by omega)]
    have e3 : (((evm (fsum m + 1) m).1.length : Int) != (m.length : Int) - 1) = false := bne_eq_false_iff_eq.2 (by omega)
    rw [e3]
theorem laws_has_ev (l : List Int) (x : Int) (hl : l.length ≤ 1048576) : Ev (fun k => laws_has.f k l x) (hasN l x) := by
  have key := Ev.scan (fun k (_ : Unit) i => laws_has.l0 k x l (l.length : Int) i) l.length (fun _ _ => True) (fun i _ => hasN (l.drop i) x)
    (fun _ _ => Ev.some_ fun k => by simp only [laws_has.l0]; rw [if_neg (by omega), List.drop_eq_nil_of_le (Nat.le_refl _)]; rfl)
    (fun i _ hi _ => by
      have hd : l.drop i = rd l (i : Int) :: l.drop (i + 1) := drop_rd l i hi
      have hs : ∀ k, laws_has.l0 (k + 1) x l (l.length : Int) (i : Int) = if rd l (i : Int) = x then some true else laws_has.l0 k x l (l.length : Int) ((i + 1 : Nat) : Int) := fun k => by
        simp only [laws_has.l0]; rw [if_pos (by omega), if_pos (by omega), if_pos (by omega), w64s hi (by omega)]
      rw [hd, hasN_cons]
      by_cases c : rd l (i : Int) = x
      · exact .inl (Ev.some_ fun k => by simp only [hs]; rw [if_pos c, decide_eq_true c]; rfl)
      · exact .inr ⟨(), trivial, by rw [decide_eq_false c]; rfl, EvE.of fun k => by simp only [hs]; rw [if_neg c]⟩) 0 () (Nat.zero_le _) trivial
  simpa [laws_has.f] using key
theorem v_ok {k v : ByteArray} {f : Int} (h : itemOk k v f = true) : itemOk k (⟨#[118]⟩ : ByteArray) 0 = true := by
  unfold itemOk at *
  simp only [Bool.and_eq_true, decide_eq_true_eq] at *
  obtain ⟨⟨⟨⟨⟨⟨h1, h2⟩, _⟩, h3⟩, _⟩, _⟩, _⟩ := h
  exact ⟨⟨⟨⟨⟨⟨h1, h2⟩, by decide⟩, h3⟩, by kernel_rfl⟩, by decide⟩, by decide⟩
theorem nff : ¬ (false = true) := by decide
theorem rd_last (l : List IT) (y : IT) : rd_T68 (l ++ [y]) (l.length : Int) = y := by
  have h : l.length < (l ++ [y]).length := by rw [List.length_append, List.length_singleton]; omega
  have e : rd_T68 (l ++ [y]) (l.length : Int) = (l ++ [y])[l.length] := rdI_get (l ++ [y]) l.length h
  rw [e, List.getElem_append_right (Nat.le_refl _)]
  simp only [Nat.sub_self, List.getElem_cons_zero]
/-- Who goes from Small, and is put again. -/
theorem j3_ev (a b : Int) (s m : List IT) (g : List Int) (c : threeOk a b s m g = true) (ok : (smallV a b s m g).2.2.2.2 = true) : Ev (fun k => laws_FnSpare.j3 k (smallV a b s m g).2.2.2.1 a b s m g a b (smallV a b s m g).1 (smallV a b s m g).2.1 (smallV a b s m g).2.2.1) true := by
  obtain ⟨⟨v, hp⟩, hgh⟩ := smallV_perm a b s m g ok
  have hk := gone_keep c hp (smallV_okF a b s m g (okF_all c)) (.inr hgh)
  have hlt := smallV_less a b s m g ok
  obtain ⟨h1, h2, h3, h4, h5, h6, h7, h8⟩ := (three_iff a b s m g).1 c
  have gh := (haunt_keep h1 h2 h4 h7 h8 (hashV (smallV a b s m g).2.2.2.1) (hashV_range _)).2.2.2
  rw [← hgh] at gh
  have nd : ((smallV a b s m g).2.2.2.1 :: (((smallV a b s m g).1 ++ (smallV a b s m g).2.1).map fun y => y.f0)).Nodup := by
    rw [keys_kv]; rw [keys_kv] at h6
    exact (hp.map Prod.fst).nodup_iff.1 h6
  obtain ⟨y, hy, ey⟩ := List.mem_map.1 (hp.mem_iff.2 (List.mem_cons_self ..))
  have hyk : y.f0 = (smallV a b s m g).2.2.2.1 := congrArg Prod.fst ey
  have hio := h5 y hy
  rw [hyk] at hio
  have hsz := itemOk_sizes hio
  have hi := v_ok hio
  have hL := three_len hk
  have hS := small_of hk
  generalize hs' : (smallV a b s m g).1 = s' at *
  generalize hm' : (smallV a b s m g).2.1 = m' at *
  generalize hg' : (smallV a b s m g).2.2.1 = g' at *
  generalize hx' : (smallV a b s m g).2.2.2.1 = x at *
  have hP := impl_Put_ev a b s' m' g' x (⟨#[118]⟩ : ByteArray) (by omega) (by show 1 ≤ _; omega) (by omega) hS
  have nx : ¬ x ∈ (s' ++ m').map fun y => y.f0 := (List.nodup_cons.1 nd).1
  rw [List.map_append] at nx
  have na : ¬ 0 ≤ atI s' x := fun q => by obtain ⟨i, _, hi, e⟩ := at_lt s' x q; exact nx (List.mem_append_left _ (List.mem_map.2 ⟨rdI s' i, by rw [rdI_get s' i hi]; exact List.getElem_mem hi, e⟩))
  have nb : ¬ 0 ≤ atI m' x := fun q => by obtain ⟨i, _, hi, e⟩ := at_lt m' x q; exact nx (List.mem_append_right _ (List.mem_map.2 ⟨rdI m' i, by rw [rdI_get m' i hi]; exact List.getElem_mem hi, e⟩))
  have ePut : putV a b s' m' g' x (⟨#[118]⟩ : ByteArray) = (a, b, s', m' ++ [⟨x, ⟨#[118]⟩, 0⟩], but g' (hashV x), [], true) := by
    unfold putV; rw [if_pos ⟨hk, hi⟩]; unfold putC; rw [if_neg na, if_neg nb]; unfold newV; rw [if_neg (by omega)]; unfold placeV; rw [if_pos ((hasN_iff _ _).2 gh)]
  rw [ePut] at hP
  have hH := impl_Hash_ev x (by omega)
  have hA := laws_has_ev g' (hashV x) (by omega)
  rw [(hasN_iff _ _).2 gh] at hA
  have hbl := but_len g' (hashV x)
  have hB := laws_has_ev (but g' (hashV x)) (hashV x) (by omega)
  have nB : hasN (but g' (hashV x)) (hashV x) = false := by
    cases q : hasN (but g' (hashV x)) (hashV x) with
    | false => rfl
    | true => have := (List.mem_filter.1 ((hasN_iff _ _).1 q)).2; simp at this
  rw [nB] at hB
  refine Ev.up ((evA hP (evA hH (evA hA (evP hB)))).eve fun k ⟨e1, e2, e3, e4⟩ => ?_) (j4_ev a b s m g c)
  obtain ⟨M, hM, el, er⟩ : ∃ M : List IT, m' ++ [(⟨x, ⟨#[118]⟩, 0⟩ : IT)] = M ∧ (M.length : Int) = (m'.length : Int) + 1 ∧ (rd_T68 M (m'.length : Int)).f0 = x := ⟨_, rfl, by rw [List.length_append, List.length_singleton]; rfl, by rw [rd_last]⟩
  rw [hM] at e1
  clear hM
  have i1 : -9223372036854775808 ≤ (m'.length : Int) + 1 := by omega
  have i2 : (m'.length : Int) + 1 ≤ 9223372036854775807 := by omega
  have i3 : -9223372036854775808 ≤ (M.length : Int) - 1 := by omega
  have i4 : (M.length : Int) - 1 ≤ 9223372036854775807 := by omega
  have i5 : (M.length : Int) - 1 = (m'.length : Int) := by omega
  have c1 : (0 : Int) ≤ (m'.length : Int) := by omega
  have c2 : (m'.length : Int) < (M.length : Int) := by omega
  have w2 : wrap64 ((M.length : Int) - 1) = (m'.length : Int) := (w64 i3 i4).trans i5
  have c3 : (M.length : Int) = wrap64 ((m'.length : Int) + 1) := el.trans (w64 i1 i2).symm
  rw [laws_FnSpare.j3.eq_2, e1, Option.bind_some, e2, Option.bind_some, e3, Option.bind_some, if_pos (rfl : true = true)]
  dsimp only
  rw [if_pos (rfl : true = true), if_pos c3, w2, if_pos c1, if_pos c2, er, if_pos (rfl : x.toList = x.toList), Option.bind_some, e4, Option.bind_some, if_neg nff]
theorem l1_ev (a b : Int) (s m : List IT) (g : List Int) (c : threeOk a b s m g = true) (ok : (smallV a b s m g).2.2.2.2 = true) : Ev (fun k => laws_FnSpare.l1 k (smallV a b s m g).2.2.2.1 s (s.length : Int) 0 a b s m g a b (smallV a b s m g).1 (smallV a b s m g).2.1 (smallV a b s m g).2.2.1) true := by
  have hj := j3_ev a b s m g c ok
  obtain ⟨p, y, t, e, hp, hy, hk⟩ := (small_first a b s m g).2 ok
  have hl := three_len c
  have hlen : s.length = p.length + t.length + 1 := by rw [e, List.length_append, List.length_cons]; omega
  have gp : ∀ i, (h : i < p.length) → rdI s i = p[i] := fun i h => by rw [rdI_get s i (by omega)]; simp only [e]; rw [List.getElem_append_left h]
  have gy : rdI s p.length = y := by rw [rdI_get s _ (by omega)]; simp only [e]; rw [List.getElem_append_right (Nat.le_refl _)]; simp
  generalize (smallV a b s m g).2.2.2.1 = x at *
  generalize (smallV a b s m g).1 = s' at *
  generalize (smallV a b s m g).2.1 = m' at *
  generalize (smallV a b s m g).2.2.1 = g' at *
  have key : ∀ n i, i + n = p.length → Ev (fun k => laws_FnSpare.l1 k x s (s.length : Int) (i : Int) a b s m g a b s' m' g') true := by
    intro n
    induction n with
    | zero =>
      intro i hi
      obtain rfl : i = p.length := by omega
      refine Ev.up (EvE.of fun k => ?_) hj
      have e0 : rd_T68 s (p.length : Int) = y := gy
      simp only [laws_FnSpare.l1, e0]
      rw [if_pos (by omega), if_pos (by omega), if_pos (by omega), if_pos hy, hk, if_pos rfl]
    | succ n ih =>
      intro i hi
      refine Ev.up (EvE.of fun k => ?_) (ih (i + 1) (by omega))
      have e0 : rd_T68 s (i : Int) = p[i]'(by omega) := gp i (by omega)
      have := hp _ (List.getElem_mem (show i < p.length by omega))
      simp only [laws_FnSpare.l1, e0]
      rw [if_pos (by omega), if_pos (by omega), if_pos (by omega), if_neg (by omega), w64 (by omega) (by omega)]
      rfl
  exact key p.length 0 (by omega)
theorem FnSpare : DFnSpare.Pure := by
  intro code ⟨_, _⟩
  by_cases c0 : (code.length : Int) > 1048576
  · exact ⟨0, by simp only [laws_FnSpare.f]; rw [if_pos c0]⟩
  obtain ⟨a, b, s, m, g, c, hM⟩ := makeThree_some code (by omega)
  have hE := impl_EvictSmall_ev a b s m g c
  have hl := three_len c
  obtain ⟨f1, f2⟩ := small_first a b s m g
  have hO := impl_ThreeOk_ev a b s m g (three_g c) (small_of c)
  rw [c] at hO
  have hcnt : low s ≤ s.length := List.countP_le_length
  have hsv := smallV_len a b s m g
  -- behind the count
  have h1 : Ev (fun k => laws_FnSpare.j1 k (smallV a b s m g).2.2.2.1 (smallV a b s m g).2.2.2.2 false a b s m g a b (smallV a b s m g).1 (smallV a b s m g).2.1 (smallV a b s m g).2.2.1) true := by
    cases ok : (smallV a b s m g).2.2.2.2 with
    | true => exact Ev.up (EvE.of fun k => by simp only [laws_FnSpare.j1, Bool.false_eq_true, if_false, if_true]) (l1_ev a b s m g c ok)
    | false => exact Ev.up (EvE.of fun k => by simp only [laws_FnSpare.j1, Bool.false_eq_true, if_false]) (j4_ev a b s m g c)
  have hS2 : Ev (fun k => impl_ThreeOk.f k a b (smallV a b s m g).1 (smallV a b s m g).2.1 (smallV a b s m g).2.2.1) true := by
    have hk : threeOk a b (smallV a b s m g).1 (smallV a b s m g).2.1 (smallV a b s m g).2.2.1 = true := by
      cases ok : (smallV a b s m g).2.2.2.2 with
      | true =>
        obtain ⟨⟨v, hp⟩, hgh⟩ := smallV_perm a b s m g ok
        exact gone_keep c hp (smallV_okF a b s m g (okF_all c)) (.inr hgh)
      | false => rw [smallV_false a b s m g ok]; exact three_moved c
    have := impl_ThreeOk_ev a b (smallV a b s m g).1 (smallV a b s m g).2.1 (smallV a b s m g).2.2.1 (three_g hk) (small_of hk)
    rw [hk] at this; exact this
  have key := Ev.scan (fun k (n : Int) i => laws_FnSpare.l0 k (smallV a b s m g).2.2.2.1 (smallV a b s m g).2.2.2.2 n s (s.length : Int) i a b s m g a b (smallV a b s m g).1 (smallV a b s m g).2.1 (smallV a b s m g).2.2.1) s.length (fun i n => n = (low (s.take i) : Int)) (fun _ _ => true)
    (fun n hn => by
      rw [List.take_length] at hn
      refine Ev.ofE (g := fun k => laws_FnSpare.j1 k (smallV a b s m g).2.2.2.1 (smallV a b s m g).2.2.2.2 false a b s m g a b (smallV a b s m g).1 (smallV a b s m g).2.1 (smallV a b s m g).2.2.1) ((evA hO (evP hS2)).eve fun k ⟨e1, e2⟩ => ?_) h1
      simp only [laws_FnSpare.l0, e1, e2, Option.bind_some, if_true]
      have e3 : decide (n > 0) = decide (low s > 0) := by rw [hn]; congr 1; exact propext (by omega)
      rw [if_neg (by omega), f1, e3, if_neg (by simp)]
      simp)
    (fun i n hi hn => by
      have e : rd_T68 s (i : Int) = s[i] := rdI_get s i hi
      have hlow : low (s.take (i + 1)) = low (s.take i) + (if (s[i]).f2 ≤ 1 then 1 else 0) := by
        unfold low; rw [List.take_add_one, List.getElem?_eq_getElem hi, List.countP_append]; simp [List.countP_cons]
      have hle : low (s.take i) ≤ (s.take i).length := List.countP_le_length
      rw [List.length_take] at hle
      refine .inr ⟨n + (if (s[i]).f2 ≤ 1 then 1 else 0), by rw [hn, hlow]; split <;> omega, rfl, EvE.of fun k => ?_⟩
      simp only [laws_FnSpare.l0, e, laws_less.f]
      rw [if_pos (by omega), if_pos (by omega), if_pos (by omega)]
      by_cases d : (s[i]).f2 ≤ 1
      · rw [decide_eq_true d, if_pos rfl, Option.bind_some, if_pos d, w64 (x := n + 1) (by omega) (by omega), w64s hi (by omega)]
      · rw [decide_eq_false d, if_neg (by simp), Option.bind_some, if_neg d, w64 (x := n + 0) (by omega) (by omega), w64s hi (by omega)]) 0 0 (Nat.zero_le _) (by simp [low])
  obtain ⟨k, e1, e2, e3⟩ := (evA hM (evA hE (evP key))).ex
  exact ⟨k, by simp only [laws_FnSpare.f, e1, e2, Option.bind_some]; rw [if_neg c0]; exact e3⟩
end Go.Proofs.Ytfjhkediaholmaa.Pure
