/- The program's Put and the reference's tell the same, for all caches, keys and values. No condition. -/
import Derived.Test.YtfjhkediaholmaaDFnExactPut
import Derived.Test.YtfjhkediaholmaaLm
namespace Go.Proofs.Ytfjhkediaholmaa.Pure
open Go.RowKit Go.Proofs.Ytfjhkediaholmaa.QFnExactPut Go.Proofs.YtfjhkediaholmaaW.PrintWords Go.Proofs.YtfjhkediaholmaaW.PrintLast Go.Proofs.YtfjhkediaholmaaW.PrintMore Go.Proofs.Ytfjhkediaholmaa.Lm
set_option linter.unusedSimpArgs false
set_option linter.unusedVariables false
theorem spec_l10Clean_ev (s : ByteArray) (hs : s.size ≤ 9223372036854775807) : Ev (fun k => spec_l10Clean.f k s) (plain (bytesOf s)) := by
  have := Ev.scan (l := fun k (_ : Unit) i => spec_l10Clean.l0 k s i) s.size (fun _ _ => True) (fun i _ => plain ((bytesOf s).drop i)) ?_ ?_ 0 () (Nat.zero_le _) trivial
  · simpa [spec_l10Clean.f] using this
  · intro _ _
    exact Ev.some_ fun k => by simp only [spec_l10Clean.l0]; rw [if_neg (by omega)]; simp [plain, ← bytesOf_length]
  · intro i _ hi _
    have hd := drop_bt s i hi
    have hl : ∀ k, spec_l10Clean.l0 (k + 1) s (i : Int) = if bt s (i : Int) = 32 then some false else if bt s (i : Int) = 10 then some false else spec_l10Clean.l0 k s ((i + 1 : Nat) : Int) := fun k => by
      simp only [spec_l10Clean.l0]; rw [if_pos (by omega), if_pos (by omega), w64s hi hs]
    by_cases h1 : bt s (i : Int) = 32
    · exact .inl (Ev.some_ fun k => by simp only [hl]; rw [if_pos h1, hd, h1]; rfl)
    · by_cases h2 : bt s (i : Int) = 10
      · exact .inl (Ev.some_ fun k => by simp only [hl]; rw [if_neg h1, if_pos h2, hd, h2]; rfl)
      · exact .inr ⟨(), trivial, by rw [hd]; simp [plain, h1, h2], EvE.of fun k => by simp only [hl]; rw [if_neg h1, if_neg h2]⟩
theorem impl_isPlain_ev (s : ByteArray) (hs : s.size ≤ 9223372036854775807) : Ev (fun k => impl_isPlain.f k s) (plain (bytesOf s)) := by
  have := Ev.scan (l := fun k (_ : Unit) i => impl_isPlain.l0 k s i) s.size (fun _ _ => True) (fun i _ => plain ((bytesOf s).drop i)) ?_ ?_ 0 () (Nat.zero_le _) trivial
  · simpa [impl_isPlain.f] using this
  · intro _ _
    exact Ev.some_ fun k => by simp only [impl_isPlain.l0]; rw [if_neg (by omega)]; simp [plain, ← bytesOf_length]
  · intro i _ hi _
    have hd := drop_bt s i hi
    have hl : ∀ k, impl_isPlain.l0 (k + 1) s (i : Int) = if bt s (i : Int) = 32 then some false else if bt s (i : Int) = 10 then some false else impl_isPlain.l0 k s ((i + 1 : Nat) : Int) := fun k => by
      simp only [impl_isPlain.l0]; rw [if_pos (by omega), if_pos (by omega), w64s hi hs]
    by_cases h1 : bt s (i : Int) = 32
    · exact .inl (Ev.some_ fun k => by simp only [hl]; rw [if_pos h1, hd, h1]; rfl)
    · by_cases h2 : bt s (i : Int) = 10
      · exact .inl (Ev.some_ fun k => by simp only [hl]; rw [if_neg h1, if_pos h2, hd, h2]; rfl)
      · exact .inr ⟨(), trivial, by rw [hd]; simp [plain, h1, h2], EvE.of fun k => by simp only [hl]; rw [if_neg h1, if_neg h2]⟩
theorem spec_ItemOk_ev (a b : ByteArray) (f : Int) (ha : a.size ≤ 9223372036854775807) (hb : b.size ≤ 9223372036854775807) : Ev (fun k => spec_ItemOk.f k a b f) (itemOk a b f) := by
  obtain ⟨K1, h1⟩ := spec_l10Clean_ev a ha
  obtain ⟨K2, h2⟩ := spec_l10Clean_ev b hb
  refine ⟨max K1 K2, fun k hk => ?_⟩
  have e1 := h1 k (by omega)
  have e2 := h2 k (by omega)
  by_cases c1 : 1 ≤ (a.size : Int) <;> by_cases c2 : (a.size : Int) ≤ 20 <;> by_cases c3 : (b.size : Int) ≤ 40 <;> by_cases c4 : 0 ≤ f <;> by_cases c5 : f ≤ 3 <;> cases p1 : plain (bytesOf a) <;> cases p2 : plain (bytesOf b) <;>
    simp only [spec_ItemOk.f, spec_l01In.f, e1, e2, Option.bind_some, itemOk, ge_iff_le, c1, c2, c3, c4, c5, p1, p2, if_true, if_false, decide_true, decide_false, Bool.and_true, Bool.true_and, Bool.false_and, Bool.and_false, Bool.false_eq_true]
theorem impl_ItemOk_ev (a b : ByteArray) (f : Int) (ha : a.size ≤ 9223372036854775807) (hb : b.size ≤ 9223372036854775807) : Ev (fun k => impl_ItemOk.f k a b f) (itemOk a b f) := by
  obtain ⟨K1, h1⟩ := impl_isPlain_ev a ha
  obtain ⟨K2, h2⟩ := impl_isPlain_ev b hb
  refine ⟨max K1 K2, fun k hk => ?_⟩
  have e1 := h1 k (by omega)
  have e2 := h2 k (by omega)
  by_cases c1 : 1 ≤ (a.size : Int) <;> by_cases c2 : (a.size : Int) ≤ 20 <;> by_cases c3 : (b.size : Int) ≤ 40 <;> by_cases c4 : 0 ≤ f <;> by_cases c5 : f ≤ 3 <;> cases p1 : plain (bytesOf a) <;> cases p2 : plain (bytesOf b) <;>
    simp only [impl_ItemOk.f, impl_within.f, e1, e2, Option.bind_some, itemOk, ge_iff_le, c1, c2, c3, c4, c5, p1, p2, if_true, if_false, decide_true, decide_false, Bool.and_true, Bool.true_and, Bool.false_and, Bool.and_false, Bool.false_eq_true]
theorem drop_I (l : List S68) (i : Nat) (h : i < l.length) : l.drop i = rd_T68 l (i : Int) :: l.drop (i + 1) := by
  unfold rd_T68; rw [Int.toNat_natCast]; exact drop_cons _ l i h
/-- Where a key's item is. -/
def atI (l : List S68) (key : ByteArray) : Int := if l.any (fun x => decide (x.f0 = key)) then ((l.findIdx (fun x => decide (x.f0 = key)) : Nat) : Int) else -1
def okI (l : List S68) (i : Nat) : Bool := itemOk (rd_T68 l (i : Int)).f0 (rd_T68 l (i : Int)).f1 (rd_T68 l (i : Int)).f2 && decide (atI l (rd_T68 l (i : Int)).f0 = (i : Int))
/-- Items are right, and no two have one key. -/
def areI (l : List S68) : Bool := allN l.length (okI l)
/-- The texts of items are no longer than texts are. -/
def SmallI (l : List S68) : Prop := l.length ≤ 1048576 ∧ ∀ x ∈ l, x.f0.size ≤ 9223372036854775807 ∧ x.f1.size ≤ 9223372036854775807
theorem SmallI.at {l : List S68} (h : SmallI l) (i : Nat) (hi : i < l.length) : (rd_T68 l (i : Int)).f0.size ≤ 9223372036854775807 ∧ (rd_T68 l (i : Int)).f1.size ≤ 9223372036854775807 :=
  h.2 _ (by unfold rd_T68; rw [Int.toNat_natCast]; exact getD_mem _ l i hi)
theorem spec_l10At_ev (l : List S68) (x : ByteArray) (hl : l.length ≤ 1048576) : Ev (fun k => spec_l10At.f k l x) (atI l x) := by
  have key := Ev.scan (fun k (_ : Unit) i => spec_l10At.l0 k x l (l.length : Int) i) l.length (fun _ _ => True) (fun i _ => if (l.drop i).any (fun y => decide (y.f0 = x)) then (((l.drop i).findIdx (fun y => decide (y.f0 = x)) + i : Nat) : Int) else -1)
    (fun _ _ => Ev.some_ fun k => by simp only [spec_l10At.l0]; rw [if_neg (by omega), List.drop_eq_nil_of_le (Nat.le_refl _)]; rfl)
    (fun i _ hi _ => by
      have hd := drop_I l i hi
      have hs : ∀ k, spec_l10At.l0 (k + 1) x l (l.length : Int) (i : Int) = if (rd_T68 l (i : Int)).f0 = x then some (i : Int) else spec_l10At.l0 k x l (l.length : Int) ((i + 1 : Nat) : Int) := fun k => by
        simp only [spec_l10At.l0, toList_inj]; rw [if_pos (by omega), if_pos (by omega), if_pos (by omega), w64s hi (by omega)]
      rw [hd, List.any_cons, List.findIdx_cons]
      by_cases c : (rd_T68 l (i : Int)).f0 = x
      · exact .inl (Ev.some_ fun k => by simp only [hs]; rw [if_pos c, decide_eq_true c]; simp)
      · exact .inr ⟨(), trivial, by
          rw [decide_eq_false c]; simp only [Bool.false_or, cond_false]
          split <;> omega, EvE.of fun k => by simp only [hs]; rw [if_neg c]⟩) 0 () (Nat.zero_le _) trivial
  simpa [spec_l10At.f, atI] using key
theorem impl_itemAt_ev (l : List S68) (x : ByteArray) (hl : l.length ≤ 1048576) : Ev (fun k => impl_itemAt.f k l x) (atI l x) := by
  have key := Ev.scan (fun k (_ : Unit) i => impl_itemAt.l0 k x l (l.length : Int) i) l.length (fun _ _ => True) (fun i _ => if (l.drop i).any (fun y => decide (y.f0 = x)) then (((l.drop i).findIdx (fun y => decide (y.f0 = x)) + i : Nat) : Int) else -1)
    (fun _ _ => Ev.some_ fun k => by simp only [impl_itemAt.l0]; rw [if_neg (by omega), List.drop_eq_nil_of_le (Nat.le_refl _)]; rfl)
    (fun i _ hi _ => by
      have hd := drop_I l i hi
      have hs : ∀ k, impl_itemAt.l0 (k + 1) x l (l.length : Int) (i : Int) = if (rd_T68 l (i : Int)).f0 = x then some (i : Int) else impl_itemAt.l0 k x l (l.length : Int) ((i + 1 : Nat) : Int) := fun k => by
        simp only [impl_itemAt.l0, toList_inj]; rw [if_pos (by omega), if_pos (by omega), if_pos (by omega), w64s hi (by omega)]
      rw [hd, List.any_cons, List.findIdx_cons]
      by_cases c : (rd_T68 l (i : Int)).f0 = x
      · exact .inl (Ev.some_ fun k => by simp only [hs]; rw [if_pos c, decide_eq_true c]; simp)
      · exact .inr ⟨(), trivial, by
          rw [decide_eq_false c]; simp only [Bool.false_or, cond_false]
          split <;> omega, EvE.of fun k => by simp only [hs]; rw [if_neg c]⟩) 0 () (Nat.zero_le _) trivial
  simpa [impl_itemAt.f, atI] using key
theorem impl_areItems_ev (l : List S68) (hl : SmallI l) : Ev (fun k => impl_areItems.f k l) (areI l) := by
  have key := Ev.asks (fun k i => impl_areItems.l0 k l l (l.length : Int) i) l.length (okI l) true
    (Ev.some_ fun k => by simp only [impl_areItems.l0]; rw [if_neg (by omega)])
    (fun i hi hp => by
      have hb := hl.at i hi
      have h1 := impl_ItemOk_ev (rd_T68 l (i : Int)).f0 (rd_T68 l (i : Int)).f1 (rd_T68 l (i : Int)).f2 hb.1 hb.2
      refine (evA h1 (evP (impl_itemAt_ev l (rd_T68 l (i : Int)).f0 hl.1))).ev fun k ⟨e1, e2⟩ => ?_
      simp only [impl_areItems.l0, e1, e2, Option.bind_some]
      rw [if_pos (by have := hl.1; omega), if_pos (by omega), if_pos (by have := hl.1; omega)]
      unfold okI at hp
      cases c : itemOk (rd_T68 l (i : Int)).f0 (rd_T68 l (i : Int)).f1 (rd_T68 l (i : Int)).f2 with
      | false => rw [if_neg (by simp)]
      | true => rw [c, Bool.true_and] at hp; rw [if_pos rfl, if_neg (of_decide_eq_false hp)])
    (fun i hi hp => by
      have hb := hl.at i hi
      have hw := hl.1
      have h1 := impl_ItemOk_ev (rd_T68 l (i : Int)).f0 (rd_T68 l (i : Int)).f1 (rd_T68 l (i : Int)).f2 hb.1 hb.2
      unfold okI at hp
      simp only [Bool.and_eq_true, decide_eq_true_eq] at hp
      rw [hp.1] at h1
      refine (evA h1 (evP (impl_itemAt_ev l (rd_T68 l (i : Int)).f0 hl.1))).eve fun k ⟨e1, e2⟩ => ?_
      simp only [impl_areItems.l0, e1, e2, Option.bind_some, if_true]
      rw [if_pos (by omega), if_pos (by omega), if_pos (by omega), if_pos hp.2, w64s hi (by omega)])
  rw [Bool.and_true] at key
  simpa [impl_areItems.f, areI] using key
def hasN (l : List Int) (x : Int) : Bool := l.any fun y => decide (y = x)
theorem hasN_cons (y : Int) (l : List Int) (x : Int) : hasN (y :: l) x = (decide (y = x) || hasN l x) := rfl
theorem spec_l03Has_ev (l : List Int) (x : Int) (hl : l.length ≤ 1048576) : Ev (fun k => spec_l03Has.f k l x) (hasN l x) := by
  have key := Ev.scan (fun k (_ : Unit) i => spec_l03Has.l0 k x l (l.length : Int) i) l.length (fun _ _ => True) (fun i _ => hasN (l.drop i) x)
    (fun _ _ => Ev.some_ fun k => by simp only [spec_l03Has.l0]; rw [if_neg (by omega), List.drop_eq_nil_of_le (Nat.le_refl _)]; rfl)
    (fun i _ hi _ => by
      have hd := drop_rd l i hi
      have hs : ∀ k, spec_l03Has.l0 (k + 1) x l (l.length : Int) (i : Int) = if rd l (i : Int) = x then some true else spec_l03Has.l0 k x l (l.length : Int) ((i + 1 : Nat) : Int) := fun k => by
        simp only [spec_l03Has.l0]; rw [if_pos (by omega), if_pos (by omega), if_pos (by omega), w64s hi (by omega)]
      rw [hd, hasN_cons]
      by_cases c : rd l (i : Int) = x
      · exact .inl (Ev.some_ fun k => by simp only [hs]; rw [if_pos c, decide_eq_true c]; rfl)
      · exact .inr ⟨(), trivial, by rw [decide_eq_false c]; rfl, EvE.of fun k => by simp only [hs]; rw [if_neg c]⟩) 0 () (Nat.zero_le _) trivial
  simpa [spec_l03Has.f] using key
theorem slices_ContainsI_ev (l : List Int) (x : Int) (hl : l.length ≤ 1048576) : Ev (fun k => slices_Contains_int_int.f k l x) (hasN l x) := by
  have key : ∃ r, Ev (fun k => slices_Index_int_int.f k l x) r ∧ decide (r ≥ 0) = hasN l x := by
    have key := Ev.scan (fun k (_ : Unit) i => slices_Index_int_int.l0 k l x (l.length : Int) i) l.length (fun _ _ => True) (fun i _ => if hasN (l.drop i) x then (((l.drop i).findIdx (fun y => decide (y = x)) + i : Nat) : Int) else -1)
      (fun _ _ => Ev.some_ fun k => by simp only [slices_Index_int_int.l0]; rw [if_neg (by omega), List.drop_eq_nil_of_le (Nat.le_refl _)]; rfl)
      (fun i _ hi _ => by
        have hd := drop_rd l i hi
        have hs : ∀ k, slices_Index_int_int.l0 (k + 1) l x (l.length : Int) (i : Int) = if rd l (i : Int) = x then some (i : Int) else slices_Index_int_int.l0 k l x (l.length : Int) ((i + 1 : Nat) : Int) := fun k => by
          simp only [slices_Index_int_int.l0]; rw [if_pos (by omega), if_pos (by omega), if_pos (by omega), w64s hi (by omega)]
          simp only [eq_comm]
        rw [hd, hasN_cons, List.findIdx_cons]
        by_cases c : rd l (i : Int) = x
        · exact .inl (Ev.some_ fun k => by simp only [hs]; rw [if_pos c, decide_eq_true c]; simp)
        · exact .inr ⟨(), trivial, by
            rw [decide_eq_false c]; simp only [Bool.false_or, cond_false]
            split <;> omega, EvE.of fun k => by simp only [hs]; rw [if_neg c]⟩) 0 () (Nat.zero_le _) trivial
    refine ⟨_, (by simpa [slices_Index_int_int.f] using key), ?_⟩
    cases hasN l x with
    | true => simp only [if_true]; exact decide_eq_true (by omega)
    | false => rfl
  obtain ⟨r, hr, e⟩ := key
  rw [← e]
  exact (evP hr).ev fun k e1 => by simp only [slices_Contains_int_int.f, e1, Option.bind_some]
def ghostsN (a b : Int) : Int := if a - b < 1 then 1 else a - b
def ghostI (g : List Int) (i : Nat) : Bool := decide (0 ≤ rd g (i : Int) ∧ rd g (i : Int) ≤ 4294967295) && !hasN (g.take i) (rd g (i : Int))
def ghostOk (g : List Int) : Bool := allN g.length (ghostI g)
/-- A cache of three queues is right. -/
def threeOk (a b : Int) (s m : List S68) (g : List Int) : Bool := decide (1 ≤ a ∧ a ≤ 60) && decide (1 ≤ b ∧ b ≤ a) && decide ((s.length : Int) + (m.length : Int) ≤ a) && decide ((g.length : Int) ≤ ghostsN a b) && (areI (s ++ m) && ghostOk g)
theorem spec_Three_l1 (a b : Int) (s m : List S68) (g : List Int) (hg : g.length ≤ 1048576) : Ev (fun k => spec_ThreeOk.l1 k g (g.length : Int) 0 a b s m g) (ghostOk g) := by
  have key := Ev.asks (fun k i => spec_ThreeOk.l1 k g (g.length : Int) i a b s m g) g.length (ghostI g) true
    (Ev.some_ fun k => by simp only [spec_ThreeOk.l1]; rw [if_neg (by omega)])
    (fun i hi hp => by
      have ht : (g.take i).length ≤ 1048576 := by rw [List.length_take]; omega
      refine (evP (spec_l03Has_ev (g.take i) (rd g (i : Int)) ht)).ev fun k e => ?_
      simp only [spec_ThreeOk.l1, spec_l01Num.f, Int.toNat_natCast, e]
      rw [if_pos (by omega), if_pos (by omega), if_pos (by omega)]
      unfold ghostI at hp
      by_cases c1 : rd g (i : Int) ≥ 0
      · rw [if_pos c1, Option.bind_some]
        by_cases c2 : rd g (i : Int) ≤ 4294967295
        · rw [if_pos (decide_eq_true c2), if_pos (by omega), Option.bind_some]
          rw [decide_eq_true ⟨c1, c2⟩, Bool.true_and] at hp
          rw [if_pos (by simpa using hp)]
        · rw [if_neg (by simp [c2])]
      · rw [if_neg c1, Option.bind_some, if_neg (by simp)])
    (fun i hi hp => by
      have ht : (g.take i).length ≤ 1048576 := by rw [List.length_take]; omega
      unfold ghostI at hp
      simp only [Bool.and_eq_true, decide_eq_true_eq, Bool.not_eq_true'] at hp
      have h3 := spec_l03Has_ev (g.take i) (rd g (i : Int)) ht
      rw [hp.2] at h3
      refine (evP h3).eve fun k e => ?_
      simp only [spec_ThreeOk.l1, spec_l01Num.f, Int.toNat_natCast, e]
      rw [if_pos (by omega), if_pos (by omega), if_pos (by omega), if_pos (show rd g (i : Int) ≥ 0 from hp.1.1), Option.bind_some, if_pos (decide_eq_true hp.1.2), if_pos (by omega), Option.bind_some, if_neg (by simp), w64s hi (by omega)])
  rw [Bool.and_true] at key
  exact key
theorem spec_Three_l0 (a b : Int) (s m l : List S68) (g : List Int) (hg : g.length ≤ 1048576) (hl : SmallI l) : Ev (fun k => spec_ThreeOk.l0 k l l (l.length : Int) 0 a b s m g) (areI l && ghostOk g) := by
  have hw := hl.1
  refine Ev.asks (fun k i => spec_ThreeOk.l0 k l l (l.length : Int) i a b s m g) l.length (okI l) _ ?_ ?_ ?_
  · refine (evP (spec_Three_l1 a b s m g hg)).ev fun k e => ?_
    simp only [spec_ThreeOk.l0, e]; rw [if_neg (by omega)]
  · intro i hi hp
    have hb := hl.at i hi
    have h1 := spec_ItemOk_ev (rd_T68 l (i : Int)).f0 (rd_T68 l (i : Int)).f1 (rd_T68 l (i : Int)).f2 hb.1 hb.2
    refine (evA h1 (evP (spec_l10At_ev l (rd_T68 l (i : Int)).f0 hl.1))).ev fun k ⟨e1, e2⟩ => ?_
    simp only [spec_ThreeOk.l0, e1, e2, Option.bind_some]
    rw [if_pos (by omega), if_pos (by omega), if_pos (by omega)]
    unfold okI at hp
    cases c : itemOk (rd_T68 l (i : Int)).f0 (rd_T68 l (i : Int)).f1 (rd_T68 l (i : Int)).f2 with
    | false => rw [if_neg (by simp)]
    | true => rw [c, Bool.true_and] at hp; rw [if_pos rfl, if_neg (of_decide_eq_false hp)]
  · intro i hi hp
    have hb := hl.at i hi
    have h1 := spec_ItemOk_ev (rd_T68 l (i : Int)).f0 (rd_T68 l (i : Int)).f1 (rd_T68 l (i : Int)).f2 hb.1 hb.2
    unfold okI at hp
    simp only [Bool.and_eq_true, decide_eq_true_eq] at hp
    rw [hp.1] at h1
    refine (evA h1 (evP (spec_l10At_ev l (rd_T68 l (i : Int)).f0 hl.1))).eve fun k ⟨e1, e2⟩ => ?_
    simp only [spec_ThreeOk.l0, e1, e2, Option.bind_some, if_true]
    rw [if_pos (by omega), if_pos (by omega), if_pos (by omega), if_pos hp.2, w64s hi (by omega)]
theorem wsub (a b : Int) (ha : a ≤ 60) (hb : 1 ≤ b) (hab : b ≤ a) : wrap64 (a - b) = a - b := w64 (by omega) (by omega)
theorem spec_ThreeOk_ev (a b : Int) (s m : List S68) (g : List Int) (hg : g.length ≤ 1048576) (hl : SmallI (s ++ m)) : Ev (fun k => spec_ThreeOk.f k a b s m g) (threeOk a b s m g) := by
  have hw := hl.1
  rw [List.length_append] at hw
  have h0 : Ev (fun k => spec_ThreeOk.j0 k true a b s m g) false := Ev.up (g := fun _ => some false) (EvE.of fun k => by simp only [spec_ThreeOk.j0, if_true]) (Ev.now _)
  have h1 : Ev (fun k => spec_ThreeOk.j0 k false a b s m g) (areI (s ++ m) && ghostOk g) := by
    refine Ev.up (g := fun k => spec_ThreeOk.l0 k (s ++ m) (s ++ m) ((s ++ m).length : Int) 0 a b s m g) (EvE.of fun k => ?_) (spec_Three_l0 a b s m (s ++ m) g hg hl)
    simp only [spec_ThreeOk.j0, Bool.false_eq_true, if_false, Option.bind_some, List.nil_append, List.length_nil]
    rw [if_pos (by omega), if_pos (by omega)]
  by_cases c1 : 1 ≤ a
  · by_cases c2 : a ≤ 60
    · by_cases c3 : 1 ≤ b
      · by_cases c4 : b ≤ a
        · have e1 : ∀ k, spec_ThreeOk.f k a b s m g = if (s.length : Int) + (m.length : Int) > a then spec_ThreeOk.j0 k true a b s m g else spec_ThreeOk.j0 k (decide ((g.length : Int) > ghostsN a b)) a b s m g := fun k => by
            simp only [spec_ThreeOk.f, spec_l01In.f, spec_l10Ghosts.f]
            rw [if_pos (by omega), Option.bind_some, if_pos (decide_eq_true c2), if_pos (by omega), Option.bind_some, if_pos (decide_eq_true c4), w64 (by omega) (by omega), wsub a b c2 c3 c4]
            unfold ghostsN
            split
            · rfl
            · split <;> rfl
          unfold threeOk
          rw [decide_eq_true ⟨c1, c2⟩, decide_eq_true ⟨c3, c4⟩, Bool.true_and, Bool.true_and]
          by_cases c5 : (s.length : Int) + (m.length : Int) ≤ a
          · by_cases c6 : (g.length : Int) ≤ ghostsN a b
            · rw [decide_eq_true c5, decide_eq_true c6, Bool.true_and, Bool.true_and]
              refine Ev.congr (fun k => ?_) h1
              rw [e1, if_neg (by omega), decide_eq_false (by omega)]
            · rw [decide_eq_false c6, Bool.and_false, Bool.false_and]
              refine Ev.congr (fun k => ?_) h0
              rw [e1, if_neg (by omega), decide_eq_true (by omega)]
          · rw [decide_eq_false c5, Bool.false_and, Bool.false_and]
            refine Ev.congr (fun k => ?_) h0
            rw [e1, if_pos (by omega)]
        · rw [show threeOk a b s m g = false by unfold threeOk; simp [c4]]
          refine Ev.congr (fun k => ?_) h0
          simp only [spec_ThreeOk.f, spec_l01In.f]
          rw [if_pos (by omega), Option.bind_some, if_pos (decide_eq_true c2), if_pos (by omega), Option.bind_some, if_neg (by simp [c4])]
      · rw [show threeOk a b s m g = false by unfold threeOk; simp [c3]]
        refine Ev.congr (fun k => ?_) h0
        simp only [spec_ThreeOk.f, spec_l01In.f]
        rw [if_pos (by omega), Option.bind_some, if_pos (decide_eq_true c2), if_neg (by omega), Option.bind_some, if_neg (by simp)]
    · rw [show threeOk a b s m g = false by unfold threeOk; simp [c2]]
      refine Ev.congr (fun k => ?_) h0
      simp only [spec_ThreeOk.f, spec_l01In.f]
      rw [if_pos (by omega), Option.bind_some, if_neg (by simp [c2])]
  · rw [show threeOk a b s m g = false by unfold threeOk; simp [c1]]
    refine Ev.congr (fun k => ?_) h0
    simp only [spec_ThreeOk.f, spec_l01In.f]
    rw [if_neg (by omega), Option.bind_some, if_neg (by simp)]
theorem impl_copyItems_eq (l : List S68) (h : l.length ≤ 1048576) : impl_copyItems.f l = some l := by
  simp only [impl_copyItems.f, Option.bind_some, List.nil_append, List.length_nil]; rw [if_pos (by omega)]
theorem impl_Three_l0 (a b : Int) (s m : List S68) (g : List Int) (hg : g.length ≤ 1048576) (hl : SmallI (s ++ m)) : Ev (fun k => impl_ThreeOk.l0 k g (g.length : Int) 0 a b s m g) (ghostOk g && (decide ((s.length : Int) + (m.length : Int) ≤ a) && areI (s ++ m))) := by
  have hw := hl.1
  rw [List.length_append] at hw
  refine Ev.asks (fun k i => impl_ThreeOk.l0 k g (g.length : Int) i a b s m g) g.length (ghostI g) _ ?_ ?_ ?_
  · refine (evP (impl_areItems_ev (s ++ m) hl)).ev fun k e => ?_
    simp only [impl_ThreeOk.l0, impl_copyItems_eq s (by omega), Option.bind_some, e, List.length_append]
    rw [if_neg (by omega), if_pos (by omega)]
    by_cases c : (s.length : Int) + (m.length : Int) ≤ a
    · rw [if_pos (by omega), decide_eq_true c, Bool.true_and]
    · rw [if_neg (by omega), decide_eq_false c, Bool.false_and]
  · intro i hi hp
    have ht : (g.take i).length ≤ 1048576 := by rw [List.length_take]; omega
    refine (evP (slices_ContainsI_ev (g.take i) (rd g (i : Int)) ht)).ev fun k e => ?_
    simp only [impl_ThreeOk.l0, impl_isNum.f, impl_within.f, Int.toNat_natCast, e]
    rw [if_pos (by omega), if_pos (by omega), if_pos (by omega)]
    unfold ghostI at hp
    by_cases c1 : rd g (i : Int) ≥ 0
    · rw [if_pos c1, Option.bind_some, Option.bind_some]
      by_cases c2 : rd g (i : Int) ≤ 4294967295
      · rw [if_pos (decide_eq_true c2), if_pos (by omega), Option.bind_some]
        rw [decide_eq_true ⟨c1, c2⟩, Bool.true_and] at hp
        rw [if_pos (by simpa using hp)]
      · rw [if_neg (by simp [c2])]
    · rw [if_neg c1, Option.bind_some, Option.bind_some, if_neg (by simp)]
  · intro i hi hp
    have ht : (g.take i).length ≤ 1048576 := by rw [List.length_take]; omega
    unfold ghostI at hp
    simp only [Bool.and_eq_true, decide_eq_true_eq, Bool.not_eq_true'] at hp
    have h3 := slices_ContainsI_ev (g.take i) (rd g (i : Int)) ht
    rw [hp.2] at h3
    refine (evP h3).eve fun k e => ?_
    simp only [impl_ThreeOk.l0, impl_isNum.f, impl_within.f, Int.toNat_natCast, e]
    rw [if_pos (by omega), if_pos (by omega), if_pos (by omega), if_pos (show rd g (i : Int) ≥ 0 from hp.1.1), Option.bind_some, Option.bind_some, if_pos (decide_eq_true hp.1.2), if_pos (by omega), Option.bind_some, if_neg (by simp), w64s hi (by omega)]
theorem impl_ThreeOk_ev (a b : Int) (s m : List S68) (g : List Int) (hg : g.length ≤ 1048576) (hl : SmallI (s ++ m)) : Ev (fun k => impl_ThreeOk.f k a b s m g) (threeOk a b s m g) := by
  have h0 : Ev (fun k => impl_ThreeOk.j0 k true a b s m g) false := Ev.up (g := fun _ => some false) (EvE.of fun k => by simp only [impl_ThreeOk.j0, if_true]) (Ev.now _)
  have h1 : Ev (fun k => impl_ThreeOk.j0 k false a b s m g) (ghostOk g && (decide ((s.length : Int) + (m.length : Int) ≤ a) && areI (s ++ m))) := by
    refine Ev.up (g := fun k => impl_ThreeOk.l0 k g (g.length : Int) 0 a b s m g) (EvE.of fun k => ?_) (impl_Three_l0 a b s m g hg hl)
    simp only [impl_ThreeOk.j0, Bool.false_eq_true, if_false]
  by_cases c1 : 1 ≤ a
  · by_cases c2 : a ≤ 60
    · by_cases c3 : 1 ≤ b
      · by_cases c4 : b ≤ a
        · have e1 : ∀ k, impl_ThreeOk.f k a b s m g = impl_ThreeOk.j0 k (decide ((g.length : Int) > ghostsN a b)) a b s m g := fun k => by
            simp only [impl_ThreeOk.f, impl_within.f]
            rw [if_pos (by omega), Option.bind_some, if_pos (decide_eq_true c2), if_pos (by omega), Option.bind_some, if_pos (decide_eq_true c4), wsub a b c2 c3 c4, show mx 1 (a - b) = ghostsN a b by unfold mx ghostsN; split <;> split <;> omega]
          unfold threeOk
          rw [decide_eq_true ⟨c1, c2⟩, decide_eq_true ⟨c3, c4⟩, Bool.true_and, Bool.true_and]
          by_cases c6 : (g.length : Int) ≤ ghostsN a b
          · rw [decide_eq_true c6]
            have e2 : (decide ((s.length : Int) + (m.length : Int) ≤ a) && true && (areI (s ++ m) && ghostOk g)) = (ghostOk g && (decide ((s.length : Int) + (m.length : Int) ≤ a) && areI (s ++ m))) := by
              generalize decide ((s.length : Int) + (m.length : Int) ≤ a) = x
              generalize areI (s ++ m) = y
              generalize ghostOk g = z
              cases x <;> cases y <;> cases z <;> rfl
            rw [e2]
            refine Ev.congr (fun k => ?_) h1
            rw [e1, decide_eq_false (by omega)]
          · rw [decide_eq_false c6, Bool.and_false, Bool.false_and]
            refine Ev.congr (fun k => ?_) h0
            rw [e1, decide_eq_true (by omega)]
        · rw [show threeOk a b s m g = false by unfold threeOk; simp [c4]]
          refine Ev.congr (fun k => ?_) h0
          simp only [impl_ThreeOk.f, impl_within.f]
          rw [if_pos (by omega), Option.bind_some, if_pos (decide_eq_true c2), if_pos (by omega), Option.bind_some, if_neg (by simp [c4])]
      · rw [show threeOk a b s m g = false by unfold threeOk; simp [c3]]
        refine Ev.congr (fun k => ?_) h0
        simp only [impl_ThreeOk.f, impl_within.f]
        rw [if_pos (by omega), Option.bind_some, if_pos (decide_eq_true c2), if_neg (by omega), Option.bind_some, if_neg (by simp)]
    · rw [show threeOk a b s m g = false by unfold threeOk; simp [c2]]
      refine Ev.congr (fun k => ?_) h0
      simp only [impl_ThreeOk.f, impl_within.f]
      rw [if_pos (by omega), Option.bind_some, if_neg (by simp [c2])]
  · rw [show threeOk a b s m g = false by unfold threeOk; simp [c1]]
    refine Ev.congr (fun k => ?_) h0
    simp only [impl_ThreeOk.f, impl_within.f]
    rw [if_neg (by omega), Option.bind_some, if_neg (by simp)]
def rdI (l : List S68) (i : Nat) : S68 := rd_T68 l (i : Int)
theorem rdI_get (l : List S68) (i : Nat) (h : i < l.length) : rdI l i = l[i] := by
  unfold rdI rd_T68; rw [Int.toNat_natCast]; simp [h]
theorem at_lt (l : List S68) (x : ByteArray) (h : 0 ≤ atI l x) : ∃ i : Nat, atI l x = (i : Int) ∧ i < l.length ∧ (rdI l i).f0 = x := by
  unfold atI at h ⊢
  by_cases c : (l.any fun y => decide (y.f0 = x)) = true
  · rw [if_pos c]
    obtain ⟨y, hy, hx⟩ := List.any_eq_true.1 c
    have hi := List.findIdx_lt_length_of_exists (p := fun y => decide (y.f0 = x)) ⟨y, hy, hx⟩
    refine ⟨_, rfl, hi, ?_⟩
    rw [rdI_get l _ hi]
    exact of_decide_eq_true (List.findIdx_getElem (p := fun y : S68 => decide (y.f0 = x)) (w := hi))
  · rw [if_neg c] at h; omega
theorem ok_are (l : List S68) (h : areI l = true) (i : Nat) (hi : i < l.length) : atI l (rdI l i).f0 = (i : Int) ∧ 0 ≤ (rdI l i).f2 ∧ (rdI l i).f2 ≤ 3 := by
  unfold areI allN at h
  have := List.all_eq_true.1 h i (List.mem_range.2 hi)
  unfold okI at this
  simp only [Bool.and_eq_true, decide_eq_true_eq] at this
  exact ⟨this.2, (itemOk_sizes this.1).2.2.2⟩
theorem three_are {a b : Int} {s m : List S68} {g : List Int} (h : threeOk a b s m g = true) : areI (s ++ m) = true := by
  unfold threeOk at h
  simp only [Bool.and_eq_true] at h
  exact h.2.1
theorem three_len {a b : Int} {s m : List S68} {g : List Int} (h : threeOk a b s m g = true) : s.length + m.length ≤ 60 ∧ g.length ≤ 60 := by
  unfold threeOk ghostsN at h
  simp only [Bool.and_eq_true, decide_eq_true_eq] at h
  obtain ⟨⟨⟨⟨h1, h2⟩, h3⟩, h4⟩, _⟩ := h
  split at h4 <;> omega
theorem rdI_left (s m : List S68) (i : Nat) (h : i < s.length) : rdI (s ++ m) i = rdI s i := by
  rw [rdI_get _ i (by rw [List.length_append]; omega), rdI_get s i h, List.getElem_append_left h]
theorem rdI_right (s m : List S68) (i : Nat) (h : i < m.length) : rdI (s ++ m) (s.length + i) = rdI m i := by
  rw [rdI_get _ _ (by rw [List.length_append]; omega), rdI_get m i h, List.getElem_append_right (by omega)]
  congr 1; omega
theorem not_both {s m : List S68} (h : areI (s ++ m) = true) (x : ByteArray) (h1 : 0 ≤ atI s x) : ¬ 0 ≤ atI m x := fun h2 => by
  obtain ⟨i, _, hi, e1⟩ := at_lt s x h1
  obtain ⟨j, _, hj, e2⟩ := at_lt m x h2
  have a1 := (ok_are _ h i (by rw [List.length_append]; omega)).1
  have a2 := (ok_are _ h (s.length + j) (by rw [List.length_append]; omega)).1
  rw [rdI_left s m i hi, e1] at a1
  rw [rdI_right s m j hj, e2, a1] at a2
  omega
def fsum (m : List S68) : Nat := (m.map fun x => x.f2.toNat).sum
def okF (m : List S68) : Prop := ∀ x ∈ m, 0 ≤ x.f2 ∧ x.f2 ≤ 3
def less1 (x : S68) : S68 := ⟨x.f0, x.f1, wrap64 (x.f2 - 1)⟩
def evm : Nat → List S68 → List S68 × ByteArray × Bool
  | _, [] => ([], ⟨#[]⟩, false)
  | 0, m => (m, ⟨#[]⟩, false)
  | n + 1, x :: t => if x.f2 = 0 then (t, x.f0, true) else evm n (t ++ [less1 x])
theorem less1_f2 (x : S68) (h : 0 ≤ x.f2 ∧ x.f2 ≤ 3) (h0 : ¬ x.f2 = 0) : (less1 x).f2 = x.f2 - 1 := w64 (by omega) (by omega)
theorem okF_next {x : S68} {t : List S68} (h : okF (x :: t)) (h0 : ¬ x.f2 = 0) : okF (t ++ [less1 x]) ∧ fsum (t ++ [less1 x]) + 1 = fsum (x :: t) := by
  have hx := h x (List.mem_cons_self ..)
  have e := less1_f2 x hx h0
  constructor
  · intro y hy
    rcases List.mem_append.1 hy with hy | hy
    · exact h y (List.mem_cons_of_mem _ hy)
    · rw [List.mem_singleton.1 hy, e]; omega
  · unfold fsum
    rw [List.map_append, List.sum_append, List.map_cons, List.map_cons, List.sum_cons, List.map_nil, List.sum_cons, List.sum_nil, e]
    omega
theorem evm_len : ∀ (n : Nat) (m : List S68), (evm n m).1.length ≤ m.length
  | 0, [] => Nat.le_refl _
  | _ + 1, [] => Nat.le_refl _
  | 0, _ :: _ => Nat.le_refl _
  | n + 1, x :: t => by
    unfold evm
    split
    · simp
    · have := evm_len n (t ++ [less1 x])
      simpa using this
theorem okF_three {a b : Int} {s m : List S68} {g : List Int} (h : threeOk a b s m g = true) : okF s ∧ okF m := by
  have ha := three_are h
  constructor
  · intro x hx
    obtain ⟨i, hi, rfl⟩ := List.getElem_of_mem hx
    have := (ok_are _ ha i (by rw [List.length_append]; omega)).2
    rw [rdI_left s m i hi, rdI_get s i hi] at this
    exact this
  · intro x hx
    obtain ⟨i, hi, rfl⟩ := List.getElem_of_mem hx
    have := (ok_are _ ha (s.length + i) (by rw [List.length_append]; omega)).2
    rw [rdI_right s m i hi, rdI_get m i hi] at this
    exact this
theorem rd_0 (x : S68) (t : List S68) : rd_T68 (x :: t) 0 = x := rfl
theorem spec_main_ev (a b : Int) (s : List S68) (g : List Int) : ∀ (n : Nat) (m : List S68), okF m → fsum m < n → m.length ≤ 1048576 → Ev (fun k => spec_EvictMain.l0 k a b s m g) (a, b, s, (evm n m).1, g, (evm n m).2.1, (evm n m).2.2) := by
  intro n
  induction n with
  | zero => intro m _ h; omega
  | succ n ih =>
    intro m hm hf hl
    cases m with
    | nil => exact Ev.up (g := fun _ => some (a, b, s, [], g, ⟨#[]⟩, false)) (EvE.of fun k => by simp only [spec_EvictMain.l0]; rw [if_neg (by simp)]) (Ev.now _)
    | cons x t =>
      have hl' : t.length + 1 ≤ 1048576 := by simpa using hl
      have h0 : ∀ k, spec_EvictMain.l0 (k + 1) a b s (x :: t) g = if x.f2 = 0 then some (a, b, s, t, g, x.f0, true) else spec_EvictMain.l0 k a b s (t ++ [less1 x]) g := fun k => by
        simp only [spec_EvictMain.l0, Option.bind_some, rd_0, List.drop_succ_cons, List.drop_zero, List.nil_append, List.length_nil]
        rw [if_pos (by simp), if_pos (by simp), if_pos (by simp; omega), if_pos (by omega), if_pos (show t.length < 3518437208883 by omega)]
        rfl
      by_cases c : x.f2 = 0
      · refine Ev.up (g := fun _ => some (a, b, s, t, g, x.f0, true)) (EvE.of fun k => by rw [h0, if_pos c]) ?_
        have e : evm (n + 1) (x :: t) = (t, x.f0, true) := by unfold evm; rw [if_pos c]
        rw [e]; exact Ev.now _
      · obtain ⟨h1, h2⟩ := okF_next hm c
        have e : evm (n + 1) (x :: t) = evm n (t ++ [less1 x]) := by conv => lhs; unfold evm
                                                                     rw [if_neg c]
        rw [e]
        exact Ev.up (EvE.of fun k => by rw [h0, if_neg c]) (ih _ h1 (by omega) (by simp; omega))
theorem impl_main_ev (a b : Int) (s : List S68) (g : List Int) : ∀ (n : Nat) (m : List S68), okF m → fsum m < n → m.length ≤ 1048576 → Ev (fun k => impl_Three_evictMain.l0 k a b s m g) ((evm n m).2.1, (evm n m).2.2, a, b, s, (evm n m).1, g) := by
  intro n
  induction n with
  | zero => intro m _ h; omega
  | succ n ih =>
    intro m hm hf hl
    cases m with
    | nil => exact Ev.up (g := fun _ => some (⟨#[]⟩, false, a, b, s, [], g)) (EvE.of fun k => by simp only [impl_Three_evictMain.l0]; rw [if_neg (by simp)]) (Ev.now _)
    | cons x t =>
      have hl' : t.length + 1 ≤ 1048576 := by simpa using hl
      have h0 : ∀ k, impl_Three_evictMain.l0 (k + 1) a b s (x :: t) g = if x.f2 = 0 then some (x.f0, true, a, b, s, t, g) else impl_Three_evictMain.l0 k a b s (t ++ [less1 x]) g := fun k => by
        have e1 : (1 : Int).toNat = 1 := rfl
        simp only [impl_Three_evictMain.l0, Option.bind_some, rd_0, e1, List.drop_succ_cons, List.drop_zero]
        rw [if_pos (by simp), if_pos (by simp), if_pos (by simp; omega), if_pos (show t.length < 3518437208883 by omega)]
        rfl
      by_cases c : x.f2 = 0
      · refine Ev.up (g := fun _ => some (x.f0, true, a, b, s, t, g)) (EvE.of fun k => by rw [h0, if_pos c]) ?_
        have e : evm (n + 1) (x :: t) = (t, x.f0, true) := by unfold evm; rw [if_pos c]
        rw [e]; exact Ev.now _
      · obtain ⟨h1, h2⟩ := okF_next hm c
        have e : evm (n + 1) (x :: t) = evm n (t ++ [less1 x]) := by conv => lhs; unfold evm
                                                                     rw [if_neg c]
        rw [e]
        exact Ev.up (EvE.of fun k => by rw [h0, if_neg c]) (ih _ h1 (by omega) (by simp; omega))
theorem spec_copy3 (a b : Int) (s m : List S68) (g : List Int) (h1 : s.length ≤ 1048576) (h2 : m.length ≤ 1048576) (h3 : g.length ≤ 1048576) : spec_l10Copy.f a b s m g = some (a, b, s, m, g) := by
  simp only [spec_l10Copy.f, Option.bind_some, List.length_nil, List.nil_append]; rw [if_pos (by omega), if_pos (by omega), if_pos (by omega)]
theorem impl_copyInts3 (g : List Int) (h3 : g.length ≤ 1048576) : impl_copyInts.f g = some g := by
  simp only [impl_copyInts.f, Option.bind_some, List.length_nil, List.nil_append]; rw [if_pos (by omega)]
theorem impl_copy3 (a b : Int) (s m : List S68) (g : List Int) (h1 : s.length ≤ 1048576) (h2 : m.length ≤ 1048576) (h3 : g.length ≤ 1048576) : impl_copyThree.f a b s m g = some (a, b, s, m, g) := by
  simp only [impl_copyThree.f, impl_copyItems_eq s h1, impl_copyItems_eq m h2, impl_copyInts3 g h3, Option.bind_some]
abbrev EvT := Int × Int × List S68 × List S68 × List Int × ByteArray × Bool
def evMainV (a b : Int) (s m : List S68) (g : List Int) : EvT := if threeOk a b s m g = true then (a, b, s, (evm (fsum m + 1) m).1, g, (evm (fsum m + 1) m).2.1, (evm (fsum m + 1) m).2.2) else (0, 0, [], [], [], ⟨#[]⟩, false)
theorem spec_EvictMain_ev (a b : Int) (s m : List S68) (g : List Int) (hg : g.length ≤ 1048576) (hl : SmallI (s ++ m)) : Ev (fun k => spec_EvictMain.f k a b s m g) (evMainV a b s m g) := by
  have hl1 := hl.1
  rw [List.length_append] at hl1
  have hO := spec_ThreeOk_ev a b s m g hg hl
  unfold evMainV
  by_cases c : threeOk a b s m g = true
  · rw [if_pos c]
    refine (evA hO (evP (spec_main_ev a b s g (fsum m + 1) m (okF_three c).2 (Nat.lt_succ_self _) (by omega)))).ev fun k ⟨e1, e2⟩ => ?_
    simp only [spec_EvictMain.f, e1, spec_copy3 a b s m g (by omega) (by omega) hg, Option.bind_some, e2]
    rw [if_pos c]
  · rw [if_neg c]
    refine (evP hO).ev fun k e1 => ?_
    simp only [spec_EvictMain.f, e1, Option.bind_some]
    rw [if_neg c]
def but (v : List Int) (x : Int) : List Int := v.filter fun y => !decide (y = x)
theorem spec_but_ev (v : List Int) (x : Int) (hv : v.length ≤ 1048576) : Ev (fun k => spec_l08But.f k v x) (but v x) := by
  have key := Ev.scan (fun k (s : List Int) i => spec_l08But.l0 k x s v (v.length : Int) i) v.length (fun i s => s.length ≤ i) (fun i s => s ++ but (v.drop i) x)
    (fun s _ => Ev.some_ fun k => by
      simp only [spec_l08But.l0]; rw [if_neg (by omega), List.drop_eq_nil_of_le (Nat.le_refl _)]; simp [but])
    (fun i s hi hs => by
      have hd : v.drop i = rd v (i : Int) :: v.drop (i + 1) := drop_rd v i hi
      have h0 : ∀ k, spec_l08But.l0 (k + 1) x s v (v.length : Int) (i : Int) = if rd v (i : Int) = x then spec_l08But.l0 k x s v (v.length : Int) ((i + 1 : Nat) : Int) else spec_l08But.l0 k x (s ++ [rd v (i : Int)]) v (v.length : Int) ((i + 1 : Nat) : Int) := fun k => by
        simp only [spec_l08But.l0]; have hb : s.length < 17592186044416 := by omega
        rw [if_pos (by omega), if_pos (by omega), if_pos (by omega), w64s hi (by omega), if_pos hb]
      by_cases c : rd v (i : Int) = x
      · refine .inr ⟨s, by omega, ?_, EvE.of fun k => by simp only [h0]; rw [if_pos c]⟩
        rw [hd]; unfold but; rw [List.filter_cons_of_neg (by simpa using c)]
      · refine .inr ⟨s ++ [rd v (i : Int)], by simp; omega, ?_, EvE.of fun k => by simp only [h0]; rw [if_neg c]⟩
        rw [hd]; unfold but; rw [List.filter_cons_of_pos (by simpa using c)]; simp) 0 [] (Nat.zero_le _) (Nat.le_refl _)
  simpa [spec_l08But.f] using key
def hstep (h b : Int) : Int := Int.tmod (wrap64 ((Go.bits .xor .i64 h (wrap64 b)) * 16777619)) 4294967296
def hashV (s : ByteArray) : Int := (bytesOf s).foldl hstep 2166136261
theorem spec_Hash_ev (s : ByteArray) (hs : s.size ≤ 9223372036854775807) : Ev (fun k => spec_Hash.f k s) (hashV s) := by
  have key := Ev.scan (fun k (h : Int) i => spec_Hash.l0 k s h i) s.size (fun _ _ => True) (fun i h => ((bytesOf s).drop i).foldl hstep h)
    (fun h _ => Ev.some_ fun k => by
      simp only [spec_Hash.l0]; rw [if_neg (by omega), List.drop_eq_nil_of_le (by rw [bytesOf_length]; exact Nat.le_refl _)]; rfl)
    (fun i h hi _ => .inr ⟨hstep h (bt s (i : Int)), trivial, by rw [drop_bt s i hi]; rfl, EvE.of fun k => by
      simp only [spec_Hash.l0]; rw [if_pos (by omega), if_pos (by omega), w64s hi hs]; rfl⟩) 0 2166136261 (Nat.zero_le _) trivial
  simpa [spec_Hash.f, hashV] using key
theorem impl_Hash_eq : ∀ k (s : ByteArray) (h i : Int), impl_Hash.l0 k s h i = spec_Hash.l0 k s h i
  | 0, _, _, _ => rfl
  | k + 1, s, h, i => by
    simp only [impl_Hash.l0, spec_Hash.l0]
    rw [impl_Hash_eq k]
theorem impl_Hash_ev (s : ByteArray) (hs : s.size ≤ 9223372036854775807) : Ev (fun k => impl_Hash.f k s) (hashV s) := by
  have h := spec_Hash_ev s hs
  have e : (fun k => impl_Hash.f k s) = fun k => spec_Hash.f k s := by funext k; exact impl_Hash_eq k s _ _
  rw [e]; exact h
def ghN (a b : Int) : Int := if wrap64 (a - b) < 1 then 1 else wrap64 (a - b)
def haunt (a b : Int) (g : List Int) (h : Int) : List Int := if ((but g h ++ [h]).length : Int) > ghN a b then (but g h ++ [h]).drop 1 else but g h ++ [h]
theorem but_len (g : List Int) (h : Int) : (but g h).length ≤ g.length := List.length_filter_le _ _
theorem haunt_len (a b : Int) (g : List Int) (h : Int) : (haunt a b g h).length ≤ g.length + 1 := by
  have := but_len g h
  unfold haunt
  split
  · rw [List.length_drop, List.length_append, List.length_singleton]; omega
  · rw [List.length_append, List.length_singleton]; omega
theorem spec_gh (a b : Int) (s m : List S68) (g : List Int) : spec_l10Ghosts.f a b s m g = some (ghN a b) := by
  unfold spec_l10Ghosts.f ghN; split <;> rfl
theorem impl_gh (a b : Int) (s m : List S68) (g : List Int) : impl_Three_ghosts.f a b s m g = some (ghN a b) := by
  unfold impl_Three_ghosts.f ghN mx
  congr 1
  by_cases c : wrap64 (a - b) < 1
  · rw [if_pos c, if_neg (by omega)]
  · rw [if_neg c]
    by_cases d : 1 < wrap64 (a - b)
    · rw [if_pos d]
    · rw [if_neg d]; omega
theorem impl_but (g : List Int) (h : Int) : slices_DeleteFunc_int_int.f g h = some (but g h) := by
  unfold slices_DeleteFunc_int_int.f
  cases g with
  | nil => rfl
  | cons y l => rw [if_pos (by simp)]; rfl
theorem spec_Haunt_ev (a b : Int) (s m : List S68) (g : List Int) (h : Int) (hg : g.length ≤ 1048576) : Ev (fun k => spec_l10Haunt.f k a b s m g h) (a, b, s, m, haunt a b g h) := by
  have hb := but_len g h
  refine (evP (spec_but_ev g h hg)).ev fun k e => ?_
  simp only [spec_l10Haunt.f, e, Option.bind_some, spec_gh]
  rw [if_pos (show (but g h).length < 17592186044416 by omega)]
  unfold haunt
  by_cases c : ((but g h ++ [h]).length : Int) > ghN a b
  · rw [if_pos c, if_pos c, if_pos (by simp; omega)]; rfl
  · rw [if_neg c, if_neg c]
def smallV (a b : Int) : List S68 → List S68 → List Int → List S68 × List S68 × List Int × ByteArray × Bool
  | [], m, g => ([], m, g, ⟨#[]⟩, false)
  | x :: t, m, g => if x.f2 > 1 then smallV a b t (m ++ [⟨x.f0, x.f1, 0⟩]) g else (t, m, haunt a b g (hashV x.f0), x.f0, true)
theorem smallV_len (a b : Int) : ∀ (s m : List S68) (g : List Int), (smallV a b s m g).1.length ≤ s.length ∧ (smallV a b s m g).2.1.length ≤ s.length + m.length ∧ (smallV a b s m g).2.2.1.length ≤ g.length + 1
  | [], m, g => ⟨Nat.le_refl _, by simp [smallV], by simp [smallV]⟩
  | x :: t, m, g => by
    unfold smallV
    split
    · have := smallV_len a b t (m ++ [⟨x.f0, x.f1, 0⟩]) g
      rw [show (m ++ [(⟨x.f0, x.f1, 0⟩ : S68)]).length = m.length + 1 from by simp] at this
      rw [List.length_cons]
      omega
    · have := haunt_len a b g (hashV x.f0)
      simp only [List.length_cons]; omega
theorem rd_00 (x : S68) (t : List S68) : rd_T68 (x :: t) 0 = x := rfl
theorem impl_small_ev (a b : Int) (g : List Int) (hg : g.length ≤ 1048576) : ∀ s m : List S68, (∀ x ∈ s, x.f0.size ≤ 9223372036854775807) → s.length + m.length ≤ 2097152 → Ev (fun k => impl_Three_evictSmall.l0 k a b s m g) ((smallV a b s m g).2.2.2.1, (smallV a b s m g).2.2.2.2, a, b, (smallV a b s m g).1, (smallV a b s m g).2.1, (smallV a b s m g).2.2.1)
  | [], m, hs, hl => Ev.up (g := fun _ => some (⟨#[]⟩, false, a, b, [], m, g)) (EvE.of fun k => by simp only [impl_Three_evictSmall.l0]; rw [if_neg (by simp)]) (Ev.now _)
  | x :: t, m, hs, hl => by
    have hl' : t.length + 1 + m.length ≤ 2097152 := by simpa using hl
    have e1 : (1 : Int).toNat = 1 := rfl
    have hb := but_len g (hashV x.f0)
    by_cases c : x.f2 > 1
    · have e : smallV a b (x :: t) m g = smallV a b t (m ++ [⟨x.f0, x.f1, 0⟩]) g := (smallV.eq_2 a b m g x t).trans (if_pos c)
      rw [e]
      refine Ev.up (EvE.of fun k => ?_) (impl_small_ev a b g hg t (m ++ [⟨x.f0, x.f1, 0⟩]) (fun y hy => hs y (List.mem_cons_of_mem _ hy)) (by simp; omega))
      simp only [impl_Three_evictSmall.l0, Option.bind_some, rd_00, e1, List.drop_succ_cons, List.drop_zero]
      rw [if_pos (by simp), if_pos (by simp), if_pos (by simp; omega), if_pos c, if_pos (by simp; omega)]
    · have e : smallV a b (x :: t) m g = (t, m, haunt a b g (hashV x.f0), x.f0, true) := (smallV.eq_2 a b m g x t).trans (if_neg c)
      rw [e]
      refine Ev.up (g := fun _ => some (x.f0, true, a, b, t, m, haunt a b g (hashV x.f0))) ((evP (impl_Hash_ev x.f0 (hs x (List.mem_cons_self ..)))).eve fun k e2 => ?_) (Ev.now _)
      simp only [impl_Three_evictSmall.l0, Option.bind_some, rd_00, e1, List.drop_succ_cons, List.drop_zero, e2, impl_but, impl_gh]
      rw [if_pos (by simp), if_pos (by simp), if_pos (by simp; omega), if_neg c, if_pos (by simp; omega)]
      unfold haunt
      by_cases d : ((but g (hashV x.f0) ++ [hashV x.f0]).length : Int) > ghN a b
      · rw [if_pos d, if_pos d, if_pos (by simp; omega)]
      · rw [if_neg d, if_neg d]
theorem spec_small_ev (a b : Int) (g : List Int) (hg : g.length ≤ 1048576) : ∀ s m : List S68, (∀ x ∈ s, x.f0.size ≤ 9223372036854775807) → s.length + m.length ≤ 2097152 → Ev (fun k => spec_EvictSmall.l0 k a b s m g) (a, b, (smallV a b s m g).1, (smallV a b s m g).2.1, (smallV a b s m g).2.2.1, (smallV a b s m g).2.2.2.1, (smallV a b s m g).2.2.2.2)
  | [], m, hs, hl => Ev.up (g := fun _ => some (a, b, [], m, g, ⟨#[]⟩, false)) (EvE.of fun k => by simp only [spec_EvictSmall.l0]; rw [if_neg (by simp)]) (Ev.now _)
  | x :: t, m, hs, hl => by
    have hl' : t.length + 1 + m.length ≤ 2097152 := by simpa using hl
    by_cases c : x.f2 > 1
    · have e : smallV a b (x :: t) m g = smallV a b t (m ++ [⟨x.f0, x.f1, 0⟩]) g := (smallV.eq_2 a b m g x t).trans (if_pos c)
      rw [e]
      refine Ev.up (EvE.of fun k => ?_) (spec_small_ev a b g hg t (m ++ [⟨x.f0, x.f1, 0⟩]) (fun y hy => hs y (List.mem_cons_of_mem _ hy)) (by simp; omega))
      simp only [spec_EvictSmall.l0, Option.bind_some, rd_00, List.drop_succ_cons, List.drop_zero, List.nil_append, List.length_nil]
      rw [if_pos (by simp), if_pos (by simp), if_pos (by simp; omega), if_pos (by omega), if_neg (by omega), if_pos (by omega)]
    · have e : smallV a b (x :: t) m g = (t, m, haunt a b g (hashV x.f0), x.f0, true) := (smallV.eq_2 a b m g x t).trans (if_neg c)
      rw [e]
      refine Ev.up (g := fun _ => some (a, b, t, m, haunt a b g (hashV x.f0), x.f0, true)) ((evA (spec_Hash_ev x.f0 (hs x (List.mem_cons_self ..))) (evP (spec_Haunt_ev a b t m g (hashV x.f0) hg))).eve fun k ⟨e2, e3⟩ => ?_) (Ev.now _)
      simp only [spec_EvictSmall.l0, Option.bind_some, rd_00, List.drop_succ_cons, List.drop_zero, List.nil_append, List.length_nil, e2, e3]
      rw [if_pos (by simp), if_pos (by simp), if_pos (by simp; omega), if_pos (by omega), if_pos (by omega)]
def evSmallV (a b : Int) (s m : List S68) (g : List Int) : EvT := if threeOk a b s m g = true then (a, b, smallV a b s m g) else (0, 0, [], [], [], ⟨#[]⟩, false)
theorem spec_EvictSmall_ev (a b : Int) (s m : List S68) (g : List Int) (hg : g.length ≤ 1048576) (hl : SmallI (s ++ m)) : Ev (fun k => spec_EvictSmall.f k a b s m g) (evSmallV a b s m g) := by
  have hl1 := hl.1
  rw [List.length_append] at hl1
  have hO := spec_ThreeOk_ev a b s m g hg hl
  unfold evSmallV
  by_cases c : threeOk a b s m g = true
  · rw [if_pos c]
    refine (evA hO (evP (spec_small_ev a b g hg s m (fun x hx => (hl.2 x (List.mem_append_left _ hx)).1) (by omega)))).ev fun k ⟨e1, e2⟩ => ?_
    simp only [spec_EvictSmall.f, e1, spec_copy3 a b s m g (by omega) (by omega) hg, Option.bind_some, e2]
    rw [if_pos c]
  · rw [if_neg c]
    refine (evP hO).ev fun k e1 => ?_
    simp only [spec_EvictSmall.f, e1, Option.bind_some]
    rw [if_neg c]
theorem impl_copy3x (a b : Int) (s m : List S68) (g : List Int) (h1 : s.length ≤ 2097152) (h2 : m.length ≤ 2097152) (h3 : g.length ≤ 2097152) : impl_copyThree.f a b s m g = some (a, b, s, m, g) := by
  simp only [impl_copyThree.f, impl_copyItems.f, impl_copyInts.f, Option.bind_some, List.length_nil, List.nil_append]
  rw [if_pos (by omega), Option.bind_some, if_pos (by omega), Option.bind_some, if_pos (by omega), Option.bind_some]
theorem rdI_mem (l : List S68) (x : S68) (h : x ∈ l) : ∃ i : Nat, i < l.length ∧ rdI l i = x := by
  obtain ⟨i, hi, rfl⟩ := List.getElem_of_mem h
  exact ⟨i, hi, rdI_get l i hi⟩
theorem atI_of (l : List S68) (hn : (l.map fun x => x.f0).Nodup) (i : Nat) (hi : i < l.length) : atI l (l[i]).f0 = (i : Int) := by
  have h1 : (l.any fun y => decide (y.f0 = (l[i]).f0)) = true := List.any_eq_true.2 ⟨l[i], List.getElem_mem hi, decide_eq_true rfl⟩
  unfold atI
  rw [if_pos h1]
  have h2 : l.findIdx (fun y => decide (y.f0 = (l[i]).f0)) = i := by
    rw [List.findIdx_eq hi]
    refine ⟨decide_eq_true rfl, fun j hj => decide_eq_false fun e => ?_⟩
    have := List.pairwise_iff_getElem.1 hn j i (by rw [List.length_map]; omega) (by rw [List.length_map]; omega) hj
    rw [List.getElem_map, List.getElem_map] at this
    exact this e
  rw [h2]
theorem areI_iff (l : List S68) : areI l = true ↔ (∀ x ∈ l, itemOk x.f0 x.f1 x.f2 = true) ∧ (l.map fun x => x.f0).Nodup := by
  constructor
  · intro h
    have h2 : ∀ i, i < l.length → itemOk (rdI l i).f0 (rdI l i).f1 (rdI l i).f2 = true ∧ atI l (rdI l i).f0 = (i : Int) := fun i hi => by
      unfold areI allN at h
      have := List.all_eq_true.1 h i (List.mem_range.2 hi)
      unfold okI at this
      simp only [Bool.and_eq_true, decide_eq_true_eq] at this
      exact this
    refine ⟨fun x hx => ?_, List.pairwise_iff_getElem.2 fun i j hi hj hij e => ?_⟩
    · obtain ⟨i, hi, rfl⟩ := rdI_mem l x hx
      exact (h2 i hi).1
    · rw [List.length_map] at hi hj
      rw [List.getElem_map, List.getElem_map] at e
      have e1 := (h2 i hi).2
      have e2 := (h2 j hj).2
      rw [rdI_get l i hi] at e1
      rw [rdI_get l j hj, ← e, e1] at e2
      omega
  · rintro ⟨h1, h2⟩
    unfold areI allN
    refine List.all_eq_true.2 fun i hi => ?_
    have hi := List.mem_range.1 hi
    have e : rd_T68 l (i : Int) = l[i] := rdI_get l i hi
    unfold okI
    rw [e, h1 _ (List.getElem_mem hi), atI_of l h2 i hi, decide_eq_true rfl]; rfl
def zeroF (x : S68) : S68 := ⟨x.f0, x.f1, 0⟩
theorem smallV_false (a b : Int) : ∀ (s m : List S68) (g : List Int), (smallV a b s m g).2.2.2.2 = false → smallV a b s m g = ([], m ++ s.map zeroF, g, ⟨#[]⟩, false)
  | [], m, g, _ => by simp [smallV]
  | x :: t, m, g, h => by
    rw [smallV.eq_2] at h ⊢
    by_cases c : x.f2 > 1
    · rw [if_pos c] at h ⊢
      rw [smallV_false a b t _ g h, List.map_cons]
      simp [zeroF]
    · rw [if_neg c] at h; cases h
theorem itemOk_zero {x : S68} (h : itemOk x.f0 x.f1 x.f2 = true) : itemOk (zeroF x).f0 (zeroF x).f1 (zeroF x).f2 = true := by
  unfold itemOk zeroF at *
  simp only [Bool.and_eq_true, decide_eq_true_eq] at *
  obtain ⟨h, _⟩ := h
  exact ⟨⟨h.1, by omega⟩, by omega⟩
theorem three_moved {a b : Int} {s m : List S68} {g : List Int} (h : threeOk a b s m g = true) : threeOk a b [] (m ++ s.map zeroF) g = true := by
  have ha := (areI_iff _).1 (three_are h)
  unfold threeOk at h ⊢
  simp only [Bool.and_eq_true, decide_eq_true_eq] at h ⊢
  obtain ⟨⟨⟨⟨h1, h2⟩, h3⟩, h4⟩, h5, h6⟩ := h
  refine ⟨⟨⟨⟨h1, h2⟩, ?_⟩, h4⟩, ?_, h6⟩
  · simp only [List.length_nil, List.length_append, List.length_map]; omega
  · refine (areI_iff _).2 ⟨fun x hx => ?_, ?_⟩
    · rw [List.nil_append] at hx
      rcases List.mem_append.1 hx with hx | hx
      · exact ha.1 x (List.mem_append_right _ hx)
      · obtain ⟨y, hy, rfl⟩ := List.mem_map.1 hx
        exact itemOk_zero (ha.1 y (List.mem_append_left _ hy))
    · have e : (s.map zeroF).map (fun x => x.f0) = s.map fun x => x.f0 := by rw [List.map_map]; rfl
      have h2 := ha.2
      rw [List.nil_append, List.map_append, e]
      rw [List.map_append] at h2
      exact (List.perm_append_comm.nodup_iff).1 h2
def coreM (a b : Int) (s m : List S68) (g : List Int) : EvT := (a, b, s, (evm (fsum m + 1) m).1, g, (evm (fsum m + 1) m).2.1, (evm (fsum m + 1) m).2.2)
def coreE (a b : Int) (s m : List S68) (g : List Int) : EvT :=
  if (s.length : Int) ≥ b ∨ m.length = 0 then (if (smallV a b s m g).2.2.2.2 = true then (a, b, smallV a b s m g) else coreM a b [] (m ++ s.map zeroF) g) else coreM a b s m g
def evictV (a b : Int) (s m : List S68) (g : List Int) : EvT := if threeOk a b s m g = true then coreE a b s m g else (0, 0, [], [], [], ⟨#[]⟩, false)
theorem coreM_of {a b : Int} {s m : List S68} {g : List Int} (h : threeOk a b s m g = true) : evMainV a b s m g = coreM a b s m g := by unfold evMainV; rw [if_pos h]; rfl
theorem small_moved {s m : List S68} (h : SmallI (s ++ m)) : SmallI (m ++ s.map zeroF) := by
  refine ⟨by have := h.1; simp only [List.length_append, List.length_map] at this ⊢; omega, fun x hx => ?_⟩
  rcases List.mem_append.1 hx with hx | hx
  · exact h.2 x (List.mem_append_right _ hx)
  · obtain ⟨y, hy, rfl⟩ := List.mem_map.1 hx
    exact h.2 y (List.mem_append_left _ hy)
theorem len0 (m : List S68) : (((m.length : Int) == 0) = true) = (m.length = 0) := by
  rw [beq_iff_eq]; exact propext (by omega)
theorem neither {b : Int} {s m : List S68} (d1 : ¬ (s.length : Int) ≥ b) (d2 : ((m.length : Int) == 0) = false) : ¬ ((s.length : Int) ≥ b ∨ m.length = 0) := fun h => by
  rcases h with h | h
  · exact d1 h
  · rw [(len0 m).mpr h] at d2; cases d2
theorem spec_Evict_ev (a b : Int) (s m : List S68) (g : List Int) (hg : g.length ≤ 1048576) (hl : SmallI (s ++ m)) : Ev (fun k => spec_Evict.f k a b s m g) (evictV a b s m g) := by
  have hO := spec_ThreeOk_ev a b s m g hg hl
  unfold evictV
  by_cases c : threeOk a b s m g = true
  · rw [if_pos c]
    have hS := spec_EvictSmall_ev a b s m g hg hl
    unfold evSmallV at hS
    rw [if_pos c] at hS
    have hM := spec_EvictMain_ev a b s m g hg hl
    rw [coreM_of c] at hM
    have hN := spec_EvictMain_ev a b [] (m ++ s.map zeroF) g hg (small_moved hl)
    rw [coreM_of (three_moved c)] at hN
    have hY : (s.length : Int) ≥ b ∨ m.length = 0 → Ev (fun k => spec_Evict.j0 k true a b s m g) (coreE a b s m g) := fun d => by
      unfold coreE
      rw [if_pos d]
      by_cases e : (smallV a b s m g).2.2.2.2 = true
      · rw [if_pos e]
        refine Ev.up (g := fun _ => some (a, b, smallV a b s m g)) ((evP hS).eve fun k e1 => ?_) (Ev.now _)
        simp only [spec_Evict.j0, e1, Option.bind_some, if_true]
        rw [if_pos e, ← e]
      · rw [if_neg e]
        have e0 := smallV_false a b s m g (by simpa using e)
        rw [e0] at hS
        refine Ev.up (g := fun _ => some (coreM a b [] (m ++ s.map zeroF) g)) ((evA hS (evP hN)).eve fun k ⟨e1, e2⟩ => ?_) (Ev.now _)
        simp only [spec_Evict.j0, e1, e2, Option.bind_some, if_true, Bool.false_eq_true, if_false]
    have hF : ¬ ((s.length : Int) ≥ b ∨ m.length = 0) → Ev (fun k => spec_Evict.j0 k false a b s m g) (coreE a b s m g) := fun d => by
      unfold coreE
      rw [if_neg d]
      refine Ev.up (g := fun _ => some (coreM a b s m g)) ((evP hM).eve fun k e1 => ?_) (Ev.now _)
      simp only [spec_Evict.j0, e1, Option.bind_some, Bool.false_eq_true, if_false]
    by_cases d1 : (s.length : Int) ≥ b
    · refine (evA hO (evP (hY (.inl d1)))).ev fun k ⟨e1, e2⟩ => ?_
      simp only [spec_Evict.f, e1, Option.bind_some]
      rw [if_pos c, if_pos d1, e2]
    · cases d2 : ((m.length : Int) == 0) with
      | true =>
        refine (evA hO (evP (hY (.inr ((len0 m).mp d2))))).ev fun k ⟨e1, e2⟩ => ?_
        simp only [spec_Evict.f, e1, Option.bind_some]
        rw [if_pos c, if_neg d1, d2, e2]
      | false =>
        refine (evA hO (evP (hF (neither d1 d2)))).ev fun k ⟨e1, e2⟩ => ?_
        simp only [spec_Evict.f, e1, Option.bind_some]
        rw [if_pos c, if_neg d1, d2, e2]
  · rw [if_neg c]
    refine (evP hO).ev fun k e1 => ?_
    simp only [spec_Evict.f, e1, Option.bind_some]
    rw [if_neg c]
/-- What the method tells: the key, whether one went, and the cache behind it. -/
def turnE (w : EvT) : ByteArray × Bool × Int × Int × List S68 × List S68 × List Int := (w.2.2.2.2.2.1, w.2.2.2.2.2.2, w.1, w.2.1, w.2.2.1, w.2.2.2.1, w.2.2.2.2.1)
theorem impl_Three_evict_ev (a b : Int) (s m : List S68) (g : List Int) (hg : g.length ≤ 1048576) (hl : SmallI (s ++ m)) (c : threeOk a b s m g = true) : Ev (fun k => impl_Three_evict.f k a b s m g) (turnE (coreE a b s m g)) := by
  have hl1 := hl.1
  rw [List.length_append] at hl1
  have hS := impl_small_ev a b g hg s m (fun x hx => (hl.2 x (List.mem_append_left _ hx)).1) (by omega)
  have hM := impl_main_ev a b s g (fsum m + 1) m (okF_three c).2 (Nat.lt_succ_self _) (by omega)
  have hN := impl_main_ev a b [] g (fsum (m ++ s.map zeroF) + 1) (m ++ s.map zeroF) (okF_three (three_moved c)).2 (Nat.lt_succ_self _) (small_moved hl).1
  have hY : (s.length : Int) ≥ b ∨ m.length = 0 → Ev (fun k => impl_Three_evict.j0 k true a b s m g) (turnE (coreE a b s m g)) := fun d => by
    unfold coreE
    rw [if_pos d]
    by_cases e : (smallV a b s m g).2.2.2.2 = true
    · rw [if_pos e]
      refine Ev.up (g := fun _ => some (turnE (a, b, smallV a b s m g))) ((evP hS).eve fun k e1 => ?_) (Ev.now _)
      simp only [impl_Three_evict.j0, impl_Three_evictSmall.f, e1, Option.bind_some, if_true]
      rw [if_pos e]; unfold turnE; simp only [e]
    · rw [if_neg e]
      have e0 := smallV_false a b s m g (by simpa using e)
      rw [e0] at hS
      refine Ev.up (g := fun _ => some (turnE (coreM a b [] (m ++ s.map zeroF) g))) ((evA hS (evP hN)).eve fun k ⟨e1, e2⟩ => ?_) (Ev.now _)
      simp only [impl_Three_evict.j0, impl_Three_evictSmall.f, impl_Three_evictMain.f, e1, e2, Option.bind_some, if_true, Bool.false_eq_true, if_false]
      rfl
  have hF : ¬ ((s.length : Int) ≥ b ∨ m.length = 0) → Ev (fun k => impl_Three_evict.j0 k false a b s m g) (turnE (coreE a b s m g)) := fun d => by
    unfold coreE
    rw [if_neg d]
    refine Ev.up (g := fun _ => some (turnE (coreM a b s m g))) ((evP hM).eve fun k e1 => ?_) (Ev.now _)
    simp only [impl_Three_evict.j0, impl_Three_evictMain.f, e1, Option.bind_some, Bool.false_eq_true, if_false]
    rfl
  by_cases d1 : (s.length : Int) ≥ b
  · refine (evP (hY (.inl d1))).ev fun k e2 => ?_
    simp only [impl_Three_evict.f]
    rw [if_pos d1, e2]
  · cases d2 : ((m.length : Int) == 0) with
    | true =>
      refine (evP (hY (.inr ((len0 m).mp d2)))).ev fun k e2 => ?_
      simp only [impl_Three_evict.f]
      rw [if_neg d1, d2, e2]
    | false =>
      refine (evP (hF (neither d1 d2))).ev fun k e2 => ?_
      simp only [impl_Three_evict.f]
      rw [if_neg d1, d2, e2]
theorem coreM_len (a b : Int) (s m : List S68) (g : List Int) : (coreM a b s m g).2.2.1.length ≤ s.length ∧ (coreM a b s m g).2.2.2.1.length ≤ m.length ∧ (coreM a b s m g).2.2.2.2.1.length ≤ g.length := ⟨Nat.le_refl _, evm_len _ m, Nat.le_refl _⟩
theorem coreE_len (a b : Int) (s m : List S68) (g : List Int) : (coreE a b s m g).2.2.1.length ≤ s.length ∧ (coreE a b s m g).2.2.2.1.length ≤ s.length + m.length ∧ (coreE a b s m g).2.2.2.2.1.length ≤ g.length + 1 := by
  have h1 := smallV_len a b s m g
  have h2 := coreM_len a b [] (m ++ s.map zeroF) g
  have h3 := coreM_len a b s m g
  rw [List.length_append, List.length_map] at h2
  unfold coreE
  split
  · split
    · exact h1
    · simp only [List.length_nil] at h2; omega
  · omega
def touch (l : List S68) (i : Nat) : List S68 := l.set i ⟨(rdI l i).f0, (rdI l i).f1, mn 3 (wrap64 ((rdI l i).f2 + 1))⟩
theorem rd_set (l : List S68) (i : Nat) (v : S68) (h : i < l.length) : rd_T68 (l.set i v) (i : Int) = v := by
  unfold rd_T68; rw [Int.toNat_natCast]; simp [h]
theorem smallV_less (a b : Int) : ∀ (s m : List S68) (g : List Int), (smallV a b s m g).2.2.2.2 = true → (smallV a b s m g).1.length + (smallV a b s m g).2.1.length + 1 = s.length + m.length
  | [], m, g, h => by simp [smallV] at h
  | x :: t, m, g, h => by
    rw [smallV.eq_2] at h ⊢
    by_cases c : x.f2 > 1
    · rw [if_pos c] at h ⊢
      have := smallV_less a b t _ g h
      rw [show (m ++ [(⟨x.f0, x.f1, 0⟩ : S68)]).length = m.length + 1 from by simp] at this
      rw [List.length_cons]
      omega
    · rw [if_neg c, List.length_cons]; simp only; omega
theorem evm_less : ∀ (n : Nat) (m : List S68), okF m → m ≠ [] → fsum m < n → (evm n m).1.length + 1 = m.length
  | 0, m, _, _, h => by omega
  | n + 1, [], _, h, _ => absurd rfl h
  | n + 1, x :: t, hm, _, hf => by
    unfold evm
    by_cases c : x.f2 = 0
    · rw [if_pos c]; simp
    · obtain ⟨h1, h2⟩ := okF_next hm c
      rw [if_neg c]
      have := evm_less n _ h1 (by simp) (by omega)
      rw [show (t ++ [less1 x]).length = t.length + 1 from by simp] at this
      rw [List.length_cons]; omega
theorem coreM_less {a b : Int} {s m : List S68} {g : List Int} (h : threeOk a b s m g = true) (hm : m ≠ []) : (coreM a b s m g).2.2.1.length + (coreM a b s m g).2.2.2.1.length + 1 = s.length + m.length := by
  have := evm_less (fsum m + 1) m (okF_three h).2 hm (Nat.lt_succ_self _)
  show s.length + (evm (fsum m + 1) m).1.length + 1 = _
  omega
theorem coreE_less {a b : Int} {s m : List S68} {g : List Int} (h : threeOk a b s m g = true) (hn : 0 < s.length + m.length) : (coreE a b s m g).2.2.1.length + (coreE a b s m g).2.2.2.1.length + 1 = s.length + m.length := by
  unfold coreE
  split
  · split
    · rename_i c; exact smallV_less a b s m g c
    · have := coreM_less (three_moved h) (m := m ++ s.map zeroF) (fun e => by
        have := congrArg List.length e
        rw [List.length_append, List.length_map, List.length_nil] at this; omega)
      rw [List.length_append, List.length_map, List.length_nil] at this
      omega
  · rename_i c
    exact coreM_less h (fun e => c (.inr (by rw [e]; rfl)))
theorem coreE_ab (a b : Int) (s m : List S68) (g : List Int) : (coreE a b s m g).1 = a ∧ (coreE a b s m g).2.1 = b := by
  unfold coreE coreM; split
  · split <;> exact ⟨rfl, rfl⟩
  · exact ⟨rfl, rfl⟩
abbrev PutT := Int × Int × List S68 × List S68 × List Int × List ByteArray × Bool
def placeV (a b : Int) (s m : List S68) (g : List Int) (x v : ByteArray) (gone : List ByteArray) : PutT := if hasN g (hashV x) = true then (a, b, s, m ++ [⟨x, v, 0⟩], but g (hashV x), gone, true) else (a, b, s ++ [⟨x, v, 0⟩], m, g, gone, true)
def setV (l : List S68) (i : Nat) (v : ByteArray) : List S68 := l.set i ⟨(rdI l i).f0, v, (rdI l i).f2⟩
def newV (a b : Int) (s m : List S68) (g : List Int) (x v : ByteArray) : PutT := if (s.length : Int) + (m.length : Int) ≥ a then placeV (coreE a b s m g).1 (coreE a b s m g).2.1 (coreE a b s m g).2.2.1 (coreE a b s m g).2.2.2.1 (coreE a b s m g).2.2.2.2.1 x v [(coreE a b s m g).2.2.2.2.2.1] else placeV a b s m g x v []
def putC (a b : Int) (s m : List S68) (g : List Int) (x v : ByteArray) : PutT := if 0 ≤ atI s x then (a, b, touch (setV s (atI s x).toNat v) (atI s x).toNat, m, g, [], true) else if 0 ≤ atI m x then (a, b, s, touch (setV m (atI m x).toNat v) (atI m x).toNat, g, [], true) else newV a b s m g x v
def putV (a b : Int) (s m : List S68) (g : List Int) (x v : ByteArray) : PutT := if threeOk a b s m g = true ∧ itemOk x v 0 = true then putC a b s m g x v else (0, 0, [], [], [], [], false)
theorem impl_butP (g : List Int) (h : Int) : impl_Put_1.f g h = some (but g h) := by
  unfold impl_Put_1.f
  cases g with
  | nil => rfl
  | cons y l => rw [if_pos (by simp)]; rfl
theorem impl_Put_j1_ev (a b : Int) (s m : List S68) (g : List Int) (x v : ByteArray) (gone : List ByteArray) (hx : x.size ≤ 9223372036854775807) (h1 : s.length ≤ 1048576) (h2 : m.length ≤ 1048576) (h3 : g.length ≤ 1048576) : Ev (fun k => impl_Put.j1 k x v gone a b s m g) (placeV a b s m g x v gone) := by
  have hb := but_len g (hashV x)
  refine Ev.up (g := fun _ => some (placeV a b s m g x v gone)) ((evA (impl_Hash_ev x hx) (evP (slices_ContainsI_ev g (hashV x) h3))).eve fun k ⟨e1, e2⟩ => ?_) (Ev.now _)
  simp only [impl_Put.j1, e1, e2, Option.bind_some]
  unfold placeV
  cases hasN g (hashV x) with
  | true =>
    simp only [if_true]
    rw [impl_butP, Option.bind_some, if_pos (by omega), impl_copy3x a b s _ _ (by omega) (by simp; omega) (by omega)]; rfl
  | false =>
    simp only [Bool.false_eq_true, if_false]
    rw [if_pos (by omega), impl_copy3x a b _ m g (by simp; omega) (by omega) (by omega)]; rfl
theorem impl_Put_ev (a b : Int) (s m : List S68) (g : List Int) (x v : ByteArray) (hx : x.size ≤ 9223372036854775807) (hv : v.size ≤ 9223372036854775807) (hg : g.length ≤ 1048576) (hl : SmallI (s ++ m)) : Ev (fun k => impl_Put.f k a b s m g x v) (putV a b s m g x v) := by
  have hl1 := hl.1
  rw [List.length_append] at hl1
  have hO := impl_ThreeOk_ev a b s m g hg hl
  have hI := impl_ItemOk_ev x v 0 hx hv
  have hno : Ev (fun k => impl_Put.j0 k x v true a b s m g) ((0, 0, [], [], [], [], false) : PutT) := Ev.up (g := fun _ => some _) (EvE.of fun k => by simp only [impl_Put.j0, if_true]) (Ev.now _)
  unfold putV
  by_cases c : threeOk a b s m g = true
  case neg =>
    rw [if_neg (fun h => c h.1)]
    refine (evA hO (evP hno)).ev fun k ⟨e1, e2⟩ => ?_
    simp only [impl_Put.f, e1, Option.bind_some]
    rw [if_neg c, e2]
  by_cases d : itemOk x v 0 = true
  case neg =>
    rw [if_neg (fun h => d h.2)]
    rw [Bool.not_eq_true] at d
    rw [d] at hI
    refine (evA hO (evA hI (evP hno))).ev fun k ⟨e1, e2, e3⟩ => ?_
    simp only [impl_Put.f, e1, e2, Option.bind_some]
    rw [if_pos c]; simpa using e3
  rw [if_pos ⟨c, d⟩]
  rw [d] at hI
  have h3 := three_len c
  suffices hyes : Ev (fun k => impl_Put.j0 k x v false a b s m g) (putC a b s m g x v) by
    refine (evA hO (evA hI (evP hyes))).ev fun k ⟨e1, e2, e3⟩ => ?_
    simp only [impl_Put.f, e1, e2, Option.bind_some]
    rw [if_pos c]; simpa using e3
  have t1 := impl_itemAt_ev s x (by omega)
  have t2 := impl_itemAt_ev m x (by omega)
  have ha : a ≤ 60 ∧ 1 ≤ a ∧ (s.length : Int) + (m.length : Int) ≤ a := by
    have c' := c
    unfold threeOk at c'
    simp only [Bool.and_eq_true, decide_eq_true_eq] at c'
    omega
  have hw : wrap64 ((s.length : Int) + (m.length : Int)) = (s.length : Int) + (m.length : Int) := w64 (by omega) (by omega)
  unfold putC
  by_cases d1 : 0 ≤ atI s x
  · obtain ⟨i, ei, hi, _⟩ := at_lt s x d1
    rw [if_pos d1]
    rw [ei] at d1 t1 ⊢
    refine Ev.up (g := fun _ => some _) ((evP t1).eve fun k e1 => ?_) (Ev.now _)
    simp only [impl_Put.j0, Bool.false_eq_true, if_false, impl_copy3 a b s m g (by omega) (by omega) hg, Option.bind_some, e1]
    rw [if_pos (show (i : Int) ≥ 0 from d1), if_pos d1, if_pos (by omega), Int.toNat_natCast]
    rfl
  rw [if_neg d1]
  by_cases d2 : 0 ≤ atI m x
  · obtain ⟨j, ej, hj, _⟩ := at_lt m x d2
    rw [if_pos d2]
    rw [ej] at d2 t2 ⊢
    refine Ev.up (g := fun _ => some _) ((evA t1 (evP t2)).eve fun k ⟨e1, e2⟩ => ?_) (Ev.now _)
    simp only [impl_Put.j0, Bool.false_eq_true, if_false, impl_copy3 a b s m g (by omega) (by omega) hg, Option.bind_some, e1, e2]
    rw [if_neg (show ¬ atI s x ≥ 0 from d1), if_pos (show (j : Int) ≥ 0 from d2), if_pos d2, if_pos (by omega), Int.toNat_natCast]
    rfl
  rw [if_neg d2]
  unfold newV
  by_cases e : (s.length : Int) + (m.length : Int) ≥ a
  · rw [if_pos e]
    have hab := coreE_ab a b s m g
    have hn := coreE_len a b s m g
    have hlt := coreE_less c (by omega)
    have hw2 : ¬ wrap64 (((coreE a b s m g).2.2.1.length : Int) + ((coreE a b s m g).2.2.2.1.length : Int)) ≥ (coreE a b s m g).1 := by rw [hab.1, w64 (by omega) (by omega)]; omega
    refine Ev.up ((evA t1 (evA t2 (evP (impl_Three_evict_ev a b s m g hg hl c)))).eve fun k ⟨e1, e2, e3⟩ => ?_) (impl_Put_j1_ev (coreE a b s m g).1 (coreE a b s m g).2.1 (coreE a b s m g).2.2.1 (coreE a b s m g).2.2.2.1 (coreE a b s m g).2.2.2.2.1 x v [(coreE a b s m g).2.2.2.2.2.1] hx (by omega) (by omega) (by omega))
    simp only [impl_Put.j0, Bool.false_eq_true, if_false, impl_copy3 a b s m g (by omega) (by omega) hg, Option.bind_some, e1, e2]
    rw [if_neg (show ¬ atI s x ≥ 0 from d1), if_neg (show ¬ atI m x ≥ 0 from d2), hw, if_pos e, e3, Option.bind_some, if_pos (by simp)]
    exact if_neg hw2
  · rw [if_neg e]
    refine Ev.up ((evA t1 (evP t2)).eve fun k ⟨e1, e2⟩ => ?_) (impl_Put_j1_ev a b s m g x v [] hx (by omega) (by omega) (by omega))
    simp only [impl_Put.j0, Bool.false_eq_true, if_false, impl_copy3 a b s m g (by omega) (by omega) hg, Option.bind_some, e1, e2]
    rw [if_neg (show ¬ atI s x ≥ 0 from d1), if_neg (show ¬ atI m x ≥ 0 from d2), hw, if_neg e]
theorem laws_eqItemS_ev (l : List S68) (h : l.length ≤ 9223372036854775807) : Ev (fun k => laws_eqItemS.f k l l) true := by
  refine Ev.congr (fun k => ?_) (all_loop (fun k i => laws_eqItemS.l0 k l l i) l.length (Ev.some_ fun k => by simp only [laws_eqItemS.l0]; rw [if_neg (by omega)]) (fun i hi => EvE.of fun k => by
    simp only [laws_eqItemS.l0, laws_eqItem.f, if_true, Option.bind_some]; rw [if_pos (by omega), if_pos (by omega), if_pos (by omega), w64s hi h]))
  simp only [laws_eqItemS.f]; rw [if_pos trivial]
theorem laws_eqIntS_ev (l : List Int) (h : l.length ≤ 9223372036854775807) : Ev (fun k => laws_eqIntS.f k l l) true := by
  refine Ev.congr (fun k => ?_) (all_loop (fun k i => laws_eqIntS.l0 k l l i) l.length (Ev.some_ fun k => by simp only [laws_eqIntS.l0]; rw [if_neg (by omega)]) (fun i hi => EvE.of fun k => by
    simp only [laws_eqIntS.l0]; rw [if_pos (by omega), if_pos (by omega), if_pos (by omega), if_pos trivial, w64s hi h]))
  simp only [laws_eqIntS.f]; rw [if_pos trivial]
theorem laws_eqThree_ev (a b : Int) (s m : List S68) (g : List Int) (h1 : s.length ≤ 9223372036854775807) (h2 : m.length ≤ 9223372036854775807) (h3 : g.length ≤ 9223372036854775807) : Ev (fun k => laws_eqThree.f k a b s m g a b s m g) true :=
  (evA (laws_eqItemS_ev s h1) (evA (laws_eqItemS_ev m h2) (evP (laws_eqIntS_ev g h3)))).ev fun k ⟨e1, e2, e3⟩ => by simp only [laws_eqThree.f, e1, e2, e3, if_true, Option.bind_some]
/-- A law's item as the program's. -/
def cvI (x : S125) : S68 := ⟨x.f0, x.f1, x.f2⟩
theorem rd_cv (l : List S125) (i : Nat) : rd_T125 l (i : Int) = l.getD i z125 := by unfold rd_T125; rw [Int.toNat_natCast]
theorem laws_toItemS_ev (l : List S125) (h : l.length ≤ 1048576) : Ev (fun k => laws_toItemS.f k l) (l.map cvI) := by
  have hl := map_loop cvI z125 (fun k s i => laws_toItemS.l0 k l s i) l (fun s hs => Ev.some_ fun k => by simp only [laws_toItemS.l0]; rw [if_neg (by omega)]) (fun i s hi hs => EvE.of fun k => by
    simp only [laws_toItemS.l0, laws_toItem.f, Option.bind_some, rd_cv]; rw [if_pos (by omega), if_pos (by omega), if_pos (by omega), w64s hi (by omega), Int.toNat_natCast]; rfl) (List.replicate l.length z68) (by simp)
  refine Ev.congr (fun k => ?_) hl
  simp only [laws_toItemS.f, Int.toNat_natCast]
  rw [if_pos (by omega), if_pos (by omega)]
theorem small_cv (l : List S125) (h : l.length ≤ 1048576) (hs : ∀ x ∈ l, DFnExactPut.g125 x) : SmallI (l.map cvI) := by
  refine ⟨by simpa using h, fun x hx => ?_⟩
  obtain ⟨y, hy, rfl⟩ := List.mem_map.1 hx
  have := hs y hy
  exact ⟨this.1, this.2.1⟩
theorem laws_szItemS_ev (l : List S125) (n : Int) (hn0 : 0 ≤ n) (hn : n ≤ 1048576) (h : l.length ≤ maxLen) (hs : ∀ x ∈ l, DFnExactPut.g125 x) :
    ∃ t, Ev (fun k => laws_szItemS.f k l n) t ∧ t ≤ n ∧ (¬ t < 0 → t + (l.length : Int) ≤ n) := by
  unfold maxLen at h
  by_cases c : n - (l.length : Int) < 0
  · refine ⟨-1, Ev.some_ fun k => ?_, by omega, by omega⟩
    simp only [laws_szItemS.f]; rw [w64 (by omega) (by omega), if_pos c]
  · obtain ⟨r, hp, hr⟩ := Ev.scanX (fun k m i => laws_szItemS.l0 k l m i) l.length (fun _ m => 0 ≤ m ∧ m ≤ n - (l.length : Int)) (fun r => r ≤ n - (l.length : Int))
      (fun m hm => ⟨m, by omega, Ev.some_ fun k => by simp only [laws_szItemS.l0]; rw [if_neg (by omega)]⟩)
      (fun i m hi hm => by
        have hg := hs _ (by show rd_T125 l (i : Int) ∈ l; rw [rd_cv]; exact getD_mem _ l i hi)
        have h1 : (rd_T125 l (i : Int)).f0.size ≤ 9223372036854775807 := hg.1
        have h2 : (rd_T125 l (i : Int)).f1.size ≤ 9223372036854775807 := hg.2.1
        have hi9 : l.length ≤ 9223372036854775807 := by omega
        by_cases c1 : m - ((rd_T125 l (i : Int)).f0.size : Int) < 0
        · refine .inl ⟨-1, by omega, Ev.some_ fun k => ?_⟩
          simp only [laws_szItemS.l0, laws_szItem.f]
          rw [if_pos (by omega), if_pos (by omega), w64 (x := m - _) (by omega) (by omega), if_pos c1, Option.bind_some, if_pos (by omega)]
        · by_cases c2 : m - ((rd_T125 l (i : Int)).f0.size : Int) - ((rd_T125 l (i : Int)).f1.size : Int) < 0
          · refine .inl ⟨-1, by omega, Ev.some_ fun k => ?_⟩
            simp only [laws_szItemS.l0, laws_szItem.f]
            rw [if_pos (by omega), if_pos (by omega), w64 (x := m - _) (by omega) (by omega), if_neg c1, w64 (by omega) (by omega), if_pos c2, Option.bind_some, if_pos (by omega)]
          · refine .inr ⟨m - ((rd_T125 l (i : Int)).f0.size : Int) - ((rd_T125 l (i : Int)).f1.size : Int), by omega, EvE.of fun k => ?_⟩
            simp only [laws_szItemS.l0, laws_szItem.f]
            rw [if_pos (by omega), if_pos (by omega), w64 (x := m - _) (by omega) (by omega), if_neg c1, w64 (by omega) (by omega), if_neg c2, Option.bind_some, if_neg c2, w64s hi hi9]) 0 (n - (l.length : Int)) (Nat.zero_le _) (by omega)
    refine ⟨r, ?_, by omega, fun _ => by omega⟩
    refine Ev.congr (fun k => ?_) hr
    simp only [laws_szItemS.f]; rw [w64 (by omega) (by omega), if_neg c] <;> rfl
theorem laws_toIntS_ev (l : List Int) (h : l.length ≤ 1048576) : Ev (fun k => laws_toIntS.f k l) l := by
  have hl := copy_loop (0:Int) (fun k s i => laws_toIntS.l0 k l s i) l (fun s hs => Ev.some_ fun k => by simp only [laws_toIntS.l0]; rw [if_neg (by omega)]) (fun i s hi hs => EvE.of fun k => by
    simp only [laws_toIntS.l0]; rw [if_pos (by omega), if_pos (by omega), if_pos (by omega), w64s hi (by omega), Int.toNat_natCast] <;> rfl) (List.replicate l.length 0) (by simp)
  refine Ev.congr (fun k => ?_) hl
  simp only [laws_toIntS.f, Int.toNat_natCast]
  rw [if_pos (by omega), if_pos (by omega)]
theorem laws_szThree_ev (a b : Int) (s m : List S125) (g : List Int) (h1 : s.length ≤ maxLen) (h2 : m.length ≤ maxLen) (h3 : g.length ≤ maxLen) (hs : ∀ x ∈ s, DFnExactPut.g125 x) (hm : ∀ x ∈ m, DFnExactPut.g125 x) :
    ∃ t, Ev (fun k => laws_szThree.f k a b s m g 1048576) t ∧ (¬ t < 0 → (s.length : Int) + (m.length : Int) + (g.length : Int) ≤ 1048576) := by
  obtain ⟨t1, e1, l1, p1⟩ := laws_szItemS_ev s 1048576 (by omega) (by omega) h1 hs
  by_cases c1 : t1 < 0
  · exact ⟨-1, (evP e1).ev fun k e => by simp only [laws_szThree.f, e, Option.bind_some]; rw [if_pos c1], by omega⟩
  · obtain ⟨t2, e2, l2, p2⟩ := laws_szItemS_ev m t1 (by omega) (by omega) h2 hm
    by_cases c2 : t2 < 0
    · exact ⟨-1, (evA e1 (evP e2)).ev fun k ⟨e, e'⟩ => by simp only [laws_szThree.f, e, Option.bind_some]; rw [if_neg c1, e', Option.bind_some, if_pos c2], by omega⟩
    · unfold maxLen at h3
      have w1 := p1 c1
      have w2 := p2 c2
      by_cases c3 : t2 - (g.length : Int) < 0
      · refine ⟨-1, (evA e1 (evP e2)).ev fun k ⟨e, e'⟩ => ?_, by omega⟩
        simp only [laws_szThree.f, laws_szIntS.f, e, Option.bind_some]
        rw [if_neg c1, e', Option.bind_some, if_neg c2, w64 (by omega) (by omega), if_pos c3, Option.bind_some, if_pos (by omega)]
      · refine ⟨t2 - (g.length : Int), (evA e1 (evP e2)).ev fun k ⟨e, e'⟩ => ?_, fun _ => by omega⟩
        simp only [laws_szThree.f, laws_szIntS.f, e, Option.bind_some]
        rw [if_neg c1, e', Option.bind_some, if_neg c2, w64 (by omega) (by omega), if_neg c3, Option.bind_some, if_neg c3]
theorem laws_toThree_ev (a b : Int) (s m : List S125) (g : List Int) (h1 : s.length ≤ 1048576) (h2 : m.length ≤ 1048576) (h3 : g.length ≤ 1048576) : Ev (fun k => laws_toThree.f k a b s m g) (a, b, s.map cvI, m.map cvI, g) :=
  (evA (laws_toItemS_ev s h1) (evA (laws_toItemS_ev m h2) (evP (laws_toIntS_ev g h3)))).ev fun k ⟨e1, e2, e3⟩ => by simp only [laws_toThree.f, e1, e2, e3, Option.bind_some]
theorem small_cv2 (s m : List S125) (h : s.length + m.length ≤ 1048576) (hs : ∀ x ∈ s, DFnExactPut.g125 x) (hm : ∀ x ∈ m, DFnExactPut.g125 x) : SmallI (s.map cvI ++ m.map cvI) := by
  rw [← List.map_append]
  exact small_cv _ (by simpa using h) (fun x hx => (List.mem_append.1 hx).elim (hs x) (hm x))
theorem strOfNums_one (x : Int) : (strOfNums [x]).size = 1 := rfl
theorem laws_markText_l0 : ∀ (d n : Nat) (s : ByteArray), n < 10 ^ d → n ≤ 9223372036854775807 → d ≤ 30 → s.size + d ≤ 1000 → ∃ r, Ev (fun k => laws_markText.l0 k (n : Int) s) r := by
  intro d
  induction d with
  | zero =>
    intro n s hn big hd hs
    refine ⟨(⟨#[109]⟩ : ByteArray) ++ s, Ev.up (g := fun _ => some _) (EvE.of fun k => ?_) (Ev.now _)⟩
    simp only [laws_markText.l0]
    rw [if_neg (by simp at hn; omega), if_pos (by omega)]
  | succ d ih =>
    intro n s hn big hd hs
    by_cases c : n = 0
    · refine ⟨(⟨#[109]⟩ : ByteArray) ++ s, Ev.up (g := fun _ => some _) (EvE.of fun k => ?_) (Ev.now _)⟩
      simp only [laws_markText.l0]
      rw [if_neg (by omega), if_pos (by omega)]
    · obtain ⟨r, hr⟩ := ih (n / 10) (strOfNums [((48 + n % 10 : Nat) : Int)] ++ s) (by rw [Nat.pow_succ] at hn; omega) (by omega) (by omega) (by rw [ByteArray.size_append, strOfNums_one]; omega)
      refine ⟨r, Ev.up (EvE.of fun k => ?_) hr⟩
      have e1 : wrap64 (Int.tdiv (n : Int) 10) = ((n / 10 : Nat) : Int) := by rw [Int.tdiv_eq_ediv_of_nonneg (by omega), w64 (by omega) (by omega)]; omega
      have e2 : wrap64 (48 + (Int.tmod (n : Int) 10)) % 256 = ((48 + n % 10 : Nat) : Int) := by rw [Int.tmod_eq_emod_of_nonneg (by omega), w64 (by omega) (by omega)]; omega
      simp only [laws_markText.l0, e1, e2]
      rw [if_pos (by omega), Option.bind_some, if_pos (by rw [strOfNums_one]; omega)]
theorem laws_markText_ev (n : Int) (hn : n ≤ 4294967295) : ∃ r, Ev (fun k => laws_markText.f k n) r := by
  by_cases c : n ≤ 0
  · exact ⟨_, Ev.some_ fun k => by simp only [laws_markText.f]; rw [if_pos c]⟩
  · obtain ⟨r, h⟩ := laws_markText_l0 10 n.toNat (⟨#[]⟩ : ByteArray) (by omega) (by omega) (by omega) (by show 0 + 10 ≤ 1000; omega)
    rw [Int.toNat_of_nonneg (by omega)] at h
    exact ⟨r, Ev.ofE (EvE.of fun k => by simp only [laws_markText.f]; rw [if_neg c]) h⟩
theorem rdI_set (s : List S68) (i : Nat) (x : S68) (h : i < s.length) : rd_T68 (s.set i x) (i : Int) = x := by
  unfold rd_T68; rw [Int.toNat_natCast, List.getD_eq_getElem?_getD, List.getElem?_set_self h]; rfl
def itemsM (mt : Int → ByteArray) (n : Int) (len : Nat) : List S68 := (List.range len).map fun i : Nat => (⟨mt (n + 3 * (i : Int)), mt (n + 3 * (i : Int) + 1), n + 3 * (i : Int) + 2⟩ : S68)
theorem rd_itemsM (mt : Int → ByteArray) (n : Int) (len i : Nat) (h : i < len) : rd_T68 (itemsM mt n len) (i : Int) = (⟨mt (n + 3 * (i : Int)), mt (n + 3 * (i : Int) + 1), n + 3 * (i : Int) + 2⟩ : S68) := by
  unfold rd_T68 itemsM; rw [Int.toNat_natCast]; simp [h]
theorem laws_markItemS_ev (l : List S68) (n : Int) (h0 : 0 ≤ n) (h : n + 3 * (l.length : Int) ≤ 4294967295) : ∃ M : List S68, M.length = l.length ∧ Ev (fun k => laws_markItemS.f k l n) (n + 3 * (l.length : Int), M) ∧ Ev (fun k => laws_heldItemS.f k M n) (n + 3 * (l.length : Int)) := by
  have hl9 : l.length ≤ 9223372036854775807 := by omega
  have hmt : ∃ mt : Int → ByteArray, ∀ i, i ≤ 4294967295 → Ev (fun k => laws_markText.f k i) (mt i) :=
    ⟨fun i => if h : i ≤ 4294967295 then Classical.choose (laws_markText_ev i h) else ByteArray.empty, fun i hi => by simp only [dif_pos hi]; exact Classical.choose_spec (laws_markText_ev i hi)⟩
  obtain ⟨mt, hmt⟩ := hmt
  refine ⟨itemsM mt n l.length, by simp [itemsM], ?_, ?_⟩
  · have key := Ev.scan (fun k (s : Int × List S68) i => laws_markItemS.l0 k s.2 s.1 i) l.length (fun i s => s.1 = n + 3 * (i : Int) ∧ s.2.length = l.length) (fun i s => (n + 3 * (l.length : Int), s.2.take i ++ (itemsM mt n l.length).drop i))
      (fun s hs => Ev.some_ fun k => by
        simp only [laws_markItemS.l0]; rw [if_neg (by omega), List.drop_eq_nil_of_le (by simp [itemsM]), List.append_nil, List.take_of_length_le (by omega), hs.1])
      (fun i s hi hs => .inr ⟨(s.1 + 1 + 1 + 1, s.2.set i ⟨mt s.1, mt (s.1 + 1), s.1 + 1 + 1⟩), ⟨by simp only; omega, by simpa using hs.2⟩, by
          unfold itemsM
          rw [← List.map_drop, ← List.map_drop, List.drop_eq_getElem_cons (i := i) (by simpa using hi), List.map_cons, List.getElem_range]
          simp only [Prod.mk.injEq, true_and]
          rw [List.take_add_one, List.getElem?_set_self (by omega), List.take_set_of_le (Nat.le_refl i), hs.1, show n + 3 * (i : Int) + 1 + 1 = n + 3 * (i : Int) + 2 by omega]
          simp, (evA (hmt s.1 (by omega)) (evP (hmt (s.1 + 1) (by omega)))).eve fun k ⟨m1, m2⟩ => by
          have h2 : i < s.2.length := by omega
          have b1 : -9223372036854775808 ≤ s.1 + 1 := by omega
          have b2 : s.1 + 1 ≤ 9223372036854775807 := by omega
          have b3 : -9223372036854775808 ≤ s.1 + 1 + 1 := by omega
          have b4 : s.1 + 1 + 1 ≤ 9223372036854775807 := by omega
          have b5 : -9223372036854775808 ≤ s.1 + 1 + 1 + 1 := by omega
          have b6 : s.1 + 1 + 1 + 1 ≤ 9223372036854775807 := by omega
          have g1 : (i : Int) < (s.2.length : Int) := by omega
          have g2 : (0 : Int) ≤ (i : Int) := by omega
          simp only [laws_markItemS.l0, m1, m2, Option.bind_some, Int.toNat_natCast, w64 b1 b2, w64 b3 b4, w64 b5 b6, w64s hi hl9, if_pos g1, if_pos g2, rdI_set _ _ _ h2, List.set_set]⟩) 0 (n, l) (Nat.zero_le _) ⟨by simp, rfl⟩
    simpa [laws_markItemS.f] using key
  · have hlen : (itemsM mt n l.length).length = l.length := by simp [itemsM]
    have key := Ev.scan (fun k (s : Int) i => laws_heldItemS.l0 k (itemsM mt n l.length) s i) l.length (fun i s => s = n + 3 * (i : Int)) (fun i s => n + 3 * (l.length : Int))
      (fun s hs => Ev.some_ fun k => by simp only [laws_heldItemS.l0, hlen]; rw [if_neg (by omega), hs])
      (fun i s hi hs => .inr ⟨s + 1 + 1 + 1, by omega, rfl, (evA (hmt s (by omega)) (evP (hmt (s + 1) (by omega)))).eve fun k ⟨m1, m2⟩ => by
          subst hs
          have b1 : -9223372036854775808 ≤ n + 3 * (i : Int) + 1 := by omega
          have b2 : n + 3 * (i : Int) + 1 ≤ 9223372036854775807 := by omega
          have b3 : -9223372036854775808 ≤ n + 3 * (i : Int) + 1 + 1 := by omega
          have b4 : n + 3 * (i : Int) + 1 + 1 ≤ 9223372036854775807 := by omega
          have b5 : -9223372036854775808 ≤ n + 3 * (i : Int) + 1 + 1 + 1 := by omega
          have b6 : n + 3 * (i : Int) + 1 + 1 + 1 ≤ 9223372036854775807 := by omega
          have g1 : (i : Int) < (l.length : Int) := by omega
          have g2 : (0 : Int) ≤ (i : Int) := by omega
          have g3 : n + 3 * (i : Int) + 2 = n + 3 * (i : Int) + 1 + 1 := by omega
          simp only [laws_heldItemS.l0, hlen, rd_itemsM mt n l.length i hi, m1, m2, Option.bind_some, w64 b1 b2, w64 b3 b4, w64 b5 b6, w64s hi hl9, if_pos g1, if_pos g2, if_true]
          rw [if_pos g3]⟩) 0 n (Nat.zero_le _) (by simp)
    simpa [laws_heldItemS.f] using key
theorem laws_markIntS_ev (l : List Int) (n : Int) (h0 : 0 ≤ n) (h : n + (l.length : Int) ≤ 4294967295) : ∃ M : List Int, M.length = l.length ∧ Ev (fun k => laws_markIntS.f k l n) (n + (l.length : Int), M) ∧ Ev (fun k => laws_heldIntS.f k M n) (n + (l.length : Int)) := by
  refine ⟨(List.range l.length).map fun i : Nat => n + (i : Int), by simp, ?_, ?_⟩
  · have key := Ev.scan (fun k (s : Int × List Int) i => laws_markIntS.l0 k s.2 s.1 i) l.length (fun i s => s.1 = n + (i : Int) ∧ s.2.length = l.length) (fun i s => (n + (l.length : Int), s.2.take i ++ ((List.range l.length).drop i).map fun i : Nat => n + (i : Int)))
      (fun s hs => Ev.some_ fun k => by
        simp only [laws_markIntS.l0]; rw [if_neg (by omega), List.drop_eq_nil_of_le (by simp), List.map_nil, List.append_nil, List.take_of_length_le (by omega), hs.1])
      (fun i s hi hs => .inr ⟨(s.1 + 1, s.2.set i s.1), ⟨by simp only; omega, by simpa using hs.2⟩, by
          rw [List.drop_eq_getElem_cons (i := i) (by simpa using hi), List.map_cons, List.getElem_range, hs.1]
          simp only [Prod.mk.injEq, true_and]
          rw [List.take_add_one, List.getElem?_set_self (by omega), List.take_set_of_le (Nat.le_refl i)]
          simp, EvE.of fun k => by
          simp only [laws_markIntS.l0]
          rw [if_pos (by omega), if_pos (by omega), w64s hi (by omega), w64 (by omega) (by omega), Int.toNat_natCast]⟩) 0 (n, l) (Nat.zero_le _) ⟨by simp, rfl⟩
    simpa [laws_markIntS.f] using key
  · have key := Ev.scan (fun k (s : Int) i => laws_heldIntS.l0 k ((List.range l.length).map fun i : Nat => n + (i : Int)) s i) l.length (fun i s => s = n + (i : Int)) (fun i s => n + (l.length : Int))
      (fun s hs => Ev.some_ fun k => by simp only [laws_heldIntS.l0, List.length_map, List.length_range]; rw [if_neg (by omega), hs])
      (fun i s hi hs => .inr ⟨s + 1, by omega, rfl, EvE.of fun k => by
          simp only [laws_heldIntS.l0, List.length_map, List.length_range]
          rw [if_pos (by omega), if_pos (by omega), if_pos (by rw [rd_nat]; simp [hi, hs]), w64s hi (by omega), w64 (by omega) (by omega)]⟩) 0 n (Nat.zero_le _) (by simp)
    simpa [laws_heldIntS.f] using key
theorem laws_markThree_ev (a b : Int) (s m : List S68) (g : List Int) (n : Int) (h0 : 0 ≤ n) (h : n + 3 * (s.length : Int) + 3 * (m.length : Int) + (g.length : Int) ≤ 4294967295) :
    ∃ S M : List S68, ∃ G : List Int, S.length = s.length ∧ M.length = m.length ∧ G.length = g.length ∧
      Ev (fun k => laws_markThree.f k a b s m g n) (n + 3 * (s.length : Int) + 3 * (m.length : Int) + (g.length : Int), S, M, G) ∧
      ∀ a b, Ev (fun k => laws_heldThree.f k a b S M G n) (n + 3 * (s.length : Int) + 3 * (m.length : Int) + (g.length : Int)) := by
  obtain ⟨S, hS, mS, dS⟩ := laws_markItemS_ev s n h0 (by omega)
  obtain ⟨M, hM, mM, dM⟩ := laws_markItemS_ev m (n + 3 * (s.length : Int)) (by omega) (by omega)
  obtain ⟨G, hG, mG, dG⟩ := laws_markIntS_ev g (n + 3 * (s.length : Int) + 3 * (m.length : Int)) (by omega) (by omega)
  refine ⟨S, M, G, hS, hM, hG, (evA mS (evA mM (evP mG))).ev fun k ⟨e1, e2, e3⟩ => ?_, fun a b => (evA dS (evA dM (evP dG))).ev fun k ⟨e1, e2, e3⟩ => ?_⟩
  · simp only [laws_markThree.f, e1, e2, e3, Option.bind_some]
  · simp only [laws_heldThree.f, e1, Option.bind_some]
    rw [if_neg (by omega)]
    simp only [e2, Option.bind_some]
    rw [if_neg (by omega)]
    simp only [e3, Option.bind_some]
    rw [if_neg (by omega)]
theorem laws_eqStringS_ev (l : List ByteArray) (h : l.length ≤ 9223372036854775807) : Ev (fun k => laws_eqStringS.f k l l) true := by
  refine Ev.congr (fun k => ?_) (all_loop (fun k i => laws_eqStringS.l0 k l l i) l.length (Ev.some_ fun k => by simp only [laws_eqStringS.l0]; rw [if_neg (by omega)]) (fun i hi => EvE.of fun k => by
    simp only [laws_eqStringS.l0]; rw [if_pos (by omega), if_pos (by omega), if_pos (by omega), if_pos trivial, w64s hi h]))
  simp only [laws_eqStringS.f]; rw [if_pos trivial]
theorem laws_markStringS_ev (l : List ByteArray) (n : Int) (h0 : 0 ≤ n) (h : n + (l.length : Int) ≤ 4294967295) : ∃ M : List ByteArray, M.length = l.length ∧ Ev (fun k => laws_markStringS.f k l n) (n + (l.length : Int), M) ∧ Ev (fun k => laws_heldStringS.f k M n) (n + (l.length : Int)) := by
  have hmt : ∃ mt : Int → ByteArray, ∀ i, i ≤ 4294967295 → Ev (fun k => laws_markText.f k i) (mt i) :=
    ⟨fun i => if h : i ≤ 4294967295 then Classical.choose (laws_markText_ev i h) else ByteArray.empty, fun i hi => by simp only [dif_pos hi]; exact Classical.choose_spec (laws_markText_ev i hi)⟩
  obtain ⟨mt, hmt⟩ := hmt
  refine ⟨(List.range l.length).map fun i : Nat => mt (n + (i : Int)), by simp, ?_, ?_⟩
  · have key := Ev.scan (fun k (s : Int × List ByteArray) i => laws_markStringS.l0 k s.2 s.1 i) l.length (fun i s => s.1 = n + (i : Int) ∧ s.2.length = l.length) (fun i s => (n + (l.length : Int), s.2.take i ++ ((List.range l.length).drop i).map fun i : Nat => mt (n + (i : Int))))
      (fun s hs => Ev.some_ fun k => by
        simp only [laws_markStringS.l0]; rw [if_neg (by omega), List.drop_eq_nil_of_le (by simp), List.map_nil, List.append_nil, List.take_of_length_le (by omega), hs.1])
      (fun i s hi hs => .inr ⟨(s.1 + 1, s.2.set i (mt s.1)), ⟨by simp only; omega, by simpa using hs.2⟩, by
          rw [List.drop_eq_getElem_cons (i := i) (by simpa using hi), List.map_cons, List.getElem_range, hs.1]
          simp only [Prod.mk.injEq, true_and]
          rw [List.take_add_one, List.getElem?_set_self (by omega), List.take_set_of_le (Nat.le_refl i)]
          simp, (evP (hmt s.1 (by omega))).eve fun k e => by
          simp only [laws_markStringS.l0, e, Option.bind_some]
          rw [if_pos (by omega), if_pos (by omega), w64s hi (by omega), w64 (by omega) (by omega), Int.toNat_natCast]⟩) 0 (n, l) (Nat.zero_le _) ⟨by simp, rfl⟩
    simpa [laws_markStringS.f] using key
  · have key := Ev.scan (fun k (s : Int) i => laws_heldStringS.l0 k ((List.range l.length).map fun i : Nat => mt (n + (i : Int))) s i) l.length (fun i s => s = n + (i : Int)) (fun i s => n + (l.length : Int))
      (fun s hs => Ev.some_ fun k => by simp only [laws_heldStringS.l0, List.length_map, List.length_range]; rw [if_neg (by omega), hs])
      (fun i s hi hs => .inr ⟨s + 1, by omega, rfl, (evP (hmt s (by omega))).eve fun k e => by
          simp only [laws_heldStringS.l0, e, Option.bind_some, List.length_map, List.length_range]
          rw [if_pos (by omega), if_pos (by omega), if_pos (by rw [rdOf_nat]; simp [hi, hs]), w64s hi (by omega), w64 (by omega) (by omega)]⟩) 0 n (Nat.zero_le _) (by simp)
    simpa [laws_heldStringS.f] using key
theorem more_ev (f : Int) (h0 : 0 ≤ f) (h1 : f ≤ 3) : spec_l10More.f f = some (mn 3 (wrap64 (f + 1))) := by
  unfold spec_l10More.f mn
  rw [w64 (x := f + 1) (by omega) (by omega)]
  by_cases c : f ≥ 3
  · rw [if_pos c, if_neg (by omega)]
  · rw [if_neg c]
    by_cases d : f + 1 < 3
    · rw [if_pos d]
    · rw [if_neg d]; congr 1; omega
theorem touch_set (l : List S68) (i : Nat) (v : ByteArray) (h : i < l.length) : touch (setV l i v) i = l.set i ⟨(rdI l i).f0, v, mn 3 (wrap64 ((rdI l i).f2 + 1))⟩ := by
  have e : rdI (setV l i v) i = ⟨(rdI l i).f0, v, (rdI l i).f2⟩ := by
    show rd_T68 _ (i : Int) = _
    unfold setV; rw [rd_set l i _ h]
  unfold touch; rw [e]; unfold setV; rw [List.set_set]
theorem spec_Touch_ev (a b : Int) (s m : List S68) (g : List Int) (x v : ByteArray) (h : threeOk a b s m g = true) : Ev (fun k => spec_l10Touch.f k a b s m g x true v) (if 0 ≤ atI s x then (a, b, touch (setV s (atI s x).toNat v) (atI s x).toNat, m, g, v, true) else if 0 ≤ atI m x then (a, b, s, touch (setV m (atI m x).toNat v) (atI m x).toNat, g, v, true) else (a, b, s, m, g, ⟨#[]⟩, false)) := by
  have hl := three_len h
  have ha := three_are h
  have h1 := spec_l10At_ev s x (by omega)
  have h2 := spec_l10At_ev m x (by omega)
  refine (evA h1 (evA h2 (⟨3, fun k h => h⟩ : EvP fun k => 3 ≤ k))).ev fun k ⟨e1, e2, hk⟩ => ?_
  obtain ⟨n, rfl⟩ : ∃ n, k = n + 3 := ⟨k - 3, by omega⟩
  simp only [spec_l10Touch.f, e1, e2, Option.bind_some]
  by_cases c : 0 ≤ atI s x
  · have nb := not_both ha x c
    obtain ⟨i, ei, hi, _⟩ := at_lt s x c
    have hf := (ok_are _ ha i (by rw [List.length_append]; omega)).2
    rw [rdI_left s m i hi] at hf
    have hm' := more_ev (rd_T68 s (i : Int)).f2 hf.1 hf.2
    rw [if_pos c]
    rw [ei] at c ⊢
    rw [if_pos (show (i : Int) ≥ 0 from c), if_pos c, if_pos (by omega)]
    simp only [spec_l10Touch.j0, spec_l10Touch.j1, spec_l10Touch.j2]
    rw [if_neg (show ¬ atI m x ≥ 0 from nb), if_neg (show ¬ (i : Int) < 0 by omega)]
    simp only [Bool.false_eq_true, if_false]
    rw [hm', Option.bind_some, if_pos trivial, if_pos (show (i : Int) ≥ 0 from c), if_pos c, if_pos (by omega), Int.toNat_natCast, touch_set s i v hi]
    rfl
  · rw [if_neg c]
    rw [if_neg (show ¬ atI s x ≥ 0 from c)]
    by_cases d : 0 ≤ atI m x
    · obtain ⟨j, ej, hj, _⟩ := at_lt m x d
      have hf := (ok_are _ ha (s.length + j) (by rw [List.length_append]; omega)).2
      rw [rdI_right s m j hj] at hf
      have hm' := more_ev (rd_T68 m (j : Int)).f2 hf.1 hf.2
      rw [if_pos d]
      rw [ej] at d ⊢
      simp only [spec_l10Touch.j0, spec_l10Touch.j1, spec_l10Touch.j2]
      rw [if_pos (show (j : Int) ≥ 0 from d), if_pos d, if_pos (by omega), if_pos (show atI s x < 0 by omega), decide_eq_false (show ¬ (j : Int) < 0 by omega)]
      simp only [Bool.false_eq_true, if_false]
      rw [hm', Option.bind_some, if_pos trivial, if_neg (show ¬ atI s x ≥ 0 from c), if_pos d, if_pos (by omega), Int.toNat_natCast, touch_set m j v hj]
      rfl
    · rw [if_neg d]
      simp only [spec_l10Touch.j0, spec_l10Touch.j1, spec_l10Touch.j2]
      rw [if_neg (show ¬ atI m x ≥ 0 from d), if_pos (show atI s x < 0 by omega), decide_eq_true (show atI m x < 0 by omega)]
      simp only [if_true]
theorem spec_place_ev (a b : Int) (s m : List S68) (g : List Int) (x v : ByteArray) (gone : List ByteArray) (hx : x.size ≤ 9223372036854775807) (h1 : s.length ≤ 1048576) (h2 : m.length ≤ 1048576) (h3 : g.length ≤ 1048576) (hn : ¬ wrap64 ((s.length : Int) + (m.length : Int)) ≥ a) : Ev (fun k => spec_Put.l0 k x v gone a b s m g) (placeV a b s m g x v gone) := by
  refine Ev.up (g := fun _ => some (placeV a b s m g x v gone)) ((evA (spec_Hash_ev x hx) (evA (spec_l03Has_ev g (hashV x) h3) (evP (spec_but_ev g (hashV x) h3)))).eve fun k ⟨e1, e2, e3⟩ => ?_) (Ev.now _)
  simp only [spec_Put.l0, e1, e2, e3, Option.bind_some]
  rw [if_neg hn]
  unfold placeV
  cases hasN g (hashV x) with
  | true => simp only [if_true]; rw [if_pos (by omega)]
  | false => simp only [Bool.false_eq_true, if_false]; rw [if_pos (by omega)]
theorem spec_Put_ev (a b : Int) (s m : List S68) (g : List Int) (x v : ByteArray) (hx : x.size ≤ 9223372036854775807) (hv : v.size ≤ 9223372036854775807) (hg : g.length ≤ 1048576) (hl : SmallI (s ++ m)) : Ev (fun k => spec_Put.f k a b s m g x v) (putV a b s m g x v) := by
  have hl1 := hl.1
  rw [List.length_append] at hl1
  have hO := spec_ThreeOk_ev a b s m g hg hl
  have hI := spec_ItemOk_ev x v 0 hx hv
  have hno : Ev (fun k => spec_Put.j0 k x v true a b s m g) ((0, 0, [], [], [], [], false) : PutT) := Ev.up (g := fun _ => some _) (EvE.of fun k => by simp only [spec_Put.j0, if_true]) (Ev.now _)
  unfold putV
  by_cases c : threeOk a b s m g = true
  case neg =>
    rw [if_neg (fun h => c h.1)]
    refine (evA hO (evP hno)).ev fun k ⟨e1, e2⟩ => ?_
    simp only [spec_Put.f, e1, Option.bind_some]
    rw [if_neg c, e2]
  by_cases d : itemOk x v 0 = true
  case neg =>
    rw [if_neg (fun h => d h.2)]
    rw [Bool.not_eq_true] at d
    rw [d] at hI
    refine (evA hO (evA hI (evP hno))).ev fun k ⟨e1, e2, e3⟩ => ?_
    simp only [spec_Put.f, e1, e2, Option.bind_some]
    rw [if_pos c]; simpa using e3
  rw [if_pos ⟨c, d⟩]
  rw [d] at hI
  have h3 := three_len c
  suffices hyes : Ev (fun k => spec_Put.j0 k x v false a b s m g) (putC a b s m g x v) by
    refine (evA hO (evA hI (evP hyes))).ev fun k ⟨e1, e2, e3⟩ => ?_
    simp only [spec_Put.f, e1, e2, Option.bind_some]
    rw [if_pos c]; simpa using e3
  have ha : a ≤ 60 ∧ 1 ≤ a ∧ (s.length : Int) + (m.length : Int) ≤ a := by
    have c' := c
    unfold threeOk at c'
    simp only [Bool.and_eq_true, decide_eq_true_eq] at c'
    omega
  have hw : wrap64 ((s.length : Int) + (m.length : Int)) = (s.length : Int) + (m.length : Int) := w64 (by omega) (by omega)
  have ht := spec_Touch_ev a b s m g x v c
  unfold putC
  by_cases d1 : 0 ≤ atI s x
  · rw [if_pos d1] at ht ⊢
    refine Ev.up (g := fun _ => some _) ((evP ht).eve fun k e1 => ?_) (Ev.now _)
    simp only [spec_Put.j0, Bool.false_eq_true, if_false, spec_copy3 a b s m g (by omega) (by omega) hg, Option.bind_some, e1, if_true]
  rw [if_neg d1] at ht ⊢
  by_cases d2 : 0 ≤ atI m x
  · rw [if_pos d2] at ht ⊢
    refine Ev.up (g := fun _ => some _) ((evP ht).eve fun k e1 => ?_) (Ev.now _)
    simp only [spec_Put.j0, Bool.false_eq_true, if_false, spec_copy3 a b s m g (by omega) (by omega) hg, Option.bind_some, e1, if_true]
  rw [if_neg d2] at ht ⊢
  refine Ev.up (g := fun k => spec_Put.l0 k x v [] a b s m g) ((evP ht).eve fun k e1 => ?_) ?_
  · simp only [spec_Put.j0, Bool.false_eq_true, if_false, spec_copy3 a b s m g (by omega) (by omega) hg, Option.bind_some, e1]
  unfold newV
  by_cases e : (s.length : Int) + (m.length : Int) ≥ a
  · rw [if_pos e]
    have hab := coreE_ab a b s m g
    have hn := coreE_len a b s m g
    have hlt := coreE_less c (by omega)
    have hw2 : ¬ wrap64 (((coreE a b s m g).2.2.1.length : Int) + ((coreE a b s m g).2.2.2.1.length : Int)) ≥ (coreE a b s m g).1 := by rw [hab.1, w64 (by omega) (by omega)]; omega
    have hE := spec_Evict_ev a b s m g hg hl
    unfold evictV at hE
    rw [if_pos c] at hE
    refine Ev.up ((evP hE).eve fun k e1 => ?_) (spec_place_ev (coreE a b s m g).1 (coreE a b s m g).2.1 (coreE a b s m g).2.2.1 (coreE a b s m g).2.2.2.1 (coreE a b s m g).2.2.2.2.1 x v [(coreE a b s m g).2.2.2.2.2.1] hx (by omega) (by omega) (by omega) hw2)
    rw [spec_Put.l0.eq_2, hw, if_pos e, e1, Option.bind_some, if_pos (by simp)]
    rfl
  · rw [if_neg e]
    exact spec_place_ev a b s m g x v [] hx (by omega) (by omega) hg (by rw [hw]; exact e)
theorem putV_len (a b : Int) (s m : List S68) (g : List Int) (x v : ByteArray) (h1 : s.length ≤ 1048576) (h2 : m.length ≤ 1048576) (h3 : g.length ≤ 1048576) : (putV a b s m g x v).2.2.1.length ≤ 10485760 ∧ (putV a b s m g x v).2.2.2.1.length ≤ 10485760 ∧ (putV a b s m g x v).2.2.2.2.1.length ≤ 10485760 ∧ (putV a b s m g x v).2.2.2.2.2.1.length ≤ 1 := by
  have hp : ∀ (a b : Int) (s m : List S68) (g : List Int) (l : List ByteArray), s.length ≤ 3000000 → m.length ≤ 3000000 → g.length ≤ 3000000 → l.length ≤ 1 → (placeV a b s m g x v l).2.2.1.length ≤ 10485760 ∧ (placeV a b s m g x v l).2.2.2.1.length ≤ 10485760 ∧ (placeV a b s m g x v l).2.2.2.2.1.length ≤ 10485760 ∧ (placeV a b s m g x v l).2.2.2.2.2.1.length ≤ 1 := fun a b s m g l i1 i2 i3 i4 => by
    have := but_len g (hashV x)
    unfold placeV
    split
    · simp only [List.length_append, List.length_singleton]; omega
    · simp only [List.length_append, List.length_singleton]; omega
  have hn := coreE_len a b s m g
  unfold putV
  split
  · unfold putC
    split
    · simp only [touch, setV, List.length_set, List.length_nil]; omega
    · split
      · simp only [touch, setV, List.length_set, List.length_nil]; omega
      · unfold newV
        split
        · exact hp _ _ _ _ _ _ (by omega) (by omega) (by omega) (by simp)
        · exact hp _ _ _ _ _ _ (by omega) (by omega) (by omega) (by simp)
  · simp only [List.length_nil]; omega
theorem FnExactPut : DFnExactPut.Pure := by
  intro a b s m g x v ha hb ⟨h1, hs⟩ ⟨h2, hm⟩ ⟨h3, hg⟩ hx hv
  by_cases c0 : (x.size : Int) > 1048576
  · exact ⟨0, by simp only [laws_FnExactPut.f]; rw [if_pos c0]⟩
  by_cases c00 : (v.size : Int) > 1048576
  · exact ⟨0, by simp only [laws_FnExactPut.f]; rw [if_neg c0, if_pos c00]⟩
  obtain ⟨t, ht, ht1⟩ := laws_szThree_ev a b s m g h1 h2 h3 hs hm
  by_cases c1 : t < 0
  · obtain ⟨k, e⟩ := (evP ht).ex
    exact ⟨k, by simp only [laws_FnExactPut.f, e, Option.bind_some, if_pos c1]; rw [if_neg c0, if_neg c00]⟩
  have hn := ht1 c1
  have hsm := small_cv2 s m (by omega) hs hm
  have hsl : (s.map cvI).length = s.length := List.length_map _
  have hml : (m.map cvI).length = m.length := List.length_map _
  have s1 := spec_Put_ev a b (s.map cvI) (m.map cvI) g x v (by omega) (by omega) (by omega) hsm
  have s2 := impl_Put_ev a b (s.map cvI) (m.map cvI) g x v (by omega) (by omega) (by omega) hsm
  obtain ⟨l1, l2, l3, l4⟩ := putV_len a b (s.map cvI) (m.map cvI) g x v (by omega) (by omega) (by omega)
  generalize putV a b (s.map cvI) (m.map cvI) g x v = W at s1 s2 l1 l2 l3 l4
  obtain ⟨A, B, S, M, G, R, y⟩ := W
  simp only at l1 l2 l3 l4
  have tr := laws_toThree_ev a b s m g (by omega) (by omega) (by omega)
  have q0 := laws_eqThree_ev a b (s.map cvI) (m.map cvI) g (by omega) (by omega) (by omega)
  have q := laws_eqThree_ev A B S M G (by omega) (by omega) (by omega)
  have qR := laws_eqStringS_ev R (by omega)
  obtain ⟨_, _, _, _, _, _, m0, _⟩ := laws_markThree_ev a b (s.map cvI) (m.map cvI) g 1 (by omega) (by omega)
  obtain ⟨MS, MM, MG, _, _, _, mk, d⟩ := laws_markThree_ev A B S M G 1 (by omega) (by omega)
  have tpos0 : ¬ (1 + 3 * ((s.map cvI).length : Int) + 3 * ((m.map cvI).length : Int) + (g.length : Int) < 0) := by omega
  generalize 1 + 3 * ((s.map cvI).length : Int) + 3 * ((m.map cvI).length : Int) + (g.length : Int) = t0 at m0 tpos0
  have tpos : 0 ≤ 1 + 3 * (S.length : Int) + 3 * (M.length : Int) + (G.length : Int) ∧ 1 + 3 * (S.length : Int) + 3 * (M.length : Int) + (G.length : Int) ≤ 4000000000 := by omega
  generalize 1 + 3 * (S.length : Int) + 3 * (M.length : Int) + (G.length : Int) = t1 at mk d tpos
  obtain ⟨D, _, mR, dR⟩ := laws_markStringS_ev R t1 tpos.1 (by omega)
  have tp1 : ¬ t1 < 0 := by omega
  have tp2 : ¬ t1 + (R.length : Int) < 0 := by omega
  generalize t1 + (R.length : Int) = t2 at mR dR tp2
  have st2 : Ev (fun k => laws_FnExactPut.j2 k D t2 false A B MS MM MG) true := by
    refine Ev.up (g := fun _ => some true) ((evA (d A B) (evP dR)).eve fun k ⟨e1, e2⟩ => ?_) (Ev.now _)
    simp only [laws_FnExactPut.j2, Bool.false_eq_true, if_false, e1, e2, Option.bind_some, if_true]
    rw [if_neg tp1, if_neg tp2]
  have st1 : Ev (fun k => laws_FnExactPut.j1 k x v R y R false a b s m g A B S M G A B S M G) true := by
    refine Ev.up (g := fun k => laws_FnExactPut.j2 k D t2 false A B MS MM MG) ((evA mk (evA mR (evA (d A B) (evA dR (evA tr (evA s2 (evA q (evP qR)))))))).eve fun k ⟨e1, e2, e3, e4, e5, e6, e7, e8⟩ => ?_) st2
    simp only [laws_FnExactPut.j1, Bool.false_eq_true, if_false, e1, e2, e3, e4, e5, e6, e7, e8, Option.bind_some, if_true, bne_self_eq_false, eq_self]
    rw [if_neg tp1, if_neg tp2]
  have st0 : Ev (fun k => laws_FnExactPut.j0 k x v R y R y false a b s m g A B S M G a b (s.map cvI) (m.map cvI) g A B S M G) true := by
    refine Ev.up (g := fun k => laws_FnExactPut.j1 k x v R y R false a b s m g A B S M G A B S M G) ((evA tr (evA q0 (evA m0 (evA q (evP qR))))).eve fun k ⟨e1, e2, e3, e4, e5⟩ => ?_) st1
    simp only [laws_FnExactPut.j0, Bool.false_eq_true, if_false, e1, e2, e3, e4, e5, Option.bind_some, if_true, bne_self_eq_false, eq_self]
    rw [if_neg tpos0]
  obtain ⟨k, e0, e1, e2, e3, e4, e5, e6⟩ := (evA ht (evA tr (evA s1 (evA s2 (evA q (evA qR (evP st0))))))).ex
  exact ⟨k, by simp only [laws_FnExactPut.f, e0, e1, e2, e3, e4, e5, e6, Option.bind_some, if_neg c1, if_true, bne_self_eq_false, eq_self]; rw [if_neg c0, if_neg c00]⟩
end Go.Proofs.Ytfjhkediaholmaa.Pure
