/- The program's SetupOk and the reference's tell the same, for all setups. No condition. -/
import Derived.Test.YtfjhkediaholmaaDFnExactSetupOk
import Derived.Test.YtfjhkediaholmaaLm
namespace Go.Proofs.Ytfjhkediaholmaa.Pure
open Go.RowKit Go.Proofs.Ytfjhkediaholmaa.QFnExactSetupOk Go.Proofs.YtfjhkediaholmaaW.PrintWords Go.Proofs.YtfjhkediaholmaaW.PrintLast Go.Proofs.YtfjhkediaholmaaW.PrintMore Go.Proofs.Ytfjhkediaholmaa.Lm
set_option linter.unusedSimpArgs false
set_option linter.unusedVariables false
theorem spec_l10Clean_ev (s : ByteArray) (hs : s.size ≤ 9223372036854775807) : Ev (fun k => spec_l10Clean.f k s) (plain (bytesOf s)) := by
  have := Ev.scan (l := fun k (_ : Unit) i => spec_l10Clean.l0 k s i) s.size (fun _ _ => True) (fun i _ => plain ((bytesOf s).drop i)) ?_ ?_ 0 () (Nat.zero_le _) trivial
  · simpa [spec_l10Clean.f] using this
  · intro _ _
    exact Ev.some_ fun k => by simp only [spec_l10Clean.l0]; rw [if_neg (by omega)]; simp [plain, ← bytesOf_length]
  · intro i _ hi _
    have hd := drop_bt s i hi
    have hl : ∀ k, spec_l10Clean.l0 (k + 1) s (i : Int) = if bt s (i : Int) = 32 then some false else if bt s (i : Int) = 10 then some false else spec_l10Clean.l0 k s ((i + 1 : Nat) : Int) := fun k => by
      simp only [spec_l10Clean.l0]; rw [if_pos (by omega), if_pos (by omega), w64s hi hs]
    by_cases h1 : bt s (i : Int) = 32
    · exact .inl (Ev.some_ fun k => by simp only [hl]; rw [if_pos h1, hd, h1]; rfl)
    · by_cases h2 : bt s (i : Int) = 10
      · exact .inl (Ev.some_ fun k => by simp only [hl]; rw [if_neg h1, if_pos h2, hd, h2]; rfl)
      · exact .inr ⟨(), trivial, by rw [hd]; simp [plain, h1, h2], EvE.of fun k => by simp only [hl]; rw [if_neg h1, if_neg h2]⟩
theorem impl_isPlain_ev (s : ByteArray) (hs : s.size ≤ 9223372036854775807) : Ev (fun k => impl_isPlain.f k s) (plain (bytesOf s)) := by
  have := Ev.scan (l := fun k (_ : Unit) i => impl_isPlain.l0 k s i) s.size (fun _ _ => True) (fun i _ => plain ((bytesOf s).drop i)) ?_ ?_ 0 () (Nat.zero_le _) trivial
  · simpa [impl_isPlain.f] using this
  · intro _ _
    exact Ev.some_ fun k => by simp only [impl_isPlain.l0]; rw [if_neg (by omega)]; simp [plain, ← bytesOf_length]
  · intro i _ hi _
    have hd := drop_bt s i hi
    have hl : ∀ k, impl_isPlain.l0 (k + 1) s (i : Int) = if bt s (i : Int) = 32 then some false else if bt s (i : Int) = 10 then some false else impl_isPlain.l0 k s ((i + 1 : Nat) : Int) := fun k => by
      simp only [impl_isPlain.l0]; rw [if_pos (by omega), if_pos (by omega), w64s hi hs]
    by_cases h1 : bt s (i : Int) = 32
    · exact .inl (Ev.some_ fun k => by simp only [hl]; rw [if_pos h1, hd, h1]; rfl)
    · by_cases h2 : bt s (i : Int) = 10
      · exact .inl (Ev.some_ fun k => by simp only [hl]; rw [if_neg h1, if_pos h2, hd, h2]; rfl)
      · exact .inr ⟨(), trivial, by rw [hd]; simp [plain, h1, h2], EvE.of fun k => by simp only [hl]; rw [if_neg h1, if_neg h2]⟩
theorem spec_ItemOk_ev (a b : ByteArray) (f : Int) (ha : a.size ≤ 9223372036854775807) (hb : b.size ≤ 9223372036854775807) : Ev (fun k => spec_ItemOk.f k a b f) (itemOk a b f) := by
  obtain ⟨K1, h1⟩ := spec_l10Clean_ev a ha
  obtain ⟨K2, h2⟩ := spec_l10Clean_ev b hb
  refine ⟨max K1 K2, fun k hk => ?_⟩
  have e1 := h1 k (by omega)
  have e2 := h2 k (by omega)
  by_cases c1 : 1 ≤ (a.size : Int) <;> by_cases c2 : (a.size : Int) ≤ 20 <;> by_cases c3 : (b.size : Int) ≤ 40 <;> by_cases c4 : 0 ≤ f <;> by_cases c5 : f ≤ 3 <;> cases p1 : plain (bytesOf a) <;> cases p2 : plain (bytesOf b) <;>
    simp only [spec_ItemOk.f, spec_l01In.f, e1, e2, Option.bind_some, itemOk, ge_iff_le, c1, c2, c3, c4, c5, p1, p2, if_true, if_false, decide_true, decide_false, Bool.and_true, Bool.true_and, Bool.false_and, Bool.and_false, Bool.false_eq_true]
theorem impl_ItemOk_ev (a b : ByteArray) (f : Int) (ha : a.size ≤ 9223372036854775807) (hb : b.size ≤ 9223372036854775807) : Ev (fun k => impl_ItemOk.f k a b f) (itemOk a b f) := by
  obtain ⟨K1, h1⟩ := impl_isPlain_ev a ha
  obtain ⟨K2, h2⟩ := impl_isPlain_ev b hb
  refine ⟨max K1 K2, fun k hk => ?_⟩
  have e1 := h1 k (by omega)
  have e2 := h2 k (by omega)
  by_cases c1 : 1 ≤ (a.size : Int) <;> by_cases c2 : (a.size : Int) ≤ 20 <;> by_cases c3 : (b.size : Int) ≤ 40 <;> by_cases c4 : 0 ≤ f <;> by_cases c5 : f ≤ 3 <;> cases p1 : plain (bytesOf a) <;> cases p2 : plain (bytesOf b) <;>
    simp only [impl_ItemOk.f, impl_within.f, e1, e2, Option.bind_some, itemOk, ge_iff_le, c1, c2, c3, c4, c5, p1, p2, if_true, if_false, decide_true, decide_false, Bool.and_true, Bool.true_and, Bool.false_and, Bool.and_false, Bool.false_eq_true]
theorem drop_I (l : List S68) (i : Nat) (h : i < l.length) : l.drop i = rd_T68 l (i : Int) :: l.drop (i + 1) := by
  unfold rd_T68; rw [Int.toNat_natCast]; exact drop_cons _ l i h
/-- Where a key's item is. -/
def atI (l : List S68) (key : ByteArray) : Int := if l.any (fun x => decide (x.f0 = key)) then ((l.findIdx (fun x => decide (x.f0 = key)) : Nat) : Int) else -1
def okI (l : List S68) (i : Nat) : Bool := itemOk (rd_T68 l (i : Int)).f0 (rd_T68 l (i : Int)).f1 (rd_T68 l (i : Int)).f2 && decide (atI l (rd_T68 l (i : Int)).f0 = (i : Int))
/-- Items are right, and no two have one key. -/
def areI (l : List S68) : Bool := allN l.length (okI l)
/-- The texts of items are no longer than texts are. -/
def SmallI (l : List S68) : Prop := l.length ≤ 1048576 ∧ ∀ x ∈ l, x.f0.size ≤ 9223372036854775807 ∧ x.f1.size ≤ 9223372036854775807
theorem SmallI.at {l : List S68} (h : SmallI l) (i : Nat) (hi : i < l.length) : (rd_T68 l (i : Int)).f0.size ≤ 9223372036854775807 ∧ (rd_T68 l (i : Int)).f1.size ≤ 9223372036854775807 :=
  h.2 _ (by unfold rd_T68; rw [Int.toNat_natCast]; exact getD_mem _ l i hi)
theorem spec_l10At_ev (l : List S68) (x : ByteArray) (hl : l.length ≤ 1048576) : Ev (fun k => spec_l10At.f k l x) (atI l x) := by
  have key := Ev.scan (fun k (_ : Unit) i => spec_l10At.l0 k x l (l.length : Int) i) l.length (fun _ _ => True) (fun i _ => if (l.drop i).any (fun y => decide (y.f0 = x)) then (((l.drop i).findIdx (fun y => decide (y.f0 = x)) + i : Nat) : Int) else -1)
    (fun _ _ => Ev.some_ fun k => by simp only [spec_l10At.l0]; rw [if_neg (by omega), List.drop_eq_nil_of_le (Nat.le_refl _)]; rfl)
    (fun i _ hi _ => by
      have hd := drop_I l i hi
      have hs : ∀ k, spec_l10At.l0 (k + 1) x l (l.length : Int) (i : Int) = if (rd_T68 l (i : Int)).f0 = x then some (i : Int) else spec_l10At.l0 k x l (l.length : Int) ((i + 1 : Nat) : Int) := fun k => by
        simp only [spec_l10At.l0, toList_inj]; rw [if_pos (by omega), if_pos (by omega), if_pos (by omega), w64s hi (by omega)]
      rw [hd, List.any_cons, List.findIdx_cons]
      by_cases c : (rd_T68 l (i : Int)).f0 = x
      · exact .inl (Ev.some_ fun k => by simp only [hs]; rw [if_pos c, decide_eq_true c]; simp)
      · exact .inr ⟨(), trivial, by
          rw [decide_eq_false c]; simp only [Bool.false_or, cond_false]
          split <;> omega, EvE.of fun k => by simp only [hs]; rw [if_neg c]⟩) 0 () (Nat.zero_le _) trivial
  simpa [spec_l10At.f, atI] using key
theorem impl_itemAt_ev (l : List S68) (x : ByteArray) (hl : l.length ≤ 1048576) : Ev (fun k => impl_itemAt.f k l x) (atI l x) := by
  have key := Ev.scan (fun k (_ : Unit) i => impl_itemAt.l0 k x l (l.length : Int) i) l.length (fun _ _ => True) (fun i _ => if (l.drop i).any (fun y => decide (y.f0 = x)) then (((l.drop i).findIdx (fun y => decide (y.f0 = x)) + i : Nat) : Int) else -1)
    (fun _ _ => Ev.some_ fun k => by simp only [impl_itemAt.l0]; rw [if_neg (by omega), List.drop_eq_nil_of_le (Nat.le_refl _)]; rfl)
    (fun i _ hi _ => by
      have hd := drop_I l i hi
      have hs : ∀ k, impl_itemAt.l0 (k + 1) x l (l.length : Int) (i : Int) = if (rd_T68 l (i : Int)).f0 = x then some (i : Int) else impl_itemAt.l0 k x l (l.length : Int) ((i + 1 : Nat) : Int) := fun k => by
        simp only [impl_itemAt.l0, toList_inj]; rw [if_pos (by omega), if_pos (by omega), if_pos (by omega), w64s hi (by omega)]
      rw [hd, List.any_cons, List.findIdx_cons]
      by_cases c : (rd_T68 l (i : Int)).f0 = x
      · exact .inl (Ev.some_ fun k => by simp only [hs]; rw [if_pos c, decide_eq_true c]; simp)
      · exact .inr ⟨(), trivial, by
          rw [decide_eq_false c]; simp only [Bool.false_or, cond_false]
          split <;> omega, EvE.of fun k => by simp only [hs]; rw [if_neg c]⟩) 0 () (Nat.zero_le _) trivial
  simpa [impl_itemAt.f, atI] using key
theorem impl_areItems_ev (l : List S68) (hl : SmallI l) : Ev (fun k => impl_areItems.f k l) (areI l) := by
  have key := Ev.asks (fun k i => impl_areItems.l0 k l l (l.length : Int) i) l.length (okI l) true
    (Ev.some_ fun k => by simp only [impl_areItems.l0]; rw [if_neg (by omega)])
    (fun i hi hp => by
      have hb := hl.at i hi
      have h1 := impl_ItemOk_ev (rd_T68 l (i : Int)).f0 (rd_T68 l (i : Int)).f1 (rd_T68 l (i : Int)).f2 hb.1 hb.2
      refine (evA h1 (evP (impl_itemAt_ev l (rd_T68 l (i : Int)).f0 hl.1))).ev fun k ⟨e1, e2⟩ => ?_
      simp only [impl_areItems.l0, e1, e2, Option.bind_some]
      rw [if_pos (by have := hl.1; omega), if_pos (by omega), if_pos (by have := hl.1; omega)]
      unfold okI at hp
      cases c : itemOk (rd_T68 l (i : Int)).f0 (rd_T68 l (i : Int)).f1 (rd_T68 l (i : Int)).f2 with
      | false => rw [if_neg (by simp)]
      | true => rw [c, Bool.true_and] at hp; rw [if_pos rfl, if_neg (of_decide_eq_false hp)])
    (fun i hi hp => by
      have hb := hl.at i hi
      have hw := hl.1
      have h1 := impl_ItemOk_ev (rd_T68 l (i : Int)).f0 (rd_T68 l (i : Int)).f1 (rd_T68 l (i : Int)).f2 hb.1 hb.2
      unfold okI at hp
      simp only [Bool.and_eq_true, decide_eq_true_eq] at hp
      rw [hp.1] at h1
      refine (evA h1 (evP (impl_itemAt_ev l (rd_T68 l (i : Int)).f0 hl.1))).eve fun k ⟨e1, e2⟩ => ?_
      simp only [impl_areItems.l0, e1, e2, Option.bind_some, if_true]
      rw [if_pos (by omega), if_pos (by omega), if_pos (by omega), if_pos hp.2, w64s hi (by omega)])
  rw [Bool.and_true] at key
  simpa [impl_areItems.f, areI] using key
def hasN (l : List Int) (x : Int) : Bool := l.any fun y => decide (y = x)
theorem hasN_cons (y : Int) (l : List Int) (x : Int) : hasN (y :: l) x = (decide (y = x) || hasN l x) := rfl
theorem spec_l03Has_ev (l : List Int) (x : Int) (hl : l.length ≤ 1048576) : Ev (fun k => spec_l03Has.f k l x) (hasN l x) := by
  have key := Ev.scan (fun k (_ : Unit) i => spec_l03Has.l0 k x l (l.length : Int) i) l.length (fun _ _ => True) (fun i _ => hasN (l.drop i) x)
    (fun _ _ => Ev.some_ fun k => by simp only [spec_l03Has.l0]; rw [if_neg (by omega), List.drop_eq_nil_of_le (Nat.le_refl _)]; rfl)
    (fun i _ hi _ => by
      have hd := drop_rd l i hi
      have hs : ∀ k, spec_l03Has.l0 (k + 1) x l (l.length : Int) (i : Int) = if rd l (i : Int) = x then some true else spec_l03Has.l0 k x l (l.length : Int) ((i + 1 : Nat) : Int) := fun k => by
        simp only [spec_l03Has.l0]; rw [if_pos (by omega), if_pos (by omega), if_pos (by omega), w64s hi (by omega)]
      rw [hd, hasN_cons]
      by_cases c : rd l (i : Int) = x
      · exact .inl (Ev.some_ fun k => by simp only [hs]; rw [if_pos c, decide_eq_true c]; rfl)
      · exact .inr ⟨(), trivial, by rw [decide_eq_false c]; rfl, EvE.of fun k => by simp only [hs]; rw [if_neg c]⟩) 0 () (Nat.zero_le _) trivial
  simpa [spec_l03Has.f] using key
theorem slices_ContainsI_ev (l : List Int) (x : Int) (hl : l.length ≤ 1048576) : Ev (fun k => slices_Contains_int_int.f k l x) (hasN l x) := by
  have key : ∃ r, Ev (fun k => slices_Index_int_int.f k l x) r ∧ decide (r ≥ 0) = hasN l x := by
    have key := Ev.scan (fun k (_ : Unit) i => slices_Index_int_int.l0 k l x (l.length : Int) i) l.length (fun _ _ => True) (fun i _ => if hasN (l.drop i) x then (((l.drop i).findIdx (fun y => decide (y = x)) + i : Nat) : Int) else -1)
      (fun _ _ => Ev.some_ fun k => by simp only [slices_Index_int_int.l0]; rw [if_neg (by omega), List.drop_eq_nil_of_le (Nat.le_refl _)]; rfl)
      (fun i _ hi _ => by
        have hd := drop_rd l i hi
        have hs : ∀ k, slices_Index_int_int.l0 (k + 1) l x (l.length : Int) (i : Int) = if rd l (i : Int) = x then some (i : Int) else slices_Index_int_int.l0 k l x (l.length : Int) ((i + 1 : Nat) : Int) := fun k => by
          simp only [slices_Index_int_int.l0]; rw [if_pos (by omega), if_pos (by omega), if_pos (by omega), w64s hi (by omega)]
          simp only [eq_comm]
        rw [hd, hasN_cons, List.findIdx_cons]
        by_cases c : rd l (i : Int) = x
        · exact .inl (Ev.some_ fun k => by simp only [hs]; rw [if_pos c, decide_eq_true c]; simp)
        · exact .inr ⟨(), trivial, by
            rw [decide_eq_false c]; simp only [Bool.false_or, cond_false]
            split <;> omega, EvE.of fun k => by simp only [hs]; rw [if_neg c]⟩) 0 () (Nat.zero_le _) trivial
    refine ⟨_, (by simpa [slices_Index_int_int.f] using key), ?_⟩
    cases hasN l x with
    | true => simp only [if_true]; exact decide_eq_true (by omega)
    | false => rfl
  obtain ⟨r, hr, e⟩ := key
  rw [← e]
  exact (evP hr).ev fun k e1 => by simp only [slices_Contains_int_int.f, e1, Option.bind_some]
def ghostsN (a b : Int) : Int := if a - b < 1 then 1 else a - b
def ghostI (g : List Int) (i : Nat) : Bool := decide (0 ≤ rd g (i : Int) ∧ rd g (i : Int) ≤ 4294967295) && !hasN (g.take i) (rd g (i : Int))
def ghostOk (g : List Int) : Bool := allN g.length (ghostI g)
/-- A cache of three queues is right. -/
def threeOk (a b : Int) (s m : List S68) (g : List Int) : Bool := decide (1 ≤ a ∧ a ≤ 60) && decide (1 ≤ b ∧ b ≤ a) && decide ((s.length : Int) + (m.length : Int) ≤ a) && decide ((g.length : Int) ≤ ghostsN a b) && (areI (s ++ m) && ghostOk g)
theorem spec_Three_l1 (a b : Int) (s m : List S68) (g : List Int) (hg : g.length ≤ 1048576) : Ev (fun k => spec_ThreeOk.l1 k g (g.length : Int) 0 a b s m g) (ghostOk g) := by
  have key := Ev.asks (fun k i => spec_ThreeOk.l1 k g (g.length : Int) i a b s m g) g.length (ghostI g) true
    (Ev.some_ fun k => by simp only [spec_ThreeOk.l1]; rw [if_neg (by omega)])
    (fun i hi hp => by
      have ht : (g.take i).length ≤ 1048576 := by rw [List.length_take]; omega
      refine (evP (spec_l03Has_ev (g.take i) (rd g (i : Int)) ht)).ev fun k e => ?_
      simp only [spec_ThreeOk.l1, spec_l01Num.f, Int.toNat_natCast, e]
      rw [if_pos (by omega), if_pos (by omega), if_pos (by omega)]
      unfold ghostI at hp
      by_cases c1 : rd g (i : Int) ≥ 0
      · rw [if_pos c1, Option.bind_some]
        by_cases c2 : rd g (i : Int) ≤ 4294967295
        · rw [if_pos (decide_eq_true c2), if_pos (by omega), Option.bind_some]
          rw [decide_eq_true ⟨c1, c2⟩, Bool.true_and] at hp
          rw [if_pos (by simpa using hp)]
        · rw [if_neg (by simp [c2])]
      · rw [if_neg c1, Option.bind_some, if_neg (by simp)])
    (fun i hi hp => by
      have ht : (g.take i).length ≤ 1048576 := by rw [List.length_take]; omega
      unfold ghostI at hp
      simp only [Bool.and_eq_true, decide_eq_true_eq, Bool.not_eq_true'] at hp
      have h3 := spec_l03Has_ev (g.take i) (rd g (i : Int)) ht
      rw [hp.2] at h3
      refine (evP h3).eve fun k e => ?_
      simp only [spec_ThreeOk.l1, spec_l01Num.f, Int.toNat_natCast, e]
      rw [if_pos (by omega), if_pos (by omega), if_pos (by omega), if_pos (show rd g (i : Int) ≥ 0 from hp.1.1), Option.bind_some, if_pos (decide_eq_true hp.1.2), if_pos (by omega), Option.bind_some, if_neg (by simp), w64s hi (by omega)])
  rw [Bool.and_true] at key
  exact key
theorem spec_Three_l0 (a b : Int) (s m l : List S68) (g : List Int) (hg : g.length ≤ 1048576) (hl : SmallI l) : Ev (fun k => spec_ThreeOk.l0 k l l (l.length : Int) 0 a b s m g) (areI l && ghostOk g) := by
  have hw := hl.1
  refine Ev.asks (fun k i => spec_ThreeOk.l0 k l l (l.length : Int) i a b s m g) l.length (okI l) _ ?_ ?_ ?_
  · refine (evP (spec_Three_l1 a b s m g hg)).ev fun k e => ?_
    simp only [spec_ThreeOk.l0, e]; rw [if_neg (by omega)]
  · intro i hi hp
    have hb := hl.at i hi
    have h1 := spec_ItemOk_ev (rd_T68 l (i : Int)).f0 (rd_T68 l (i : Int)).f1 (rd_T68 l (i : Int)).f2 hb.1 hb.2
    refine (evA h1 (evP (spec_l10At_ev l (rd_T68 l (i : Int)).f0 hl.1))).ev fun k ⟨e1, e2⟩ => ?_
    simp only [spec_ThreeOk.l0, e1, e2, Option.bind_some]
    rw [if_pos (by omega), if_pos (by omega), if_pos (by omega)]
    unfold okI at hp
    cases c : itemOk (rd_T68 l (i : Int)).f0 (rd_T68 l (i : Int)).f1 (rd_T68 l (i : Int)).f2 with
    | false => rw [if_neg (by simp)]
    | true => rw [c, Bool.true_and] at hp; rw [if_pos rfl, if_neg (of_decide_eq_false hp)]
  · intro i hi hp
    have hb := hl.at i hi
    have h1 := spec_ItemOk_ev (rd_T68 l (i : Int)).f0 (rd_T68 l (i : Int)).f1 (rd_T68 l (i : Int)).f2 hb.1 hb.2
    unfold okI at hp
    simp only [Bool.and_eq_true, decide_eq_true_eq] at hp
    rw [hp.1] at h1
    refine (evA h1 (evP (spec_l10At_ev l (rd_T68 l (i : Int)).f0 hl.1))).eve fun k ⟨e1, e2⟩ => ?_
    simp only [spec_ThreeOk.l0, e1, e2, Option.bind_some, if_true]
    rw [if_pos (by omega), if_pos (by omega), if_pos (by omega), if_pos hp.2, w64s hi (by omega)]
theorem wsub (a b : Int) (ha : a ≤ 60) (hb : 1 ≤ b) (hab : b ≤ a) : wrap64 (a - b) = a - b := w64 (by omega) (by omega)
theorem spec_ThreeOk_ev (a b : Int) (s m : List S68) (g : List Int) (hg : g.length ≤ 1048576) (hl : SmallI (s ++ m)) : Ev (fun k => spec_ThreeOk.f k a b s m g) (threeOk a b s m g) := by
  have hw := hl.1
  rw [List.length_append] at hw
  have h0 : Ev (fun k => spec_ThreeOk.j0 k true a b s m g) false := Ev.up (g := fun _ => some false) (EvE.of fun k => by simp only [spec_ThreeOk.j0, if_true]) (Ev.now _)
  have h1 : Ev (fun k => spec_ThreeOk.j0 k false a b s m g) (areI (s ++ m) && ghostOk g) := by
    refine Ev.up (g := fun k => spec_ThreeOk.l0 k (s ++ m) (s ++ m) ((s ++ m).length : Int) 0 a b s m g) (EvE.of fun k => ?_) (spec_Three_l0 a b s m (s ++ m) g hg hl)
    simp only [spec_ThreeOk.j0, Bool.false_eq_true, if_false, Option.bind_some, List.nil_append, List.length_nil]
    rw [if_pos (by omega), if_pos (by omega)]
  by_cases c1 : 1 ≤ a
  · by_cases c2 : a ≤ 60
    · by_cases c3 : 1 ≤ b
      · by_cases c4 : b ≤ a
        · have e1 : ∀ k, spec_ThreeOk.f k a b s m g = if (s.length : Int) + (m.length : Int) > a then spec_ThreeOk.j0 k true a b s m g else spec_ThreeOk.j0 k (decide ((g.length : Int) > ghostsN a b)) a b s m g := fun k => by
            simp only [spec_ThreeOk.f, spec_l01In.f, spec_l10Ghosts.f]
            rw [if_pos (by omega), Option.bind_some, if_pos (decide_eq_true c2), if_pos (by omega), Option.bind_some, if_pos (decide_eq_true c4), w64 (by omega) (by omega), wsub a b c2 c3 c4]
            unfold ghostsN
            split
            · rfl
            · split <;> rfl
          unfold threeOk
          rw [decide_eq_true ⟨c1, c2⟩, decide_eq_true ⟨c3, c4⟩, Bool.true_and, Bool.true_and]
          by_cases c5 : (s.length : Int) + (m.length : Int) ≤ a
          · by_cases c6 : (g.length : Int) ≤ ghostsN a b
            · rw [decide_eq_true c5, decide_eq_true c6, Bool.true_and, Bool.true_and]
              refine Ev.congr (fun k => ?_) h1
              rw [e1, if_neg (by omega), decide_eq_false (by omega)]
            · rw [decide_eq_false c6, Bool.and_false, Bool.false_and]
              refine Ev.congr (fun k => ?_) h0
              rw [e1, if_neg (by omega), decide_eq_true (by omega)]
          · rw [decide_eq_false c5, Bool.false_and, Bool.false_and]
            refine Ev.congr (fun k => ?_) h0
            rw [e1, if_pos (by omega)]
        · rw [show threeOk a b s m g = false by unfold threeOk; simp [c4]]
          refine Ev.congr (fun k => ?_) h0
          simp only [spec_ThreeOk.f, spec_l01In.f]
          rw [if_pos (by omega), Option.bind_some, if_pos (decide_eq_true c2), if_pos (by omega), Option.bind_some, if_neg (by simp [c4])]
      · rw [show threeOk a b s m g = false by unfold threeOk; simp [c3]]
        refine Ev.congr (fun k => ?_) h0
        simp only [spec_ThreeOk.f, spec_l01In.f]
        rw [if_pos (by omega), Option.bind_some, if_pos (decide_eq_true c2), if_neg (by omega), Option.bind_some, if_neg (by simp)]
    · rw [show threeOk a b s m g = false by unfold threeOk; simp [c2]]
      refine Ev.congr (fun k => ?_) h0
      simp only [spec_ThreeOk.f, spec_l01In.f]
      rw [if_pos (by omega), Option.bind_some, if_neg (by simp [c2])]
  · rw [show threeOk a b s m g = false by unfold threeOk; simp [c1]]
    refine Ev.congr (fun k => ?_) h0
    simp only [spec_ThreeOk.f, spec_l01In.f]
    rw [if_neg (by omega), Option.bind_some, if_neg (by simp)]
theorem impl_copyItems_eq (l : List S68) (h : l.length ≤ 1048576) : impl_copyItems.f l = some l := by
  simp only [impl_copyItems.f, Option.bind_some, List.nil_append, List.length_nil]; rw [if_pos (by omega)]
theorem impl_Three_l0 (a b : Int) (s m : List S68) (g : List Int) (hg : g.length ≤ 1048576) (hl : SmallI (s ++ m)) : Ev (fun k => impl_ThreeOk.l0 k g (g.length : Int) 0 a b s m g) (ghostOk g && (decide ((s.length : Int) + (m.length : Int) ≤ a) && areI (s ++ m))) := by
  have hw := hl.1
  rw [List.length_append] at hw
  refine Ev.asks (fun k i => impl_ThreeOk.l0 k g (g.length : Int) i a b s m g) g.length (ghostI g) _ ?_ ?_ ?_
  · refine (evP (impl_areItems_ev (s ++ m) hl)).ev fun k e => ?_
    simp only [impl_ThreeOk.l0, impl_copyItems_eq s (by omega), Option.bind_some, e, List.length_append]
    rw [if_neg (by omega), if_pos (by omega)]
    by_cases c : (s.length : Int) + (m.length : Int) ≤ a
    · rw [if_pos (by omega), decide_eq_true c, Bool.true_and]
    · rw [if_neg (by omega), decide_eq_false c, Bool.false_and]
  · intro i hi hp
    have ht : (g.take i).length ≤ 1048576 := by rw [List.length_take]; omega
    refine (evP (slices_ContainsI_ev (g.take i) (rd g (i : Int)) ht)).ev fun k e => ?_
    simp only [impl_ThreeOk.l0, impl_isNum.f, impl_within.f, Int.toNat_natCast, e]
    rw [if_pos (by omega), if_pos (by omega), if_pos (by omega)]
    unfold ghostI at hp
    by_cases c1 : rd g (i : Int) ≥ 0
    · rw [if_pos c1, Option.bind_some, Option.bind_some]
      by_cases c2 : rd g (i : Int) ≤ 4294967295
      · rw [if_pos (decide_eq_true c2), if_pos (by omega), Option.bind_some]
        rw [decide_eq_true ⟨c1, c2⟩, Bool.true_and] at hp
        rw [if_pos (by simpa using hp)]
      · rw [if_neg (by simp [c2])]
    · rw [if_neg c1, Option.bind_some, Option.bind_some, if_neg (by simp)]
  · intro i hi hp
    have ht : (g.take i).length ≤ 1048576 := by rw [List.length_take]; omega
    unfold ghostI at hp
    simp only [Bool.and_eq_true, decide_eq_true_eq, Bool.not_eq_true'] at hp
    have h3 := slices_ContainsI_ev (g.take i) (rd g (i : Int)) ht
    rw [hp.2] at h3
    refine (evP h3).eve fun k e => ?_
    simp only [impl_ThreeOk.l0, impl_isNum.f, impl_within.f, Int.toNat_natCast, e]
    rw [if_pos (by omega), if_pos (by omega), if_pos (by omega), if_pos (show rd g (i : Int) ≥ 0 from hp.1.1), Option.bind_some, Option.bind_some, if_pos (decide_eq_true hp.1.2), if_pos (by omega), Option.bind_some, if_neg (by simp), w64s hi (by omega)]
theorem impl_ThreeOk_ev (a b : Int) (s m : List S68) (g : List Int) (hg : g.length ≤ 1048576) (hl : SmallI (s ++ m)) : Ev (fun k => impl_ThreeOk.f k a b s m g) (threeOk a b s m g) := by
  have h0 : Ev (fun k => impl_ThreeOk.j0 k true a b s m g) false := Ev.up (g := fun _ => some false) (EvE.of fun k => by simp only [impl_ThreeOk.j0, if_true]) (Ev.now _)
  have h1 : Ev (fun k => impl_ThreeOk.j0 k false a b s m g) (ghostOk g && (decide ((s.length : Int) + (m.length : Int) ≤ a) && areI (s ++ m))) := by
    refine Ev.up (g := fun k => impl_ThreeOk.l0 k g (g.length : Int) 0 a b s m g) (EvE.of fun k => ?_) (impl_Three_l0 a b s m g hg hl)
    simp only [impl_ThreeOk.j0, Bool.false_eq_true, if_false]
  by_cases c1 : 1 ≤ a
  · by_cases c2 : a ≤ 60
    · by_cases c3 : 1 ≤ b
      · by_cases c4 : b ≤ a
        · have e1 : ∀ k, impl_ThreeOk.f k a b s m g = impl_ThreeOk.j0 k (decide ((g.length : Int) > ghostsN a b)) a b s m g := fun k => by
            simp only [impl_ThreeOk.f, impl_within.f]
            rw [if_pos (by omega), Option.bind_some, if_pos (decide_eq_true c2), if_pos (by omega), Option.bind_some, if_pos (decide_eq_true c4), wsub a b c2 c3 c4, show mx 1 (a - b) = ghostsN a b by unfold mx ghostsN; split <;> split <;> omega]
          unfold threeOk
          rw [decide_eq_true ⟨c1, c2⟩, decide_eq_true ⟨c3, c4⟩, Bool.true_and, Bool.true_and]
          by_cases c6 : (g.length : Int) ≤ ghostsN a b
          · rw [decide_eq_true c6]
            have e2 : (decide ((s.length : Int) + (m.length : Int) ≤ a) && true && (areI (s ++ m) && ghostOk g)) = (ghostOk g && (decide ((s.length : Int) + (m.length : Int) ≤ a) && areI (s ++ m))) := by
              generalize decide ((s.length : Int) + (m.length : Int) ≤ a) = x
              generalize areI (s ++ m) = y
              generalize ghostOk g = z
              cases x <;> cases y <;> cases z <;> rfl
            rw [e2]
            refine Ev.congr (fun k => ?_) h1
            rw [e1, decide_eq_false (by omega)]
          · rw [decide_eq_false c6, Bool.and_false, Bool.false_and]
            refine Ev.congr (fun k => ?_) h0
            rw [e1, decide_eq_true (by omega)]
        · rw [show threeOk a b s m g = false by unfold threeOk; simp [c4]]
          refine Ev.congr (fun k => ?_) h0
          simp only [impl_ThreeOk.f, impl_within.f]
          rw [if_pos (by omega), Option.bind_some, if_pos (decide_eq_true c2), if_pos (by omega), Option.bind_some, if_neg (by simp [c4])]
      · rw [show threeOk a b s m g = false by unfold threeOk; simp [c3]]
        refine Ev.congr (fun k => ?_) h0
        simp only [impl_ThreeOk.f, impl_within.f]
        rw [if_pos (by omega), Option.bind_some, if_pos (decide_eq_true c2), if_neg (by omega), Option.bind_some, if_neg (by simp)]
    · rw [show threeOk a b s m g = false by unfold threeOk; simp [c2]]
      refine Ev.congr (fun k => ?_) h0
      simp only [impl_ThreeOk.f, impl_within.f]
      rw [if_pos (by omega), Option.bind_some, if_neg (by simp [c2])]
  · rw [show threeOk a b s m g = false by unfold threeOk; simp [c1]]
    refine Ev.congr (fun k => ?_) h0
    simp only [impl_ThreeOk.f, impl_within.f]
    rw [if_neg (by omega), Option.bind_some, if_neg (by simp)]
def threeNew (a b : Int) : Int × Int × List S68 × List S68 × List Int × Bool := if threeOk a b [] [] [] = true then (a, b, [], [], [], true) else (0, 0, [], [], [], false)
theorem smallNil : SmallI ([] ++ []) := ⟨by simp, by simp⟩
theorem spec_ThreeNew_ev (a b : Int) : Ev (fun k => spec_ThreeNew.f k a b) (threeNew a b) := (evP (spec_ThreeOk_ev a b [] [] [] (by simp) smallNil)).ev fun k e => by
  simp only [spec_ThreeNew.f, e, Option.bind_some]; unfold threeNew; split <;> rfl
theorem impl_ThreeNew_ev (a b : Int) : Ev (fun k => impl_ThreeNew.f k a b) (threeNew a b) := (evP (impl_ThreeOk_ev a b [] [] [] (by simp) smallNil)).ev fun k e => by
  simp only [impl_ThreeNew.f, e, Option.bind_some]; unfold threeNew; split <;> rfl
theorem threeNew_ok (a b : Int) : (threeNew a b).2.2.2.2.2 = threeOk a b [] [] [] := by
  unfold threeNew; split
  · rename_i h; exact h.symm
  · rename_i h; exact (Bool.eq_false_iff.2 h).symm
def mostF (a : Int) : Int := if a = 3 then 1 else 0
def freqI (m : Int) (l : List S68) (i : Nat) : Bool := decide (0 ≤ (rd_T68 l (i : Int)).f2) && decide ((rd_T68 l (i : Int)).f2 ≤ m)
/-- A row is right. -/
def rowOk (a b : Int) (l : List S68) : Bool := decide (1 ≤ a ∧ a ≤ 3) && decide (1 ≤ b ∧ b ≤ 60) && decide ((l.length : Int) ≤ b) && (allN l.length (freqI (mostF a) l) && areI l)
theorem impl_RowOk_l0 (m a b : Int) (l : List S68) (hl : SmallI l) : Ev (fun k => impl_RowOk.l0 k m l (l.length : Int) 0 a b l) (allN l.length (freqI m l) && (decide (1 ≤ a ∧ a ≤ 3) && decide (1 ≤ b ∧ b ≤ 60) && decide ((l.length : Int) ≤ b) && areI l)) := by
  have hw := hl.1
  refine Ev.asks (fun k i => impl_RowOk.l0 k m l (l.length : Int) i a b l) l.length (freqI m l) _ ?_ ?_ ?_
  · refine (evP (impl_areItems_ev l hl)).ev fun k e => ?_
    simp only [impl_RowOk.l0, e, impl_within.f, Option.bind_some]
    rw [if_neg (by omega)]
    by_cases c1 : 1 ≤ a
    · rw [if_pos (by omega), Option.bind_some]
      by_cases c2 : a ≤ 3
      · rw [if_pos (decide_eq_true c2)]
        by_cases c3 : 1 ≤ b
        · rw [if_pos (by omega), Option.bind_some]
          by_cases c4 : b ≤ 60
          · rw [if_pos (decide_eq_true c4)]
            by_cases c5 : (l.length : Int) ≤ b
            · rw [if_pos c5]; simp [c1, c2, c3, c4, c5]
            · rw [if_neg c5]; simp [c5]
          · rw [if_neg (by simp [c4])]; simp [c4]
        · rw [if_neg (by omega), Option.bind_some, if_neg (by simp)]; simp [c3]
      · rw [if_neg (by simp [c2])]; simp [c2]
    · rw [if_neg (by omega), Option.bind_some, if_neg (by simp)]; simp [c1]
  · intro i hi hp
    refine Ev.some_ fun k => ?_
    simp only [impl_RowOk.l0, impl_within.f]
    rw [if_pos (by omega), if_pos (by omega), if_pos (by omega)]
    unfold freqI at hp
    by_cases c : (rd_T68 l (i : Int)).f2 ≥ 0
    · rw [if_pos c, Option.bind_some, if_neg]; rw [decide_eq_true c, Bool.true_and] at hp; rw [hp]; simp
    · rw [if_neg c, Option.bind_some, if_neg (by simp)]
  · intro i hi hp
    refine EvE.of fun k => ?_
    unfold freqI at hp
    simp only [Bool.and_eq_true, decide_eq_true_eq] at hp
    simp only [impl_RowOk.l0, impl_within.f]
    rw [if_pos (by omega), if_pos (by omega), if_pos (by omega), if_pos (show (rd_T68 l (i : Int)).f2 ≥ 0 from hp.1), Option.bind_some, if_pos (decide_eq_true hp.2), w64s hi (by omega)]
theorem impl_RowOk_ev (a b : Int) (l : List S68) (hl : SmallI l) : Ev (fun k => impl_RowOk.f k a b l) (rowOk a b l) := by
  have e : rowOk a b l = (allN l.length (freqI (mostF a) l) && (decide (1 ≤ a ∧ a ≤ 3) && decide (1 ≤ b ∧ b ≤ 60) && decide ((l.length : Int) ≤ b) && areI l)) := by
    unfold rowOk
    generalize allN l.length (freqI (mostF a) l) = x
    generalize (decide (1 ≤ a ∧ a ≤ 3) && decide (1 ≤ b ∧ b ≤ 60) && decide ((l.length : Int) ≤ b)) = y
    generalize areI l = z
    cases x <;> cases y <;> cases z <;> rfl
  rw [e]
  by_cases c : a = 3
  · refine Ev.congr (fun k => ?_) (Ev.up (f := fun k => impl_RowOk.j0 k (mostF a) a b l) (EvE.of fun k => by simp only [impl_RowOk.j0]) (impl_RowOk_l0 (mostF a) a b l hl))
    simp only [impl_RowOk.f]; rw [if_pos c]; unfold mostF; rw [if_pos c]
  · refine Ev.congr (fun k => ?_) (Ev.up (f := fun k => impl_RowOk.j0 k (mostF a) a b l) (EvE.of fun k => by simp only [impl_RowOk.j0]) (impl_RowOk_l0 (mostF a) a b l hl))
    simp only [impl_RowOk.f]; rw [if_neg c]; unfold mostF; rw [if_neg c]
theorem spec_RowOk_l0 (a b : Int) (l : List S68) (hl : SmallI l) : Ev (fun k => spec_RowOk.l0 k l (l.length : Int) 0 a b l) (allN l.length (fun i => freqI (mostF a) l i && okI l i) && true) := by
  have hw := hl.1
  refine Ev.asks (fun k i => spec_RowOk.l0 k l (l.length : Int) i a b l) l.length _ _ ?_ ?_ ?_
  · exact Ev.some_ fun k => by simp only [spec_RowOk.l0]; rw [if_neg (by omega)]
  · intro i hi hp
    have hb := hl.at i hi
    have h1 := spec_ItemOk_ev (rd_T68 l (i : Int)).f0 (rd_T68 l (i : Int)).f1 (rd_T68 l (i : Int)).f2 hb.1 hb.2
    refine (evA h1 (evP (spec_l10At_ev l (rd_T68 l (i : Int)).f0 hl.1))).ev fun k ⟨e1, e2⟩ => ?_
    simp only [spec_RowOk.l0, e1, e2, Option.bind_some]
    rw [if_pos (by omega), if_pos (by omega), if_pos (by omega)]
    unfold okI freqI mostF at hp
    cases c : itemOk (rd_T68 l (i : Int)).f0 (rd_T68 l (i : Int)).f1 (rd_T68 l (i : Int)).f2 with
    | false => rw [if_neg (by simp)]
    | true =>
      rw [if_pos rfl]
      have hs := itemOk_sizes c
      rw [c, Bool.true_and] at hp
      by_cases c2 : atI l (rd_T68 l (i : Int)).f0 = (i : Int)
      · rw [if_pos c2]
        rw [decide_eq_true c2, Bool.and_true, decide_eq_true hs.2.2.2.1, Bool.true_and] at hp
        have hp := of_decide_eq_false hp
        by_cases c3 : (rd_T68 l (i : Int)).f2 > 1
        · rw [if_pos c3]
        · rw [if_neg c3]
          by_cases c4 : a = 3
          · rw [if_pos c4] at hp; omega
          · rw [if_neg c4] at hp; rw [if_pos (by omega), if_neg c4]
      · rw [if_neg c2]
  · intro i hi hp
    have hb := hl.at i hi
    have h1 := spec_ItemOk_ev (rd_T68 l (i : Int)).f0 (rd_T68 l (i : Int)).f1 (rd_T68 l (i : Int)).f2 hb.1 hb.2
    unfold okI freqI mostF at hp
    simp only [Bool.and_eq_true, decide_eq_true_eq] at hp
    rw [hp.2.1] at h1
    refine (evA h1 (evP (spec_l10At_ev l (rd_T68 l (i : Int)).f0 hl.1))).eve fun k ⟨e1, e2⟩ => ?_
    simp only [spec_RowOk.l0, e1, e2, Option.bind_some, if_true]
    rw [if_pos (by omega), if_pos (by omega), if_pos (by omega), if_pos hp.2.2, w64s hi (by omega)]
    have h12 := hp.1.2
    by_cases c4 : a = 3
    · rw [if_pos c4] at h12
      rw [if_neg (by omega)]
      by_cases c5 : (rd_T68 l (i : Int)).f2 = 1
      · rw [if_pos c5, if_pos c4]
      · rw [if_neg c5]
    · rw [if_neg c4] at h12
      rw [if_neg (by omega), if_neg (by omega)]
theorem spec_RowOk_ev (a b : Int) (l : List S68) (hl : SmallI l) : Ev (fun k => spec_RowOk.f k a b l) (rowOk a b l) := by
  have hj : ∀ x : Bool, Ev (fun k => spec_RowOk.j0 k x a b l) (!x && (allN l.length (freqI (mostF a) l) && areI l)) := fun x => by
    cases x with
    | true => exact Ev.up (g := fun _ => some false) (EvE.of fun k => by simp only [spec_RowOk.j0, if_true]) (Ev.now _)
    | false =>
      have h := spec_RowOk_l0 a b l hl
      rw [Bool.and_true] at h
      unfold areI
      unfold allN at h ⊢
      rw [← all_and]
      exact Ev.up (g := fun k => spec_RowOk.l0 k l (l.length : Int) 0 a b l) (EvE.of fun k => by simp only [spec_RowOk.j0, Bool.false_eq_true, if_false]) (by simpa using h)
  have hd : decide ((l.length : Int) ≤ b) = !decide ((l.length : Int) > b) := by
    by_cases c : (l.length : Int) ≤ b
    · rw [decide_eq_true c, decide_eq_false (by omega)]; rfl
    · rw [decide_eq_false c, decide_eq_true (by omega)]; rfl
  have h0 : Ev (fun k => spec_RowOk.j0 k true a b l) false := by simpa using hj true
  by_cases c1 : 1 ≤ a
  · by_cases c2 : a ≤ 3
    · by_cases c3 : 1 ≤ b
      · by_cases c4 : b ≤ 60
        · unfold rowOk
          rw [decide_eq_true ⟨c1, c2⟩, decide_eq_true ⟨c3, c4⟩, hd, Bool.true_and, Bool.true_and]
          refine Ev.ofE (EvE.of fun k => ?_) (hj (decide ((l.length : Int) > b)))
          simp only [spec_RowOk.f, spec_l01In.f]
          rw [if_neg (by omega), if_neg (by omega), if_pos (by omega), Option.bind_some, if_pos (decide_eq_true c4)]
        · rw [show rowOk a b l = false by unfold rowOk; simp [c4]]
          refine Ev.ofE (EvE.of fun k => ?_) h0
          simp only [spec_RowOk.f, spec_l01In.f]
          rw [if_neg (by omega), if_neg (by omega), if_pos (by omega), Option.bind_some, if_neg (by simp [c4])]
      · rw [show rowOk a b l = false by unfold rowOk; simp [c3]]
        refine Ev.ofE (EvE.of fun k => ?_) h0
        simp only [spec_RowOk.f, spec_l01In.f]
        rw [if_neg (by omega), if_neg (by omega), if_neg (by omega), Option.bind_some, if_neg (by simp)]
    · rw [show rowOk a b l = false by unfold rowOk; simp [c2]]
      refine Ev.ofE (EvE.of fun k => ?_) h0
      simp only [spec_RowOk.f]
      rw [if_neg (by omega), if_pos (by omega)]
  · rw [show rowOk a b l = false by unfold rowOk; simp [c1]]
    refine Ev.ofE (EvE.of fun k => ?_) h0
    simp only [spec_RowOk.f]
    rw [if_pos (by omega)]
def rowNew (a b : Int) : Int × Int × List S68 × Bool := if rowOk a b [] = true then (a, b, [], true) else (0, 0, [], false)
theorem smallNil1 : SmallI [] := ⟨by simp, by simp⟩
theorem spec_RowNew_ev (a b : Int) : Ev (fun k => spec_RowNew.f k a b) (rowNew a b) := (evP (spec_RowOk_ev a b [] smallNil1)).ev fun k e => by
  simp only [spec_RowNew.f, e, Option.bind_some]; unfold rowNew; split <;> rfl
theorem impl_RowNew_ev (a b : Int) : Ev (fun k => impl_RowNew.f k a b) (rowNew a b) := (evP (impl_RowOk_ev a b [] smallNil1)).ev fun k e => by
  simp only [impl_RowNew.f, e, Option.bind_some]; unfold rowNew; split <;> rfl
theorem rowNew_ok (a b : Int) : (rowNew a b).2.2.2 = rowOk a b [] := by
  unfold rowNew; split
  · rename_i h; exact h.symm
  · rename_i h; exact (Bool.eq_false_iff.2 h).symm
def setupOk (a b c : Int) : Bool := if a = 4 then threeOk b c [] [] [] else rowOk a b [] && decide (c = 0)
theorem rowOk4 (a b : Int) (h : a = 4) : rowOk a b [] = false := by unfold rowOk; simp [h]
theorem spec_SetupOk_ev (a b c : Int) : Ev (fun k => spec_SetupOk.f k a b c) (setupOk a b c) := by
  refine (evA (spec_RowNew_ev a b) (evP (spec_ThreeNew_ev b c))).ev fun k ⟨e1, e2⟩ => ?_
  simp only [spec_SetupOk.f, e1, e2, Option.bind_some, rowNew_ok, threeNew_ok]
  unfold setupOk
  by_cases h4 : a = 4
  · simp only [rowOk4 a b h4, if_pos h4, Bool.false_eq_true, if_false]
  · simp only [if_neg h4]
    cases rowOk a b [] with
    | false => simp
    | true => by_cases hc : c = 0 <;> simp [hc]
theorem impl_SetupOk_ev (a b c : Int) : Ev (fun k => impl_SetupOk.f k a b c) (setupOk a b c) := by
  refine (evA (impl_RowNew_ev a b) (evP (impl_ThreeNew_ev b c))).ev fun k ⟨e1, e2⟩ => ?_
  simp only [impl_SetupOk.f, e1, e2, Option.bind_some, rowNew_ok, threeNew_ok]
  unfold setupOk
  by_cases h4 : a = 4
  · simp only [if_pos h4]
  · simp only [if_neg h4]
    cases rowOk a b [] with
    | false => simp
    | true => by_cases hc : c = 0 <;> simp [hc]
theorem FnExactSetupOk : DFnExactSetupOk.Pure := by
  intro a b c ha hb hc
  obtain ⟨k, e1, e2⟩ := (evA (spec_SetupOk_ev a b c) (evP (impl_SetupOk_ev a b c))).ex
  exact ⟨k, by simp only [laws_FnExactSetupOk.f, laws_toSetup.f, e1, e2, Option.bind_some, bne_self_eq_false, Bool.false_eq_true, if_false]⟩
end Go.Proofs.Ytfjhkediaholmaa.Pure
