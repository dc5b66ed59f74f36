/- What was put is found until it is gone: for all codes. No condition. -/
import Derived.Test.YtfjhkediaholmaaDFnFind
import Derived.Test.YtfjhkediaholmaaLm
namespace Go.Proofs.Ytfjhkediaholmaa.Pure
open Go.RowKit Go.Proofs.Ytfjhkediaholmaa.QFnFind Go.Proofs.YtfjhkediaholmaaW.PrintWords Go.Proofs.YtfjhkediaholmaaW.PrintLast Go.Proofs.YtfjhkediaholmaaW.PrintMore Go.Proofs.Ytfjhkediaholmaa.Lm
set_option linter.unusedSimpArgs false
set_option linter.unusedVariables false
theorem spec_l10Clean_ev (s : ByteArray) (hs : s.size ≤ 9223372036854775807) : Ev (fun k => F46.f k s) (plain (bytesOf s)) := by
  have := Ev.scan (l := fun k (_ : Unit) i => F46.l0 k s i) s.size (fun _ _ => True) (fun i _ => plain ((bytesOf s).drop i)) ?_ ?_ 0 () (Nat.zero_le _) trivial
  · simpa [F46.f] using this
  · intro _ _
    exact Ev.some_ fun k => by simp only [F46.l0]; rw [if_neg (by omega)]; simp [plain, ← bytesOf_length]
  · intro i _ hi _
    have hd := drop_bt s i hi
    have hl : ∀ k, F46.l0 (k + 1) s (i : Int) = if bt s (i : Int) = 32 then some false else if bt s (i : Int) = 10 then some false else F46.l0 k s ((i + 1 : Nat) : Int) := fun k => by
      simp only [F46.l0]; rw [if_pos (by omega), if_pos (by omega), w64s hi hs]
    by_cases h1 : bt s (i : Int) = 32
    · exact .inl (Ev.some_ fun k => by simp only [hl]; rw [if_pos h1, hd, h1]; rfl)
    · by_cases h2 : bt s (i : Int) = 10
      · exact .inl (Ev.some_ fun k => by simp only [hl]; rw [if_neg h1, if_pos h2, hd, h2]; rfl)
      · exact .inr ⟨(), trivial, by rw [hd]; simp [plain, h1, h2], EvE.of fun k => by simp only [hl]; rw [if_neg h1, if_neg h2]⟩
theorem impl_isPlain_ev (s : ByteArray) (hs : s.size ≤ 9223372036854775807) : Ev (fun k => F19.f k s) (plain (bytesOf s)) := by
  have := Ev.scan (l := fun k (_ : Unit) i => F19.l0 k s i) s.size (fun _ _ => True) (fun i _ => plain ((bytesOf s).drop i)) ?_ ?_ 0 () (Nat.zero_le _) trivial
  · simpa [F19.f] using this
  · intro _ _
    exact Ev.some_ fun k => by simp only [F19.l0]; rw [if_neg (by omega)]; simp [plain, ← bytesOf_length]
  · intro i _ hi _
    have hd := drop_bt s i hi
    have hl : ∀ k, F19.l0 (k + 1) s (i : Int) = if bt s (i : Int) = 32 then some false else if bt s (i : Int) = 10 then some false else F19.l0 k s ((i + 1 : Nat) : Int) := fun k => by
      simp only [F19.l0]; rw [if_pos (by omega), if_pos (by omega), w64s hi hs]
    by_cases h1 : bt s (i : Int) = 32
    · exact .inl (Ev.some_ fun k => by simp only [hl]; rw [if_pos h1, hd, h1]; rfl)
    · by_cases h2 : bt s (i : Int) = 10
      · exact .inl (Ev.some_ fun k => by simp only [hl]; rw [if_neg h1, if_pos h2, hd, h2]; rfl)
      · exact .inr ⟨(), trivial, by rw [hd]; simp [plain, h1, h2], EvE.of fun k => by simp only [hl]; rw [if_neg h1, if_neg h2]⟩
theorem spec_ItemOk_ev (a b : ByteArray) (f : Int) (ha : a.size ≤ 9223372036854775807) (hb : b.size ≤ 9223372036854775807) : Ev (fun k => F31.f k a b f) (itemOk a b f) := by
  obtain ⟨K1, h1⟩ := spec_l10Clean_ev a ha
  obtain ⟨K2, h2⟩ := spec_l10Clean_ev b hb
  refine ⟨max K1 K2, fun k hk => ?_⟩
  have e1 := h1 k (by omega)
  have e2 := h2 k (by omega)
  by_cases c1 : 1 ≤ (a.size : Int) <;> by_cases c2 : (a.size : Int) ≤ 20 <;> by_cases c3 : (b.size : Int) ≤ 40 <;> by_cases c4 : 0 ≤ f <;> by_cases c5 : f ≤ 3 <;> cases p1 : plain (bytesOf a) <;> cases p2 : plain (bytesOf b) <;>
    simp only [F31.f, F39.f, e1, e2, Option.bind_some, itemOk, ge_iff_le, c1, c2, c3, c4, c5, p1, p2, if_true, if_false, decide_true, decide_false, Bool.and_true, Bool.true_and, Bool.false_and, Bool.and_false, Bool.false_eq_true]
theorem impl_ItemOk_ev (a b : ByteArray) (f : Int) (ha : a.size ≤ 9223372036854775807) (hb : b.size ≤ 9223372036854775807) : Ev (fun k => F4.f k a b f) (itemOk a b f) := by
  obtain ⟨K1, h1⟩ := impl_isPlain_ev a ha
  obtain ⟨K2, h2⟩ := impl_isPlain_ev b hb
  refine ⟨max K1 K2, fun k hk => ?_⟩
  have e1 := h1 k (by omega)
  have e2 := h2 k (by omega)
  by_cases c1 : 1 ≤ (a.size : Int) <;> by_cases c2 : (a.size : Int) ≤ 20 <;> by_cases c3 : (b.size : Int) ≤ 40 <;> by_cases c4 : 0 ≤ f <;> by_cases c5 : f ≤ 3 <;> cases p1 : plain (bytesOf a) <;> cases p2 : plain (bytesOf b) <;>
    simp only [F4.f, F21.f, e1, e2, Option.bind_some, itemOk, ge_iff_le, c1, c2, c3, c4, c5, p1, p2, if_true, if_false, decide_true, decide_false, Bool.and_true, Bool.true_and, Bool.false_and, Bool.and_false, Bool.false_eq_true]
theorem drop_I (l : List S68) (i : Nat) (h : i < l.length) : l.drop i = rd_T68 l (i : Int) :: l.drop (i + 1) := by
  unfold rd_T68; rw [Int.toNat_natCast]; exact drop_cons _ l i h
/-- Where a key's item is. -/
def atI (l : List S68) (key : ByteArray) : Int := if l.any (fun x => decide (x.f0 = key)) then ((l.findIdx (fun x => decide (x.f0 = key)) : Nat) : Int) else -1
def okI (l : List S68) (i : Nat) : Bool := itemOk (rd_T68 l (i : Int)).f0 (rd_T68 l (i : Int)).f1 (rd_T68 l (i : Int)).f2 && decide (atI l (rd_T68 l (i : Int)).f0 = (i : Int))
/-- Items are right, and no two have one key. -/
def areI (l : List S68) : Bool := allN l.length (okI l)
/-- The texts of items are no longer than texts are. -/
def SmallI (l : List S68) : Prop := l.length ≤ 1048576 ∧ ∀ x ∈ l, x.f0.size ≤ 9223372036854775807 ∧ x.f1.size ≤ 9223372036854775807
theorem SmallI.at {l : List S68} (h : SmallI l) (i : Nat) (hi : i < l.length) : (rd_T68 l (i : Int)).f0.size ≤ 9223372036854775807 ∧ (rd_T68 l (i : Int)).f1.size ≤ 9223372036854775807 :=
  h.2 _ (by unfold rd_T68; rw [Int.toNat_natCast]; exact getD_mem _ l i hi)
theorem spec_l10At_ev (l : List S68) (x : ByteArray) (hl : l.length ≤ 1048576) : Ev (fun k => F45.f k l x) (atI l x) := by
  have key := Ev.scan (fun k (_ : Unit) i => F45.l0 k x l (l.length : Int) i) l.length (fun _ _ => True) (fun i _ => if (l.drop i).any (fun y => decide (y.f0 = x)) then (((l.drop i).findIdx (fun y => decide (y.f0 = x)) + i : Nat) : Int) else -1)
    (fun _ _ => Ev.some_ fun k => by simp only [F45.l0]; rw [if_neg (by omega), List.drop_eq_nil_of_le (Nat.le_refl _)]; rfl)
    (fun i _ hi _ => by
      have hd := drop_I l i hi
      have hs : ∀ k, F45.l0 (k + 1) x l (l.length : Int) (i : Int) = if (rd_T68 l (i : Int)).f0 = x then some (i : Int) else F45.l0 k x l (l.length : Int) ((i + 1 : Nat) : Int) := fun k => by
        simp only [F45.l0, toList_inj]; rw [if_pos (by omega), if_pos (by omega), if_pos (by omega), w64s hi (by omega)]
      rw [hd, List.any_cons, List.findIdx_cons]
      by_cases c : (rd_T68 l (i : Int)).f0 = x
      · exact .inl (Ev.some_ fun k => by simp only [hs]; rw [if_pos c, decide_eq_true c]; simp)
      · exact .inr ⟨(), trivial, by
          rw [decide_eq_false c]; simp only [Bool.false_or, cond_false]
          split <;> omega, EvE.of fun k => by simp only [hs]; rw [if_neg c]⟩) 0 () (Nat.zero_le _) trivial
  simpa [F45.f, atI] using key
theorem impl_itemAt_ev (l : List S68) (x : ByteArray) (hl : l.length ≤ 1048576) : Ev (fun k => F20.f k l x) (atI l x) := by
  have key := Ev.scan (fun k (_ : Unit) i => F20.l0 k x l (l.length : Int) i) l.length (fun _ _ => True) (fun i _ => if (l.drop i).any (fun y => decide (y.f0 = x)) then (((l.drop i).findIdx (fun y => decide (y.f0 = x)) + i : Nat) : Int) else -1)
    (fun _ _ => Ev.some_ fun k => by simp only [F20.l0]; rw [if_neg (by omega), List.drop_eq_nil_of_le (Nat.le_refl _)]; rfl)
    (fun i _ hi _ => by
      have hd := drop_I l i hi
      have hs : ∀ k, F20.l0 (k + 1) x l (l.length : Int) (i : Int) = if (rd_T68 l (i : Int)).f0 = x then some (i : Int) else F20.l0 k x l (l.length : Int) ((i + 1 : Nat) : Int) := fun k => by
        simp only [F20.l0, toList_inj]; rw [if_pos (by omega), if_pos (by omega), if_pos (by omega), w64s hi (by omega)]
      rw [hd, List.any_cons, List.findIdx_cons]
      by_cases c : (rd_T68 l (i : Int)).f0 = x
      · exact .inl (Ev.some_ fun k => by simp only [hs]; rw [if_pos c, decide_eq_true c]; simp)
      · exact .inr ⟨(), trivial, by
          rw [decide_eq_false c]; simp only [Bool.false_or, cond_false]
          split <;> omega, EvE.of fun k => by simp only [hs]; rw [if_neg c]⟩) 0 () (Nat.zero_le _) trivial
  simpa [F20.f, atI] using key
theorem impl_areItems_ev (l : List S68) (hl : SmallI l) : Ev (fun k => F14.f k l) (areI l) := by
  have key := Ev.asks (fun k i => F14.l0 k l l (l.length : Int) i) l.length (okI l) true
    (Ev.some_ fun k => by simp only [F14.l0]; rw [if_neg (by omega)])
    (fun i hi hp => by
      have hb := hl.at i hi
      have h1 := impl_ItemOk_ev (rd_T68 l (i : Int)).f0 (rd_T68 l (i : Int)).f1 (rd_T68 l (i : Int)).f2 hb.1 hb.2
      refine (evA h1 (evP (impl_itemAt_ev l (rd_T68 l (i : Int)).f0 hl.1))).ev fun k ⟨e1, e2⟩ => ?_
      simp only [F14.l0, e1, e2, Option.bind_some]
      rw [if_pos (by have := hl.1; omega), if_pos (by omega), if_pos (by have := hl.1; omega)]
      unfold okI at hp
      cases c : itemOk (rd_T68 l (i : Int)).f0 (rd_T68 l (i : Int)).f1 (rd_T68 l (i : Int)).f2 with
      | false => rw [if_neg (by simp)]
      | true => rw [c, Bool.true_and] at hp; rw [if_pos rfl, if_neg (of_decide_eq_false hp)])
    (fun i hi hp => by
      have hb := hl.at i hi
      have hw := hl.1
      have h1 := impl_ItemOk_ev (rd_T68 l (i : Int)).f0 (rd_T68 l (i : Int)).f1 (rd_T68 l (i : Int)).f2 hb.1 hb.2
      unfold okI at hp
      simp only [Bool.and_eq_true, decide_eq_true_eq] at hp
      rw [hp.1] at h1
      refine (evA h1 (evP (impl_itemAt_ev l (rd_T68 l (i : Int)).f0 hl.1))).eve fun k ⟨e1, e2⟩ => ?_
      simp only [F14.l0, e1, e2, Option.bind_some, if_true]
      rw [if_pos (by omega), if_pos (by omega), if_pos (by omega), if_pos hp.2, w64s hi (by omega)])
  rw [Bool.and_true] at key
  simpa [F14.f, areI] using key
def hasN (l : List Int) (x : Int) : Bool := l.any fun y => decide (y = x)
theorem hasN_cons (y : Int) (l : List Int) (x : Int) : hasN (y :: l) x = (decide (y = x) || hasN l x) := rfl
theorem spec_l03Has_ev (l : List Int) (x : Int) (hl : l.length ≤ 1048576) : Ev (fun k => F43.f k l x) (hasN l x) := by
  have key := Ev.scan (fun k (_ : Unit) i => F43.l0 k x l (l.length : Int) i) l.length (fun _ _ => True) (fun i _ => hasN (l.drop i) x)
    (fun _ _ => Ev.some_ fun k => by simp only [F43.l0]; rw [if_neg (by omega), List.drop_eq_nil_of_le (Nat.le_refl _)]; rfl)
    (fun i _ hi _ => by
      have hd := drop_rd l i hi
      have hs : ∀ k, F43.l0 (k + 1) x l (l.length : Int) (i : Int) = if rd l (i : Int) = x then some true else F43.l0 k x l (l.length : Int) ((i + 1 : Nat) : Int) := fun k => by
        simp only [F43.l0]; rw [if_pos (by omega), if_pos (by omega), if_pos (by omega), w64s hi (by omega)]
      rw [hd, hasN_cons]
      by_cases c : rd l (i : Int) = x
      · exact .inl (Ev.some_ fun k => by simp only [hs]; rw [if_pos c, decide_eq_true c]; rfl)
      · exact .inr ⟨(), trivial, by rw [decide_eq_false c]; rfl, EvE.of fun k => by simp only [hs]; rw [if_neg c]⟩) 0 () (Nat.zero_le _) trivial
  simpa [F43.f] using key
theorem slices_ContainsI_ev (l : List Int) (x : Int) (hl : l.length ≤ 1048576) : Ev (fun k => F22.f k l x) (hasN l x) := by
  have key : ∃ r, Ev (fun k => F24.f k l x) r ∧ decide (r ≥ 0) = hasN l x := by
    have key := Ev.scan (fun k (_ : Unit) i => F24.l0 k l x (l.length : Int) i) l.length (fun _ _ => True) (fun i _ => if hasN (l.drop i) x then (((l.drop i).findIdx (fun y => decide (y = x)) + i : Nat) : Int) else -1)
      (fun _ _ => Ev.some_ fun k => by simp only [F24.l0]; rw [if_neg (by omega), List.drop_eq_nil_of_le (Nat.le_refl _)]; rfl)
      (fun i _ hi _ => by
        have hd := drop_rd l i hi
        have hs : ∀ k, F24.l0 (k + 1) l x (l.length : Int) (i : Int) = if rd l (i : Int) = x then some (i : Int) else F24.l0 k l x (l.length : Int) ((i + 1 : Nat) : Int) := fun k => by
          simp only [F24.l0]; rw [if_pos (by omega), if_pos (by omega), if_pos (by omega), w64s hi (by omega)]
          simp only [eq_comm]
        rw [hd, hasN_cons, List.findIdx_cons]
        by_cases c : rd l (i : Int) = x
        · exact .inl (Ev.some_ fun k => by simp only [hs]; rw [if_pos c, decide_eq_true c]; simp)
        · exact .inr ⟨(), trivial, by
            rw [decide_eq_false c]; simp only [Bool.false_or, cond_false]
            split <;> omega, EvE.of fun k => by simp only [hs]; rw [if_neg c]⟩) 0 () (Nat.zero_le _) trivial
    refine ⟨_, (by simpa [F24.f] using key), ?_⟩
    cases hasN l x with
    | true => simp only [if_true]; exact decide_eq_true (by omega)
    | false => rfl
  obtain ⟨r, hr, e⟩ := key
  rw [← e]
  exact (evP hr).ev fun k e1 => by simp only [F22.f, e1, Option.bind_some]
def ghostsN (a b : Int) : Int := if a - b < 1 then 1 else a - b
def ghostI (g : List Int) (i : Nat) : Bool := decide (0 ≤ rd g (i : Int) ∧ rd g (i : Int) ≤ 4294967295) && !hasN (g.take i) (rd g (i : Int))
def ghostOk (g : List Int) : Bool := allN g.length (ghostI g)
/-- A cache of three queues is right. -/
def threeOk (a b : Int) (s m : List S68) (g : List Int) : Bool := decide (1 ≤ a ∧ a ≤ 60) && decide (1 ≤ b ∧ b ≤ a) && decide ((s.length : Int) + (m.length : Int) ≤ a) && decide ((g.length : Int) ≤ ghostsN a b) && (areI (s ++ m) && ghostOk g)
theorem spec_Three_l1 (a b : Int) (s m : List S68) (g : List Int) (hg : g.length ≤ 1048576) : Ev (fun k => F36.l1 k g (g.length : Int) 0 a b s m g) (ghostOk g) := by
  have key := Ev.asks (fun k i => F36.l1 k g (g.length : Int) i a b s m g) g.length (ghostI g) true
    (Ev.some_ fun k => by simp only [F36.l1]; rw [if_neg (by omega)])
    (fun i hi hp => by
      have ht : (g.take i).length ≤ 1048576 := by rw [List.length_take]; omega
      refine (evP (spec_l03Has_ev (g.take i) (rd g (i : Int)) ht)).ev fun k e => ?_
      simp only [F36.l1, F41.f, Int.toNat_natCast, e]
      rw [if_pos (by omega), if_pos (by omega), if_pos (by omega)]
      unfold ghostI at hp
      by_cases c1 : rd g (i : Int) ≥ 0
      · rw [if_pos c1, Option.bind_some]
        by_cases c2 : rd g (i : Int) ≤ 4294967295
        · rw [if_pos (decide_eq_true c2), if_pos (by omega), Option.bind_some]
          rw [decide_eq_true ⟨c1, c2⟩, Bool.true_and] at hp
          rw [if_pos (by simpa using hp)]
        · rw [if_neg (by simp [c2])]
      · rw [if_neg c1, Option.bind_some, if_neg (by simp)])
    (fun i hi hp => by
      have ht : (g.take i).length ≤ 1048576 := by rw [List.length_take]; omega
      unfold ghostI at hp
      simp only [Bool.and_eq_true, decide_eq_true_eq, Bool.not_eq_true'] at hp
      have h3 := spec_l03Has_ev (g.take i) (rd g (i : Int)) ht
      rw [hp.2] at h3
      refine (evP h3).eve fun k e => ?_
      simp only [F36.l1, F41.f, Int.toNat_natCast, e]
      rw [if_pos (by omega), if_pos (by omega), if_pos (by omega), if_pos (show rd g (i : Int) ≥ 0 from hp.1.1), Option.bind_some, if_pos (decide_eq_true hp.1.2), if_pos (by omega), Option.bind_some, if_neg (by simp), w64s hi (by omega)])
  rw [Bool.and_true] at key
  exact key
theorem spec_Three_l0 (a b : Int) (s m l : List S68) (g : List Int) (hg : g.length ≤ 1048576) (hl : SmallI l) : Ev (fun k => F36.l0 k l l (l.length : Int) 0 a b s m g) (areI l && ghostOk g) := by
  have hw := hl.1
  refine Ev.asks (fun k i => F36.l0 k l l (l.length : Int) i a b s m g) l.length (okI l) _ ?_ ?_ ?_
  · refine (evP (spec_Three_l1 a b s m g hg)).ev fun k e => ?_
    simp only [F36.l0, e]; rw [if_neg (by omega)]
  · intro i hi hp
    have hb := hl.at i hi
    have h1 := spec_ItemOk_ev (rd_T68 l (i : Int)).f0 (rd_T68 l (i : Int)).f1 (rd_T68 l (i : Int)).f2 hb.1 hb.2
    refine (evA h1 (evP (spec_l10At_ev l (rd_T68 l (i : Int)).f0 hl.1))).ev fun k ⟨e1, e2⟩ => ?_
    simp only [F36.l0, e1, e2, Option.bind_some]
    rw [if_pos (by omega), if_pos (by omega), if_pos (by omega)]
    unfold okI at hp
    cases c : itemOk (rd_T68 l (i : Int)).f0 (rd_T68 l (i : Int)).f1 (rd_T68 l (i : Int)).f2 with
    | false => rw [if_neg (by simp)]
    | true => rw [c, Bool.true_and] at hp; rw [if_pos rfl, if_neg (of_decide_eq_false hp)]
  · intro i hi hp
    have hb := hl.at i hi
    have h1 := spec_ItemOk_ev (rd_T68 l (i : Int)).f0 (rd_T68 l (i : Int)).f1 (rd_T68 l (i : Int)).f2 hb.1 hb.2
    unfold okI at hp
    simp only [Bool.and_eq_true, decide_eq_true_eq] at hp
    rw [hp.1] at h1
    refine (evA h1 (evP (spec_l10At_ev l (rd_T68 l (i : Int)).f0 hl.1))).eve fun k ⟨e1, e2⟩ => ?_
    simp only [F36.l0, e1, e2, Option.bind_some, if_true]
    rw [if_pos (by omega), if_pos (by omega), if_pos (by omega), if_pos hp.2, w64s hi (by omega)]
theorem wsub (a b : Int) (ha : a ≤ 60) (hb : 1 ≤ b) (hab : b ≤ a) : wrap64 (a - b) = a - b := w64 (by omega) (by omega)
theorem spec_ThreeOk_ev (a b : Int) (s m : List S68) (g : List Int) (hg : g.length ≤ 1048576) (hl : SmallI (s ++ m)) : Ev (fun k => F36.f k a b s m g) (threeOk a b s m g) := by
  have hw := hl.1
  rw [List.length_append] at hw
  have h0 : Ev (fun k => F36.j0 k true a b s m g) false := Ev.up (g := fun _ => some false) (EvE.of fun k => by simp only [F36.j0, if_true]) (Ev.now _)
  have h1 : Ev (fun k => F36.j0 k false a b s m g) (areI (s ++ m) && ghostOk g) := by
    refine Ev.up (g := fun k => F36.l0 k (s ++ m) (s ++ m) ((s ++ m).length : Int) 0 a b s m g) (EvE.of fun k => ?_) (spec_Three_l0 a b s m (s ++ m) g hg hl)
    simp only [F36.j0, Bool.false_eq_true, if_false, Option.bind_some, List.nil_append, List.length_nil]
    rw [if_pos (by omega), if_pos (by omega)]
  by_cases c1 : 1 ≤ a
  · by_cases c2 : a ≤ 60
    · by_cases c3 : 1 ≤ b
      · by_cases c4 : b ≤ a
        · have e1 : ∀ k, F36.f k a b s m g = if (s.length : Int) + (m.length : Int) > a then F36.j0 k true a b s m g else F36.j0 k (decide ((g.length : Int) > ghostsN a b)) a b s m g := fun k => by
            simp only [F36.f, F39.f, F49.f]
            rw [if_pos (by omega), Option.bind_some, if_pos (decide_eq_true c2), if_pos (by omega), Option.bind_some, if_pos (decide_eq_true c4), w64 (by omega) (by omega), wsub a b c2 c3 c4]
            unfold ghostsN
            split
            · rfl
            · split <;> rfl
          unfold threeOk
          rw [decide_eq_true ⟨c1, c2⟩, decide_eq_true ⟨c3, c4⟩, Bool.true_and, Bool.true_and]
          by_cases c5 : (s.length : Int) + (m.length : Int) ≤ a
          · by_cases c6 : (g.length : Int) ≤ ghostsN a b
            · rw [decide_eq_true c5, decide_eq_true c6, Bool.true_and, Bool.true_and]
              refine Ev.congr (fun k => ?_) h1
              rw [e1, if_neg (by omega), decide_eq_false (by omega)]
            · rw [decide_eq_false c6, Bool.and_false, Bool.false_and]
              refine Ev.congr (fun k => ?_) h0
              rw [e1, if_neg (by omega), decide_eq_true (by omega)]
          · rw [decide_eq_false c5, Bool.false_and, Bool.false_and]
            refine Ev.congr (fun k => ?_) h0
            rw [e1, if_pos (by omega)]
        · rw [show threeOk a b s m g = false by unfold threeOk; simp [c4]]
          refine Ev.congr (fun k => ?_) h0
          simp only [F36.f, F39.f]
          rw [if_pos (by omega), Option.bind_some, if_pos (decide_eq_true c2), if_pos (by omega), Option.bind_some, if_neg (by simp [c4])]
      · rw [show threeOk a b s m g = false by unfold threeOk; simp [c3]]
        refine Ev.congr (fun k => ?_) h0
        simp only [F36.f, F39.f]
        rw [if_pos (by omega), Option.bind_some, if_pos (decide_eq_true c2), if_neg (by omega), Option.bind_some, if_neg (by simp)]
    · rw [show threeOk a b s m g = false by unfold threeOk; simp [c2]]
      refine Ev.congr (fun k => ?_) h0
      simp only [F36.f, F39.f]
      rw [if_pos (by omega), Option.bind_some, if_neg (by simp [c2])]
  · rw [show threeOk a b s m g = false by unfold threeOk; simp [c1]]
    refine Ev.congr (fun k => ?_) h0
    simp only [F36.f, F39.f]
    rw [if_neg (by omega), Option.bind_some, if_neg (by simp)]
theorem impl_copyItems_eq (l : List S68) (h : l.length ≤ 1048576) : F16.f l = some l := by
  simp only [F16.f, Option.bind_some, List.nil_append, List.length_nil]; rw [if_pos (by omega)]
theorem impl_Three_l0 (a b : Int) (s m : List S68) (g : List Int) (hg : g.length ≤ 1048576) (hl : SmallI (s ++ m)) : Ev (fun k => F9.l0 k g (g.length : Int) 0 a b s m g) (ghostOk g && (decide ((s.length : Int) + (m.length : Int) ≤ a) && areI (s ++ m))) := by
  have hw := hl.1
  rw [List.length_append] at hw
  refine Ev.asks (fun k i => F9.l0 k g (g.length : Int) i a b s m g) g.length (ghostI g) _ ?_ ?_ ?_
  · refine (evP (impl_areItems_ev (s ++ m) hl)).ev fun k e => ?_
    simp only [F9.l0, impl_copyItems_eq s (by omega), Option.bind_some, e, List.length_append]
    rw [if_neg (by omega), if_pos (by omega)]
    by_cases c : (s.length : Int) + (m.length : Int) ≤ a
    · rw [if_pos (by omega), decide_eq_true c, Bool.true_and]
    · rw [if_neg (by omega), decide_eq_false c, Bool.false_and]
  · intro i hi hp
    have ht : (g.take i).length ≤ 1048576 := by rw [List.length_take]; omega
    refine (evP (slices_ContainsI_ev (g.take i) (rd g (i : Int)) ht)).ev fun k e => ?_
    simp only [F9.l0, F18.f, F21.f, Int.toNat_natCast, e]
    rw [if_pos (by omega), if_pos (by omega), if_pos (by omega)]
    unfold ghostI at hp
    by_cases c1 : rd g (i : Int) ≥ 0
    · rw [if_pos c1, Option.bind_some, Option.bind_some]
      by_cases c2 : rd g (i : Int) ≤ 4294967295
      · rw [if_pos (decide_eq_true c2), if_pos (by omega), Option.bind_some]
        rw [decide_eq_true ⟨c1, c2⟩, Bool.true_and] at hp
        rw [if_pos (by simpa using hp)]
      · rw [if_neg (by simp [c2])]
    · rw [if_neg c1, Option.bind_some, Option.bind_some, if_neg (by simp)]
  · intro i hi hp
    have ht : (g.take i).length ≤ 1048576 := by rw [List.length_take]; omega
    unfold ghostI at hp
    simp only [Bool.and_eq_true, decide_eq_true_eq, Bool.not_eq_true'] at hp
    have h3 := slices_ContainsI_ev (g.take i) (rd g (i : Int)) ht
    rw [hp.2] at h3
    refine (evP h3).eve fun k e => ?_
    simp only [F9.l0, F18.f, F21.f, Int.toNat_natCast, e]
    rw [if_pos (by omega), if_pos (by omega), if_pos (by omega), if_pos (show rd g (i : Int) ≥ 0 from hp.1.1), Option.bind_some, Option.bind_some, if_pos (decide_eq_true hp.1.2), if_pos (by omega), Option.bind_some, if_neg (by simp), w64s hi (by omega)]
theorem impl_ThreeOk_ev (a b : Int) (s m : List S68) (g : List Int) (hg : g.length ≤ 1048576) (hl : SmallI (s ++ m)) : Ev (fun k => F9.f k a b s m g) (threeOk a b s m g) := by
  have h0 : Ev (fun k => F9.j0 k true a b s m g) false := Ev.up (g := fun _ => some false) (EvE.of fun k => by simp only [F9.j0, if_true]) (Ev.now _)
  have h1 : Ev (fun k => F9.j0 k false a b s m g) (ghostOk g && (decide ((s.length : Int) + (m.length : Int) ≤ a) && areI (s ++ m))) := by
    refine Ev.up (g := fun k => F9.l0 k g (g.length : Int) 0 a b s m g) (EvE.of fun k => ?_) (impl_Three_l0 a b s m g hg hl)
    simp only [F9.j0, Bool.false_eq_true, if_false]
  by_cases c1 : 1 ≤ a
  · by_cases c2 : a ≤ 60
    · by_cases c3 : 1 ≤ b
      · by_cases c4 : b ≤ a
        · have e1 : ∀ k, F9.f k a b s m g = F9.j0 k (decide ((g.length : Int) > ghostsN a b)) a b s m g := fun k => by
            simp only [F9.f, F21.f]
            rw [if_pos (by omega), Option.bind_some, if_pos (decide_eq_true c2), if_pos (by omega), Option.bind_some, if_pos (decide_eq_true c4), wsub a b c2 c3 c4, show mx 1 (a - b) = ghostsN a b by unfold mx ghostsN; split <;> split <;> omega]
          unfold threeOk
          rw [decide_eq_true ⟨c1, c2⟩, decide_eq_true ⟨c3, c4⟩, Bool.true_and, Bool.true_and]
          by_cases c6 : (g.length : Int) ≤ ghostsN a b
          · rw [decide_eq_true c6]
            have e2 : (decide ((s.length : Int) + (m.length : Int) ≤ a) && true && (areI (s ++ m) && ghostOk g)) = (ghostOk g && (decide ((s.length : Int) + (m.length : Int) ≤ a) && areI (s ++ m))) := by
              generalize decide ((s.length : Int) + (m.length : Int) ≤ a) = x
              generalize areI (s ++ m) = y
              generalize ghostOk g = z
              cases x <;> cases y <;> cases z <;> rfl
            rw [e2]
            refine Ev.congr (fun k => ?_) h1
            rw [e1, decide_eq_false (by omega)]
          · rw [decide_eq_false c6, Bool.and_false, Bool.false_and]
            refine Ev.congr (fun k => ?_) h0
            rw [e1, decide_eq_true (by omega)]
        · rw [show threeOk a b s m g = false by unfold threeOk; simp [c4]]
          refine Ev.congr (fun k => ?_) h0
          simp only [F9.f, F21.f]
          rw [if_pos (by omega), Option.bind_some, if_pos (decide_eq_true c2), if_pos (by omega), Option.bind_some, if_neg (by simp [c4])]
      · rw [show threeOk a b s m g = false by unfold threeOk; simp [c3]]
        refine Ev.congr (fun k => ?_) h0
        simp only [F9.f, F21.f]
        rw [if_pos (by omega), Option.bind_some, if_pos (decide_eq_true c2), if_neg (by omega), Option.bind_some, if_neg (by simp)]
    · rw [show threeOk a b s m g = false by unfold threeOk; simp [c2]]
      refine Ev.congr (fun k => ?_) h0
      simp only [F9.f, F21.f]
      rw [if_pos (by omega), Option.bind_some, if_neg (by simp [c2])]
  · rw [show threeOk a b s m g = false by unfold threeOk; simp [c1]]
    refine Ev.congr (fun k => ?_) h0
    simp only [F9.f, F21.f]
    rw [if_neg (by omega), Option.bind_some, if_neg (by simp)]
def threeNew (a b : Int) : Int × Int × List S68 × List S68 × List Int × Bool := if threeOk a b [] [] [] = true then (a, b, [], [], [], true) else (0, 0, [], [], [], false)
theorem smallNil : SmallI ([] ++ []) := ⟨by simp, by simp⟩
theorem spec_ThreeNew_ev (a b : Int) : Ev (fun k => F35.f k a b) (threeNew a b) := (evP (spec_ThreeOk_ev a b [] [] [] (by simp) smallNil)).ev fun k e => by
  simp only [F35.f, e, Option.bind_some]; unfold threeNew; split <;> rfl
def rdI (l : List S68) (i : Nat) : S68 := rd_T68 l (i : Int)
theorem rdI_get (l : List S68) (i : Nat) (h : i < l.length) : rdI l i = l[i] := by
  unfold rdI rd_T68; rw [Int.toNat_natCast]; simp [h]
theorem at_lt (l : List S68) (x : ByteArray) (h : 0 ≤ atI l x) : ∃ i : Nat, atI l x = (i : Int) ∧ i < l.length ∧ (rdI l i).f0 = x := by
  unfold atI at h ⊢
  by_cases c : (l.any fun y => decide (y.f0 = x)) = true
  · rw [if_pos c]
    obtain ⟨y, hy, hx⟩ := List.any_eq_true.1 c
    have hi := List.findIdx_lt_length_of_exists (p := fun y => decide (y.f0 = x)) ⟨y, hy, hx⟩
    refine ⟨_, rfl, hi, ?_⟩
    rw [rdI_get l _ hi]
    exact of_decide_eq_true (List.findIdx_getElem (p := fun y : S68 => decide (y.f0 = x)) (w := hi))
  · rw [if_neg c] at h; omega
theorem ok_are (l : List S68) (h : areI l = true) (i : Nat) (hi : i < l.length) : atI l (rdI l i).f0 = (i : Int) ∧ 0 ≤ (rdI l i).f2 ∧ (rdI l i).f2 ≤ 3 := by
  unfold areI allN at h
  have := List.all_eq_true.1 h i (List.mem_range.2 hi)
  unfold okI at this
  simp only [Bool.and_eq_true, decide_eq_true_eq] at this
  exact ⟨this.2, (itemOk_sizes this.1).2.2.2⟩
theorem three_are {a b : Int} {s m : List S68} {g : List Int} (h : threeOk a b s m g = true) : areI (s ++ m) = true := by
  unfold threeOk at h
  simp only [Bool.and_eq_true] at h
  exact h.2.1
theorem three_len {a b : Int} {s m : List S68} {g : List Int} (h : threeOk a b s m g = true) : s.length + m.length ≤ 60 ∧ g.length ≤ 60 := by
  unfold threeOk ghostsN at h
  simp only [Bool.and_eq_true, decide_eq_true_eq] at h
  obtain ⟨⟨⟨⟨h1, h2⟩, h3⟩, h4⟩, _⟩ := h
  split at h4 <;> omega
theorem rdI_left (s m : List S68) (i : Nat) (h : i < s.length) : rdI (s ++ m) i = rdI s i := by
  rw [rdI_get _ i (by rw [List.length_append]; omega), rdI_get s i h, List.getElem_append_left h]
theorem rdI_right (s m : List S68) (i : Nat) (h : i < m.length) : rdI (s ++ m) (s.length + i) = rdI m i := by
  rw [rdI_get _ _ (by rw [List.length_append]; omega), rdI_get m i h, List.getElem_append_right (by omega)]
  congr 1; omega
theorem not_both {s m : List S68} (h : areI (s ++ m) = true) (x : ByteArray) (h1 : 0 ≤ atI s x) : ¬ 0 ≤ atI m x := fun h2 => by
  obtain ⟨i, _, hi, e1⟩ := at_lt s x h1
  obtain ⟨j, _, hj, e2⟩ := at_lt m x h2
  have a1 := (ok_are _ h i (by rw [List.length_append]; omega)).1
  have a2 := (ok_are _ h (s.length + j) (by rw [List.length_append]; omega)).1
  rw [rdI_left s m i hi, e1] at a1
  rw [rdI_right s m j hj, e2, a1] at a2
  omega
def fsum (m : List S68) : Nat := (m.map fun x => x.f2.toNat).sum
def okF (m : List S68) : Prop := ∀ x ∈ m, 0 ≤ x.f2 ∧ x.f2 ≤ 3
def less1 (x : S68) : S68 := ⟨x.f0, x.f1, wrap64 (x.f2 - 1)⟩
def evm : Nat → List S68 → List S68 × ByteArray × Bool
  | _, [] => ([], ⟨#[]⟩, false)
  | 0, m => (m, ⟨#[]⟩, false)
  | n + 1, x :: t => if x.f2 = 0 then (t, x.f0, true) else evm n (t ++ [less1 x])
theorem less1_f2 (x : S68) (h : 0 ≤ x.f2 ∧ x.f2 ≤ 3) (h0 : ¬ x.f2 = 0) : (less1 x).f2 = x.f2 - 1 := w64 (by omega) (by omega)
theorem okF_next {x : S68} {t : List S68} (h : okF (x :: t)) (h0 : ¬ x.f2 = 0) : okF (t ++ [less1 x]) ∧ fsum (t ++ [less1 x]) + 1 = fsum (x :: t) := by
  have hx := h x (List.mem_cons_self ..)
  have e := less1_f2 x hx h0
  constructor
  · intro y hy
    rcases List.mem_append.1 hy with hy | hy
    · exact h y (List.mem_cons_of_mem _ hy)
    · rw [List.mem_singleton.1 hy, e]; omega
  · unfold fsum
    rw [List.map_append, List.sum_append, List.map_cons, List.map_cons, List.sum_cons, List.map_nil, List.sum_cons, List.sum_nil, e]
    omega
theorem evm_len : ∀ (n : Nat) (m : List S68), (evm n m).1.length ≤ m.length
  | 0, [] => Nat.le_refl _
  | _ + 1, [] => Nat.le_refl _
  | 0, _ :: _ => Nat.le_refl _
  | n + 1, x :: t => by
    unfold evm
    split
    · simp
    · have := evm_len n (t ++ [less1 x])
      simpa using this
theorem okF_three {a b : Int} {s m : List S68} {g : List Int} (h : threeOk a b s m g = true) : okF s ∧ okF m := by
  have ha := three_are h
  constructor
  · intro x hx
    obtain ⟨i, hi, rfl⟩ := List.getElem_of_mem hx
    have := (ok_are _ ha i (by rw [List.length_append]; omega)).2
    rw [rdI_left s m i hi, rdI_get s i hi] at this
    exact this
  · intro x hx
    obtain ⟨i, hi, rfl⟩ := List.getElem_of_mem hx
    have := (ok_are _ ha (s.length + i) (by rw [List.length_append]; omega)).2
    rw [rdI_right s m i hi, rdI_get m i hi] at this
    exact this
theorem rd_0 (x : S68) (t : List S68) : rd_T68 (x :: t) 0 = x := rfl
theorem spec_main_ev (a b : Int) (s : List S68) (g : List Int) : ∀ (n : Nat) (m : List S68), okF m → fsum m < n → m.length ≤ 1048576 → Ev (fun k => F27.l0 k a b s m g) (a, b, s, (evm n m).1, g, (evm n m).2.1, (evm n m).2.2) := by
  intro n
  induction n with
  | zero => intro m _ h; omega
  | succ n ih =>
    intro m hm hf hl
    cases m with
    | nil => exact Ev.up (g := fun _ => some (a, b, s, [], g, ⟨#[]⟩, false)) (EvE.of fun k => by simp only [F27.l0]; rw [if_neg (by simp)]) (Ev.now _)
    | cons x t =>
      have hl' : t.length + 1 ≤ 1048576 := by simpa using hl
      have h0 : ∀ k, F27.l0 (k + 1) a b s (x :: t) g = if x.f2 = 0 then some (a, b, s, t, g, x.f0, true) else F27.l0 k a b s (t ++ [less1 x]) g := fun k => by
        simp only [F27.l0, Option.bind_some, rd_0, List.drop_succ_cons, List.drop_zero, List.nil_append, List.length_nil]
        rw [if_pos (by simp), if_pos (by simp), if_pos (by simp; omega), if_pos (by omega), if_pos (show t.length < 3518437208883 by omega)]
        rfl
      by_cases c : x.f2 = 0
      · refine Ev.up (g := fun _ => some (a, b, s, t, g, x.f0, true)) (EvE.of fun k => by rw [h0, if_pos c]) ?_
        have e : evm (n + 1) (x :: t) = (t, x.f0, true) := by unfold evm; rw [if_pos c]
        rw [e]; exact Ev.now _
      · obtain ⟨h1, h2⟩ := okF_next hm c
        have e : evm (n + 1) (x :: t) = evm n (t ++ [less1 x]) := by conv => lhs; unfold evm
                                                                     rw [if_neg c]
        rw [e]
        exact Ev.up (EvE.of fun k => by rw [h0, if_neg c]) (ih _ h1 (by omega) (by simp; omega))
theorem impl_main_ev (a b : Int) (s : List S68) (g : List Int) : ∀ (n : Nat) (m : List S68), okF m → fsum m < n → m.length ≤ 1048576 → Ev (fun k => F11.l0 k a b s m g) ((evm n m).2.1, (evm n m).2.2, a, b, s, (evm n m).1, g) := by
  intro n
  induction n with
  | zero => intro m _ h; omega
  | succ n ih =>
    intro m hm hf hl
    cases m with
    | nil => exact Ev.up (g := fun _ => some (⟨#[]⟩, false, a, b, s, [], g)) (EvE.of fun k => by simp only [F11.l0]; rw [if_neg (by simp)]) (Ev.now _)
    | cons x t =>
      have hl' : t.length + 1 ≤ 1048576 := by simpa using hl
      have h0 : ∀ k, F11.l0 (k + 1) a b s (x :: t) g = if x.f2 = 0 then some (x.f0, true, a, b, s, t, g) else F11.l0 k a b s (t ++ [less1 x]) g := fun k => by
        have e1 : (1 : Int).toNat = 1 := rfl
        simp only [F11.l0, Option.bind_some, rd_0, e1, List.drop_succ_cons, List.drop_zero]
        rw [if_pos (by simp), if_pos (by simp), if_pos (by simp; omega), if_pos (show t.length < 3518437208883 by omega)]
        rfl
      by_cases c : x.f2 = 0
      · refine Ev.up (g := fun _ => some (x.f0, true, a, b, s, t, g)) (EvE.of fun k => by rw [h0, if_pos c]) ?_
        have e : evm (n + 1) (x :: t) = (t, x.f0, true) := by unfold evm; rw [if_pos c]
        rw [e]; exact Ev.now _
      · obtain ⟨h1, h2⟩ := okF_next hm c
        have e : evm (n + 1) (x :: t) = evm n (t ++ [less1 x]) := by conv => lhs; unfold evm
                                                                     rw [if_neg c]
        rw [e]
        exact Ev.up (EvE.of fun k => by rw [h0, if_neg c]) (ih _ h1 (by omega) (by simp; omega))
theorem spec_copy3 (a b : Int) (s m : List S68) (g : List Int) (h1 : s.length ≤ 1048576) (h2 : m.length ≤ 1048576) (h3 : g.length ≤ 1048576) : F47.f a b s m g = some (a, b, s, m, g) := by
  simp only [F47.f, Option.bind_some, List.length_nil, List.nil_append]; rw [if_pos (by omega), if_pos (by omega), if_pos (by omega)]
theorem impl_copyInts3 (g : List Int) (h3 : g.length ≤ 1048576) : F15.f g = some g := by
  simp only [F15.f, Option.bind_some, List.length_nil, List.nil_append]; rw [if_pos (by omega)]
theorem impl_copy3 (a b : Int) (s m : List S68) (g : List Int) (h1 : s.length ≤ 1048576) (h2 : m.length ≤ 1048576) (h3 : g.length ≤ 1048576) : F17.f a b s m g = some (a, b, s, m, g) := by
  simp only [F17.f, impl_copyItems_eq s h1, impl_copyItems_eq m h2, impl_copyInts3 g h3, Option.bind_some]
abbrev EvT := Int × Int × List S68 × List S68 × List Int × ByteArray × Bool
def evMainV (a b : Int) (s m : List S68) (g : List Int) : EvT := if threeOk a b s m g = true then (a, b, s, (evm (fsum m + 1) m).1, g, (evm (fsum m + 1) m).2.1, (evm (fsum m + 1) m).2.2) else (0, 0, [], [], [], ⟨#[]⟩, false)
theorem spec_EvictMain_ev (a b : Int) (s m : List S68) (g : List Int) (hg : g.length ≤ 1048576) (hl : SmallI (s ++ m)) : Ev (fun k => F27.f k a b s m g) (evMainV a b s m g) := by
  have hl1 := hl.1
  rw [List.length_append] at hl1
  have hO := spec_ThreeOk_ev a b s m g hg hl
  unfold evMainV
  by_cases c : threeOk a b s m g = true
  · rw [if_pos c]
    refine (evA hO (evP (spec_main_ev a b s g (fsum m + 1) m (okF_three c).2 (Nat.lt_succ_self _) (by omega)))).ev fun k ⟨e1, e2⟩ => ?_
    simp only [F27.f, e1, spec_copy3 a b s m g (by omega) (by omega) hg, Option.bind_some, e2]
    rw [if_pos c]
  · rw [if_neg c]
    refine (evP hO).ev fun k e1 => ?_
    simp only [F27.f, e1, Option.bind_some]
    rw [if_neg c]
def but (v : List Int) (x : Int) : List Int := v.filter fun y => !decide (y = x)
theorem spec_but_ev (v : List Int) (x : Int) (hv : v.length ≤ 1048576) : Ev (fun k => F44.f k v x) (but v x) := by
  have key := Ev.scan (fun k (s : List Int) i => F44.l0 k x s v (v.length : Int) i) v.length (fun i s => s.length ≤ i) (fun i s => s ++ but (v.drop i) x)
    (fun s _ => Ev.some_ fun k => by
      simp only [F44.l0]; rw [if_neg (by omega), List.drop_eq_nil_of_le (Nat.le_refl _)]; simp [but])
    (fun i s hi hs => by
      have hd : v.drop i = rd v (i : Int) :: v.drop (i + 1) := drop_rd v i hi
      have h0 : ∀ k, F44.l0 (k + 1) x s v (v.length : Int) (i : Int) = if rd v (i : Int) = x then F44.l0 k x s v (v.length : Int) ((i + 1 : Nat) : Int) else F44.l0 k x (s ++ [rd v (i : Int)]) v (v.length : Int) ((i + 1 : Nat) : Int) := fun k => by
        simp only [F44.l0]; have hb : s.length < 17592186044416 := by omega
        rw [if_pos (by omega), if_pos (by omega), if_pos (by omega), w64s hi (by omega), if_pos hb]
      by_cases c : rd v (i : Int) = x
      · refine .inr ⟨s, by omega, ?_, EvE.of fun k => by simp only [h0]; rw [if_pos c]⟩
        rw [hd]; unfold but; rw [List.filter_cons_of_neg (by simpa using c)]
      · refine .inr ⟨s ++ [rd v (i : Int)], by simp; omega, ?_, EvE.of fun k => by simp only [h0]; rw [if_neg c]⟩
        rw [hd]; unfold but; rw [List.filter_cons_of_pos (by simpa using c)]; simp) 0 [] (Nat.zero_le _) (Nat.le_refl _)
  simpa [F44.f] using key
def hstep (h b : Int) : Int := Int.tmod (wrap64 ((Go.bits .xor .i64 h (wrap64 b)) * 16777619)) 4294967296
def hashV (s : ByteArray) : Int := (bytesOf s).foldl hstep 2166136261
theorem spec_Hash_ev (s : ByteArray) (hs : s.size ≤ 9223372036854775807) : Ev (fun k => F30.f k s) (hashV s) := by
  have key := Ev.scan (fun k (h : Int) i => F30.l0 k s h i) s.size (fun _ _ => True) (fun i h => ((bytesOf s).drop i).foldl hstep h)
    (fun h _ => Ev.some_ fun k => by
      simp only [F30.l0]; rw [if_neg (by omega), List.drop_eq_nil_of_le (by rw [bytesOf_length]; exact Nat.le_refl _)]; rfl)
    (fun i h hi _ => .inr ⟨hstep h (bt s (i : Int)), trivial, by rw [drop_bt s i hi]; rfl, EvE.of fun k => by
      simp only [F30.l0]; rw [if_pos (by omega), if_pos (by omega), w64s hi hs]; rfl⟩) 0 2166136261 (Nat.zero_le _) trivial
  simpa [F30.f, hashV] using key
theorem impl_Hash_eq : ∀ k (s : ByteArray) (h i : Int), F2.l0 k s h i = F30.l0 k s h i
  | 0, _, _, _ => rfl
  | k + 1, s, h, i => by
    simp only [F2.l0, F30.l0]
    rw [impl_Hash_eq k]
theorem impl_Hash_ev (s : ByteArray) (hs : s.size ≤ 9223372036854775807) : Ev (fun k => F2.f k s) (hashV s) := by
  have h := spec_Hash_ev s hs
  have e : (fun k => F2.f k s) = fun k => F30.f k s := by funext k; exact impl_Hash_eq k s _ _
  rw [e]; exact h
def ghN (a b : Int) : Int := if wrap64 (a - b) < 1 then 1 else wrap64 (a - b)
def haunt (a b : Int) (g : List Int) (h : Int) : List Int := if ((but g h ++ [h]).length : Int) > ghN a b then (but g h ++ [h]).drop 1 else but g h ++ [h]
theorem but_len (g : List Int) (h : Int) : (but g h).length ≤ g.length := List.length_filter_le _ _
theorem haunt_len (a b : Int) (g : List Int) (h : Int) : (haunt a b g h).length ≤ g.length + 1 := by
  have := but_len g h
  unfold haunt
  split
  · rw [List.length_drop, List.length_append, List.length_singleton]; omega
  · rw [List.length_append, List.length_singleton]; omega
theorem spec_gh (a b : Int) (s m : List S68) (g : List Int) : F49.f a b s m g = some (ghN a b) := by
  unfold F49.f ghN; split <;> rfl
theorem impl_gh (a b : Int) (s m : List S68) (g : List Int) : F13.f a b s m g = some (ghN a b) := by
  unfold F13.f ghN mx
  congr 1
  by_cases c : wrap64 (a - b) < 1
  · rw [if_pos c, if_neg (by omega)]
  · rw [if_neg c]
    by_cases d : 1 < wrap64 (a - b)
    · rw [if_pos d]
    · rw [if_neg d]; omega
theorem impl_but (g : List Int) (h : Int) : F23.f g h = some (but g h) := by
  unfold F23.f
  cases g with
  | nil => rfl
  | cons y l => rw [if_pos (by simp)]; rfl
theorem spec_Haunt_ev (a b : Int) (s m : List S68) (g : List Int) (h : Int) (hg : g.length ≤ 1048576) : Ev (fun k => F50.f k a b s m g h) (a, b, s, m, haunt a b g h) := by
  have hb := but_len g h
  refine (evP (spec_but_ev g h hg)).ev fun k e => ?_
  simp only [F50.f, e, Option.bind_some, spec_gh]
  rw [if_pos (show (but g h).length < 17592186044416 by omega)]
  unfold haunt
  by_cases c : ((but g h ++ [h]).length : Int) > ghN a b
  · rw [if_pos c, if_pos c, if_pos (by simp; omega)]; rfl
  · rw [if_neg c, if_neg c]
def smallV (a b : Int) : List S68 → List S68 → List Int → List S68 × List S68 × List Int × ByteArray × Bool
  | [], m, g => ([], m, g, ⟨#[]⟩, false)
  | x :: t, m, g => if x.f2 > 1 then smallV a b t (m ++ [⟨x.f0, x.f1, 0⟩]) g else (t, m, haunt a b g (hashV x.f0), x.f0, true)
theorem smallV_len (a b : Int) : ∀ (s m : List S68) (g : List Int), (smallV a b s m g).1.length ≤ s.length ∧ (smallV a b s m g).2.1.length ≤ s.length + m.length ∧ (smallV a b s m g).2.2.1.length ≤ g.length + 1
  | [], m, g => ⟨Nat.le_refl _, by simp [smallV], by simp [smallV]⟩
  | x :: t, m, g => by
    unfold smallV
    split
    · have := smallV_len a b t (m ++ [⟨x.f0, x.f1, 0⟩]) g
      rw [show (m ++ [(⟨x.f0, x.f1, 0⟩ : S68)]).length = m.length + 1 from by simp] at this
      rw [List.length_cons]
      omega
    · have := haunt_len a b g (hashV x.f0)
      simp only [List.length_cons]; omega
theorem rd_00 (x : S68) (t : List S68) : rd_T68 (x :: t) 0 = x := rfl
theorem impl_small_ev (a b : Int) (g : List Int) (hg : g.length ≤ 1048576) : ∀ s m : List S68, (∀ x ∈ s, x.f0.size ≤ 9223372036854775807) → s.length + m.length ≤ 2097152 → Ev (fun k => F12.l0 k a b s m g) ((smallV a b s m g).2.2.2.1, (smallV a b s m g).2.2.2.2, a, b, (smallV a b s m g).1, (smallV a b s m g).2.1, (smallV a b s m g).2.2.1)
  | [], m, hs, hl => Ev.up (g := fun _ => some (⟨#[]⟩, false, a, b, [], m, g)) (EvE.of fun k => by simp only [F12.l0]; rw [if_neg (by simp)]) (Ev.now _)
  | x :: t, m, hs, hl => by
    have hl' : t.length + 1 + m.length ≤ 2097152 := by simpa using hl
    have e1 : (1 : Int).toNat = 1 := rfl
    have hb := but_len g (hashV x.f0)
    by_cases c : x.f2 > 1
    · have e : smallV a b (x :: t) m g = smallV a b t (m ++ [⟨x.f0, x.f1, 0⟩]) g := (smallV.eq_2 a b m g x t).trans (if_pos c)
      rw [e]
      refine Ev.up (EvE.of fun k => ?_) (impl_small_ev a b g hg t (m ++ [⟨x.f0, x.f1, 0⟩]) (fun y hy => hs y (List.mem_cons_of_mem _ hy)) (by simp; omega))
      simp only [F12.l0, Option.bind_some, rd_00, e1, List.drop_succ_cons, List.drop_zero]
      rw [if_pos (by simp), if_pos (by simp), if_pos (by simp; omega), if_pos c, if_pos (by simp; omega)]
    · have e : smallV a b (x :: t) m g = (t, m, haunt a b g (hashV x.f0), x.f0, true) := (smallV.eq_2 a b m g x t).trans (if_neg c)
      rw [e]
      refine Ev.up (g := fun _ => some (x.f0, true, a, b, t, m, haunt a b g (hashV x.f0))) ((evP (impl_Hash_ev x.f0 (hs x (List.mem_cons_self ..)))).eve fun k e2 => ?_) (Ev.now _)
      simp only [F12.l0, Option.bind_some, rd_00, e1, List.drop_succ_cons, List.drop_zero, e2, impl_but, impl_gh]
      rw [if_pos (by simp), if_pos (by simp), if_pos (by simp; omega), if_neg c, if_pos (by simp; omega)]
      unfold haunt
      by_cases d : ((but g (hashV x.f0) ++ [hashV x.f0]).length : Int) > ghN a b
      · rw [if_pos d, if_pos d, if_pos (by simp; omega)]
      · rw [if_neg d, if_neg d]
theorem spec_small_ev (a b : Int) (g : List Int) (hg : g.length ≤ 1048576) : ∀ s m : List S68, (∀ x ∈ s, x.f0.size ≤ 9223372036854775807) → s.length + m.length ≤ 2097152 → Ev (fun k => F28.l0 k a b s m g) (a, b, (smallV a b s m g).1, (smallV a b s m g).2.1, (smallV a b s m g).2.2.1, (smallV a b s m g).2.2.2.1, (smallV a b s m g).2.2.2.2)
  | [], m, hs, hl => Ev.up (g := fun _ => some (a, b, [], m, g, ⟨#[]⟩, false)) (EvE.of fun k => by simp only [F28.l0]; rw [if_neg (by simp)]) (Ev.now _)
  | x :: t, m, hs, hl => by
    have hl' : t.length + 1 + m.length ≤ 2097152 := by simpa using hl
    by_cases c : x.f2 > 1
    · have e : smallV a b (x :: t) m g = smallV a b t (m ++ [⟨x.f0, x.f1, 0⟩]) g := (smallV.eq_2 a b m g x t).trans (if_pos c)
      rw [e]
      refine Ev.up (EvE.of fun k => ?_) (spec_small_ev a b g hg t (m ++ [⟨x.f0, x.f1, 0⟩]) (fun y hy => hs y (List.mem_cons_of_mem _ hy)) (by simp; omega))
      simp only [F28.l0, Option.bind_some, rd_00, List.drop_succ_cons, List.drop_zero, List.nil_append, List.length_nil]
      rw [if_pos (by simp), if_pos (by simp), if_pos (by simp; omega), if_pos (by omega), if_neg (by omega), if_pos (by omega)]
    · have e : smallV a b (x :: t) m g = (t, m, haunt a b g (hashV x.f0), x.f0, true) := (smallV.eq_2 a b m g x t).trans (if_neg c)
      rw [e]
      refine Ev.up (g := fun _ => some (a, b, t, m, haunt a b g (hashV x.f0), x.f0, true)) ((evA (spec_Hash_ev x.f0 (hs x (List.mem_cons_self ..))) (evP (spec_Haunt_ev a b t m g (hashV x.f0) hg))).eve fun k ⟨e2, e3⟩ => ?_) (Ev.now _)
      simp only [F28.l0, Option.bind_some, rd_00, List.drop_succ_cons, List.drop_zero, List.nil_append, List.length_nil, e2, e3]
      rw [if_pos (by simp), if_pos (by simp), if_pos (by simp; omega), if_pos (by omega), if_pos (by omega)]
def evSmallV (a b : Int) (s m : List S68) (g : List Int) : EvT := if threeOk a b s m g = true then (a, b, smallV a b s m g) else (0, 0, [], [], [], ⟨#[]⟩, false)
theorem spec_EvictSmall_ev (a b : Int) (s m : List S68) (g : List Int) (hg : g.length ≤ 1048576) (hl : SmallI (s ++ m)) : Ev (fun k => F28.f k a b s m g) (evSmallV a b s m g) := by
  have hl1 := hl.1
  rw [List.length_append] at hl1
  have hO := spec_ThreeOk_ev a b s m g hg hl
  unfold evSmallV
  by_cases c : threeOk a b s m g = true
  · rw [if_pos c]
    refine (evA hO (evP (spec_small_ev a b g hg s m (fun x hx => (hl.2 x (List.mem_append_left _ hx)).1) (by omega)))).ev fun k ⟨e1, e2⟩ => ?_
    simp only [F28.f, e1, spec_copy3 a b s m g (by omega) (by omega) hg, Option.bind_some, e2]
    rw [if_pos c]
  · rw [if_neg c]
    refine (evP hO).ev fun k e1 => ?_
    simp only [F28.f, e1, Option.bind_some]
    rw [if_neg c]
theorem impl_copy3x (a b : Int) (s m : List S68) (g : List Int) (h1 : s.length ≤ 2097152) (h2 : m.length ≤ 2097152) (h3 : g.length ≤ 2097152) : F17.f a b s m g = some (a, b, s, m, g) := by
  simp only [F17.f, F16.f, F15.f, Option.bind_some, List.length_nil, List.nil_append]
  rw [if_pos (by omega), Option.bind_some, if_pos (by omega), Option.bind_some, if_pos (by omega), Option.bind_some]
theorem rdI_mem (l : List S68) (x : S68) (h : x ∈ l) : ∃ i : Nat, i < l.length ∧ rdI l i = x := by
  obtain ⟨i, hi, rfl⟩ := List.getElem_of_mem h
  exact ⟨i, hi, rdI_get l i hi⟩
theorem atI_of (l : List S68) (hn : (l.map fun x => x.f0).Nodup) (i : Nat) (hi : i < l.length) : atI l (l[i]).f0 = (i : Int) := by
  have h1 : (l.any fun y => decide (y.f0 = (l[i]).f0)) = true := List.any_eq_true.2 ⟨l[i], List.getElem_mem hi, decide_eq_true rfl⟩
  unfold atI
  rw [if_pos h1]
  have h2 : l.findIdx (fun y => decide (y.f0 = (l[i]).f0)) = i := by
    rw [List.findIdx_eq hi]
    refine ⟨decide_eq_true rfl, fun j hj => decide_eq_false fun e => ?_⟩
    have := List.pairwise_iff_getElem.1 hn j i (by rw [List.length_map]; omega) (by rw [List.length_map]; omega) hj
    rw [List.getElem_map, List.getElem_map] at this
    exact this e
  rw [h2]
theorem areI_iff (l : List S68) : areI l = true ↔ (∀ x ∈ l, itemOk x.f0 x.f1 x.f2 = true) ∧ (l.map fun x => x.f0).Nodup := by
  constructor
  · intro h
    have h2 : ∀ i, i < l.length → itemOk (rdI l i).f0 (rdI l i).f1 (rdI l i).f2 = true ∧ atI l (rdI l i).f0 = (i : Int) := fun i hi => by
      unfold areI allN at h
      have := List.all_eq_true.1 h i (List.mem_range.2 hi)
      unfold okI at this
      simp only [Bool.and_eq_true, decide_eq_true_eq] at this
      exact this
    refine ⟨fun x hx => ?_, List.pairwise_iff_getElem.2 fun i j hi hj hij e => ?_⟩
    · obtain ⟨i, hi, rfl⟩ := rdI_mem l x hx
      exact (h2 i hi).1
    · rw [List.length_map] at hi hj
      rw [List.getElem_map, List.getElem_map] at e
      have e1 := (h2 i hi).2
      have e2 := (h2 j hj).2
      rw [rdI_get l i hi] at e1
      rw [rdI_get l j hj, ← e, e1] at e2
      omega
  · rintro ⟨h1, h2⟩
    unfold areI allN
    refine List.all_eq_true.2 fun i hi => ?_
    have hi := List.mem_range.1 hi
    have e : rd_T68 l (i : Int) = l[i] := rdI_get l i hi
    unfold okI
    rw [e, h1 _ (List.getElem_mem hi), atI_of l h2 i hi, decide_eq_true rfl]; rfl
def zeroF (x : S68) : S68 := ⟨x.f0, x.f1, 0⟩
theorem smallV_false (a b : Int) : ∀ (s m : List S68) (g : List Int), (smallV a b s m g).2.2.2.2 = false → smallV a b s m g = ([], m ++ s.map zeroF, g, ⟨#[]⟩, false)
  | [], m, g, _ => by simp [smallV]
  | x :: t, m, g, h => by
    rw [smallV.eq_2] at h ⊢
    by_cases c : x.f2 > 1
    · rw [if_pos c] at h ⊢
      rw [smallV_false a b t _ g h, List.map_cons]
      simp [zeroF]
    · rw [if_neg c] at h; cases h
theorem itemOk_zero {x : S68} (h : itemOk x.f0 x.f1 x.f2 = true) : itemOk (zeroF x).f0 (zeroF x).f1 (zeroF x).f2 = true := by
  unfold itemOk zeroF at *
  simp only [Bool.and_eq_true, decide_eq_true_eq] at *
  obtain ⟨h, _⟩ := h
  exact ⟨⟨h.1, by omega⟩, by omega⟩
theorem three_moved {a b : Int} {s m : List S68} {g : List Int} (h : threeOk a b s m g = true) : threeOk a b [] (m ++ s.map zeroF) g = true := by
  have ha := (areI_iff _).1 (three_are h)
  unfold threeOk at h ⊢
  simp only [Bool.and_eq_true, decide_eq_true_eq] at h ⊢
  obtain ⟨⟨⟨⟨h1, h2⟩, h3⟩, h4⟩, h5, h6⟩ := h
  refine ⟨⟨⟨⟨h1, h2⟩, ?_⟩, h4⟩, ?_, h6⟩
  · simp only [List.length_nil, List.length_append, List.length_map]; omega
  · refine (areI_iff _).2 ⟨fun x hx => ?_, ?_⟩
    · rw [List.nil_append] at hx
      rcases List.mem_append.1 hx with hx | hx
      · exact ha.1 x (List.mem_append_right _ hx)
      · obtain ⟨y, hy, rfl⟩ := List.mem_map.1 hx
        exact itemOk_zero (ha.1 y (List.mem_append_left _ hy))
    · have e : (s.map zeroF).map (fun x => x.f0) = s.map fun x => x.f0 := by rw [List.map_map]; rfl
      have h2 := ha.2
      rw [List.nil_append, List.map_append, e]
      rw [List.map_append] at h2
      exact (List.perm_append_comm.nodup_iff).1 h2
def coreM (a b : Int) (s m : List S68) (g : List Int) : EvT := (a, b, s, (evm (fsum m + 1) m).1, g, (evm (fsum m + 1) m).2.1, (evm (fsum m + 1) m).2.2)
def coreE (a b : Int) (s m : List S68) (g : List Int) : EvT :=
  if (s.length : Int) ≥ b ∨ m.length = 0 then (if (smallV a b s m g).2.2.2.2 = true then (a, b, smallV a b s m g) else coreM a b [] (m ++ s.map zeroF) g) else coreM a b s m g
def evictV (a b : Int) (s m : List S68) (g : List Int) : EvT := if threeOk a b s m g = true then coreE a b s m g else (0, 0, [], [], [], ⟨#[]⟩, false)
theorem coreM_of {a b : Int} {s m : List S68} {g : List Int} (h : threeOk a b s m g = true) : evMainV a b s m g = coreM a b s m g := by unfold evMainV; rw [if_pos h]; rfl
theorem small_moved {s m : List S68} (h : SmallI (s ++ m)) : SmallI (m ++ s.map zeroF) := by
  refine ⟨by have := h.1; simp only [List.length_append, List.length_map] at this ⊢; omega, fun x hx => ?_⟩
  rcases List.mem_append.1 hx with hx | hx
  · exact h.2 x (List.mem_append_right _ hx)
  · obtain ⟨y, hy, rfl⟩ := List.mem_map.1 hx
    exact h.2 y (List.mem_append_left _ hy)
theorem len0 (m : List S68) : (((m.length : Int) == 0) = true) = (m.length = 0) := by
  rw [beq_iff_eq]; exact propext (by omega)
theorem neither {b : Int} {s m : List S68} (d1 : ¬ (s.length : Int) ≥ b) (d2 : ((m.length : Int) == 0) = false) : ¬ ((s.length : Int) ≥ b ∨ m.length = 0) := fun h => by
  rcases h with h | h
  · exact d1 h
  · rw [(len0 m).mpr h] at d2; cases d2
theorem spec_Evict_ev (a b : Int) (s m : List S68) (g : List Int) (hg : g.length ≤ 1048576) (hl : SmallI (s ++ m)) : Ev (fun k => F26.f k a b s m g) (evictV a b s m g) := by
  have hO := spec_ThreeOk_ev a b s m g hg hl
  unfold evictV
  by_cases c : threeOk a b s m g = true
  · rw [if_pos c]
    have hS := spec_EvictSmall_ev a b s m g hg hl
    unfold evSmallV at hS
    rw [if_pos c] at hS
    have hM := spec_EvictMain_ev a b s m g hg hl
    rw [coreM_of c] at hM
    have hN := spec_EvictMain_ev a b [] (m ++ s.map zeroF) g hg (small_moved hl)
    rw [coreM_of (three_moved c)] at hN
    have hY : (s.length : Int) ≥ b ∨ m.length = 0 → Ev (fun k => F26.j0 k true a b s m g) (coreE a b s m g) := fun d => by
      unfold coreE
      rw [if_pos d]
      by_cases e : (smallV a b s m g).2.2.2.2 = true
      · rw [if_pos e]
        refine Ev.up (g := fun _ => some (a, b, smallV a b s m g)) ((evP hS).eve fun k e1 => ?_) (Ev.now _)
        simp only [F26.j0, e1, Option.bind_some, if_true]
        rw [if_pos e, ← e]
      · rw [if_neg e]
        have e0 := smallV_false a b s m g (by simpa using e)
        rw [e0] at hS
        refine Ev.up (g := fun _ => some (coreM a b [] (m ++ s.map zeroF) g)) ((evA hS (evP hN)).eve fun k ⟨e1, e2⟩ => ?_) (Ev.now _)
        simp only [F26.j0, e1, e2, Option.bind_some, if_true, Bool.false_eq_true, if_false]
    have hF : ¬ ((s.length : Int) ≥ b ∨ m.length = 0) → Ev (fun k => F26.j0 k false a b s m g) (coreE a b s m g) := fun d => by
      unfold coreE
      rw [if_neg d]
      refine Ev.up (g := fun _ => some (coreM a b s m g)) ((evP hM).eve fun k e1 => ?_) (Ev.now _)
      simp only [F26.j0, e1, Option.bind_some, Bool.false_eq_true, if_false]
    by_cases d1 : (s.length : Int) ≥ b
    · refine (evA hO (evP (hY (.inl d1)))).ev fun k ⟨e1, e2⟩ => ?_
      simp only [F26.f, e1, Option.bind_some]
      rw [if_pos c, if_pos d1, e2]
    · cases d2 : ((m.length : Int) == 0) with
      | true =>
        refine (evA hO (evP (hY (.inr ((len0 m).mp d2))))).ev fun k ⟨e1, e2⟩ => ?_
        simp only [F26.f, e1, Option.bind_some]
        rw [if_pos c, if_neg d1, d2, e2]
      | false =>
        refine (evA hO (evP (hF (neither d1 d2)))).ev fun k ⟨e1, e2⟩ => ?_
        simp only [F26.f, e1, Option.bind_some]
        rw [if_pos c, if_neg d1, d2, e2]
  · rw [if_neg c]
    refine (evP hO).ev fun k e1 => ?_
    simp only [F26.f, e1, Option.bind_some]
    rw [if_neg c]
/-- What the method tells: the key, whether one went, and the cache behind it. -/
def turnE (w : EvT) : ByteArray × Bool × Int × Int × List S68 × List S68 × List Int := (w.2.2.2.2.2.1, w.2.2.2.2.2.2, w.1, w.2.1, w.2.2.1, w.2.2.2.1, w.2.2.2.2.1)
theorem impl_Three_evict_ev (a b : Int) (s m : List S68) (g : List Int) (hg : g.length ≤ 1048576) (hl : SmallI (s ++ m)) (c : threeOk a b s m g = true) : Ev (fun k => F10.f k a b s m g) (turnE (coreE a b s m g)) := by
  have hl1 := hl.1
  rw [List.length_append] at hl1
  have hS := impl_small_ev a b g hg s m (fun x hx => (hl.2 x (List.mem_append_left _ hx)).1) (by omega)
  have hM := impl_main_ev a b s g (fsum m + 1) m (okF_three c).2 (Nat.lt_succ_self _) (by omega)
  have hN := impl_main_ev a b [] g (fsum (m ++ s.map zeroF) + 1) (m ++ s.map zeroF) (okF_three (three_moved c)).2 (Nat.lt_succ_self _) (small_moved hl).1
  have hY : (s.length : Int) ≥ b ∨ m.length = 0 → Ev (fun k => F10.j0 k true a b s m g) (turnE (coreE a b s m g)) := fun d => by
    unfold coreE
    rw [if_pos d]
    by_cases e : (smallV a b s m g).2.2.2.2 = true
    · rw [if_pos e]
      refine Ev.up (g := fun _ => some (turnE (a, b, smallV a b s m g))) ((evP hS).eve fun k e1 => ?_) (Ev.now _)
      simp only [F10.j0, F12.f, e1, Option.bind_some, if_true]
      rw [if_pos e]; unfold turnE; simp only [e]
    · rw [if_neg e]
      have e0 := smallV_false a b s m g (by simpa using e)
      rw [e0] at hS
      refine Ev.up (g := fun _ => some (turnE (coreM a b [] (m ++ s.map zeroF) g))) ((evA hS (evP hN)).eve fun k ⟨e1, e2⟩ => ?_) (Ev.now _)
      simp only [F10.j0, F12.f, F11.f, e1, e2, Option.bind_some, if_true, Bool.false_eq_true, if_false]
      rfl
  have hF : ¬ ((s.length : Int) ≥ b ∨ m.length = 0) → Ev (fun k => F10.j0 k false a b s m g) (turnE (coreE a b s m g)) := fun d => by
    unfold coreE
    rw [if_neg d]
    refine Ev.up (g := fun _ => some (turnE (coreM a b s m g))) ((evP hM).eve fun k e1 => ?_) (Ev.now _)
    simp only [F10.j0, F11.f, e1, Option.bind_some, Bool.false_eq_true, if_false]
    rfl
  by_cases d1 : (s.length : Int) ≥ b
  · refine (evP (hY (.inl d1))).ev fun k e2 => ?_
    simp only [F10.f]
    rw [if_pos d1, e2]
  · cases d2 : ((m.length : Int) == 0) with
    | true =>
      refine (evP (hY (.inr ((len0 m).mp d2)))).ev fun k e2 => ?_
      simp only [F10.f]
      rw [if_neg d1, d2, e2]
    | false =>
      refine (evP (hF (neither d1 d2))).ev fun k e2 => ?_
      simp only [F10.f]
      rw [if_neg d1, d2, e2]
theorem coreM_len (a b : Int) (s m : List S68) (g : List Int) : (coreM a b s m g).2.2.1.length ≤ s.length ∧ (coreM a b s m g).2.2.2.1.length ≤ m.length ∧ (coreM a b s m g).2.2.2.2.1.length ≤ g.length := ⟨Nat.le_refl _, evm_len _ m, Nat.le_refl _⟩
theorem coreE_len (a b : Int) (s m : List S68) (g : List Int) : (coreE a b s m g).2.2.1.length ≤ s.length ∧ (coreE a b s m g).2.2.2.1.length ≤ s.length + m.length ∧ (coreE a b s m g).2.2.2.2.1.length ≤ g.length + 1 := by
  have h1 := smallV_len a b s m g
  have h2 := coreM_len a b [] (m ++ s.map zeroF) g
  have h3 := coreM_len a b s m g
  rw [List.length_append, List.length_map] at h2
  unfold coreE
  split
  · split
    · exact h1
    · simp only [List.length_nil] at h2; omega
  · omega
def touch (l : List S68) (i : Nat) : List S68 := l.set i ⟨(rdI l i).f0, (rdI l i).f1, mn 3 (wrap64 ((rdI l i).f2 + 1))⟩
abbrev GetT := Int × Int × List S68 × List S68 × List Int × ByteArray × Bool
def getV (a b : Int) (s m : List S68) (g : List Int) (x : ByteArray) : GetT := if threeOk a b s m g = true then (if 0 ≤ atI s x then (a, b, touch s (atI s x).toNat, m, g, (rd_T68 s (atI s x)).f1, true) else if 0 ≤ atI m x then (a, b, s, touch m (atI m x).toNat, g, (rd_T68 m (atI m x)).f1, true) else (a, b, s, m, g, ⟨#[]⟩, false)) else (0, 0, [], [], [], ⟨#[]⟩, false)
theorem rd_set (l : List S68) (i : Nat) (v : S68) (h : i < l.length) : rd_T68 (l.set i v) (i : Int) = v := by
  unfold rd_T68; rw [Int.toNat_natCast]; simp [h]
theorem impl_Get_ev (a b : Int) (s m : List S68) (g : List Int) (x : ByteArray) (hg : g.length ≤ 1048576) (hl : SmallI (s ++ m)) : Ev (fun k => F1.f k a b s m g x) (getV a b s m g x) := by
  have hl1 := hl.1
  rw [List.length_append] at hl1
  have hO := impl_ThreeOk_ev a b s m g hg hl
  have h1 := impl_itemAt_ev s x (by omega)
  have h2 := impl_itemAt_ev m x (by omega)
  unfold getV
  by_cases c : threeOk a b s m g = true
  case neg =>
    rw [if_neg c]
    refine (evP hO).ev fun k e1 => ?_
    simp only [F1.f, e1, Option.bind_some]
    rw [if_neg c]
  rw [if_pos c]
  refine (evA hO (evA h1 (evP h2))).ev fun k ⟨e1, e2, e3⟩ => ?_
  simp only [F1.f, e1, impl_copy3 a b s m g (by omega) (by omega) hg, Option.bind_some, e2, e3]
  rw [if_pos c]
  by_cases d : 0 ≤ atI s x
  · obtain ⟨i, ei, hi, _⟩ := at_lt s x d
    rw [if_pos d]
    rw [ei] at d ⊢
    rw [if_pos (show (i : Int) ≥ 0 from d), if_pos d, if_pos (by omega), Int.toNat_natCast, rd_set s i _ hi]
    rfl
  · rw [if_neg d, if_neg (show ¬ atI s x ≥ 0 from d)]
    by_cases e : 0 ≤ atI m x
    · obtain ⟨j, ej, hj, _⟩ := at_lt m x e
      rw [if_pos e]
      rw [ej] at e ⊢
      rw [if_pos (show (j : Int) ≥ 0 from e), if_pos e, if_pos (by omega), Int.toNat_natCast, rd_set m j _ hj]
      rfl
    · rw [if_neg e, if_neg (show ¬ atI m x ≥ 0 from e)]
theorem smallV_less (a b : Int) : ∀ (s m : List S68) (g : List Int), (smallV a b s m g).2.2.2.2 = true → (smallV a b s m g).1.length + (smallV a b s m g).2.1.length + 1 = s.length + m.length
  | [], m, g, h => by simp [smallV] at h
  | x :: t, m, g, h => by
    rw [smallV.eq_2] at h ⊢
    by_cases c : x.f2 > 1
    · rw [if_pos c] at h ⊢
      have := smallV_less a b t _ g h
      rw [show (m ++ [(⟨x.f0, x.f1, 0⟩ : S68)]).length = m.length + 1 from by simp] at this
      rw [List.length_cons]
      omega
    · rw [if_neg c, List.length_cons]; simp only; omega
theorem evm_less : ∀ (n : Nat) (m : List S68), okF m → m ≠ [] → fsum m < n → (evm n m).1.length + 1 = m.length
  | 0, m, _, _, h => by omega
  | n + 1, [], _, h, _ => absurd rfl h
  | n + 1, x :: t, hm, _, hf => by
    unfold evm
    by_cases c : x.f2 = 0
    · rw [if_pos c]; simp
    · obtain ⟨h1, h2⟩ := okF_next hm c
      rw [if_neg c]
      have := evm_less n _ h1 (by simp) (by omega)
      rw [show (t ++ [less1 x]).length = t.length + 1 from by simp] at this
      rw [List.length_cons]; omega
theorem coreM_less {a b : Int} {s m : List S68} {g : List Int} (h : threeOk a b s m g = true) (hm : m ≠ []) : (coreM a b s m g).2.2.1.length + (coreM a b s m g).2.2.2.1.length + 1 = s.length + m.length := by
  have := evm_less (fsum m + 1) m (okF_three h).2 hm (Nat.lt_succ_self _)
  show s.length + (evm (fsum m + 1) m).1.length + 1 = _
  omega
theorem coreE_less {a b : Int} {s m : List S68} {g : List Int} (h : threeOk a b s m g = true) (hn : 0 < s.length + m.length) : (coreE a b s m g).2.2.1.length + (coreE a b s m g).2.2.2.1.length + 1 = s.length + m.length := by
  unfold coreE
  split
  · split
    · rename_i c; exact smallV_less a b s m g c
    · have := coreM_less (three_moved h) (m := m ++ s.map zeroF) (fun e => by
        have := congrArg List.length e
        rw [List.length_append, List.length_map, List.length_nil] at this; omega)
      rw [List.length_append, List.length_map, List.length_nil] at this
      omega
  · rename_i c
    exact coreM_less h (fun e => c (.inr (by rw [e]; rfl)))
theorem coreE_ab (a b : Int) (s m : List S68) (g : List Int) : (coreE a b s m g).1 = a ∧ (coreE a b s m g).2.1 = b := by
  unfold coreE coreM; split
  · split <;> exact ⟨rfl, rfl⟩
  · exact ⟨rfl, rfl⟩
abbrev PutT := Int × Int × List S68 × List S68 × List Int × List ByteArray × Bool
def placeV (a b : Int) (s m : List S68) (g : List Int) (x v : ByteArray) (gone : List ByteArray) : PutT := if hasN g (hashV x) = true then (a, b, s, m ++ [⟨x, v, 0⟩], but g (hashV x), gone, true) else (a, b, s ++ [⟨x, v, 0⟩], m, g, gone, true)
def setV (l : List S68) (i : Nat) (v : ByteArray) : List S68 := l.set i ⟨(rdI l i).f0, v, (rdI l i).f2⟩
def newV (a b : Int) (s m : List S68) (g : List Int) (x v : ByteArray) : PutT := if (s.length : Int) + (m.length : Int) ≥ a then placeV (coreE a b s m g).1 (coreE a b s m g).2.1 (coreE a b s m g).2.2.1 (coreE a b s m g).2.2.2.1 (coreE a b s m g).2.2.2.2.1 x v [(coreE a b s m g).2.2.2.2.2.1] else placeV a b s m g x v []
def putC (a b : Int) (s m : List S68) (g : List Int) (x v : ByteArray) : PutT := if 0 ≤ atI s x then (a, b, touch (setV s (atI s x).toNat v) (atI s x).toNat, m, g, [], true) else if 0 ≤ atI m x then (a, b, s, touch (setV m (atI m x).toNat v) (atI m x).toNat, g, [], true) else newV a b s m g x v
def putV (a b : Int) (s m : List S68) (g : List Int) (x v : ByteArray) : PutT := if threeOk a b s m g = true ∧ itemOk x v 0 = true then putC a b s m g x v else (0, 0, [], [], [], [], false)
theorem impl_butP (g : List Int) (h : Int) : F8.f g h = some (but g h) := by
  unfold F8.f
  cases g with
  | nil => rfl
  | cons y l => rw [if_pos (by simp)]; rfl
theorem impl_Put_j1_ev (a b : Int) (s m : List S68) (g : List Int) (x v : ByteArray) (gone : List ByteArray) (hx : x.size ≤ 9223372036854775807) (h1 : s.length ≤ 1048576) (h2 : m.length ≤ 1048576) (h3 : g.length ≤ 1048576) : Ev (fun k => F7.j1 k x v gone a b s m g) (placeV a b s m g x v gone) := by
  have hb := but_len g (hashV x)
  refine Ev.up (g := fun _ => some (placeV a b s m g x v gone)) ((evA (impl_Hash_ev x hx) (evP (slices_ContainsI_ev g (hashV x) h3))).eve fun k ⟨e1, e2⟩ => ?_) (Ev.now _)
  simp only [F7.j1, e1, e2, Option.bind_some]
  unfold placeV
  cases hasN g (hashV x) with
  | true =>
    simp only [if_true]
    rw [impl_butP, Option.bind_some, if_pos (by omega), impl_copy3x a b s _ _ (by omega) (by simp; omega) (by omega)]; rfl
  | false =>
    simp only [Bool.false_eq_true, if_false]
    rw [if_pos (by omega), impl_copy3x a b _ m g (by simp; omega) (by omega) (by omega)]; rfl
theorem small_of {a b : Int} {s m : List S68} {g : List Int} (h : threeOk a b s m g = true) : SmallI (s ++ m) := by
  have hl := three_len h
  refine ⟨by rw [List.length_append]; omega, fun x hx => ?_⟩
  have := itemOk_sizes (((areI_iff _).1 (three_are h)).1 x hx)
  omega
theorem impl_Put_ev (a b : Int) (s m : List S68) (g : List Int) (x v : ByteArray) (hx : x.size ≤ 9223372036854775807) (hv : v.size ≤ 9223372036854775807) (hg : g.length ≤ 1048576) (hl : SmallI (s ++ m)) : Ev (fun k => F7.f k a b s m g x v) (putV a b s m g x v) := by
  have hl1 := hl.1
  rw [List.length_append] at hl1
  have hO := impl_ThreeOk_ev a b s m g hg hl
  have hI := impl_ItemOk_ev x v 0 hx hv
  have hno : Ev (fun k => F7.j0 k x v true a b s m g) ((0, 0, [], [], [], [], false) : PutT) := Ev.up (g := fun _ => some _) (EvE.of fun k => by simp only [F7.j0, if_true]) (Ev.now _)
  unfold putV
  by_cases c : threeOk a b s m g = true
  case neg =>
    rw [if_neg (fun h => c h.1)]
    refine (evA hO (evP hno)).ev fun k ⟨e1, e2⟩ => ?_
    simp only [F7.f, e1, Option.bind_some]
    rw [if_neg c, e2]
  by_cases d : itemOk x v 0 = true
  case neg =>
    rw [if_neg (fun h => d h.2)]
    rw [Bool.not_eq_true] at d
    rw [d] at hI
    refine (evA hO (evA hI (evP hno))).ev fun k ⟨e1, e2, e3⟩ => ?_
    simp only [F7.f, e1, e2, Option.bind_some]
    rw [if_pos c]; simpa using e3
  rw [if_pos ⟨c, d⟩]
  rw [d] at hI
  have h3 := three_len c
  suffices hyes : Ev (fun k => F7.j0 k x v false a b s m g) (putC a b s m g x v) by
    refine (evA hO (evA hI (evP hyes))).ev fun k ⟨e1, e2, e3⟩ => ?_
    simp only [F7.f, e1, e2, Option.bind_some]
    rw [if_pos c]; simpa using e3
  have t1 := impl_itemAt_ev s x (by omega)
  have t2 := impl_itemAt_ev m x (by omega)
  have ha : a ≤ 60 ∧ 1 ≤ a ∧ (s.length : Int) + (m.length : Int) ≤ a := by
    have c' := c
    unfold threeOk at c'
    simp only [Bool.and_eq_true, decide_eq_true_eq] at c'
    omega
  have hw : wrap64 ((s.length : Int) + (m.length : Int)) = (s.length : Int) + (m.length : Int) := w64 (by omega) (by omega)
  unfold putC
  by_cases d1 : 0 ≤ atI s x
  · obtain ⟨i, ei, hi, _⟩ := at_lt s x d1
    rw [if_pos d1]
    rw [ei] at d1 t1 ⊢
    refine Ev.up (g := fun _ => some _) ((evP t1).eve fun k e1 => ?_) (Ev.now _)
    simp only [F7.j0, Bool.false_eq_true, if_false, impl_copy3 a b s m g (by omega) (by omega) hg, Option.bind_some, e1]
    rw [if_pos (show (i : Int) ≥ 0 from d1), if_pos d1, if_pos (by omega), Int.toNat_natCast]
    rfl
  rw [if_neg d1]
  by_cases d2 : 0 ≤ atI m x
  · obtain ⟨j, ej, hj, _⟩ := at_lt m x d2
    rw [if_pos d2]
    rw [ej] at d2 t2 ⊢
    refine Ev.up (g := fun _ => some _) ((evA t1 (evP t2)).eve fun k ⟨e1, e2⟩ => ?_) (Ev.now _)
    simp only [F7.j0, Bool.false_eq_true, if_false, impl_copy3 a b s m g (by omega) (by omega) hg, Option.bind_some, e1, e2]
    rw [if_neg (show ¬ atI s x ≥ 0 from d1), if_pos (show (j : Int) ≥ 0 from d2), if_pos d2, if_pos (by omega), Int.toNat_natCast]
    rfl
  rw [if_neg d2]
  unfold newV
  by_cases e : (s.length : Int) + (m.length : Int) ≥ a
  · rw [if_pos e]
    have hab := coreE_ab a b s m g
    have hn := coreE_len a b s m g
    have hlt := coreE_less c (by omega)
    have hw2 : ¬ wrap64 (((coreE a b s m g).2.2.1.length : Int) + ((coreE a b s m g).2.2.2.1.length : Int)) ≥ (coreE a b s m g).1 := by rw [hab.1, w64 (by omega) (by omega)]; omega
    refine Ev.up ((evA t1 (evA t2 (evP (impl_Three_evict_ev a b s m g hg hl c)))).eve fun k ⟨e1, e2, e3⟩ => ?_) (impl_Put_j1_ev (coreE a b s m g).1 (coreE a b s m g).2.1 (coreE a b s m g).2.2.1 (coreE a b s m g).2.2.2.1 (coreE a b s m g).2.2.2.2.1 x v [(coreE a b s m g).2.2.2.2.2.1] hx (by omega) (by omega) (by omega))
    simp only [F7.j0, Bool.false_eq_true, if_false, impl_copy3 a b s m g (by omega) (by omega) hg, Option.bind_some, e1, e2]
    rw [if_neg (show ¬ atI s x ≥ 0 from d1), if_neg (show ¬ atI m x ≥ 0 from d2), hw, if_pos e, e3, Option.bind_some, if_pos (by simp)]
    exact if_neg hw2
  · rw [if_neg e]
    refine Ev.up ((evA t1 (evP t2)).eve fun k ⟨e1, e2⟩ => ?_) (impl_Put_j1_ev a b s m g x v [] hx (by omega) (by omega) (by omega))
    simp only [F7.j0, Bool.false_eq_true, if_false, impl_copy3 a b s m g (by omega) (by omega) hg, Option.bind_some, e1, e2]
    rw [if_neg (show ¬ atI s x ≥ 0 from d1), if_neg (show ¬ atI m x ≥ 0 from d2), hw, if_neg e]
abbrev IT := S68
theorem xor_range (h b : Int) (h0 : 0 ≤ h ∧ h ≤ 4294967295) (b0 : 0 ≤ b ∧ b ≤ 255) : 0 ≤ Go.bits .xor .i64 h b ∧ Go.bits .xor .i64 h b ≤ 4294967295 := by
  obtain ⟨x, rfl⟩ : ∃ x : Nat, h = (x : Int) := ⟨h.toNat, by omega⟩
  obtain ⟨y, rfl⟩ : ∃ y : Nat, b = (y : Int) := ⟨b.toNat, by omega⟩
  unfold Go.bits
  rw [Go.IntKind.wrap_i64]
  have h1 : (BitVec.ofInt Go.IntKind.i64.bits (x : Int) ^^^ BitVec.ofInt Go.IntKind.i64.bits (y : Int)).toNat < 2 ^ 32 := by
    rw [BitVec.toNat_xor, BitVec.ofInt_natCast, BitVec.ofInt_natCast, BitVec.toNat_ofNat, BitVec.toNat_ofNat]
    show x % 2 ^ 64 ^^^ y % 2 ^ 64 < 2 ^ 32
    exact Nat.xor_lt_two_pow (by omega) (by omega)
  simp only
  omega
theorem bt_range (s : ByteArray) (i : Int) : 0 ≤ bt s i ∧ bt s i ≤ 255 := by
  unfold bt
  split
  · rename_i h
    have := (s[i.toNat]'h).toNat_lt
    omega
  · omega
theorem hstep_range (h b : Int) (h0 : 0 ≤ h ∧ h ≤ 4294967295) (b0 : 0 ≤ b ∧ b ≤ 255) : 0 ≤ hstep h b ∧ hstep h b ≤ 4294967295 := by
  have hb : wrap64 b = b := w64 (by omega) (by omega)
  have hx := xor_range h b h0 b0
  unfold hstep
  rw [hb, w64 (x := Go.bits .xor .i64 h b * 16777619) (by omega) (by omega), Int.tmod_eq_emod_of_nonneg (by omega)]
  omega
theorem hashV_range (s : ByteArray) : 0 ≤ hashV s ∧ hashV s ≤ 4294967295 := by
  have key : ∀ (l : List Int) (h : Int), (∀ b ∈ l, 0 ≤ b ∧ b ≤ 255) → 0 ≤ h ∧ h ≤ 4294967295 → 0 ≤ l.foldl hstep h ∧ l.foldl hstep h ≤ 4294967295 := by
    intro l
    induction l with
    | nil => intro h _ h0; exact h0
    | cons b l ih => intro h hb h0; exact ih _ (fun c hc => hb c (List.mem_cons_of_mem _ hc)) (hstep_range h b h0 (hb b (List.mem_cons_self ..)))
  refine key _ _ (fun b hb => ?_) (by omega)
  obtain ⟨i, hi, rfl⟩ := List.getElem_of_mem hb
  have e : (bytesOf s)[i] = bt s (i : Int) := by rw [bt_nat, List.getD_eq_getElem?_getD, List.getElem?_eq_getElem hi]; rfl
  rw [e]; exact bt_range s _
theorem hasN_iff (l : List Int) (x : Int) : hasN l x = true ↔ x ∈ l := by
  unfold hasN
  rw [List.any_eq_true]
  exact ⟨fun ⟨y, hy, e⟩ => of_decide_eq_true e ▸ hy, fun h => ⟨x, h, decide_eq_true rfl⟩⟩
theorem rd_get (g : List Int) (i : Nat) (h : i < g.length) : rd g (i : Int) = g[i] := by rw [rd_nat, List.getD_eq_getElem?_getD, List.getElem?_eq_getElem h]; rfl
theorem ghost_iff (g : List Int) : ghostOk g = true ↔ (∀ x ∈ g, 0 ≤ x ∧ x ≤ 4294967295) ∧ g.Nodup := by
  have e : ghostOk g = true ↔ ∀ i, (h : i < g.length) → (0 ≤ g[i] ∧ g[i] ≤ 4294967295) ∧ ¬ g[i] ∈ g.take i := by
    unfold ghostOk allN
    rw [List.all_eq_true]
    constructor
    · intro h i hi
      have := h i (List.mem_range.2 hi)
      unfold ghostI at this
      rw [rd_get g i hi] at this
      simp only [Bool.and_eq_true, decide_eq_true_eq, Bool.not_eq_true'] at this
      refine ⟨this.1, fun hm => ?_⟩
      rw [(hasN_iff _ _).2 hm] at this; exact absurd this.2 (by simp)
    · intro h i hi
      have hi := List.mem_range.1 hi
      have := h i hi
      unfold ghostI
      rw [rd_get g i hi, decide_eq_true this.1, Bool.true_and, Bool.not_eq_true']
      cases c : hasN (g.take i) g[i] with
      | false => rfl
      | true => exact absurd ((hasN_iff _ _).1 c) this.2
  rw [e]
  constructor
  · intro h
    refine ⟨fun x hx => ?_, List.pairwise_iff_getElem.2 fun i j hi hj hij e => ?_⟩
    · obtain ⟨i, hi, rfl⟩ := List.getElem_of_mem hx
      exact (h i hi).1
    · exact (h j hj).2 (List.mem_iff_getElem.2 ⟨i, by rw [List.length_take]; omega, by rw [List.getElem_take]; exact e⟩)
  · rintro ⟨h1, h2⟩ i hi
    refine ⟨h1 _ (List.getElem_mem hi), fun hm => ?_⟩
    obtain ⟨j, hj, e⟩ := List.getElem_of_mem hm
    rw [List.length_take] at hj
    rw [List.getElem_take] at e
    exact List.pairwise_iff_getElem.1 h2 j i (by omega) hi (by omega) e
/-- A right cache, in parts. -/
def ThreeP (a b : Int) (s m : List IT) (g : List Int) : Prop := (1 ≤ a ∧ a ≤ 60) ∧ (1 ≤ b ∧ b ≤ a) ∧ (s.length : Int) + (m.length : Int) ≤ a ∧ (g.length : Int) ≤ ghostsN a b ∧ (∀ x ∈ s ++ m, itemOk x.f0 x.f1 x.f2 = true) ∧ ((s ++ m).map fun x => x.f0).Nodup ∧ (∀ x ∈ g, 0 ≤ x ∧ x ≤ 4294967295) ∧ g.Nodup
theorem three_iff (a b : Int) (s m : List IT) (g : List Int) : threeOk a b s m g = true ↔ ThreeP a b s m g := by
  unfold threeOk ThreeP
  simp only [Bool.and_eq_true, decide_eq_true_eq]
  rw [areI_iff, ghost_iff]
  constructor
  · rintro ⟨⟨⟨⟨h1, h2⟩, h3⟩, h4⟩, ⟨h5, h6⟩, h7, h8⟩; exact ⟨h1, h2, h3, h4, h5, h6, h7, h8⟩
  · rintro ⟨h1, h2, h3, h4, h5, h6, h7, h8⟩; exact ⟨⟨⟨⟨h1, h2⟩, h3⟩, h4⟩, ⟨h5, h6⟩, h7, h8⟩
theorem ghN_eq (a b : Int) (h : 1 ≤ a ∧ a ≤ 60) (h2 : 1 ≤ b ∧ b ≤ a) : ghN a b = ghostsN a b := by
  unfold ghN ghostsN; rw [w64 (x := a - b) (by omega) (by omega)]
theorem but_keep {g : List Int} {h : Int} (h1 : ∀ x ∈ g, 0 ≤ x ∧ x ≤ 4294967295) (h2 : g.Nodup) : (∀ x ∈ but g h, 0 ≤ x ∧ x ≤ 4294967295) ∧ (but g h).Nodup ∧ ¬ h ∈ but g h :=
  ⟨fun x hx => h1 x ((List.mem_filter.1 hx).1), List.Pairwise.sublist List.filter_sublist h2, fun hm => by have := (List.mem_filter.1 hm).2; simp at this⟩
theorem haunt_keep {a b : Int} {g : List Int} (ha : 1 ≤ a ∧ a ≤ 60) (hb : 1 ≤ b ∧ b ≤ a) (hl : (g.length : Int) ≤ ghostsN a b) (h1 : ∀ x ∈ g, 0 ≤ x ∧ x ≤ 4294967295) (h2 : g.Nodup) (h : Int) (hh : 0 ≤ h ∧ h ≤ 4294967295) : ((haunt a b g h).length : Int) ≤ ghostsN a b ∧ (∀ x ∈ haunt a b g h, 0 ≤ x ∧ x ≤ 4294967295) ∧ (haunt a b g h).Nodup ∧ h ∈ haunt a b g h := by
  obtain ⟨k1, k2, k3⟩ := but_keep (h := h) h1 h2
  have hbl := but_len g h
  have hp : 1 ≤ ghostsN a b := by unfold ghostsN; split <;> omega
  have r : ∀ x ∈ but g h ++ [h], 0 ≤ x ∧ x ≤ 4294967295 := fun x hx => by
    rcases List.mem_append.1 hx with hx | hx
    · exact k1 x hx
    · rw [List.mem_singleton.1 hx]; exact hh
  have nd : (but g h ++ [h]).Nodup := List.nodup_append.2 ⟨k2, by simp, fun x hx y hy e => k3 (by rw [List.mem_singleton.1 hy] at e; exact e ▸ hx)⟩
  have hlen : (but g h ++ [h]).length = (but g h).length + 1 := by simp
  unfold haunt
  rw [ghN_eq a b ha hb]
  split
  · rename_i c
    refine ⟨by rw [List.length_drop, hlen]; omega, fun x hx => r x (List.mem_of_mem_drop hx), List.Pairwise.sublist (List.drop_sublist _ _) nd, ?_⟩
    have hne : but g h ≠ [] := fun e => by rw [e] at c; simp at c; omega
    obtain ⟨y, l, e⟩ := List.exists_cons_of_ne_nil hne
    rw [e]; simp
  · rename_i c
    exact ⟨by omega, r, nd, by simp⟩
def kv (x : IT) : ByteArray × ByteArray := (x.f0, x.f1)
theorem keys_kv (l : List IT) : (l.map fun x => x.f0) = (l.map kv).map Prod.fst := by rw [List.map_map]; rfl
theorem smallV_perm (a b : Int) : ∀ (s m : List IT) (g : List Int), (smallV a b s m g).2.2.2.2 = true → (∃ v, ((s ++ m).map kv).Perm (((smallV a b s m g).2.2.2.1, v) :: ((smallV a b s m g).1 ++ (smallV a b s m g).2.1).map kv)) ∧ (smallV a b s m g).2.2.1 = haunt a b g (hashV (smallV a b s m g).2.2.2.1)
  | [], m, g, h => by simp [smallV] at h
  | x :: t, m, g, h => by
    rw [smallV.eq_2] at h ⊢
    by_cases c : x.f2 > 1
    · rw [if_pos c] at h ⊢
      obtain ⟨⟨v, hv⟩, e⟩ := smallV_perm a b t _ g h
      refine ⟨⟨v, List.Perm.trans ?_ hv⟩, e⟩
      rw [List.cons_append, List.map_cons, ← List.append_assoc, List.map_append (l₁ := t ++ m)]
      exact (List.perm_append_singleton (kv x) ((t ++ m).map kv)).symm
    · rw [if_neg c]
      exact ⟨⟨x.f1, List.Perm.refl _⟩, rfl⟩
theorem smallV_okF (a b : Int) : ∀ (s m : List IT) (g : List Int), okF (s ++ m) → okF ((smallV a b s m g).1 ++ (smallV a b s m g).2.1)
  | [], m, g, h => by simpa [smallV] using h
  | x :: t, m, g, h => by
    rw [smallV.eq_2]
    by_cases c : x.f2 > 1
    · rw [if_pos c]
      refine smallV_okF a b t _ g fun y hy => ?_
      rw [← List.append_assoc] at hy
      rcases List.mem_append.1 hy with hy | hy
      · exact h y (List.mem_cons_of_mem _ hy)
      · rw [List.mem_singleton.1 hy]; exact ⟨Int.le_refl 0, show (0 : Int) ≤ 3 by omega⟩
    · rw [if_neg c]
      exact fun y hy => h y (List.mem_cons_of_mem _ hy)
theorem evm_perm : ∀ (n : Nat) (m : List IT), okF m → m ≠ [] → fsum m < n → (evm n m).2.2 = true ∧ okF (evm n m).1 ∧ ∃ v, (m.map kv).Perm (((evm n m).2.1, v) :: (evm n m).1.map kv)
  | 0, m, _, _, h => by omega
  | n + 1, [], _, h, _ => absurd rfl h
  | n + 1, x :: t, hm, _, hf => by
    unfold evm
    by_cases c : x.f2 = 0
    · rw [if_pos c]
      exact ⟨rfl, fun y hy => hm y (List.mem_cons_of_mem _ hy), x.f1, List.Perm.refl _⟩
    · obtain ⟨h1, h2⟩ := okF_next hm c
      rw [if_neg c]
      obtain ⟨e, k, v, hv⟩ := evm_perm n _ h1 (by simp) (by omega)
      refine ⟨e, k, v, List.Perm.trans ?_ hv⟩
      rw [List.map_cons, List.map_append]
      exact (List.perm_append_singleton (kv x) (t.map kv)).symm
theorem kv_zero (l : List IT) : (l.map zeroF).map kv = l.map kv := by rw [List.map_map]; rfl
theorem okF_all {a b : Int} {s m : List IT} {g : List Int} (h : threeOk a b s m g = true) : okF (s ++ m) := fun y hy => by
  rcases List.mem_append.1 hy with hy | hy
  · exact (okF_three h).1 y hy
  · exact (okF_three h).2 y hy
theorem coreM_perm {a b : Int} {s m : List IT} {g : List Int} (h : threeOk a b s m g = true) (hm : m ≠ []) : (coreM a b s m g).2.2.2.2.2.2 = true ∧ okF ((coreM a b s m g).2.2.1 ++ (coreM a b s m g).2.2.2.1) ∧ ∃ v, ((s ++ m).map kv).Perm (((coreM a b s m g).2.2.2.2.2.1, v) :: ((coreM a b s m g).2.2.1 ++ (coreM a b s m g).2.2.2.1).map kv) := by
  obtain ⟨e, k, v, hv⟩ := evm_perm (fsum m + 1) m (okF_three h).2 hm (Nat.lt_succ_self _)
  refine ⟨e, fun y hy => ?_, v, ?_⟩
  · rcases List.mem_append.1 hy with hy | hy
    · exact (okF_three h).1 y hy
    · exact k y hy
  · show ((s ++ m).map kv).Perm (((evm (fsum m + 1) m).2.1, v) :: (s ++ (evm (fsum m + 1) m).1).map kv)
    rw [List.map_append, List.map_append]
    exact List.Perm.trans (List.Perm.append_left _ hv) List.perm_middle
theorem coreE_perm {a b : Int} {s m : List IT} {g : List Int} (h : threeOk a b s m g = true) (hn : 0 < s.length + m.length) : (coreE a b s m g).2.2.2.2.2.2 = true ∧ okF ((coreE a b s m g).2.2.1 ++ (coreE a b s m g).2.2.2.1) ∧ (∃ v, ((s ++ m).map kv).Perm (((coreE a b s m g).2.2.2.2.2.1, v) :: ((coreE a b s m g).2.2.1 ++ (coreE a b s m g).2.2.2.1).map kv)) ∧ ((coreE a b s m g).2.2.2.2.1 = g ∨ (coreE a b s m g).2.2.2.2.1 = haunt a b g (hashV (coreE a b s m g).2.2.2.2.2.1)) := by
  unfold coreE
  split
  · split
    · rename_i c
      obtain ⟨hv, e⟩ := smallV_perm a b s m g c
      exact ⟨c, smallV_okF a b s m g (okF_all h), hv, .inr e⟩
    · obtain ⟨e, k, v, hv⟩ := coreM_perm (three_moved h) (m := m ++ s.map zeroF) (fun e => by
        have := congrArg List.length e
        rw [List.length_append, List.length_map, List.length_nil] at this; omega)
      refine ⟨e, k, ⟨v, List.Perm.trans ?_ hv⟩, .inl rfl⟩
      rw [List.nil_append, List.map_append, List.map_append, kv_zero]
      exact List.perm_append_comm
  · rename_i c
    obtain ⟨e, k, hv⟩ := coreM_perm h (fun e => c (.inr (by rw [e]; rfl)))
    exact ⟨e, k, hv, .inl rfl⟩
theorem itemOk_kv {x y : IT} (h : itemOk x.f0 x.f1 x.f2 = true) (e : kv y = kv x) (hf : 0 ≤ y.f2 ∧ y.f2 ≤ 3) : itemOk y.f0 y.f1 y.f2 = true := by
  have e1 : y.f0 = x.f0 := congrArg Prod.fst e
  have e2 : y.f1 = x.f1 := congrArg Prod.snd e
  rw [e1, e2]
  unfold itemOk at *
  simp only [Bool.and_eq_true, decide_eq_true_eq] at *
  exact ⟨⟨h.1.1, hf.1⟩, hf.2⟩
/-- What is gone leaves a right cache. -/
theorem gone_keep {a b : Int} {s m s' m' : List IT} {g g' : List Int} {k v : ByteArray} (h : threeOk a b s m g = true) (hp : ((s ++ m).map kv).Perm ((k, v) :: (s' ++ m').map kv)) (hf : okF (s' ++ m')) (hg : g' = g ∨ g' = haunt a b g (hashV k)) : threeOk a b s' m' g' = true := by
  obtain ⟨h1, h2, h3, h4, h5, h6, h7, h8⟩ := (three_iff a b s m g).1 h
  have hl := hp.length_eq
  rw [List.length_cons, List.length_map, List.length_map, List.length_append, List.length_append] at hl
  have hgs : (g'.length : Int) ≤ ghostsN a b ∧ (∀ x ∈ g', 0 ≤ x ∧ x ≤ 4294967295) ∧ g'.Nodup := by
    rcases hg with rfl | rfl
    · exact ⟨h4, h7, h8⟩
    · have := haunt_keep h1 h2 h4 h7 h8 (hashV k) (hashV_range k)
      exact ⟨this.1, this.2.1, this.2.2.1⟩
  refine (three_iff a b s' m' g').2 ⟨h1, h2, by omega, hgs.1, fun x hx => ?_, ?_, hgs.2.1, hgs.2.2⟩
  · obtain ⟨y, hy, e⟩ := List.mem_map.1 (hp.mem_iff.2 (List.mem_cons_of_mem _ (List.mem_map.2 ⟨x, hx, rfl⟩)))
    exact itemOk_kv (h5 y hy) e.symm (hf x hx)
  · rw [keys_kv] at h6 ⊢
    have := (hp.map Prod.fst).nodup_iff.1 h6
    rw [List.map_cons] at this
    exact (List.nodup_cons.1 this).2
theorem coreE_keep {a b : Int} {s m : List IT} {g : List Int} (h : threeOk a b s m g = true) (hn : 0 < s.length + m.length) : threeOk a b (coreE a b s m g).2.2.1 (coreE a b s m g).2.2.2.1 (coreE a b s m g).2.2.2.2.1 = true := by
  obtain ⟨_, k, ⟨v, hv⟩, hg⟩ := coreE_perm h hn
  exact gone_keep h hv k hg
theorem at_not (l : List IT) (x : ByteArray) (h : ¬ 0 ≤ atI l x) : ¬ x ∈ l.map fun y => y.f0 := fun hm => by
  obtain ⟨y, hy, e⟩ := List.mem_map.1 hm
  have : (l.any fun y => decide (y.f0 = x)) = true := List.any_eq_true.2 ⟨y, hy, decide_eq_true e⟩
  unfold atI at h
  rw [if_pos this] at h
  omega
theorem place_keep {a b : Int} {s m : List IT} {g : List Int} (h : threeOk a b s m g = true) (x v : ByteArray) (hr : (s.length : Int) + (m.length : Int) < a) (hx : ¬ x ∈ (s ++ m).map fun y => y.f0) (hi : itemOk x v 0 = true) (l : List ByteArray) : threeOk a b (placeV a b s m g x v l).2.2.1 (placeV a b s m g x v l).2.2.2.1 (placeV a b s m g x v l).2.2.2.2.1 = true ∧ (((placeV a b s m g x v l).2.2.1 ++ (placeV a b s m g x v l).2.2.2.1).map kv).Perm ((x, v) :: (s ++ m).map kv) ∧ (placeV a b s m g x v l).1 = a ∧ (placeV a b s m g x v l).2.1 = b ∧ (placeV a b s m g x v l).2.2.2.2.2 = (l, true) := by
  obtain ⟨h1, h2, h3, h4, h5, h6, h7, h8⟩ := (three_iff a b s m g).1 h
  have nd : (x :: (s ++ m).map fun y => y.f0).Nodup := List.nodup_cons.2 ⟨hx, h6⟩
  have hg := but_keep (h := hashV x) h7 h8
  have hbl := but_len g (hashV x)
  have key : ∀ (s' m' : List IT) (g' : List Int), (s' ++ m').Perm (⟨x, v, 0⟩ :: (s ++ m)) → (g'.length : Int) ≤ ghostsN a b → (∀ x ∈ g', 0 ≤ x ∧ x ≤ 4294967295) → g'.Nodup → threeOk a b s' m' g' = true := fun s' m' g' hp k1 k2 k3 => by
    have hl := hp.length_eq
    rw [List.length_cons, List.length_append, List.length_append] at hl
    refine (three_iff a b s' m' g').2 ⟨h1, h2, by omega, k1, fun y hy => ?_, ?_, k2, k3⟩
    · rcases List.mem_cons.1 (hp.mem_iff.1 hy) with rfl | hy
      · exact hi
      · exact h5 y hy
    · exact (hp.map (fun y : IT => y.f0)).nodup_iff.2 nd
  unfold placeV
  split
  · have hp : (s ++ (m ++ [(⟨x, v, 0⟩ : IT)])).Perm (⟨x, v, 0⟩ :: (s ++ m)) := by rw [← List.append_assoc]; exact List.perm_append_singleton _ _
    exact ⟨key _ _ _ hp (show ((but g (hashV x)).length : Int) ≤ ghostsN a b by omega) hg.1 hg.2.1, hp.map kv, rfl, rfl, rfl⟩
  · have hp : ((s ++ [(⟨x, v, 0⟩ : IT)]) ++ m).Perm (⟨x, v, 0⟩ :: (s ++ m)) := by rw [List.append_assoc]; exact List.perm_middle
    exact ⟨key _ _ _ hp h4 h7 h8, hp.map kv, rfl, rfl, rfl⟩
theorem mn3 (f : Int) (h0 : 0 ≤ f) (h1 : f ≤ 3) : 0 ≤ mn 3 (wrap64 (f + 1)) ∧ mn 3 (wrap64 (f + 1)) ≤ 3 := by
  rw [w64 (x := f + 1) (by omega) (by omega)]
  unfold mn; split <;> omega
/-- A row in which one item's value and number are told anew. -/
theorem set_keys (l : List IT) (i : Nat) (hi : i < l.length) (v : ByteArray) (f : Int) : ((l.set i ⟨(rdI l i).f0, v, f⟩).map fun x => x.f0) = l.map fun x => x.f0 := by
  rw [List.map_set]
  have : (rdI l i).f0 = (l.map fun x => x.f0)[i]'(by rw [List.length_map]; exact hi) := by rw [List.getElem_map, rdI_get l i hi]
  simp only
  rw [this, List.set_getElem_self]
theorem set_kv (l : List IT) (i : Nat) (hi : i < l.length) (f : Int) : (l.set i ⟨(rdI l i).f0, (rdI l i).f1, f⟩).map kv = l.map kv := by
  rw [List.map_set]
  have : kv ⟨(rdI l i).f0, (rdI l i).f1, f⟩ = (l.map kv)[i]'(by rw [List.length_map]; exact hi) := by rw [List.getElem_map, rdI_get l i hi]; rfl
  rw [this, List.set_getElem_self]
theorem set_keep {a b : Int} {s m s' m' : List IT} {g : List Int} (h : threeOk a b s m g = true) (hk : ((s' ++ m').map fun x => x.f0) = (s ++ m).map fun x => x.f0) (hl : (s'.length : Int) + m'.length = s.length + m.length) (hi : ∀ x ∈ s' ++ m', x ∈ s ++ m ∨ itemOk x.f0 x.f1 x.f2 = true) : threeOk a b s' m' g = true := by
  obtain ⟨h1, h2, h3, h4, h5, h6, h7, h8⟩ := (three_iff a b s m g).1 h
  exact (three_iff a b s' m' g).2 ⟨h1, h2, by omega, h4, fun x hx => (hi x hx).elim (h5 x) id, by rw [hk]; exact h6, h7, h8⟩
theorem itemOk_f {x v : ByteArray} {f f' : Int} (h : itemOk x v f = true) (hf : 0 ≤ f' ∧ f' ≤ 3) : itemOk x v f' = true := by
  unfold itemOk at *
  simp only [Bool.and_eq_true, decide_eq_true_eq] at *
  exact ⟨⟨h.1.1, hf.1⟩, hf.2⟩
theorem touch_set (l : List IT) (i : Nat) (v : ByteArray) (h : i < l.length) : touch (setV l i v) i = l.set i ⟨(rdI l i).f0, v, mn 3 (wrap64 ((rdI l i).f2 + 1))⟩ := by
  have e : rdI (setV l i v) i = ⟨(rdI l i).f0, v, (rdI l i).f2⟩ := by
    rw [rdI_get _ i (by unfold setV; rw [List.length_set]; exact h)]
    unfold setV; rw [List.getElem_set_self]
  unfold touch; rw [e]; unfold setV; rw [List.set_set]
/-- One item of Small, or of Main, is told anew. -/
theorem set_left {a b : Int} {s m : List IT} {g : List Int} (h : threeOk a b s m g = true) (i : Nat) (hi : i < s.length) (v : ByteArray) (f : Int) (ho : itemOk (rdI s i).f0 v f = true) : threeOk a b (s.set i ⟨(rdI s i).f0, v, f⟩) m g = true := by
  refine set_keep h (by rw [List.map_append, set_keys s i hi, List.map_append]) (by rw [List.length_set]) fun x hx => ?_
  rcases List.mem_append.1 hx with hx | hx
  · rcases List.mem_or_eq_of_mem_set hx with hx | rfl
    · exact .inl (List.mem_append_left _ hx)
    · exact .inr ho
  · exact .inl (List.mem_append_right _ hx)
theorem set_right {a b : Int} {s m : List IT} {g : List Int} (h : threeOk a b s m g = true) (i : Nat) (hi : i < m.length) (v : ByteArray) (f : Int) (ho : itemOk (rdI m i).f0 v f = true) : threeOk a b s (m.set i ⟨(rdI m i).f0, v, f⟩) g = true := by
  refine set_keep h (by rw [List.map_append, set_keys m i hi, List.map_append]) (by rw [List.length_set]) fun x hx => ?_
  rcases List.mem_append.1 hx with hx | hx
  · exact .inl (List.mem_append_left _ hx)
  · rcases List.mem_or_eq_of_mem_set hx with hx | rfl
    · exact .inl (List.mem_append_right _ hx)
    · exact .inr ho
theorem ok_at {a b : Int} {s m : List IT} {g : List Int} (h : threeOk a b s m g = true) : (∀ i, i < s.length → itemOk (rdI s i).f0 (rdI s i).f1 (rdI s i).f2 = true ∧ 0 ≤ (rdI s i).f2 ∧ (rdI s i).f2 ≤ 3) ∧ (∀ i, i < m.length → itemOk (rdI m i).f0 (rdI m i).f1 (rdI m i).f2 = true ∧ 0 ≤ (rdI m i).f2 ∧ (rdI m i).f2 ≤ 3) := by
  have h5 := ((three_iff a b s m g).1 h).2.2.2.2.1
  have ho := okF_all h
  refine ⟨fun i hi => ?_, fun i hi => ?_⟩
  · have hm : rdI s i ∈ s ++ m := List.mem_append_left _ (by rw [rdI_get s i hi]; exact List.getElem_mem hi)
    exact ⟨h5 _ hm, ho _ hm⟩
  · have hm : rdI m i ∈ s ++ m := List.mem_append_right _ (by rw [rdI_get m i hi]; exact List.getElem_mem hi)
    exact ⟨h5 _ hm, ho _ hm⟩
theorem get_keep {a b : Int} {s m : List IT} {g : List Int} (h : threeOk a b s m g = true) (x : ByteArray) : threeOk a b (getV a b s m g x).2.2.1 (getV a b s m g x).2.2.2.1 (getV a b s m g x).2.2.2.2.1 = true ∧ ((getV a b s m g x).2.2.1 ++ (getV a b s m g x).2.2.2.1).map kv = (s ++ m).map kv ∧ (getV a b s m g x).1 = a ∧ (getV a b s m g x).2.1 = b := by
  obtain ⟨ho1, ho2⟩ := ok_at h
  unfold getV
  rw [if_pos h]
  by_cases d1 : 0 ≤ atI s x
  · obtain ⟨i, ei, hi, _⟩ := at_lt s x d1
    rw [if_pos d1, ei, Int.toNat_natCast]
    have o := ho1 i hi
    refine ⟨set_left h i hi _ _ (itemOk_f o.1 (mn3 _ o.2.1 o.2.2)), ?_, rfl, rfl⟩
    simp only [touch]
    rw [List.map_append, set_kv s i hi, List.map_append]
  · rw [if_neg d1]
    by_cases d2 : 0 ≤ atI m x
    · obtain ⟨i, ei, hi, _⟩ := at_lt m x d2
      rw [if_pos d2, ei, Int.toNat_natCast]
      have o := ho2 i hi
      refine ⟨set_right h i hi _ _ (itemOk_f o.1 (mn3 _ o.2.1 o.2.2)), ?_, rfl, rfl⟩
      simp only [touch]
      rw [List.map_append, set_kv m i hi, List.map_append]
    · rw [if_neg d2]; exact ⟨h, rfl, rfl, rfl⟩
theorem set_mem {α β : Type} (l : List (α × β)) (i : Nat) (hi : i < l.length) (x : α) (v : β) (hx : (l[i]).1 = x) (K : α) (V : β) (hK : K ≠ x) : (K, V) ∈ l.set i (x, v) ↔ (K, V) ∈ l := by
  constructor
  · intro h
    rcases List.mem_or_eq_of_mem_set h with h | h
    · exact h
    · exact absurd (congrArg Prod.fst h) hK
  · intro h
    obtain ⟨j, hj, e⟩ := List.getElem_of_mem h
    refine List.mem_iff_getElem.2 ⟨j, by rw [List.length_set]; exact hj, ?_⟩
    rw [List.getElem_set_ne (by rintro rfl; exact hK (by rw [← hx, e])), e]
theorem touchV_mem {s : List IT} (i : Nat) (hi : i < s.length) (v : ByteArray) (f : Int) (K V : ByteArray) (hK : K ≠ (rdI s i).f0) : (K, V) ∈ (s.set i ⟨(rdI s i).f0, v, f⟩).map kv ↔ (K, V) ∈ s.map kv := by
  rw [List.map_set]
  exact set_mem _ i (by rw [List.length_map]; exact hi) _ v (by rw [List.getElem_map, rdI_get s i hi]; rfl) K V hK
theorem key_of {l : List IT} {K V : ByteArray} (h : (K, V) ∈ l.map kv) : K ∈ l.map fun x => x.f0 := by rw [keys_kv]; exact List.mem_map.2 ⟨_, h, rfl⟩
theorem of_key {l : List IT} {K : ByteArray} (h : K ∈ l.map fun x => x.f0) : ∃ V, (K, V) ∈ l.map kv := by
  rw [keys_kv] at h
  obtain ⟨⟨k, v⟩, hm, rfl⟩ := List.mem_map.1 h
  exact ⟨v, hm⟩
/-- What Put leaves: a right cache, the key with its value, all others but who is gone. -/
def Kept1 (a b : Int) (s m : List IT) (x v : ByteArray) (r : PutT) : Prop := threeOk a b r.2.2.1 r.2.2.2.1 r.2.2.2.2.1 = true ∧ r.1 = a ∧ r.2.1 = b ∧ r.2.2.2.2.2.2 = true ∧ r.2.2.2.2.2.1.length ≤ 1 ∧ (x, v) ∈ (r.2.2.1 ++ r.2.2.2.1).map kv ∧ ∀ K V, K ≠ x → ((K, V) ∈ (r.2.2.1 ++ r.2.2.2.1).map kv ↔ (K, V) ∈ (s ++ m).map kv ∧ ¬ K ∈ r.2.2.2.2.2.1)
theorem put_keep {a b : Int} {s m : List IT} {g : List Int} (h : threeOk a b s m g = true) (x v : ByteArray) (hi : itemOk x v 0 = true) : Kept1 a b s m x v (putV a b s m g x v) := by
  obtain ⟨ho1, ho2⟩ := ok_at h
  obtain ⟨h1, h2, h3, h4, h5, h6, h7, h8⟩ := (three_iff a b s m g).1 h
  unfold putV
  rw [if_pos ⟨h, hi⟩]
  unfold putC
  by_cases d1 : 0 ≤ atI s x
  · obtain ⟨i, ei, hl, ex⟩ := at_lt s x d1
    rw [if_pos d1, ei, Int.toNat_natCast, touch_set s i v hl]
    have o := ho1 i hl
    have oi : itemOk (rdI s i).f0 v (mn 3 (wrap64 ((rdI s i).f2 + 1))) = true := by rw [ex]; exact itemOk_f hi (mn3 _ o.2.1 o.2.2)
    refine ⟨set_left h i hl _ _ oi, rfl, rfl, rfl, Nat.zero_le _, ?_, fun K V hK => ?_⟩
    · refine List.mem_map.2 ⟨⟨(rdI s i).f0, v, mn 3 (wrap64 ((rdI s i).f2 + 1))⟩, List.mem_append_left _ ?_, by rw [ex]; rfl⟩
      exact List.mem_iff_getElem.2 ⟨i, by rw [List.length_set]; exact hl, by rw [List.getElem_set_self]⟩
    · simp only [List.map_append, List.mem_append]
      rw [touchV_mem i hl v _ K V (by rw [ex]; exact hK)]
      simp
  rw [if_neg d1]
  by_cases d2 : 0 ≤ atI m x
  · obtain ⟨i, ei, hl, ex⟩ := at_lt m x d2
    rw [if_pos d2, ei, Int.toNat_natCast, touch_set m i v hl]
    have o := ho2 i hl
    have oi : itemOk (rdI m i).f0 v (mn 3 (wrap64 ((rdI m i).f2 + 1))) = true := by rw [ex]; exact itemOk_f hi (mn3 _ o.2.1 o.2.2)
    refine ⟨set_right h i hl _ _ oi, rfl, rfl, rfl, Nat.zero_le _, ?_, fun K V hK => ?_⟩
    · refine List.mem_map.2 ⟨⟨(rdI m i).f0, v, mn 3 (wrap64 ((rdI m i).f2 + 1))⟩, List.mem_append_right _ ?_, by rw [ex]; rfl⟩
      exact List.mem_iff_getElem.2 ⟨i, by rw [List.length_set]; exact hl, by rw [List.getElem_set_self]⟩
    · simp only [List.map_append, List.mem_append]
      rw [touchV_mem i hl v _ K V (by rw [ex]; exact hK)]
      simp
  rw [if_neg d2]
  have hx : ¬ x ∈ (s ++ m).map fun y => y.f0 := fun hm => by
    rw [List.map_append] at hm
    rcases List.mem_append.1 hm with hm | hm
    · exact at_not s x d1 hm
    · exact at_not m x d2 hm
  unfold newV
  by_cases e : (s.length : Int) + (m.length : Int) ≥ a
  · rw [if_pos e]
    have hn : 0 < s.length + m.length := by omega
    have hab := coreE_ab a b s m g
    have hk := coreE_keep h hn
    obtain ⟨_, _, ⟨w, hp⟩, _⟩ := coreE_perm h hn
    have hlt := coreE_less h hn
    have hpk : ((s ++ m).map fun y => y.f0).Perm ((coreE a b s m g).2.2.2.2.2.1 :: (((coreE a b s m g).2.2.1 ++ (coreE a b s m g).2.2.2.1).map fun y => y.f0)) := by rw [keys_kv, keys_kv]; exact hp.map Prod.fst
    rw [hab.1, hab.2]
    obtain ⟨p1, p2, p3, p4, p5⟩ := place_keep hk x v (by omega) (fun hm => hx (hpk.mem_iff.2 (List.mem_cons_of_mem _ hm))) hi [(coreE a b s m g).2.2.2.2.2.1]
    have nd := hpk.nodup_iff.1 h6
    refine ⟨p1, p3, p4, congrArg Prod.snd p5, by rw [congrArg Prod.fst p5]; simp, p2.mem_iff.2 (List.mem_cons_self ..), fun K V hK => ?_⟩
    rw [p2.mem_iff, congrArg Prod.fst p5, hp.mem_iff, List.mem_cons, List.mem_cons, List.mem_singleton]
    constructor
    · rintro (q | q)
      · exact absurd (congrArg Prod.fst q) hK
      · exact ⟨.inr q, fun q2 => (List.nodup_cons.1 nd).1 (by rw [← q2]; exact key_of q)⟩
    · rintro ⟨q | q, q2⟩
      · exact absurd (congrArg Prod.fst q) q2
      · exact .inr q
  · rw [if_neg e]
    obtain ⟨p1, p2, p3, p4, p5⟩ := place_keep h x v (by omega) hx hi []
    refine ⟨p1, p3, p4, congrArg Prod.snd p5, by rw [congrArg Prod.fst p5]; simp, p2.mem_iff.2 (List.mem_cons_self ..), fun K V hK => ?_⟩
    rw [p2.mem_iff, congrArg Prod.fst p5, List.mem_cons]
    constructor
    · rintro (q | q)
      · exact absurd (congrArg Prod.fst q) hK
      · exact ⟨q, by simp⟩
    · exact fun q => .inr q.1
def sans (l : List S68) (x : ByteArray) : List S68 := l.filter fun y => !decide (y.f0 = x)
theorem spec_Without_ev (l : List S68) (x : ByteArray) (hl : l.length ≤ 1048576) : Ev (fun k => F56.f k l x) (sans l x) := by
  have key := Ev.scan (fun k (s : List S68) i => F56.l0 k x s l (l.length : Int) i) l.length (fun i s => s.length ≤ i) (fun i s => s ++ sans (l.drop i) x)
    (fun s _ => Ev.some_ fun k => by
      simp only [F56.l0]; rw [if_neg (by omega), List.drop_eq_nil_of_le (Nat.le_refl _)]; simp [sans])
    (fun i s hi hs => by
      have hd : l.drop i = rdI l i :: l.drop (i + 1) := by rw [rdI_get l i hi]; exact List.drop_eq_getElem_cons hi
      have h0 : ∀ k, F56.l0 (k + 1) x s l (l.length : Int) (i : Int) = if (rdI l i).f0 = x then F56.l0 k x s l (l.length : Int) ((i + 1 : Nat) : Int) else F56.l0 k x (s ++ [rdI l i]) l (l.length : Int) ((i + 1 : Nat) : Int) := fun k => by
        simp only [F56.l0]; rw [if_pos (by omega), if_pos (by omega), if_pos (by omega), w64s hi (by omega), if_pos (show s.length < 3518437208883 by omega)]
        by_cases c : (rdI l i).f0 = x
        · rw [if_pos c, if_pos (show (rd_T68 l (i : Int)).f0.toList = x.toList from toList_inj.2 c)]
        · rw [if_neg c, if_neg (show ¬ (rd_T68 l (i : Int)).f0.toList = x.toList from fun h => c (toList_inj.1 h))]; rfl
      by_cases c : (rdI l i).f0 = x
      · refine .inr ⟨s, by omega, ?_, EvE.of fun k => by simp only [h0]; rw [if_pos c]⟩
        rw [hd]; unfold sans; rw [List.filter_cons_of_neg (by simpa using c)]
      · refine .inr ⟨s ++ [rdI l i], by simp; omega, ?_, EvE.of fun k => by simp only [h0]; rw [if_neg c]⟩
        rw [hd]; unfold sans; rw [List.filter_cons_of_pos (by simpa using c)]; simp) 0 [] (Nat.zero_le _) (Nat.le_refl _)
  simpa [F56.f] using key
theorem impl_sans (l : List S68) (x : ByteArray) : F3.f l x = some (sans l x) := by
  unfold F3.f
  cases l with
  | nil => rfl
  | cons y l => rw [if_pos (by simp)]; rfl
theorem sans_keep {a b : Int} {s m : List IT} {g : List Int} (h : threeOk a b s m g = true) (x : ByteArray) : threeOk a b (sans s x) (sans m x) g = true ∧ ∀ K V, (K, V) ∈ (sans s x ++ sans m x).map kv ↔ (K, V) ∈ (s ++ m).map kv ∧ K ≠ x := by
  obtain ⟨h1, h2, h3, h4, h5, h6, h7, h8⟩ := (three_iff a b s m g).1 h
  have e : sans s x ++ sans m x = (s ++ m).filter fun y => !decide (y.f0 = x) := by unfold sans; rw [List.filter_append]
  have e1 : (sans s x).length ≤ s.length := List.length_filter_le _ _
  have e2 : (sans m x).length ≤ m.length := List.length_filter_le _ _
  refine ⟨(three_iff a b _ _ g).2 ⟨h1, h2, by omega, h4, ?_, ?_, h7, h8⟩, fun K V => ?_⟩
  · rw [e]; exact fun y hy => h5 y (List.mem_filter.1 hy).1
  · rw [e]; exact List.Pairwise.sublist (List.Sublist.map _ List.filter_sublist) h6
  · rw [e]
    constructor
    · intro hm
      obtain ⟨y, hy, q⟩ := List.mem_map.1 hm
      obtain ⟨hy, c⟩ := List.mem_filter.1 hy
      refine ⟨List.mem_map.2 ⟨y, hy, q⟩, fun r => ?_⟩
      have q1 : y.f0 = K := congrArg Prod.fst q
      rw [q1, r] at c; simp at c
    · rintro ⟨hm, c⟩
      obtain ⟨y, hy, q⟩ := List.mem_map.1 hm
      have q1 : y.f0 = K := congrArg Prod.fst q
      exact List.mem_map.2 ⟨y, List.mem_filter.2 ⟨hy, by rw [q1]; simp [c]⟩, q⟩
theorem more_ev (f : Int) (h0 : 0 ≤ f) (h1 : f ≤ 3) : F52.f f = some (mn 3 (wrap64 (f + 1))) := by
  unfold F52.f mn
  rw [w64 (x := f + 1) (by omega) (by omega)]
  by_cases c : f ≥ 3
  · rw [if_pos c, if_neg (by omega)]
  · rw [if_neg c]
    by_cases d : f + 1 < 3
    · rw [if_pos d]
    · rw [if_neg d]; congr 1; omega
theorem spec_Touch_ev (a b : Int) (s m : List S68) (g : List Int) (x v : ByteArray) (h : threeOk a b s m g = true) : Ev (fun k => F54.f k a b s m g x true v) (if 0 ≤ atI s x then (a, b, touch (setV s (atI s x).toNat v) (atI s x).toNat, m, g, v, true) else if 0 ≤ atI m x then (a, b, s, touch (setV m (atI m x).toNat v) (atI m x).toNat, g, v, true) else (a, b, s, m, g, ⟨#[]⟩, false)) := by
  have hl := three_len h
  have ha := three_are h
  have h1 := spec_l10At_ev s x (by omega)
  have h2 := spec_l10At_ev m x (by omega)
  refine (evA h1 (evA h2 (⟨3, fun k h => h⟩ : EvP fun k => 3 ≤ k))).ev fun k ⟨e1, e2, hk⟩ => ?_
  obtain ⟨n, rfl⟩ : ∃ n, k = n + 3 := ⟨k - 3, by omega⟩
  simp only [F54.f, e1, e2, Option.bind_some]
  by_cases c : 0 ≤ atI s x
  · have nb := not_both ha x c
    obtain ⟨i, ei, hi, _⟩ := at_lt s x c
    have hf := (ok_are _ ha i (by rw [List.length_append]; omega)).2
    rw [rdI_left s m i hi] at hf
    have hm' := more_ev (rd_T68 s (i : Int)).f2 hf.1 hf.2
    rw [if_pos c]
    rw [ei] at c ⊢
    rw [if_pos (show (i : Int) ≥ 0 from c), if_pos c, if_pos (by omega)]
    simp only [F54.j0, F54.j1, F54.j2]
    rw [if_neg (show ¬ atI m x ≥ 0 from nb), if_neg (show ¬ (i : Int) < 0 by omega)]
    simp only [Bool.false_eq_true, if_false]
    rw [hm', Option.bind_some, if_pos trivial, if_pos (show (i : Int) ≥ 0 from c), if_pos c, if_pos (by omega), Int.toNat_natCast, touch_set s i v hi]
    rfl
  · rw [if_neg c]
    rw [if_neg (show ¬ atI s x ≥ 0 from c)]
    by_cases d : 0 ≤ atI m x
    · obtain ⟨j, ej, hj, _⟩ := at_lt m x d
      have hf := (ok_are _ ha (s.length + j) (by rw [List.length_append]; omega)).2
      rw [rdI_right s m j hj] at hf
      have hm' := more_ev (rd_T68 m (j : Int)).f2 hf.1 hf.2
      rw [if_pos d]
      rw [ej] at d ⊢
      simp only [F54.j0, F54.j1, F54.j2]
      rw [if_pos (show (j : Int) ≥ 0 from d), if_pos d, if_pos (by omega), if_pos (show atI s x < 0 by omega), decide_eq_false (show ¬ (j : Int) < 0 by omega)]
      simp only [Bool.false_eq_true, if_false]
      rw [hm', Option.bind_some, if_pos trivial, if_neg (show ¬ atI s x ≥ 0 from c), if_pos d, if_pos (by omega), Int.toNat_natCast, touch_set m j v hj]
      rfl
    · rw [if_neg d]
      simp only [F54.j0, F54.j1, F54.j2]
      rw [if_neg (show ¬ atI m x ≥ 0 from d), if_pos (show atI s x < 0 by omega), decide_eq_true (show atI m x < 0 by omega)]
      simp only [if_true]
theorem spec_place_ev (a b : Int) (s m : List S68) (g : List Int) (x v : ByteArray) (gone : List ByteArray) (hx : x.size ≤ 9223372036854775807) (h1 : s.length ≤ 1048576) (h2 : m.length ≤ 1048576) (h3 : g.length ≤ 1048576) (hn : ¬ wrap64 ((s.length : Int) + (m.length : Int)) ≥ a) : Ev (fun k => F34.l0 k x v gone a b s m g) (placeV a b s m g x v gone) := by
  refine Ev.up (g := fun _ => some (placeV a b s m g x v gone)) ((evA (spec_Hash_ev x hx) (evA (spec_l03Has_ev g (hashV x) h3) (evP (spec_but_ev g (hashV x) h3)))).eve fun k ⟨e1, e2, e3⟩ => ?_) (Ev.now _)
  simp only [F34.l0, e1, e2, e3, Option.bind_some]
  rw [if_neg hn]
  unfold placeV
  cases hasN g (hashV x) with
  | true => simp only [if_true]; rw [if_pos (by omega)]
  | false => simp only [Bool.false_eq_true, if_false]; rw [if_pos (by omega)]
theorem spec_Put_ev (a b : Int) (s m : List S68) (g : List Int) (x v : ByteArray) (hx : x.size ≤ 9223372036854775807) (hv : v.size ≤ 9223372036854775807) (hg : g.length ≤ 1048576) (hl : SmallI (s ++ m)) : Ev (fun k => F34.f k a b s m g x v) (putV a b s m g x v) := by
  have hl1 := hl.1
  rw [List.length_append] at hl1
  have hO := spec_ThreeOk_ev a b s m g hg hl
  have hI := spec_ItemOk_ev x v 0 hx hv
  have hno : Ev (fun k => F34.j0 k x v true a b s m g) ((0, 0, [], [], [], [], false) : PutT) := Ev.up (g := fun _ => some _) (EvE.of fun k => by simp only [F34.j0, if_true]) (Ev.now _)
  unfold putV
  by_cases c : threeOk a b s m g = true
  case neg =>
    rw [if_neg (fun h => c h.1)]
    refine (evA hO (evP hno)).ev fun k ⟨e1, e2⟩ => ?_
    simp only [F34.f, e1, Option.bind_some]
    rw [if_neg c, e2]
  by_cases d : itemOk x v 0 = true
  case neg =>
    rw [if_neg (fun h => d h.2)]
    rw [Bool.not_eq_true] at d
    rw [d] at hI
    refine (evA hO (evA hI (evP hno))).ev fun k ⟨e1, e2, e3⟩ => ?_
    simp only [F34.f, e1, e2, Option.bind_some]
    rw [if_pos c]; simpa using e3
  rw [if_pos ⟨c, d⟩]
  rw [d] at hI
  have h3 := three_len c
  suffices hyes : Ev (fun k => F34.j0 k x v false a b s m g) (putC a b s m g x v) by
    refine (evA hO (evA hI (evP hyes))).ev fun k ⟨e1, e2, e3⟩ => ?_
    simp only [F34.f, e1, e2, Option.bind_some]
    rw [if_pos c]; simpa using e3
  have ha : a ≤ 60 ∧ 1 ≤ a ∧ (s.length : Int) + (m.length : Int) ≤ a := by
    have c' := c
    unfold threeOk at c'
    simp only [Bool.and_eq_true, decide_eq_true_eq] at c'
    omega
  have hw : wrap64 ((s.length : Int) + (m.length : Int)) = (s.length : Int) + (m.length : Int) := w64 (by omega) (by omega)
  have ht := spec_Touch_ev a b s m g x v c
  unfold putC
  by_cases d1 : 0 ≤ atI s x
  · rw [if_pos d1] at ht ⊢
    refine Ev.up (g := fun _ => some _) ((evP ht).eve fun k e1 => ?_) (Ev.now _)
    simp only [F34.j0, Bool.false_eq_true, if_false, spec_copy3 a b s m g (by omega) (by omega) hg, Option.bind_some, e1, if_true]
  rw [if_neg d1] at ht ⊢
  by_cases d2 : 0 ≤ atI m x
  · rw [if_pos d2] at ht ⊢
    refine Ev.up (g := fun _ => some _) ((evP ht).eve fun k e1 => ?_) (Ev.now _)
    simp only [F34.j0, Bool.false_eq_true, if_false, spec_copy3 a b s m g (by omega) (by omega) hg, Option.bind_some, e1, if_true]
  rw [if_neg d2] at ht ⊢
  refine Ev.up (g := fun k => F34.l0 k x v [] a b s m g) ((evP ht).eve fun k e1 => ?_) ?_
  · simp only [F34.j0, Bool.false_eq_true, if_false, spec_copy3 a b s m g (by omega) (by omega) hg, Option.bind_some, e1]
  unfold newV
  by_cases e : (s.length : Int) + (m.length : Int) ≥ a
  · rw [if_pos e]
    have hab := coreE_ab a b s m g
    have hn := coreE_len a b s m g
    have hlt := coreE_less c (by omega)
    have hw2 : ¬ wrap64 (((coreE a b s m g).2.2.1.length : Int) + ((coreE a b s m g).2.2.2.1.length : Int)) ≥ (coreE a b s m g).1 := by rw [hab.1, w64 (by omega) (by omega)]; omega
    have hE := spec_Evict_ev a b s m g hg hl
    unfold evictV at hE
    rw [if_pos c] at hE
    refine Ev.up ((evP hE).eve fun k e1 => ?_) (spec_place_ev (coreE a b s m g).1 (coreE a b s m g).2.1 (coreE a b s m g).2.2.1 (coreE a b s m g).2.2.2.1 (coreE a b s m g).2.2.2.2.1 x v [(coreE a b s m g).2.2.2.2.2.1] hx (by omega) (by omega) (by omega) hw2)
    rw [F34.l0.eq_2, hw, if_pos e, e1, Option.bind_some, if_pos (by simp)]
    rfl
  · rw [if_neg e]
    exact spec_place_ev a b s m g x v [] hx (by omega) (by omega) hg (by rw [hw]; exact e)
theorem spec_TouchG_ev (a b : Int) (s m : List S68) (g : List Int) (x : ByteArray) (h : threeOk a b s m g = true) : Ev (fun k => F54.f k a b s m g x false (⟨#[]⟩ : ByteArray)) (if 0 ≤ atI s x then (a, b, touch s (atI s x).toNat, m, g, (rd_T68 s (atI s x)).f1, true) else if 0 ≤ atI m x then (a, b, s, touch m (atI m x).toNat, g, (rd_T68 m (atI m x)).f1, true) else (a, b, s, m, g, ⟨#[]⟩, false)) := by
  have hl := three_len h
  have ha := three_are h
  have h1 := spec_l10At_ev s x (by omega)
  have h2 := spec_l10At_ev m x (by omega)
  refine (evA h1 (evA h2 (⟨3, fun k h => h⟩ : EvP fun k => 3 ≤ k))).ev fun k ⟨e1, e2, hk⟩ => ?_
  obtain ⟨n, rfl⟩ : ∃ n, k = n + 3 := ⟨k - 3, by omega⟩
  simp only [F54.f, e1, e2, Option.bind_some]
  by_cases c : 0 ≤ atI s x
  · have nb := not_both ha x c
    obtain ⟨i, ei, hi, _⟩ := at_lt s x c
    have hf := (ok_are _ ha i (by rw [List.length_append]; omega)).2
    rw [rdI_left s m i hi] at hf
    have hm' := more_ev (rd_T68 s (i : Int)).f2 hf.1 hf.2
    rw [if_pos c]
    rw [ei] at c ⊢
    rw [if_pos (show (i : Int) ≥ 0 from c), if_pos c, if_pos (by omega)]
    simp only [F54.j0, F54.j1, F54.j2]
    rw [if_neg (show ¬ atI m x ≥ 0 from nb), if_neg (show ¬ (i : Int) < 0 by omega)]
    simp only [Bool.false_eq_true, if_false]
    rw [hm', Option.bind_some, if_pos (show (i : Int) ≥ 0 from c), if_pos c, if_pos (by omega), Int.toNat_natCast]
    rfl
  · rw [if_neg c]
    rw [if_neg (show ¬ atI s x ≥ 0 from c)]
    by_cases d : 0 ≤ atI m x
    · obtain ⟨j, ej, hj, _⟩ := at_lt m x d
      have hf := (ok_are _ ha (s.length + j) (by rw [List.length_append]; omega)).2
      rw [rdI_right s m j hj] at hf
      have hm' := more_ev (rd_T68 m (j : Int)).f2 hf.1 hf.2
      rw [if_pos d]
      rw [ej] at d ⊢
      simp only [F54.j0, F54.j1, F54.j2]
      rw [if_pos (show (j : Int) ≥ 0 from d), if_pos d, if_pos (by omega), if_pos (show atI s x < 0 by omega), decide_eq_false (show ¬ (j : Int) < 0 by omega)]
      simp only [Bool.false_eq_true, if_false]
      rw [hm', Option.bind_some, if_neg (show ¬ atI s x ≥ 0 from c), if_pos d, if_pos (by omega), Int.toNat_natCast]
      rfl
    · rw [if_neg d]
      simp only [F54.j0, F54.j1, F54.j2]
      rw [if_neg (show ¬ atI m x ≥ 0 from d), if_pos (show atI s x < 0 by omega), decide_eq_true (show atI m x < 0 by omega)]
      simp only [if_true]
theorem spec_Get_ev (a b : Int) (s m : List S68) (g : List Int) (x : ByteArray) (hg : g.length ≤ 1048576) (hl : SmallI (s ++ m)) : Ev (fun k => F29.f k a b s m g x) (getV a b s m g x) := by
  have hl1 := hl.1
  rw [List.length_append] at hl1
  have hO := spec_ThreeOk_ev a b s m g hg hl
  unfold getV
  by_cases c : threeOk a b s m g = true
  · rw [if_pos c]
    refine (evA hO (evP (spec_TouchG_ev a b s m g x c))).ev fun k ⟨e1, e2⟩ => ?_
    simp only [F29.f, e1, spec_copy3 a b s m g (by omega) (by omega) hg, Option.bind_some, e2]
    rw [if_pos c]
  · rw [if_neg c]
    refine (evP hO).ev fun k e1 => ?_
    simp only [F29.f, e1, Option.bind_some]
    rw [if_neg c]
abbrev DropT := Int × Int × List S68 × List S68 × List Int × Bool
def dropV (a b : Int) (s m : List S68) (g : List Int) (x : ByteArray) : DropT := if threeOk a b s m g = true then (a, b, sans s x, sans m x, g, decide ((wrap64 (((sans s x).length : Int) + ((sans m x).length : Int))) < (wrap64 ((s.length : Int) + (m.length : Int))))) else (0, 0, [], [], [], false)
theorem spec_Drop_ev (a b : Int) (s m : List S68) (g : List Int) (x : ByteArray) (hg : g.length ≤ 1048576) (hl : SmallI (s ++ m)) : Ev (fun k => F25.f k a b s m g x) (dropV a b s m g x) := by
  have hl1 := hl.1
  rw [List.length_append] at hl1
  refine (evA (spec_ThreeOk_ev a b s m g hg hl) (evA (spec_Without_ev s x (by omega)) (evP (spec_Without_ev m x (by omega))))).ev fun k ⟨e1, e2, e3⟩ => ?_
  simp only [F25.f, e1, spec_copy3 a b s m g (by omega) (by omega) hg, Option.bind_some, e2, e3]
  unfold dropV
  split <;> rfl
theorem impl_Drop_ev (a b : Int) (s m : List S68) (g : List Int) (x : ByteArray) (hg : g.length ≤ 1048576) (hl : SmallI (s ++ m)) : Ev (fun k => F0.f k a b s m g x) (dropV a b s m g x) := by
  have hl1 := hl.1
  rw [List.length_append] at hl1
  refine (evP (impl_ThreeOk_ev a b s m g hg hl)).ev fun k e1 => ?_
  simp only [F0.f, e1, impl_copy3 a b s m g (by omega) (by omega) hg, Option.bind_some, impl_sans]
  unfold dropV
  split <;> rfl
theorem and255 (x : Int) : 0 ≤ Go.bits .and .i64 x 255 ∧ Go.bits .and .i64 x 255 ≤ 255 := by
  unfold Go.bits
  rw [Go.IntKind.wrap_i64]
  have h : ((BitVec.ofInt Go.IntKind.i64.bits x &&& BitVec.ofInt Go.IntKind.i64.bits 255).toNat) ≤ 255 := by
    rw [BitVec.toNat_and]; exact Nat.le_trans Nat.and_le_right (by decide)
  simp only
  omega
/-- A place in a code. -/
def At (c : List Int) (i : Int) : Prop := 0 ≤ i ∧ i ≤ (c.length : Int) ∧ c.length ≤ 1048576
theorem byte_some (c : List Int) (i h : Int) (hi : At c i) : ∃ b i' h', F38.f c i h = some (b, i', h') ∧ 0 ≤ b ∧ b ≤ 255 ∧ At c i' := by
  obtain ⟨h0, h1, h2⟩ := hi
  simp only [F38.f]
  by_cases c1 : i < (c.length : Int)
  · rw [if_pos c1, if_pos h0]
    refine ⟨_, _, _, rfl, (and255 _).1, (and255 _).2, ?_⟩
    rw [w64 (by omega) (by omega)]
    exact ⟨by omega, by omega, h2⟩
  · rw [if_neg c1]
    exact ⟨_, _, _, rfl, (and255 _).1, (and255 _).2, h0, h1, h2⟩
theorem below_some (c : List Int) (i h n : Int) (hi : At c i) (h1 : 1 ≤ n) (h2 : n ≤ 256) : ∃ b i' h', F37.f c i h n = some (b, i', h') ∧ 0 ≤ b ∧ b < n ∧ At c i' := by
  obtain ⟨b, i', h', e, b0, b1, ha⟩ := byte_some c i h hi
  refine ⟨b.tmod n, i', h', ?_, ?_, ?_, ha⟩
  · simp only [F37.f, e, Option.bind_some]
    rw [if_neg (by omega), if_pos h2, if_neg (by omega)]
  · rw [Int.tmod_eq_emod_of_nonneg b0]; exact Int.emod_nonneg _ (by omega)
  · rw [Int.tmod_eq_emod_of_nonneg b0]; exact Int.emod_lt_of_pos _ (by omega)
theorem new_some (c : List Int) (hc : c.length ≤ 1048576) : ∃ h, Ev (fun k => F40.f k c) (c, 0, h) := by
  obtain ⟨r, ⟨h, rfl⟩, hr⟩ := Ev.scanX (fun k (s : Int) i => F40.l0 k c s i) c.length (fun _ _ => True) (fun r => ∃ h, r = (c, 0, h))
    (fun s _ => ⟨(c, 0, s), ⟨s, rfl⟩, Ev.some_ fun k => by simp only [F40.l0]; rw [if_neg (by omega)]⟩)
    (fun i s hi _ => by
      by_cases c1 : (i : Int) < 4000
      · exact .inr ⟨_, trivial, EvE.of fun k => by simp only [F40.l0]; rw [if_pos (by omega), if_pos c1, if_pos (by omega), w64s hi (by omega)]⟩
      · exact .inl ⟨(c, 0, s), ⟨s, rfl⟩, Ev.some_ fun k => by simp only [F40.l0]; rw [if_pos (by omega), if_neg c1]⟩) 0 (wrap64 (774119 + (c.length : Int))) (Nat.zero_le _) trivial
  exact ⟨h, by simpa [F40.f] using hr⟩
theorem of_some (c : List Int) (i h : Int) (l : List ByteArray) (hi : At c i) (h1 : 1 ≤ l.length) (h2 : l.length ≤ 256) : ∃ x i' h', F42.f c i h l = some (x, i', h') ∧ x ∈ l ∧ At c i' := by
  obtain ⟨b, i', h', e, b0, b1, ha⟩ := below_some c i h (l.length : Int) hi (by omega) (by omega)
  refine ⟨rdOf ByteArray.empty l b, i', h', ?_, ?_, ha⟩
  · simp only [F42.f, e, Option.bind_some]
    rw [if_pos b0, if_pos b1]
  · obtain ⟨n, rfl⟩ : ∃ n : Nat, b = (n : Int) := ⟨b.toNat, by omega⟩
    rw [rdOf_nat, List.getD_eq_getElem?_getD, List.getElem?_eq_getElem (by omega)]
    exact List.getElem_mem _
def keysL : List ByteArray := [⟨#[97]⟩, ⟨#[98]⟩, ⟨#[99]⟩, ⟨#[100]⟩, ⟨#[101]⟩, ⟨#[102]⟩, ⟨#[103]⟩, ⟨#[104]⟩]
def valsL : List ByteArray := [⟨#[49]⟩, ⟨#[50]⟩, ⟨#[51]⟩, ⟨#[]⟩, ⟨#[120]⟩]
theorem kv_all : (keysL.all fun k => valsL.all fun v => itemOk k v 0) = true := by kernel_rfl
theorem kv_ok {k v : ByteArray} (hk : k ∈ keysL) (hv : v ∈ valsL) : itemOk k v 0 = true := List.all_eq_true.1 (List.all_eq_true.1 kv_all k hk) v hv
theorem keys_size {k : ByteArray} (hk : k ∈ keysL) : k.size ≤ 9223372036854775807 := by
  have h : (keysL.all fun k => decide (k.size ≤ 1)) = true := by kernel_rfl
  have := of_decide_eq_true (List.all_eq_true.1 h k hk)
  omega
theorem vals_size {k : ByteArray} (hk : k ∈ valsL) : k.size ≤ 9223372036854775807 := by
  have h : (valsL.all fun k => decide (k.size ≤ 1)) = true := by kernel_rfl
  have := of_decide_eq_true (List.all_eq_true.1 h k hk)
  omega
theorem tkey_some (c : List Int) (i h : Int) (hi : At c i) : ∃ x i' h', F51.f c i h = some (x, i', h') ∧ x ∈ keysL ∧ At c i' := by
  obtain ⟨x, i', h', e, hx, ha⟩ := of_some c i h keysL hi (by decide) (by decide)
  refine ⟨x, i', h', ?_, hx, ha⟩
  have e' : F42.f c i h [(⟨#[97]⟩ : ByteArray), (⟨#[98]⟩ : ByteArray), (⟨#[99]⟩ : ByteArray), (⟨#[100]⟩ : ByteArray), (⟨#[101]⟩ : ByteArray), (⟨#[102]⟩ : ByteArray), (⟨#[103]⟩ : ByteArray), (⟨#[104]⟩ : ByteArray)] = some (x, i', h') := e
  simp only [F51.f, e', Option.bind_some]
theorem val_some (c : List Int) (i h : Int) (hi : At c i) : ∃ x i' h', F55.f c i h = some (x, i', h') ∧ x ∈ valsL ∧ At c i' := by
  obtain ⟨x, i', h', e, hx, ha⟩ := of_some c i h valsL hi (by decide) (by decide)
  refine ⟨x, i', h', ?_, hx, ha⟩
  have e' : F42.f c i h [(⟨#[49]⟩ : ByteArray), (⟨#[50]⟩ : ByteArray), (⟨#[51]⟩ : ByteArray), (⟨#[]⟩ : ByteArray), (⟨#[120]⟩ : ByteArray)] = some (x, i', h') := e
  simp only [F55.f, e', Option.bind_some]
theorem three_g {a b : Int} {s m : List IT} {g : List Int} (h : threeOk a b s m g = true) : g.length ≤ 1048576 := by have := three_len h; omega
theorem some_ev (c : List Int) (i h : Int) (hi : At c i) {a b : Int} {s m : List IT} {g : List Int} (ht : threeOk a b s m g = true) : ∃ s' m' g' i' h', Ev (fun k => F53.f k c i h a b s m g) (a, b, s', m', g', i', h') ∧ threeOk a b s' m' g' = true ∧ At c i' := by
  obtain ⟨n, i1, h1, e1, n0, n1, ha1⟩ := below_some c i h 9 hi (by omega) (by omega)
  obtain ⟨x, i2, h2, e2, hx, ha2⟩ := tkey_some c i1 h1 ha1
  have hg := three_g ht
  have hS := small_of ht
  by_cases c1 : n < 4
  · obtain ⟨v, i3, h3, e3, hv, ha3⟩ := val_some c i2 h2 ha2
    obtain ⟨k1, k2, k3, _⟩ := put_keep ht x v (kv_ok hx hv)
    have hP := spec_Put_ev a b s m g x v (keys_size hx) (vals_size hv) hg hS
    refine ⟨_, _, _, i3, h3, (evP hP).ev fun k e4 => ?_, k1, ha3⟩
    simp only [F53.f, e1, e2, e3, e4, Option.bind_some]
    rw [if_pos c1, k2, k3]
  by_cases c2 : n < 8
  · obtain ⟨k1, _, k2, k3⟩ := get_keep ht x
    have hP := spec_Get_ev a b s m g x hg hS
    refine ⟨_, _, _, i2, h2, (evP hP).ev fun k e4 => ?_, k1, ha2⟩
    simp only [F53.f, e1, e2, e4, Option.bind_some]
    rw [if_neg c1, if_pos c2, k2, k3]
  · obtain ⟨k1, _⟩ := sans_keep ht x
    have hP := spec_Drop_ev a b s m g x hg hS
    unfold dropV at hP
    rw [if_pos ht] at hP
    refine ⟨_, _, _, i2, h2, (evP hP).ev fun k e4 => ?_, k1, ha2⟩
    simp only [F53.f, e1, e2, e4, Option.bind_some]
    rw [if_neg c1, if_neg c2]
theorem draw_loop (c : List Int) : ∀ (n : Nat) (i h : Int), n ≤ 256 → At c i → ∀ {a b : Int} {s m : List IT} {g : List Int}, threeOk a b s m g = true → ∃ s' m' g' i' h', Ev (fun k => F48.l0 k (n : Int) c i h a b s m g) (a, b, s', m', g', i', h') ∧ threeOk a b s' m' g' = true
  | 0, i, h, _, hi, a, b, s, m, g, ht => ⟨s, m, g, i, h, Ev.up (g := fun _ => some (a, b, s, m, g, i, h)) (EvE.of fun k => by simp only [F48.l0]; rw [if_neg (by omega)]) (Ev.now _), ht⟩
  | n + 1, i, h, hn, hi, a, b, s, m, g, ht => by
    obtain ⟨s1, m1, g1, i1, h1, hE, ht1, hi1⟩ := some_ev c i h hi ht
    obtain ⟨s2, m2, g2, i2, h2, hL, ht2⟩ := draw_loop c n i1 h1 (by omega) hi1 ht1
    refine ⟨s2, m2, g2, i2, h2, Ev.up ((evP hE).eve fun k e => ?_) hL, ht2⟩
    simp only [F48.l0, e, Option.bind_some]
    rw [if_pos (by omega), w64 (by omega) (by omega)]
    congr 1; omega
theorem makeThree_some (c : List Int) (hc : c.length ≤ 1048576) : ∃ a b s m g, threeOk a b s m g = true ∧ Ev (fun k => F33.f k c) (a, b, s, m, g) := by
  obtain ⟨h, hnew⟩ := new_some c hc
  obtain ⟨x, i1, h1, e1, x0, x1, ha1⟩ := below_some c 0 (wrap64 (h + 41)) 6 ⟨Int.le_refl _, by omega, hc⟩ (by omega) (by omega)
  have hw : wrap64 (1 + x) = 1 + x := w64 (by omega) (by omega)
  obtain ⟨y, i2, h2, e2, y0, y1, ha2⟩ := below_some c i1 h1 (1 + x) ha1 (by omega) (by omega)
  have hw2 : wrap64 (1 + y) = 1 + y := w64 (by omega) (by omega)
  obtain ⟨n, i3, h3, e3, n0, n1, ha3⟩ := below_some c i2 h2 24 ha2 (by omega) (by omega)
  have hO : threeOk (1 + x) (1 + y) [] [] [] = true := (three_iff _ _ _ _ _).2 ⟨by omega, by omega, by simp; omega, by unfold ghostsN; split <;> simp <;> omega, by simp, by simp, by simp, by simp⟩
  have hN := spec_ThreeNew_ev (1 + x) (1 + y)
  have eN : threeNew (1 + x) (1 + y) = (1 + x, 1 + y, [], [], [], true) := by unfold threeNew; rw [if_pos hO]
  rw [eN] at hN
  obtain ⟨s, m, g, i4, h4, hL, ht⟩ := draw_loop c n.toNat i3 h3 (by omega) ha3 hO
  rw [Int.toNat_of_nonneg n0] at hL
  refine ⟨1 + x, 1 + y, s, m, g, ht, (evA hnew (evA hN (evP hL))).ev fun k ⟨q1, q2, q3⟩ => ?_⟩
  simp only [F33.f, F48.f, q1, e1, e2, e3, hw, hw2, q2, q3, Option.bind_some]
theorem impl_OpOk_ev (a : Int) (b c : ByteArray) (hb : b.size ≤ 9223372036854775807) (hc : c.size ≤ 9223372036854775807) : Ev (fun k => F6.f k a b c) (opOk a b c) := by
  refine (evP (impl_ItemOk_ev b c 0 hb hc)).ev fun k e1 => ?_
  by_cases c1 : 1 ≤ a <;> by_cases c2 : a ≤ 3 <;> cases p1 : itemOk b c 0 <;> rw [p1] at e1 <;>
    simp only [F6.f, F21.f, e1, Option.bind_some, opOk, ge_iff_le, c1, c2, p1, eq_self, if_true, if_false, decide_true, decide_false, Bool.and_true, Bool.true_and, Bool.false_and, Bool.and_false, Bool.false_eq_true, Bool.true_or, Bool.false_or] <;> (try (split <;> simp_all))
abbrev OT := S75
def kK : ByteArray := ⟨#[107, 101, 121]⟩
def vV : ByteArray := ⟨#[118, 97, 108]⟩
theorem kK_not {x : ByteArray} (h : x ∈ keysL) : x ≠ kK := by
  have e : (keysL.all fun k => decide (k.size ≠ 3)) = true := by kernel_rfl
  intro q
  have := of_decide_eq_true (List.all_eq_true.1 e x h)
  rw [q] at this
  exact this rfl
theorem kK_ok : itemOk kK vV 0 = true := by kernel_rfl
/-- An op as MakeOps makes it. -/
def goodOp (o : OT) : Prop := (o.f0 = 1 ∨ o.f0 = 2 ∨ o.f0 = 3) ∧ o.f1 ∈ keysL ∧ o.f2 ∈ valsL ∧ (o.f0 = 2 ∨ o.f2 = ⟨#[]⟩)
theorem op_some (c : List Int) (i h : Int) (hi : At c i) : ∃ o : OT, goodOp o ∧ ∃ i' h', F57.f c i h = some (o.f0, o.f1, o.f2, i', h') ∧ At c i' := by
  obtain ⟨n, i1, h1, e1, n0, n1, ha1⟩ := below_some c i h 3 hi (by omega) (by omega)
  obtain ⟨x, i2, h2, e2, hx, ha2⟩ := tkey_some c i1 h1 ha1
  have hw : wrap64 (1 + n) = 1 + n := w64 (by omega) (by omega)
  by_cases d : 1 + n = 2
  · obtain ⟨v, i3, h3, e3, hv, ha3⟩ := val_some c i2 h2 ha2
    refine ⟨⟨1 + n, x, v⟩, ⟨by simp only; omega, hx, hv, .inl d⟩, i3, h3, ?_, ha3⟩
    simp only [F57.f, e1, e2, e3, hw, Option.bind_some]
    rw [if_pos d]
  · refine ⟨⟨1 + n, x, ⟨#[]⟩⟩, ⟨by simp only; omega, hx, (show (⟨#[]⟩ : ByteArray) ∈ valsL by simp [valsL]), .inr rfl⟩, i2, h2, ?_, ha2⟩
    simp only [F57.f, e1, e2, hw, Option.bind_some]
    rw [if_neg d]
theorem ops_loop (c : List Int) : ∀ (n : Nat) (i h : Int) (l : List OT), n ≤ 256 → l.length + n ≤ 100000 → At c i → (∀ o ∈ l, goodOp o) → ∃ l' i' h', Ev (fun k => F58.l0 k l (n : Int) c i h) (l', i', h') ∧ (∀ o ∈ l', goodOp o) ∧ l'.length = l.length + n
  | 0, i, h, l, _, _, _, hl => ⟨l, i, h, Ev.up (g := fun _ => some (l, i, h)) (EvE.of fun k => by simp only [F58.l0]; rw [if_neg (by omega)]) (Ev.now _), hl, rfl⟩
  | n + 1, i, h, l, hn, hlen, hi, hl => by
    obtain ⟨o, ho, i1, h1, e1, ha1⟩ := op_some c i h hi
    obtain ⟨l', i2, h2, hL, hg, hlen'⟩ := ops_loop c n i1 h1 (l ++ [o]) (by omega) (by rw [List.length_append, List.length_singleton]; omega) ha1 (fun y hy => by
      rcases List.mem_append.1 hy with hy | hy
      · exact hl y hy
      · rw [List.mem_singleton.1 hy]; exact ho)
    refine ⟨l', i2, h2, Ev.up (EvE.of fun k => ?_) hL, hg, by rw [hlen', List.length_append, List.length_singleton]; omega⟩
    have e2 : ((n + 1 : Nat) : Int) - 1 = (n : Int) := by omega
    simp only [F58.l0, e1, Option.bind_some]
    rw [if_pos (by omega), if_pos (by omega), w64 (by omega) (by omega), e2]
theorem makeOps_some (c : List Int) (hc : c.length ≤ 1048576) : ∃ l : List OT, Ev (fun k => F32.f k c 20) l ∧ (∀ o ∈ l, goodOp o) ∧ l.length ≤ 20 := by
  obtain ⟨h, hnew⟩ := new_some c hc
  obtain ⟨n, i1, h1, e1, n0, n1, ha1⟩ := below_some c 0 (wrap64 (h + 91)) 21 ⟨Int.le_refl _, by omega, hc⟩ (by omega) (by omega)
  obtain ⟨l, i2, h2, hL, hg, hl⟩ := ops_loop c n.toNat i1 h1 [] (by omega) (by rw [List.length_nil]; omega) ha1 (by simp)
  rw [Int.toNat_of_nonneg n0] at hL
  refine ⟨l, (evA hnew (evP hL)).ev fun k ⟨q1, q2⟩ => ?_, hg, by rw [hl, List.length_nil]; omega⟩
  have hw : wrap64 (20 + 1) = 21 := w64 (by omega) (by omega)
  simp only [F32.f, F58.f, q1, hw, e1, q2, Option.bind_some]
theorem good_ok {o : OT} (h : goodOp o) : opOk o.f0 o.f1 o.f2 = true := by
  obtain ⟨h1, h2, h3, h4⟩ := h
  have := kv_ok h2 h3
  unfold opOk
  rw [this]
  rcases h4 with h4 | h4
  · rw [h4]; rfl
  · have e : ((⟨#[]⟩ : ByteArray).toList == ([] : List UInt8)) = true := by rw [ByteArray.toList_eq]; rfl
    rw [h4, e]; rcases h1 with q | q | q <;> rw [q] <;> rfl
/-- What holds between the steps: the cache is right, and the key is in it with its value, or isn't in it. -/
def Inv (there : Bool) (a b : Int) (s m : List IT) (g : List Int) : Prop := threeOk a b s m g = true ∧ (there = true → (kK, vV) ∈ (s ++ m).map kv) ∧ (there = false → ¬ kK ∈ (s ++ m).map fun x => x.f0)
abbrev DoT := Int × Int × List IT × List IT × List Int × Bool × ByteArray × ByteArray × Bool
/-- A step: what is gone is told. -/
theorem do_ev (o : OT) (ho : goodOp o) (there : Bool) (a b : Int) (s m : List IT) (g : List Int) (hI : Inv there a b s m g) : ∃ r : DoT, Ev (fun k => F5.f k a b s m g o.f0 o.f1 o.f2) r ∧ r.2.2.2.2.2.2.2.2 = true ∧ Inv (there && decide (r.2.2.2.2.2.2.2.1 ≠ kK)) r.1 r.2.1 r.2.2.1 r.2.2.2.1 r.2.2.2.2.1 := by
  obtain ⟨ht, hy, hn⟩ := hI
  have hx := ho.2.1
  have hne := kK_not hx
  have hv := ho.2.2.1
  have hS := small_of ht
  have hg := three_g ht
  have hO := impl_ThreeOk_ev a b s m g hg hS
  rw [ht] at hO
  have hP := impl_OpOk_ev o.f0 o.f1 o.f2 (keys_size hx) (vals_size hv)
  rw [good_ok ho] at hP
  suffices h : ∃ r : DoT, Ev (fun k => F5.j0 k false a b s m g o.f0 o.f1 o.f2) r ∧ r.2.2.2.2.2.2.2.2 = true ∧ Inv (there && decide (r.2.2.2.2.2.2.2.1 ≠ kK)) r.1 r.2.1 r.2.2.1 r.2.2.2.1 r.2.2.2.2.1 by
    obtain ⟨r, hE, h1, h2⟩ := h
    refine ⟨r, (evA hO (evA hP (evP hE))).ev fun k ⟨e1, e2, e3⟩ => ?_, h1, h2⟩
    simp only [F5.f, e1, e2, Option.bind_some, if_true, Bool.not_true]
    exact e3
  have e0 : (⟨#[]⟩ : ByteArray) ≠ kK := by decide
  by_cases d1 : o.f0 = 1
  · obtain ⟨k1, k2, k3, k4⟩ := get_keep ht o.f1
    have hG := impl_Get_ev a b s m g o.f1 hg hS
    refine ⟨_, Ev.up (g := fun _ => some ((getV a b s m g o.f1).1, (getV a b s m g o.f1).2.1, (getV a b s m g o.f1).2.2.1, (getV a b s m g o.f1).2.2.2.1, (getV a b s m g o.f1).2.2.2.2.1, (getV a b s m g o.f1).2.2.2.2.2.2, (getV a b s m g o.f1).2.2.2.2.2.1, (⟨#[]⟩ : ByteArray), true)) ((evP hG).eve fun k e => ?_) (Ev.now _), rfl, ?_⟩
    · simp only [F5.j0, Bool.false_eq_true, if_false, e, Option.bind_some]
      rw [if_pos d1]
    · simp only [decide_eq_true e0, Bool.and_true]
      rw [k3, k4]
      refine ⟨k1, fun h => by rw [k2]; exact hy h, fun h => ?_⟩
      rw [keys_kv, k2, ← keys_kv]; exact hn h
  by_cases d2 : o.f0 = 2
  · obtain ⟨p1, p2, p3, p4, p5, p6, p7⟩ := put_keep ht o.f1 o.f2 (kv_ok hx hv)
    have hE := impl_Put_ev a b s m g o.f1 o.f2 (keys_size hx) (vals_size hv) hg hS
    generalize putV a b s m g o.f1 o.f2 = w at *
    obtain ⟨A, B, S, M, G, R, y⟩ := w
    simp only at p1 p2 p3 p4 p5 p6 p7
    subst p2 p3
    -- whether the key is among who is gone
    have fin : ∀ gone : ByteArray, (kK ∈ R ↔ gone = kK) → Inv (there && decide (gone ≠ kK)) A B S M G := fun gone hgn => by
      refine ⟨p1, fun h => ?_, fun h => ?_⟩
      · rw [Bool.and_eq_true, decide_eq_true_eq] at h
        exact (p7 kK vV hne.symm).2 ⟨hy h.1, fun q => h.2 (hgn.1 q)⟩
      · intro q
        obtain ⟨V, q⟩ := of_key q
        obtain ⟨q1, q2⟩ := (p7 kK V hne.symm).1 q
        cases ht' : there with
        | false => exact hn ht' (key_of q1)
        | true =>
          rw [ht', Bool.true_and, decide_eq_false_iff_not, Decidable.not_not] at h
          exact q2 (hgn.2 h)
    cases R with
    | nil =>
      refine ⟨(A, B, S, M, G, true, ⟨#[]⟩, ⟨#[]⟩, true), Ev.up (g := fun _ => some _) ((evP hE).eve fun k e => ?_) (Ev.now _), rfl, fin _ (by simp [e0])⟩
      simp only [F5.j0, Bool.false_eq_true, if_false, e, Option.bind_some]
      rw [if_neg d1, if_pos d2, if_neg (by simp)]
    | cons z t =>
      have : t = [] := by cases t with | nil => rfl | cons _ _ => simp at p5
      subst this
      refine ⟨(A, B, S, M, G, true, ⟨#[]⟩, z, true), Ev.up (g := fun _ => some _) ((evP hE).eve fun k e => ?_) (Ev.now _), rfl, fin z (by rw [List.mem_singleton]; exact eq_comm)⟩
      simp only [F5.j0, Bool.false_eq_true, if_false, e, Option.bind_some]
      rw [if_neg d1, if_pos d2, if_pos (by simp), if_pos (by simp)]
      rfl
  · obtain ⟨k1, k2⟩ := sans_keep ht o.f1
    have hD := impl_Drop_ev a b s m g o.f1 hg hS
    unfold dropV at hD
    rw [if_pos ht] at hD
    refine ⟨_, Ev.up (g := fun _ => some (a, b, sans s o.f1, sans m o.f1, g, decide ((wrap64 (((sans s o.f1).length : Int) + ((sans m o.f1).length : Int))) < (wrap64 ((s.length : Int) + (m.length : Int)))), (⟨#[]⟩ : ByteArray), (⟨#[]⟩ : ByteArray), true)) ((evP hD).eve fun k e => ?_) (Ev.now _), rfl, ?_⟩
    · simp only [F5.j0, Bool.false_eq_true, if_false, e, Option.bind_some]
      rw [if_neg d1, if_neg d2]
    · simp only [decide_eq_true e0, Bool.and_true]
      refine ⟨k1, fun h => (k2 kK vV).2 ⟨hy h, hne.symm⟩, fun h q => ?_⟩
      obtain ⟨V, q⟩ := of_key q
      exact hn h (key_of ((k2 kK V).1 q).1)
/-- The key is asked for. -/
theorem get_inv {there : Bool} {a b : Int} {s m : List IT} {g : List Int} (hI : Inv there a b s m g) : (getV a b s m g kK).2.2.2.2.2.2 = there ∧ (there = true → (getV a b s m g kK).2.2.2.2.2.1 = vV) := by
  obtain ⟨ht, hy, hn⟩ := hI
  have h6 := ((three_iff a b s m g).1 ht).2.2.2.2.2.1
  cases there with
  | true =>
    obtain ⟨x, hx, ex⟩ := List.mem_map.1 (hy rfl)
    have e1 : x.f0 = kK := congrArg Prod.fst ex
    have e2 : x.f1 = vV := congrArg Prod.snd ex
    -- whoever has the key is that one
    have uniq : ∀ y ∈ s ++ m, y.f0 = kK → y.f1 = vV := fun y hy0 ey => by
      obtain ⟨i, hi, rfl⟩ := List.getElem_of_mem hx
      obtain ⟨j, hj, rfl⟩ := List.getElem_of_mem hy0
      have hij : i = j := by
        rcases Nat.lt_trichotomy i j with q | q | q
        · exact absurd (by rw [List.getElem_map, List.getElem_map, e1, ey]) (List.pairwise_iff_getElem.1 h6 i j (by rw [List.length_map]; exact hi) (by rw [List.length_map]; exact hj) q)
        · exact q
        · exact absurd (by rw [List.getElem_map, List.getElem_map, e1, ey]) (List.pairwise_iff_getElem.1 h6 j i (by rw [List.length_map]; exact hj) (by rw [List.length_map]; exact hi) q)
      subst hij; exact e2
    unfold getV
    rw [if_pos ht]
    by_cases d1 : 0 ≤ atI s kK
    · obtain ⟨i, ei, hi, q⟩ := at_lt s kK d1
      rw [if_pos d1, ei]
      refine ⟨rfl, fun _ => uniq (rdI s i) (List.mem_append_left _ (by rw [rdI_get s i hi]; exact List.getElem_mem hi)) q⟩
    · rw [if_neg d1]
      by_cases d2 : 0 ≤ atI m kK
      · obtain ⟨i, ei, hi, q⟩ := at_lt m kK d2
        rw [if_pos d2, ei]
        refine ⟨rfl, fun _ => uniq (rdI m i) (List.mem_append_right _ (by rw [rdI_get m i hi]; exact List.getElem_mem hi)) q⟩
      · exfalso
        rcases List.mem_append.1 hx with hx | hx
        · exact at_not s kK d1 (List.mem_map.2 ⟨x, hx, e1⟩)
        · exact at_not m kK d2 (List.mem_map.2 ⟨x, hx, e1⟩)
  | false =>
    have hn := hn rfl
    rw [List.map_append] at hn
    unfold getV
    rw [if_pos ht]
    have d1 : ¬ 0 ≤ atI s kK := fun q => by obtain ⟨i, _, hi, e⟩ := at_lt s kK q; exact hn (List.mem_append_left _ (List.mem_map.2 ⟨rdI s i, by rw [rdI_get s i hi]; exact List.getElem_mem hi, e⟩))
    have d2 : ¬ 0 ≤ atI m kK := fun q => by obtain ⟨i, _, hi, e⟩ := at_lt m kK q; exact hn (List.mem_append_right _ (List.mem_map.2 ⟨rdI m i, by rw [rdI_get m i hi]; exact List.getElem_mem hi, e⟩))
    rw [if_neg d1, if_neg d2]
    exact ⟨rfl, fun h => by cases h⟩
theorem bytes_ne {x : ByteArray} {l : List UInt8} {y : ByteArray} (e : y.toList = l) : (x.toList != l) = decide (x ≠ y) := by
  rw [← e]
  by_cases c : x = y
  · subst c; simp
  · rw [decide_eq_true c]; exact bne_iff_ne.2 fun h => c (toList_inj.1 h)
theorem kK_list : kK.toList = ([107, 101, 121] : List UInt8) := by rw [ByteArray.toList_eq]; rfl
theorem vV_list : vV.toList = ([118, 97, 108] : List UInt8) := by rw [ByteArray.toList_eq]; rfl
theorem l0_ev (l : List OT) (hl : l.length ≤ 20) (hg : ∀ o ∈ l, goodOp o) : ∀ (n i : Nat) (there : Bool) (a b : Int) (s m : List IT) (g : List Int), i + n = l.length → Inv there a b s m g → Ev (fun k => laws_FnFind.l0 k there l (l.length : Int) (i : Int) a b s m g) true := by
  intro n
  induction n with
  | zero =>
    intro i there a b s m g hi hI
    exact Ev.up (g := fun _ => some true) (EvE.of fun k => by simp only [laws_FnFind.l0]; rw [if_neg (by omega)]) (Ev.now _)
  | succ n ih =>
    intro i there a b s m g hi hI
    have hil : i < l.length := by omega
    have e0 : rd_T75 l (i : Int) = l[i] := by unfold rd_T75; rw [Int.toNat_natCast]; simp [hil]
    obtain ⟨r, hE, hf, hI'⟩ := do_ev (l[i]) (hg _ (List.getElem_mem hil)) there a b s m g hI
    obtain ⟨A, B, S, M, G, y, val, gone, fine⟩ := r
    simp only at hf hI'
    subst hf
    have hG := impl_Get_ev A B S M G kK (three_g hI'.1) (small_of hI'.1)
    obtain ⟨q1, q2⟩ := get_inv hI'
    have hnext := ih (i + 1) _ A B S M G (by omega) hI'
    have hw : wrap64 ((i : Int) + 1) = ((i + 1 : Nat) : Int) := by rw [w64 (by omega) (by omega)]; omega
    have hne := bytes_ne (x := gone) kK_list
    refine Ev.up ((evA hE (evP hG)).eve fun k ⟨e1, e2⟩ => ?_) hnext
    have e2' : F1.f k A B S M G (⟨#[107, 101, 121]⟩ : ByteArray) = some (getV A B S M G kK) := e2
    simp only [laws_FnFind.l0, e0, e1, e2', Option.bind_some, if_true]
    rw [if_pos (by omega), if_pos (by omega), if_pos (by omega), hw]
    cases ht : there with
    | true =>
      rw [ht, Bool.true_and] at q1 q2
      rw [if_pos rfl, q1, hne]
      by_cases c : gone = kK
      · have c' : gone.toList = ([107, 101, 121] : List UInt8) := by rw [c]; exact kK_list
        rw [if_neg (by simp), if_pos c', Bool.true_and]
      · have c' : ¬ gone.toList = ([107, 101, 121] : List UInt8) := fun h => c (toList_inj.1 (h.trans kK_list.symm))
        rw [if_neg (by simp), if_neg c', q2 (decide_eq_true c), if_pos vV_list, Bool.true_and]
    | false =>
      rw [ht, Bool.false_and] at q1
      rw [if_neg (by simp), q1, if_neg (by simp), Bool.false_and]
theorem FnFind : DFnFind.Pure := by
  intro code ⟨_, _⟩
  by_cases c0 : (code.length : Int) > 1048576
  · exact ⟨0, by simp only [laws_FnFind.f]; rw [if_pos c0]⟩
  obtain ⟨a, b, s, m, g, c, hM⟩ := makeThree_some code (by omega)
  obtain ⟨l, hL, hg, hl⟩ := makeOps_some code (by omega)
  have hP := impl_Put_ev a b s m g kK vV (by show 3 ≤ _; omega) (by show 3 ≤ _; omega) (three_g c) (small_of c)
  obtain ⟨p1, p2, p3, p4, p5, p6, p7⟩ := put_keep c kK vV kK_ok
  have h0 := l0_ev l hl hg l.length 0 true _ _ _ _ _ (by omega) ⟨p1, fun _ => p6, fun h => by cases h⟩
  obtain ⟨k, e1, e2, e3, e4⟩ := (evA hM (evA hL (evA hP (evP h0)))).ex
  have e3' : F7.f k a b s m g (⟨#[107, 101, 121]⟩ : ByteArray) (⟨#[118, 97, 108]⟩ : ByteArray) = some (putV a b s m g kK vV) := e3
  refine ⟨k, ?_⟩
  simp only [laws_FnFind.f, e1, e2, e3', Option.bind_some]
  rw [if_neg c0, p2, p3, if_pos p4]
  exact e4
end Go.Proofs.Ytfjhkediaholmaa.Pure
