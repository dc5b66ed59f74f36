/- Keys that come once leave Main as it is: for all codes. No condition. -/
import Derived.Test.YtfjhkediaholmaaDFnSweep
import Derived.Test.YtfjhkediaholmaaLm
namespace Go.Proofs.Ytfjhkediaholmaa.Pure
open Go.RowKit Go.Proofs.Ytfjhkediaholmaa.QFnSweep Go.Proofs.YtfjhkediaholmaaW.PrintWords Go.Proofs.YtfjhkediaholmaaW.PrintLast Go.Proofs.YtfjhkediaholmaaW.PrintMore Go.Proofs.Ytfjhkediaholmaa.Lm
set_option linter.unusedSimpArgs false
set_option linter.unusedVariables false
theorem impl_isPlain_ev (s : ByteArray) (hs : s.size ≤ 9223372036854775807) : Ev (fun k => impl_isPlain.f k s) (plain (bytesOf s)) := by
  have := Ev.scan (l := fun k (_ : Unit) i => impl_isPlain.l0 k s i) s.size (fun _ _ => True) (fun i _ => plain ((bytesOf s).drop i)) ?_ ?_ 0 () (Nat.zero_le _) trivial
  · simpa [impl_isPlain.f] using this
  · intro _ _
    exact Ev.some_ fun k => by simp only [impl_isPlain.l0]; rw [if_neg (by omega)]; simp [plain, ← bytesOf_length]
  · intro i _ hi _
    have hd := drop_bt s i hi
    have hl : ∀ k, impl_isPlain.l0 (k + 1) s (i : Int) = if bt s (i : Int) = 32 then some false else if bt s (i : Int) = 10 then some false else impl_isPlain.l0 k s ((i + 1 : Nat) : Int) := fun k => by
      simp only [impl_isPlain.l0]; rw [if_pos (by omega), if_pos (by omega), w64s hi hs]
    by_cases h1 : bt s (i : Int) = 32
    · exact .inl (Ev.some_ fun k => by simp only [hl]; rw [if_pos h1, hd, h1]; rfl)
    · by_cases h2 : bt s (i : Int) = 10
      · exact .inl (Ev.some_ fun k => by simp only [hl]; rw [if_neg h1, if_pos h2, hd, h2]; rfl)
      · exact .inr ⟨(), trivial, by rw [hd]; simp [plain, h1, h2], EvE.of fun k => by simp only [hl]; rw [if_neg h1, if_neg h2]⟩
theorem impl_ItemOk_ev (a b : ByteArray) (f : Int) (ha : a.size ≤ 9223372036854775807) (hb : b.size ≤ 9223372036854775807) : Ev (fun k => impl_ItemOk.f k a b f) (itemOk a b f) := by
  obtain ⟨K1, h1⟩ := impl_isPlain_ev a ha
  obtain ⟨K2, h2⟩ := impl_isPlain_ev b hb
  refine ⟨max K1 K2, fun k hk => ?_⟩
  have e1 := h1 k (by omega)
  have e2 := h2 k (by omega)
  by_cases c1 : 1 ≤ (a.size : Int) <;> by_cases c2 : (a.size : Int) ≤ 20 <;> by_cases c3 : (b.size : Int) ≤ 40 <;> by_cases c4 : 0 ≤ f <;> by_cases c5 : f ≤ 3 <;> cases p1 : plain (bytesOf a) <;> cases p2 : plain (bytesOf b) <;>
    simp only [impl_ItemOk.f, impl_within.f, e1, e2, Option.bind_some, itemOk, ge_iff_le, c1, c2, c3, c4, c5, p1, p2, if_true, if_false, decide_true, decide_false, Bool.and_true, Bool.true_and, Bool.false_and, Bool.and_false, Bool.false_eq_true]
theorem drop_I (l : List S68) (i : Nat) (h : i < l.length) : l.drop i = rd_T68 l (i : Int) :: l.drop (i + 1) := by
  unfold rd_T68; rw [Int.toNat_natCast]; exact drop_cons _ l i h
/-- Where a key's item is. -/
def atI (l : List S68) (key : ByteArray) : Int := if l.any (fun x => decide (x.f0 = key)) then ((l.findIdx (fun x => decide (x.f0 = key)) : Nat) : Int) else -1
def okI (l : List S68) (i : Nat) : Bool := itemOk (rd_T68 l (i : Int)).f0 (rd_T68 l (i : Int)).f1 (rd_T68 l (i : Int)).f2 && decide (atI l (rd_T68 l (i : Int)).f0 = (i : Int))
/-- Items are right, and no two have one key. -/
def areI (l : List S68) : Bool := allN l.length (okI l)
/-- The texts of items are no longer than texts are. -/
def SmallI (l : List S68) : Prop := l.length ≤ 1048576 ∧ ∀ x ∈ l, x.f0.size ≤ 9223372036854775807 ∧ x.f1.size ≤ 9223372036854775807
theorem SmallI.at {l : List S68} (h : SmallI l) (i : Nat) (hi : i < l.length) : (rd_T68 l (i : Int)).f0.size ≤ 9223372036854775807 ∧ (rd_T68 l (i : Int)).f1.size ≤ 9223372036854775807 :=
  h.2 _ (by unfold rd_T68; rw [Int.toNat_natCast]; exact getD_mem _ l i hi)
theorem impl_itemAt_ev (l : List S68) (x : ByteArray) (hl : l.length ≤ 1048576) : Ev (fun k => impl_itemAt.f k l x) (atI l x) := by
  have key := Ev.scan (fun k (_ : Unit) i => impl_itemAt.l0 k x l (l.length : Int) i) l.length (fun _ _ => True) (fun i _ => if (l.drop i).any (fun y => decide (y.f0 = x)) then (((l.drop i).findIdx (fun y => decide (y.f0 = x)) + i : Nat) : Int) else -1)
    (fun _ _ => Ev.some_ fun k => by simp only [impl_itemAt.l0]; rw [if_neg (by omega), List.drop_eq_nil_of_le (Nat.le_refl _)]; rfl)
    (fun i _ hi _ => by
      have hd := drop_I l i hi
      have hs : ∀ k, impl_itemAt.l0 (k + 1) x l (l.length : Int) (i : Int) = if (rd_T68 l (i : Int)).f0 = x then some (i : Int) else impl_itemAt.l0 k x l (l.length : Int) ((i + 1 : Nat) : Int) := fun k => by
        simp only [impl_itemAt.l0, toList_inj]; rw [if_pos (by omega), if_pos (by omega), if_pos (by omega), w64s hi (by omega)]
      rw [hd, List.any_cons, List.findIdx_cons]
      by_cases c : (rd_T68 l (i : Int)).f0 = x
      · exact .inl (Ev.some_ fun k => by simp only [hs]; rw [if_pos c, decide_eq_true c]; simp)
      · exact .inr ⟨(), trivial, by
          rw [decide_eq_false c]; simp only [Bool.false_or, cond_false]
          split <;> omega, EvE.of fun k => by simp only [hs]; rw [if_neg c]⟩) 0 () (Nat.zero_le _) trivial
  simpa [impl_itemAt.f, atI] using key
theorem impl_areItems_ev (l : List S68) (hl : SmallI l) : Ev (fun k => impl_areItems.f k l) (areI l) := by
  have key := Ev.asks (fun k i => impl_areItems.l0 k l l (l.length : Int) i) l.length (okI l) true
    (Ev.some_ fun k => by simp only [impl_areItems.l0]; rw [if_neg (by omega)])
    (fun i hi hp => by
      have hb := hl.at i hi
      have h1 := impl_ItemOk_ev (rd_T68 l (i : Int)).f0 (rd_T68 l (i : Int)).f1 (rd_T68 l (i : Int)).f2 hb.1 hb.2
      refine (evA h1 (evP (impl_itemAt_ev l (rd_T68 l (i : Int)).f0 hl.1))).ev fun k ⟨e1, e2⟩ => ?_
      simp only [impl_areItems.l0, e1, e2, Option.bind_some]
      rw [if_pos (by have := hl.1; omega), if_pos (by omega), if_pos (by have := hl.1; omega)]
      unfold okI at hp
      cases c : itemOk (rd_T68 l (i : Int)).f0 (rd_T68 l (i : Int)).f1 (rd_T68 l (i : Int)).f2 with
      | false => rw [if_neg (by simp)]
      | true => rw [c, Bool.true_and] at hp; rw [if_pos rfl, if_neg (of_decide_eq_false hp)])
    (fun i hi hp => by
      have hb := hl.at i hi
      have hw := hl.1
      have h1 := impl_ItemOk_ev (rd_T68 l (i : Int)).f0 (rd_T68 l (i : Int)).f1 (rd_T68 l (i : Int)).f2 hb.1 hb.2
      unfold okI at hp
      simp only [Bool.and_eq_true, decide_eq_true_eq] at hp
      rw [hp.1] at h1
      refine (evA h1 (evP (impl_itemAt_ev l (rd_T68 l (i : Int)).f0 hl.1))).eve fun k ⟨e1, e2⟩ => ?_
      simp only [impl_areItems.l0, e1, e2, Option.bind_some, if_true]
      rw [if_pos (by omega), if_pos (by omega), if_pos (by omega), if_pos hp.2, w64s hi (by omega)])
  rw [Bool.and_true] at key
  simpa [impl_areItems.f, areI] using key
def hasN (l : List Int) (x : Int) : Bool := l.any fun y => decide (y = x)
theorem hasN_cons (y : Int) (l : List Int) (x : Int) : hasN (y :: l) x = (decide (y = x) || hasN l x) := rfl
theorem slices_ContainsI_ev (l : List Int) (x : Int) (hl : l.length ≤ 1048576) : Ev (fun k => slices_Contains_int_int.f k l x) (hasN l x) := by
  have key : ∃ r, Ev (fun k => slices_Index_int_int.f k l x) r ∧ decide (r ≥ 0) = hasN l x := by
    have key := Ev.scan (fun k (_ : Unit) i => slices_Index_int_int.l0 k l x (l.length : Int) i) l.length (fun _ _ => True) (fun i _ => if hasN (l.drop i) x then (((l.drop i).findIdx (fun y => decide (y = x)) + i : Nat) : Int) else -1)
      (fun _ _ => Ev.some_ fun k => by simp only [slices_Index_int_int.l0]; rw [if_neg (by omega), List.drop_eq_nil_of_le (Nat.le_refl _)]; rfl)
      (fun i _ hi _ => by
        have hd := drop_rd l i hi
        have hs : ∀ k, slices_Index_int_int.l0 (k + 1) l x (l.length : Int) (i : Int) = if rd l (i : Int) = x then some (i : Int) else slices_Index_int_int.l0 k l x (l.length : Int) ((i + 1 : Nat) : Int) := fun k => by
          simp only [slices_Index_int_int.l0]; rw [if_pos (by omega), if_pos (by omega), if_pos (by omega), w64s hi (by omega)]
          simp only [eq_comm]
        rw [hd, hasN_cons, List.findIdx_cons]
        by_cases c : rd l (i : Int) = x
        · exact .inl (Ev.some_ fun k => by simp only [hs]; rw [if_pos c, decide_eq_true c]; simp)
        · exact .inr ⟨(), trivial, by
            rw [decide_eq_false c]; simp only [Bool.false_or, cond_false]
            split <;> omega, EvE.of fun k => by simp only [hs]; rw [if_neg c]⟩) 0 () (Nat.zero_le _) trivial
    refine ⟨_, (by simpa [slices_Index_int_int.f] using key), ?_⟩
    cases hasN l x with
    | true => simp only [if_true]; exact decide_eq_true (by omega)
    | false => rfl
  obtain ⟨r, hr, e⟩ := key
  rw [← e]
  exact (evP hr).ev fun k e1 => by simp only [slices_Contains_int_int.f, e1, Option.bind_some]
def ghostsN (a b : Int) : Int := if a - b < 1 then 1 else a - b
def ghostI (g : List Int) (i : Nat) : Bool := decide (0 ≤ rd g (i : Int) ∧ rd g (i : Int) ≤ 4294967295) && !hasN (g.take i) (rd g (i : Int))
def ghostOk (g : List Int) : Bool := allN g.length (ghostI g)
/-- A cache of three queues is right. -/
def threeOk (a b : Int) (s m : List S68) (g : List Int) : Bool := decide (1 ≤ a ∧ a ≤ 60) && decide (1 ≤ b ∧ b ≤ a) && decide ((s.length : Int) + (m.length : Int) ≤ a) && decide ((g.length : Int) ≤ ghostsN a b) && (areI (s ++ m) && ghostOk g)
theorem wsub (a b : Int) (ha : a ≤ 60) (hb : 1 ≤ b) (hab : b ≤ a) : wrap64 (a - b) = a - b := w64 (by omega) (by omega)
theorem impl_copyItems_eq (l : List S68) (h : l.length ≤ 1048576) : impl_copyItems.f l = some l := by
  simp only [impl_copyItems.f, Option.bind_some, List.nil_append, List.length_nil]; rw [if_pos (by omega)]
theorem impl_Three_l0 (a b : Int) (s m : List S68) (g : List Int) (hg : g.length ≤ 1048576) (hl : SmallI (s ++ m)) : Ev (fun k => impl_ThreeOk.l0 k g (g.length : Int) 0 a b s m g) (ghostOk g && (decide ((s.length : Int) + (m.length : Int) ≤ a) && areI (s ++ m))) := by
  have hw := hl.1
  rw [List.length_append] at hw
  refine Ev.asks (fun k i => impl_ThreeOk.l0 k g (g.length : Int) i a b s m g) g.length (ghostI g) _ ?_ ?_ ?_
  · refine (evP (impl_areItems_ev (s ++ m) hl)).ev fun k e => ?_
    simp only [impl_ThreeOk.l0, impl_copyItems_eq s (by omega), Option.bind_some, e, List.length_append]
    rw [if_neg (by omega), if_pos (by omega)]
    by_cases c : (s.length : Int) + (m.length : Int) ≤ a
    · rw [if_pos (by omega), decide_eq_true c, Bool.true_and]
    · rw [if_neg (by omega), decide_eq_false c, Bool.false_and]
  · intro i hi hp
    have ht : (g.take i).length ≤ 1048576 := by rw [List.length_take]; omega
    refine (evP (slices_ContainsI_ev (g.take i) (rd g (i : Int)) ht)).ev fun k e => ?_
    simp only [impl_ThreeOk.l0, impl_isNum.f, impl_within.f, Int.toNat_natCast, e]
    rw [if_pos (by omega), if_pos (by omega), if_pos (by omega)]
    unfold ghostI at hp
    by_cases c1 : rd g (i : Int) ≥ 0
    · rw [if_pos c1, Option.bind_some, Option.bind_some]
      by_cases c2 : rd g (i : Int) ≤ 4294967295
      · rw [if_pos (decide_eq_true c2), if_pos (by omega), Option.bind_some]
        rw [decide_eq_true ⟨c1, c2⟩, Bool.true_and] at hp
        rw [if_pos (by simpa using hp)]
      · rw [if_neg (by simp [c2])]
    · rw [if_neg c1, Option.bind_some, Option.bind_some, if_neg (by simp)]
  · intro i hi hp
    have ht : (g.take i).length ≤ 1048576 := by rw [List.length_take]; omega
    unfold ghostI at hp
    simp only [Bool.and_eq_true, decide_eq_true_eq, Bool.not_eq_true'] at hp
    have h3 := slices_ContainsI_ev (g.take i) (rd g (i : Int)) ht
    rw [hp.2] at h3
    refine (evP h3).eve fun k e => ?_
    simp only [impl_ThreeOk.l0, impl_isNum.f, impl_within.f, Int.toNat_natCast, e]
    rw [if_pos (by omega), if_pos (by omega), if_pos (by omega), if_pos (show rd g (i : Int) ≥ 0 from hp.1.1), Option.bind_some, Option.bind_some, if_pos (decide_eq_true hp.1.2), if_pos (by omega), Option.bind_some, if_neg (by simp), w64s hi (by omega)]
theorem impl_ThreeOk_ev (a b : Int) (s m : List S68) (g : List Int) (hg : g.length ≤ 1048576) (hl : SmallI (s ++ m)) : Ev (fun k => impl_ThreeOk.f k a b s m g) (threeOk a b s m g) := by
  have h0 : Ev (fun k => impl_ThreeOk.j0 k true a b s m g) false := Ev.up (g := fun _ => some false) (EvE.of fun k => by simp only [impl_ThreeOk.j0, if_true]) (Ev.now _)
  have h1 : Ev (fun k => impl_ThreeOk.j0 k false a b s m g) (ghostOk g && (decide ((s.length : Int) + (m.length : Int) ≤ a) && areI (s ++ m))) := by
    refine Ev.up (g := fun k => impl_ThreeOk.l0 k g (g.length : Int) 0 a b s m g) (EvE.of fun k => ?_) (impl_Three_l0 a b s m g hg hl)
    simp only [impl_ThreeOk.j0, Bool.false_eq_true, if_false]
  by_cases c1 : 1 ≤ a
  · by_cases c2 : a ≤ 60
    · by_cases c3 : 1 ≤ b
      · by_cases c4 : b ≤ a
        · have e1 : ∀ k, impl_ThreeOk.f k a b s m g = impl_ThreeOk.j0 k (decide ((g.length : Int) > ghostsN a b)) a b s m g := fun k => by
            simp only [impl_ThreeOk.f, impl_within.f]
            rw [if_pos (by omega), Option.bind_some, if_pos (decide_eq_true c2), if_pos (by omega), Option.bind_some, if_pos (decide_eq_true c4), wsub a b c2 c3 c4, show mx 1 (a - b) = ghostsN a b by unfold mx ghostsN; split <;> split <;> omega]
          unfold threeOk
          rw [decide_eq_true ⟨c1, c2⟩, decide_eq_true ⟨c3, c4⟩, Bool.true_and, Bool.true_and]
          by_cases c6 : (g.length : Int) ≤ ghostsN a b
          · rw [decide_eq_true c6]
            have e2 : (decide ((s.length : Int) + (m.length : Int) ≤ a) && true && (areI (s ++ m) && ghostOk g)) = (ghostOk g && (decide ((s.length : Int) + (m.length : Int) ≤ a) && areI (s ++ m))) := by
              generalize decide ((s.length : Int) + (m.length : Int) ≤ a) = x
              generalize areI (s ++ m) = y
              generalize ghostOk g = z
              cases x <;> cases y <;> cases z <;> rfl
            rw [e2]
            refine Ev.congr (fun k => ?_) h1
            rw [e1, decide_eq_false (by omega)]
          · rw [decide_eq_false c6, Bool.and_false, Bool.false_and]
            refine Ev.congr (fun k => ?_) h0
            rw [e1, decide_eq_true (by omega)]
        · rw [show threeOk a b s m g = false by unfold threeOk; simp [c4]]
          refine Ev.congr (fun k => ?_) h0
          simp only [impl_ThreeOk.f, impl_within.f]
          rw [if_pos (by omega), Option.bind_some, if_pos (decide_eq_true c2), if_pos (by omega), Option.bind_some, if_neg (by simp [c4])]
      · rw [show threeOk a b s m g = false by unfold threeOk; simp [c3]]
        refine Ev.congr (fun k => ?_) h0
        simp only [impl_ThreeOk.f, impl_within.f]
        rw [if_pos (by omega), Option.bind_some, if_pos (decide_eq_true c2), if_neg (by omega), Option.bind_some, if_neg (by simp)]
    · rw [show threeOk a b s m g = false by unfold threeOk; simp [c2]]
      refine Ev.congr (fun k => ?_) h0
      simp only [impl_ThreeOk.f, impl_within.f]
      rw [if_pos (by omega), Option.bind_some, if_neg (by simp [c2])]
  · rw [show threeOk a b s m g = false by unfold threeOk; simp [c1]]
    refine Ev.congr (fun k => ?_) h0
    simp only [impl_ThreeOk.f, impl_within.f]
    rw [if_neg (by omega), Option.bind_some, if_neg (by simp)]
def threeNew (a b : Int) : Int × Int × List S68 × List S68 × List Int × Bool := if threeOk a b [] [] [] = true then (a, b, [], [], [], true) else (0, 0, [], [], [], false)
theorem smallNil : SmallI ([] ++ []) := ⟨by simp, by simp⟩
theorem impl_ThreeNew_ev (a b : Int) : Ev (fun k => impl_ThreeNew.f k a b) (threeNew a b) := (evP (impl_ThreeOk_ev a b [] [] [] (by simp) smallNil)).ev fun k e => by
  simp only [impl_ThreeNew.f, e, Option.bind_some]; unfold threeNew; split <;> rfl
theorem threeNew_ok (a b : Int) : (threeNew a b).2.2.2.2.2 = threeOk a b [] [] [] := by
  unfold threeNew; split
  · rename_i h; exact h.symm
  · rename_i h; exact (Bool.eq_false_iff.2 h).symm
def but (v : List Int) (x : Int) : List Int := v.filter fun y => !decide (y = x)
def hstep (h b : Int) : Int := Int.tmod (wrap64 ((Go.bits .xor .i64 h (wrap64 b)) * 16777619)) 4294967296
def hashV (s : ByteArray) : Int := (bytesOf s).foldl hstep 2166136261
theorem impl_Hash_ev (s : ByteArray) (hs : s.size ≤ 9223372036854775807) : Ev (fun k => impl_Hash.f k s) (hashV s) := by
  have key := Ev.scan (fun k (h : Int) i => impl_Hash.l0 k s h i) s.size (fun _ _ => True) (fun i h => ((bytesOf s).drop i).foldl hstep h)
    (fun h _ => Ev.some_ fun k => by
      simp only [impl_Hash.l0]; rw [if_neg (by omega), List.drop_eq_nil_of_le (by rw [bytesOf_length]; exact Nat.le_refl _)]; rfl)
    (fun i h hi _ => .inr ⟨hstep h (bt s (i : Int)), trivial, by rw [drop_bt s i hi]; rfl, EvE.of fun k => by
      simp only [impl_Hash.l0]; rw [if_pos (by omega), if_pos (by omega), w64s hi hs]; rfl⟩) 0 2166136261 (Nat.zero_le _) trivial
  simpa [impl_Hash.f, hashV] using key
def ghN (a b : Int) : Int := if wrap64 (a - b) < 1 then 1 else wrap64 (a - b)
def haunt (a b : Int) (g : List Int) (h : Int) : List Int := if ((but g h ++ [h]).length : Int) > ghN a b then (but g h ++ [h]).drop 1 else but g h ++ [h]
theorem but_len (g : List Int) (h : Int) : (but g h).length ≤ g.length := List.length_filter_le _ _
theorem haunt_len (a b : Int) (g : List Int) (h : Int) : (haunt a b g h).length ≤ g.length + 1 := by
  have := but_len g h
  unfold haunt
  split
  · rw [List.length_drop, List.length_append, List.length_singleton]; omega
  · rw [List.length_append, List.length_singleton]; omega
theorem impl_gh (a b : Int) (s m : List S68) (g : List Int) : impl_Three_ghosts.f a b s m g = some (ghN a b) := by
  unfold impl_Three_ghosts.f ghN mx
  congr 1
  by_cases c : wrap64 (a - b) < 1
  · rw [if_pos c, if_neg (by omega)]
  · rw [if_neg c]
    by_cases d : 1 < wrap64 (a - b)
    · rw [if_pos d]
    · rw [if_neg d]; omega
theorem impl_but (g : List Int) (h : Int) : slices_DeleteFunc_int_int.f g h = some (but g h) := by
  unfold slices_DeleteFunc_int_int.f
  cases g with
  | nil => rfl
  | cons y l => rw [if_pos (by simp)]; rfl
def smallV (a b : Int) : List S68 → List S68 → List Int → List S68 × List S68 × List Int × ByteArray × Bool
  | [], m, g => ([], m, g, ⟨#[]⟩, false)
  | x :: t, m, g => if x.f2 > 1 then smallV a b t (m ++ [⟨x.f0, x.f1, 0⟩]) g else (t, m, haunt a b g (hashV x.f0), x.f0, true)
theorem smallV_len (a b : Int) : ∀ (s m : List S68) (g : List Int), (smallV a b s m g).1.length ≤ s.length ∧ (smallV a b s m g).2.1.length ≤ s.length + m.length ∧ (smallV a b s m g).2.2.1.length ≤ g.length + 1
  | [], m, g => ⟨Nat.le_refl _, by simp [smallV], by simp [smallV]⟩
  | x :: t, m, g => by
    unfold smallV
    split
    · have := smallV_len a b t (m ++ [⟨x.f0, x.f1, 0⟩]) g
      rw [show (m ++ [(⟨x.f0, x.f1, 0⟩ : S68)]).length = m.length + 1 from by simp] at this
      rw [List.length_cons]
      omega
    · have := haunt_len a b g (hashV x.f0)
      simp only [List.length_cons]; omega
theorem rd_00 (x : S68) (t : List S68) : rd_T68 (x :: t) 0 = x := rfl
theorem impl_small_ev (a b : Int) (g : List Int) (hg : g.length ≤ 1048576) : ∀ s m : List S68, (∀ x ∈ s, x.f0.size ≤ 9223372036854775807) → s.length + m.length ≤ 2097152 → Ev (fun k => impl_Three_evictSmall.l0 k a b s m g) ((smallV a b s m g).2.2.2.1, (smallV a b s m g).2.2.2.2, a, b, (smallV a b s m g).1, (smallV a b s m g).2.1, (smallV a b s m g).2.2.1)
  | [], m, hs, hl => Ev.up (g := fun _ => some (⟨#[]⟩, false, a, b, [], m, g)) (EvE.of fun k => by simp only [impl_Three_evictSmall.l0]; rw [if_neg (by simp)]) (Ev.now _)
  | x :: t, m, hs, hl => by
    have hl' : t.length + 1 + m.length ≤ 2097152 := by simpa using hl
    have e1 : (1 : Int).toNat = 1 := rfl
    have hb := but_len g (hashV x.f0)
    by_cases c : x.f2 > 1
    · have e : smallV a b (x :: t) m g = smallV a b t (m ++ [⟨x.f0, x.f1, 0⟩]) g := (smallV.eq_2 a b m g x t).trans (if_pos c)
      rw [e]
      refine Ev.up (EvE.of fun k => ?_) (impl_small_ev a b g hg t (m ++ [⟨x.f0, x.f1, 0⟩]) (fun y hy => hs y (List.mem_cons_of_mem _ hy)) (by simp; omega))
      simp only [impl_Three_evictSmall.l0, Option.bind_some, rd_00, e1, List.drop_succ_cons, List.drop_zero]
      rw [if_pos (by simp), if_pos (by simp), if_pos (by simp; omega), if_pos c, if_pos (by simp; omega)]
    · have e : smallV a b (x :: t) m g = (t, m, haunt a b g (hashV x.f0), x.f0, true) := (smallV.eq_2 a b m g x t).trans (if_neg c)
      rw [e]
      refine Ev.up (g := fun _ => some (x.f0, true, a, b, t, m, haunt a b g (hashV x.f0))) ((evP (impl_Hash_ev x.f0 (hs x (List.mem_cons_self ..)))).eve fun k e2 => ?_) (Ev.now _)
      simp only [impl_Three_evictSmall.l0, Option.bind_some, rd_00, e1, List.drop_succ_cons, List.drop_zero, e2, impl_but, impl_gh]
      rw [if_pos (by simp), if_pos (by simp), if_pos (by simp; omega), if_neg c, if_pos (by simp; omega)]
      unfold haunt
      by_cases d : ((but g (hashV x.f0) ++ [hashV x.f0]).length : Int) > ghN a b
      · rw [if_pos d, if_pos d, if_pos (by simp; omega)]
      · rw [if_neg d, if_neg d]
def rdI (l : List S68) (i : Nat) : S68 := rd_T68 l (i : Int)
theorem rdI_get (l : List S68) (i : Nat) (h : i < l.length) : rdI l i = l[i] := by
  unfold rdI rd_T68; rw [Int.toNat_natCast]; simp [h]
theorem at_lt (l : List S68) (x : ByteArray) (h : 0 ≤ atI l x) : ∃ i : Nat, atI l x = (i : Int) ∧ i < l.length ∧ (rdI l i).f0 = x := by
  unfold atI at h ⊢
  by_cases c : (l.any fun y => decide (y.f0 = x)) = true
  · rw [if_pos c]
    obtain ⟨y, hy, hx⟩ := List.any_eq_true.1 c
    have hi := List.findIdx_lt_length_of_exists (p := fun y => decide (y.f0 = x)) ⟨y, hy, hx⟩
    refine ⟨_, rfl, hi, ?_⟩
    rw [rdI_get l _ hi]
    exact of_decide_eq_true (List.findIdx_getElem (p := fun y : S68 => decide (y.f0 = x)) (w := hi))
  · rw [if_neg c] at h; omega
theorem ok_are (l : List S68) (h : areI l = true) (i : Nat) (hi : i < l.length) : atI l (rdI l i).f0 = (i : Int) ∧ 0 ≤ (rdI l i).f2 ∧ (rdI l i).f2 ≤ 3 := by
  unfold areI allN at h
  have := List.all_eq_true.1 h i (List.mem_range.2 hi)
  unfold okI at this
  simp only [Bool.and_eq_true, decide_eq_true_eq] at this
  exact ⟨this.2, (itemOk_sizes this.1).2.2.2⟩
theorem three_are {a b : Int} {s m : List S68} {g : List Int} (h : threeOk a b s m g = true) : areI (s ++ m) = true := by
  unfold threeOk at h
  simp only [Bool.and_eq_true] at h
  exact h.2.1
theorem three_len {a b : Int} {s m : List S68} {g : List Int} (h : threeOk a b s m g = true) : s.length + m.length ≤ 60 ∧ g.length ≤ 60 := by
  unfold threeOk ghostsN at h
  simp only [Bool.and_eq_true, decide_eq_true_eq] at h
  obtain ⟨⟨⟨⟨h1, h2⟩, h3⟩, h4⟩, _⟩ := h
  split at h4 <;> omega
theorem rdI_left (s m : List S68) (i : Nat) (h : i < s.length) : rdI (s ++ m) i = rdI s i := by
  rw [rdI_get _ i (by rw [List.length_append]; omega), rdI_get s i h, List.getElem_append_left h]
theorem rdI_right (s m : List S68) (i : Nat) (h : i < m.length) : rdI (s ++ m) (s.length + i) = rdI m i := by
  rw [rdI_get _ _ (by rw [List.length_append]; omega), rdI_get m i h, List.getElem_append_right (by omega)]
  congr 1; omega
theorem not_both {s m : List S68} (h : areI (s ++ m) = true) (x : ByteArray) (h1 : 0 ≤ atI s x) : ¬ 0 ≤ atI m x := fun h2 => by
  obtain ⟨i, _, hi, e1⟩ := at_lt s x h1
  obtain ⟨j, _, hj, e2⟩ := at_lt m x h2
  have a1 := (ok_are _ h i (by rw [List.length_append]; omega)).1
  have a2 := (ok_are _ h (s.length + j) (by rw [List.length_append]; omega)).1
  rw [rdI_left s m i hi, e1] at a1
  rw [rdI_right s m j hj, e2, a1] at a2
  omega
def fsum (m : List S68) : Nat := (m.map fun x => x.f2.toNat).sum
def okF (m : List S68) : Prop := ∀ x ∈ m, 0 ≤ x.f2 ∧ x.f2 ≤ 3
def less1 (x : S68) : S68 := ⟨x.f0, x.f1, wrap64 (x.f2 - 1)⟩
def evm : Nat → List S68 → List S68 × ByteArray × Bool
  | _, [] => ([], ⟨#[]⟩, false)
  | 0, m => (m, ⟨#[]⟩, false)
  | n + 1, x :: t => if x.f2 = 0 then (t, x.f0, true) else evm n (t ++ [less1 x])
theorem less1_f2 (x : S68) (h : 0 ≤ x.f2 ∧ x.f2 ≤ 3) (h0 : ¬ x.f2 = 0) : (less1 x).f2 = x.f2 - 1 := w64 (by omega) (by omega)
theorem okF_next {x : S68} {t : List S68} (h : okF (x :: t)) (h0 : ¬ x.f2 = 0) : okF (t ++ [less1 x]) ∧ fsum (t ++ [less1 x]) + 1 = fsum (x :: t) := by
  have hx := h x (List.mem_cons_self ..)
  have e := less1_f2 x hx h0
  constructor
  · intro y hy
    rcases List.mem_append.1 hy with hy | hy
    · exact h y (List.mem_cons_of_mem _ hy)
    · rw [List.mem_singleton.1 hy, e]; omega
  · unfold fsum
    rw [List.map_append, List.sum_append, List.map_cons, List.map_cons, List.sum_cons, List.map_nil, List.sum_cons, List.sum_nil, e]
    omega
theorem evm_len : ∀ (n : Nat) (m : List S68), (evm n m).1.length ≤ m.length
  | 0, [] => Nat.le_refl _
  | _ + 1, [] => Nat.le_refl _
  | 0, _ :: _ => Nat.le_refl _
  | n + 1, x :: t => by
    unfold evm
    split
    · simp
    · have := evm_len n (t ++ [less1 x])
      simpa using this
theorem okF_three {a b : Int} {s m : List S68} {g : List Int} (h : threeOk a b s m g = true) : okF s ∧ okF m := by
  have ha := three_are h
  constructor
  · intro x hx
    obtain ⟨i, hi, rfl⟩ := List.getElem_of_mem hx
    have := (ok_are _ ha i (by rw [List.length_append]; omega)).2
    rw [rdI_left s m i hi, rdI_get s i hi] at this
    exact this
  · intro x hx
    obtain ⟨i, hi, rfl⟩ := List.getElem_of_mem hx
    have := (ok_are _ ha (s.length + i) (by rw [List.length_append]; omega)).2
    rw [rdI_right s m i hi, rdI_get m i hi] at this
    exact this
theorem rd_0 (x : S68) (t : List S68) : rd_T68 (x :: t) 0 = x := rfl
theorem impl_main_ev (a b : Int) (s : List S68) (g : List Int) : ∀ (n : Nat) (m : List S68), okF m → fsum m < n → m.length ≤ 1048576 → Ev (fun k => impl_Three_evictMain.l0 k a b s m g) ((evm n m).2.1, (evm n m).2.2, a, b, s, (evm n m).1, g) := by
  intro n
  induction n with
  | zero => intro m _ h; omega
  | succ n ih =>
    intro m hm hf hl
    cases m with
    | nil => exact Ev.up (g := fun _ => some (⟨#[]⟩, false, a, b, s, [], g)) (EvE.of fun k => by simp only [impl_Three_evictMain.l0]; rw [if_neg (by simp)]) (Ev.now _)
    | cons x t =>
      have hl' : t.length + 1 ≤ 1048576 := by simpa using hl
      have h0 : ∀ k, impl_Three_evictMain.l0 (k + 1) a b s (x :: t) g = if x.f2 = 0 then some (x.f0, true, a, b, s, t, g) else impl_Three_evictMain.l0 k a b s (t ++ [less1 x]) g := fun k => by
        have e1 : (1 : Int).toNat = 1 := rfl
        simp only [impl_Three_evictMain.l0, Option.bind_some, rd_0, e1, List.drop_succ_cons, List.drop_zero]
        rw [if_pos (by simp), if_pos (by simp), if_pos (by simp; omega), if_pos (show t.length < 3518437208883 by omega)]
        rfl
      by_cases c : x.f2 = 0
      · refine Ev.up (g := fun _ => some (x.f0, true, a, b, s, t, g)) (EvE.of fun k => by rw [h0, if_pos c]) ?_
        have e : evm (n + 1) (x :: t) = (t, x.f0, true) := by unfold evm; rw [if_pos c]
        rw [e]; exact Ev.now _
      · obtain ⟨h1, h2⟩ := okF_next hm c
        have e : evm (n + 1) (x :: t) = evm n (t ++ [less1 x]) := by conv => lhs; unfold evm
                                                                     rw [if_neg c]
        rw [e]
        exact Ev.up (EvE.of fun k => by rw [h0, if_neg c]) (ih _ h1 (by omega) (by simp; omega))
abbrev EvT := Int × Int × List S68 × List S68 × List Int × ByteArray × Bool
def touch (l : List S68) (i : Nat) : List S68 := l.set i ⟨(rdI l i).f0, (rdI l i).f1, mn 3 (wrap64 ((rdI l i).f2 + 1))⟩
abbrev GetT := Int × Int × List S68 × List S68 × List Int × ByteArray × Bool
def getV (a b : Int) (s m : List S68) (g : List Int) (x : ByteArray) : GetT := if threeOk a b s m g = true then (if 0 ≤ atI s x then (a, b, touch s (atI s x).toNat, m, g, (rd_T68 s (atI s x)).f1, true) else if 0 ≤ atI m x then (a, b, s, touch m (atI m x).toNat, g, (rd_T68 m (atI m x)).f1, true) else (a, b, s, m, g, ⟨#[]⟩, false)) else (0, 0, [], [], [], ⟨#[]⟩, false)
theorem impl_copyInts3 (g : List Int) (h3 : g.length ≤ 1048576) : impl_copyInts.f g = some g := by
  simp only [impl_copyInts.f, Option.bind_some, List.length_nil, List.nil_append]; rw [if_pos (by omega)]
theorem impl_copy3 (a b : Int) (s m : List S68) (g : List Int) (h1 : s.length ≤ 1048576) (h2 : m.length ≤ 1048576) (h3 : g.length ≤ 1048576) : impl_copyThree.f a b s m g = some (a, b, s, m, g) := by
  simp only [impl_copyThree.f, impl_copyItems_eq s h1, impl_copyItems_eq m h2, impl_copyInts3 g h3, Option.bind_some]
theorem rd_set (l : List S68) (i : Nat) (v : S68) (h : i < l.length) : rd_T68 (l.set i v) (i : Int) = v := by
  unfold rd_T68; rw [Int.toNat_natCast]; simp [h]
theorem impl_Get_ev (a b : Int) (s m : List S68) (g : List Int) (x : ByteArray) (hg : g.length ≤ 1048576) (hl : SmallI (s ++ m)) : Ev (fun k => impl_Get.f k a b s m g x) (getV a b s m g x) := by
  have hl1 := hl.1
  rw [List.length_append] at hl1
  have hO := impl_ThreeOk_ev a b s m g hg hl
  have h1 := impl_itemAt_ev s x (by omega)
  have h2 := impl_itemAt_ev m x (by omega)
  unfold getV
  by_cases c : threeOk a b s m g = true
  case neg =>
    rw [if_neg c]
    refine (evP hO).ev fun k e1 => ?_
    simp only [impl_Get.f, e1, Option.bind_some]
    rw [if_neg c]
  rw [if_pos c]
  refine (evA hO (evA h1 (evP h2))).ev fun k ⟨e1, e2, e3⟩ => ?_
  simp only [impl_Get.f, e1, impl_copy3 a b s m g (by omega) (by omega) hg, Option.bind_some, e2, e3]
  rw [if_pos c]
  by_cases d : 0 ≤ atI s x
  · obtain ⟨i, ei, hi, _⟩ := at_lt s x d
    rw [if_pos d]
    rw [ei] at d ⊢
    rw [if_pos (show (i : Int) ≥ 0 from d), if_pos d, if_pos (by omega), Int.toNat_natCast, rd_set s i _ hi]
    rfl
  · rw [if_neg d, if_neg (show ¬ atI s x ≥ 0 from d)]
    by_cases e : 0 ≤ atI m x
    · obtain ⟨j, ej, hj, _⟩ := at_lt m x e
      rw [if_pos e]
      rw [ej] at e ⊢
      rw [if_pos (show (j : Int) ≥ 0 from e), if_pos e, if_pos (by omega), Int.toNat_natCast, rd_set m j _ hj]
      rfl
    · rw [if_neg e, if_neg (show ¬ atI m x ≥ 0 from e)]
theorem rdI_mem (l : List S68) (x : S68) (h : x ∈ l) : ∃ i : Nat, i < l.length ∧ rdI l i = x := by
  obtain ⟨i, hi, rfl⟩ := List.getElem_of_mem h
  exact ⟨i, hi, rdI_get l i hi⟩
theorem atI_of (l : List S68) (hn : (l.map fun x => x.f0).Nodup) (i : Nat) (hi : i < l.length) : atI l (l[i]).f0 = (i : Int) := by
  have h1 : (l.any fun y => decide (y.f0 = (l[i]).f0)) = true := List.any_eq_true.2 ⟨l[i], List.getElem_mem hi, decide_eq_true rfl⟩
  unfold atI
  rw [if_pos h1]
  have h2 : l.findIdx (fun y => decide (y.f0 = (l[i]).f0)) = i := by
    rw [List.findIdx_eq hi]
    refine ⟨decide_eq_true rfl, fun j hj => decide_eq_false fun e => ?_⟩
    have := List.pairwise_iff_getElem.1 hn j i (by rw [List.length_map]; omega) (by rw [List.length_map]; omega) hj
    rw [List.getElem_map, List.getElem_map] at this
    exact this e
  rw [h2]
theorem areI_iff (l : List S68) : areI l = true ↔ (∀ x ∈ l, itemOk x.f0 x.f1 x.f2 = true) ∧ (l.map fun x => x.f0).Nodup := by
  constructor
  · intro h
    have h2 : ∀ i, i < l.length → itemOk (rdI l i).f0 (rdI l i).f1 (rdI l i).f2 = true ∧ atI l (rdI l i).f0 = (i : Int) := fun i hi => by
      unfold areI allN at h
      have := List.all_eq_true.1 h i (List.mem_range.2 hi)
      unfold okI at this
      simp only [Bool.and_eq_true, decide_eq_true_eq] at this
      exact this
    refine ⟨fun x hx => ?_, List.pairwise_iff_getElem.2 fun i j hi hj hij e => ?_⟩
    · obtain ⟨i, hi, rfl⟩ := rdI_mem l x hx
      exact (h2 i hi).1
    · rw [List.length_map] at hi hj
      rw [List.getElem_map, List.getElem_map] at e
      have e1 := (h2 i hi).2
      have e2 := (h2 j hj).2
      rw [rdI_get l i hi] at e1
      rw [rdI_get l j hj, ← e, e1] at e2
      omega
  · rintro ⟨h1, h2⟩
    unfold areI allN
    refine List.all_eq_true.2 fun i hi => ?_
    have hi := List.mem_range.1 hi
    have e : rd_T68 l (i : Int) = l[i] := rdI_get l i hi
    unfold okI
    rw [e, h1 _ (List.getElem_mem hi), atI_of l h2 i hi, decide_eq_true rfl]; rfl
def zeroF (x : S68) : S68 := ⟨x.f0, x.f1, 0⟩
theorem smallV_false (a b : Int) : ∀ (s m : List S68) (g : List Int), (smallV a b s m g).2.2.2.2 = false → smallV a b s m g = ([], m ++ s.map zeroF, g, ⟨#[]⟩, false)
  | [], m, g, _ => by simp [smallV]
  | x :: t, m, g, h => by
    rw [smallV.eq_2] at h ⊢
    by_cases c : x.f2 > 1
    · rw [if_pos c] at h ⊢
      rw [smallV_false a b t _ g h, List.map_cons]
      simp [zeroF]
    · rw [if_neg c] at h; cases h
theorem itemOk_zero {x : S68} (h : itemOk x.f0 x.f1 x.f2 = true) : itemOk (zeroF x).f0 (zeroF x).f1 (zeroF x).f2 = true := by
  unfold itemOk zeroF at *
  simp only [Bool.and_eq_true, decide_eq_true_eq] at *
  obtain ⟨h, _⟩ := h
  exact ⟨⟨h.1, by omega⟩, by omega⟩
theorem three_moved {a b : Int} {s m : List S68} {g : List Int} (h : threeOk a b s m g = true) : threeOk a b [] (m ++ s.map zeroF) g = true := by
  have ha := (areI_iff _).1 (three_are h)
  unfold threeOk at h ⊢
  simp only [Bool.and_eq_true, decide_eq_true_eq] at h ⊢
  obtain ⟨⟨⟨⟨h1, h2⟩, h3⟩, h4⟩, h5, h6⟩ := h
  refine ⟨⟨⟨⟨h1, h2⟩, ?_⟩, h4⟩, ?_, h6⟩
  · simp only [List.length_nil, List.length_append, List.length_map]; omega
  · refine (areI_iff _).2 ⟨fun x hx => ?_, ?_⟩
    · rw [List.nil_append] at hx
      rcases List.mem_append.1 hx with hx | hx
      · exact ha.1 x (List.mem_append_right _ hx)
      · obtain ⟨y, hy, rfl⟩ := List.mem_map.1 hx
        exact itemOk_zero (ha.1 y (List.mem_append_left _ hy))
    · have e : (s.map zeroF).map (fun x => x.f0) = s.map fun x => x.f0 := by rw [List.map_map]; rfl
      have h2 := ha.2
      rw [List.nil_append, List.map_append, e]
      rw [List.map_append] at h2
      exact (List.perm_append_comm.nodup_iff).1 h2
def coreM (a b : Int) (s m : List S68) (g : List Int) : EvT := (a, b, s, (evm (fsum m + 1) m).1, g, (evm (fsum m + 1) m).2.1, (evm (fsum m + 1) m).2.2)
def coreE (a b : Int) (s m : List S68) (g : List Int) : EvT :=
  if (s.length : Int) ≥ b ∨ m.length = 0 then (if (smallV a b s m g).2.2.2.2 = true then (a, b, smallV a b s m g) else coreM a b [] (m ++ s.map zeroF) g) else coreM a b s m g
def evictV (a b : Int) (s m : List S68) (g : List Int) : EvT := if threeOk a b s m g = true then coreE a b s m g else (0, 0, [], [], [], ⟨#[]⟩, false)
theorem small_moved {s m : List S68} (h : SmallI (s ++ m)) : SmallI (m ++ s.map zeroF) := by
  refine ⟨by have := h.1; simp only [List.length_append, List.length_map] at this ⊢; omega, fun x hx => ?_⟩
  rcases List.mem_append.1 hx with hx | hx
  · exact h.2 x (List.mem_append_right _ hx)
  · obtain ⟨y, hy, rfl⟩ := List.mem_map.1 hx
    exact h.2 y (List.mem_append_left _ hy)
theorem len0 (m : List S68) : (((m.length : Int) == 0) = true) = (m.length = 0) := by
  rw [beq_iff_eq]; exact propext (by omega)
theorem neither {b : Int} {s m : List S68} (d1 : ¬ (s.length : Int) ≥ b) (d2 : ((m.length : Int) == 0) = false) : ¬ ((s.length : Int) ≥ b ∨ m.length = 0) := fun h => by
  rcases h with h | h
  · exact d1 h
  · rw [(len0 m).mpr h] at d2; cases d2
/-- What the method tells: the key, whether one went, and the cache behind it. -/
def turnE (w : EvT) : ByteArray × Bool × Int × Int × List S68 × List S68 × List Int := (w.2.2.2.2.2.1, w.2.2.2.2.2.2, w.1, w.2.1, w.2.2.1, w.2.2.2.1, w.2.2.2.2.1)
theorem impl_Three_evict_ev (a b : Int) (s m : List S68) (g : List Int) (hg : g.length ≤ 1048576) (hl : SmallI (s ++ m)) (c : threeOk a b s m g = true) : Ev (fun k => impl_Three_evict.f k a b s m g) (turnE (coreE a b s m g)) := by
  have hl1 := hl.1
  rw [List.length_append] at hl1
  have hS := impl_small_ev a b g hg s m (fun x hx => (hl.2 x (List.mem_append_left _ hx)).1) (by omega)
  have hM := impl_main_ev a b s g (fsum m + 1) m (okF_three c).2 (Nat.lt_succ_self _) (by omega)
  have hN := impl_main_ev a b [] g (fsum (m ++ s.map zeroF) + 1) (m ++ s.map zeroF) (okF_three (three_moved c)).2 (Nat.lt_succ_self _) (small_moved hl).1
  have hY : (s.length : Int) ≥ b ∨ m.length = 0 → Ev (fun k => impl_Three_evict.j0 k true a b s m g) (turnE (coreE a b s m g)) := fun d => by
    unfold coreE
    rw [if_pos d]
    by_cases e : (smallV a b s m g).2.2.2.2 = true
    · rw [if_pos e]
      refine Ev.up (g := fun _ => some (turnE (a, b, smallV a b s m g))) ((evP hS).eve fun k e1 => ?_) (Ev.now _)
      simp only [impl_Three_evict.j0, impl_Three_evictSmall.f, e1, Option.bind_some, if_true]
      rw [if_pos e]; unfold turnE; simp only [e]
    · rw [if_neg e]
      have e0 := smallV_false a b s m g (by simpa using e)
      rw [e0] at hS
      refine Ev.up (g := fun _ => some (turnE (coreM a b [] (m ++ s.map zeroF) g))) ((evA hS (evP hN)).eve fun k ⟨e1, e2⟩ => ?_) (Ev.now _)
      simp only [impl_Three_evict.j0, impl_Three_evictSmall.f, impl_Three_evictMain.f, e1, e2, Option.bind_some, if_true, Bool.false_eq_true, if_false]
      rfl
  have hF : ¬ ((s.length : Int) ≥ b ∨ m.length = 0) → Ev (fun k => impl_Three_evict.j0 k false a b s m g) (turnE (coreE a b s m g)) := fun d => by
    unfold coreE
    rw [if_neg d]
    refine Ev.up (g := fun _ => some (turnE (coreM a b s m g))) ((evP hM).eve fun k e1 => ?_) (Ev.now _)
    simp only [impl_Three_evict.j0, impl_Three_evictMain.f, e1, Option.bind_some, Bool.false_eq_true, if_false]
    rfl
  by_cases d1 : (s.length : Int) ≥ b
  · refine (evP (hY (.inl d1))).ev fun k e2 => ?_
    simp only [impl_Three_evict.f]
    rw [if_pos d1, e2]
  · cases d2 : ((m.length : Int) == 0) with
    | true =>
      refine (evP (hY (.inr ((len0 m).mp d2)))).ev fun k e2 => ?_
      simp only [impl_Three_evict.f]
      rw [if_neg d1, d2, e2]
    | false =>
      refine (evP (hF (neither d1 d2))).ev fun k e2 => ?_
      simp only [impl_Three_evict.f]
      rw [if_neg d1, d2, e2]
theorem coreM_len (a b : Int) (s m : List S68) (g : List Int) : (coreM a b s m g).2.2.1.length ≤ s.length ∧ (coreM a b s m g).2.2.2.1.length ≤ m.length ∧ (coreM a b s m g).2.2.2.2.1.length ≤ g.length := ⟨Nat.le_refl _, evm_len _ m, Nat.le_refl _⟩
theorem coreE_len (a b : Int) (s m : List S68) (g : List Int) : (coreE a b s m g).2.2.1.length ≤ s.length ∧ (coreE a b s m g).2.2.2.1.length ≤ s.length + m.length ∧ (coreE a b s m g).2.2.2.2.1.length ≤ g.length + 1 := by
  have h1 := smallV_len a b s m g
  have h2 := coreM_len a b [] (m ++ s.map zeroF) g
  have h3 := coreM_len a b s m g
  rw [List.length_append, List.length_map] at h2
  unfold coreE
  split
  · split
    · exact h1
    · simp only [List.length_nil] at h2; omega
  · omega
theorem evictV_len (a b : Int) (s m : List S68) (g : List Int) (h1 : s.length ≤ 1048576) (h2 : m.length ≤ 1048576) (h3 : g.length ≤ 1048576) : (evictV a b s m g).2.2.1.length ≤ 10485760 ∧ (evictV a b s m g).2.2.2.1.length ≤ 10485760 ∧ (evictV a b s m g).2.2.2.2.1.length ≤ 10485760 := by
  have hn := coreE_len a b s m g
  unfold evictV
  split
  · omega
  · simp only [List.length_nil]; omega
theorem impl_copy3x (a b : Int) (s m : List S68) (g : List Int) (h1 : s.length ≤ 2097152) (h2 : m.length ≤ 2097152) (h3 : g.length ≤ 2097152) : impl_copyThree.f a b s m g = some (a, b, s, m, g) := by
  simp only [impl_copyThree.f, impl_copyItems.f, impl_copyInts.f, Option.bind_some, List.length_nil, List.nil_append]
  rw [if_pos (by omega), Option.bind_some, if_pos (by omega), Option.bind_some, if_pos (by omega), Option.bind_some]
theorem smallV_less (a b : Int) : ∀ (s m : List S68) (g : List Int), (smallV a b s m g).2.2.2.2 = true → (smallV a b s m g).1.length + (smallV a b s m g).2.1.length + 1 = s.length + m.length
  | [], m, g, h => by simp [smallV] at h
  | x :: t, m, g, h => by
    rw [smallV.eq_2] at h ⊢
    by_cases c : x.f2 > 1
    · rw [if_pos c] at h ⊢
      have := smallV_less a b t _ g h
      rw [show (m ++ [(⟨x.f0, x.f1, 0⟩ : S68)]).length = m.length + 1 from by simp] at this
      rw [List.length_cons]
      omega
    · rw [if_neg c, List.length_cons]; simp only; omega
theorem evm_less : ∀ (n : Nat) (m : List S68), okF m → m ≠ [] → fsum m < n → (evm n m).1.length + 1 = m.length
  | 0, m, _, _, h => by omega
  | n + 1, [], _, h, _ => absurd rfl h
  | n + 1, x :: t, hm, _, hf => by
    unfold evm
    by_cases c : x.f2 = 0
    · rw [if_pos c]; simp
    · obtain ⟨h1, h2⟩ := okF_next hm c
      rw [if_neg c]
      have := evm_less n _ h1 (by simp) (by omega)
      rw [show (t ++ [less1 x]).length = t.length + 1 from by simp] at this
      rw [List.length_cons]; omega
theorem coreM_less {a b : Int} {s m : List S68} {g : List Int} (h : threeOk a b s m g = true) (hm : m ≠ []) : (coreM a b s m g).2.2.1.length + (coreM a b s m g).2.2.2.1.length + 1 = s.length + m.length := by
  have := evm_less (fsum m + 1) m (okF_three h).2 hm (Nat.lt_succ_self _)
  show s.length + (evm (fsum m + 1) m).1.length + 1 = _
  omega
theorem coreE_less {a b : Int} {s m : List S68} {g : List Int} (h : threeOk a b s m g = true) (hn : 0 < s.length + m.length) : (coreE a b s m g).2.2.1.length + (coreE a b s m g).2.2.2.1.length + 1 = s.length + m.length := by
  unfold coreE
  split
  · split
    · rename_i c; exact smallV_less a b s m g c
    · have := coreM_less (three_moved h) (m := m ++ s.map zeroF) (fun e => by
        have := congrArg List.length e
        rw [List.length_append, List.length_map, List.length_nil] at this; omega)
      rw [List.length_append, List.length_map, List.length_nil] at this
      omega
  · rename_i c
    exact coreM_less h (fun e => c (.inr (by rw [e]; rfl)))
theorem coreE_ab (a b : Int) (s m : List S68) (g : List Int) : (coreE a b s m g).1 = a ∧ (coreE a b s m g).2.1 = b := by
  unfold coreE coreM; split
  · split <;> exact ⟨rfl, rfl⟩
  · exact ⟨rfl, rfl⟩
abbrev PutT := Int × Int × List S68 × List S68 × List Int × List ByteArray × Bool
def placeV (a b : Int) (s m : List S68) (g : List Int) (x v : ByteArray) (gone : List ByteArray) : PutT := if hasN g (hashV x) = true then (a, b, s, m ++ [⟨x, v, 0⟩], but g (hashV x), gone, true) else (a, b, s ++ [⟨x, v, 0⟩], m, g, gone, true)
def setV (l : List S68) (i : Nat) (v : ByteArray) : List S68 := l.set i ⟨(rdI l i).f0, v, (rdI l i).f2⟩
def newV (a b : Int) (s m : List S68) (g : List Int) (x v : ByteArray) : PutT := if (s.length : Int) + (m.length : Int) ≥ a then placeV (coreE a b s m g).1 (coreE a b s m g).2.1 (coreE a b s m g).2.2.1 (coreE a b s m g).2.2.2.1 (coreE a b s m g).2.2.2.2.1 x v [(coreE a b s m g).2.2.2.2.2.1] else placeV a b s m g x v []
def putC (a b : Int) (s m : List S68) (g : List Int) (x v : ByteArray) : PutT := if 0 ≤ atI s x then (a, b, touch (setV s (atI s x).toNat v) (atI s x).toNat, m, g, [], true) else if 0 ≤ atI m x then (a, b, s, touch (setV m (atI m x).toNat v) (atI m x).toNat, g, [], true) else newV a b s m g x v
def putV (a b : Int) (s m : List S68) (g : List Int) (x v : ByteArray) : PutT := if threeOk a b s m g = true ∧ itemOk x v 0 = true then putC a b s m g x v else (0, 0, [], [], [], [], false)
theorem impl_butP (g : List Int) (h : Int) : impl_Put_1.f g h = some (but g h) := by
  unfold impl_Put_1.f
  cases g with
  | nil => rfl
  | cons y l => rw [if_pos (by simp)]; rfl
theorem impl_Put_j1_ev (a b : Int) (s m : List S68) (g : List Int) (x v : ByteArray) (gone : List ByteArray) (hx : x.size ≤ 9223372036854775807) (h1 : s.length ≤ 1048576) (h2 : m.length ≤ 1048576) (h3 : g.length ≤ 1048576) : Ev (fun k => impl_Put.j1 k x v gone a b s m g) (placeV a b s m g x v gone) := by
  have hb := but_len g (hashV x)
  refine Ev.up (g := fun _ => some (placeV a b s m g x v gone)) ((evA (impl_Hash_ev x hx) (evP (slices_ContainsI_ev g (hashV x) h3))).eve fun k ⟨e1, e2⟩ => ?_) (Ev.now _)
  simp only [impl_Put.j1, e1, e2, Option.bind_some]
  unfold placeV
  cases hasN g (hashV x) with
  | true =>
    simp only [if_true]
    rw [impl_butP, Option.bind_some, if_pos (by omega), impl_copy3x a b s _ _ (by omega) (by simp; omega) (by omega)]; rfl
  | false =>
    simp only [Bool.false_eq_true, if_false]
    rw [if_pos (by omega), impl_copy3x a b _ m g (by simp; omega) (by omega) (by omega)]; rfl
theorem small_of {a b : Int} {s m : List S68} {g : List Int} (h : threeOk a b s m g = true) : SmallI (s ++ m) := by
  have hl := three_len h
  refine ⟨by rw [List.length_append]; omega, fun x hx => ?_⟩
  have := itemOk_sizes (((areI_iff _).1 (three_are h)).1 x hx)
  omega
theorem impl_Put_ev (a b : Int) (s m : List S68) (g : List Int) (x v : ByteArray) (hx : x.size ≤ 9223372036854775807) (hv : v.size ≤ 9223372036854775807) (hg : g.length ≤ 1048576) (hl : SmallI (s ++ m)) : Ev (fun k => impl_Put.f k a b s m g x v) (putV a b s m g x v) := by
  have hl1 := hl.1
  rw [List.length_append] at hl1
  have hO := impl_ThreeOk_ev a b s m g hg hl
  have hI := impl_ItemOk_ev x v 0 hx hv
  have hno : Ev (fun k => impl_Put.j0 k x v true a b s m g) ((0, 0, [], [], [], [], false) : PutT) := Ev.up (g := fun _ => some _) (EvE.of fun k => by simp only [impl_Put.j0, if_true]) (Ev.now _)
  unfold putV
  by_cases c : threeOk a b s m g = true
  case neg =>
    rw [if_neg (fun h => c h.1)]
    refine (evA hO (evP hno)).ev fun k ⟨e1, e2⟩ => ?_
    simp only [impl_Put.f, e1, Option.bind_some]
    rw [if_neg c, e2]
  by_cases d : itemOk x v 0 = true
  case neg =>
    rw [if_neg (fun h => d h.2)]
    rw [Bool.not_eq_true] at d
    rw [d] at hI
    refine (evA hO (evA hI (evP hno))).ev fun k ⟨e1, e2, e3⟩ => ?_
    simp only [impl_Put.f, e1, e2, Option.bind_some]
    rw [if_pos c]; simpa using e3
  rw [if_pos ⟨c, d⟩]
  rw [d] at hI
  have h3 := three_len c
  suffices hyes : Ev (fun k => impl_Put.j0 k x v false a b s m g) (putC a b s m g x v) by
    refine (evA hO (evA hI (evP hyes))).ev fun k ⟨e1, e2, e3⟩ => ?_
    simp only [impl_Put.f, e1, e2, Option.bind_some]
    rw [if_pos c]; simpa using e3
  have t1 := impl_itemAt_ev s x (by omega)
  have t2 := impl_itemAt_ev m x (by omega)
  have ha : a ≤ 60 ∧ 1 ≤ a ∧ (s.length : Int) + (m.length : Int) ≤ a := by
    have c' := c
    unfold threeOk at c'
    simp only [Bool.and_eq_true, decide_eq_true_eq] at c'
    omega
  have hw : wrap64 ((s.length : Int) + (m.length : Int)) = (s.length : Int) + (m.length : Int) := w64 (by omega) (by omega)
  unfold putC
  by_cases d1 : 0 ≤ atI s x
  · obtain ⟨i, ei, hi, _⟩ := at_lt s x d1
    rw [if_pos d1]
    rw [ei] at d1 t1 ⊢
    refine Ev.up (g := fun _ => some _) ((evP t1).eve fun k e1 => ?_) (Ev.now _)
    simp only [impl_Put.j0, Bool.false_eq_true, if_false, impl_copy3 a b s m g (by omega) (by omega) hg, Option.bind_some, e1]
    rw [if_pos (show (i : Int) ≥ 0 from d1), if_pos d1, if_pos (by omega), Int.toNat_natCast]
    rfl
  rw [if_neg d1]
  by_cases d2 : 0 ≤ atI m x
  · obtain ⟨j, ej, hj, _⟩ := at_lt m x d2
    rw [if_pos d2]
    rw [ej] at d2 t2 ⊢
    refine Ev.up (g := fun _ => some _) ((evA t1 (evP t2)).eve fun k ⟨e1, e2⟩ => ?_) (Ev.now _)
    simp only [impl_Put.j0, Bool.false_eq_true, if_false, impl_copy3 a b s m g (by omega) (by omega) hg, Option.bind_some, e1, e2]
    rw [if_neg (show ¬ atI s x ≥ 0 from d1), if_pos (show (j : Int) ≥ 0 from d2), if_pos d2, if_pos (by omega), Int.toNat_natCast]
    rfl
  rw [if_neg d2]
  unfold newV
  by_cases e : (s.length : Int) + (m.length : Int) ≥ a
  · rw [if_pos e]
    have hab := coreE_ab a b s m g
    have hn := coreE_len a b s m g
    have hlt := coreE_less c (by omega)
    have hw2 : ¬ wrap64 (((coreE a b s m g).2.2.1.length : Int) + ((coreE a b s m g).2.2.2.1.length : Int)) ≥ (coreE a b s m g).1 := by rw [hab.1, w64 (by omega) (by omega)]; omega
    refine Ev.up ((evA t1 (evA t2 (evP (impl_Three_evict_ev a b s m g hg hl c)))).eve fun k ⟨e1, e2, e3⟩ => ?_) (impl_Put_j1_ev (coreE a b s m g).1 (coreE a b s m g).2.1 (coreE a b s m g).2.2.1 (coreE a b s m g).2.2.2.1 (coreE a b s m g).2.2.2.2.1 x v [(coreE a b s m g).2.2.2.2.2.1] hx (by omega) (by omega) (by omega))
    simp only [impl_Put.j0, Bool.false_eq_true, if_false, impl_copy3 a b s m g (by omega) (by omega) hg, Option.bind_some, e1, e2]
    rw [if_neg (show ¬ atI s x ≥ 0 from d1), if_neg (show ¬ atI m x ≥ 0 from d2), hw, if_pos e, e3, Option.bind_some, if_pos (by simp)]
    exact if_neg hw2
  · rw [if_neg e]
    refine Ev.up ((evA t1 (evP t2)).eve fun k ⟨e1, e2⟩ => ?_) (impl_Put_j1_ev a b s m g x v [] hx (by omega) (by omega) (by omega))
    simp only [impl_Put.j0, Bool.false_eq_true, if_false, impl_copy3 a b s m g (by omega) (by omega) hg, Option.bind_some, e1, e2]
    rw [if_neg (show ¬ atI s x ≥ 0 from d1), if_neg (show ¬ atI m x ≥ 0 from d2), hw, if_neg e]
theorem strOfNums_one (x : Int) : (strOfNums [x]).size = 1 := rfl
theorem impl_NumText_l0_ev : ∀ (n : Nat) (s : ByteArray), n ≤ 4294967295 → s.size ≤ 1000 → (nt n).size + s.size ≤ 1000 → Ev (fun k => impl_NumText.l0 k (n : Int) s) (nt n ++ s) := by
  intro n
  induction n using Nat.strongRecOn with
  | ind n ih =>
    intro s hn hs ht
    by_cases c : n < 10
    · refine Ev.up (g := fun _ => some (nt n ++ s)) (EvE.of fun k => ?_) (Ev.now _)
      have e2 : wrap64 (48 + (n : Int)) % 256 = ((48 + n : Nat) : Int) := by rw [w64 (by omega) (by omega)]; omega
      simp only [impl_NumText.l0, e2]
      rw [if_neg (by omega), Option.bind_some, if_pos (by rw [strOfNums_one]; omega), nt, if_pos c]
    · have hnt : nt n = nt (n / 10) ++ strOfNums [((48 + n % 10 : Nat) : Int)] := by rw [nt.eq_1 n, if_neg c]
      have h := ih (n / 10) (by omega) (strOfNums [((48 + n % 10 : Nat) : Int)] ++ s) (by omega) (by rw [hnt, ByteArray.size_append, strOfNums_one] at ht; rw [ByteArray.size_append, strOfNums_one]; omega) (by rw [hnt, ByteArray.size_append] at ht; rw [ByteArray.size_append]; omega)
      rw [← ByteArray.append_assoc, ← hnt] at h
      refine Ev.up (EvE.of fun k => ?_) h
      have e1 : wrap64 (Int.tdiv (n : Int) 10) = ((n / 10 : Nat) : Int) := by rw [Int.tdiv_eq_ediv_of_nonneg (by omega), w64 (by omega) (by omega)]; omega
      have e2 : wrap64 (48 + (Int.tmod (n : Int) 10)) % 256 = ((48 + n % 10 : Nat) : Int) := by rw [Int.tmod_eq_emod_of_nonneg (by omega), w64 (by omega) (by omega)]; omega
      simp only [impl_NumText.l0, e1, e2]
      rw [if_pos (by omega), Option.bind_some, if_pos (by rw [strOfNums_one]; omega)]
theorem impl_NumText_ev (x : Int) : Ev (fun k => impl_NumText.f k x) (numText x) := by
  unfold numText
  split
  · rename_i h
    have hs := nt_size 10 x.toNat (by omega) (by omega)
    have h2 := impl_NumText_l0_ev x.toNat (⟨#[]⟩ : ByteArray) (by omega) (by show 0 ≤ 1000; omega) (by show _ + 0 ≤ 1000; omega)
    rw [Int.toNat_of_nonneg h.1, ba_nil] at h2
    refine Ev.ofE (EvE.of fun k => ?_) h2
    simp only [impl_NumText.f, impl_isNum.f, impl_within.f]
    rw [if_pos (by omega), Option.bind_some, Option.bind_some, if_pos (decide_eq_true (by omega))]
  · rename_i h
    refine Ev.some_ fun k => ?_
    simp only [impl_NumText.f, impl_isNum.f, impl_within.f]
    by_cases c : 0 ≤ x
    · rw [if_pos c, Option.bind_some, Option.bind_some, if_neg (by simp; omega)]
    · rw [if_neg c, Option.bind_some, Option.bind_some, if_neg (by simp)]
theorem impl_AsksOk_ev (l : List ByteArray) (hl : l.length ≤ 1048577) (hs : ∀ s ∈ l, s.size ≤ 9223372036854775807) : Ev (fun k => impl_AsksOk.f k l) (asksOk l) := by
  have key := Ev.scan (fun k (_ : Unit) i => impl_AsksOk.l0 k l l (l.length : Int) i) l.length (fun _ _ => True) (fun i _ => ((l.drop i).all fun s => itemOk s (⟨#[]⟩ : ByteArray) 0) && decide ((l.length : Int) ≤ 300))
    (fun _ _ => Ev.some_ fun k => by simp only [impl_AsksOk.l0]; rw [if_neg (by omega), List.drop_eq_nil_of_le (Nat.le_refl _)]; simp)
    (fun i _ hi _ => by
      have hd := drop_rdOf ByteArray.empty l i hi
      have hi1 := impl_ItemOk_ev (rdOf ByteArray.empty l (i : Int)) (⟨#[]⟩ : ByteArray) 0 (hs _ (rdOf_mem _ _ _ hi)) (by show 0 ≤ _; omega)
      rw [hd, List.all_cons]
      cases c : itemOk (rdOf ByteArray.empty l (i : Int)) (⟨#[]⟩ : ByteArray) 0 with
      | true => rw [c] at hi1; exact .inr ⟨(), trivial, by simp, (evP hi1).eve fun k e => by simp only [impl_AsksOk.l0, e, Option.bind_some, if_true]; rw [if_pos (by omega), if_pos (by omega), if_pos (by omega), w64s hi (by omega)]⟩
      | false => rw [c] at hi1; exact .inl ((evP hi1).ev fun k e => by simp only [impl_AsksOk.l0, e, Option.bind_some, Bool.false_eq_true, if_false]; rw [if_pos (by omega), if_pos (by omega), if_pos (by omega)]; simp)) 0 () (Nat.zero_le _) trivial
  simpa [impl_AsksOk.f, asksOk] using key
/-- What a round of a sweep lays. -/
def swp (hot : List ByteArray) (e : Int) (i : Nat) : List ByteArray := (if Int.tmod (i : Int) e = 0 then hot else []) ++ [(⟨#[99]⟩ : ByteArray) ++ numText (i : Int)]
def sw (hot : List ByteArray) (e : Int) (n : Nat) : List ByteArray := ((List.range n).map (swp hot e)).flatten
theorem sw_succ (hot : List ByteArray) (e : Int) (n : Nat) : sw hot e (n + 1) = sw hot e n ++ swp hot e n := by
  simp [sw, List.range_succ]
theorem swp_len (hot : List ByteArray) (e : Int) (n : Nat) (h : hot.length ≤ 300) : (swp hot e n).length ≤ 301 := by
  unfold swp; split <;> simp <;> omega
theorem sw_len (hot : List ByteArray) (e : Int) (n : Nat) (h : hot.length ≤ 300) : (sw hot e n).length ≤ 301 * n := by
  induction n with
  | zero => simp [sw]
  | succ n ih => rw [sw_succ, List.length_append]; have := swp_len hot e n h; omega
theorem sw_mono (hot : List ByteArray) (e : Int) (n : Nat) : ∀ d, (sw hot e n).length ≤ (sw hot e (n + d)).length
  | 0 => Nat.le_refl _
  | d + 1 => by have := sw_mono hot e n d; rw [← Nat.add_assoc, sw_succ, List.length_append]; omega
def sweepL (hot : List ByteArray) (n : Nat) (e : Int) : List ByteArray := if (sw hot e n).length > 300 then [] else sw hot e n
theorem impl_sweep (hot : List ByteArray) (h : hot.length ≤ 300) (n : Nat) (hn : n ≤ 100) (e : Int) (he : 1 ≤ e) : Ev (fun k => impl_Sweep.l0 k hot e [] (n : Int) 0) (sweepL hot n e) := by
  have key := Ev.scan' (fun k a i => impl_Sweep.l0 k hot e a (n : Int) i) n (fun i a => a = sw hot e i) (fun _ _ => sweepL hot n e)
    (fun a ha => Ev.up (g := fun _ => some _) (EvE.of fun k => by
      simp only [impl_Sweep.l0]; rw [if_neg (by omega), ← show (if (a.length : Int) > 300 then [] else a) = sweepL hot n e by unfold sweepL; rw [ha]; split <;> split <;> first | rfl | omega]
      split <;> rfl) (Ev.now _))
    (fun i a hi ha => by
      have hz := numText_size (i : Int)
      have hw : wrap64 ((i : Int) + 1) = ((i + 1 : Nat) : Int) := w64s hi (by omega)
      have hl := swp_len hot e i h
      have hl2 := sw_len hot e i h
      have hs := sw_succ hot e i
      rw [← ha] at hs hl2
      refine .inr ⟨sw hot e (i + 1), rfl, rfl, fun q hq => Ev.up ((evP (impl_NumText_ev (i : Int))).eve fun k e1 => ?_) hq⟩
      simp only [impl_Sweep.l0, e1, Option.bind_some, hw]
      rw [if_pos (by omega), if_neg (by omega)]
      by_cases c : Int.tmod (i : Int) e = 0
      · rw [if_pos c, if_pos (by omega), if_pos (by omega), if_pos (by rw [List.length_append]; omega)]
        rw [hs]; unfold swp; rw [if_pos c, List.append_assoc]
      · rw [if_neg c, if_pos (by omega), if_pos (by omega)]
        rw [hs]; unfold swp; rw [if_neg c, List.nil_append]) 0 [] (Nat.zero_le _) rfl
  exact key
theorem and255 (x : Int) : 0 ≤ Go.bits .and .i64 x 255 ∧ Go.bits .and .i64 x 255 ≤ 255 := by
  unfold Go.bits
  rw [Go.IntKind.wrap_i64]
  have h : ((BitVec.ofInt Go.IntKind.i64.bits x &&& BitVec.ofInt Go.IntKind.i64.bits 255).toNat) ≤ 255 := by
    rw [BitVec.toNat_and]; exact Nat.le_trans Nat.and_le_right (by decide)
  simp only
  omega
/-- A place in a code. -/
def At (c : List Int) (i : Int) : Prop := 0 ≤ i ∧ i ≤ (c.length : Int) ∧ c.length ≤ 1048576
theorem byte_some (c : List Int) (i h : Int) (hi : At c i) : ∃ b i' h', spec_l01Byte.f c i h = some (b, i', h') ∧ 0 ≤ b ∧ b ≤ 255 ∧ At c i' := by
  obtain ⟨h0, h1, h2⟩ := hi
  simp only [spec_l01Byte.f]
  by_cases c1 : i < (c.length : Int)
  · rw [if_pos c1, if_pos h0]
    refine ⟨_, _, _, rfl, (and255 _).1, (and255 _).2, ?_⟩
    rw [w64 (by omega) (by omega)]
    exact ⟨by omega, by omega, h2⟩
  · rw [if_neg c1]
    exact ⟨_, _, _, rfl, (and255 _).1, (and255 _).2, h0, h1, h2⟩
theorem below_some (c : List Int) (i h n : Int) (hi : At c i) (h1 : 1 ≤ n) (h2 : n ≤ 256) : ∃ b i' h', spec_l01Below.f c i h n = some (b, i', h') ∧ 0 ≤ b ∧ b < n ∧ At c i' := by
  obtain ⟨b, i', h', e, b0, b1, ha⟩ := byte_some c i h hi
  refine ⟨b.tmod n, i', h', ?_, ?_, ?_, ha⟩
  · simp only [spec_l01Below.f, e, Option.bind_some]
    rw [if_neg (by omega), if_pos h2, if_neg (by omega)]
  · rw [Int.tmod_eq_emod_of_nonneg b0]; exact Int.emod_nonneg _ (by omega)
  · rw [Int.tmod_eq_emod_of_nonneg b0]; exact Int.emod_lt_of_pos _ (by omega)
theorem new_some (c : List Int) (hc : c.length ≤ 1048576) : ∃ h, Ev (fun k => spec_l01New.f k c) (c, 0, h) := by
  obtain ⟨r, ⟨h, rfl⟩, hr⟩ := Ev.scanX (fun k (s : Int) i => spec_l01New.l0 k c s i) c.length (fun _ _ => True) (fun r => ∃ h, r = (c, 0, h))
    (fun s _ => ⟨(c, 0, s), ⟨s, rfl⟩, Ev.some_ fun k => by simp only [spec_l01New.l0]; rw [if_neg (by omega)]⟩)
    (fun i s hi _ => by
      by_cases c1 : (i : Int) < 4000
      · exact .inr ⟨_, trivial, EvE.of fun k => by simp only [spec_l01New.l0]; rw [if_pos (by omega), if_pos c1, if_pos (by omega), w64s hi (by omega)]⟩
      · exact .inl ⟨(c, 0, s), ⟨s, rfl⟩, Ev.some_ fun k => by simp only [spec_l01New.l0]; rw [if_pos (by omega), if_neg c1]⟩) 0 (wrap64 (774119 + (c.length : Int))) (Nat.zero_le _) trivial
  exact ⟨h, by simpa [spec_l01New.f] using hr⟩
def keys8 : List ByteArray := [(⟨#[97]⟩ : ByteArray), (⟨#[98]⟩ : ByteArray), (⟨#[99]⟩ : ByteArray), (⟨#[100]⟩ : ByteArray), (⟨#[101]⟩ : ByteArray), (⟨#[102]⟩ : ByteArray), (⟨#[103]⟩ : ByteArray), (⟨#[104]⟩ : ByteArray)]
abbrev KI := S68
def hotK : ByteArray := ⟨#[104, 111, 116]⟩
def vK : ByteArray := ⟨#[118]⟩
/-- A sweep's keys, as they can be reckoned. -/
def ckL (i : Nat) : ByteArray := if i < 10 then strOfNums [99, ((48 + i : Nat) : Int)] else strOfNums [99, ((48 + i / 10 : Nat) : Int), ((48 + i % 10 : Nat) : Int)]
def hotI (f : Int) : KI := ⟨hotK, vK, f⟩
/-- What is asked of the cache in the end. -/
def fin (C : Int) (i : Nat) (s m : List KI) (g : List Int) : Bool := threeOk C 1 s m g && (decide (i < 30) || (decide ((getV C 1 s m g hotK).2.2.2.2.2.1 = vK) && (getV C 1 s m g hotK).2.2.2.2.2.2 && decide ((s.length : Int) + (m.length : Int) = C)))
def chk (C : Int) : Nat → Nat → List KI → List KI → List Int → Bool
  | 0, i, s, m, g => fin C i s m g
  | f + 1, i, s, m, g => fin C i s m g && (decide ((putV C 1 s m g (ckL i) ⟨#[]⟩).1 = C) && decide ((putV C 1 s m g (ckL i) ⟨#[]⟩).2.1 = 1) && (putV C 1 s m g (ckL i) ⟨#[]⟩).2.2.2.2.2.2 && chk C f (i + 1) (putV C 1 s m g (ckL i) ⟨#[]⟩).2.2.1 (putV C 1 s m g (ckL i) ⟨#[]⟩).2.2.2.1 (putV C 1 s m g (ckL i) ⟨#[]⟩).2.2.2.2.1)
theorem chk4 : chk 4 49 0 [hotI 3] [] [] = true := by kernel_rfl
theorem chk5 : chk 5 49 0 [hotI 3] [] [] = true := by kernel_rfl
theorem chk6 : chk 6 49 0 [hotI 3] [] [] = true := by kernel_rfl
theorem chk7 : chk 7 49 0 [hotI 3] [] [] = true := by kernel_rfl
theorem chk8 : chk 8 49 0 [hotI 3] [] [] = true := by kernel_rfl
theorem chk9 : chk 9 49 0 [hotI 3] [] [] = true := by kernel_rfl
theorem nt_L : ∀ i : Nat, i < 100 → (⟨#[99]⟩ : ByteArray) ++ nt i = ckL i := by
  have h1 : ∀ i : Fin 10, (⟨#[99]⟩ : ByteArray) ++ strOfNums [((48 + i.1 : Nat) : Int)] = ckL i.1 := by decide
  have h2 : ∀ i : Fin 100, ¬ i.1 < 10 → (⟨#[99]⟩ : ByteArray) ++ (strOfNums [((48 + i.1 / 10 : Nat) : Int)] ++ strOfNums [((48 + i.1 % 10 : Nat) : Int)]) = ckL i.1 := by decide
  intro i hi
  rw [nt]
  by_cases c : i < 10
  · rw [if_pos c]; exact h1 ⟨i, c⟩
  · rw [if_neg c, nt, if_pos (by omega)]; exact h2 ⟨i, hi⟩ c
theorem sweep_L (n : Nat) (hn : n ≤ 49) : sweepL [] n 1 = (List.range n).map ckL := by
  have e : sw [] 1 n = (List.range n).map ckL := by
    induction n with
    | zero => rfl
    | succ n ih =>
      rw [sw_succ, ih (by omega), List.range_succ, List.map_append, List.map_singleton]
      congr 1
      have e0 : (if Int.tmod (n : Int) 1 = 0 then ([] : List ByteArray) else []) = [] := by split <;> rfl
      unfold swp numText
      rw [e0, if_pos (by omega), Int.toNat_natCast, nt_L n (by omega)]; rfl
  unfold sweepL
  rw [e, if_neg (by simp; omega)]
theorem ck_size (i : Nat) : (ckL i).size ≤ 3 := by
  unfold ckL; split
  · show 2 ≤ 3; omega
  · show 3 ≤ 3; omega
theorem num_some (c : List Int) (hc : c.length ≤ 1048576) (n : Nat) (h1 : 1 ≤ n) (h2 : n ≤ 256) : ∃ t : Nat, t < n ∧ Ev (fun k => spec_MakeNum.f k c (n : Int)) (t : Int) := by
  obtain ⟨h, hnew⟩ := new_some c hc
  obtain ⟨b, i', h', e, b0, b1, _⟩ := below_some c 0 (wrap64 (h + 777)) (n : Int) ⟨Int.le_refl _, by omega, hc⟩ (by omega) (by omega)
  refine ⟨b.toNat, by omega, (evP hnew).ev fun k e1 => ?_⟩
  simp only [spec_MakeNum.f, e1, Option.bind_some, e]
  rw [Int.toNat_of_nonneg b0]
theorem rdOf_map (n i : Nat) (hi : i < n) : rdOf ByteArray.empty ((List.range n).map ckL) (i : Int) = ckL i := by
  rw [rdOf_nat, List.getD_eq_getElem?_getD, List.getElem?_map, List.getElem?_range hi]; rfl
theorem end_ev (C : Int) (n : Nat) (h30 : 30 ≤ n) (hC : 4 ≤ C ∧ C ≤ 9) (s m : List KI) (g : List Int) (h : fin C n s m g = true) : Ev (fun k => laws_FnSweep.l1 k C ((List.range n).map ckL) ((List.range n).map ckL) (n : Int) (n : Int) C 1 s m g) true := by
  unfold fin at h
  simp only [Bool.and_eq_true, Bool.or_eq_true, decide_eq_true_eq] at h
  obtain ⟨hO, h⟩ := h
  rcases h with h | ⟨⟨hv, hok⟩, hl⟩
  · omega
  have h3 := three_len hO
  have hS := small_of hO
  have hT := impl_ThreeOk_ev C 1 s m g (by omega) hS
  rw [hO] at hT
  refine Ev.up (g := fun _ => some true) ((evA (impl_Get_ev C 1 s m g hotK (by omega) hS) (evP hT)).eve fun k ⟨e1, e2⟩ => ?_) (Ev.now _)
  have e1' : impl_Get.f k C 1 s m g (⟨#[104, 111, 116]⟩ : ByteArray) = some (getV C 1 s m g hotK) := e1
  simp only [laws_FnSweep.l1, e1', e2, Option.bind_some]
  rw [if_neg (by omega), if_pos hok, hv, if_pos (by rw [ByteArray.toList_eq]; rfl), if_pos (by simp; omega), if_pos (by rw [w64 (by omega) (by omega)]; exact hl)]
theorem l1_ev (C : Int) (n : Nat) (h30 : 30 ≤ n) (hn : n ≤ 49) (hC : 4 ≤ C ∧ C ≤ 9) : ∀ (f i : Nat) (s m : List KI) (g : List Int), i + f = 49 → i ≤ n → chk C f i s m g = true → Ev (fun k => laws_FnSweep.l1 k C ((List.range n).map ckL) ((List.range n).map ckL) (n : Int) (i : Int) C 1 s m g) true := by
  intro f
  induction f with
  | zero =>
    intro i s m g he hi h
    obtain rfl : i = n := by omega
    exact end_ev C i h30 hC s m g h
  | succ f ih =>
    intro i s m g he hi h
    unfold chk at h
    simp only [Bool.and_eq_true, decide_eq_true_eq] at h
    obtain ⟨hf, ⟨⟨h1, h2⟩, h3⟩, h4⟩ := h
    by_cases c : i = n
    · subst c; exact end_ev C i h30 hC s m g hf
    have hO : threeOk C 1 s m g = true := by
      unfold fin at hf
      simp only [Bool.and_eq_true] at hf
      exact hf.1
    have hl := three_len hO
    have hz := ck_size i
    have hP := impl_Put_ev C 1 s m g (ckL i) (⟨#[]⟩ : ByteArray) (by omega) (by show 0 ≤ _; omega) (by omega) (small_of hO)
    refine Ev.up ((evP hP).eve fun k e1 => ?_) (ih (i + 1) _ _ _ (by omega) (by omega) h4)
    simp only [laws_FnSweep.l1, rdOf_map n i (by omega), e1, Option.bind_some]
    rw [if_pos (by omega), if_pos (by omega), if_pos (by rw [List.length_map, List.length_range]; omega), if_pos h3, h1, h2, w64 (by omega) (by omega)]
    rfl
theorem sweep_ev (n : Nat) (hn : 1 ≤ n) (hn2 : n ≤ 49) : Ev (fun k => impl_Sweep.f k [] (n : Int) 1) ((List.range n).map ckL) := by
  have hb := impl_AsksOk_ev [] (by simp) (by simp)
  have k2 := impl_sweep [] (by simp) n (by omega) 1 (by omega)
  rw [sweep_L n hn2] at k2
  refine Ev.ofE (g := fun k => impl_Sweep.j0 k [] (n : Int) 1 [] false) ((evP hb).eve fun k e1 => ?_) (Ev.up (EvE.of fun k => ?_) k2)
  · simp only [impl_Sweep.f, impl_within.f, Option.bind_some]
    rw [if_pos (by omega), Option.bind_some, if_pos (decide_eq_true (by omega)), if_neg (by omega), e1]; rfl
  · simp only [impl_Sweep.j0, Bool.false_eq_true, if_false]
/-- The beginning: the key that is put, and asked for three times. -/
def beg (C : Int) : Prop := threeOk C 1 [] [] [] = true ∧ putV C 1 [] [] [] hotK vK = (C, 1, [hotI 0], [], [], [], true) ∧ (∀ f : Fin 3, threeOk C 1 [hotI f.1] [] [] = true ∧ getV C 1 [hotI f.1] [] [] hotK = (C, 1, [hotI (f.1 + 1 : Nat)], [], [], vK, true))
theorem sweep_at (c : List Int) (hc : c.length ≤ 1048576) (C : Int) (hC : 4 ≤ C ∧ C ≤ 9) (hb : beg C) (hk : chk C 49 0 [hotI 3] [] [] = true) : Ev (fun k => laws_FnSweep.j0 k c C false C 1 [hotI 0] [] []) true := by
  obtain ⟨t, ht, hT⟩ := num_some c hc 20 (by omega) (by omega)
  have hS := sweep_ev (30 + t) (by omega) (by omega)
  have h1 := l1_ev C (30 + t) (by omega) (by omega) hC 49 0 [hotI 3] [] [] rfl (Nat.zero_le _) hk
  have hw : wrap64 (30 + (t : Int)) = ((30 + t : Nat) : Int) := by rw [w64 (by omega) (by omega)]; omega
  have hl3 : Ev (fun k => laws_FnSweep.l0 k c C 3 C 1 [hotI 3] [] []) true := by
    refine Ev.up ((evA hT (evP hS)).eve fun k ⟨e1, e2⟩ => ?_) h1
    have e1' : spec_MakeNum.f k c 20 = some (t : Int) := e1
    rw [laws_FnSweep.l0.eq_2, if_neg (by omega), e1', Option.bind_some, hw, e2, Option.bind_some, List.length_map, List.length_range]; rfl
  have hstep : ∀ f : Fin 3, Ev (fun k => laws_FnSweep.l0 k c C ((f.1 + 1 : Nat) : Int) C 1 [hotI (f.1 + 1 : Nat)] [] []) true → Ev (fun k => laws_FnSweep.l0 k c C (f.1 : Int) C 1 [hotI f.1] [] []) true := fun f h => by
    obtain ⟨hO, hg⟩ := hb.2.2 f
    have hG := impl_Get_ev C 1 [hotI f.1] [] [] hotK (by simp) (small_of hO)
    rw [hg] at hG
    refine Ev.up ((evP hG).eve fun k e1 => ?_) h
    have e1' : impl_Get.f k C 1 [hotI f.1] [] [] (⟨#[104, 111, 116]⟩ : ByteArray) = some (C, 1, [hotI (f.1 + 1 : Nat)], [], [], vK, true) := e1
    simp only [laws_FnSweep.l0, e1', Option.bind_some, if_true]
    have := f.2
    rw [if_pos (by omega), w64 (by omega) (by omega)]; rfl
  refine Ev.up (EvE.of fun k => ?_) (hstep ⟨0, by omega⟩ (hstep ⟨1, by omega⟩ (hstep ⟨2, by omega⟩ hl3)))
  simp only [laws_FnSweep.j0, Bool.false_eq_true, if_false]; rfl
theorem beg4 : beg 4 := ⟨by kernel_rfl, by kernel_rfl, fun f => by match f with | 0 => exact ⟨by kernel_rfl, by kernel_rfl⟩ | 1 => exact ⟨by kernel_rfl, by kernel_rfl⟩ | 2 => exact ⟨by kernel_rfl, by kernel_rfl⟩⟩
theorem beg5 : beg 5 := ⟨by kernel_rfl, by kernel_rfl, fun f => by match f with | 0 => exact ⟨by kernel_rfl, by kernel_rfl⟩ | 1 => exact ⟨by kernel_rfl, by kernel_rfl⟩ | 2 => exact ⟨by kernel_rfl, by kernel_rfl⟩⟩
theorem beg6 : beg 6 := ⟨by kernel_rfl, by kernel_rfl, fun f => by match f with | 0 => exact ⟨by kernel_rfl, by kernel_rfl⟩ | 1 => exact ⟨by kernel_rfl, by kernel_rfl⟩ | 2 => exact ⟨by kernel_rfl, by kernel_rfl⟩⟩
theorem beg7 : beg 7 := ⟨by kernel_rfl, by kernel_rfl, fun f => by match f with | 0 => exact ⟨by kernel_rfl, by kernel_rfl⟩ | 1 => exact ⟨by kernel_rfl, by kernel_rfl⟩ | 2 => exact ⟨by kernel_rfl, by kernel_rfl⟩⟩
theorem beg8 : beg 8 := ⟨by kernel_rfl, by kernel_rfl, fun f => by match f with | 0 => exact ⟨by kernel_rfl, by kernel_rfl⟩ | 1 => exact ⟨by kernel_rfl, by kernel_rfl⟩ | 2 => exact ⟨by kernel_rfl, by kernel_rfl⟩⟩
theorem beg9 : beg 9 := ⟨by kernel_rfl, by kernel_rfl, fun f => by match f with | 0 => exact ⟨by kernel_rfl, by kernel_rfl⟩ | 1 => exact ⟨by kernel_rfl, by kernel_rfl⟩ | 2 => exact ⟨by kernel_rfl, by kernel_rfl⟩⟩
theorem both (C : Int) (h : 4 ≤ C ∧ C ≤ 9) : beg C ∧ chk C 49 0 [hotI 3] [] [] = true := by
  have : C = 4 ∨ C = 5 ∨ C = 6 ∨ C = 7 ∨ C = 8 ∨ C = 9 := by omega
  rcases this with rfl | rfl | rfl | rfl | rfl | rfl
  · exact ⟨beg4, chk4⟩
  · exact ⟨beg5, chk5⟩
  · exact ⟨beg6, chk6⟩
  · exact ⟨beg7, chk7⟩
  · exact ⟨beg8, chk8⟩
  · exact ⟨beg9, chk9⟩
theorem FnSweep : DFnSweep.Pure := by
  intro c ⟨_, _⟩
  by_cases c0 : (c.length : Int) > 1048576
  · exact ⟨0, by simp only [laws_FnSweep.f]; rw [if_pos c0]⟩
  have hc : c.length ≤ 1048576 := by omega
  obtain ⟨t, ht, hT⟩ := num_some c hc 6 (by omega) (by omega)
  have hw : wrap64 (4 + (t : Int)) = 4 + (t : Int) := w64 (by omega) (by omega)
  obtain ⟨hb, hk⟩ := both (4 + (t : Int)) (by omega)
  have hN := impl_ThreeNew_ev (4 + (t : Int)) 1
  have eN : threeNew (4 + (t : Int)) 1 = (4 + (t : Int), 1, [], [], [], true) := by unfold threeNew; rw [if_pos hb.1]
  rw [eN] at hN
  have hP := impl_Put_ev (4 + (t : Int)) 1 [] [] [] hotK vK (by show 3 ≤ _; omega) (by show 1 ≤ _; omega) (by simp) smallNil
  rw [hb.2.1] at hP
  obtain ⟨k, e1, e2, e3, e4⟩ := (evA hT (evA hN (evA hP (evP (sweep_at c hc (4 + (t : Int)) (by omega) hb hk))))).ex
  have e1' : spec_MakeNum.f k c 6 = some (t : Int) := e1
  have e3' : impl_Put.f k (4 + (t : Int)) 1 [] [] [] (⟨#[104, 111, 116]⟩ : ByteArray) (⟨#[118]⟩ : ByteArray) = some (4 + (t : Int), 1, [hotI 0], [], [], [], true) := e3
  exact ⟨k, by unfold laws_FnSweep.f; rw [if_neg c0, e1', Option.bind_some, hw, e2, Option.bind_some, e3', Option.bind_some, if_pos rfl]; exact e4⟩
end Go.Proofs.Ytfjhkediaholmaa.Pure
