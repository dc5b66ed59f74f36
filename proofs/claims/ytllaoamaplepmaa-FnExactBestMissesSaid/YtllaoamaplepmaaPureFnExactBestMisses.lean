/- The program's BestMisses and the reference's tell the same, for all askings and caps. No condition. -/
import Derived.Test.YtllaoamaplepmaaDFnExactBestMisses
import Derived.Test.YtllaoamaplepmaaLm
namespace Go.Proofs.Ytllaoamaplepmaa.Pure
open Go.RowKit Go.Proofs.Ytllaoamaplepmaa.QFnExactBestMisses Go.Proofs.YtllaoamaplepmaaW.PrintWords Go.Proofs.YtllaoamaplepmaaW.PrintLast Go.Proofs.YtllaoamaplepmaaW.PrintMore Go.Proofs.Ytllaoamaplepmaa.Lm
set_option linter.unusedSimpArgs false
set_option linter.unusedVariables false
theorem laws_szStringS_ev (l : List ByteArray) (n : Int) (hn0 : 0 ≤ n) (hn : n ≤ 1048576) (h : l.length ≤ maxLen) (hs : ∀ s ∈ l, s.size ≤ maxLen) :
    ∃ t, Ev (fun k => laws_szStringS.f k l n) t ∧ t ≤ n ∧ (¬ t < 0 → t = n - (l.length : Int) - (tot l : Int)) := by
  unfold maxLen at h hs
  by_cases c : n - (l.length : Int) < 0
  · refine ⟨-1, Ev.some_ fun k => ?_, by omega, by omega⟩
    simp only [laws_szStringS.f]; rw [w64 (by omega) (by omega), if_pos c]
  · have key := Ev.scan (fun k m i => laws_szStringS.l0 k l m i) l.length (fun _ m => 0 ≤ m ∧ m ≤ n) (fun i m => if m < (tot (l.drop i) : Int) then -1 else m - (tot (l.drop i) : Int))
      (fun m hm => Ev.some_ fun k => by
        simp only [laws_szStringS.l0]; rw [if_neg (by omega), List.drop_eq_nil_of_le (Nat.le_refl _)]
        simp [tot]
        try omega)
      (fun i m hi hm => by
        have hd := drop_rdOf ByteArray.empty l i hi
        have hsz := hs _ (rdOf_mem ByteArray.empty l i hi)
        have hw : wrap64 (m - ((rdOf ByteArray.empty l (i : Int)).size : Int)) = m - ((rdOf ByteArray.empty l (i : Int)).size : Int) := w64 (by omega) (by omega)
        have hl : ∀ k, laws_szStringS.l0 (k + 1) l m (i : Int) = if m - ((rdOf ByteArray.empty l (i : Int)).size : Int) < 0 then some (-1) else laws_szStringS.l0 k l (m - ((rdOf ByteArray.empty l (i : Int)).size : Int)) ((i + 1 : Nat) : Int) := fun k => by
          simp only [laws_szStringS.l0]; rw [if_pos (by omega), if_pos (by omega), w64s hi h, hw]
        rw [hd, tot_cons]
        by_cases c2 : m - ((rdOf ByteArray.empty l (i : Int)).size : Int) < 0
        · exact .inl (Ev.some_ fun k => by simp only [hl]; rw [if_pos c2, if_pos (by omega)])
        · refine .inr ⟨m - ((rdOf ByteArray.empty l (i : Int)).size : Int), by omega, ?_, EvE.of fun k => by simp only [hl]; rw [if_neg c2]⟩
          split <;> split <;> omega) 0 (n - (l.length : Int)) (Nat.zero_le _) (by omega)
    refine ⟨_, Ev.congr (fun k => ?_) key, ?_, ?_⟩
    · simp only [laws_szStringS.f]; rw [w64 (by omega) (by omega), if_neg c]; rfl
    · simp only [List.drop_zero]; split <;> omega
    · simp only [List.drop_zero]; split <;> omega
theorem laws_toStringS_ev (l : List ByteArray) (h : l.length ≤ 1048576) : Ev (fun k => laws_toStringS.f k l) l := by
  have hl := copy_loop ByteArray.empty (fun k s i => laws_toStringS.l0 k l s i) l (fun s hs => Ev.some_ fun k => by simp only [laws_toStringS.l0]; rw [if_neg (by omega)]) (fun i s hi hs => EvE.of fun k => by
    simp only [laws_toStringS.l0]; rw [if_pos (by omega), if_pos (by omega), if_pos (by omega), w64s hi (by omega), Int.toNat_natCast] <;> rfl) (List.replicate l.length (⟨#[]⟩:ByteArray)) (by simp)
  refine Ev.congr (fun k => ?_) hl
  simp only [laws_toStringS.f, Int.toNat_natCast]
  rw [if_pos (by omega), if_pos (by omega)]
theorem laws_eqStringS_ev (l : List ByteArray) (h : l.length ≤ 9223372036854775807) : Ev (fun k => laws_eqStringS.f k l l) true := by
  refine Ev.congr (fun k => ?_) (all_loop (fun k i => laws_eqStringS.l0 k l l i) l.length (Ev.some_ fun k => by simp only [laws_eqStringS.l0]; rw [if_neg (by omega)]) (fun i hi => EvE.of fun k => by
    simp only [laws_eqStringS.l0]; rw [if_pos (by omega), if_pos (by omega), if_pos (by omega), if_pos trivial, w64s hi h]))
  simp only [laws_eqStringS.f]; rw [if_pos trivial]
theorem spec_l10Clean_ev (s : ByteArray) (hs : s.size ≤ 9223372036854775807) : Ev (fun k => spec_l10Clean.f k s) (plain (bytesOf s)) := by
  have := Ev.scan (l := fun k (_ : Unit) i => spec_l10Clean.l0 k s i) s.size (fun _ _ => True) (fun i _ => plain ((bytesOf s).drop i)) ?_ ?_ 0 () (Nat.zero_le _) trivial
  · simpa [spec_l10Clean.f] using this
  · intro _ _
    exact Ev.some_ fun k => by simp only [spec_l10Clean.l0]; rw [if_neg (by omega)]; simp [plain, ← bytesOf_length]
  · intro i _ hi _
    have hd := drop_bt s i hi
    have hl : ∀ k, spec_l10Clean.l0 (k + 1) s (i : Int) = if bt s (i : Int) = 32 then some false else if bt s (i : Int) = 10 then some false else spec_l10Clean.l0 k s ((i + 1 : Nat) : Int) := fun k => by
      simp only [spec_l10Clean.l0]; rw [if_pos (by omega), if_pos (by omega), w64s hi hs]
    by_cases h1 : bt s (i : Int) = 32
    · exact .inl (Ev.some_ fun k => by simp only [hl]; rw [if_pos h1, hd, h1]; rfl)
    · by_cases h2 : bt s (i : Int) = 10
      · exact .inl (Ev.some_ fun k => by simp only [hl]; rw [if_neg h1, if_pos h2, hd, h2]; rfl)
      · exact .inr ⟨(), trivial, by rw [hd]; simp [plain, h1, h2], EvE.of fun k => by simp only [hl]; rw [if_neg h1, if_neg h2]⟩
theorem impl_isPlain_ev (s : ByteArray) (hs : s.size ≤ 9223372036854775807) : Ev (fun k => impl_isPlain.f k s) (plain (bytesOf s)) := by
  have := Ev.scan (l := fun k (_ : Unit) i => impl_isPlain.l0 k s i) s.size (fun _ _ => True) (fun i _ => plain ((bytesOf s).drop i)) ?_ ?_ 0 () (Nat.zero_le _) trivial
  · simpa [impl_isPlain.f] using this
  · intro _ _
    exact Ev.some_ fun k => by simp only [impl_isPlain.l0]; rw [if_neg (by omega)]; simp [plain, ← bytesOf_length]
  · intro i _ hi _
    have hd := drop_bt s i hi
    have hl : ∀ k, impl_isPlain.l0 (k + 1) s (i : Int) = if bt s (i : Int) = 32 then some false else if bt s (i : Int) = 10 then some false else impl_isPlain.l0 k s ((i + 1 : Nat) : Int) := fun k => by
      simp only [impl_isPlain.l0]; rw [if_pos (by omega), if_pos (by omega), w64s hi hs]
    by_cases h1 : bt s (i : Int) = 32
    · exact .inl (Ev.some_ fun k => by simp only [hl]; rw [if_pos h1, hd, h1]; rfl)
    · by_cases h2 : bt s (i : Int) = 10
      · exact .inl (Ev.some_ fun k => by simp only [hl]; rw [if_neg h1, if_pos h2, hd, h2]; rfl)
      · exact .inr ⟨(), trivial, by rw [hd]; simp [plain, h1, h2], EvE.of fun k => by simp only [hl]; rw [if_neg h1, if_neg h2]⟩
theorem spec_ItemOk_ev (a b : ByteArray) (f : Int) (ha : a.size ≤ 9223372036854775807) (hb : b.size ≤ 9223372036854775807) : Ev (fun k => spec_ItemOk.f k a b f) (itemOk a b f) := by
  obtain ⟨K1, h1⟩ := spec_l10Clean_ev a ha
  obtain ⟨K2, h2⟩ := spec_l10Clean_ev b hb
  refine ⟨max K1 K2, fun k hk => ?_⟩
  have e1 := h1 k (by omega)
  have e2 := h2 k (by omega)
  by_cases c1 : 1 ≤ (a.size : Int) <;> by_cases c2 : (a.size : Int) ≤ 20 <;> by_cases c3 : (b.size : Int) ≤ 40 <;> by_cases c4 : 0 ≤ f <;> by_cases c5 : f ≤ 3 <;> cases p1 : plain (bytesOf a) <;> cases p2 : plain (bytesOf b) <;>
    simp only [spec_ItemOk.f, spec_l01In.f, e1, e2, Option.bind_some, itemOk, ge_iff_le, c1, c2, c3, c4, c5, p1, p2, if_true, if_false, decide_true, decide_false, Bool.and_true, Bool.true_and, Bool.false_and, Bool.and_false, Bool.false_eq_true]
theorem impl_ItemOk_ev (a b : ByteArray) (f : Int) (ha : a.size ≤ 9223372036854775807) (hb : b.size ≤ 9223372036854775807) : Ev (fun k => impl_ItemOk.f k a b f) (itemOk a b f) := by
  obtain ⟨K1, h1⟩ := impl_isPlain_ev a ha
  obtain ⟨K2, h2⟩ := impl_isPlain_ev b hb
  refine ⟨max K1 K2, fun k hk => ?_⟩
  have e1 := h1 k (by omega)
  have e2 := h2 k (by omega)
  by_cases c1 : 1 ≤ (a.size : Int) <;> by_cases c2 : (a.size : Int) ≤ 20 <;> by_cases c3 : (b.size : Int) ≤ 40 <;> by_cases c4 : 0 ≤ f <;> by_cases c5 : f ≤ 3 <;> cases p1 : plain (bytesOf a) <;> cases p2 : plain (bytesOf b) <;>
    simp only [impl_ItemOk.f, impl_within.f, e1, e2, Option.bind_some, itemOk, ge_iff_le, c1, c2, c3, c4, c5, p1, p2, if_true, if_false, decide_true, decide_false, Bool.and_true, Bool.true_and, Bool.false_and, Bool.and_false, Bool.false_eq_true]
theorem spec_AsksOk_ev (l : List ByteArray) (hl : l.length ≤ 1048577) (hs : ∀ s ∈ l, s.size ≤ 9223372036854775807) : Ev (fun k => spec_AsksOk.f k l) (asksOk l) := by
  have key := Ev.scan (fun k (_ : Unit) i => spec_AsksOk.l0 k l l (l.length : Int) i) l.length (fun _ _ => True) (fun i _ => ((l.drop i).all fun s => itemOk s (⟨#[]⟩ : ByteArray) 0) && decide ((l.length : Int) ≤ 300))
    (fun _ _ => Ev.some_ fun k => by simp only [spec_AsksOk.l0]; rw [if_neg (by omega), List.drop_eq_nil_of_le (Nat.le_refl _)]; simp)
    (fun i _ hi _ => by
      have hd := drop_rdOf ByteArray.empty l i hi
      have hi1 := spec_ItemOk_ev (rdOf ByteArray.empty l (i : Int)) (⟨#[]⟩ : ByteArray) 0 (hs _ (rdOf_mem _ _ _ hi)) (by show 0 ≤ _; omega)
      rw [hd, List.all_cons]
      cases c : itemOk (rdOf ByteArray.empty l (i : Int)) (⟨#[]⟩ : ByteArray) 0 with
      | true => rw [c] at hi1; exact .inr ⟨(), trivial, by simp, (evP hi1).eve fun k e => by simp only [spec_AsksOk.l0, e, Option.bind_some, if_true]; rw [if_pos (by omega), if_pos (by omega), if_pos (by omega), w64s hi (by omega)]⟩
      | false => rw [c] at hi1; exact .inl ((evP hi1).ev fun k e => by simp only [spec_AsksOk.l0, e, Option.bind_some, Bool.false_eq_true, if_false]; rw [if_pos (by omega), if_pos (by omega), if_pos (by omega)]; simp)) 0 () (Nat.zero_le _) trivial
  simpa [spec_AsksOk.f, asksOk] using key
theorem impl_AsksOk_ev (l : List ByteArray) (hl : l.length ≤ 1048577) (hs : ∀ s ∈ l, s.size ≤ 9223372036854775807) : Ev (fun k => impl_AsksOk.f k l) (asksOk l) := by
  have key := Ev.scan (fun k (_ : Unit) i => impl_AsksOk.l0 k l l (l.length : Int) i) l.length (fun _ _ => True) (fun i _ => ((l.drop i).all fun s => itemOk s (⟨#[]⟩ : ByteArray) 0) && decide ((l.length : Int) ≤ 300))
    (fun _ _ => Ev.some_ fun k => by simp only [impl_AsksOk.l0]; rw [if_neg (by omega), List.drop_eq_nil_of_le (Nat.le_refl _)]; simp)
    (fun i _ hi _ => by
      have hd := drop_rdOf ByteArray.empty l i hi
      have hi1 := impl_ItemOk_ev (rdOf ByteArray.empty l (i : Int)) (⟨#[]⟩ : ByteArray) 0 (hs _ (rdOf_mem _ _ _ hi)) (by show 0 ≤ _; omega)
      rw [hd, List.all_cons]
      cases c : itemOk (rdOf ByteArray.empty l (i : Int)) (⟨#[]⟩ : ByteArray) 0 with
      | true => rw [c] at hi1; exact .inr ⟨(), trivial, by simp, (evP hi1).eve fun k e => by simp only [impl_AsksOk.l0, e, Option.bind_some, if_true]; rw [if_pos (by omega), if_pos (by omega), if_pos (by omega), w64s hi (by omega)]⟩
      | false => rw [c] at hi1; exact .inl ((evP hi1).ev fun k e => by simp only [impl_AsksOk.l0, e, Option.bind_some, Bool.false_eq_true, if_false]; rw [if_pos (by omega), if_pos (by omega), if_pos (by omega)]; simp)) 0 () (Nat.zero_le _) trivial
  simpa [impl_AsksOk.f, asksOk] using key
theorem slices_Contains_ev (l : List ByteArray) (x : ByteArray) (hl : l.length ≤ 1048576) : Ev (fun k => slices_Contains_string_string.f k l x) (hasT l x) := by
  have key : ∃ r, Ev (fun k => slices_Index_string_string.f k l x) r ∧ decide (r ≥ 0) = hasT l x := by
    have key := Ev.scan (fun k (_ : Unit) i => slices_Index_string_string.l0 k l x (l.length : Int) i) l.length (fun _ _ => True) (fun i _ => if hasT (l.drop i) x then (((l.drop i).findIdx (fun y => decide (y = x)) + i : Nat) : Int) else -1)
      (fun _ _ => Ev.some_ fun k => by simp only [slices_Index_string_string.l0]; rw [if_neg (by omega), List.drop_eq_nil_of_le (Nat.le_refl _)]; rfl)
      (fun i _ hi _ => by
        have hd := drop_rdOf ByteArray.empty l i hi
        have hs : ∀ k, slices_Index_string_string.l0 (k + 1) l x (l.length : Int) (i : Int) = if rdOf ByteArray.empty l (i : Int) = x then some (i : Int) else slices_Index_string_string.l0 k l x (l.length : Int) ((i + 1 : Nat) : Int) := fun k => by
          simp only [slices_Index_string_string.l0, toList_inj]; rw [if_pos (by omega), if_pos (by omega), if_pos (by omega), w64s hi (by omega)]
          simp only [eq_comm]
        rw [hd, hasT_cons, List.findIdx_cons]
        by_cases c : rdOf ByteArray.empty l (i : Int) = x
        · exact .inl (Ev.some_ fun k => by simp only [hs]; rw [if_pos c, decide_eq_true c]; simp)
        · exact .inr ⟨(), trivial, by
            rw [decide_eq_false c]; simp only [Bool.false_or, cond_false]
            split <;> omega, EvE.of fun k => by simp only [hs]; rw [if_neg c]⟩) 0 () (Nat.zero_le _) trivial
    refine ⟨_, (by simpa [slices_Index_string_string.f] using key), ?_⟩
    cases hasT l x with
    | true => simp only [if_true]; exact decide_eq_true (by omega)
    | false => rfl
  obtain ⟨r, hr, e⟩ := key
  rw [← e]
  exact (evP hr).ev fun k e1 => by simp only [slices_Contains_string_string.f, e1, Option.bind_some]
theorem bgo_spec (l : List ByteArray) (x : Int) : ∀ (has : List ByteArray) (i : Nat) (b f : Int), (bgo l x has i b f = b ∧ ∀ y ∈ has, (nextAsk l y x : Int) ≤ f) ∨ (∃ j : Nat, ∃ h : j < has.length, bgo l x has i b f = ((i + j : Nat) : Int) ∧ f < (nextAsk l has[j] x : Int) ∧ ∀ y ∈ has, nextAsk l y x ≤ nextAsk l has[j] x) := by
  intro has
  induction has with
  | nil => intro i b f; exact .inl ⟨rfl, by simp⟩
  | cons y r ih =>
    intro i b f
    unfold bgo
    by_cases c : (nextAsk l y x : Int) > f
    · rw [if_pos c]
      rcases ih (i + 1) (i : Int) (nextAsk l y x : Int) with ⟨e, h⟩ | ⟨j, hj, e, h1, h2⟩
      · refine .inr ⟨0, by simp, by rw [e]; simp, by simpa using c, fun z hz => ?_⟩
        rcases List.mem_cons.1 hz with rfl | hz
        · simp
        · have := h z hz; simp only [List.getElem_cons_zero]; omega
      · refine .inr ⟨j + 1, by simp; omega, by rw [e]; congr 1; omega, by simp only [List.getElem_cons_succ]; omega, fun z hz => ?_⟩
        simp only [List.getElem_cons_succ]
        rcases List.mem_cons.1 hz with rfl | hz
        · omega
        · exact h2 z hz
    · rw [if_neg c]
      rcases ih (i + 1) b f with ⟨e, h⟩ | ⟨j, hj, e, h1, h2⟩
      · exact .inl ⟨e, fun z hz => (List.mem_cons.1 hz).elim (fun h3 => by rw [h3]; omega) (h z)⟩
      · refine .inr ⟨j + 1, by simp; omega, by rw [e]; congr 1; omega, by simpa using h1, fun z hz => ?_⟩
        simp only [List.getElem_cons_succ]
        rcases List.mem_cons.1 hz with rfl | hz
        · omega
        · exact h2 z hz
/-- Whom it is longest till is asked for. -/
theorem bgo_far (l : List ByteArray) (x : Int) (has : List ByteArray) (h : has ≠ []) : ∃ j : Nat, ∃ hj : j < has.length, bgo l x has 0 (-1) (-1) = (j : Int) ∧ ∀ y ∈ has, nextAsk l y x ≤ nextAsk l has[j] x := by
  rcases bgo_spec l x has 0 (-1) (-1) with ⟨_, h1⟩ | ⟨j, hj, e, _, h2⟩
  · cases has with
    | nil => exact absurd rfl h
    | cons y r => have := h1 y List.mem_cons_self; omega
  · exact ⟨j, hj, by rw [e]; simp, h2⟩
/-- The keys there are behind a miss. -/
def nextHas (l : List ByteArray) (cap : Int) (i : Nat) (y : ByteArray) (has : List ByteArray) : List ByteArray := if (has.length : Int) = cap then has.eraseIdx (bgo l ((i + 1 : Nat) : Int) has 0 (-1) (-1)).toNat ++ [y] else has ++ [y]
def hitsGo (l : List ByteArray) (cap : Int) : List ByteArray → Nat → List ByteArray → List Bool
  | [], _, _ => []
  | y :: r, i, has => if hasT has y then true :: hitsGo l cap r (i + 1) has else false :: hitsGo l cap r (i + 1) (nextHas l cap i y has)
theorem hitsGo_length (l : List ByteArray) (cap : Int) : ∀ (r : List ByteArray) (i : Nat) (has : List ByteArray), (hitsGo l cap r i has).length = r.length
  | [], _, _ => rfl
  | y :: r, i, has => by unfold hitsGo; split <;> simp [hitsGo_length l cap r]
theorem nextHas_length (l : List ByteArray) (cap : Int) (hc : 1 ≤ cap) (i : Nat) (y : ByteArray) (has : List ByteArray) (h : (has.length : Int) ≤ cap) : ((nextHas l cap i y has).length : Int) ≤ cap := by
  unfold nextHas
  by_cases c : (has.length : Int) = cap
  · rw [if_pos c]
    obtain ⟨j, hj, e, _⟩ := bgo_far l ((i + 1 : Nat) : Int) has (fun h => by rw [h] at c; simp at c; omega)
    rw [e, Int.toNat_natCast, List.length_append, List.length_eraseIdx_of_lt hj]; simp; omega
  · rw [if_neg c]; simp; omega
def hitsL (l : List ByteArray) (cap : Int) : List Bool := if asksOk l = true ∧ (1 ≤ cap ∧ cap ≤ 60) then hitsGo l cap l 0 [] else []
theorem hitsL_length (l : List ByteArray) (cap : Int) : (hitsL l cap).length ≤ l.length := by
  unfold hitsL; split
  · rw [hitsGo_length]; omega
  · simp
theorem spec_l12Has_ev (l : List ByteArray) (x : ByteArray) (hl : l.length ≤ 1048576) : Ev (fun k => spec_l12Has.f k l x) (hasT l x) := by
  have key := Ev.scan (fun k (_ : Unit) i => spec_l12Has.l0 k x l (l.length : Int) i) l.length (fun _ _ => True) (fun i _ => hasT (l.drop i) x)
    (fun _ _ => Ev.some_ fun k => by simp only [spec_l12Has.l0]; rw [if_neg (by omega), List.drop_eq_nil_of_le (Nat.le_refl _)]; rfl)
    (fun i _ hi _ => by
      have hd := drop_rdOf ByteArray.empty l i hi
      have hs : ∀ k, spec_l12Has.l0 (k + 1) x l (l.length : Int) (i : Int) = if rdOf ByteArray.empty l (i : Int) = x then some true else spec_l12Has.l0 k x l (l.length : Int) ((i + 1 : Nat) : Int) := fun k => by
        simp only [spec_l12Has.l0, toList_inj]; rw [if_pos (by omega), if_pos (by omega), if_pos (by omega), w64s hi (by omega)]
      rw [hd, hasT_cons]
      by_cases c : rdOf ByteArray.empty l (i : Int) = x
      · exact .inl (Ev.some_ fun k => by simp only [hs]; rw [if_pos c, decide_eq_true c]; rfl)
      · exact .inr ⟨(), trivial, by rw [decide_eq_false c]; rfl, EvE.of fun k => by simp only [hs]; rw [if_neg c]⟩) 0 () (Nat.zero_le _) trivial
  simpa [spec_l12Has.f] using key
theorem spec_NextAsk_l0_ev (l : List ByteArray) (key : ByteArray) (hl : l.length ≤ 1048576) (i : Nat) (hi : i ≤ l.length) : Ev (fun k => spec_NextAsk.l0 k l key (i : Int)) (((i + (l.drop i).findIdx (fun y => decide (y = key)) : Nat)) : Int) := by
  refine Ev.scan (fun k (_ : Unit) i => spec_NextAsk.l0 k l key i) l.length (fun _ _ => True) (fun i _ => ((i + (l.drop i).findIdx (fun y => decide (y = key)) : Nat) : Int)) ?_ ?_ i () hi trivial
  · intro _ _
    exact Ev.some_ fun k => by simp only [spec_NextAsk.l0]; rw [if_neg (by omega), List.drop_eq_nil_of_le (Nat.le_refl _)]; try simp
  · intro i _ hi _
    have hd := drop_rdOf ByteArray.empty l i hi
    have hs : ∀ k, spec_NextAsk.l0 (k + 1) l key (i : Int) = if rdOf ByteArray.empty l (i : Int) = key then some (i : Int) else spec_NextAsk.l0 k l key ((i + 1 : Nat) : Int) := fun k => by
      simp only [spec_NextAsk.l0, toList_inj]; rw [if_pos (by omega), if_pos (by omega), w64s hi (by omega)]
    by_cases c : rdOf ByteArray.empty l (i : Int) = key
    · exact .inl (Ev.some_ fun k => by simp only [hs]; rw [if_pos c, hd, List.findIdx_cons, decide_eq_true c]; simp)
    · exact .inr ⟨(), trivial, by rw [hd, List.findIdx_cons, decide_eq_false c]; simp only [cond_false]; omega, EvE.of fun k => by simp only [hs]; rw [if_neg c]⟩
theorem spec_NextAsk_l0_ev' (l : List ByteArray) (key : ByteArray) (hl : l.length ≤ 1048576) (x : Int) (h0 : 0 ≤ x) : Ev (fun k => spec_NextAsk.l0 k l key x) (nextAsk l key x : Int) := by
  obtain ⟨i, rfl⟩ := Int.eq_ofNat_of_zero_le h0
  by_cases hi : i ≤ l.length
  · refine Ev.ofE (EvE.of fun _ => rfl) (?_ : Ev _ _)
    have := spec_NextAsk_l0_ev l key hl i hi
    unfold nextAsk
    rw [show min (max 0 (i : Int)).toNat l.length = i by omega]
    exact this
  · refine Ev.up (g := fun _ => some (l.length : Int)) (EvE.of fun k => by simp only [spec_NextAsk.l0]; rw [if_neg (by omega)]) ?_
    unfold nextAsk
    rw [show min (max 0 (i : Int)).toNat l.length = l.length by omega, List.drop_eq_nil_of_le (Nat.le_refl _)]
    exact Ev.now _
theorem spec_NextAsk_ev (l : List ByteArray) (key : ByteArray) (x : Int) (hl : l.length ≤ 1048576) : Ev (fun k => spec_NextAsk.f k l key x) (nextAsk l key x : Int) := by
  by_cases c : x < 0
  · have h := spec_NextAsk_l0_ev' l key hl 0 (by omega)
    have e : nextAsk l key 0 = nextAsk l key x := by unfold nextAsk; rw [show (max 0 x) = max 0 0 by omega]
    rw [e] at h
    refine Ev.ofE (g := fun k => spec_NextAsk.j0 k l key 0) (EvE.of fun k => by simp only [spec_NextAsk.f]; rw [if_pos c]) ?_
    exact Ev.up (EvE.of fun k => by simp only [spec_NextAsk.j0]) h
  · have h := spec_NextAsk_l0_ev' l key hl x (by omega)
    refine Ev.ofE (g := fun k => spec_NextAsk.j0 k l key x) (EvE.of fun k => by simp only [spec_NextAsk.f]; rw [if_neg c]) ?_
    exact Ev.up (EvE.of fun k => by simp only [spec_NextAsk.j0]) h
theorem impl_NextAsk_l0_ev (l : List ByteArray) (key : ByteArray) (hl : l.length ≤ 1048576) (i : Nat) (hi : i ≤ l.length) : Ev (fun k => impl_NextAsk.l0 k l key (i : Int)) (((i + (l.drop i).findIdx (fun y => decide (y = key)) : Nat)) : Int) := by
  refine Ev.scan (fun k (_ : Unit) i => impl_NextAsk.l0 k l key i) l.length (fun _ _ => True) (fun i _ => ((i + (l.drop i).findIdx (fun y => decide (y = key)) : Nat) : Int)) ?_ ?_ i () hi trivial
  · intro _ _
    exact Ev.some_ fun k => by simp only [impl_NextAsk.l0]; rw [if_neg (by omega), List.drop_eq_nil_of_le (Nat.le_refl _)]; try simp
  · intro i _ hi _
    have hd := drop_rdOf ByteArray.empty l i hi
    have hs : ∀ k, impl_NextAsk.l0 (k + 1) l key (i : Int) = if rdOf ByteArray.empty l (i : Int) = key then some (i : Int) else impl_NextAsk.l0 k l key ((i + 1 : Nat) : Int) := fun k => by
      simp only [impl_NextAsk.l0, toList_inj]; rw [if_pos (by omega), if_pos (by omega), w64s hi (by omega)]
    by_cases c : rdOf ByteArray.empty l (i : Int) = key
    · exact .inl (Ev.some_ fun k => by simp only [hs]; rw [if_pos c, hd, List.findIdx_cons, decide_eq_true c]; simp)
    · exact .inr ⟨(), trivial, by rw [hd, List.findIdx_cons, decide_eq_false c]; simp only [cond_false]; omega, EvE.of fun k => by simp only [hs]; rw [if_neg c]⟩
theorem impl_NextAsk_l0_ev' (l : List ByteArray) (key : ByteArray) (hl : l.length ≤ 1048576) (x : Int) (h0 : 0 ≤ x) : Ev (fun k => impl_NextAsk.l0 k l key x) (nextAsk l key x : Int) := by
  obtain ⟨i, rfl⟩ := Int.eq_ofNat_of_zero_le h0
  by_cases hi : i ≤ l.length
  · refine Ev.ofE (EvE.of fun _ => rfl) (?_ : Ev _ _)
    have := impl_NextAsk_l0_ev l key hl i hi
    unfold nextAsk
    rw [show min (max 0 (i : Int)).toNat l.length = i by omega]
    exact this
  · refine Ev.up (g := fun _ => some (l.length : Int)) (EvE.of fun k => by simp only [impl_NextAsk.l0]; rw [if_neg (by omega)]) ?_
    unfold nextAsk
    rw [show min (max 0 (i : Int)).toNat l.length = l.length by omega, List.drop_eq_nil_of_le (Nat.le_refl _)]
    exact Ev.now _
theorem impl_NextAsk_ev (l : List ByteArray) (key : ByteArray) (x : Int) (hl : l.length ≤ 1048576) : Ev (fun k => impl_NextAsk.f k l key x) (nextAsk l key x : Int) := by
  have h := impl_NextAsk_l0_ev' l key hl (mx 0 x) (by unfold mx; split <;> omega)
  have e : nextAsk l key (mx 0 x) = nextAsk l key x := by unfold nextAsk mx; split <;> congr 3 <;> omega
  rw [e] at h
  exact h
theorem spec_BestGo_ev (l has : List ByteArray) (x : Int) (hl : l.length ≤ 1048576) (hh : has.length ≤ 1048576) : Ev (fun k => spec_BestGo.f k l has x) (bgo l x has 0 (-1) (-1)) := by
  have key := Ev.scan (fun k (s : Int × Int) i => spec_BestGo.l0 k l x s.1 s.2 has (has.length : Int) i) has.length (fun _ _ => True) (fun i s => bgo l x (has.drop i) i s.1 s.2)
    (fun s _ => Ev.some_ fun k => by simp only [spec_BestGo.l0]; rw [if_neg (by omega), List.drop_eq_nil_of_le (Nat.le_refl _)]; rfl)
    (fun i s hi _ => by
      have hd := drop_rdOf ByteArray.empty has i hi
      have hn := spec_NextAsk_ev l (rdOf ByteArray.empty has (i : Int)) x hl
      rw [hd, bgo]
      by_cases c : (nextAsk l (rdOf ByteArray.empty has (i : Int)) x : Int) > s.2
      · exact .inr ⟨((i : Int), (nextAsk l (rdOf ByteArray.empty has (i : Int)) x : Int)), trivial, by rw [if_pos c], (evP hn).eve fun k e => by
          simp only [spec_BestGo.l0, e, Option.bind_some]; rw [if_pos (by omega), if_pos (by omega), if_pos (by omega), if_pos c, w64s hi (by omega)]⟩
      · exact .inr ⟨s, trivial, by rw [if_neg c], (evP hn).eve fun k e => by
          simp only [spec_BestGo.l0, e, Option.bind_some]; rw [if_pos (by omega), if_pos (by omega), if_pos (by omega), if_neg c, w64s hi (by omega)]⟩) 0 (-1, -1) (Nat.zero_le _) trivial
  simpa [spec_BestGo.f] using key
theorem spec_but (has : List ByteArray) (j : Nat) (hj : j < has.length) (hh : has.length ≤ 2000) : spec_l13But.f has (j : Int) = some (has.eraseIdx j) := by
  have hj2 : wrap64 ((j : Int) + 1) = ((j + 1 : Nat) : Int) := w64s hj (by omega)
  simp only [spec_l13But.f, Option.bind_some, hj2, Int.toNat_natCast]
  rw [if_pos (by omega), if_pos (by omega)]
  rw [if_pos (by simp only [List.length_nil, List.length_take]; omega)]
  rw [if_pos (by omega), if_pos (by omega)]
  rw [if_pos (by simp only [List.nil_append, List.length_take, List.length_drop]; omega), List.eraseIdx_eq_take_drop_succ]
  rfl
theorem spec_hits_l0 (l : List ByteArray) (hl : l.length ≤ 1048576) (cap : Int) (h1 : 1 ≤ cap) (h2 : cap ≤ 60) : Ev (fun k => spec_BestHits.l0 k l cap [] [] l (l.length : Int) 0) (hitsGo l cap l 0 []) := by
  have key := Ev.scan (fun k (s : List Bool × List ByteArray) i => spec_BestHits.l0 k l cap s.1 s.2 l (l.length : Int) i) l.length (fun i s => s.1.length = i ∧ (s.2.length : Int) ≤ cap) (fun i s => s.1 ++ hitsGo l cap (l.drop i) i s.2)
    (fun s hs => Ev.some_ fun k => by simp only [spec_BestHits.l0]; rw [if_neg (by omega), List.drop_eq_nil_of_le (Nat.le_refl _)]; simp [hitsGo])
    (fun i s hi hs => by
      have hd := drop_rdOf ByteArray.empty l i hi
      have hl9 : l.length ≤ 9223372036854775807 := by omega
      have hc := spec_l12Has_ev s.2 (rdOf ByteArray.empty l (i : Int)) (by omega)
      have hnl := nextHas_length l cap h1 i (rdOf ByteArray.empty l (i : Int)) s.2 hs.2
      have g1 : (i : Int) < (l.length : Int) := by omega
      have g2 : (0 : Int) ≤ (i : Int) := by omega
      have g3 : s.1.length < 140737488355328 := by omega
      rw [hd]
      cases c : hasT s.2 (rdOf ByteArray.empty l (i : Int)) with
      | true =>
        rw [c] at hc
        refine .inr ⟨(s.1 ++ [true], s.2), ⟨by simp [hs.1], hs.2⟩, by rw [hitsGo, c]; simp, (evP hc).eve fun k e => ?_⟩
        simp only [spec_BestHits.l0, e, Option.bind_some, if_true, w64s hi hl9, if_pos g1, if_pos g2, if_pos g3]
      | false =>
        rw [c] at hc
        refine .inr ⟨(s.1 ++ [false], nextHas l cap i (rdOf ByteArray.empty l (i : Int)) s.2), ⟨by simp [hs.1], hnl⟩, by rw [hitsGo, c]; simp, ?_⟩
        by_cases c2 : (s.2.length : Int) = cap
        · obtain ⟨j, hj, e2, _⟩ := bgo_far l ((i + 1 : Nat) : Int) s.2 (fun h => by rw [h] at c2; simp at c2; omega)
          have hb := spec_BestGo_ev l s.2 ((i + 1 : Nat) : Int) hl (by omega)
          rw [e2] at hb
          have hnx : nextHas l cap i (rdOf ByteArray.empty l (i : Int)) s.2 = s.2.eraseIdx j ++ [rdOf ByteArray.empty l (i : Int)] := by unfold nextHas; rw [if_pos c2, e2, Int.toNat_natCast]
          have hdel := spec_but s.2 j hj (by omega)
          have g4 : (s.2.eraseIdx j).length < 8796093022208 := by rw [List.length_eraseIdx_of_lt hj]; omega
          refine (evA hc (evP hb)).eve fun k ⟨e, e3⟩ => ?_
          simp only [spec_BestHits.l0, e, e3, hdel, hnx, Option.bind_some, Bool.false_eq_true, if_false, w64s hi hl9, if_pos g1, if_pos g2, if_pos g3, if_pos g4, if_pos c2]
        · have hnx : nextHas l cap i (rdOf ByteArray.empty l (i : Int)) s.2 = s.2 ++ [rdOf ByteArray.empty l (i : Int)] := by unfold nextHas; rw [if_neg c2]
          have g4 : s.2.length < 8796093022208 := by omega
          refine (evP hc).eve fun k e => ?_
          simp only [spec_BestHits.l0, e, hnx, Option.bind_some, Bool.false_eq_true, if_false, w64s hi hl9, if_pos g1, if_pos g2, if_pos g3, if_pos g4, if_neg c2]) 0 ([], []) (Nat.zero_le _) ⟨rfl, by simp; omega⟩
  simpa using key
theorem spec_BestHits_ev (l : List ByteArray) (hl : l.length ≤ 1048576) (hs : ∀ s ∈ l, s.size ≤ maxLen) (cap : Int) : Ev (fun k => spec_BestHits.f k l cap) (hitsL l cap) := by
  have ha := spec_AsksOk_ev l (by omega) hs
  unfold hitsL
  cases c : asksOk l with
  | false =>
    rw [c] at ha
    rw [if_neg (by simp)]
    exact (evP ha).ev fun k e => by simp only [spec_BestHits.f, spec_l13Ok.f, e, Option.bind_some, Bool.false_eq_true, if_false]
  | true =>
    rw [c] at ha
    by_cases c1 : 1 ≤ cap ∧ cap ≤ 60
    · rw [if_pos ⟨rfl, c1⟩]
      refine (evA ha (evP (spec_hits_l0 l hl cap c1.1 c1.2))).ev fun k ⟨e, e2⟩ => ?_
      simp only [spec_BestHits.f, spec_l13Ok.f, e, Option.bind_some, if_true, spec_l01In.f]
      rw [if_pos (by omega), Option.bind_some, Option.bind_some, if_pos (decide_eq_true c1.2), e2]
    · rw [if_neg (fun h => c1 h.2)]
      refine (evP ha).ev fun k e => ?_
      simp only [spec_BestHits.f, spec_l13Ok.f, e, Option.bind_some, if_true, spec_l01In.f]
      by_cases c2 : cap ≥ 1
      · rw [if_pos c2, Option.bind_some, Option.bind_some, if_neg (by simp; omega)]
      · rw [if_neg c2, Option.bind_some, Option.bind_some, if_neg (by simp)]
theorem impl_BestGo_ev (l has : List ByteArray) (x : Int) (hl : l.length ≤ 1048576) (hh : has.length ≤ 1048576) : Ev (fun k => impl_BestGo.f k l has x) (bgo l x has 0 (-1) (-1)) := by
  have key := Ev.scan (fun k (s : Int × Int) i => impl_BestGo.l0 k l x s.1 s.2 has (has.length : Int) i) has.length (fun _ _ => True) (fun i s => bgo l x (has.drop i) i s.1 s.2)
    (fun s _ => Ev.some_ fun k => by simp only [impl_BestGo.l0]; rw [if_neg (by omega), List.drop_eq_nil_of_le (Nat.le_refl _)]; rfl)
    (fun i s hi _ => by
      have hd := drop_rdOf ByteArray.empty has i hi
      have hn := impl_NextAsk_ev l (rdOf ByteArray.empty has (i : Int)) x hl
      rw [hd, bgo]
      by_cases c : (nextAsk l (rdOf ByteArray.empty has (i : Int)) x : Int) > s.2
      · exact .inr ⟨((i : Int), (nextAsk l (rdOf ByteArray.empty has (i : Int)) x : Int)), trivial, by rw [if_pos c], (evP hn).eve fun k e => by
          simp only [impl_BestGo.l0, e, Option.bind_some]; rw [if_pos (by omega), if_pos (by omega), if_pos (by omega), if_pos c, w64s hi (by omega)]⟩
      · exact .inr ⟨s, trivial, by rw [if_neg c], (evP hn).eve fun k e => by
          simp only [impl_BestGo.l0, e, Option.bind_some]; rw [if_pos (by omega), if_pos (by omega), if_pos (by omega), if_neg c, w64s hi (by omega)]⟩) 0 (-1, -1) (Nat.zero_le _) trivial
  simpa [impl_BestGo.f] using key
theorem impl_hits_l0 (l : List ByteArray) (hl : l.length ≤ 1048576) (cap : Int) (h1 : 1 ≤ cap) (h2 : cap ≤ 60) : Ev (fun k => impl_BestHits.l0 k l cap [] [] l (l.length : Int) 0) (hitsGo l cap l 0 []) := by
  have key := Ev.scan (fun k (s : List Bool × List ByteArray) i => impl_BestHits.l0 k l cap s.1 s.2 l (l.length : Int) i) l.length (fun i s => s.1.length = i ∧ (s.2.length : Int) ≤ cap) (fun i s => s.1 ++ hitsGo l cap (l.drop i) i s.2)
    (fun s hs => Ev.some_ fun k => by simp only [impl_BestHits.l0]; rw [if_neg (by omega), List.drop_eq_nil_of_le (Nat.le_refl _)]; simp [hitsGo])
    (fun i s hi hs => by
      have hd := drop_rdOf ByteArray.empty l i hi
      have hl9 : l.length ≤ 9223372036854775807 := by omega
      have hc := slices_Contains_ev s.2 (rdOf ByteArray.empty l (i : Int)) (by omega)
      have hnl := nextHas_length l cap h1 i (rdOf ByteArray.empty l (i : Int)) s.2 hs.2
      have g1 : (i : Int) < (l.length : Int) := by omega
      have g2 : (0 : Int) ≤ (i : Int) := by omega
      have g3 : s.1.length < 140737488355328 := by omega
      rw [hd]
      cases c : hasT s.2 (rdOf ByteArray.empty l (i : Int)) with
      | true =>
        rw [c] at hc
        refine .inr ⟨(s.1 ++ [true], s.2), ⟨by simp [hs.1], hs.2⟩, by rw [hitsGo, c]; simp, (evP hc).eve fun k e => ?_⟩
        simp only [impl_BestHits.l0, e, Option.bind_some, if_true, w64s hi hl9, if_pos g1, if_pos g2, if_pos g3]
      | false =>
        rw [c] at hc
        refine .inr ⟨(s.1 ++ [false], nextHas l cap i (rdOf ByteArray.empty l (i : Int)) s.2), ⟨by simp [hs.1], hnl⟩, by rw [hitsGo, c]; simp, ?_⟩
        by_cases c2 : (s.2.length : Int) = cap
        · obtain ⟨j, hj, e2, _⟩ := bgo_far l ((i + 1 : Nat) : Int) s.2 (fun h => by rw [h] at c2; simp at c2; omega)
          have hb := impl_BestGo_ev l s.2 ((i + 1 : Nat) : Int) hl (by omega)
          rw [e2] at hb
          have hnx : nextHas l cap i (rdOf ByteArray.empty l (i : Int)) s.2 = s.2.eraseIdx j ++ [rdOf ByteArray.empty l (i : Int)] := by unfold nextHas; rw [if_pos c2, e2, Int.toNat_natCast]
          have hdel : slices_Delete_string_string.f s.2 (j : Int) (wrap64 ((j : Int) + 1)) = some (s.2.eraseIdx j) := by
            unfold slices_Delete_string_string.f; rw [w64 (by omega) (by omega), if_pos ⟨by omega, by omega, rfl⟩, Int.toNat_natCast]
          have g4 : (s.2.eraseIdx j).length < 8796093022208 := by rw [List.length_eraseIdx_of_lt hj]; omega
          refine (evA hc (evP hb)).eve fun k ⟨e, e3⟩ => ?_
          simp only [impl_BestHits.l0, e, e3, hdel, hnx, Option.bind_some, Bool.false_eq_true, if_false, w64s hi hl9, if_pos g1, if_pos g2, if_pos g3, if_pos g4, if_pos c2]
        · have hnx : nextHas l cap i (rdOf ByteArray.empty l (i : Int)) s.2 = s.2 ++ [rdOf ByteArray.empty l (i : Int)] := by unfold nextHas; rw [if_neg c2]
          have g4 : s.2.length < 8796093022208 := by omega
          refine (evP hc).eve fun k e => ?_
          simp only [impl_BestHits.l0, e, hnx, Option.bind_some, Bool.false_eq_true, if_false, w64s hi hl9, if_pos g1, if_pos g2, if_pos g3, if_pos g4, if_neg c2]) 0 ([], []) (Nat.zero_le _) ⟨rfl, by simp; omega⟩
  simpa using key
theorem impl_BestHits_ev (l : List ByteArray) (hl : l.length ≤ 1048576) (hs : ∀ s ∈ l, s.size ≤ maxLen) (cap : Int) : Ev (fun k => impl_BestHits.f k l cap) (hitsL l cap) := by
  have ha := impl_AsksOk_ev l (by omega) hs
  have h0 : Ev (fun k => impl_BestHits.j0 k l cap true) [] := Ev.up (g := fun _ => some []) (EvE.of fun k => by simp only [impl_BestHits.j0, if_true]) (Ev.now _)
  unfold hitsL
  cases c : asksOk l with
  | false =>
    rw [c] at ha
    rw [if_neg (by simp)]
    exact Ev.ofE ((evP ha).eve fun k e => by simp only [impl_BestHits.f, e, Option.bind_some, Bool.false_eq_true, if_false]) h0
  | true =>
    rw [c] at ha
    by_cases c1 : 1 ≤ cap ∧ cap ≤ 60
    · rw [if_pos ⟨rfl, c1⟩]
      refine Ev.ofE (g := fun k => impl_BestHits.j0 k l cap false) ((evP ha).eve fun k e => ?_) (Ev.up (g := fun k => impl_BestHits.l0 k l cap [] [] l (l.length : Int) 0) (EvE.of fun k => by simp only [impl_BestHits.j0, Bool.false_eq_true, if_false]) (impl_hits_l0 l hl cap c1.1 c1.2))
      simp only [impl_BestHits.f, e, Option.bind_some, if_true, impl_within.f]
      rw [if_pos (by omega), Option.bind_some, decide_eq_true c1.2]; rfl
    · rw [if_neg (fun h => c1 h.2)]
      refine Ev.ofE ((evP ha).eve fun k e => ?_) h0
      simp only [impl_BestHits.f, e, Option.bind_some, if_true, impl_within.f]
      by_cases c2 : cap ≥ 1
      · rw [if_pos c2, Option.bind_some, decide_eq_false (by omega)]; rfl
      · rw [if_neg c2, Option.bind_some]; rfl
def missN (l : List Bool) : Nat := l.countP fun h => !h
theorem hitsIn_ev (l : List Bool) (h : l.length ≤ 1048576) : Ev (fun k => impl_hitsIn.f k l) ((l.length : Int) - (missN l : Int)) := by
  have key := Ev.scan (fun k (n : Int) i => impl_hitsIn.l0 k n l (l.length : Int) i) l.length (fun i n => 0 ≤ n ∧ n ≤ (i : Int)) (fun i n => n + (((l.drop i).length : Int) - (missN (l.drop i) : Int)))
    (fun n hn => Ev.some_ fun k => by simp only [impl_hitsIn.l0]; rw [if_neg (by omega), List.drop_eq_nil_of_le (Nat.le_refl _)]; simp [missN])
    (fun i n hi hn => by
      have hd := drop_rdOf false l i hi
      have hl9 : l.length ≤ 9223372036854775807 := by omega
      have g1 : (i : Int) < (l.length : Int) := by omega
      have g2 : (0 : Int) ≤ (i : Int) := by omega
      rw [hd]
      cases c : rdOf false l (i : Int) with
      | true =>
        have b1 : -9223372036854775808 ≤ n + 1 := by omega
        have b2 : n + 1 ≤ 9223372036854775807 := by omega
        exact .inr ⟨n + 1, by omega, by simp [missN]; omega, EvE.of fun k => by simp only [impl_hitsIn.l0, c, if_true, if_pos g1, if_pos g2, w64s hi hl9, w64 b1 b2]⟩
      | false => exact .inr ⟨n, by omega, by simp [missN]; omega, EvE.of fun k => by simp only [impl_hitsIn.l0, c, Bool.false_eq_true, if_false, if_pos g1, if_pos g2, w64s hi hl9]⟩) 0 0 (Nat.zero_le _) (by omega)
  simpa [impl_hitsIn.f] using key
theorem impl_BestMisses_ev (l : List ByteArray) (hl : l.length ≤ 1048576) (hs : ∀ s ∈ l, s.size ≤ maxLen) (cap : Int) : Ev (fun k => impl_BestMisses.f k l cap) (missN (hitsL l cap) : Int) := by
  have hwl := hitsL_length l cap
  have hc : missN (hitsL l cap) ≤ (hitsL l cap).length := List.countP_le_length
  refine (evA (impl_BestHits_ev l hl hs cap) (evP (hitsIn_ev (hitsL l cap) (by omega)))).ev fun k ⟨e1, e2⟩ => ?_
  simp only [impl_BestMisses.f, e1, e2, Option.bind_some]
  rw [w64 (by omega) (by omega)]; congr 1; omega
theorem spec_misses_l0 (l : List Bool) (h : l.length ≤ 1048576) : Ev (fun k => spec_BestMisses.l0 k 0 l (l.length : Int) 0) (missN l : Int) := by
  have key := Ev.scan (fun k (n : Int) i => spec_BestMisses.l0 k n l (l.length : Int) i) l.length (fun i n => 0 ≤ n ∧ n ≤ (i : Int)) (fun i n => n + (missN (l.drop i) : Int))
    (fun n hn => Ev.some_ fun k => by simp only [spec_BestMisses.l0]; rw [if_neg (by omega), List.drop_eq_nil_of_le (Nat.le_refl _)]; simp [missN])
    (fun i n hi hn => by
      have hd := drop_rdOf false l i hi
      have hl9 : l.length ≤ 9223372036854775807 := by omega
      have g1 : (i : Int) < (l.length : Int) := by omega
      have g2 : (0 : Int) ≤ (i : Int) := by omega
      rw [hd]
      cases c : rdOf false l (i : Int) with
      | false =>
        have b1 : -9223372036854775808 ≤ n + 1 := by omega
        have b2 : n + 1 ≤ 9223372036854775807 := by omega
        exact .inr ⟨n + 1, by omega, by simp [missN]; omega, EvE.of fun k => by simp only [spec_BestMisses.l0, c, Bool.false_eq_true, if_false, if_pos g1, if_pos g2, w64s hi hl9, w64 b1 b2]⟩
      | true => exact .inr ⟨n, by omega, by simp [missN], EvE.of fun k => by simp only [spec_BestMisses.l0, c, if_true, if_pos g1, if_pos g2, w64s hi hl9]⟩) 0 0 (Nat.zero_le _) (by omega)
  simpa using key
theorem spec_BestMisses_ev (l : List ByteArray) (hl : l.length ≤ 1048576) (hs : ∀ s ∈ l, s.size ≤ maxLen) (cap : Int) : Ev (fun k => spec_BestMisses.f k l cap) (missN (hitsL l cap) : Int) := by
  have hwl := hitsL_length l cap
  refine (evA (spec_BestHits_ev l hl hs cap) (evP (spec_misses_l0 (hitsL l cap) (by omega)))).ev fun k ⟨e1, e2⟩ => ?_
  simp only [spec_BestMisses.f, e1, e2, Option.bind_some]
theorem FnExactBestMisses : DFnExactBestMisses.Pure := by
  intro l m ⟨hl, hs⟩ hm
  obtain ⟨t, ht, ht0, ht1⟩ := laws_szStringS_ev l 1048576 (by omega) (by omega) hl hs
  by_cases c1 : t < 0
  · obtain ⟨k, e⟩ := (evP ht).ex
    exact ⟨k, by simp only [laws_FnExactBestMisses.f, e, Option.bind_some]; rw [if_pos c1]⟩
  · have hn := ht1 c1
    obtain ⟨k, e0, e1, e2, e3, e4⟩ := (evA ht (evA (laws_toStringS_ev l (by omega)) (evA (laws_eqStringS_ev l (by omega)) (evA (spec_BestMisses_ev l (by omega) hs m) (evP (impl_BestMisses_ev l (by omega) hs m)))))).ex
    exact ⟨k, by simp only [laws_FnExactBestMisses.f, e0, e1, e2, e3, e4, Option.bind_some, if_true]; rw [if_neg c1]⟩
end Go.Proofs.Ytllaoamaplepmaa.Pure
