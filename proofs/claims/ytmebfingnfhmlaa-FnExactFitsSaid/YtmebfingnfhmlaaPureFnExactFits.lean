/- The program's Fits and the reference's tell the same, for all askings, caps and places. No condition. -/
import Derived.Test.YtmebfingnfhmlaaDFnExactFits
import Derived.Test.YtmebfingnfhmlaaLm
namespace Go.Proofs.Ytmebfingnfhmlaa.Pure
open Go.RowKit Go.Proofs.Ytmebfingnfhmlaa.QFnExactFits Go.Proofs.YtmebfingnfhmlaaW.PrintWords Go.Proofs.YtmebfingnfhmlaaW.PrintLast Go.Proofs.YtmebfingnfhmlaaW.PrintMore Go.Proofs.Ytmebfingnfhmlaa.Lm
set_option linter.unusedSimpArgs false
set_option linter.unusedVariables false
theorem laws_szStringS_ev (l : List ByteArray) (n : Int) (hn0 : 0 ≤ n) (hn : n ≤ 1048576) (h : l.length ≤ maxLen) (hs : ∀ s ∈ l, s.size ≤ maxLen) :
    ∃ t, Ev (fun k => laws_szStringS.f k l n) t ∧ t ≤ n ∧ (¬ t < 0 → t = n - (l.length : Int) - (tot l : Int)) := by
  unfold maxLen at h hs
  by_cases c : n - (l.length : Int) < 0
  · refine ⟨-1, Ev.some_ fun k => ?_, by omega, by omega⟩
    simp only [laws_szStringS.f]; rw [w64 (by omega) (by omega), if_pos c]
  · have key := Ev.scan (fun k m i => laws_szStringS.l0 k l m i) l.length (fun _ m => 0 ≤ m ∧ m ≤ n) (fun i m => if m < (tot (l.drop i) : Int) then -1 else m - (tot (l.drop i) : Int))
      (fun m hm => Ev.some_ fun k => by
        simp only [laws_szStringS.l0]; rw [if_neg (by omega), List.drop_eq_nil_of_le (Nat.le_refl _)]
        simp [tot]
        try omega)
      (fun i m hi hm => by
        have hd := drop_rdOf ByteArray.empty l i hi
        have hsz := hs _ (rdOf_mem ByteArray.empty l i hi)
        have hw : wrap64 (m - ((rdOf ByteArray.empty l (i : Int)).size : Int)) = m - ((rdOf ByteArray.empty l (i : Int)).size : Int) := w64 (by omega) (by omega)
        have hl : ∀ k, laws_szStringS.l0 (k + 1) l m (i : Int) = if m - ((rdOf ByteArray.empty l (i : Int)).size : Int) < 0 then some (-1) else laws_szStringS.l0 k l (m - ((rdOf ByteArray.empty l (i : Int)).size : Int)) ((i + 1 : Nat) : Int) := fun k => by
          simp only [laws_szStringS.l0]; rw [if_pos (by omega), if_pos (by omega), w64s hi h, hw]
        rw [hd, tot_cons]
        by_cases c2 : m - ((rdOf ByteArray.empty l (i : Int)).size : Int) < 0
        · exact .inl (Ev.some_ fun k => by simp only [hl]; rw [if_pos c2, if_pos (by omega)])
        · refine .inr ⟨m - ((rdOf ByteArray.empty l (i : Int)).size : Int), by omega, ?_, EvE.of fun k => by simp only [hl]; rw [if_neg c2]⟩
          split <;> split <;> omega) 0 (n - (l.length : Int)) (Nat.zero_le _) (by omega)
    refine ⟨_, Ev.congr (fun k => ?_) key, ?_, ?_⟩
    · simp only [laws_szStringS.f]; rw [w64 (by omega) (by omega), if_neg c]; rfl
    · simp only [List.drop_zero]; split <;> omega
    · simp only [List.drop_zero]; split <;> omega
theorem laws_toStringS_ev (l : List ByteArray) (h : l.length ≤ 1048576) : Ev (fun k => laws_toStringS.f k l) l := by
  have hl := copy_loop ByteArray.empty (fun k s i => laws_toStringS.l0 k l s i) l (fun s hs => Ev.some_ fun k => by simp only [laws_toStringS.l0]; rw [if_neg (by omega)]) (fun i s hi hs => EvE.of fun k => by
    simp only [laws_toStringS.l0]; rw [if_pos (by omega), if_pos (by omega), if_pos (by omega), w64s hi (by omega), Int.toNat_natCast] <;> rfl) (List.replicate l.length (⟨#[]⟩:ByteArray)) (by simp)
  refine Ev.congr (fun k => ?_) hl
  simp only [laws_toStringS.f, Int.toNat_natCast]
  rw [if_pos (by omega), if_pos (by omega)]
theorem laws_eqStringS_ev (l : List ByteArray) (h : l.length ≤ 9223372036854775807) : Ev (fun k => laws_eqStringS.f k l l) true := by
  refine Ev.congr (fun k => ?_) (all_loop (fun k i => laws_eqStringS.l0 k l l i) l.length (Ev.some_ fun k => by simp only [laws_eqStringS.l0]; rw [if_neg (by omega)]) (fun i hi => EvE.of fun k => by
    simp only [laws_eqStringS.l0]; rw [if_pos (by omega), if_pos (by omega), if_pos (by omega), if_pos trivial, w64s hi h]))
  simp only [laws_eqStringS.f]; rw [if_pos trivial]
theorem spec_l12Has_ev (l : List ByteArray) (x : ByteArray) (hl : l.length ≤ 1048576) : Ev (fun k => spec_l12Has.f k l x) (hasT l x) := by
  have key := Ev.scan (fun k (_ : Unit) i => spec_l12Has.l0 k x l (l.length : Int) i) l.length (fun _ _ => True) (fun i _ => hasT (l.drop i) x)
    (fun _ _ => Ev.some_ fun k => by simp only [spec_l12Has.l0]; rw [if_neg (by omega), List.drop_eq_nil_of_le (Nat.le_refl _)]; rfl)
    (fun i _ hi _ => by
      have hd := drop_rdOf ByteArray.empty l i hi
      have hs : ∀ k, spec_l12Has.l0 (k + 1) x l (l.length : Int) (i : Int) = if rdOf ByteArray.empty l (i : Int) = x then some true else spec_l12Has.l0 k x l (l.length : Int) ((i + 1 : Nat) : Int) := fun k => by
        simp only [spec_l12Has.l0, toList_inj]; rw [if_pos (by omega), if_pos (by omega), if_pos (by omega), w64s hi (by omega)]
      rw [hd, hasT_cons]
      by_cases c : rdOf ByteArray.empty l (i : Int) = x
      · exact .inl (Ev.some_ fun k => by simp only [hs]; rw [if_pos c, decide_eq_true c]; rfl)
      · exact .inr ⟨(), trivial, by rw [decide_eq_false c]; rfl, EvE.of fun k => by simp only [hs]; rw [if_neg c]⟩) 0 () (Nat.zero_le _) trivial
  simpa [spec_l12Has.f] using key
theorem spec_Distinct_ev (l : List ByteArray) (hl : l.length ≤ 1048576) : Ev (fun k => spec_Distinct.f k l) (dist [] l) := by
  have key := Ev.scan (fun k a i => spec_Distinct.l0 k a l (l.length : Int) i) l.length (fun i a => a.length ≤ i) (fun i a => dist a (l.drop i))
    (fun a ha => Ev.some_ fun k => by simp only [spec_Distinct.l0]; rw [if_neg (by omega), List.drop_eq_nil_of_le (Nat.le_refl _)]; rfl)
    (fun i a hi ha => by
      have hd := drop_rdOf ByteArray.empty l i hi
      have hh := spec_l12Has_ev a (rdOf ByteArray.empty l (i : Int)) (by omega)
      rw [hd, dist]
      cases c : hasT a (rdOf ByteArray.empty l (i : Int)) with
      | true => rw [c] at hh; exact .inr ⟨a, by omega, by simp, (evP hh).eve fun k e => by simp only [spec_Distinct.l0, e, Option.bind_some, if_true]; rw [if_pos (by omega), if_pos (by omega), if_pos (by omega), w64s hi (by omega)]⟩
      | false => rw [c] at hh; exact .inr ⟨a ++ [rdOf ByteArray.empty l (i : Int)], by simp; omega, by simp, (evP hh).eve fun k e => by simp only [spec_Distinct.l0, e, Option.bind_some, Bool.false_eq_true, if_false]; rw [if_pos (by omega), if_pos (by omega), if_pos (by omega), if_pos (by omega), w64s hi (by omega)]⟩) 0 [] (Nat.zero_le _) (by simp)
  simpa [spec_Distinct.f] using key
theorem slices_Contains_ev (l : List ByteArray) (x : ByteArray) (hl : l.length ≤ 1048576) : Ev (fun k => slices_Contains_string_string.f k l x) (hasT l x) := by
  have key : ∃ r, Ev (fun k => slices_Index_string_string.f k l x) r ∧ decide (r ≥ 0) = hasT l x := by
    have key := Ev.scan (fun k (_ : Unit) i => slices_Index_string_string.l0 k l x (l.length : Int) i) l.length (fun _ _ => True) (fun i _ => if hasT (l.drop i) x then (((l.drop i).findIdx (fun y => decide (y = x)) + i : Nat) : Int) else -1)
      (fun _ _ => Ev.some_ fun k => by simp only [slices_Index_string_string.l0]; rw [if_neg (by omega), List.drop_eq_nil_of_le (Nat.le_refl _)]; rfl)
      (fun i _ hi _ => by
        have hd := drop_rdOf ByteArray.empty l i hi
        have hs : ∀ k, slices_Index_string_string.l0 (k + 1) l x (l.length : Int) (i : Int) = if rdOf ByteArray.empty l (i : Int) = x then some (i : Int) else slices_Index_string_string.l0 k l x (l.length : Int) ((i + 1 : Nat) : Int) := fun k => by
          simp only [slices_Index_string_string.l0, toList_inj]; rw [if_pos (by omega), if_pos (by omega), if_pos (by omega), w64s hi (by omega)]
          simp only [eq_comm]
        rw [hd, hasT_cons, List.findIdx_cons]
        by_cases c : rdOf ByteArray.empty l (i : Int) = x
        · exact .inl (Ev.some_ fun k => by simp only [hs]; rw [if_pos c, decide_eq_true c]; simp)
        · exact .inr ⟨(), trivial, by
            rw [decide_eq_false c]; simp only [Bool.false_or, cond_false]
            split <;> omega, EvE.of fun k => by simp only [hs]; rw [if_neg c]⟩) 0 () (Nat.zero_le _) trivial
    refine ⟨_, (by simpa [slices_Index_string_string.f] using key), ?_⟩
    cases hasT l x with
    | true => simp only [if_true]; exact decide_eq_true (by omega)
    | false => rfl
  obtain ⟨r, hr, e⟩ := key
  rw [← e]
  exact (evP hr).ev fun k e1 => by simp only [slices_Contains_string_string.f, e1, Option.bind_some]
theorem impl_Distinct_ev (l : List ByteArray) (hl : l.length ≤ 1048576) : Ev (fun k => impl_Distinct.f k l) (dist [] l) := by
  have key := Ev.scan (fun k a i => impl_Distinct.l0 k a l (l.length : Int) i) l.length (fun i a => a.length ≤ i) (fun i a => dist a (l.drop i))
    (fun a ha => Ev.some_ fun k => by simp only [impl_Distinct.l0]; rw [if_neg (by omega), List.drop_eq_nil_of_le (Nat.le_refl _)]; rfl)
    (fun i a hi ha => by
      have hd := drop_rdOf ByteArray.empty l i hi
      have hh := slices_Contains_ev a (rdOf ByteArray.empty l (i : Int)) (by omega)
      rw [hd, dist]
      cases c : hasT a (rdOf ByteArray.empty l (i : Int)) with
      | true => rw [c] at hh; exact .inr ⟨a, by omega, by simp, (evP hh).eve fun k e => by simp only [impl_Distinct.l0, e, Option.bind_some, if_true]; rw [if_pos (by omega), if_pos (by omega), if_pos (by omega), w64s hi (by omega)]⟩
      | false => rw [c] at hh; exact .inr ⟨a ++ [rdOf ByteArray.empty l (i : Int)], by simp; omega, by simp, (evP hh).eve fun k e => by simp only [impl_Distinct.l0, e, Option.bind_some, Bool.false_eq_true, if_false]; rw [if_pos (by omega), if_pos (by omega), if_pos (by omega), if_pos (by omega), w64s hi (by omega)]⟩) 0 [] (Nat.zero_le _) (by simp)
  simpa [impl_Distinct.f] using key
theorem FnExactFits : DFnExactFits.Pure := by
  intro l cap from_ hi_ ⟨hl, hs⟩ h1 h2 h3
  obtain ⟨t, ht, ht0, ht1⟩ := laws_szStringS_ev l 1048576 (by omega) (by omega) hl hs
  by_cases c1 : t < 0
  · obtain ⟨k, e⟩ := (evP ht).ex
    exact ⟨k, by simp only [laws_FnExactFits.f, e, Option.bind_some]; rw [if_pos c1]⟩
  · have hn := ht1 c1
    have hb : ∃ r, Ev (fun k => spec_Fits.f k l cap from_ hi_) r ∧ Ev (fun k => impl_Fits.f k l cap from_ hi_) r := by
      by_cases c2 : 0 ≤ from_ ∧ from_ ≤ hi_ ∧ hi_ ≤ (l.length : Int)
      · obtain ⟨a1, a2, a3⟩ := c2
        have hlen : ((l.take hi_.toNat).drop from_.toNat).length ≤ 1048576 := by rw [List.length_drop, List.length_take]; omega
        refine ⟨decide (((dist [] ((l.take hi_.toNat).drop from_.toNat)).length : Int) ≤ cap), (evP (spec_Distinct_ev _ hlen)).ev fun k e => ?_, (evP (impl_Distinct_ev _ hlen)).ev fun k e => ?_⟩
        · simp only [spec_Fits.f, e, Option.bind_some]
          rw [if_neg (by omega), if_neg (by omega), if_neg (by omega), if_pos (by omega), if_pos (by omega), if_pos (by omega)]
        · simp only [impl_Fits.f, impl_within.f, e]
          rw [if_pos (by omega), Option.bind_some, if_pos (decide_eq_true (by omega)), if_pos (by omega), Option.bind_some, if_pos (decide_eq_true (by omega)), if_pos (by omega), if_pos (by omega), if_pos (by omega)]
          rfl
      · refine ⟨false, Ev.some_ fun k => ?_, Ev.some_ fun k => ?_⟩
        · simp only [spec_Fits.f]
          by_cases a1 : from_ < 0
          · rw [if_pos a1]
          · by_cases a2 : from_ > hi_
            · rw [if_neg a1, if_pos a2]
            · rw [if_neg a1, if_neg a2, if_pos (by omega)]
        · simp only [impl_Fits.f, impl_within.f]
          by_cases a1 : hi_ ≥ 0
          · rw [if_pos a1, Option.bind_some]
            by_cases a2 : hi_ ≤ (l.length : Int)
            · rw [if_pos (decide_eq_true a2)]
              by_cases a3 : from_ ≥ 0
              · rw [if_pos a3, Option.bind_some, if_neg (by simp; omega)]
              · rw [if_neg a3, Option.bind_some, if_neg (by simp)]
            · rw [if_neg (by simpa using a2)]
          · rw [if_neg a1, Option.bind_some, if_neg (by simp)]
    obtain ⟨r, hr1, hr2⟩ := hb
    obtain ⟨k, e0, e1, e2, e3, e4⟩ := (evA ht (evA (laws_toStringS_ev l (by omega)) (evA (laws_eqStringS_ev l (by omega)) (evA hr1 (evP hr2))))).ex
    exact ⟨k, by simp only [laws_FnExactFits.f, e0, e1, e2, e3, e4, Option.bind_some, if_true, bne_self_eq_false, Bool.false_eq_true, if_false]; rw [if_neg c1]⟩
end Go.Proofs.Ytmebfingnfhmlaa.Pure
