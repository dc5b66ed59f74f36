/- The program's AsksText and the reference's tell the same, for all askings. No condition. -/
import Derived.Test.YtmebfingnfhmlaaDFnExactAsksText
import Derived.Test.YtmebfingnfhmlaaLm
namespace Go.Proofs.Ytmebfingnfhmlaa.Pure
open Go.RowKit Go.Proofs.Ytmebfingnfhmlaa.PFnExactAsksText Go.Proofs.YtmebfingnfhmlaaW.PrintWords Go.Proofs.YtmebfingnfhmlaaW.PrintLast Go.Proofs.YtmebfingnfhmlaaW.PrintMore Go.Proofs.Ytmebfingnfhmlaa.Lm
set_option linter.unusedSimpArgs false
set_option linter.unusedVariables false
theorem laws_szStringS_ev (l : List ByteArray) (n : Int) (hn0 : 0 ≤ n) (hn : n ≤ 1048576) (h : l.length ≤ maxLen) (hs : ∀ s ∈ l, s.size ≤ maxLen) :
    ∃ t, Ev (fun k => laws_szStringS.f k l n) t ∧ t ≤ n ∧ (¬ t < 0 → t = n - (l.length : Int) - (tot l : Int)) := by
  unfold maxLen at h hs
  by_cases c : n - (l.length : Int) < 0
  · refine ⟨-1, Ev.some_ fun k => ?_, by omega, by omega⟩
    simp only [laws_szStringS.f]; rw [w64 (by omega) (by omega), if_pos c]
  · have key := Ev.scan (fun k m i => laws_szStringS.l0 k l m i) l.length (fun _ m => 0 ≤ m ∧ m ≤ n) (fun i m => if m < (tot (l.drop i) : Int) then -1 else m - (tot (l.drop i) : Int))
      (fun m hm => Ev.some_ fun k => by
        simp only [laws_szStringS.l0]; rw [if_neg (by omega), List.drop_eq_nil_of_le (Nat.le_refl _)]
        simp [tot]
        try omega)
      (fun i m hi hm => by
        have hd := drop_rdOf ByteArray.empty l i hi
        have hsz := hs _ (rdOf_mem ByteArray.empty l i hi)
        have hw : wrap64 (m - ((rdOf ByteArray.empty l (i : Int)).size : Int)) = m - ((rdOf ByteArray.empty l (i : Int)).size : Int) := w64 (by omega) (by omega)
        have hl : ∀ k, laws_szStringS.l0 (k + 1) l m (i : Int) = if m - ((rdOf ByteArray.empty l (i : Int)).size : Int) < 0 then some (-1) else laws_szStringS.l0 k l (m - ((rdOf ByteArray.empty l (i : Int)).size : Int)) ((i + 1 : Nat) : Int) := fun k => by
          simp only [laws_szStringS.l0]; rw [if_pos (by omega), if_pos (by omega), w64s hi h, hw]
        rw [hd, tot_cons]
        by_cases c2 : m - ((rdOf ByteArray.empty l (i : Int)).size : Int) < 0
        · exact .inl (Ev.some_ fun k => by simp only [hl]; rw [if_pos c2, if_pos (by omega)])
        · refine .inr ⟨m - ((rdOf ByteArray.empty l (i : Int)).size : Int), by omega, ?_, EvE.of fun k => by simp only [hl]; rw [if_neg c2]⟩
          split <;> split <;> omega) 0 (n - (l.length : Int)) (Nat.zero_le _) (by omega)
    refine ⟨_, Ev.congr (fun k => ?_) key, ?_, ?_⟩
    · simp only [laws_szStringS.f]; rw [w64 (by omega) (by omega), if_neg c]; rfl
    · simp only [List.drop_zero]; split <;> omega
    · simp only [List.drop_zero]; split <;> omega
theorem laws_toStringS_ev (l : List ByteArray) (h : l.length ≤ 1048576) : Ev (fun k => laws_toStringS.f k l) l := by
  have hl := copy_loop ByteArray.empty (fun k s i => laws_toStringS.l0 k l s i) l (fun s hs => Ev.some_ fun k => by simp only [laws_toStringS.l0]; rw [if_neg (by omega)]) (fun i s hi hs => EvE.of fun k => by
    simp only [laws_toStringS.l0]; rw [if_pos (by omega), if_pos (by omega), if_pos (by omega), w64s hi (by omega), Int.toNat_natCast] <;> rfl) (List.replicate l.length (⟨#[]⟩:ByteArray)) (by simp)
  refine Ev.congr (fun k => ?_) hl
  simp only [laws_toStringS.f, Int.toNat_natCast]
  rw [if_pos (by omega), if_pos (by omega)]
theorem laws_eqStringS_ev (l : List ByteArray) (h : l.length ≤ 9223372036854775807) : Ev (fun k => laws_eqStringS.f k l l) true := by
  refine Ev.congr (fun k => ?_) (all_loop (fun k i => laws_eqStringS.l0 k l l i) l.length (Ev.some_ fun k => by simp only [laws_eqStringS.l0]; rw [if_neg (by omega)]) (fun i hi => EvE.of fun k => by
    simp only [laws_eqStringS.l0]; rw [if_pos (by omega), if_pos (by omega), if_pos (by omega), if_pos trivial, w64s hi h]))
  simp only [laws_eqStringS.f]; rw [if_pos trivial]
theorem spec_l10Clean_ev (s : ByteArray) (hs : s.size ≤ 9223372036854775807) : Ev (fun k => spec_l10Clean.f k s) (plain (bytesOf s)) := by
  have := Ev.scan (l := fun k (_ : Unit) i => spec_l10Clean.l0 k s i) s.size (fun _ _ => True) (fun i _ => plain ((bytesOf s).drop i)) ?_ ?_ 0 () (Nat.zero_le _) trivial
  · simpa [spec_l10Clean.f] using this
  · intro _ _
    exact Ev.some_ fun k => by simp only [spec_l10Clean.l0]; rw [if_neg (by omega)]; simp [plain, ← bytesOf_length]
  · intro i _ hi _
    have hd := drop_bt s i hi
    have hl : ∀ k, spec_l10Clean.l0 (k + 1) s (i : Int) = if bt s (i : Int) = 32 then some false else if bt s (i : Int) = 10 then some false else spec_l10Clean.l0 k s ((i + 1 : Nat) : Int) := fun k => by
      simp only [spec_l10Clean.l0]; rw [if_pos (by omega), if_pos (by omega), w64s hi hs]
    by_cases h1 : bt s (i : Int) = 32
    · exact .inl (Ev.some_ fun k => by simp only [hl]; rw [if_pos h1, hd, h1]; rfl)
    · by_cases h2 : bt s (i : Int) = 10
      · exact .inl (Ev.some_ fun k => by simp only [hl]; rw [if_neg h1, if_pos h2, hd, h2]; rfl)
      · exact .inr ⟨(), trivial, by rw [hd]; simp [plain, h1, h2], EvE.of fun k => by simp only [hl]; rw [if_neg h1, if_neg h2]⟩
theorem impl_isPlain_ev (s : ByteArray) (hs : s.size ≤ 9223372036854775807) : Ev (fun k => impl_isPlain.f k s) (plain (bytesOf s)) := by
  have := Ev.scan (l := fun k (_ : Unit) i => impl_isPlain.l0 k s i) s.size (fun _ _ => True) (fun i _ => plain ((bytesOf s).drop i)) ?_ ?_ 0 () (Nat.zero_le _) trivial
  · simpa [impl_isPlain.f] using this
  · intro _ _
    exact Ev.some_ fun k => by simp only [impl_isPlain.l0]; rw [if_neg (by omega)]; simp [plain, ← bytesOf_length]
  · intro i _ hi _
    have hd := drop_bt s i hi
    have hl : ∀ k, impl_isPlain.l0 (k + 1) s (i : Int) = if bt s (i : Int) = 32 then some false else if bt s (i : Int) = 10 then some false else impl_isPlain.l0 k s ((i + 1 : Nat) : Int) := fun k => by
      simp only [impl_isPlain.l0]; rw [if_pos (by omega), if_pos (by omega), w64s hi hs]
    by_cases h1 : bt s (i : Int) = 32
    · exact .inl (Ev.some_ fun k => by simp only [hl]; rw [if_pos h1, hd, h1]; rfl)
    · by_cases h2 : bt s (i : Int) = 10
      · exact .inl (Ev.some_ fun k => by simp only [hl]; rw [if_neg h1, if_pos h2, hd, h2]; rfl)
      · exact .inr ⟨(), trivial, by rw [hd]; simp [plain, h1, h2], EvE.of fun k => by simp only [hl]; rw [if_neg h1, if_neg h2]⟩
theorem spec_ItemOk_ev (a b : ByteArray) (f : Int) (ha : a.size ≤ 9223372036854775807) (hb : b.size ≤ 9223372036854775807) : Ev (fun k => spec_ItemOk.f k a b f) (itemOk a b f) := by
  obtain ⟨K1, h1⟩ := spec_l10Clean_ev a ha
  obtain ⟨K2, h2⟩ := spec_l10Clean_ev b hb
  refine ⟨max K1 K2, fun k hk => ?_⟩
  have e1 := h1 k (by omega)
  have e2 := h2 k (by omega)
  by_cases c1 : 1 ≤ (a.size : Int) <;> by_cases c2 : (a.size : Int) ≤ 20 <;> by_cases c3 : (b.size : Int) ≤ 40 <;> by_cases c4 : 0 ≤ f <;> by_cases c5 : f ≤ 3 <;> cases p1 : plain (bytesOf a) <;> cases p2 : plain (bytesOf b) <;>
    simp only [spec_ItemOk.f, spec_l01In.f, e1, e2, Option.bind_some, itemOk, ge_iff_le, c1, c2, c3, c4, c5, p1, p2, if_true, if_false, decide_true, decide_false, Bool.and_true, Bool.true_and, Bool.false_and, Bool.and_false, Bool.false_eq_true]
theorem impl_ItemOk_ev (a b : ByteArray) (f : Int) (ha : a.size ≤ 9223372036854775807) (hb : b.size ≤ 9223372036854775807) : Ev (fun k => impl_ItemOk.f k a b f) (itemOk a b f) := by
  obtain ⟨K1, h1⟩ := impl_isPlain_ev a ha
  obtain ⟨K2, h2⟩ := impl_isPlain_ev b hb
  refine ⟨max K1 K2, fun k hk => ?_⟩
  have e1 := h1 k (by omega)
  have e2 := h2 k (by omega)
  by_cases c1 : 1 ≤ (a.size : Int) <;> by_cases c2 : (a.size : Int) ≤ 20 <;> by_cases c3 : (b.size : Int) ≤ 40 <;> by_cases c4 : 0 ≤ f <;> by_cases c5 : f ≤ 3 <;> cases p1 : plain (bytesOf a) <;> cases p2 : plain (bytesOf b) <;>
    simp only [impl_ItemOk.f, impl_within.f, e1, e2, Option.bind_some, itemOk, ge_iff_le, c1, c2, c3, c4, c5, p1, p2, if_true, if_false, decide_true, decide_false, Bool.and_true, Bool.true_and, Bool.false_and, Bool.and_false, Bool.false_eq_true]
theorem spec_AsksOk_ev (l : List ByteArray) (hl : l.length ≤ 1048577) (hs : ∀ s ∈ l, s.size ≤ 9223372036854775807) : Ev (fun k => spec_AsksOk.f k l) (asksOk l) := by
  have key := Ev.scan (fun k (_ : Unit) i => spec_AsksOk.l0 k l l (l.length : Int) i) l.length (fun _ _ => True) (fun i _ => ((l.drop i).all fun s => itemOk s (⟨#[]⟩ : ByteArray) 0) && decide ((l.length : Int) ≤ 300))
    (fun _ _ => Ev.some_ fun k => by simp only [spec_AsksOk.l0]; rw [if_neg (by omega), List.drop_eq_nil_of_le (Nat.le_refl _)]; simp)
    (fun i _ hi _ => by
      have hd := drop_rdOf ByteArray.empty l i hi
      have hi1 := spec_ItemOk_ev (rdOf ByteArray.empty l (i : Int)) (⟨#[]⟩ : ByteArray) 0 (hs _ (rdOf_mem _ _ _ hi)) (by show 0 ≤ _; omega)
      rw [hd, List.all_cons]
      cases c : itemOk (rdOf ByteArray.empty l (i : Int)) (⟨#[]⟩ : ByteArray) 0 with
      | true => rw [c] at hi1; exact .inr ⟨(), trivial, by simp, (evP hi1).eve fun k e => by simp only [spec_AsksOk.l0, e, Option.bind_some, if_true]; rw [if_pos (by omega), if_pos (by omega), if_pos (by omega), w64s hi (by omega)]⟩
      | false => rw [c] at hi1; exact .inl ((evP hi1).ev fun k e => by simp only [spec_AsksOk.l0, e, Option.bind_some, Bool.false_eq_true, if_false]; rw [if_pos (by omega), if_pos (by omega), if_pos (by omega)]; simp)) 0 () (Nat.zero_le _) trivial
  simpa [spec_AsksOk.f, asksOk] using key
theorem impl_AsksOk_ev (l : List ByteArray) (hl : l.length ≤ 1048577) (hs : ∀ s ∈ l, s.size ≤ 9223372036854775807) : Ev (fun k => impl_AsksOk.f k l) (asksOk l) := by
  have key := Ev.scan (fun k (_ : Unit) i => impl_AsksOk.l0 k l l (l.length : Int) i) l.length (fun _ _ => True) (fun i _ => ((l.drop i).all fun s => itemOk s (⟨#[]⟩ : ByteArray) 0) && decide ((l.length : Int) ≤ 300))
    (fun _ _ => Ev.some_ fun k => by simp only [impl_AsksOk.l0]; rw [if_neg (by omega), List.drop_eq_nil_of_le (Nat.le_refl _)]; simp)
    (fun i _ hi _ => by
      have hd := drop_rdOf ByteArray.empty l i hi
      have hi1 := impl_ItemOk_ev (rdOf ByteArray.empty l (i : Int)) (⟨#[]⟩ : ByteArray) 0 (hs _ (rdOf_mem _ _ _ hi)) (by show 0 ≤ _; omega)
      rw [hd, List.all_cons]
      cases c : itemOk (rdOf ByteArray.empty l (i : Int)) (⟨#[]⟩ : ByteArray) 0 with
      | true => rw [c] at hi1; exact .inr ⟨(), trivial, by simp, (evP hi1).eve fun k e => by simp only [impl_AsksOk.l0, e, Option.bind_some, if_true]; rw [if_pos (by omega), if_pos (by omega), if_pos (by omega), w64s hi (by omega)]⟩
      | false => rw [c] at hi1; exact .inl ((evP hi1).ev fun k e => by simp only [impl_AsksOk.l0, e, Option.bind_some, Bool.false_eq_true, if_false]; rw [if_pos (by omega), if_pos (by omega), if_pos (by omega)]; simp)) 0 () (Nat.zero_le _) trivial
  simpa [impl_AsksOk.f, asksOk] using key
theorem impl_glued_ev (l : List ByteArray) (h : l.length ≤ 1048576) (ht : tot l ≤ 1099511627776) : Ev (fun k => impl_glued.f k l) (glue l) := by
  have key := Ev.scan (fun k a i => impl_glued.l0 k a l (l.length : Int) i) l.length (fun i a => a.size + tot (l.drop i) + (l.length - i) ≤ 9223372036854775807) (fun i a => if i = 0 then a ++ glue (l.drop i) else a ++ gluing (l.drop i))
    (fun a ha => Ev.some_ fun k => by simp only [impl_glued.l0]; rw [if_neg (by omega), List.drop_eq_nil_of_le (Nat.le_refl _)]; simp only [glue, gluing, ba_nil, ite_self])
    (fun i a hi ha => by
      have hd := drop_rdOf ByteArray.empty l i hi
      rw [hd, tot_cons] at ha
      by_cases c : i = 0
      · subst c
        refine .inr ⟨a ++ rdOf ByteArray.empty l ((0 : Nat) : Int), by rw [ByteArray.size_append]; omega, ?_, EvE.of fun k => ?_⟩
        · rw [hd, if_pos rfl, if_neg (by omega), glue, ByteArray.append_assoc]
        · simp only [impl_glued.l0]; rw [if_pos (by omega), if_pos (by omega), if_pos (by omega), if_neg (by omega), if_pos (by omega), w64s hi (by omega)]
      · refine .inr ⟨(a ++ (⟨#[32]⟩ : ByteArray)) ++ rdOf ByteArray.empty l (i : Int), ?_, ?_, EvE.of fun k => ?_⟩
        · rw [ByteArray.size_append, ByteArray.size_append]; have : (⟨#[32]⟩ : ByteArray).size = 1 := rfl; omega
        · rw [hd, if_neg (by omega), if_neg c, gluing, ByteArray.append_assoc, ByteArray.append_assoc, ByteArray.append_assoc]
        · have : (⟨#[32]⟩ : ByteArray).size = 1 := rfl
          simp only [impl_glued.l0]; rw [if_pos (by omega), if_pos (by omega), if_pos (by omega), if_pos (by omega), if_pos (by omega), if_pos (by rw [ByteArray.size_append]; omega), w64s hi (by omega)]) 0 (⟨#[]⟩ : ByteArray) (Nat.zero_le _) (by simp only [List.drop_zero]; have : (⟨#[]⟩ : ByteArray).size = 0 := rfl; omega)
  simpa [impl_glued.f, nil_ba] using key
theorem text_same : ∀ k a b c d, spec_AsksText.l0 k a b c d = impl_glued.l0 k a b c d := by
  intro k
  induction k with
  | zero => intros; rfl
  | succ k ih => intro a b c d; simp only [spec_AsksText.l0, impl_glued.l0, ih]
theorem FnExactAsksText : DFnExactAsksText.Pure := by
  intro l ⟨hl, hs⟩
  obtain ⟨t, ht, ht0, ht1⟩ := laws_szStringS_ev l 1048576 (by omega) (by omega) hl hs
  by_cases c1 : t < 0
  · obtain ⟨k, e⟩ := (evP ht).ex
    exact ⟨k, by simp only [laws_FnExactAsksText.f, e, Option.bind_some]; rw [if_pos c1]⟩
  · have hn := ht1 c1
    obtain ⟨k, e0, e1, e2, e3, e4, e5⟩ := (evA ht (evA (laws_toStringS_ev l (by omega)) (evA (laws_eqStringS_ev l (by omega)) (evA (spec_AsksOk_ev l (by omega) hs) (evA (impl_AsksOk_ev l (by omega) hs) (evP (impl_glued_ev l (by omega) (by omega)))))))).ex
    have e6 : impl_glued.l0 k (⟨#[]⟩ : ByteArray) l (l.length : Int) 0 = some (glue l) := e5
    refine ⟨k, ?_⟩
    simp only [laws_FnExactAsksText.f, spec_AsksText.f, impl_AsksText.f, text_same, e0, e1, e2, e3, e4, e5, e6, Option.bind_some]
    rw [if_neg c1]
    cases asksOk l <;> simp only [Option.bind_some, if_true, Bool.false_eq_true, if_false]
end Go.Proofs.Ytmebfingnfhmlaa.Pure
