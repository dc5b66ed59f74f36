/- The program's TextAsks and the reference's tell the same, for all texts. No condition. -/
import Derived.Test.YtmebfingnfhmlaaDFnExactTextAsks
import Derived.Test.YtmebfingnfhmlaaLm
namespace Go.Proofs.Ytmebfingnfhmlaa.Pure
open Go.RowKit Go.Proofs.Ytmebfingnfhmlaa.PFnExactTextAsks Go.Proofs.YtmebfingnfhmlaaW.PrintWords Go.Proofs.YtmebfingnfhmlaaW.PrintLast Go.Proofs.YtmebfingnfhmlaaW.PrintMore Go.Proofs.Ytmebfingnfhmlaa.Lm
set_option linter.unusedSimpArgs false
set_option linter.unusedVariables false
theorem laws_eqStringS_ev (l : List ByteArray) (h : l.length ≤ 9223372036854775807) : Ev (fun k => laws_eqStringS.f k l l) true := by
  refine Ev.congr (fun k => ?_) (all_loop (fun k i => laws_eqStringS.l0 k l l i) l.length (Ev.some_ fun k => by simp only [laws_eqStringS.l0]; rw [if_neg (by omega)]) (fun i hi => EvE.of fun k => by
    simp only [laws_eqStringS.l0]; rw [if_pos (by omega), if_pos (by omega), if_pos (by omega), if_pos trivial, w64s hi h]))
  simp only [laws_eqStringS.f]; rw [if_pos trivial]
theorem strOfNums_one (x : Int) : (strOfNums [x]).size = 1 := rfl
theorem laws_markText_l0 : ∀ (d n : Nat) (s : ByteArray), n < 10 ^ d → n ≤ 9223372036854775807 → d ≤ 30 → s.size + d ≤ 1000 → ∃ r, Ev (fun k => laws_markText.l0 k (n : Int) s) r := by
  intro d
  induction d with
  | zero =>
    intro n s hn big hd hs
    refine ⟨(⟨#[109]⟩ : ByteArray) ++ s, Ev.up (g := fun _ => some _) (EvE.of fun k => ?_) (Ev.now _)⟩
    simp only [laws_markText.l0]
    rw [if_neg (by simp at hn; omega), if_pos (by omega)]
  | succ d ih =>
    intro n s hn big hd hs
    by_cases c : n = 0
    · refine ⟨(⟨#[109]⟩ : ByteArray) ++ s, Ev.up (g := fun _ => some _) (EvE.of fun k => ?_) (Ev.now _)⟩
      simp only [laws_markText.l0]
      rw [if_neg (by omega), if_pos (by omega)]
    · obtain ⟨r, hr⟩ := ih (n / 10) (strOfNums [((48 + n % 10 : Nat) : Int)] ++ s) (by rw [Nat.pow_succ] at hn; omega) (by omega) (by omega) (by rw [ByteArray.size_append, strOfNums_one]; omega)
      refine ⟨r, Ev.up (EvE.of fun k => ?_) hr⟩
      have e1 : wrap64 (Int.tdiv (n : Int) 10) = ((n / 10 : Nat) : Int) := by rw [Int.tdiv_eq_ediv_of_nonneg (by omega), w64 (by omega) (by omega)]; omega
      have e2 : wrap64 (48 + (Int.tmod (n : Int) 10)) % 256 = ((48 + n % 10 : Nat) : Int) := by rw [Int.tmod_eq_emod_of_nonneg (by omega), w64 (by omega) (by omega)]; omega
      simp only [laws_markText.l0, e1, e2]
      rw [if_pos (by omega), Option.bind_some, if_pos (by rw [strOfNums_one]; omega)]
theorem laws_markText_ev (n : Int) (hn : n ≤ 4294967295) : ∃ r, Ev (fun k => laws_markText.f k n) r := by
  by_cases c : n ≤ 0
  · exact ⟨_, Ev.some_ fun k => by simp only [laws_markText.f]; rw [if_pos c]⟩
  · obtain ⟨r, h⟩ := laws_markText_l0 10 n.toNat (⟨#[]⟩ : ByteArray) (by omega) (by omega) (by omega) (by show 0 + 10 ≤ 1000; omega)
    rw [Int.toNat_of_nonneg (by omega)] at h
    exact ⟨r, Ev.ofE (EvE.of fun k => by simp only [laws_markText.f]; rw [if_neg c]) h⟩
theorem laws_markStringS_ev (l : List ByteArray) (n : Int) (h0 : 0 ≤ n) (h : n + (l.length : Int) ≤ 4294967295) : ∃ M : List ByteArray, M.length = l.length ∧ Ev (fun k => laws_markStringS.f k l n) (n + (l.length : Int), M) ∧ Ev (fun k => laws_heldStringS.f k M n) (n + (l.length : Int)) := by
  have hmt : ∃ mt : Int → ByteArray, ∀ i, i ≤ 4294967295 → Ev (fun k => laws_markText.f k i) (mt i) :=
    ⟨fun i => if h : i ≤ 4294967295 then Classical.choose (laws_markText_ev i h) else ByteArray.empty, fun i hi => by simp only [dif_pos hi]; exact Classical.choose_spec (laws_markText_ev i hi)⟩
  obtain ⟨mt, hmt⟩ := hmt
  refine ⟨(List.range l.length).map fun i : Nat => mt (n + (i : Int)), by simp, ?_, ?_⟩
  · have key := Ev.scan (fun k (s : Int × List ByteArray) i => laws_markStringS.l0 k s.2 s.1 i) l.length (fun i s => s.1 = n + (i : Int) ∧ s.2.length = l.length) (fun i s => (n + (l.length : Int), s.2.take i ++ ((List.range l.length).drop i).map fun i : Nat => mt (n + (i : Int))))
      (fun s hs => Ev.some_ fun k => by
        simp only [laws_markStringS.l0]; rw [if_neg (by omega), List.drop_eq_nil_of_le (by simp), List.map_nil, List.append_nil, List.take_of_length_le (by omega), hs.1])
      (fun i s hi hs => .inr ⟨(s.1 + 1, s.2.set i (mt s.1)), ⟨by simp only; omega, by simpa using hs.2⟩, by
          rw [List.drop_eq_getElem_cons (i := i) (by simpa using hi), List.map_cons, List.getElem_range, hs.1]
          simp only [Prod.mk.injEq, true_and]
          rw [List.take_add_one, List.getElem?_set_self (by omega), List.take_set_of_le (Nat.le_refl i)]
          simp, (evP (hmt s.1 (by omega))).eve fun k e => by
          simp only [laws_markStringS.l0, e, Option.bind_some]
          rw [if_pos (by omega), if_pos (by omega), w64s hi (by omega), w64 (by omega) (by omega), Int.toNat_natCast]⟩) 0 (n, l) (Nat.zero_le _) ⟨by simp, rfl⟩
    simpa [laws_markStringS.f] using key
  · have key := Ev.scan (fun k (s : Int) i => laws_heldStringS.l0 k ((List.range l.length).map fun i : Nat => mt (n + (i : Int))) s i) l.length (fun i s => s = n + (i : Int)) (fun i s => n + (l.length : Int))
      (fun s hs => Ev.some_ fun k => by simp only [laws_heldStringS.l0, List.length_map, List.length_range]; rw [if_neg (by omega), hs])
      (fun i s hi hs => .inr ⟨s + 1, by omega, rfl, (evP (hmt s (by omega))).eve fun k e => by
          simp only [laws_heldStringS.l0, e, Option.bind_some, List.length_map, List.length_range]
          rw [if_pos (by omega), if_pos (by omega), if_pos (by rw [rdOf_nat]; simp [hi, hs]), w64s hi (by omega), w64 (by omega) (by omega)]⟩) 0 n (Nat.zero_le _) (by simp)
    simpa [laws_heldStringS.f] using key
theorem spec_l10Clean_ev (s : ByteArray) (hs : s.size ≤ 9223372036854775807) : Ev (fun k => spec_l10Clean.f k s) (plain (bytesOf s)) := by
  have := Ev.scan (l := fun k (_ : Unit) i => spec_l10Clean.l0 k s i) s.size (fun _ _ => True) (fun i _ => plain ((bytesOf s).drop i)) ?_ ?_ 0 () (Nat.zero_le _) trivial
  · simpa [spec_l10Clean.f] using this
  · intro _ _
    exact Ev.some_ fun k => by simp only [spec_l10Clean.l0]; rw [if_neg (by omega)]; simp [plain, ← bytesOf_length]
  · intro i _ hi _
    have hd := drop_bt s i hi
    have hl : ∀ k, spec_l10Clean.l0 (k + 1) s (i : Int) = if bt s (i : Int) = 32 then some false else if bt s (i : Int) = 10 then some false else spec_l10Clean.l0 k s ((i + 1 : Nat) : Int) := fun k => by
      simp only [spec_l10Clean.l0]; rw [if_pos (by omega), if_pos (by omega), w64s hi hs]
    by_cases h1 : bt s (i : Int) = 32
    · exact .inl (Ev.some_ fun k => by simp only [hl]; rw [if_pos h1, hd, h1]; rfl)
    · by_cases h2 : bt s (i : Int) = 10
      · exact .inl (Ev.some_ fun k => by simp only [hl]; rw [if_neg h1, if_pos h2, hd, h2]; rfl)
      · exact .inr ⟨(), trivial, by rw [hd]; simp [plain, h1, h2], EvE.of fun k => by simp only [hl]; rw [if_neg h1, if_neg h2]⟩
theorem impl_isPlain_ev (s : ByteArray) (hs : s.size ≤ 9223372036854775807) : Ev (fun k => impl_isPlain.f k s) (plain (bytesOf s)) := by
  have := Ev.scan (l := fun k (_ : Unit) i => impl_isPlain.l0 k s i) s.size (fun _ _ => True) (fun i _ => plain ((bytesOf s).drop i)) ?_ ?_ 0 () (Nat.zero_le _) trivial
  · simpa [impl_isPlain.f] using this
  · intro _ _
    exact Ev.some_ fun k => by simp only [impl_isPlain.l0]; rw [if_neg (by omega)]; simp [plain, ← bytesOf_length]
  · intro i _ hi _
    have hd := drop_bt s i hi
    have hl : ∀ k, impl_isPlain.l0 (k + 1) s (i : Int) = if bt s (i : Int) = 32 then some false else if bt s (i : Int) = 10 then some false else impl_isPlain.l0 k s ((i + 1 : Nat) : Int) := fun k => by
      simp only [impl_isPlain.l0]; rw [if_pos (by omega), if_pos (by omega), w64s hi hs]
    by_cases h1 : bt s (i : Int) = 32
    · exact .inl (Ev.some_ fun k => by simp only [hl]; rw [if_pos h1, hd, h1]; rfl)
    · by_cases h2 : bt s (i : Int) = 10
      · exact .inl (Ev.some_ fun k => by simp only [hl]; rw [if_neg h1, if_pos h2, hd, h2]; rfl)
      · exact .inr ⟨(), trivial, by rw [hd]; simp [plain, h1, h2], EvE.of fun k => by simp only [hl]; rw [if_neg h1, if_neg h2]⟩
theorem spec_ItemOk_ev (a b : ByteArray) (f : Int) (ha : a.size ≤ 9223372036854775807) (hb : b.size ≤ 9223372036854775807) : Ev (fun k => spec_ItemOk.f k a b f) (itemOk a b f) := by
  obtain ⟨K1, h1⟩ := spec_l10Clean_ev a ha
  obtain ⟨K2, h2⟩ := spec_l10Clean_ev b hb
  refine ⟨max K1 K2, fun k hk => ?_⟩
  have e1 := h1 k (by omega)
  have e2 := h2 k (by omega)
  by_cases c1 : 1 ≤ (a.size : Int) <;> by_cases c2 : (a.size : Int) ≤ 20 <;> by_cases c3 : (b.size : Int) ≤ 40 <;> by_cases c4 : 0 ≤ f <;> by_cases c5 : f ≤ 3 <;> cases p1 : plain (bytesOf a) <;> cases p2 : plain (bytesOf b) <;>
    simp only [spec_ItemOk.f, spec_l01In.f, e1, e2, Option.bind_some, itemOk, ge_iff_le, c1, c2, c3, c4, c5, p1, p2, if_true, if_false, decide_true, decide_false, Bool.and_true, Bool.true_and, Bool.false_and, Bool.and_false, Bool.false_eq_true]
theorem impl_ItemOk_ev (a b : ByteArray) (f : Int) (ha : a.size ≤ 9223372036854775807) (hb : b.size ≤ 9223372036854775807) : Ev (fun k => impl_ItemOk.f k a b f) (itemOk a b f) := by
  obtain ⟨K1, h1⟩ := impl_isPlain_ev a ha
  obtain ⟨K2, h2⟩ := impl_isPlain_ev b hb
  refine ⟨max K1 K2, fun k hk => ?_⟩
  have e1 := h1 k (by omega)
  have e2 := h2 k (by omega)
  by_cases c1 : 1 ≤ (a.size : Int) <;> by_cases c2 : (a.size : Int) ≤ 20 <;> by_cases c3 : (b.size : Int) ≤ 40 <;> by_cases c4 : 0 ≤ f <;> by_cases c5 : f ≤ 3 <;> cases p1 : plain (bytesOf a) <;> cases p2 : plain (bytesOf b) <;>
    simp only [impl_ItemOk.f, impl_within.f, e1, e2, Option.bind_some, itemOk, ge_iff_le, c1, c2, c3, c4, c5, p1, p2, if_true, if_false, decide_true, decide_false, Bool.and_true, Bool.true_and, Bool.false_and, Bool.and_false, Bool.false_eq_true]
theorem spec_AsksOk_ev (l : List ByteArray) (hl : l.length ≤ 1048577) (hs : ∀ s ∈ l, s.size ≤ 9223372036854775807) : Ev (fun k => spec_AsksOk.f k l) (asksOk l) := by
  have key := Ev.scan (fun k (_ : Unit) i => spec_AsksOk.l0 k l l (l.length : Int) i) l.length (fun _ _ => True) (fun i _ => ((l.drop i).all fun s => itemOk s (⟨#[]⟩ : ByteArray) 0) && decide ((l.length : Int) ≤ 300))
    (fun _ _ => Ev.some_ fun k => by simp only [spec_AsksOk.l0]; rw [if_neg (by omega), List.drop_eq_nil_of_le (Nat.le_refl _)]; simp)
    (fun i _ hi _ => by
      have hd := drop_rdOf ByteArray.empty l i hi
      have hi1 := spec_ItemOk_ev (rdOf ByteArray.empty l (i : Int)) (⟨#[]⟩ : ByteArray) 0 (hs _ (rdOf_mem _ _ _ hi)) (by show 0 ≤ _; omega)
      rw [hd, List.all_cons]
      cases c : itemOk (rdOf ByteArray.empty l (i : Int)) (⟨#[]⟩ : ByteArray) 0 with
      | true => rw [c] at hi1; exact .inr ⟨(), trivial, by simp, (evP hi1).eve fun k e => by simp only [spec_AsksOk.l0, e, Option.bind_some, if_true]; rw [if_pos (by omega), if_pos (by omega), if_pos (by omega), w64s hi (by omega)]⟩
      | false => rw [c] at hi1; exact .inl ((evP hi1).ev fun k e => by simp only [spec_AsksOk.l0, e, Option.bind_some, Bool.false_eq_true, if_false]; rw [if_pos (by omega), if_pos (by omega), if_pos (by omega)]; simp)) 0 () (Nat.zero_le _) trivial
  simpa [spec_AsksOk.f, asksOk] using key
theorem impl_AsksOk_ev (l : List ByteArray) (hl : l.length ≤ 1048577) (hs : ∀ s ∈ l, s.size ≤ 9223372036854775807) : Ev (fun k => impl_AsksOk.f k l) (asksOk l) := by
  have key := Ev.scan (fun k (_ : Unit) i => impl_AsksOk.l0 k l l (l.length : Int) i) l.length (fun _ _ => True) (fun i _ => ((l.drop i).all fun s => itemOk s (⟨#[]⟩ : ByteArray) 0) && decide ((l.length : Int) ≤ 300))
    (fun _ _ => Ev.some_ fun k => by simp only [impl_AsksOk.l0]; rw [if_neg (by omega), List.drop_eq_nil_of_le (Nat.le_refl _)]; simp)
    (fun i _ hi _ => by
      have hd := drop_rdOf ByteArray.empty l i hi
      have hi1 := impl_ItemOk_ev (rdOf ByteArray.empty l (i : Int)) (⟨#[]⟩ : ByteArray) 0 (hs _ (rdOf_mem _ _ _ hi)) (by show 0 ≤ _; omega)
      rw [hd, List.all_cons]
      cases c : itemOk (rdOf ByteArray.empty l (i : Int)) (⟨#[]⟩ : ByteArray) 0 with
      | true => rw [c] at hi1; exact .inr ⟨(), trivial, by simp, (evP hi1).eve fun k e => by simp only [impl_AsksOk.l0, e, Option.bind_some, if_true]; rw [if_pos (by omega), if_pos (by omega), if_pos (by omega), w64s hi (by omega)]⟩
      | false => rw [c] at hi1; exact .inl ((evP hi1).ev fun k e => by simp only [impl_AsksOk.l0, e, Option.bind_some, Bool.false_eq_true, if_false]; rw [if_pos (by omega), if_pos (by omega), if_pos (by omega)]; simp)) 0 () (Nat.zero_le _) trivial
  simpa [impl_AsksOk.f, asksOk] using key
theorem cut_same : ∀ k a b c d e, spec_l01Cut.l0 k a b c d e = impl_split.l0 k a b c d e := by
  intro k
  induction k with
  | zero => intros; rfl
  | succ k ih => intro a b c d e; simp only [spec_l01Cut.l0, impl_split.l0, ih]
theorem cut_ev (s : ByteArray) (hs : s.size ≤ 1048576) : ∃ w, CutOf s w ∧ Ev (fun k => impl_Cut.f k s) w ∧ Ev (fun k => spec_Cut.f k s) w := by
  have key := Ev.scanX (fun k (a : List ByteArray × Nat) i => impl_split.l0 k s 32 a.1 (a.2 : Int) i) s.size
    (fun i a => a.2 ≤ i ∧ a.1.length ≤ i ∧ (∀ x ∈ a.1, x.size ≤ s.size) ∧ (a.1 = [] ∧ a.2 = 0 ∨ a.1 ≠ [] ∧ glue a.1 ++ (⟨#[32]⟩ : ByteArray) = s.extract 0 a.2)) (fun w => CutOf s w)
    (fun a ⟨h1, h2, h3, h4⟩ => ⟨a.1 ++ [s.extract a.2 s.size], ⟨?_, by simp, by simp; omega, ?_⟩, Ev.some_ fun k => by
        simp only [impl_split.l0, Int.toNat_natCast]; rw [if_neg (by omega), if_pos (by omega), if_pos (by omega), if_pos (by omega)]⟩)
    (fun i a hi ⟨h1, h2, h3, h4⟩ => ?_) 0 ([], 0) (Nat.zero_le _) ⟨Nat.le_refl _, Nat.zero_le _, by simp, .inl ⟨rfl, rfl⟩⟩
  · obtain ⟨w, hw, he⟩ := key
    refine ⟨w, hw, ?_, ?_⟩
    · exact (evP he).ev fun k e => by simp only [impl_Cut.f, impl_split.f]; rw [show impl_split.l0 k s 32 [] 0 0 = some w from e]; rfl
    · exact (evP he).ev fun k e => by simp only [spec_Cut.f, spec_l01Cut.f]; rw [cut_same, show impl_split.l0 k s 32 [] 0 0 = some w from e]; rfl
  · rcases h4 with ⟨e1, e2⟩ | ⟨e1, e2⟩
    · rw [e1, e2]; simp only [List.nil_append, glue, gluing, ba_nil]; exact ByteArray.extract_zero_size
    · rw [glue_snoc _ _ e1, e2, ByteArray.extract_append_extract]; rw [Nat.min_eq_left (Nat.zero_le _), Nat.max_eq_right h1]; exact ByteArray.extract_zero_size
  · intro x hx
    rcases List.mem_append.1 hx with h | h
    · exact h3 x h
    · rw [List.mem_singleton.1 h, ByteArray.size_extract]; omega
  · by_cases c : bt s (i : Int) = 32
    · refine .inr ⟨(a.1 ++ [s.extract a.2 i], i + 1), ⟨Nat.le_refl _, by simp; omega, ?_, .inr ⟨by simp, ?_⟩⟩, EvE.of fun k => ?_⟩
      · intro x hx
        rcases List.mem_append.1 hx with h | h
        · exact h3 x h
        · rw [List.mem_singleton.1 h, ByteArray.size_extract]; omega
      · rw [← bt_32 s i hi c]
        rcases h4 with ⟨e1, e2⟩ | ⟨e1, e2⟩
        · rw [e1, e2]; simp only [List.nil_append, glue, gluing, ba_nil]; rw [ByteArray.extract_append_extract, Nat.min_eq_left (by omega), Nat.max_eq_right (by omega)]
        · rw [glue_snoc _ _ e1, e2, ByteArray.extract_append_extract, Nat.min_eq_left (by omega), Nat.max_eq_right h1, ByteArray.extract_append_extract, Nat.min_eq_left (by omega), Nat.max_eq_right (by omega)]
      · simp only [impl_split.l0, Int.toNat_natCast]
        rw [if_pos (by omega), if_pos (by omega), if_pos c, if_pos (by omega), if_pos (by omega), if_pos (by omega), if_pos (by omega), w64s hi (by omega)]
    · exact .inr ⟨a, ⟨by omega, by omega, h3, h4⟩, EvE.of fun k => by simp only [impl_split.l0]; rw [if_pos (by omega), if_pos (by omega), if_neg c, w64s hi (by omega)]⟩
theorem FnExactTextAsks : DFnExactTextAsks.Pure := by
  intro s hs
  unfold maxLen at hs
  by_cases c : (s.size : Int) > 1048576
  · exact ⟨0, by simp only [laws_FnExactTextAsks.f]; rw [if_pos c]⟩
  · have hb : ∃ (w : List ByteArray) (r : Bool), w.length ≤ 1048577 ∧ Ev (fun k => spec_TextAsks.f k s) (w, r) ∧ Ev (fun k => impl_TextAsks.f k s) (w, r) := by
      by_cases c0 : s.toList = ([] : List UInt8)
      · exact ⟨[], true, by simp, Ev.some_ fun k => by simp only [spec_TextAsks.f]; rw [if_pos c0], Ev.some_ fun k => by simp only [impl_TextAsks.f]; rw [if_pos c0]⟩
      · obtain ⟨w, ⟨h1, h2, h3, h4⟩, hi, hsp⟩ := cut_ev s (by omega)
        have ha := impl_AsksOk_ev w (by omega) (fun x hx => by have := h4 x hx; omega)
        have hb := spec_AsksOk_ev w (by omega) (fun x hx => by have := h4 x hx; omega)
        refine ⟨if asksOk w then w else [], asksOk w, (by split; omega; simp), (evA hsp (evP hb)).ev fun k ⟨e1, e2⟩ => ?_, (evA hi (evP ha)).ev fun k ⟨e1, e2⟩ => ?_⟩
        · simp only [spec_TextAsks.f, e1, e2, Option.bind_some]; rw [if_neg c0]; cases asksOk w <;> simp
        · simp only [impl_TextAsks.f, e1, e2, Option.bind_some]; rw [if_neg c0]; cases asksOk w <;> simp
    obtain ⟨w, r, hw, h1, h2⟩ := hb
    obtain ⟨M, m1, hM, hH⟩ := laws_markStringS_ev w 1 (by omega) (by omega)
    have st1 : Ev (fun k => laws_FnExactTextAsks.j1 k M (1 + (w.length : Int)) false) true := by
      refine Ev.up (g := fun _ => some true) ((evP hH).eve fun k e => ?_) (Ev.now _)
      simp only [laws_FnExactTextAsks.j1, e, Option.bind_some, Bool.false_eq_true, if_false, if_true, neg1]
    have st0 : Ev (fun k => laws_FnExactTextAsks.j0 k s w r w false) true := by
      refine Ev.up (g := fun _ => some true) ((evA st1 (evA hM (evA hH (evA h2 (evP (laws_eqStringS_ev w (by omega))))))).eve fun k ⟨e0, e1, e2, e3, e4⟩ => ?_) (Ev.now _)
      simp only [laws_FnExactTextAsks.j0, e0, e1, e2, e3, e4, Option.bind_some, Bool.false_eq_true, if_false, if_true, neg1, bne_self_eq_false]
    obtain ⟨k, e0, e1, e2, e3⟩ := (evA st0 (evA h1 (evA h2 (evP (laws_eqStringS_ev w (by omega)))))).ex
    exact ⟨k, by simp only [laws_FnExactTextAsks.f, e0, e1, e2, e3, Option.bind_some, if_true, bne_self_eq_false]; rw [if_neg c]⟩
end Go.Proofs.Ytmebfingnfhmlaa.Pure
