/- The program's Sweep and the reference's tell the same, for all askings and numbers. No condition. -/
import Derived.Test.YtllaoamaplepmaaDFnExactSweep
import Derived.Test.YtllaoamaplepmaaLm
namespace Go.Proofs.Ytllaoamaplepmaa.Pure
open Go.RowKit Go.Proofs.Ytllaoamaplepmaa.QFnExactSweep Go.Proofs.YtllaoamaplepmaaW.PrintWords Go.Proofs.YtllaoamaplepmaaW.PrintLast Go.Proofs.YtllaoamaplepmaaW.PrintMore Go.Proofs.Ytllaoamaplepmaa.Lm
set_option linter.unusedSimpArgs false
set_option linter.unusedVariables false
theorem laws_szStringS_ev (l : List ByteArray) (n : Int) (hn0 : 0 ≤ n) (hn : n ≤ 1048576) (h : l.length ≤ maxLen) (hs : ∀ s ∈ l, s.size ≤ maxLen) :
    ∃ t, Ev (fun k => laws_szStringS.f k l n) t ∧ t ≤ n ∧ (¬ t < 0 → t = n - (l.length : Int) - (tot l : Int)) := by
  unfold maxLen at h hs
  by_cases c : n - (l.length : Int) < 0
  · refine ⟨-1, Ev.some_ fun k => ?_, by omega, by omega⟩
    simp only [laws_szStringS.f]; rw [w64 (by omega) (by omega), if_pos c]
  · have key := Ev.scan (fun k m i => laws_szStringS.l0 k l m i) l.length (fun _ m => 0 ≤ m ∧ m ≤ n) (fun i m => if m < (tot (l.drop i) : Int) then -1 else m - (tot (l.drop i) : Int))
      (fun m hm => Ev.some_ fun k => by
        simp only [laws_szStringS.l0]; rw [if_neg (by omega), List.drop_eq_nil_of_le (Nat.le_refl _)]
        simp [tot]
        try omega)
      (fun i m hi hm => by
        have hd := drop_rdOf ByteArray.empty l i hi
        have hsz := hs _ (rdOf_mem ByteArray.empty l i hi)
        have hw : wrap64 (m - ((rdOf ByteArray.empty l (i : Int)).size : Int)) = m - ((rdOf ByteArray.empty l (i : Int)).size : Int) := w64 (by omega) (by omega)
        have hl : ∀ k, laws_szStringS.l0 (k + 1) l m (i : Int) = if m - ((rdOf ByteArray.empty l (i : Int)).size : Int) < 0 then some (-1) else laws_szStringS.l0 k l (m - ((rdOf ByteArray.empty l (i : Int)).size : Int)) ((i + 1 : Nat) : Int) := fun k => by
          simp only [laws_szStringS.l0]; rw [if_pos (by omega), if_pos (by omega), w64s hi h, hw]
        rw [hd, tot_cons]
        by_cases c2 : m - ((rdOf ByteArray.empty l (i : Int)).size : Int) < 0
        · exact .inl (Ev.some_ fun k => by simp only [hl]; rw [if_pos c2, if_pos (by omega)])
        · refine .inr ⟨m - ((rdOf ByteArray.empty l (i : Int)).size : Int), by omega, ?_, EvE.of fun k => by simp only [hl]; rw [if_neg c2]⟩
          split <;> split <;> omega) 0 (n - (l.length : Int)) (Nat.zero_le _) (by omega)
    refine ⟨_, Ev.congr (fun k => ?_) key, ?_, ?_⟩
    · simp only [laws_szStringS.f]; rw [w64 (by omega) (by omega), if_neg c]; rfl
    · simp only [List.drop_zero]; split <;> omega
    · simp only [List.drop_zero]; split <;> omega
theorem laws_toStringS_ev (l : List ByteArray) (h : l.length ≤ 1048576) : Ev (fun k => laws_toStringS.f k l) l := by
  have hl := copy_loop ByteArray.empty (fun k s i => laws_toStringS.l0 k l s i) l (fun s hs => Ev.some_ fun k => by simp only [laws_toStringS.l0]; rw [if_neg (by omega)]) (fun i s hi hs => EvE.of fun k => by
    simp only [laws_toStringS.l0]; rw [if_pos (by omega), if_pos (by omega), if_pos (by omega), w64s hi (by omega), Int.toNat_natCast] <;> rfl) (List.replicate l.length (⟨#[]⟩:ByteArray)) (by simp)
  refine Ev.congr (fun k => ?_) hl
  simp only [laws_toStringS.f, Int.toNat_natCast]
  rw [if_pos (by omega), if_pos (by omega)]
theorem laws_eqStringS_ev (l : List ByteArray) (h : l.length ≤ 9223372036854775807) : Ev (fun k => laws_eqStringS.f k l l) true := by
  refine Ev.congr (fun k => ?_) (all_loop (fun k i => laws_eqStringS.l0 k l l i) l.length (Ev.some_ fun k => by simp only [laws_eqStringS.l0]; rw [if_neg (by omega)]) (fun i hi => EvE.of fun k => by
    simp only [laws_eqStringS.l0]; rw [if_pos (by omega), if_pos (by omega), if_pos (by omega), if_pos trivial, w64s hi h]))
  simp only [laws_eqStringS.f]; rw [if_pos trivial]
theorem strOfNums_one (x : Int) : (strOfNums [x]).size = 1 := rfl
theorem laws_markText_l0 : ∀ (d n : Nat) (s : ByteArray), n < 10 ^ d → n ≤ 9223372036854775807 → d ≤ 30 → s.size + d ≤ 1000 → ∃ r, Ev (fun k => laws_markText.l0 k (n : Int) s) r := by
  intro d
  induction d with
  | zero =>
    intro n s hn big hd hs
    refine ⟨(⟨#[109]⟩ : ByteArray) ++ s, Ev.up (g := fun _ => some _) (EvE.of fun k => ?_) (Ev.now _)⟩
    simp only [laws_markText.l0]
    rw [if_neg (by simp at hn; omega), if_pos (by omega)]
  | succ d ih =>
    intro n s hn big hd hs
    by_cases c : n = 0
    · refine ⟨(⟨#[109]⟩ : ByteArray) ++ s, Ev.up (g := fun _ => some _) (EvE.of fun k => ?_) (Ev.now _)⟩
      simp only [laws_markText.l0]
      rw [if_neg (by omega), if_pos (by omega)]
    · obtain ⟨r, hr⟩ := ih (n / 10) (strOfNums [((48 + n % 10 : Nat) : Int)] ++ s) (by rw [Nat.pow_succ] at hn; omega) (by omega) (by omega) (by rw [ByteArray.size_append, strOfNums_one]; omega)
      refine ⟨r, Ev.up (EvE.of fun k => ?_) hr⟩
      have e1 : wrap64 (Int.tdiv (n : Int) 10) = ((n / 10 : Nat) : Int) := by rw [Int.tdiv_eq_ediv_of_nonneg (by omega), w64 (by omega) (by omega)]; omega
      have e2 : wrap64 (48 + (Int.tmod (n : Int) 10)) % 256 = ((48 + n % 10 : Nat) : Int) := by rw [Int.tmod_eq_emod_of_nonneg (by omega), w64 (by omega) (by omega)]; omega
      simp only [laws_markText.l0, e1, e2]
      rw [if_pos (by omega), Option.bind_some, if_pos (by rw [strOfNums_one]; omega)]
theorem laws_markText_ev (n : Int) (hn : n ≤ 4294967295) : ∃ r, Ev (fun k => laws_markText.f k n) r := by
  by_cases c : n ≤ 0
  · exact ⟨_, Ev.some_ fun k => by simp only [laws_markText.f]; rw [if_pos c]⟩
  · obtain ⟨r, h⟩ := laws_markText_l0 10 n.toNat (⟨#[]⟩ : ByteArray) (by omega) (by omega) (by omega) (by show 0 + 10 ≤ 1000; omega)
    rw [Int.toNat_of_nonneg (by omega)] at h
    exact ⟨r, Ev.ofE (EvE.of fun k => by simp only [laws_markText.f]; rw [if_neg c]) h⟩
theorem laws_markStringS_ev (l : List ByteArray) (n : Int) (h0 : 0 ≤ n) (h : n + (l.length : Int) ≤ 4294967295) : ∃ M : List ByteArray, M.length = l.length ∧ Ev (fun k => laws_markStringS.f k l n) (n + (l.length : Int), M) ∧ Ev (fun k => laws_heldStringS.f k M n) (n + (l.length : Int)) := by
  have hmt : ∃ mt : Int → ByteArray, ∀ i, i ≤ 4294967295 → Ev (fun k => laws_markText.f k i) (mt i) :=
    ⟨fun i => if h : i ≤ 4294967295 then Classical.choose (laws_markText_ev i h) else ByteArray.empty, fun i hi => by simp only [dif_pos hi]; exact Classical.choose_spec (laws_markText_ev i hi)⟩
  obtain ⟨mt, hmt⟩ := hmt
  refine ⟨(List.range l.length).map fun i : Nat => mt (n + (i : Int)), by simp, ?_, ?_⟩
  · have key := Ev.scan (fun k (s : Int × List ByteArray) i => laws_markStringS.l0 k s.2 s.1 i) l.length (fun i s => s.1 = n + (i : Int) ∧ s.2.length = l.length) (fun i s => (n + (l.length : Int), s.2.take i ++ ((List.range l.length).drop i).map fun i : Nat => mt (n + (i : Int))))
      (fun s hs => Ev.some_ fun k => by
        simp only [laws_markStringS.l0]; rw [if_neg (by omega), List.drop_eq_nil_of_le (by simp), List.map_nil, List.append_nil, List.take_of_length_le (by omega), hs.1])
      (fun i s hi hs => .inr ⟨(s.1 + 1, s.2.set i (mt s.1)), ⟨by simp only; omega, by simpa using hs.2⟩, by
          rw [List.drop_eq_getElem_cons (i := i) (by simpa using hi), List.map_cons, List.getElem_range, hs.1]
          simp only [Prod.mk.injEq, true_and]
          rw [List.take_add_one, List.getElem?_set_self (by omega), List.take_set_of_le (Nat.le_refl i)]
          simp, (evP (hmt s.1 (by omega))).eve fun k e => by
          simp only [laws_markStringS.l0, e, Option.bind_some]
          rw [if_pos (by omega), if_pos (by omega), w64s hi (by omega), w64 (by omega) (by omega), Int.toNat_natCast]⟩) 0 (n, l) (Nat.zero_le _) ⟨by simp, rfl⟩
    simpa [laws_markStringS.f] using key
  · have key := Ev.scan (fun k (s : Int) i => laws_heldStringS.l0 k ((List.range l.length).map fun i : Nat => mt (n + (i : Int))) s i) l.length (fun i s => s = n + (i : Int)) (fun i s => n + (l.length : Int))
      (fun s hs => Ev.some_ fun k => by simp only [laws_heldStringS.l0, List.length_map, List.length_range]; rw [if_neg (by omega), hs])
      (fun i s hi hs => .inr ⟨s + 1, by omega, rfl, (evP (hmt s (by omega))).eve fun k e => by
          simp only [laws_heldStringS.l0, e, Option.bind_some, List.length_map, List.length_range]
          rw [if_pos (by omega), if_pos (by omega), if_pos (by rw [rdOf_nat]; simp [hi, hs]), w64s hi (by omega), w64 (by omega) (by omega)]⟩) 0 n (Nat.zero_le _) (by simp)
    simpa [laws_heldStringS.f] using key
theorem spec_l10Clean_ev (s : ByteArray) (hs : s.size ≤ 9223372036854775807) : Ev (fun k => spec_l10Clean.f k s) (plain (bytesOf s)) := by
  have := Ev.scan (l := fun k (_ : Unit) i => spec_l10Clean.l0 k s i) s.size (fun _ _ => True) (fun i _ => plain ((bytesOf s).drop i)) ?_ ?_ 0 () (Nat.zero_le _) trivial
  · simpa [spec_l10Clean.f] using this
  · intro _ _
    exact Ev.some_ fun k => by simp only [spec_l10Clean.l0]; rw [if_neg (by omega)]; simp [plain, ← bytesOf_length]
  · intro i _ hi _
    have hd := drop_bt s i hi
    have hl : ∀ k, spec_l10Clean.l0 (k + 1) s (i : Int) = if bt s (i : Int) = 32 then some false else if bt s (i : Int) = 10 then some false else spec_l10Clean.l0 k s ((i + 1 : Nat) : Int) := fun k => by
      simp only [spec_l10Clean.l0]; rw [if_pos (by omega), if_pos (by omega), w64s hi hs]
    by_cases h1 : bt s (i : Int) = 32
    · exact .inl (Ev.some_ fun k => by simp only [hl]; rw [if_pos h1, hd, h1]; rfl)
    · by_cases h2 : bt s (i : Int) = 10
      · exact .inl (Ev.some_ fun k => by simp only [hl]; rw [if_neg h1, if_pos h2, hd, h2]; rfl)
      · exact .inr ⟨(), trivial, by rw [hd]; simp [plain, h1, h2], EvE.of fun k => by simp only [hl]; rw [if_neg h1, if_neg h2]⟩
theorem impl_isPlain_ev (s : ByteArray) (hs : s.size ≤ 9223372036854775807) : Ev (fun k => impl_isPlain.f k s) (plain (bytesOf s)) := by
  have := Ev.scan (l := fun k (_ : Unit) i => impl_isPlain.l0 k s i) s.size (fun _ _ => True) (fun i _ => plain ((bytesOf s).drop i)) ?_ ?_ 0 () (Nat.zero_le _) trivial
  · simpa [impl_isPlain.f] using this
  · intro _ _
    exact Ev.some_ fun k => by simp only [impl_isPlain.l0]; rw [if_neg (by omega)]; simp [plain, ← bytesOf_length]
  · intro i _ hi _
    have hd := drop_bt s i hi
    have hl : ∀ k, impl_isPlain.l0 (k + 1) s (i : Int) = if bt s (i : Int) = 32 then some false else if bt s (i : Int) = 10 then some false else impl_isPlain.l0 k s ((i + 1 : Nat) : Int) := fun k => by
      simp only [impl_isPlain.l0]; rw [if_pos (by omega), if_pos (by omega), w64s hi hs]
    by_cases h1 : bt s (i : Int) = 32
    · exact .inl (Ev.some_ fun k => by simp only [hl]; rw [if_pos h1, hd, h1]; rfl)
    · by_cases h2 : bt s (i : Int) = 10
      · exact .inl (Ev.some_ fun k => by simp only [hl]; rw [if_neg h1, if_pos h2, hd, h2]; rfl)
      · exact .inr ⟨(), trivial, by rw [hd]; simp [plain, h1, h2], EvE.of fun k => by simp only [hl]; rw [if_neg h1, if_neg h2]⟩
theorem spec_ItemOk_ev (a b : ByteArray) (f : Int) (ha : a.size ≤ 9223372036854775807) (hb : b.size ≤ 9223372036854775807) : Ev (fun k => spec_ItemOk.f k a b f) (itemOk a b f) := by
  obtain ⟨K1, h1⟩ := spec_l10Clean_ev a ha
  obtain ⟨K2, h2⟩ := spec_l10Clean_ev b hb
  refine ⟨max K1 K2, fun k hk => ?_⟩
  have e1 := h1 k (by omega)
  have e2 := h2 k (by omega)
  by_cases c1 : 1 ≤ (a.size : Int) <;> by_cases c2 : (a.size : Int) ≤ 20 <;> by_cases c3 : (b.size : Int) ≤ 40 <;> by_cases c4 : 0 ≤ f <;> by_cases c5 : f ≤ 3 <;> cases p1 : plain (bytesOf a) <;> cases p2 : plain (bytesOf b) <;>
    simp only [spec_ItemOk.f, spec_l01In.f, e1, e2, Option.bind_some, itemOk, ge_iff_le, c1, c2, c3, c4, c5, p1, p2, if_true, if_false, decide_true, decide_false, Bool.and_true, Bool.true_and, Bool.false_and, Bool.and_false, Bool.false_eq_true]
theorem impl_ItemOk_ev (a b : ByteArray) (f : Int) (ha : a.size ≤ 9223372036854775807) (hb : b.size ≤ 9223372036854775807) : Ev (fun k => impl_ItemOk.f k a b f) (itemOk a b f) := by
  obtain ⟨K1, h1⟩ := impl_isPlain_ev a ha
  obtain ⟨K2, h2⟩ := impl_isPlain_ev b hb
  refine ⟨max K1 K2, fun k hk => ?_⟩
  have e1 := h1 k (by omega)
  have e2 := h2 k (by omega)
  by_cases c1 : 1 ≤ (a.size : Int) <;> by_cases c2 : (a.size : Int) ≤ 20 <;> by_cases c3 : (b.size : Int) ≤ 40 <;> by_cases c4 : 0 ≤ f <;> by_cases c5 : f ≤ 3 <;> cases p1 : plain (bytesOf a) <;> cases p2 : plain (bytesOf b) <;>
    simp only [impl_ItemOk.f, impl_within.f, e1, e2, Option.bind_some, itemOk, ge_iff_le, c1, c2, c3, c4, c5, p1, p2, if_true, if_false, decide_true, decide_false, Bool.and_true, Bool.true_and, Bool.false_and, Bool.and_false, Bool.false_eq_true]
theorem spec_AsksOk_ev (l : List ByteArray) (hl : l.length ≤ 1048577) (hs : ∀ s ∈ l, s.size ≤ 9223372036854775807) : Ev (fun k => spec_AsksOk.f k l) (asksOk l) := by
  have key := Ev.scan (fun k (_ : Unit) i => spec_AsksOk.l0 k l l (l.length : Int) i) l.length (fun _ _ => True) (fun i _ => ((l.drop i).all fun s => itemOk s (⟨#[]⟩ : ByteArray) 0) && decide ((l.length : Int) ≤ 300))
    (fun _ _ => Ev.some_ fun k => by simp only [spec_AsksOk.l0]; rw [if_neg (by omega), List.drop_eq_nil_of_le (Nat.le_refl _)]; simp)
    (fun i _ hi _ => by
      have hd := drop_rdOf ByteArray.empty l i hi
      have hi1 := spec_ItemOk_ev (rdOf ByteArray.empty l (i : Int)) (⟨#[]⟩ : ByteArray) 0 (hs _ (rdOf_mem _ _ _ hi)) (by show 0 ≤ _; omega)
      rw [hd, List.all_cons]
      cases c : itemOk (rdOf ByteArray.empty l (i : Int)) (⟨#[]⟩ : ByteArray) 0 with
      | true => rw [c] at hi1; exact .inr ⟨(), trivial, by simp, (evP hi1).eve fun k e => by simp only [spec_AsksOk.l0, e, Option.bind_some, if_true]; rw [if_pos (by omega), if_pos (by omega), if_pos (by omega), w64s hi (by omega)]⟩
      | false => rw [c] at hi1; exact .inl ((evP hi1).ev fun k e => by simp only [spec_AsksOk.l0, e, Option.bind_some, Bool.false_eq_true, if_false]; rw [if_pos (by omega), if_pos (by omega), if_pos (by omega)]; simp)) 0 () (Nat.zero_le _) trivial
  simpa [spec_AsksOk.f, asksOk] using key
theorem impl_AsksOk_ev (l : List ByteArray) (hl : l.length ≤ 1048577) (hs : ∀ s ∈ l, s.size ≤ 9223372036854775807) : Ev (fun k => impl_AsksOk.f k l) (asksOk l) := by
  have key := Ev.scan (fun k (_ : Unit) i => impl_AsksOk.l0 k l l (l.length : Int) i) l.length (fun _ _ => True) (fun i _ => ((l.drop i).all fun s => itemOk s (⟨#[]⟩ : ByteArray) 0) && decide ((l.length : Int) ≤ 300))
    (fun _ _ => Ev.some_ fun k => by simp only [impl_AsksOk.l0]; rw [if_neg (by omega), List.drop_eq_nil_of_le (Nat.le_refl _)]; simp)
    (fun i _ hi _ => by
      have hd := drop_rdOf ByteArray.empty l i hi
      have hi1 := impl_ItemOk_ev (rdOf ByteArray.empty l (i : Int)) (⟨#[]⟩ : ByteArray) 0 (hs _ (rdOf_mem _ _ _ hi)) (by show 0 ≤ _; omega)
      rw [hd, List.all_cons]
      cases c : itemOk (rdOf ByteArray.empty l (i : Int)) (⟨#[]⟩ : ByteArray) 0 with
      | true => rw [c] at hi1; exact .inr ⟨(), trivial, by simp, (evP hi1).eve fun k e => by simp only [impl_AsksOk.l0, e, Option.bind_some, if_true]; rw [if_pos (by omega), if_pos (by omega), if_pos (by omega), w64s hi (by omega)]⟩
      | false => rw [c] at hi1; exact .inl ((evP hi1).ev fun k e => by simp only [impl_AsksOk.l0, e, Option.bind_some, Bool.false_eq_true, if_false]; rw [if_pos (by omega), if_pos (by omega), if_pos (by omega)]; simp)) 0 () (Nat.zero_le _) trivial
  simpa [impl_AsksOk.f, asksOk] using key
theorem spec_NumText_ev_nat : ∀ (n : Nat), n ≤ 4294967295 → Ev (fun k => spec_NumText.f k (n : Int)) (nt n) := by
  intro n
  induction n using Nat.strongRecOn with
  | ind n ih =>
    intro hn
    by_cases c : n < 10
    · refine Ev.up (g := fun _ => some (nt n)) (EvE.of fun k => ?_) (Ev.now _)
      simp only [spec_NumText.f, spec_l01Num.f]
      rw [if_pos (by omega), Option.bind_some, if_pos (decide_eq_true (by omega)), if_pos (by omega), nt, if_pos c]
      rw [w64 (by omega) (by omega)]; congr 4; omega
    · have h := ih (n / 10) (by omega) (by omega)
      have hs := nt_size 10 (n / 10) (by omega) (by omega)
      refine Ev.up (g := fun k => spec_NumText.f k ((n / 10 : Nat) : Int) |>.bind fun t => some (t ++ strOfNums [((48 + n % 10 : Nat) : Int)])) ?_ ?_
      · refine (evP h).eve fun k e => ?_
        simp only [spec_NumText.f, spec_l01Num.f]
        rw [if_pos (by omega), Option.bind_some, if_pos (decide_eq_true (by omega)), if_neg (by omega)]
        have e1 : wrap64 (Int.tdiv (n : Int) 10) = ((n / 10 : Nat) : Int) := by rw [Int.tdiv_eq_ediv_of_nonneg (by omega), w64 (by omega) (by omega)]; omega
        have e2 : wrap64 (48 + (Int.tmod (n : Int) 10)) % 256 = ((48 + n % 10 : Nat) : Int) := by rw [Int.tmod_eq_emod_of_nonneg (by omega), w64 (by omega) (by omega)]; omega
        rw [e1, e2]
        simp only [e, Option.bind_some]
        rw [if_pos (by rw [strOfNums_one]; omega)]
      · refine (evP h).ev fun k e => ?_
        simp only [e, Option.bind_some]
        rw [nt.eq_1 n, if_neg c]
theorem spec_NumText_ev (x : Int) : Ev (fun k => spec_NumText.f k x) (numText x) := by
  unfold numText
  split
  · rename_i h
    have := spec_NumText_ev_nat x.toNat (by omega)
    rwa [Int.toNat_of_nonneg h.1] at this
  · rename_i h
    refine Ev.up (g := fun _ => some _) (EvE.of fun k => ?_) (Ev.now _)
    simp only [spec_NumText.f, spec_l01Num.f]
    by_cases c : 0 ≤ x
    · rw [if_pos c, Option.bind_some, if_neg (by simp; omega)]
    · rw [if_neg c, Option.bind_some, if_neg (by simp)]
theorem impl_NumText_l0_ev : ∀ (n : Nat) (s : ByteArray), n ≤ 4294967295 → s.size ≤ 1000 → (nt n).size + s.size ≤ 1000 → Ev (fun k => impl_NumText.l0 k (n : Int) s) (nt n ++ s) := by
  intro n
  induction n using Nat.strongRecOn with
  | ind n ih =>
    intro s hn hs ht
    by_cases c : n < 10
    · refine Ev.up (g := fun _ => some (nt n ++ s)) (EvE.of fun k => ?_) (Ev.now _)
      have e2 : wrap64 (48 + (n : Int)) % 256 = ((48 + n : Nat) : Int) := by rw [w64 (by omega) (by omega)]; omega
      simp only [impl_NumText.l0, e2]
      rw [if_neg (by omega), Option.bind_some, if_pos (by rw [strOfNums_one]; omega), nt, if_pos c]
    · have hnt : nt n = nt (n / 10) ++ strOfNums [((48 + n % 10 : Nat) : Int)] := by rw [nt.eq_1 n, if_neg c]
      have h := ih (n / 10) (by omega) (strOfNums [((48 + n % 10 : Nat) : Int)] ++ s) (by omega) (by rw [hnt, ByteArray.size_append, strOfNums_one] at ht; rw [ByteArray.size_append, strOfNums_one]; omega) (by rw [hnt, ByteArray.size_append] at ht; rw [ByteArray.size_append]; omega)
      rw [← ByteArray.append_assoc, ← hnt] at h
      refine Ev.up (EvE.of fun k => ?_) h
      have e1 : wrap64 (Int.tdiv (n : Int) 10) = ((n / 10 : Nat) : Int) := by rw [Int.tdiv_eq_ediv_of_nonneg (by omega), w64 (by omega) (by omega)]; omega
      have e2 : wrap64 (48 + (Int.tmod (n : Int) 10)) % 256 = ((48 + n % 10 : Nat) : Int) := by rw [Int.tmod_eq_emod_of_nonneg (by omega), w64 (by omega) (by omega)]; omega
      simp only [impl_NumText.l0, e1, e2]
      rw [if_pos (by omega), Option.bind_some, if_pos (by rw [strOfNums_one]; omega)]
theorem impl_NumText_ev (x : Int) : Ev (fun k => impl_NumText.f k x) (numText x) := by
  unfold numText
  split
  · rename_i h
    have hs := nt_size 10 x.toNat (by omega) (by omega)
    have h2 := impl_NumText_l0_ev x.toNat (⟨#[]⟩ : ByteArray) (by omega) (by show 0 ≤ 1000; omega) (by show _ + 0 ≤ 1000; omega)
    rw [Int.toNat_of_nonneg h.1, ba_nil] at h2
    refine Ev.ofE (EvE.of fun k => ?_) h2
    simp only [impl_NumText.f, impl_isNum.f, impl_within.f]
    rw [if_pos (by omega), Option.bind_some, Option.bind_some, if_pos (decide_eq_true (by omega))]
  · rename_i h
    refine Ev.some_ fun k => ?_
    simp only [impl_NumText.f, impl_isNum.f, impl_within.f]
    by_cases c : 0 ≤ x
    · rw [if_pos c, Option.bind_some, Option.bind_some, if_neg (by simp; omega)]
    · rw [if_neg c, Option.bind_some, Option.bind_some, if_neg (by simp)]
/-- What a round of a sweep lays. -/
def swp (hot : List ByteArray) (e : Int) (i : Nat) : List ByteArray := (if Int.tmod (i : Int) e = 0 then hot else []) ++ [(⟨#[99]⟩ : ByteArray) ++ numText (i : Int)]
def sw (hot : List ByteArray) (e : Int) (n : Nat) : List ByteArray := ((List.range n).map (swp hot e)).flatten
theorem sw_succ (hot : List ByteArray) (e : Int) (n : Nat) : sw hot e (n + 1) = sw hot e n ++ swp hot e n := by
  simp [sw, List.range_succ]
theorem swp_len (hot : List ByteArray) (e : Int) (n : Nat) (h : hot.length ≤ 300) : (swp hot e n).length ≤ 301 := by
  unfold swp; split <;> simp <;> omega
theorem sw_len (hot : List ByteArray) (e : Int) (n : Nat) (h : hot.length ≤ 300) : (sw hot e n).length ≤ 301 * n := by
  induction n with
  | zero => simp [sw]
  | succ n ih => rw [sw_succ, List.length_append]; have := swp_len hot e n h; omega
theorem sw_mono (hot : List ByteArray) (e : Int) (n : Nat) : ∀ d, (sw hot e n).length ≤ (sw hot e (n + d)).length
  | 0 => Nat.le_refl _
  | d + 1 => by have := sw_mono hot e n d; rw [← Nat.add_assoc, sw_succ, List.length_append]; omega
def sweepL (hot : List ByteArray) (n : Nat) (e : Int) : List ByteArray := if (sw hot e n).length > 300 then [] else sw hot e n
theorem spec_sweep (hot : List ByteArray) (h : hot.length ≤ 300) (n : Nat) (hn : n ≤ 100) (e : Int) (he : 1 ≤ e) : Ev (fun k => spec_Sweep.l0 k hot (n : Int) e [] 0) (sweepL hot n e) := by
  have key := Ev.scan' (fun k a i => spec_Sweep.l0 k hot (n : Int) e a i) n (fun i a => a = sw hot e i ∧ a.length ≤ 300) (fun _ _ => sweepL hot n e)
    (fun a ha => Ev.up (g := fun _ => some _) (EvE.of fun k => by simp only [spec_Sweep.l0]; rw [if_neg (by omega)]) (by
      have h2 := ha.2; rw [ha.1] at h2; rw [ha.1]; unfold sweepL; rw [if_neg (by omega)]; exact Ev.now _))
    (fun i a hi ha => by
      have hz := numText_size (i : Int)
      have hw : wrap64 ((i : Int) + 1) = ((i + 1 : Nat) : Int) := w64s hi (by omega)
      have hl := swp_len hot e i h
      have hs := sw_succ hot e i
      rw [← ha.1] at hs
      have hb : EvE (fun k => spec_Sweep.l0 (k + 1) hot (n : Int) e a (i : Int)) (fun k => if ((sw hot e (i + 1)).length : Int) > 300 then some ([] : List ByteArray) else spec_Sweep.l0 k hot (n : Int) e (sw hot e (i + 1)) ((i + 1 : Nat) : Int)) := by
        refine (evP (spec_NumText_ev (i : Int))).eve fun k e1 => ?_
        simp only [spec_Sweep.l0, e1, Option.bind_some, hw]
        rw [if_pos (by omega), if_neg (by omega)]
        by_cases c : Int.tmod (i : Int) e = 0
        · rw [if_pos c, if_pos (by omega), if_pos (by omega), if_pos (by rw [List.length_append]; omega)]
          rw [hs]; unfold swp; rw [if_pos c, List.append_assoc]
        · rw [if_neg c, if_pos (by omega), if_pos (by omega)]
          rw [hs]; unfold swp; rw [if_neg c, List.nil_append]
      by_cases c : ((sw hot e (i + 1)).length : Int) > 300
      · refine .inl (Ev.up hb (Ev.some_ fun k => ?_))
        rw [if_pos c]
        have := sw_mono hot e (i + 1) (n - (i + 1))
        rw [show i + 1 + (n - (i + 1)) = n by omega] at this
        unfold sweepL; rw [if_pos (by omega)]
      · exact .inr ⟨sw hot e (i + 1), ⟨rfl, by omega⟩, rfl, fun q hq => Ev.up hb (by simpa only [if_neg c] using hq)⟩) 0 [] (Nat.zero_le _) ⟨rfl, by simp⟩
  exact key
theorem impl_sweep (hot : List ByteArray) (h : hot.length ≤ 300) (n : Nat) (hn : n ≤ 100) (e : Int) (he : 1 ≤ e) : Ev (fun k => impl_Sweep.l0 k hot e [] (n : Int) 0) (sweepL hot n e) := by
  have key := Ev.scan' (fun k a i => impl_Sweep.l0 k hot e a (n : Int) i) n (fun i a => a = sw hot e i) (fun _ _ => sweepL hot n e)
    (fun a ha => Ev.up (g := fun _ => some _) (EvE.of fun k => by
      simp only [impl_Sweep.l0]; rw [if_neg (by omega), ← show (if (a.length : Int) > 300 then [] else a) = sweepL hot n e by unfold sweepL; rw [ha]; split <;> split <;> first | rfl | omega]
      split <;> rfl) (Ev.now _))
    (fun i a hi ha => by
      have hz := numText_size (i : Int)
      have hw : wrap64 ((i : Int) + 1) = ((i + 1 : Nat) : Int) := w64s hi (by omega)
      have hl := swp_len hot e i h
      have hl2 := sw_len hot e i h
      have hs := sw_succ hot e i
      rw [← ha] at hs hl2
      refine .inr ⟨sw hot e (i + 1), rfl, rfl, fun q hq => Ev.up ((evP (impl_NumText_ev (i : Int))).eve fun k e1 => ?_) hq⟩
      simp only [impl_Sweep.l0, e1, Option.bind_some, hw]
      rw [if_pos (by omega), if_neg (by omega)]
      by_cases c : Int.tmod (i : Int) e = 0
      · rw [if_pos c, if_pos (by omega), if_pos (by omega), if_pos (by rw [List.length_append]; omega)]
        rw [hs]; unfold swp; rw [if_pos c, List.append_assoc]
      · rw [if_neg c, if_pos (by omega), if_pos (by omega)]
        rw [hs]; unfold swp; rw [if_neg c, List.nil_append]) 0 [] (Nat.zero_le _) rfl
  exact key
theorem asksOk_len {l : List ByteArray} (h : asksOk l = true) : l.length ≤ 300 := by
  unfold asksOk at h; simp only [Bool.and_eq_true, decide_eq_true_eq] at h; omega
theorem FnExactSweep : DFnExactSweep.Pure := by
  intro l n e ⟨hl, hs⟩ hn he
  obtain ⟨t, ht, ht0, ht1⟩ := laws_szStringS_ev l 1048576 (by omega) (by omega) hl hs
  by_cases c1 : t < 0
  · obtain ⟨k, e⟩ := (evP ht).ex
    exact ⟨k, by simp only [laws_FnExactSweep.f, e, Option.bind_some]; rw [if_pos c1]⟩
  · have hln := ht1 c1
    have hs' : ∀ s ∈ l, s.size ≤ 9223372036854775807 := fun s hh => by have := hs s hh; unfold maxLen at this; exact this
    have hw : ∃ w : List ByteArray, w.length ≤ 300 ∧ Ev (fun k => spec_Sweep.f k l n e) w ∧ Ev (fun k => impl_Sweep.f k l n e) w := by
      by_cases c2 : 1 ≤ n ∧ n ≤ 100
      · by_cases c3 : e < 1
        · refine ⟨[], by simp, Ev.up (g := fun _ => some []) (EvE.of fun k => ?_) (Ev.now _), Ev.up (g := fun _ => some []) (EvE.of fun k => ?_) (Ev.now _)⟩
          · simp only [spec_Sweep.f, spec_l01In.f, Option.bind_some]
            rw [if_pos (by omega), Option.bind_some, if_pos (decide_eq_true (by omega)), if_pos c3]
            simp only [spec_Sweep.j0, if_true]
          · simp only [impl_Sweep.f, impl_within.f, Option.bind_some]
            rw [if_pos (by omega), Option.bind_some, if_pos (decide_eq_true (by omega)), if_pos c3]
            simp only [impl_Sweep.j0, if_true]
        · cases c4 : asksOk l with
          | false =>
            have ha := spec_AsksOk_ev l (by omega) hs'
            have hb := impl_AsksOk_ev l (by omega) hs'
            rw [c4] at ha hb
            refine ⟨[], by simp, Ev.ofE (g := fun k => spec_Sweep.j0 k l n e [] true) ((evP ha).eve fun k e1 => ?_) (Ev.up (g := fun _ => some []) (EvE.of fun k => ?_) (Ev.now _)), Ev.ofE (g := fun k => impl_Sweep.j0 k l n e [] true) ((evP hb).eve fun k e1 => ?_) (Ev.up (g := fun _ => some []) (EvE.of fun k => ?_) (Ev.now _))⟩
            · simp only [spec_Sweep.f, spec_l01In.f, Option.bind_some]
              rw [if_pos (by omega), Option.bind_some, if_pos (decide_eq_true (by omega)), if_neg c3, e1]; rfl
            · simp only [spec_Sweep.j0, if_true]
            · simp only [impl_Sweep.f, impl_within.f, Option.bind_some]
              rw [if_pos (by omega), Option.bind_some, if_pos (decide_eq_true (by omega)), if_neg c3, e1]; rfl
            · simp only [impl_Sweep.j0, if_true]
          | true =>
            have ha := spec_AsksOk_ev l (by omega) hs'
            have hb := impl_AsksOk_ev l (by omega) hs'
            rw [c4] at ha hb
            have hlen := asksOk_len c4
            have en : ((n.toNat : Nat) : Int) = n := Int.toNat_of_nonneg (by omega)
            have k1 := spec_sweep l hlen n.toNat (by omega) e (by omega)
            have k2 := impl_sweep l hlen n.toNat (by omega) e (by omega)
            rw [en] at k1 k2
            refine ⟨sweepL l n.toNat e, (by unfold sweepL; split <;> first | (simp; done) | omega), Ev.ofE (g := fun k => spec_Sweep.j0 k l n e [] false) ((evP ha).eve fun k e1 => ?_) (Ev.up (EvE.of fun k => ?_) k1), Ev.ofE (g := fun k => impl_Sweep.j0 k l n e [] false) ((evP hb).eve fun k e1 => ?_) (Ev.up (EvE.of fun k => ?_) k2)⟩
            · simp only [spec_Sweep.f, spec_l01In.f, Option.bind_some]
              rw [if_pos (by omega), Option.bind_some, if_pos (decide_eq_true (by omega)), if_neg c3, e1]; rfl
            · simp only [spec_Sweep.j0, Bool.false_eq_true, if_false]
            · simp only [impl_Sweep.f, impl_within.f, Option.bind_some]
              rw [if_pos (by omega), Option.bind_some, if_pos (decide_eq_true (by omega)), if_neg c3, e1]; rfl
            · simp only [impl_Sweep.j0, Bool.false_eq_true, if_false]
      · refine ⟨[], by simp, Ev.up (g := fun _ => some []) (EvE.of fun k => ?_) (Ev.now _), Ev.up (g := fun _ => some []) (EvE.of fun k => ?_) (Ev.now _)⟩
        · simp only [spec_Sweep.f, spec_l01In.f, Option.bind_some]
          by_cases c4 : n ≥ 1
          · rw [if_pos c4, Option.bind_some, if_neg (by simp; omega)]; simp only [spec_Sweep.j0, if_true]
          · rw [if_neg c4, Option.bind_some, if_neg (by simp)]; simp only [spec_Sweep.j0, if_true]
        · simp only [impl_Sweep.f, impl_within.f, Option.bind_some]
          by_cases c4 : n ≥ 1
          · rw [if_pos c4, Option.bind_some, if_neg (by simp; omega)]; simp only [impl_Sweep.j0, if_true]
          · rw [if_neg c4, Option.bind_some, if_neg (by simp)]; simp only [impl_Sweep.j0, if_true]
    obtain ⟨w, hwl, h1, h2⟩ := hw
    obtain ⟨M1, m1, hM1, hH1⟩ := laws_markStringS_ev l 1 (by omega) (by omega)
    obtain ⟨M2, m2, hM2, hH2⟩ := laws_markStringS_ev w 1 (by omega) (by omega)
    have step : Ev (fun k => laws_FnExactSweep.j0 k l n e w w false) true := by
      refine Ev.up (g := fun _ => some true) ((evA hM2 (evA hH2 (evA (laws_toStringS_ev l (by omega)) (evA h2 (evP (laws_eqStringS_ev w (by omega))))))).eve fun k ⟨e1, e2, e3, e4, e5⟩ => ?_) (Ev.now _)
      simp only [laws_FnExactSweep.j0, e1, e2, e3, e4, e5, Option.bind_some, Bool.false_eq_true, if_false, if_true, neg1]
    obtain ⟨k, e0, e1, e2, e3, e4, e5, e6, e7⟩ := (evA ht (evA (laws_toStringS_ev l (by omega)) (evA (laws_eqStringS_ev l (by omega)) (evA (laws_eqStringS_ev w (by omega)) (evA h1 (evA h2 (evA hM1 (evP step)))))))).ex
    exact ⟨k, by simp only [laws_FnExactSweep.f, e0, e1, e2, e3, e4, e5, e6, e7, Option.bind_some, if_true, Bool.not_true, neg1, if_false]; rw [if_neg c1]⟩
end Go.Proofs.Ytllaoamaplepmaa.Pure
