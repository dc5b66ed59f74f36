/- The program's Curve and the reference's tell the same, for all askings and caps. No condition. -/
import Derived.Test.YtllaoamaplepmaaDFnExactCurve
import Derived.Test.YtllaoamaplepmaaLm
namespace Go.Proofs.Ytllaoamaplepmaa.Pure
open Go.RowKit Go.Proofs.Ytllaoamaplepmaa.QFnExactCurve Go.Proofs.YtllaoamaplepmaaW.PrintWords Go.Proofs.YtllaoamaplepmaaW.PrintLast Go.Proofs.YtllaoamaplepmaaW.PrintMore Go.Proofs.Ytllaoamaplepmaa.Lm
set_option linter.unusedSimpArgs false
set_option linter.unusedVariables false
theorem laws_szStringS_ev (l : List ByteArray) (n : Int) (hn0 : 0 ≤ n) (hn : n ≤ 1048576) (h : l.length ≤ maxLen) (hs : ∀ s ∈ l, s.size ≤ maxLen) :
    ∃ t, Ev (fun k => laws_szStringS.f k l n) t ∧ t ≤ n ∧ (¬ t < 0 → t = n - (l.length : Int) - (tot l : Int)) := by
  unfold maxLen at h hs
  by_cases c : n - (l.length : Int) < 0
  · refine ⟨-1, Ev.some_ fun k => ?_, by omega, by omega⟩
    simp only [laws_szStringS.f]; rw [w64 (by omega) (by omega), if_pos c]
  · have key := Ev.scan (fun k m i => laws_szStringS.l0 k l m i) l.length (fun _ m => 0 ≤ m ∧ m ≤ n) (fun i m => if m < (tot (l.drop i) : Int) then -1 else m - (tot (l.drop i) : Int))
      (fun m hm => Ev.some_ fun k => by
        simp only [laws_szStringS.l0]; rw [if_neg (by omega), List.drop_eq_nil_of_le (Nat.le_refl _)]
        simp [tot]
        try omega)
      (fun i m hi hm => by
        have hd := drop_rdOf ByteArray.empty l i hi
        have hsz := hs _ (rdOf_mem ByteArray.empty l i hi)
        have hw : wrap64 (m - ((rdOf ByteArray.empty l (i : Int)).size : Int)) = m - ((rdOf ByteArray.empty l (i : Int)).size : Int) := w64 (by omega) (by omega)
        have hl : ∀ k, laws_szStringS.l0 (k + 1) l m (i : Int) = if m - ((rdOf ByteArray.empty l (i : Int)).size : Int) < 0 then some (-1) else laws_szStringS.l0 k l (m - ((rdOf ByteArray.empty l (i : Int)).size : Int)) ((i + 1 : Nat) : Int) := fun k => by
          simp only [laws_szStringS.l0]; rw [if_pos (by omega), if_pos (by omega), w64s hi h, hw]
        rw [hd, tot_cons]
        by_cases c2 : m - ((rdOf ByteArray.empty l (i : Int)).size : Int) < 0
        · exact .inl (Ev.some_ fun k => by simp only [hl]; rw [if_pos c2, if_pos (by omega)])
        · refine .inr ⟨m - ((rdOf ByteArray.empty l (i : Int)).size : Int), by omega, ?_, EvE.of fun k => by simp only [hl]; rw [if_neg c2]⟩
          split <;> split <;> omega) 0 (n - (l.length : Int)) (Nat.zero_le _) (by omega)
    refine ⟨_, Ev.congr (fun k => ?_) key, ?_, ?_⟩
    · simp only [laws_szStringS.f]; rw [w64 (by omega) (by omega), if_neg c]; rfl
    · simp only [List.drop_zero]; split <;> omega
    · simp only [List.drop_zero]; split <;> omega
theorem laws_toStringS_ev (l : List ByteArray) (h : l.length ≤ 1048576) : Ev (fun k => laws_toStringS.f k l) l := by
  have hl := copy_loop ByteArray.empty (fun k s i => laws_toStringS.l0 k l s i) l (fun s hs => Ev.some_ fun k => by simp only [laws_toStringS.l0]; rw [if_neg (by omega)]) (fun i s hi hs => EvE.of fun k => by
    simp only [laws_toStringS.l0]; rw [if_pos (by omega), if_pos (by omega), if_pos (by omega), w64s hi (by omega), Int.toNat_natCast] <;> rfl) (List.replicate l.length (⟨#[]⟩:ByteArray)) (by simp)
  refine Ev.congr (fun k => ?_) hl
  simp only [laws_toStringS.f, Int.toNat_natCast]
  rw [if_pos (by omega), if_pos (by omega)]
theorem laws_eqStringS_ev (l : List ByteArray) (h : l.length ≤ 9223372036854775807) : Ev (fun k => laws_eqStringS.f k l l) true := by
  refine Ev.congr (fun k => ?_) (all_loop (fun k i => laws_eqStringS.l0 k l l i) l.length (Ev.some_ fun k => by simp only [laws_eqStringS.l0]; rw [if_neg (by omega)]) (fun i hi => EvE.of fun k => by
    simp only [laws_eqStringS.l0]; rw [if_pos (by omega), if_pos (by omega), if_pos (by omega), if_pos trivial, w64s hi h]))
  simp only [laws_eqStringS.f]; rw [if_pos trivial]
theorem laws_eqIntS_ev (l : List Int) (h : l.length ≤ 9223372036854775807) : Ev (fun k => laws_eqIntS.f k l l) true := by
  refine Ev.congr (fun k => ?_) (all_loop (fun k i => laws_eqIntS.l0 k l l i) l.length (Ev.some_ fun k => by simp only [laws_eqIntS.l0]; rw [if_neg (by omega)]) (fun i hi => EvE.of fun k => by
    simp only [laws_eqIntS.l0]; rw [if_pos (by omega), if_pos (by omega), if_pos (by omega), if_pos trivial, w64s hi h]))
  simp only [laws_eqIntS.f]; rw [if_pos trivial]
theorem strOfNums_one (x : Int) : (strOfNums [x]).size = 1 := rfl
theorem laws_markText_l0 : ∀ (d n : Nat) (s : ByteArray), n < 10 ^ d → n ≤ 9223372036854775807 → d ≤ 30 → s.size + d ≤ 1000 → ∃ r, Ev (fun k => laws_markText.l0 k (n : Int) s) r := by
  intro d
  induction d with
  | zero =>
    intro n s hn big hd hs
    refine ⟨(⟨#[109]⟩ : ByteArray) ++ s, Ev.up (g := fun _ => some _) (EvE.of fun k => ?_) (Ev.now _)⟩
    simp only [laws_markText.l0]
    rw [if_neg (by simp at hn; omega), if_pos (by omega)]
  | succ d ih =>
    intro n s hn big hd hs
    by_cases c : n = 0
    · refine ⟨(⟨#[109]⟩ : ByteArray) ++ s, Ev.up (g := fun _ => some _) (EvE.of fun k => ?_) (Ev.now _)⟩
      simp only [laws_markText.l0]
      rw [if_neg (by omega), if_pos (by omega)]
    · obtain ⟨r, hr⟩ := ih (n / 10) (strOfNums [((48 + n % 10 : Nat) : Int)] ++ s) (by rw [Nat.pow_succ] at hn; omega) (by omega) (by omega) (by rw [ByteArray.size_append, strOfNums_one]; omega)
      refine ⟨r, Ev.up (EvE.of fun k => ?_) hr⟩
      have e1 : wrap64 (Int.tdiv (n : Int) 10) = ((n / 10 : Nat) : Int) := by rw [Int.tdiv_eq_ediv_of_nonneg (by omega), w64 (by omega) (by omega)]; omega
      have e2 : wrap64 (48 + (Int.tmod (n : Int) 10)) % 256 = ((48 + n % 10 : Nat) : Int) := by rw [Int.tmod_eq_emod_of_nonneg (by omega), w64 (by omega) (by omega)]; omega
      simp only [laws_markText.l0, e1, e2]
      rw [if_pos (by omega), Option.bind_some, if_pos (by rw [strOfNums_one]; omega)]
theorem laws_markText_ev (n : Int) (hn : n ≤ 4294967295) : ∃ r, Ev (fun k => laws_markText.f k n) r := by
  by_cases c : n ≤ 0
  · exact ⟨_, Ev.some_ fun k => by simp only [laws_markText.f]; rw [if_pos c]⟩
  · obtain ⟨r, h⟩ := laws_markText_l0 10 n.toNat (⟨#[]⟩ : ByteArray) (by omega) (by omega) (by omega) (by show 0 + 10 ≤ 1000; omega)
    rw [Int.toNat_of_nonneg (by omega)] at h
    exact ⟨r, Ev.ofE (EvE.of fun k => by simp only [laws_markText.f]; rw [if_neg c]) h⟩
theorem laws_markStringS1_ev (l : List ByteArray) (n : Int) (h0 : 0 ≤ n) (h : n + (l.length : Int) ≤ 4294967295) : ∃ M : List ByteArray, M.length = l.length ∧ Ev (fun k => laws_markStringS.f k l n) (n + (l.length : Int), M) := by
  obtain ⟨r, hp, hr⟩ := Ev.scanX (fun k (s : Int × List ByteArray) i => laws_markStringS.l0 k s.2 s.1 i) l.length (fun i s => s.1 = n + (i : Int) ∧ s.2.length = l.length) (fun r => r.1 = n + (l.length : Int) ∧ r.2.length = l.length)
    (fun s hs => ⟨s, hs, Ev.some_ fun k => by simp only [laws_markStringS.l0]; rw [if_neg (by omega)]⟩)
    (fun i s hi hs => by
      obtain ⟨t, ht⟩ := laws_markText_ev s.1 (by omega)
      refine .inr ⟨(s.1 + 1, s.2.set i t), ⟨by simp only; omega, by simpa using hs.2⟩, (evP ht).eve fun k e => ?_⟩
      simp only [laws_markStringS.l0, e, Option.bind_some]
      rw [if_pos (by omega), if_pos (by omega), w64s hi (by omega), w64 (by omega) (by omega), Int.toNat_natCast]) 0 (n, l) (Nat.zero_le _) ⟨by simp, rfl⟩
  obtain ⟨a, b⟩ := r
  obtain ⟨rfl, hb⟩ := hp
  exact ⟨b, hb, hr⟩
theorem laws_markIntS_ev (l : List Int) (n : Int) (h0 : 0 ≤ n) (h : n + (l.length : Int) ≤ 4294967295) : ∃ M : List Int, M.length = l.length ∧ Ev (fun k => laws_markIntS.f k l n) (n + (l.length : Int), M) ∧ Ev (fun k => laws_heldIntS.f k M n) (n + (l.length : Int)) := by
  refine ⟨(List.range l.length).map fun i : Nat => n + (i : Int), by simp, ?_, ?_⟩
  · have key := Ev.scan (fun k (s : Int × List Int) i => laws_markIntS.l0 k s.2 s.1 i) l.length (fun i s => s.1 = n + (i : Int) ∧ s.2.length = l.length) (fun i s => (n + (l.length : Int), s.2.take i ++ ((List.range l.length).drop i).map fun i : Nat => n + (i : Int)))
      (fun s hs => Ev.some_ fun k => by
        simp only [laws_markIntS.l0]; rw [if_neg (by omega), List.drop_eq_nil_of_le (by simp), List.map_nil, List.append_nil, List.take_of_length_le (by omega), hs.1])
      (fun i s hi hs => .inr ⟨(s.1 + 1, s.2.set i s.1), ⟨by simp only; omega, by simpa using hs.2⟩, by
          rw [List.drop_eq_getElem_cons (i := i) (by simpa using hi), List.map_cons, List.getElem_range, hs.1]
          simp only [Prod.mk.injEq, true_and]
          rw [List.take_add_one, List.getElem?_set_self (by omega), List.take_set_of_le (Nat.le_refl i)]
          simp, EvE.of fun k => by
          simp only [laws_markIntS.l0]
          rw [if_pos (by omega), if_pos (by omega), w64s hi (by omega), w64 (by omega) (by omega), Int.toNat_natCast]⟩) 0 (n, l) (Nat.zero_le _) ⟨by simp, rfl⟩
    simpa [laws_markIntS.f] using key
  · have key := Ev.scan (fun k (s : Int) i => laws_heldIntS.l0 k ((List.range l.length).map fun i : Nat => n + (i : Int)) s i) l.length (fun i s => s = n + (i : Int)) (fun i s => n + (l.length : Int))
      (fun s hs => Ev.some_ fun k => by simp only [laws_heldIntS.l0, List.length_map, List.length_range]; rw [if_neg (by omega), hs])
      (fun i s hi hs => .inr ⟨s + 1, by omega, rfl, EvE.of fun k => by
          simp only [laws_heldIntS.l0, List.length_map, List.length_range]
          rw [if_pos (by omega), if_pos (by omega), if_pos (by rw [rd_nat]; simp [hi, hs]), w64s hi (by omega), w64 (by omega) (by omega)]⟩) 0 n (Nat.zero_le _) (by simp)
    simpa [laws_heldIntS.f] using key
theorem spec_l12Has_ev (l : List ByteArray) (x : ByteArray) (hl : l.length ≤ 1048576) : Ev (fun k => spec_l12Has.f k l x) (hasT l x) := by
  have key := Ev.scan (fun k (_ : Unit) i => spec_l12Has.l0 k x l (l.length : Int) i) l.length (fun _ _ => True) (fun i _ => hasT (l.drop i) x)
    (fun _ _ => Ev.some_ fun k => by simp only [spec_l12Has.l0]; rw [if_neg (by omega), List.drop_eq_nil_of_le (Nat.le_refl _)]; rfl)
    (fun i _ hi _ => by
      have hd := drop_rdOf ByteArray.empty l i hi
      have hs : ∀ k, spec_l12Has.l0 (k + 1) x l (l.length : Int) (i : Int) = if rdOf ByteArray.empty l (i : Int) = x then some true else spec_l12Has.l0 k x l (l.length : Int) ((i + 1 : Nat) : Int) := fun k => by
        simp only [spec_l12Has.l0, toList_inj]; rw [if_pos (by omega), if_pos (by omega), if_pos (by omega), w64s hi (by omega)]
      rw [hd, hasT_cons]
      by_cases c : rdOf ByteArray.empty l (i : Int) = x
      · exact .inl (Ev.some_ fun k => by simp only [hs]; rw [if_pos c, decide_eq_true c]; rfl)
      · exact .inr ⟨(), trivial, by rw [decide_eq_false c]; rfl, EvE.of fun k => by simp only [hs]; rw [if_neg c]⟩) 0 () (Nat.zero_le _) trivial
  simpa [spec_l12Has.f] using key
theorem slices_Contains_ev (l : List ByteArray) (x : ByteArray) (hl : l.length ≤ 1048576) : Ev (fun k => slices_Contains_string_string.f k l x) (hasT l x) := by
  have key : ∃ r, Ev (fun k => slices_Index_string_string.f k l x) r ∧ decide (r ≥ 0) = hasT l x := by
    have key := Ev.scan (fun k (_ : Unit) i => slices_Index_string_string.l0 k l x (l.length : Int) i) l.length (fun _ _ => True) (fun i _ => if hasT (l.drop i) x then (((l.drop i).findIdx (fun y => decide (y = x)) + i : Nat) : Int) else -1)
      (fun _ _ => Ev.some_ fun k => by simp only [slices_Index_string_string.l0]; rw [if_neg (by omega), List.drop_eq_nil_of_le (Nat.le_refl _)]; rfl)
      (fun i _ hi _ => by
        have hd := drop_rdOf ByteArray.empty l i hi
        have hs : ∀ k, slices_Index_string_string.l0 (k + 1) l x (l.length : Int) (i : Int) = if rdOf ByteArray.empty l (i : Int) = x then some (i : Int) else slices_Index_string_string.l0 k l x (l.length : Int) ((i + 1 : Nat) : Int) := fun k => by
          simp only [slices_Index_string_string.l0, toList_inj]; rw [if_pos (by omega), if_pos (by omega), if_pos (by omega), w64s hi (by omega)]
          simp only [eq_comm]
        rw [hd, hasT_cons, List.findIdx_cons]
        by_cases c : rdOf ByteArray.empty l (i : Int) = x
        · exact .inl (Ev.some_ fun k => by simp only [hs]; rw [if_pos c, decide_eq_true c]; simp)
        · exact .inr ⟨(), trivial, by
            rw [decide_eq_false c]; simp only [Bool.false_or, cond_false]
            split <;> omega, EvE.of fun k => by simp only [hs]; rw [if_neg c]⟩) 0 () (Nat.zero_le _) trivial
    refine ⟨_, (by simpa [slices_Index_string_string.f] using key), ?_⟩
    cases hasT l x with
    | true => simp only [if_true]; exact decide_eq_true (by omega)
    | false => rfl
  obtain ⟨r, hr, e⟩ := key
  rw [← e]
  exact (evP hr).ev fun k e1 => by simp only [slices_Contains_string_string.f, e1, Option.bind_some]
theorem impl_Distinct_ev (l : List ByteArray) (hl : l.length ≤ 1048576) : Ev (fun k => impl_Distinct.f k l) (dist [] l) := by
  have key := Ev.scan (fun k a i => impl_Distinct.l0 k a l (l.length : Int) i) l.length (fun i a => a.length ≤ i) (fun i a => dist a (l.drop i))
    (fun a ha => Ev.some_ fun k => by simp only [impl_Distinct.l0]; rw [if_neg (by omega), List.drop_eq_nil_of_le (Nat.le_refl _)]; rfl)
    (fun i a hi ha => by
      have hd := drop_rdOf ByteArray.empty l i hi
      have hh := slices_Contains_ev a (rdOf ByteArray.empty l (i : Int)) (by omega)
      rw [hd, dist]
      cases c : hasT a (rdOf ByteArray.empty l (i : Int)) with
      | true => rw [c] at hh; exact .inr ⟨a, by omega, by simp, (evP hh).eve fun k e => by simp only [impl_Distinct.l0, e, Option.bind_some, if_true]; rw [if_pos (by omega), if_pos (by omega), if_pos (by omega), w64s hi (by omega)]⟩
      | false => rw [c] at hh; exact .inr ⟨a ++ [rdOf ByteArray.empty l (i : Int)], by simp; omega, by simp, (evP hh).eve fun k e => by simp only [impl_Distinct.l0, e, Option.bind_some, Bool.false_eq_true, if_false]; rw [if_pos (by omega), if_pos (by omega), if_pos (by omega), if_pos (by omega), w64s hi (by omega)]⟩) 0 [] (Nat.zero_le _) (by simp)
  simpa [impl_Distinct.f] using key
theorem take_rev (l : List ByteArray) (n : Nat) (h : n < l.length) : (l.take (n + 1)).reverse = rdOf ByteArray.empty l (n : Int) :: (l.take n).reverse := by
  rw [List.take_add_one, rdOf_nat, List.getD_eq_getElem?_getD, List.getElem?_eq_getElem h]; simp
theorem drop_take (l : List ByteArray) (i n : Nat) (hn : n < i) (hi : i ≤ l.length) : (l.take i).drop n = rdOf ByteArray.empty l (n : Int) :: (l.take i).drop (n + 1) := by
  have h1 : n < (l.take i).length := by rw [List.length_take]; omega
  have := drop_rdOf ByteArray.empty (l.take i) n h1
  rw [this, rdOf_nat, rdOf_nat, List.getD_eq_getElem?_getD, List.getD_eq_getElem?_getD, List.getElem?_take_of_lt hn]
theorem depths_snoc (l : List ByteArray) (i : Nat) (hi : i < l.length) : ((List.range l.length).map fun i : Nat => dGo (rdOf ByteArray.empty l (i : Int)) [] (l.take i).reverse).drop i = dGo (rdOf ByteArray.empty l (i : Int)) [] (l.take i).reverse :: ((List.range l.length).map fun i : Nat => dGo (rdOf ByteArray.empty l (i : Int)) [] (l.take i).reverse).drop (i + 1) := by
  rw [List.drop_eq_getElem_cons (by simpa using hi)]; simp
theorem spec_back (l : List ByteArray) (hl : l.length ≤ 1048576) (x3 : List Int) (h3 : x3.length ≤ 1048576) (key : ByteArray) (x12 : Int) (q : List Int) :
    ∀ (n : Nat) (acc : List ByteArray), n ≤ l.length → acc.length + n ≤ 1048576 → Ev (fun k => spec_DepthsOf.l0 k l (x3 ++ [dGo key acc (l.take n).reverse]) l (l.length : Int) (wrap64 (x12 + 1))) q → Ev (fun k => spec_DepthsOf.l1 k l x3 key (dist [] acc) (-1) ((n : Int) - 1) l (l.length : Int) x12) q := by
  intro n
  induction n with
  | zero =>
    intro acc hn ha h
    refine Ev.up (EvE.of fun k => ?_) h
    simp only [spec_DepthsOf.l1]
    rw [if_neg (by omega), if_pos (by omega)]; rfl
  | succ n ih =>
    intro acc hn ha h
    have hd := dist_length [] acc
    simp only [List.length_nil] at hd
    have e1 : ((n + 1 : Nat) : Int) - 1 = (n : Int) := by omega
    have e2 : wrap64 ((n : Int) - 1) = (n : Int) - 1 := w64 (by omega) (by omega)
    rw [take_rev l n (by omega), dGo] at h
    rw [e1]
    by_cases c : rdOf ByteArray.empty l (n : Int) = key
    · rw [if_pos c] at h
      refine Ev.up (EvE.of fun k => ?_) h
      simp only [spec_DepthsOf.l1, toList_inj]
      rw [if_pos (by omega), if_pos (by omega), if_pos (by omega), if_pos c, if_pos (by omega)]
    · rw [if_neg c] at h
      have h2 := ih (acc ++ [rdOf ByteArray.empty l (n : Int)]) (by omega) (by simp; omega) h
      rw [dist_snoc] at h2
      refine Ev.up ((evP (spec_l12Has_ev (dist [] acc) (rdOf ByteArray.empty l (n : Int)) (by omega))).eve fun k e => ?_) h2
      simp only [spec_DepthsOf.l1, e, Option.bind_some, toList_inj, e2]
      rw [if_pos (by omega), if_pos (by omega), if_pos (by omega), if_neg c]
      cases hasT (dist [] acc) (rdOf ByteArray.empty l (n : Int)) with
      | true => simp only [if_true]
      | false => simp only [Bool.false_eq_true, if_false]; rw [if_pos (by omega)]
theorem spec_DepthsOf_ev (l : List ByteArray) (hl : l.length ≤ 1048576) : Ev (fun k => spec_DepthsOf.f k l) (depths l) := by
  have key := Ev.scan' (fun k a i => spec_DepthsOf.l0 k l a l (l.length : Int) i) l.length (fun i a => a.length = i) (fun i a => a ++ (depths l).drop i)
    (fun a ha => Ev.up (g := fun _ => some _) (EvE.of fun k => by simp only [spec_DepthsOf.l0]; rw [if_neg (by omega)]) (by rw [List.drop_eq_nil_of_le (by simp [depths]), List.append_nil]; exact Ev.now _))
    (fun i a hi ha => .inr ⟨a ++ [dGo (rdOf ByteArray.empty l (i : Int)) [] (l.take i).reverse], by simp [ha], by unfold depths; rw [depths_snoc l i hi]; simp, fun q hq => by
      have h2 := spec_back l (by omega) a (by omega) (rdOf ByteArray.empty l (i : Int)) (i : Int) q i [] (by omega) (by simp; omega) (by rw [w64s hi (by omega)]; exact hq)
      refine Ev.up (EvE.of fun k => ?_) h2
      simp only [spec_DepthsOf.l0]
      rw [if_pos (by omega), if_pos (by omega), if_pos (by omega), w64 (by omega) (by omega)]; rfl⟩) 0 [] (Nat.zero_le _) rfl
  simpa [spec_DepthsOf.f] using key
theorem impl_back (l : List ByteArray) (hl : l.length ≤ 1048576) (x3 : List Int) (h3 : x3.length ≤ 1048576) (key : ByteArray) (i : Nat) (hi : i ≤ l.length) (x11 : Int) (q : List Int) :
    ∀ (n : Nat) (acc : List ByteArray), n ≤ i → acc.reverse = (l.take i).drop n → Ev (fun k => impl_DepthsOf.l0 k l (x3 ++ [dGo key acc (l.take n).reverse]) l (l.length : Int) (wrap64 (x11 + 1))) q → Ev (fun k => impl_DepthsOf.l1 k l x3 (i : Int) key (-1) ((n : Int) - 1) l (l.length : Int) x11) q := by
  intro n
  induction n with
  | zero =>
    intro acc hn ha h
    refine Ev.up (EvE.of fun k => ?_) h
    simp only [impl_DepthsOf.l1]
    rw [if_neg (by omega), if_pos (by omega)]; rfl
  | succ n ih =>
    intro acc hn ha h
    have e1 : ((n + 1 : Nat) : Int) - 1 = (n : Int) := by omega
    have e2 : wrap64 ((n : Int) - 1) = (n : Int) - 1 := w64 (by omega) (by omega)
    have e3 : wrap64 ((n : Int) + 1) = ((n + 1 : Nat) : Int) := by rw [w64 (by omega) (by omega)]; omega
    rw [take_rev l n (by omega), dGo] at h
    rw [e1]
    by_cases c : rdOf ByteArray.empty l (n : Int) = key
    · rw [if_pos c] at h
      have hlen : ((l.take i).drop (n + 1)).length ≤ 1048576 := by rw [List.length_drop, List.length_take]; omega
      have hdd : (dist [] ((l.take i).drop (n + 1))).length = (dist [] acc).length := by rw [← ha, dist_reverse]
      refine Ev.up ((evP (impl_Distinct_ev ((l.take i).drop (n + 1)) hlen)).eve fun k e => ?_) h
      simp only [impl_DepthsOf.l1, toList_inj, e3, Int.toNat_natCast]
      rw [if_pos (by omega), if_pos (by omega), if_pos (by omega), if_pos c, if_pos (by omega), if_pos (by omega), if_pos (by omega)]
      simp only [e, Option.bind_some]
      rw [if_pos (by omega), hdd]
    · rw [if_neg c] at h
      have h2 := ih (acc ++ [rdOf ByteArray.empty l (n : Int)]) (by omega) (by rw [List.reverse_append, ha, drop_take l i n (by omega) hi]; rfl) h
      refine Ev.up (EvE.of fun k => ?_) h2
      simp only [impl_DepthsOf.l1, toList_inj, e2]
      rw [if_pos (by omega), if_pos (by omega), if_pos (by omega), if_neg c]
theorem impl_DepthsOf_ev (l : List ByteArray) (hl : l.length ≤ 1048576) : Ev (fun k => impl_DepthsOf.f k l) (depths l) := by
  have key := Ev.scan' (fun k a i => impl_DepthsOf.l0 k l a l (l.length : Int) i) l.length (fun i a => a.length = i) (fun i a => a ++ (depths l).drop i)
    (fun a ha => Ev.up (g := fun _ => some _) (EvE.of fun k => by simp only [impl_DepthsOf.l0]; rw [if_neg (by omega)]) (by rw [List.drop_eq_nil_of_le (by simp [depths]), List.append_nil]; exact Ev.now _))
    (fun i a hi ha => .inr ⟨a ++ [dGo (rdOf ByteArray.empty l (i : Int)) [] (l.take i).reverse], by simp [ha], by unfold depths; rw [depths_snoc l i hi]; simp, fun q hq => by
      have h2 := impl_back l (by omega) a (by omega) (rdOf ByteArray.empty l (i : Int)) i (by omega) (i : Int) q i [] (by omega) (by rw [List.reverse_nil, List.drop_eq_nil_of_le (by rw [List.length_take]; omega)]) (by rw [w64s hi (by omega)]; exact hq)
      refine Ev.up (EvE.of fun k => ?_) h2
      simp only [impl_DepthsOf.l0]
      rw [if_pos (by omega), if_pos (by omega), if_pos (by omega), w64 (by omega) (by omega)]⟩) 0 [] (Nat.zero_le _) rfl
  simpa [impl_DepthsOf.f] using key
def missesAt (l : List Int) (cap : Int) : Nat := l.countP fun d => decide (d < 0) || decide (d ≥ cap)
theorem spec_MissesAt_ev (l : List Int) (cap : Int) (h : l.length ≤ 1048576) : Ev (fun k => spec_MissesAt.f k l cap) (missesAt l cap : Int) := by
  have key := Ev.scan (fun k n i => spec_MissesAt.l0 k cap n l (l.length : Int) i) l.length (fun i n => 0 ≤ n ∧ n ≤ (i : Int)) (fun i n => n + (missesAt (l.drop i) cap : Int))
    (fun n hn => Ev.some_ fun k => by simp only [spec_MissesAt.l0]; rw [if_neg (by omega), List.drop_eq_nil_of_le (Nat.le_refl _)]; simp [missesAt])
    (fun i n hi hn => by
      have hd := drop_rd l i hi
      have hw : wrap64 (n + 1) = n + 1 := w64 (by omega) (by omega)
      have hl : ∀ k, spec_MissesAt.l0 (k + 1) cap n l (l.length : Int) (i : Int) = if rd l (i : Int) < 0 then spec_MissesAt.l0 k cap (n + 1) l (l.length : Int) ((i + 1 : Nat) : Int) else if rd l (i : Int) ≥ cap then spec_MissesAt.l0 k cap (n + 1) l (l.length : Int) ((i + 1 : Nat) : Int) else spec_MissesAt.l0 k cap n l (l.length : Int) ((i + 1 : Nat) : Int) := fun k => by
        simp only [spec_MissesAt.l0]; rw [if_pos (by omega), if_pos (by omega), if_pos (by omega), w64s hi (by omega), hw]
      rw [hd]
      by_cases c1 : rd l (i : Int) < 0
      · exact .inr ⟨n + 1, by omega, by simp [missesAt, c1]; try omega, EvE.of fun k => by simp only [hl]; rw [if_pos c1]⟩
      · by_cases c2 : rd l (i : Int) ≥ cap
        · exact .inr ⟨n + 1, by omega, by simp [missesAt, c2]; try omega, EvE.of fun k => by simp only [hl]; rw [if_neg c1, if_pos c2]⟩
        · exact .inr ⟨n, by omega, by simp [missesAt, c1, c2], EvE.of fun k => by simp only [hl]; rw [if_neg c1, if_neg c2]⟩) 0 0 (Nat.zero_le _) (by omega)
  simpa [spec_MissesAt.f] using key
theorem impl_MissesAt_ev (l : List Int) (cap : Int) (h : l.length ≤ 1048576) : Ev (fun k => impl_MissesAt.f k l cap) (missesAt l cap : Int) := by
  have key := Ev.scan (fun k n i => impl_MissesAt.l0 k cap n l (l.length : Int) i) l.length (fun i n => 0 ≤ n ∧ n ≤ (i : Int)) (fun i n => n + (missesAt (l.drop i) cap : Int))
    (fun n hn => Ev.some_ fun k => by simp only [impl_MissesAt.l0]; rw [if_neg (by omega), List.drop_eq_nil_of_le (Nat.le_refl _)]; simp [missesAt])
    (fun i n hi hn => by
      have hd := drop_rd l i hi
      have hw : wrap64 (n + 1) = n + 1 := w64 (by omega) (by omega)
      have hl : ∀ k, impl_MissesAt.l0 (k + 1) cap n l (l.length : Int) (i : Int) = if rd l (i : Int) < 0 then impl_MissesAt.l0 k cap (n + 1) l (l.length : Int) ((i + 1 : Nat) : Int) else if rd l (i : Int) ≥ cap then impl_MissesAt.l0 k cap (n + 1) l (l.length : Int) ((i + 1 : Nat) : Int) else impl_MissesAt.l0 k cap n l (l.length : Int) ((i + 1 : Nat) : Int) := fun k => by
        simp only [impl_MissesAt.l0]; rw [if_pos (by omega), if_pos (by omega), if_pos (by omega), w64s hi (by omega), hw]
      rw [hd]
      by_cases c1 : rd l (i : Int) < 0
      · exact .inr ⟨n + 1, by omega, by simp [missesAt, c1]; try omega, EvE.of fun k => by simp only [hl]; rw [if_pos c1]⟩
      · by_cases c2 : rd l (i : Int) ≥ cap
        · exact .inr ⟨n + 1, by omega, by simp [missesAt, c2]; try omega, EvE.of fun k => by simp only [hl]; rw [if_neg c1, if_pos c2]⟩
        · exact .inr ⟨n, by omega, by simp [missesAt, c1, c2], EvE.of fun k => by simp only [hl]; rw [if_neg c1, if_neg c2]⟩) 0 0 (Nat.zero_le _) (by omega)
  simpa [impl_MissesAt.f] using key
theorem spec_Curve_l0 (D : List Int) (hD : D.length ≤ 1048576) (m : Int) (h1 : 1 ≤ m) (h2 : m ≤ 60) :
    Ev (fun k => spec_Curve.l0 k m [] D 1) ((List.range m.toNat).map fun c : Nat => (missesAt D ((c : Int) + 1) : Int)) := by
  have key := Ev.scan' (fun k a i => spec_Curve.l0 k m a D (i + 1)) m.toNat (fun i a => a.length = i) (fun i a => a ++ ((List.range m.toNat).drop i).map fun c : Nat => (missesAt D ((c : Int) + 1) : Int))
    (fun a ha => Ev.up (g := fun _ => some _) (EvE.of fun k => by simp only [spec_Curve.l0]; rw [if_neg (by omega)]) (by rw [List.drop_eq_nil_of_le (by simp), List.map_nil, List.append_nil]; exact Ev.now _))
    (fun i a hi ha => .inr ⟨a ++ [(missesAt D ((i : Int) + 1) : Int)], by simp [ha], by
        rw [List.drop_eq_getElem_cons (i := i) (by simpa using hi), List.map_cons, List.getElem_range]; simp, fun q hq => by
        refine Ev.up ((evP (spec_MissesAt_ev D ((i : Int) + 1) hD)).eve fun k e => ?_) hq
        simp only [spec_Curve.l0, e, Option.bind_some]
        rw [if_pos (by omega), if_pos (by omega), w64 (by omega) (by omega)]; rfl⟩) 0 [] (Nat.zero_le _) rfl
  simpa using key
theorem impl_Curve_l0 (D : List Int) (hD : D.length ≤ 1048576) (m : Int) (h1 : 1 ≤ m) (h2 : m ≤ 60) :
    Ev (fun k => impl_Curve.l0 k m [] D 1) ((List.range m.toNat).map fun c : Nat => (missesAt D ((c : Int) + 1) : Int)) := by
  have key := Ev.scan' (fun k a i => impl_Curve.l0 k m a D (i + 1)) m.toNat (fun i a => a.length = i) (fun i a => a ++ ((List.range m.toNat).drop i).map fun c : Nat => (missesAt D ((c : Int) + 1) : Int))
    (fun a ha => Ev.up (g := fun _ => some _) (EvE.of fun k => by simp only [impl_Curve.l0]; rw [if_neg (by omega)]) (by rw [List.drop_eq_nil_of_le (by simp), List.map_nil, List.append_nil]; exact Ev.now _))
    (fun i a hi ha => .inr ⟨a ++ [(missesAt D ((i : Int) + 1) : Int)], by simp [ha], by
        rw [List.drop_eq_getElem_cons (i := i) (by simpa using hi), List.map_cons, List.getElem_range]; simp, fun q hq => by
        refine Ev.up ((evP (impl_MissesAt_ev D ((i : Int) + 1) hD)).eve fun k e => ?_) hq
        simp only [impl_Curve.l0, e, Option.bind_some]
        rw [if_pos (by omega), if_pos (by omega), w64 (by omega) (by omega)]; rfl⟩) 0 [] (Nat.zero_le _) rfl
  simpa using key
theorem FnExactCurve : DFnExactCurve.Pure := by
  intro l m ⟨hl, hs⟩ hm
  obtain ⟨t, ht, ht0, ht1⟩ := laws_szStringS_ev l 1048576 (by omega) (by omega) hl hs
  by_cases c1 : t < 0
  · obtain ⟨k, e⟩ := (evP ht).ex
    exact ⟨k, by simp only [laws_FnExactCurve.f, e, Option.bind_some]; rw [if_pos c1]⟩
  · have hn := ht1 c1
    have hd : (depths l).length = l.length := by simp [depths]
    have hw : ∃ w : List Int, w.length ≤ 60 ∧ Ev (fun k => spec_Curve.f k l m) w ∧ Ev (fun k => impl_Curve.f k l m) w := by
      by_cases c : 1 ≤ m ∧ m ≤ 60
      · refine ⟨(List.range m.toNat).map fun c : Nat => (missesAt (depths l) ((c : Int) + 1) : Int), ?_, (evA (spec_DepthsOf_ev l (by omega)) (evP (spec_Curve_l0 (depths l) (by omega) m c.1 c.2))).ev fun k ⟨e1, e2⟩ => ?_, (evA (impl_DepthsOf_ev l (by omega)) (evP (impl_Curve_l0 (depths l) (by omega) m c.1 c.2))).ev fun k ⟨e1, e2⟩ => ?_⟩
        · simp; omega
        · simp only [spec_Curve.f, spec_l01In.f, Option.bind_some]
          rw [if_pos (by omega), Option.bind_some, if_pos (decide_eq_true (by omega)), e1, Option.bind_some, e2]
        · simp only [impl_Curve.f, impl_within.f, Option.bind_some]
          rw [if_pos (by omega), Option.bind_some, if_pos (decide_eq_true (by omega)), e1, Option.bind_some, e2]
      · refine ⟨[], by simp, Ev.some_ fun k => ?_, Ev.some_ fun k => ?_⟩
        · simp only [spec_Curve.f, spec_l01In.f, Option.bind_some]
          by_cases c4 : m ≥ 1
          · rw [if_pos c4, Option.bind_some, if_neg (by simp; omega)]
          · rw [if_neg c4, Option.bind_some, if_neg (by simp)]
        · simp only [impl_Curve.f, impl_within.f, Option.bind_some]
          by_cases c4 : m ≥ 1
          · rw [if_pos c4, Option.bind_some, if_neg (by simp; omega)]
          · rw [if_neg c4, Option.bind_some, if_neg (by simp)]
    obtain ⟨w, hwl, h1, h2⟩ := hw
    obtain ⟨M1, m1, hM1⟩ := laws_markStringS1_ev l 1 (by omega) (by omega)
    obtain ⟨M2, m2, hM2, hH2⟩ := laws_markIntS_ev w 1 (by omega) (by omega)
    have step : Ev (fun k => laws_FnExactCurve.j0 k l m w w false) true := by
      refine Ev.up (g := fun _ => some true) ((evA hM2 (evA hH2 (evA (laws_toStringS_ev l (by omega)) (evA h2 (evP (laws_eqIntS_ev w (by omega))))))).eve fun k ⟨e1, e2, e3, e4, e5⟩ => ?_) (Ev.now _)
      simp only [laws_FnExactCurve.j0, e1, e2, e3, e4, e5, Option.bind_some, Bool.false_eq_true, if_false, if_true, neg1]
    obtain ⟨k, e0, e1, e2, e3, e4, e5, e6, e7⟩ := (evA ht (evA (laws_toStringS_ev l (by omega)) (evA (laws_eqStringS_ev l (by omega)) (evA (laws_eqIntS_ev w (by omega)) (evA h1 (evA h2 (evA hM1 (evP step)))))))).ex
    exact ⟨k, by simp only [laws_FnExactCurve.f, e0, e1, e2, e3, e4, e5, e6, e7, Option.bind_some, if_true, Bool.not_true, neg1, if_false]; rw [if_neg c1]⟩
end Go.Proofs.Ytllaoamaplepmaa.Pure
