/- The program's Linear and the reference's tell the same, for all beginnings and facts. No condition. -/
import Derived.Test.YtgnjhondoidfdaaDFnExactLinear
import Derived.Test.YtgnjhondoidfdaaLm
namespace Go.Proofs.Ytgnjhondoidfdaa.Pure
open Go.RowKit Go.Proofs.Ytgnjhondoidfdaa.QFnExactLinear Go.Proofs.YtgnjhondoidfdaaW.PrintWords Go.Proofs.YtgnjhondoidfdaaW.PrintLast Go.Proofs.YtgnjhondoidfdaaW.PrintMore Go.Proofs.Ytgnjhondoidfdaa.Lm
set_option linter.unusedSimpArgs false
set_option linter.unusedVariables false
theorem laws_toIntS_ev (l : List Int) (h : l.length ≤ 1048576) : Ev (fun k => laws_toIntS.f k l) l := by
  have hl := copy_loop (0:Int) (fun k s i => laws_toIntS.l0 k l s i) l (fun s hs => Ev.some_ fun k => by simp only [laws_toIntS.l0]; rw [if_neg (by omega)]) (fun i s hi hs => EvE.of fun k => by
    simp only [laws_toIntS.l0]; rw [if_pos (by omega), if_pos (by omega), if_pos (by omega), w64s hi (by omega), Int.toNat_natCast] <;> rfl) (List.replicate l.length 0) (by simp)
  refine Ev.congr (fun k => ?_) hl
  simp only [laws_toIntS.f, Int.toNat_natCast]
  rw [if_pos (by omega), if_pos (by omega)]
theorem laws_eqIntS_ev (l : List Int) (h : l.length ≤ 9223372036854775807) : Ev (fun k => laws_eqIntS.f k l l) true := by
  refine Ev.congr (fun k => ?_) (all_loop (fun k i => laws_eqIntS.l0 k l l i) l.length (Ev.some_ fun k => by simp only [laws_eqIntS.l0]; rw [if_neg (by omega)]) (fun i hi => EvE.of fun k => by
    simp only [laws_eqIntS.l0]; rw [if_pos (by omega), if_pos (by omega), if_pos (by omega), if_pos trivial, w64s hi h]))
  simp only [laws_eqIntS.f]; rw [if_pos trivial]
theorem laws_markIntS_ev (l : List Int) (n : Int) (h0 : 0 ≤ n) (h : n + (l.length : Int) ≤ 4294967295) : ∃ M : List Int, M.length = l.length ∧ Ev (fun k => laws_markIntS.f k l n) (n + (l.length : Int), M) ∧ Ev (fun k => laws_heldIntS.f k M n) (n + (l.length : Int)) := by
  refine ⟨(List.range l.length).map fun i : Nat => n + (i : Int), by simp, ?_, ?_⟩
  · have key := Ev.scan (fun k (s : Int × List Int) i => laws_markIntS.l0 k s.2 s.1 i) l.length (fun i s => s.1 = n + (i : Int) ∧ s.2.length = l.length) (fun i s => (n + (l.length : Int), s.2.take i ++ ((List.range l.length).drop i).map fun i : Nat => n + (i : Int)))
      (fun s hs => Ev.some_ fun k => by
        simp only [laws_markIntS.l0]; rw [if_neg (by omega), List.drop_eq_nil_of_le (by simp), List.map_nil, List.append_nil, List.take_of_length_le (by omega), hs.1])
      (fun i s hi hs => .inr ⟨(s.1 + 1, s.2.set i s.1), ⟨by simp only; omega, by simpa using hs.2⟩, by
          rw [List.drop_eq_getElem_cons (i := i) (by simpa using hi), List.map_cons, List.getElem_range, hs.1]
          simp only [Prod.mk.injEq, true_and]
          rw [List.take_add_one, List.getElem?_set_self (by omega), List.take_set_of_le (Nat.le_refl i)]
          simp, EvE.of fun k => by
          simp only [laws_markIntS.l0]
          rw [if_pos (by omega), if_pos (by omega), w64s hi (by omega), w64 (by omega) (by omega), Int.toNat_natCast]⟩) 0 (n, l) (Nat.zero_le _) ⟨by simp, rfl⟩
    simpa [laws_markIntS.f] using key
  · have key := Ev.scan (fun k (s : Int) i => laws_heldIntS.l0 k ((List.range l.length).map fun i : Nat => n + (i : Int)) s i) l.length (fun i s => s = n + (i : Int)) (fun i s => n + (l.length : Int))
      (fun s hs => Ev.some_ fun k => by simp only [laws_heldIntS.l0, List.length_map, List.length_range]; rw [if_neg (by omega), hs])
      (fun i s hi hs => .inr ⟨s + 1, by omega, rfl, EvE.of fun k => by
          simp only [laws_heldIntS.l0, List.length_map, List.length_range]
          rw [if_pos (by omega), if_pos (by omega), if_pos (by rw [rd_nat]; simp [hi, hs]), w64s hi (by omega), w64 (by omega) (by omega)]⟩) 0 n (Nat.zero_le _) (by simp)
    simpa [laws_heldIntS.f] using key
def hasN (l : List Int) (x : Int) : Bool := l.any fun y => decide (y = x)
theorem hasN_cons (y : Int) (l : List Int) (x : Int) : hasN (y :: l) x = (decide (y = x) || hasN l x) := rfl
abbrev FT := S38
/-- A law's fact as the program's. -/
def cvF (x : S40) : FT := ⟨x.f0, x.f1, x.f2, x.f3, x.f4, x.f5, x.f6, x.f7⟩
theorem rd_cvF (l : List S40) (i : Nat) : rd_T40 l (i : Int) = l.getD i z40 := by unfold rd_T40; rw [Int.toNat_natCast]
theorem laws_toFactS_ev (l : List S40) (h : l.length ≤ 1048576) : Ev (fun k => laws_toFactS.f k l) (l.map cvF) := by
  have hl := map_loop cvF z40 (fun k s i => laws_toFactS.l0 k l s i) l (fun s hs => Ev.some_ fun k => by simp only [laws_toFactS.l0]; rw [if_neg (by omega)]) (fun i s hi hs => EvE.of fun k => by
    simp only [laws_toFactS.l0, laws_toFact.f, Option.bind_some, rd_cvF]; rw [if_pos (by omega), if_pos (by omega), if_pos (by omega), w64s hi (by omega), Int.toNat_natCast]; rfl) (List.replicate l.length z38) (by simp)
  refine Ev.congr (fun k => ?_) hl
  simp only [laws_toFactS.f, Int.toNat_natCast]
  rw [if_pos (by omega), if_pos (by omega)]
theorem laws_eqFactS_ev (l : List FT) (h : l.length ≤ 9223372036854775807) : Ev (fun k => laws_eqFactS.f k l l) true := by
  refine Ev.congr (fun k => ?_) (all_loop (fun k i => laws_eqFactS.l0 k l l i) l.length (Ev.some_ fun k => by simp only [laws_eqFactS.l0]; rw [if_neg (by omega)]) (fun i hi => EvE.of fun k => by
    simp only [laws_eqFactS.l0, laws_eqFact.f, if_true, Option.bind_some]; rw [if_pos (by omega), if_pos (by omega), if_pos (by omega), w64s hi h]))
  simp only [laws_eqFactS.f]; rw [if_pos trivial]
theorem laws_markFactS_ev (l : List FT) (n : Int) (h0 : 0 ≤ n) (h : n + 8 * (l.length : Int) ≤ 4294967295) : ∃ r : Int × List FT, r.1 = n + 8 * (l.length : Int) ∧ Ev (fun k => laws_markFactS.f k l n) r := by
  have hl9 : l.length ≤ 9223372036854775807 := by omega
  obtain ⟨r, hr, e⟩ := Ev.scanX (fun k (s : Int × List FT) i => laws_markFactS.l0 k s.2 s.1 i) l.length (fun i s => s.1 = n + 8 * (i : Int) ∧ s.2.length = l.length) (fun r => r.1 = n + 8 * (l.length : Int))
    (fun s hs => ⟨(s.1, s.2), hs.1, Ev.some_ fun k => by simp only [laws_markFactS.l0]; rw [if_neg (by omega)]⟩)
    (fun i s hi hs => by
      obtain ⟨m, s⟩ := s
      obtain ⟨h1, h2⟩ := hs
      simp only at h1 h2
      have w1 : wrap64 (m + 1) = m + 1 := w64 (by omega) (by omega)
      have w2 : wrap64 (m + 1 + 1) = m + 1 + 1 := w64 (by omega) (by omega)
      have w3 : wrap64 (m + 1 + 1 + 1) = m + 1 + 1 + 1 := w64 (by omega) (by omega)
      have w4 : wrap64 (m + 1 + 1 + 1 + 1) = m + 1 + 1 + 1 + 1 := w64 (by omega) (by omega)
      have w5 : wrap64 (m + 1 + 1 + 1 + 1 + 1) = m + 1 + 1 + 1 + 1 + 1 := w64 (by omega) (by omega)
      have w6 : wrap64 (m + 1 + 1 + 1 + 1 + 1 + 1) = m + 1 + 1 + 1 + 1 + 1 + 1 := w64 (by omega) (by omega)
      have w7 : wrap64 (m + 1 + 1 + 1 + 1 + 1 + 1 + 1) = m + 1 + 1 + 1 + 1 + 1 + 1 + 1 := w64 (by omega) (by omega)
      have w8 : wrap64 (m + 1 + 1 + 1 + 1 + 1 + 1 + 1 + 1) = m + 1 + 1 + 1 + 1 + 1 + 1 + 1 + 1 := w64 (by omega) (by omega)
      have g1 : (i : Int) < (s.length : Int) := by omega
      have g2 : (0 : Int) ≤ (i : Int) := by omega
      have hm : m + 1 + 1 + 1 + 1 + 1 + 1 + 1 + 1 = n + 8 * ((i + 1 : Nat) : Int) := by omega
      have hE : ∃ L : List FT, L.length = l.length ∧ ∀ k, laws_markFactS.l0 (k + 1) s m (i : Int) = laws_markFactS.l0 k L (m + 1 + 1 + 1 + 1 + 1 + 1 + 1 + 1) ((i + 1 : Nat) : Int) := by
        refine ⟨?w, ?a, fun k => ?b⟩
        case b =>
          simp only [laws_markFactS.l0, Option.bind_some, Int.toNat_natCast, w1, w2, w3, w4, w5, w6, w7, w8, w64s hi hl9, if_pos g1, if_pos g2]
          exact rfl
        case a => simp only [List.length_set]; exact h2
      obtain ⟨L, hL, hE⟩ := hE
      exact .inr ⟨(m + 1 + 1 + 1 + 1 + 1 + 1 + 1 + 1, L), ⟨hm, hL⟩, EvE.of hE⟩) 0 (n, l) (Nat.zero_le _) ⟨by simp, rfl⟩
  exact ⟨r, hr, by simpa [laws_markFactS.f] using e⟩
theorem spec_l03Has_ev (l : List Int) (x : Int) (hl : l.length ≤ 2097152) : Ev (fun k => spec_l03Has.f k l x) (hasN l x) := by
  have key := Ev.scan (fun k (_ : Unit) i => spec_l03Has.l0 k x l (l.length : Int) i) l.length (fun _ _ => True) (fun i _ => hasN (l.drop i) x)
    (fun _ _ => Ev.some_ fun k => by simp only [spec_l03Has.l0]; rw [if_neg (by omega), List.drop_eq_nil_of_le (Nat.le_refl _)]; rfl)
    (fun i _ hi _ => by
      have hd := drop_rd l i hi
      have hs : ∀ k, spec_l03Has.l0 (k + 1) x l (l.length : Int) (i : Int) = if rd l (i : Int) = x then some true else spec_l03Has.l0 k x l (l.length : Int) ((i + 1 : Nat) : Int) := fun k => by
        simp only [spec_l03Has.l0]; rw [if_pos (by omega), if_pos (by omega), if_pos (by omega), w64s hi (by omega)]
      rw [hd, hasN_cons]
      by_cases c : rd l (i : Int) = x
      · exact .inl (Ev.some_ fun k => by simp only [hs]; rw [if_pos c, decide_eq_true c]; rfl)
      · exact .inr ⟨(), trivial, by rw [decide_eq_false c]; rfl, EvE.of fun k => by simp only [hs]; rw [if_neg c]⟩) 0 () (Nat.zero_le _) trivial
  simpa [spec_l03Has.f] using key
/-- What comes of an object's step, told as a pair. -/
def tell : Option (List Int) → List Int × Bool
  | some l => (l, true)
  | none => ([], false)
def stV (x : List Int) (f : FT) : Option (List Int) :=
  if f.f1 = 1 ∧ f.f3 = 1 then some (f.f2 :: x)
  else if f.f1 = 1 ∧ f.f3 = 4 then some x
  else if f.f1 = 2 ∧ f.f3 = 1 ∧ 0 < x.length ∧ rd x 0 = f.f4 then some (x.drop 1)
  else if f.f1 = 2 ∧ f.f3 = 2 ∧ x.length = 0 then some []
  else none
def insV (a : Int) : List Int → List Int
  | [] => [a]
  | y :: t => if y < a then y :: insV a t else a :: y :: t
def liV (x : List Int) (f : FT) : Option (List Int) :=
  if f.f1 = 1 ∧ f.f3 = 1 ∧ hasN x f.f2 = false then some (insV f.f2 x)
  else if f.f1 = 2 ∧ f.f3 = 1 ∧ hasN x f.f2 = true then some (x.filter fun y => !decide (y = f.f2))
  else if (f.f1 = 3 ∧ f.f3 = 1 ∨ f.f1 = 1 ∧ f.f3 = 4) ∧ hasN x f.f2 = true then some x
  else if (f.f1 = 2 ∨ f.f1 = 3) ∧ f.f3 = 4 ∧ hasN x f.f2 = false then some x
  else none
theorem insV_len (a : Int) : ∀ x, (insV a x).length = x.length + 1
  | [] => rfl
  | y :: t => by unfold insV; split <;> simp [insV_len a t]
theorem stV_len (x : List Int) (f : FT) (r : List Int) (h : stV x f = some r) : r.length ≤ x.length + 1 := by
  unfold stV at h
  repeat' split at h
  all_goals first | (cases h; done) | (obtain rfl := Option.some.inj h; simp)
  all_goals omega
theorem liV_len (x : List Int) (f : FT) (r : List Int) (h : liV x f = some r) : r.length ≤ x.length + 1 := by
  unfold liV at h
  repeat' split at h
  all_goals first | (cases h; done) | (obtain rfl := Option.some.inj h; first | exact Nat.le_of_eq (insV_len _ _) | (have := List.length_filter_le (fun y => !decide (y = f.f2)) x; omega) | omega)
theorem impl_copy_ev (x : List Int) (hx : x.length ≤ 2097152) : impl_copyInts.f x = some x := by
  simp only [impl_copyInts.f, Option.bind_some, List.length_nil, List.nil_append]; rw [if_pos (by omega)]
theorem spec_StApply_ev (x : List Int) (f : FT) (hx : x.length ≤ 2097152) : Ev (fun k => spec_StApply.f k x f.f0 f.f1 f.f2 f.f3 f.f4 f.f5 f.f6 f.f7) (tell (stV x f)) := ⟨3, fun k hk => by
  obtain ⟨k, rfl⟩ : ∃ q, k = q + 3 := ⟨k - 3, by omega⟩
  obtain ⟨f0, f1, f2, f3, f4, f5, f6, f7⟩ := f
  have h1 : 1 + x.length < 17592186044416 := by omega
  have h2 : 0 + x.length < 17592186044416 := by omega
  have h3 : 0 + (x.length - 1) < 17592186044416 := by omega
  simp only [spec_StApply.f, spec_StApply.j0, spec_StApply.j1, spec_StApply.j2, stV, Option.bind_some, List.length_singleton, List.length_nil, List.length_drop, List.nil_append, List.singleton_append, if_pos h1, if_pos h2, if_pos h3]
  by_cases a1 : f1 = 1
  · subst a1
    by_cases b1 : f3 = 1
    · subst b1; simp [tell]
    · by_cases b4 : f3 = 4
      · subst b4; simp [tell]
      · simp [tell, b1, b4]
  · by_cases a2 : f1 = 2
    · subst a2
      by_cases b1 : f3 = 1
      · subst b1
        by_cases c : 0 < x.length
        · have c1 : 1 ≤ x.length := c
          by_cases d : rd x 0 = f4
          · have c2 : (1 : Int) ≤ (x.length : Int) := by omega
            simp [tell, c, c2, d]
          · simp [tell, c, d]
        · simp [tell, c]
      · by_cases b2 : f3 = 2
        · subst b2
          by_cases c : x.length = 0
          · simp [tell, c]
          · have c' : ¬ x = [] := fun e => c (by rw [e]; rfl)
            simp [tell, c, c']
        · simp [tell, b1, b2]
    · simp [tell, a1, a2]⟩
theorem impl_StApply_ev (x : List Int) (f : FT) (hx : x.length ≤ 2097152) : Ev (fun k => impl_StApply.f k x f.f0 f.f1 f.f2 f.f3 f.f4 f.f5 f.f6 f.f7) (tell (stV x f)) := ⟨3, fun k hk => by
  obtain ⟨k, rfl⟩ : ∃ q, k = q + 3 := ⟨k - 3, by omega⟩
  obtain ⟨f0, f1, f2, f3, f4, f5, f6, f7⟩ := f
  have h1 : 1 + x.length < 17592186044416 := by omega
  have e1 := impl_copy_ev x hx
  have e2 := impl_copy_ev (x.drop 1) (by rw [List.length_drop]; omega)
  simp only [impl_StApply.f, impl_StApply.j0, impl_StApply.j1, impl_StApply.j2, stV, e1, e2, Option.bind_some, List.length_singleton, List.singleton_append, if_pos h1]
  by_cases a1 : f1 = 1
  · subst a1
    by_cases b1 : f3 = 1
    · subst b1; simp [tell]
    · by_cases b4 : f3 = 4
      · subst b4; simp [tell]
      · simp [tell, b1, b4]
  · by_cases a2 : f1 = 2
    · subst a2
      by_cases b1 : f3 = 1
      · subst b1
        by_cases c : 0 < x.length
        · have c1 : 1 ≤ x.length := c
          by_cases d : rd x 0 = f4
          · have c2 : (1 : Int) ≤ (x.length : Int) := by omega
            simp [tell, c, c2, d]
          · simp [tell, c, d]
        · simp [tell, c]
      · by_cases b2 : f3 = 2
        · subst b2
          by_cases c : x.length = 0
          · have c' : x = [] := List.length_eq_zero_iff.1 c
            simp [tell, c']
          · have c' : ¬ x = [] := fun e => c (by rw [e]; rfl)
            simp [tell, c, c']
        · simp [tell, b1, b2]
    · simp [tell, a1, a2]⟩
theorem index_ev (l : List Int) (x : Int) (hl : l.length ≤ 2097152) : ∃ r : Int, Ev (fun k => slices_Index_int_int.f k l x) r ∧ decide (r ≥ 0) = hasN l x ∧ decide (r < 0) = !hasN l x := by
  have key := Ev.scan (fun k (_ : Unit) i => slices_Index_int_int.l0 k l x (l.length : Int) i) l.length (fun _ _ => True) (fun i _ => if hasN (l.drop i) x then (((l.drop i).findIdx (fun y => decide (y = x)) + i : Nat) : Int) else -1)
    (fun _ _ => Ev.some_ fun k => by simp only [slices_Index_int_int.l0]; rw [if_neg (by omega), List.drop_eq_nil_of_le (Nat.le_refl _)]; rfl)
    (fun i _ hi _ => by
      have hd := drop_rd l i hi
      have hs : ∀ k, slices_Index_int_int.l0 (k + 1) l x (l.length : Int) (i : Int) = if rd l (i : Int) = x then some (i : Int) else slices_Index_int_int.l0 k l x (l.length : Int) ((i + 1 : Nat) : Int) := fun k => by
        simp only [slices_Index_int_int.l0]; rw [if_pos (by omega), if_pos (by omega), if_pos (by omega), w64s hi (by omega)]
        simp only [eq_comm]
      rw [hd, hasN_cons, List.findIdx_cons]
      by_cases c : rd l (i : Int) = x
      · exact .inl (Ev.some_ fun k => by simp only [hs]; rw [if_pos c, decide_eq_true c]; simp)
      · exact .inr ⟨(), trivial, by
          rw [decide_eq_false c]; simp only [Bool.false_or, cond_false]
          split <;> omega, EvE.of fun k => by simp only [hs]; rw [if_neg c]⟩) 0 () (Nat.zero_le _) trivial
  refine ⟨_, (by simpa [slices_Index_int_int.f] using key), ?_⟩
  cases hasN l x with
  | true => simp only [if_true]; exact ⟨decide_eq_true (by omega), decide_eq_false (by omega)⟩
  | false => exact ⟨rfl, rfl⟩
theorem insert_ev (x : List Int) (a : Int) (i : Nat) (hi : i ≤ x.length) (hx : x.length ≤ 2097152) : slices_Insert_int_int.f x (i : Int) [a] = some (x.take i ++ a :: x.drop i) := by
  simp only [slices_Insert_int_int.f, List.length_singleton]
  rw [if_pos ⟨by omega, by omega, by omega, by omega⟩, Int.toNat_natCast, List.append_assoc]; rfl
theorem impl_insert_ev (x : List Int) (f0 f1 a f3 f4 f5 f6 f7 : Int) (hx : x.length ≤ 2097152) : Ev (fun k => impl_LiApply.l0 k x 0 f0 f1 a f3 f4 f5 f6 f7) (insV a x, true) := by
  have key := Ev.scan (fun k (_ : Unit) i => impl_LiApply.l0 k x i f0 f1 a f3 f4 f5 f6 f7) x.length (fun _ _ => True) (fun i _ => (x.take i ++ insV a (x.drop i), true))
    (fun _ _ => Ev.some_ fun k => by
      simp only [impl_LiApply.l0]
      rw [if_neg (by omega), insert_ev x a x.length (Nat.le_refl _) hx, Option.bind_some, List.drop_eq_nil_of_le (Nat.le_refl _)]; rfl)
    (fun i _ hi _ => by
      have hd := drop_rd x i hi
      have ht : x.take (i + 1) = x.take i ++ [rd x (i : Int)] := by
        rw [List.take_succ_eq_append_getElem hi, rd_nat, List.getD_eq_getElem?_getD, List.getElem?_eq_getElem hi]; rfl
      by_cases c : rd x (i : Int) < a
      · refine .inr ⟨(), trivial, ?_, EvE.of fun k => ?_⟩
        · rw [ht, hd]; simp only [insV]; rw [if_pos c]; simp
        · simp only [impl_LiApply.l0]; rw [if_pos (by omega), if_pos (by omega), if_pos c, w64s hi (by omega)]
      · refine .inl (Ev.some_ fun k => ?_)
        simp only [impl_LiApply.l0]
        rw [if_pos (by omega), if_pos (by omega), if_neg c, insert_ev x a i (by omega) hx, Option.bind_some, hd]
        simp only [insV]; rw [if_neg c]) 0 () (Nat.zero_le _) trivial
  simpa using key
def insW (a : Int) : List Int → List Int
  | [] => [a]
  | y :: t => if a < y then a :: y :: t else y :: insW a t
theorem insW_eq (a : Int) : ∀ x, hasN x a = false → insW a x = insV a x
  | [], _ => rfl
  | y :: t, h => by
    rw [hasN_cons, Bool.or_eq_false_iff] at h
    have hy : ¬ y = a := of_decide_eq_false h.1
    unfold insW insV
    by_cases c : a < y
    · rw [if_pos c, if_neg (by omega)]
    · rw [if_neg c, if_pos (by omega), insW_eq a t h.2]
theorem spec_With_ev (x : List Int) (a : Int) (hx : x.length ≤ 2097152) : Ev (fun k => spec_l08With.f k x a) (insW a x) := by
  have key := Ev.scan (fun k (s : List Int × Bool) i => spec_l08With.l0 k a s.1 s.2 x (x.length : Int) i) x.length (fun i s => s.1.length ≤ i + s.2.toNat) (fun i s => if s.2 then s.1 ++ x.drop i else s.1 ++ insW a (x.drop i))
    (fun s hs => Ev.some_ fun k => by
      simp only [spec_l08With.l0]
      have hb0 : s.2.toNat ≤ 1 := Bool.toNat_le s.2
      rw [if_neg (by omega), List.drop_eq_nil_of_le (Nat.le_refl _), if_pos (show s.1.length < 17592186044416 by omega)]
      cases s.2 <;> simp [insW])
    (fun i s hi hs => by
      obtain ⟨s, b⟩ := s
      simp only at hs
      have hd := drop_rd x i hi
      have hb0 : b.toNat ≤ 1 := Bool.toNat_le b
      have hb : s.length < 17592186044416 := by omega
      have hb2 : (s ++ [a]).length < 17592186044416 := by rw [List.length_append, List.length_singleton]; omega
      cases b with
      | true =>
        refine .inr ⟨(s ++ [rd x (i : Int)], true), by simp; simp at hs; omega, by rw [hd]; simp, EvE.of fun k => ?_⟩
        simp only [spec_l08With.l0]; rw [if_pos (by omega), if_pos (by omega), if_pos (by omega), w64s hi (by omega)]
        simp only [if_true, if_pos hb]
      | false =>
        by_cases c : a < rd x (i : Int)
        · refine .inr ⟨((s ++ [a]) ++ [rd x (i : Int)], true), by simp; simp at hs; omega, by rw [hd]; simp [insW, c], EvE.of fun k => ?_⟩
          simp only [spec_l08With.l0]; rw [if_pos (by omega), if_pos (by omega), if_pos (by omega), w64s hi (by omega)]
          simp only [Bool.false_eq_true, if_false, if_pos c, if_pos hb, Option.bind_some, if_pos hb2]
        · refine .inr ⟨(s ++ [rd x (i : Int)], false), by simp; simp at hs; omega, by rw [hd]; simp [insW, c], EvE.of fun k => ?_⟩
          simp only [spec_l08With.l0]; rw [if_pos (by omega), if_pos (by omega), if_pos (by omega), w64s hi (by omega)]
          simp only [Bool.false_eq_true, if_false, if_neg c, if_pos hb]) 0 ([], false) (Nat.zero_le _) (by simp)
  simpa [spec_l08With.f] using key
theorem spec_But_ev (x : List Int) (a : Int) (hx : x.length ≤ 2097152) : Ev (fun k => spec_l08But.f k x a) (x.filter fun y => !decide (y = a)) := by
  have key := Ev.scan (fun k (s : List Int) i => spec_l08But.l0 k a s x (x.length : Int) i) x.length (fun i s => s.length ≤ i) (fun i s => s ++ (x.drop i).filter fun y => !decide (y = a))
    (fun s _ => Ev.some_ fun k => by
      simp only [spec_l08But.l0]; rw [if_neg (by omega), List.drop_eq_nil_of_le (Nat.le_refl _)]; simp)
    (fun i s hi hs => by
      have hd := drop_rd x i hi
      have hb : s.length < 17592186044416 := by omega
      by_cases c : rd x (i : Int) = a
      · refine .inr ⟨s, by omega, by rw [hd, List.filter_cons_of_neg (by simpa using c)], EvE.of fun k => ?_⟩
        simp only [spec_l08But.l0]; rw [if_pos (by omega), if_pos (by omega), if_pos (by omega), w64s hi (by omega), if_pos c]
      · refine .inr ⟨s ++ [rd x (i : Int)], by simp; omega, by rw [hd, List.filter_cons_of_pos (by simpa using c)]; simp, EvE.of fun k => ?_⟩
        simp only [spec_l08But.l0]; rw [if_pos (by omega), if_pos (by omega), if_pos (by omega), w64s hi (by omega), if_neg c, if_pos hb]) 0 [] (Nat.zero_le _) (Nat.le_refl _)
  simpa [spec_l08But.f] using key
theorem spec_LiApply_ev (x : List Int) (f : FT) (hx : x.length ≤ 2097152) : Ev (fun k => spec_LiApply.f k x f.f0 f.f1 f.f2 f.f3 f.f4 f.f5 f.f6 f.f7) (tell (liV x f)) := by
  obtain ⟨f0, f1, a, f3, f4, f5, f6, f7⟩ := f
  have h0 := spec_l03Has_ev x a hx
  have h1 : 0 + x.length < 17592186044416 := by omega
  have hj : EvE (fun k => spec_LiApply.f k x f0 f1 a f3 f4 f5 f6 f7) (fun k => if f1 = 1 then (if f3 = 1 then spec_LiApply.j0 k x (hasN x a) x (!hasN x a) f0 f1 a f3 f4 f5 f6 f7 else spec_LiApply.j0 k x (hasN x a) x false f0 f1 a f3 f4 f5 f6 f7) else spec_LiApply.j0 k x (hasN x a) x false f0 f1 a f3 f4 f5 f6 f7) := (evP h0).eve fun k e => by
    simp only [spec_LiApply.f, e, Option.bind_some, List.length_nil, List.nil_append, if_pos h1]
  refine Ev.ofE hj ?_
  have hW := spec_With_ev x a (by omega)
  have hB := spec_But_ev x a (by omega)
  have hWB : EvP fun k => spec_l08With.f k x a = some (insW a x) ∧ spec_l08But.f k x a = some (x.filter fun y => !decide (y = a)) := evA hW (evP hB)
  obtain ⟨K, hK⟩ := hWB
  refine ⟨K + 4, fun k hk => ?_⟩
  obtain ⟨k, rfl⟩ : ∃ q, k = q + 4 := ⟨k - 4, by omega⟩
  have e1 := (hK (k + 3) (by omega)).1
  have e2 := (hK (k + 2) (by omega)).2
  have hI : hasN x a = false → insW a x = insV a x := insW_eq a x
  simp only [spec_LiApply.j0, spec_LiApply.j1, spec_LiApply.j2, spec_LiApply.j3, liV, e1, e2, Option.bind_some]
  generalize hasN x a = b at hI ⊢
  cases b with
  | true =>
    by_cases a1 : f1 = 1
    · subst a1
      by_cases b1 : f3 = 1
      · subst b1; simp [tell]
      · by_cases b4 : f3 = 4
        · subst b4; simp [tell]
        · simp [tell, b1, b4]
    · by_cases a2 : f1 = 2
      · subst a2
        by_cases b1 : f3 = 1
        · subst b1; simp [tell]
        · by_cases b4 : f3 = 4
          · subst b4; simp [tell]
          · simp [tell, b1, b4]
      · by_cases a3 : f1 = 3
        · subst a3
          by_cases b1 : f3 = 1
          · subst b1; simp [tell]
          · by_cases b4 : f3 = 4
            · subst b4; simp [tell]
            · simp [tell, b1, b4]
        · simp [tell, a1, a2, a3]
  | false =>
    rw [hI rfl]
    by_cases a1 : f1 = 1
    · subst a1
      by_cases b1 : f3 = 1
      · subst b1; simp [tell]
      · by_cases b4 : f3 = 4
        · subst b4; simp [tell]
        · simp [tell, b1, b4]
    · by_cases a2 : f1 = 2
      · subst a2
        by_cases b1 : f3 = 1
        · subst b1; simp [tell]
        · by_cases b4 : f3 = 4
          · subst b4; simp [tell]
          · simp [tell, b1, b4]
      · by_cases a3 : f1 = 3
        · subst a3
          by_cases b1 : f3 = 1
          · subst b1; simp [tell]
          · by_cases b4 : f3 = 4
            · subst b4; simp [tell]
            · simp [tell, b1, b4]
        · simp [tell, a1, a2, a3]
theorem has_pos (x : List Int) (a : Int) (h : hasN x a = true) : 0 < x.length := by
  cases x with
  | nil => cases h
  | cons y t => simp
theorem impl_LiApply_ev (x : List Int) (f : FT) (hx : x.length ≤ 2097152) : Ev (fun k => impl_LiApply.f k x f.f0 f.f1 f.f2 f.f3 f.f4 f.f5 f.f6 f.f7) (tell (liV x f)) := by
  obtain ⟨f0, f1, a, f3, f4, f5, f6, f7⟩ := f
  obtain ⟨r, h0, hr1, hr2⟩ := index_ev x a (by omega)
  have hj : EvE (fun k => impl_LiApply.f k x f0 f1 a f3 f4 f5 f6 f7) (fun k => if f1 = 1 then (if f3 = 1 then impl_LiApply.j0 k x r (!hasN x a) f0 f1 a f3 f4 f5 f6 f7 else impl_LiApply.j0 k x r false f0 f1 a f3 f4 f5 f6 f7) else impl_LiApply.j0 k x r false f0 f1 a f3 f4 f5 f6 f7) := (evP h0).eve fun k e => by
    simp only [impl_LiApply.f, e, impl_copy_ev x (by omega), Option.bind_some, hr2]
  refine Ev.ofE hj ?_
  obtain ⟨K, hK⟩ := impl_insert_ev x f0 f1 a f3 f4 f5 f6 f7 (by omega)
  refine ⟨K + 4, fun k hk => ?_⟩
  obtain ⟨k, rfl⟩ : ∃ q, k = q + 4 := ⟨k - 4, by omega⟩
  have e1 := hK (k + 3) (by omega)
  have hI : hasN x a = true → 0 < x.length := has_pos x a
  have hr3 : (r < 0) = ((!hasN x a) = true) := by rw [← hr2]; simp
  simp only [impl_LiApply.j0, impl_LiApply.j2, impl_LiApply.j3, impl_LiApply.j4, liV, slices_DeleteFunc_int_int.f, e1, hr1, hr3]
  generalize hasN x a = b at hI ⊢
  cases b with
  | true =>
    rw [if_pos (hI rfl), Option.bind_some]
    by_cases a1 : f1 = 1
    · subst a1
      by_cases b1 : f3 = 1
      · subst b1; simp [tell]
      · by_cases b4 : f3 = 4
        · subst b4; simp [tell]
        · simp [tell, b1, b4]
    · by_cases a2 : f1 = 2
      · subst a2
        by_cases b1 : f3 = 1
        · subst b1; simp [tell]
        · by_cases b4 : f3 = 4
          · subst b4; simp [tell]
          · simp [tell, b1, b4]
      · by_cases a3 : f1 = 3
        · subst a3
          by_cases b1 : f3 = 1
          · subst b1; simp [tell]
          · by_cases b4 : f3 = 4
            · subst b4; simp [tell]
            · simp [tell, b1, b4]
        · simp [tell, a1, a2, a3]
  | false =>
    by_cases a1 : f1 = 1
    · subst a1
      by_cases b1 : f3 = 1
      · subst b1; simp [tell]
      · by_cases b4 : f3 = 4
        · subst b4; simp [tell]
        · simp [tell, b1, b4]
    · by_cases a2 : f1 = 2
      · subst a2
        by_cases b1 : f3 = 1
        · subst b1; simp [tell]
        · by_cases b4 : f3 = 4
          · subst b4; simp [tell]
          · simp [tell, b1, b4]
      · by_cases a3 : f1 = 3
        · subst a3
          by_cases b1 : f3 = 1
          · subst b1; simp [tell]
          · by_cases b4 : f3 = 4
            · subst b4; simp [tell]
            · simp [tell, b1, b4]
        · simp [tell, a1, a2, a3]
/-- The facts that aren't used, in their order. -/
def lf : List FT → List Bool → List FT
  | x :: l, b :: u => if b then lf l u else x :: lf l u
  | _, _ => []
theorem lf_append : ∀ (a : List FT) (u : List Bool) (b : List FT) (v : List Bool), a.length = u.length → lf (a ++ b) (u ++ v) = lf a u ++ lf b v
  | [], [], _, _, _ => rfl
  | x :: a, c :: u, b, v, h => by
    have ih := lf_append a u b v (by simpa using h)
    simp only [List.cons_append, lf]
    cases c <;> simp [ih]
theorem lf_len : ∀ (l : List FT) (u : List Bool), (lf l u).length ≤ l.length
  | [], _ => by simp [lf]
  | _ :: _, [] => by simp [lf]
  | x :: l, b :: u => by
    have := lf_len l u
    unfold lf
    cases b <;> simp <;> omega
theorem lf_none : ∀ (l : List FT), lf l (List.replicate l.length false) = l
  | [] => rfl
  | x :: l => by rw [List.length_cons, List.replicate_succ]; simp [lf, lf_none l]
abbrev atF (l : List FT) (i : Nat) : FT := rd_T38 l (i : Int)
theorem atF_get (l : List FT) (i : Nat) (h : i < l.length) : atF l i = l[i] := by
  unfold atF rd_T38; rw [Int.toNat_natCast]; simp [h]
theorem lf_at (l : List FT) (u : List Bool) (h : u.length = l.length) (i : Nat) (hi : i < l.length) : lf (l.drop i) (u.drop i) = if rdOf false u (i : Int) then lf (l.drop (i + 1)) (u.drop (i + 1)) else atF l i :: lf (l.drop (i + 1)) (u.drop (i + 1)) := by
  rw [atF_get l i hi, List.drop_eq_getElem_cons hi, drop_rdOf false u i (by omega)]; rfl
theorem lf_upto (l : List FT) (u : List Bool) (h : u.length = l.length) (i : Nat) (hi : i < l.length) : lf (l.take (i + 1)) (u.take (i + 1)) = if rdOf false u (i : Int) then lf (l.take i) (u.take i) else lf (l.take i) (u.take i) ++ [atF l i] := by
  have hu : i < u.length := by omega
  have e : rdOf false u (i : Int) = u[i] := by rw [rdOf_nat]; simp [hu]
  rw [atF_get l i hi, e, List.take_succ_eq_append_getElem hi, List.take_succ_eq_append_getElem hu, lf_append _ _ _ _ (by simp; omega)]
  cases u[i] <;> simp [lf]
theorem lf_set (l : List FT) (u : List Bool) (h : u.length = l.length) (i : Nat) (hi : i < l.length) : lf l (u.set i true) = lf (l.take i) (u.take i) ++ lf (l.drop (i + 1)) (u.drop (i + 1)) := by
  have hu : i < u.length := by omega
  have e : u.set i true = u.take i ++ true :: u.drop (i + 1) := List.set_eq_take_append_cons_drop.trans (if_pos hu)
  calc lf l (u.set i true) = lf (l.take i ++ l[i] :: l.drop (i + 1)) (u.take i ++ true :: u.drop (i + 1)) := by rw [← e, ← List.drop_eq_getElem_cons hi, List.take_append_drop]
    _ = _ := by rw [lf_append _ _ _ _ (by simp; omega)]; rfl
/-- Goes through facts; what stands ahead of one and behind it are the others. -/
def go (g : FT → List FT → Option (List Int)) : List FT → List FT → Option (List Int)
  | _, [] => none
  | p, x :: r => match g x (p ++ r) with
    | some o => some o
    | none => go g (p ++ [x]) r
def blocked (x : FT) (o : List FT) : Bool := o.any fun y => decide (y.f7 < x.f6)
/-- The first order of facts that an object answers to: what is there in the end. -/
def sk (ap : List Int → FT → Option (List Int)) : Nat → List Int → List FT → Option (List Int)
  | 0, x, _ => some x
  | n + 1, x, l => go (fun f o => if blocked f o then none else (ap x f).bind fun y => sk ap n y o) [] l
def Grows (ap : List Int → FT → Option (List Int)) : Prop := ∀ x f r, ap x f = some r → r.length ≤ x.length + 1
theorem go_some (g : FT → List FT → Option (List Int)) (P : List Int → Prop) (hg : ∀ f o r, g f o = some r → P r) : ∀ l p r, go g p l = some r → P r
  | [], _, _, h => by cases h
  | x :: l, p, r, h => by
    unfold go at h
    cases e : g x (p ++ l) with
    | some o => rw [e] at h; simp only [Option.some.injEq] at h; subst h; exact hg _ _ _ e
    | none => rw [e] at h; exact go_some g P hg l _ r h
theorem sk_len (ap : List Int → FT → Option (List Int)) (ha : Grows ap) : ∀ n x l r, sk ap n x l = some r → r.length ≤ x.length + n
  | 0, x, l, r, h => by obtain rfl := Option.some.inj h; exact Nat.le_refl _
  | n + 1, x, l, r, h => by
    refine go_some _ (fun r => r.length ≤ x.length + (n + 1)) ?_ l [] r h
    intro f o r h
    split at h
    · cases h
    · cases e : ap x f with
      | none => rw [e] at h; cases h
      | some y =>
        rw [e, Option.bind_some] at h
        have h1 := ha x f y e
        have h2 := sk_len ap ha n y o r h
        show r.length ≤ x.length + (n + 1)
        omega
theorem contains_ev (o : List FT) (f : FT) (h : o.length ≤ 1048576) : impl_Fact_24.f o f.f0 f.f1 f.f2 f.f3 f.f4 f.f5 f.f6 f.f7 = some (blocked f o) := by
  simp only [impl_Fact_24.f]; rw [if_pos (by omega)]; rfl
theorem delete_ev (l : List FT) (i : Nat) (hi : i < l.length) (h : l.length ≤ 1048576) : impl_Fact_23.f l (i : Int) ((i + 1 : Nat) : Int) = some (l.take i ++ l.drop (i + 1)) := by
  simp only [impl_Fact_23.f]; rw [if_pos ⟨by omega, by omega, by omega⟩, Int.toNat_natCast, List.eraseIdx_eq_take_drop_succ]
theorem go_none (g : FT → List FT → Option (List Int)) (p : List FT) (x : FT) (r : List FT) (h : g x (p ++ r) = none) : go g p (x :: r) = go g (p ++ [x]) r := by rw [go.eq_2, h]
theorem go_hit (g : FT → List FT → Option (List Int)) (p : List FT) (x : FT) (r : List FT) (o : List Int) (h : g x (p ++ r) = some o) : go g p (x :: r) = some o := by rw [go.eq_2, h]
theorem lin_ev (ap : List Int → FT → Option (List Int)) (ha : Grows ap) (A : Nat → List Int → FT → Option (List Int × Bool)) (hA : ∀ x f, x.length ≤ 2097152 → Ev (fun k => A k x f) (tell (ap x f)))
    (F : Nat → List Int → List FT → Option (List Int × Bool)) (L : Nat → List Int → List FT → Int → Option (List Int × Bool))
    (h0 : ∀ k x l, l.length = 0 → F (k + 1) x l = some (x, true)) (h1 : ∀ k x l, ¬ l.length = 0 → F (k + 1) x l = L k x l 0)
    (hend : ∀ k x (l : List FT), L (k + 1) x l (l.length : Int) = some ([], false))
    (hstep : ∀ k x (l : List FT) (i : Nat), i < l.length → l.length ≤ 1048576 → L (k + 1) x l (i : Int) = if blocked (atF l i) (l.take i ++ l.drop (i + 1)) = true then L k x l ((i + 1 : Nat) : Int) else (A k x (atF l i)).bind fun a => if a.2 = true then (F k a.1 (l.take i ++ l.drop (i + 1))).bind fun b => if b.2 = true then some (b.1, true) else L k x l ((i + 1 : Nat) : Int) else L k x l ((i + 1 : Nat) : Int)) :
    ∀ (n : Nat) (x : List Int) (l : List FT), l.length = n → n ≤ 1048576 → x.length + n ≤ 2097152 → Ev (fun k => F k x l) (tell (sk ap n x l))
  | 0, x, l, hl, _, _ => ⟨1, fun k hk => by
    obtain ⟨k, rfl⟩ : ∃ q, k = q + 1 := ⟨k - 1, by omega⟩
    exact h0 k x l hl⟩
  | n + 1, x, l, hl, hn, hx => by
    obtain ⟨g, eg⟩ : ∃ g, g = fun (f : FT) (o : List FT) => if blocked f o then none else (ap x f).bind fun y => sk ap n y o := ⟨_, rfl⟩
    have key := Ev.scan (fun k (_ : Unit) i => L k x l i) l.length (fun _ _ => True) (fun i _ => tell (go g (l.take i) (l.drop i)))
      (fun _ _ => Ev.some_ fun k => by
        simp only [hend]; rw [List.drop_eq_nil_of_le (Nat.le_refl _)]; rfl)
      (fun i _ hi _ => by
        have hd : l.drop i = atF l i :: l.drop (i + 1) := by rw [atF_get l i hi]; exact List.drop_eq_getElem_cons hi
        have ht : l.take (i + 1) = l.take i ++ [atF l i] := by rw [atF_get l i hi]; exact List.take_succ_eq_append_getElem hi
        have hol : (l.take i ++ l.drop (i + 1)).length = n := by rw [List.length_append, List.length_take, List.length_drop]; omega
        have hs := fun k => hstep k x l i hi (by omega)
        by_cases c : blocked (atF l i) (l.take i ++ l.drop (i + 1)) = true
        · refine .inr ⟨(), trivial, ?_, EvE.of fun k => by simp only [hs]; rw [if_pos c]⟩
          rw [ht, hd, go_none g _ _ _ (by rw [eg]; exact if_pos c)]
        have e3 := hA x (atF l i) (by omega)
        cases e : ap x (atF l i) with
        | none =>
          rw [e] at e3
          refine .inr ⟨(), trivial, ?_, (evP e3).eve fun k e3 => by simp only [hs]; rw [if_neg c, e3]; rfl⟩
          rw [ht, hd, go_none g _ _ _ (by rw [eg]; show (if _ then _ else _) = _; rw [if_neg c, e]; rfl)]
        | some y =>
          rw [e] at e3
          have hy := ha x _ y e
          have e4 := lin_ev ap ha A hA F L h0 h1 hend hstep n y _ hol (by omega) (by omega)
          cases e' : sk ap n y (l.take i ++ l.drop (i + 1)) with
          | none =>
            rw [e'] at e4
            refine .inr ⟨(), trivial, ?_, (evA e3 (evP e4)).eve fun k ⟨e3, e4⟩ => by
              simp only [hs]; rw [if_neg c, e3]; simp only [tell, Option.bind_some, if_true]; rw [e4]; rfl⟩
            rw [ht, hd, go_none g _ _ _ (by rw [eg]; show (if _ then _ else _) = _; rw [if_neg c, e, Option.bind_some, e'])]
          | some o =>
            rw [e'] at e4
            refine .inl ?_
            rw [hd, go_hit g _ _ _ o (by rw [eg]; show (if _ then _ else _) = _; rw [if_neg c, e, Option.bind_some, e'])]
            exact (evA e3 (evP e4)).ev fun k ⟨e3, e4⟩ => by
              simp only [hs]; rw [if_neg c, e3]; simp only [tell, Option.bind_some, if_true]; rw [e4]; rfl) 0 () (Nat.zero_le _) trivial
    refine Ev.up (f := fun k => F k x l) (g := fun k => L k x l 0) (EvE.of fun k => h1 k x l (by omega)) ?_
    simp only [sk]; rw [← eg]; simpa using key
theorem impl_linear_ev (n : Nat) (x : List Int) (l : List FT) (hl : l.length = n) (hn : n ≤ 1048576) (hx : x.length + n ≤ 2097152) : Ev (fun k => impl_linear.f k x l 0) (tell (sk stV n x l)) :=
  lin_ev stV stV_len (fun k x f => impl_StApply.f k x f.f0 f.f1 f.f2 f.f3 f.f4 f.f5 f.f6 f.f7) (fun x f h => impl_StApply_ev x f (by omega)) (fun k x l => impl_linear.f k x l 0) (fun k x l i => impl_linear.l0 k x l 0 l (l.length : Int) i)
    (fun k x l h => by simp only [impl_linear.f]; rw [if_pos (by omega)]) (fun k x l h => by simp only [impl_linear.f]; rw [if_neg (by omega)])
    (fun k x l => by simp only [impl_linear.l0]; rw [if_neg (by omega)])
    (fun k x l i hi hb => by
      have hol : (l.take i ++ l.drop (i + 1)).length + 1 = l.length := by rw [List.length_append, List.length_take, List.length_drop]; omega
      have e1 := delete_ev l i hi hb
      have e2 := contains_ev (l.take i ++ l.drop (i + 1)) (atF l i) (by omega)
      simp only [impl_linear.l0]
      rw [if_pos (by omega), if_pos (by omega), if_pos (by omega), Option.bind_some, List.length_nil, if_pos (by omega), List.nil_append, w64s hi (by omega), e1, Option.bind_some, e2, Option.bind_some]) n x l hl hn hx
theorem impl_linearL_ev (n : Nat) (x : List Int) (l : List FT) (hl : l.length = n) (hn : n ≤ 1048576) (hx : x.length + n ≤ 2097152) : Ev (fun k => impl_linearL.f k x l 0) (tell (sk liV n x l)) :=
  lin_ev liV liV_len (fun k x f => impl_LiApply.f k x f.f0 f.f1 f.f2 f.f3 f.f4 f.f5 f.f6 f.f7) (fun x f h => impl_LiApply_ev x f (by omega)) (fun k x l => impl_linearL.f k x l 0) (fun k x l i => impl_linearL.l0 k x l 0 l (l.length : Int) i)
    (fun k x l h => by simp only [impl_linearL.f]; rw [if_pos (by omega)]) (fun k x l h => by simp only [impl_linearL.f]; rw [if_neg (by omega)])
    (fun k x l => by simp only [impl_linearL.l0]; rw [if_neg (by omega)])
    (fun k x l i hi hb => by
      have hol : (l.take i ++ l.drop (i + 1)).length + 1 = l.length := by rw [List.length_append, List.length_take, List.length_drop]; omega
      have e1 := delete_ev l i hi hb
      have e2 := contains_ev (l.take i ++ l.drop (i + 1)) (atF l i) (by omega)
      simp only [impl_linearL.l0]
      rw [if_pos (by omega), if_pos (by omega), if_pos (by omega), Option.bind_some, List.length_nil, if_pos (by omega), List.nil_append, w64s hi (by omega), e1, Option.bind_some, e2, Option.bind_some]) n x l hl hn hx
theorem rd_set (u : List Bool) (i j : Nat) (hj : j < u.length) : rdOf false (u.set i true) (j : Int) = if i = j then true else rdOf false u (j : Int) := by
  rw [rdOf_nat, rdOf_nat, List.getD_eq_getElem?_getD, List.getD_eq_getElem?_getD, List.getElem?_set]
  by_cases c : i = j
  · subst c; simp [hj]
  · simp [c]
theorem blocked_cons (x y : FT) (t : List FT) : blocked x (y :: t) = (decide (y.f7 < x.f6) || blocked x t) := rfl
theorem may_ev (l : List FT) (u : List Bool) (hu : u.length = l.length) (hl : l.length ≤ 1048576) (i : Nat) (hi : i < l.length) : Ev (fun k => spec_l08May.f k l u (i : Int)) (!rdOf false u (i : Int) && !blocked (atF l i) (lf (l.take i) (u.take i) ++ lf (l.drop (i + 1)) (u.drop (i + 1)))) := by
  rw [← lf_set l u hu i hi]
  have hu' : (u.set i true).length = l.length := by rw [List.length_set]; exact hu
  have key := Ev.scan (fun k (_ : Unit) j => spec_l08May.l0 k l u (i : Int) l (l.length : Int) j) l.length (fun _ _ => True) (fun j _ => !rdOf false u (i : Int) && !blocked (atF l i) (lf (l.drop j) ((u.set i true).drop j)))
    (fun _ _ => Ev.some_ fun k => by
      simp only [spec_l08May.l0]
      rw [if_neg (by omega), if_pos (by omega), if_pos (by omega), List.drop_eq_nil_of_le (Nat.le_refl _)]
      simp [lf, blocked])
    (fun j _ hj _ => by
      have hs : ∀ k, spec_l08May.l0 (k + 1) l u (i : Int) l (l.length : Int) (j : Int) = if rdOf false u (j : Int) = true then spec_l08May.l0 k l u (i : Int) l (l.length : Int) ((j + 1 : Nat) : Int) else if (j : Int) = (i : Int) then spec_l08May.l0 k l u (i : Int) l (l.length : Int) ((j + 1 : Nat) : Int) else if (atF l j).f7 < (atF l i).f6 then some false else spec_l08May.l0 k l u (i : Int) l (l.length : Int) ((j + 1 : Nat) : Int) := fun k => by
        simp only [spec_l08May.l0]
        rw [if_pos (by omega), if_pos (by omega), if_pos (by omega), if_pos (by omega), w64s hj (by omega), if_pos (show (0 : Int) ≤ (i : Int) by omega), if_pos (show (i : Int) < (l.length : Int) by omega)]
      have hd := lf_at l (u.set i true) hu' j hj
      rw [rd_set u i j (by omega)] at hd
      by_cases c : rdOf false u (j : Int) = true
      · refine .inr ⟨(), trivial, ?_, EvE.of fun k => by simp only [hs]; rw [if_pos c]⟩
        rw [hd, c]; simp
      by_cases d : i = j
      · refine .inr ⟨(), trivial, ?_, EvE.of fun k => by simp only [hs]; rw [if_neg c, if_pos (by omega)]⟩
        rw [hd, if_pos d, if_pos rfl]
      rw [if_neg d, if_neg c] at hd
      rw [hd, blocked_cons]
      by_cases e : (atF l j).f7 < (atF l i).f6
      · exact .inl (Ev.some_ fun k => by simp only [hs]; rw [if_neg c, if_neg (by omega), if_pos e, decide_eq_true e]; simp)
      · refine .inr ⟨(), trivial, ?_, EvE.of fun k => by simp only [hs]; rw [if_neg c, if_neg (by omega), if_neg e]⟩
        rw [decide_eq_false e, Bool.false_or]) 0 () (Nat.zero_le _) trivial
  simpa [spec_l08May.f] using key
theorem seek_ev (a : Int) (ap : List Int → FT → Option (List Int)) (ha : Grows ap) (hA : ∀ x f, x.length ≤ 2097152 → Ev (fun k => spec_l08Apply.f k a x f.f0 f.f1 f.f2 f.f3 f.f4 f.f5 f.f6 f.f7) (tell (ap x f))) :
    ∀ (n : Nat) (x : List Int) (l : List FT) (u : List Bool) (m : Nat), u.length = l.length → (lf l u).length = n → m + n = l.length → l.length ≤ 1048576 → x.length + n ≤ 2097152 → Ev (fun k => spec_l08Seek.f k a l u x (m : Int)) (tell (sk ap n x (lf l u)))
  | 0, x, l, u, m, hu, hn, hm, hl, hx => ⟨1, fun k hk => by
    obtain ⟨k, rfl⟩ : ∃ q, k = q + 1 := ⟨k - 1, by omega⟩
    simp only [spec_l08Seek.f, Option.bind_some, List.length_nil, List.nil_append]; rw [if_pos (by omega), if_pos (by omega)]; rfl⟩
  | n + 1, x, l, u, m, hu, hn, hm, hl, hx => by
    obtain ⟨g, eg⟩ : ∃ g, g = fun (f : FT) (o : List FT) => if blocked f o then none else (ap x f).bind fun y => sk ap n y o := ⟨_, rfl⟩
    have key := Ev.scan (fun k (_ : Unit) i => spec_l08Seek.l0 k a l u x (m : Int) (l.length : Int) i) l.length (fun _ _ => True) (fun i _ => tell (go g (lf (l.take i) (u.take i)) (lf (l.drop i) (u.drop i))))
      (fun _ _ => Ev.some_ fun k => by
        simp only [spec_l08Seek.l0]; rw [if_neg (by omega), List.drop_eq_nil_of_le (Nat.le_refl _)]; rfl)
      (fun i _ hi _ => by
        have hd := lf_at l u hu i hi
        have ht := lf_upto l u hu i hi
        have e1 := may_ev l u hu hl i hi
        obtain ⟨q, eq⟩ : ∃ q, q = rdOf false u (i : Int) := ⟨_, rfl⟩
        rw [← eq] at hd ht e1
        cases q with
        | true =>
          refine .inr ⟨(), trivial, by rw [ht, hd]; rfl, (evP e1).eve fun k e1 => ?_⟩
          simp only [spec_l08Seek.l0]; rw [if_pos (by omega), e1, Option.bind_some, w64s hi (by omega)]; rfl
        | false =>
          simp only [Bool.false_eq_true, if_false, Bool.not_false, Bool.true_and] at hd ht e1
          have hset := lf_set l u hu i hi
          have hol : (lf (l.take i) (u.take i) ++ lf (l.drop (i + 1)) (u.drop (i + 1))).length = n := by
            have e := lf_append (l.take i) (u.take i) (l.drop i) (u.drop i) (by rw [List.length_take, List.length_take]; omega)
            rw [List.take_append_drop, List.take_append_drop, hd] at e
            rw [e, List.length_append, List.length_cons] at hn
            rw [List.length_append]; omega
          have e3 := hA x (atF l i) (by omega)
          have hs : EvE (fun k => spec_l08Seek.l0 (k + 1) a l u x (m : Int) (l.length : Int) (i : Int)) (fun k => if blocked (atF l i) (lf (l.take i) (u.take i) ++ lf (l.drop (i + 1)) (u.drop (i + 1))) = true then spec_l08Seek.l0 k a l u x (m : Int) (l.length : Int) ((i + 1 : Nat) : Int) else if (tell (ap x (atF l i))).2 = true then (spec_l08Seek.f k a l (u.set i true) (tell (ap x (atF l i))).1 ((m + 1 : Nat) : Int)).bind fun b => if b.2 = true then some (b.1, true) else spec_l08Seek.l0 k a l u x (m : Int) (l.length : Int) ((i + 1 : Nat) : Int) else spec_l08Seek.l0 k a l u x (m : Int) (l.length : Int) ((i + 1 : Nat) : Int)) := (evA e1 (evP e3)).eve fun k ⟨e1, e3⟩ => by
            have wm : wrap64 ((m : Int) + 1) = ((m + 1 : Nat) : Int) := by unfold wrap64; omega
            have g0 : (i : Int) < (l.length : Int) := by omega
            have g1 : (0 : Int) ≤ (i : Int) := by omega
            have g2 : 0 + u.length < 140737488355328 := by omega
            have g3 : (i : Int) < (u.length : Int) := by omega
            have w2 := w64s hi (by omega)
            simp only [spec_l08Seek.l0, e1, e3, Option.bind_some, List.length_nil, List.nil_append, Int.toNat_natCast, wm, w2, if_pos g0, if_pos g1, if_pos g2, if_pos g3]
            cases blocked (atF l i) (lf (l.take i) (u.take i) ++ lf (l.drop (i + 1)) (u.drop (i + 1))) <;> rfl
          rw [ht, hd]
          by_cases c : blocked (atF l i) (lf (l.take i) (u.take i) ++ lf (l.drop (i + 1)) (u.drop (i + 1))) = true
          · refine .inr ⟨(), trivial, ?_, ?_⟩
            · rw [go_none g _ _ _ (by rw [eg]; exact if_pos c)]
            · obtain ⟨K, hs⟩ := hs
              exact ⟨K, fun k hk => (hs k hk).trans (if_pos c)⟩
          have hs' : EvE (fun k => spec_l08Seek.l0 (k + 1) a l u x (m : Int) (l.length : Int) (i : Int)) (fun k => if (tell (ap x (atF l i))).2 = true then (spec_l08Seek.f k a l (u.set i true) (tell (ap x (atF l i))).1 ((m + 1 : Nat) : Int)).bind fun b => if b.2 = true then some (b.1, true) else spec_l08Seek.l0 k a l u x (m : Int) (l.length : Int) ((i + 1 : Nat) : Int) else spec_l08Seek.l0 k a l u x (m : Int) (l.length : Int) ((i + 1 : Nat) : Int)) := by
            obtain ⟨K, hs⟩ := hs
            exact ⟨K, fun k hk => (hs k hk).trans (if_neg c)⟩
          cases e : ap x (atF l i) with
          | none =>
            rw [e] at hs'
            refine .inr ⟨(), trivial, ?_, hs'⟩
            rw [go_none g _ _ _ (by rw [eg]; show (if _ then _ else _) = _; rw [if_neg c, e]; rfl)]
          | some y =>
            rw [e] at hs'
            simp only [tell, if_true] at hs'
            have hy := ha x _ y e
            have e4 := seek_ev a ap ha hA n y l (u.set i true) (m + 1) (by rw [List.length_set]; exact hu) (by rw [hset]; exact hol) (by omega) hl (by omega)
            rw [hset] at e4
            cases e' : sk ap n y (lf (l.take i) (u.take i) ++ lf (l.drop (i + 1)) (u.drop (i + 1))) with
            | none =>
              rw [e'] at e4
              refine .inr ⟨(), trivial, ?_, ?_⟩
              · rw [go_none g _ _ _ (by rw [eg]; show (if _ then _ else _) = _; rw [if_neg c, e, Option.bind_some, e'])]
              · obtain ⟨K, hs'⟩ := hs'
                obtain ⟨K', e4⟩ := e4
                exact ⟨max K K', fun k hk => (hs' k (by omega)).trans (by simp only [e4 k (by omega)]; rfl)⟩
            | some o =>
              rw [e'] at e4
              refine .inl ?_
              rw [go_hit g _ _ _ o (by rw [eg]; show (if _ then _ else _) = _; rw [if_neg c, e, Option.bind_some, e'])]
              obtain ⟨K, hs'⟩ := hs'
              obtain ⟨K', e4⟩ := e4
              exact ⟨max K K', fun k hk => (hs' k (by omega)).trans (by simp only [e4 k (by omega)]; rfl)⟩) 0 () (Nat.zero_le _) trivial
    refine Ev.up (f := fun k => spec_l08Seek.f k a l u x (m : Int)) (g := fun k => spec_l08Seek.l0 k a l u x (m : Int) (l.length : Int) 0) (EvE.of fun k => by simp only [spec_l08Seek.f]; rw [if_neg (by omega)]) ?_
    simp only [sk]; rw [← eg]; simpa [lf] using key
theorem apply1_ev (x : List Int) (f : FT) (hx : x.length ≤ 2097152) : Ev (fun k => spec_l08Apply.f k 1 x f.f0 f.f1 f.f2 f.f3 f.f4 f.f5 f.f6 f.f7) (tell (stV x f)) :=
  (evP (spec_StApply_ev x f (by omega))).ev fun k e => by simp only [spec_l08Apply.f]; rw [if_pos trivial, e]; rfl
theorem apply3_ev (x : List Int) (f : FT) (hx : x.length ≤ 2097152) : Ev (fun k => spec_l08Apply.f k 3 x f.f0 f.f1 f.f2 f.f3 f.f4 f.f5 f.f6 f.f7) (tell (liV x f)) :=
  (evP (spec_LiApply_ev x f hx)).ev fun k e => by simp only [spec_l08Apply.f]; rw [if_neg (by decide), e]; rfl
/-- What Linear tells. -/
def linV (a : Int) (x : List Int) (l : List FT) : Option (List Int) := if l.length > 8 then none else if a = 1 then sk stV l.length x l else if a = 3 then sk liV l.length x l else none
theorem linV_len (a : Int) (x : List Int) (l : List FT) (r : List Int) (h : linV a x l = some r) : r.length ≤ x.length + 8 := by
  unfold linV at h
  split at h
  · cases h
  split at h
  · have := sk_len stV stV_len _ _ _ _ h; omega
  split at h
  · have := sk_len liV liV_len _ _ _ _ h; omega
  cases h
theorem impl_Linear_ev (a : Int) (x : List Int) (l : List FT) (hx : x.length ≤ 2097144) : Ev (fun k => impl_Linear.f k a x l) (tell (linV a x l)) := by
  unfold linV
  by_cases c : l.length > 8
  · rw [if_pos c]; exact Ev.some_ fun k => by simp only [impl_Linear.f]; rw [if_pos (by omega)]; rfl
  rw [if_neg c]
  have ec := impl_copy_ev x (by omega)
  by_cases a1 : a = 1
  · rw [if_pos a1]
    exact (evP (impl_linear_ev l.length x l rfl (by omega) (by omega))).ev fun k e => by simp only [impl_Linear.f]; rw [if_neg (by omega), if_pos a1, ec, Option.bind_some, e]; rfl
  rw [if_neg a1]
  by_cases a3 : a = 3
  · rw [if_pos a3]
    exact (evP (impl_linearL_ev l.length x l rfl (by omega) (by omega))).ev fun k e => by simp only [impl_Linear.f]; rw [if_neg (by omega), if_neg a1, if_pos a3, ec, Option.bind_some, e]; rfl
  rw [if_neg a3]
  exact Ev.some_ fun k => by simp only [impl_Linear.f]; rw [if_neg (by omega), if_neg a1, if_neg a3]; rfl
theorem spec_Linear_ev (a : Int) (x : List Int) (l : List FT) (hx : x.length ≤ 2097144) : Ev (fun k => spec_Linear.f k a x l) (tell (linV a x l)) := by
  unfold linV
  by_cases c : l.length > 8
  · rw [if_pos c]
    have c' : (l.length : Int) > 8 := by omega
    exact Ev.some_ fun k => by simp only [spec_Linear.f, if_pos c']; split <;> first | rfl | (split <;> rfl)
  rw [if_neg c]
  have c' : ¬ (l.length : Int) > 8 := by omega
  have hr : (List.replicate l.length false).length = l.length := List.length_replicate
  by_cases a1 : a = 1
  · subst a1
    rw [if_pos rfl]
    have e := seek_ev 1 stV stV_len apply1_ev l.length x l (List.replicate l.length false) 0 hr (by rw [lf_none]) (by omega) (by omega) (by omega)
    rw [lf_none] at e
    exact (evP e).ev fun k e => by
      simp only [spec_Linear.f, Int.toNat_natCast]
      rw [if_pos trivial, if_neg c', if_pos (by omega), if_pos (by omega)]
      rw [show spec_l08Seek.f k 1 l (List.replicate l.length false) x 0 = _ from e]; rfl
  rw [if_neg a1]
  by_cases a3 : a = 3
  · subst a3
    rw [if_pos rfl]
    have e := seek_ev 3 liV liV_len apply3_ev l.length x l (List.replicate l.length false) 0 hr (by rw [lf_none]) (by omega) (by omega) (by omega)
    rw [lf_none] at e
    exact (evP e).ev fun k e => by
      simp only [spec_Linear.f, Int.toNat_natCast]
      rw [if_neg a1, if_pos trivial, if_neg c', if_pos (by omega), if_pos (by omega)]
      rw [show spec_l08Seek.f k 3 l (List.replicate l.length false) x 0 = _ from e]; rfl
  rw [if_neg a3]
  exact Ev.some_ fun k => by simp only [spec_Linear.f]; rw [if_neg a1, if_neg a3]; rfl
theorem FnExactLinear : DFnExactLinear.Pure := by
  intro a x l ha ⟨hx, hxs⟩ ⟨hl, hs⟩
  unfold maxLen at hl
  by_cases c0 : (x.length : Int) > 1048576
  · exact ⟨0, by simp only [laws_FnExactLinear.f]; rw [if_pos c0]⟩
  by_cases c1 : (1048576 : Int) - (l.length : Int) < 0
  · exact ⟨0, by simp only [laws_FnExactLinear.f, laws_szFactS.f]; rw [if_neg c0, w64 (by omega) (by omega), if_pos c1, Option.bind_some, if_pos (by omega)]⟩
  have hll : l.length ≤ 1048576 := by omega
  have hsz : laws_szFactS.f l 1048576 = some (1048576 - (l.length : Int)) := by
    simp only [laws_szFactS.f]; rw [w64 (by omega) (by omega), if_neg c1]
  have tx := laws_toIntS_ev x (by omega)
  have tf := laws_toFactS_ev l hll
  have hml : (l.map cvF).length = l.length := List.length_map _
  have s1 := spec_Linear_ev a x (l.map cvF) (by omega)
  have s2 := impl_Linear_ev a x (l.map cvF) (by omega)
  have hR : (tell (linV a x (l.map cvF))).1.length ≤ 1048592 := by
    cases e : linV a x (l.map cvF) with
    | none => simp [tell]
    | some r => have := linV_len _ _ _ _ e; simp only [tell]; omega
  generalize tell (linV a x (l.map cvF)) = W at s1 s2 hR
  obtain ⟨R, o⟩ := W
  simp only at hR
  have qR := laws_eqIntS_ev R (by omega)
  have qx := laws_eqIntS_ev x (by omega)
  have qf := laws_eqFactS_ev (l.map cvF) (by omega)
  obtain ⟨M1, _, m1, _⟩ := laws_markIntS_ev x 1 (by omega) (by omega)
  obtain ⟨⟨t, L⟩, ht, m2⟩ := laws_markFactS_ev (l.map cvF) (1 + (x.length : Int)) (by omega) (by omega)
  simp only at ht
  have ht0 : ¬ t < 0 := by omega
  obtain ⟨M, hM, m, d⟩ := laws_markIntS_ev R 1 (by omega) (by omega)
  have tp : ¬ 1 + (R.length : Int) < 0 := by omega
  generalize 1 + (R.length : Int) = t1 at m d tp
  generalize 1 + (x.length : Int) = t0 at m1 m2
  have st2 : Ev (fun k => laws_FnExactLinear.j2 k M t1 false) true := by
    refine Ev.up (g := fun _ => some true) ((evP d).eve fun k e1 => ?_) (Ev.now _)
    simp only [laws_FnExactLinear.j2, Bool.false_eq_true, if_false, e1, Option.bind_some, if_true]
    rw [if_neg tp]
  have st1 : Ev (fun k => laws_FnExactLinear.j1 k a x l R o R false) true := by
    refine Ev.up (g := fun k => laws_FnExactLinear.j2 k M t1 false) ((evA m (evA d (evA tx (evA tf (evA s2 (evP qR)))))).eve fun k ⟨e1, e2, e3, e4, e5, e6⟩ => ?_) st2
    simp only [laws_FnExactLinear.j1, Bool.false_eq_true, if_false, e1, e2, e3, e4, e5, e6, Option.bind_some, if_true, bne_self_eq_false, eq_self]
    rw [if_neg tp]
  have st0 : Ev (fun k => laws_FnExactLinear.j0 k a x l R o x (l.map cvF) R o false) true := by
    refine Ev.up (g := fun k => laws_FnExactLinear.j1 k a x l R o R false) ((evA tx (evA qx (evA tf (evA qf (evA m1 (evA m2 (evP qR))))))).eve fun k ⟨e1, e2, e3, e4, e5, e6, e7⟩ => ?_) st1
    simp only [laws_FnExactLinear.j0, Bool.false_eq_true, if_false, e1, e2, e3, e4, e5, e6, e7, Option.bind_some, if_true, bne_self_eq_false, eq_self]
    rw [if_neg ht0]
  obtain ⟨k, e1, e2, e3, e4, e5, e6⟩ := (evA tx (evA tf (evA s1 (evA s2 (evA qR (evP st0)))))).ex
  have c2 : ¬ (1048576 : Int) - (l.length : Int) < 0 := c1
  exact ⟨k, by simp only [laws_FnExactLinear.f, hsz, e1, e2, e3, e4, e5, e6, Option.bind_some, if_neg c0, if_neg c2, if_true, bne_self_eq_false, eq_self]⟩
end Go.Proofs.Ytgnjhondoidfdaa.Pure
