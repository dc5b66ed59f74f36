/- The program's Loop and the reference's tell the same, for all numbers. No condition. -/
import Derived.Test.YtmebfingnfhmlaaDFnExactLoop
import Derived.Test.YtmebfingnfhmlaaLm
namespace Go.Proofs.Ytmebfingnfhmlaa.Pure
open Go.RowKit Go.Proofs.Ytmebfingnfhmlaa.QFnExactLoop Go.Proofs.YtmebfingnfhmlaaW.PrintWords Go.Proofs.YtmebfingnfhmlaaW.PrintLast Go.Proofs.YtmebfingnfhmlaaW.PrintMore Go.Proofs.Ytmebfingnfhmlaa.Lm
set_option linter.unusedSimpArgs false
set_option linter.unusedVariables false
theorem laws_eqStringS_ev (l : List ByteArray) (h : l.length ≤ 9223372036854775807) : Ev (fun k => laws_eqStringS.f k l l) true := by
  refine Ev.congr (fun k => ?_) (all_loop (fun k i => laws_eqStringS.l0 k l l i) l.length (Ev.some_ fun k => by simp only [laws_eqStringS.l0]; rw [if_neg (by omega)]) (fun i hi => EvE.of fun k => by
    simp only [laws_eqStringS.l0]; rw [if_pos (by omega), if_pos (by omega), if_pos (by omega), if_pos trivial, w64s hi h]))
  simp only [laws_eqStringS.f]; rw [if_pos trivial]
theorem strOfNums_one (x : Int) : (strOfNums [x]).size = 1 := rfl
theorem laws_markText_l0 : ∀ (d n : Nat) (s : ByteArray), n < 10 ^ d → n ≤ 9223372036854775807 → d ≤ 30 → s.size + d ≤ 1000 → ∃ r, Ev (fun k => laws_markText.l0 k (n : Int) s) r := by
  intro d
  induction d with
  | zero =>
    intro n s hn big hd hs
    refine ⟨(⟨#[109]⟩ : ByteArray) ++ s, Ev.up (g := fun _ => some _) (EvE.of fun k => ?_) (Ev.now _)⟩
    simp only [laws_markText.l0]
    rw [if_neg (by simp at hn; omega), if_pos (by omega)]
  | succ d ih =>
    intro n s hn big hd hs
    by_cases c : n = 0
    · refine ⟨(⟨#[109]⟩ : ByteArray) ++ s, Ev.up (g := fun _ => some _) (EvE.of fun k => ?_) (Ev.now _)⟩
      simp only [laws_markText.l0]
      rw [if_neg (by omega), if_pos (by omega)]
    · obtain ⟨r, hr⟩ := ih (n / 10) (strOfNums [((48 + n % 10 : Nat) : Int)] ++ s) (by rw [Nat.pow_succ] at hn; omega) (by omega) (by omega) (by rw [ByteArray.size_append, strOfNums_one]; omega)
      refine ⟨r, Ev.up (EvE.of fun k => ?_) hr⟩
      have e1 : wrap64 (Int.tdiv (n : Int) 10) = ((n / 10 : Nat) : Int) := by rw [Int.tdiv_eq_ediv_of_nonneg (by omega), w64 (by omega) (by omega)]; omega
      have e2 : wrap64 (48 + (Int.tmod (n : Int) 10)) % 256 = ((48 + n % 10 : Nat) : Int) := by rw [Int.tmod_eq_emod_of_nonneg (by omega), w64 (by omega) (by omega)]; omega
      simp only [laws_markText.l0, e1, e2]
      rw [if_pos (by omega), Option.bind_some, if_pos (by rw [strOfNums_one]; omega)]
theorem laws_markText_ev (n : Int) (hn : n ≤ 4294967295) : ∃ r, Ev (fun k => laws_markText.f k n) r := by
  by_cases c : n ≤ 0
  · exact ⟨_, Ev.some_ fun k => by simp only [laws_markText.f]; rw [if_pos c]⟩
  · obtain ⟨r, h⟩ := laws_markText_l0 10 n.toNat (⟨#[]⟩ : ByteArray) (by omega) (by omega) (by omega) (by show 0 + 10 ≤ 1000; omega)
    rw [Int.toNat_of_nonneg (by omega)] at h
    exact ⟨r, Ev.ofE (EvE.of fun k => by simp only [laws_markText.f]; rw [if_neg c]) h⟩
theorem laws_markStringS_ev (l : List ByteArray) (n : Int) (h0 : 0 ≤ n) (h : n + (l.length : Int) ≤ 4294967295) : ∃ M : List ByteArray, M.length = l.length ∧ Ev (fun k => laws_markStringS.f k l n) (n + (l.length : Int), M) ∧ Ev (fun k => laws_heldStringS.f k M n) (n + (l.length : Int)) := by
  have hmt : ∃ mt : Int → ByteArray, ∀ i, i ≤ 4294967295 → Ev (fun k => laws_markText.f k i) (mt i) :=
    ⟨fun i => if h : i ≤ 4294967295 then Classical.choose (laws_markText_ev i h) else ByteArray.empty, fun i hi => by simp only [dif_pos hi]; exact Classical.choose_spec (laws_markText_ev i hi)⟩
  obtain ⟨mt, hmt⟩ := hmt
  refine ⟨(List.range l.length).map fun i : Nat => mt (n + (i : Int)), by simp, ?_, ?_⟩
  · have key := Ev.scan (fun k (s : Int × List ByteArray) i => laws_markStringS.l0 k s.2 s.1 i) l.length (fun i s => s.1 = n + (i : Int) ∧ s.2.length = l.length) (fun i s => (n + (l.length : Int), s.2.take i ++ ((List.range l.length).drop i).map fun i : Nat => mt (n + (i : Int))))
      (fun s hs => Ev.some_ fun k => by
        simp only [laws_markStringS.l0]; rw [if_neg (by omega), List.drop_eq_nil_of_le (by simp), List.map_nil, List.append_nil, List.take_of_length_le (by omega), hs.1])
      (fun i s hi hs => .inr ⟨(s.1 + 1, s.2.set i (mt s.1)), ⟨by simp only; omega, by simpa using hs.2⟩, by
          rw [List.drop_eq_getElem_cons (i := i) (by simpa using hi), List.map_cons, List.getElem_range, hs.1]
          simp only [Prod.mk.injEq, true_and]
          rw [List.take_add_one, List.getElem?_set_self (by omega), List.take_set_of_le (Nat.le_refl i)]
          simp, (evP (hmt s.1 (by omega))).eve fun k e => by
          simp only [laws_markStringS.l0, e, Option.bind_some]
          rw [if_pos (by omega), if_pos (by omega), w64s hi (by omega), w64 (by omega) (by omega), Int.toNat_natCast]⟩) 0 (n, l) (Nat.zero_le _) ⟨by simp, rfl⟩
    simpa [laws_markStringS.f] using key
  · have key := Ev.scan (fun k (s : Int) i => laws_heldStringS.l0 k ((List.range l.length).map fun i : Nat => mt (n + (i : Int))) s i) l.length (fun i s => s = n + (i : Int)) (fun i s => n + (l.length : Int))
      (fun s hs => Ev.some_ fun k => by simp only [laws_heldStringS.l0, List.length_map, List.length_range]; rw [if_neg (by omega), hs])
      (fun i s hi hs => .inr ⟨s + 1, by omega, rfl, (evP (hmt s (by omega))).eve fun k e => by
          simp only [laws_heldStringS.l0, e, Option.bind_some, List.length_map, List.length_range]
          rw [if_pos (by omega), if_pos (by omega), if_pos (by rw [rdOf_nat]; simp [hi, hs]), w64s hi (by omega), w64 (by omega) (by omega)]⟩) 0 n (Nat.zero_le _) (by simp)
    simpa [laws_heldStringS.f] using key
theorem spec_NumText_ev_nat : ∀ (n : Nat), n ≤ 4294967295 → Ev (fun k => spec_NumText.f k (n : Int)) (nt n) := by
  intro n
  induction n using Nat.strongRecOn with
  | ind n ih =>
    intro hn
    by_cases c : n < 10
    · refine Ev.up (g := fun _ => some (nt n)) (EvE.of fun k => ?_) (Ev.now _)
      simp only [spec_NumText.f, spec_l01Num.f]
      rw [if_pos (by omega), Option.bind_some, if_pos (decide_eq_true (by omega)), if_pos (by omega), nt, if_pos c]
      rw [w64 (by omega) (by omega)]; congr 4; omega
    · have h := ih (n / 10) (by omega) (by omega)
      have hs := nt_size 10 (n / 10) (by omega) (by omega)
      refine Ev.up (g := fun k => spec_NumText.f k ((n / 10 : Nat) : Int) |>.bind fun t => some (t ++ strOfNums [((48 + n % 10 : Nat) : Int)])) ?_ ?_
      · refine (evP h).eve fun k e => ?_
        simp only [spec_NumText.f, spec_l01Num.f]
        rw [if_pos (by omega), Option.bind_some, if_pos (decide_eq_true (by omega)), if_neg (by omega)]
        have e1 : wrap64 (Int.tdiv (n : Int) 10) = ((n / 10 : Nat) : Int) := by rw [Int.tdiv_eq_ediv_of_nonneg (by omega), w64 (by omega) (by omega)]; omega
        have e2 : wrap64 (48 + (Int.tmod (n : Int) 10)) % 256 = ((48 + n % 10 : Nat) : Int) := by rw [Int.tmod_eq_emod_of_nonneg (by omega), w64 (by omega) (by omega)]; omega
        rw [e1, e2]
        simp only [e, Option.bind_some]
        rw [if_pos (by rw [strOfNums_one]; omega)]
      · refine (evP h).ev fun k e => ?_
        simp only [e, Option.bind_some]
        rw [nt.eq_1 n, if_neg c]
theorem spec_NumText_ev (x : Int) : Ev (fun k => spec_NumText.f k x) (numText x) := by
  unfold numText
  split
  · rename_i h
    have := spec_NumText_ev_nat x.toNat (by omega)
    rwa [Int.toNat_of_nonneg h.1] at this
  · rename_i h
    refine Ev.up (g := fun _ => some _) (EvE.of fun k => ?_) (Ev.now _)
    simp only [spec_NumText.f, spec_l01Num.f]
    by_cases c : 0 ≤ x
    · rw [if_pos c, Option.bind_some, if_neg (by simp; omega)]
    · rw [if_neg c, Option.bind_some, if_neg (by simp)]
theorem impl_NumText_l0_ev : ∀ (n : Nat) (s : ByteArray), n ≤ 4294967295 → s.size ≤ 1000 → (nt n).size + s.size ≤ 1000 → Ev (fun k => impl_NumText.l0 k (n : Int) s) (nt n ++ s) := by
  intro n
  induction n using Nat.strongRecOn with
  | ind n ih =>
    intro s hn hs ht
    by_cases c : n < 10
    · refine Ev.up (g := fun _ => some (nt n ++ s)) (EvE.of fun k => ?_) (Ev.now _)
      have e2 : wrap64 (48 + (n : Int)) % 256 = ((48 + n : Nat) : Int) := by rw [w64 (by omega) (by omega)]; omega
      simp only [impl_NumText.l0, e2]
      rw [if_neg (by omega), Option.bind_some, if_pos (by rw [strOfNums_one]; omega), nt, if_pos c]
    · have hnt : nt n = nt (n / 10) ++ strOfNums [((48 + n % 10 : Nat) : Int)] := by rw [nt.eq_1 n, if_neg c]
      have h := ih (n / 10) (by omega) (strOfNums [((48 + n % 10 : Nat) : Int)] ++ s) (by omega) (by rw [hnt, ByteArray.size_append, strOfNums_one] at ht; rw [ByteArray.size_append, strOfNums_one]; omega) (by rw [hnt, ByteArray.size_append] at ht; rw [ByteArray.size_append]; omega)
      rw [← ByteArray.append_assoc, ← hnt] at h
      refine Ev.up (EvE.of fun k => ?_) h
      have e1 : wrap64 (Int.tdiv (n : Int) 10) = ((n / 10 : Nat) : Int) := by rw [Int.tdiv_eq_ediv_of_nonneg (by omega), w64 (by omega) (by omega)]; omega
      have e2 : wrap64 (48 + (Int.tmod (n : Int) 10)) % 256 = ((48 + n % 10 : Nat) : Int) := by rw [Int.tmod_eq_emod_of_nonneg (by omega), w64 (by omega) (by omega)]; omega
      simp only [impl_NumText.l0, e1, e2]
      rw [if_pos (by omega), Option.bind_some, if_pos (by rw [strOfNums_one]; omega)]
theorem impl_NumText_ev (x : Int) : Ev (fun k => impl_NumText.f k x) (numText x) := by
  unfold numText
  split
  · rename_i h
    have hs := nt_size 10 x.toNat (by omega) (by omega)
    have h2 := impl_NumText_l0_ev x.toNat (⟨#[]⟩ : ByteArray) (by omega) (by show 0 ≤ 1000; omega) (by show _ + 0 ≤ 1000; omega)
    rw [Int.toNat_of_nonneg h.1, ba_nil] at h2
    refine Ev.ofE (EvE.of fun k => ?_) h2
    simp only [impl_NumText.f, impl_isNum.f, impl_within.f]
    rw [if_pos (by omega), Option.bind_some, Option.bind_some, if_pos (decide_eq_true (by omega))]
  · rename_i h
    refine Ev.some_ fun k => ?_
    simp only [impl_NumText.f, impl_isNum.f, impl_within.f]
    by_cases c : 0 ≤ x
    · rw [if_pos c, Option.bind_some, Option.bind_some, if_neg (by simp; omega)]
    · rw [if_neg c, Option.bind_some, Option.bind_some, if_neg (by simp)]
def keysL (n : Int) : List ByteArray := (List.range n.toNat).map fun i : Nat => (⟨#[107]⟩ : ByteArray) ++ numText (i : Int)
def loopL (n t : Int) : List ByteArray := (List.replicate t.toNat (keysL n)).flatten
theorem loopL_length (n t : Int) (hn : n ≤ 50) (ht : t ≤ 50) : (loopL n t).length ≤ 1048576 := by
  have h : (loopL n t).length = t.toNat * n.toNat := by simp [loopL, keysL]
  rw [h]
  have := Nat.mul_le_mul (show t.toNat ≤ 50 by omega) (show n.toNat ≤ 50 by omega)
  omega
theorem spec_in (n t x6 : Int) (hn : 0 ≤ n) (hn2 : n ≤ 50) (q : List ByteArray) : ∀ (d j : Nat) (a : List ByteArray), n.toNat - j = d → j ≤ n.toNat → a.length + d ≤ 100000 → Ev (fun k => spec_Loop.l0 k n t (a ++ (keysL n).drop j) (wrap64 (x6 + 1))) q → Ev (fun k => spec_Loop.l1 k n t a x6 (j : Int)) q := by
  intro d
  induction d with
  | zero =>
    intro j a hd hj ha h
    rw [List.drop_eq_nil_of_le (by simp [keysL]; omega), List.append_nil] at h
    exact Ev.up (EvE.of fun k => by simp only [spec_Loop.l1]; rw [if_neg (by omega)]) h
  | succ d ih =>
    intro j a hd hj ha h
    rw [List.drop_eq_getElem_cons (i := j) (by simp [keysL]; omega)] at h
    have h2 := ih (j + 1) (a ++ [(⟨#[107]⟩ : ByteArray) ++ numText (j : Int)]) (by omega) (by omega) (by simp; omega) (by simpa [keysL] using h)
    refine Ev.up ((evP (spec_NumText_ev (j : Int))).eve fun k e => ?_) h2
    have := numText_size (j : Int)
    simp only [spec_Loop.l1, e, Option.bind_some]
    rw [if_pos (by omega), if_pos (by omega), if_pos (by omega), w64 (by omega) (by omega)]; rfl
theorem impl_in (n t x6 : Int) (hn : 0 ≤ n) (hn2 : n ≤ 50) (q : List ByteArray) : ∀ (d j : Nat) (a : List ByteArray), n.toNat - j = d → j ≤ n.toNat → a.length + d ≤ 100000 → Ev (fun k => impl_Loop.l0 k n (a ++ (keysL n).drop j) t (wrap64 (x6 + 1))) q → Ev (fun k => impl_Loop.l1 k n a t x6 n (j : Int)) q := by
  intro d
  induction d with
  | zero =>
    intro j a hd hj ha h
    rw [List.drop_eq_nil_of_le (by simp [keysL]; omega), List.append_nil] at h
    exact Ev.up (EvE.of fun k => by simp only [impl_Loop.l1]; rw [if_neg (by omega)]) h
  | succ d ih =>
    intro j a hd hj ha h
    rw [List.drop_eq_getElem_cons (i := j) (by simp [keysL]; omega)] at h
    have h2 := ih (j + 1) (a ++ [(⟨#[107]⟩ : ByteArray) ++ numText (j : Int)]) (by omega) (by omega) (by simp; omega) (by simpa [keysL] using h)
    refine Ev.up ((evP (impl_NumText_ev (j : Int))).eve fun k e => ?_) h2
    have := numText_size (j : Int)
    simp only [impl_Loop.l1, e, Option.bind_some]
    rw [if_pos (by omega), if_pos (by omega), if_pos (by omega), w64 (by omega) (by omega)]; rfl
theorem keysL_length (n : Int) : (keysL n).length = n.toNat := by simp [keysL]
theorem spec_loop (n t : Int) (hn : 0 ≤ n) (hn2 : n ≤ 50) (ht : 0 ≤ t) (ht2 : t ≤ 50) : Ev (fun k => spec_Loop.l0 k n t [] 0) (loopL n t) := by
  have key := Ev.scan' (fun k a i => spec_Loop.l0 k n t a i) t.toNat (fun i a => a.length = i * n.toNat) (fun i a => a ++ (List.replicate (t.toNat - i) (keysL n)).flatten)
    (fun a ha => Ev.up (g := fun _ => some _) (EvE.of fun k => by simp only [spec_Loop.l0]; rw [if_neg (by omega)]) (by simp; exact Ev.now _))
    (fun i a hi ha => .inr ⟨a ++ keysL n, by rw [List.length_append, ha, keysL_length, Nat.add_mul, Nat.one_mul], by
        rw [show t.toNat - i = (t.toNat - (i + 1)) + 1 by omega, List.replicate_succ]; simp, fun q hq => by
        have hw : wrap64 ((i : Int) + 1) = ((i + 1 : Nat) : Int) := w64s hi (by omega)
        have hm : i * n.toNat ≤ 50 * 50 := Nat.mul_le_mul (by omega) (by omega)
        have := spec_in n t (i : Int) hn hn2 q n.toNat 0 a (by omega) (by omega) (by omega) (by rw [hw]; simpa using hq)
        exact Ev.up (EvE.of fun k => by simp only [spec_Loop.l0]; rw [if_pos (by omega)]; rfl) this⟩) 0 [] (Nat.zero_le _) (by simp)
  simpa [loopL] using key
theorem impl_loop (n t : Int) (hn : 0 ≤ n) (hn2 : n ≤ 50) (ht : 0 ≤ t) (ht2 : t ≤ 50) : Ev (fun k => impl_Loop.l0 k n [] t 0) (loopL n t) := by
  have key := Ev.scan' (fun k a i => impl_Loop.l0 k n a t i) t.toNat (fun i a => a.length = i * n.toNat) (fun i a => a ++ (List.replicate (t.toNat - i) (keysL n)).flatten)
    (fun a ha => Ev.up (g := fun _ => some _) (EvE.of fun k => by simp only [impl_Loop.l0]; rw [if_neg (by omega)]) (by simp; exact Ev.now _))
    (fun i a hi ha => .inr ⟨a ++ keysL n, by rw [List.length_append, ha, keysL_length, Nat.add_mul, Nat.one_mul], by
        rw [show t.toNat - i = (t.toNat - (i + 1)) + 1 by omega, List.replicate_succ]; simp, fun q hq => by
        have hw : wrap64 ((i : Int) + 1) = ((i + 1 : Nat) : Int) := w64s hi (by omega)
        have hm : i * n.toNat ≤ 50 * 50 := Nat.mul_le_mul (by omega) (by omega)
        have := impl_in n t (i : Int) hn hn2 q n.toNat 0 a (by omega) (by omega) (by omega) (by rw [hw]; simpa using hq)
        exact Ev.up (EvE.of fun k => by simp only [impl_Loop.l0]; rw [if_pos (by omega)]; rfl) this⟩) 0 [] (Nat.zero_le _) (by simp)
  simpa [loopL] using key
theorem loop_big (n t : Int) (hn : 0 ≤ n) (hn2 : n ≤ 50) (ht : 0 ≤ t) (ht2 : t ≤ 50) (hp : wrap64 (n * t) ≤ 300) : n * t ≤ 300 := by
  have h1 : n * t ≤ 50 * 50 := Int.mul_le_mul hn2 ht2 ht (by omega)
  have h0 : 0 ≤ n * t := Int.mul_nonneg hn ht
  rwa [w64 (by omega) (by omega)] at hp
theorem FnExactLoop : DFnExactLoop.Pure := by
  intro n t hn ht
  have hb : ∃ w : List ByteArray, w.length ≤ 1048576 ∧ Ev (fun k => spec_Loop.f k n t) w ∧ Ev (fun k => impl_Loop.f k n t) w := by
    by_cases c1 : 1 ≤ n ∧ n ≤ 50
    · by_cases c2 : 1 ≤ t ∧ t ≤ 50
      · by_cases c3 : wrap64 (n * t) > 300
        · refine ⟨[], by simp, Ev.up (g := fun _ => some []) (EvE.of fun k => ?_) (Ev.now _), Ev.up (g := fun _ => some []) (EvE.of fun k => ?_) (Ev.now _)⟩
          · simp only [spec_Loop.f, spec_l01In.f, Option.bind_some]
            rw [if_pos (by omega), Option.bind_some, if_pos (decide_eq_true (by omega)), if_pos (by omega), Option.bind_some, if_pos (decide_eq_true (by omega)), decide_eq_true c3]
            simp only [spec_Loop.j0, if_true]
          · simp only [impl_Loop.f, impl_within.f, Option.bind_some]
            rw [if_pos (by omega), Option.bind_some, if_pos (decide_eq_true (by omega)), if_pos (by omega), Option.bind_some, if_pos (decide_eq_true (by omega)), decide_eq_true c3]
            simp only [impl_Loop.j0, if_true]
        · refine ⟨loopL n t, loopL_length n t (by omega) (by omega), ?_, ?_⟩
          · refine Ev.ofE (g := fun k => spec_Loop.j0 k n t [] false) (EvE.of fun k => ?_) (Ev.up (EvE.of fun k => ?_) (spec_loop n t (by omega) (by omega) (by omega) (by omega)))
            · simp only [spec_Loop.f, spec_l01In.f, Option.bind_some]
              rw [if_pos (by omega), Option.bind_some, if_pos (decide_eq_true (by omega)), if_pos (by omega), Option.bind_some, if_pos (decide_eq_true (by omega)), decide_eq_false c3]
            · simp only [spec_Loop.j0, Bool.false_eq_true, if_false]
          · refine Ev.ofE (g := fun k => impl_Loop.j0 k n t [] false) (EvE.of fun k => ?_) (Ev.up (EvE.of fun k => ?_) (impl_loop n t (by omega) (by omega) (by omega) (by omega)))
            · simp only [impl_Loop.f, impl_within.f, Option.bind_some]
              rw [if_pos (by omega), Option.bind_some, if_pos (decide_eq_true (by omega)), if_pos (by omega), Option.bind_some, if_pos (decide_eq_true (by omega)), decide_eq_false c3]
            · simp only [impl_Loop.j0, Bool.false_eq_true, if_false]
      · refine ⟨[], by simp, Ev.up (g := fun _ => some []) (EvE.of fun k => ?_) (Ev.now _), Ev.up (g := fun _ => some []) (EvE.of fun k => ?_) (Ev.now _)⟩
        · simp only [spec_Loop.f, spec_l01In.f, Option.bind_some]
          rw [if_pos (by omega), Option.bind_some, if_pos (decide_eq_true (by omega))]
          by_cases c4 : t ≥ 1
          · rw [if_pos c4, Option.bind_some, if_neg (by simp; omega)]; simp only [spec_Loop.j0, if_true]
          · rw [if_neg c4, Option.bind_some, if_neg (by simp)]; simp only [spec_Loop.j0, if_true]
        · simp only [impl_Loop.f, impl_within.f, Option.bind_some]
          rw [if_pos (by omega), Option.bind_some, if_pos (decide_eq_true (by omega))]
          by_cases c4 : t ≥ 1
          · rw [if_pos c4, Option.bind_some, if_neg (by simp; omega)]; simp only [impl_Loop.j0, if_true]
          · rw [if_neg c4, Option.bind_some, if_neg (by simp)]; simp only [impl_Loop.j0, if_true]
    · refine ⟨[], by simp, Ev.up (g := fun _ => some []) (EvE.of fun k => ?_) (Ev.now _), Ev.up (g := fun _ => some []) (EvE.of fun k => ?_) (Ev.now _)⟩
      · simp only [spec_Loop.f, spec_l01In.f, Option.bind_some]
        by_cases c4 : n ≥ 1
        · rw [if_pos c4, Option.bind_some, if_neg (by simp; omega)]; simp only [spec_Loop.j0, if_true]
        · rw [if_neg c4, Option.bind_some, if_neg (by simp)]; simp only [spec_Loop.j0, if_true]
      · simp only [impl_Loop.f, impl_within.f, Option.bind_some]
        by_cases c4 : n ≥ 1
        · rw [if_pos c4, Option.bind_some, if_neg (by simp; omega)]; simp only [impl_Loop.j0, if_true]
        · rw [if_neg c4, Option.bind_some, if_neg (by simp)]; simp only [impl_Loop.j0, if_true]
  obtain ⟨w, hw, h1, h2⟩ := hb
  obtain ⟨M, m1, hM, hH⟩ := laws_markStringS_ev w 1 (by omega) (by omega)
  obtain ⟨k, e1, e2, e3, e4, e5⟩ := (evA h1 (evA h2 (evA hM (evA hH (evP (laws_eqStringS_ev w (by omega))))))).ex
  exact ⟨k, by simp only [laws_FnExactLoop.f, e1, e2, e3, e4, e5, Option.bind_some, if_true, neg1, if_false]⟩
end Go.Proofs.Ytmebfingnfhmlaa.Pure
